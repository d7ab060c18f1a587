/- Base library: how Go data read in memory (types as records of laws), frames, small run facts. No condition. -/
import Derived.Test.YtfgnjcodilebeaaProg
import Derived.WalkKit
import Derived.WalkSpells
import Derived.WalkLawsBesides
import Derived.Lib.Hide
import Derived.BigQuiet
import Derived.Deep.QuietTactic
import Derived.Deep.RegionHeld3
import Derived.StillTailTactics
--plain: Canon
import Derived.Test.YtfgnjcodilebeaaPCanon
namespace Go.Proofs.Ytfgnjcodilebeaa
open Go.RowKit

/-- How data of a Lean type lie in cells: 'rd own w cs x F': the cells cs read as x in w, through the blocks F; own: those cells may be written. -/
structure Ty (α : Type) where
  n : Nat
  rd : Bool → World → List Value → α → List Nat → Prop
  pos : 0 < n
  len : ∀ {o w cs x F}, rd o w cs x F → cs.length = n
  one : ∀ {o w cs x F}, rd o w cs x F → ∀ u ∈ cs, u.oneCell' = true
  keep : ∀ {o w w' cs x F}, rd o w cs x F → (∀ b ∈ F, w'.heap[b]? = w.heap[b]?) → rd o w' cs x F
  lt : ∀ {o w cs x F}, rd o w cs x F → ∀ b ∈ F, b < w.heap.size
  weak : ∀ {w cs x F}, rd true w cs x F → rd false w cs x F

def tInt : Ty Int where
  n := 1
  pos := Nat.one_pos
  rd _ _ cs x F := cs = [.int .i64 x] ∧ F = []
  len := by rintro _ _ _ _ _ ⟨rfl, rfl⟩; rfl
  one := by rintro _ _ _ _ _ ⟨rfl, rfl⟩ u hu; simp at hu; subst hu; rfl
  keep := fun h _ => h
  lt := by rintro _ _ _ _ _ ⟨rfl, rfl⟩ b hb; simp at hb
  weak := fun h => h

def tBool : Ty Bool where
  n := 1
  pos := Nat.one_pos
  rd _ _ cs x F := cs = [.bool x] ∧ F = []
  len := by rintro _ _ _ _ _ ⟨rfl, rfl⟩; rfl
  one := by rintro _ _ _ _ _ ⟨rfl, rfl⟩ u hu; simp at hu; subst hu; rfl
  keep := fun h _ => h
  lt := by rintro _ _ _ _ _ ⟨rfl, rfl⟩ b hb; simp at hb
  weak := fun h => h

def tStr : Ty ByteArray where
  n := 1
  pos := Nat.one_pos
  rd _ _ cs x F := cs = [.string x] ∧ F = [] ∧ x.size ≤ 9223372036854775807
  len := by rintro _ _ _ _ _ ⟨rfl, rfl, _⟩; rfl
  one := by rintro _ _ _ _ _ ⟨rfl, rfl, _⟩ u hu; simp at hu; subst hu; rfl
  keep := fun h _ => h
  lt := by rintro _ _ _ _ _ ⟨rfl, rfl, _⟩ b hb; simp at hb
  weak := fun h => h

def tPair {α β : Type} (s : Ty α) (t : Ty β) : Ty (α × β) where
  n := s.n + t.n
  pos := Nat.lt_of_lt_of_le s.pos (Nat.le_add_right _ _)
  rd o w cs x F := ∃ c1 c2 F1 F2, cs = c1 ++ c2 ∧ F = F1 ++ F2 ∧ s.rd o w c1 x.1 F1 ∧ t.rd o w c2 x.2 F2
  len := by rintro _ _ _ _ _ ⟨c1, c2, F1, F2, rfl, rfl, h1, h2⟩; rw [List.length_append, s.len h1, t.len h2]
  one := by
    rintro _ _ _ _ _ ⟨c1, c2, F1, F2, rfl, rfl, h1, h2⟩ u hu
    rcases List.mem_append.1 hu with h | h
    · exact s.one h1 u h
    · exact t.one h2 u h
  keep := by
    rintro _ _ _ _ _ _ ⟨c1, c2, F1, F2, rfl, rfl, h1, h2⟩ hk
    exact ⟨c1, c2, F1, F2, rfl, rfl, s.keep h1 fun b hb => hk b (List.mem_append_left _ hb), t.keep h2 fun b hb => hk b (List.mem_append_right _ hb)⟩
  lt := by
    rintro _ _ _ _ _ ⟨c1, c2, F1, F2, rfl, rfl, h1, h2⟩ b hb
    rcases List.mem_append.1 hb with h | h
    · exact s.lt h1 b h
    · exact t.lt h2 b h
  weak := by
    rintro _ _ _ _ ⟨c1, c2, F1, F2, rfl, rfl, h1, h2⟩
    exact ⟨c1, c2, F1, F2, rfl, rfl, s.weak h1, t.weak h2⟩

/-- A type by way of another one. -/
def Ty.via {α β : Type} (t : Ty β) (f : α → β) : Ty α where
  n := t.n
  pos := t.pos
  rd o w cs x F := t.rd o w cs (f x) F
  len := t.len
  one := t.one
  keep := t.keep
  lt := t.lt
  weak := t.weak

/-- The address of a slice (any one where there is none). -/
def adr (ao : Option Addr) : Addr := ao.getD default
@[simp] theorem adr_some (a : Addr) : adr (some a) = a := rfl

theorem add_block (a : Addr) (m : Nat) : (a.add m).block = a.block := by unfold Addr.add; split <;> rfl

/-- A slice: the elements one behind the other; F: its block, then those of the elements. -/
def tSl {α : Type} (t : Ty α) : Ty (List α) where
  n := 1
  pos := Nat.one_pos
  rd o w cs l F := ∃ ao cap, cs = [.slice ao l.length cap] ∧ l.length ≤ 9223372036854775807 ∧ ∃ Fs : Nat → List Nat,
    F = (if l.length = 0 then [] else (adr ao).block :: (List.range l.length).flatMap Fs) ∧
    (∀ k (h : k < l.length), ∃ ck, ao.isSome = true ∧ (∀ j (hj : j < ck.length), w.cell? ((adr ao).add (k * t.n + j)) = some ck[j] ∧ (o = true → w.frozen? ((adr ao).add (k * t.n + j)) = false)) ∧ t.rd o w ck l[k] (Fs k))
  len := by rintro _ _ _ _ _ ⟨ao, cap, rfl, _⟩; rfl
  one := by rintro _ _ _ _ _ ⟨ao, cap, rfl, _⟩ u hu; simp at hu; subst hu; rfl
  keep := by
    rintro o w w' cs l F ⟨ao, cap, rfl, hl, Fs, rfl, h⟩ hk
    refine ⟨ao, cap, rfl, hl, Fs, rfl, fun k hkl => ?_⟩
    obtain ⟨ck, hs, hc, hr⟩ := h k hkl
    have hne : l.length ≠ 0 := by omega
    simp only [if_neg hne] at hk
    have hb := hk (adr ao).block (List.mem_cons_self ..)
    refine ⟨ck, hs, fun j hj => ?_, t.keep hr fun b hb => hk b (List.mem_cons_of_mem _ (List.mem_flatMap.2 ⟨k, List.mem_range.2 hkl, hb⟩))⟩
    rw [World.cell?_of_block (w := w) (by rw [add_block]; exact hb), World.frozen?_of_block (w := w) (by rw [add_block]; exact hb)]
    exact hc j hj
  lt := by
    rintro o w cs l F ⟨ao, cap, rfl, hl, Fs, rfl, h⟩ b hb
    split at hb
    · simp at hb
    · rename_i hne
      rcases List.mem_cons.1 hb with rfl | hb
      · obtain ⟨ck, hs, hc, hr⟩ := h 0 (by omega)
        have hp := t.pos
        have hn := t.len hr
        have := World.block_lt_of_cell? w _ (hc 0 (by omega)).1
        rwa [add_block] at this
      · obtain ⟨k, hk, hb⟩ := List.mem_flatMap.1 hb
        obtain ⟨ck, hs, hc, hr⟩ := h k (List.mem_range.1 hk)
        exact t.lt hr b hb
  weak := by
    rintro w cs l F ⟨ao, cap, rfl, hl, Fs, rfl, h⟩
    refine ⟨ao, cap, rfl, hl, Fs, rfl, fun k hkl => ?_⟩
    obtain ⟨ck, hs, hc, hr⟩ := h k hkl
    exact ⟨ck, hs, fun j hj => ⟨(hc j hj).1, fun h => by cases h⟩, t.weak hr⟩

abbrev tInts : Ty (List Int) := tSl tInt
abbrev tIntss : Ty (List (List Int)) := tSl tInts

/-- v reads as x (one cell). -/
def Rd {α : Type} (t : Ty α) (w : World) (v : Value) (x : α) : Prop := ∃ F, t.rd false w [v] x F
abbrev RI := Rd tInts
abbrev RII := Rd tIntss

theorem Rd.keep {α : Type} {t : Ty α} {w w' : World} {v : Value} {x : α} (h : Rd t w v x) (hb : Below w.heap.size w w') : Rd t w' v x :=
  let ⟨F, h⟩ := h; ⟨F, t.keep h fun b hF => hb.block b (t.lt h b hF)⟩

/-- The same from an elder world on. -/
theorem Rd.below {α : Type} {t : Ty α} {w w' : World} {v : Value} {x : α} {B : Nat} (h : Rd t w v x) (hb : Below B w w') (hB : w.heap.size ≤ B) : Rd t w' v x :=
  h.keep (hb.mono hB)

theorem Rd.sl {α : Type} {t : Ty α} {w : World} {v : Value} {l : List α} (h : Rd (tSl t) w v l) (hn : t.n = 1) :
    ∃ ao cap, v = .slice ao l.length cap ∧ l.length ≤ 9223372036854775807 ∧ (0 < l.length → ao.isSome = true) ∧
      ∀ k (hk : k < l.length), ∃ u, w.cell? ((adr ao).add k) = some u ∧ Rd t w u l[k] := by
  obtain ⟨F, ao, cap, hv, hl, Fs, rfl, hc⟩ := h
  refine ⟨ao, cap, by simpa using hv, hl, fun hp => (hc 0 hp).choose_spec.1, fun k hk => ?_⟩
  obtain ⟨ck, hs, hj, hr⟩ := hc k hk
  have hlen := t.len hr
  rw [hn] at hlen hj
  match ck, hlen with
  | [u], _ => exact ⟨u, by simpa using (hj 0 (by simp)).1, _, hr⟩

theorem RI.opn {w : World} {v : Value} {l : List Int} (h : RI w v l) :
    ∃ ao cap, v = .slice ao l.length cap ∧ l.length ≤ 9223372036854775807 ∧ (0 < l.length → ao.isSome = true) ∧
      ∀ k (hk : k < l.length), w.cell? ((adr ao).add k) = some (.int .i64 l[k]) := by
  obtain ⟨ao, cap, rfl, hl, hs, hc⟩ := Rd.sl h rfl
  refine ⟨ao, cap, rfl, hl, hs, fun k hk => ?_⟩
  obtain ⟨u, hu, F, hr⟩ := hc k hk
  obtain ⟨hr, rfl⟩ := hr
  simp at hr
  subst hr
  exact hu

/-- Indexing: the rule that the walk uses. -/
theorem idx_run {P : Program} {T : TypeId} (hT : P.underlying T = some (.slice (P.elem T))) (sz : Nat) (hsz : ∀ W, (sizeOf (P.elem T)).run P W = .ok sz W)
    (ao : Option Addr) (n cap : Nat) (hs : 0 < n → ao.isSome = true) (W : World) (i : Int) (h0 : 0 ≤ i) (h1 : i < n) :
    (Instr.indexAt T (.slice ao n cap) (.int .i64 i)).run P W = .ok (.pointer (some ((adr ao).add (i.toNat * sz)))) W := by
  obtain ⟨a, rfl⟩ := Option.isSome_iff_exists.1 (hs (by omega))
  rw [run_indexAt_slice _ _ _ _ _ _ _ hT, if_pos ⟨h0, h1⟩, hsz]
  rfl
theorem idx_run1 {P : Program} {T : TypeId} (hT : P.underlying T = some (.slice (P.elem T))) (hsz : ∀ W, (sizeOf (P.elem T)).run P W = .ok 1 W)
    (ao : Option Addr) (n cap : Nat) (hs : 0 < n → ao.isSome = true) (W : World) (i : Int) (h0 : 0 ≤ i) (h1 : i < n) :
    (Instr.indexAt T (.slice ao n cap) (.int .i64 i)).run P W = .ok (.pointer (some ((adr ao).add i.toNat))) W := by
  rw [idx_run hT 1 hsz ao n cap hs W i h0 h1, Nat.mul_one]

theorem Rd.drewN {α : Type} {t : Ty α} {w : World} {v : Value} {x : α} (h : Rd t w v x) (n : Nat) : Rd t (w.drewN n) v x :=
  let ⟨F, h⟩ := h; ⟨F, t.keep h fun _ _ => rfl⟩
theorem Rd.drew {α : Type} {t : Ty α} {w : World} {v : Value} {x : α} (h : Rd t w v x) : Rd t w.drew v x :=
  let ⟨F, h⟩ := h; ⟨F, t.keep h fun _ _ => rfl⟩
/-- A callee that leaves the world as it is, met inside a quiet region. -/
theorem quiet_c {P : Program} {f : FuncId} {args : Array Value} {w : World} {n : Nat} {v : Value}
    (h : Calls P f args (w.drewN n) fun e w' => e = .returned v ∧ w.drewN n = w') : Calls P f args (w.drewN n) fun e w'' => e = .returned v ∧ ∃ m, w'' = w.drewN m :=
  h.mono fun _ _ ⟨he, hm⟩ => ⟨he, n, hm.symm⟩

theorem ret_bool {a b : Bool} (h : a = b) : Ending.returned (.bool a) = .returned (.bool b) := by rw [h]
theorem ret_int {a b : Int} (h : a = b) : Ending.returned (.int .i64 a) = .returned (.int .i64 b) := by rw [h]

theorem bel_drewN {B : Nat} {a w : World} (h : Below B a w) (n : Nat) : Below B a (w.drewN n) := h.trans ⟨rfl, rfl, rfl, Nat.le_refl _, fun _ _ => rfl⟩
theorem bel_box (w : World) (o : Obj) : Below w.heap.size w (w.alloc o) := (Below.refl _ _).alloc (Nat.le_refl _) _
theorem bel_boxN (w : World) (o : Obj) (n : Nat) : Below w.heap.size w ((w.alloc o).drewN n) := bel_drewN (bel_box _ _) _

theorem bne_dec (a b : Int) : (a != b) = !decide (a = b) := by by_cases h : a = b <;> simp [h]
theorem beq_dec (a b : Int) : (a == b) = decide (a = b) := by by_cases h : a = b <;> simp [h]

/-- What the walk wants of a world behind a call: all old cells, all old marks, the size. -/
theorem bel_facts {W w1 : World} (hb : Below W.heap.size W w1) : (∀ p, (W.cell? p).isSome = true → w1.cell? p = W.cell? p) ∧ (∀ b o, b < W.heap.size → w1.frozen? ⟨b, o, none⟩ = W.frozen? ⟨b, o, none⟩) ∧ W.heap.size ≤ w1.heap.size :=
  ⟨CellS.of hb, fun b o h => hb.frozen (p := ⟨b, o, none⟩) h, hb.size⟩
/-! rows of the call's own -/
def Row (w : World) (g : Nat) (E : TypeId) (cs : Array Value) : Prop := w.heap[g]? = some (.cells cs E (0, 0))
section
variable {w w' : World} {g j : Nat} {E : TypeId} {cs : Array Value} {u : Value}
theorem Row.cell (h : Row w g E cs) (j : Nat) : w.cell? ⟨g, j, none⟩ = cs[j]? := cell_of_row w g j cs E (0, 0) h
theorem Row.cellS (h : Row w g E cs) (hj : cs[j]? = some u) : w.cell? ⟨g, j, none⟩ = some u := (h.cell j).trans hj
theorem Row.frozen (h : Row w g E cs) (j : Nat) : w.frozen? ⟨g, j, none⟩ = false := frozen_of_row w g j cs E h
theorem Row.set (h : Row w g E cs) (j : Nat) (u : Value) : Row (w.setCell ⟨g, j, none⟩ u) g E (cs.setIfInBounds j u) := heap_setCell_same w g j cs E u h
theorem Row.lt (h : Row w g E cs) : g < w.heap.size := (Array.getElem?_eq_some_iff.1 h).1
theorem Row.keep (h : Row w g E cs) (hk : w'.heap[g]? = w.heap[g]?) : Row w' g E cs := hk.trans h
theorem Row.below {B : Nat} (h : Row w g E cs) (hb : Below B w w') (hg : g < B) : Row w' g E cs := (hb.block g hg).trans h
theorem Row.later (h : Row w g E cs) (hb : Below w.heap.size w w') : Row w' g E cs := h.below hb h.lt
theorem Row.new (w : World) (cs : Array Value) (E : TypeId) : Row (w.alloc (.cells cs E)) w.heap.size E cs := heap_alloc_new w _
theorem Row.other (h : Row w g E cs) {a : Addr} (ha : a.block ≠ g) (u : Value) : Row (w.setCell a u) g E cs := by
  unfold Row at *; rw [Below.heap_setCell _ _ _ _ (Ne.symm ha)]; exact h
theorem row_of_owns {base n : Nat} {xs : List Value} (h : w.ownsRow base E 1 (.slice (some ⟨g, 0, none⟩) n n) n xs) : Row w g E xs.toArray := by
  obtain ⟨hl, h⟩ := h
  rcases h with ⟨h, _⟩ | ⟨g', cap, cur, hv, _, hh, hn, _, hs, ht⟩
  · cases h
  · simp only [Value.slice.injEq, Option.some.injEq, Addr.mk.injEq, and_true, true_and] at hv
    obtain ⟨rfl, rfl⟩ := hv
    rw [List.take_of_length_le (by simp; omega)] at ht
    rw [← ht]
    exact hh
/-- A row that the call has written reads as a slice. -/
theorem rd_of_row {α : Type} {t : Ty α} (ht : t.n = 1) {o : Bool} (h : Row w g E cs) (cap : Nat) (l : List α) (hl : l.length ≤ 9223372036854775807) (Fs : Nat → List Nat)
    (hc : ∀ k (hk : k < l.length), ∃ u, cs[k]? = some u ∧ t.rd o w [u] l[k] (Fs k)) :
    (tSl t).rd o w [.slice (some ⟨g, 0, none⟩) l.length cap] l (if l.length = 0 then [] else g :: (List.range l.length).flatMap Fs) := by
  refine ⟨_, cap, rfl, hl, Fs, rfl, fun k hk => ?_⟩
  obtain ⟨u, hu, hr⟩ := hc k hk
  refine ⟨[u], rfl, fun j hj => ?_, hr⟩
  have hj0 : j = 0 := by simpa using hj
  subst hj0
  have ha : (adr (some (⟨g, 0, none⟩ : Addr))).add (k * t.n + 0) = ⟨g, k, none⟩ := by
    rw [ht]; simp only [adr_some, Nat.mul_one, Nat.add_zero]
    unfold Addr.add; split
    · subst_vars; rfl
    · simp
  rw [ha]
  exact ⟨by rw [h.cell, hu]; rfl, fun _ => h.frozen k⟩
end

theorem Row.alloc {w : World} {g : Nat} {E : TypeId} {cs : Array Value} (h : Row w g E cs) (o : Obj) : Row (w.alloc o) g E cs := h.later (bel_box _ _)
theorem heap_sz (w : World) (o : Obj) : (w.alloc o).heap.size = w.heap.size + 1 := by simp
section
variable {w w1 : World} {c1 c2 c3 c4 : Array Value} {E1 E2 E3 E4 : TypeId}
theorem rows1 (h : Below (w.alloc (.cells c1 E1)).heap.size (w.alloc (.cells c1 E1)) w1) : Row w1 w.heap.size E1 c1 ∧ w.heap.size + 1 ≤ w1.heap.size ∧ Below w.heap.size w w1 :=
  ⟨(Row.new _ _ _).later h, by have := h.size; rwa [heap_sz] at this, (bel_box _ _).trans (h.mono (by rw [heap_sz]; omega))⟩
theorem rows2 (h : Below ((w.alloc (.cells c1 E1)).alloc (.cells c2 E2)).heap.size ((w.alloc (.cells c1 E1)).alloc (.cells c2 E2)) w1) :
    Row w1 w.heap.size E1 c1 ∧ Row w1 (w.heap.size + 1) E2 c2 ∧ w.heap.size + 1 + 1 ≤ w1.heap.size ∧ Below w.heap.size w w1 := by
  obtain ⟨h2, h3, h4⟩ := rows1 h
  have h1 := (Row.new w c1 E1).later h4
  rw [heap_sz] at h2 h3
  exact ⟨h1, h2, h3, (bel_box _ _).trans (h4.mono (by rw [heap_sz]; omega))⟩
theorem rows3 (h : Below (((w.alloc (.cells c1 E1)).alloc (.cells c2 E2)).alloc (.cells c3 E3)).heap.size (((w.alloc (.cells c1 E1)).alloc (.cells c2 E2)).alloc (.cells c3 E3)) w1) :
    Row w1 w.heap.size E1 c1 ∧ Row w1 (w.heap.size + 1) E2 c2 ∧ Row w1 (w.heap.size + 1 + 1) E3 c3 ∧ w.heap.size + 1 + 1 + 1 ≤ w1.heap.size ∧ Below w.heap.size w w1 := by
  obtain ⟨h2, h3, h4, h5⟩ := rows2 h
  have h1 := (Row.new w c1 E1).later h5
  rw [heap_sz] at h2 h3 h4
  exact ⟨h1, h2, h3, h4, (bel_box _ _).trans (h5.mono (by rw [heap_sz]; omega))⟩
theorem rows4 (h : Below ((((w.alloc (.cells c1 E1)).alloc (.cells c2 E2)).alloc (.cells c3 E3)).alloc (.cells c4 E4)).heap.size ((((w.alloc (.cells c1 E1)).alloc (.cells c2 E2)).alloc (.cells c3 E3)).alloc (.cells c4 E4)) w1) :
    Row w1 w.heap.size E1 c1 ∧ Row w1 (w.heap.size + 1) E2 c2 ∧ Row w1 (w.heap.size + 1 + 1) E3 c3 ∧ Row w1 (w.heap.size + 1 + 1 + 1) E4 c4 ∧ w.heap.size + 1 + 1 + 1 + 1 ≤ w1.heap.size ∧ Below w.heap.size w w1 := by
  obtain ⟨h2, h3, h4, h5, h6⟩ := rows3 h
  have h1 := (Row.new w c1 E1).later h6
  rw [heap_sz] at h2 h3 h4 h5
  exact ⟨h1, h2, h3, h4, h5, (bel_box _ _).trans (h6.mono (by rw [heap_sz]; omega))⟩
end
theorem bel_two (w : World) (o1 o2 : Obj) : Below w.heap.size w ((w.alloc o1).alloc o2) := (bel_box _ _).trans ((bel_box _ _).mono (by rw [heap_sz]; omega))
theorem bel_three (w : World) (o1 o2 o3 : Obj) : Below w.heap.size w (((w.alloc o1).alloc o2).alloc o3) := (bel_box _ _).trans ((bel_two _ _ _).mono (by rw [heap_sz]; omega))
theorem bel_four (w : World) (o1 o2 o3 o4 : Obj) : Below w.heap.size w ((((w.alloc o1).alloc o2).alloc o3).alloc o4) := (bel_box _ _).trans ((bel_three _ _ _ _).mono (by rw [heap_sz]; omega))

/-- v reads as x, through blocks from B on, no block twice; they may be written. -/
def Own {α : Type} (t : Ty α) (w : World) (v : Value) (x : α) (B : Nat) : Prop := ∃ F, t.rd true w [v] x F ∧ F.Nodup ∧ ∀ b ∈ F, B ≤ b
theorem Own.rd {α : Type} {t : Ty α} {w : World} {v : Value} {x : α} {B : Nat} (h : Own t w v x B) : Rd t w v x := let ⟨F, h, _⟩ := h; ⟨F, t.weak h⟩
theorem Own.keep {α : Type} {t : Ty α} {w w' : World} {v : Value} {x : α} {B : Nat} (h : Own t w v x B) (hb : Below w.heap.size w w') : Own t w' v x B :=
  let ⟨F, h, h2⟩ := h; ⟨F, t.keep h fun b hF => hb.block b (t.lt h b hF), h2⟩
theorem Own.keepB {α : Type} {t : Ty α} {w w' : World} {v : Value} {x : α} {B : Nat} (h : Own t w v x B) (hb : ∀ b, B ≤ b → w'.heap[b]? = w.heap[b]?) : Own t w' v x B :=
  let ⟨F, h, h2⟩ := h; ⟨F, t.keep h fun b hF => hb b (h2.2 b hF), h2⟩
theorem Own.setCell {α : Type} {t : Ty α} {w : World} {v : Value} {x : α} {B : Nat} (h : Own t w v x B) {a : Addr} (ha : a.block < B) (u : Value) : Own t (w.setCell a u) v x B :=
  h.keepB fun b hb => Below.heap_setCell _ _ _ _ (by omega)
theorem Own.mono {α : Type} {t : Ty α} {w : World} {v : Value} {x : α} {B B' : Nat} (h : Own t w v x B) (hB : B' ≤ B) : Own t w v x B' :=
  let ⟨F, h, h1, h2⟩ := h; ⟨F, h, h1, fun b hb => Nat.le_trans hB (h2 b hb)⟩

theorem Own.shape {α : Type} {t : Ty α} {w : World} {v : Value} {l : List α} {B : Nat} (h : Own (tSl t) w v l B) : ∃ ao cap, v = .slice ao l.length cap := by
  obtain ⟨F, ⟨ao, cap, hv, _⟩, _⟩ := h
  exact ⟨ao, cap, by simpa using hv⟩
theorem info_int : (Try.prog.info? 3).map (fun i => (i.zero, i.size, i.bytes)) = some (some (.int .i64 0), 1, 8) := by kernel_rfl
theorem info_ints : (Try.prog.info? 31).map (fun i => (i.zero, i.size, i.bytes)) = some (some (.slice none 0 0), 1, 24) := by kernel_rfl
theorem uInts : Try.prog.underlying 31 = some (.slice 3) := by kernel_rfl
theorem uIntss : Try.prog.underlying 22 = some (.slice 31) := by kernel_rfl
theorem eInts : Try.prog.underlying 31 = some (.slice (Try.prog.elem 31)) := by kernel_rfl
theorem eIntss : Try.prog.underlying 22 = some (.slice (Try.prog.elem 22)) := by kernel_rfl
theorem sInts (W : World) : (sizeOf (Try.prog.elem 31)).run Try.prog W = .ok 1 W := by kernel_rfl
theorem sIntss (W : World) : (sizeOf (Try.prog.elem 22)).run Try.prog W = .ok 1 W := by kernel_rfl

/-- what 'make' and then a filling up to k leaves in a row -/
def fillRow (z : Value) (xs : List Value) (n k : Nat) : Array Value := (xs.take k ++ List.replicate (n - k) z).toArray
theorem fillRow_get {z : Value} {xs : List Value} {n k : Nat} (hx : xs.length = n) (hk : k < n) : (fillRow z xs n k)[k]? = some z := by
  unfold fillRow
  rw [List.getElem?_toArray, List.getElem?_append_right (by simp; omega), List.length_take, Nat.min_eq_left (by omega), List.getElem?_replicate, if_pos (by omega)]
theorem fillRow_set {z : Value} {xs : List Value} {n k : Nat} (hx : xs.length = n) (hk : k < n) : (fillRow z xs n k).setIfInBounds k (xs[k]'(by omega)) = fillRow z xs n (k + 1) := by
  unfold fillRow
  rw [List.setIfInBounds_toArray]
  congr 1
  obtain ⟨m, hm⟩ : ∃ m, n - k = m + 1 := ⟨n - k - 1, by omega⟩
  have hm' : n - (k + 1) = m := by omega
  rw [hm, hm', List.set_append_right _ _ (by simp; omega), List.length_take, Nat.min_eq_left (by omega), Nat.sub_self, List.replicate_succ, List.set_cons_zero,
    List.take_succ_eq_append_getElem (by omega), List.append_assoc]
  rfl
theorem fillRow_zero {z : Value} {xs : List Value} {n : Nat} : fillRow z xs n 0 = (List.replicate n z).toArray := by simp [fillRow]
theorem fillRow_all {z : Value} {xs : List Value} {n : Nat} (hx : xs.length = n) : fillRow z xs n n = xs.toArray := by
  unfold fillRow; rw [Nat.sub_self, List.take_of_length_le (by omega)]; simp
theorem fillRow_lt {z : Value} {xs : List Value} {n k j : Nat} (hx : xs.length = n) (hk : k ≤ n) (hj : j < k) : (fillRow z xs n k)[j]? = xs[j]? := by
  unfold fillRow
  rw [List.getElem?_toArray, List.getElem?_append_left (by simp; omega), List.getElem?_take, if_pos hj]
theorem madeCells1 (z : Value) (n : Nat) : (madeCells #[z] (n * 1)).toList = List.replicate n z := by
  refine List.ext_getElem (by simp [madeCells]) fun i h1 h2 => ?_
  simp [madeCells, Nat.mod_one]

/-- 'make([]T, n)' of one-cell elements, in the walk: 'at_make; refine mk_row (T) (E) (z) .. ; intro w1 hrow hb'. -/
theorem mk_row {P : Program} {w : World} {ops : Array Oper} {rest : List Oper} {o : Oper} {a : Act} {Q : Exit → Act → World → Prop} {l c : Operand} (T E : TypeId) (z : Value) (by_ : Nat) (n : Nat)
    (hg : o.guard = none) (hop : o.op = Op.makeSlice T l c) (hT : P.underlying T = some (.slice E)) (hE : (P.info? E).map (fun i => (i.zero, i.size, i.bytes)) = some (some z, 1, by_)) (hz : z.cells = #[z])
    (hl : a.eval l = .int .i64 (n : Int)) (hc : a.eval c = .int .i64 (n : Int)) (b2 : by_ * n ≤ 281474976710656) (b3 : n ≤ 9223372036854775807)
    (hK : ∀ w', Row w' w.heap.size E (List.replicate n z).toArray → Below w.heap.size w w' → wpList P ops Q rest (a.put o.dst (.slice (some ⟨w.heap.size, 0, none⟩) n n)) w') :
    wpList P ops Q (o :: rest) a w := by
  obtain ⟨i0, hi, hz0, hz1, hz2⟩ := info_parts hE
  refine wpList_make_full w hg l c T hop w.heap.size E i0 z 1 hT hi hz0 hz1 .i64 .i64 n n n hl hc rfl rfl (by rw [hz2]; exact b2) (by unfold maxLen; omega) (Nat.le_refl _) fun w' hown hgrow => ?_
  rw [hz, madeCells1] at hown
  exact hK w' (row_of_owns hown) ((Below.refl _ _).grown hgrow (Nat.le_refl _) (by simp))

theorem own_ints {w : World} {g : Nat} {E : TypeId} {xs : List Value} {l : List Int} (cap : Nat) (h : Row w g E xs.toArray) (hx : xs = l.map (Value.int .i64)) (hl : l.length ≤ 9223372036854775807) {B : Nat} (hB : B ≤ g) :
    Own tInts w (.slice (some ⟨g, 0, none⟩) l.length cap) l B := by
  subst hx
  refine ⟨_, rd_of_row rfl h cap l hl (fun _ => []) fun k hk => ⟨.int .i64 l[k], by simp [hk], rfl, rfl⟩, ?_, ?_⟩
  · split
    · exact List.nodup_nil
    · rw [show (List.range l.length).flatMap (fun _ => ([] : List Nat)) = [] from List.flatMap_eq_nil_iff.2 fun _ _ => rfl]
      simp
  · intro b hb
    split at hb
    · cases hb
    · simp at hb; omega

/-! lists that the call itself builds -/
/-- The cells xs read as l, each element through blocks of its own; F: these, from B on. -/
structure Elems {α : Type} (t : Ty α) (w : World) (xs : List Value) (l : List α) (B : Nat) (F : List Nat) : Prop where
  len : xs.length = l.length * t.n
  fs : ∃ Fs : Nat → List Nat, F = (List.range l.length).flatMap Fs ∧ ∀ k (hk : k < l.length), t.rd true w ((xs.drop (k * t.n)).take t.n) l[k] (Fs k)
  nodup : F.Nodup
  low : ∀ b ∈ F, B ≤ b
theorem flatMap_congr' {α β : Type} {l : List α} {f g : α → List β} (h : ∀ x ∈ l, f x = g x) : l.flatMap f = l.flatMap g := by
  rw [List.flatMap_def, List.flatMap_def, List.map_congr_left h]
section
variable {α : Type} {t : Ty α} {w w' : World} {xs : List Value} {l : List α} {B g : Nat} {F : List Nat} {E : TypeId}

theorem Elems.nil (t : Ty α) (w : World) (B : Nat) : Elems t w [] [] B [] := ⟨by simp, ⟨fun _ => [], rfl, fun k hk => absurd hk (Nat.not_lt_zero k)⟩, List.nodup_nil, fun _ h => by cases h⟩
theorem Elems.lt (h : Elems t w xs l B F) : ∀ b ∈ F, b < w.heap.size := by
  obtain ⟨Fs, rfl, hr⟩ := h.fs
  intro b hb
  obtain ⟨k, hk, hb⟩ := List.mem_flatMap.1 hb
  exact t.lt (hr k (List.mem_range.1 hk)) b hb
theorem Elems.keepF (h : Elems t w xs l B F) (hk : ∀ b ∈ F, w'.heap[b]? = w.heap[b]?) : Elems t w' xs l B F := by
  refine ⟨h.len, ?_, h.nodup, h.low⟩
  obtain ⟨Fs, rfl, hr⟩ := h.fs
  exact ⟨Fs, rfl, fun k hkl => t.keep (hr k hkl) fun b hb => hk b (List.mem_flatMap.2 ⟨k, List.mem_range.2 hkl, hb⟩)⟩
theorem Elems.keep (h : Elems t w xs l B F) (hb : Below w.heap.size w w') : Elems t w' xs l B F := h.keepF fun b hF => hb.block b (h.lt b hF)
theorem Elems.mono (h : Elems t w xs l B F) {B' : Nat} (hB : B' ≤ B) : Elems t w xs l B' F := ⟨h.len, h.fs, h.nodup, fun b hb => Nat.le_trans hB (h.low b hb)⟩
/-- One more, whose blocks are others. -/
theorem Elems.snoc (h : Elems t w xs l B F) {cu : List Value} {x : α} {F' : List Nat} (hr : t.rd true w cu x F') (hn : F'.Nodup) (hB : ∀ b ∈ F', B ≤ b) (hd : ∀ b ∈ F, b ∉ F') : Elems t w (xs ++ cu) (l ++ [x]) B (F ++ F') := by
  have hcu := t.len hr
  refine ⟨by rw [List.length_append, List.length_append, h.len, hcu, List.length_singleton, Nat.add_mul, Nat.one_mul], ?_, ?_, fun b hb => (List.mem_append.1 hb).elim (h.low b) (hB b)⟩
  · obtain ⟨Fs, rfl, hs⟩ := h.fs
    refine ⟨fun k => if k < l.length then Fs k else F', ?_, fun k hk => ?_⟩
    · rw [List.length_append, List.length_singleton, List.range_succ, List.flatMap_append, List.flatMap_singleton, if_neg (Nat.lt_irrefl _)]
      congr 1
      exact flatMap_congr' fun k hk => (if_pos (List.mem_range.1 hk)).symm
    · by_cases hkl : k < l.length
      · have hle : k * t.n + t.n ≤ xs.length := by rw [h.len, ← Nat.succ_mul]; exact Nat.mul_le_mul_right _ hkl
        show t.rd true w _ _ (if k < l.length then Fs k else F')
        rw [if_pos hkl, List.getElem_append_left hkl, List.drop_append_of_le_length (by omega), List.take_append_of_le_length (by rw [List.length_drop]; omega)]
        exact hs k hkl
      · have hke : k = l.length := by simp at hk; omega
        subst hke
        show t.rd true w _ _ (if l.length < l.length then Fs l.length else F')
        rw [if_neg hkl, List.getElem_append_right (Nat.le_refl _), ← h.len, List.drop_left, List.take_of_length_le (by omega)]
        simpa using hr
  · exact List.nodup_append.2 ⟨h.nodup, hn, fun a ha b hb e => hd a ha (e ▸ hb)⟩
theorem Elems.snocOwn (h : Elems t w xs l B F) {v : Value} {x : α} {B' : Nat} (hv : Own t w v x B') (hB : B ≤ B') (hlt : ∀ b ∈ F, b < B') : ∃ F', Elems t w (xs ++ [v]) (l ++ [x]) B F' ∧ ∀ b ∈ F', b ∈ F ∨ B' ≤ b := by
  obtain ⟨F', hr, hn, hl⟩ := hv
  refine ⟨F ++ F', h.snoc hr hn (fun b hb => Nat.le_trans hB (hl b hb)) fun b hb hb' => ?_, fun b hb => (List.mem_append.1 hb).imp_right (hl b)⟩
  have := hlt b hb
  have := hl b hb'
  omega
/-- A row that holds them reads as a slice of its own. -/
theorem Elems.own (h : Elems t w xs l B F) {cs : Array Value} (hrow : Row w g E cs) (cap : Nat) (hl : l.length ≤ 9223372036854775807)
    (hc : ∀ k, k < xs.length → cs[k]? = xs[k]?) (hg : g ∉ F) {B' : Nat} (hB : B' ≤ g) (hB2 : B' ≤ B) : Own (tSl t) w (.slice (some ⟨g, 0, none⟩) l.length cap) l B' := by
  obtain ⟨Fs, rfl, hr⟩ := h.fs
  refine ⟨_, ⟨_, cap, rfl, hl, Fs, rfl, fun k hk => ⟨_, rfl, fun j hj => ?_, hr k hk⟩⟩, ?_, ?_⟩
  · have hlen := t.len (hr k hk)
    have hle : k * t.n + t.n ≤ xs.length := by rw [h.len, ← Nat.succ_mul]; exact Nat.mul_le_mul_right _ hk
    have hj' : j < t.n := by rw [hlen] at hj; exact hj
    have ha : (adr (some (⟨g, 0, none⟩ : Addr))).add (k * t.n + j) = ⟨g, k * t.n + j, none⟩ := by
      simp only [adr_some]
      unfold Addr.add; split
      · rename_i h0; rw [h0]
      · simp
    rw [ha]
    refine ⟨?_, fun _ => hrow.frozen _⟩
    rw [hrow.cell, hc _ (by omega), List.getElem_take, List.getElem_drop, List.getElem?_eq_getElem]
  · split
    · exact List.nodup_nil
    · exact List.nodup_cons.2 ⟨hg, h.nodup⟩
  · intro b hb
    split at hb
    · cases hb
    · rcases List.mem_cons.1 hb with rfl | hb
      · exact hB
      · exact Nat.le_trans hB2 (h.low b hb)
theorem own_int (w : World) (n : Int) (B : Nat) : Own tInt w (.int .i64 n) n B := ⟨[], ⟨rfl, rfl⟩, List.nodup_nil, fun _ h => by cases h⟩
theorem rd_int (w : World) (n : Int) : Rd tInt w (.int .i64 n) n := ⟨[], rfl, rfl⟩

def fillV (z : Value) (vs : List Value) (n : Nat) : Array Value := (vs ++ List.replicate (n - vs.length) z).toArray
theorem fillV_get {z : Value} {n : Nat} (hk : xs.length < n) : (fillV z xs n)[xs.length]? = some z := by
  unfold fillV
  rw [List.getElem?_toArray, List.getElem?_append_right (Nat.le_refl _), Nat.sub_self, List.getElem?_replicate, if_pos (by omega)]
theorem fillV_set {z v : Value} {n k : Nat} (hx : xs.length = k) (hk : k < n) : (fillV z xs n).setIfInBounds k v = fillV z (xs ++ [v]) n := by
  subst hx
  unfold fillV
  rw [List.setIfInBounds_toArray]
  congr 1
  obtain ⟨m, hm⟩ : ∃ m, n - xs.length = m + 1 := ⟨n - xs.length - 1, by omega⟩
  rw [List.length_append, List.length_singleton, show n - (xs.length + 1) = m from by omega, hm, List.set_append_right _ _ (Nat.le_refl _), Nat.sub_self, List.replicate_succ, List.set_cons_zero, List.append_assoc]
  rfl
theorem fillV_lt {z : Value} {n k : Nat} (hk : k < xs.length) : (fillV z xs n)[k]? = xs[k]? := by
  unfold fillV; rw [List.getElem?_toArray, List.getElem?_append_left hk]
theorem fillV_nil {z : Value} {n : Nat} : fillV z [] n = (List.replicate n z).toArray := by simp [fillV]

/-- A slice value that the call builds by append. -/
def OwnS (t : Ty α) (E : TypeId) (w : World) (v : Value) (l : List α) (B : Nat) : Prop :=
  ∃ xs F, w.ownsRow B E t.n v l.length xs ∧ Elems t w xs l B F ∧ ∀ k, v.ownBlock = some k → k ∉ F
theorem OwnS.nil (t : Ty α) (E : TypeId) (w : World) (B : Nat) : OwnS t E w (.slice none 0 0) [] B :=
  ⟨[], [], World.ownsRow_nil _ _ _ _, Elems.nil _ _ _, fun _ _ h => by cases h⟩
theorem OwnS.made (t : Ty α) (E : TypeId) (w : World) {B : Nat} (hB : B ≤ w.heap.size) : OwnS t E (w.alloc (.cells #[] E)) (.slice (some ⟨w.heap.size, 0, none⟩) 0 0) [] B :=
  ⟨[], [], World.ownsRow_made w #[] 0 hB (Nat.zero_le _) (by simp), Elems.nil _ _ _, fun _ _ h => by cases h⟩
theorem OwnS.keep {v : Value} (h : OwnS t E w v l B) (hb : Below w.heap.size w w') : OwnS t E w' v l B := by
  obtain ⟨vs, F, ho, he, hn⟩ := h
  refine ⟨vs, F, ho.kept (row := none) ⟨hb.os, hb.tape, hb.output, hb.size, fun k hk _ => hb.block k hk⟩ ?_, he.keep hb, hn⟩
  cases v.ownBlock <;> simp
theorem OwnS.own {v : Value} (h : OwnS t E w v l B) (hl : l.length ≤ 9223372036854775807) : Own (tSl t) w v l B := by
  obtain ⟨xs, F, ⟨hlen, ho⟩, he, hn⟩ := h
  rcases ho with ⟨rfl, h0⟩ | ⟨g, cap, cur, rfl, hB, hrow, hnc, _, hs, htake⟩
  · refine ⟨[], ⟨none, 0, by rw [h0], hl, fun _ => [], by rw [if_pos h0], fun k hk => absurd hk (by omega)⟩, List.nodup_nil, fun _ hb => by cases hb⟩
  · refine he.own hrow cap hl (fun k hk => ?_) (hn g rfl) hB (Nat.le_refl _)
    rw [← htake, List.getElem?_take, if_pos (by omega)]
    simp
theorem OwnS.len {v : Value} (h : OwnS t E w v l B) : ∃ ao cap, v = .slice ao l.length cap := by
  obtain ⟨vs, F, ⟨_, ho⟩, _⟩ := h
  rcases ho with ⟨rfl, h0⟩ | ⟨g, cap, cur, rfl, _⟩
  · exact ⟨none, 0, by rw [h0]⟩
  · exact ⟨_, _, rfl⟩

/-- One append to an owned row: the same block, or a new one. -/
theorem run_app {P : Program} (w : World) (B : Nat) (T ty E : TypeId) (i : TypeInfo) (z : Value) (size bytes : Nat) (hT : P.underlying T = some (.slice E)) (hi : P.info? E = some i) (hz : i.zero = some z)
    (hsize : i.size = size) (hby : i.bytes = bytes) (hzs : z.cells.size = size) (hsz : 0 < size) (v : Value) (n : Nat) (xs : List Value) (hown : w.ownsRow B E size v n xs)
    (ad : Addr) (m c : Nat) (news : List Value) (hl : news.length = m * size) (hnews : ∀ j u, news[j]? = some u → w.cell? (ad.add j) = some u) (h1 : ∀ u ∈ news, u.oneCell' = true)
    (h63 : n + m ≤ maxLen) (hbytes : (n + m) * bytes ≤ 140737488355328) (hbase : B ≤ w.heap.size) :
    ∃ v' w', (Builtin.append_ #[T, T] ty #[v, .slice (some ad) m c]).run P w = .ok v' w' ∧ w'.ownsRow B E size v' (n + m) (xs ++ news) ∧ w.grownBy w' v.ownBlock ∧
      ∀ k, v'.ownBlock = some k → v.ownBlock = some k ∨ w.heap.size ≤ k := by
  have hown0 := hown
  obtain ⟨hlen, ho⟩ := hown
  have up : ∀ {w' : World} {v' : Value} {n : Nat} {ys : List Value}, w'.ownsRow w.heap.size E size v' n ys → w'.ownsRow B E size v' n ys ∧ ∀ k, v'.ownBlock = some k → w.heap.size ≤ k := by
    rintro w' v' n ys ⟨h1, h2⟩
    refine ⟨⟨h1, h2.imp_right fun ⟨g, cap, cur, a, b, r⟩ => ⟨g, cap, cur, a, Nat.le_trans hbase b, r⟩⟩, fun k hk => ?_⟩
    rcases h2 with ⟨rfl, _⟩ | ⟨g, cap, cur, rfl, hb, _⟩
    · simp [Value.ownBlock] at hk
    · simp only [Value.ownBlock, Option.some.injEq] at hk; omega
  have gr : ∀ {w' : World} {r : Option Nat}, w.grownBy w' none → w.grownBy w' r := fun h => ⟨h.os, h.tape, h.output, h.size, fun k hk _ => h.block k hk (by simp)⟩
  rcases ho with ⟨rfl, rfl⟩ | ⟨g, cap, cur, rfl, hB, hrow, hnc, hcm, hs, htake⟩
  · have hx : xs = [] := List.eq_nil_of_length_eq_zero (by simpa using hlen)
    subst hx
    obtain ⟨v', w', hrun, r1, r2, _⟩ := run_append_own (P := P) w w.heap.size T ty E i z size bytes hT hi hz hsize hby hzs hsz (.slice none 0 0) 0 [] (World.ownsRow_nil w _ E size) ad m c news hl hnews h1 h63 hbytes (Nat.le_refl _)
    exact ⟨v', w', hrun, (up r1).1, r2, fun k hk => .inr ((up r1).2 k hk)⟩
  · by_cases hroom : n + m ≤ cap
    · obtain ⟨w', hrun, r1, r2⟩ := run_append_fits (P := P) w B T ty E i size hT hi hsize g n cap xs hown0 ad m c news hl hnews h1 hroom
      exact ⟨_, w', hrun, r1, r2, fun k hk => .inl hk⟩
    · obtain ⟨v', w', hrun, r1, r2⟩ := run_append_arg_grows (P := P) w T ty E i z size bytes hT hi hz hsize hby hzs hsz ⟨g, 0, none⟩ n cap xs hlen (hown0.cells (g := g) rfl) ad m c news hl hnews (by omega) h63 hbytes
      exact ⟨v', w', hrun, (up r1).1, gr r2, fun k hk => .inr ((up r1).2 k hk)⟩

/-- 'append(out, x)' of one element. The list is known since w0, the element lies in a block of its own (ad) and is younger. -/
theorem app_wp {P : Program} {o : Oper} {a : Act} {K : Act → World → Prop} {Q : Exit → Act → World → Prop} {s x : Operand} {v : Value} (T E : TypeId) (z : Value) (by_ : Nat) {cu : List Value} {y : α} {ad : Addr} {c : Nat} {w0 : World}
    (hown : OwnS t E w0 v l B) (hb0 : Below w0.heap.size w0 w) {F' : List Nat} (hu : t.rd true w cu y F') (hun : F'.Nodup) (hul : ∀ b ∈ F', w0.heap.size ≤ b)
    (ho : o.op = .call { callee := .builtin .append, args := #[s, x], argTypes := #[T, T] })
    (hT : P.underlying T = some (.slice E)) (hE : (P.info? E).map (fun i => (i.zero, i.size, i.bytes)) = some (some z, t.n, by_)) (hz : z.cells.size = t.n)
    (hs : a.eval s = v) (hx : a.eval x = .slice (some ad) 1 c) (hc : ∀ j u, cu[j]? = some u → w.cell? (ad.add j) = some u) (hBw : B ≤ w0.heap.size)
    (hlen : l.length < 17592186044416) (hby : (l.length + 1) * by_ ≤ 140737488355328)
    (h : ∀ v' w', OwnS t E w' v' (l ++ [y]) B → (∀ N wz, Below N wz w → N ≤ B → N ≤ w.heap.size → Below N wz w') → w.grownBy w' v.ownBlock → K (a.put o.dst v') w') : o.wp P a w K Q := by
  obtain ⟨i0, hi, hz0, hz1, hz2⟩ := info_parts hE
  obtain ⟨xs, F, hr0, he0, hn⟩ := hown
  have hwsz := hb0.size
  have hF : ∀ b ∈ F, b < w0.heap.size := he0.lt
  have hv := hr0.lt
  have hr : w.ownsRow B E t.n v l.length xs := hr0.kept (row := none) ⟨hb0.os, hb0.tape, hb0.output, hb0.size, fun k hk _ => hb0.block k hk⟩ (by cases v.ownBlock <;> simp)
  have he := he0.keep hb0
  obtain ⟨v', w', hrun, h1, h2, h3⟩ := run_app (P := P) w B T o.type E i0 z t.n by_ hT hi hz0 hz1 hz2 hz t.pos v l.length xs hr ad 1 c cu (by rw [t.len hu, Nat.one_mul]) hc (t.one hu) (by unfold maxLen; omega) hby (by omega)
  unfold Oper.wp execOp
  simp only [ho, resolve, invoke, builtin, Sem.run_bind, Sem.run_pure, Result.andThen_ok, List.map_toArray, List.map_cons, List.map_nil, hs, hx, hrun]
  have hne : ∀ b, b < w.heap.size → (∀ k, v.ownBlock = some k → b ≠ k) → w'.heap[b]? = w.heap[b]? := fun b hb hk => h2.block b hb fun e => hk b e.symm rfl
  refine h v' w' ⟨xs ++ cu, F ++ F', by simpa using h1, ?_, ?_⟩ ?_ h2
  · refine Elems.snoc (he.keepF fun b hb => hne b (he.lt b hb) fun k hk e => hn k hk (e ▸ hb)) (t.keep hu fun b hb => hne b (t.lt hu b hb) fun k hk e => ?_) hun (fun b hb => ?_) fun b hb hb' => ?_
    · have := (hv k hk).2; have := hul b hb; omega
    · have := hul b hb; omega
    · have := hF b hb; have := hul b hb'; omega
  · intro k hk hkF
    rcases h3 k hk with hkv | hkw
    · rcases List.mem_append.1 hkF with hb | hb
      · exact hn k hkv hb
      · have := (hv k hkv).2; have := hul k hb; omega
    · rcases List.mem_append.1 hkF with hb | hb
      · have := he.lt k hb; omega
      · have := t.lt hu k hb; omega
  · intro N wz hN hNB hNw
    exact hN.grown h2 hNw fun k hk => by
      have := (hr.lt k hk).1
      omega

theorem cells_one {w : World} {ad : Addr} {u : Value} (hc : w.cell? ad = some u) : ∀ j q, [u][j]? = some q → w.cell? (ad.add j) = some q := by
  intro j q hj
  match j, hj with
  | 0, hj => simp at hj; subst hj; simpa [Addr.add] using hc
  | j + 1, hj => simp at hj
/-- In the walk: 'at_builtin; refine app1 T E z bytes hown hb hu rfl rfl .. '. -/
theorem app1 {P : Program} {ops : Array Oper} {rest : List Oper} {o : Oper} {a : Act} {Q : Exit → Act → World → Prop} {s x : Operand} {v : Value} (T E : TypeId) (z : Value) (by_ : Nat) {u : Value} {y : α} {ad : Addr} {c : Nat} {w0 : World}
    (hown : OwnS t E w0 v l B) (hb0 : Below w0.heap.size w0 w) (hu : Own t w u y w0.heap.size) (hn : t.n = 1)
    (hg : o.guard = none) (ho : o.op = .call { callee := .builtin .append, args := #[s, x], argTypes := #[T, T] })
    (hT : P.underlying T = some (.slice E)) (hE : (P.info? E).map (fun i => (i.zero, i.size, i.bytes)) = some (some z, 1, by_)) (hz : z.cells.size = 1)
    (hs : a.eval s = v) (hx : a.eval x = .slice (some ad) 1 c) (hc : w.cell? ad = some u) (hBw : B ≤ w0.heap.size)
    (hlen : l.length < 17592186044416) (hby : (l.length + 1) * by_ ≤ 140737488355328)
    (h : ∀ v' w', OwnS t E w' v' (l ++ [y]) B → (∀ N wz, Below N wz w → N ≤ B → N ≤ w.heap.size → Below N wz w') → w.grownBy w' v.ownBlock → wpList P ops Q rest (a.put o.dst v') w') : wpList P ops Q (o :: rest) a w := by
  obtain ⟨F', hur, hun, hul⟩ := hu
  exact wpList_plain hg fun K hK => app_wp T E z by_ hown hb0 hur hun hul ho hT (by rw [hn]; exact hE) (by rw [hn]; exact hz) hs hx (cells_one hc) hBw hlen hby fun v' w' h1 h2 h3 => hK _ _ (h v' w' h1 h2 h3)
end

/-! a slice of slices of one length, read by two indexes -/
def at2 (ll : List (List Int)) (q k : Nat) : Int := (ll.getD q []).getD k 0
structure Grid (w : World) (ao : Option Addr) (A : Nat → Option Addr) (C : Nat → Nat) (ll : List (List Int)) (n m : Nat) : Prop where
  row : ∀ q, q < n → w.cell? ((adr ao).add q) = some (.slice (A q) m (C q))
  cell : ∀ q, q < n → ∀ k, k < m → w.cell? ((adr (A q)).add k) = some (.int .i64 (at2 ll q k))
theorem Grid.keep {w w' : World} {ao : Option Addr} {A : Nat → Option Addr} {C : Nat → Nat} {ll : List (List Int)} {n m : Nat} (h : Grid w ao A C ll n m) (hb : Below w.heap.size w w') : Grid w' ao A C ll n m :=
  ⟨fun q hq => (CellS.of hb _ (by rw [h.row q hq]; rfl)).trans (h.row q hq), fun q hq k hk => (CellS.of hb _ (by rw [h.cell q hq k hk]; rfl)).trans (h.cell q hq k hk)⟩
theorem RII.grid {w : World} {v : Value} {ll : List (List Int)} {n m : Nat} (h : RII w v ll) (hn : ll.length = n) (hm : ∀ q (hq : q < ll.length), ll[q].length = m) :
    ∃ ao cap A C, v = .slice ao n cap ∧ (0 < n → ao.isSome = true) ∧ (∀ q, q < n → 0 < m → (A q).isSome = true) ∧ Grid w ao A C ll n m := by
  obtain ⟨ao, cap, rfl, hl, hs, hc⟩ := Rd.sl h rfl
  have each : ∀ q, ∃ (a : Option Addr) (c : Nat), q < n → w.cell? ((adr ao).add q) = some (.slice a m c) ∧ (0 < m → a.isSome = true) ∧ ∀ k, k < m → w.cell? ((adr a).add k) = some (.int .i64 (at2 ll q k)) := by
    intro q
    by_cases hq : q < n
    · obtain ⟨u, hu, hr⟩ := hc q (by omega)
      obtain ⟨aq, cq, rfl, _, hsq, hcq⟩ := RI.opn hr
      have hmq := hm q (by omega)
      rw [hmq] at hu hsq
      refine ⟨aq, cq, fun _ => ⟨hu, hsq, fun k hk => ?_⟩⟩
      rw [hcq k (by omega)]
      simp [at2, show q < ll.length from by omega, show k < ll[q].length from by omega]
    · exact ⟨none, 0, fun h => absurd h hq⟩
  obtain ⟨A, hA⟩ := Classical.axiomOfChoice each
  obtain ⟨C, hC⟩ := Classical.axiomOfChoice hA
  exact ⟨ao, cap, A, C, by rw [hn], fun h0 => hs (by omega), fun q hq => (hC q hq).2.1, fun q hq => (hC q hq).1, fun q hq => (hC q hq).2.2⟩

end Go.Proofs.Ytfgnjcodilebeaa
