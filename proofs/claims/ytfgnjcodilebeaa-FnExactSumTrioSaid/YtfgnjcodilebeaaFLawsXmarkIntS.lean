/- One part of the proof: laws.markIntS. No condition beyond those of its theorems. -/
import Derived.Test.YtfgnjcodilebeaaBase
namespace Go.Proofs.Ytfgnjcodilebeaa
open Go.RowKit
/-- Of what was there only the blocks F may have turned. -/
structure Chg (F : List Nat) (w w' : World) : Prop where
  os : w'.os = w.os
  tape : w'.tape = w.tape
  output : w'.output = w.output
  size : w.heap.size ≤ w'.heap.size
  block : ∀ b, b ∉ F → b < w.heap.size → w'.heap[b]? = w.heap[b]?
theorem Chg.refl (F : List Nat) (w : World) : Chg F w w := ⟨rfl, rfl, rfl, Nat.le_refl _, fun _ _ _ => rfl⟩
theorem Chg.trans {F : List Nat} {a b c : World} (h : Chg F a b) (k : Chg F b c) : Chg F a c :=
  ⟨k.os.trans h.os, k.tape.trans h.tape, k.output.trans h.output, Nat.le_trans h.size k.size, fun i hi hs => (k.block i hi (Nat.lt_of_lt_of_le hs h.size)).trans (h.block i hi hs)⟩
theorem Chg.mono {F G : List Nat} {w w' : World} (h : Chg F w w') (hs : ∀ b ∈ F, b ∈ G) : Chg G w w' := ⟨h.os, h.tape, h.output, h.size, fun b hb => h.block b fun hf => hb (hs b hf)⟩
theorem Chg.below {F : List Nat} {w w' : World} (h : Chg F w w') {B : Nat} (hB : ∀ b ∈ F, B ≤ b) (hw : B ≤ w.heap.size) : Below B w w' := ⟨h.os, h.tape, h.output, h.size, fun k hk => h.block k (fun hf => by have := hB k hf; omega) (by omega)⟩
theorem Chg.of {F : List Nat} {w w' : World} (h : Below w.heap.size w w') : Chg F w w' := ⟨h.os, h.tape, h.output, h.size, fun b _ hb => h.block b hb⟩
theorem Chg.setCell {F : List Nat} (w : World) {a : Addr} (ha : a.block ∈ F) (u : Value) : Chg F w (w.setCell a u) :=
  ⟨rfl, rfl, rfl, by simp [World.setCell], fun b hb _ => Below.heap_setCell _ _ _ _ (fun e => hb (e ▸ ha))⟩
/-- k, k + 1, .. -/
def iota (k : Int) (n : Nat) : List Int := (List.range n).map fun i : Nat => k + (i : Int)
theorem iota_len (k : Int) (n : Nat) : (iota k n).length = n := by simp [iota]
theorem iota_get (k : Int) (n j : Nat) (h : j < (iota k n).length) : (iota k n)[j] = k + j := by simp [iota]
theorem add_ne {a : Addr} {k j : Nat} (h : k ≠ j) : a.add k ≠ a.add j := by
  intro e
  have hk : ∀ m, (a.add m).off = a.off + m := fun m => by unfold Addr.add; split <;> simp_all
  have := congrArg Addr.off e
  rw [hk, hk] at this
  omega
theorem ints_set {w : World} {ao : Option Addr} {n cap k : Nat} {l : List Int} {F : List Nat} (h : tInts.rd true w [.slice ao n cap] l F) (hk : k < l.length) (x : Int) :
    tInts.rd true (w.setCell ((adr ao).add k) (.int .i64 x)) [.slice ao n cap] (l.set k x) F ∧ ((adr ao).add k).block ∈ F := by
  obtain ⟨ao', cap', hv, hl, Fs, rfl, hc⟩ := h
  simp only [List.cons.injEq, Value.slice.injEq, and_true] at hv
  obtain ⟨rfl, rfl, rfl⟩ := hv
  have hne : l.length ≠ 0 := by omega
  refine ⟨⟨ao, cap, by simp, by simpa using hl, Fs, by simp [hne], fun j hj => ?_⟩, by rw [add_block]; simp [hne]⟩
  have hj' : j < l.length := by simpa using hj
  obtain ⟨ck, hs, hcj, hr⟩ := hc j hj'
  obtain ⟨rfl, hF⟩ := hr
  obtain ⟨ck2, _, hck, hr2⟩ := hc k hk
  obtain ⟨rfl, _⟩ := hr2
  have c1 := hcj 0 (by simp)
  have c2 := hck 0 (by simp)
  simp only [tInt, Nat.mul_one, Nat.add_zero, List.getElem_cons_zero] at c1 c2
  by_cases hjk : j = k
  · subst hjk
    refine ⟨[.int .i64 x], hs, fun i hi => ?_, by simp [tInt], hF⟩
    have hi0 : i = 0 := by simpa using hi
    subst hi0
    simp only [tInt, Nat.mul_one, Nat.add_zero, List.getElem_cons_zero]
    exact ⟨World.cell?_setCell_same _ _ _ c1.1, fun h => by rw [World.frozen?_setCell]; exact c1.2 h⟩
  · refine ⟨[.int .i64 l[j]], hs, fun i hi => ?_, by simp [List.getElem_set, Ne.symm hjk], hF⟩
    have hi0 : i = 0 := by simpa using hi
    subst hi0
    simp only [tInt, Nat.mul_one, Nat.add_zero, List.getElem_cons_zero]
    refine ⟨?_, fun h => by rw [World.frozen?_setCell]; exact c1.2 h⟩
    rw [World.cell?_setCell_other]
    · exact c1.1
    · intro e
      exact add_ne (Ne.symm hjk) e

theorem ints_cell {w : World} {ao : Option Addr} {n cap k : Nat} {l : List Int} {F : List Nat} (h : tInts.rd true w [.slice ao n cap] l F) (hk : k < l.length) :
    w.cell? ((adr ao).add k) = some (.int .i64 l[k]) ∧ w.frozen? ((adr ao).add k) = false := by
  obtain ⟨ao', cap', hv, hl, Fs, rfl, hc⟩ := h
  simp only [List.cons.injEq, Value.slice.injEq, and_true] at hv
  obtain ⟨rfl, rfl, rfl⟩ := hv
  obtain ⟨ck, hs, hcj, hr⟩ := hc k hk
  obtain ⟨rfl, hF⟩ := hr
  have c1 := hcj 0 (by simp)
  simp only [tInt, Nat.mul_one, Nat.add_zero, List.getElem_cons_zero] at c1
  exact ⟨c1.1, c1.2 trivial⟩
theorem mark_step {l' : List Int} {k : Int} {j : Nat} (hj : j < l'.length) (hv : ∀ i, i < j → l'[i]? = some (k + i)) : ∀ i, i < j + 1 → (l'.set j (k + j))[i]? = some (k + i) := by
  intro i hi
  by_cases hij : j = i
  · subst hij; rw [List.getElem?_set_self hj]
  · rw [List.getElem?_set_ne hij]; exact hv i (by omega)
theorem mark_done {l' : List Int} {k : Int} {n : Nat} (hl : l'.length = n) (hv : ∀ i, i < n → l'[i]? = some (k + i)) : l' = iota k n := by
  refine List.ext_getElem (by rw [hl, iota_len]) fun i h1 h2 => ?_
  have := hv i (by omega)
  rw [List.getElem?_eq_getElem h1] at this
  rw [iota_get]
  exact Option.some.inj this

set_option maxHeartbeats 1000000 in
theorem markIntS_c {l : List Int} {v : Value} {F : List Nat} (k : Int) {w : World} (h : tInts.rd true w [v] l F) (h0 : 0 ≤ k) (h1 : k + l.length ≤ 1099511627776) :
    Calls Try.prog 26 #[v, .int .i64 k] w fun e w' => e = .returned (.int .i64 (k + l.length)) ∧ tInts.rd true w' [v] (iota k l.length) F ∧ Chg F w w' := by
  have H0 := Lib.hid h
  obtain ⟨ao, cap, rfl, hl, hs, hc⟩ := RI.opn (w := w) (v := v) (l := l) ⟨F, tInts.weak h⟩
  have hix := idx_run1 eInts sInts ao l.length cap hs
  clear hs h hc
  go_enter Try.func26, Try.ntmps26
  go_wp2
  go_loopw [5, 1] (fun i b wr => ∃ (j : Nat) (l' : List Int), j ≤ l.length ∧ i = .int .i64 j ∧ b = .int .i64 (k + j) ∧ Hid (l'.length = l.length) ∧ Hid (∀ i, i < j → l'[i]? = some (k + i)) ∧ Hid (tInts.rd true wr [.slice ao l.length cap] l' F) ∧ Chg F w wr) (fun i _ _ => l.length - (intOf i).toNat)
  case atStart => exact ⟨0, l, by omega, rfl, by simp, Lib.hid rfl, Lib.hid (fun i hi => absurd hi (Nat.not_lt_zero i)), H0, Chg.refl _ _⟩
  case round =>
    obtain ⟨j, l', hj, rfl, rfl, hl', hv, hr, hch⟩ := hrel
    by_cases hlt : j < l.length
    · have hjl : j < l'.length := by rw [hl'.out]; exact hlt
      obtain ⟨c1, c2⟩ := ints_cell hr.out hjl
      go_wp2
      go_roundw
      case rel =>
        obtain ⟨r1, r2⟩ := ints_set hr.out hjl (k + j)
        exact ⟨j + 1, l'.set j (k + j), by omega, by go_num, by go_num, Lib.hid (by rw [List.length_set, hl'.out]), Lib.hid (mark_step hjl hv.out), r1, hch.trans (Chg.setCell _ r2 _)⟩
      case measure => simp [intOf]; omega
    · go_wp2
      go_ret
      have hjl : j = l.length := by omega
      subst hjl
      have e : l' = iota k l.length := mark_done hl'.out hv.out
      subst e
      exact ⟨rfl, hr.out, hch⟩

end Go.Proofs.Ytfgnjcodilebeaa
