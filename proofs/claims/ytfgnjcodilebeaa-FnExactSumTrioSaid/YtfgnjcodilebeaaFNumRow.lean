/- One part of the proof: NumRow. No condition beyond those of its theorems. -/
import Derived.Test.YtfgnjcodilebeaaBase
import Derived.Test.YtfgnjcodilebeaaFRowF
namespace Go.Proofs.Ytfgnjcodilebeaa
open Go.RowKit
/-- A row of 8 numbers, made and then filled from the left. -/
def numRow (f : Nat → Int) (k : Nat) : Array Value := fillRow (.int .i64 0) ((rowF f 8).map (.int .i64)) 8 k
theorem numRow_len (f : Nat → Int) : ((rowF f 8).map (Value.int .i64)).length = 8 := by rw [List.length_map, rowF_len]
theorem numRow_zero (f : Nat → Int) : numRow f 0 = (List.replicate 8 (.int .i64 0)).toArray := fillRow_zero
theorem numRow_set (f : Nat → Int) {k : Nat} (hk : k < 8) : (numRow f k).setIfInBounds k (.int .i64 (f k)) = numRow f (k + 1) := by
  have h := fillRow_set (z := .int .i64 0) (numRow_len f) hk
  have e : ((rowF f 8).map (Value.int .i64))[k]'(by rw [numRow_len]; exact hk) = .int .i64 (f k) := by simp [rowF]
  rw [e] at h
  exact h
theorem numRow_get (f : Nat → Int) {k : Nat} (hk : k < 8) : (numRow f k)[k]? = some (.int .i64 0) := fillRow_get (numRow_len f) hk
theorem numRow_same {f : Nat → Int} {k : Nat} (hk : k < 8) (h : f k = 0) : numRow f k = numRow f (k + 1) := by
  rw [← numRow_set f hk, h]
  refine Array.ext_getElem? fun i => ?_
  rw [Array.getElem?_setIfInBounds]
  by_cases hi : k = i
  · subst hi
    rw [if_pos rfl, numRow_get f hk]
    split
    · rfl
    · rename_i h1; exact absurd (Array.getElem?_eq_some_iff.1 (numRow_get f hk)).1 h1
  · rw [if_neg hi]
theorem numRow_own {f : Nat → Int} {w : World} {g : Nat} {E : TypeId} (cap : Nat) (h : Row w g E (numRow f 8)) {B : Nat} (hB : B ≤ g) : Own tInts w (.slice (some ⟨g, 0, none⟩) 8 cap) (rowF f 8) B := by
  have h' : Row w g E ((rowF f 8).map (Value.int .i64)).toArray := by
    have := fillRow_all (z := .int .i64 0) (numRow_len f)
    unfold numRow at h
    rw [this] at h
    exact h
  have := own_ints (l := rowF f 8) cap h' rfl (by rw [rowF_len]; omega) hB
  rwa [rowF_len] at this

end Go.Proofs.Ytfgnjcodilebeaa
