/- One part of the proof: RowF. No condition beyond those of its theorems. -/
import Derived.Test.YtfgnjcodilebeaaBase
namespace Go.Proofs.Ytfgnjcodilebeaa
open Go.RowKit
/-! lists of numbers told by a function -/
def rowF (f : Nat → Int) (m : Nat) : List Int := (List.range m).map f
def gridF (f : Nat → Nat → Int) (q m : Nat) : List (List Int) := (List.range q).map fun i => rowF (f i) m
theorem rowF_snoc (f : Nat → Int) (m : Nat) : rowF f (m + 1) = rowF f m ++ [f m] := by simp [rowF, List.range_succ]
theorem rowF_len (f : Nat → Int) (m : Nat) : (rowF f m).length = m := by simp [rowF]
theorem gridF_snoc (f : Nat → Nat → Int) (q m : Nat) : gridF f (q + 1) m = gridF f q m ++ [rowF (f q) m] := by simp [gridF, List.range_succ]
theorem gridF_len (f : Nat → Nat → Int) (q m : Nat) : (gridF f q m).length = q := by simp [gridF]
theorem rowF_congr {f g : Nat → Int} {m : Nat} (h : ∀ k, k < m → f k = g k) : rowF f m = rowF g m := by
  unfold rowF; exact List.map_congr_left fun k hk => h k (List.mem_range.1 hk)
theorem gridF_congr {f g : Nat → Nat → Int} {q m : Nat} (h : ∀ i, i < q → ∀ k, k < m → f i k = g i k) : gridF f q m = gridF g q m := by
  unfold gridF; exact List.map_congr_left fun i hi => rowF_congr (h i (List.mem_range.1 hi))
theorem rowF_get (f : Nat → Int) {m k : Nat} (h : k < m) : (rowF f m).getD k 0 = f k := by simp [rowF, List.getD, h]
def at1 (l : List Int) (i : Nat) : Int := l.getD i 0
theorem at1_lt {l : List Int} {i : Nat} (h : i < l.length) : at1 l i = l[i] := by
  unfold at1; rw [List.getD_eq_getElem?_getD, List.getElem?_eq_getElem h]; rfl
def whenL (b : Bool) (ll : List (List Int)) : List (List Int) := if b = true then ll else []
def whenN (b : Bool) (n : Int) : Int := if b = true then n else 0

end Go.Proofs.Ytfgnjcodilebeaa
