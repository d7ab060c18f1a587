/- One part of the proof: OwnSet. No condition beyond those of its theorems. -/
import Derived.Test.YtfgnjcodilebeaaBase
namespace Go.Proofs.Ytfgnjcodilebeaa
open Go.RowKit
theorem OwnS.setCell {α : Type} {t : Ty α} {E : TypeId} {w : World} {v : Value} {l : List α} {B : Nat} (h : OwnS t E w v l B) {a : Addr} (ha : a.block < B) (u : Value) : OwnS t E (w.setCell a u) v l B := by
  obtain ⟨xs, F, ho, he, hn⟩ := h
  refine ⟨xs, F, ownsRow_setCell_other ho (fun e => ?_) u, he.keepF fun b hb => Below.heap_setCell _ _ _ _ (by have := he.low b hb; omega), hn⟩
  have := (ho.lt _ e).1
  omega

end Go.Proofs.Ytfgnjcodilebeaa
