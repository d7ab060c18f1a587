/- One part of the proof: Hold. No condition beyond those of its theorems. -/
import Derived.Test.YtfgnjcodilebeaaBase
import Derived.Test.YtfgnjcodilebeaaFLawsXmarkIntS
namespace Go.Proofs.Ytfgnjcodilebeaa
open Go.RowKit
/-- Own, through blocks from B to B'. -/
def OwnI {α : Type} (t : Ty α) (w : World) (v : Value) (x : α) (B B' : Nat) : Prop := ∃ F, t.rd true w [v] x F ∧ F.Nodup ∧ ∀ b ∈ F, B ≤ b ∧ b < B'
/-- Read, through blocks below U. -/
def RdI {α : Type} (t : Ty α) (w : World) (v : Value) (x : α) (U : Nat) : Prop := ∃ F, t.rd false w [v] x F ∧ ∀ b ∈ F, b < U
/-- Of what was there only blocks from B to B' may have turned. -/
structure ChgI (B B' : Nat) (w w' : World) : Prop where
  os : w'.os = w.os
  tape : w'.tape = w.tape
  output : w'.output = w.output
  size : w.heap.size ≤ w'.heap.size
  block : ∀ b, (b < B ∨ B' ≤ b) → b < w.heap.size → w'.heap[b]? = w.heap[b]?
theorem Chg.toI {F : List Nat} {w w' : World} {B B' : Nat} (h : Chg F w w') (hF : ∀ b ∈ F, B ≤ b ∧ b < B') : ChgI B B' w w' :=
  ⟨h.os, h.tape, h.output, h.size, fun b hb hw => h.block b (fun hf => by have := hF b hf; omega) hw⟩
theorem ChgI.below {B B' N : Nat} {w w' : World} (h : ChgI B B' w w') (hN : N ≤ B) (hw : N ≤ w.heap.size) : Below N w w' := ⟨h.os, h.tape, h.output, h.size, fun k hk => h.block k (.inl (by omega)) (by omega)⟩
section
variable {α : Type} {t : Ty α} {w w' : World} {v : Value} {x : α} {B B' B1 B1' U N : Nat}
theorem Own.toI (h : Own t w v x B) : OwnI t w v x B w.heap.size := let ⟨F, h, h1, h2⟩ := h; ⟨F, h, h1, fun b hb => ⟨h2 b hb, t.lt h b hb⟩⟩
theorem Rd.toI (h : Rd t w v x) : RdI t w v x w.heap.size := let ⟨F, h⟩ := h; ⟨F, h, fun b hb => t.lt h b hb⟩
theorem OwnI.rd (h : OwnI t w v x B B') : Rd t w v x := let ⟨F, h, _⟩ := h; ⟨F, t.weak h⟩
theorem RdI.rd (h : RdI t w v x U) : Rd t w v x := let ⟨F, h, _⟩ := h; ⟨F, h⟩
theorem OwnI.keep (h : OwnI t w v x B B') (hb : Below w.heap.size w w') : OwnI t w' v x B B' := let ⟨F, h, h2⟩ := h; ⟨F, t.keep h fun b hF => hb.block b (t.lt h b hF), h2⟩
theorem RdI.keep (h : RdI t w v x U) (hb : Below w.heap.size w w') : RdI t w' v x U := let ⟨F, h, h2⟩ := h; ⟨F, t.keep h fun b hF => hb.block b (t.lt h b hF), h2⟩
theorem OwnI.chg (h : OwnI t w v x B B') (hc : ChgI B1 B1' w w') (hd : B' ≤ B1 ∨ B1' ≤ B) : OwnI t w' v x B B' :=
  let ⟨F, h, h2, h3⟩ := h; ⟨F, t.keep h fun b hF => hc.block b (by have := h3 b hF; omega) (t.lt h b hF), h2, h3⟩
theorem RdI.chg (h : RdI t w v x U) (hc : ChgI B1 B1' w w') (hd : U ≤ B1) : RdI t w' v x U :=
  let ⟨F, h, h3⟩ := h; ⟨F, t.keep h fun b hF => hc.block b (by have := h3 b hF; omega) (t.lt h b hF), h3⟩
theorem Row.chg {g : Nat} {E : TypeId} {cs : Array Value} (h : Row w g E cs) (hc : ChgI B1 B1' w w') (hd : g < B1 ∨ B1' ≤ g) : Row w' g E cs := h.keep (hc.block g hd h.lt)
end
theorem Own.shapeI {α : Type} {t : Ty α} {w : World} {v : Value} {l : List α} {B B' : Nat} (h : OwnI (tSl t) w v l B B') : ∃ ao cap, v = .slice ao l.length cap := by
  obtain ⟨F, ⟨ao, cap, hv, _⟩, _⟩ := h
  exact ⟨ao, cap, by simpa using hv⟩

end Go.Proofs.Ytfgnjcodilebeaa
