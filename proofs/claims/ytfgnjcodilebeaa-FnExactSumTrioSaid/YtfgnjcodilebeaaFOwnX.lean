/- One part of the proof: OwnX. No condition beyond those of its theorems. -/
import Derived.Test.YtfgnjcodilebeaaBase
namespace Go.Proofs.Ytfgnjcodilebeaa
open Go.RowKit
/-- OwnS, and a block g is not among its blocks: a struct's own block, laid behind the list's first one. -/
def OwnX {α : Type} (t : Ty α) (E : TypeId) (w : World) (v : Value) (l : List α) (B g : Nat) : Prop :=
  ∃ xs F, w.ownsRow B E t.n v l.length xs ∧ Elems t w xs l B F ∧ (∀ k, v.ownBlock = some k → k ∉ F) ∧ g ∉ F ∧ v.ownBlock ≠ some g
section
variable {α : Type} {t : Ty α} {E : TypeId} {w w' : World} {v : Value} {l : List α} {B g : Nat}
theorem OwnX.made (t : Ty α) (E : TypeId) (w : World) {B g : Nat} (hB : B ≤ w.heap.size) (hg : g ≠ w.heap.size) : OwnX t E (w.alloc (.cells #[] E)) (.slice (some ⟨w.heap.size, 0, none⟩) 0 0) [] B g :=
  ⟨[], [], World.ownsRow_made w #[] 0 hB (Nat.zero_le _) (by simp), Elems.nil _ _ _, fun _ _ h => (by cases h), (fun h => by cases h), fun h => hg (by simp [Value.ownBlock] at h; omega)⟩
theorem OwnX.s (h : OwnX t E w v l B g) : OwnS t E w v l B := let ⟨xs, F, a, b, c, _⟩ := h; ⟨xs, F, a, b, c⟩
theorem OwnX.keep (h : OwnX t E w v l B g) (hb : Below w.heap.size w w') : OwnX t E w' v l B g := by
  obtain ⟨vs, F, ho, he, hn, hx⟩ := h
  refine ⟨vs, F, ho.kept (row := none) ⟨hb.os, hb.tape, hb.output, hb.size, fun k hk _ => hb.block k hk⟩ ?_, he.keep hb, hn, hx⟩
  cases v.ownBlock <;> simp
theorem OwnX.setCell (h : OwnX t E w v l B g) {a : Addr} (ha : a.block = g) (u : Value) : OwnX t E (w.setCell a u) v l B g := by
  obtain ⟨xs, F, ho, he, hn, h1, h2⟩ := h
  exact ⟨xs, F, ownsRow_setCell_other ho (by rw [ha]; exact h2) u, he.keepF fun b hb => Below.heap_setCell _ _ _ _ (fun e => h1 (by rw [← ha, ← e]; exact hb)), hn, h1, h2⟩
theorem app1X {P : Program} {ops : Array Oper} {rest : List Oper} {o : Oper} {a : Act} {Q : Exit → Act → World → Prop} {s x : Operand} (T E : TypeId) (z : Value) (by_ : Nat) {u : Value} {y : α} {ad : Addr} {c : Nat} {w0 : World}
    (hown : OwnX t E w0 v l B g) (hg0 : g < w0.heap.size) (hb0 : Below w0.heap.size w0 w) (hu : Own t w u y w0.heap.size) (hn1 : t.n = 1)
    (hgd : o.guard = none) (ho : o.op = .call { callee := .builtin .append, args := #[s, x], argTypes := #[T, T] })
    (hT : P.underlying T = some (.slice E)) (hE : (P.info? E).map (fun i => (i.zero, i.size, i.bytes)) = some (some z, 1, by_)) (hz : z.cells.size = 1)
    (hs : a.eval s = v) (hx : a.eval x = .slice (some ad) 1 c) (hc : w.cell? ad = some u) (hBw : B ≤ w0.heap.size)
    (hlen : l.length < 17592186044416) (hby : (l.length + 1) * by_ ≤ 140737488355328)
    (h : ∀ v' w', OwnX t E w' v' (l ++ [y]) B g → (∀ N wz, Below N wz w → N ≤ B → N ≤ w.heap.size → Below N wz w') → w.grownBy w' v.ownBlock → v.ownBlock ≠ some g → wpList P ops Q rest (a.put o.dst v') w') : wpList P ops Q (o :: rest) a w := by
  obtain ⟨F', hur, hun, hul⟩ := hu
  refine wpList_plain hgd fun K hK => ?_
  have hE' : (P.info? E).map (fun i => (i.zero, i.size, i.bytes)) = some (some z, t.n, by_) := by rw [hn1]; exact hE
  have hz' : z.cells.size = t.n := by rw [hn1]; exact hz
  obtain ⟨i0, hi, hz0, hz1, hz2⟩ := info_parts hE'
  obtain ⟨xs, F, hr0, he0, hn, hgF, hgv⟩ := hown
  have hwsz := hb0.size
  have hF : ∀ b ∈ F, b < w0.heap.size := he0.lt
  have hv := hr0.lt
  have hr : w.ownsRow B E t.n v l.length xs := hr0.kept (row := none) ⟨hb0.os, hb0.tape, hb0.output, hb0.size, fun k hk _ => hb0.block k hk⟩ (by cases v.ownBlock <;> simp)
  have he := he0.keep hb0
  obtain ⟨v', w', hrun, h1, h2, h3⟩ := run_app (P := P) w B T o.type E i0 z t.n by_ hT hi hz0 hz1 hz2 hz' t.pos v l.length xs hr ad 1 c [u] (by rw [t.len hur, Nat.one_mul]) (cells_one hc) (t.one hur) (by unfold maxLen; omega) hby (by omega)
  unfold Oper.wp execOp
  simp only [ho, resolve, invoke, builtin, Sem.run_bind, Sem.run_pure, Result.andThen_ok, List.map_toArray, List.map_cons, List.map_nil, hs, hx, hrun]
  have hne : ∀ b, b < w.heap.size → (∀ k, v.ownBlock = some k → b ≠ k) → w'.heap[b]? = w.heap[b]? := fun b hb hk => h2.block b hb fun e => hk b e.symm rfl
  refine hK _ _ (h v' w' ⟨xs ++ [u], F ++ F', by simpa using h1, ?_, ?_, ?_, ?_⟩ ?_ h2 hgv)
  · refine Elems.snoc (he.keepF fun b hb => hne b (he.lt b hb) fun k hk e => hn k hk (e ▸ hb)) (t.keep hur fun b hb => hne b (t.lt hur b hb) fun k hk e => ?_) hun (fun b hb => ?_) fun b hb hb' => ?_
    · have := (hv k hk).2; have := hul b hb; omega
    · have := hul b hb; omega
    · have := hF b hb; have := hul b hb'; omega
  · intro k hk hkF
    rcases h3 k hk with hkv | hkw
    · rcases List.mem_append.1 hkF with hb | hb
      · exact hn k hkv hb
      · have := (hv k hkv).2; have := hul k hb; omega
    · rcases List.mem_append.1 hkF with hb | hb
      · have := he.lt k hb; omega
      · have := t.lt hur k hb; omega
  · intro hm
    rcases List.mem_append.1 hm with hb | hb
    · exact hgF hb
    · have := hul g hb; omega
  · intro hk
    rcases h3 g hk with hkv | hkw
    · exact hgv hkv
    · omega
  · intro N wz hN hNB hNw
    exact hN.grown h2 hNw fun k hk => by
      have := (hr.lt k hk).1
      omega
end

end Go.Proofs.Ytfgnjcodilebeaa
