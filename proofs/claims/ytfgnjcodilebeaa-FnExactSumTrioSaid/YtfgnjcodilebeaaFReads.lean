/- One part of the proof: Reads. No condition beyond those of its theorems. -/
import Derived.ProofKit
import Derived.Deep.Slices
import Derived.Test.YtfgnjcodilebeaaBase
namespace Go.Proofs.Ytfgnjcodilebeaa
open Go.RowKit
open Go.Deep
/-- Whatever the row's form reads at type T reads here, too. -/
def Reads {α : Type} (T : TypeId) (t : Ty α) : Prop :=
  ∀ {H : Type} (enc : TypeId × Value → H) (W : World) (fuel : Nat) (cs : List Value) (x : DataW H × List MemPlace),
    DataW.trod enc Try.prog W 0 (fun _ => true) true fuel T cs = some x → ∃ (y : α) (F : List Nat), t.rd false W cs y F

theorem reads_int {T : TypeId} (hT : Try.prog.underlying T = some (.int .i64)) : Reads T tInt := by
  intro H enc W fuel cs x h
  obtain ⟨n, e0, hx, wx⟩ := DataW.trod_int hT h
  exact ⟨n, [], by simpa using e0, rfl⟩
theorem reads_bool {T : TypeId} (hT : Try.prog.underlying T = some .bool) : Reads T tBool := by
  intro H enc W fuel cs x h
  obtain ⟨n, e0, hx⟩ := DataW.trod_bool hT h
  exact ⟨n, [], by simpa using e0, rfl⟩
theorem reads_str {T : TypeId} (hT : Try.prog.underlying T = some .string) : Reads T tStr := by
  intro H enc W fuel cs x h
  obtain ⟨n, e0, hx, wx⟩ := DataW.trod_string hT h
  exact ⟨n, [], by simpa using e0, rfl, by unfold maxLen at wx; omega⟩

theorem reads_sl {α : Type} {T E : TypeId} {t : Ty α} (hT : Try.prog.underlying T = some (.slice E)) (hn : Try.prog.cellsOf E = t.n) (hE : Reads E t) : Reads T (tSl t) := by
  intro H enc W fuel cs x h
  rcases open_slice hT h with ⟨rfl, _⟩ | ⟨a, len, cap, m, n, D, Pl, rfl, _, hl, hm, hmm, rfl, hx⟩
  · exact ⟨[], [], none, 0, rfl, by simp, fun _ => [], rfl, fun k hk => absurd hk (Nat.not_lt_zero k)⟩
  · simp only [if_true] at hmm
    have each : ∀ i, ∃ (ck : List Value) (y : Option α) (F : List Nat), i < len → ∃ z, y = some z ∧ W.cells? 0 (a.add (i * Try.prog.cellsOf E)) (Try.prog.cellsOf E) = some ck ∧ t.rd false W ck z F := by
      intro i
      by_cases hi : i < len
      · obtain ⟨ck, h1, h2⟩ := hx i (by omega)
        obtain ⟨y, F, hr⟩ := hE enc W n ck _ h2
        exact ⟨ck, some y, F, fun _ => ⟨y, rfl, h1, hr⟩⟩
      · exact ⟨[], none, [], fun h => absurd h hi⟩
    obtain ⟨CK, hCK⟩ := Classical.axiomOfChoice each
    obtain ⟨Y, hY⟩ := Classical.axiomOfChoice hCK
    obtain ⟨Fs, hFs⟩ := Classical.axiomOfChoice hY
    obtain ⟨l, hll, hlk⟩ : ∃ l : List α, l.length = len ∧ ∀ i (hi : i < l.length), Y i = some l[i] := by
      by_cases h0 : len = 0
      · exact ⟨[], by rw [h0]; rfl, fun i hi => absurd hi (Nat.not_lt_zero i)⟩
      · obtain ⟨z0, _⟩ := hFs 0 (by omega)
        refine ⟨(List.range len).map fun i => (Y i).getD z0, by simp, fun i hi => ?_⟩
        obtain ⟨z, hz, _⟩ := hFs i (by simpa using hi)
        simp [hz]
    subst hll
    refine ⟨l, _, some a, cap, rfl, by unfold maxLen at hm; omega, Fs, rfl, fun k hk => ?_⟩
    obtain ⟨z, hz, h1, h2⟩ := hFs k hk
    have : z = l[k] := by rw [hlk k hk] at hz; exact (Option.some.inj hz).symm
    subst this
    obtain ⟨_, hlen, hc⟩ := World.cells?_some h1
    refine ⟨CK k, rfl, fun j hj => ⟨?_, fun h => by cases h⟩, h2⟩
    have := hc j (by omega)
    rw [← hn]
    have hadd : (a.add (k * Try.prog.cellsOf E)).add j = a.add (k * Try.prog.cellsOf E + j) := Addr.add_add _ _ _
    rw [hadd, List.getElem?_eq_getElem hj] at this
    exact this

theorem reads_struct2 {α β : Type} {T : TypeId} {f0 f1 : Field} {s : Ty α} {t : Ty β} (hs : Try.prog.underlying T = some (.struct #[f0, f1])) (h0 : Reads f0.type s) (h1 : Reads f1.type t)
    (e0 : f0.offset = 0) (e1 : f1.offset = s.n) (c0 : Try.prog.cellsOf f0.type = s.n) (c1 : Try.prog.cellsOf f1.type = t.n) (hC : Try.prog.cellsOf T = s.n + t.n) : Reads T (tPair s t) := by
  intro H enc W fuel cs x h
  cases fuel with
  | zero => simp [DataW.trod] at h
  | succ n =>
    unfold DataW.trod at h
    rw [hs] at h
    simp only [List.mapM_cons, List.mapM_nil, e0, e1, c0, c1, hC, List.drop_zero] at h
    split at h
    · rename_i hlen
      cases ha : DataW.trod enc Try.prog W 0 (fun _ => true) true n f0.type (cs.take s.n) with
      | none => simp [ha] at h
      | some y0 =>
        cases hb : DataW.trod enc Try.prog W 0 (fun _ => true) true n f1.type ((cs.drop s.n).take t.n) with
        | none => simp [ha, hb] at h
        | some y1 =>
          obtain ⟨u, F, hu⟩ := h0 enc W n _ _ ha
          obtain ⟨u', F', hu'⟩ := h1 enc W n _ _ hb
          refine ⟨(u, u'), F ++ F', _, _, F, F', ?_, rfl, hu, hu'⟩
          rw [List.take_of_length_le (i := t.n) (by rw [List.length_drop]; omega), List.take_append_drop]
    · cases h

end Go.Proofs.Ytfgnjcodilebeaa
