/- One part of the proof: plain:Canon. No condition beyond those of its theorems. -/
import Derived.WalkKit
import Derived.OrdersHeld
import Derived.Deep.RegionHeld3
namespace Go.Proofs.Ytfgnjcodilebeaa
open Go.RowKit
/-- Every cell that w has stands in w' as it was. -/
def CellS (w w' : World) : Prop := ∀ p, (w.cell? p).isSome = true → w'.cell? p = w.cell? p
theorem CellS.refl (w : World) : CellS w w := fun _ _ => rfl
theorem CellS.drew (w : World) : CellS w w.drew := fun _ _ => rfl
theorem CellS.of {w w' : World} (h : Below w.heap.size w w') : CellS w w' := fun p hp => by
  obtain ⟨u, hu⟩ := Option.isSome_iff_exists.1 hp
  exact h.cell (World.block_lt_of_cell? w p hu)
theorem CellS.trans {a b c : World} (h : CellS a b) (k : CellS b c) : CellS a c := fun p hp => by
  rw [k p (by rw [h p hp]; exact hp), h p hp]

section
variable {P : Program} {ops : Array Oper} {Q : Exit → Act → World → Prop} {md : Region.Mode} {mu : Nat → Bool}

/-- In state a, in every world that has w's cells as they are, o leaves v in its temporary and does nothing else. -/
def YieldsE (P : Program) (ops : Array Oper) (o : Oper) (v : Value) (a : Act) (w : World) : Prop :=
  (Region.wanted o (yielded ops a.tmps) = true ∧ ∀ w', CellS w w' → (execOp a.eval o).run P w' = .ok (.value v) w') ∨
  (Region.wanted o (yielded ops a.tmps) = false ∧ v = undef)

theorem YieldsE.later {o : Oper} {v : Value} {a : Act} {w w' : World} (h : YieldsE P ops o v a w) (hc : CellS w w') : YieldsE P ops o v a w' :=
  h.imp (fun ⟨hw, hv⟩ => ⟨hw, fun w2 h2 => hv w2 (hc.trans h2)⟩) id

theorem YieldsE.of_same {o : Oper} {v : Value} {a a' : Act} {w : World} (hy : YieldsE P ops o v a w) (he : execOp a'.eval o = execOp a.eval o)
    (hw : Region.wanted o (yielded ops a'.tmps) = Region.wanted o (yielded ops a.tmps)) : YieldsE P ops o v a' w := by
  unfold YieldsE at *
  rw [he, hw]
  exact hy

theorem YieldsE.wpOp {i : Nat} {o : Oper} {v : Value} {a : Act} {w : World} (hi : ops[i]? = some o) (hy : YieldsE P ops o v a w)
    {K : Act → World → Prop} (h : K (a.put o.dst v) w) : wpOp P ops Q i K a w := by
  unfold Go.wpOp
  simp only [hi]
  rcases hy with ⟨hw, hv⟩ | ⟨hw, rfl⟩
  · simp only [hw, if_true, Oper.wp, hv w (CellS.refl w), Oper.upon]; exact .inl h
  · simp only [hw, Bool.false_eq_true, if_false]; exact h

theorem wpOp_putE {j : Nat} {oi oj : Oper} {v : Value} (hj : ops[j]? = some oj) (hap : oi.apart ops oj = true)
    (hsi : ∀ cs b, oi.op ≠ .select cs b) (hsj : ∀ cs b, oj.op ≠ .select cs b)
    (hQ : ∀ c a d v w, Q (.panic c) (Act.put a d v) w → Q (.panic c) a w) {K : Act → World → Prop} {a : Act} {w : World}
    (h : wpOp P ops Q j K (a.put oi.dst v) w) :
    wpOp P ops Q j (fun a' w' => (∀ w2, YieldsE P ops oi v a w2 → YieldsE P ops oi v a' w2) ∧ K (a'.put oi.dst v) w') a w := by
  obtain ⟨h1, h2, h3⟩ := Oper.apart_spec hap
  have keep : ∀ u w2, YieldsE P ops oi v a w2 → YieldsE P ops oi v (a.put oj.dst u) w2 := fun u w2 hy =>
    hy.of_same (execOp_put oi hsi a oj.dst u h3) (wanted_put oi a oj.dst u h3)
  have keepD : ∀ d u w2, YieldsE P ops oi v a w2 → YieldsE P ops oi v (({ a with defers := d :: a.defers } : Act).put oj.dst u) w2 := fun d u w2 hy =>
    YieldsE.of_same (a := { a with defers := d :: a.defers }) (hy.of_same (a' := { a with defers := d :: a.defers }) rfl rfl) (execOp_put oi hsi _ oj.dst u h3) (wanted_put oi _ oj.dst u h3)
  unfold wpOp at *
  simp only [hj] at *
  rw [wanted_put oj a oi.dst v h1] at h
  split
  · rename_i hw
    simp only [hw, if_true] at h
    rcases h with h | ⟨hasks, hlets⟩
    case inr => exact .inr ⟨by unfold Oper.asks at *; rw [execOp_put oj hsj a oi.dst v h1] at hasks; exact hasks, hlets⟩
    refine .inl ?_
    unfold Oper.wp at *
    rw [execOp_put oj hsj a oi.dst v h1] at h
    generalize (execOp a.eval oj).run P w = r at *
    cases r with
    | ok n w' =>
      cases n <;> simp only [Oper.upon] at h ⊢
      case value u => exact ⟨keep u, by rw [← Act.put_comm a v u h2]; exact h⟩
      case skip => exact ⟨keep _, by rw [← Act.put_comm a v undef h2]; exact h⟩
      case defer d =>
        refine ⟨keepD d _, ?_⟩
        rw [← Act.put_comm _ v undef h2, ← Act.put_defers]
        exact h
      case enter f args =>
        refine Calls.mono h fun e w'' he => ?_
        cases e with
        | returned u => exact ⟨keep u, by rw [← Act.put_comm a v u h2]; exact he⟩
        | panicked c => exact hQ _ _ _ _ _ he
        | outgrown => exact he
      case row row args => exact Rows.mono h fun u w'' he => ⟨keep u, by rw [← Act.put_comm a v u h2]; exact he⟩
    | halt x w' =>
      cases x <;> simp only [Oper.upon] at h ⊢
      case panic u => exact hQ _ _ _ _ _ h
  · rename_i hw
    simp only [hw] at h
    exact ⟨keep _, by rw [← Act.put_comm a v undef h2]; exact h⟩

def wpAnyE (P : Program) (md : Region.Mode) (ops : Array Oper) (Q : Exit → Act → World → Prop) (mu : Nat → Bool) : Nat → Array Bool → Act → World → Prop
  | 0, listed, a, w => Region.ready md ops listed = [] ∧ Q .normal a w
  | fuel + 1, listed, a, w =>
    (Region.ready md ops listed = [] → Q .normal a w) ∧
    ∀ i ∈ Region.ready md ops listed, wpOp P ops Q i (fun a' w' => (mu i = false → CellS w w') ∧ wpAnyE P md ops Q mu fuel (listed.setIfInBounds i true) a' w') a w

theorem wpAny_of_E : ∀ (fuel : Nat) (listed : Array Bool) (a : Act) (w : World), wpAnyE P md ops Q mu fuel listed a w → wpAny P md ops Q fuel listed a w
  | 0, _, _, _, h => h
  | fuel + 1, _, _, _, h => ⟨h.1, fun i hi => wpOp_mono (fun a' w' h' => wpAny_of_E fuel _ a' w' h'.2) (h.2 i hi)⟩

/-- Does operation j hang on operation i? -/
def depB (md : Region.Mode) (ops : Array Oper) : Nat → Nat → Nat → Bool
  | 0, _, _ => false
  | n + 1, j, i => match ops[j]? with
    | none => false
    | some o => o.after.any fun e => Region.binds md e && (e.on == i || depB md ops n e.on i)

def ClosedL (md : Region.Mode) (ops : Array Oper) (listed : Array Bool) : Prop :=
  ∀ j o, ops[j]? = some o → listed.getD j false = true → ∀ e ∈ o.after, Region.binds md e = true → listed.getD e.on false = true

theorem dep_listed {listed : Array Bool} (hc : ClosedL md ops listed) : ∀ n j i, depB md ops n j i = true →
    (∀ o, ops[j]? = some o → ∀ e ∈ o.after, Region.binds md e = true → listed.getD e.on false = true) → listed.getD i false = true
  | 0, _, _, h, _ => by simp [depB] at h
  | n + 1, j, i, h, ha => by
    unfold depB at h
    split at h
    · cases h
    · rename_i o ho
      obtain ⟨e, he, hb⟩ := Array.any_eq_true'.1 h
      simp only [Bool.and_eq_true, Bool.or_eq_true, beq_iff_eq] at hb
      obtain ⟨hb1, hb2⟩ := hb
      have hl := ha o ho e he hb1
      rcases hb2 with rfl | hd
      · exact hl
      · exact dep_listed hc n e.on i hd (fun o' ho' => hc e.on o' ho' hl)

theorem closed_set {listed : Array Bool} {j : Nat} (hc : ClosedL md ops listed) (hj : j ∈ Region.ready md ops listed) : ClosedL md ops (listed.setIfInBounds j true) := by
  intro k o ho hk e he hb
  obtain ⟨_, oj, hoj, hall⟩ := mem_ready.1 hj
  by_cases hkj : k = j
  · subst hkj
    rw [ho] at hoj; cases hoj
    exact getD_set_true (hall e he hb)
  · rw [getD_set_ne false (Ne.symm hkj)] at hk
    exact getD_set_true (hc k o ho hk e he hb)

theorem wpAnyE_first {i : Nat} {oi : Oper} {v : Value} (hi : ops[i]? = some oi) (hsel : ∀ (j : Nat) (o : Oper) cs b, ops[j]? = some o → o.op ≠ .select cs b)
    (hQ : ∀ c a d v w, Q (.panic c) (Act.put a d v) w → Q (.panic c) a w) :
    ∀ (fuel : Nat) (listed : Array Bool) (a : Act) (w : World), ClosedL md ops listed →
      (∀ j oj, ops[j]? = some oj → j ≠ i → listed.getD j true = false → (∀ e ∈ oj.after, Region.binds md e = true → e.on ≠ i) → oi.apart ops oj = true) →
      (∀ j, mu j = true → j ≠ i → j < ops.size → listed.getD j true = false → ∃ n, depB md ops n j i = true) →
      i ∈ Region.ready md ops listed → YieldsE P ops oi v a w →
      wpAnyE P md ops Q mu fuel (listed.setIfInBounds i true) (a.put oi.dst v) w → wpAnyE P md ops Q mu (fuel + 1) listed a w := by
  intro fuel
  induction fuel with
  | zero =>
    intro listed a w hcl _ _ hr hy H
    refine ⟨fun h => (by rw [h] at hr; cases hr), fun j hj => ?_⟩
    by_cases hji : j = i
    · subst hji; exact hy.wpOp hi ⟨fun _ => CellS.refl w, H⟩
    · have := ready_mono hj hji
      rw [H.1] at this
      cases this
  | succ fuel ih =>
    intro listed a w hcl hfree hmu hr hy H
    refine ⟨fun h => (by rw [h] at hr; cases hr), fun j hj => ?_⟩
    by_cases hji : j = i
    · subst hji; exact hy.wpOp hi ⟨fun _ => CellS.refl w, H⟩
    · have h1 := H.2 j (ready_mono hj hji)
      obtain ⟨hjun, oj, hoj, hall⟩ := mem_ready.1 hj
      have hiun : listed.getD i false = false := by
        have h0 := (mem_ready.1 hr).1
        rcases Nat.lt_or_ge i listed.size with h' | h'
        · simp [h'] at h0 ⊢; exact h0
        · simp [Array.getElem?_eq_none h'] at h0
      have hnot : ∀ e ∈ oj.after, Region.binds md e = true → e.on ≠ i := fun e he hb heq => by
        have h1 := hall e he hb
        rw [heq, hiun] at h1
        cases h1
      have hmj : mu j = false := by
        rcases hm : mu j with _ | _
        · rfl
        · exfalso
          obtain ⟨n, hn⟩ := hmu j hm hji (Array.getElem?_eq_some_iff.1 hoj).1 hjun
          have := dep_listed hcl n j i hn (fun o ho => by rw [hoj] at ho; cases ho; exact hall)
          rw [hiun] at this; cases this
      have h2 := wpOp_putE hoj (hfree j oj hoj hji hjun hnot) (fun cs b => hsel i oi cs b hi) (fun cs b => hsel j oj cs b hoj) hQ h1
      have hfree' : ∀ k ok, ops[k]? = some ok → k ≠ i → (listed.setIfInBounds j true).getD k true = false →
          (∀ e ∈ ok.after, Region.binds md e = true → e.on ≠ i) → oi.apart ops ok = true := fun k ok hk hki hun hno => by
        refine hfree k ok hk hki ?_ hno
        by_cases hjk : j = k
        · subst hjk; exact hjun
        · rw [getD_set_ne true hjk] at hun; exact hun
      have hmu' : ∀ k, mu k = true → k ≠ i → k < ops.size → (listed.setIfInBounds j true).getD k true = false → ∃ n, depB md ops n k i = true := fun k hk hki hks hun => by
        refine hmu k hk hki hks ?_
        by_cases hjk : j = k
        · subst hjk; exact hjun
        · rw [getD_set_ne true hjk] at hun; exact hun
      refine wpOp_mono (fun a' w' h3 => ⟨h3.2.1, ih (listed.setIfInBounds j true) a' w' (closed_set hcl hj) hfree' hmu' (ready_mono hr (Ne.symm hji)) (h3.1 w' (hy.later (h3.2.1 hmj))) ?_⟩) h2
      rw [Array.setIfInBounds_comm _ _ hji]
      exact h3.2.2

/-- Is this the canonical order of the region: what may be taken first (true), or the one operation that may come up (false)? -/
def canonB (md : Region.Mode) (ops : Array Oper) (mu : Nat → Bool) : List (Nat × Bool) → Array Bool → Bool
  | [], listed => Region.ready md ops listed == []
  | (i, true) :: r, listed => (Region.ready md ops listed).contains i && Region.free md ops listed i &&
      (List.range ops.size).all (fun j => !mu j || j == i || listed.getD j true || depB md ops ops.size j i) && canonB md ops mu r (listed.setIfInBounds i true)
  | (i, false) :: r, listed => Region.ready md ops listed == [i] && canonB md ops mu r (listed.setIfInBounds i true)

/-- The walk in that order. -/
def wpC (P : Program) (ops : Array Oper) (mu : Nat → Bool) (Q : Exit → Act → World → Prop) : List (Nat × Bool) → Act → World → Prop
  | [], a, w => Q .normal a w
  | (i, true) :: r, a, w => ∃ o v, ops[i]? = some o ∧ YieldsE P ops o v a w ∧ wpC P ops mu Q r (a.put o.dst v) w
  | (i, false) :: r, a, w => wpOp P ops Q i (fun a' w' => (mu i = false → CellS w w') ∧ wpC P ops mu Q r a' w') a w

theorem wpAnyE_of_C (hs : Region.noSelect ops = true) (hQ : ∀ c a d v w, Q (.panic c) (Act.put a d v) w → Q (.panic c) a w) :
    ∀ (ord : List (Nat × Bool)) (listed : Array Bool) (a : Act) (w : World), ClosedL md ops listed → canonB md ops mu ord listed = true →
    wpC P ops mu Q ord a w → wpAnyE P md ops Q mu ord.length listed a w
  | [], _, _, _, _, hB, h => ⟨by simpa [canonB] using hB, h⟩
  | (i, true) :: r, listed, a, w, hc, hB, h => by
    simp only [canonB, Bool.and_eq_true] at hB
    obtain ⟨⟨⟨hr, hf⟩, hm⟩, hB'⟩ := hB
    obtain ⟨o, v, ho, hy, h'⟩ := h
    have hr' : i ∈ Region.ready md ops listed := by simpa using hr
    refine wpAnyE_first ho (Region.noSelect_spec hs) hQ r.length listed a w hc (Region.free_spec ho hf) (fun j hj hji hjs hun => ⟨ops.size, ?_⟩) hr' hy
      (wpAnyE_of_C hs hQ r _ _ _ (closed_set hc hr') hB' h')
    have := List.all_eq_true.1 hm j (List.mem_range.2 hjs)
    simp only [hj, hun, Bool.not_true, Bool.false_or, Bool.or_false, Bool.or_eq_true, beq_iff_eq] at this
    exact this.resolve_left hji
  | (i, false) :: r, listed, a, w, hc, hB, h => by
    simp only [canonB, Bool.and_eq_true, beq_iff_eq] at hB
    obtain ⟨hr, hB'⟩ := hB
    have hi : i ∈ Region.ready md ops listed := by rw [hr]; exact List.mem_singleton.2 rfl
    refine ⟨fun h0 => (by rw [hr] at h0; cases h0), fun j hj => ?_⟩
    rw [hr] at hj
    have hji := List.mem_singleton.1 hj
    subst hji
    exact wpOp_mono (fun a' w' h3 => ⟨h3.1, wpAnyE_of_C hs hQ r _ _ _ (closed_set hc hi) hB' h3.2⟩) h

theorem wp_region_canon (mu : Nat → Bool) (ord : List (Nat × Bool)) {id : Nat} {a : Act} {w : World} (hm : P.follows .mixedOrders = true)
    (hB : (Region.noSelect ops && (ord.length == ops.size) && canonB .any ops mu ord (Array.replicate ops.size false)) = true)
    (hQ : ∀ c a d v w, Q (.panic c) (Act.put a d v) w → Q (.panic c) a w)
    (h : wpC P ops mu Q ord a w.drew) : (Code.region id ops true).wp P Q a w := by
  simp only [Bool.and_eq_true, beq_iff_eq] at hB
  obtain ⟨⟨hs, hl⟩, hB⟩ := hB
  refine wp_region_any hm ?_
  have hc : ClosedL .any ops (Array.replicate ops.size false) := by
    intro j o ho hj
    exfalso
    rw [Array.getD_eq_getD_getElem?, Array.getElem?_replicate] at hj
    split at hj <;> simp at hj
  have := wpAny_of_E _ _ _ _ (wpAnyE_of_C hs hQ ord _ a w.drew hc hB h)
  rw [hl] at this
  exact this

/-- The walk in that order, the operations looked up. -/
def wpD (P : Program) (ops : Array Oper) (mu : Nat → Bool) (Q : Exit → Act → World → Prop) : List (Option Oper × Nat × Bool) → Act → World → Prop
  | [], a, w => Q .normal a w
  | (none, _, _) :: _, _, _ => False
  | (some o, _, true) :: r, a, w => ∃ v, YieldsE P ops o v a w ∧ wpD P ops mu Q r (a.put o.dst v) w
  | (some o, i, false) :: r, a, w =>
    if Region.wanted o (yielded ops a.tmps) then o.wp P a w (fun a' w' => (mu i = false → CellS w w') ∧ wpD P ops mu Q r a' w') Q ∨ (o.asks P a w ∧ LetsOut Q) else wpD P ops mu Q r (a.put o.dst undef) w

theorem wpC_of_D : ∀ (ord : List (Nat × Bool)) (a : Act) (w : World), wpD P ops mu Q (ord.map fun p => (ops[p.1]?, p)) a w → wpC P ops mu Q ord a w
  | [], _, _, h => h
  | (i, b) :: r, a, w, h => by
    simp only [List.map_cons] at h
    cases ho : ops[i]? with
    | none => rw [ho] at h; unfold wpD at h; exact h.elim
    | some o =>
      rw [ho] at h
      cases b with
      | true =>
        obtain ⟨v, hy, h'⟩ := h
        exact ⟨o, v, ho, hy, wpC_of_D r _ _ h'⟩
      | false =>
        unfold wpD at h
        unfold wpC wpOp
        simp only [ho]
        split
        · rename_i hw
          rw [if_pos hw] at h
          exact h.imp (Oper.wp_mono fun a' w' h3 => ⟨h3.1, wpC_of_D r _ _ h3.2⟩) id
        · rename_i hw
          rw [if_neg hw] at h
          exact ⟨fun _ => CellS.refl w, wpC_of_D r _ _ h⟩

theorem wp_region_D (mu : Nat → Bool) (ord : List (Nat × Bool)) {id : Nat} {a : Act} {w : World} (hm : P.follows .mixedOrders = true)
    (hB : (Region.noSelect ops && (ord.length == ops.size) && canonB .any ops mu ord (Array.replicate ops.size false)) = true)
    (h : wpD P ops mu (NoPanic Q) (ord.map fun p => (ops[p.1]?, p)) a w.drew) : (Code.region id ops true).wp P Q a w :=
  wp_region_noPanic (wp_region_canon mu ord hm hB (fun _ _ _ _ _ h => h) (wpC_of_D ord a w.drew h))

/-! steps -/
variable {i : Nat} {r : List (Option Oper × Nat × Bool)} {a : Act} {w : World} {o : Oper}
theorem wpD_nil (h : Q .normal a w) : wpD P ops mu (NoPanic Q) [] a w := h
theorem wpD_take {v : Value}
    (hw : Region.wanted o (yielded ops a.tmps) = true) (hv : ∀ w', CellS w w' → (execOp a.eval o).run P w' = .ok (.value v) w')
    (h : wpD P ops mu Q r (a.put o.dst v) w) : wpD P ops mu Q ((some o, i, true) :: r) a w := ⟨v, .inl ⟨hw, hv⟩, h⟩
theorem wpD_skip {b : Bool}
    (hw : Region.wanted o (yielded ops a.tmps) = false) (h : wpD P ops mu Q r (a.put o.dst undef) w) : wpD P ops mu Q ((some o, i, b) :: r) a w := by
  cases b with
  | true => exact ⟨undef, .inr ⟨hw, rfl⟩, h⟩
  | false =>
    unfold wpD
    rw [if_neg (by rw [hw]; exact Bool.false_ne_true)]
    exact h
/-- A call or another operation that keeps what is there. -/
theorem wpD_do (hw : Region.wanted o (yielded ops a.tmps) = true)
    (h : ∀ K : Act → World → Prop, (∀ a' w', CellS w w' → wpD P ops mu Q r a' w' → K a' w') → o.wp P a w K Q) : wpD P ops mu Q ((some o, i, false) :: r) a w := by
  unfold wpD
  rw [if_pos hw]
  exact .inl (h _ fun a' w' hc hk => ⟨fun _ => hc, hk⟩)
/-- One that writes (mu says so). -/
theorem wpD_mut (hw : Region.wanted o (yielded ops a.tmps) = true) (hm : mu i = true)
    (h : ∀ K : Act → World → Prop, (∀ a' w', wpD P ops mu Q r a' w' → K a' w') → o.wp P a w K Q) : wpD P ops mu Q ((some o, i, false) :: r) a w := by
  unfold wpD
  rw [if_pos hw]
  exact .inl (h _ fun a' w' hk => ⟨fun h0 => (by rw [hm] at h0; cases h0), hk⟩)
end

end Go.Proofs.Ytfgnjcodilebeaa
