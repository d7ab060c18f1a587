/- A way of walking over plain data: part of the proof of FnExactSameByNames. No condition beyond those of its theorems. -/
import Derived.WalkKit
import Derived.Test.YtefbiejoikpkmaaKplainA
import Derived.Test.YtefbiejoikpkmaaKplainB
import Derived.Laws.MakeOwn
import Derived.Below
import Derived.Lib.ItoaNum
import Derived.Lib.LaidTab
import Derived.Laws.IdiomStrings
import Derived.Laws.BytesArg
import Derived.WalkSpells
set_option linter.unusedVariables false
set_option linter.unusedSimpArgs false
namespace Go.Proofs.Ytefbiejoikpkmaa
open Go.RowKit
set_option linter.unusedSectionVars false
variable [Glb]
open Go Go.RowKit
/-! a block gets another name -/
mutual
def C.ren (b c : Nat) : C → C
  | .ls b' sz off n => bif Nat.beq b' b then .ls c sz off n else bif Nat.beq b' c then .junk else .ls b' sz off n
  | .lp b' off => bif Nat.beq b' b then .lp c off else bif Nat.beq b' c then .junk else .lp b' off
  | .fn f cs => .fn f (C.renL b c cs)
  | .d x => .d x
  | .junk => .junk
termination_by structural x => x
def C.renL (b c : Nat) : List C → List C
  | [] => []
  | y :: r => y.ren b c :: C.renL b c r
termination_by structural x => x
end
mutual
def FV.ren (b c : Nat) : FV → FV
  | .c x => .c (x.ren b c)
  | .g cs => .g (C.renL b c cs)
  | .t ps => .t (FV.renL b c ps)
termination_by structural x => x
def FV.renL (b c : Nat) : List FV → List FV
  | [] => []
  | y :: r => y.ren b c :: FV.renL b c r
termination_by structural x => x
end
def Blk.ren (b c : Nat) : Blk → Blk
  | .box cs => .box (C.renL b c cs)
  | .row sz es => .row sz es
  | .rowX sz es i x => .rowX sz es i (x.ren b c)
  | .held X f => .held X f
theorem C.renL_eq (b c : Nat) : ∀ cs, C.renL b c cs = cs.map (C.ren b c)
  | [] => rfl
  | y :: r => by simp only [C.renL, List.map_cons, C.renL_eq b c r]
theorem FV.renL_eq (b c : Nat) : ∀ cs, FV.renL b c cs = cs.map (FV.ren b c)
  | [] => rfl
  | y :: r => by simp only [FV.renL, List.map_cons, FV.renL_eq b c r]
def St.ren (st : St) (b c : Nat) : St := ⟨st.n, fun t => (st.fr t).ren b c, fun k => bif Nat.beq k c then (st.bl b).map (Blk.ren b c) else bif Nat.beq k b then none else (st.bl k).map (Blk.ren b c)⟩
section
variable {w : World} {ρ ρ' : Nat → Option Nat} {Ψ Ψ' : Nat → Prop} {b c : Nat}
theorem CR.ren {v : Value} {x : C} (h : CR w ρ Ψ v x) (h1 : ρ' c = ρ b) (h2 : ∀ k, k ≠ b → k ≠ c → ρ' k = ρ k) (hΨ : ∀ g, Ψ' g → Ψ g) : CR w ρ' Ψ' v (x.ren b c) := by
  induction h with
  | d v x F h hF => unfold C.ren; exact .d v x F h fun b hb h' => hF b hb (hΨ b h')
  | ls0 b' sz h =>
    unfold C.ren
    cases e : Nat.beq b' b with
    | true => have := Nat.eq_of_beq_eq_true e; subst this; exact .ls0 c sz (h1.trans h)
    | false =>
      cases e2 : Nat.beq b' c with
      | true => exact .junk _
      | false => exact .ls0 b' sz ((h2 b' (Nat.ne_of_beq_eq_false e) (Nat.ne_of_beq_eq_false e2)).trans h)
  | ls b' g sz off n cap cs E h hnc hle hg hcap =>
    unfold C.ren
    cases e : Nat.beq b' b with
    | true => have := Nat.eq_of_beq_eq_true e; subst this; exact .ls c g sz off n cap cs E (h1.trans h) hnc hle hg hcap
    | false =>
      cases e2 : Nat.beq b' c with
      | true => exact .junk _
      | false => exact .ls b' g sz off n cap cs E ((h2 b' (Nat.ne_of_beq_eq_false e) (Nat.ne_of_beq_eq_false e2)).trans h) hnc hle hg hcap
  | lp b' g off h =>
    unfold C.ren
    cases e : Nat.beq b' b with
    | true => have := Nat.eq_of_beq_eq_true e; subst this; exact .lp c g off (h1.trans h)
    | false =>
      cases e2 : Nat.beq b' c with
      | true => exact .junk _
      | false => exact .lp b' g off ((h2 b' (Nat.ne_of_beq_eq_false e) (Nat.ne_of_beq_eq_false e2)).trans h)
  | fn f cs us hl hr ih =>
    show CR _ _ _ _ (.fn f (C.renL b c cs))
    rw [C.renL_eq]
    exact .fn f _ us (by simpa using hl) fun k hk => by simp only [List.getElem_map]; exact ih k (by simpa using hk)
  | junk v => unfold C.ren; exact .junk v
theorem FR.ren {v : Value} {x : FV} (h : FR w ρ Ψ v x) (h1 : ρ' c = ρ b) (h2 : ∀ k, k ≠ b → k ≠ c → ρ' k = ρ k) (hΨ : ∀ g, Ψ' g → Ψ g) : FR w ρ' Ψ' v (x.ren b c) := by
  induction h with
  | c v x h => unfold FV.ren; exact .c v _ (h.ren h1 h2 hΨ)
  | g cs us hl hr => show FR _ _ _ _ (.g (C.renL b c cs)); rw [C.renL_eq]; exact .g _ us (by simpa using hl) fun k hk => by simp only [List.getElem_map]; exact (hr k (by simpa using hk)).ren h1 h2 hΨ
  | t ps us hl hr ih => show FR _ _ _ _ (.t (FV.renL b c ps)); rw [FV.renL_eq]; exact .t _ us (by simpa using hl) fun k hk => by simp only [List.getElem_map]; exact ih k (by simpa using hk)
theorem BR.ren {r : Option Nat} {x : Blk} {F : List Nat} (h : BR w ρ Ψ r x F) (h1 : ρ' c = ρ b) (h2 : ∀ k, k ≠ b → k ≠ c → ρ' k = ρ k) (hΨ : ∀ g, Ψ' g → Ψ g) : BR w ρ' Ψ' r (x.ren b c) F := by
  cases h with
  | box g us E cs hg hl hr => show BR _ _ _ _ (.box (C.renL b c cs)) _; rw [C.renL_eq]; exact .box g us E _ hg (by simpa using hl) fun k hk => by simp only [List.getElem_map]; exact (hr k (by simpa using hk)).ren h1 h2 hΨ
  | nil sz hz => exact .nil sz hz
  | row g us E sz ds vs Fs hz hg hl hc hr => exact .row g us E sz ds vs Fs hz hg hl hc hr
  | rowX g us E sz ds i x vs Fs hz hg hl hi hF hc hr hx => exact .rowX g us E sz ds i _ vs Fs hz hg hl hi hF hc hr (hx.ren h1 h2 hΨ)
  | held X f hc hlt => exact .held _ f hc hlt
end
theorem sim_ren {st : St} (b c : Nat) (hb : Nat.blt b 1000000 = true) (hc : Nat.blt c 1000000 = true) (hn : st.bl c = none) (hbc : Nat.beq b c = false) : ∀ κ a w, Sim κ st a w → Sim κ (st.ren b c) a w := by
  have hb : b < 1000000 := by simpa using hb
  have hc : c < 1000000 := by simpa using hc
  have hne : b ≠ c := Nat.ne_of_beq_eq_false hbc
  rintro κ a w ⟨ρ, Φ, hm⟩
  let ρ' : Nat → Option Nat := fun k => if k = c then ρ b else if k = b then none else ρ k
  let Φ' : Nat → List Nat := fun k => if k = c then Φ b else if k = b then [] else Φ k
  have h1 : ρ' c = ρ b := by simp [ρ']
  have h2 : ∀ k, k ≠ b → k ≠ c → ρ' k = ρ k := fun k e1 e2 => by simp [ρ', e1, e2]
  have src : ∀ k g, g ∈ Φ' k → (k = c ∧ g ∈ Φ b) ∨ (k ≠ c ∧ k ≠ b ∧ g ∈ Φ k) := fun k g hg => by
    simp only [Φ'] at hg
    split at hg
    · rename_i h; exact .inl ⟨h, hg⟩
    · rename_i h
      split at hg
      · cases hg
      · rename_i h3; exact .inr ⟨h, h3, hg⟩
  have hΨ : ∀ g, InΦ Φ' g → InΦ Φ g := fun g ⟨k, hk⟩ => by
    rcases src k g hk with ⟨_, h⟩ | ⟨_, _, h⟩
    · exact ⟨b, h⟩
    · exact ⟨k, h⟩
  refine ⟨ρ', Φ', hm.below, hm.size, hm.nb, fun k r hk => ?_, hm.defers, fun t => (hm.fr t).ren h1 h2 hΨ, fun k x hx => ?_, fun k hk => ?_, fun k g hg => ?_, fun k => ?_, fun k k' g hg hg' => ?_⟩
  · have e1 : k ≠ c := fun e => by subst e; rw [κ.low k hc] at hk; cases hk
    have e2 : k ≠ b := fun e => by subst e; rw [κ.low k hb] at hk; cases hk
    rw [h2 k e2 e1]; exact hm.pin k r hk
  · simp only [St.ren] at hx
    cases e1 : Nat.beq k c with
    | true =>
      have := Nat.eq_of_beq_eq_true e1; subst this
      rw [e1] at hx
      simp only [cond_true] at hx
      obtain ⟨z, hz, rfl⟩ := Option.map_eq_some_iff.1 hx
      have e : Φ' k = Φ b := by simp [Φ']
      rw [e, h1]; exact (hm.bl b z hz).ren h1 h2 hΨ
    | false =>
      rw [e1] at hx
      have n1 := Nat.ne_of_beq_eq_false e1
      cases e2 : Nat.beq k b with
      | true => rw [e2] at hx; simp at hx
      | false =>
        rw [e2] at hx
        have n2 := Nat.ne_of_beq_eq_false e2
        simp only [cond_false] at hx
        obtain ⟨z, hz, rfl⟩ := Option.map_eq_some_iff.1 hx
        have e : Φ' k = Φ k := by simp [Φ', n1, n2]
        rw [e, h2 k n2 n1]; exact (hm.bl k z hz).ren h1 h2 hΨ
  · simp only [St.ren] at hk
    cases e1 : Nat.beq k c with
    | true =>
      have := Nat.eq_of_beq_eq_true e1; subst this
      rw [e1] at hk
      simp only [cond_true, Option.map_eq_none_iff] at hk
      have e : Φ' k = Φ b := by simp [Φ']
      rw [e]; exact hm.emp b hk
    | false =>
      rw [e1] at hk
      have n1 := Nat.ne_of_beq_eq_false e1
      cases e2 : Nat.beq k b with
      | true =>
        have := Nat.eq_of_beq_eq_true e2; subst this
        simp [Φ', hne]
      | false =>
        rw [e2] at hk
        have n2 := Nat.ne_of_beq_eq_false e2
        simp only [cond_false, Option.map_eq_none_iff] at hk
        have e : Φ' k = Φ k := by simp [Φ', n1, n2]
        rw [e]; exact hm.emp k hk
  · rcases src k g hg with ⟨_, h⟩ | ⟨_, _, h⟩
    · exact hm.low b g h
    · exact hm.low k g h
  · simp only [Φ']
    split
    · exact hm.nd b
    · split
      · exact List.nodup_nil
      · exact hm.nd k
  · rcases src k g hg with ⟨e1, h1⟩ | ⟨e1, f1, h1⟩ <;> rcases src k' g hg' with ⟨e2, h2⟩ | ⟨e2, f2, h2⟩
    · omega
    · exact absurd (hm.dj b k' g h1 h2).symm f2
    · exact absurd (hm.dj b k g h2 h1).symm f1
    · exact hm.dj k k' g h1 h2
theorem sim_forget {st : St} (b : Nat) : ∀ κ a w, Sim κ st a w → Sim κ (st.setB b none) a w := fun κ a w h =>
  h.le ⟨rfl, fun _ => .inr rfl, fun k => by
    by_cases hk : k = b
    · exact .inl (by simp [St.setB, hk])
    · exact .inr (by simp [St.setB, hk])⟩
/-- An element that has got a name of its own stays away from its row. -/
theorem sim_any {st : St} {b sz i c sz' o n : Nat} {ds : List D} (hb : st.bl b = some (.rowX sz ds i (.ls c sz' o n))) : ∀ κ a w, Sim κ st a w → Sim κ (st.setB b (some (.row sz (ds.set i .any)))) a w := by
  rintro κ a w ⟨ρ, Φ, hm⟩
  have h0 := hm.bl b _ hb
  have key : BR w ρ (InΦ Φ) (ρ b) (.row sz (ds.set i .any)) (Φ b) := by
    generalize ρ b = rb at h0
    generalize Φ b = Fb at h0
    cases h0 with
    | rowX g us E _ _ _ _ vs Fs hz hg hl hi hFi hcc hr hx =>
      have hone : (vs i).oneCell' = true := by
        generalize vs i = u at hx
        cases hx with
        | ls0 => rfl
        | ls => rfl
      have e : parts ds.length Fs = parts (ds.set i .any).length Fs := by rw [List.length_set]
      rw [e]
      refine .row g us E sz _ vs Fs hz hg (by simpa using hl) (fun k hk => hcc k (by simpa using hk)) fun k hk => ?_
      by_cases hki : k = i
      · subst hki
        simp only [List.getElem_set_self]
        rw [hFi]; exact .any _ hone
      · rw [List.getElem_set_ne (Ne.symm hki)]
        exact hr k (by simpa using hk) hki
  refine ⟨ρ, Φ, { hm with size := by simpa [St.setB] using hm.size, nb := by simpa [St.setB] using hm.nb, fr := hm.fr, bl := fun k y hy => ?_, emp := fun k hk => ?_ }⟩
  · simp only [St.setB] at hy
    by_cases hkb : k = b
    · subst hkb; rw [if_pos rfl] at hy; cases hy; exact key
    · rw [if_neg hkb] at hy; exact hm.bl k y hy
  · simp only [St.setB] at hk
    by_cases hkb : k = b
    · rw [if_pos hkb] at hk; cases hk
    · rw [if_neg hkb] at hk; exact hm.emp k hk

end Go.Proofs.Ytefbiejoikpkmaa

namespace Go.Proofs.Ytefbiejoikpkmaa
open Go.RowKit
set_option linter.unusedSectionVars false
variable [Glb]
open Go Go.RowKit
/-! rows whose elements have more than one cell -/
section
variable {P : Program} {ops : Array Oper} {mu : Nat → Bool} {r : OT} {st : St} {K : St → Prop} {i : Nat} {ty : TypeId} {pos : String} {af : Array Edge}
def repL' {α : Type} (n : Nat) (l : List α) : List α := (List.replicate n l).flatten
theorem repL'_len {α : Type} (n : Nat) (l : List α) : (repL' n l).length = n * l.length := by simp [repL']
theorem repL'_succ {α : Type} (n : Nat) (l : List α) : repL' (n + 1) l = l ++ repL' n l := by simp [repL', List.replicate_succ]
theorem repL'_get {α : Type} {l : List α} : ∀ {n k : Nat}, k < n * l.length → (repL' n l)[k]? = l[k % l.length]?
  | 0, k, h => by simp at h
  | n + 1, k, h => by
    rw [repL'_succ]
    by_cases hk : k < l.length
    · rw [List.getElem?_append_left hk, Nat.mod_eq_of_lt hk]
    · rw [List.getElem?_append_right (by omega), repL'_get (by rw [Nat.succ_mul] at h; omega)]
      congr 1
      rw [← Nat.mod_eq_sub_mod (by omega)]
theorem so_makeN {T : TypeId} {l c : Operand} {kl kc : IntKind} {d sz by_ : Nat} {n : Int} {zs : List Value} {ys : List D} (hl : st.ev l = .c (.d (.lit (.int kl n)))) (hc : st.ev c = .c (.d (.lit (.int kc n)))) (ht : tBytes P T sz by_ = true)
    (hz : ((P.underlying T).bind fun t => match t with | .slice E => (P.info? E).bind fun i => i.zero.map fun z => z.cells.toList | _ => none) = some zs) (hzl : zs.length = sz) (hsz : 0 < sz) (hy : ∀ w, OwL w zs ys []) (h0 : 0 ≤ n) (hb : by_ * n.toNat ≤ 281474976710656) (h63 : n ≤ 9223372036854775807) (hd : Nat.blt d st.n = true)
    (h : SO P ops mu r ((st.new [(d, .row sz (repL' n.toNat ys))]).put d (.c (.ls d sz 0 n.toNat))) K) :
    SO P ops mu (.cons (some ⟨some d, .makeSlice T l c, ty, pos, af, none⟩, i, false) r) st K := by
  refine so_a fun w0 a w hs next Q hn => ?_
  obtain ⟨ρ, Φ, hm⟩ := hs
  obtain ⟨E, inf, z', hu, hi, hs', hby, hzz, hzs⟩ := tBytes_spec ht
  have hzeq : z'.cells.toList = zs := by rw [hu] at hz; simpa [hi, hzz] using hz
  have h1 : a.eval l = .int kl n := FR.lit_inv (by rw [← hl]; exact hm.ev l)
  have h2 : a.eval c = .int kc n := FR.lit_inv (by rw [← hc]; exact hm.ev c)
  have hnn : (n.toNat : Int) = n := Int.toNat_of_nonneg h0
  have hb' : (inf.bytes : Int) * n ≤ 281474976710656 := by
    have h : ((by_ * n.toNat : Nat) : Int) ≤ 281474976710656 := by omega
    rw [Int.natCast_mul, hnn, ← hby] at h; exact h
  have hrun := run_make (P := P) w T E inf z' hu hi hzz kl kc n n h0 (Int.le_refl _) hb' h63
  rw [hs'] at hrun
  have hyl : zs.length = ys.length := (hy w).len
  have hmade : madeCells z'.cells (n.toNat * sz) = (repL' n.toNat zs).toArray := by
    have hcs : z'.cells = zs.toArray := by rw [← hzeq]
    apply Array.ext
    · simp [size_madeCells, repL'_len, hzl]
    · intro k h1 h2
      have hk : k < n.toNat * zs.length := by simpa [repL'_len] using h2
      have hm : k % zs.length < zs.length := Nat.mod_lt _ (by omega)
      have e := repL'_get hk
      rw [List.getElem?_eq_getElem (by simpa [repL'_len] using hk), List.getElem?_eq_getElem hm] at e
      simp only [madeCells, hcs, Array.getElem_map, Array.getElem_range, List.size_toArray, List.getElem_toArray]
      rw [Option.some.inj e, getElem!_pos _ _ (by simpa using hm)]
      simp
  rw [hmade] at hrun
  have hol : ∀ m, OwL w (repL' m zs) (repL' m ys) (([] : List Nat).flatMap Φ) := by
    intro m
    induction m with
    | zero => exact .nil
    | succ m ih => rw [repL'_succ, repL'_succ]; exact (hy w).append (F := []) ih
  obtain ⟨ρ', Φ', hm', hcr⟩ := hm.fresh (S := []) List.nodup_nil d sz n.toNat (by have := hm.nb; have : d < st.n := (by simpa using hd); omega) hsz E (hol n.toNat) (by rw [repL'_len, ← hyl, hzl]) (by omega)
  refine at_value (w' := w.alloc (.cells (repL' n.toNat zs).toArray E)) (v := .slice (some ⟨w.heap.size, 0, none⟩) n.toNat n.toNat) ?_ (hn _ _ (fun _ => .of (bel_new _ _)) ⟨_, ⟨ρ', Φ', hm'.put (.c _ _ hcr) d (by simpa [St.new, St.kill, St.drop] using hd)⟩, h⟩)
  simp [execOp, h1, h2, hrun]
theorem flat_parts {α : Type} : ∀ (Ss : List (List α)), Ss.flatten = (List.range Ss.length).flatMap fun k => Ss.getD k []
  | [] => rfl
  | S :: Ss => by
    rw [List.flatten_cons, flat_parts Ss, List.length_cons, List.range_succ_eq_map, List.flatMap_cons, List.flatMap_map]
    rfl
theorem OwC.get {w : World} {vs : List Value} {xs : List D} {Fs : List (List Nat)} (h : OwC w vs xs Fs) : ∀ k, (hk : k < xs.length) → Ow w (vs.getD k undef) xs[k] (Fs.getD k []) := by
  induction h with
  | nil => intro k hk; simp at hk
  | cons h t ih =>
    intro k hk
    cases k with
    | zero => exact h
    | succ k => simpa using ih k (by simpa using hk)
theorem so_store_rowN {T : TypeId} {p x : Operand} {b sz off n : Nat} {ds ys : List D} {cs : List C} {Ss : List (List Nat)} (hp : st.ev p = .c (.lp b off)) (hb : st.bl b = some (.row sz ds)) (hv : st.ev x = .g cs) (hg : GvM st cs ys Ss) (hok : okL cs = true)
    (hS : Ss.flatten.Nodup) (hbS : b ∉ Ss.flatten) (ht : tSize P T n = true) (hn' : cs.length = n) (hlt : off + n ≤ ds.length) (hmu : mu i = true) (h : SO P ops mu r ((st.drop Ss.flatten).setB b (some (.row sz (ds.take off ++ ys ++ ds.drop (off + n))))) K) :
    SO P ops mu (.cons (some ⟨none, .store T p x, ty, pos, af, none⟩, i, false) r) st K := by
  refine so_m hmu fun w0 a w hs next Q hn => ?_
  obtain ⟨ρ, Φ, hm⟩ := hs
  have hp' := hm.ev p
  rw [hp] at hp'
  obtain ⟨g, hρ, hpv⟩ := lp_inv hp'.c_inv
  have hx' := hm.ev x
  rw [hv] at hx'
  obtain ⟨us', hve, hul, hur⟩ := hx'.g_inv
  have hcr := CrL.of (w := w) (ρ := ρ) (Ψ := InΦ Φ) hul hur
  have hox := hg.own hm hcr
  have hlen := hox.len
  have hone : ∀ u ∈ us', u.oneCell' = true := fun u hu => by
    obtain ⟨k, hk, rfl⟩ := List.getElem_of_mem hu
    have := (hur k (by omega)).one (okL_get hok k (by omega))
    rwa [List.getD_eq_getElem?_getD, List.getElem?_eq_getElem hk] at this
  rcases hm.rowN hb with ⟨h0, _⟩ | ⟨g', us, E, vs, Fs, hρ', hΦ, hz, hgh, hl, hcc, hr⟩
  · rw [hρ] at h0; cases h0
  · rw [hρ] at hρ'; cases hρ'
    have hcells : (Value.agg us'.toArray).cells = us'.toArray := rfl
    have hrun := run_store_at (P := P) (w := w) (off := off) (vs := us') ht hgh hcells (by omega) hone (by omega)
    have hgΦ : g ∈ Φ b := by rw [hΦ]; exact List.mem_cons_self ..
    have hlow : w0.lo g := hm.low b g hgΦ
    let us2 : List Value := us.toList.take off ++ us' ++ us.toList.drop (off + n)
    let ds2 : List D := ds.take off ++ ys ++ ds.drop (off + n)
    have hyl : ys.length = n := by omega
    have hd2 : ds2.length = ds.length := by simp [ds2]; omega
    have hsz : us2.toArray.size = us.size := by simp [us2]; omega
    have hndb := hm.nd b
    rw [hΦ, List.nodup_cons] at hndb
    obtain ⟨nf1, nf2⟩ := nodup_flat hndb.2
    let Gs : Nat → List Nat := fun k => if off ≤ k ∧ k < off + n then (Ss.getD (k - off) []).flatMap Φ else Fs k
    have hSl : Ss.length = n := by have := hlen.2; simp at this; omega
    have memS : ∀ k g2, g2 ∈ (Ss.getD k []).flatMap Φ → ∃ c ∈ Ss.flatten, g2 ∈ Φ c ∧ c ∈ Ss.getD k [] := fun k g2 h2 => by
      obtain ⟨c, hc, hgc⟩ := List.mem_flatMap.1 h2
      refine ⟨c, ?_, hgc, hc⟩
      have hk : k < Ss.length := by
        rcases Nat.lt_or_ge k Ss.length with h | h
        · exact h
        · rw [List.getD_eq_getElem?_getD, List.getElem?_eq_none h] at hc; cases hc
      rw [List.getD_eq_getElem?_getD, List.getElem?_eq_getElem hk] at hc
      exact List.mem_flatten.2 ⟨_, List.getElem_mem hk, hc⟩
    have notb : ∀ k g2, g2 ∈ (Ss.getD k []).flatMap Φ → g2 ∉ Φ b := fun k g2 h2 h3 => by
      obtain ⟨c, hc, hgc, _⟩ := memS k g2 h2
      have := hm.dj b c g2 h3 hgc; subst this; exact hbS hc
    have ndS : (∀ k, k < n → (Ss.getD k []).Nodup) ∧ ∀ i j c, i < n → j < n → c ∈ Ss.getD i [] → c ∈ Ss.getD j [] → i = j := by
      have := hS
      rw [flat_parts, hSl] at this
      exact nodup_flat this
    have inb : ∀ k2 g2, k2 < ds.length → g2 ∈ Fs k2 → g2 ∈ Φ b := fun k2 g2 hk2 h => by rw [hΦ]; exact List.mem_cons_of_mem _ (mem_parts.2 ⟨k2, hk2, h⟩)
    have ndparts : (parts ds.length Gs).Nodup := nodup_of (fun k hk => by
        simp only [Gs]; split
        · exact nodup_parts hm.nd hm.dj (ndS.1 _ (by omega))
        · exact nf1 k hk) fun p q g2 hp hq h1 h2 => by
        simp only [Gs] at h1 h2
        split at h1
        · split at h2
          · obtain ⟨c, _, hc1, hc2⟩ := memS _ _ h1
            obtain ⟨c', _, hc1', hc2'⟩ := memS _ _ h2
            have := hm.dj c c' g2 hc1 hc1'; subst this
            have := ndS.2 _ _ c (by omega) (by omega) hc2 hc2'
            omega
          · exact absurd (inb q g2 hq h2) (notb _ _ h1)
        · split at h2
          · exact absurd (inb p g2 hp h1) (notb _ _ h2)
          · exact nf2 p q g2 hp hq h1 h2
    obtain ⟨Φ', hm'⟩ := hm.upd (w' := w.setRow g us2.toArray) b Ss.flatten (.row sz ds2) (g :: parts ds.length Gs) g hgΦ hbS
      (setRow_below hlow (setRow_shp hgh hsz)) (fun k hk => setRow_other w g k _ hk) (setRow_shp hgh hsz) (List.nodup_cons.2 ⟨fun hmem => by
        obtain ⟨k, hk, hgk⟩ := mem_parts.1 hmem
        simp only [Gs] at hgk
        split at hgk
        · exact notb _ g hgk hgΦ
        · exact hndb.1 (mem_parts.2 ⟨k, hk, hgk⟩), ndparts⟩) (fun g2 hg2 => by
        rcases List.mem_cons.1 hg2 with rfl | hg2
        · exact .inl hgΦ
        · obtain ⟨k, hk, hgk⟩ := mem_parts.1 hg2
          simp only [Gs] at hgk
          split at hgk
          · obtain ⟨c, hc, hgc, _⟩ := memS _ _ hgk; exact .inr ⟨c, hc, hgc⟩
          · exact .inl (inb k g2 hk hgk)) (fun Φ' hΦ' => by
        rw [hρ]
        have hu2 : ∀ k, k < ds.length → us2[k]? = some (if off ≤ k ∧ k < off + n then us'.getD (k - off) undef else vs k) := fun k hk => by
          have hcck := hcc k hk
          have htl : us.toList[k]? = some (vs k) := by simpa using hcck
          have h1 : (us.toList.take off).length = off := by simp; omega
          simp only [us2]
          by_cases c1 : k < off
          · rw [List.append_assoc, List.getElem?_append_left (by omega), List.getElem?_take_of_lt c1, htl, if_neg (by omega)]
          · by_cases c2 : k < off + n
            · rw [List.append_assoc, List.getElem?_append_right (by omega), h1, List.getElem?_append_left (by omega), if_pos ⟨by omega, c2⟩, List.getD_eq_getElem?_getD, List.getElem?_eq_getElem (by omega)]; rfl
            · rw [List.getElem?_append_right (by simp; omega), if_neg (by omega), List.getElem?_drop]
              have : off + n + (k - (us.toList.take off ++ us').length) = k := by simp; omega
              rw [this]; exact htl
        have hd2g : ∀ k (hk : k < ds2.length), ds2[k] = if h : off ≤ k ∧ k < off + n then ys[k - off]'(by omega) else ds[k]'(by omega) := fun k hk => by
          have h1 : (ds.take off).length = off := by simp; omega
          simp only [ds2]
          by_cases c1 : k < off
          · rw [List.getElem_append_left (by simp; omega), List.getElem_append_left (by omega), List.getElem_take, dif_neg (by omega)]
          · by_cases c2 : k < off + n
            · rw [List.getElem_append_left (by simp; omega), List.getElem_append_right (by omega), dif_pos ⟨by omega, c2⟩]
              simp [h1]
            · rw [List.getElem_append_right (by simp; omega), dif_neg (by omega), List.getElem_drop]
              congr 1; simp; omega
        have hlen2 : ds2.length = ds.length := hd2
        have := BR.row (w := w.setRow g us2.toArray) (ρ := ρ) (Φ := Φ') g us2.toArray E sz ds2 (fun k => if off ≤ k ∧ k < off + n then us'.getD (k - off) undef else vs k) Gs hz (setRow_heap w g us _ E (0, 0) hgh) (by rw [hsz, hlen2]; exact hl)
          (fun k hk => by simpa using hu2 k (by omega))
          (fun k hk => by
            rw [hd2g k hk]
            by_cases hko : off ≤ k ∧ k < off + n
            · rw [dif_pos hko]
              simp only [Gs, if_pos hko]
              have := hox.get (k - off) (by omega)
              have e : (Ss.map (List.flatMap Φ)).getD (k - off) [] = (Ss.getD (k - off) []).flatMap Φ := by
                rw [List.getD_eq_getElem?_getD, List.getD_eq_getElem?_getD, List.getElem?_map]
                cases Ss[k - off]? <;> rfl
              rw [e] at this
              exact this.keep fun g2 hg2 => setRow_other w g g2 _ fun e => notb _ g2 hg2 (e ▸ hgΦ)
            · rw [dif_neg hko]
              simp only [Gs, if_neg hko]
              exact (hr k (by omega)).keep fun g2 hg2 => setRow_other w g g2 _ fun e => by
                subst e; exact hndb.1 (mem_parts.2 ⟨k, by omega, hg2⟩))
        rw [hlen2] at this
        exact this)
    exact at_skip (by simp [execOp, hpv, hve, hrun, us2]) (hn _ _ (fun h => by cases h) ⟨_, ⟨ρ, Φ', hm'⟩, h⟩)
end

end Go.Proofs.Ytefbiejoikpkmaa

namespace Go.Proofs.Ytefbiejoikpkmaa
open Go.RowKit
/-! what the functions compute -/
def inB (n lo hi : Int) : Bool := decide (lo ≤ n) && decide (n ≤ hi)
theorem inB_iff {n lo hi : Int} : inB n lo hi = true ↔ lo ≤ n ∧ n ≤ hi := by simp [inB]
theorem inB_iffF {n lo hi : Int} : inB n lo hi = false ↔ n < lo ∨ hi < n := by rw [← Bool.not_eq_true, inB_iff]; omega
def allB (l : List Int) (lo hi : Int) : Bool := l.all fun n => inB n lo hi
theorem take_succ_all {α : Type} (p : α → Bool) (l : List α) (k : Nat) (h : k < l.length) : (l.take (k + 1)).all p = ((l.take k).all p && p l[k]) := by
  rw [List.take_succ_eq_append_getElem h, List.all_append]; simp
theorem all_f {α : Type} {p : α → Bool} {l : List α} {k : Nat} (h : k < l.length) (hp : p l[k] = false) : l.all p = false := by
  rw [← Bool.not_eq_true, List.all_eq_true]; intro H; have := H _ (List.getElem_mem h); rw [hp] at this; cases this
theorem all_t {α : Type} {p : α → Bool} {l : List α} {k : Nat} (h : ¬ k < l.length) (hp : (l.take k).all p = true) : l.all p = true := by
  rw [List.take_of_length_le (by omega)] at hp; exact hp
/-! lists of numbers told by a function -/
def rowF (f : Nat → Int) (m : Nat) : List Int := (List.range m).map f
def gridF (f : Nat → Nat → Int) (q m : Nat) : List (List Int) := (List.range q).map fun i => rowF (f i) m
theorem rowF_snoc (f : Nat → Int) (m : Nat) : rowF f (m + 1) = rowF f m ++ [f m] := by simp [rowF, List.range_succ]
@[simp] theorem rowF_len (f : Nat → Int) (m : Nat) : (rowF f m).length = m := by simp [rowF]
theorem gridF_snoc (f : Nat → Nat → Int) (q m : Nat) : gridF f (q + 1) m = gridF f q m ++ [rowF (f q) m] := by simp [gridF, List.range_succ]
@[simp] theorem gridF_len (f : Nat → Nat → Int) (q m : Nat) : (gridF f q m).length = q := by simp [gridF]
theorem rowF_congr {f g : Nat → Int} {m : Nat} (h : ∀ k, k < m → f k = g k) : rowF f m = rowF g m := by
  unfold rowF; exact List.map_congr_left fun k hk => h k (List.mem_range.1 hk)
theorem gridF_congr {f g : Nat → Nat → Int} {q m : Nat} (h : ∀ i, i < q → ∀ k, k < m → f i k = g i k) : gridF f q m = gridF g q m := by
  unfold gridF; exact List.map_congr_left fun i hi => rowF_congr (h i (List.mem_range.1 hi))
theorem rowF_get (f : Nat → Int) {m k : Nat} (h : k < m) : (rowF f m).getD k 0 = f k := by simp [rowF, List.getD, h]
def at1 (l : List Int) (i : Nat) : Int := l.getD i 0
theorem at1_lt {l : List Int} {i : Nat} (h : i < l.length) : at1 l i = l[i] := by
  unfold at1; rw [List.getD_eq_getElem?_getD, List.getElem?_eq_getElem h]; rfl
def whenL (b : Bool) (ll : List (List Int)) : List (List Int) := if b = true then ll else []
def whenN (b : Bool) (n : Int) : Int := if b = true then n else 0

/-! sizes, marks -/
def szI (n left : Int) : Int := if left - n < 0 then -1 else left - n
def szR : List (List Int) → Int → Int
  | [], left => left
  | l :: r, left => if szI l.length left < 0 then -1 else szR r (szI l.length left)
def szL (n : Nat) (ll : List (List Int)) (left : Int) : Int := if left - n < 0 then -1 else szR ll (left - n)
def mkI (k : Int) (n : Nat) : List Int := (List.range n).map fun i : Nat => k + (i : Int)
@[simp] theorem mkI_len (k : Int) (n : Nat) : (mkI k n).length = n := by simp [mkI]
def mkII (k : Int) : List (List Int) → List (List Int)
  | [] => []
  | l :: r => mkI k l.length :: mkII (k + l.length) r
def cnt : List (List Int) → Nat
  | [] => 0
  | l :: r => l.length + cnt r
@[simp] theorem mkII_len : ∀ (k : Int) (ll : List (List Int)), (mkII k ll).length = ll.length
  | _, [] => rfl
  | k, l :: r => by simp [mkII, mkII_len]
theorem cnt_append : ∀ a b : List (List Int), cnt (a ++ b) = cnt a + cnt b
  | [], b => by simp [cnt]
  | l :: a, b => by simp [cnt, cnt_append a b]; omega
theorem mkII_append : ∀ (a b : List (List Int)) (k : Int), mkII k (a ++ b) = mkII k a ++ mkII (k + cnt a) b
  | [], b, k => by simp [mkII, cnt]
  | l :: a, b, k => by simp [mkII, mkII_append a b, cnt]; congr 1; omega
theorem cnt_take (ll : List (List Int)) (i : Nat) (h : i < ll.length) : cnt (ll.take (i + 1)) = cnt (ll.take i) + ll[i].length := by
  rw [List.take_succ_eq_append_getElem h, cnt_append]; simp [cnt]
theorem cnt_take_le (ll : List (List Int)) (i : Nat) : cnt (ll.take i) ≤ cnt ll := by
  conv => rhs; rw [← List.take_append_drop i ll, cnt_append]
  omega
theorem mkI_set {l : List Int} {k : Int} {j : Nat} (h : j < l.length) : (mkI k j ++ l.drop j).set j (k + j) = mkI k (j + 1) ++ l.drop (j + 1) := by
  rw [List.set_append_right _ _ (by simp), mkI_len, Nat.sub_self, List.drop_eq_getElem_cons h, List.set_cons_zero]
  simp [mkI, List.range_succ]
theorem mkI_get {k : Int} {n j : Nat} (h : j < (mkI k n).length) : (mkI k n)[j] = k + j := by simp [mkI]
theorem szR_le : ∀ (ll : List (List Int)) (left : Int), 0 ≤ szR ll left → 0 ≤ left → (cnt ll : Int) + szR ll left = left ∧ ∀ l ∈ ll, (l.length : Int) ≤ left
  | [], left, _, _ => ⟨by simp [cnt, szR], fun _ h => by cases h⟩
  | l :: r, left, h, h0 => by
    unfold szR at h ⊢
    have h1 : ¬ szI l.length left < 0 := fun hl => by rw [if_pos hl] at h; omega
    rw [if_neg h1] at h ⊢
    have e : szI l.length left = left - l.length := by unfold szI at h1 ⊢; split at h1 <;> simp_all; omega
    have hnn : 0 ≤ left - l.length := by rw [e] at h1; omega
    rw [e] at h ⊢
    obtain ⟨a, b⟩ := szR_le r (left - l.length) h hnn
    refine ⟨by simp [cnt]; omega, fun x hx => ?_⟩
    rcases List.mem_cons.1 hx with rfl | hx
    · omega
    · have := b x hx; omega
theorem szL_le {n : Nat} {ll : List (List Int)} {left : Int} (h : 0 ≤ szL n ll left) (h0 : 0 ≤ left) : (n : Int) + cnt ll ≤ left ∧ ∀ l ∈ ll, (l.length : Int) ≤ left := by
  unfold szL at h
  split at h
  · omega
  · rename_i hn
    obtain ⟨a, b⟩ := szR_le ll (left - n) h (by omega)
    exact ⟨by omega, fun l hl => by have := b l hl; omega⟩
/-- a list that is filled from the front -/
def fillL {α : Type} (l : List α) (z : α) (k : Nat) : List α := l.take k ++ List.replicate (l.length - k) z
@[simp] theorem fillL_len {α : Type} (l : List α) (z : α) (k : Nat) : (fillL l z k).length = l.length := by simp [fillL]; omega
theorem fillL_zero {α : Type} (l : List α) (z : α) : fillL l z 0 = List.replicate l.length z := by simp [fillL]
theorem fillL_all {α : Type} (l : List α) (z : α) : fillL l z l.length = l := by simp [fillL]
theorem fillL_set {α : Type} {l : List α} (z : α) {k : Nat} (h : k < l.length) : (fillL l z k).set k l[k] = fillL l z (k + 1) := by
  unfold fillL
  have e : l.length - k = (l.length - (k + 1)) + 1 := by omega
  have hl : (l.take k).length = k := by simp; omega
  rw [e, List.replicate_succ, List.set_append_right _ _ (by omega), List.take_succ_eq_append_getElem h, hl, Nat.sub_self, List.set_cons_zero, List.append_assoc]
  rfl
/-- a list whose first j numbers are marked -/
def mkL (l : List Int) (k : Int) (j : Nat) : List Int := mkI k j ++ l.drop j
theorem mkL_zero (l : List Int) (k : Int) : mkL l k 0 = l := by simp [mkL, mkI]
theorem mkL_all (l : List Int) (k : Int) : mkL l k l.length = mkI k l.length := by simp [mkL]
@[simp] theorem mkL_len (l : List Int) (k : Int) {j : Nat} (h : j ≤ l.length) : (mkL l k j).length = l.length := by simp [mkL]; omega
theorem mkL_set {l : List Int} {k : Int} {j : Nat} (h : j < l.length) : (mkL l k j).set j (k + j) = mkL l k (j + 1) := mkI_set h
/-- lists of which the first j are marked -/
def mkLL (ll : List (List Int)) (k : Int) (j : Nat) : List (List Int) := mkII k (ll.take j) ++ ll.drop j
theorem mkLL_zero (ll : List (List Int)) (k : Int) : mkLL ll k 0 = ll := by simp [mkLL, mkII]
theorem mkLL_all (ll : List (List Int)) (k : Int) : mkLL ll k ll.length = mkII k ll := by simp [mkLL]
theorem mkLL_len (ll : List (List Int)) (k : Int) {j : Nat} (h : j ≤ ll.length) : (mkLL ll k j).length = ll.length := by simp [mkLL]; omega
theorem mkLL_get {ll : List (List Int)} {k : Int} {j : Nat} (h : j < ll.length) : (mkLL ll k j)[j]? = some ll[j] := by
  unfold mkLL
  rw [List.getElem?_append_right (by simp; omega), mkII_len, List.length_take, Nat.min_eq_left (by omega), Nat.sub_self, List.getElem?_drop]
  simp [h]
theorem mkLL_set {ll : List (List Int)} {k : Int} {j : Nat} (h : j < ll.length) : (mkLL ll k j).set j (mkI (k + cnt (ll.take j)) ll[j].length) = mkLL ll k (j + 1) := by
  unfold mkLL
  have hl : (mkII k (ll.take j)).length = j := by simp; omega
  rw [List.set_append_right _ _ (by omega), hl, Nat.sub_self, List.drop_eq_getElem_cons h, List.set_cons_zero, List.take_succ_eq_append_getElem h, mkII_append]
  simp [mkII]

theorem mkII_at {ll : List (List Int)} {k : Int} {j : Nat} (h : j < ll.length) : (mkII k ll)[j]? = some (mkI (k + cnt (ll.take j)) ll[j].length) := by
  have e : mkII k ll = mkII k (ll.take j) ++ mkII (k + cnt (ll.take j)) (ll.drop j) := by rw [← mkII_append, List.take_append_drop]
  rw [e, List.getElem?_append_right (by simp; omega), mkII_len, List.length_take, Nat.min_eq_left (by omega), Nat.sub_self, List.drop_eq_getElem_cons h]
  simp [mkII]
theorem szR_m1 : ∀ (ll : List (List Int)) (c : Int), 0 ≤ c → szR ll c < 0 → szR ll c = -1
  | [], c, h0, h => by simp [szR] at h; omega
  | l :: r, c, h0, h => by
    unfold szR at h ⊢
    split
    · rfl
    · rename_i h1; rw [if_neg h1] at h; exact szR_m1 r _ (by omega) h
theorem szL_m1 {n : Nat} {ll : List (List Int)} {c : Int} (h : szL n ll c < 0) : szL n ll c = -1 := by
  unfold szL at h ⊢
  split
  · rfl
  · rename_i h1; rw [if_neg h1] at h; exact szR_m1 ll _ (by omega) h
/-- the entry at a place that is a whole number -/
def atZ {α : Type} [Inhabited α] (l : List α) (i : Int) : α := l.getD i.toNat default
theorem atZ_nat {α : Type} [Inhabited α] {l : List α} {k : Nat} (h : k < l.length) : atZ l (k : Int) = l[k] := by
  simp [atZ, h]
theorem atZ_some {α : Type} [Inhabited α] {l : List α} {i : Int} (h0 : 0 ≤ i) (h1 : i < l.length) : l[i.toNat]? = some (atZ l i) := by
  have : i.toNat < l.length := by omega
  simp [atZ, this]
theorem map_at {α β : Type} {l : List α} {f : α → β} {n : Nat} {x : α} (h : l[n]? = some x) : ((l.map f).drop (n * 1)).take 1 = [f x] := by
  obtain ⟨hlt, rfl⟩ := List.getElem?_eq_some_iff.1 h
  rw [Nat.mul_one, List.drop_eq_getElem_cons (by simpa using hlt), List.take_succ_cons, List.take_zero]
  simp
/-- lists of 0 and 1 -/
def bitsB (l : List Int) (n : Int) : Bool := decide ((l.length : Int) = n) && allB l 0 1
theorem bitsB_len {l : List Int} {n : Int} (h : bitsB l n = true) : (l.length : Int) = n := by
  unfold bitsB at h; simp at h; omega
theorem bitsB_at {l : List Int} {n : Int} (h : bitsB l n = true) {i : Int} (h0 : 0 ≤ i) (h1 : i < n) : 0 ≤ atZ l i ∧ atZ l i ≤ 1 := by
  have hl := bitsB_len h
  unfold bitsB allB at h
  simp only [Bool.and_eq_true, List.all_eq_true] at h
  obtain ⟨k, rfl⟩ := Int.eq_ofNat_of_zero_le h0
  rw [atZ_nat (by omega)]
  exact inB_iff.1 (h.2 (l[k]'(by omega)) (List.getElem_mem _))
theorem cnt_len : ∀ (m : Nat) (ll : List (List Int)), (∀ l ∈ ll, l.length = m) → cnt ll = ll.length * m
  | m, [], _ => by simp [cnt]
  | m, l :: r, h => by
    have h1 := h l (List.mem_cons_self ..)
    have h2 := cnt_len m r fun x hx => h x (List.mem_cons_of_mem _ hx)
    simp only [cnt, List.length_cons, h1, h2]; rw [Nat.add_mul]; omega
theorem cnt_gridF (f : Nat → Nat → Int) (q m : Nat) : cnt (gridF f q m) = q * m := by
  rw [cnt_len m]
  · simp
  · intro l hl; unfold gridF at hl; obtain ⟨i, _, rfl⟩ := List.mem_map.1 hl; simp
theorem cnt_whenL (b : Bool) (ll : List (List Int)) : cnt (whenL b ll) ≤ cnt ll := by
  unfold whenL; split <;> simp [cnt]

end Go.Proofs.Ytefbiejoikpkmaa

namespace Go.Proofs.Ytefbiejoikpkmaa
open Go.RowKit
set_option linter.unusedSectionVars false
variable [Glb]
open Go Go.RowKit
/-! parts of lists -/
section
variable {P : Program} {st : St} {dst : Option Tmp} {ty : TypeId} {pos : String} {af : Array Edge}
def bndOK (v : Option (IntKind × Int)) (i z : Nat) : Prop := match v with | some (_, l) => 0 ≤ l ∧ l.toNat = i | none => i = z
theorem run_sliced {T : TypeId} {sz : Nat} (ht : tSl P T sz = true) (ao : Option Addr) (n cap : Nat) (lo hi : Option (IntKind × Int)) (i j : Nat)
    (hlo : bndOK lo i 0) (hhi : bndOK hi j n) (hij : i ≤ j) (hj : j ≤ n) (hnc : n ≤ cap) (w : World) :
    (Instr.sliceAt T (.slice ao n cap) (lo.map fun x => .int x.1 x.2) (hi.map fun x => .int x.1 x.2) none).run P w = .ok (.slice (if cap = i then ao else ao.map (·.add (i * sz))) (j - i) (cap - i)) w := by
  obtain ⟨E, inf, hT, hE, rfl⟩ := tSl_spec ht
  have hs : ∀ w', (sizeOf E).run P w' = .ok inf.size w' := fun w' => by simp [sizeOf, typeInfo, hE]
  cases lo with
  | none =>
    have hlo : i = 0 := hlo
    subst hlo
    cases hi with
    | none =>
      have hhi : j = n := hhi
      subst hhi
      simp [Instr.sliceAt, Instr.slice, underlying, hT, Instr.sliceBounds, hs]
    | some h =>
      obtain ⟨kh, h⟩ := h
      obtain ⟨h0, rfl⟩ : 0 ≤ h ∧ h.toNat = j := hhi
      simp [Instr.sliceAt, Instr.slice, underlying, hT, Instr.sliceBounds, Instr.sliceBound, asIntOf, hs, h0, show h ≤ cap by omega]
  | some l =>
    obtain ⟨kl, l⟩ := l
    obtain ⟨l0, rfl⟩ : 0 ≤ l ∧ l.toNat = i := hlo
    cases hi with
    | none =>
      have hhi : j = n := hhi
      subst hhi
      simp [Instr.sliceAt, Instr.slice, underlying, hT, Instr.sliceBounds, Instr.sliceBound, asIntOf, hs, l0, show l ≤ j by omega]
    | some h =>
      obtain ⟨kh, h⟩ := h
      obtain ⟨h0, rfl⟩ : 0 ≤ h ∧ h.toNat = j := hhi
      simp [Instr.sliceAt, Instr.slice, underlying, hT, Instr.sliceBounds, Instr.sliceBound, asIntOf, hs, l0, h0, show h ≤ cap by omega, show l ≤ max h 0 by omega]
theorem vw_slice {w : World} {ao : Option Addr} {n cap sz : Nat} {ds : List D} {F : List Nat} (h : Vw w (.slice ao n cap) (.sl sz n ds) F) {i j : Nat} (hij : i ≤ j) (hj : j ≤ n) :
    ∃ F', Vw w (.slice (if cap = i then ao else ao.map (·.add (i * sz))) (j - i) (cap - i)) (.sl sz (j - i) ((ds.drop (i * sz)).take ((j - i) * sz))) F' ∧ ∀ b ∈ F', b ∈ F := by
  cases h with
  | sl _ _ _ _ _ us Fs hn hz hle hs hc hr =>
    have hb : i * sz + (j - i) * sz ≤ ds.length := by rw [hn, ← Nat.add_mul]; exact Nat.mul_le_mul_right _ (by omega)
    have hlen : ((ds.drop (i * sz)).take ((j - i) * sz)).length = (j - i) * sz := by simp; omega
    refine ⟨_, .sl _ _ _ _ _ (fun k => us (i * sz + k)) (fun k => Fs (i * sz + k)) hlen hz ⟨by omega, by omega⟩ (fun h0 => ?_) (fun k hk => ?_) (fun k hk => ?_), fun b hb' => ?_⟩
    · have := hs (by omega)
      split
      · exact this
      · cases ao with
        | none => cases this
        | some a => rfl
    · rw [hlen] at hk
      have h0 : 0 < j - i := Nat.pos_of_ne_zero fun e => by rw [e] at hk; simp at hk
      obtain ⟨a, rfl⟩ := Option.isSome_iff_exists.1 (hs (by omega))
      rw [if_neg (by omega)]
      simp only [Option.map_some, adrO_some]
      rw [adr_add]; exact hc _ (by omega)
    · simp only [List.getElem_take, List.getElem_drop]; exact hr _ (by rw [hlen] at hk; omega)
    · by_cases h0 : j - i = 0
      · rw [if_pos h0] at hb'; cases hb'
      · rw [if_neg h0] at hb'
        rw [if_neg (by omega)]
        obtain ⟨a, rfl⟩ := Option.isSome_iff_exists.1 (hs (by omega))
        rw [if_neg (by omega)] at hb'
        rcases List.mem_cons.1 hb' with rfl | hb'
        · simp only [Option.map_some, adrO_some]; rw [adr_block]; exact List.mem_cons_self ..
        · obtain ⟨k, hk, hb'⟩ := mem_parts.1 hb'
          rw [hlen] at hk
          exact List.mem_cons_of_mem _ (mem_parts.2 ⟨i * sz + k, by omega, hb'⟩)
theorem qt_slice_d {T : TypeId} {x : Operand} {lo hi : Option Operand} {sz n m : Nat} {ds ds' : List D} {vl vh : Option (IntKind × Int)} {i j : Nat} (hx : st.ev x = .c (.d (.sl sz n ds)))
    (hl : ∀ a w ρ (Ψ : Nat → Prop), (∀ y, FR w ρ Ψ (Act.eval a y) (st.ev y)) → lo.map a.eval = vl.map fun x => .int x.1 x.2) (hh : ∀ a w ρ (Ψ : Nat → Prop), (∀ y, FR w ρ Ψ (Act.eval a y) (st.ev y)) → hi.map a.eval = vh.map fun x => .int x.1 x.2) (ht : tSl P T sz = true)
    (hlo : bndOK vl i 0) (hhi : bndOK vh j n) (hij : i ≤ j) (hj : j ≤ n) (hm' : j - i = m) (hd : (ds.drop (i * sz)).take (m * sz) = ds') :
    Qt P ⟨dst, .slice T x lo hi none, ty, pos, af, none⟩ st (.c (.d (.sl sz m ds'))) := fun w0 ρ Φ a w hm => by
  subst hm' hd
  have h := hm.ev x
  rw [hx] at h
  obtain ⟨F, h', hF⟩ := h.d_inv
  have e1 := hl a w ρ _ fun y => hm.ev y
  have e2 := hh a w ρ _ fun y => hm.ev y
  generalize hv : a.eval x = v at *
  have h2 := h'
  cases h' with
  | sl ao _ cap _ _ us Fs hn hz hle hs hc hr =>
    obtain ⟨F', hF', hsub⟩ := vw_slice h2 hij hj
    exact ⟨_, fun w' _ => by simp only [execOp, hv, Option.map_none, e1, e2, Sem.run_bind, run_sliced ht ao n cap vl vh i j hlo hhi hij hj hle.2, Result.andThen_ok, Sem.run_pure], .c _ _ (.d _ _ _ hF' fun b hb => hF b (hsub b hb))⟩
theorem ev_some {y : Operand} {k : IntKind} {i : Int} (h : st.ev y = .c (.d (.lit (.int k i)))) (a : Act) (w : World) (ρ : Nat → Option Nat) (Ψ : Nat → Prop) (hm : ∀ y, FR w ρ Ψ (a.eval y) (st.ev y)) :
    (some y).map a.eval = (some (k, i)).map fun x : IntKind × Int => Value.int x.1 x.2 := by
  have := hm y; rw [h] at this; simp [this.lit_inv]
theorem qt_slice_lsG {T : TypeId} {x : Operand} {lo hi : Option Operand} {b sz off n : Nat} {vl vh : Option (IntKind × Int)} {i j : Nat} (hx : st.ev x = .c (.ls b sz off n))
    (hl : ∀ a w ρ (Ψ : Nat → Prop), (∀ y, FR w ρ Ψ (Act.eval a y) (st.ev y)) → lo.map a.eval = vl.map fun x => .int x.1 x.2) (hh : ∀ a w ρ (Ψ : Nat → Prop), (∀ y, FR w ρ Ψ (Act.eval a y) (st.ev y)) → hi.map a.eval = vh.map fun x => .int x.1 x.2) (ht : tSl P T sz = true)
    (hlo : bndOK vl i 0) (hhi : bndOK vh j n) (hij : i ≤ j) (hj : j ≤ n) (hlt : i = 0 ∨ i < n) :
    Qt P ⟨dst, .slice T x lo hi none, ty, pos, af, none⟩ st (.c (.ls b sz (off + i * sz) (j - i))) := fun w0 ρ Φ a w hm => by
  have h := hm.ev x
  rw [hx] at h
  have e1 := hl a w ρ _ fun y => hm.ev y
  have e2 := hh a w ρ _ fun y => hm.ev y
  generalize hv : a.eval x = v at *
  rcases ls_inv h.c_inv with ⟨h0, rfl, rfl, rfl⟩ | ⟨g, cap, cs, E', hρ, rfl, hnc, hle, hg', hcap⟩
  · have hi0 : i = 0 := by omega
    have hj0 : j = 0 := by omega
    subst hi0 hj0
    refine ⟨.slice none 0 0, fun w' _ => by simp only [execOp, hv, Option.map_none, e1, e2, Sem.run_bind, run_sliced ht none 0 0 vl vh 0 0 hlo hhi hij hj (Nat.le_refl _), Result.andThen_ok, Sem.run_pure]; rfl, .c _ _ ?_⟩
    rw [Nat.zero_mul]
    exact .ls0 b sz h0
  · refine ⟨.slice (if cap = i then some ⟨g, off, none⟩ else (some (⟨g, off, none⟩ : Addr)).map (·.add (i * sz))) (j - i) (cap - i), fun w' _ => by simp only [execOp, hv, Option.map_none, e1, e2, Sem.run_bind, run_sliced ht (some ⟨g, off, none⟩) n cap vl vh i j hlo hhi hij hj hnc, Result.andThen_ok, Sem.run_pure], .c _ _ ?_⟩
    have hcs : off + i * sz + (cap - i) * sz ≤ cs.size := by
      have : i * sz + (cap - i) * sz = cap * sz := by rw [← Nat.add_mul]; congr 1; omega
      omega
    by_cases hc : cap = i
    · have hi0 : i = 0 := by omega
      rw [if_pos hc, hi0, Nat.zero_mul, Nat.add_zero]
      rw [hi0, Nat.zero_mul] at hcs
      exact .ls b g sz off _ _ cs E' hρ (by omega) (by omega) hg' (by omega)
    · rw [if_neg hc, Option.map_some, adr_mk]
      exact .ls b g sz _ _ _ cs E' hρ (by omega) (by omega) hg' hcs
theorem qt_slice_ls10 {T : TypeId} {x lo : Operand} {b sz off n : Nat} {kl : IntKind} {i : Int} (hx : st.ev x = .c (.ls b sz off n)) (hl : st.ev lo = .c (.d (.lit (.int kl i)))) (ht : tSl P T sz = true) (h0 : 0 ≤ i) (h1 : i < n) :
    Qt P ⟨dst, .slice T x (some lo) none none, ty, pos, af, none⟩ st (.c (.ls b sz (off + i.toNat * sz) (n - i.toNat))) :=
  qt_slice_lsG (vl := some (kl, i)) (vh := none) hx (ev_some hl) (fun _ _ _ _ _ => rfl) ht ⟨h0, rfl⟩ rfl (by omega) (Nat.le_refl _) (by omega)
theorem qt_slice_ls01 {T : TypeId} {x hi : Operand} {b sz off n : Nat} {kh : IntKind} {j : Int} (hx : st.ev x = .c (.ls b sz off n)) (hh : st.ev hi = .c (.d (.lit (.int kh j)))) (ht : tSl P T sz = true) (h0 : 0 ≤ j) (h1 : j ≤ n) :
    Qt P ⟨dst, .slice T x none (some hi) none, ty, pos, af, none⟩ st (.c (.ls b sz off j.toNat)) := by
  have := qt_slice_lsG (dst := dst) (ty := ty) (pos := pos) (af := af) (P := P) (st := st) (T := T) (x := x) (lo := none) (hi := some hi) (vl := none) (vh := some (kh, j)) (i := 0) (j := j.toNat) hx (fun _ _ _ _ _ => rfl) (ev_some hh) ht rfl ⟨h0, rfl⟩ (by omega) (by omega) (.inl rfl)
  rwa [Nat.zero_mul, Nat.add_zero, Nat.sub_zero] at this
theorem qt_slice_ls11 {T : TypeId} {x lo hi : Operand} {b sz off n : Nat} {kl kh : IntKind} {i j : Int} (hx : st.ev x = .c (.ls b sz off n)) (hl : st.ev lo = .c (.d (.lit (.int kl i)))) (hh : st.ev hi = .c (.d (.lit (.int kh j)))) (ht : tSl P T sz = true) (h0 : 0 ≤ i) (h1 : i ≤ j) (h2 : j ≤ n ∧ (i = 0 ∨ i < n)) :
    Qt P ⟨dst, .slice T x (some lo) (some hi) none, ty, pos, af, none⟩ st (.c (.ls b sz (off + i.toNat * sz) (j.toNat - i.toNat))) :=
  qt_slice_lsG (vl := some (kl, i)) (vh := some (kh, j)) hx (ev_some hl) (ev_some hh) ht ⟨h0, rfl⟩ ⟨by omega, rfl⟩ (by omega) (by omega) (by omega)
/-- a part of a list -/
def partZ {α : Type} (l : List α) (i j : Int) : List α := (l.drop i.toNat).take (j.toNat - i.toNat)
theorem partZ_len {α : Type} {l : List α} {i j : Int} (h2 : j ≤ l.length) : (partZ l i j).length = j.toNat - i.toNat := by simp [partZ]; omega
theorem map_part {α β : Type} (l : List α) (f : α → β) (i j : Int) : ((l.map f).drop (i.toNat * 1)).take ((j.toNat - i.toNat) * 1) = (partZ l i j).map f := by
  simp [partZ, List.map_take, List.map_drop]
end
section
variable {P : Program} {st : St} {dst : Option Tmp} {ty : TypeId} {pos : String} {af : Array Edge}
theorem parts_nil (n : Nat) : parts n (fun _ => []) = [] := by simp [parts]
/-- A box of numbers, seen as a row. -/
theorem sim_box_row {b : Nat} {cs : List C} {vs : List Value} (hb : st.bl b = some (.box cs)) (he : cs = vs.map fun v => C.d (.lit v)) :
    ∀ κ a w, Sim κ st a w → Sim κ (st.setB b (some (.row 1 (vs.map D.lit)))) a w := by
  subst he
  rintro κ a w ⟨ρ, Φ, hm⟩
  refine ⟨ρ, Φ, hm.below, hm.size, hm.nb, hm.pin, hm.defers, hm.fr, fun k x hx => ?_, fun k hk => ?_, hm.low, hm.nd, hm.dj⟩
  · simp only [St.setB] at hx
    by_cases hkb : k = b
    · subst hkb
      rw [if_pos rfl] at hx; cases hx
      have h0 := hm.bl k _ hb
      generalize ρ k = r at h0 ⊢
      generalize Φ k = F at h0 ⊢
      cases h0 with
      | box g us E _ hg hl hr =>
        have hl' : us.size = vs.length := by simpa using hl
        have e : [g] = g :: parts (vs.map D.lit).length (fun _ => []) := by rw [parts_nil]
        rw [e]
        refine .row g us E 1 _ (fun j => us.getD j undef) (fun _ => []) (by decide) hg (by simp; omega) (fun j hj => ?_) (fun j hj => ?_)
        · have hj' : j < us.size := by simp at hj; omega
          simp [Array.getD, hj']
        · have hj' : j < vs.length := by simpa using hj
          have := hr j (by simpa using hj')
          simp only [List.getElem_map] at this ⊢
          generalize us.getD j undef = u at this ⊢
          generalize vs[j] = z at this ⊢
          cases this with
          | d _ _ F h hF => cases h with | lit _ h => exact .lit _ h
    · rw [if_neg hkb] at hx; exact hm.bl k x hx
  · simp only [St.setB] at hk
    by_cases hkb : k = b
    · rw [if_pos hkb] at hk; cases hk
    · rw [if_neg hkb] at hk; exact hm.emp k hk
theorem qt_slice_arr {T : TypeId} {x : Operand} {b n sz : Nat} {ds : List D} (hx : st.ev x = .c (.lp b 0)) (hb : st.bl b = some (.row sz ds)) (ht : tArr P T n sz = true) (hn : ds.length = n * sz) (h1 : Nat.ble n 1000000 = true) :
    Qt P ⟨dst, .slice T x none none none, ty, pos, af, none⟩ st (.c (.ls b sz 0 n)) := fun w0 ρ Φ a w hm => by
  have h1 : n ≤ 1000000 := by simpa using h1
  obtain ⟨E, i, hT, hi, rfl⟩ := tArr_spec ht
  have hp := hm.ev x
  rw [hx] at hp
  obtain ⟨g, hρ, hv⟩ := lp_inv hp.c_inv
  rcases hm.rowN hb with ⟨h0, rfl, _⟩ | ⟨g', us, E', vs, Fs, hρ', hΦ, hz, hg, hl, hcc, hr⟩
  · rw [h0] at hρ; cases hρ
  · rw [hρ] at hρ'; cases hρ'
    refine ⟨.slice (some ⟨g, 0, none⟩) n n, fun w' _ => ?_, .c _ _ (.ls b g i.size 0 n n us E' hρ (Nat.le_refl _) (by omega) hg (by omega))⟩
    have ha : (⟨g, 0, none⟩ : Addr).add 0 = ⟨g, 0, none⟩ := by unfold Addr.add; simp
    simp [execOp, hv, Instr.sliceAt, underlying, hT, Instr.sureAddr, Instr.sliceBounds, sizeOf, typeInfo, hi, ha]
end
section
variable {P : Program} {st : St} {dst : Option Tmp} {ty : TypeId} {pos : String} {af : Array Edge}
theorem run_idxa {T : TypeId} {n sz : Nat} (ht : tArr P T n sz = true) {a : Addr} {k : IntKind} {i : Int} (h0 : 0 ≤ i) (h1 : i < n) (w : World) :
    (Instr.indexAt T (.pointer (some a)) (.int k i)).run P w = .ok (.pointer (some (a.add (i.toNat * sz)))) w := by
  obtain ⟨E, inf, hT, hi, rfl⟩ := tArr_spec ht
  simp [Instr.indexAt, asIntOf, underlying, hT, Instr.sureAddr, sizeOf, typeInfo, hi, h0, h1]
theorem qt_idxa_lp {T : TypeId} {x y : Operand} {b off n sz : Nat} {k : IntKind} {i : Int} (hx : st.ev x = .c (.lp b off)) (hy : st.ev y = .c (.d (.lit (.int k i)))) (ht : tArr P T n sz = true) (h0 : 0 ≤ i) (h1 : i < n) :
    Qt P ⟨dst, .indexAddr T x y, ty, pos, af, none⟩ st (.c (.lp b (off + i.toNat * sz))) := fun w0 ρ Φ a w hm => by
  have h := hm.ev x
  rw [hx] at h
  have hi : a.eval y = .int k i := FR.lit_inv (by rw [← hy]; exact hm.ev y)
  obtain ⟨g, hρ, hv⟩ := lp_inv h.c_inv
  exact ⟨.pointer (some ((⟨g, off, none⟩ : Addr).add (i.toNat * sz))), fun w' _ => by simp [execOp, hv, hi, run_idxa ht h0 h1], by rw [adr_mk]; exact .c _ _ (.lp b g _ hρ)⟩
end
attribute [irreducible] partZ

end Go.Proofs.Ytefbiejoikpkmaa

namespace Go.Proofs.Ytefbiejoikpkmaa
open Go.RowKit
set_option linter.unusedSectionVars false
variable [Glb]
/-! texts as lists of bytes -/
abbrev Tx := List UInt8
def bsT (l : Tx) : ByteArray := ⟨l.toArray⟩
theorem bsT_size (l : Tx) : (bsT l).size = l.length := by simp [bsT, ByteArray.size]
theorem bsT_data (s : ByteArray) : bsT s.data.toList = s := by cases s; simp [bsT]
theorem bsT_inj {a b : Tx} : bsT a = bsT b ↔ a = b := by
  constructor
  · intro h
    have : (bsT a).data.toList = (bsT b).data.toList := by rw [h]
    simpa [bsT] using this
  · rintro rfl; rfl
theorem bsT_emp : ByteArray.empty = bsT [] := rfl
theorem bsT_nil : (⟨#[]⟩ : ByteArray) = bsT [] := rfl
theorem bsT_append (a b : Tx) : bsT a ++ bsT b = bsT (a ++ b) := by
  apply ByteArray.ext
  rw [ByteArray.data_append]
  simp [bsT]
theorem bsT_extract (a : Tx) (i j : Nat) : (bsT a).extract i j = bsT ((a.take j).drop i) := by
  apply ByteArray.ext
  rw [ByteArray.data_extract]
  simp [bsT, List.extract_eq_take_drop, List.drop_take]
/-- what stands ahead of the first b -/
def bef (b : UInt8) : Tx → Tx
  | [] => []
  | x :: r => if x = b then [] else x :: bef b r
def aft (b : UInt8) : Tx → Tx
  | [] => []
  | x :: r => if x = b then r else aft b r
theorem bef_miss {b : UInt8} : ∀ {s : Tx}, b ∉ s → bef b s = s
  | [], _ => rfl
  | x :: r, h => by
    rw [List.mem_cons, not_or] at h
    rw [bef, if_neg (Ne.symm h.1), bef_miss h.2]
theorem aft_miss {b : UInt8} : ∀ {s : Tx}, b ∉ s → aft b s = []
  | [], _ => rfl
  | x :: r, h => by
    rw [List.mem_cons, not_or] at h
    rw [aft, if_neg (Ne.symm h.1), aft_miss h.2]
theorem bef_app {b : UInt8} : ∀ {x y : Tx}, b ∉ x → bef b (x ++ b :: y) = x
  | [], y, _ => by simp [bef]
  | z :: x, y, h => by
    rw [List.mem_cons, not_or] at h
    rw [List.cons_append, bef, if_neg (Ne.symm h.1), bef_app h.2]
theorem aft_app {b : UInt8} : ∀ {x y : Tx}, b ∉ x → aft b (x ++ b :: y) = y
  | [], y, _ => by simp [aft]
  | z :: x, y, h => by
    rw [List.mem_cons, not_or] at h
    rw [List.cons_append, aft, if_neg (Ne.symm h.1), aft_app h.2]
theorem split_at_b {b : UInt8} : ∀ {s : Tx}, b ∈ s → s = bef b s ++ b :: aft b s ∧ b ∉ bef b s
  | [], h => by cases h
  | x :: r, h => by
    by_cases hx : x = b
    · rw [bef, aft, if_pos hx, if_pos hx, hx]; exact ⟨rfl, fun h => by cases h⟩
    · have hr : b ∈ r := by rcases List.mem_cons.1 h with e | e; exact absurd e.symm hx; exact e
      obtain ⟨e, n⟩ := split_at_b hr
      rw [bef, aft, if_neg hx, if_neg hx]
      refine ⟨by rw [List.cons_append, ← e], fun hm => ?_⟩
      rcases List.mem_cons.1 hm with e' | e'
      · exact hx e'.symm
      · exact n e'
/-- the parts of a text between bytes -/
def splitT (b : UInt8) : Tx → List Tx
  | [] => [[]]
  | x :: r => if x = b then [] :: splitT b r else match splitT b r with | [] => [[x]] | h :: t => (x :: h) :: t
theorem splitT_bef (b : UInt8) : ∀ s, ∃ t, splitT b s = bef b s :: t
  | [] => ⟨[], rfl⟩
  | x :: r => by
    unfold splitT
    by_cases hx : x = b
    · rw [if_pos hx]; exact ⟨splitT b r, by simp [bef, hx]⟩
    · rw [if_neg hx]
      obtain ⟨t, e⟩ := splitT_bef b r
      rw [e]; exact ⟨t, by simp [bef, hx]⟩
theorem splitT_ne (b : UInt8) (s : Tx) : splitT b s ≠ [] := by obtain ⟨t, e⟩ := splitT_bef b s; rw [e]; simp
theorem splitT_len (b : UInt8) : ∀ s, ((splitT b s).length < 2 ↔ b ∉ s)
  | [] => by simp [splitT]
  | x :: r => by
    unfold splitT
    by_cases hx : x = b
    · rw [if_pos hx]
      obtain ⟨t, e⟩ := splitT_bef b r
      rw [e]; simp [hx]
    · rw [if_neg hx]
      have ih := splitT_len b r
      obtain ⟨t, e⟩ := splitT_bef b r
      rw [e] at ih ⊢
      simp only [List.length_cons, List.mem_cons, not_or] at ih ⊢
      constructor
      · intro h; exact ⟨fun h' => hx h'.symm, ih.1 h⟩
      · rintro ⟨_, h⟩; exact ih.2 h
def preT (p : Tx) : List Tx → List Tx
  | [] => [p]
  | h :: t => (p ++ h) :: t
theorem preT_nil {l : List Tx} (h : l ≠ []) : preT [] l = l := by cases l; exact absurd rfl h; rfl
theorem split_hit {b : UInt8} {s p : Tx} {i : Nat} (h : i < s.length) (e : s[i] = b) : preT p (splitT b (s.drop i)) = [p] ++ preT [] (splitT b (s.drop (i + 1))) := by
  rw [List.drop_eq_getElem_cons h, preT_nil (splitT_ne b _)]
  simp [splitT, e, preT]
theorem split_no {b : UInt8} {s p : Tx} {i : Nat} (h : i < s.length) (e : s[i] ≠ b) : preT p (splitT b (s.drop i)) = preT (p ++ [s[i]]) (splitT b (s.drop (i + 1))) := by
  rw [List.drop_eq_getElem_cons h]
  obtain ⟨t, e2⟩ := splitT_bef b (s.drop (i + 1))
  simp [splitT, e, e2, preT]
/-- a text's checksum -/
def sumN (s : Tx) : Nat := s.foldl (fun h c => (41 * h + c.toNat + 1) % 999979) 7
theorem sumN_nil : sumN [] = 7 := rfl
theorem sumN_snoc (s : Tx) (c : UInt8) : sumN (s ++ [c]) = (41 * sumN s + c.toNat + 1) % 999979 := by simp [sumN]
theorem sumN_take {s : Tx} {i : Nat} (h : i < s.length) : sumN (s.take (i + 1)) = (41 * sumN (s.take i) + s[i].toNat + 1) % 999979 := by
  rw [List.take_succ_eq_append_getElem h, sumN_snoc]
theorem sumN_lt (s : Tx) : sumN s < 999979 := by
  rcases List.eq_nil_or_concat s with rfl | ⟨l, c, rfl⟩
  · decide
  · rw [List.concat_eq_append, sumN_snoc]; omega
/-- numbers as texts -/
def numT (n : Nat) : Tx := Go.Lib.decDigits n
theorem numT_rec (n : Nat) : numT n = if n < 10 then [UInt8.ofNat (48 + n)] else numT (n / 10) ++ [UInt8.ofNat (48 + n % 10)] := by
  unfold numT; rw [Go.Lib.decDigits]; split <;> rfl
theorem dig_lt {n : Nat} (h : n < 10) : (UInt8.ofNat (48 + n)).toNat = 48 + n := by
  rw [UInt8.toNat_ofNat']; omega
theorem numT_dig (n : Nat) : ∀ b ∈ numT n, 48 ≤ b.toNat ∧ b.toNat ≤ 57 := by
  induction n using Nat.strongRecOn with
  | ind n ih =>
    rw [numT_rec]
    split
    · intro b hb; rw [List.mem_singleton] at hb; subst hb; rw [dig_lt (by assumption)]; omega
    · intro b hb
      rcases List.mem_append.1 hb with hb | hb
      · exact ih _ (by omega) b hb
      · rw [List.mem_singleton] at hb; subst hb; rw [dig_lt (n := n % 10) (by omega)]; omega
theorem numT_len (m : Nat) : ∀ n, n < 10 ^ (m + 1) → 1 ≤ (numT n).length ∧ (numT n).length ≤ m + 1 := by
  induction m with
  | zero => intro n h; rw [numT_rec, if_pos (by omega)]; simp
  | succ m ih =>
    intro n h
    rw [numT_rec]
    split
    · simp
    · have := ih (n / 10) (by rw [Nat.div_lt_iff_lt_mul (by omega)]; rw [Nat.pow_succ] at h; exact h)
      simp; omega
def digT : Tx := [48, 49, 50, 51, 52, 53, 54, 55, 56, 57]
theorem dig_at {n : Nat} (h : n < 10) : (digT.drop n).take 1 = [UInt8.ofNat (48 + n)] := by
  have : ∀ n : Fin 10, (digT.drop n.val).take 1 = [UInt8.ofNat (48 + n.val)] := by decide
  exact this ⟨n, h⟩
/-- records -/
def plB (b : UInt8) : Bool := decide (32 ≤ b.toNat) && decide (b.toNat ≤ 126)
def bytB (s : Tx) (most : Int) : Bool := (s.all fun b => plB b && b != 35) && decide ((s.length : Int) ≤ most)
def recB (c r : Tx) : Bool := decide (c ≠ []) && bytB c 160 && !c.contains 64 && bytB r 250
def plainB (s : Tx) (most : Int) (o : Tx) : Bool := s.all plB && (decide ((s.length : Int) ≤ most) && !(s.any fun b => o.contains b))
theorem recB_eq (c r : Tx) : (decide (c ≠ []) && plainB c 160 [35, 64] && plainB r 250 [35]) = recB c r := by
  have h1 : ∀ s : Tx, (s.all plB && !(s.any fun b => [35, 64].contains b)) = ((s.all fun b => plB b && b != 35) && !s.contains 64) := by
    intro s; induction s with
    | nil => rfl
    | cons x s ih =>
      simp only [List.all_cons, List.any_cons, List.contains_cons, List.contains_nil, Bool.or_false, Bool.not_or] at ih ⊢
      rw [show (plB x && s.all plB && ((!(x == 35) && !(x == 64)) && !s.any fun b => b == 35 || b == 64)) = (plB x && (!(x == 35) && !(x == 64)) && (s.all plB && !s.any fun b => b == 35 || b == 64)) by ac_rfl, ih]
      rw [show (64 == x) = (x == 64) by rw [Bool.beq_comm (α := UInt8)]]
      simp only [bne]
      ac_rfl
  have h2 : ∀ s : Tx, (s.all plB && !(s.any fun b => [35].contains b)) = (s.all fun b => plB b && b != 35) := by
    intro s; induction s with
    | nil => rfl
    | cons x s ih =>
      simp only [List.all_cons, List.any_cons, List.contains_cons, List.contains_nil, Bool.or_false, Bool.not_or] at ih ⊢
      rw [← ih]; simp only [bne]; ac_rfl
  unfold recB plainB bytB
  rw [show ((c.all plB && (decide ((c.length : Int) ≤ 160) && !(c.any fun b => [35, 64].contains b)))) = ((c.all plB && !(c.any fun b => [35, 64].contains b)) && decide ((c.length : Int) ≤ 160)) by ac_rfl, h1]
  rw [show ((r.all plB && (decide ((r.length : Int) ≤ 250) && !(r.any fun b => [35].contains b)))) = ((r.all plB && !(r.any fun b => [35].contains b)) && decide ((r.length : Int) ≤ 250)) by ac_rfl, h2]
  ac_rfl
structure RecP (c r : Tx) : Prop where
  ne : c ≠ []
  cl : c.length ≤ 160
  rl : r.length ≤ 250
  c35 : 35 ∉ c
  c10 : 10 ∉ c
  c64 : 64 ∉ c
  r35 : 35 ∉ r
  r10 : 10 ∉ r
theorem bytB_p {s : Tx} {most : Int} (h : bytB s most = true) : (s.length : Int) ≤ most ∧ 35 ∉ s ∧ 10 ∉ s := by
  unfold bytB plB at h
  simp only [Bool.and_eq_true, List.all_eq_true, decide_eq_true_eq, bne_iff_ne, ne_eq] at h
  refine ⟨h.2, fun hm => (h.1 _ hm).2 rfl, fun hm => ?_⟩
  have := (h.1 _ hm).1.1
  simp at this
theorem recB_p {c r : Tx} (h : recB c r = true) : RecP c r := by
  unfold recB at h
  simp only [Bool.and_eq_true, decide_eq_true_eq, Bool.not_eq_true', List.contains_eq_mem, decide_eq_false_iff_not] at h
  obtain ⟨⟨⟨h1, h2⟩, h3⟩, h4⟩ := h
  have a := bytB_p h2; have b := bytB_p h4
  exact ⟨h1, by omega, by omega, a.2.1, a.2.2, h3, b.2.1, b.2.2⟩
def sealT (s : Tx) : Tx := s ++ [35] ++ numT (sumN s)
def textT (k : Nat) (c r : Tx) : Tx := numT k ++ [32] ++ c ++ [64] ++ r
def lineT (k : Nat) (c r : Tx) : Tx := sealT (textT k c r)
theorem numT_no {n : Nat} {b : UInt8} (h : b.toNat < 48 ∨ 57 < b.toNat) : b ∉ numT n := fun hm => by have := numT_dig n b hm; omega
theorem num60 {k : Nat} (h : k < 60) : 1 ≤ (numT k).length ∧ (numT k).length ≤ 2 := numT_len 1 k (by omega)
theorem numS (s : Tx) : 1 ≤ (numT (sumN s)).length ∧ (numT (sumN s)).length ≤ 6 := numT_len 5 _ (by have := sumN_lt s; omega)
theorem text35 {k : Nat} {c r : Tx} (h : RecP c r) : 35 ∉ textT k c r := by
  have := numT_no (n := k) (b := 35) (by decide)
  simp [textT, this, h.c35, h.r35]
theorem text_len {k : Nat} {c r : Tx} (hk : k < 60) (h : RecP c r) : (textT k c r).length ≤ 414 := by
  have := num60 hk; have := h.cl; have := h.rl
  simp [textT]; omega
theorem seal_len (s : Tx) : s.length + 2 ≤ (sealT s).length ∧ (sealT s).length ≤ s.length + 7 := by have := numS s; simp [sealT]; omega
theorem seal_bef {s : Tx} (h : 35 ∉ s) : bef 35 (sealT s) = s := by
  unfold sealT; rw [List.append_assoc]; exact bef_app h
theorem line10 {k : Nat} {c r : Tx} (h : RecP c r) : 10 ∉ lineT k c r := by
  have h1 := numT_no (n := k) (b := 10) (by decide); have h2 := numT_no (n := sumN (textT k c r)) (b := 10) (by decide)
  simp only [lineT, sealT, List.mem_append, not_or]
  refine ⟨⟨?_, by decide⟩, h2⟩
  simp [textT, h1, h.c10, h.r10]
theorem text_parse {k : Nat} {c r : Tx} (h : RecP c r) : aft 32 (textT k c r) = c ++ 64 :: r ∧ bef 64 (c ++ 64 :: r) = c ∧ aft 64 (c ++ 64 :: r) = r := by
  refine ⟨?_, bef_app h.c64, aft_app h.c64⟩
  have : textT k c r = numT k ++ 32 :: (c ++ 64 :: r) := by simp [textT]
  rw [this]; exact aft_app (numT_no (by decide))
/-- the record of a line -/
def decT (k : Nat) (l : Tx) : Option (Tx × Tx) :=
  let e := aft 32 (bef 35 l)
  if recB (bef 64 e) (aft 64 e) = true ∧ lineT k (bef 64 e) (aft 64 e) = l then some (bef 64 e, aft 64 e) else none
theorem decT_iff {k : Nat} {l c r : Tx} : decT k l = some (c, r) ↔ recB c r = true ∧ lineT k c r = l := by
  constructor
  · unfold decT; simp only; split
    · rename_i h; intro e; simp only [Option.some.injEq, Prod.mk.injEq] at e; obtain ⟨rfl, rfl⟩ := e; exact h
    · intro e; cases e
  · rintro ⟨h1, rfl⟩
    have h := recB_p h1
    have e1 : bef 35 (lineT k c r) = textT k c r := seal_bef (text35 h)
    obtain ⟨e2, e3, e4⟩ := text_parse (k := k) h
    unfold decT; simp only [e1, e2, e3, e4, h1, and_self, if_true]
theorem decT_none {k : Nat} {l : Tx} (h : ∀ c r, recB c r = true → lineT k c r ≠ l) : decT k l = none := by
  cases e : decT k l with
  | none => rfl
  | some x => obtain ⟨c, r⟩ := x; obtain ⟨h1, h2⟩ := decT_iff.1 e; exact absurd h2 (h c r h1)
/-- the text whose checksum follows it (the program's) -/
def verT (l : Tx) : Bool := decide ((bef 35 l).length ≤ 4000) && decide ((sealT (bef 35 l)).length ≤ 4000) && decide (sealT (bef 35 l) = l)
def vtxT (l : Tx) : Tx := if verT l = true then bef 35 l else []
theorem ver_line {k : Nat} {c r : Tx} (hk : k < 60) (h : RecP c r) : verT (lineT k c r) = true := by
  have h1 := text_len hk h
  have h2 := seal_len (textT k c r)
  unfold verT
  rw [show bef 35 (lineT k c r) = textT k c r from seal_bef (text35 h)]
  simp [lineT]; omega
theorem decI {k : Nat} {l : Tx} (hk : k < 60) :
    decT k l = if recB (bef 64 (aft 32 (vtxT l))) (aft 64 (aft 32 (vtxT l))) = true ∧ lineT k (bef 64 (aft 32 (vtxT l))) (aft 64 (aft 32 (vtxT l))) = l then some (bef 64 (aft 32 (vtxT l)), aft 64 (aft 32 (vtxT l))) else none := by
  by_cases hv : verT l = true
  · simp only [vtxT, hv, if_true]; rfl
  · split
    · rename_i h
      rw [← h.2] at hv
      exact absurd (ver_line hk (recB_p h.1)) hv
    · exact decT_none fun c r h e => hv (by rw [← e]; exact ver_line hk (recB_p h))
/-- the line decoded the other way -/
def ahdT (k : Nat) : Tx := numT k ++ [32]
theorem decS1 {k : Nat} {l : Tx} (h : (bef 35 l).length < (ahdT k).length ∨ (bef 35 l).take (ahdT k).length ≠ ahdT k) : decT k l = none := by
  refine decT_none fun c r h1 e => ?_
  have e1 : bef 35 l = ahdT k ++ (c ++ 64 :: r) := by rw [← e, show bef 35 (lineT k c r) = textT k c r from seal_bef (text35 (recB_p h1))]; simp [textT, ahdT]
  rw [e1] at h
  rcases h with h | h
  · rw [List.length_append] at h; omega
  · exact h (by simp)
def rstT (k : Nat) (l : Tx) : Tx := (bef 35 l).drop (ahdT k).length
theorem decS2 {k : Nat} {l : Tx} (h : (bef 64 (rstT k l)).length = (rstT k l).length) : decT k l = none := by
  refine decT_none fun c r h1 e => ?_
  have e1 : bef 35 l = ahdT k ++ (c ++ 64 :: r) := by rw [← e, show bef 35 (lineT k c r) = textT k c r from seal_bef (text35 (recB_p h1))]; simp [textT, ahdT]
  have e2 : rstT k l = c ++ 64 :: r := by simp [rstT, e1]
  rw [e2, bef_app (recB_p h1).c64] at h
  simp at h
theorem decS3 {k : Nat} {l : Tx} : (recB (bef 64 (rstT k l)) ((rstT k l).drop ((bef 64 (rstT k l)).length + 1)) = true ∧ lineT k (bef 64 (rstT k l)) ((rstT k l).drop ((bef 64 (rstT k l)).length + 1)) = l → decT k l = some (bef 64 (rstT k l), (rstT k l).drop ((bef 64 (rstT k l)).length + 1))) ∧
    (¬ (recB (bef 64 (rstT k l)) ((rstT k l).drop ((bef 64 (rstT k l)).length + 1)) = true ∧ lineT k (bef 64 (rstT k l)) ((rstT k l).drop ((bef 64 (rstT k l)).length + 1)) = l) → decT k l = none) := by
  refine ⟨fun h => decT_iff.2 h, fun h => decT_none fun c r h1 e => h ?_⟩
  have e1 : bef 35 l = ahdT k ++ (c ++ 64 :: r) := by rw [← e, show bef 35 (lineT k c r) = textT k c r from seal_bef (text35 (recB_p h1))]; simp [textT, ahdT]
  have e2 : rstT k l = c ++ 64 :: r := by simp [rstT, e1]
  rw [e2, bef_app (recB_p h1).c64]
  simp [h1, e]
/-- the records of a log -/
def stepT (k : Nat) (s : Tx) : Option ((Tx × Tx) × Nat) := if 10 ∈ s then (decT k (bef 10 s)).map fun e => (e, (bef 10 s).length + 1) else none
def stepsT : Nat → Nat → Tx → List ((Tx × Tx) × Nat)
  | 0, _, _ => []
  | f + 1, k, s => match stepT k s with
    | none => []
    | some (e, n) => (e, n) :: stepsT f (k + 1) (s.drop n)
def logT (s : Tx) : List ((Tx × Tx) × Nat) := stepsT 60 0 s
def recsT (s : Tx) : List (Tx × Tx) := (logT s).map Prod.fst
def endsT (s : Tx) (j : Nat) : Nat := (((logT s).take j).map Prod.snd).sum
def numR (s : Tx) : Nat := (logT s).length
def endT (s : Tx) : Nat := endsT s (numR s)
theorem stepT_le {k n : Nat} {s : Tx} {e : Tx × Tx} (h : stepT k s = some (e, n)) : 1 ≤ n ∧ n ≤ s.length := by
  unfold stepT at h
  split at h
  · rename_i hm
    obtain ⟨x, _, hx⟩ := Option.map_eq_some_iff.1 h
    simp only [Prod.mk.injEq] at hx
    have := congrArg List.length (split_at_b hm).1
    simp at this; omega
  · cases h
theorem stepsT_len : ∀ f k s, (stepsT f k s).length ≤ f
  | 0, _, _ => by simp [stepsT]
  | f + 1, k, s => by
    unfold stepsT; split
    · simp
    · simp; exact stepsT_len f _ _
theorem stepsT_le : ∀ f k s, ((stepsT f k s).map Prod.snd).sum ≤ s.length
  | 0, _, _ => by simp [stepsT]
  | f + 1, k, s => by
    unfold stepsT; split
    · simp
    · rename_i e n h
      have := stepsT_le f (k + 1) (s.drop n)
      have := stepT_le h
      simp at *; omega
theorem stepsT_none {f k : Nat} {s : Tx} (h : stepT k s = none) : stepsT (f + 1) k s = [] := by rw [stepsT, h]
theorem stepsT_some {f k n : Nat} {s : Tx} {e : Tx × Tx} (h : stepT k s = some (e, n)) : stepsT (f + 1) k s = (e, n) :: stepsT f (k + 1) (s.drop n) := by rw [stepsT, h]
theorem stepsT_drop : ∀ (j f k : Nat) (s : Tx), j ≤ (stepsT f k s).length → (stepsT f k s).drop j = stepsT (f - j) (k + j) (s.drop (((stepsT f k s).take j).map Prod.snd).sum)
  | 0, f, k, s, _ => by simp
  | j + 1, 0, k, s, h => by simp [stepsT] at h
  | j + 1, f + 1, k, s, h => by
    cases e2 : stepT k s with
    | none => rw [stepsT_none e2] at h; simp at h
    | some en =>
      obtain ⟨e, n⟩ := en
      rw [stepsT_some e2] at h ⊢
      simp only [List.length_cons] at h
      simp only [List.drop_succ_cons, List.take_succ_cons, List.map_cons, List.sum_cons]
      rw [stepsT_drop j f (k + 1) (s.drop n) (by omega), List.drop_drop, Nat.add_sub_add_right, show k + 1 + j = k + (j + 1) by omega]
theorem log_len (s : Tx) : numR s ≤ 60 := stepsT_len ..
theorem ends_le (s : Tx) (j : Nat) : endsT s j ≤ s.length := by
  have h := stepsT_le 60 0 s
  have : endsT s j ≤ ((logT s).map Prod.snd).sum := by
    unfold endsT
    conv => rhs; rw [← List.take_append_drop j (logT s), List.map_append, List.sum_append]
    omega
  exact Nat.le_trans this h
theorem ends_zero (s : Tx) : endsT s 0 = 0 := by simp [endsT]
theorem log_drop {s : Tx} {j : Nat} (h : j ≤ numR s) : (logT s).drop j = stepsT (60 - j) j (s.drop (endsT s j)) := by
  have := stepsT_drop j 60 0 s h
  rwa [Nat.zero_add] at this
/-- one step of the reading -/
theorem log_stop {s : Tx} {j : Nat} (h : j ≤ numR s) (hs : stepT j (s.drop (endsT s j)) = none) : numR s = j := by
  have e := log_drop h
  have : (logT s).drop j = [] := by
    rw [e]; cases 60 - j with
    | zero => rfl
    | succ f => simp [stepsT, hs]
  rw [List.drop_eq_nil_iff] at this
  exact Nat.le_antisymm this h
theorem log_full {s : Tx} (h : 60 ≤ numR s) : numR s = 60 := Nat.le_antisymm (log_len s) h
theorem log_go {s : Tx} {j n : Nat} {e : Tx × Tx} (h : j ≤ numR s) (h6 : j < 60) (hs : stepT j (s.drop (endsT s j)) = some (e, n)) : j < numR s ∧ (recsT s)[j]? = some e ∧ endsT s (j + 1) = endsT s j + n := by
  have e1 := log_drop h
  obtain ⟨f, hf⟩ : ∃ f, 60 - j = f + 1 := ⟨60 - j - 1, by omega⟩
  rw [hf] at e1
  simp only [stepsT, hs] at e1
  have hlt : j < (logT s).length := by
    have := congrArg List.length e1; simp at this; omega
  rw [List.drop_eq_getElem_cons hlt] at e1
  have e2 : (logT s)[j] = (e, n) := (List.cons.inj e1).1
  refine ⟨hlt, by simp [recsT, hlt, e2], ?_⟩
  unfold endsT
  rw [List.take_succ_eq_append_getElem hlt, List.map_append, List.sum_append, e2]
  simp
theorem take_snoc {α : Type} {l : List α} {j : Nat} {x : α} (h : l[j]? = some x) : l.take (j + 1) = l.take j ++ [x] := by
  obtain ⟨hlt, rfl⟩ := List.getElem?_eq_some_iff.1 h
  exact List.take_succ_eq_append_getElem hlt
theorem step_no {k : Nat} {s : Tx} (h : 10 ∉ s) : stepT k s = none := by unfold stepT; rw [if_neg h]
theorem step_none {k : Nat} {s : Tx} (h : decT k (bef 10 s) = none) : stepT k s = none := by unfold stepT; split; rw [h]; rfl; rfl
theorem step_some {k : Nat} {s : Tx} {e : Tx × Tx} (hm : 10 ∈ s) (h : decT k (bef 10 s) = some e) : stepT k s = some (e, (bef 10 s).length + 1) := by unfold stepT; rw [if_pos hm, h]; rfl
/-- what is behind the first part does not matter to it -/
theorem bef_appL {b : UInt8} : ∀ {x y : Tx}, b ∈ x → bef b (x ++ y) = bef b x
  | [], _, h => by cases h
  | z :: x, y, h => by
    by_cases hz : z = b
    · simp [bef, hz]
    · have hr : b ∈ x := by rcases List.mem_cons.1 h with e | e; exact absurd e.symm hz; exact e
      simp [bef, hz, bef_appL hr]
theorem bef_lt {b : UInt8} {x : Tx} (h : b ∈ x) : (bef b x).length + 1 ≤ x.length := by
  have := congrArg List.length (split_at_b h).1
  simp at this; omega
theorem step_app {k n : Nat} {x y : Tx} {e : Tx × Tx} (h : stepT k x = some (e, n)) : stepT k (x ++ y) = some (e, n) := by
  unfold stepT at h ⊢
  split at h
  · rename_i hm
    rw [if_pos (List.mem_append_left _ hm), bef_appL hm]; exact h
  · cases h
theorem step_back {k n : Nat} {x y : Tx} {e : Tx × Tx} (h : stepT k (x ++ y) = some (e, n)) (hn : n ≤ x.length) : stepT k x = some (e, n) := by
  unfold stepT at h ⊢
  split at h
  · rename_i hm
    have hx : 10 ∈ x := by
      refine Classical.byContradiction fun hx => ?_
      obtain ⟨z, _, hz⟩ := Option.map_eq_some_iff.1 h
      simp only [Prod.mk.injEq] at hz
      have h2 : x.length ≤ (bef 10 (x ++ y)).length := by
        have : ∀ (x y : Tx), (10 : UInt8) ∉ x → x.length ≤ (bef 10 (x ++ y)).length := by
          intro x; induction x with
          | nil => intro y _; simp
          | cons z x ih =>
            intro y hx
            rw [List.mem_cons, not_or] at hx
            simp only [List.cons_append, bef, if_neg (Ne.symm hx.1), List.length_cons]
            have := ih y hx.2; omega
        exact this x y hx
      omega
    rw [if_pos hx]; rwa [bef_appL hx] at h
  · cases h
/-- the ends of a log's records, within a part of it -/
theorem log_pre {x y : Tx} : ∀ j, j ≤ numR (x ++ y) → endsT (x ++ y) j ≤ x.length → j ≤ numR x ∧ endsT x j = endsT (x ++ y) j ∧ (recsT x).take j = (recsT (x ++ y)).take j
  | 0, _, _ => ⟨Nat.zero_le _, by simp [ends_zero], by simp⟩
  | j + 1, h, he => by
    have hlt : j < (logT (x ++ y)).length := h
    have e1 : endsT (x ++ y) (j + 1) = endsT (x ++ y) j + ((logT (x ++ y))[j]).2 := by
      unfold endsT
      rw [List.take_succ_eq_append_getElem hlt, List.map_append, List.sum_append]; simp
    obtain ⟨h1, h2, h3⟩ := log_pre (x := x) (y := y) j (by omega) (by omega)
    have h6 : j < 60 := by have := log_len (x ++ y); omega
    have hst : stepT j ((x ++ y).drop (endsT (x ++ y) j)) = some (((logT (x ++ y))[j]).1, ((logT (x ++ y))[j]).2) := by
      have e2 := log_drop (s := x ++ y) (j := j) (by omega)
      rw [List.drop_eq_getElem_cons hlt] at e2
      obtain ⟨f, hf⟩ : ∃ f, 60 - j = f + 1 := ⟨60 - j - 1, by omega⟩
      rw [hf] at e2
      cases hs : stepT j ((x ++ y).drop (endsT (x ++ y) j)) with
      | none => rw [stepsT_none hs] at e2; cases e2
      | some en => rw [stepsT_some hs] at e2; rw [(List.cons.inj e2).1]
    generalize hn : (logT (x ++ y))[j] = en at *
    obtain ⟨e, n⟩ := en
    simp only at hst e1
    rw [List.drop_append_of_le_length (by omega), ← h2] at hst
    have hb := step_back hst (by rw [List.length_drop]; omega)
    obtain ⟨g1, g2, g3⟩ := log_go h1 h6 hb
    refine ⟨g1, by omega, ?_⟩
    have g4 : (recsT (x ++ y))[j]? = some e := by simp [recsT, hlt, hn]
    rw [take_snoc g2, take_snoc g4, h3]
theorem log_ext {x y : Tx} : ∀ j, j ≤ numR x → j ≤ numR (x ++ y) ∧ endsT (x ++ y) j = endsT x j
  | 0, _ => ⟨Nat.zero_le _, by simp [ends_zero]⟩
  | j + 1, h => by
    have hlt : j < (logT x).length := h
    have e1 : endsT x (j + 1) = endsT x j + ((logT x)[j]).2 := by
      unfold endsT
      rw [List.take_succ_eq_append_getElem hlt, List.map_append, List.sum_append]; simp
    obtain ⟨h1, h2⟩ := log_ext (x := x) (y := y) j (by omega)
    have h6 : j < 60 := by have := log_len x; omega
    have hst : stepT j (x.drop (endsT x j)) = some (((logT x)[j]).1, ((logT x)[j]).2) := by
      have e2 := log_drop (s := x) (j := j) (by omega)
      rw [List.drop_eq_getElem_cons hlt] at e2
      obtain ⟨f, hf⟩ : ∃ f, 60 - j = f + 1 := ⟨60 - j - 1, by omega⟩
      rw [hf] at e2
      cases hs : stepT j (x.drop (endsT x j)) with
      | none => rw [stepsT_none hs] at e2; cases e2
      | some en => rw [stepsT_some hs] at e2; rw [(List.cons.inj e2).1]
    have hst2 := step_app (y := y) hst
    rw [← List.drop_append_of_le_length (ends_le x j), ← h2] at hst2
    obtain ⟨g1, g2, g3⟩ := log_go h1 h6 hst2
    exact ⟨g1, by omega⟩
/-- a part of a log ends with a record iff it is read to its end -/
theorem part_valid {x y : Tx} (h : endT (x ++ y) = (x ++ y).length) : ((List.range (numR (x ++ y) + 1)).any fun j => endsT (x ++ y) j == x.length) = decide (endT x = x.length) := by
  rw [Bool.eq_iff_iff, decide_eq_true_eq, List.any_eq_true]
  constructor
  · rintro ⟨j, hj, he⟩
    rw [List.mem_range] at hj
    have he : endsT (x ++ y) j = x.length := by simpa using he
    obtain ⟨g1, g2, -⟩ := log_pre (x := x) (y := y) j (by omega) (by omega)
    have hle : endsT x j ≤ endT x := by
      unfold endT endsT
      have e2 : (logT x).take (numR x) = (logT x).take j ++ ((logT x).take (numR x)).drop j := by
        conv => lhs; rw [← List.take_append_drop j ((logT x).take (numR x)), List.take_take, Nat.min_eq_left g1]
      rw [e2, List.map_append, List.sum_append]; omega
    have := ends_le x (numR x)
    unfold endT at hle ⊢; omega
  · intro he
    obtain ⟨g1, g2⟩ := log_ext (y := y) (numR x) (Nat.le_refl _)
    refine ⟨numR x, List.mem_range.2 (by omega), ?_⟩
    rw [g2]; simpa [endT] using he
/-- a log is valid -/
def validB (d p : Tx) (c : Int) : Bool := decide ((d.length : Int) + p.length ≤ 30000) && (decide (endT (d ++ p) = (d ++ p).length) && (decide (endT d = d.length) && decide (c = numR (d ++ p))))
structure ValidP (d p : Tx) (c : Int) : Prop where
  len : d.length + p.length ≤ 30000
  all : endT (d ++ p) = (d ++ p).length
  dur : endT d = d.length
  cnt : c = numR (d ++ p)
theorem validB_p {d p : Tx} {c : Int} (h : validB d p c = true) : ValidP d p c := by
  unfold validB at h
  simp only [Bool.and_eq_true, decide_eq_true_eq] at h
  exact ⟨by omega, h.2.1, h.2.2.1, h.2.2.2⟩

end Go.Proofs.Ytefbiejoikpkmaa

namespace Go.Proofs.Ytefbiejoikpkmaa
open Go.RowKit
set_option linter.unusedSectionVars false
variable [Glb]
open Go Go.RowKit
/-! texts in the walk -/
abbrev dT (l : Tx) : D := .lit (.string (bsT l))
abbrev eT (l : List Tx) : D := .sl 1 l.length (l.map dT)
def byt (l : Tx) (j : Int) : Int := ((l.getD j.toNat 0).toNat : Int)
theorem byt_lt (l : Tx) (j : Int) : 0 ≤ byt l j ∧ byt l j ≤ 255 := by
  have := UInt8.toNat_lt (l.getD j.toNat 0); unfold byt; omega
theorem partZ_le {α : Type} (l : List α) (i j : Int) : (partZ l i j).length ≤ l.length := by simp [partZ]; omega
theorem partZ_min {α : Type} (l : List α) (i j : Int) : (partZ l i j).length = min (j.toNat - i.toNat) (l.length - i.toNat) := by simp [partZ]
theorem partZ_tail {α : Type} (l : List α) (i : Int) : (partZ l i (l.length : Int)).length = l.length - i.toNat := by simp [partZ]
theorem addP {a l : Tx} {i j : Int} (h : (a.length : Int) + l.length ≤ 9223372036854775807) : (a.length : Int) + (partZ l i j).length ≤ 9223372036854775807 := by have := partZ_le l i j; omega
theorem byt_nat {l : Tx} {k : Nat} (h : k < l.length) : byt l (k : Int) = (l[k].toNat : Int) := by simp [byt, h]
section
variable {P : Program} {st : St} {dst : Option Tmp} {ty : TypeId} {pos : String} {af : Array Edge} {T T' : TypeId} {x y lo hi : Operand}
theorem FitT {l : Tx} (h : Fit (dT l)) : l.length ≤ 9223372036854775807 := by have := h.str; rwa [bsT_size] at this
theorem qt_lenT {l : Tx} (hx : st.ev x = .c (.d (dT l))) (ht : tStr P T = true) : Qt P ⟨dst, .call { callee := .builtin .len, args := #[x], argTypes := #[T] }, ty, pos, af, none⟩ st (.c (.d (.lit (.int .i64 l.length)))) := by
  have := qt_len_str (dst := dst) (ty := ty) (pos := pos) (af := af) hx ht
  rwa [bsT_size] at this
theorem qt_indexT {l : Tx} {k : IntKind} {j : Int} (hx : st.ev x = .c (.d (dT l))) (hy : st.ev y = .c (.d (.lit (.int k j)))) (ht : tStr P T = true) (h0 : 0 ≤ j) (h1 : j < l.length) :
    Qt P ⟨dst, .index T x y, ty, pos, af, none⟩ st (.c (.d (.lit (.int .u8 (byt l j))))) := by
  have := qt_index_str (dst := dst) (ty := ty) (pos := pos) (af := af) hx hy ht h0 (by rw [bsT_size]; exact h1)
  have e : (bsT l).get! j.toNat = l.getD j.toNat 0 := by
    have hl : j.toNat < l.length := by omega
    show (bsT l).data[j.toNat]! = _
    simp [bsT, hl]
  rwa [e] at this
theorem qt_sliceT11 {l : Tx} {kl kh : IntKind} {i j : Int} (hx : st.ev x = .c (.d (dT l))) (hl : st.ev lo = .c (.d (.lit (.int kl i)))) (hh : st.ev hi = .c (.d (.lit (.int kh j)))) (ht : tStr P T = true) (h0 : 0 ≤ i) (h1 : i ≤ j) (h2 : j ≤ l.length) :
    Qt P ⟨dst, .slice T x (some lo) (some hi) none, ty, pos, af, none⟩ st (.c (.d (dT (partZ l i j)))) := by
  have := qt_slice_str11 (dst := dst) (ty := ty) (pos := pos) (af := af) hx hl hh ht h0 h1 (by rw [bsT_size]; exact h2)
  unfold partZ; rwa [bsT_extract, List.drop_take] at this
theorem qt_sliceT10 {l : Tx} {kl : IntKind} {i : Int} (hx : st.ev x = .c (.d (dT l))) (hl : st.ev lo = .c (.d (.lit (.int kl i)))) (ht : tStr P T = true) (h0 : 0 ≤ i) (h1 : i ≤ l.length) :
    Qt P ⟨dst, .slice T x (some lo) none none, ty, pos, af, none⟩ st (.c (.d (dT (partZ l i l.length)))) := by
  have := qt_slice_str10 (dst := dst) (ty := ty) (pos := pos) (af := af) hx hl ht h0 (by rw [bsT_size]; exact h1)
  unfold partZ
  rw [bsT_extract, bsT_size, List.drop_take] at this
  exact this
theorem qt_sliceT01 {l : Tx} {kh : IntKind} {j : Int} (hx : st.ev x = .c (.d (dT l))) (hh : st.ev hi = .c (.d (.lit (.int kh j)))) (ht : tStr P T = true) (h0 : 0 ≤ j) (h2 : j ≤ l.length) :
    Qt P ⟨dst, .slice T x none (some hi) none, ty, pos, af, none⟩ st (.c (.d (dT (partZ l 0 j)))) := by
  have := qt_slice_str01 (dst := dst) (ty := ty) (pos := pos) (af := af) hx hh ht h0 (by rw [bsT_size]; exact h2)
  unfold partZ; rwa [bsT_extract, List.drop_take] at this
theorem qt_addT {a b : Tx} (hx : st.ev x = .c (.d (dT a))) (hy : st.ev y = .c (.d (dT b))) (h : (a.length : Int) + b.length ≤ 9223372036854775807) : Qt P ⟨dst, .binOp .add T x y T', ty, pos, af, none⟩ st (.c (.d (dT (a ++ b)))) := by
  have := qt_addS (P := P) (T := T) (T' := T') (dst := dst) (ty := ty) (pos := pos) (af := af) hx hy (by rw [bsT_size, bsT_size]; omega)
  rwa [bsT_append] at this
theorem qt_eqlT {a b : Tx} (hx : st.ev x = .c (.d (dT a))) (hy : st.ev y = .c (.d (dT b))) : Qt P ⟨dst, .binOp .eql T x y T', ty, pos, af, none⟩ st (.c (.d (.lit (.bool (decide (a = b)))))) := by
  have := qt_eqlS (P := P) (T := T) (T' := T') (dst := dst) (ty := ty) (pos := pos) (af := af) hx hy
  rwa [decide_eq_decide.2 bsT_inj] at this
theorem qt_neqT {a b : Tx} (hx : st.ev x = .c (.d (dT a))) (hy : st.ev y = .c (.d (dT b))) : Qt P ⟨dst, .binOp .neq T x y T', ty, pos, af, none⟩ st (.c (.d (.lit (.bool (decide (a ≠ b)))))) := by
  have := qt_neqS (P := P) (T := T) (T' := T') (dst := dst) (ty := ty) (pos := pos) (af := af) hx hy
  rwa [decide_eq_decide.2 (not_congr bsT_inj)] at this
theorem qt_neqT_same {a : Tx} (hx : st.ev x = .c (.d (dT a))) (hy : st.ev y = .c (.d (dT a))) : Qt P ⟨dst, .binOp .neq T x y T', ty, pos, af, none⟩ st (.c (.d (.lit (.bool false)))) := by
  have := qt_neqT (P := P) (T := T) (T' := T') (dst := dst) (ty := ty) (pos := pos) (af := af) hx hy
  rwa [show decide (a ≠ a) = false by simp] at this
theorem qt_idxT {l : List Tx} {k : IntKind} {i : Int} (hx : st.ev x = .c (.d (eT l))) (hy : st.ev y = .c (.d (.lit (.int k i)))) (ht : tSl P T 1 = true) (h0 : 0 ≤ i) (h1 : i < l.length) : Qt P ⟨dst, .indexAddr T x y, ty, pos, af, none⟩ st (.c (.d (.pt [dT (atZ l i)]))) :=
  qt_idx hx hy ht h0 h1 (map_at (atZ_some h0 h1))
/-- bytes, and a text out of them -/
abbrev dY (b : UInt8) : D := .lit (.int .u8 b.toNat)
abbrev cY (l : Tx) : List D := l.map dY
def tByt (P : Program) (S T : TypeId) : Bool := (match P.underlying S with | some (.slice E) => (match P.underlying E with | some (.int .u8) => true | _ => false) | _ => false) && tStr P T
theorem tByt_spec {S T : TypeId} (h : tByt P S T = true) : ∃ E, P.underlying S = some (.slice E) ∧ P.underlying E = some (.int .u8) ∧ P.underlying T = some .string := by
  unfold tByt tStr at h
  rw [Bool.and_eq_true] at h
  obtain ⟨h1, h2⟩ := h
  have h3 : P.underlying T = some .string := by
    cases hT : P.underlying T with
    | none => simp [hT] at h2
    | some d => cases d <;> simp [hT] at h2; rfl
  cases hS : P.underlying S with
  | none => simp [hS] at h1
  | some d =>
    cases d with
    | slice E =>
      simp only [hS] at h1
      cases hE : P.underlying E with
      | none => simp [hE] at h1
      | some d2 =>
        cases d2 with
        | int k => cases k <;> simp [hE] at h1; exact ⟨E, rfl, hE, h3⟩
        | _ => simp [hE] at h1
    | _ => simp [hS] at h1
theorem so_convBT {ops : Array Oper} {mu : Nat → Bool} {r : OT} {K : St → Prop} {i : Nat} {S T : TypeId} {b : Nat} {l : Tx} {n d : Nat} (hx : st.ev x = .c (.ls b 1 0 n)) (hb : st.bl b = some (.row 1 (cY l))) (hn : n = l.length) (ht : tByt P S T = true) (hd : Nat.blt d st.n = true) (h : SO P ops mu r (st.put d (.c (.d (dT l)))) K) :
    SO P ops mu (.cons (some ⟨some d, .convert S T x, ty, pos, af, none⟩, i, false) r) st K := by
  obtain ⟨E, hS, hE, hT⟩ := tByt_spec ht
  refine so_a fun w0 a w hs next Q hnx => ?_
  obtain ⟨ρ, Φ, hm⟩ := hs
  have h1 := hm.ev x
  rw [hx] at h1
  subst hn
  have fin : l.length ≤ 9223372036854775807 → (convert S T (a.eval x)).run P w = .ok (.string (bsT l)) w → (⟨some d, .convert S T x, ty, pos, af, none⟩ : Oper).wp P a w next Q := fun hle hrun => by
    have hsc : sc (.string (bsT l)) = true := by simp only [sc, bsT_size, decide_eq_true_eq]; exact hle
    exact at_value (w' := w) (v := .string (bsT l)) (by simp [execOp, hrun]) (hnx _ _ (fun _ => CellS.refl _) ⟨_, ⟨ρ, Φ, hm.put (.litI hsc) d (by simpa using hd)⟩, h⟩)
  rcases ls_inv h1.c_inv with ⟨h0, hv, _, hl⟩ | ⟨g, cap, cs, E', hρ, hv, hnc, hle, hg', hcap⟩
  · have : l = [] := List.length_eq_zero_iff.1 hl
    subst this
    refine fin (by simp) ?_
    rw [hv, Go.run_convert_bytes_nil w S E hS hE 0 0 T hT]; rfl
  · refine fin (Nat.le_trans hnc hle) ?_
    rcases hm.rowN hb with ⟨h1, _⟩ | ⟨g', us, E2, vs, Fs, hρ', _, hz, hg, hlen, hcc, hr⟩
    · rw [hρ] at h1; cases h1
    · rw [hρ] at hρ'; cases hρ'
      have hcell : ∀ j (hj : j < l.length), w.cell? ((⟨g, 0, none⟩ : Addr).add j) = some (.int .u8 (l[j].toNat : Int)) := fun j hj => by
        have hj' : j < (cY l).length := by simpa using hj
        have ho := hr j hj'
        rw [List.getElem_map] at ho
        have hvs : vs j = .int .u8 (l[j].toNat : Int) := by
          generalize Fs j = F at ho
          generalize vs j = u at ho
          cases ho with | lit _ h => rfl
        have h1 : w.cell? ⟨g, 0 + j, none⟩ = some (.int .u8 (l[j].toNat : Int)) := by rw [Nat.zero_add, cell_of_row w g j us E2 (0, 0) hg, hcc j hj', hvs]
        rw [adr_mk]
        exact h1
      rw [hv]
      exact Go.run_convert_bytes_back (P := P) w S T E ⟨g, 0, none⟩ cap l hS hE hT hcell
theorem so_convB1 {ops : Array Oper} {mu : Nat → Bool} {r : OT} {K : St → Prop} {i : Nat} {S T : TypeId} {b d : Nat} {m : Int} (hx : st.ev x = .c (.ls b 1 0 1)) (hb : st.bl b = some (.row 1 [.lit (.int .u8 m)])) (h0 : 0 ≤ m) (h1 : m < 256) (ht : tByt P S T = true) (hd : Nat.blt d st.n = true) (h : SO P ops mu r (st.put d (.c (.d (dT [UInt8.ofNat m.toNat])))) K) :
    SO P ops mu (.cons (some ⟨some d, .convert S T x, ty, pos, af, none⟩, i, false) r) st K := by
  refine so_convBT (l := [UInt8.ofNat m.toNat]) hx ?_ rfl ht hd h
  rw [hb]
  have : ((UInt8.ofNat m.toNat).toNat : Int) = m := by rw [UInt8.toNat_ofNat']; omega
  show _ = some (Blk.row 1 [D.lit (.int .u8 ((UInt8.ofNat m.toNat).toNat : Int))])
  rw [this]
theorem so_convB0 {ops : Array Oper} {mu : Nat → Bool} {r : OT} {K : St → Prop} {i : Nat} {S T : TypeId} {b d n m : Nat} (hx : st.ev x = .c (.ls b 1 0 n)) (hb : st.bl b = some (.row 1 (List.replicate m (.lit (.int .u8 0))))) (hn : n = m) (ht : tByt P S T = true) (hd : Nat.blt d st.n = true) (h : SO P ops mu r (st.put d (.c (.d (dT (List.replicate m 0))))) K) :
    SO P ops mu (.cons (some ⟨some d, .convert S T x, ty, pos, af, none⟩, i, false) r) st K := by
  refine so_convBT (l := List.replicate m 0) hx ?_ (by simp [hn]) ht hd h
  rw [hb]
  simp
theorem split0 (b : UInt8) (s : Tx) : atZ (splitT b s) 0 = bef b s := by
  obtain ⟨t, e⟩ := splitT_bef b s
  rw [e]; rfl
theorem split_pos (b : UInt8) (s : Tx) : (0 : Int) < (splitT b s).length := by
  obtain ⟨t, e⟩ := splitT_bef b s
  rw [e]; simp
theorem qt_idx0 {l : Tx} {b : UInt8} {k : IntKind} (hx : st.ev x = .c (.d (eT (splitT b l)))) (hy : st.ev y = .c (.d (.lit (.int k 0)))) (ht : tSl P T 1 = true) : Qt P ⟨dst, .indexAddr T x y, ty, pos, af, none⟩ st (.c (.d (.pt [dT (bef b l)]))) := by
  have := qt_idxT (dst := dst) (ty := ty) (pos := pos) (af := af) hx hy ht (by omega) (split_pos b l)
  rwa [split0] at this
end
/-! contracts of the library's functions -/
theorem exT (s : ByteArray) : ∃ l : Tx, s = bsT l := ⟨_, (bsT_data s).symm⟩
theorem VwP.lit_inv {w : World} {v u : Value} (h : VwP w v (.c (.lit u))) : v = u := by
  cases h with | c _ _ F h => cases h; rfl
theorem VwL.one {w : World} {vs : List Value} {a : RP} (h : VwL w vs [a]) : ∃ v, vs = [v] ∧ VwP w v a := by
  obtain ⟨hl, hr⟩ := h
  match vs, hl with
  | [v], _ => exact ⟨v, rfl, by simpa using hr 0 (by simp)⟩
theorem VwL.two {w : World} {vs : List Value} {a b : RP} (h : VwL w vs [a, b]) : ∃ u v, vs = [u, v] ∧ VwP w u a ∧ VwP w v b := by
  obtain ⟨hl, hr⟩ := h
  match vs, hl with
  | [u, v], _ => exact ⟨u, v, rfl, by simpa using hr 0 (by simp), by simpa using hr 1 (by simp)⟩
theorem pc_lit2 {P : Program} {f : FuncId} {a b u : Value} (he : ∀ (args : Array Value) (W : World), (callFunc f args).run P W = .ok (.enter f args) W) (hu : sc u = true)
    (h : ∀ w, Glb.ok w → Calls P f #[a, b] w fun e w' => e = .returned u ∧ Below w.heap.size w w') : PC P f [.c (.lit a), .c (.lit b)] (.p (.c (.lit u))) := by
  refine ⟨he, fun w vs ok hv => ?_⟩
  obtain ⟨x, y, rfl, h1, h2⟩ := hv.two
  rw [h1.lit_inv, h2.lit_inv]
  refine (h w ok).mono ?_
  rintro e w' ⟨rfl, hb⟩
  exact ⟨u, [], rfl, .p (.c (.lit _ hu)), List.nodup_nil, (fun g hg => by cases hg), hb⟩
theorem pc_lit1 {P : Program} {f : FuncId} {a u : Value} (he : ∀ (args : Array Value) (W : World), (callFunc f args).run P W = .ok (.enter f args) W) (hu : sc u = true)
    (h : ∀ w, Glb.ok w → Calls P f #[a] w fun e w' => e = .returned u ∧ Below w.heap.size w w') : PC P f [.c (.lit a)] (.p (.c (.lit u))) := by
  refine ⟨he, fun w vs ok hv => ?_⟩
  obtain ⟨x, rfl, h1⟩ := hv.one
  rw [h1.lit_inv]
  refine (h w ok).mono ?_
  rintro e w' ⟨rfl, hb⟩
  exact ⟨u, [], rfl, .p (.c (.lit _ hu)), List.nodup_nil, (fun g hg => by cases hg), hb⟩
theorem pc_lit23 {P : Program} {f : FuncId} {a b u1 u2 u3 : Value} (he : ∀ (args : Array Value) (W : World), (callFunc f args).run P W = .ok (.enter f args) W) (h1 : sc u1 = true) (h2 : sc u2 = true) (h3 : sc u3 = true)
    (h : ∀ w, Glb.ok w → Calls P f #[a, b] w fun e w' => e = .returned (.tuple #[u1, u2, u3]) ∧ Below w.heap.size w w') : PC P f [.c (.lit a), .c (.lit b)] (.t [.c (.lit u1), .c (.lit u2), .c (.lit u3)]) := by
  refine ⟨he, fun w vs ok hv => ?_⟩
  obtain ⟨x, y, rfl, e1, e2⟩ := hv.two
  rw [e1.lit_inv, e2.lit_inv]
  refine (h w ok).mono ?_
  rintro e w' ⟨rfl, hb⟩
  exact ⟨_, [], rfl, .t (us := [u1, u2, u3]) (.cons (F := []) (.c (.lit _ h1)) (.cons (F := []) (.c (.lit _ h2)) (.cons (F := []) (.c (.lit _ h3)) .nil))), List.nodup_nil, (fun g hg => by cases hg), hb⟩
/-- the library's table of powers of ten stands -/
class GTab (P : Program) (nm : String) : Prop where
  tab : ∀ w : World, Glb.ok w → Go.Lib.TabIs P w nm .u64 Go.Lib.pow10Tab
/-- records, places -/
def recD (l : List (Tx × Tx)) : List D := l.flatMap fun e => [dT e.1, dT e.2]
@[simp] theorem recD_len (l : List (Tx × Tx)) : (recD l).length = l.length * 2 := by
  induction l with
  | nil => rfl
  | cons x r ih => simp [recD] at ih ⊢; omega
theorem recD_snoc (l : List (Tx × Tx)) (c r : Tx) : recD (l ++ [(c, r)]) = recD l ++ [dT c, dT r] := by simp [recD]
abbrev eR (l : List (Tx × Tx)) : D := .sl 2 l.length (recD l)
def endsL (s : Tx) (j : Nat) : List Int := (List.range (j + 1)).map fun i => (endsT s i : Int)
@[simp] theorem endsL_len (s : Tx) (j : Nat) : (endsL s j).length = j + 1 := by simp [endsL]
theorem endsL_zero (s : Tx) : endsL s 0 = [0] := by simp [endsL, endsT]
theorem endsL_snoc (s : Tx) (j : Nat) : endsL s (j + 1) = endsL s j ++ [(endsT s (j + 1) : Int)] := by simp [endsL, List.range_succ]
theorem recs_snoc {s : Tx} {j : Nat} {c r : Tx} (h : (recsT s)[j]? = some (c, r)) : recD ((recsT s).take (j + 1)) = recD ((recsT s).take j) ++ [dT c, dT r] := by
  rw [take_snoc h, recD_snoc]
theorem recs_len (s : Tx) : (recsT s).length = numR s := by simp [recsT, numR]
theorem valid_iff {d p : Tx} {c : Int} (h : (d.length : Int) + p.length ≤ 30000) : validB d p c = true ↔ ((endT (d ++ p) : Int) = d.length + p.length ∧ (endT d : Int) = d.length ∧ c = ((recsT (d ++ p)).length : Int)) := by
  unfold validB
  rw [recs_len]
  simp only [Bool.and_eq_true, decide_eq_true_eq, List.length_append]
  constructor
  · rintro ⟨_, a, b, e⟩; exact ⟨by omega, by omega, e⟩
  · rintro ⟨a, b, e⟩; exact ⟨h, by omega, by omega, e⟩
theorem valid_long {d p : Tx} {c : Int} (h : ¬ (d.length : Int) + p.length ≤ 30000) : validB d p c = false := by
  unfold validB; rw [decide_eq_false h]; rfl
theorem endsL_at (s : Tx) : atZ (endsL s (numR s)) ((recsT s).length : Int) = endT s := by
  rw [recs_len, atZ_nat (by simp)]
  simp [endsL, endT]
theorem endsL_has (s : Tx) (n : Nat) : (endsL s (numR s)).contains (n : Int) = (List.range (numR s + 1)).any fun j => endsT s j == n := by
  rw [Bool.eq_iff_iff, List.contains_iff_mem, List.any_eq_true]
  unfold endsL
  rw [List.mem_map]
  constructor
  · rintro ⟨j, hj, e⟩; exact ⟨j, hj, by simp; omega⟩
  · rintro ⟨j, hj, e⟩; exact ⟨j, hj, by simp at e; omega⟩
theorem dB_eq {a b : Bool} (h : a = b) : Res.p (RP.c (D.lit (Value.bool a))) = Res.p (RP.c (D.lit (Value.bool b))) := by rw [h]

/-! marks on texts -/
def mtT (k : Nat) : Tx := 109 :: numT k
theorem mtT_len {k : Nat} (h : k < 10 ^ 13) : (mtT k).length ≤ 14 := by have := numT_len 12 k h; simp [mtT]; omega
def mkR : Nat → Nat → List (Tx × Tx)
  | _, 0 => []
  | k, n + 1 => (mtT k, mtT (k + 1)) :: mkR (k + 2) n
@[simp] theorem mkR_len : ∀ (k n : Nat), (mkR k n).length = n
  | _, 0 => rfl
  | k, n + 1 => by simp [mkR, mkR_len]
theorem mkR_at : ∀ (k n j : Nat), j < n → (mkR k n)[j]? = some (mtT (k + 2 * j), mtT (k + 2 * j + 1))
  | _, 0, _, h => absurd h (by omega)
  | k, n + 1, 0, _ => rfl
  | k, n + 1, j + 1, h => by
    rw [mkR, List.getElem?_cons_succ, mkR_at (k + 2) n j (by omega)]
    congr 3 <;> omega
theorem recD_at {l : List (Tx × Tx)} {j : Nat} {e : Tx × Tx} (h : l[j]? = some e) : (recD l)[j * 2]? = some (dT e.1) ∧ (recD l)[j * 2 + 1]? = some (dT e.2) := by
  induction l generalizing j with
  | nil => simp at h
  | cons x r ih =>
    cases j with
    | zero => simp at h; subst h; simp [recD]
    | succ j =>
      simp only [List.getElem?_cons_succ] at h
      have := ih h
      have e1 : recD (x :: r) = dT x.1 :: dT x.2 :: recD r := rfl
      rw [e1, show (j + 1) * 2 = j * 2 + 1 + 1 by omega]
      simpa using this
/-- the records of which the first j are marked -/
def mkRL (l : List (Tx × Tx)) (k j : Nat) : List (Tx × Tx) := mkR k j ++ l.drop j
theorem mkRL_zero (l : List (Tx × Tx)) (k : Nat) : mkRL l k 0 = l := rfl
theorem mkRL_len {l : List (Tx × Tx)} {k j : Nat} (h : j ≤ l.length) : (mkRL l k j).length = l.length := by simp [mkRL, mkR_len]; omega
theorem mkRL_all (l : List (Tx × Tx)) (k : Nat) : mkRL l k l.length = mkR k l.length := by simp [mkRL]
theorem mkR_snoc : ∀ (k j : Nat), mkR k (j + 1) = mkR k j ++ [(mtT (k + 2 * j), mtT (k + 2 * j + 1))]
  | k, 0 => rfl
  | k, j + 1 => by
    rw [mkR, mkR_snoc (k + 2) j, mkR, List.cons_append, show k + 2 + 2 * j = k + 2 * (j + 1) by omega]
theorem mkRL_set {l : List (Tx × Tx)} {k j : Nat} (h : j < l.length) : ((recD (mkRL l k j)).set (j * 2) (dT (mtT (k + 2 * j)))).set (j * 2 + 1) (dT (mtT (k + 2 * j + 1))) = recD (mkRL l k (j + 1)) := by
  unfold mkRL
  rw [mkR_snoc, List.drop_eq_getElem_cons h]
  have e1 : recD (mkR k j ++ l[j] :: l.drop (j + 1)) = recD (mkR k j) ++ dT l[j].1 :: dT l[j].2 :: recD (l.drop (j + 1)) := by simp only [recD, List.flatMap_append, List.flatMap_cons, List.cons_append, List.nil_append]
  have e2 : recD (mkR k j ++ [(mtT (k + 2 * j), mtT (k + 2 * j + 1))] ++ l.drop (j + 1)) = recD (mkR k j) ++ dT (mtT (k + 2 * j)) :: dT (mtT (k + 2 * j + 1)) :: recD (l.drop (j + 1)) := by simp [recD]
  have hl : (recD (mkR k j)).length = j * 2 := by rw [recD_len, mkR_len]
  rw [e1, e2, ← hl, List.set_append_right _ _ (Nat.le_refl _), Nat.sub_self, List.set_cons_zero, List.set_append_right _ _ (by omega), show (recD (mkR k j)).length + 1 - (recD (mkR k j)).length = 1 by omega, List.set_cons_succ, List.set_cons_zero]
/-- the last digits of a number -/
def tailT (k : Nat) : Nat → Tx
  | 0 => []
  | j + 1 => UInt8.ofNat (48 + k / 10 ^ j % 10) :: tailT k j
theorem pow_next (k j : Nat) : k / 10 ^ (j + 1) = k / 10 ^ j / 10 := by rw [Nat.pow_succ, Nat.div_div_eq_div_mul]
theorem tail_num (k : Nat) : ∀ (j : Nat), k / 10 ^ j ≠ 0 → numT k = numT (k / 10 ^ j) ++ tailT k j
  | 0, _ => by simp [tailT]
  | j + 1, h => by
    rw [pow_next] at h ⊢
    have ih := tail_num k j
    unfold tailT
    generalize k / 10 ^ j = m at *
    rw [ih (by omega), numT_rec m, if_neg (by omega), List.append_assoc]; rfl
theorem tail_all {k j : Nat} (h : k / 10 ^ (j + 1) = 0) (h2 : k / 10 ^ j ≠ 0) : tailT k (j + 1) = numT k := by
  have ih := tail_num k j h2
  rw [pow_next] at h
  unfold tailT
  generalize k / 10 ^ j = m at *
  rw [ih, numT_rec m, if_pos (by omega), Nat.mod_eq_of_lt (by omega)]; rfl
theorem tail_len (k : Nat) : ∀ j, (tailT k j).length = j
  | 0 => rfl
  | j + 1 => by simp [tailT, tail_len]
section
variable {P : Program} {st : St} {dst : Option Tmp} {ty : TypeId} {pos : String} {af : Array Edge} {T : TypeId} {x y : Operand}
theorem recD_cut {l : List (Tx × Tx)} {j : Nat} {e : Tx × Tx} (h : l[j]? = some e) : ((recD l).drop (j * 2)).take 2 = [dT e.1, dT e.2] := by
  obtain ⟨hlt, rfl⟩ := List.getElem?_eq_some_iff.1 h
  have e1 : recD l = recD (l.take j) ++ (dT l[j].1 :: dT l[j].2 :: recD (l.drop (j + 1))) := by
    conv => lhs; rw [← List.take_append_drop j l, List.drop_eq_getElem_cons hlt]
    simp only [recD, List.flatMap_append, List.flatMap_cons, List.cons_append, List.nil_append]
  have hl : (recD (l.take j)).length = j * 2 := by rw [recD_len, List.length_take]; omega
  rw [e1, ← hl, List.drop_left]
  rfl
theorem qt_idxR {l : List (Tx × Tx)} {k : IntKind} {i : Int} (hx : st.ev x = .c (.d (eR l))) (hy : st.ev y = .c (.d (.lit (.int k i)))) (ht : tSl P T 2 = true) (h0 : 0 ≤ i) (h1 : i < l.length) : Qt P ⟨dst, .indexAddr T x y, ty, pos, af, none⟩ st (.c (.d (.pt [dT (atZ l i).1, dT (atZ l i).2]))) :=
  qt_idx hx hy ht h0 h1 (recD_cut (atZ_some h0 h1))
end
section
variable {P : Program} {st : St} {dst : Option Tmp} {ty : TypeId} {pos : String} {af : Array Edge} {T : TypeId} {x y : Operand}
theorem qt_load_same {b off : Nat} {cs : List C} {v : Value} {z : D} (hx : st.ev x = .c (.lp b off)) (hb : st.bl b = some (.box cs)) (ht : tOne P T = true) (hc : cs[off]? = some (.d (.same v z))) :
    Qt P ⟨dst, .load T x, ty, pos, af, none⟩ st (.c (.d z)) := fun w0 ρ Φ a w hm => by
  obtain ⟨u, h1, h2⟩ := qt_load_box (dst := dst) (ty := ty) (pos := pos) (af := af) hx hb ht hc w0 ρ Φ a w hm
  refine ⟨u, h1, ?_⟩
  have := h2.c_inv
  cases this with
  | d _ _ F h hav => cases h with | same _ _ _ h => exact .c _ _ (.d _ _ F h hav)
/-- bytes -/
abbrev eB (l : Tx) : D := .sl 1 l.length (cY l)
theorem qt_idxY {l : Tx} {k : IntKind} {i : Int} (hx : st.ev x = .c (.d (eB l))) (hy : st.ev y = .c (.d (.lit (.int k i)))) (ht : tSl P T 1 = true) (h0 : 0 ≤ i) (h1 : i < l.length) : Qt P ⟨dst, .indexAddr T x y, ty, pos, af, none⟩ st (.c (.d (.pt [.lit (.int .u8 (byt l i))]))) :=
  qt_idx hx hy ht h0 h1 (map_at (atZ_some h0 h1))
end

end Go.Proofs.Ytefbiejoikpkmaa

namespace Go.Proofs.Ytefbiejoikpkmaa
open Go.RowKit
set_option linter.unusedSectionVars false
variable [Glb]
open Go Go.RowKit
/-! functions that write what they are handed and return nothing -/
def PN (P : Program) (f : FuncId) (as : List RP) (xs' : List D) : Prop :=
  (∀ (args : Array Value) (W : World), (callFunc f args).run P W = .ok (.enter f args) W) ∧
  (∀ x ∈ xs', x ≠ D.any) ∧ ∀ (w : World) (us : List Value) (Fs : List (List Nat)), OwC w us (as.flatMap RP.cells) Fs → Fs.flatten.Nodup → (ok : Glb.ok w) → (gl : ∀ g, Glb.bl g → g ∉ Fs.flatten) →
    Calls P f (asmL as us).toArray w fun e w' => ∃ Gs, e = .returned (.tuple #[]) ∧ OwC w' us xs' Gs ∧ Gs.flatten.Nodup ∧ (∀ g ∈ Gs.flatten, g ∈ Fs.flatten ∨ w.heap.size ≤ g) ∧ Kp ⟨w, fun g => g ∈ Fs.flatten, fun _ => none, fun _ _ => rfl, ok, gl⟩ w w'
section
variable {P : Program} {ops : Array Oper} {mu : Nat → Bool} {r : OT} {st : St} {K : St → Prop} {j : Nat} {ty : TypeId} {pos : String} {af : Array Edge}
theorem so_callN {xs : List Operand} {ts : Array TypeId} {d : Nat} {fid : FuncId} {as : List RP} {xs' : List D} {Ss : List (List Nat)} (ha : ArgM st xs as Ss) (hS : Ss.flatten.Nodup) (hc : PN P fid as xs') (hd : Nat.blt d st.n = true) (hmu : mu j = true)
    (h : SO P ops mu r ((st.setL (updB Ss xs')).put d (.c .junk)) K) :
    SO P ops mu (.cons (some ⟨some d, .call { callee := .value (.func fid), args := ⟨xs⟩, argTypes := ts }, ty, pos, af, none⟩, j, false) r) st K := by
  refine so_m hmu fun κ a w hs next Q hn => ?_
  obtain ⟨ρ, Φ, hm⟩ := hs
  obtain ⟨us, cs, h1, h2, h3⟩ := ha.own hm
  have ho := h2.own hm h3
  have hfl := nodup_maps hm.nd hm.dj Ss
  have hnd : ((Ss.map (List.flatMap Φ)).flatten).Nodup := by rw [hfl]; exact nodup_parts hm.nd hm.dj hS
  have hcall := hc.2.2 w us _ ho hnd hm.below.ok (fun g hg h => Ctx.gln hg (by rw [hfl] at h; obtain ⟨b, _, hb⟩ := List.mem_flatMap.1 h; exact hm.low b g hb))
  have hex : (execOp a.eval ⟨some d, .call { callee := .value (.func fid), args := ⟨xs⟩, argTypes := ts }, ty, pos, af, none⟩).run P w = .ok (.enter fid (asmL as us).toArray) w := by
    rw [← h1]
    simp only [execOp, resolve, Sem.run_bind, Act.eval]
    simp [Deferred.ofValue, invoke]
    exact hc.1 _ _
  unfold Oper.wp
  rw [hex]
  refine Calls.mono hcall ?_
  rintro e w' ⟨Gs, rfl, c2, c3, c4, c5⟩
  obtain ⟨F, f1, f2, f3⟩ := updB_run h2 h3 c2 c3 hS
  have kp : Kp κ w w' := ⟨c5.os, c5.tape, c5.output, c5.size, c5.shp, fun g hg => c5.block g fun h => hg (by
    rcases h with h | h
    · exact .inl (Nat.le_trans hm.below.size h)
    · have h2 : g ∈ List.flatMap Φ Ss.flatten := (congrArg (g ∈ ·) hfl).mp h
      obtain ⟨b, _, hb⟩ := List.mem_flatMap.1 h2
      exact hm.low b g hb)⟩
  have upd : ∀ b, b ∈ Ss.flatten → inL (updB Ss xs') b = true ∨ Φ b = [] := by
    have gen : ∀ {cs : List C} {zs : List D} {Ts : List (List Nat)}, GvM st cs zs Ts → ∀ {us : List Value} {zs' : List D} {Hs : List (List Nat)}, CrL w ρ (InΦ Φ) us cs → OwC w' us zs' Hs → (∀ x ∈ zs', x ≠ D.any) → ∀ b, b ∈ Ts.flatten → inL (updB Ts zs') b = true ∨ Φ b = [] := by
      intro cs zs Ts hg
      induction hg with
      | nil => intro us zs' Hs _ _ _ b hb; simp at hb
      | cons hg t ih =>
        intro us zs' Hs hc ho hfa b hb
        cases hc with
        | cons hc1 hct =>
          cases ho with
          | cons ho1 hot =>
            rw [List.flatten_cons, List.mem_append] at hb
            cases hg with
            | lit v => rcases hb with hb | hb; cases hb; simpa [updB] using ih hct hot (fun x hx => hfa x (List.mem_cons_of_mem _ hx)) b hb
            | nil sz hz => rcases hb with hb | hb; cases hb; simpa [updB] using ih hct hot (fun x hx => hfa x (List.mem_cons_of_mem _ hx)) b hb
            | row b0 sz n ds hbl hn =>
              have slc : ∀ {sz' n' : Nat} {ds' : List D} {zs : List D} {Ts : List (List Nat)}, (b ∈ [b0] ∨ b ∈ Ts.flatten) → (b ∈ Ts.flatten → inL (updB Ts zs) b = true ∨ Φ b = []) → inL (updB ([b0] :: Ts) (.sl sz' n' ds' :: zs)) b = true ∨ Φ b = [] := by
                intro sz' n' ds' zs Ts hb hih
                have eq : updB ([b0] :: Ts) (.sl sz' n' ds' :: zs) = (b0, .row sz' ds') :: updB Ts zs := by simp [updB]
                rw [eq]
                rcases hb with hb | hb
                · simp at hb; subst hb; exact .inl (by simp [inL])
                · rcases hih hb with h | h
                  · refine .inl ?_
                    simp only [inL, List.any_cons, Bool.or_eq_true] at h ⊢
                    exact .inr h
                  · exact .inr h
              rcases ls_inv hc1 with ⟨hρ0, rfl, _⟩ | ⟨g, cap, us2, E, _, rfl, _⟩
              · have hΦ0 : Φ b0 = [] := by
                  rcases hm.rowN hbl with ⟨_, _, h, _⟩ | ⟨_, _, _, _, _, h, _⟩
                  · exact h
                  · rw [hρ0] at h; cases h
                cases ho1 with
                | lit _ h =>
                  rcases hb with hb | hb
                  · simp at hb; subst hb; exact .inr hΦ0
                  · simpa [updB] using ih hct hot (fun x hx => hfa x (List.mem_cons_of_mem _ hx)) b hb
                | any => exact absurd rfl (hfa _ (List.mem_cons_self ..))
                | nil _ _ => exact slc hb fun h => ih hct hot (fun x hx => hfa x (List.mem_cons_of_mem _ hx)) b h
              · cases ho1 with
                | lit _ h => simp [sc] at h
                | any => exact absurd rfl (hfa _ (List.mem_cons_self ..))
                | sl => exact slc hb fun h => ih hct hot (fun x hx => hfa x (List.mem_cons_of_mem _ hx)) b h
    exact gen h2 h3 c2 hc.2.1
  obtain ⟨Φ', hm'⟩ := hm.updL (w' := w') (updB Ss xs') F kp (fun g hg hlt => c5.block g fun h => by
    rcases h with h | h
    · exact absurd hlt (Nat.not_lt.2 h)
    · replace h := (congrArg (g ∈ ·) hfl).mp h
      obtain ⟨b, hb, hgb⟩ := List.mem_flatMap.1 h
      rcases upd b hb with h | h
      · exact hg b h hgb
      · rw [h] at hgb; cases hgb) (fun b hb => (f2 b hb).1) f3 (fun b hb g hg => by
      rcases c4 g ((f2 b hb).2 g hg) with h | h
      · replace h := (congrArg (g ∈ ·) hfl).mp h
        obtain ⟨b2, hb2, hgb⟩ := List.mem_flatMap.1 h
        rcases upd b2 hb2 with h | h
        · exact .inl ⟨b2, h, hgb⟩
        · rw [h] at hgb; cases hgb
      · exact .inr h) (fun Φ' b x hx => f1 b x hx Φ')
  exact hn _ _ (fun h => by cases h) ⟨_, ⟨ρ, Φ', hm'.put (.c _ _ (.junk _)) d (by simpa [St.setL] using hd)⟩, h⟩
end

end Go.Proofs.Ytefbiejoikpkmaa

namespace Go.Proofs.Ytefbiejoikpkmaa
open Go.RowKit
set_option linter.unusedSectionVars false
variable [Glb]
open Go Go.RowKit
/-! a slice compared with nil -/
section
variable {P : Program} {st : St} {dst : Option Tmp} {ty : TypeId} {pos : String} {af : Array Edge} {T T' : TypeId} {x y : Operand}
theorem nil_cmp {E : TypeId} (hT : P.underlying T = some (.slice E)) (ao : Option Addr) (n c : Nat) (w : World) :
    (do eqGuard .eql T x y (.slice ao n c) (.slice none 0 0); binOp .eql T (.slice ao n c) (.slice none 0 0) : Sem Value).run P w = .ok (.bool ao.isNone) w ∧
    (do eqGuard .neq T x y (.slice ao n c) (.slice none 0 0); binOp .neq T (.slice ao n c) (.slice none 0 0) : Sem Value).run P w = .ok (.bool (!ao.isNone)) w := by
  have h1 := Go.Lib.run_eql_slice_nil (P := P) w T E ao n c 0 0 hT
  have h2 := Go.run_neq_slice_nil_any (P := P) w T E ao n c 0 0 hT
  constructor
  · simp only [Sem.run_bind, eqGuard]
    simp [h1]
  · simp only [Sem.run_bind, eqGuard]
    simp [h2]
theorem qt_nil_of {b : Bool} (hy : st.ev y = .c (.d (.lit (.slice none 0 0)))) (ht : tIsSl P T = true)
    (h : ∀ (w0 : Ctx) ρ Φ a w, Sm w0 ρ Φ st a w → ∃ ao n c, a.eval x = .slice ao n c ∧ ao.isNone = b) :
    Qt P ⟨dst, .binOp .eql T x y T', ty, pos, af, none⟩ st (.c (.d (.lit (.bool b)))) ∧ Qt P ⟨dst, .binOp .neq T x y T', ty, pos, af, none⟩ st (.c (.d (.lit (.bool (!b))))) := by
  obtain ⟨E, hT⟩ := tIsSl_spec ht
  constructor
  · intro w0 ρ Φ a w hm
    obtain ⟨ao, n, c, hx, hb⟩ := h w0 ρ Φ a w hm
    have hy' : a.eval y = .slice none 0 0 := FR.lit_inv (by rw [← hy]; exact hm.ev y)
    refine ⟨.bool b, fun w' _ => ?_, .litI rfl⟩
    have := (nil_cmp (x := x) (y := y) hT ao n c w').1
    rw [hb] at this
    simp only [Sem.run_bind] at this
    simp only [execOp, hx, hy', Sem.run_bind]
    generalize Sem.run P (eqGuard .eql T x y (.slice ao n c) (.slice none 0 0)) w' = z at *
    cases z with
    | ok _ w1 => simp only [Result.andThen_ok] at this ⊢; simp [this]
    | halt _ _ => simp [Result.andThen] at this
  · intro w0 ρ Φ a w hm
    obtain ⟨ao, n, c, hx, hb⟩ := h w0 ρ Φ a w hm
    have hy' : a.eval y = .slice none 0 0 := FR.lit_inv (by rw [← hy]; exact hm.ev y)
    refine ⟨.bool (!b), fun w' _ => ?_, .litI rfl⟩
    have := (nil_cmp (x := x) (y := y) hT ao n c w').2
    rw [hb] at this
    simp only [Sem.run_bind] at this
    simp only [execOp, hx, hy', Sem.run_bind]
    generalize Sem.run P (eqGuard .neq T x y (.slice ao n c) (.slice none 0 0)) w' = z at *
    cases z with
    | ok _ w1 => simp only [Result.andThen_ok] at this ⊢; simp [this]
    | halt _ _ => simp [Result.andThen] at this
theorem qt_eql_nil0 (hx : st.ev x = .c (.d (.lit (.slice none 0 0)))) (hy : st.ev y = .c (.d (.lit (.slice none 0 0)))) (ht : tIsSl P T = true) : Qt P ⟨dst, .binOp .eql T x y T', ty, pos, af, none⟩ st (.c (.d (.lit (.bool true)))) :=
  (qt_nil_of (b := true) hy ht fun w0 ρ Φ a w hm => ⟨none, 0, 0, FR.lit_inv (by rw [← hx]; exact hm.ev x), rfl⟩).1
theorem qt_neq_nil0 (hx : st.ev x = .c (.d (.lit (.slice none 0 0)))) (hy : st.ev y = .c (.d (.lit (.slice none 0 0)))) (ht : tIsSl P T = true) : Qt P ⟨dst, .binOp .neq T x y T', ty, pos, af, none⟩ st (.c (.d (.lit (.bool false)))) :=
  (qt_nil_of (b := true) hy ht fun w0 ρ Φ a w hm => ⟨none, 0, 0, FR.lit_inv (by rw [← hx]; exact hm.ev x), rfl⟩).2
theorem nil_ls {b sz off n : Nat} (hx : st.ev x = .c (.ls b sz off n)) (h0 : 0 < n) (w0 : Ctx) (ρ : Nat → Option Nat) (Φ : Nat → List Nat) (a : Act) (w : World) (hm : Sm w0 ρ Φ st a w) : ∃ ao n c, a.eval x = .slice ao n c ∧ ao.isNone = false := by
  have h := hm.ev x
  rw [hx] at h
  rcases ls_inv h.c_inv with ⟨_, _, _, h1⟩ | ⟨g, cap, cs, E, hρ, hv, _⟩
  · omega
  · exact ⟨_, _, _, hv, rfl⟩
theorem qt_eql_nilS {b sz off n : Nat} (hx : st.ev x = .c (.ls b sz off n)) (hy : st.ev y = .c (.d (.lit (.slice none 0 0)))) (ht : tIsSl P T = true) (h0 : 0 < n) : Qt P ⟨dst, .binOp .eql T x y T', ty, pos, af, none⟩ st (.c (.d (.lit (.bool false)))) :=
  (qt_nil_of (b := false) hy ht (nil_ls hx h0)).1
theorem qt_neq_nilS {b sz off n : Nat} (hx : st.ev x = .c (.ls b sz off n)) (hy : st.ev y = .c (.d (.lit (.slice none 0 0)))) (ht : tIsSl P T = true) (h0 : 0 < n) : Qt P ⟨dst, .binOp .neq T x y T', ty, pos, af, none⟩ st (.c (.d (.lit (.bool true)))) :=
  (qt_nil_of (b := false) hy ht (nil_ls hx h0)).2
theorem nil_d {sz n : Nat} {ds : List D} (hx : st.ev x = .c (.d (.sl sz n ds))) (h0 : 0 < n) (w0 : Ctx) (ρ : Nat → Option Nat) (Φ : Nat → List Nat) (a : Act) (w : World) (hm : Sm w0 ρ Φ st a w) : ∃ ao n c, a.eval x = .slice ao n c ∧ ao.isNone = false := by
  have h := hm.ev x
  rw [hx] at h
  obtain ⟨F, h', hF⟩ := h.d_inv
  generalize hv : a.eval x = v at *
  cases h' with
  | sl ao _ cap _ _ us Fs hn hz hle hs hc hr =>
    obtain ⟨q, hq⟩ := Option.isSome_iff_exists.1 (hs h0)
    exact ⟨ao, n, cap, rfl, by rw [hq]; rfl⟩
theorem qt_eql_nilD {sz n : Nat} {ds : List D} (hx : st.ev x = .c (.d (.sl sz n ds))) (hy : st.ev y = .c (.d (.lit (.slice none 0 0)))) (ht : tIsSl P T = true) (h0 : 0 < n) : Qt P ⟨dst, .binOp .eql T x y T', ty, pos, af, none⟩ st (.c (.d (.lit (.bool false)))) :=
  (qt_nil_of (b := false) hy ht (nil_d hx h0)).1
theorem qt_neq_nilD {sz n : Nat} {ds : List D} (hx : st.ev x = .c (.d (.sl sz n ds))) (hy : st.ev y = .c (.d (.lit (.slice none 0 0)))) (ht : tIsSl P T = true) (h0 : 0 < n) : Qt P ⟨dst, .binOp .neq T x y T', ty, pos, af, none⟩ st (.c (.d (.lit (.bool true)))) :=
  (qt_nil_of (b := false) hy ht (nil_d hx h0)).2
end

end Go.Proofs.Ytefbiejoikpkmaa
