/- A way of walking over plain data: part of the proof of FnExactNewConsole. No condition beyond those of its theorems. -/
import Derived.WalkKit
import Derived.Laws.MakeOwn
import Derived.Test.YtlhebnjbofmdfaaKplainA
import Derived.Test.YtlhebnjbofmdfaaKplainB
import Derived.Below
namespace Go.Proofs.Ytlhebnjbofmdfaa
open Go.RowKit
open Go Go.RowKit
/-! rows whose elements have more than one cell -/
section
variable {P : Program} {ops : Array Oper} {mu : Nat → Bool} {r : OT} {st : St} {K : St → Prop} {i : Nat} {ty : TypeId} {pos : String} {af : Array Edge}
def repL' {α : Type} (n : Nat) (l : List α) : List α := (List.replicate n l).flatten
theorem repL'_len {α : Type} (n : Nat) (l : List α) : (repL' n l).length = n * l.length := by simp [repL']
theorem repL'_succ {α : Type} (n : Nat) (l : List α) : repL' (n + 1) l = l ++ repL' n l := by simp [repL', List.replicate_succ]
theorem repL'_get {α : Type} {l : List α} : ∀ {n k : Nat}, k < n * l.length → (repL' n l)[k]? = l[k % l.length]?
  | 0, k, h => by simp at h
  | n + 1, k, h => by
    rw [repL'_succ]
    by_cases hk : k < l.length
    · rw [List.getElem?_append_left hk, Nat.mod_eq_of_lt hk]
    · rw [List.getElem?_append_right (by omega), repL'_get (by rw [Nat.succ_mul] at h; omega)]
      congr 1
      rw [← Nat.mod_eq_sub_mod (by omega)]
theorem so_makeN {T : TypeId} {l c : Operand} {kl kc : IntKind} {d sz by_ : Nat} {n : Int} {zs : List Value} {ys : List D} (hl : st.ev l = .c (.d (.lit (.int kl n)))) (hc : st.ev c = .c (.d (.lit (.int kc n)))) (ht : tBytes P T sz by_ = true)
    (hz : ((P.underlying T).bind fun t => match t with | .slice E => (P.info? E).bind fun i => i.zero.map fun z => z.cells.toList | _ => none) = some zs) (hzl : zs.length = sz) (hsz : 0 < sz) (hy : ∀ w, OwL w zs ys []) (h0 : 0 ≤ n) (hb : by_ * n.toNat ≤ 281474976710656) (h63 : n ≤ 9223372036854775807) (hd : Nat.blt d st.n = true)
    (h : SO P ops mu r ((st.new [(d, .row sz (repL' n.toNat ys))]).put d (.c (.ls d sz 0 n.toNat))) K) :
    SO P ops mu (.cons (some ⟨some d, .makeSlice T l c, ty, pos, af, none⟩, i, false) r) st K := by
  refine so_a fun w0 a w hs next Q hn => ?_
  obtain ⟨ρ, Φ, hm⟩ := hs
  obtain ⟨E, inf, z', hu, hi, hs', hby, hzz, hzs⟩ := tBytes_spec ht
  have hzeq : z'.cells.toList = zs := by rw [hu] at hz; simpa [hi, hzz] using hz
  have h1 : a.eval l = .int kl n := FR.lit_inv (by rw [← hl]; exact hm.ev l)
  have h2 : a.eval c = .int kc n := FR.lit_inv (by rw [← hc]; exact hm.ev c)
  have hnn : (n.toNat : Int) = n := Int.toNat_of_nonneg h0
  have hb' : (inf.bytes : Int) * n ≤ 281474976710656 := by
    have h : ((by_ * n.toNat : Nat) : Int) ≤ 281474976710656 := by omega
    rw [Int.natCast_mul, hnn, ← hby] at h; exact h
  have hrun := run_make (P := P) w T E inf z' hu hi hzz kl kc n n h0 (Int.le_refl _) hb' h63
  rw [hs'] at hrun
  have hyl : zs.length = ys.length := (hy w).len
  have hmade : madeCells z'.cells (n.toNat * sz) = (repL' n.toNat zs).toArray := by
    have hcs : z'.cells = zs.toArray := by rw [← hzeq]
    apply Array.ext
    · simp [size_madeCells, repL'_len, hzl]
    · intro k h1 h2
      have hk : k < n.toNat * zs.length := by simpa [repL'_len] using h2
      have hm : k % zs.length < zs.length := Nat.mod_lt _ (by omega)
      have e := repL'_get hk
      rw [List.getElem?_eq_getElem (by simpa [repL'_len] using hk), List.getElem?_eq_getElem hm] at e
      simp only [madeCells, hcs, Array.getElem_map, Array.getElem_range, List.size_toArray, List.getElem_toArray]
      rw [Option.some.inj e, getElem!_pos _ _ (by simpa using hm)]
      simp
  rw [hmade] at hrun
  have hol : ∀ m, OwL w (repL' m zs) (repL' m ys) (([] : List Nat).flatMap Φ) := by
    intro m
    induction m with
    | zero => exact .nil
    | succ m ih => rw [repL'_succ, repL'_succ]; exact (hy w).append (F := []) ih
  obtain ⟨ρ', Φ', hm', hcr⟩ := hm.fresh (S := []) List.nodup_nil d sz n.toNat (by have := hm.nb; have : d < st.n := (by simpa using hd); omega) hsz E (hol n.toNat) (by rw [repL'_len, ← hyl, hzl]) (by omega)
  refine at_value (w' := w.alloc (.cells (repL' n.toNat zs).toArray E)) (v := .slice (some ⟨w.heap.size, 0, none⟩) n.toNat n.toNat) ?_ (hn _ _ (fun _ => .of (bel_new _ _)) ⟨_, ⟨ρ', Φ', hm'.put (.c _ _ hcr) d (by simpa [St.new, St.kill, St.drop] using hd)⟩, h⟩)
  simp [execOp, h1, h2, hrun]
theorem flat_parts {α : Type} : ∀ (Ss : List (List α)), Ss.flatten = (List.range Ss.length).flatMap fun k => Ss.getD k []
  | [] => rfl
  | S :: Ss => by
    rw [List.flatten_cons, flat_parts Ss, List.length_cons, List.range_succ_eq_map, List.flatMap_cons, List.flatMap_map]
    rfl
theorem OwC.get {w : World} {vs : List Value} {xs : List D} {Fs : List (List Nat)} (h : OwC w vs xs Fs) : ∀ k, (hk : k < xs.length) → Ow w (vs.getD k undef) xs[k] (Fs.getD k []) := by
  induction h with
  | nil => intro k hk; simp at hk
  | cons h t ih =>
    intro k hk
    cases k with
    | zero => exact h
    | succ k => simpa using ih k (by simpa using hk)
theorem so_store_rowN {T : TypeId} {p x : Operand} {b sz off n : Nat} {ds ys : List D} {cs : List C} {Ss : List (List Nat)} (hp : st.ev p = .c (.lp b off)) (hb : st.bl b = some (.row sz ds)) (hv : st.ev x = .g cs) (hg : GvM st cs ys Ss) (hok : okL cs = true)
    (hS : Ss.flatten.Nodup) (hbS : b ∉ Ss.flatten) (ht : tSize P T n = true) (hn' : cs.length = n) (hlt : off + n ≤ ds.length) (hmu : mu i = true) (h : SO P ops mu r ((st.drop Ss.flatten).setB b (some (.row sz (ds.take off ++ ys ++ ds.drop (off + n))))) K) :
    SO P ops mu (.cons (some ⟨none, .store T p x, ty, pos, af, none⟩, i, false) r) st K := by
  refine so_m hmu fun w0 a w hs next Q hn => ?_
  obtain ⟨ρ, Φ, hm⟩ := hs
  have hp' := hm.ev p
  rw [hp] at hp'
  obtain ⟨g, hρ, hpv⟩ := lp_inv hp'.c_inv
  have hx' := hm.ev x
  rw [hv] at hx'
  obtain ⟨us', hve, hul, hur⟩ := hx'.g_inv
  have hcr := CrL.of (w := w) (ρ := ρ) (Ψ := InΦ Φ) hul hur
  have hox := hg.own hm hcr
  have hlen := hox.len
  have hone : ∀ u ∈ us', u.oneCell' = true := fun u hu => by
    obtain ⟨k, hk, rfl⟩ := List.getElem_of_mem hu
    have := (hur k (by omega)).one (okL_get hok k (by omega))
    rwa [List.getD_eq_getElem?_getD, List.getElem?_eq_getElem hk] at this
  rcases hm.rowN hb with ⟨h0, _⟩ | ⟨g', us, E, vs, Fs, hρ', hΦ, hz, hgh, hl, hcc, hr⟩
  · rw [hρ] at h0; cases h0
  · rw [hρ] at hρ'; cases hρ'
    have hcells : (Value.agg us'.toArray).cells = us'.toArray := rfl
    have hrun := run_store_at (P := P) (w := w) (off := off) (vs := us') ht hgh hcells (by omega) hone (by omega)
    have hgΦ : g ∈ Φ b := by rw [hΦ]; exact List.mem_cons_self ..
    have hlow : w0.lo g := hm.low b g hgΦ
    let us2 : List Value := us.toList.take off ++ us' ++ us.toList.drop (off + n)
    let ds2 : List D := ds.take off ++ ys ++ ds.drop (off + n)
    have hyl : ys.length = n := by omega
    have hd2 : ds2.length = ds.length := by simp [ds2]; omega
    have hsz : us2.toArray.size = us.size := by simp [us2]; omega
    have hndb := hm.nd b
    rw [hΦ, List.nodup_cons] at hndb
    obtain ⟨nf1, nf2⟩ := nodup_flat hndb.2
    let Gs : Nat → List Nat := fun k => if off ≤ k ∧ k < off + n then (Ss.getD (k - off) []).flatMap Φ else Fs k
    have hSl : Ss.length = n := by have := hlen.2; simp at this; omega
    have memS : ∀ k g2, g2 ∈ (Ss.getD k []).flatMap Φ → ∃ c ∈ Ss.flatten, g2 ∈ Φ c ∧ c ∈ Ss.getD k [] := fun k g2 h2 => by
      obtain ⟨c, hc, hgc⟩ := List.mem_flatMap.1 h2
      refine ⟨c, ?_, hgc, hc⟩
      have hk : k < Ss.length := by
        rcases Nat.lt_or_ge k Ss.length with h | h
        · exact h
        · rw [List.getD_eq_getElem?_getD, List.getElem?_eq_none h] at hc; cases hc
      rw [List.getD_eq_getElem?_getD, List.getElem?_eq_getElem hk] at hc
      exact List.mem_flatten.2 ⟨_, List.getElem_mem hk, hc⟩
    have notb : ∀ k g2, g2 ∈ (Ss.getD k []).flatMap Φ → g2 ∉ Φ b := fun k g2 h2 h3 => by
      obtain ⟨c, hc, hgc, _⟩ := memS k g2 h2
      have := hm.dj b c g2 h3 hgc; subst this; exact hbS hc
    have ndS : (∀ k, k < n → (Ss.getD k []).Nodup) ∧ ∀ i j c, i < n → j < n → c ∈ Ss.getD i [] → c ∈ Ss.getD j [] → i = j := by
      have := hS
      rw [flat_parts, hSl] at this
      exact nodup_flat this
    have inb : ∀ k2 g2, k2 < ds.length → g2 ∈ Fs k2 → g2 ∈ Φ b := fun k2 g2 hk2 h => by rw [hΦ]; exact List.mem_cons_of_mem _ (mem_parts.2 ⟨k2, hk2, h⟩)
    have ndparts : (parts ds.length Gs).Nodup := nodup_of (fun k hk => by
        simp only [Gs]; split
        · exact nodup_parts hm.nd hm.dj (ndS.1 _ (by omega))
        · exact nf1 k hk) fun p q g2 hp hq h1 h2 => by
        simp only [Gs] at h1 h2
        split at h1
        · split at h2
          · obtain ⟨c, _, hc1, hc2⟩ := memS _ _ h1
            obtain ⟨c', _, hc1', hc2'⟩ := memS _ _ h2
            have := hm.dj c c' g2 hc1 hc1'; subst this
            have := ndS.2 _ _ c (by omega) (by omega) hc2 hc2'
            omega
          · exact absurd (inb q g2 hq h2) (notb _ _ h1)
        · split at h2
          · exact absurd (inb p g2 hp h1) (notb _ _ h2)
          · exact nf2 p q g2 hp hq h1 h2
    obtain ⟨Φ', hm'⟩ := hm.upd (w' := w.setRow g us2.toArray) b Ss.flatten (.row sz ds2) (g :: parts ds.length Gs) g hgΦ hbS
      (setRow_below hlow (setRow_shp hgh hsz)) (fun k hk => setRow_other w g k _ hk) (setRow_shp hgh hsz) (List.nodup_cons.2 ⟨fun hmem => by
        obtain ⟨k, hk, hgk⟩ := mem_parts.1 hmem
        simp only [Gs] at hgk
        split at hgk
        · exact notb _ g hgk hgΦ
        · exact hndb.1 (mem_parts.2 ⟨k, hk, hgk⟩), ndparts⟩) (fun g2 hg2 => by
        rcases List.mem_cons.1 hg2 with rfl | hg2
        · exact .inl hgΦ
        · obtain ⟨k, hk, hgk⟩ := mem_parts.1 hg2
          simp only [Gs] at hgk
          split at hgk
          · obtain ⟨c, hc, hgc, _⟩ := memS _ _ hgk; exact .inr ⟨c, hc, hgc⟩
          · exact .inl (inb k g2 hk hgk)) (fun Φ' hΦ' => by
        rw [hρ]
        have hu2 : ∀ k, k < ds.length → us2[k]? = some (if off ≤ k ∧ k < off + n then us'.getD (k - off) undef else vs k) := fun k hk => by
          have hcck := hcc k hk
          have htl : us.toList[k]? = some (vs k) := by simpa using hcck
          have h1 : (us.toList.take off).length = off := by simp; omega
          simp only [us2]
          by_cases c1 : k < off
          · rw [List.append_assoc, List.getElem?_append_left (by omega), List.getElem?_take_of_lt c1, htl, if_neg (by omega)]
          · by_cases c2 : k < off + n
            · rw [List.append_assoc, List.getElem?_append_right (by omega), h1, List.getElem?_append_left (by omega), if_pos ⟨by omega, c2⟩, List.getD_eq_getElem?_getD, List.getElem?_eq_getElem (by omega)]; rfl
            · rw [List.getElem?_append_right (by simp; omega), if_neg (by omega), List.getElem?_drop]
              have : off + n + (k - (us.toList.take off ++ us').length) = k := by simp; omega
              rw [this]; exact htl
        have hd2g : ∀ k (hk : k < ds2.length), ds2[k] = if h : off ≤ k ∧ k < off + n then ys[k - off]'(by omega) else ds[k]'(by omega) := fun k hk => by
          have h1 : (ds.take off).length = off := by simp; omega
          simp only [ds2]
          by_cases c1 : k < off
          · rw [List.getElem_append_left (by simp; omega), List.getElem_append_left (by omega), List.getElem_take, dif_neg (by omega)]
          · by_cases c2 : k < off + n
            · rw [List.getElem_append_left (by simp; omega), List.getElem_append_right (by omega), dif_pos ⟨by omega, c2⟩]
              simp [h1]
            · rw [List.getElem_append_right (by simp; omega), dif_neg (by omega), List.getElem_drop]
              congr 1; simp; omega
        have hlen2 : ds2.length = ds.length := hd2
        have := BR.row (w := w.setRow g us2.toArray) (ρ := ρ) (Φ := Φ') g us2.toArray E sz ds2 (fun k => if off ≤ k ∧ k < off + n then us'.getD (k - off) undef else vs k) Gs hz (setRow_heap w g us _ E (0, 0) hgh) (by rw [hsz, hlen2]; exact hl)
          (fun k hk => by simpa using hu2 k (by omega))
          (fun k hk => by
            rw [hd2g k hk]
            by_cases hko : off ≤ k ∧ k < off + n
            · rw [dif_pos hko]
              simp only [Gs, if_pos hko]
              have := hox.get (k - off) (by omega)
              have e : (Ss.map (List.flatMap Φ)).getD (k - off) [] = (Ss.getD (k - off) []).flatMap Φ := by
                rw [List.getD_eq_getElem?_getD, List.getD_eq_getElem?_getD, List.getElem?_map]
                cases Ss[k - off]? <;> rfl
              rw [e] at this
              exact this.keep fun g2 hg2 => setRow_other w g g2 _ fun e => notb _ g2 hg2 (e ▸ hgΦ)
            · rw [dif_neg hko]
              simp only [Gs, if_neg hko]
              exact (hr k (by omega)).keep fun g2 hg2 => setRow_other w g g2 _ fun e => by
                subst e; exact hndb.1 (mem_parts.2 ⟨k, by omega, hg2⟩))
        rw [hlen2] at this
        exact this)
    exact at_skip (by simp [execOp, hpv, hve, hrun, us2]) (hn _ _ (fun h => by cases h) ⟨_, ⟨ρ, Φ', hm'⟩, h⟩)
end

end Go.Proofs.Ytlhebnjbofmdfaa

namespace Go.Proofs.Ytlhebnjbofmdfaa
open Go.RowKit
/-! what the functions compute -/
def inB (n lo hi : Int) : Bool := decide (lo ≤ n) && decide (n ≤ hi)
theorem inB_iff {n lo hi : Int} : inB n lo hi = true ↔ lo ≤ n ∧ n ≤ hi := by simp [inB]
theorem inB_iffF {n lo hi : Int} : inB n lo hi = false ↔ n < lo ∨ hi < n := by rw [← Bool.not_eq_true, inB_iff]; omega
def allB (l : List Int) (lo hi : Int) : Bool := l.all fun n => inB n lo hi
theorem take_succ_all {α : Type} (p : α → Bool) (l : List α) (k : Nat) (h : k < l.length) : (l.take (k + 1)).all p = ((l.take k).all p && p l[k]) := by
  rw [List.take_succ_eq_append_getElem h, List.all_append]; simp
theorem all_f {α : Type} {p : α → Bool} {l : List α} {k : Nat} (h : k < l.length) (hp : p l[k] = false) : l.all p = false := by
  rw [← Bool.not_eq_true, List.all_eq_true]; intro H; have := H _ (List.getElem_mem h); rw [hp] at this; cases this
theorem all_t {α : Type} {p : α → Bool} {l : List α} {k : Nat} (h : ¬ k < l.length) (hp : (l.take k).all p = true) : l.all p = true := by
  rw [List.take_of_length_le (by omega)] at hp; exact hp
/-! lists of numbers told by a function -/
def rowF (f : Nat → Int) (m : Nat) : List Int := (List.range m).map f
def gridF (f : Nat → Nat → Int) (q m : Nat) : List (List Int) := (List.range q).map fun i => rowF (f i) m
theorem rowF_snoc (f : Nat → Int) (m : Nat) : rowF f (m + 1) = rowF f m ++ [f m] := by simp [rowF, List.range_succ]
@[simp] theorem rowF_len (f : Nat → Int) (m : Nat) : (rowF f m).length = m := by simp [rowF]
theorem gridF_snoc (f : Nat → Nat → Int) (q m : Nat) : gridF f (q + 1) m = gridF f q m ++ [rowF (f q) m] := by simp [gridF, List.range_succ]
@[simp] theorem gridF_len (f : Nat → Nat → Int) (q m : Nat) : (gridF f q m).length = q := by simp [gridF]
theorem rowF_congr {f g : Nat → Int} {m : Nat} (h : ∀ k, k < m → f k = g k) : rowF f m = rowF g m := by
  unfold rowF; exact List.map_congr_left fun k hk => h k (List.mem_range.1 hk)
theorem gridF_congr {f g : Nat → Nat → Int} {q m : Nat} (h : ∀ i, i < q → ∀ k, k < m → f i k = g i k) : gridF f q m = gridF g q m := by
  unfold gridF; exact List.map_congr_left fun i hi => rowF_congr (h i (List.mem_range.1 hi))
theorem rowF_get (f : Nat → Int) {m k : Nat} (h : k < m) : (rowF f m).getD k 0 = f k := by simp [rowF, List.getD, h]
def at1 (l : List Int) (i : Nat) : Int := l.getD i 0
theorem at1_lt {l : List Int} {i : Nat} (h : i < l.length) : at1 l i = l[i] := by
  unfold at1; rw [List.getD_eq_getElem?_getD, List.getElem?_eq_getElem h]; rfl
def whenL (b : Bool) (ll : List (List Int)) : List (List Int) := if b = true then ll else []
def whenN (b : Bool) (n : Int) : Int := if b = true then n else 0

/-! sizes, marks -/
def szI (n left : Int) : Int := if left - n < 0 then -1 else left - n
def szR : List (List Int) → Int → Int
  | [], left => left
  | l :: r, left => if szI l.length left < 0 then -1 else szR r (szI l.length left)
def szL (n : Nat) (ll : List (List Int)) (left : Int) : Int := if left - n < 0 then -1 else szR ll (left - n)
def mkI (k : Int) (n : Nat) : List Int := (List.range n).map fun i : Nat => k + (i : Int)
@[simp] theorem mkI_len (k : Int) (n : Nat) : (mkI k n).length = n := by simp [mkI]
def mkII (k : Int) : List (List Int) → List (List Int)
  | [] => []
  | l :: r => mkI k l.length :: mkII (k + l.length) r
def cnt : List (List Int) → Nat
  | [] => 0
  | l :: r => l.length + cnt r
@[simp] theorem mkII_len : ∀ (k : Int) (ll : List (List Int)), (mkII k ll).length = ll.length
  | _, [] => rfl
  | k, l :: r => by simp [mkII, mkII_len]
theorem cnt_append : ∀ a b : List (List Int), cnt (a ++ b) = cnt a + cnt b
  | [], b => by simp [cnt]
  | l :: a, b => by simp [cnt, cnt_append a b]; omega
theorem mkII_append : ∀ (a b : List (List Int)) (k : Int), mkII k (a ++ b) = mkII k a ++ mkII (k + cnt a) b
  | [], b, k => by simp [mkII, cnt]
  | l :: a, b, k => by simp [mkII, mkII_append a b, cnt]; congr 1; omega
theorem cnt_take (ll : List (List Int)) (i : Nat) (h : i < ll.length) : cnt (ll.take (i + 1)) = cnt (ll.take i) + ll[i].length := by
  rw [List.take_succ_eq_append_getElem h, cnt_append]; simp [cnt]
theorem cnt_take_le (ll : List (List Int)) (i : Nat) : cnt (ll.take i) ≤ cnt ll := by
  conv => rhs; rw [← List.take_append_drop i ll, cnt_append]
  omega
theorem mkI_set {l : List Int} {k : Int} {j : Nat} (h : j < l.length) : (mkI k j ++ l.drop j).set j (k + j) = mkI k (j + 1) ++ l.drop (j + 1) := by
  rw [List.set_append_right _ _ (by simp), mkI_len, Nat.sub_self, List.drop_eq_getElem_cons h, List.set_cons_zero]
  simp [mkI, List.range_succ]
theorem mkI_get {k : Int} {n j : Nat} (h : j < (mkI k n).length) : (mkI k n)[j] = k + j := by simp [mkI]
theorem szR_le : ∀ (ll : List (List Int)) (left : Int), 0 ≤ szR ll left → 0 ≤ left → (cnt ll : Int) + szR ll left = left ∧ ∀ l ∈ ll, (l.length : Int) ≤ left
  | [], left, _, _ => ⟨by simp [cnt, szR], fun _ h => by cases h⟩
  | l :: r, left, h, h0 => by
    unfold szR at h ⊢
    have h1 : ¬ szI l.length left < 0 := fun hl => by rw [if_pos hl] at h; omega
    rw [if_neg h1] at h ⊢
    have e : szI l.length left = left - l.length := by unfold szI at h1 ⊢; split at h1 <;> simp_all; omega
    have hnn : 0 ≤ left - l.length := by rw [e] at h1; omega
    rw [e] at h ⊢
    obtain ⟨a, b⟩ := szR_le r (left - l.length) h hnn
    refine ⟨by simp [cnt]; omega, fun x hx => ?_⟩
    rcases List.mem_cons.1 hx with rfl | hx
    · omega
    · have := b x hx; omega
theorem szL_le {n : Nat} {ll : List (List Int)} {left : Int} (h : 0 ≤ szL n ll left) (h0 : 0 ≤ left) : (n : Int) + cnt ll ≤ left ∧ ∀ l ∈ ll, (l.length : Int) ≤ left := by
  unfold szL at h
  split at h
  · omega
  · rename_i hn
    obtain ⟨a, b⟩ := szR_le ll (left - n) h (by omega)
    exact ⟨by omega, fun l hl => by have := b l hl; omega⟩
/-- a list that is filled from the front -/
def fillL {α : Type} (l : List α) (z : α) (k : Nat) : List α := l.take k ++ List.replicate (l.length - k) z
@[simp] theorem fillL_len {α : Type} (l : List α) (z : α) (k : Nat) : (fillL l z k).length = l.length := by simp [fillL]; omega
theorem fillL_zero {α : Type} (l : List α) (z : α) : fillL l z 0 = List.replicate l.length z := by simp [fillL]
theorem fillL_all {α : Type} (l : List α) (z : α) : fillL l z l.length = l := by simp [fillL]
theorem fillL_set {α : Type} {l : List α} (z : α) {k : Nat} (h : k < l.length) : (fillL l z k).set k l[k] = fillL l z (k + 1) := by
  unfold fillL
  have e : l.length - k = (l.length - (k + 1)) + 1 := by omega
  have hl : (l.take k).length = k := by simp; omega
  rw [e, List.replicate_succ, List.set_append_right _ _ (by omega), List.take_succ_eq_append_getElem h, hl, Nat.sub_self, List.set_cons_zero, List.append_assoc]
  rfl
/-- a list whose first j numbers are marked -/
def mkL (l : List Int) (k : Int) (j : Nat) : List Int := mkI k j ++ l.drop j
theorem mkL_zero (l : List Int) (k : Int) : mkL l k 0 = l := by simp [mkL, mkI]
theorem mkL_all (l : List Int) (k : Int) : mkL l k l.length = mkI k l.length := by simp [mkL]
@[simp] theorem mkL_len (l : List Int) (k : Int) {j : Nat} (h : j ≤ l.length) : (mkL l k j).length = l.length := by simp [mkL]; omega
theorem mkL_set {l : List Int} {k : Int} {j : Nat} (h : j < l.length) : (mkL l k j).set j (k + j) = mkL l k (j + 1) := mkI_set h
/-- lists of which the first j are marked -/
def mkLL (ll : List (List Int)) (k : Int) (j : Nat) : List (List Int) := mkII k (ll.take j) ++ ll.drop j
theorem mkLL_zero (ll : List (List Int)) (k : Int) : mkLL ll k 0 = ll := by simp [mkLL, mkII]
theorem mkLL_all (ll : List (List Int)) (k : Int) : mkLL ll k ll.length = mkII k ll := by simp [mkLL]
theorem mkLL_len (ll : List (List Int)) (k : Int) {j : Nat} (h : j ≤ ll.length) : (mkLL ll k j).length = ll.length := by simp [mkLL]; omega
theorem mkLL_get {ll : List (List Int)} {k : Int} {j : Nat} (h : j < ll.length) : (mkLL ll k j)[j]? = some ll[j] := by
  unfold mkLL
  rw [List.getElem?_append_right (by simp; omega), mkII_len, List.length_take, Nat.min_eq_left (by omega), Nat.sub_self, List.getElem?_drop]
  simp [h]
theorem mkLL_set {ll : List (List Int)} {k : Int} {j : Nat} (h : j < ll.length) : (mkLL ll k j).set j (mkI (k + cnt (ll.take j)) ll[j].length) = mkLL ll k (j + 1) := by
  unfold mkLL
  have hl : (mkII k (ll.take j)).length = j := by simp; omega
  rw [List.set_append_right _ _ (by omega), hl, Nat.sub_self, List.drop_eq_getElem_cons h, List.set_cons_zero, List.take_succ_eq_append_getElem h, mkII_append]
  simp [mkII]

theorem mkII_at {ll : List (List Int)} {k : Int} {j : Nat} (h : j < ll.length) : (mkII k ll)[j]? = some (mkI (k + cnt (ll.take j)) ll[j].length) := by
  have e : mkII k ll = mkII k (ll.take j) ++ mkII (k + cnt (ll.take j)) (ll.drop j) := by rw [← mkII_append, List.take_append_drop]
  rw [e, List.getElem?_append_right (by simp; omega), mkII_len, List.length_take, Nat.min_eq_left (by omega), Nat.sub_self, List.drop_eq_getElem_cons h]
  simp [mkII]
theorem szR_m1 : ∀ (ll : List (List Int)) (c : Int), 0 ≤ c → szR ll c < 0 → szR ll c = -1
  | [], c, h0, h => by simp [szR] at h; omega
  | l :: r, c, h0, h => by
    unfold szR at h ⊢
    split
    · rfl
    · rename_i h1; rw [if_neg h1] at h; exact szR_m1 r _ (by omega) h
theorem szL_m1 {n : Nat} {ll : List (List Int)} {c : Int} (h : szL n ll c < 0) : szL n ll c = -1 := by
  unfold szL at h ⊢
  split
  · rfl
  · rename_i h1; rw [if_neg h1] at h; exact szR_m1 ll _ (by omega) h
/-- the entry at a place that is a whole number -/
def atZ {α : Type} [Inhabited α] (l : List α) (i : Int) : α := l.getD i.toNat default
theorem atZ_nat {α : Type} [Inhabited α] {l : List α} {k : Nat} (h : k < l.length) : atZ l (k : Int) = l[k] := by
  simp [atZ, h]
theorem atZ_some {α : Type} [Inhabited α] {l : List α} {i : Int} (h0 : 0 ≤ i) (h1 : i < l.length) : l[i.toNat]? = some (atZ l i) := by
  have : i.toNat < l.length := by omega
  simp [atZ, this]
theorem map_at {α β : Type} {l : List α} {f : α → β} {n : Nat} {x : α} (h : l[n]? = some x) : ((l.map f).drop (n * 1)).take 1 = [f x] := by
  obtain ⟨hlt, rfl⟩ := List.getElem?_eq_some_iff.1 h
  rw [Nat.mul_one, List.drop_eq_getElem_cons (by simpa using hlt), List.take_succ_cons, List.take_zero]
  simp
/-- lists of 0 and 1 -/
def bitsB (l : List Int) (n : Int) : Bool := decide ((l.length : Int) = n) && allB l 0 1
theorem bitsB_len {l : List Int} {n : Int} (h : bitsB l n = true) : (l.length : Int) = n := by
  unfold bitsB at h; simp at h; omega
theorem bitsB_at {l : List Int} {n : Int} (h : bitsB l n = true) {i : Int} (h0 : 0 ≤ i) (h1 : i < n) : 0 ≤ atZ l i ∧ atZ l i ≤ 1 := by
  have hl := bitsB_len h
  unfold bitsB allB at h
  simp only [Bool.and_eq_true, List.all_eq_true] at h
  obtain ⟨k, rfl⟩ := Int.eq_ofNat_of_zero_le h0
  rw [atZ_nat (by omega)]
  exact inB_iff.1 (h.2 (l[k]'(by omega)) (List.getElem_mem _))
theorem cnt_len : ∀ (m : Nat) (ll : List (List Int)), (∀ l ∈ ll, l.length = m) → cnt ll = ll.length * m
  | m, [], _ => by simp [cnt]
  | m, l :: r, h => by
    have h1 := h l (List.mem_cons_self ..)
    have h2 := cnt_len m r fun x hx => h x (List.mem_cons_of_mem _ hx)
    simp only [cnt, List.length_cons, h1, h2]; rw [Nat.add_mul]; omega
theorem cnt_gridF (f : Nat → Nat → Int) (q m : Nat) : cnt (gridF f q m) = q * m := by
  rw [cnt_len m]
  · simp
  · intro l hl; unfold gridF at hl; obtain ⟨i, _, rfl⟩ := List.mem_map.1 hl; simp
theorem cnt_whenL (b : Bool) (ll : List (List Int)) : cnt (whenL b ll) ≤ cnt ll := by
  unfold whenL; split <;> simp [cnt]

end Go.Proofs.Ytlhebnjbofmdfaa

namespace Go.Proofs.Ytlhebnjbofmdfaa
open Go.RowKit
open Go Go.RowKit
/-! parts of lists -/
section
variable {P : Program} {st : St} {dst : Option Tmp} {ty : TypeId} {pos : String} {af : Array Edge}
def bndOK (v : Option (IntKind × Int)) (i z : Nat) : Prop := match v with | some (_, l) => 0 ≤ l ∧ l.toNat = i | none => i = z
theorem run_sliced {T : TypeId} {sz : Nat} (ht : tSl P T sz = true) (ao : Option Addr) (n cap : Nat) (lo hi : Option (IntKind × Int)) (i j : Nat)
    (hlo : bndOK lo i 0) (hhi : bndOK hi j n) (hij : i ≤ j) (hj : j ≤ n) (hnc : n ≤ cap) (w : World) :
    (Instr.sliceAt T (.slice ao n cap) (lo.map fun x => .int x.1 x.2) (hi.map fun x => .int x.1 x.2) none).run P w = .ok (.slice (if cap = i then ao else ao.map (·.add (i * sz))) (j - i) (cap - i)) w := by
  obtain ⟨E, inf, hT, hE, rfl⟩ := tSl_spec ht
  have hs : ∀ w', (sizeOf E).run P w' = .ok inf.size w' := fun w' => by simp [sizeOf, typeInfo, hE]
  cases lo with
  | none =>
    have hlo : i = 0 := hlo
    subst hlo
    cases hi with
    | none =>
      have hhi : j = n := hhi
      subst hhi
      simp [Instr.sliceAt, Instr.slice, underlying, hT, Instr.sliceBounds, hs]
    | some h =>
      obtain ⟨kh, h⟩ := h
      obtain ⟨h0, rfl⟩ : 0 ≤ h ∧ h.toNat = j := hhi
      simp [Instr.sliceAt, Instr.slice, underlying, hT, Instr.sliceBounds, Instr.sliceBound, asIntOf, hs, h0, show h ≤ cap by omega]
  | some l =>
    obtain ⟨kl, l⟩ := l
    obtain ⟨l0, rfl⟩ : 0 ≤ l ∧ l.toNat = i := hlo
    cases hi with
    | none =>
      have hhi : j = n := hhi
      subst hhi
      simp [Instr.sliceAt, Instr.slice, underlying, hT, Instr.sliceBounds, Instr.sliceBound, asIntOf, hs, l0, show l ≤ j by omega]
    | some h =>
      obtain ⟨kh, h⟩ := h
      obtain ⟨h0, rfl⟩ : 0 ≤ h ∧ h.toNat = j := hhi
      simp [Instr.sliceAt, Instr.slice, underlying, hT, Instr.sliceBounds, Instr.sliceBound, asIntOf, hs, l0, h0, show h ≤ cap by omega, show l ≤ max h 0 by omega]
theorem vw_slice {w : World} {ao : Option Addr} {n cap sz : Nat} {ds : List D} {F : List Nat} (h : Vw w (.slice ao n cap) (.sl sz n ds) F) {i j : Nat} (hij : i ≤ j) (hj : j ≤ n) :
    ∃ F', Vw w (.slice (if cap = i then ao else ao.map (·.add (i * sz))) (j - i) (cap - i)) (.sl sz (j - i) ((ds.drop (i * sz)).take ((j - i) * sz))) F' ∧ ∀ b ∈ F', b ∈ F := by
  cases h with
  | sl _ _ _ _ _ us Fs hn hz hle hs hc hr =>
    have hb : i * sz + (j - i) * sz ≤ ds.length := by rw [hn, ← Nat.add_mul]; exact Nat.mul_le_mul_right _ (by omega)
    have hlen : ((ds.drop (i * sz)).take ((j - i) * sz)).length = (j - i) * sz := by simp; omega
    refine ⟨_, .sl _ _ _ _ _ (fun k => us (i * sz + k)) (fun k => Fs (i * sz + k)) hlen hz ⟨by omega, by omega⟩ (fun h0 => ?_) (fun k hk => ?_) (fun k hk => ?_), fun b hb' => ?_⟩
    · have := hs (by omega)
      split
      · exact this
      · cases ao with
        | none => cases this
        | some a => rfl
    · rw [hlen] at hk
      have h0 : 0 < j - i := Nat.pos_of_ne_zero fun e => by rw [e] at hk; simp at hk
      obtain ⟨a, rfl⟩ := Option.isSome_iff_exists.1 (hs (by omega))
      rw [if_neg (by omega)]
      simp only [Option.map_some, adrO_some]
      rw [adr_add]; exact hc _ (by omega)
    · simp only [List.getElem_take, List.getElem_drop]; exact hr _ (by rw [hlen] at hk; omega)
    · by_cases h0 : j - i = 0
      · rw [if_pos h0] at hb'; cases hb'
      · rw [if_neg h0] at hb'
        rw [if_neg (by omega)]
        obtain ⟨a, rfl⟩ := Option.isSome_iff_exists.1 (hs (by omega))
        rw [if_neg (by omega)] at hb'
        rcases List.mem_cons.1 hb' with rfl | hb'
        · simp only [Option.map_some, adrO_some]; rw [adr_block]; exact List.mem_cons_self ..
        · obtain ⟨k, hk, hb'⟩ := mem_parts.1 hb'
          rw [hlen] at hk
          exact List.mem_cons_of_mem _ (mem_parts.2 ⟨i * sz + k, by omega, hb'⟩)
theorem qt_slice_d {T : TypeId} {x : Operand} {lo hi : Option Operand} {sz n m : Nat} {ds ds' : List D} {vl vh : Option (IntKind × Int)} {i j : Nat} (hx : st.ev x = .c (.d (.sl sz n ds)))
    (hl : ∀ a w ρ (Ψ : Nat → Prop), (∀ y, FR w ρ Ψ (Act.eval a y) (st.ev y)) → lo.map a.eval = vl.map fun x => .int x.1 x.2) (hh : ∀ a w ρ (Ψ : Nat → Prop), (∀ y, FR w ρ Ψ (Act.eval a y) (st.ev y)) → hi.map a.eval = vh.map fun x => .int x.1 x.2) (ht : tSl P T sz = true)
    (hlo : bndOK vl i 0) (hhi : bndOK vh j n) (hij : i ≤ j) (hj : j ≤ n) (hm' : j - i = m) (hd : (ds.drop (i * sz)).take (m * sz) = ds') :
    Qt P ⟨dst, .slice T x lo hi none, ty, pos, af, none⟩ st (.c (.d (.sl sz m ds'))) := fun w0 ρ Φ a w hm => by
  subst hm' hd
  have h := hm.ev x
  rw [hx] at h
  obtain ⟨F, h', hF⟩ := h.d_inv
  have e1 := hl a w ρ _ fun y => hm.ev y
  have e2 := hh a w ρ _ fun y => hm.ev y
  generalize hv : a.eval x = v at *
  have h2 := h'
  cases h' with
  | sl ao _ cap _ _ us Fs hn hz hle hs hc hr =>
    obtain ⟨F', hF', hsub⟩ := vw_slice h2 hij hj
    exact ⟨_, fun w' _ => by simp only [execOp, hv, Option.map_none, e1, e2, Sem.run_bind, run_sliced ht ao n cap vl vh i j hlo hhi hij hj hle.2, Result.andThen_ok, Sem.run_pure], .c _ _ (.d _ _ _ hF' fun b hb => hF b (hsub b hb))⟩
theorem ev_some {y : Operand} {k : IntKind} {i : Int} (h : st.ev y = .c (.d (.lit (.int k i)))) (a : Act) (w : World) (ρ : Nat → Option Nat) (Ψ : Nat → Prop) (hm : ∀ y, FR w ρ Ψ (a.eval y) (st.ev y)) :
    (some y).map a.eval = (some (k, i)).map fun x : IntKind × Int => Value.int x.1 x.2 := by
  have := hm y; rw [h] at this; simp [this.lit_inv]
/-- a part of a list -/
def partZ {α : Type} (l : List α) (i j : Int) : List α := (l.drop i.toNat).take (j.toNat - i.toNat)
theorem partZ_len {α : Type} {l : List α} {i j : Int} (h2 : j ≤ l.length) : (partZ l i j).length = j.toNat - i.toNat := by simp [partZ]; omega
theorem map_part {α β : Type} (l : List α) (f : α → β) (i j : Int) : ((l.map f).drop (i.toNat * 1)).take ((j.toNat - i.toNat) * 1) = (partZ l i j).map f := by
  simp [partZ, List.map_take, List.map_drop]
end
section
variable {P : Program} {st : St} {dst : Option Tmp} {ty : TypeId} {pos : String} {af : Array Edge}
theorem parts_nil (n : Nat) : parts n (fun _ => []) = [] := by simp [parts]
/-- A box of numbers, seen as a row. -/
theorem sim_box_row {b : Nat} {cs : List C} {vs : List Value} (hb : st.bl b = some (.box cs)) (he : cs = vs.map fun v => C.d (.lit v)) :
    ∀ κ a w, Sim κ st a w → Sim κ (st.setB b (some (.row 1 (vs.map D.lit)))) a w := by
  subst he
  rintro κ a w ⟨ρ, Φ, hm⟩
  refine ⟨ρ, Φ, hm.below, hm.size, hm.nb, hm.pin, hm.defers, hm.fr, fun k x hx => ?_, fun k hk => ?_, hm.low, hm.nd, hm.dj⟩
  · simp only [St.setB] at hx
    by_cases hkb : k = b
    · subst hkb
      rw [if_pos rfl] at hx; cases hx
      have h0 := hm.bl k _ hb
      generalize ρ k = r at h0 ⊢
      generalize Φ k = F at h0 ⊢
      cases h0 with
      | box g us E _ hg hl hr =>
        have hl' : us.size = vs.length := by simpa using hl
        have e : [g] = g :: parts (vs.map D.lit).length (fun _ => []) := by rw [parts_nil]
        rw [e]
        refine .row g us E 1 _ (fun j => us.getD j undef) (fun _ => []) (by decide) hg (by simp; omega) (fun j hj => ?_) (fun j hj => ?_)
        · have hj' : j < us.size := by simp at hj; omega
          simp [Array.getD, hj']
        · have hj' : j < vs.length := by simpa using hj
          have := hr j (by simpa using hj')
          simp only [List.getElem_map] at this ⊢
          generalize us.getD j undef = u at this ⊢
          generalize vs[j] = z at this ⊢
          cases this with
          | d _ _ F h hF => cases h with | lit _ h => exact .lit _ h
    · rw [if_neg hkb] at hx; exact hm.bl k x hx
  · simp only [St.setB] at hk
    by_cases hkb : k = b
    · rw [if_pos hkb] at hk; cases hk
    · rw [if_neg hkb] at hk; exact hm.emp k hk
theorem qt_slice_arr {T : TypeId} {x : Operand} {b n sz : Nat} {ds : List D} (hx : st.ev x = .c (.lp b 0)) (hb : st.bl b = some (.row sz ds)) (ht : tArr P T n sz = true) (hn : ds.length = n * sz) (h1 : Nat.ble n 1000000 = true) :
    Qt P ⟨dst, .slice T x none none none, ty, pos, af, none⟩ st (.c (.ls b sz 0 n)) := fun w0 ρ Φ a w hm => by
  have h1 : n ≤ 1000000 := by simpa using h1
  obtain ⟨E, i, hT, hi, rfl⟩ := tArr_spec ht
  have hp := hm.ev x
  rw [hx] at hp
  obtain ⟨g, hρ, hv⟩ := lp_inv hp.c_inv
  rcases hm.rowN hb with ⟨h0, rfl, _⟩ | ⟨g', us, E', vs, Fs, hρ', hΦ, hz, hg, hl, hcc, hr⟩
  · rw [h0] at hρ; cases hρ
  · rw [hρ] at hρ'; cases hρ'
    refine ⟨.slice (some ⟨g, 0, none⟩) n n, fun w' _ => ?_, .c _ _ (.ls b g i.size 0 n n us E' hρ (Nat.le_refl _) (by omega) hg (by omega))⟩
    have ha : (⟨g, 0, none⟩ : Addr).add 0 = ⟨g, 0, none⟩ := by unfold Addr.add; simp
    simp [execOp, hv, Instr.sliceAt, underlying, hT, Instr.sureAddr, Instr.sliceBounds, sizeOf, typeInfo, hi, ha]
end
section
variable {P : Program} {st : St} {dst : Option Tmp} {ty : TypeId} {pos : String} {af : Array Edge}
theorem run_idxa {T : TypeId} {n sz : Nat} (ht : tArr P T n sz = true) {a : Addr} {k : IntKind} {i : Int} (h0 : 0 ≤ i) (h1 : i < n) (w : World) :
    (Instr.indexAt T (.pointer (some a)) (.int k i)).run P w = .ok (.pointer (some (a.add (i.toNat * sz)))) w := by
  obtain ⟨E, inf, hT, hi, rfl⟩ := tArr_spec ht
  simp [Instr.indexAt, asIntOf, underlying, hT, Instr.sureAddr, sizeOf, typeInfo, hi, h0, h1]
theorem qt_idxa_lp {T : TypeId} {x y : Operand} {b off n sz : Nat} {k : IntKind} {i : Int} (hx : st.ev x = .c (.lp b off)) (hy : st.ev y = .c (.d (.lit (.int k i)))) (ht : tArr P T n sz = true) (h0 : 0 ≤ i) (h1 : i < n) :
    Qt P ⟨dst, .indexAddr T x y, ty, pos, af, none⟩ st (.c (.lp b (off + i.toNat * sz))) := fun w0 ρ Φ a w hm => by
  have h := hm.ev x
  rw [hx] at h
  have hi : a.eval y = .int k i := FR.lit_inv (by rw [← hy]; exact hm.ev y)
  obtain ⟨g, hρ, hv⟩ := lp_inv h.c_inv
  exact ⟨.pointer (some ((⟨g, off, none⟩ : Addr).add (i.toNat * sz))), fun w' _ => by simp [execOp, hv, hi, run_idxa ht h0 h1], by rw [adr_mk]; exact .c _ _ (.lp b g _ hρ)⟩
end

end Go.Proofs.Ytlhebnjbofmdfaa
