/- What the functions that FnExactSameByNames reaches return: part of its proof. No condition beyond those of its theorems. -/
import Derived.WalkKit
import Derived.Test.YtefbiejoikpkmaaKfnsFnExactSameByNamesA
import Derived.Test.YtefbiejoikpkmaaKplainC
import Derived.Test.YtefbiejoikpkmaaKplainA
import Derived.Test.YtefbiejoikpkmaaKplainB
import Derived.Laws.IdiomCopy
import Derived.Shelf.Spec.SlicesInsert
import Derived.Shelf.Spec.SlicesInsertGrow
import Derived.WalkSpells
set_option linter.unusedVariables false
set_option linter.unusedSimpArgs false
namespace Go.Proofs.Ytefbiejoikpkmaa
open Go.RowKit
set_option linter.unusedSectionVars false
variable [Glb]
/-! games by other names -/
def insN (l : List Int) (i : Nat) (v : Int) : List Int := l.take i ++ v :: l.drop i
/-- all orders, as the program lists them -/
def ordI : Nat → List (List Int)
  | 0 => [[]]
  | k + 1 => (ordI k).flatMap fun l => (List.range (k + 1)).map fun i => insN l i (k : Int)
/-- .. and as the reference does -/
def ordS : Nat → Nat → List Int → List (List Int)
  | 0, _, b => [b]
  | f + 1, n, b => (cntL n).flatMap fun x => if b.contains x then [] else ordS f n (b ++ [x])
def ordF (n : Nat) : List (List Int) := ordS n n []
theorem ord_isPerm : ∀ n : Fin 4, (ordI n.val).isPerm (ordF n.val) = true := by decide +kernel
theorem ord_perm {n : Nat} (h : n ≤ 3) : (ordI n).Perm (ordF n) := List.isPerm_iff.1 (ord_isPerm ⟨n, by omega⟩)
theorem ord_allB : ∀ n : Fin 4, ((ordI n.val).all fun l => orderB l n.val) = true := by decide +kernel
theorem ord_ok {n : Nat} (h : n ≤ 3) {l : List Int} (hl : l ∈ ordI n) : orderB l n = true := List.all_eq_true.1 (ord_allB ⟨n, by omega⟩) l hl
theorem ord_mem {n : Nat} (hn : 1 ≤ n ∧ n ≤ 3) {l : List Int} (h : orderB l n = true) : l ∈ ordI n := by
  have len := orderB_len h
  have mem := fun x (hx : x ∈ l) => orderB_mem (by omega) h hx
  rcases (by omega : n = 1 ∨ n = 2 ∨ n = 3) with rfl | rfl | rfl
  · match l, len with
    | [a], _ =>
      have ha := mem a (by simp)
      obtain rfl : a = 0 := by omega
      decide
  · match l, len with
    | [a, b], _ =>
      have ha := mem a (by simp)
      have hb := mem b (by simp)
      rcases (by omega : a = 0 ∨ a = 1) with rfl | rfl <;> rcases (by omega : b = 0 ∨ b = 1) with rfl | rfl <;> first | decide | (exfalso; revert h; decide)
  · match l, len with
    | [a, b, c], _ =>
      have ha := mem a (by simp)
      have hb := mem b (by simp)
      have hc := mem c (by simp)
      rcases (by omega : a = 0 ∨ a = 1 ∨ a = 2) with rfl | rfl | rfl <;> rcases (by omega : b = 0 ∨ b = 1 ∨ b = 2) with rfl | rfl | rfl <;> rcases (by omega : c = 0 ∨ c = 1 ∨ c = 2) with rfl | rfl | rfl <;> first | decide | (exfalso; revert h; decide)
theorem ord_invB : ∀ n : Fin 4, ((ordI n.val).all fun f => (ordI n.val).any fun g => (List.range n.val).all fun i => decide (atZ g (atZ f (i : Int)) = (i : Int)) && decide (atZ f (atZ g (i : Int)) = (i : Int))) = true := by decide +kernel
theorem ord_inv {n : Nat} (h : n ≤ 3) {f : List Int} (hf : f ∈ ordI n) : ∃ g, g ∈ ordI n ∧ ∀ i : Nat, i < n → atZ g (atZ f (i : Int)) = (i : Int) ∧ atZ f (atZ g (i : Int)) = (i : Int) := by
  obtain ⟨g, hg, hi⟩ := List.any_eq_true.1 (List.all_eq_true.1 (ord_invB ⟨n, by omega⟩) f hf)
  refine ⟨g, hg, fun i hin => ?_⟩
  have := List.all_eq_true.1 hi i (List.mem_range.2 hin)
  simpa using this
theorem ord_len {n : Nat} (h : n ≤ 3) : (ordI n).length ≤ 6 := by
  rcases (by omega : n = 0 ∨ n = 1 ∨ n = 2 ∨ n = 3) with rfl | rfl | rfl | rfl <;> decide
theorem ordF_len {n : Nat} (h : n ≤ 3) : (ordF n).length ≤ 6 := by rw [← (ord_perm h).length_eq]; exact ord_len h
theorem ord_each {n : Nat} (h : n ≤ 3) {i : Nat} (hi : i < (ordI n).length) : (atZ (ordI n) (i : Int)).length = n ∧ orderB (atZ (ordI n) (i : Int)) n = true := by
  have m := ord_ok h (mem_atZ hi)
  have := orderB_len m
  exact ⟨by omega, m⟩
theorem ordF_each {n : Nat} (h : n ≤ 3) {i : Nat} (hi : i < (ordF n).length) : (atZ (ordF n) (i : Int)).length = n ∧ orderB (atZ (ordF n) (i : Int)) n = true := by
  have m := ord_ok h ((ord_perm h).mem_iff.2 (mem_atZ hi))
  have := orderB_len m
  exact ⟨by omega, m⟩
/-- the list of orders that is under way -/
def ordP (k : Nat) (L : List (List Int)) (j i : Nat) : List (List Int) := (L.take j).flatMap (fun l => (List.range (k + 1)).map fun i => insN l i (k : Int)) ++ (List.range i).map fun i => insN (atZ L (j : Int)) i (k : Int)
theorem ordP_zero (k : Nat) (L : List (List Int)) : ordP k L 0 0 = [] := by simp [ordP]
theorem ordP_snoc (k : Nat) (L : List (List Int)) (j i : Nat) : ordP k L j (i + 1) = ordP k L j i ++ [insN (atZ L (j : Int)) i (k : Int)] := by simp [ordP, List.range_succ]
theorem ordP_row (k : Nat) (L : List (List Int)) {j : Nat} (h : j < L.length) : ordP k L j (k + 1) = ordP k L (j + 1) 0 := by
  unfold ordP
  rw [List.take_succ_eq_append_getElem h, List.flatMap_append, atZ_nat h]
  simp
theorem ordP_all (k : Nat) : ordP k (ordI k) (ordI k).length 0 = ordI (k + 1) := by simp [ordP, ordI]
theorem ordP_len (k : Nat) (L : List (List Int)) {j : Nat} (i : Nat) (h : j ≤ L.length) : (ordP k L j i).length = (k + 1) * j + i := by
  unfold ordP
  have : ∀ M : List (List Int), (M.flatMap fun l => (List.range (k + 1)).map fun i => insN l i (k : Int)).length = (k + 1) * M.length := by
    intro M
    induction M with
    | nil => simp
    | cons a M ih => rw [List.flatMap_cons, List.length_append, ih, List.length_cons, Nat.mul_succ]; simp; omega
  rw [List.length_append, this, List.length_take, Nat.min_eq_left h]
  simp
theorem insN_len (l : List Int) {i : Nat} (v : Int) (h : i ≤ l.length) : (insN l i v).length = l.length + 1 := by simp [insN]; omega
/-- the list of the reference that is under way -/
def ordQ (f n : Nat) (b : List Int) (x : Nat) : List (List Int) := (cntL x).flatMap fun x => if b.contains x then [] else ordS f n (b ++ [x])
theorem ordQ_zero (f n : Nat) (b : List Int) : ordQ f n b 0 = [] := by simp [ordQ, cntL]
theorem ordQ_yes {f n : Nat} {b : List Int} {x : Nat} (h : b.contains (x : Int) = true) : ordQ f n b (x + 1) = ordQ f n b x := by
  unfold ordQ; rw [cntL_snoc, List.flatMap_append, List.flatMap_singleton, if_pos h, List.append_nil]
theorem ordQ_no {f n : Nat} {b : List Int} {x : Nat} (h : b.contains (x : Int) = false) : ordQ f n b (x + 1) = ordQ f n b x ++ ordS f n (b ++ [(x : Int)]) := by
  unfold ordQ; rw [cntL_snoc, List.flatMap_append, List.flatMap_singleton, if_neg (by rw [h]; decide)]
theorem ordS_lenP : ∀ (f n : Nat) (b : List Int), (ordS f n b).length ≤ n ^ f
  | 0, n, b => by simp [ordS]
  | f + 1, n, b => by
    have : ∀ L : List Int, (L.flatMap fun x => if b.contains x then [] else ordS f n (b ++ [x])).length ≤ L.length * n ^ f := by
      intro L
      induction L with
      | nil => simp
      | cons a L ih =>
        have := ordS_lenP f n (b ++ [a])
        rw [List.flatMap_cons, List.length_append, List.length_cons, Nat.add_mul, Nat.one_mul]
        split
        · simp only [List.length_nil]; omega
        · omega
    have h := this (cntL n)
    rw [cntL_len] at h
    simp only [ordS]
    rw [Nat.pow_succ, Nat.mul_comm]; exact h
theorem ordS_le {f n : Nat} (b : List Int) (hn : n ≤ 3) (hf : f ≤ 3) : (ordS f n b).length ≤ 27 := by
  refine Nat.le_trans (ordS_lenP f n b) (Nat.le_trans (Nat.pow_le_pow_left hn f) (Nat.le_trans (Nat.pow_le_pow_right (by decide) hf) (by decide)))
theorem ordQ_le {f n : Nat} (b : List Int) {x : Nat} (hn : n ≤ 3) (hf : f ≤ 3) (hx : x ≤ n) : (ordQ f n b x).length ≤ 27 * x := by
  induction x with
  | zero => simp [ordQ_zero]
  | succ x ih =>
    have ih := ih (by omega)
    cases h : b.contains (x : Int) with
    | true => rw [ordQ_yes h]; omega
    | false =>
      rw [ordQ_no h, List.length_append]
      have := ordS_le (f := f) (n := n) (b ++ [(x : Int)]) hn hf
      omega
/-! the same by names -/
theorem pairs_ext {α : Type} [Inhabited α] {X Y : Nat} {l m : List α} (hl : l.length = X * Y) (hm : m.length = X * Y) (h : ∀ i k : Nat, i < X → k < Y → atZ l ((i : Int) * Y + k) = atZ m ((i : Int) * Y + k)) : l = m := by
  refine List.ext_getElem (by omega) fun t h1 h2 => ?_
  have hY : 0 < Y := Nat.pos_of_ne_zero fun e => by subst e; simp at hl; omega
  have ht : t < X * Y := by omega
  have := h (t / Y) (t % Y) (by rw [Nat.div_lt_iff_lt_mul hY]; exact ht) (Nat.mod_lt _ hY)
  have e : ((t / Y : Nat) : Int) * Y + ((t % Y : Nat) : Int) = (t : Int) := by rw [← Int.natCast_mul, ← Int.natCast_add, Nat.mul_comm, Nat.div_add_mod]
  rw [e, atZ_nat h1, atZ_nat h2] at this
  exact this
theorem flip_ask {X Y : Nat} {f s : List Int} (hf : f.length = X) (hs : s.length = Y) (wi : List (List Int)) (q : List Int) : pairsF (askR X Y (pairsF (askO Y wi) f s) (restr f s X q)) (cntL X) (cntL Y) = pairsF (askR X Y wi q) f s := by
  refine pairs_ext (X := X) (Y := Y) (by rw [pairsF_len]; simp) (by rw [pairsF_len, hf, hs]) fun i k hi hk => ?_
  have e1 := pairsF_at (askR X Y (pairsF (askO Y wi) f s) (restr f s X q)) (cntL Y) (l := cntL X) (i := i) (k := k) (by simpa using hi) (by simpa using hk)
  have e2 := pairsF_at (askR X Y wi q) s (l := f) (i := i) (k := k) (by omega) (by omega)
  have e3 := pairsF_at (askO Y wi) s (l := f) (i := i) (k := k) (by omega) (by omega)
  rw [hs] at e2 e3
  rw [cntL_len] at e1
  rw [e1, e2, cntL_at hi, cntL_at hk]
  unfold askR
  rw [e3]
  have e4 : flipOf (restr f s X q) X (i : Int) (k : Int) = flipOf q X (atZ f (i : Int)) (atZ s (k : Int)) := by
    unfold flipOf restr
    rw [atZ_left (by simpa [hf] using hi), atZ_right (n := X) (by simp [hf]) (by simpa [hs] using hk), atZ_map (by omega), atZ_map (by omega)]
  rw [e4]
  rfl
theorem restr_bitsO {X Y : Nat} {f s q : List Int} (hf : orderB f X = true) (hs : orderB s Y = true) (hq : bitsB q ((X : Int) + Y) = true) : bitsB (restr f s X q) ((X : Int) + Y) = true := by
  have l1 := orderB_len hf
  have l2 := orderB_len hs
  unfold bitsB allB
  rw [Bool.and_eq_true, decide_eq_true_eq, List.all_eq_true]
  refine ⟨by simp [restr]; omega, fun v hv => ?_⟩
  unfold restr at hv
  rcases List.mem_append.1 hv with hv | hv
  · obtain ⟨x, hx, rfl⟩ := List.mem_map.1 hv
    have := orderB_mem (by omega) hf hx
    exact inB_iff.2 (bitsB_at hq (by omega) (by omega))
  · obtain ⟨y, hy, rfl⟩ := List.mem_map.1 hv
    have := orderB_mem (by omega) hs hy
    exact inB_iff.2 (bitsB_at hq (by omega) (by omega))
theorem list_at {α : Type} [Inhabited α] {l m : List α} (h : l.length = m.length) (e : ∀ i : Nat, i < l.length → atZ l (i : Int) = atZ m (i : Int)) : l = m := by
  refine List.ext_getElem h fun i h1 h2 => ?_
  have := e i h1
  rwa [atZ_nat h1, atZ_nat h2] at this
/-- back: what a play says, by the other order -/
theorem restr_back {X Y : Nat} {f g s t q : List Int} (hf : orderB f X = true) (hs : orderB s Y = true) (hg : orderB g X = true) (ht : orderB t Y = true) (e1 : ∀ i : Nat, i < X → atZ g (atZ f (i : Int)) = (i : Int)) (e2 : ∀ i : Nat, i < Y → atZ t (atZ s (i : Int)) = (i : Int)) (hq : (q.length : Int) = X + Y) : restr f s X (restr g t X q) = q := by
  have l1 := orderB_len hf
  have l2 := orderB_len hs
  have l3 := orderB_len hg
  have l4 := orderB_len ht
  refine list_at (by simp [restr]; omega) fun j hj => ?_
  have hl : (restr f s X (restr g t X q)).length = X + Y := by simp [restr]; omega
  rw [hl] at hj
  by_cases h1 : j < X
  · have m := orderB_mem (by omega) hf (mem_atZ (show j < f.length by omega))
    obtain ⟨v, hv⟩ := Int.eq_ofNat_of_zero_le m.1
    have a := e1 j h1
    rw [hv] at a m
    rw [show restr f s X (restr g t X q) = f.map (fun x => atZ (restr g t X q) x) ++ s.map (fun y => atZ (restr g t X q) ((X : Int) + y)) from rfl, atZ_left (by simp; omega), atZ_map (by omega), hv]
    rw [show restr g t X q = g.map (fun x => atZ q x) ++ t.map (fun y => atZ q ((X : Int) + y)) from rfl, atZ_left (by simp; omega), atZ_map (by omega), a]
  · obtain ⟨k, rfl⟩ : ∃ k, j = X + k := ⟨j - X, by omega⟩
    have m := orderB_mem (by omega) hs (mem_atZ (show k < s.length by omega))
    obtain ⟨v, hv⟩ := Int.eq_ofNat_of_zero_le m.1
    have a := e2 k (by omega)
    rw [hv] at a m
    rw [Int.natCast_add, show restr f s X (restr g t X q) = f.map (fun x => atZ (restr g t X q) x) ++ s.map (fun y => atZ (restr g t X q) ((X : Int) + y)) from rfl, atZ_right (n := X) (by simp; omega) (by simp; omega), atZ_map (by omega), hv]
    rw [show restr g t X q = g.map (fun x => atZ q x) ++ t.map (fun y => atZ q ((X : Int) + y)) from rfl, atZ_right (n := X) (by simp; omega) (by simp; omega), atZ_map (by omega), a]
def sameT (X Y : Nat) (ws : List Int) (wi : List (List Int)) (hws : List Int) (hwi : List (List Int)) (f s q : List Int) : Bool := decide (pairsF (askW Y ws) f s = hws) && decide (pairsF (askR X Y wi q) f s = hwi)
def sameG (X Y : Nat) (ws : List Int) (wi : List (List Int)) (hws : List Int) (hwi : List (List Int)) : Bool := (ordI X).any fun f => (ordI Y).any fun s => (playsF (X + Y)).any fun q => sameT X Y ws wi hws hwi f s q
def sameH (X Y : Nat) (ws : List Int) (wi : List (List Int)) (hws : List Int) (hwi : List (List Int)) : Bool := (ordF X).any fun f => (ordF Y).any fun s => decide (pairsF (askW Y ws) f s = hws) && (playsF (X + Y)).any fun q => decide (flipR X Y (pairsF (askO Y wi) f s) q = hwi)
theorem plays_mem {n : Nat} {q : List Int} : q ∈ playsF n ↔ bitsB q (n : Int) = true := by
  constructor
  · intro h
    obtain ⟨c, _, rfl⟩ := playsF_mem h
    exact bitsM_bits _ _
  · intro h
    obtain ⟨c, hc, e⟩ := bits_play h
    rw [e]
    unfold playsF
    exact List.mem_map.2 ⟨c, List.mem_range.2 hc, rfl⟩
theorem same_iff (X Y : Nat) (ws : List Int) (wi : List (List Int)) (hws : List Int) (hwi : List (List Int)) : sameG X Y ws wi hws hwi = true ↔ ∃ f s q, f ∈ ordI X ∧ s ∈ ordI Y ∧ bitsB q ((X : Int) + Y) = true ∧ pairsF (askW Y ws) f s = hws ∧ pairsF (askR X Y wi q) f s = hwi := by
  unfold sameG sameT
  simp only [List.any_eq_true, Bool.and_eq_true, decide_eq_true_eq]
  constructor
  · rintro ⟨f, hf, s, hs, q, hq, h1, h2⟩
    have := plays_mem.1 hq
    rw [Int.natCast_add] at this
    exact ⟨f, s, q, hf, hs, this, h1, h2⟩
  · rintro ⟨f, s, q, hf, hs, hq, h1, h2⟩
    exact ⟨f, hf, s, hs, q, plays_mem.2 (by rw [Int.natCast_add]; exact hq), h1, h2⟩
theorem same_eq {X Y : Nat} (hX : X ≤ 3) (hY : Y ≤ 3) (ws : List Int) (wi : List (List Int)) (hws : List Int) (hwi : List (List Int)) : sameH X Y ws wi hws hwi = sameG X Y ws wi hws hwi := by
  rw [Bool.eq_iff_iff, same_iff]
  unfold sameH
  simp only [List.any_eq_true, Bool.and_eq_true, decide_eq_true_eq]
  constructor
  · rintro ⟨f, hf, s, hs, h1, q, hq, h2⟩
    have hf := (ord_perm hX).mem_iff.2 hf
    have hs := (ord_perm hY).mem_iff.2 hs
    obtain ⟨g, hg, ig⟩ := ord_inv hX hf
    obtain ⟨t, ht, it⟩ := ord_inv hY hs
    have of := ord_ok hX hf
    have os := ord_ok hY hs
    have og := ord_ok hX hg
    have ot := ord_ok hY ht
    have hq := plays_mem.1 hq
    rw [Int.natCast_add] at hq
    have hl := bitsB_len hq
    have e := restr_back of os og ot (fun i hi => (ig i hi).1) (fun i hi => (it i hi).1) (q := q) (by omega)
    refine ⟨f, s, restr g t X q, hf, hs, restr_bitsO og ot hq, h1, ?_⟩
    have l1 := orderB_len of
    have l2 := orderB_len os
    rw [← flip_ask (X := X) (Y := Y) (by omega) (by omega), e, ← h2]
    simp [flipR]
  · rintro ⟨f, s, q, hf, hs, hq, h1, h2⟩
    have of := ord_ok hX hf
    have os := ord_ok hY hs
    have l1 := orderB_len of
    have l2 := orderB_len os
    refine ⟨f, (ord_perm hX).mem_iff.1 hf, s, (ord_perm hY).mem_iff.1 hs, h1, restr f s X q, plays_mem.2 (by rw [Int.natCast_add]; exact restr_bitsO of os hq), ?_⟩
    rw [← h2, ← flip_ask (X := X) (Y := Y) (by omega) (by omega)]
    simp [flipR]
def nameB (X Y : Int) (ws : List Int) (wi : List (List Int)) (X2 Y2 : Int) (ws2 : List Int) (wi2 : List (List Int)) : Bool := gameB X Y ws wi && (gameB X2 Y2 ws2 wi2 && (decide (X = X2) && decide (Y = Y2)))
def namesB (X Y : Int) (ws : List Int) (wi : List (List Int)) (X2 Y2 : Int) (ws2 : List Int) (wi2 : List (List Int)) : Bool := nameB X Y ws wi X2 Y2 ws2 wi2 && sameG X.toNat Y.toNat ws wi ws2 wi2

end Go.Proofs.Ytefbiejoikpkmaa

namespace Go.Proofs.Ytefbiejoikpkmaa
open Go.RowKit
set_option linter.unusedSectionVars false
variable [Glb]
/-! games by other names: scores, values, counts -/
theorem perm_acc (F : Int → Int) {l m : List Int} (h : l.Perm m) : (l.map F).sum = (m.map F).sum := by
  induction h with
  | nil => rfl
  | cons x _ ih => simp only [List.map_cons, List.sum_cons, ih]
  | swap x y l => simp only [List.map_cons, List.sum_cons]; omega
  | trans _ _ ih1 ih2 => exact ih1.trans ih2
theorem acc_order {n : Nat} {f : List Int} (hf : orderB f n = true) (F : Int → Int) : accT (fun i => F (atZ f (i : Int))) n = accT (fun i => F (i : Int)) n := by
  have l := orderB_len hf
  have p := (orderB_perm (by omega)).1 hf
  rw [Int.toNat_natCast] at p
  have e1 := accT_map F f (Nat.le_refl f.length)
  have e2 := accT_map F (cntL n) (Nat.le_refl (cntL n).length)
  rw [List.take_length] at e1 e2
  rw [cntL_len] at e2
  have hl : f.length = n := by omega
  rw [hl] at e1
  rw [e1, perm_acc F p, ← e2]
  exact accT_congr fun i hi => by rw [cntL_at hi]
def xorL (a b : List Int) : List Int := rowF (fun i => ((atZ a (i : Int)).toNat ^^^ (atZ b (i : Int)).toNat : Nat)) a.length
theorem xor01 {a b : Int} (ha : 0 ≤ a ∧ a ≤ 1) (hb : 0 ≤ b ∧ b ≤ 1) : 0 ≤ (((a.toNat ^^^ b.toNat : Nat) : Int)) ∧ (((a.toNat ^^^ b.toNat : Nat) : Int)) ≤ 1 := by
  rcases (by omega : a = 0 ∨ a = 1) with rfl | rfl <;> rcases (by omega : b = 0 ∨ b = 1) with rfl | rfl <;> decide
theorem xorL_at {a b : List Int} {i : Nat} (h : i < a.length) : atZ (xorL a b) (i : Int) = (((atZ a (i : Int)).toNat ^^^ (atZ b (i : Int)).toNat : Nat) : Int) := rowF_atZ _ h
@[simp] theorem xorL_len (a b : List Int) : (xorL a b).length = a.length := by simp [xorL]
theorem bits_of_at {l : List Int} {n : Nat} (hl : l.length = n) (h : ∀ i : Nat, i < n → 0 ≤ atZ l (i : Int) ∧ atZ l (i : Int) ≤ 1) : bitsB l (n : Int) = true := by
  unfold bitsB allB
  rw [Bool.and_eq_true, decide_eq_true_eq, List.all_eq_true]
  refine ⟨by omega, fun v hv => ?_⟩
  obtain ⟨i, hi, rfl⟩ := List.getElem_of_mem hv
  have := h i (by omega)
  rw [atZ_nat hi] at this
  exact inB_iff.2 this
theorem xorL_bits {a b : List Int} {n : Nat} (ha : bitsB a (n : Int) = true) (hb : bitsB b (n : Int) = true) : bitsB (xorL a b) (n : Int) = true := by
  have l1 := bitsB_len ha
  refine bits_of_at (by simp; omega) fun i hi => ?_
  rw [xorL_at (by omega)]
  exact xor01 (bitsB_at ha (by omega) (by omega)) (bitsB_at hb (by omega) (by omega))
theorem xorL_twice {a b : List Int} {n : Nat} (ha : bitsB a (n : Int) = true) (hb : bitsB b (n : Int) = true) : xorL (xorL a b) b = a := by
  have l1 := bitsB_len ha
  refine list_at (by simp) fun i hi => ?_
  have hi2 : i < a.length := by simpa using hi
  rw [xorL_at (by simpa using hi2), xorL_at hi2]
  have h1 := bitsB_at ha (i := (i : Int)) (by omega) (by omega)
  have h2 := bitsB_at hb (i := (i : Int)) (by omega) (by omega)
  generalize atZ a (i : Int) = x at *
  generalize atZ b (i : Int) = y at *
  rcases (by omega : x = 0 ∨ x = 1) with rfl | rfl <;> rcases (by omega : y = 0 ∨ y = 1) with rfl | rfl <;> decide
theorem xor_pick {a b x y : Int} (ha : 0 ≤ a ∧ a ≤ 1) (hb : 0 ≤ b ∧ b ≤ 1) (hx : 0 ≤ x ∧ x ≤ 1) (hy : 0 ≤ y ∧ y ≤ 1) : 0 ≤ 2 * (((a.toNat ^^^ x.toNat : Nat) : Int)) + (((b.toNat ^^^ y.toNat : Nat) : Int)) ∧ 2 * (((a.toNat ^^^ x.toNat : Nat) : Int)) + (((b.toNat ^^^ y.toNat : Nat) : Int)) < 4 ∧ xor4 (2 * (((a.toNat ^^^ x.toNat : Nat) : Int)) + (((b.toNat ^^^ y.toNat : Nat) : Int))).toNat (2 * x + y) = 2 * a + b := by
  rcases (by omega : a = 0 ∨ a = 1) with rfl | rfl <;> rcases (by omega : b = 0 ∨ b = 1) with rfl | rfl <;> rcases (by omega : x = 0 ∨ x = 1) with rfl | rfl <;> rcases (by omega : y = 0 ∨ y = 1) with rfl | rfl <;> decide
/-- the game of another name has the score of the play of another name -/
theorem named_score {X Y : Nat} {ws : List Int} {wi : List (List Int)} {f s q p : List Int} (hf : orderB f X = true) (hs : orderB s Y = true) (hq : bitsB q ((X : Int) + Y) = true) (hp : bitsB p ((X : Int) + Y) = true) :
    scoG X Y (pairsF (askW Y ws) f s) (pairsF (askR X Y wi q) f s) (restr f s X (xorL p q)) = scoG X Y ws wi p := by
  have l1 := orderB_len hf
  have l2 := orderB_len hs
  have l3 := bitsB_len hp
  rw [scoG_sum, scoG_sum]
  let G : Int → Int → Int := fun x y => atZ ws (x * Y + y) * atZ (atZ wi (x * Y + y)) (2 * atZ p x + atZ p ((X : Int) + y))
  have e1 : accT (fun x : Nat => accT (fun y : Nat => atZ (pairsF (askW Y ws) f s) ((x : Int) * Y + y) * atZ (atZ (pairsF (askR X Y wi q) f s) ((x : Int) * Y + y)) (2 * atZ (restr f s X (xorL p q)) (x : Int) + atZ (restr f s X (xorL p q)) ((X : Int) + y))) Y) X
      = accT (fun i : Nat => accT (fun k : Nat => G (atZ f (i : Int)) (atZ s (k : Int))) Y) X := by
    refine accT_congr fun i hi => accT_congr fun k hk => ?_
    have e2 := pairsF_at (askW Y ws) s (l := f) (i := i) (k := k) (by omega) (by omega)
    have e3 := pairsF_at (askR X Y wi q) s (l := f) (i := i) (k := k) (by omega) (by omega)
    rw [show s.length = Y by omega] at e2 e3
    rw [e2, e3]
    have m1 := orderB_mem (by omega) hf (mem_atZ (show i < f.length by omega))
    have m2 := orderB_mem (by omega) hs (mem_atZ (show k < s.length by omega))
    have r1 : atZ (restr f s X (xorL p q)) (i : Int) = atZ (xorL p q) (atZ f (i : Int)) := by
      unfold restr; rw [atZ_left (by simp; omega), atZ_map (by omega)]
    have r2 : atZ (restr f s X (xorL p q)) ((X : Int) + k) = atZ (xorL p q) ((X : Int) + atZ s (k : Int)) := by
      unfold restr; rw [atZ_right (n := X) (by simp; omega) (by simp; omega), atZ_map (by omega)]
    rw [r1, r2]
    generalize atZ f (i : Int) = x at *
    generalize atZ s (k : Int) = y at *
    obtain ⟨x, rfl⟩ := Int.eq_ofNat_of_zero_le m1.1
    obtain ⟨y, rfl⟩ := Int.eq_ofNat_of_zero_le m2.1
    rw [← Int.natCast_add, xorL_at (by omega), xorL_at (by omega)]
    have b1 := bitsB_at hp (i := (x : Int)) (by omega) (by omega)
    have b2 := bitsB_at hp (i := ((X + y : Nat) : Int)) (by omega) (by omega)
    have b3 := bitsB_at hq (i := (x : Int)) (by omega) (by omega)
    have b4 := bitsB_at hq (i := ((X + y : Nat) : Int)) (by omega) (by omega)
    have xp := xor_pick b1 b2 b3 b4
    have e4 : atZ (askR X Y wi q (x : Int) (y : Int)) (2 * (((atZ p (x : Int)).toNat ^^^ (atZ q (x : Int)).toNat : Nat) : Int) + (((atZ p ((X + y : Nat) : Int)).toNat ^^^ (atZ q ((X + y : Nat) : Int)).toNat : Nat) : Int)) = atZ (atZ wi ((x : Int) * Y + y)) (2 * atZ p (x : Int) + atZ p ((X + y : Nat) : Int)) := by
      unfold askR
      obtain ⟨t, ht⟩ := Int.eq_ofNat_of_zero_le xp.1
      rw [ht] at xp ⊢
      rw [rowF_atZ _ (by omega)]
      have := xp.2.2
      rw [Int.toNat_natCast] at this
      unfold flipOf
      rw [← Int.natCast_add, this]
    rw [e4]
    show askW Y ws x y * _ = _
    simp only [G, askW, Int.natCast_add]
  rw [e1]
  have e5 : ∀ i, i < X → accT (fun k : Nat => G (atZ f (i : Int)) (atZ s (k : Int))) Y = accT (fun k : Nat => G (atZ f (i : Int)) (k : Int)) Y := fun i _ => acc_order hs (fun z => G (atZ f (i : Int)) z)
  rw [accT_congr e5, acc_order hf (fun z => accT (fun k : Nat => G z (k : Int)) Y)]
theorem named_bits {X Y : Nat} {f s q p : List Int} (hf : orderB f X = true) (hs : orderB s Y = true) (hq : bitsB q ((X : Int) + Y) = true) (hp : bitsB p ((X : Int) + Y) = true) : bitsB (restr f s X (xorL p q)) ((X : Int) + Y) = true :=
  restr_bitsO hf hs (by rw [← Int.natCast_add] at *; exact xorL_bits hp hq)
theorem named_inj {X Y : Nat} (hX : X ≤ 3) (hY : Y ≤ 3) {f s q p p' : List Int} (hf : f ∈ ordI X) (hs : s ∈ ordI Y) (hq : bitsB q ((X : Int) + Y) = true) (hp : bitsB p ((X : Int) + Y) = true) (hp' : bitsB p' ((X : Int) + Y) = true) (e : restr f s X (xorL p q) = restr f s X (xorL p' q)) : p = p' := by
  obtain ⟨g, hg, ig⟩ := ord_inv hX hf
  obtain ⟨t, ht, it⟩ := ord_inv hY hs
  rw [← Int.natCast_add] at hp hp' hq
  have l1 := bitsB_len hp
  have l2 := bitsB_len hp'
  have b1 := restr_back (ord_ok hX hg) (ord_ok hY ht) (ord_ok hX hf) (ord_ok hY hs) (fun i hi => (ig i hi).2) (fun i hi => (it i hi).2) (q := xorL p q) (by simp; omega)
  have b2 := restr_back (ord_ok hX hg) (ord_ok hY ht) (ord_ok hX hf) (ord_ok hY hs) (fun i hi => (ig i hi).2) (fun i hi => (it i hi).2) (q := xorL p' q) (by simp; omega)
  rw [← xorL_twice hp hq, ← xorL_twice hp' hq, ← b1, ← b2, e]
theorem named_value {X Y : Nat} {ws : List Int} {wi : List (List Int)} {f s q : List Int} (hf : orderB f X = true) (hs : orderB s Y = true) (hq : bitsB q ((X : Int) + Y) = true) :
    valueG X Y ws wi ≤ valueG X Y (pairsF (askW Y ws) f s) (pairsF (askR X Y wi q) f s) := by
  obtain ⟨p, hp, e⟩ := value_at X Y ws wi
  rw [← e, ← named_score (wi := wi) hf hs hq hp]
  exact value_le (named_bits hf hs hq hp)
theorem nodup_le {α : Type} [BEq α] [LawfulBEq α] : ∀ {l m : List α}, l.Nodup → (∀ x ∈ l, x ∈ m) → l.length ≤ m.length
  | [], m, _, _ => Nat.zero_le _
  | a :: l, m, hn, hs => by
    have ha := hs a (List.mem_cons_self ..)
    rw [List.nodup_cons] at hn
    have ih := nodup_le (l := l) (m := m.erase a) hn.2 fun x hx => (List.mem_erase_of_ne (fun e => hn.1 (by rw [← e]; exact hx))).2 (hs x (List.mem_cons_of_mem _ hx))
    rw [List.length_erase_of_mem ha] at ih
    have : 0 < m.length := List.length_pos_of_mem ha
    simp only [List.length_cons]
    omega
theorem plays_nodupB : ∀ n : Fin 7, (playsF n.val).Nodup := by decide +kernel
theorem nodup_map {α β : Type} {F : α → β} : ∀ {l : List α}, l.Nodup → (∀ x ∈ l, ∀ y ∈ l, F x = F y → x = y) → (l.map F).Nodup
  | [], _, _ => by simp
  | a :: l, hn, h => by
    rw [List.nodup_cons] at hn
    rw [List.map_cons, List.nodup_cons]
    refine ⟨fun hm => ?_, nodup_map hn.2 fun x hx y hy => h x (List.mem_cons_of_mem _ hx) y (List.mem_cons_of_mem _ hy)⟩
    obtain ⟨y, hy, e⟩ := List.mem_map.1 hm
    have := h y (List.mem_cons_of_mem _ hy) a (List.mem_cons_self ..) e
    subst this
    exact hn.1 hy
theorem count_list (X Y : Nat) (ws : List Int) (wi : List (List Int)) : countG X Y ws wi = ((playsF (X + Y)).filter fun p => decide (scoG X Y ws wi p = valueG X Y ws wi)).length := by
  unfold countG cntV playsF
  rw [← List.countP_eq_length_filter, List.countP_map]
  rfl
theorem named_count {X Y : Nat} (hX : X ≤ 3) (hY : Y ≤ 3) {ws : List Int} {wi : List (List Int)} {f s q : List Int} (hf : f ∈ ordI X) (hs : s ∈ ordI Y) (hq : bitsB q ((X : Int) + Y) = true) (hv : valueG X Y (pairsF (askW Y ws) f s) (pairsF (askR X Y wi q) f s) = valueG X Y ws wi) :
    countG X Y ws wi ≤ countG X Y (pairsF (askW Y ws) f s) (pairsF (askR X Y wi q) f s) := by
  rw [count_list, count_list, hv]
  have nd := plays_nodupB ⟨X + Y, by omega⟩
  have bt : ∀ p, p ∈ playsF (X + Y) → bitsB p ((X : Int) + Y) = true := fun p hp => by have := plays_mem.1 hp; rwa [Int.natCast_add] at this
  have h1 : (((playsF (X + Y)).filter fun p => decide (scoG X Y ws wi p = valueG X Y ws wi)).map fun p => restr f s X (xorL p q)).Nodup :=
    nodup_map (nd.filter _) fun x hx y hy e => named_inj hX hY hf hs hq (bt x (List.mem_filter.1 hx).1) (bt y (List.mem_filter.1 hy).1) e
  have h2 := nodup_le h1 (m := (playsF (X + Y)).filter fun p => decide (scoG X Y (pairsF (askW Y ws) f s) (pairsF (askR X Y wi q) f s) p = valueG X Y ws wi)) fun x hx => by
    obtain ⟨p, hp, rfl⟩ := List.mem_map.1 hx
    obtain ⟨hp1, hp2⟩ := List.mem_filter.1 hp
    have hb := bt p hp1
    refine List.mem_filter.2 ⟨plays_mem.2 (by rw [Int.natCast_add]; exact named_bits (ord_ok hX hf) (ord_ok hY hs) hq hb), ?_⟩
    rw [named_score (ord_ok hX hf) (ord_ok hY hs) hq hb]
    exact hp2
  rwa [List.length_map] at h2
theorem row_xor2 {l : List Int} (h4 : l.length = 4) {m : Int} (h0 : 0 ≤ m) (h1 : m < 4) : rowF (fun k => atZ (rowF (fun k => atZ l (xor4 k m)) 4) (xor4 k m)) 4 = l := by
  match l, h4 with
  | [a, b, c, d], _ => rcases (by omega : m = 0 ∨ m = 1 ∨ m = 2 ∨ m = 3) with rfl | rfl | rfl | rfl <;> rfl
theorem named_back {X Y : Nat} {ws : List Int} {wi : List (List Int)} (h : gameB X Y ws wi = true) {f s q : List Int} (hf : f ∈ ordI X) (hs : s ∈ ordI Y) (hq : bitsB q ((X : Int) + Y) = true) :
    sameG X Y (pairsF (askW Y ws) f s) (pairsF (askR X Y wi q) f s) ws wi = true := by
  obtain ⟨x, y, e1, e2, hx, hy, wl, il, h9⟩ := game_nat h
  obtain rfl : X = x := by omega
  obtain rfl : Y = y := by omega
  obtain ⟨g, hg, ig⟩ := ord_inv (by omega) hf
  obtain ⟨t, ht, it⟩ := ord_inv (by omega) hs
  have of := ord_ok (by omega) hf
  have os := ord_ok (by omega) hs
  have og := ord_ok (by omega) hg
  have ot := ord_ok (by omega) ht
  have l1 := orderB_len of
  have l2 := orderB_len os
  have l3 := orderB_len og
  have l4 := orderB_len ot
  have key : ∀ i k : Nat, i < X → k < Y → ∃ u v : Nat, (u < X ∧ v < Y) ∧ (atZ g (i : Int) = u ∧ atZ t (k : Int) = v) ∧ atZ f (u : Int) = i ∧ atZ s (v : Int) = k := fun i k hi hk => by
    have m1 := orderB_mem (by omega) og (mem_atZ (show i < g.length by omega))
    have m2 := orderB_mem (by omega) ot (mem_atZ (show k < t.length by omega))
    have a := (ig i hi).2
    have b := (it k hk).2
    obtain ⟨u, hu⟩ := Int.eq_ofNat_of_zero_le m1.1
    obtain ⟨v, hv⟩ := Int.eq_ofNat_of_zero_le m2.1
    rw [hu] at a m1
    rw [hv] at b m2
    exact ⟨u, v, ⟨by omega, by omega⟩, ⟨hu, hv⟩, a, b⟩
  refine (same_iff ..).2 ⟨g, t, restr f s X q, hg, ht, restr_bitsO of os hq, ?_, ?_⟩
  · refine pairs_ext (X := X) (Y := Y) (by rw [pairsF_len]; rw [show g.length = X by omega, show t.length = Y by omega]) (by rw [wl, Nat.mul_comm]) fun i k hi hk => ?_
    obtain ⟨u, v, ⟨hu, hv⟩, ⟨e3, e4⟩, e5, e6⟩ := key i k hi hk
    have p1 := pairsF_at (askW Y (pairsF (askW Y ws) f s)) t (l := g) (i := i) (k := k) (by omega) (by omega)
    rw [show t.length = Y by omega] at p1
    rw [p1, e3, e4]
    unfold askW
    have p2 := pairsF_at (askW Y ws) s (l := f) (i := u) (k := v) (by omega) (by omega)
    rw [show s.length = Y by omega] at p2
    unfold askW at p2
    rw [p2, e5, e6]
  · refine pairs_ext (X := X) (Y := Y) (by rw [pairsF_len]; rw [show g.length = X by omega, show t.length = Y by omega]) (by rw [il, Nat.mul_comm]) fun i k hi hk => ?_
    obtain ⟨u, v, ⟨hu, hv⟩, ⟨e3, e4⟩, e5, e6⟩ := key i k hi hk
    have p1 := pairsF_at (askR X Y (pairsF (askR X Y wi q) f s) (restr f s X q)) t (l := g) (i := i) (k := k) (by omega) (by omega)
    rw [show t.length = Y by omega] at p1
    rw [p1, e3, e4]
    have p2 := pairsF_at (askR X Y wi q) s (l := f) (i := u) (k := v) (by omega) (by omega)
    rw [show s.length = Y by omega, e5, e6] at p2
    have ef : flipOf (restr f s X q) X (u : Int) (v : Int) = flipOf q X (i : Int) (k : Int) := by
      unfold flipOf restr
      rw [atZ_left (by simp; omega), atZ_right (n := X) (by simp; omega) (by simp; omega), atZ_map (by omega), atZ_map (by omega), e5, e6]
    have b1 := bitsB_at hq (i := (i : Int)) (by omega) (by omega)
    have b2 := bitsB_at hq (i := (X : Int) + k) (by omega) (by omega)
    have pk := pair_ok h hi hk
    have rx := row_xor2 (l := atZ wi ((i : Int) * Y + k)) pk.len (m := flipOf q X (i : Int) (k : Int)) (by unfold flipOf; omega) (by unfold flipOf; omega)
    rw [show askR X Y (pairsF (askR X Y wi q) f s) (restr f s X q) (u : Int) (v : Int) = rowF (fun p => atZ (atZ (pairsF (askR X Y wi q) f s) ((u : Int) * Y + v)) (xor4 p (flipOf (restr f s X q) X (u : Int) (v : Int)))) 4 from rfl, p2, ef]
    exact rx
theorem names_all {X Y : Nat} {ws : List Int} {wi : List (List Int)} {hws : List Int} {hwi : List (List Int)} (h : gameB X Y ws wi = true) (h2 : gameB X Y hws hwi = true) (same : sameG X Y ws wi hws hwi = true) :
    valueG X Y ws wi = valueG X Y hws hwi ∧ countG X Y ws wi = countG X Y hws hwi ∧ sameG X Y hws hwi ws wi = true := by
  obtain ⟨x, y, e1, e2, hx, hy, wl, il, h9⟩ := game_nat h
  obtain rfl : X = x := by omega
  obtain rfl : Y = y := by omega
  obtain ⟨f, s, q, hf, hs, hq, w1, w2⟩ := (same_iff ..).1 same
  have back := named_back h hf hs hq
  rw [w1, w2] at back
  obtain ⟨g, t, r, hg, ht, hr, v1, v2⟩ := (same_iff ..).1 back
  have a := named_value (ws := ws) (wi := wi) (ord_ok (by omega) hf) (ord_ok (by omega) hs) hq
  have b := named_value (ws := hws) (wi := hwi) (ord_ok (by omega) hg) (ord_ok (by omega) ht) hr
  rw [w1, w2] at a
  rw [v1, v2] at b
  have hv : valueG X Y ws wi = valueG X Y hws hwi := by omega
  have c := named_count (by omega) (by omega) (ws := ws) (wi := wi) hf hs hq (by rw [w1, w2]; exact hv.symm)
  have d := named_count (by omega) (by omega) (ws := hws) (wi := hwi) hg ht hr (by rw [v1, v2]; exact hv)
  rw [w1, w2] at c
  rw [v1, v2] at d
  exact ⟨hv, by omega, back⟩
/-- a game of another name is a game -/
theorem game_named {X Y : Nat} {ws : List Int} {wi : List (List Int)} (h : gameB X Y ws wi = true) {f s q : List Int} (hf : orderB f X = true) (hs : orderB s Y = true) (hq : bitsB q ((X : Int) + Y) = true) :
    gameB X Y (pairsF (askW Y ws) f s) (pairsF (askR X Y wi q) f s) = true := by
  obtain ⟨x, y, e1, e2, hx, hy, wl, il, h9⟩ := game_nat h
  obtain rfl : X = x := by omega
  obtain rfl : Y = y := by omega
  have g := gameB_spec h
  have l1 := orderB_len hf
  have l2 := orderB_len hs
  have at_ : ∀ x y : Int, x ∈ f → y ∈ s → ∃ i k : Nat, x = i ∧ y = k ∧ i < X ∧ k < Y := fun x y hx hy => by
    have m1 := orderB_mem (by omega) hf hx
    have m2 := orderB_mem (by omega) hs hy
    obtain ⟨i, rfl⟩ := Int.eq_ofNat_of_zero_le m1.1
    obtain ⟨k, rfl⟩ := Int.eq_ofNat_of_zero_le m2.1
    exact ⟨i, k, rfl, rfl, by omega, by omega⟩
  have wlen : ((pairsF (askW Y ws) f s).length : Int) = (X : Int) * Y := by rw [pairsF_size, Int.natCast_mul, l1, l2]
  have ilen : ((pairsF (askR X Y wi q) f s).length : Int) = (X : Int) * Y := by rw [pairsF_size, Int.natCast_mul, l1, l2]
  have inw : ∀ v ∈ pairsF (askW Y ws) f s, 0 ≤ v ∧ v ≤ 99 := fun v hv => by
    obtain ⟨x, y, hx, hy, rfl⟩ := pairsF_mem hv
    obtain ⟨i, k, rfl, rfl, hi, hk⟩ := at_ x y hx hy
    have p := pair_ok h hi hk
    exact ⟨p.w0, p.w1⟩
  have wb : allB (pairsF (askW Y ws) f s) 0 99 = true := by
    unfold allB
    rw [List.all_eq_true]
    exact fun v hv => inB_iff.2 (inw v hv)
  have wl9 : (pairsF (askW Y ws) f s).length ≤ 9 := by rw [← Int.natCast_mul] at wlen; rw [Nat.mul_comm] at h9; omega
  have some_t : ∃ t, t < ws.length ∧ atZ ws (t : Int) ≠ 0 := by
    apply Classical.byContradiction
    intro hn
    have z : totG ws = 0 := accT_zero fun t ht => Classical.byContradiction fun h0 => hn ⟨t, ht, h0⟩
    exact g.s0 ((totG_64 (by omega) g.wb).1.trans z)
  have s0 : sum64 (pairsF (askW Y ws) f s) ≠ 0 := by
    obtain ⟨t, ht, ht0⟩ := some_t
    obtain ⟨hi, hk, e⟩ := pair_split (X := X) (Y := Y) (t := t) (by omega)
    have e3 := pair_cast Y (t / Y) (t % Y)
    rw [e] at e3
    rw [(totG_64 wl9 wb).1, totG_sum]
    have sp := sum_pos (l := pairsF (askW Y ws) f s) fun v hv => (inw v hv).1
    have m1 : ((t / Y : Nat) : Int) ∈ f := ((orderB_perm (by omega)).1 hf).mem_iff.2 (by rw [Int.toNat_natCast]; exact cntL_has hi)
    have m2 : ((t % Y : Nat) : Int) ∈ s := ((orderB_perm (by omega)).1 hs).mem_iff.2 (by rw [Int.toNat_natCast]; exact cntL_has hk)
    have mem : askW Y ws ((t / Y : Nat) : Int) ((t % Y : Nat) : Int) ∈ pairsF (askW Y ws) f s := by
      unfold pairsF
      exact List.mem_flatMap.2 ⟨_, m1, List.mem_map.2 ⟨_, m2, rfl⟩⟩
    have nz : askW Y ws ((t / Y : Nat) : Int) ((t % Y : Nat) : Int) ≠ 0 := by unfold askW; rw [← e3]; exact ht0
    have any : ((pairsF (askW Y ws) f s).any fun x => decide (x ≠ 0)) = true := List.any_eq_true.2 ⟨_, mem, by simpa using nz⟩
    rw [any] at sp
    have := of_decide_eq_true sp.2
    omega
  have ib : (pairsF (askR X Y wi q) f s).all (fun l => bitsB l 4) = true := by
    rw [List.all_eq_true]
    intro l hl
    obtain ⟨x, y, hx, hy, rfl⟩ := pairsF_mem hl
    obtain ⟨i, k, rfl, rfl, hi, hk⟩ := at_ x y hx hy
    have p := pair_ok h hi hk
    have b1 := bitsB_at hq (i := (i : Int)) (by omega) (by omega)
    have b2 := bitsB_at hq (i := (X : Int) + k) (by omega) (by omega)
    refine bits_of_at (n := 4) (by simp) fun j hj => ?_
    have x1 := xor4_eq (k := j) (m := flipOf q X (i : Int) (k : Int)) hj (by unfold flipOf; omega) (by unfold flipOf; omega)
    unfold askR
    rw [rowF_atZ _ hj]
    exact p.bit _ x1.2.1 x1.2.2
  unfold gameB
  rw [sizeB_iff.2 ⟨⟨g.x1, g.x3⟩, g.y1, g.y3⟩, wb, ib, decide_eq_true wlen, decide_eq_true s0, decide_eq_true ilen]
  rfl
theorem order_id {n : Nat} : orderB (cntL n) n = true := (orderB_perm (by omega)).2 (by rw [Int.toNat_natCast])
theorem restr_id {X Y : Nat} {q : List Int} (hq : (q.length : Int) = (X : Int) + Y) : restr (cntL X) (cntL Y) X q = q := by
  refine list_at (by simp [restr]; omega) fun j hj => ?_
  have hj : j < X + Y := by simpa [restr] using hj
  unfold restr
  by_cases h1 : j < X
  · rw [atZ_left (by simpa using h1), atZ_map (by simpa using h1), cntL_at h1]
  · obtain ⟨k, rfl⟩ : ∃ k, j = X + k := ⟨j - X, by omega⟩
    rw [Int.natCast_add, atZ_right (n := X) (by simp) (by simp; omega), atZ_map (by simp; omega), cntL_at (by omega)]
/-- flipped games -/
theorem flip_all {X Y : Nat} {ws : List Int} {wi : List (List Int)} {q : List Int} (h : gameB X Y ws wi = true) (hq : bitsB q ((X : Int) + Y) = true) :
    gameB X Y ws (flipR X Y wi q) = true ∧ sameG X Y ws wi ws (flipR X Y wi q) = true ∧ ∀ p, bitsB p ((X : Int) + Y) = true → bitsB (xorL p q) ((X : Int) + Y) = true ∧ scoG X Y ws (flipR X Y wi q) (xorL p q) = scoG X Y ws wi p := by
  obtain ⟨x, y, e1, e2, hx, hy, wl, il, h9⟩ := game_nat h
  obtain rfl : X = x := by omega
  obtain rfl : Y = y := by omega
  have e : flipR X Y wi q = pairsF (askR X Y wi q) (cntL X) (cntL Y) := by simp [flipR]
  have w := pairs_all (X := X) (Y := Y) wl
  have g := game_named h (f := cntL X) (s := cntL Y) order_id order_id hq
  rw [w, ← e] at g
  refine ⟨g, (same_iff ..).2 ⟨cntL X, cntL Y, q, ord_mem (by omega) order_id, ord_mem (by omega) order_id, hq, w, e.symm⟩, fun p hp => ?_⟩
  have sc := named_score (ws := ws) (wi := wi) (f := cntL X) (s := cntL Y) order_id order_id hq hp
  have hl := bitsB_len hp
  rw [w, ← e, restr_id (by simpa using hl)] at sc
  refine ⟨?_, sc⟩
  rw [← Int.natCast_add] at *
  exact xorL_bits hp hq
theorem ask_all {X Y : Nat} {ws : List Int} {wi : List (List Int)} {f s : List Int} (h : gameB X Y ws wi = true) (hf : orderB f X = true) (hs : orderB s Y = true) :
    gameB X Y (askGW Y ws f s) (askGR Y wi f s) = true ∧ sameG X Y ws wi (askGW Y ws f s) (askGR Y wi f s) = true := by
  obtain ⟨x, y, e1, e2, hx, hy, wl, il, h9⟩ := game_nat h
  obtain rfl : X = x := by omega
  obtain rfl : Y = y := by omega
  have e := ask_same h (fs := f) (ss := s) (fun x hx => orderB_mem (by omega) hf hx) (fun x hx => orderB_mem (by omega) hs hx) (X + Y)
  have z : bitsB (zerosL (X + Y)) ((X : Int) + Y) = true := by rw [← Int.natCast_add]; exact zerosL_bits _
  have g := game_named h hf hs z
  rw [e] at g
  exact ⟨g, (same_iff ..).2 ⟨f, s, _, ord_mem (by omega) hf, ord_mem (by omega) hs, z, rfl, e⟩⟩

end Go.Proofs.Ytefbiejoikpkmaa

namespace Go.Proofs.Ytefbiejoikpkmaa
open Go.RowKit
set_option linter.unusedSectionVars false
variable [Glb]
set_option maxRecDepth 10000
set_option maxHeartbeats 4000000
theorem slEqual_p (a b : List Int) : PC Try.prog 185 [.c (eI a), .c (eI b)] (.p (.c (dB (decide (a = b))))) := by
  refine pc_intro Try.func185 rfl rfl rfl (by kernel_rfl) rfl rfl ?_; rintro ⟨hl, hm, -⟩
  have hl := hl.len
  have hm := hm.len
  repeat' (first | (refine so_is (.assign _) ?_; (refine so_q (qt_asC rfl) rfl ?_)) | (refine so_is (.move _) ?_; (refine so_q (qt_mvC rfl) rfl ?_)) | (refine so_is (.call ⟨.builtin .len, _, #[24]⟩) ?_; (refine so_q (qt_len_d rfl (by kernel_rfl)) rfl ?_)) | (refine so_is (.binOp .neq 3 _ _ _) ?_; refine so_q (qt_neq rfl rfl) rfl ?_) | refine so_nil ?_ | refine sk_seq ?_ | refine sk_block ?_ | refine sk_skip ?_ | refine sk_region ?_ | refine sk_if rfl (fun hc => ?_) (fun hc => ?_))
  · (apply sk_ret; apply ret_eq; (· apply RetOK.p; (· (apply GvA.cons; (· exact .tmp _); (· exact GvP.c (.lit _))); exact GvA.nil); (· (decide))))
    have : a ≠ b := fun e => by subst e; simp at *
    simp [this]
  have hab : a.length = b.length := by simp at *; omega
  apply sk_packC [0, 1, 12, 13] [] rfl; (· (repeat (first | exact Pf.nil | apply Pf.cons (.c rfl (.d rfl))))); (· (repeat (exact Pb.nil)))
  refine sk_loopL [0, 1, 12] [] (fun k => [(13, iN k)]) (fun _ => []) (fun k => k ≤ a.length ∧ a.take k = b.take k) (fun k => a.length - k) (0) ?_ (by (repeat (first | exact trivial | refine ⟨(by (rfl)), ?_⟩))) (by (repeat (exact trivial))) ?_
  · simp
  rintro k ⟨hk, hs⟩
  repeat' (first | (refine so_is (.assign _) ?_; (refine so_q (qt_asC rfl) rfl ?_)) | (refine so_is (.move _) ?_; (refine so_q (qt_mvC rfl) rfl ?_)) | (refine so_is (.binOp .neq 3 _ _ _) ?_; refine so_q (qt_neq rfl rfl) rfl ?_) | (refine so_is (.binOp .lss 3 _ _ _) ?_; refine so_q (qt_lss rfl rfl) rfl ?_) | (refine so_is (.indexAddr 24 _ _) ?_; (refine so_q (qt_idxI rfl rfl (by kernel_rfl) (by (omega)) (by (omega))) rfl ?_)) | (refine so_is (.load 3 _) ?_; (refine so_q (qt_load_pt rfl (by kernel_rfl) rfl) rfl ?_)) | (refine so_is (.binOp .add 3 _ _ _) ?_; refine so_q (qt_addI rfl rfl (by (omega))) rfl ?_) | refine so_nil ?_ | refine sk_seq ?_ | refine sk_block ?_ | refine sk_blk ?_ | refine sk_exit rfl ?_ | refine sk_skip ?_ | refine sk_region ?_ | refine sk_drawQ 6 (fun _ => false) (.step 0 true (.step 1 true (.step 2 true (.step 3 true (.step 4 true (.step 5 true (.step 6 true (.step 7 true (.step 8 true .nil))))))))) [(0, 511, 511, true), (0, 511, 511, true), (3, 508, 511, true), (4, 507, 511, false), (0, 511, 511, true), (0, 511, 511, true), (48, 463, 511, true), (64, 447, 511, false), (136, 375, 511, true)] (by kernel_rfl) (by kernel_rfl) ?_ | refine sk_if rfl (fun hc => ?_) (fun hc => ?_))
  · rename_i hk'
    rw [atZ_nat (by omega), atZ_nat (by omega)] at hc
    (apply sk_ret; apply ret_eq; (· apply RetOK.p; (· (apply GvA.cons; (· exact .tmp _); (· exact GvP.c (.lit _))); exact GvA.nil); (· (decide))))
    have : a ≠ b := fun e => by subst e; exact hc rfl
    simp [this]
  · rename_i hk'
    rw [atZ_nat (by omega), atZ_nat (by omega)] at hc
    refine sk_back ?_; refine ⟨k + 1, ?_, ?_, le_at rfl (by (repeat (first | exact trivial | refine ⟨(by (rfl)), ?_⟩))) (by (repeat (first | exact trivial | refine ⟨rfl, ?_⟩))) (by (repeat (exact trivial))) (by (repeat (exact trivial)))⟩
    · exact ⟨by omega, by rw [List.take_succ_eq_append_getElem (by omega), List.take_succ_eq_append_getElem (by omega), hs]; simp at hc; rw [hc]⟩
    · omega
  · have e : k = a.length := by omega
    subst e
    rw [List.take_length, hab, List.take_length] at hs
    (apply sk_ret; apply ret_eq; (· apply RetOK.p; (· (apply GvA.cons; (· exact .tmp _); (· exact GvP.c (.lit _))); exact GvA.nil); (· (decide))))
    simp [hs]

end Go.Proofs.Ytefbiejoikpkmaa

namespace Go.Proofs.Ytefbiejoikpkmaa
open Go.RowKit
set_option linter.unusedSectionVars false
variable [Glb]
set_option maxRecDepth 10000
set_option maxHeartbeats 4000000
theorem equal1_p (a b : List Int) : PC Try.prog 187 [.c (eI a), .c (eI b)] (.p (.c (dB (decide (a = b))))) := by
  refine pc_intro Try.func187 rfl rfl rfl (by kernel_rfl) rfl rfl ?_; intro _
  repeat' (first | (refine so_is (.assign _) ?_; (refine so_q (qt_asC rfl) rfl ?_)) | (refine so_is (.move _) ?_; (refine so_q (qt_mvC rfl) rfl ?_)) | (refine so_is (.call ⟨.value (.func 185), _, _⟩) ?_; (apply so_call0 (fid := 185); (· (repeat (first | exact SeA.nil | apply SeA.cons (.c (.d _))))); (· exact slEqual_p _ _); (· rfl))) | refine so_nil ?_ | refine sk_seq ?_ | refine sk_region ?_)
  (apply sk_ret; apply ret_eq; (· apply RetOK.p; (· (apply GvA.cons; (· exact .tmp _); (· exact GvP.c (.lit _))); exact GvA.nil); (· (decide))))
  rfl
theorem slEqualFunc_p (a b : List (List Int)) : PC Try.prog 186 [.c (eII a), .c (eII b), .c (.fn (.func 187) [])] (.p (.c (dB (decide (a = b))))) := by
  refine pc_intro Try.func186 rfl rfl rfl (by kernel_rfl) rfl rfl ?_; rintro ⟨hl, hm, -⟩
  have hl := hl.len
  have hm := hm.len
  repeat' (first | (refine so_is (.assign _) ?_; (refine so_q (qt_asC rfl) rfl ?_)) | (refine so_is (.move _) ?_; (refine so_q (qt_mvC rfl) rfl ?_)) | (refine so_is (.call ⟨.builtin .len, _, #[25]⟩) ?_; (refine so_q (qt_len_d rfl (by kernel_rfl)) rfl ?_)) | (refine so_is (.binOp .neq 3 _ _ _) ?_; refine so_q (qt_neq rfl rfl) rfl ?_) | refine so_nil ?_ | refine sk_seq ?_ | refine sk_block ?_ | refine sk_skip ?_ | refine sk_region ?_ | refine sk_if rfl (fun hc => ?_) (fun hc => ?_))
  · (apply sk_ret; apply ret_eq; (· apply RetOK.p; (· (apply GvA.cons; (· exact .tmp _); (· exact GvP.c (.lit _))); exact GvA.nil); (· (decide))))
    have : a ≠ b := fun e => by subst e; simp at *
    simp [this]
  have hab : a.length = b.length := by simp at *; omega
  apply sk_packC [1, 2, 15, 16, 17] [] rfl; (· (repeat (first | exact Pf.nil | apply Pf.cons (.c rfl (.d rfl))))); (· (repeat (exact Pb.nil)))
  refine sk_loopL [1, 2, 15, 16] [] (fun k => [(17, iN k)]) (fun _ => []) (fun k => k ≤ a.length ∧ a.take k = b.take k) (fun k => a.length - k) (0) ?_ (by (repeat (first | exact trivial | refine ⟨(by (rfl)), ?_⟩))) (by (repeat (exact trivial))) ?_
  · simp
  rintro k ⟨hk, hs⟩
  by_cases hk' : k < a.length
  · cases he : decide (atZ a (k : Int) = atZ b (k : Int)) with
    | false =>
      have eq1 := equal1_p (atZ a (k : Int)) (atZ b (k : Int))
      rw [he] at eq1
      repeat' (first | (refine so_is (.assign _) ?_; (refine so_q (qt_asC rfl) rfl ?_)) | (refine so_is (.move _) ?_; (refine so_q (qt_mvC rfl) rfl ?_)) | (refine so_is (.binOp .lss 3 _ _ _) ?_; refine so_q (qt_lss rfl rfl) rfl ?_) | (refine so_is (.indexAddr 25 _ _) ?_; (refine so_q (qt_idxII rfl rfl (by kernel_rfl) (by (omega)) (by (omega))) rfl ?_)) | (refine so_is (.load 24 _) ?_; (refine so_q (qt_load_pt rfl (by kernel_rfl) rfl) rfl ?_)) | (refine so_is (.unOp .not 4 _) ?_; refine so_q (qt_not rfl) rfl ?_) | (refine so_is (.call ⟨.value (.tmp 26), _, _⟩) ?_; (apply so_call; (· (exact .c (.d _))); (· (repeat (first | exact SeA.nil | apply SeA.cons (.c (.d _))))); (· exact eq1); (· rfl))) | refine so_nil ?_ | refine sk_seq ?_ | refine sk_block ?_ | refine sk_exit rfl ?_ | refine sk_skip ?_ | refine sk_region ?_ | refine sk_true rfl ?_ | refine sk_if rfl (fun hc => ?_) (fun hc => ?_))
      all_goals first | (exfalso; omega) | (exfalso; simp_all; done) | skip
      (apply sk_ret; apply ret_eq; (· apply RetOK.p; (· (apply GvA.cons; (· exact .tmp _); (· exact GvP.c (.lit _))); exact GvA.nil); (· (decide))))
      have : a ≠ b := fun e => by subst e; simp at he
      simp [this]
    | true =>
      have eq1 := equal1_p (atZ a (k : Int)) (atZ b (k : Int))
      rw [he] at eq1
      repeat' (first | (refine so_is (.assign _) ?_; (refine so_q (qt_asC rfl) rfl ?_)) | (refine so_is (.move _) ?_; (refine so_q (qt_mvC rfl) rfl ?_)) | (refine so_is (.binOp .lss 3 _ _ _) ?_; refine so_q (qt_lss rfl rfl) rfl ?_) | (refine so_is (.indexAddr 25 _ _) ?_; (refine so_q (qt_idxII rfl rfl (by kernel_rfl) (by (omega)) (by (omega))) rfl ?_)) | (refine so_is (.load 24 _) ?_; (refine so_q (qt_load_pt rfl (by kernel_rfl) rfl) rfl ?_)) | (refine so_is (.unOp .not 4 _) ?_; refine so_q (qt_not rfl) rfl ?_) | (refine so_is (.binOp .add 3 _ _ _) ?_; refine so_q (qt_addI rfl rfl (by (omega))) rfl ?_) | (refine so_is (.call ⟨.value (.tmp 26), _, _⟩) ?_; (apply so_call; (· (exact .c (.d _))); (· (repeat (first | exact SeA.nil | apply SeA.cons (.c (.d _))))); (· exact eq1); (· rfl))) | refine so_nil ?_ | refine sk_seq ?_ | refine sk_block ?_ | refine sk_blk ?_ | refine sk_exit rfl ?_ | refine sk_skip ?_ | refine sk_region ?_ | refine sk_false rfl ?_ | refine sk_if rfl (fun hc => ?_) (fun hc => ?_))
      all_goals first | (exfalso; omega) | (exfalso; simp_all; done) | skip
      refine sk_back ?_; refine ⟨k + 1, ?_, ?_, le_at rfl (by (repeat (first | exact trivial | refine ⟨(by (rfl)), ?_⟩))) (by (repeat (first | exact trivial | refine ⟨rfl, ?_⟩))) (by (repeat (exact trivial))) (by (repeat (exact trivial)))⟩
      · have he := of_decide_eq_true he
        rw [atZ_nat (by omega), atZ_nat (by omega)] at he
        exact ⟨by omega, by rw [List.take_succ_eq_append_getElem (by omega), List.take_succ_eq_append_getElem (by omega), hs]; rw [he]⟩
      · omega
  · have e : k = a.length := by omega
    subst e
    rw [List.take_length, hab, List.take_length] at hs
    repeat' (first | (refine so_is (.assign _) ?_; (refine so_q (qt_asC rfl) rfl ?_)) | (refine so_is (.move _) ?_; (refine so_q (qt_mvC rfl) rfl ?_)) | (refine so_is (.binOp .lss 3 _ _ _) ?_; refine so_q (qt_lss rfl rfl) rfl ?_) | (refine so_is (.indexAddr 25 _ _) ?_; (refine so_q (qt_idxII rfl rfl (by kernel_rfl) (by (omega)) (by (omega))) rfl ?_)) | (refine so_is (.load 24 _) ?_; (refine so_q (qt_load_pt rfl (by kernel_rfl) rfl) rfl ?_)) | (refine so_is (.unOp .not 4 _) ?_; refine so_q (qt_not rfl) rfl ?_) | (refine so_is (.binOp .add 3 _ _ _) ?_; refine so_q (qt_addI rfl rfl (by (omega))) rfl ?_) | (refine so_is (.call ⟨.value (.tmp 26), _, _⟩) ?_; (apply so_call; (· (exact .c (.d _))); (· (repeat (first | exact SeA.nil | apply SeA.cons (.c (.d _))))); (· exact equal1_p _ _); (· rfl))) | refine so_nil ?_ | refine sk_seq ?_ | refine sk_block ?_ | refine sk_blk ?_ | refine sk_exit rfl ?_ | refine sk_skip ?_ | refine sk_region ?_ | refine sk_if rfl (fun hc => ?_) (fun hc => ?_) | refine sk_nif rfl (fun hc => ?_) (fun hc => ?_))
    all_goals first | (exfalso; omega) | skip
    (apply sk_ret; apply ret_eq; (· apply RetOK.p; (· (apply GvA.cons; (· exact .tmp _); (· exact GvP.c (.lit _))); exact GvA.nil); (· (decide))))
    simp [hs]
theorem gameEqual_p (x y : Int) (ws : List Int) (wi : List (List Int)) (x2 y2 : Int) (ws2 : List Int) (wi2 : List (List Int)) : PC Try.prog 94 [.g [dI x, dI y, eI ws, eII wi], .g [dI x2, dI y2, eI ws2, eII wi2]] (.p (.c (dB (decide (ws = ws2) && decide (wi = wi2))))) := by
  refine pc_intro Try.func94 rfl rfl rfl (by kernel_rfl) rfl rfl ?_; intro _
  repeat' (first | (refine so_is (.box 27 _) ?_; refine so_box rfl rfl ?_) | (refine so_is (.assign _) ?_; (refine so_q (qt_asC rfl) rfl ?_)) | (refine so_is (.fieldAddr 27 _ 2) ?_; (refine so_q (qt_fld_lp (off := 2) rfl (by kernel_rfl)) rfl ?_)) | (refine so_is (.load 24 _) ?_; (refine so_q (qt_load_box rfl rfl (by kernel_rfl) rfl) rfl ?_)) | (refine so_is (.move _) ?_; (refine so_q (qt_mvC rfl) rfl ?_)) | (refine so_is (.fieldAddr 27 _ 3) ?_; (refine so_q (qt_fld_lp (off := 3) rfl (by kernel_rfl)) rfl ?_)) | (refine so_is (.load 25 _) ?_; (refine so_q (qt_load_box rfl rfl (by kernel_rfl) rfl) rfl ?_)) | (refine so_is (.pick _ _ _) ?_; (refine so_q (qt_pkC rfl rfl) rfl ?_)) | (refine so_is (.call ⟨.value (.func 185), _, _⟩) ?_; (apply so_call0 (fid := 185); (· (repeat (first | exact SeA.nil | apply SeA.cons (.c (.d _))))); (· exact slEqual_p _ _); (· rfl))) | (refine so_is (.call ⟨.value (.func 186), _, _⟩) ?_; (apply so_call0 (fid := 186); (· (repeat (first | exact SeA.nil | apply SeA.cons (.c (.d _))))); (· exact slEqualFunc_p _ _); (· rfl))) | refine so_nil ?_ | refine so_g_no rfl rfl rfl rfl ?_ | refine so_g_yes rfl rfl rfl rfl ?_ | refine so_g_if rfl rfl (fun hg => ?_) (fun hg => ?_) | refine sk_seq ?_ | refine sk_region ?_)
  all_goals (apply sk_ret; apply ret_eq; (· apply RetOK.p; (· (apply GvA.cons; (· exact .tmp _); (· exact GvP.c (.lit _))); exact GvA.nil); (· (decide))))
  all_goals simp_all

end Go.Proofs.Ytefbiejoikpkmaa

namespace Go.Proofs.Ytefbiejoikpkmaa
open Go.RowKit
set_option linter.unusedSectionVars false
variable [Glb]
open Go Go.RowKit
/-! several ways through a part of the code that are told as one behind it -/
theorem sk_join {P : Program} {R : St → Prop} {k : List Itm} {st : St} {c : Code} {G : Type} (U UB : List Nat) (V : G → List (Nat × FV)) (B : G → List (Nat × Blk)) (ok : G → Prop)
    (first : SK P (.code c :: .back (fun st' => ∃ g', ok g' ∧ True ∧ st'.le (st.at U UB (V g') (B g'))) :: k) st R)
    (rest : ∀ g, ok g → SK P k (st.at U UB (V g) (B g)) R) : SK P (.code c :: k) st R := by
  refine ⟨fun w0 a w hs => Code.wp_mono ?_ (first.lv w0 a w hs)⟩
  rintro e a' w' ⟨st1, h1, h2⟩
  cases e with
  | normal =>
    obtain ⟨g, hg, _, hle⟩ := h2
    exact ⟨_, h1.le hle, (rest g hg).lv⟩
  | ret => exact ⟨st1, h1, by rw [LV.ret] at *; exact h2⟩
  | exit id => exact ⟨st1, h1, h2⟩
  | goto l => exact (LV.bad trivial h2).elim
  | panic c => exact (LV.bad trivial h2).elim
  | outgrown => exact (LV.bad trivial h2).elim
theorem sim_boxeq {st : St} (c : Nat) {cs : List C} (cs' : List C) (hb : st.bl c = some (.box cs)) (e : cs = cs') : ∀ w0 a w, Sim w0 st a w → Sim w0 (st.setB c (some (.box cs'))) a w := by
  subst e
  have : st.setB c (some (.box cs)) = st := by
    unfold St.setB
    cases st with
    | mk n fr bl =>
      simp only [St.mk.injEq, true_and]
      funext k
      split
      · rename_i h; subst h; exact hb.symm
      · rfl
  rw [this]
  exact fun _ _ _ h => h
theorem sim_sloteq {st : St} (t : Nat) {x : FV} (x' : FV) (hb : st.fr t = x) (e : x = x') : ∀ w0 a w, Sim w0 st a w → Sim w0 (st.put t x') a w := by
  subst e
  have : st.put t x = st := by
    unfold St.put
    cases st with
    | mk n fr bl =>
      simp only [St.mk.injEq, and_true, true_and]
      funext k
      split
      · rename_i h; subst h; exact hb.symm
      · rfl
  rw [this]
  exact fun _ _ _ h => h
theorem sim_shrink {st : St} (b sz k : Nat) {ds : List D} (hb : st.bl b = some (.row sz ds)) (hl : Lits ds) : ∀ w0 a w, Sim w0 st a w → Sim w0 (st.setB b (some (.row sz (ds.take k)))) a w := by
  rintro w0 a w ⟨ρ, Φ, hm⟩
  have h0 := hm.bl b _ hb
  have key : BR w ρ (InΦ Φ) (ρ b) (.row sz (ds.take k)) (Φ b) := by
    generalize ρ b = rb at h0
    generalize Φ b = Fb at h0
    cases h0 with
    | nil sz hz => rw [List.take_nil]; exact .nil sz hz
    | row g us E _ _ vs Fs hz hg hle hcc hr =>
      have e0 : ∀ j, j < ds.length → Fs j = [] := fun j hj => by
        have h1 := hr j hj
        obtain ⟨v, hv⟩ := hl _ (List.getElem_mem hj)
        rw [hv] at h1
        generalize Fs j = F at h1
        generalize vs j = u at h1
        cases h1 with
        | lit => rfl
      have e1 : ∀ m, m ≤ ds.length → parts m Fs = [] := fun m hm => by
        unfold parts
        rw [List.flatMap_eq_nil_iff]
        intro j hj
        exact e0 j (by have := List.mem_range.1 hj; omega)
      have e : parts ds.length Fs = parts (ds.take k).length Fs := by rw [e1 _ (Nat.le_refl _), e1 _ (by simp; omega)]
      rw [e]
      refine .row g us E sz _ vs Fs hz hg (by simp; omega) (fun j hj => hcc j (by simp at hj; omega)) fun j hj => ?_
      rw [List.getElem_take]
      exact hr j (by simp at hj; omega)
  refine ⟨ρ, Φ, { hm with size := by simpa [St.setB] using hm.size, nb := by simpa [St.setB] using hm.nb, fr := hm.fr, bl := fun k y hy => ?_, emp := fun k hk => ?_ }⟩
  · simp only [St.setB] at hy
    by_cases hkb : k = b
    · subst hkb; rw [if_pos rfl] at hy; cases hy; exact key
    · rw [if_neg hkb] at hy; exact hm.bl k y hy
  · simp only [St.setB] at hk
    by_cases hkb : k = b
    · rw [if_pos hkb] at hk; cases hk
    · rw [if_neg hkb] at hk; exact hm.emp k hk
section
variable {P : Program} {st : St} {dst : Option Tmp} {ty : TypeId} {pos : String} {af : Array Edge}
/-- an empty part of a list -/
theorem qt_slice_endG {T : TypeId} {x : Operand} {lo hi : Option Operand} {b sz off n : Nat} {vl vh : Option (IntKind × Int)} {i : Nat} (hx : st.ev x = .c (.ls b sz off n))
    (hl : ∀ a w ρ (Ψ : Nat → Prop), (∀ y, FR w ρ Ψ (Act.eval a y) (st.ev y)) → lo.map a.eval = vl.map fun x => .int x.1 x.2) (hh : ∀ a w ρ (Ψ : Nat → Prop), (∀ y, FR w ρ Ψ (Act.eval a y) (st.ev y)) → hi.map a.eval = vh.map fun x => .int x.1 x.2) (ht : tSl P T sz = true)
    (hlo : bndOK vl i 0) (hhi : bndOK vh i n) (hj : i ≤ n) (hz : 0 < sz) :
    Qt P ⟨dst, .slice T x lo hi none, ty, pos, af, none⟩ st (.c (.d (.sl sz 0 []))) := fun w0 ρ Φ a w hm => by
  have h := hm.ev x
  rw [hx] at h
  have e1 := hl a w ρ _ fun y => hm.ev y
  have e2 := hh a w ρ _ fun y => hm.ev y
  generalize hv : a.eval x = v at *
  rcases ls_inv h.c_inv with ⟨h0, rfl, rfl, rfl⟩ | ⟨g, cap, cs, E', hρ, rfl, hnc, hle, hg', hcap⟩
  · have hi0 : i = 0 := by omega
    subst hi0
    refine ⟨.slice none 0 0, fun w' _ => by simp only [execOp, hv, Option.map_none, e1, e2, Sem.run_bind, run_sliced ht none 0 0 vl vh 0 0 hlo hhi (Nat.le_refl _) hj (Nat.le_refl _), Result.andThen_ok, Sem.run_pure]; rfl, .c _ _ ?_⟩
    exact .d _ _ _ (.sl none 0 0 sz [] (fun _ => undef) (fun _ => []) (by simp) hz (by omega) (fun h => absurd h (by omega)) (fun k hk => by simp at hk) (fun k hk => by simp at hk)) fun b hb => by simp at hb
  · refine ⟨.slice (if cap = i then some ⟨g, off, none⟩ else (some (⟨g, off, none⟩ : Addr)).map (·.add (i * sz))) (i - i) (cap - i), fun w' _ => by simp only [execOp, hv, Option.map_none, e1, e2, Sem.run_bind, run_sliced ht (some ⟨g, off, none⟩) n cap vl vh i i hlo hhi (Nat.le_refl _) hj hnc, Result.andThen_ok, Sem.run_pure], .c _ _ ?_⟩
    rw [Nat.sub_self]
    exact .d _ _ _ (.sl _ 0 _ sz [] (fun _ => undef) (fun _ => []) (by simp) hz (by omega) (fun h => absurd h (by omega)) (fun k hk => by simp at hk) (fun k hk => by simp at hk)) fun b hb => by simp at hb
theorem qt_slice_end {T : TypeId} {x lo : Operand} {b sz off n : Nat} {kl : IntKind} {i : Int} (hx : st.ev x = .c (.ls b sz off n)) (hl : st.ev lo = .c (.d (.lit (.int kl i)))) (ht : tSl P T sz = true) (hz : 0 < sz) (h1 : i = n) :
    Qt P ⟨dst, .slice T x (some lo) none none, ty, pos, af, none⟩ st (.c (.d (.sl sz 0 []))) :=
  qt_slice_endG (vl := some (kl, i)) (vh := none) (i := n) hx (ev_some hl) (fun _ _ _ _ _ => rfl) ht ⟨by omega, by omega⟩ rfl (Nat.le_refl _) hz
end

end Go.Proofs.Ytefbiejoikpkmaa

namespace Go.Proofs.Ytefbiejoikpkmaa
open Go.RowKit
set_option linter.unusedSectionVars false
variable [Glb]
open Go Go.RowKit
/-! a whole row that is looked at only -/
theorem dem_all (b : Nat) {n : Nat} {ds : List D} (hn : n = ds.length) : C.dem b ds (.ls b 1 0 n) = .d (.sl 1 n ds) := by
  subst hn
  have b1 : Nat.beq b b = true := by simp
  have b2 : Nat.blt 0 1 = true := rfl
  have b3 : ds.length.ble ds.length = true := by simp
  simp [C.dem, b1, b2, b3]
theorem dem_slot {st : St} (t b : Nat) {n : Nat} {ds : List D} (hb : st.fr t = .c (C.dem b ds (.ls b 1 0 n))) (hn : n = ds.length) : ∀ w0 a w, Sim w0 st a w → Sim w0 (st.put t (.c (.d (.sl 1 n ds)))) a w :=
  sim_sloteq t (.c (.d (.sl 1 n ds))) hb (by rw [dem_all b hn])

end Go.Proofs.Ytefbiejoikpkmaa

namespace Go.Proofs.Ytefbiejoikpkmaa
open Go.RowKit
set_option linter.unusedSectionVars false
variable [Glb]
open Go Go.RowKit
/-! cells of a row, set one by one -/
theorem setCell_at {w : World} {g o : Nat} {v : Value} {cs : Array Value} {E : TypeId} {t : Nat × Nat} (hg : w.heap[g]? = some (.cells cs E t)) : (w.setCell ⟨g, o, none⟩ v).heap[g]? = some (.cells (cs.setIfInBounds o v) E t) := by
  unfold World.setCell
  simp [Array.getElem?_modify, hg]
theorem setCells_row {g : Nat} {E : TypeId} {t : Nat × Nat} : ∀ (vs : List Value) (o : Nat) (w : World) (cs : Array Value), w.heap[g]? = some (.cells cs E t) →
    ∃ cs', (w.setCells g o vs).heap[g]? = some (.cells cs' E t) ∧ cs'.size = cs.size ∧ ∀ k, k < cs.size → cs'[k]? = if o ≤ k ∧ k < o + vs.length then vs[k - o]? else cs[k]?
  | [], o, w, cs, hg => ⟨cs, hg, rfl, fun k _ => by rw [if_neg (by simp)]⟩
  | v :: vs, o, w, cs, hg => by
    obtain ⟨cs', h1, h2, h3⟩ := setCells_row vs (o + 1) (w.setCell ⟨g, o, none⟩ v) _ (setCell_at hg)
    refine ⟨cs', h1, by rw [h2]; simp, fun k hk => ?_⟩
    rw [h3 k (by simpa using hk)]
    by_cases e : k = o
    · subst e
      rw [if_neg (by omega), if_pos (by simp)]
      simp [hk]
    · by_cases h : o + 1 ≤ k ∧ k < o + 1 + vs.length
      · rw [if_pos h, if_pos (by simp; omega), show k - o = (k - (o + 1)) + 1 by omega]; simp
      · rw [if_neg h, if_neg (by simp; omega)]
        rw [Array.getElem?_setIfInBounds_ne (by omega)]
theorem setCells_rest (g : Nat) : ∀ (vs : List Value) (o : Nat) (w : World), (w.setCells g o vs).os = w.os ∧ (w.setCells g o vs).tape = w.tape ∧ (w.setCells g o vs).output = w.output ∧ (w.setCells g o vs).heap.size = w.heap.size ∧ ∀ k, k ≠ g → (w.setCells g o vs).heap[k]? = w.heap[k]?
  | [], o, w => ⟨rfl, rfl, rfl, rfl, fun _ _ => rfl⟩
  | v :: vs, o, w => by
    obtain ⟨h1, h2, h3, h4, h5⟩ := setCells_rest g vs (o + 1) (w.setCell ⟨g, o, none⟩ v)
    refine ⟨h1, h2, h3, by rw [World.setCells, h4]; simp [World.setCell], fun k hk => ?_⟩
    rw [World.setCells, h5 k hk]
    unfold World.setCell
    simp [Array.getElem?_modify, Ne.symm hk]
theorem ow_ints {w : World} {g cap : Nat} {E : TypeId} {cs : Array Value} {M : List Int} (hg : w.heap[g]? = some (.cells cs E (0, 0))) (hle : cap ≤ 9223372036854775807) (hnc : M.length ≤ cap) (_ : M.length ≤ 9223372036854775807) (hcap : cap ≤ cs.size)
    (hc : ∀ k, (hk : k < M.length) → cs[k]? = some (.int .i64 M[k])) : Ow w (.slice (some ⟨g, 0, none⟩) M.length cap) (.sl 1 M.length (M.map fun k => .lit (.int .i64 k))) [g] := by
  have e : [g] = g :: parts (M.map fun k => D.lit (.int .i64 k)).length (fun _ => []) := by simp [parts]
  rw [e]
  refine .sl g M.length cap 1 E cs _ (fun k => .int .i64 (M.getD k 0)) (fun _ => []) (by simp) (by decide) hle hg hnc (by omega) (fun k hk => ?_) fun k hk => ?_
  · have hk' : k < M.length := by simpa using hk
    rw [hc k hk']
    simp [hk']
  · rw [List.getElem_map]
    have hk' : k < M.length := by simpa using hk
    rw [List.getD_eq_getElem?_getD, List.getElem?_eq_getElem hk']
    exact .lit _ rfl
theorem alloc_new (w : World) (o : Obj) : (w.alloc o).heap[w.heap.size]? = some o := by show (w.heap.push o)[w.heap.size]? = _; simp
theorem alloc_old (w : World) (o : Obj) {k : Nat} (h : k < w.heap.size) : (w.alloc o).heap[k]? = w.heap[k]? := by
  show (w.heap.push o)[k]? = _
  rw [Array.getElem?_push, if_neg (by omega)]
theorem alloc_size (w : World) (o : Obj) : (w.alloc o).heap.size = w.heap.size + 1 := by show (w.heap.push o).size = _; simp
theorem alloc_le (w : World) (o : Obj) : w.heap.size ≤ (w.alloc o).heap.size := by rw [alloc_size]; omega

end Go.Proofs.Ytefbiejoikpkmaa

namespace Go.Proofs.Ytefbiejoikpkmaa
open Go.RowKit
set_option linter.unusedSectionVars false
variable [Glb]
set_option maxRecDepth 10000
set_option maxHeartbeats 4000000
open Go.Shelf Go.Proofs
def Try.laysNm221_ren_slices_Insert_int_shiftslices_Insert_int_end_roomslices_Insert_int_end_growslices_Insert_int_grow : Go.Shelf.Ren := ⟨fun | 21 => 183 | 27 => 224 | 28 => 225 | 35 => 237 | 39 => 254 | n => n, fun | 22 => 24 | 3 => 3 | 4 => 4 | 0 => 0 | n => n, fun | n => n⟩
theorem Try.laysNm221_slices_Insert_int_shiftslices_Insert_int_end_roomslices_Insert_int_end_growslices_Insert_int_grow : Go.Proofs.Lays2.n21 Try.prog Try.laysNm221_ren_slices_Insert_int_shiftslices_Insert_int_end_roomslices_Insert_int_end_growslices_Insert_int_grow := {
  mixed := by kernel_rfl
  f21 := Try.func183.trans (congrArg some (by kernel_rfl))
  f27 := Try.func224.trans (congrArg some (by kernel_rfl))
  f28 := Try.func225.trans (congrArg some (by kernel_rfl))
  f35 := Try.func237.trans (congrArg some (by kernel_rfl))
  f39 := Try.func254.trans (congrArg some (by kernel_rfl))
  t0 := Try.underlying0
  a0 := Try.isAgg0
  z0 := Try.sizeOf0
  v0 := Try.zeroValue0
  t3 := Try.underlying3
  a3 := Try.isAgg3
  z3 := Try.sizeOf3
  v3 := Try.zeroValue3
  t4 := Try.underlying4
  a4 := Try.isAgg4
  z4 := Try.sizeOf4
  v4 := Try.zeroValue4
  t22 := Try.underlying24
  a22 := Try.isAgg24
  z22 := Try.sizeOf24
  v22 := Try.zeroValue24
  i3 := by kernel_rfl }
open Go.RowKit Go.Lib in
theorem Try.slices_Insert_int_shift (b off n c i vb voff m vc : Nat) (cs vs : List Value) (w : World) (hi : i < n) (hm : 0 < m) (hroom : n + m ≤ c) (hc63 : c ≤ 9223372036854775807) (hvb : vb ≠ b) (hcl : cs.length = n) (hvl : vs.length = m) (hcs : ∀ j v, cs[j]? = some v → w.cell? ⟨b, off + j, none⟩ = some v) (hsp : ∀ j, j < n + m → (w.cell? ⟨b, off + j, none⟩).isSome = true) (hfz : ∀ j, j < n + m → w.frozen? ⟨b, off + j, none⟩ = false) (hvs : ∀ j v, vs[j]? = some v → w.cell? ⟨vb, voff + j, none⟩ = some v) (h1c : ∀ v ∈ cs, v.oneCell' = true) (h1v : ∀ v ∈ vs, v.oneCell' = true) (tA tB : TypeId) (kA kB : Nat) (hsa : w.shape? vb = some (tA, kA)) (hsb : w.shape? b = some (tB, kB)) (hkB : kB ≠ 0) (hfa : w.frozen? ⟨vb, voff, none⟩ = false) (hfe : w.frozen? ⟨vb, kA, none⟩ = false) :
    Calls Try.prog 183 #[.slice (some ⟨b, off, none⟩) n c, .int .i64 i, .slice (some ⟨vb, voff, none⟩) m vc] w fun e w' => e = .returned (.slice (some ⟨b, off, none⟩) (n + m) c) ∧ w' = (w.drew.setCells b (off + (i + m)) (cs.drop i)).setCells b (off + i) vs := Any2.slices_Insert_int_shift Try.laysNm221_slices_Insert_int_shiftslices_Insert_int_end_roomslices_Insert_int_end_growslices_Insert_int_grow b off n c i vb voff m vc cs vs w hi hm hroom hc63 hvb hcl hvl hcs hsp hfz hvs h1c h1v tA tB kA kB hsa hsb hkB hfa hfe
open Go.RowKit Go.Lib in
theorem Try.slices_Insert_int_end_room (b off n c vb voff m vc : Nat) (vs : List Value) (w : World) (hm : 0 < m) (hroom : n + m ≤ c) (hc63 : c ≤ 9223372036854775807) (hvl : vs.length = m) (hsp : ∀ j, j < m → (w.cell? ⟨b, off + n + j, none⟩).isSome = true) (hfz : ∀ j, j < m → w.frozen? ⟨b, off + n + j, none⟩ = false) (hvs : ∀ j v, vs[j]? = some v → w.cell? ⟨vb, voff + j, none⟩ = some v) (h1v : ∀ v ∈ vs, v.oneCell' = true) :
    Calls Try.prog 183 #[.slice (some ⟨b, off, none⟩) n c, .int .i64 n, .slice (some ⟨vb, voff, none⟩) m vc] w fun e w' => e = .returned (.slice (some ⟨b, off, none⟩) (n + m) c) ∧ w' = w.setCells b (off + n) vs := Any2.slices_Insert_int_end_room Try.laysNm221_slices_Insert_int_shiftslices_Insert_int_end_roomslices_Insert_int_end_growslices_Insert_int_grow b off n c vb voff m vc vs w hm hroom hc63 hvl hsp hfz hvs h1v
open Go.RowKit Go.Lib in
theorem Try.slices_Insert_int_end_grow (base : Option Addr) (n c vb voff m vc : Nat) (cs vs : List Value) (w : World) (hm : 0 < m) (hnc : n ≤ c) (hroom : c < n + m) (hbig : (n + m) * 8 ≤ 140737488355328) (hcl : cs.length = n) (hvl : vs.length = m) (hnil : base = none → n = 0) (hcs : ∀ a, base = some a → ∀ j v, cs[j]? = some v → w.cell? (a.add j) = some v) (hvs : ∀ j v, vs[j]? = some v → w.cell? ⟨vb, voff + j, none⟩ = some v) (h1v : ∀ v ∈ vs, v.oneCell' = true) :
    Calls Try.prog 183 #[.slice base n c, .int .i64 n, .slice (some ⟨vb, voff, none⟩) m vc] w fun e w' => e = .returned (.slice (some ⟨w.heap.size, 0, none⟩) (n + m) (grownCap w (n + m) c 3)) ∧ w' = w.drew.alloc (.cells ((cs ++ vs).toArray ++ Builtin.zeroCells (Value.int .i64 0).cells (grownCap w (n + m) c 3 - (n + m))) 3) := Any2.slices_Insert_int_end_grow Try.laysNm221_slices_Insert_int_shiftslices_Insert_int_end_roomslices_Insert_int_end_growslices_Insert_int_grow base n c vb voff m vc cs vs w hm hnc hroom hbig hcl hvl hnil hcs hvs h1v
open Go.RowKit Go.Lib in
theorem Try.slices_Insert_int_grow (b off n c i vb voff m vc : Nat) (cs vs : List Value) (w : World) (hi : i < n) (hm : 0 < m) (hnc : n ≤ c) (hroom : c < n + m) (hbig : (n + m) * 8 ≤ 140737488355328) (hcl : cs.length = n) (hvl : vs.length = m) (hcs : ∀ j v, cs[j]? = some v → w.cell? ⟨b, off + j, none⟩ = some v) (hvs : ∀ j v, vs[j]? = some v → w.cell? ⟨vb, voff + j, none⟩ = some v) (h1c : ∀ v ∈ cs, v.oneCell' = true) (h1v : ∀ v ∈ vs, v.oneCell' = true) :
    Calls Try.prog 183 #[.slice (some ⟨b, off, none⟩) n c, .int .i64 i, .slice (some ⟨vb, voff, none⟩) m vc] w fun e w' => e = .returned (.slice (some ⟨w.heap.size, 0, none⟩) (n + m) (grownCap w (n + m) c 3)) ∧ w' = (((w.alloc (.cells ((cs.take i).toArray ++ Builtin.zeroCells (Value.int .i64 0).cells (n + m - i) ++ Builtin.zeroCells (Value.int .i64 0).cells (grownCap w (n + m) c 3 - (n + m))) 3)).drew.setCells w.heap.size i vs).drew).setCells w.heap.size (i + m) (cs.drop i) := Any2.slices_Insert_int_grow Try.laysNm221_slices_Insert_int_shiftslices_Insert_int_end_roomslices_Insert_int_end_growslices_Insert_int_grow b off n c i vb voff m vc cs vs w hi hm hnc hroom hbig hcl hvl hcs hvs h1c h1v

end Go.Proofs.Ytefbiejoikpkmaa

namespace Go.Proofs.Ytefbiejoikpkmaa
open Go.RowKit
set_option linter.unusedSectionVars false
variable [Glb]
open Go Go.RowKit
/-! lists of structs -/
section
variable {α : Type} {c : α → List D} {n : Nat}
theorem flatL_len (hc : ∀ a, (c a).length = n) : ∀ l : List α, (l.flatMap c).length = l.length * n
  | [] => by simp
  | a :: l => by rw [List.flatMap_cons, List.length_append, hc, flatL_len hc l, List.length_cons, Nat.add_mul]; omega
theorem flatL_split (hc : ∀ a, (c a).length = n) {l : List α} {j : Nat} (h : j < l.length) : l.flatMap c = (l.take j).flatMap c ++ (c l[j] ++ (l.drop (j + 1)).flatMap c) ∧ ((l.take j).flatMap c).length = j * n := by
  refine ⟨?_, by rw [flatL_len hc, List.length_take]; congr 1; omega⟩
  conv => lhs; rw [← List.take_append_drop j l, List.drop_eq_getElem_cons h]
  simp only [List.flatMap_append, List.flatMap_cons]
theorem flatL_cut (hc : ∀ a, (c a).length = n) {l : List α} {j : Nat} {e : α} (h : l[j]? = some e) : ((l.flatMap c).drop (j * n)).take n = c e := by
  obtain ⟨hlt, rfl⟩ := List.getElem?_eq_some_iff.1 h
  obtain ⟨h1, h2⟩ := flatL_split hc hlt
  rw [h1, ← h2, List.drop_left, ← hc l[j], List.take_left]
theorem flatL_at (hc : ∀ a, (c a).length = n) {l : List α} {j i : Nat} {e : α} (h : l[j]? = some e) (hi : i < n) : (l.flatMap c)[j * n + i]? = (c e)[i]? := by
  obtain ⟨hlt, rfl⟩ := List.getElem?_eq_some_iff.1 h
  obtain ⟨h1, h2⟩ := flatL_split hc hlt
  rw [h1, List.getElem?_append_right (by omega), h2, Nat.add_sub_cancel_left, List.getElem?_append_left (by rw [hc]; exact hi)]
theorem flatL_set (hc : ∀ a, (c a).length = n) {l : List α} {j i : Nat} {e e' : α} {d : D} (h : l[j]? = some e) (hi : i < n) (he : (c e).set i d = c e') : (l.flatMap c).set (j * n + i) d = (l.set j e').flatMap c := by
  obtain ⟨hlt, rfl⟩ := List.getElem?_eq_some_iff.1 h
  obtain ⟨h1, h2⟩ := flatL_split hc hlt
  have hlt' : j < (l.set j e').length := by simpa using hlt
  obtain ⟨g1, g2⟩ := flatL_split hc hlt'
  rw [h1, g1, List.set_append_right _ _ (by omega), h2, Nat.add_sub_cancel_left, List.set_append_left _ _ (by rw [hc]; exact hi), he]
  have e1 : (l.set j e').take j = l.take j := by rw [List.take_set, List.set_eq_of_length_le (by rw [List.length_take]; omega)]
  rw [e1]
  simp [List.drop_set]
/-- a list that is filled from the front -/
def fillS (c : α → List D) (z : List D) (l : List α) (k : Nat) : List D := (l.take k).flatMap c ++ repL' (l.length - k) z
theorem fillS_zero (z : List D) (l : List α) : fillS c z l 0 = repL' l.length z := by simp [fillS]
theorem fillS_all (z : List D) (l : List α) : fillS c z l l.length = l.flatMap c := by simp [fillS, repL']
theorem fillS_len (hc : ∀ a, (c a).length = n) {z : List D} (hz : z.length = n) (l : List α) {k : Nat} (hk : k ≤ l.length) : (fillS c z l k).length = l.length * n := by
  unfold fillS
  rw [List.length_append, flatL_len hc, repL'_len, hz, List.length_take, Nat.min_eq_left hk, ← Nat.add_mul]
  congr 1; omega
theorem fillS_set (hc : ∀ a, (c a).length = n) {z : List D} (hz : z.length = n) {l : List α} {k : Nat} {ys : List D} (hk : k < l.length) (hy : ys = c l[k]) : (fillS c z l k).take (k * n) ++ ys ++ (fillS c z l k).drop (k * n + n) = fillS c z l (k + 1) := by
  have h2 := (flatL_split hc hk).2
  unfold fillS
  rw [show l.length - k = (l.length - (k + 1)) + 1 by omega, repL'_succ, hy]
  have e1 : ((l.take k).flatMap c ++ (z ++ repL' (l.length - (k + 1)) z)).take (k * n) = (l.take k).flatMap c := by rw [← h2, List.take_left]
  have e2 : ((l.take k).flatMap c ++ (z ++ repL' (l.length - (k + 1)) z)).drop (k * n + n) = repL' (l.length - (k + 1)) z := by
    rw [← List.append_assoc, show k * n + n = ((l.take k).flatMap c ++ z).length by rw [List.length_append, h2, hz], List.drop_left]
  rw [e1, e2, List.take_succ_eq_append_getElem hk, List.flatMap_append]
  simp
end
/-! marks -/
def mkS {α : Type} (m : Int → α → α) (w : α → Nat) : Int → List α → List α
  | _, [] => []
  | k, r :: l => m k r :: mkS m w (k + w r) l
def cntS {α : Type} (w : α → Nat) : List α → Nat
  | [] => 0
  | r :: l => w r + cntS w l
def mkSL {α : Type} (m : Int → α → α) (w : α → Nat) (l : List α) (k : Int) (j : Nat) : List α := mkS m w k (l.take j) ++ l.drop j
section
variable {α : Type} {m : Int → α → α} {w : α → Nat}
@[simp] theorem mkS_len : ∀ (k : Int) (l : List α), (mkS m w k l).length = l.length
  | _, [] => rfl
  | k, r :: l => by simp [mkS, mkS_len]
theorem cntS_append : ∀ a b : List α, cntS w (a ++ b) = cntS w a + cntS w b
  | [], b => by simp [cntS]
  | l :: a, b => by simp [cntS, cntS_append a b]; omega
theorem cntS_take {l : List α} {i : Nat} (h : i < l.length) : cntS w (l.take (i + 1)) = cntS w (l.take i) + w l[i] := by
  rw [List.take_succ_eq_append_getElem h, cntS_append]; simp [cntS]
theorem cntS_take_le (l : List α) (i : Nat) : cntS w (l.take i) ≤ cntS w l := by
  conv => rhs; rw [← List.take_append_drop i l, cntS_append]
  omega
theorem mkS_append : ∀ (a b : List α) (k : Int), mkS m w k (a ++ b) = mkS m w k a ++ mkS m w (k + cntS w a) b
  | [], b, k => by simp [mkS, cntS]
  | l :: a, b, k => by simp [mkS, mkS_append a b, cntS]; congr 1; omega
theorem mkSL_zero (l : List α) (k : Int) : mkSL m w l k 0 = l := by simp [mkSL, mkS]
theorem mkSL_all (l : List α) (k : Int) : mkSL m w l k l.length = mkS m w k l := by simp [mkSL]
theorem mkSL_len (l : List α) (k : Int) {j : Nat} (h : j ≤ l.length) : (mkSL m w l k j).length = l.length := by simp [mkSL]; omega
theorem mkSL_get {l : List α} {k : Int} {j : Nat} (h : j < l.length) : (mkSL m w l k j)[j]? = some l[j] := by
  unfold mkSL
  rw [List.getElem?_append_right (by simp; omega), mkS_len, List.length_take, Nat.min_eq_left (by omega), Nat.sub_self, List.getElem?_drop]
  simp [h]
theorem mkSL_set {l : List α} {k : Int} {j : Nat} (h : j < l.length) : (mkSL m w l k j).set j (m (k + cntS w (l.take j)) l[j]) = mkSL m w l k (j + 1) := by
  unfold mkSL
  have hl : (mkS m w k (l.take j)).length = j := by simp; omega
  rw [List.set_append_right _ _ (by omega), hl, Nat.sub_self, List.drop_eq_getElem_cons h, List.set_cons_zero, List.take_succ_eq_append_getElem h, mkS_append]
  simp [mkS]
end
theorem cntS_mem {α : Type} {w : α → Nat} : ∀ {l : List α} {e : α}, e ∈ l → w e ≤ cntS w l
  | x :: l, e, h => by
    rcases List.mem_cons.1 h with rfl | h
    · simp [cntS]
    · have := cntS_mem (w := w) h; simp only [cntS]; omega
/-! calls, rules -/
abbrev CallE := Int × Int × Unit
def mC (k : Int) (_ : CallE) : CallE := (k, k + 1, ())
def wC (_ : CallE) : Nat := 2
theorem cntC : ∀ l : List CallE, cntS wC l = 2 * l.length
  | [] => rfl
  | e :: l => by simp [cntS, cntC l, wC]; omega
abbrev RuleE := List Int × List (List Int) × List (List Int) × Unit
def mU (k : Int) (e : RuleE) : RuleE := (mkI k e.1.length, mkII (k + e.1.length) e.2.1, mkII (k + e.1.length + cnt e.2.1) e.2.2.1, ())
def wU (e : RuleE) : Nat := e.1.length + cnt e.2.1 + cnt e.2.2.1
/-- the cells that a list of rules holds -/
def zU (e : RuleE) : Nat := e.1.length + e.2.1.length + cnt e.2.1 + e.2.2.1.length + cnt e.2.2.1
theorem wU_le : ∀ l : List RuleE, cntS wU l ≤ cntS zU l
  | [] => by simp [cntS]
  | e :: l => by have := wU_le l; simp only [cntS, wU, zU]; omega

end Go.Proofs.Ytefbiejoikpkmaa

namespace Go.Proofs.Ytefbiejoikpkmaa
open Go.RowKit
set_option linter.unusedSectionVars false
variable [Glb]
open Go
/-! mixtures of wirings -/
def wirR (la lb : List (List Int)) (r s : RuleE) : List (List Int) := wiredL la lb r.1 r.2.1 r.2.2.1 s.1 s.2.1 s.2.2.1
def wirOK (xa ya na : Int) (la : List (List Int)) (xb yb nb : Int) (lb : List (List Int)) (r s : RuleE) : Bool := wireOK xa ya na la xb yb nb lb r.1 r.2.1 r.2.2.1 s.1 s.2.1 s.2.2.1
def mwN (w : Int) : Nat → Int
  | 0 => 0
  | 1 => w
  | k + 2 => mwN w (k + 1) + w
def mwL (la lb : List (List Int)) (l1 l2 : List RuleE) : Nat → List (List Int)
  | 0 => []
  | 1 => wirR la lb (atZ l1 ((0 : Nat) : Int)) (atZ l2 ((0 : Nat) : Int))
  | k + 2 => bmixL (mwL la lb l1 l2 (k + 1)) (wirR la lb (atZ l1 ((k + 1 : Nat) : Int)) (atZ l2 ((k + 1 : Nat) : Int))) 2 2
def mwOK (xa ya na : Int) (la : List (List Int)) (xb yb nb : Int) (lb : List (List Int)) (l1 l2 : List RuleE) : Nat → Bool
  | 0 => true
  | k + 1 => mwOK xa ya na la xb yb nb lb l1 l2 k && (wirOK xa ya na la xb yb nb lb (atZ l1 (k : Int)) (atZ l2 (k : Int)) && decide (mwN (na * nb) (k + 1) ≤ 1000))
def mwB (xa ya na : Int) (la : List (List Int)) (xb yb nb : Int) (lb : List (List Int)) (l1 l2 : List RuleE) : Bool := (decide (0 < l1.length) && decide (l1.length = l2.length)) && mwOK xa ya na la xb yb nb lb l1 l2 l1.length
theorem mwN_one (w : Int) : mwN w 1 = w := rfl
section
variable {xa ya na : Int} {la : List (List Int)} {xb yb nb : Int} {lb : List (List Int)} {l1 l2 : List RuleE}
theorem mwOK_mono : ∀ {m k : Nat}, k ≤ m → mwOK xa ya na la xb yb nb lb l1 l2 m = true → mwOK xa ya na la xb yb nb lb l1 l2 k = true
  | 0, k, h, _ => by
    have : k = 0 := by omega
    subst this; rfl
  | m + 1, k, h, h2 => by
    by_cases hk : k = m + 1
    · subst hk; exact h2
    · simp only [mwOK, Bool.and_eq_true] at h2
      exact mwOK_mono (by omega) h2.1
theorem mwOK_no {m k : Nat} (h : k < m) (h2 : wirOK xa ya na la xb yb nb lb (atZ l1 (k : Int)) (atZ l2 (k : Int)) = false ∨ ¬ mwN (na * nb) (k + 1) ≤ 1000) : mwOK xa ya na la xb yb nb lb l1 l2 m = false := by
  cases hm : mwOK xa ya na la xb yb nb lb l1 l2 m with
  | false => rfl
  | true =>
    have := mwOK_mono (k := k + 1) (by omega) hm
    simp only [mwOK, Bool.and_eq_true, decide_eq_true_eq] at this
    rcases h2 with h2 | h2
    · rw [h2] at this; exact absurd this.2.1 (by simp)
    · exact absurd this.2.2 h2
theorem wirOK_spec {r s : RuleE} (h : wirOK xa ya na la xb yb nb lb r s = true) : xa = 2 ∧ ya = 2 ∧ xb = 2 ∧ yb = 2 ∧ boxB 2 2 na la = true ∧ boxB 2 2 nb lb = true ∧ (1 ≤ na * nb ∧ na * nb ≤ 1000) ∧ boxB 2 2 (na * nb) (wirR la lb r s) = true ∧ (ruleB r.1 r.2.1 r.2.2.1 = true ∧ ruleB s.1 s.2.1 s.2.2.1 = true) := by
  simp only [wirOK, wireOK, wiresB, Bool.and_eq_true, decide_eq_true_eq] at h
  obtain ⟨⟨v1, v2, hn⟩, v3, v4⟩ := h
  obtain ⟨rfl, rfl, ha, a1, a2⟩ := pairB_spec v1
  obtain ⟨rfl, rfl, hb, b1, b2⟩ := pairB_spec v2
  have hw := wire_box ha hb v3 v4
  rw [decide_eq_true hn] at hw
  have h1 := (boxB_spec hw).n1
  exact ⟨rfl, rfl, rfl, rfl, ha, hb, ⟨h1, hn⟩, hw, v3, v4⟩
theorem mw_box : ∀ {k : Nat}, mwOK xa ya na la xb yb nb lb l1 l2 (k + 1) = true → boxB 2 2 (mwN (na * nb) (k + 1)) (mwL la lb l1 l2 (k + 1)) = true
  | 0, h => by
    simp only [mwOK, Bool.and_eq_true] at h
    rw [mwN_one]
    exact (wirOK_spec h.2.1).2.2.2.2.2.2.2.1
  | k + 1, h => by
    rw [mwOK] at h
    simp only [Bool.and_eq_true, decide_eq_true_eq] at h
    have ih := mw_box h.1
    have w := (wirOK_spec h.2.1).2.2.2.2.2.2.2.1
    have m := mix_box (x := 2) (y := 2) ih w
    rw [show mwN (na * nb) (k + 1) + na * nb = mwN (na * nb) (k + 1 + 1) from rfl, decide_eq_true h.2.2] at m
    exact m
theorem mw_bd {k : Nat} (h : mwOK xa ya na la xb yb nb lb l1 l2 k = true) : 0 ≤ mwN (na * nb) k ∧ mwN (na * nb) k ≤ 1000 := by
  cases k with
  | zero => simp [mwN]
  | succ k => have b := boxB_spec (mw_box h); have := b.n1; have := b.n2; omega
theorem mw_cnt {k : Nat} : cnt (mwL la lb l1 l2 k) ≤ 16 := by
  match k with
  | 0 => simp [mwL, cnt]
  | 1 => 
    have : cnt (wirR la lb (atZ l1 ((0 : Nat) : Int)) (atZ l2 ((0 : Nat) : Int))) = 16 := by unfold wirR wiredL; rw [cnt_boxF]
    exact Nat.le_of_eq this
  | k + 2 =>
    have : cnt (mwL la lb l1 l2 (k + 2)) = 16 := by unfold mwL bmixL; rw [cnt_boxF]; rfl
    exact Nat.le_of_eq this
end
def q2 : Nat → Int
  | 0 => 0
  | _ + 1 => 2
theorem bmix_ok {n m : Int} {la lb : List (List Int)} (ha : boxB 2 2 n la = true) (hb : boxB 2 2 m lb = true) : bmixB 2 2 n la 2 2 m lb = decide (n + m ≤ 1000) := by
  simp [bmixB, sameB, ha, hb]
theorem mwOK_step {xa ya na : Int} {la : List (List Int)} {xb yb nb : Int} {lb : List (List Int)} {l1 l2 : List RuleE} {k : Nat} (h : mwOK xa ya na la xb yb nb lb l1 l2 k = true) (h2 : wirOK xa ya na la xb yb nb lb (atZ l1 (k : Int)) (atZ l2 (k : Int)) = true) (h3 : mwN (na * nb) (k + 1) ≤ 1000) : mwOK xa ya na la xb yb nb lb l1 l2 (k + 1) = true := by
  simp [mwOK, h, h2, h3]

end Go.Proofs.Ytefbiejoikpkmaa

namespace Go.Proofs.Ytefbiejoikpkmaa
open Go.RowKit
set_option linter.unusedSectionVars false
variable [Glb]
set_option maxRecDepth 10000
set_option maxHeartbeats 4000000
theorem insN_get {l : List Int} {i : Nat} {x : Int} (hi : i ≤ l.length) {k : Nat} (hk : k < (insN l i x).length) : (insN l i x)[k]? = if k < i then l[k]? else if k = i then some x else l[k - 1]? := by
  unfold insN
  by_cases h1 : k < i
  · rw [if_pos h1, List.getElem?_append_left (by simp; omega), List.getElem?_take, if_pos h1]
  · rw [if_neg h1, List.getElem?_append_right (by simp; omega)]
    by_cases h2 : k = i
    · subst h2; simp [Nat.min_eq_left hi]
    · rw [if_neg h2, show k - (l.take i).length = (k - i - 1) + 1 by simp; omega, List.getElem?_cons_succ, List.getElem?_drop]
      congr 1; omega
theorem insert_t (l : List Int) (i : Nat) (x : Int) (hi : i ≤ l.length) (hl : l.length ≤ 1000) : PT Try.prog 183 [.c (eI l), .c (dI i), .c (eI [x])] (.p (.c (eI (insN l i x)))) := by
  refine ⟨Go.Proofs.enters_of Try.func183 (by kernel_rfl) rfl, fun w us Fs ho hnd ok gl => ?_⟩
  have ho' : OwC w us [eI l, dI i, eI [x]] Fs := ho
  have hML : (insN l i x).length = l.length + 1 := insN_len l x hi
  cases ho' with
  | cons h1 t =>
  cases t with
  | cons h2 t =>
  cases t with
  | cons h3 t =>
  cases t
  rename_i v1 F1 v2 F2 v3 F3
  cases h2
  have hv : asmL [RP.c (eI l), RP.c (dI i), RP.c (eI [x])] [v1, .int .i64 i, v3] = [v1, .int .i64 i, v3] := rfl
  rw [hv]
  obtain ⟨q, hq⟩ : ∃ q, q = eI [x] := ⟨_, rfl⟩
  rw [← hq] at h3
  cases h3 with
  | lit v h => cases hq
  | any v h => cases hq
  | nil sz hz => simp [eI] at hq
  | sl vb n3 vc sz3 E3 cs3 ds3 us3 Fs3 hn3 hz3 hle3 hg3 hnc3 hcap3 hc3 hr3 =>
    simp only [eI, D.sl.injEq] at hq
    obtain ⟨rfl, rfl, rfl⟩ := hq
    simp only [List.length_map, List.length_cons, List.length_nil, Nat.zero_add, Nat.one_mul, Nat.mul_one] at hn3 hnc3 hcap3 hc3 hr3
    have c3 : cs3[0]? = some (.int .i64 x) := by
      have a := hc3 0 (by decide)
      have b := hr3 0 (by decide)
      rw [List.getElem_map] at b
      simp only [List.getElem_cons_zero] at b
      have : us3 0 = .int .i64 x := by
        generalize us3 0 = u at b
        generalize Fs3 0 = F at b
        cases b; rfl
      rw [a, this]
    have hvs : ∀ j v, [Value.int .i64 x][j]? = some v → w.cell? ⟨vb, 0 + j, none⟩ = some v := fun j v hj => by
      have h0 : j = 0 := by have := (List.getElem?_eq_some_iff.1 hj).1; simp at this; exact this
      subst h0
      rw [cell_of_row w vb _ cs3 E3 (0, 0) hg3, c3]
      simpa using hj
    have h1v : ∀ v ∈ [Value.int .i64 x], v.oneCell' = true := fun v hv => by simp at hv; subst hv; rfl
    obtain ⟨y, hy⟩ : ∃ y, y = eI l := ⟨_, rfl⟩
    rw [← hy] at h1
    -- a new row
    have fresh : ∀ {W' : World} {cap : Nat} {E : TypeId} {cs : Array Value}, W'.heap[w.heap.size]? = some (.cells cs E (0, 0)) → l.length + 1 ≤ cap → cap ≤ maxLen → cap ≤ cs.size → (∀ k, (hk : k < (insN l i x).length) → cs[k]? = some (.int .i64 (insN l i x)[k])) →
        W'.os = w.os → W'.tape = w.tape → W'.output = w.output → w.heap.size ≤ W'.heap.size → (∀ k, k < w.heap.size → W'.heap[k]? = w.heap[k]?) →
        ∃ v F, Ending.returned (.slice (some ⟨w.heap.size, 0, none⟩) (l.length + 1) cap) = .returned v ∧ OwR W' v (.p (.c (eI (insN l i x)))) F ∧ F.Nodup ∧ (∀ g ∈ F, g ∈ ([F1, [], vb :: parts (cI [x]).length Fs3] : List (List Nat)).flatten ∨ w.heap.size ≤ g) ∧ Kp ⟨w, fun g => g ∈ ([F1, [], vb :: parts (cI [x]).length Fs3] : List (List Nat)).flatten, fun _ => none, fun _ _ => rfl, ok, gl⟩ w W' := by
      intro W' cap E cs hg hcap1 hmx hcap2 hc e1 e2 e3 e4 e5
      refine ⟨_, [w.heap.size], rfl, .p (.c ?_), by simp, fun g hg => by simp at hg; exact .inr (by omega), ⟨e1, e2, e3, e4, fun k cs E hk => ⟨cs, by rw [e5 k (Array.getElem?_eq_some_iff.1 hk).1]; exact hk, rfl⟩, fun k hk => ?_⟩⟩
      · have := ow_ints (M := insN l i x) (cap := cap) hg (by unfold maxLen at hmx; omega) (by omega) (by omega) hcap2 hc
        rw [hML] at this
        rw [eI, hML]
        exact this
      · by_cases hlt : k < w.heap.size
        · exact e5 k hlt
        · exact absurd (.inl (Nat.le_of_not_lt hlt)) hk
    cases h1 with
    | lit v h => cases hy
    | any v h => cases hy
    | nil sz hz =>
      simp only [eI, D.sl.injEq] at hy
      have hl0 : l = [] := List.length_eq_zero_iff.1 hy.2.1.symm
      subst hl0
      have hi0 : i = 0 := by simpa using hi
      subst hi0
      refine Calls.mono (Try.slices_Insert_int_end_grow none 0 0 vb 0 1 vc [] [.int .i64 x] w (by decide) (by decide) (by decide) (by decide) rfl rfl (fun _ => rfl) (fun a ha => by cases ha) hvs h1v) ?_
      rintro e w' ⟨rfl, rfl⟩
      have gc := grownCap_ge w (0 + 1) 0 3
      have gm := grownCap_le_maxLen w (0 + 1) 0 3 (by decide)
      generalize grownCap w (0 + 1) 0 3 = G at *
      refine fresh (alloc_new w.drew _) gc gm (by simp [Builtin.zeroCells, Value.cells]; omega) (fun k hk => ?_) rfl rfl rfl (alloc_le w.drew _) (fun k hk => ?_)
      · have : k = 0 := by simp [insN] at hk; omega
        subst this
        rw [Array.getElem?_append_left (by simp)]
        simp [insN]
      · exact alloc_old w.drew _ hk
    | sl g n cap sz E cs ds us Fs hn hz hle hg hnc hcap hc hr =>
      simp only [eI, D.sl.injEq] at hy
      obtain ⟨rfl, rfl, rfl⟩ := hy
      simp only [List.length_map, Nat.mul_one] at hn hcap hc hr
      have hcell : ∀ j (hj : j < l.length), cs[j]? = some (.int .i64 l[j]) := fun j hj => by
        have h1 := hc j (by simpa using hj)
        have h2 := hr j (by simpa using hj)
        rw [List.getElem_map] at h2
        have : us j = .int .i64 l[j] := by
          generalize us j = u at h2
          generalize Fs j = F at h2
          cases h2; rfl
        rw [h1, this]
      have hvg : vb ≠ g := fun e => by
        subst e
        simp [List.nodup_cons] at hnd
      have hxc : ∀ j, j < cap → (w.cell? ⟨g, 0 + j, none⟩).isSome = true := fun j hj => by
        rw [cell_of_row w g _ cs E (0, 0) hg, Array.getElem?_eq_getElem (by omega)]; rfl
      have hfz : ∀ j, w.frozen? ⟨g, 0 + j, none⟩ = false := fun j => by simp [World.frozen?, hg]
      obtain ⟨C, hC⟩ : ∃ C : List Value, C = l.map (Value.int .i64) := ⟨_, rfl⟩
      have hCl : C.length = l.length := by rw [hC, List.length_map]
      have hCg : ∀ j (hj : j < l.length), C[j]? = some (.int .i64 l[j]) := fun j hj => by rw [hC]; simp [hj]
      have hcs : ∀ j v, C[j]? = some v → w.cell? ⟨g, 0 + j, none⟩ = some v := fun j v hj => by
        have hj' : j < l.length := by have := (List.getElem?_eq_some_iff.1 hj).1; omega
        rw [cell_of_row w g _ cs E (0, 0) hg, Nat.zero_add, hcell j hj', ← hCg j hj', hj]
      have h1c : ∀ v ∈ C, v.oneCell' = true := fun v hv => by rw [hC] at hv; obtain ⟨k, _, rfl⟩ := List.mem_map.1 hv; rfl
      -- the old row
      have inpl : ∀ {W' : World} {cs' : Array Value}, W'.heap[g]? = some (.cells cs' E (0, 0)) → cs'.size = cs.size → l.length + 1 ≤ cap → (∀ k, (hk : k < (insN l i x).length) → cs'[k]? = some (.int .i64 (insN l i x)[k])) →
          W'.os = w.os → W'.tape = w.tape → W'.output = w.output → W'.heap.size = w.heap.size → (∀ k, k ≠ g → W'.heap[k]? = w.heap[k]?) →
          ∃ v F, Ending.returned (.slice (some ⟨g, 0, none⟩) (l.length + 1) cap) = .returned v ∧ OwR W' v (.p (.c (eI (insN l i x)))) F ∧ F.Nodup ∧ (∀ k ∈ F, k ∈ ([g :: parts (cI l).length Fs, [], vb :: parts (cI [x]).length Fs3] : List (List Nat)).flatten ∨ w.heap.size ≤ k) ∧ Kp ⟨w, fun k => k ∈ ([g :: parts (cI l).length Fs, [], vb :: parts (cI [x]).length Fs3] : List (List Nat)).flatten, fun _ => none, fun _ _ => rfl, ok, gl⟩ w W' := by
        intro W' cs' h1 h2 h3 h4 e1 e2 e3 e4 e5
        refine ⟨_, [g], rfl, .p (.c ?_), by simp, fun k hk => by simp at hk; subst hk; exact .inl (by simp), ⟨e1, e2, e3, by omega, fun k c E' hk => ?_, fun k hk => ?_⟩⟩
        · have := ow_ints (M := insN l i x) (cap := cap) h1 hle (by omega) (by omega) (by omega) h4
          rw [hML] at this
          rw [eI, hML]
          exact this
        · by_cases hkg : k = g
          · subst hkg
            rw [hg] at hk; cases hk
            exact ⟨cs', h1, h2⟩
          · exact ⟨c, by rw [e5 k hkg]; exact hk, rfl⟩
        · by_cases hkg : k = g
          · subst hkg; exact absurd (.inr (by simp)) hk
          · exact e5 k hkg
      have hins : ∀ k, (hk : k < (insN l i x).length) → ∀ {o : Option Value}, (if k < i then C[k]? else if k = i then some (.int .i64 x) else C[k - 1]?) = o → o = some (.int .i64 (insN l i x)[k]) := fun k hk o ho => by
        have := insN_get (x := x) hi hk
        rw [List.getElem?_eq_getElem hk] at this
        rw [← ho]
        by_cases h1 : k < i
        · rw [if_pos h1] at this ⊢
          rw [hC, List.getElem?_map, ← this]; rfl
        · rw [if_neg h1] at this ⊢
          by_cases h2 : k = i
          · rw [if_pos h2] at this ⊢
            rw [Option.some.inj this]
          · rw [if_neg h2] at this ⊢
            rw [hC, List.getElem?_map, ← this]; rfl
      by_cases hin : i = l.length
      · by_cases hroom : l.length + 1 ≤ cap
        · subst hin
          refine Calls.mono (Try.slices_Insert_int_end_room g 0 l.length cap vb 0 1 vc [.int .i64 x] w (by decide) hroom hle rfl (fun j hj => by rw [Nat.add_assoc]; exact hxc _ (by omega)) (fun j hj => by rw [Nat.add_assoc]; exact hfz _) hvs h1v) ?_
          rintro e w' ⟨rfl, rfl⟩
          obtain ⟨cs', r1, r2, r3⟩ := setCells_row [Value.int .i64 x] (0 + l.length) w cs hg
          obtain ⟨q1, q2, q3, q4, q5⟩ := setCells_rest g [Value.int .i64 x] (0 + l.length) w
          refine inpl r1 r2 hroom (fun k hk => hins k hk ?_) q1 q2 q3 q4 q5
          rw [r3 k (by omega)]
          by_cases h1 : k < l.length
          · rw [if_pos h1, if_neg (by omega), hcell k h1, hCg k h1]
          · have h2 : k = l.length := by omega
            rw [if_neg h1, if_pos h2, if_pos (by simp; omega), h2]; simp
        · subst hin
          refine Calls.mono (Try.slices_Insert_int_end_grow (some ⟨g, 0, none⟩) l.length cap vb 0 1 vc C [.int .i64 x] w (by decide) hnc (by omega) (by omega) hCl rfl (fun h => by cases h) (fun a ha => by cases ha; intro j v hj; rw [adr_mk]; exact hcs j v hj) hvs h1v) ?_
          rintro e w' ⟨rfl, rfl⟩
          have gc := grownCap_ge w (l.length + 1) cap 3
          have gm := grownCap_le_maxLen w (l.length + 1) cap 3 (by unfold maxLen; omega)
          generalize grownCap w (l.length + 1) cap 3 = G at *
          refine fresh (alloc_new w.drew _) gc gm (by simp [Builtin.zeroCells, Value.cells, hCl]; omega) (fun k hk => hins k hk ?_) rfl rfl rfl (alloc_le w.drew _) (fun k hk => ?_)
          · by_cases h1 : k < l.length
            · rw [if_pos h1, Array.getElem?_append_left (by simp [hCl]; omega)]
              simp only [List.getElem?_toArray]
              rw [List.getElem?_append_left (by omega)]
            · have h2 : k = l.length := by omega
              rw [if_neg h1, if_pos h2, Array.getElem?_append_left (by simp [hCl]; omega)]
              simp only [List.getElem?_toArray]
              rw [List.getElem?_append_right (by omega), h2, hCl]; simp
          · exact alloc_old w.drew _ hk
      · have hilt : i < l.length := by omega
        by_cases hroom : l.length + 1 ≤ cap
        · refine Calls.mono (Try.slices_Insert_int_shift g 0 l.length cap i vb 0 1 vc C [.int .i64 x] w hilt (by decide) hroom hle hvg hCl rfl hcs (fun j hj => hxc j (by omega)) (fun j hj => hfz j) hvs h1c h1v E3 E cs3.size cs.size (by simp [World.shape?, hg3]) (by simp [World.shape?, hg]) (by omega) (by simp [World.frozen?, hg3]) (by simp [World.frozen?, hg3])) ?_
          rintro e w' ⟨rfl, rfl⟩
          obtain ⟨c1, r1, r2, r3⟩ := setCells_row (C.drop i) (0 + (i + 1)) w.drew cs hg
          obtain ⟨q1, q2, q3, q4, q5⟩ := setCells_rest g (C.drop i) (0 + (i + 1)) w.drew
          obtain ⟨c2, s1, s2, s3⟩ := setCells_row [Value.int .i64 x] (0 + i) _ c1 r1
          obtain ⟨p1, p2, p3, p4, p5⟩ := setCells_rest g [Value.int .i64 x] (0 + i) (w.drew.setCells g (0 + (i + 1)) (C.drop i))
          refine inpl s1 (by omega) hroom (fun k hk => hins k hk ?_) (p1.trans q1) (p2.trans q2) (p3.trans q3) (p4.trans q4) fun k hk => (p5 k hk).trans (q5 k hk)
          have hdl : (C.drop i).length = l.length - i := by rw [List.length_drop, hCl]
          rw [s3 k (by omega)]
          by_cases h1 : k < i
          · rw [if_pos h1, if_neg (by omega), r3 k (by omega), if_neg (by omega), hcell k (by omega), hCg k (by omega)]
          · rw [if_neg h1]
            by_cases h2 : k = i
            · rw [if_pos h2, if_pos (by simp; omega), h2]; simp
            · rw [if_neg h2, if_neg (by simp; omega), r3 k (by omega), if_pos (by omega), List.getElem?_drop]
              congr 1; omega
        · refine Calls.mono (Try.slices_Insert_int_grow g 0 l.length cap i vb 0 1 vc C [.int .i64 x] w hilt (by decide) hnc (by omega) (by omega) hCl rfl hcs hvs h1c h1v) ?_
          rintro e w' ⟨rfl, rfl⟩
          have gc := grownCap_ge w (l.length + 1) cap 3
          have gm := grownCap_le_maxLen w (l.length + 1) cap 3 (by unfold maxLen; omega)
          generalize grownCap w (l.length + 1) cap 3 = G at *
          obtain ⟨R, hR⟩ : ∃ R : Array Value, R = (C.take i).toArray ++ Builtin.zeroCells (Value.int .i64 0).cells (l.length + 1 - i) ++ Builtin.zeroCells (Value.int .i64 0).cells (G - (l.length + 1)) := ⟨_, rfl⟩
          rw [← hR]
          have hRs : R.size = G := by rw [hR]; simp [Builtin.zeroCells, Value.cells, hCl]; omega
          have hRi : ∀ k, k < i → R[k]? = C[k]? := fun k hk => by
            rw [hR, Array.getElem?_append_left (by simp [hCl]; omega), Array.getElem?_append_left (by simp [hCl]; omega)]
            simp only [List.getElem?_toArray]
            rw [List.getElem?_take, if_pos hk]
          have h0 : (w.alloc (.cells R 3)).drew.heap[w.heap.size]? = some (.cells R 3 (0, 0)) := alloc_new w _
          obtain ⟨c1, r1, r2, r3⟩ := setCells_row [Value.int .i64 x] i _ R h0
          obtain ⟨q1, q2, q3, q4, q5⟩ := setCells_rest w.heap.size [Value.int .i64 x] i (w.alloc (.cells R 3)).drew
          obtain ⟨c2, s1, s2, s3⟩ := setCells_row (C.drop i) (i + 1) (((w.alloc (.cells R 3)).drew.setCells w.heap.size i [Value.int .i64 x]).drew) c1 r1
          obtain ⟨p1, p2, p3, p4, p5⟩ := setCells_rest w.heap.size (C.drop i) (i + 1) (((w.alloc (.cells R 3)).drew.setCells w.heap.size i [Value.int .i64 x]).drew)
          have hdl : (C.drop i).length = l.length - i := by rw [List.length_drop, hCl]
          refine fresh s1 gc gm (by omega) (fun k hk => hins k hk ?_) (p1.trans q1) (p2.trans q2) (p3.trans q3) ?_ fun k hk => ?_
          · rw [s3 k (by omega)]
            by_cases h1 : k < i
            · rw [if_pos h1, if_neg (by omega), r3 k (by omega), if_neg (by omega), hRi k h1]
            · rw [if_neg h1]
              by_cases h2 : k = i
              · rw [if_pos h2, if_neg (by omega), r3 k (by omega), if_pos (by simp; omega), h2]; simp
              · rw [if_neg h2, if_pos (by omega), List.getElem?_drop]
                congr 1; omega
          · refine Nat.le_trans ?_ (Nat.le_of_eq (p4.trans q4).symm)
            exact alloc_le w _
          · refine (p5 k (Nat.ne_of_lt hk)).trans ((q5 k (Nat.ne_of_lt hk)).trans ?_)
            exact alloc_old w _ hk

end Go.Proofs.Ytefbiejoikpkmaa

namespace Go.Proofs.Ytefbiejoikpkmaa
open Go.RowKit
set_option linter.unusedSectionVars false
variable [Glb]
open Go Go.RowKit
/-! an empty slice that may be nil or not, compared with nil -/
section
variable {P : Program} {st : St} {ty : TypeId} {pos : String} {af : Array Edge} {T T' : TypeId} {x y : Operand} {ops : Array Oper} {mu : Nat → Bool} {r : OT} {K : St → Prop} {i : Nat}
theorem so_nilU {d sz n : Nat} {ds : List D} (hx : st.ev x = .c (.d (.sl sz n ds))) (hy : st.ev y = .c (.d (.lit (.slice none 0 0)))) (ht : tIsSl P T = true) (hd : Nat.blt d st.n = true)
    (h : ∀ b, SO P ops mu r (st.put d (.c (.d (.lit (.bool b))))) K) : SO P ops mu (.cons (some ⟨some d, .binOp .eql T x y T', ty, pos, af, none⟩, i, false) r) st K := by
  obtain ⟨E, hT⟩ := tIsSl_spec ht
  refine ⟨fun w0 a w hs => ?_⟩
  obtain ⟨ρ, Φ, hm⟩ := hs
  have hv := hm.ev x
  rw [hx] at hv
  obtain ⟨F, h', hF⟩ := hv.d_inv
  have hy' : a.eval y = .slice none 0 0 := FR.lit_inv (by rw [← hy]; exact hm.ev y)
  obtain ⟨ao, c, hx'⟩ : ∃ ao c, a.eval x = .slice ao n c := by
    generalize a.eval x = v at *
    cases h' with
    | sl ao _ cap => exact ⟨ao, cap, rfl⟩
  have h1 := (h ao.isNone).run w0 _ w ⟨ρ, Φ, hm.put (.litI (v := .bool ao.isNone) rfl) d (by simpa using hd)⟩
  unfold wpT
  rw [if_pos (show Region.wanted _ _ = true from rfl)]
  refine .inl ?_
  unfold Oper.wp
  have := (nil_cmp (x := x) (y := y) hT ao n c w).1
  simp only [Sem.run_bind] at this
  simp only [execOp, hx', hy', Sem.run_bind]
  generalize Sem.run P (eqGuard .eql T x y (.slice ao n c) (.slice none 0 0)) w = z at *
  cases z with
  | ok _ w1 =>
    simp only [Result.andThen_ok] at this ⊢
    simp only [this, Result.andThen_ok]
    exact ⟨fun _ => CellS.refl w, h1⟩
  | halt _ _ => simp [Result.andThen] at this
end

end Go.Proofs.Ytefbiejoikpkmaa

namespace Go.Proofs.Ytefbiejoikpkmaa
open Go.RowKit
set_option linter.unusedSectionVars false
variable [Glb]
set_option maxRecDepth 10000
set_option maxHeartbeats 4000000
theorem clone_p (l : List Int) (hl : l.length ≤ 1000000) : PC Try.prog 184 [.c (eI l)] (.p (.c (eI l))) := by
  by_cases h0 : l = []
  · subst h0
    refine pc_intro Try.func184 rfl rfl rfl (by kernel_rfl) rfl rfl ?_; intro _
    repeat' (first | (refine so_is (.assign _) ?_; (refine so_q (qt_asC rfl) rfl ?_)) | (refine so_is (.move _) ?_; (refine so_q (qt_mvC rfl) rfl ?_)) | (refine so_is (.binOp .eql 24 _ _ _) ?_; ((refine so_nilU rfl rfl (by kernel_rfl) rfl fun b => ?_))) | (refine so_is (.buildSlice 24 0 _) ?_; (apply so_bslice (sz := 1) (by_ := 8); (· kernel_rfl); (· decide); (· (repeat (exact GvS.nil _))); (· (decide)); (· rfl); (· rfl); (· rfl))) | (refine so_is (.call ⟨.builtin .append, _, #[24, 24]⟩) ?_; ((apply so_appR (sz := 1) (by_ := 8); (· rfl); (· rfl); (· ((simp; done))); (· exact .see _ _ _ (by (exact Lits.nil))); (· (decide)); (· kernel_rfl); (· decide); (· (omega)); (· (omega)); (· rfl); (· rfl); (· rfl)))) | refine so_nil ?_ | refine sk_seq ?_ | refine sk_skip ?_ | refine sk_region ?_ | refine sk_cond rfl (fun hc => ?_) (fun hc => ?_))
    all_goals (apply sk_ret; apply ret_eq; (· apply RetOK.p; (· (apply GvA.cons; (· exact .tmp _); (· (first | exact GvP.c (.nil 1 (by decide)) | exact GvP.c (.row _ _ _ _ rfl (by ((simp; done))))))); exact GvA.nil); (· (decide))))
    all_goals simp
  · have : 0 < l.length := List.length_pos_iff.2 h0
    refine pc_intro Try.func184 rfl rfl rfl (by kernel_rfl) rfl rfl ?_; intro _
    repeat' (first | (refine so_is (.assign _) ?_; (refine so_q (qt_asC rfl) rfl ?_)) | (refine so_is (.move _) ?_; (refine so_q (qt_mvC rfl) rfl ?_)) | (refine so_is (.binOp .eql 24 _ _ _) ?_; (refine so_q (qt_eql_nilD rfl rfl (by kernel_rfl) (by (omega))) rfl ?_)) | (refine so_is (.buildSlice 24 0 _) ?_; (apply so_bslice (sz := 1) (by_ := 8); (· kernel_rfl); (· decide); (· (repeat (exact GvS.nil _))); (· (decide)); (· rfl); (· rfl); (· rfl))) | (refine so_is (.call ⟨.builtin .append, _, #[24, 24]⟩) ?_; ((apply so_appR (sz := 1) (by_ := 8); (· rfl); (· rfl); (· ((simp; done))); (· exact .see _ _ _ (by (exact Lits.map))); (· (decide)); (· kernel_rfl); (· decide); (· (omega)); (· (omega)); (· rfl); (· rfl); (· rfl)))) | refine so_nil ?_ | refine sk_seq ?_ | refine sk_skip ?_ | refine sk_region ?_ | refine sk_false rfl ?_)
    all_goals (apply sk_ret; apply ret_eq; (· apply RetOK.p; (· (apply GvA.cons; (· exact .tmp _); (· (exact GvP.c (.row _ _ _ _ rfl (by ((simp; done))))))); exact GvA.nil); (· (decide))))
    all_goals simp

end Go.Proofs.Ytefbiejoikpkmaa

namespace Go.Proofs.Ytefbiejoikpkmaa
open Go.RowKit
set_option linter.unusedSectionVars false
variable [Glb]
set_option maxRecDepth 10000
set_option maxHeartbeats 4000000
theorem orders_p (n : Nat) (h : n ≤ 3) : PC Try.prog 91 [.c (dI n)] (.p (.c (eII (ordI n)))) := by
  refine pc_intro Try.func91 rfl rfl rfl (by kernel_rfl) rfl rfl ?_; intro _
  repeat' (first | (refine so_is (.assign _) ?_; (refine so_q (qt_asC rfl) rfl ?_)) | (refine so_is (.buildSlice 24 0 _) ?_; (apply so_bslice (sz := 1) (by_ := 8); (· kernel_rfl); (· decide); (· (repeat (exact GvS.nil _))); (· (decide)); (· rfl); (· rfl); (· rfl))) | (refine so_is (.buildSlice 25 1 _) ?_; (apply so_bslice (sz := 1) (by_ := 24); (· kernel_rfl); (· decide); (· (repeat (first | exact GvS.nil _ | apply GvS.c rfl rfl (.row _ _ _ _ rfl (by ((simp; done)))) rfl))); (· (decide)); (· rfl); (· rfl); (· rfl))) | (refine so_is (.move _) ?_; (refine so_q (qt_mvC rfl) rfl ?_)) | refine so_nil ?_ | refine sk_seq ?_ | refine sk_block ?_ | refine sk_region ?_)
  apply sk_packC [3, 11, 12] [9, 10, 15, 29, 32, 33, 34, 35] rfl; (· (repeat (first | exact Pf.nil | apply Pf.cons (.c rfl (.d rfl)) | apply Pf.cons (.c rfl (.ls rfl))))); (· (repeat (first | exact Pb.nil | apply Pb.cons (.row rfl) | apply Pb.skip)))
  refine sk_loopL [11] [9, 15, 29, 32, 33, 34, 35] (fun k => [(12, iN k), (3, .c (.ls 10 1 0 (ordI k).length))]) (fun k => [(10, .row 1 (cII (ordI k)))]) (fun k => k ≤ n) (fun k => n - k) (0) ?_ (by (repeat (first | exact trivial | refine ⟨(by (rfl)), ?_⟩))) (by (repeat (first | exact trivial | refine ⟨(by ((refine row_eq rfl ?_; simp  [ordI]; done))), ?_⟩))) ?_
  · omega
  intro k hk
  by_cases hk2 : k < n
  · have OL := ord_len (n := k) (by omega)
    have OE := fun j => ord_each (n := k) (by omega) (i := j)
    have ON : ordP k (ordI k) (ordI k).length 0 = ordI (k + 1) := ordP_all k
    have ONl := ordP_len k (ordI k) 0 (Nat.le_refl _)
    have O3 := ord_len (n := k + 1) (by omega)
    generalize ordI k = L at *
    refine sk_ghost (sim_dem 10 1 rfl) ?_
    refine sk_ghost (dem_slot 3 10 rfl (by simp)) ?_
    repeat' (first | (refine so_is (.assign _) ?_; (refine so_q (qt_asC rfl) rfl ?_)) | (refine so_is (.move _) ?_; (refine so_q (qt_mvC rfl) rfl ?_)) | (refine so_is (.binOp .lss 3 _ _ _) ?_; refine so_q (qt_lss rfl rfl) rfl ?_) | (refine so_is (.buildSlice 25 0 _) ?_; (apply so_bslice (sz := 1) (by_ := 24); (· kernel_rfl); (· decide); (· (repeat (exact GvS.nil _))); (· (decide)); (· rfl); (· rfl); (· rfl))) | (refine so_is (.call ⟨.builtin .len, _, #[25]⟩) ?_; (refine so_q (qt_len_d rfl (by kernel_rfl)) rfl ?_)) | refine so_nil ?_ | refine sk_seq ?_ | refine sk_block ?_ | refine sk_exit rfl ?_ | refine sk_skip ?_ | refine sk_region ?_ | refine sk_if rfl (fun hc => ?_) (fun hc => ?_))
    all_goals first | (exfalso; omega) | skip
    apply sk_packC [4, 5, 11, 12, 16, 17, 18] [9, 10, 15, 29, 32, 33, 34, 35] rfl; (· (repeat (first | exact Pf.nil | apply Pf.cons (.c rfl (.d rfl)) | apply Pf.cons (.c rfl (.ls rfl))))); (· (repeat (first | exact Pb.nil | apply Pb.cons (.row rfl) | apply Pb.skip)))
    refine sk_loopL [4, 11, 12, 16, 17] [9, 10, 29, 32, 33, 34, 35] (fun j => [(18, iN j), (5, .c (.ls 15 1 0 ((k + 1) * j)))]) (fun j => [(15, .row 1 (cII (ordP k L j 0)))]) (fun j => j ≤ L.length) (fun j => L.length - j) (0) ?_ (by (repeat (first | exact trivial | refine ⟨(by (rfl)), ?_⟩))) (by (repeat (first | exact trivial | refine ⟨(by ((refine row_eq rfl ?_; simp  [ordP_zero]; done))), ?_⟩))) ?_
    · omega
    intro j hj
    by_cases hj2 : j < L.length
    · have OE := OE j hj2
      have e9 : (k + 1) * j ≤ 4 * 6 := Nat.mul_le_mul (by omega) (by omega)
      repeat' (first | (refine so_is (.assign _) ?_; (refine so_q (qt_asC rfl) rfl ?_)) | (refine so_is (.move _) ?_; (refine so_q (qt_mvC rfl) rfl ?_)) | (refine so_is (.binOp .lss 3 _ _ _) ?_; refine so_q (qt_lss rfl rfl) rfl ?_) | (refine so_is (.indexAddr 25 _ _) ?_; (refine so_q (qt_idxII rfl rfl (by kernel_rfl) (by (omega)) (by (omega))) rfl ?_)) | (refine so_is (.load 24 _) ?_; (refine so_q (qt_load_pt rfl (by kernel_rfl) rfl) rfl ?_)) | (refine so_is (.binOp .add 3 _ _ _) ?_; refine so_q (qt_addI rfl rfl (by (omega))) rfl ?_) | refine so_nil ?_ | refine sk_seq ?_ | refine sk_block ?_ | refine sk_blk ?_ | refine sk_exit rfl ?_ | refine sk_skip ?_ | refine sk_region ?_ | refine sk_if rfl (fun hc => ?_) (fun hc => ?_))
      all_goals first | (exfalso; omega) | skip
      apply sk_packC [4, 5, 7, 11, 12, 16, 17, 18, 23, 24] [9, 10, 15, 29, 32, 33, 34, 35] rfl; (· (repeat (first | exact Pf.nil | apply Pf.cons (.c rfl (.d rfl)) | apply Pf.cons (.c rfl (.ls rfl))))); (· (repeat (first | exact Pb.nil | apply Pb.cons (.row rfl) | apply Pb.skip)))
      refine sk_loopL [4, 7, 11, 12, 16, 17, 18, 23] [9, 10, 29, 32, 33, 34, 35] (fun i => [(24, iN i), (5, .c (.ls 15 1 0 ((k + 1) * j + i)))]) (fun i => [(15, .row 1 (cII (ordP k L j i)))]) (fun i => i ≤ k + 1) (fun i => k + 1 - i) (0) ?_ (by (repeat (first | exact trivial | refine ⟨(by (rfl)), ?_⟩))) (by (repeat (first | exact trivial | refine ⟨(by ((refine row_eq rfl ?_; simp; done))), ?_⟩))) ?_
      · omega
      intro i hi
      by_cases hi2 : i < k + 1
      · have L1 := ordP_len k L i (Nat.le_of_lt hj2)
        repeat' (first | (refine so_is (.assign _) ?_; (refine so_q (qt_asC rfl) rfl ?_)) | (refine so_is (.buildSlice 25 1 _) ?_; (apply so_bslice (sz := 1) (by_ := 24); (· kernel_rfl); (· decide); (· (repeat (first | exact GvS.nil _ | apply GvS.c rfl rfl (.row _ _ _ _ rfl (by ((simp; done)))) rfl))); (· (decide)); (· rfl); (· rfl); (· rfl))) | (refine so_is (.move _) ?_; (refine so_q (qt_mvC rfl) rfl ?_)) | (refine so_is (.binOp .lss 3 _ _ _) ?_; refine so_q (qt_lss rfl rfl) rfl ?_) | (refine so_is (.binOp .add 3 _ _ _) ?_; refine so_q (qt_addI rfl rfl (by (omega))) rfl ?_) | (refine so_is (.buildSlice 24 1 _) ?_; (apply so_bslice (sz := 1) (by_ := 8); (· kernel_rfl); (· decide); (· (repeat (first | exact GvS.nil _ | apply GvS.c rfl rfl (.lit _) rfl))); (· (decide)); (· rfl); (· rfl); (· rfl))) | (refine so_is (.call ⟨.builtin .append, _, #[25, 25]⟩) ?_; ((apply so_appR (sz := 1) (by_ := 24); (· rfl); (· rfl); (· ((simp; omega))); (· exact .row _ _ _ _ rfl (by ((simp; done)))); (· (decide)); (· kernel_rfl); (· decide); (· (omega)); (· (omega)); (· rfl); (· rfl); (· rfl)))) | (refine so_is (.call ⟨.value (.func 184), _, _⟩) ?_; (apply so_callO0 (fid := 184); (· (repeat (first | exact SeA.nil | apply SeA.cons (.c (.d _))))); (· exact clone_p (atZ L (j : Int)) (by omega)); (· rfl); (· rfl))) | (refine so_is (.call ⟨.value (.func 183), _, _⟩) ?_; (apply so_callT (fid := 183); (· (repeat (first | exact ArgM.nil | apply ArgM.c rfl (.lit _) | apply ArgM.c rfl (.row _ _ _ _ rfl (by ((simp; done))))))); (· (decide)); (· exact insert_t (atZ L (j : Int)) i (k : Int) (by omega) (by omega)); (· rfl); (· rfl); (· rfl))) | refine so_nil ?_ | refine sk_seq ?_ | refine sk_block ?_ | refine sk_blk ?_ | refine sk_exit rfl ?_ | refine sk_skip ?_ | refine sk_region ?_ | refine sk_if rfl (fun hc => ?_) (fun hc => ?_))
        all_goals first | (exfalso; omega) | skip
        refine sk_back ?_; refine ⟨i + 1, ?_, ?_, le_at rfl (by (repeat (first | exact trivial | refine ⟨(by (rfl)), ?_⟩))) (by (repeat (first | exact trivial | refine ⟨rfl, ?_⟩))) (by (repeat (first | exact trivial | refine ⟨(by ((refine row_eq rfl ?_; simp  [ordP_snoc]; done))), ?_⟩))) (by (repeat (first | exact trivial | refine ⟨.inr rfl, ?_⟩)))⟩
        · omega
        · omega
      · have e : i = k + 1 := by omega
        subst e
        repeat' (first | (refine so_is (.assign _) ?_; (refine so_q (qt_asC rfl) rfl ?_)) | (refine so_is (.move _) ?_; (refine so_q (qt_mvC rfl) rfl ?_)) | (refine so_is (.binOp .lss 3 _ _ _) ?_; refine so_q (qt_lss rfl rfl) rfl ?_) | (refine so_is (.binOp .add 3 _ _ _) ?_; refine so_q (qt_addI rfl rfl (by (omega))) rfl ?_) | refine so_nil ?_ | refine sk_seq ?_ | refine sk_block ?_ | refine sk_blk ?_ | refine sk_exit rfl ?_ | refine sk_skip ?_ | refine sk_region ?_ | refine sk_if rfl (fun hc => ?_) (fun hc => ?_))
        all_goals first | (exfalso; omega) | skip
        refine sk_back ?_; refine ⟨j + 1, ?_, ?_, le_at rfl (by (repeat (first | exact trivial | refine ⟨(by (rfl)), ?_⟩))) (by (repeat (first | exact trivial | refine ⟨rfl, ?_⟩))) (by (repeat (first | exact trivial | refine ⟨(by ((refine row_eq rfl ?_; simp  [ordP_row _ _ hj2, Nat.mul_add]; done))), ?_⟩))) (by (repeat (first | exact trivial | refine ⟨.inr rfl, ?_⟩)))⟩
        · omega
        · omega
    · have e : j = L.length := by omega
      subst e
      repeat' (first | (refine so_is (.assign _) ?_; (refine so_q (qt_asC rfl) rfl ?_)) | (refine so_is (.move _) ?_; (refine so_q (qt_mvC rfl) rfl ?_)) | (refine so_is (.binOp .lss 3 _ _ _) ?_; refine so_q (qt_lss rfl rfl) rfl ?_) | (refine so_is (.indexAddr 25 _ _) ?_; (refine so_q (qt_idxII rfl rfl (by kernel_rfl) (by (omega)) (by (omega))) rfl ?_)) | (refine so_is (.load 24 _) ?_; (refine so_q (qt_load_pt rfl (by kernel_rfl) rfl) rfl ?_)) | (refine so_is (.binOp .add 3 _ _ _) ?_; refine so_q (qt_addI rfl rfl (by (omega))) rfl ?_) | refine so_nil ?_ | refine sk_seq ?_ | refine sk_block ?_ | refine sk_blk ?_ | refine sk_exit rfl ?_ | refine sk_skip ?_ | refine sk_region (id := 7) ?_ | refine sk_region (id := 8) ?_ | refine sk_region (id := 9) ?_ | refine sk_region (id := 15) ?_ | refine sk_if rfl (fun hc => ?_) (fun hc => ?_))
      all_goals first | (exfalso; omega) | skip
      refine sk_ghost (sim_forget 10) ?_
      refine sk_ghost (sim_ren 15 10 rfl rfl rfl rfl) ?_
      repeat' (first | (refine so_is (.move _) ?_; (refine so_q (qt_mvC rfl) rfl ?_)) | (refine so_is (.binOp .add 3 _ _ _) ?_; refine so_q (qt_addI rfl rfl (by (omega))) rfl ?_) | refine so_nil ?_ | refine sk_region ?_)
      rw [Nat.add_zero] at ONl
      refine sk_back ?_; refine ⟨k + 1, ?_, ?_, le_at rfl (by (repeat (first | exact trivial | refine ⟨(by (first | rfl | (refine ls_eq rfl ?_; ((simp  [← ON, ONl]; done))))), ?_⟩))) (by (repeat (first | exact trivial | refine ⟨rfl, ?_⟩))) (by (repeat (first | exact trivial | refine ⟨(by ((refine row_eq rfl ?_; simp  [← ON, ONl]; done))), ?_⟩))) (by (repeat (first | exact trivial | refine ⟨.inr rfl, ?_⟩)))⟩
      · omega
      · omega
  · have e : k = n := by omega
    subst e
    repeat' (first | (refine so_is (.assign _) ?_; (refine so_q (qt_asC rfl) rfl ?_)) | (refine so_is (.move _) ?_; (refine so_q (qt_mvC rfl) rfl ?_)) | (refine so_is (.binOp .lss 3 _ _ _) ?_; refine so_q (qt_lss rfl rfl) rfl ?_) | (refine so_is (.buildSlice 25 0 _) ?_; (apply so_bslice (sz := 1) (by_ := 24); (· kernel_rfl); (· decide); (· (repeat (exact GvS.nil _))); (· (decide)); (· rfl); (· rfl); (· rfl))) | (refine so_is (.call ⟨.builtin .len, _, #[25]⟩) ?_; (refine so_q (qt_len_ls rfl (by kernel_rfl)) rfl ?_)) | refine so_nil ?_ | refine sk_seq ?_ | refine sk_block ?_ | refine sk_exit rfl ?_ | refine sk_skip ?_ | refine sk_region ?_ | refine sk_if rfl (fun hc => ?_) (fun hc => ?_))
    all_goals first | (exfalso; omega) | skip
    (apply sk_ret; apply ret_eq; (· apply RetOK.p; (· (apply GvA.cons; (· exact .tmp _); (· (exact GvP.c (.row _ _ _ _ rfl (by ((simp; done))))))); exact GvA.nil); (· (decide))))
    rfl

end Go.Proofs.Ytefbiejoikpkmaa

namespace Go.Proofs.Ytefbiejoikpkmaa
open Go.RowKit
set_option linter.unusedSectionVars false
variable [Glb]
set_option maxRecDepth 10000
set_option maxHeartbeats 4000000
theorem asked_p (X Y : Int) (ws : List Int) (wi : List (List Int)) (fs ss fl : List Int) (h : gameB X Y ws wi = true) (hf : ∀ x ∈ fs, 0 ≤ x ∧ x < X) (hs : ∀ y ∈ ss, 0 ≤ y ∧ y < Y) (hfl : bitsB fl (X + Y) = true) (f3 : fs.length ≤ 3) (s3 : ss.length ≤ 3) :
    PC Try.prog 93 [.g [dI X, dI Y, eI ws, eII wi], .c (eI fs), .c (eI ss), .c (eI fl)] (.p (.g [dI fs.length, dI ss.length, eI (pairsF (askW Y ws) fs ss), eII (pairsF (askR X Y wi fl) fs ss)])) := by
  have hg := gameB_spec h
  have g1 := hg.x1; have g2 := hg.x3; have g3 := hg.y1; have g4 := hg.y3; have g5 := hg.wl; have g6 := hg.il
  have hlf := bitsB_len hfl
  have hXY := mul_bd3 (sizeB_iff.2 ⟨⟨g1, g2⟩, g3, g4⟩)
  have hsf : ss.length * fs.length ≤ 3 * 3 := Nat.mul_le_mul s3 f3
  refine pc_intro Try.func93 rfl rfl rfl (by kernel_rfl) rfl rfl ?_; intro _
  repeat' (first | (refine so_is (.box 27 _) ?_; refine so_box rfl rfl ?_) | (refine so_is (.alloc 27) ?_; refine so_alloc (zs := [.int .i64 0, .int .i64 0, .slice none 0 0, .slice none 0 0]) (by kernel_rfl) rfl ?_) | (refine so_is (.move _) ?_; (refine so_q (qt_mvC rfl) rfl ?_)) | (refine so_is (.call ⟨.builtin .len, _, #[24]⟩) ?_; (refine so_q (qt_len_d rfl (by kernel_rfl)) rfl ?_)) | (refine so_is (.build 27 _) ?_; refine so_q (qt_build (cs := [_, _, _, _]) [(0, 1), (1, 1), (2, 1), (3, 1)] [.int .i64 0, .int .i64 0, .slice none 0 0, .slice none 0 0] (by kernel_rfl) (by kernel_rfl) rfl) rfl ?_) | (refine so_is (.store 27 _ _) ?_; (refine so_store_box rfl rfl rfl (by kernel_rfl) rfl rfl ?_)) | refine so_nil ?_ | refine sk_seq ?_ | refine sk_block ?_ | refine sk_region ?_)
  refine sk_ghost (sim_nil_box 9 2 78 1 rfl (by decide) rfl rfl rfl) ?_
  refine sk_ghost (sim_nil_box 9 3 83 1 rfl (by decide) rfl rfl rfl) ?_
  apply sk_packC [2, 3, 4, 8, 9, 22, 23, 24] [4, 8, 9, 40, 67, 68, 77, 78, 82, 83] rfl; (· (repeat (first | exact Pf.nil | apply Pf.cons (.c rfl (.d rfl)) | apply Pf.cons (.c rfl (.lp rfl))))); (· (repeat (first | exact Pb.nil | apply Pb.cons (.row rfl) | (apply Pb.cons; (· apply Nb.box rfl; (repeat (first | exact Ncs.nil rfl | (apply Ncs.cons rfl; (· (first | exact .d rfl | exact .ls rfl))))))) | apply Pb.skip)))
  refine sk_loopL [2, 3, 4, 8, 9, 22, 23] [4, 8, 40, 67, 68, 77, 82] (fun i => [(24, iN i)]) (fun i => [(9, .box [.d (dI fs.length), .d (dI ss.length), .ls 78 1 0 (ss.length * i), .ls 83 1 0 (ss.length * i)]), (78, .row 1 (cI (pairsP (askW Y ws) fs ss i 0))), (83, .row 1 (cII (pairsP (askR X Y wi fl) fs ss i 0)))]) (fun i => i ≤ fs.length) (fun i => fs.length - i) (0) ?_ (by (repeat (first | exact trivial | refine ⟨(by (rfl)), ?_⟩))) (by (repeat (first | exact trivial | refine ⟨(by (first | (refine box_eq rfl ?_; simp; done) | rfl)), ?_⟩))) ?_
  · omega
  intro i hi
  repeat' (first | (refine so_is (.move _) ?_; (refine so_q (qt_mvC rfl) rfl ?_)) | (refine so_is (.call ⟨.builtin .len, _, #[24]⟩) ?_; (refine so_q (qt_len_d rfl (by kernel_rfl)) rfl ?_)) | (refine so_is (.store 27 _ _) ?_; (refine so_store_box rfl rfl rfl (by kernel_rfl) rfl rfl ?_)) | (refine so_is (.binOp .lss 3 _ _ _) ?_; refine so_q (qt_lss rfl rfl) rfl ?_) | (refine so_is (.indexAddr 24 _ _) ?_; (refine so_q (qt_idxI rfl rfl (by kernel_rfl) (by (omega)) (by (omega))) rfl ?_)) | (refine so_is (.load 3 _) ?_; (refine so_q (qt_load_pt rfl (by kernel_rfl) rfl) rfl ?_)) | (refine so_is (.assign _) ?_; (refine so_q (qt_asC rfl) rfl ?_)) | (refine so_is (.load 27 _) ?_; (refine so_q (qt_load_boxs rfl rfl (by kernel_rfl : tAgg _ 27 4 = true) rfl) rfl ?_)) | refine so_nil ?_ | refine sk_seq ?_ | refine sk_block ?_ | refine sk_exit rfl ?_ | refine sk_skip ?_ | refine sk_region ?_ | refine sk_if rfl (fun hc => ?_) (fun hc => ?_))
  · have hi2 : i < fs.length := by omega
    have fx := hf _ (mem_atZ hi2)
    apply sk_packC [2, 3, 4, 8, 9, 11, 22, 23, 24, 28, 29, 30] [4, 8, 9, 40, 67, 68, 77, 78, 82, 83] rfl; (· (repeat (first | exact Pf.nil | apply Pf.cons (.c rfl (.d rfl)) | apply Pf.cons (.c rfl (.lp rfl))))); (· (repeat (first | exact Pb.nil | apply Pb.cons (.row rfl) | (apply Pb.cons; (· apply Nb.box rfl; (repeat (first | exact Ncs.nil rfl | (apply Ncs.cons rfl; (· (first | exact .d rfl | exact .ls rfl))))))) | apply Pb.skip)))
    refine sk_loopL [2, 3, 4, 8, 9, 11, 22, 23, 24, 28, 29] [4, 8, 40, 67, 68, 77, 82] (fun k => [(30, iN k)]) (fun k => [(9, .box [.d (dI fs.length), .d (dI ss.length), .ls 78 1 0 (ss.length * i + k), .ls 83 1 0 (ss.length * i + k)]), (78, .row 1 (cI (pairsP (askW Y ws) fs ss i k))), (83, .row 1 (cII (pairsP (askR X Y wi fl) fs ss i k)))]) (fun k => k ≤ ss.length) (fun k => ss.length - k) (0) ?_ (by (repeat (first | exact trivial | refine ⟨(by (rfl)), ?_⟩))) (by (repeat (first | exact trivial | refine ⟨(by (first | (refine row_eq rfl ?_; simp; done) | (refine box_eq rfl ?_; simp; done))), ?_⟩))) ?_
    · omega
    intro k hk
    have sy := fun hk2 : k < ss.length => hs _ (mem_atZ hk2)
    have ix := fun hk2 : k < ss.length => idx_lt fx.1 fx.2 (sy hk2).1 (sy hk2).2
    have ik := fun hk2 : k < ss.length => idx_ltN hi2 hk2
    have L1 := pairsP_len (askW Y ws) fs ss hi hk
    have L2 := pairsP_len (askR X Y wi fl) fs ss hi hk
    repeat' (first | (refine so_is (.move _) ?_; (refine so_q (qt_mvC rfl) rfl ?_)) | (refine so_is (.binOp .lss 3 _ _ _) ?_; refine so_q (qt_lss rfl rfl) rfl ?_) | (refine so_is (.indexAddr 24 _ _) ?_; (refine so_q (qt_idxI rfl rfl (by kernel_rfl) (by (omega)) (by (omega))) rfl ?_)) | (refine so_is (.load 3 _) ?_; (first | refine so_q (qt_load_box rfl rfl (by kernel_rfl) rfl) rfl ?_ | refine so_q (qt_load_pt rfl (by kernel_rfl) rfl) rfl ?_)) | (refine so_is (.assign _) ?_; (refine so_q (qt_asC rfl) rfl ?_)) | (refine so_is (.fieldAddr 27 _ 1) ?_; (refine so_q (qt_fld_lp (off := 1) rfl (by kernel_rfl)) rfl ?_)) | (refine so_is (.binOp .mul 3 _ _ _) ?_; refine so_q (qt_mulI rfl rfl (by (omega))) rfl ?_) | (refine so_is (.binOp .add 3 _ _ _) ?_; refine so_q (qt_addI rfl rfl (by (omega))) rfl ?_) | (refine so_is (.buildSlice 24 0 _) ?_; (apply so_bslice (sz := 1) (by_ := 8); (· kernel_rfl); (· decide); (· (repeat (exact GvS.nil _))); (· (decide)); (· rfl); (· rfl); (· rfl))) | refine so_nil ?_ | refine sk_seq ?_ | refine sk_block ?_ | refine sk_blk ?_ | refine sk_exit rfl ?_ | refine sk_skip ?_ | refine sk_region ?_ | refine sk_if rfl (fun hc => ?_) (fun hc => ?_))
    · have hk2 : k < ss.length := by omega
      have sy := sy hk2
      have ix := ix hk2
      have ik := ik hk2
      have ga := (gameB_at h ix.1 ix.2.1).2
      have gl := bitsB_len ga
      have b1 := bitsB_at hfl fx.1 (by omega)
      have b2 := bitsB_at hfl (i := X + atZ ss k) (by omega) (by omega)
      apply sk_packC [2, 3, 4, 8, 9, 11, 13, 14, 15, 22, 23, 24, 28, 29, 30, 41] [4, 8, 9, 40, 67, 68, 77, 78, 82, 83] rfl; (· (repeat (first | exact Pf.nil | apply Pf.cons (.c rfl (.d rfl)) | apply Pf.cons (.c rfl (.ls rfl)) | apply Pf.cons (.c rfl (.lp rfl))))); (· (repeat (first | exact Pb.nil | apply Pb.cons (.row rfl) | (apply Pb.cons; (· apply Nb.box rfl; (repeat (first | exact Ncs.nil rfl | (apply Ncs.cons rfl; (· (first | exact .d rfl | exact .ls rfl))))))) | apply Pb.skip)))
      refine sk_loopL [2, 3, 4, 8, 9, 11, 13, 14, 22, 23, 24, 28, 29, 30] [4, 8, 9, 67, 68, 77, 78, 82, 83] (fun p => [(41, iN p), (15, .c (.ls 40 1 0 p))]) (fun p => [(40, .row 1 (cI (rowF (fun p => atZ (atZ wi (atZ fs i * Y + atZ ss k)) (xor4 p (flipOf fl X (atZ fs i) (atZ ss k)))) p)))]) (fun p => p ≤ 4) (fun p => 4 - p) (0) ?_ (by (repeat (first | exact trivial | refine ⟨(by (rfl)), ?_⟩))) (by (repeat (first | exact trivial | refine ⟨(by (rfl)), ?_⟩))) ?_
      · omega
      intro p hp
      have xe := fun hp4 : p < 4 => xor4_eq (k := p) (m := 2 * atZ fl (atZ fs i) + atZ fl (X + atZ ss k)) hp4 (by omega) (by omega)
      have ag := bitsB_at ga (i := xor4 p (flipOf fl X (atZ fs i) (atZ ss k)))
      repeat' (first | (with_reducible apply so_lt) | intro Y hY | ((with_reducible apply so_j2); (· assumption); (· rfl); (· exact (by (repeat (first | exact trivial | refine ⟨rfl, ?_⟩)))); (· exact (by (repeat (first | exact trivial | refine ⟨rfl, ?_⟩))))) | ((with_reducible apply so_j1); (· rfl); (· (repeat (first | exact Pf.nil | apply Pf.cons (.c rfl (.d rfl)) | apply Pf.cons (.c rfl (.ls rfl)) | apply Pf.cons (.c rfl (.lp rfl))))); (· (repeat (first | exact Pb.nil | apply Pb.cons (.row rfl) | (apply Pb.cons; (· apply Nb.box rfl; (repeat (first | exact Ncs.nil rfl | (apply Ncs.cons rfl; (· (first | exact .d rfl | exact .ls rfl | exact .any _))))))) | apply Pb.skip))); (· assumption)) | refine so_alt ?_ ?_ | (refine so_is (.move _) ?_; (refine so_q (qt_mvC rfl) rfl ?_)) | (refine so_is (.binOp .lss 3 _ _ _) ?_; refine so_q (qt_lss rfl rfl) rfl ?_) | (refine so_is (.indexAddr 24 _ _) ?_; (refine so_q (qt_idxI rfl rfl (by kernel_rfl) (by (omega)) (by (omega))) rfl ?_)) | (refine so_is (.load 3 _) ?_; (first | refine so_q (qt_load_box rfl rfl (by kernel_rfl) rfl) rfl ?_ | refine so_q (qt_load_pt rfl (by kernel_rfl) rfl) rfl ?_)) | (refine so_is (.assign _) ?_; (refine so_q (qt_asC rfl) rfl ?_)) | (refine so_is (.binOp .mul 3 _ _ _) ?_; refine so_q (qt_mulI rfl rfl (by (omega))) rfl ?_) | (refine so_is (.binOp .add 3 _ _ _) ?_; refine so_q (qt_addI rfl rfl (by (omega))) rfl ?_) | (refine so_is (.fieldAddr 27 _ 3) ?_; (refine so_q (qt_fld_lp (off := 3) rfl (by kernel_rfl)) rfl ?_)) | (refine so_is (.load 25 _) ?_; (refine so_q (qt_load_box rfl rfl (by kernel_rfl) rfl) rfl ?_)) | (refine so_is (.indexAddr 25 _ _) ?_; (refine so_q (qt_idxII rfl rfl (by kernel_rfl) (by (omega)) (by (omega))) rfl ?_)) | (refine so_is (.load 24 _) ?_; (first | refine so_q (qt_load_box rfl rfl (by kernel_rfl) rfl) rfl ?_ | refine so_q (qt_load_pt rfl (by kernel_rfl) rfl) rfl ?_)) | (refine so_is (.fieldAddr 27 _ 0) ?_; (refine so_q (qt_fld_lp (off := 0) rfl (by kernel_rfl)) rfl ?_)) | (refine so_is (.binOp .xor 3 _ _ _) ?_; refine so_q (qt_bits rfl rfl (by simp)) rfl ?_) | (refine so_is (.buildSlice 24 1 _) ?_; (apply so_bslice (sz := 1) (by_ := 8); (· kernel_rfl); (· decide); (· (repeat (first | exact GvS.nil _ | apply GvS.c rfl rfl (.lit _) rfl))); (· (decide)); (· rfl); (· rfl); (· rfl))) | (refine so_is (.call ⟨.builtin .append, _, #[24, 24]⟩) ?_; ((apply so_appR (sz := 1) (by_ := 8); (· rfl); (· rfl); (· (first | (simp; done) | (simp; omega))); (· exact .row _ _ _ _ rfl (by ((simp; done)))); (· (decide)); (· kernel_rfl); (· decide); (· (omega)); (· (omega)); (· rfl); (· rfl); (· rfl)))) | (refine so_is (.fieldAddr 27 _ 2) ?_; (refine so_q (qt_fld_lp (off := 2) rfl (by kernel_rfl)) rfl ?_)) | (refine so_is (.buildSlice 25 1 _) ?_; (apply so_bslice (sz := 1) (by_ := 24); (· kernel_rfl); (· decide); (· (repeat (first | exact GvS.nil _ | apply GvS.c rfl rfl (.row _ _ _ _ rfl (by ((simp; done)))) rfl))); (· (decide)); (· rfl); (· rfl); (· rfl))) | (refine so_is (.call ⟨.builtin .append, _, #[25, 25]⟩) ?_; ((apply so_appR (sz := 1) (by_ := 24); (· rfl); (· rfl); (· ((simp; omega))); (· exact .row _ _ _ _ rfl (by ((simp; done)))); (· (decide)); (· kernel_rfl); (· decide); (· (omega)); (· (omega)); (· rfl); (· rfl); (· rfl)))) | (refine so_is (.store 24 _ _) ?_; (refine so_store_box1 rfl rfl rfl rfl (by kernel_rfl) rfl rfl ?_)) | (refine so_is (.store 25 _ _) ?_; (refine so_store_box1 rfl rfl rfl rfl (by kernel_rfl) rfl rfl ?_)) | refine so_nil ?_ | refine sk_seq ?_ | refine sk_block ?_ | refine sk_blk ?_ | refine sk_exit rfl ?_ | refine sk_skip ?_ | refine sk_region ?_ | refine sk_drawQ 12 (fun i => i == 24) (.step 0 true (.step 1 true (.step 2 true (.step 3 true (.step 4 true (.step 5 true (.step 6 true (.step 7 true (.step 8 true (.step 9 true (.step 10 true (.step 11 true (.step 12 true (.step 13 true (.step 14 true (.step 15 true (.step 16 true (.step 17 true (.step 18 true (.step 19 true (.step 20 true (.step 21 true (.step 22 true (.step 23 false (.step 24 false (.step 25 true .nil)))))))))))))))))))))))))) [(0, 67108863, 67108863, true), (0, 67108863, 67108863, true), (2, 67108861, 67108863, false), (0, 67108863, 67108863, true), (12, 67108851, 67108863, true), (16, 67108847, 67108863, false), (0, 67108863, 67108863, true), (0, 67108863, 67108863, true), (0, 67108863, 67108863, true), (384, 67108479, 67108863, true), (512, 67108351, 67108863, false), (1024, 67107839, 67108863, true), (0, 67108863, 67108863, true), (0, 67108863, 67108863, true), (8192, 67100671, 67108863, false), (0, 67108863, 67108863, true), (49152, 67059711, 67108863, true), (69632, 67039231, 67108863, true), (131072, 66977791, 67108863, false), (264192, 66844671, 67108863, true), (524352, 66584511, 67108863, true), (1048608, 66060255, 67108863, true), (2097152, 65011711, 67108863, false), (4194304, 62914559, 67108863, false), (8388609, 58720254, 67108863, false), (33554431, 50331646, 50331647, true)] (by kernel_rfl) (by kernel_rfl) ?_ | refine sk_drawQ 14 (fun i => i == 8 || i == 13 || i == 15 || i == 17) (IT.lt (.step 13 false (.step 15 false (.step 16 true (.step 17 false .nil)))) fun Y5 => (IT.lt (.step 12 false (IT.ref false [2, 3, 4, 8, 9, 11, 22, 23, 24, 28, 29, 30, 78, 80, 82, 84] [4, 8, 9, 40, 67, 68, 77, 78, 82, 83] Y5)) fun Y4 => (IT.lt (.step 8 false (.step 14 true (IT.ref false [2, 3, 4, 8, 9, 11, 22, 23, 24, 28, 29, 30, 78, 80, 82, 84] [4, 8, 9, 40, 67, 68, 77, 78, 82, 83] Y5))) fun Y3 => (IT.lt (.alt 14 (.step 8 false (.step 14 true (IT.ref false [2, 3, 4, 8, 9, 11, 22, 23, 24, 28, 29, 30, 78, 80, 81, 84] [4, 8, 9, 40, 67, 68, 77, 78, 82, 83] Y4))) (.step 12 false (IT.ref false [2, 3, 4, 8, 9, 11, 22, 23, 24, 28, 29, 30, 71, 77, 80, 82] [4, 8, 9, 40, 67, 68, 77, 78, 82, 83] Y3))) fun Y2 => (IT.lt (.alt 14 (.step 8 false (.step 10 true (.step 14 true (IT.ref true [2, 3, 4, 8, 9, 11, 22, 23, 24, 28, 29, 30, 78, 80, 82, 84] [4, 8, 9, 40, 67, 68, 77, 78, 82, 83] Y5)))) (.step 10 false (IT.ref false [2, 3, 4, 8, 9, 11, 22, 23, 24, 28, 29, 30, 71, 77, 80, 82] [4, 8, 9, 40, 67, 68, 77, 78, 82, 83] Y3))) fun Y1 => (IT.lt (.step 7 false (IT.ref true [2, 3, 4, 8, 9, 11, 22, 23, 24, 28, 29, 30, 71, 77, 80, 82] [4, 8, 9, 40, 67, 68, 77, 78, 82, 83] Y3)) fun Y0 => (.step 0 true (.step 1 true (.step 2 true (.step 3 true (.step 4 true (.step 5 true (.step 6 true (.step 9 true (.step 11 true (.alt 14 (.step 7 false (.alt 14 (.step 8 false (.step 10 true (.step 14 true (IT.ref true [2, 3, 4, 8, 9, 11, 22, 23, 24, 28, 29, 30, 78, 80, 81, 84] [4, 8, 9, 40, 67, 68, 77, 78, 82, 83] Y4)))) (.alt 14 (.step 10 false (IT.ref true [2, 3, 4, 8, 9, 11, 22, 23, 24, 28, 29, 30, 71, 77, 80, 81] [4, 8, 9, 40, 67, 68, 77, 78, 82, 83] Y2)) (.step 12 false (IT.ref true [2, 3, 4, 8, 9, 11, 22, 23, 24, 28, 29, 30, 71, 77, 79, 82] [4, 8, 9, 40, 67, 68, 77, 78, 82, 83] Y1))))) (.alt 14 (.step 10 false (.alt 14 (.step 7 false (IT.ref false [2, 3, 4, 8, 9, 11, 22, 23, 24, 28, 29, 30, 71, 77, 80, 81] [4, 8, 9, 40, 67, 68, 77, 78, 82, 83] Y2)) (.step 12 false (IT.ref true [2, 3, 4, 8, 9, 11, 22, 23, 24, 28, 29, 30, 71, 76, 80, 82] [4, 8, 9, 40, 67, 68, 77, 78, 82, 83] Y0)))) (.step 12 false (.alt 14 (.step 7 false (IT.ref false [2, 3, 4, 8, 9, 11, 22, 23, 24, 28, 29, 30, 71, 77, 79, 82] [4, 8, 9, 40, 67, 68, 77, 78, 82, 83] Y1)) (.step 10 false (IT.ref false [2, 3, 4, 8, 9, 11, 22, 23, 24, 28, 29, 30, 71, 76, 80, 82] [4, 8, 9, 40, 67, 68, 77, 78, 82, 83] Y0))))))))))))))))))))) [(0, 262143, 262143, true), (1, 262142, 262143, false), (0, 262143, 262143, true), (4, 262139, 262143, false), (0, 262143, 262143, true), (24, 262119, 262143, true), (32, 262111, 262143, false), (64, 262079, 262143, false), (130, 262013, 262143, false), (0, 262143, 261887, true), (512, 261631, 261887, false), (0, 262143, 261887, true), (2048, 260095, 261887, false), (5376, 257023, 261887, false), (2047, 262143, 253695, true), (26623, 245503, 253695, false), (65535, 262143, 220927, true), (131071, 188415, 220927, false)] (by kernel_rfl) (by kernel_rfl) ?_ | refine sk_if rfl (fun hc => ?_) (fun hc => ?_))
      · have xe := xe (by omega)
        refine sk_back ?_; refine ⟨p + 1, ?_, ?_, le_at rfl (by (repeat (first | exact trivial | refine ⟨(by (rfl)), ?_⟩))) (by (repeat (first | exact trivial | refine ⟨rfl, ?_⟩))) (by (repeat (first | exact trivial | refine ⟨(by ((refine row_eq rfl ?_; simp  [rowF_snoc, flipOf, xe.1]; done))), ?_⟩))) (by (repeat (first | exact trivial | refine ⟨.inr rfl, ?_⟩)))⟩
        · omega
        · omega
      · have h4 : p = 4 := by omega
        subst h4
        refine sk_back ?_; refine ⟨k + 1, ?_, ?_, le_at rfl (by (repeat (first | exact trivial | refine ⟨(by (rfl)), ?_⟩))) (by (repeat (first | exact trivial | refine ⟨rfl, ?_⟩))) (by (repeat (first | exact trivial | refine ⟨(by (first | (refine row_eq rfl ?_; simp  [pairsP_snoc _ _ _ _ hk2, askW, askR, ← Nat.add_assoc]; done) | rfl)), ?_⟩))) (by (repeat (first | exact trivial | refine ⟨.inr rfl, ?_⟩)))⟩
        · omega
        · omega
    · have h4 : k = ss.length := by omega
      subst h4
      refine sk_back ?_; refine ⟨i + 1, ?_, ?_, le_at rfl (by (repeat (first | exact trivial | refine ⟨(by (rfl)), ?_⟩))) (by (repeat (first | exact trivial | refine ⟨rfl, ?_⟩))) (by (repeat (first | exact trivial | refine ⟨(by (first | (refine row_eq rfl ?_; simp  [pairsP_row _ _ _ hi2, Nat.mul_add]; done) | (refine box_eq rfl ?_; simp  [pairsP_row _ _ _ hi2, Nat.mul_add]; done))), ?_⟩))) (by (repeat (first | exact trivial | refine ⟨.inr rfl, ?_⟩)))⟩
      · omega
      · omega
  · have h4 : i = fs.length := by omega
    subst h4
    have L1 := pairsP_len (askW Y ws) fs ss (Nat.le_refl _) (Nat.zero_le ss.length)
    have L2 := pairsP_len (askR X Y wi fl) fs ss (Nat.le_refl _) (Nat.zero_le ss.length)
    repeat' fail
    (apply sk_ret; apply ret_eq; (· apply RetOK.p; (· (apply GvA.cons; (· (apply RV.cellN (n := 4); (· rfl); (· rfl); (· kernel_rfl); (· rfl))); (· (apply GvP.g; (· (apply GvL.cons (.lit _)); (apply GvL.cons (.lit _)); ((apply GvL.cons (.row _ _ _ _ rfl (by ((simp; omega)))))); ((apply GvL.cons (.row _ _ _ _ rfl (by ((simp; omega)))))); exact GvL.nil)))); exact GvA.nil); (· (decide))))
    simp [pairsP_all, pairsF_len, Nat.mul_comm]

end Go.Proofs.Ytefbiejoikpkmaa

namespace Go.Proofs.Ytefbiejoikpkmaa
open Go.RowKit
set_option linter.unusedSectionVars false
variable [Glb]
set_option maxRecDepth 10000
set_option maxHeartbeats 4000000
theorem plays_p (x y : Nat) (h : x + y ≤ 6) : PC Try.prog 92 [.c (dI x), .c (dI y)] (.p (.c (eII (playsF (x + y))))) := by
  have e2 : (2 : Nat) ^ (x + y) ≤ 64 := Nat.le_trans (Nat.pow_le_pow_right (by omega) h) (by decide)
  obtain ⟨N, hN⟩ : ∃ N : Nat, N = 2 ^ (x + y) := ⟨_, rfl⟩
  rw [← hN] at e2
  have e1 : (1 : Int) * 2 ^ ((x : Int) + y).toNat = N := by
    rw [show ((x : Int) + y).toNat = x + y by omega, hN, Int.natCast_pow]; simp
  refine pc_intro Try.func92 rfl rfl rfl (by kernel_rfl) rfl rfl ?_; intro _
  repeat' (first | (refine so_is (.assign _) ?_; (refine so_q (qt_asC rfl) rfl ?_)) | (refine so_is (.buildSlice 25 0 _) ?_; (apply so_bslice (sz := 1) (by_ := 24); (· kernel_rfl); (· decide); (· (repeat (exact GvS.nil _))); (· (decide)); (· rfl); (· rfl); (· rfl))) | (refine so_is (.move _) ?_; (refine so_q (qt_mvC rfl) rfl ?_)) | (refine so_is (.binOp .add 3 _ _ _) ?_; refine so_q (qt_addI rfl rfl (by (omega))) rfl ?_) | (refine so_is (.binOp .shl 3 _ _ _) ?_; (refine so_q (qt_shlI rfl rfl (by (omega)) (by (omega)) (by (omega))) rfl ?_)) | refine so_nil ?_ | refine sk_seq ?_ | refine sk_block ?_ | refine sk_region ?_)
  apply sk_packC [0, 1, 5, 13, 14] [9, 17, 34, 35, 39, 40] rfl; (· (repeat (first | exact Pf.nil | apply Pf.cons (.c rfl (.d rfl)) | apply Pf.cons (.c rfl (.ls rfl))))); (· (repeat (first | exact Pb.nil | apply Pb.cons (.row rfl) | apply Pb.skip)))
  refine sk_loopL [0, 1, 13] [17, 34, 35, 39, 40] (fun c => [(14, iN c), (5, .c (.ls 9 1 0 c))]) (fun c => [(9, .row 1 (cII ((List.range c).map (bitsM (x + y)))))]) (fun c => c ≤ N) (fun c => N - c) (0) ?_ (by (repeat (first | exact trivial | refine ⟨(by (rfl)), ?_⟩))) (by (repeat (first | exact trivial | refine ⟨(by ((refine row_eq rfl ?_; simp; done))), ?_⟩))) ?_
  · omega
  intro c hc
  repeat' (first | (refine so_is (.assign _) ?_; (refine so_q (qt_asC rfl) rfl ?_)) | (refine so_is (.move _) ?_; (refine so_q (qt_mvC rfl) rfl ?_)) | (refine so_is (.binOp .add 3 _ _ _) ?_; refine so_q (qt_addI rfl rfl (by (omega))) rfl ?_) | (refine so_is (.binOp .lss 3 _ _ _) ?_; refine so_q (qt_lss rfl rfl) rfl ?_) | (refine so_is (.buildSlice 24 0 _) ?_; (apply so_bslice (sz := 1) (by_ := 8); (· kernel_rfl); (· decide); (· (repeat (exact GvS.nil _))); (· (decide)); (· rfl); (· rfl); (· rfl))) | refine so_nil ?_ | refine sk_seq ?_ | refine sk_block ?_ | refine sk_exit rfl ?_ | refine sk_skip ?_ | refine sk_region ?_ | refine sk_if rfl (fun hc => ?_) (fun hc => ?_))
  · apply sk_packC [0, 1, 5, 6, 7, 13, 14, 20, 21] [9, 17, 34, 35, 39, 40] rfl; (· (repeat (first | exact Pf.nil | apply Pf.cons (.c rfl (.d rfl)) | apply Pf.cons (.c rfl (.ls rfl))))); (· (repeat (first | exact Pb.nil | apply Pb.cons (.row rfl) | apply Pb.skip)))
    refine sk_loopL [0, 1, 5, 6, 13, 14, 20] [9, 34, 35, 39, 40] (fun i => [(21, iN i), (7, .c (.ls 17 1 0 i))]) (fun i => [(17, .row 1 (cI (rowF (fun i => (bitN c (x + y - 1 - i) : Int)) i)))]) (fun i => i ≤ x + y) (fun i => x + y - i) (0) ?_ (by (repeat (first | exact trivial | refine ⟨(by (rfl)), ?_⟩))) (by (repeat (first | exact trivial | refine ⟨(by (rfl)), ?_⟩))) ?_
    · omega
    intro i hi
    have e3 : i < x + y → (c : Int) / 2 ^ ((x : Int) + y - 1 - i).toNat % 2 = (bitN c (x + y - 1 - i) : Int) := fun h => by
      rw [show ((x : Int) + y - 1 - i).toNat = x + y - 1 - i by omega, bit_nat]
    repeat' (first | (refine so_is (.assign _) ?_; (refine so_q (qt_asC rfl) rfl ?_)) | (refine so_is (.move _) ?_; (refine so_q (qt_mvC rfl) rfl ?_)) | (refine so_is (.binOp .add 3 _ _ _) ?_; refine so_q (qt_addI rfl rfl (by (omega))) rfl ?_) | (refine so_is (.binOp .lss 3 _ _ _) ?_; refine so_q (qt_lss rfl rfl) rfl ?_) | (refine so_is (.binOp .sub 3 _ _ _) ?_; refine so_q (qt_subI rfl rfl (by (omega))) rfl ?_) | (refine so_is (.binOp .shr 3 _ _ _) ?_; (refine so_q (qt_shrI rfl rfl (by (omega)) (by (omega))) rfl ?_)) | (refine so_is (.binOp .and 3 _ _ _) ?_; refine so_q (qt_andM 1 (c := 2) rfl rfl (by decide)) rfl ?_) | (refine so_is (.buildSlice 24 1 _) ?_; (apply so_bslice (sz := 1) (by_ := 8); (· kernel_rfl); (· decide); (· (repeat (first | exact GvS.nil _ | apply GvS.c rfl rfl (.lit _) rfl))); (· (decide)); (· rfl); (· rfl); (· rfl))) | (refine so_is (.call ⟨.builtin .append, _, #[24, 24]⟩) ?_; ((apply so_appR (sz := 1) (by_ := 8); (· rfl); (· rfl); (· ((simp; done))); (· exact .row _ _ _ _ rfl (by ((simp; done)))); (· (decide)); (· kernel_rfl); (· decide); (· (omega)); (· (omega)); (· rfl); (· rfl); (· rfl)))) | (refine so_is (.buildSlice 25 1 _) ?_; (apply so_bslice (sz := 1) (by_ := 24); (· kernel_rfl); (· decide); (· (repeat (first | exact GvS.nil _ | apply GvS.c rfl rfl (.row _ _ _ _ rfl (by ((simp; done)))) rfl))); (· (decide)); (· rfl); (· rfl); (· rfl))) | (refine so_is (.call ⟨.builtin .append, _, #[25, 25]⟩) ?_; ((apply so_appR (sz := 1) (by_ := 24); (· rfl); (· rfl); (· ((simp; done))); (· exact .row _ _ _ _ rfl (by ((simp; done)))); (· (decide)); (· kernel_rfl); (· decide); (· (omega)); (· (omega)); (· rfl); (· rfl); (· rfl)))) | refine so_nil ?_ | refine sk_seq ?_ | refine sk_block ?_ | refine sk_blk ?_ | refine sk_exit rfl ?_ | refine sk_skip ?_ | refine sk_region ?_ | refine sk_if rfl (fun hc => ?_) (fun hc => ?_))
    · have e3 := e3 (by omega)
      simp at e3
      refine sk_back ?_; refine ⟨i + 1, ?_, ?_, le_at rfl (by (repeat (first | exact trivial | refine ⟨(by (rfl)), ?_⟩))) (by (repeat (first | exact trivial | refine ⟨rfl, ?_⟩))) (by (repeat (first | exact trivial | refine ⟨(by ((refine row_eq rfl ?_; simp  [rowF_snoc, e3]; done))), ?_⟩))) (by (repeat (first | exact trivial | refine ⟨.inr rfl, ?_⟩)))⟩
      · omega
      · omega
    · have h8 : i = x + y := by omega
      subst h8
      refine sk_back ?_; refine ⟨c + 1, ?_, ?_, le_at rfl (by (repeat (first | exact trivial | refine ⟨(by (rfl)), ?_⟩))) (by (repeat (first | exact trivial | refine ⟨rfl, ?_⟩))) (by (repeat (first | exact trivial | refine ⟨(by ((refine row_eq rfl ?_; simp  [plays_snoc, bitsM]; done))), ?_⟩))) (by (repeat (first | exact trivial | refine ⟨.inr rfl, ?_⟩)))⟩
      · omega
      · omega
  · have h8 : c = N := by omega
    subst h8
    subst hN
    (apply sk_ret; apply ret_eq; (· apply RetOK.p; (· (apply GvA.cons; (· exact .tmp _); (· (exact GvP.c (.row _ _ _ _ rfl (by ((simp; done))))))); exact GvA.nil); (· (decide))))
    simp [playsF]

end Go.Proofs.Ytefbiejoikpkmaa

namespace Go.Proofs.Ytefbiejoikpkmaa
open Go.RowKit
set_option linter.unusedSectionVars false
variable [Glb]
set_option maxRecDepth 10000
set_option maxHeartbeats 4000000
theorem within_p (n lo hi : Int) : PC Try.prog 130 [.c (dI n), .c (dI lo), .c (dI hi)] (.p (.c (dB (inB n lo hi)))) := by
  refine pc_intro Try.func130 rfl rfl rfl (by kernel_rfl) rfl rfl ?_; intro _
  repeat' (first | (refine so_is (.assign _) ?_; (refine so_q (qt_asC rfl) rfl ?_)) | (refine so_is (.move _) ?_; (refine so_q (qt_mvC rfl) rfl ?_)) | (refine so_is (.binOp .geq 3 _ _ _) ?_; refine so_q (qt_geq rfl rfl) rfl ?_) | (refine so_is (.binOp .leq 3 _ _ _) ?_; refine so_q (qt_leq rfl rfl) rfl ?_) | (refine so_is (.pick _ _ _) ?_; (refine so_q (qt_pkC rfl rfl) rfl ?_)) | refine so_nil ?_ | refine so_g_no rfl rfl rfl rfl ?_ | refine so_g_yes rfl rfl rfl rfl ?_ | refine so_g_if rfl rfl (fun hg => ?_) (fun hg => ?_) | refine sk_seq ?_ | refine sk_region ?_)
  all_goals ((apply sk_ret; apply ret_eq; (· apply RetOK.p; (· (apply GvA.cons; (· exact .tmp _); (· exact GvP.c (.lit _))); exact GvA.nil); (· (decide)))))
  all_goals (simp [dB, inB, *]; try omega)

end Go.Proofs.Ytefbiejoikpkmaa

namespace Go.Proofs.Ytefbiejoikpkmaa
open Go.RowKit
set_option linter.unusedSectionVars false
variable [Glb]
set_option maxRecDepth 10000
set_option maxHeartbeats 4000000
theorem allWithin_p (l : List Int) (lo hi : Int) : PC Try.prog 119 [.c (eI l), .c (dI lo), .c (dI hi)] (.p (.c (dB (allB l lo hi)))) := by
  refine pc_intro Try.func119 rfl rfl rfl (by kernel_rfl) rfl rfl ?_; rintro ⟨hl, -⟩
  have hl := hl.len
  repeat' (first | (refine so_is (.assign _) ?_; (refine so_q (qt_asC rfl) rfl ?_)) | (refine so_is (.move _) ?_; (refine so_q (qt_mvC rfl) rfl ?_)) | (refine so_is (.call ⟨.builtin .len, _, #[24]⟩) ?_; (refine so_q (qt_len_d rfl (by kernel_rfl)) rfl ?_)) | refine so_nil ?_ | refine sk_seq ?_ | refine sk_block ?_ | refine sk_region ?_)
  apply sk_packC [1, 2, 9, 10, 11] [] rfl; (· (repeat (first | exact Pf.nil | apply Pf.cons (.c rfl (.d rfl))))); (· (repeat (exact Pb.nil)))
  refine sk_loopL [1, 2, 9, 10] [] (fun k => [(11, iN k)]) (fun _ => []) (fun k => k ≤ l.length ∧ (l.take k).all (fun n => inB n lo hi) = true) (fun k => l.length - k) (0) ?_ (by (repeat (first | exact trivial | refine ⟨(by (rfl)), ?_⟩))) (by (repeat (exact trivial))) ?_
  · simp
  rintro k ⟨hk, ha⟩
  repeat' (first | (refine so_is (.assign _) ?_; (refine so_q (qt_asC rfl) rfl ?_)) | (refine so_is (.move _) ?_; (refine so_q (qt_mvC rfl) rfl ?_)) | (refine so_is (.binOp .lss 3 _ _ _) ?_; refine so_q (qt_lss rfl rfl) rfl ?_) | (refine so_is (.indexAddr 24 _ _) ?_; (refine so_q (qt_idxI rfl rfl (by kernel_rfl) (by (omega)) (by (omega))) rfl ?_)) | (refine so_is (.load 3 _) ?_; (refine so_q (qt_load_pt rfl (by kernel_rfl) rfl) rfl ?_)) | (refine so_is (.unOp .not 4 _) ?_; refine so_q (qt_not rfl) rfl ?_) | (refine so_is (.binOp .add 3 _ _ _) ?_; refine so_q (qt_addI rfl rfl (by (omega))) rfl ?_) | (refine so_is (.call ⟨.value (.func 130), _, _⟩) ?_; (apply so_call0 (fid := 130); (· (repeat (first | exact SeA.nil | apply SeA.cons (.c (.d _))))); (· exact within_p _ _ _); (· rfl))) | refine so_nil ?_ | refine sk_seq ?_ | refine sk_block ?_ | refine sk_blk ?_ | refine sk_exit rfl ?_ | refine sk_skip ?_ | refine sk_region ?_ | refine sk_if rfl (fun hc => ?_) (fun hc => ?_) | refine sk_not rfl (fun hc => ?_) (fun hc => ?_))
  · rename_i hk'
    rw [atZ_nat (by omega)] at hc
    (apply sk_ret; apply ret_eq; (· apply RetOK.p; (· (apply GvA.cons; (· exact .tmp _); (· exact GvP.c (.lit _))); exact GvA.nil); (· (decide))))
    rw [allB, all_f (by omega) hc]
  · rename_i hk'
    rw [atZ_nat (by omega)] at hc
    refine sk_back ?_; refine ⟨k + 1, ?_, ?_, le_at rfl (by (repeat (first | exact trivial | refine ⟨(by (rfl)), ?_⟩))) (by (repeat (first | exact trivial | refine ⟨rfl, ?_⟩))) (by (repeat (exact trivial))) (by (repeat (exact trivial)))⟩
    · exact ⟨by omega, by rw [take_succ_all _ _ _ (by omega), ha, hc]; rfl⟩
    · omega
  · (apply sk_ret; apply ret_eq; (· apply RetOK.p; (· (apply GvA.cons; (· exact .tmp _); (· exact GvP.c (.lit _))); exact GvA.nil); (· (decide))))
    rw [allB, all_t (by omega) ha]

end Go.Proofs.Ytefbiejoikpkmaa

namespace Go.Proofs.Ytefbiejoikpkmaa
open Go.RowKit
set_option linter.unusedSectionVars false
variable [Glb]
set_option maxRecDepth 10000
set_option maxHeartbeats 4000000
theorem areQuestions_p (x y : Int) : PC Try.prog 109 [.c (dI x), .c (dI y)] (.p (.c (dB (sizeB x y)))) := by
  refine pc_intro Try.func109 rfl rfl rfl (by kernel_rfl) rfl rfl ?_; intro _
  repeat' (first | (refine so_is (.assign _) ?_; (refine so_q (qt_asC rfl) rfl ?_)) | (refine so_is (.move _) ?_; (refine so_q (qt_mvC rfl) rfl ?_)) | (refine so_is (.pick _ _ _) ?_; (refine so_q (qt_pkC rfl rfl) rfl ?_)) | (refine so_is (.call ⟨.value (.func 130), _, _⟩) ?_; (apply so_call0 (fid := 130); (· (repeat (first | exact SeA.nil | apply SeA.cons (.c (.d _))))); (· exact within_p _ _ _); (· rfl))) | refine so_nil ?_ | refine so_g_no rfl rfl rfl rfl ?_ | refine so_g_yes rfl rfl rfl rfl ?_ | refine so_g_b rfl rfl (fun hg => ?_) (fun hg => ?_) | refine sk_seq ?_ | refine sk_region ?_)
  all_goals (apply sk_ret; apply ret_eq; (· apply RetOK.p; (· (apply GvA.cons; (· exact .tmp _); (· exact GvP.c (.lit _))); exact GvA.nil); (· (decide))))
  all_goals ((simp_all [sizeB]; done))

end Go.Proofs.Ytefbiejoikpkmaa

namespace Go.Proofs.Ytefbiejoikpkmaa
open Go.RowKit
set_option linter.unusedSectionVars false
variable [Glb]
set_option maxRecDepth 10000
set_option maxHeartbeats 4000000
theorem total_p (l : List Int) : PC Try.prog 120 [.c (eI l)] (.p (.c (dI (sum64 l)))) := by
  refine pc_intro Try.func120 rfl rfl rfl (by kernel_rfl) rfl rfl ?_; rintro ⟨hl, -⟩
  have hl := hl.len
  repeat' (first | (refine so_is (.assign _) ?_; (refine so_q (qt_asC rfl) rfl ?_)) | (refine so_is (.move _) ?_; (refine so_q (qt_mvC rfl) rfl ?_)) | (refine so_is (.call ⟨.builtin .len, _, #[24]⟩) ?_; (refine so_q (qt_len_d rfl (by kernel_rfl)) rfl ?_)) | refine so_nil ?_ | refine sk_seq ?_ | refine sk_block ?_ | refine sk_region ?_)
  apply sk_packC [3, 6, 7, 8] [] rfl; (· (repeat (first | exact Pf.nil | apply Pf.cons (.c rfl (.d rfl))))); (· (repeat (exact Pb.nil)))
  refine sk_loopL [6, 7] [] (fun k => [(8, iN k), (3, iZ (sum64 (l.take k)))]) (fun _ => []) (fun k => k ≤ l.length) (fun k => l.length - k) (0) ?_ (by (repeat (first | exact trivial | refine ⟨(by (rfl)), ?_⟩))) (by (repeat (exact trivial))) ?_
  · simp
  intro k hk
  repeat' (first | (refine so_is (.assign _) ?_; (refine so_q (qt_asC rfl) rfl ?_)) | (refine so_is (.move _) ?_; (refine so_q (qt_mvC rfl) rfl ?_)) | (refine so_is (.binOp .lss 3 _ _ _) ?_; refine so_q (qt_lss rfl rfl) rfl ?_) | (refine so_is (.indexAddr 24 _ _) ?_; (refine so_q (qt_idxI rfl rfl (by kernel_rfl) (by (omega)) (by (omega))) rfl ?_)) | (refine so_is (.load 3 _) ?_; (refine so_q (qt_load_pt rfl (by kernel_rfl) rfl) rfl ?_)) | (refine so_is (.binOp .add 3 _ _ _) ?_; (first | refine so_q (qt_addI rfl rfl (by (omega))) rfl ?_ | refine so_q (qt_add rfl rfl) rfl ?_)) | refine so_nil ?_ | refine sk_seq ?_ | refine sk_block ?_ | refine sk_blk ?_ | refine sk_exit rfl ?_ | refine sk_skip ?_ | refine sk_region ?_ | refine sk_if rfl (fun hc => ?_) (fun hc => ?_))
  · have hk2 : k < l.length := by omega
    refine sk_back ?_; refine ⟨k + 1, ?_, ?_, le_at rfl (by (repeat (first | exact trivial | refine ⟨(by (first | rfl | (refine int_eq rfl ?_; ((simp  [sum64_snoc hk2, atZ_nat hk2]; done))))), ?_⟩))) (by (repeat (first | exact trivial | refine ⟨rfl, ?_⟩))) (by (repeat (exact trivial))) (by (repeat (exact trivial)))⟩
    · omega
    · omega
  · have : k = l.length := by omega
    subst this
    (apply sk_ret; apply ret_eq; (· apply RetOK.p; (· (apply GvA.cons; (· exact .tmp _); (· exact GvP.c (.lit _))); exact GvA.nil); (· (decide))))
    simp

end Go.Proofs.Ytefbiejoikpkmaa

namespace Go.Proofs.Ytefbiejoikpkmaa
open Go.RowKit
set_option linter.unusedSectionVars false
variable [Glb]
set_option maxRecDepth 10000
set_option maxHeartbeats 4000000
theorem IsGame_p (x y : Int) (ws : List Int) (wi : List (List Int)) : PC Try.prog 29 [.g [dI x, dI y, eI ws, eII wi]] (.p (.c (dB (gameB x y ws wi)))) := by
  refine pc_intro Try.func29 rfl rfl rfl (by kernel_rfl) rfl rfl ?_; rintro ⟨hl, -⟩
  have hl := (hl _ (List.mem_cons_of_mem _ (List.mem_cons_of_mem _ (List.mem_cons_of_mem _ (List.mem_cons_self ..))))).len
  have hw := wrap_mul3 (x := x) (y := y)
  repeat' (first | (refine so_is (.box 27 _) ?_; refine so_box rfl rfl ?_) | (refine so_is (.assign _) ?_; (refine so_q (qt_asC rfl) rfl ?_)) | (refine so_is (.fieldAddr 27 _ 0) ?_; (refine so_q (qt_fld_lp (off := 0) rfl (by kernel_rfl)) rfl ?_)) | (refine so_is (.load 3 _) ?_; (refine so_q (qt_load_box rfl rfl (by kernel_rfl) rfl) rfl ?_)) | (refine so_is (.fieldAddr 27 _ 1) ?_; (refine so_q (qt_fld_lp (off := 1) rfl (by kernel_rfl)) rfl ?_)) | (refine so_is (.binOp .mul 3 _ _ _) ?_; (refine so_q (qt_mul rfl rfl) rfl ?_)) | (refine so_is (.unOp .not 4 _) ?_; refine so_q (qt_not rfl) rfl ?_) | (refine so_is (.move _) ?_; (refine so_q (qt_mvC rfl) rfl ?_)) | (refine so_is (.fieldAddr 27 _ 2) ?_; (refine so_q (qt_fld_lp (off := 2) rfl (by kernel_rfl)) rfl ?_)) | (refine so_is (.load 24 _) ?_; (refine so_q (qt_load_box rfl rfl (by kernel_rfl) rfl) rfl ?_)) | (refine so_is (.call ⟨.builtin .len, _, #[24]⟩) ?_; (refine so_q (qt_len_d rfl (by kernel_rfl)) rfl ?_)) | (refine so_is (.binOp .neq 3 _ _ _) ?_; refine so_q (qt_neq rfl rfl) rfl ?_) | (refine so_is (.pick _ _ _) ?_; (refine so_q (qt_pkC rfl rfl) rfl ?_)) | (refine so_is (.binOp .eql 3 _ _ _) ?_; refine so_q (qt_eql rfl rfl) rfl ?_) | (refine so_is (.fieldAddr 27 _ 3) ?_; (refine so_q (qt_fld_lp (off := 3) rfl (by kernel_rfl)) rfl ?_)) | (refine so_is (.load 25 _) ?_; (refine so_q (qt_load_box rfl rfl (by kernel_rfl) rfl) rfl ?_)) | (refine so_is (.call ⟨.builtin .len, _, #[25]⟩) ?_; (refine so_q (qt_len_d rfl (by kernel_rfl)) rfl ?_)) | (refine so_is (.call ⟨.value (.func 109), _, _⟩) ?_; (apply so_call0 (fid := 109); (· (repeat (first | exact SeA.nil | apply SeA.cons (.c (.d _))))); (· exact areQuestions_p _ _); (· rfl))) | (refine so_is (.call ⟨.value (.func 119), _, _⟩) ?_; (apply so_call0 (fid := 119); (· (repeat (first | exact SeA.nil | apply SeA.cons (.c (.d _))))); (· exact allWithin_p _ _ _); (· rfl))) | (refine so_is (.call ⟨.value (.func 120), _, _⟩) ?_; (apply so_call0 (fid := 120); (· (repeat (first | exact SeA.nil | apply SeA.cons (.c (.d _))))); (· exact total_p _); (· rfl))) | refine so_nil ?_ | refine so_g_no rfl rfl rfl rfl ?_ | refine so_g_yes rfl rfl rfl rfl ?_ | refine so_g_if rfl rfl (fun hg => ?_) (fun hg => ?_) | refine so_g_b rfl rfl (fun hg => ?_) (fun hg => ?_) | refine sk_seq ?_ | refine sk_block ?_ | refine sk_skip ?_ | refine sk_region ?_ | refine sk_true rfl ?_ | refine sk_if rfl (fun hc => ?_) (fun hc => ?_))
  · (apply sk_ret; apply ret_eq; (· apply RetOK.p; (· (apply GvA.cons; (· exact .tmp _); (· exact GvP.c (.lit _))); exact GvA.nil); (· (decide))))
    have h9 : sizeB x y = false := by simpa using hg
    simp [gameB, h9]
  · (apply sk_ret; apply ret_eq; (· apply RetOK.p; (· (apply GvA.cons; (· exact .tmp _); (· exact GvP.c (.lit _))); exact GvA.nil); (· (decide))))
    have h9 : ¬ (ws.length : Int) = x * y := by rw [← hw (by simp_all)]; omega
    simp [gameB, h9]
  · (apply sk_ret; apply ret_eq; (· apply RetOK.p; (· (apply GvA.cons; (· exact .tmp _); (· exact GvP.c (.lit _))); exact GvA.nil); (· (decide))))
    have h9 : allB ws 0 99 = false := by simpa using hg
    simp [gameB, h9]
  · (apply sk_ret; apply ret_eq; (· apply RetOK.p; (· (apply GvA.cons; (· exact .tmp _); (· exact GvP.c (.lit _))); exact GvA.nil); (· (decide))))
    simp [gameB, hg]
  · (apply sk_ret; apply ret_eq; (· apply RetOK.p; (· (apply GvA.cons; (· exact .tmp _); (· exact GvP.c (.lit _))); exact GvA.nil); (· (decide))))
    have h9 : ¬ (wi.length : Int) = x * y := by rw [← hw (by simp_all)]; omega
    simp [gameB, h9]
  have hs : sizeB x y = true := by simp_all
  have h1 : (ws.length : Int) = x * y := by rw [← hw hs]; simp_all
  have h2 : allB ws 0 99 = true := by simp_all
  have h3 : sum64 ws ≠ 0 := by simp_all
  have h4 : (wi.length : Int) = x * y := by rw [← hw hs]; simp_all
  apply sk_packC [44, 45, 46] [1] rfl; (· (repeat (first | exact Pf.nil | apply Pf.cons (.c rfl (.d rfl))))); (· (repeat (first | exact Pb.nil | (apply Pb.cons; (· apply Nb.box rfl; (repeat (first | exact Ncs.nil rfl | (apply Ncs.cons rfl; (· (exact .d rfl))))))))))
  refine sk_loopL [44, 45] [1] (fun k => [(46, iN k)]) (fun _ => []) (fun k => k ≤ wi.length ∧ (wi.take k).all (fun l => bitsB l 4) = true) (fun k => wi.length - k) (0) ?_ (by (repeat (first | exact trivial | refine ⟨(by (rfl)), ?_⟩))) (by (repeat (exact trivial))) ?_
  · simp
  rintro k ⟨hk, ha⟩
  repeat' (first | (refine so_is (.assign _) ?_; (refine so_q (qt_asC rfl) rfl ?_)) | (refine so_is (.unOp .not 4 _) ?_; refine so_q (qt_not rfl) rfl ?_) | (refine so_is (.move _) ?_; (refine so_q (qt_mvC rfl) rfl ?_)) | (refine so_is (.load 24 _) ?_; (refine so_q (qt_load_pt rfl (by kernel_rfl) rfl) rfl ?_)) | (refine so_is (.call ⟨.builtin .len, _, #[24]⟩) ?_; (refine so_q (qt_len_d rfl (by kernel_rfl)) rfl ?_)) | (refine so_is (.binOp .neq 3 _ _ _) ?_; refine so_q (qt_neq rfl rfl) rfl ?_) | (refine so_is (.pick _ _ _) ?_; (refine so_q (qt_pkC rfl rfl) rfl ?_)) | (refine so_is (.binOp .lss 3 _ _ _) ?_; refine so_q (qt_lss rfl rfl) rfl ?_) | (refine so_is (.indexAddr 25 _ _) ?_; (refine so_q (qt_idxII rfl rfl (by kernel_rfl) (by (omega)) (by (omega))) rfl ?_)) | (refine so_is (.binOp .add 3 _ _ _) ?_; refine so_q (qt_addI rfl rfl (by (omega))) rfl ?_) | (refine so_is (.call ⟨.value (.func 119), _, _⟩) ?_; (apply so_call0 (fid := 119); (· (repeat (first | exact SeA.nil | apply SeA.cons (.c (.d _))))); (· exact allWithin_p _ _ _); (· rfl))) | refine so_nil ?_ | refine so_g_no rfl rfl rfl rfl ?_ | refine so_g_yes rfl rfl rfl rfl ?_ | refine so_g_if rfl rfl (fun hg => ?_) (fun hg => ?_) | refine sk_seq ?_ | refine sk_block ?_ | refine sk_blk ?_ | refine sk_exit rfl ?_ | refine sk_skip ?_ | refine sk_region ?_ | refine sk_true rfl ?_ | refine sk_if rfl (fun hc => ?_) (fun hc => ?_) | refine sk_not rfl (fun hc => ?_) (fun hc => ?_))
  · have hk2 : k < wi.length := by omega
    rw [atZ_nat hk2] at hg
    (apply sk_ret; apply ret_eq; (· apply RetOK.p; (· (apply GvA.cons; (· exact .tmp _); (· exact GvP.c (.lit _))); exact GvA.nil); (· (decide))))
    have h9 : bitsB wi[k] 4 = false := by simp [bitsB]; omega
    simp only [gameB, all_f (p := fun l => bitsB l 4) hk2 h9]; simp
  · have hk2 : k < wi.length := by omega
    rw [atZ_nat hk2] at hc
    (apply sk_ret; apply ret_eq; (· apply RetOK.p; (· (apply GvA.cons; (· exact .tmp _); (· exact GvP.c (.lit _))); exact GvA.nil); (· (decide))))
    have h9 : bitsB wi[k] 4 = false := by simp [bitsB, hc]
    simp only [gameB, all_f (p := fun l => bitsB l 4) hk2 h9]; simp
  · have hk2 : k < wi.length := by omega
    rw [atZ_nat hk2] at hc hg
    have h9 : bitsB wi[k] 4 = true := by simp [bitsB, hc]; omega
    refine sk_back ?_; refine ⟨k + 1, ?_, ?_, le_at rfl (by (repeat (first | exact trivial | refine ⟨(by (rfl)), ?_⟩))) (by (repeat (first | exact trivial | refine ⟨rfl, ?_⟩))) (by (repeat (exact trivial))) (by (repeat (first | exact trivial | refine ⟨.inr rfl, ?_⟩)))⟩
    · exact ⟨by omega, by rw [take_succ_all _ _ _ hk2, ha, h9]; rfl⟩
    · omega
  · have : k = wi.length := by omega
    subst this
    rw [List.take_length] at ha
    (apply sk_ret; apply ret_eq; (· apply RetOK.p; (· (apply GvA.cons; (· exact .tmp _); (· exact GvP.c (.lit _))); exact GvA.nil); (· (decide))))
    simp [gameB, hs, h1, h2, h3, h4, ha]

end Go.Proofs.Ytefbiejoikpkmaa

namespace Go.Proofs.Ytefbiejoikpkmaa
open Go.RowKit
set_option linter.unusedSectionVars false
variable [Glb]
set_option maxRecDepth 10000
set_option maxHeartbeats 4000000
theorem SameByNames_no (X Y : Int) (ws : List Int) (wi : List (List Int)) (X2 Y2 : Int) (ws2 : List Int) (wi2 : List (List Int)) (h : nameB X Y ws wi X2 Y2 ws2 wi2 = false) :
    PC Try.prog 10 [.g [dI X, dI Y, eI ws, eII wi], .g [dI X2, dI Y2, eI ws2, eII wi2]] (.t [.c (dB false), .c (dB false)]) := by
  have i1 := IsGame_p X Y ws wi
  have i2 := IsGame_p X2 Y2 ws2 wi2
  unfold nameB at h
  cases h1 : gameB X Y ws wi with
  | false =>
    rw [h1] at i1
    refine pc_intro Try.func10 rfl rfl rfl (by kernel_rfl) rfl rfl ?_; intro _
    repeat' (first | (refine so_is (.box 27 _) ?_; refine so_box rfl rfl ?_) | (refine so_is (.assign _) ?_; (refine so_q (qt_asC rfl) rfl ?_)) | (refine so_is (.load 27 _) ?_; (refine so_q (qt_load_boxs rfl rfl (by kernel_rfl : tAgg _ 27 4 = true) rfl) rfl ?_)) | (refine so_is (.unOp .not 4 _) ?_; refine so_q (qt_not rfl) rfl ?_) | (refine so_is (.move _) ?_; (refine so_q (qt_mvC rfl) rfl ?_)) | (refine so_is (.pick _ _ _) ?_; (refine so_q (qt_pkC rfl rfl) rfl ?_)) | (refine so_is (.call ⟨.value (.func 29), _, _⟩) ?_; ((apply so_call0 (fid := 29); (· (repeat (first | exact SeA.nil | (apply SeA.cons; (· (apply SeP.g; (repeat (first | exact SeL.nil | apply SeL.cons (.d _))))))))); (· exact i1); (· rfl)))) | refine so_nil ?_ | refine so_g_no rfl rfl rfl rfl ?_ | refine sk_seq ?_ | refine sk_region (id := 0) ?_ | refine sk_region (id := 1) ?_ | refine sk_region (id := 2) ?_ | refine sk_true rfl ?_)
    all_goals first | (exfalso; simp_all; done) | skip
    all_goals (apply sk_ret; apply ret_eq; (· apply RetOK.t; (· (apply GvA.cons; (· exact .tmp _); (· exact GvP.c (.lit _))); (apply GvA.cons; (· exact .tmp _); (· exact GvP.c (.lit _))); exact GvA.nil); (· rfl); (· (decide))))
    all_goals rfl
  | true =>
    cases h2 : gameB X2 Y2 ws2 wi2 with
    | false =>
      rw [h1] at i1
      rw [h2] at i2
      refine pc_intro Try.func10 rfl rfl rfl (by kernel_rfl) rfl rfl ?_; intro _
      repeat' (first | (refine so_is (.box 27 _) ?_; refine so_box rfl rfl ?_) | (refine so_is (.assign _) ?_; (refine so_q (qt_asC rfl) rfl ?_)) | (refine so_is (.load 27 _) ?_; (refine so_q (qt_load_boxs rfl rfl (by kernel_rfl : tAgg _ 27 4 = true) rfl) rfl ?_)) | (refine so_is (.unOp .not 4 _) ?_; refine so_q (qt_not rfl) rfl ?_) | (refine so_is (.move _) ?_; (refine so_q (qt_mvC rfl) rfl ?_)) | (refine so_is (.pick _ _ _) ?_; (refine so_q (qt_pkC rfl rfl) rfl ?_)) | (refine so_is (.call ⟨.value (.func 29), _, _⟩) ?_; (first | (apply so_call0 (fid := 29); (· (repeat (first | exact SeA.nil | (apply SeA.cons; (· (apply SeP.g; (repeat (first | exact SeL.nil | apply SeL.cons (.d _))))))))); (· exact i1); (· rfl)) | (apply so_call0 (fid := 29); (· (repeat (first | exact SeA.nil | (apply SeA.cons; (· (apply SeP.g; (repeat (first | exact SeL.nil | apply SeL.cons (.d _))))))))); (· exact i2); (· rfl)))) | refine so_nil ?_ | refine so_g_no rfl rfl rfl rfl ?_ | refine so_g_yes rfl rfl rfl rfl ?_ | refine sk_seq ?_ | refine sk_region (id := 0) ?_ | refine sk_region (id := 1) ?_ | refine sk_region (id := 2) ?_ | refine sk_true rfl ?_)
      all_goals first | (exfalso; simp_all; done) | skip
      all_goals (apply sk_ret; apply ret_eq; (· apply RetOK.t; (· (apply GvA.cons; (· exact .tmp _); (· exact GvP.c (.lit _))); (apply GvA.cons; (· exact .tmp _); (· exact GvP.c (.lit _))); exact GvA.nil); (· rfl); (· (decide))))
      all_goals rfl
    | true =>
      rw [h1] at i1
      rw [h2] at i2
      rw [h1, h2] at h
      by_cases hX : X = X2
      · have hY : Y ≠ Y2 := fun e => by simp [hX, e] at h
        refine pc_intro Try.func10 rfl rfl rfl (by kernel_rfl) rfl rfl ?_; intro _
        repeat' (first | (refine so_is (.box 27 _) ?_; refine so_box rfl rfl ?_) | (refine so_is (.assign _) ?_; (refine so_q (qt_asC rfl) rfl ?_)) | (refine so_is (.load 27 _) ?_; (refine so_q (qt_load_boxs rfl rfl (by kernel_rfl : tAgg _ 27 4 = true) rfl) rfl ?_)) | (refine so_is (.unOp .not 4 _) ?_; refine so_q (qt_not rfl) rfl ?_) | (refine so_is (.move _) ?_; (refine so_q (qt_mvC rfl) rfl ?_)) | (refine so_is (.pick _ _ _) ?_; (refine so_q (qt_pkC rfl rfl) rfl ?_)) | (refine so_is (.fieldAddr 27 _ 0) ?_; (refine so_q (qt_fld_lp (off := 0) rfl (by kernel_rfl)) rfl ?_)) | (refine so_is (.load 3 _) ?_; (refine so_q (qt_load_box rfl rfl (by kernel_rfl) rfl) rfl ?_)) | (refine so_is (.binOp .neq 3 _ _ _) ?_; refine so_q (qt_neq rfl rfl) rfl ?_) | (refine so_is (.fieldAddr 27 _ 1) ?_; (refine so_q (qt_fld_lp (off := 1) rfl (by kernel_rfl)) rfl ?_)) | (refine so_is (.call ⟨.value (.func 29), _, _⟩) ?_; (first | (apply so_call0 (fid := 29); (· (repeat (first | exact SeA.nil | (apply SeA.cons; (· (apply SeP.g; (repeat (first | exact SeL.nil | apply SeL.cons (.d _))))))))); (· exact i1); (· rfl)) | (apply so_call0 (fid := 29); (· (repeat (first | exact SeA.nil | (apply SeA.cons; (· (apply SeP.g; (repeat (first | exact SeL.nil | apply SeL.cons (.d _))))))))); (· exact i2); (· rfl)))) | refine so_nil ?_ | refine so_g_no rfl rfl rfl rfl ?_ | refine so_g_yes rfl rfl rfl rfl ?_ | refine so_g_if rfl rfl (fun hg => ?_) (fun hg => ?_) | refine sk_seq ?_ | refine sk_skip ?_ | refine sk_region (id := 0) ?_ | refine sk_region (id := 1) ?_ | refine sk_region (id := 2) ?_ | refine sk_true rfl ?_ | refine sk_if rfl (fun hc => ?_) (fun hc => ?_))
        all_goals first | (exfalso; simp_all; done) | skip
        all_goals (apply sk_ret; apply ret_eq; (· apply RetOK.t; (· (apply GvA.cons; (· exact .tmp _); (· exact GvP.c (.lit _))); (apply GvA.cons; (· exact .tmp _); (· exact GvP.c (.lit _))); exact GvA.nil); (· rfl); (· (decide))))
        all_goals rfl
      · refine pc_intro Try.func10 rfl rfl rfl (by kernel_rfl) rfl rfl ?_; intro _
        repeat' (first | (refine so_is (.box 27 _) ?_; refine so_box rfl rfl ?_) | (refine so_is (.assign _) ?_; (refine so_q (qt_asC rfl) rfl ?_)) | (refine so_is (.load 27 _) ?_; (refine so_q (qt_load_boxs rfl rfl (by kernel_rfl : tAgg _ 27 4 = true) rfl) rfl ?_)) | (refine so_is (.unOp .not 4 _) ?_; refine so_q (qt_not rfl) rfl ?_) | (refine so_is (.move _) ?_; (refine so_q (qt_mvC rfl) rfl ?_)) | (refine so_is (.pick _ _ _) ?_; (refine so_q (qt_pkC rfl rfl) rfl ?_)) | (refine so_is (.fieldAddr 27 _ 0) ?_; (refine so_q (qt_fld_lp (off := 0) rfl (by kernel_rfl)) rfl ?_)) | (refine so_is (.load 3 _) ?_; (refine so_q (qt_load_box rfl rfl (by kernel_rfl) rfl) rfl ?_)) | (refine so_is (.binOp .neq 3 _ _ _) ?_; refine so_q (qt_neq rfl rfl) rfl ?_) | (refine so_is (.fieldAddr 27 _ 1) ?_; (refine so_q (qt_fld_lp (off := 1) rfl (by kernel_rfl)) rfl ?_)) | (refine so_is (.call ⟨.value (.func 29), _, _⟩) ?_; (first | (apply so_call0 (fid := 29); (· (repeat (first | exact SeA.nil | (apply SeA.cons; (· (apply SeP.g; (repeat (first | exact SeL.nil | apply SeL.cons (.d _))))))))); (· exact i1); (· rfl)) | (apply so_call0 (fid := 29); (· (repeat (first | exact SeA.nil | (apply SeA.cons; (· (apply SeP.g; (repeat (first | exact SeL.nil | apply SeL.cons (.d _))))))))); (· exact i2); (· rfl)))) | refine so_nil ?_ | refine so_g_no rfl rfl rfl rfl ?_ | refine so_g_yes rfl rfl rfl rfl ?_ | refine so_g_if rfl rfl (fun hg => ?_) (fun hg => ?_) | refine sk_seq ?_ | refine sk_skip ?_ | refine sk_region (id := 0) ?_ | refine sk_region (id := 1) ?_ | refine sk_region (id := 2) ?_ | refine sk_true rfl ?_ | refine sk_if rfl (fun hc => ?_) (fun hc => ?_))
        all_goals first | (exfalso; simp_all; done) | skip
        all_goals (apply sk_ret; apply ret_eq; (· apply RetOK.t; (· (apply GvA.cons; (· exact .tmp _); (· exact GvP.c (.lit _))); (apply GvA.cons; (· exact .tmp _); (· exact GvP.c (.lit _))); exact GvA.nil); (· rfl); (· (decide))))
        all_goals rfl
theorem SameByNames_p (X Y : Nat) (ws : List Int) (wi : List (List Int)) (ws2 : List Int) (wi2 : List (List Int)) (h : gameB X Y ws wi = true) (h2 : gameB X Y ws2 wi2 = true) :
    PC Try.prog 10 [.g [dI X, dI Y, eI ws, eII wi], .g [dI X, dI Y, eI ws2, eII wi2]] (.t [.c (dB (sameG X Y ws wi ws2 wi2)), .c (dB true)]) := by
  obtain ⟨x, y, e1, e2, hx, hy, wl, il, h9⟩ := game_nat h
  obtain rfl : X = x := by omega
  obtain rfl : Y = y := by omega
  have i1 := IsGame_p X Y ws wi
  have i2 := IsGame_p X Y ws2 wi2
  rw [h] at i1
  rw [h2] at i2
  have o1 := orders_p X (by omega)
  have o2 := orders_p Y (by omega)
  have pl := plays_p X Y (by omega)
  have l1 := ord_len (n := X) (by omega)
  have l2 := ord_len (n := Y) (by omega)
  have l3 : (playsF (X + Y)).length ≤ 64 := by
    simp only [playsF, List.length_map, List.length_range]
    exact Nat.le_trans (Nat.pow_le_pow_right (by omega) (by omega)) (by decide : 2 ^ 6 ≤ 64)
  have ea := fun i => ord_each (n := X) (by omega) (i := i)
  have eb := fun i => ord_each (n := Y) (by omega) (i := i)
  have ec : ∀ i : Nat, i < (playsF (X + Y)).length → bitsB (atZ (playsF (X + Y)) (i : Int)) ((X : Int) + Y) = true := fun i hi => by
    have := plays_mem.1 (mem_atZ hi)
    rwa [Int.natCast_add] at this
  have yes : ∀ i k n : Nat, i < (ordI X).length → k < (ordI Y).length → n < (playsF (X + Y)).length → sameT X Y ws wi ws2 wi2 (atZ (ordI X) i) (atZ (ordI Y) k) (atZ (playsF (X + Y)) n) = true → sameG X Y ws wi ws2 wi2 = true := fun i k n hi hk hn ht =>
    List.any_eq_true.2 ⟨_, mem_atZ hi, List.any_eq_true.2 ⟨_, mem_atZ hk, List.any_eq_true.2 ⟨_, mem_atZ hn, ht⟩⟩⟩
  have no : (∀ i k n : Nat, i < (ordI X).length → k < (ordI Y).length → n < (playsF (X + Y)).length → sameT X Y ws wi ws2 wi2 (atZ (ordI X) i) (atZ (ordI Y) k) (atZ (playsF (X + Y)) n) = false) → sameG X Y ws wi ws2 wi2 = false := fun hno => by
    rw [← Bool.not_eq_true]
    intro ht
    obtain ⟨f, hf, ht⟩ := List.any_eq_true.1 ht
    obtain ⟨s, hs, ht⟩ := List.any_eq_true.1 ht
    obtain ⟨q, hq, ht⟩ := List.any_eq_true.1 ht
    obtain ⟨i, hi, rfl⟩ := List.getElem_of_mem hf
    obtain ⟨k, hk, rfl⟩ := List.getElem_of_mem hs
    obtain ⟨n, hn, rfl⟩ := List.getElem_of_mem hq
    have := hno i k n hi hk hn
    rw [atZ_nat hi, atZ_nat hk, atZ_nat hn, ht] at this
    cases this
  have ask : ∀ f s q : List Int, orderB f X = true → orderB s Y = true → bitsB q ((X : Int) + Y) = true → PC Try.prog 93 [.g [dI X, dI Y, eI ws, eII wi], .c (eI f), .c (eI s), .c (eI q)] (.p (.g [dI f.length, dI s.length, eI (pairsF (askW Y ws) f s), eII (pairsF (askR X Y wi q) f s)])) := fun f s q hf hs hq => by
    have a := orderB_len hf
    have b := orderB_len hs
    exact asked_p X Y ws wi f s q h (fun x hx => orderB_mem (by omega) hf hx) (fun x hx => orderB_mem (by omega) hs hx) hq (by omega) (by omega)
  have eqp : ∀ f s q : List Int, PC Try.prog 94 [.g [dI f.length, dI s.length, eI (pairsF (askW Y ws) f s), eII (pairsF (askR X Y wi q) f s)], .g [dI X, dI Y, eI ws2, eII wi2]] (.p (.c (dB (sameT X Y ws wi ws2 wi2 f s q)))) := fun f s q => gameEqual_p _ _ _ _ _ _ _ _
  generalize ordI X = A at *
  generalize ordI Y = B at *
  generalize playsF (X + Y) = C at *
  generalize sameG X Y ws wi ws2 wi2 = R at *
  generalize sameT X Y ws wi ws2 wi2 = T at *
  refine pc_intro Try.func10 rfl rfl rfl (by kernel_rfl) rfl rfl ?_; intro _
  repeat' (first | (refine so_is (.box 27 _) ?_; refine so_box rfl rfl ?_) | (refine so_is (.assign _) ?_; (refine so_q (qt_asC rfl) rfl ?_)) | (refine so_is (.load 27 _) ?_; (refine so_q (qt_load_boxs rfl rfl (by kernel_rfl : tAgg _ 27 4 = true) rfl) rfl ?_)) | (refine so_is (.unOp .not 4 _) ?_; refine so_q (qt_not rfl) rfl ?_) | (refine so_is (.move _) ?_; (refine so_q (qt_mvC rfl) rfl ?_)) | (refine so_is (.pick _ _ _) ?_; (refine so_q (qt_pkC rfl rfl) rfl ?_)) | (refine so_is (.fieldAddr 27 _ 0) ?_; (refine so_q (qt_fld_lp (off := 0) rfl (by kernel_rfl)) rfl ?_)) | (refine so_is (.load 3 _) ?_; (refine so_q (qt_load_box rfl rfl (by kernel_rfl) rfl) rfl ?_)) | (refine so_is (.binOp .neq 3 _ _ _) ?_; refine so_q (qt_neq rfl rfl) rfl ?_) | (refine so_is (.fieldAddr 27 _ 1) ?_; (refine so_q (qt_fld_lp (off := 1) rfl (by kernel_rfl)) rfl ?_)) | (refine so_is (.call ⟨.builtin .len, _, #[25]⟩) ?_; (refine so_q (qt_len_d rfl (by kernel_rfl)) rfl ?_)) | (refine so_is (.call ⟨.value (.func 29), _, _⟩) ?_; (first | (apply so_call0 (fid := 29); (· (repeat (first | exact SeA.nil | (apply SeA.cons; (· (apply SeP.g; (repeat (first | exact SeL.nil | apply SeL.cons (.d _))))))))); (· exact i1); (· rfl)) | (apply so_call0 (fid := 29); (· (repeat (first | exact SeA.nil | (apply SeA.cons; (· (apply SeP.g; (repeat (first | exact SeL.nil | apply SeL.cons (.d _))))))))); (· exact i2); (· rfl)))) | (refine so_is (.call ⟨.value (.func 91), _, _⟩) ?_; ((apply so_call0 (fid := 91); (· (repeat (first | exact SeA.nil | apply SeA.cons (.c (.d _))))); (· exact o1); (· rfl)))) | refine so_nil ?_ | refine so_g_no rfl rfl rfl rfl ?_ | refine so_g_yes rfl rfl rfl rfl ?_ | refine so_g_if rfl rfl (fun hg => ?_) (fun hg => ?_) | refine sk_seq ?_ | refine sk_block ?_ | refine sk_skip ?_ | refine sk_region ?_ | refine sk_true rfl ?_ | refine sk_if rfl (fun hc => ?_) (fun hc => ?_))
  all_goals first | (exfalso; omega) | (exfalso; simp_all; done) | skip
  apply sk_packC [2, 3, 36, 37, 38] [2, 3, 36, 44, 54, 2064, 3064] rfl; (· (repeat (first | exact Pf.nil | apply Pf.cons (.c rfl (.d rfl)) | apply Pf.cons (.c rfl (.lp rfl))))); (· (repeat (first | exact Pb.nil | (apply Pb.cons; (· apply Nb.box rfl; (repeat (first | exact Ncs.nil rfl | (apply Ncs.cons rfl; (· (exact .d rfl))))))) | apply Pb.skip)))
  refine sk_loopL [2, 3, 36, 37] [2, 3, 36, 44, 54, 2064, 3064] (fun i => [(38, iN i)]) (fun _ => []) (fun i => i ≤ A.length ∧ ∀ i' k' n' : Nat, i' < i → k' < B.length → n' < C.length → T (atZ A i') (atZ B k') (atZ C n') = false) (fun i => A.length - i) (0) ?_ (by (repeat (first | exact trivial | refine ⟨(by (rfl)), ?_⟩))) (by (repeat (exact trivial))) ?_
  · exact ⟨Nat.zero_le _, fun i' k' n' h => by omega⟩
  rintro i ⟨hi, H1⟩
  by_cases hi2 : i < A.length
  · have ea := ea i hi2
    repeat' (first | (refine so_is (.assign _) ?_; (refine so_q (qt_asC rfl) rfl ?_)) | (refine so_is (.move _) ?_; (refine so_q (qt_mvC rfl) rfl ?_)) | (refine so_is (.load 3 _) ?_; (refine so_q (qt_load_box rfl rfl (by kernel_rfl) rfl) rfl ?_)) | (refine so_is (.fieldAddr 27 _ 1) ?_; (refine so_q (qt_fld_lp (off := 1) rfl (by kernel_rfl)) rfl ?_)) | (refine so_is (.call ⟨.builtin .len, _, #[25]⟩) ?_; (refine so_q (qt_len_d rfl (by kernel_rfl)) rfl ?_)) | (refine so_is (.binOp .lss 3 _ _ _) ?_; refine so_q (qt_lss rfl rfl) rfl ?_) | (refine so_is (.indexAddr 25 _ _) ?_; (refine so_q (qt_idxII rfl rfl (by kernel_rfl) (by (omega)) (by (omega))) rfl ?_)) | (refine so_is (.load 24 _) ?_; (refine so_q (qt_load_pt rfl (by kernel_rfl) rfl) rfl ?_)) | (refine so_is (.call ⟨.value (.func 91), _, _⟩) ?_; ((apply so_call0 (fid := 91); (· (repeat (first | exact SeA.nil | apply SeA.cons (.c (.d _))))); (· exact o2); (· rfl)))) | refine so_nil ?_ | refine sk_seq ?_ | refine sk_block ?_ | refine sk_exit rfl ?_ | refine sk_skip ?_ | refine sk_region ?_ | refine sk_if rfl (fun hc => ?_) (fun hc => ?_))
    all_goals first | (exfalso; omega) | (exfalso; simp_all; done) | skip
    apply sk_packC [2, 3, 7, 36, 37, 38, 44, 45, 46] [2, 3, 36, 44, 54, 2064, 3064] rfl; (· (repeat (first | exact Pf.nil | apply Pf.cons (.c rfl (.d rfl)) | apply Pf.cons (.c rfl (.lp rfl))))); (· (repeat (first | exact Pb.nil | (apply Pb.cons; (· apply Nb.box rfl; (repeat (first | exact Ncs.nil rfl | (apply Ncs.cons rfl; (· (exact .d rfl))))))) | apply Pb.skip)))
    refine sk_loopL [2, 3, 7, 36, 37, 38, 44, 45] [2, 3, 36, 44, 54, 2064, 3064] (fun k => [(46, iN k)]) (fun _ => []) (fun k => k ≤ B.length ∧ ∀ k' n' : Nat, k' < k → n' < C.length → T (atZ A i) (atZ B k') (atZ C n') = false) (fun k => B.length - k) (0) ?_ (by (repeat (first | exact trivial | refine ⟨(by (rfl)), ?_⟩))) (by (repeat (exact trivial))) ?_
    · exact ⟨Nat.zero_le _, fun k' n' h => by omega⟩
    rintro k ⟨hk, H2⟩
    by_cases hk2 : k < B.length
    · have eb := eb k hk2
      repeat' (first | (refine so_is (.assign _) ?_; (refine so_q (qt_asC rfl) rfl ?_)) | (refine so_is (.move _) ?_; (refine so_q (qt_mvC rfl) rfl ?_)) | (refine so_is (.fieldAddr 27 _ 0) ?_; (refine so_q (qt_fld_lp (off := 0) rfl (by kernel_rfl)) rfl ?_)) | (refine so_is (.load 3 _) ?_; (refine so_q (qt_load_box rfl rfl (by kernel_rfl) rfl) rfl ?_)) | (refine so_is (.fieldAddr 27 _ 1) ?_; (refine so_q (qt_fld_lp (off := 1) rfl (by kernel_rfl)) rfl ?_)) | (refine so_is (.call ⟨.builtin .len, _, #[25]⟩) ?_; (refine so_q (qt_len_d rfl (by kernel_rfl)) rfl ?_)) | (refine so_is (.binOp .lss 3 _ _ _) ?_; refine so_q (qt_lss rfl rfl) rfl ?_) | (refine so_is (.indexAddr 25 _ _) ?_; (refine so_q (qt_idxII rfl rfl (by kernel_rfl) (by (omega)) (by (omega))) rfl ?_)) | (refine so_is (.load 24 _) ?_; (refine so_q (qt_load_pt rfl (by kernel_rfl) rfl) rfl ?_)) | (refine so_is (.binOp .add 3 _ _ _) ?_; refine so_q (qt_addI rfl rfl (by (omega))) rfl ?_) | (refine so_is (.call ⟨.value (.func 92), _, _⟩) ?_; (apply so_call0 (fid := 92); (· (repeat (first | exact SeA.nil | apply SeA.cons (.c (.d _))))); (· exact pl); (· rfl))) | refine so_nil ?_ | refine sk_seq ?_ | refine sk_block ?_ | refine sk_blk ?_ | refine sk_exit rfl ?_ | refine sk_skip ?_ | refine sk_region ?_ | refine sk_if rfl (fun hc => ?_) (fun hc => ?_))
      all_goals first | (exfalso; omega) | (exfalso; simp_all; done) | skip
      apply sk_packC [2, 3, 7, 9, 36, 37, 38, 44, 45, 46, 54, 55, 56] [2, 3, 36, 44, 54, 2064, 3064] rfl; (· (repeat (first | exact Pf.nil | apply Pf.cons (.c rfl (.d rfl)) | apply Pf.cons (.c rfl (.lp rfl))))); (· (repeat (first | exact Pb.nil | (apply Pb.cons; (· apply Nb.box rfl; (repeat (first | exact Ncs.nil rfl | (apply Ncs.cons rfl; (· (exact .d rfl))))))) | apply Pb.skip)))
      refine sk_loopL [2, 3, 7, 9, 36, 37, 38, 44, 45, 46, 54, 55] [2, 3, 36, 44, 54, 2064, 3064] (fun n => [(56, iN n)]) (fun _ => []) (fun n => n ≤ C.length ∧ ∀ n' : Nat, n' < n → T (atZ A i) (atZ B k) (atZ C n') = false) (fun n => C.length - n) (0) ?_ (by (repeat (first | exact trivial | refine ⟨(by (rfl)), ?_⟩))) (by (repeat (exact trivial))) ?_
      · exact ⟨Nat.zero_le _, fun n' h => by omega⟩
      rintro n ⟨hn, H3⟩
      by_cases hn2 : n < C.length
      · have ak := ask _ _ _ ea.2 eb.2 (ec n hn2)
        have ep := eqp (atZ A (i : Int)) (atZ B (k : Int)) (atZ C (n : Int))
        have ys := yes i k n hi2 hk2 hn2
        cases ht : T (atZ A i) (atZ B k) (atZ C n) with
        | true =>
          rw [ht] at ep
          repeat' (first | (refine so_is (.assign _) ?_; (refine so_q (qt_asC rfl) rfl ?_)) | (refine so_is (.load 27 _) ?_; (refine so_q (qt_load_boxs rfl rfl (by kernel_rfl : tAgg _ 27 4 = true) rfl) rfl ?_)) | (refine so_is (.move _) ?_; (refine so_q (qt_mvC rfl) rfl ?_)) | (refine so_is (.binOp .lss 3 _ _ _) ?_; refine so_q (qt_lss rfl rfl) rfl ?_) | (refine so_is (.indexAddr 25 _ _) ?_; (refine so_q (qt_idxII rfl rfl (by kernel_rfl) (by (omega)) (by (omega))) rfl ?_)) | (refine so_is (.load 24 _) ?_; (refine so_q (qt_load_pt rfl (by kernel_rfl) rfl) rfl ?_)) | (refine so_is (.binOp .add 3 _ _ _) ?_; refine so_q (qt_addI rfl rfl (by (omega))) rfl ?_) | (refine so_is (.call ⟨.value (.func 93), _, _⟩) ?_; ((apply so_call0 (fid := 93); (· (repeat (first | exact SeA.nil | apply SeA.cons (.c (.d _)) | (apply SeA.cons; (· (apply SeP.g; (repeat (first | exact SeL.nil | apply SeL.cons (.d _))))))))); (· exact ak); (· rfl)))) | (refine so_is (.call ⟨.value (.func 94), _, _⟩) ?_; ((apply so_call0 (fid := 94); (· (repeat (first | exact SeA.nil | (apply SeA.cons; (· (apply SeP.g; (repeat (first | exact SeL.nil | apply SeL.cons (.d _))))))))); (· exact ep); (· rfl)))) | refine so_nil ?_ | refine sk_seq ?_ | refine sk_block ?_ | refine sk_blk ?_ | refine sk_exit rfl ?_ | refine sk_skip ?_ | refine sk_region ?_ | refine sk_drawQ 12 (fun _ => false) (.step 0 true (.step 1 true (.step 2 true (.step 3 true (.step 5 true (.step 4 false (.step 6 false .nil))))))) [(0, 127, 127, false), (0, 127, 127, true), (0, 127, 127, true), (0, 127, 127, true), (15, 112, 127, false), (0, 127, 127, false), (48, 79, 127, false)] (by kernel_rfl) (by kernel_rfl) ?_ | refine sk_true rfl ?_ | refine sk_if rfl (fun hc => ?_) (fun hc => ?_))
          all_goals first | (exfalso; omega) | (exfalso; simp_all; done) | skip
          all_goals (apply sk_ret; apply ret_eq; (· apply RetOK.t; (· (apply GvA.cons; (· exact .tmp _); (· exact GvP.c (.lit _))); (apply GvA.cons; (· exact .tmp _); (· exact GvP.c (.lit _))); exact GvA.nil); (· rfl); (· (decide))))
          all_goals rw [ys ht]
        | false =>
          rw [ht] at ep
          repeat' (first | (refine so_is (.assign _) ?_; (refine so_q (qt_asC rfl) rfl ?_)) | (refine so_is (.load 27 _) ?_; (refine so_q (qt_load_boxs rfl rfl (by kernel_rfl : tAgg _ 27 4 = true) rfl) rfl ?_)) | (refine so_is (.move _) ?_; (refine so_q (qt_mvC rfl) rfl ?_)) | (refine so_is (.binOp .lss 3 _ _ _) ?_; refine so_q (qt_lss rfl rfl) rfl ?_) | (refine so_is (.indexAddr 25 _ _) ?_; (refine so_q (qt_idxII rfl rfl (by kernel_rfl) (by (omega)) (by (omega))) rfl ?_)) | (refine so_is (.load 24 _) ?_; (refine so_q (qt_load_pt rfl (by kernel_rfl) rfl) rfl ?_)) | (refine so_is (.binOp .add 3 _ _ _) ?_; refine so_q (qt_addI rfl rfl (by (omega))) rfl ?_) | (refine so_is (.call ⟨.value (.func 93), _, _⟩) ?_; ((apply so_call0 (fid := 93); (· (repeat (first | exact SeA.nil | apply SeA.cons (.c (.d _)) | (apply SeA.cons; (· (apply SeP.g; (repeat (first | exact SeL.nil | apply SeL.cons (.d _))))))))); (· exact ak); (· rfl)))) | (refine so_is (.call ⟨.value (.func 94), _, _⟩) ?_; ((apply so_call0 (fid := 94); (· (repeat (first | exact SeA.nil | (apply SeA.cons; (· (apply SeP.g; (repeat (first | exact SeL.nil | apply SeL.cons (.d _))))))))); (· exact ep); (· rfl)))) | refine so_nil ?_ | refine sk_seq ?_ | refine sk_block ?_ | refine sk_blk ?_ | refine sk_exit rfl ?_ | refine sk_skip ?_ | refine sk_region ?_ | refine sk_drawQ 12 (fun _ => false) (.step 0 true (.step 1 true (.step 2 true (.step 3 true (.step 5 true (.step 4 false (.step 6 false .nil))))))) [(0, 127, 127, false), (0, 127, 127, true), (0, 127, 127, true), (0, 127, 127, true), (15, 112, 127, false), (0, 127, 127, false), (48, 79, 127, false)] (by kernel_rfl) (by kernel_rfl) ?_ | refine sk_false rfl ?_ | refine sk_if rfl (fun hc => ?_) (fun hc => ?_))
          all_goals first | (exfalso; omega) | (exfalso; simp_all; done) | skip
          refine sk_back ?_; refine ⟨n + 1, ?_, ?_, le_at rfl (by (repeat (first | exact trivial | refine ⟨(by (rfl)), ?_⟩))) (by (repeat (first | exact trivial | refine ⟨rfl, ?_⟩))) (by (repeat (exact trivial))) (by (repeat (first | exact trivial | refine ⟨.inr rfl, ?_⟩)))⟩
          · refine ⟨by omega, fun n' h => ?_⟩
            rcases Nat.lt_succ_iff_lt_or_eq.1 h with h | rfl
            · exact H3 n' h
            · exact ht
          · omega
      · have e : n = C.length := by omega
        subst e
        repeat' (first | (refine so_is (.assign _) ?_; (refine so_q (qt_asC rfl) rfl ?_)) | (refine so_is (.load 27 _) ?_; (refine so_q (qt_load_boxs rfl rfl (by kernel_rfl : tAgg _ 27 4 = true) rfl) rfl ?_)) | (refine so_is (.move _) ?_; (refine so_q (qt_mvC rfl) rfl ?_)) | (refine so_is (.binOp .lss 3 _ _ _) ?_; refine so_q (qt_lss rfl rfl) rfl ?_) | (refine so_is (.indexAddr 25 _ _) ?_; (refine so_q (qt_idxII rfl rfl (by kernel_rfl) (by (omega)) (by (omega))) rfl ?_)) | (refine so_is (.load 24 _) ?_; (refine so_q (qt_load_pt rfl (by kernel_rfl) rfl) rfl ?_)) | (refine so_is (.binOp .add 3 _ _ _) ?_; refine so_q (qt_addI rfl rfl (by (omega))) rfl ?_) | refine so_nil ?_ | refine sk_seq ?_ | refine sk_block ?_ | refine sk_blk ?_ | refine sk_exit rfl ?_ | refine sk_skip ?_ | refine sk_region ?_ | refine sk_drawQ 12 (fun _ => false) (.step 0 true (.step 1 true (.step 2 true (.step 3 true (.step 5 true (.step 4 false (.step 6 false .nil))))))) [(0, 127, 127, false), (0, 127, 127, true), (0, 127, 127, true), (0, 127, 127, true), (15, 112, 127, false), (0, 127, 127, false), (48, 79, 127, false)] (by kernel_rfl) (by kernel_rfl) ?_ | refine sk_if rfl (fun hc => ?_) (fun hc => ?_))
        all_goals first | (exfalso; omega) | (exfalso; simp_all; done) | skip
        refine sk_back ?_; refine ⟨k + 1, ?_, ?_, le_at rfl (by (repeat (first | exact trivial | refine ⟨(by (rfl)), ?_⟩))) (by (repeat (first | exact trivial | refine ⟨rfl, ?_⟩))) (by (repeat (exact trivial))) (by (repeat (first | exact trivial | refine ⟨.inr rfl, ?_⟩)))⟩
        · refine ⟨by omega, fun k' n' h hn' => ?_⟩
          rcases Nat.lt_succ_iff_lt_or_eq.1 h with h | rfl
          · exact H2 k' n' h hn'
          · exact H3 n' hn'
        · omega
    · have e : k = B.length := by omega
      subst e
      repeat' (first | (refine so_is (.assign _) ?_; (refine so_q (qt_asC rfl) rfl ?_)) | (refine so_is (.move _) ?_; (refine so_q (qt_mvC rfl) rfl ?_)) | (refine so_is (.fieldAddr 27 _ 0) ?_; (refine so_q (qt_fld_lp (off := 0) rfl (by kernel_rfl)) rfl ?_)) | (refine so_is (.load 3 _) ?_; (refine so_q (qt_load_box rfl rfl (by kernel_rfl) rfl) rfl ?_)) | (refine so_is (.fieldAddr 27 _ 1) ?_; (refine so_q (qt_fld_lp (off := 1) rfl (by kernel_rfl)) rfl ?_)) | (refine so_is (.binOp .lss 3 _ _ _) ?_; refine so_q (qt_lss rfl rfl) rfl ?_) | (refine so_is (.indexAddr 25 _ _) ?_; (refine so_q (qt_idxII rfl rfl (by kernel_rfl) (by (omega)) (by (omega))) rfl ?_)) | (refine so_is (.load 24 _) ?_; (refine so_q (qt_load_pt rfl (by kernel_rfl) rfl) rfl ?_)) | (refine so_is (.binOp .add 3 _ _ _) ?_; refine so_q (qt_addI rfl rfl (by (omega))) rfl ?_) | refine so_nil ?_ | refine sk_seq ?_ | refine sk_block ?_ | refine sk_blk ?_ | refine sk_exit rfl ?_ | refine sk_skip ?_ | refine sk_region ?_ | refine sk_if rfl (fun hc => ?_) (fun hc => ?_))
      all_goals first | (exfalso; omega) | (exfalso; simp_all; done) | skip
      refine sk_back ?_; refine ⟨i + 1, ?_, ?_, le_at rfl (by (repeat (first | exact trivial | refine ⟨(by (rfl)), ?_⟩))) (by (repeat (first | exact trivial | refine ⟨rfl, ?_⟩))) (by (repeat (exact trivial))) (by (repeat (first | exact trivial | refine ⟨.inr rfl, ?_⟩)))⟩
      · refine ⟨by omega, fun i' k' n' h hk' hn' => ?_⟩
        rcases Nat.lt_succ_iff_lt_or_eq.1 h with h | rfl
        · exact H1 i' k' n' h hk' hn'
        · exact H2 k' n' hk' hn'
      · omega
  · have e : i = A.length := by omega
    subst e
    repeat' (first | (refine so_is (.assign _) ?_; (refine so_q (qt_asC rfl) rfl ?_)) | (refine so_is (.load 3 _) ?_; (refine so_q (qt_load_box rfl rfl (by kernel_rfl) rfl) rfl ?_)) | (refine so_is (.fieldAddr 27 _ 1) ?_; (refine so_q (qt_fld_lp (off := 1) rfl (by kernel_rfl)) rfl ?_)) | (refine so_is (.binOp .lss 3 _ _ _) ?_; refine so_q (qt_lss rfl rfl) rfl ?_) | (refine so_is (.indexAddr 25 _ _) ?_; (refine so_q (qt_idxII rfl rfl (by kernel_rfl) (by (omega)) (by (omega))) rfl ?_)) | (refine so_is (.load 24 _) ?_; (refine so_q (qt_load_pt rfl (by kernel_rfl) rfl) rfl ?_)) | refine so_nil ?_ | refine sk_seq ?_ | refine sk_block ?_ | refine sk_exit rfl ?_ | refine sk_skip ?_ | refine sk_region ?_ | refine sk_if rfl (fun hc => ?_) (fun hc => ?_))
    all_goals first | (exfalso; omega) | (exfalso; simp_all; done) | skip
    all_goals (apply sk_ret; apply ret_eq; (· apply RetOK.t; (· (apply GvA.cons; (· exact .tmp _); (· exact GvP.c (.lit _))); (apply GvA.cons; (· exact .tmp _); (· exact GvP.c (.lit _))); exact GvA.nil); (· rfl); (· (decide))))
    all_goals rw [no fun i k n hi hk hn => H1 i k n hi hk hn]

end Go.Proofs.Ytefbiejoikpkmaa
