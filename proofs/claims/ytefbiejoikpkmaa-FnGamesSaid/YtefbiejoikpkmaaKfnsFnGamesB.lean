/- What the functions that FnGames reaches return: part of its proof. No condition beyond those of its theorems. -/
import Derived.WalkKit
import Derived.Test.YtefbiejoikpkmaaKfnsFnGamesA
import Derived.Test.YtefbiejoikpkmaaKplainC
import Derived.Laws.StructEq
import Derived.Test.YtefbiejoikpkmaaKplainA
import Derived.Test.YtefbiejoikpkmaaKplainB
import Derived.Test.YtefbiejoikpkmaaKplainD
set_option linter.unusedVariables false
set_option linter.unusedSimpArgs false
namespace Go.Proofs.Ytefbiejoikpkmaa
open Go.RowKit
set_option linter.unusedSectionVars false
variable [Glb]
/-! trimmed games -/
theorem pairsF_size {α : Type} (h : Int → Int → α) (m : List Int) : ∀ l : List Int, (pairsF h l m).length = l.length * m.length
  | [] => by simp [pairsF]
  | a :: l => by
    have e : pairsF h (a :: l) m = m.map (fun y => h a y) ++ pairsF h l m := rfl
    rw [e, List.length_append, List.length_map, pairsF_size h m l, List.length_cons, Nat.add_mul, Nat.one_mul, Nat.add_comm]
theorem pairsF_at {α : Type} [Inhabited α] (h : Int → Int → α) (m : List Int) : ∀ {l : List Int} {i k : Nat}, i < l.length → k < m.length → atZ (pairsF h l m) ((i : Int) * m.length + k) = h (atZ l i) (atZ m k)
  | [], i, k, hi, _ => absurd hi (Nat.not_lt_zero _)
  | a :: l, 0, k, _, hk => by
    have e : pairsF h (a :: l) m = m.map (fun y => h a y) ++ pairsF h l m := rfl
    have e2 : ((0 : Nat) : Int) * m.length + k = ((k : Nat) : Int) := by simp
    rw [e2, atZ_nat (by rw [pairsF_size, List.length_cons, Nat.add_mul]; omega), atZ_nat (show 0 < (a :: l).length by simp), atZ_nat hk]
    simp only [e]
    rw [List.getElem_append_left (by simpa using hk)]
    simp
  | a :: l, i + 1, k, hi, hk => by
    have e : pairsF h (a :: l) m = m.map (fun y => h a y) ++ pairsF h l m := rfl
    have hi2 : i < l.length := by simpa using hi
    have ih := pairsF_at h m (l := l) (i := i) (k := k) hi2 hk
    have lt : i * m.length + k < l.length * m.length := by
      have : (i + 1) * m.length ≤ l.length * m.length := Nat.mul_le_mul_right _ (by omega)
      rw [Nat.add_mul, Nat.one_mul] at this
      omega
    have e2 : ((i + 1 : Nat) : Int) * m.length + k = ((m.length + (i * m.length + k) : Nat) : Int) := by
      rw [Int.natCast_add, Int.natCast_add, Int.natCast_add, Int.natCast_mul, Int.add_mul]
      simp only [Int.natCast_one, Int.one_mul]
      omega
    have e3 : (i : Int) * m.length + k = ((i * m.length + k : Nat) : Int) := by rw [Int.natCast_add, Int.natCast_mul]
    rw [e3, atZ_nat (by rw [pairsF_size]; exact lt)] at ih
    rw [e2, atZ_nat (by rw [pairsF_size, List.length_cons, Nat.add_mul]; omega), atZ_nat hi, atZ_nat hk]
    rw [atZ_nat hi2, atZ_nat hk] at ih
    simp only [e]
    rw [List.getElem_append_right (by simp)]
    simp only [List.length_map, Nat.add_sub_cancel_left, List.getElem_cons_succ]
    exact ih
theorem used_sum (P : Nat → Bool) (f : Int → Int) (n : Nat) : accT (fun i => f (atZ (usedL n P) (i : Int))) (usedL n P).length = accT (fun x => if P x = true then f (x : Int) else 0) n := by
  rw [accT_map f (usedL n P) (Nat.le_refl _), List.take_length]
  induction n with
  | zero => simp [usedL, accT]
  | succ n ih =>
    rw [usedL_succ]
    simp only [accT, ← ih]
    by_cases h : P n = true
    · simp [h]
    · simp [h]
theorem used_rank (P : Nat → Bool) : ∀ {n i : Nat}, i < (usedL n P).length → ∃ x, x < n ∧ P x = true ∧ atZ (usedL n P) (i : Int) = (x : Int) ∧ (usedL x P).length = i
  | 0, i, h => by simp [usedL] at h
  | n + 1, i, h => by
    have e := usedL_succ n P
    by_cases hP : P n = true
    · rw [if_pos hP] at e
      by_cases hi : i < (usedL n P).length
      · obtain ⟨x, h1, h2, h3, h4⟩ := used_rank P hi
        exact ⟨x, by omega, h2, by rw [e, atZ_left hi]; exact h3, h4⟩
      · have hi2 : i = (usedL n P).length := by rw [e] at h; simp at h; omega
        refine ⟨n, by omega, hP, ?_, hi2.symm⟩
        rw [e, hi2]
        have := atZ_right (l := usedL n P) (m := [(n : Int)]) (n := (usedL n P).length) (i := 0) rfl (by simp)
        have e9 : atZ [(n : Int)] ((0 : Nat) : Int) = (n : Int) := rfl
        rw [e9] at this
        simpa using this
    · rw [if_neg hP] at e
      obtain ⟨x, h1, h2, h3, h4⟩ := used_rank P (n := n) (i := i) (by rw [← e]; exact h)
      exact ⟨x, by omega, h2, by rw [e]; exact h3, h4⟩
/-- what a play says to some questions -/
def restr (fs ss : List Int) (X : Nat) (q : List Int) : List Int := fs.map (fun x => atZ q x) ++ ss.map (fun y => atZ q ((X : Int) + y))
theorem atZ_map {f : Int → Int} {l : List Int} {i : Nat} (h : i < l.length) : atZ (l.map f) (i : Int) = f (atZ l (i : Int)) := by
  rw [atZ_nat (by simpa using h), atZ_nat h]; simp
theorem restr_score {X Y : Nat} {ws : List Int} {wi : List (List Int)} (P Q : Nat → Bool) (q : List Int) (hz : ∀ x y, x < X → y < Y → ¬ (P x = true ∧ Q y = true) → atZ ws ((x : Int) * Y + y) = 0) :
    scoG (usedL X P).length (usedL Y Q).length (pairsF (askW Y ws) (usedL X P) (usedL Y Q)) (pairsF (askO Y wi) (usedL X P) (usedL Y Q)) (restr (usedL X P) (usedL Y Q) X q) = scoG X Y ws wi q := by
  rw [scoG_sum, scoG_sum]
  let G : Int → Int → Int := fun x y => atZ ws (x * Y + y) * atZ (atZ wi (x * Y + y)) (2 * atZ q x + atZ q ((X : Int) + y))
  have e1 : accT (fun x : Nat => accT (fun y : Nat => atZ (pairsF (askW Y ws) (usedL X P) (usedL Y Q)) ((x : Int) * (usedL Y Q).length + y) * atZ (atZ (pairsF (askO Y wi) (usedL X P) (usedL Y Q)) ((x : Int) * (usedL Y Q).length + y)) (2 * atZ (restr (usedL X P) (usedL Y Q) X q) (x : Int) + atZ (restr (usedL X P) (usedL Y Q) X q) (((usedL X P).length : Int) + y))) (usedL Y Q).length) (usedL X P).length
      = accT (fun i : Nat => accT (fun k : Nat => G (atZ (usedL X P) (i : Int)) (atZ (usedL Y Q) (k : Int))) (usedL Y Q).length) (usedL X P).length := by
    refine accT_congr fun i hi => accT_congr fun k hk => ?_
    rw [pairsF_at (askW Y ws) (usedL Y Q) hi hk, pairsF_at (askO Y wi) (usedL Y Q) hi hk]
    unfold restr
    rw [atZ_left (by simpa using hi), atZ_right (n := (usedL X P).length) (by simp) (by simpa using hk), atZ_map hi, atZ_map hk]
    rfl
  rw [e1]
  have e2 : ∀ i, i < (usedL X P).length → accT (fun k : Nat => G (atZ (usedL X P) (i : Int)) (atZ (usedL Y Q) (k : Int))) (usedL Y Q).length = accT (fun y => if Q y = true then G (atZ (usedL X P) (i : Int)) (y : Int) else 0) Y := fun i _ => used_sum Q (fun z => G (atZ (usedL X P) (i : Int)) z) Y
  rw [accT_congr e2, used_sum P (fun z => accT (fun y => if Q y = true then G z (y : Int) else 0) Y) X]
  refine accT_congr fun x hx => ?_
  by_cases hP : P x = true
  · rw [if_pos hP]
    refine accT_congr fun y hy => ?_
    by_cases hQ : Q y = true
    · rw [if_pos hQ]
    · rw [if_neg hQ, hz x y hx hy (fun h => hQ h.2), Int.zero_mul]
  · rw [if_neg hP]
    refine (accT_zero fun y hy => ?_).symm
    rw [hz x y hx hy (fun h => hP h.1), Int.zero_mul]
theorem restr_bits {X Y : Nat} {P Q : Nat → Bool} {q : List Int} (hq : bitsB q ((X : Int) + Y) = true) : bitsB (restr (usedL X P) (usedL Y Q) X q) (((usedL X P).length : Int) + (usedL Y Q).length) = true := by
  unfold bitsB allB
  rw [Bool.and_eq_true, decide_eq_true_eq, List.all_eq_true]
  refine ⟨by simp [restr], fun v hv => ?_⟩
  unfold restr at hv
  rcases List.mem_append.1 hv with hv | hv
  · obtain ⟨x, hx, rfl⟩ := List.mem_map.1 hv
    have := usedL_mem hx
    exact inB_iff.2 (bitsB_at hq (by omega) (by omega))
  · obtain ⟨y, hy, rfl⟩ := List.mem_map.1 hv
    have := usedL_mem hy
    exact inB_iff.2 (bitsB_at hq (by omega) (by omega))
/-- a play that says so -/
def extd (P Q : Nat → Bool) (X Y : Nat) (p : List Int) : List Int := rowF (fun x => if P x = true then atZ p ((usedL x P).length : Int) else 0) X ++ rowF (fun y => if Q y = true then atZ p (((usedL X P).length : Int) + (usedL y Q).length) else 0) Y
theorem used_mono (P : Nat → Bool) {x n : Nat} (hx : x < n) (hP : P x = true) : (usedL x P).length < (usedL n P).length := by
  induction n with
  | zero => omega
  | succ n ih =>
    rw [usedL_succ]
    by_cases e : x = n
    · subst e; rw [if_pos hP]; simp
    · have := ih (by omega)
      split <;> simp <;> omega
theorem extd_bits {X Y : Nat} {P Q : Nat → Bool} {p : List Int} (hp : bitsB p (((usedL X P).length : Int) + (usedL Y Q).length) = true) : bitsB (extd P Q X Y p) ((X : Int) + Y) = true := by
  unfold bitsB allB
  rw [Bool.and_eq_true, decide_eq_true_eq, List.all_eq_true]
  refine ⟨by simp [extd], fun v hv => ?_⟩
  unfold extd rowF at hv
  rcases List.mem_append.1 hv with hv | hv
  · obtain ⟨x, hx, rfl⟩ := List.mem_map.1 hv
    have hx := List.mem_range.1 hx
    split
    · rename_i h
      have := used_mono P hx h
      exact inB_iff.2 (bitsB_at hp (by omega) (by omega))
    · decide
  · obtain ⟨y, hy, rfl⟩ := List.mem_map.1 hv
    have hy := List.mem_range.1 hy
    split
    · rename_i h
      have := used_mono Q hy h
      exact inB_iff.2 (bitsB_at hp (by omega) (by omega))
    · decide
theorem restr_extd {X Y : Nat} {P Q : Nat → Bool} {p : List Int} (hp : bitsB p (((usedL X P).length : Int) + (usedL Y Q).length) = true) : restr (usedL X P) (usedL Y Q) X (extd P Q X Y p) = p := by
  have hl := bitsB_len hp
  have key : ∀ j : Nat, j < p.length → atZ (restr (usedL X P) (usedL Y Q) X (extd P Q X Y p)) (j : Int) = atZ p (j : Int) := fun j hj => by
    by_cases h1 : j < (usedL X P).length
    · obtain ⟨x, hx, hP, e, r⟩ := used_rank P h1
      unfold restr
      rw [atZ_left (by simpa using h1), atZ_map h1, e]
      unfold extd
      rw [atZ_left (by simpa using hx), rowF_atZ _ hx, if_pos hP, r]
    · obtain ⟨k, rfl⟩ : ∃ k, j = (usedL X P).length + k := ⟨j - (usedL X P).length, by omega⟩
      have h2 : k < (usedL Y Q).length := by omega
      obtain ⟨y, hy, hQ, e, r⟩ := used_rank Q h2
      unfold restr
      rw [Int.natCast_add, atZ_right (n := (usedL X P).length) (by simp) (by simpa using h2), atZ_map h2, e]
      unfold extd
      rw [atZ_right (n := X) (by simp) (by simpa using hy), rowF_atZ _ hy, if_pos hQ, r]
  have hlen : (restr (usedL X P) (usedL Y Q) X (extd P Q X Y p)).length = p.length := by simp [restr]; omega
  refine List.ext_getElem hlen fun j h1 h2 => ?_
  have := key j h2
  rw [atZ_nat h1, atZ_nat h2] at this
  exact this
theorem value_part {X Y : Nat} {ws : List Int} {wi : List (List Int)} (P Q : Nat → Bool) (hz : ∀ x y, x < X → y < Y → ¬ (P x = true ∧ Q y = true) → atZ ws ((x : Int) * Y + y) = 0) :
    valueG (usedL X P).length (usedL Y Q).length (pairsF (askW Y ws) (usedL X P) (usedL Y Q)) (pairsF (askO Y wi) (usedL X P) (usedL Y Q)) = valueG X Y ws wi := by
  apply Int.le_antisymm
  · obtain ⟨p, hp, e⟩ := value_at (usedL X P).length (usedL Y Q).length (pairsF (askW Y ws) (usedL X P) (usedL Y Q)) (pairsF (askO Y wi) (usedL X P) (usedL Y Q))
    rw [← e, ← restr_extd hp, restr_score P Q _ hz]
    exact value_le (extd_bits hp)
  · obtain ⟨q, hq, e⟩ := value_at X Y ws wi
    rw [← e, ← restr_score P Q q hz]
    exact value_le (restr_bits hq)
theorem pairsF_mem {α : Type} {h : Int → Int → α} {l m : List Int} {v : α} (hv : v ∈ pairsF h l m) : ∃ x y, x ∈ l ∧ y ∈ m ∧ v = h x y := by
  unfold pairsF at hv
  obtain ⟨x, hx, hv⟩ := List.mem_flatMap.1 hv
  obtain ⟨y, hy, rfl⟩ := List.mem_map.1 hv
  exact ⟨x, y, hx, hy, rfl⟩
theorem used_nat {P : Nat → Bool} {n : Nat} {x : Int} (h : x ∈ usedL n P) : ∃ k : Nat, x = k ∧ k < n ∧ P k = true := by
  unfold usedL at h
  obtain ⟨k, hk, rfl⟩ := List.mem_map.1 h
  rw [List.mem_filter] at hk
  exact ⟨k, rfl, List.mem_range.1 hk.1, hk.2⟩
theorem used_in {P : Nat → Bool} {n k : Nat} (h : k < n) (hP : P k = true) : (k : Int) ∈ usedL n P := by
  unfold usedL
  exact List.mem_map.2 ⟨k, List.mem_filter.2 ⟨List.mem_range.2 h, hP⟩, rfl⟩
theorem game_part {X Y : Nat} {ws : List Int} {wi : List (List Int)} (P Q : Nat → Bool) (h : gameB X Y ws wi = true) (hz : ∀ x y, x < X → y < Y → ¬ (P x = true ∧ Q y = true) → atZ ws ((x : Int) * Y + y) = 0) :
    gameB (usedL X P).length (usedL Y Q).length (pairsF (askW Y ws) (usedL X P) (usedL Y Q)) (pairsF (askO Y wi) (usedL X P) (usedL Y Q)) = true := by
  obtain ⟨x, y, e1, e2, hx, hy, wl, il, h9⟩ := game_nat h
  obtain rfl : X = x := by omega
  obtain rfl : Y = y := by omega
  have g := gameB_spec h
  have some_t : ∃ t, t < ws.length ∧ atZ ws (t : Int) ≠ 0 := by
    apply Classical.byContradiction
    intro hn
    have z : totG ws = 0 := accT_zero fun t ht => Classical.byContradiction fun h0 => hn ⟨t, ht, h0⟩
    exact g.s0 ((totG_64 (by omega) g.wb).1.trans z)
  obtain ⟨t, ht, ht0⟩ := some_t
  obtain ⟨hi, hk, e⟩ := pair_split (X := X) (Y := Y) (t := t) (by omega)
  have e3 := pair_cast Y (t / Y) (t % Y)
  rw [e] at e3
  have hPQ : P (t / Y) = true ∧ Q (t % Y) = true := Classical.byContradiction fun hn => ht0 (by rw [e3]; exact hz _ _ hi hk hn)
  have m1 := used_mono P hi hPQ.1
  have m2 := used_mono Q hk hPQ.2
  have l1 := usedL_len X P
  have l2 := usedL_len Y Q
  have sz : sizeB ((usedL X P).length : Int) ((usedL Y Q).length : Int) = true := sizeB_iff.2 ⟨⟨by omega, by omega⟩, by omega, by omega⟩
  have m9 := mul_bd3 sz
  have wlen : ((pairsF (askW Y ws) (usedL X P) (usedL Y Q)).length : Int) = ((usedL X P).length : Int) * (usedL Y Q).length := by rw [pairsF_size, Int.natCast_mul]
  have ilen : ((pairsF (askO Y wi) (usedL X P) (usedL Y Q)).length : Int) = ((usedL X P).length : Int) * (usedL Y Q).length := by rw [pairsF_size, Int.natCast_mul]
  have inw : ∀ v ∈ pairsF (askW Y ws) (usedL X P) (usedL Y Q), 0 ≤ v ∧ v ≤ 99 := fun v hv => by
    obtain ⟨x, y, hx, hy, rfl⟩ := pairsF_mem hv
    obtain ⟨i, rfl, hi, _⟩ := used_nat hx
    obtain ⟨k, rfl, hk, _⟩ := used_nat hy
    have p := pair_ok h hi hk
    exact ⟨p.w0, p.w1⟩
  have wb : allB (pairsF (askW Y ws) (usedL X P) (usedL Y Q)) 0 99 = true := by
    unfold allB
    rw [List.all_eq_true]
    exact fun v hv => inB_iff.2 (inw v hv)
  have s0 : sum64 (pairsF (askW Y ws) (usedL X P) (usedL Y Q)) ≠ 0 := by
    rw [(totG_64 (by omega) wb).1, totG_sum]
    have sp := sum_pos (l := pairsF (askW Y ws) (usedL X P) (usedL Y Q)) fun v hv => (inw v hv).1
    have mem : askW Y ws ((t / Y : Nat) : Int) ((t % Y : Nat) : Int) ∈ pairsF (askW Y ws) (usedL X P) (usedL Y Q) := by
      unfold pairsF
      exact List.mem_flatMap.2 ⟨_, used_in hi hPQ.1, List.mem_map.2 ⟨_, used_in hk hPQ.2, rfl⟩⟩
    have nz : askW Y ws ((t / Y : Nat) : Int) ((t % Y : Nat) : Int) ≠ 0 := by unfold askW; rw [← e3]; exact ht0
    have any : ((pairsF (askW Y ws) (usedL X P) (usedL Y Q)).any fun x => decide (x ≠ 0)) = true := List.any_eq_true.2 ⟨_, mem, by simpa using nz⟩
    rw [any] at sp
    have := of_decide_eq_true sp.2
    omega
  have ib : (pairsF (askO Y wi) (usedL X P) (usedL Y Q)).all (fun l => bitsB l 4) = true := by
    rw [List.all_eq_true]
    intro l hl
    obtain ⟨x, y, hx, hy, rfl⟩ := pairsF_mem hl
    obtain ⟨i, rfl, hi, _⟩ := used_nat hx
    obtain ⟨k, rfl, hk, _⟩ := used_nat hy
    have e := idx_lt (i := (i : Int)) (k := (k : Int)) (X := X) (Y := Y) (by omega) (by omega) (by omega) (by omega)
    exact (gameB_at h e.1 e.2.1).2
  unfold gameB
  rw [sz, wb, ib, decide_eq_true wlen, decide_eq_true s0, decide_eq_true ilen]
  rfl
theorem trim_zero {X Y : Nat} {ws : List Int} : ∀ x y, x < X → y < Y → ¬ (rowU ws Y x = true ∧ colU ws X Y y = true) → atZ ws ((x : Int) * Y + y) = 0 := fun x y hx hy hn =>
  Classical.byContradiction fun h0 => hn ⟨List.any_eq_true.2 ⟨y, List.mem_range.2 hy, by simpa using h0⟩, List.any_eq_true.2 ⟨x, List.mem_range.2 hx, by simpa using h0⟩⟩
theorem game_trim {X Y : Nat} {ws : List Int} {wi : List (List Int)} (h : gameB X Y ws wi = true) : gameB (trim1 X Y ws).length (trim2 X Y ws).length (trimW X Y ws) (trimR X Y ws wi) = true ∧ valueG (trim1 X Y ws).length (trim2 X Y ws).length (trimW X Y ws) (trimR X Y ws wi) = valueG X Y ws wi :=
  ⟨game_part (rowU ws Y) (colU ws X Y) h trim_zero, value_part (rowU ws Y) (colU ws X Y) trim_zero⟩

end Go.Proofs.Ytefbiejoikpkmaa

namespace Go.Proofs.Ytefbiejoikpkmaa
open Go.RowKit
set_option linter.unusedSectionVars false
variable [Glb]
open Go Go.RowKit
/-! structs of texts and numbers, compared -/
def eqA : Value → Value → Bool
  | .int _ a, .int _ b => a == b
  | .string a, .string b => a.toList == b.toList
  | _, _ => false
def eqL : List Value → List Value → Bool
  | u :: us, v :: vs => eqA u v && eqL us vs
  | _, _ => true
@[simp] theorem eqA_t (a b : Tx) : eqA (.string (bsT a)) (.string (bsT b)) = decide (a = b) := by
  show ((bsT a).toList == (bsT b).toList) = _
  rw [ByteArray.toList_eq, ByteArray.toList_eq]
  show ((bsT a).data.toList == (bsT b).data.toList) = _
  simp only [bsT]
  rw [Bool.eq_iff_iff, beq_iff_eq, decide_eq_true_iff]
@[simp] theorem eqA_i (k k' : IntKind) (a b : Int) : eqA (.int k a) (.int k' b) = decide (a = b) := rfl
@[simp] theorem eqL_cons (u v : Value) (us vs : List Value) : eqL (u :: us) (v :: vs) = (eqA u v && eqL us vs) := rfl
@[simp] theorem eqL_nil : eqL [] [] = true := rfl
def oneEq (P : Program) (T : TypeId) : Value → Value → Bool
  | .string _, .string _ => match P.underlying T with | some .string => true | _ => false
  | .int k _, .int k' _ => match P.underlying T with | some (.int _) => k == k' | _ => false
  | _, _ => false
def flatEq (P : Program) : Nat → List Field → List Value → List Value → Bool
  | _, [], [], [] => true
  | o, f :: fs, u :: us, v :: vs => f.name != "_" && (f.offset == o && (oneEq P f.type u v && flatEq P (o + 1) fs us vs))
  | _, _, _, _ => false
def structEq (P : Program) (T : TypeId) (us vs : List Value) : Bool := match P.underlying T with
  | some (.struct fs) => !(P.stoodInHeld T) && (!(P.eqGuardType P.depth T) && flatEq P 0 fs.toList us vs)
  | _ => false
section
variable {P : Program} {w : World}
theorem oneEq_run {T : TypeId} {u v : Value} {d : Nat} (h : oneEq P T u v = true) : (Op.equalIn (d + 1) T u v).run P w = .ok (eqA u v) w ∧ ∀ (xs : Array Value) (o : Nat) (x : Value), xs[o]? = some x → (part T xs o).run P w = .ok x w := by
  unfold oneEq at h
  split at h
  · split at h
    · rename_i hu
      exact ⟨run_equalIn_string w d T _ _ hu, fun xs o x hx => by simp [part, isAgg, run_underlying hu, hx]⟩
    · cases h
  · split at h
    · rename_i hu
      have e := eq_of_beq h
      subst e
      exact ⟨run_equalIn_int w d T _ _ _ _ hu, fun xs o x hx => by simp [part, isAgg, run_underlying hu, hx]⟩
    · cases h
  · cases h
theorem flatEq_run {d : Nat} : ∀ {fs : List Field} {us vs : List Value} {o : Nat} {xs ys : Array Value}, flatEq P o fs us vs = true → (∀ k x, us[k]? = some x → xs[o + k]? = some x) → (∀ k x, vs[k]? = some x → ys[o + k]? = some x) →
    (Op.eqFields (d + 1) xs ys fs).run P w = .ok (eqL us vs) w
  | [], [], [], _, _, _, _, _, _ => rfl
  | f :: fs, u :: us, v :: vs, o, xs, ys, h, h1, h2 => by
    simp only [flatEq, Bool.and_eq_true, bne_iff_ne, ne_eq, beq_iff_eq] at h
    obtain ⟨a, rfl, b, c⟩ := h
    obtain ⟨e1, e2⟩ := oneEq_run (w := w) (d := d) b
    have i := flatEq_run (d := d) (xs := xs) (ys := ys) c (fun k x hk => by have := h1 (k + 1) x (by simpa using hk); rwa [show f.offset + (k + 1) = f.offset + 1 + k by omega] at this) (fun k x hk => by have := h2 (k + 1) x (by simpa using hk); rwa [show f.offset + (k + 1) = f.offset + 1 + k by omega] at this)
    have x1 := e2 xs f.offset u (h1 0 u rfl)
    have x2 := e2 ys f.offset v (h2 0 v rfl)
    simp only [Op.eqFields, ne_eq, a, not_false_eq_true, if_true, Sem.run_bind, x1, x2, e1, Result.andThen_ok, Sem.run_ite, i]
    cases h3 : eqA u v <;> simp [h3]
  | [], [], _ :: _, _, _, _, h, _, _ => by simp [flatEq] at h
  | [], _ :: _, _, _, _, _, h, _, _ => by simp [flatEq] at h
  | _ :: _, [], _, _, _, _, h, _, _ => by simp [flatEq] at h
  | _ :: _, _ :: _, [], _, _, _, h, _, _ => by simp [flatEq] at h
theorem structEq_run {T : TypeId} {us vs : List Value} (h : structEq P T us vs = true) : (Op.equalIn 10000 T (.agg us.toArray) (.agg vs.toArray)).run P w = .ok (eqL us vs) w ∧ ∀ op x y, (eqGuard op T x y (.agg us.toArray) (.agg vs.toArray)).run P w = .ok () w := by
  unfold structEq at h
  split at h
  · rename_i fs hu
    simp only [Bool.and_eq_true, Bool.not_eq_true'] at h
    obtain ⟨a, b, c⟩ := h
    have hf : P.fieldsOf T = fs := by simp [Program.fieldsOf, hu]
    refine ⟨?_, fun op x y => run_eqGuard_agg w op T x y _ _ b⟩
    rw [run_equalIn_agg w 9999 T _ _ (by rw [hf]; exact hu) a, hf]
    exact flatEq_run (d := 9998) c (fun k x hk => by simpa using hk) (fun k x hk => by simpa using hk)
  · cases h
end
section
variable {P : Program} {st : St} {dst : Option Tmp} {ty : TypeId} {pos : String} {af : Array Edge} {T T' : TypeId} {x y : Operand}
theorem agg_inv {w : World} {ρ : Nat → Option Nat} {Φ : Nat → Prop} {v : Value} {us : List Value} (h : FR w ρ Φ v (.g (us.map fun u => .d (.lit u)))) : v = .agg us.toArray := by
  cases h with
  | g _ vs hl hr =>
    congr 2
    have hl' : vs.length = us.length := by simpa using hl
    refine List.ext_getElem hl' fun k h1 h2 => ?_
    have h3 := hr k (by simpa using h2)
    rw [List.getD_eq_getElem?_getD, List.getElem?_eq_getElem h1, Option.getD_some, List.getElem_map] at h3
    exact FR.lit_inv (.c _ _ h3)
theorem qt_eqlG {us vs : List Value} (hx : st.ev x = .g (us.map fun u => .d (.lit u))) (hy : st.ev y = .g (vs.map fun u => .d (.lit u))) (h : structEq P T us vs = true) :
    Qt P ⟨dst, .binOp .eql T x y T', ty, pos, af, none⟩ st (.c (.d (.lit (.bool (eqL us vs))))) := fun _ _ _ a _ hm => by
  have h1 := agg_inv (by rw [← hx]; exact hm.ev x)
  have h2 := agg_inv (by rw [← hy]; exact hm.ev y)
  refine ⟨_, fun w' _ => ?_, .litI rfl⟩
  obtain ⟨e1, e2⟩ := structEq_run (w := w') h
  simp only [execOp, h1, h2, Sem.run_bind, e2, Result.andThen_ok, run_eql_struct, e1, Sem.run_pure]
theorem qt_neqG {us vs : List Value} (hx : st.ev x = .g (us.map fun u => .d (.lit u))) (hy : st.ev y = .g (vs.map fun u => .d (.lit u))) (h : structEq P T us vs = true) :
    Qt P ⟨dst, .binOp .neq T x y T', ty, pos, af, none⟩ st (.c (.d (.lit (.bool (!(eqL us vs)))))) := fun _ _ _ a _ hm => by
  have h1 := agg_inv (by rw [← hx]; exact hm.ev x)
  have h2 := agg_inv (by rw [← hy]; exact hm.ev y)
  refine ⟨_, fun w' _ => ?_, .litI rfl⟩
  obtain ⟨e1, e2⟩ := structEq_run (w := w') h
  simp only [execOp, h1, h2, Sem.run_bind, e2, Result.andThen_ok, run_neq_struct, e1, Sem.run_pure]
theorem oneEq_self {T : TypeId} {u : Value} (h : oneEq P T u u = true) : eqA u u = true := by
  unfold oneEq at h
  cases u <;> simp_all [eqA]
theorem flatEq_self : ∀ {fs : List Field} {us : List Value} {o : Nat}, flatEq P o fs us us = true → eqL us us = true
  | _, [], _, _ => rfl
  | [], _ :: _, _, h => by simp [flatEq] at h
  | f :: fs, u :: us, o, h => by
    simp only [flatEq, Bool.and_eq_true] at h
    rw [eqL_cons, oneEq_self h.2.2.1, flatEq_self h.2.2.2]; rfl
theorem structEq_self {us : List Value} (h : structEq P T us us = true) : eqL us us = true := by
  unfold structEq at h
  split at h
  · simp only [Bool.and_eq_true] at h
    exact flatEq_self h.2.2
  · cases h
theorem qt_neqG2_same {a b : Value} (hx : st.ev x = .g [.d (.lit a), .d (.lit b)]) (hy : st.ev y = .g [.d (.lit a), .d (.lit b)]) (h : structEq P T [a, b] [a, b] = true) : Qt P ⟨dst, .binOp .neq T x y T', ty, pos, af, none⟩ st (.c (.d (.lit (.bool false)))) := by
  have := qt_neqG (dst := dst) (ty := ty) (pos := pos) (af := af) (T' := T') (us := [a, b]) (vs := [a, b]) hx hy h
  rwa [structEq_self h] at this
theorem qt_neqG3_same {a b c : Value} (hx : st.ev x = .g [.d (.lit a), .d (.lit b), .d (.lit c)]) (hy : st.ev y = .g [.d (.lit a), .d (.lit b), .d (.lit c)]) (h : structEq P T [a, b, c] [a, b, c] = true) : Qt P ⟨dst, .binOp .neq T x y T', ty, pos, af, none⟩ st (.c (.d (.lit (.bool false)))) := by
  have := qt_neqG (dst := dst) (ty := ty) (pos := pos) (af := af) (T' := T') (us := [a, b, c]) (vs := [a, b, c]) hx hy h
  rwa [structEq_self h] at this
theorem qt_eqlG2 {a b c d : Value} (hx : st.ev x = .g [.d (.lit a), .d (.lit b)]) (hy : st.ev y = .g [.d (.lit c), .d (.lit d)]) (h : structEq P T [a, b] [c, d] = true) : Qt P ⟨dst, .binOp .eql T x y T', ty, pos, af, none⟩ st (.c (.d (.lit (.bool (eqL [a, b] [c, d]))))) := qt_eqlG hx hy h
theorem qt_neqG2 {a b c d : Value} (hx : st.ev x = .g [.d (.lit a), .d (.lit b)]) (hy : st.ev y = .g [.d (.lit c), .d (.lit d)]) (h : structEq P T [a, b] [c, d] = true) : Qt P ⟨dst, .binOp .neq T x y T', ty, pos, af, none⟩ st (.c (.d (.lit (.bool (!(eqL [a, b] [c, d])))))) := qt_neqG hx hy h
theorem qt_eqlG3 {a b e c d f : Value} (hx : st.ev x = .g [.d (.lit a), .d (.lit b), .d (.lit e)]) (hy : st.ev y = .g [.d (.lit c), .d (.lit d), .d (.lit f)]) (h : structEq P T [a, b, e] [c, d, f] = true) : Qt P ⟨dst, .binOp .eql T x y T', ty, pos, af, none⟩ st (.c (.d (.lit (.bool (eqL [a, b, e] [c, d, f]))))) := qt_eqlG hx hy h
theorem qt_neqG3 {a b e c d f : Value} (hx : st.ev x = .g [.d (.lit a), .d (.lit b), .d (.lit e)]) (hy : st.ev y = .g [.d (.lit c), .d (.lit d), .d (.lit f)]) (h : structEq P T [a, b, e] [c, d, f] = true) : Qt P ⟨dst, .binOp .neq T x y T', ty, pos, af, none⟩ st (.c (.d (.lit (.bool (!(eqL [a, b, e] [c, d, f])))))) := qt_neqG hx hy h
end

end Go.Proofs.Ytefbiejoikpkmaa

namespace Go.Proofs.Ytefbiejoikpkmaa
open Go.RowKit
set_option linter.unusedSectionVars false
variable [Glb]
set_option maxRecDepth 10000
set_option maxHeartbeats 4000000
theorem rBig_p (code : Tx) : PC Try.prog 8 [.c (eB code)] (.p (.c (dB (decide ((code.length : Int) > 65536))))) := by
  refine pc_intro Try.func8 rfl rfl rfl (by kernel_rfl) rfl rfl ?_; intro _
  repeat' (first | (refine so_is (.assign _) ?_; (refine so_q (qt_asC rfl) rfl ?_)) | (refine so_is (.move _) ?_; (refine so_q (qt_mvC rfl) rfl ?_)) | (refine so_is (.call ⟨.builtin .len, _, #[22]⟩) ?_; (refine so_q (qt_len_d rfl (by kernel_rfl)) rfl ?_)) | (refine so_is (.binOp .gtr 3 _ _ _) ?_; refine so_q (qt_gtr rfl rfl) rfl ?_) | refine so_nil ?_ | refine sk_seq ?_ | refine sk_region ?_)
  all_goals (apply sk_ret; apply ret_eq; (· apply RetOK.p; (· (apply GvA.cons; (· exact .tmp _); (· exact GvP.c (.lit _))); exact GvA.nil); (· (decide))))
  all_goals rfl

end Go.Proofs.Ytefbiejoikpkmaa

namespace Go.Proofs.Ytefbiejoikpkmaa
open Go.RowKit
set_option linter.unusedSectionVars false
variable [Glb]
set_option maxRecDepth 10000
set_option maxHeartbeats 4000000
theorem rInts_p (a b : List Int) : PC Try.prog 21 [.c (eI a), .c (eI b)] (.p (.c (dB (decide (a = b))))) := by
  refine pc_intro Try.func21 rfl rfl rfl (by kernel_rfl) rfl rfl ?_; rintro ⟨hl, hm, -⟩
  have hl := hl.len
  have hm := hm.len
  repeat' (first | (refine so_is (.assign _) ?_; (refine so_q (qt_asC rfl) rfl ?_)) | (refine so_is (.move _) ?_; (refine so_q (qt_mvC rfl) rfl ?_)) | (refine so_is (.call ⟨.builtin .len, _, #[24]⟩) ?_; (refine so_q (qt_len_d rfl (by kernel_rfl)) rfl ?_)) | (refine so_is (.binOp .neq 3 _ _ _) ?_; refine so_q (qt_neq rfl rfl) rfl ?_) | refine so_nil ?_ | refine sk_seq ?_ | refine sk_block ?_ | refine sk_skip ?_ | refine sk_region ?_ | refine sk_if rfl (fun hc => ?_) (fun hc => ?_))
  · (apply sk_ret; apply ret_eq; (· apply RetOK.p; (· (apply GvA.cons; (· exact .tmp _); (· exact GvP.c (.lit _))); exact GvA.nil); (· (decide))))
    have : a ≠ b := fun e => by subst e; simp at *
    simp [this]
  have hab : a.length = b.length := by simp at *; omega
  apply sk_packC [0, 1, 5] [] rfl; (· (repeat (first | exact Pf.nil | apply Pf.cons (.c rfl (.d rfl))))); (· (repeat (exact Pb.nil)))
  refine sk_loopL [0, 1] [] (fun k => [(5, iN k)]) (fun _ => []) (fun k => k ≤ a.length ∧ a.take k = b.take k) (fun k => a.length - k) (0) ?_ (by (repeat (first | exact trivial | refine ⟨(by (rfl)), ?_⟩))) (by (repeat (exact trivial))) ?_
  · simp
  rintro k ⟨hk, hs⟩
  repeat' (first | (refine so_is (.assign _) ?_; (refine so_q (qt_asC rfl) rfl ?_)) | (refine so_is (.move _) ?_; (refine so_q (qt_mvC rfl) rfl ?_)) | (refine so_is (.call ⟨.builtin .len, _, #[24]⟩) ?_; (refine so_q (qt_len_d rfl (by kernel_rfl)) rfl ?_)) | (refine so_is (.binOp .neq 3 _ _ _) ?_; refine so_q (qt_neq rfl rfl) rfl ?_) | (refine so_is (.binOp .lss 3 _ _ _) ?_; refine so_q (qt_lss rfl rfl) rfl ?_) | (refine so_is (.indexAddr 24 _ _) ?_; (refine so_q (qt_idxI rfl rfl (by kernel_rfl) (by (omega)) (by (omega))) rfl ?_)) | (refine so_is (.load 3 _) ?_; (refine so_q (qt_load_pt rfl (by kernel_rfl) rfl) rfl ?_)) | (refine so_is (.binOp .add 3 _ _ _) ?_; refine so_q (qt_addI rfl rfl (by (omega))) rfl ?_) | refine so_nil ?_ | refine sk_seq ?_ | refine sk_block ?_ | refine sk_blk ?_ | refine sk_exit rfl ?_ | refine sk_skip ?_ | refine sk_region ?_ | refine sk_drawQ 6 (fun _ => false) (.step 0 true (.step 1 true (.step 2 true (.step 3 true (.step 4 true (.step 5 true (.step 6 true (.step 7 true (.step 8 true .nil))))))))) [(0, 511, 511, true), (0, 511, 511, true), (3, 508, 511, true), (4, 507, 511, false), (0, 511, 511, true), (0, 511, 511, true), (48, 463, 511, true), (64, 447, 511, false), (136, 375, 511, true)] (by kernel_rfl) (by kernel_rfl) ?_ | refine sk_if rfl (fun hc => ?_) (fun hc => ?_))
  · rename_i hk'
    rw [atZ_nat (by omega), atZ_nat (by omega)] at hc
    (apply sk_ret; apply ret_eq; (· apply RetOK.p; (· (apply GvA.cons; (· exact .tmp _); (· exact GvP.c (.lit _))); exact GvA.nil); (· (decide))))
    have : a ≠ b := fun e => by subst e; exact hc rfl
    simp [this]
  · rename_i hk'
    rw [atZ_nat (by omega), atZ_nat (by omega)] at hc
    refine sk_back ?_; refine ⟨k + 1, ?_, ?_, le_at rfl (by (repeat (first | exact trivial | refine ⟨(by (rfl)), ?_⟩))) (by (repeat (first | exact trivial | refine ⟨rfl, ?_⟩))) (by (repeat (exact trivial))) (by (repeat (exact trivial)))⟩
    · exact ⟨by omega, by rw [List.take_succ_eq_append_getElem (by omega), List.take_succ_eq_append_getElem (by omega), hs]; simp at hc; rw [hc]⟩
    · omega
  · have e : k = a.length := by omega
    subst e
    rw [List.take_length, hab, List.take_length] at hs
    (apply sk_ret; apply ret_eq; (· apply RetOK.p; (· (apply GvA.cons; (· exact .tmp _); (· exact GvP.c (.lit _))); exact GvA.nil); (· (decide))))
    simp [hs]
theorem rInts_same (a : List Int) : PC Try.prog 21 [.c (eI a), .c (eI a)] (.p (.c (dB true))) := by
  have := rInts_p a a; rwa [decide_eq_true rfl] at this

end Go.Proofs.Ytefbiejoikpkmaa

namespace Go.Proofs.Ytefbiejoikpkmaa
open Go.RowKit
set_option linter.unusedSectionVars false
variable [Glb]
set_option maxRecDepth 10000
set_option maxHeartbeats 4000000
theorem rTable_p (a b : List (List Int)) : PC Try.prog 103 [.c (eII a), .c (eII b)] (.p (.c (dB (decide (a = b))))) := by
  refine pc_intro Try.func103 rfl rfl rfl (by kernel_rfl) rfl rfl ?_; rintro ⟨hl, hm, -⟩
  have hl := hl.len
  have hm := hm.len
  repeat' (first | (refine so_is (.assign _) ?_; (refine so_q (qt_asC rfl) rfl ?_)) | (refine so_is (.move _) ?_; (refine so_q (qt_mvC rfl) rfl ?_)) | (refine so_is (.call ⟨.builtin .len, _, #[25]⟩) ?_; (refine so_q (qt_len_d rfl (by kernel_rfl)) rfl ?_)) | (refine so_is (.binOp .neq 3 _ _ _) ?_; refine so_q (qt_neq rfl rfl) rfl ?_) | refine so_nil ?_ | refine sk_seq ?_ | refine sk_block ?_ | refine sk_skip ?_ | refine sk_region ?_ | refine sk_if rfl (fun hc => ?_) (fun hc => ?_))
  · (apply sk_ret; apply ret_eq; (· apply RetOK.p; (· (apply GvA.cons; (· exact .tmp _); (· exact GvP.c (.lit _))); exact GvA.nil); (· (decide))))
    have : a ≠ b := fun e => by subst e; simp at *
    simp [this]
  have hab : a.length = b.length := by simp at *; omega
  apply sk_packC [0, 1, 5] [] rfl; (· (repeat (first | exact Pf.nil | apply Pf.cons (.c rfl (.d rfl))))); (· (repeat (exact Pb.nil)))
  refine sk_loopL [0, 1] [] (fun k => [(5, iN k)]) (fun _ => []) (fun k => k ≤ a.length ∧ a.take k = b.take k) (fun k => a.length - k) (0) ?_ (by (repeat (first | exact trivial | refine ⟨(by (rfl)), ?_⟩))) (by (repeat (exact trivial))) ?_
  · simp
  rintro k ⟨hk, hs⟩
  repeat' (first | (refine so_is (.assign _) ?_; (refine so_q (qt_asC rfl) rfl ?_)) | (refine so_is (.move _) ?_; (refine so_q (qt_mvC rfl) rfl ?_)) | (refine so_is (.call ⟨.builtin .len, _, #[25]⟩) ?_; (refine so_q (qt_len_d rfl (by kernel_rfl)) rfl ?_)) | (refine so_is (.binOp .lss 3 _ _ _) ?_; refine so_q (qt_lss rfl rfl) rfl ?_) | (refine so_is (.indexAddr 25 _ _) ?_; (refine so_q (qt_idxII rfl rfl (by kernel_rfl) (by (omega)) (by (omega))) rfl ?_)) | (refine so_is (.load 24 _) ?_; (refine so_q (qt_load_pt rfl (by kernel_rfl) rfl) rfl ?_)) | (refine so_is (.unOp .not 4 _) ?_; refine so_q (qt_not rfl) rfl ?_) | (refine so_is (.binOp .add 3 _ _ _) ?_; refine so_q (qt_addI rfl rfl (by (omega))) rfl ?_) | (refine so_is (.call ⟨.value (.func 21), _, _⟩) ?_; (apply so_call0 (fid := 21); (· (repeat (first | exact SeA.nil | apply SeA.cons (.c (.d _))))); (· exact rInts_p _ _); (· rfl))) | refine so_nil ?_ | refine sk_seq ?_ | refine sk_block ?_ | refine sk_blk ?_ | refine sk_exit rfl ?_ | refine sk_skip ?_ | refine sk_region ?_ | refine sk_drawQ 6 (fun _ => false) (.step 0 true (.step 1 true (.step 2 true (.step 3 true (.step 4 true (.step 5 true (.step 6 true (.step 7 true (.step 8 false (.step 9 true .nil)))))))))) [(0, 1023, 1023, true), (0, 1023, 1023, true), (3, 1020, 1023, true), (4, 1019, 1023, false), (0, 1023, 1023, true), (0, 1023, 1023, true), (48, 975, 1023, true), (64, 959, 1023, false), (136, 887, 1023, false), (256, 767, 1023, true)] (by kernel_rfl) (by kernel_rfl) ?_ | refine sk_if rfl (fun hc => ?_) (fun hc => ?_) | refine sk_nif rfl (fun hc => ?_) (fun hc => ?_))
  · rename_i hk'
    rw [atZ_nat (by omega), atZ_nat (by omega)] at hc
    (apply sk_ret; apply ret_eq; (· apply RetOK.p; (· (apply GvA.cons; (· exact .tmp _); (· exact GvP.c (.lit _))); exact GvA.nil); (· (decide))))
    have : a ≠ b := fun e => by subst e; simp at hc
    simp [this]
  · rename_i hk'
    rw [atZ_nat (by omega), atZ_nat (by omega)] at hc
    refine sk_back ?_; refine ⟨k + 1, ?_, ?_, le_at rfl (by (repeat (first | exact trivial | refine ⟨(by (rfl)), ?_⟩))) (by (repeat (first | exact trivial | refine ⟨rfl, ?_⟩))) (by (repeat (exact trivial))) (by (repeat (exact trivial)))⟩
    · exact ⟨by omega, by rw [List.take_succ_eq_append_getElem (by omega), List.take_succ_eq_append_getElem (by omega), hs, hc]⟩
    · omega
  · have e : k = a.length := by omega
    subst e
    rw [List.take_length, hab, List.take_length] at hs
    (apply sk_ret; apply ret_eq; (· apply RetOK.p; (· (apply GvA.cons; (· exact .tmp _); (· exact GvP.c (.lit _))); exact GvA.nil); (· (decide))))
    simp [hs]
theorem rTable_same (a : List (List Int)) : PC Try.prog 103 [.c (eII a), .c (eII a)] (.p (.c (dB true))) := by
  have := rTable_p a a; rwa [decide_eq_true rfl] at this

end Go.Proofs.Ytefbiejoikpkmaa

namespace Go.Proofs.Ytefbiejoikpkmaa
open Go.RowKit
set_option linter.unusedSectionVars false
variable [Glb]
set_option maxRecDepth 10000
set_option maxHeartbeats 4000000
theorem rGame_same (x : Int) (y : Int) (we : List Int) (wi : List (List Int)) : PC Try.prog 15 [.g [dI x, dI y, eI we, eII wi], .g [dI x, dI y, eI we, eII wi]] (.p (.c (dB true))) := by
  refine pc_intro Try.func15 rfl rfl rfl (by kernel_rfl) rfl rfl ?_; intro _
  repeat' (first | (refine so_is (.box 27 _) ?_; refine so_box rfl rfl ?_) | (refine so_is (.assign _) ?_; (refine so_q (qt_asC rfl) rfl ?_)) | (refine so_is (.fieldAddr 27 _ 0) ?_; (refine so_q (qt_fld_lp (off := 0) rfl (by kernel_rfl)) rfl ?_)) | (refine so_is (.load 3 _) ?_; (refine so_q (qt_load_box rfl rfl (by kernel_rfl) rfl) rfl ?_)) | (refine so_is (.binOp .eql 3 _ _ _) ?_; refine so_q (qt_eql rfl rfl) rfl ?_) | (refine so_is (.move _) ?_; (refine so_q (qt_mvC rfl) rfl ?_)) | (refine so_is (.fieldAddr 27 _ 1) ?_; (refine so_q (qt_fld_lp (off := 1) rfl (by kernel_rfl)) rfl ?_)) | (refine so_is (.pick _ _ _) ?_; (refine so_q (qt_pkC rfl rfl) rfl ?_)) | (refine so_is (.fieldAddr 27 _ 2) ?_; (refine so_q (qt_fld_lp (off := 2) rfl (by kernel_rfl)) rfl ?_)) | (refine so_is (.load 24 _) ?_; (refine so_q (qt_load_box rfl rfl (by kernel_rfl) rfl) rfl ?_)) | (refine so_is (.fieldAddr 27 _ 3) ?_; (refine so_q (qt_fld_lp (off := 3) rfl (by kernel_rfl)) rfl ?_)) | (refine so_is (.load 25 _) ?_; (refine so_q (qt_load_box rfl rfl (by kernel_rfl) rfl) rfl ?_)) | (refine so_is (.call ⟨.value (.func 21), _, _⟩) ?_; (apply so_call0 (fid := 21); (· (repeat (first | exact SeA.nil | apply SeA.cons (.c (.d _))))); (· exact rInts_same _); (· rfl))) | (refine so_is (.call ⟨.value (.func 103), _, _⟩) ?_; (apply so_call0 (fid := 103); (· (repeat (first | exact SeA.nil | apply SeA.cons (.c (.d _))))); (· exact rTable_same _); (· rfl))) | refine so_nil ?_ | refine so_g_no rfl rfl rfl rfl ?_ | refine so_g_yes rfl rfl rfl rfl ?_ | refine so_g_if rfl rfl (fun hg => ?_) (fun hg => ?_) | refine sk_seq ?_ | refine sk_region ?_)
  all_goals first | (exfalso; simp_all; done) | skip
  all_goals (apply sk_ret; apply ret_eq; (· apply RetOK.p; (· (apply GvA.cons; (· exact .tmp _); (· exact GvP.c (.lit _))); exact GvA.nil); (· (decide))))
  all_goals simp

end Go.Proofs.Ytefbiejoikpkmaa

namespace Go.Proofs.Ytefbiejoikpkmaa
open Go.RowKit
set_option linter.unusedSectionVars false
variable [Glb]
set_option maxRecDepth 10000
set_option maxHeartbeats 4000000
theorem rPlays_p (x y : Nat) (h : x + y ≤ 6) : PC Try.prog 40 [.c (dI x), .c (dI y)] (.p (.c (eII (rplaysF (x + y))))) := by
  have e2 : (2 : Nat) ^ (x + y) ≤ 64 := Nat.le_trans (Nat.pow_le_pow_right (by omega) h) (by decide)
  obtain ⟨N, hN⟩ : ∃ N : Nat, N = 2 ^ (x + y) := ⟨_, rfl⟩
  rw [← hN] at e2
  have e1 : (1 : Int) * 2 ^ ((x : Int) + y).toNat = N := by
    rw [show ((x : Int) + y).toNat = x + y by omega, hN, Int.natCast_pow]; simp
  refine pc_intro Try.func40 rfl rfl rfl (by kernel_rfl) rfl rfl ?_; intro _
  repeat' (first | (refine so_is (.assign _) ?_; (refine so_q (qt_asC rfl) rfl ?_)) | (refine so_is (.buildSlice 25 0 _) ?_; (apply so_bslice (sz := 1) (by_ := 24); (· kernel_rfl); (· decide); (· (repeat (exact GvS.nil _))); (· (decide)); (· rfl); (· rfl); (· rfl))) | refine so_nil ?_ | refine sk_seq ?_ | refine sk_block ?_ | refine sk_region ?_)
  apply sk_packC [0, 1, 5, 6] [9, 18, 31, 32, 35, 36] rfl; (· (repeat (first | exact Pf.nil | apply Pf.cons (.c rfl (.d rfl)) | apply Pf.cons (.c rfl (.ls rfl))))); (· (repeat (first | exact Pb.nil | apply Pb.cons (.row rfl) | apply Pb.skip)))
  refine sk_loopL [0, 1] [18, 31, 32, 35, 36] (fun c => [(6, iN c), (5, .c (.ls 9 1 0 c))]) (fun c => [(9, .row 1 (cII ((List.range c).map (bitsR (x + y)))))]) (fun c => c ≤ N) (fun c => N - c) (0) ?_ (by (repeat (first | exact trivial | refine ⟨(by (rfl)), ?_⟩))) (by (repeat (first | exact trivial | refine ⟨(by ((refine row_eq rfl ?_; simp; done))), ?_⟩))) ?_
  · omega
  intro c hc
  repeat' (first | (refine so_is (.assign _) ?_; (refine so_q (qt_asC rfl) rfl ?_)) | (refine so_is (.move _) ?_; (refine so_q (qt_mvC rfl) rfl ?_)) | (refine so_is (.binOp .add 3 _ _ _) ?_; refine so_q (qt_addI rfl rfl (by (omega))) rfl ?_) | (refine so_is (.binOp .shl 3 _ _ _) ?_; (refine so_q (qt_shlI rfl rfl (by (omega)) (by (omega)) (by (omega))) rfl ?_)) | (refine so_is (.binOp .lss 3 _ _ _) ?_; refine so_q (qt_lss rfl rfl) rfl ?_) | (refine so_is (.buildSlice 24 0 _) ?_; (apply so_bslice (sz := 1) (by_ := 8); (· kernel_rfl); (· decide); (· (repeat (exact GvS.nil _))); (· (decide)); (· rfl); (· rfl); (· rfl))) | refine so_nil ?_ | refine sk_seq ?_ | refine sk_block ?_ | refine sk_exit rfl ?_ | refine sk_skip ?_ | refine sk_region ?_ | refine sk_if rfl (fun hc => ?_) (fun hc => ?_))
  · apply sk_packC [0, 1, 5, 6, 7, 8] [9, 18, 31, 32, 35, 36] rfl; (· (repeat (first | exact Pf.nil | apply Pf.cons (.c rfl (.d rfl)) | apply Pf.cons (.c rfl (.ls rfl))))); (· (repeat (first | exact Pb.nil | apply Pb.cons (.row rfl) | apply Pb.skip)))
    refine sk_loopL [0, 1, 5, 6] [9, 31, 32, 35, 36] (fun i => [(8, iN i), (7, .c (.ls 18 1 0 i))]) (fun i => [(18, .row 1 (cI (rowF (fun i => (bitN c i : Int)) i)))]) (fun i => i ≤ x + y) (fun i => x + y - i) (0) ?_ (by (repeat (first | exact trivial | refine ⟨(by (rfl)), ?_⟩))) (by (repeat (first | exact trivial | refine ⟨(by (rfl)), ?_⟩))) ?_
    · omega
    intro i hi
    have e3 : i < x + y → (c : Int) / 2 ^ ((i : Nat) : Int).toNat % 2 = (bitN c i : Int) := fun h => by
      rw [show ((i : Nat) : Int).toNat = i by omega, bit_nat]
    repeat' (first | (refine so_is (.assign _) ?_; (refine so_q (qt_asC rfl) rfl ?_)) | (refine so_is (.move _) ?_; (refine so_q (qt_mvC rfl) rfl ?_)) | (refine so_is (.binOp .add 3 _ _ _) ?_; refine so_q (qt_addI rfl rfl (by (omega))) rfl ?_) | (refine so_is (.binOp .lss 3 _ _ _) ?_; refine so_q (qt_lss rfl rfl) rfl ?_) | (refine so_is (.binOp .shr 3 _ _ _) ?_; (refine so_q (qt_shrI rfl rfl (by (omega)) (by (omega))) rfl ?_)) | (refine so_is (.binOp .and 3 _ _ _) ?_; refine so_q (qt_andM 1 (c := 2) rfl rfl (by decide)) rfl ?_) | (refine so_is (.buildSlice 24 1 _) ?_; (apply so_bslice (sz := 1) (by_ := 8); (· kernel_rfl); (· decide); (· (repeat (first | exact GvS.nil _ | apply GvS.c rfl rfl (.lit _) rfl))); (· (decide)); (· rfl); (· rfl); (· rfl))) | (refine so_is (.call ⟨.builtin .append, _, #[24, 24]⟩) ?_; ((apply so_appR (sz := 1) (by_ := 8); (· rfl); (· rfl); (· ((simp; done))); (· exact .row _ _ _ _ rfl (by ((simp; done)))); (· (decide)); (· kernel_rfl); (· decide); (· (omega)); (· (omega)); (· rfl); (· rfl); (· rfl)))) | (refine so_is (.buildSlice 25 1 _) ?_; (apply so_bslice (sz := 1) (by_ := 24); (· kernel_rfl); (· decide); (· (repeat (first | exact GvS.nil _ | apply GvS.c rfl rfl (.row _ _ _ _ rfl (by ((simp; done)))) rfl))); (· (decide)); (· rfl); (· rfl); (· rfl))) | (refine so_is (.call ⟨.builtin .append, _, #[25, 25]⟩) ?_; ((apply so_appR (sz := 1) (by_ := 24); (· rfl); (· rfl); (· ((simp; done))); (· exact .row _ _ _ _ rfl (by ((simp; done)))); (· (decide)); (· kernel_rfl); (· decide); (· (omega)); (· (omega)); (· rfl); (· rfl); (· rfl)))) | refine so_nil ?_ | refine sk_seq ?_ | refine sk_block ?_ | refine sk_blk ?_ | refine sk_exit rfl ?_ | refine sk_skip ?_ | refine sk_region ?_ | refine sk_if rfl (fun hc => ?_) (fun hc => ?_))
    · have e3 := e3 (by omega)
      simp at e3
      refine sk_back ?_; refine ⟨i + 1, ?_, ?_, le_at rfl (by (repeat (first | exact trivial | refine ⟨(by (rfl)), ?_⟩))) (by (repeat (first | exact trivial | refine ⟨rfl, ?_⟩))) (by (repeat (first | exact trivial | refine ⟨(by ((refine row_eq rfl ?_; simp  [rowF_snoc, e3]; done))), ?_⟩))) (by (repeat (first | exact trivial | refine ⟨.inr rfl, ?_⟩)))⟩
      · omega
      · omega
    · have h8 : i = x + y := by omega
      subst h8
      refine sk_back ?_; refine ⟨c + 1, ?_, ?_, le_at rfl (by (repeat (first | exact trivial | refine ⟨(by (rfl)), ?_⟩))) (by (repeat (first | exact trivial | refine ⟨rfl, ?_⟩))) (by (repeat (first | exact trivial | refine ⟨(by ((refine row_eq rfl ?_; simp  [rplays_snoc, bitsR]; done))), ?_⟩))) (by (repeat (first | exact trivial | refine ⟨.inr rfl, ?_⟩)))⟩
      · omega
      · omega
  · have h8 : c = N := by omega
    subst h8
    subst hN
    (apply sk_ret; apply ret_eq; (· apply RetOK.p; (· (apply GvA.cons; (· exact .tmp _); (· (exact GvP.c (.row _ _ _ _ rfl (by ((simp; done))))))); exact GvA.nil); (· (decide))))
    simp [rplaysF]

end Go.Proofs.Ytefbiejoikpkmaa

namespace Go.Proofs.Ytefbiejoikpkmaa
open Go.RowKit
set_option linter.unusedSectionVars false
variable [Glb]
set_option maxRecDepth 10000
set_option maxHeartbeats 4000000
abbrev dW (n : Int) : D := .lit (.int .u64 n)
abbrev CurB (code : Tx) (a s : Int) : List BC := [.k (eB code), .o (dI a), .o (dW s)]
def CurR (a N : Int) (Q : Res → Prop) (ds : List D) (res : Res) : Prop := ∃ a' s', (a ≤ a' ∧ a' ≤ a + N) ∧ ds = [dI a', dW s'] ∧ Q res
theorem emod_bd {x n : Int} (hx : 0 ≤ x) (hn : 1 < n) : 0 ≤ x % n ∧ x % n < n ∧ x % n ≤ x := by
  refine ⟨Int.emod_nonneg _ (by omega), Int.emod_lt_of_pos _ (by omega), ?_⟩
  have h1 := Int.emod_add_mul_ediv x n
  have h2 : 0 ≤ n * (x / n) := Int.mul_nonneg (by omega) (Int.ediv_nonneg hx (by omega))
  omega
theorem pick_bd {x n : Int} (h0 : 0 ≤ x) (h1 : x ≤ 65535) (hn : 1 < n) : 0 ≤ x % n ∧ x % n ≤ 65535 ∧ (n ≤ 1 → x % n = 0) ∧ (1 < n → x % n < n) := by
  have := emod_bd h0 hn
  omega
theorem curNext_p (code : Tx) (a s : Int) (h0 : 0 ≤ a) (h1 : a ≤ 4611686018427387904) : PX Try.prog 223 (CurB code a s) [] (CurR a 1 fun res => ∃ x : Int, (0 ≤ x ∧ x ≤ 255) ∧ res = .p (.c (dI x))) := by
  have hb := byt_lt code a
  refine px_intro Try.func223 rfl rfl rfl (by kernel_rfl) rfl rfl rfl ?_; intro kv
  repeat' (first | (refine so_is (.assign _) ?_; (refine so_q (qt_asC rfl) rfl ?_)) | (refine so_is (.move _) ?_; (refine so_q (qt_mvC rfl) rfl ?_)) | (refine so_is (.nilCheck _) ?_; (refine so_q (qt_nilCheck_lp rfl) rfl ?_)) | (refine so_is (.fieldAddr 104 _ 1) ?_; (refine so_q (qt_fld_lp (off := 1) rfl (by kernel_rfl)) rfl ?_)) | (refine so_is (.load 3 _) ?_; (refine so_q (qt_load_box rfl rfl (by kernel_rfl) rfl) rfl ?_)) | (refine so_is (.fieldAddr 104 _ 0) ?_; (refine so_q (qt_fld_lp (off := 0) rfl (by kernel_rfl)) rfl ?_)) | (refine so_is (.load 22 _) ?_; (refine so_q (qt_load_same rfl rfl (by kernel_rfl) rfl) rfl ?_)) | (refine so_is (.call ⟨.builtin .len, _, #[22]⟩) ?_; (refine so_q (qt_len_d rfl (by kernel_rfl)) rfl ?_)) | (refine so_is (.binOp .lss 3 _ _ _) ?_; refine so_q (qt_lss rfl rfl) rfl ?_) | (refine so_is (.indexAddr 22 _ _) ?_; (refine so_q (qt_idxY rfl rfl (by kernel_rfl) (by (omega)) (by (omega))) rfl ?_)) | (refine so_is (.load 5 _) ?_; (refine so_q (qt_load_pt rfl (by kernel_rfl) rfl) rfl ?_)) | (refine so_is (.convert 5 3 _) ?_; (refine so_q (qt_convI (k' := .i64) rfl (by kernel_rfl) (by kernel_rfl) (by (exact IntWalk.i64_in _ (by (omega))))) rfl ?_)) | (refine so_is (.binOp .add 3 _ _ _) ?_; refine so_q (qt_addI rfl rfl (by (omega))) rfl ?_) | (refine so_is (.store 3 _ _) ?_; (refine so_store_box1 rfl rfl rfl rfl (by kernel_rfl) rfl rfl ?_)) | (refine so_is (.fieldAddr 104 _ 2) ?_; (refine so_q (qt_fld_lp (off := 2) rfl (by kernel_rfl)) rfl ?_)) | (refine so_is (.load 102 _) ?_; (refine so_q (qt_load_box rfl rfl (by kernel_rfl) rfl) rfl ?_)) | (refine so_is (.binOp .mul 102 _ _ _) ?_; refine so_q (qt_mul rfl rfl) rfl ?_) | (refine so_is (.convert 3 102 _) ?_; (refine so_q (qt_convI (k' := .u64) rfl (by kernel_rfl) (by kernel_rfl) (by (first | rfl | exact wrapU64 (by (omega))))) rfl ?_)) | (refine so_is (.binOp .add 102 _ _ _) ?_; refine so_q (qt_add rfl rfl) rfl ?_) | (refine so_is (.store 102 _ _) ?_; (refine so_store_box1 rfl rfl rfl rfl (by kernel_rfl) rfl rfl ?_)) | (refine so_is (.binOp .leq 3 _ _ _) ?_; refine so_q (qt_leq rfl rfl) rfl ?_) | (refine so_is (.binOp .shr 102 _ _ _) ?_; refine so_q (qt_shrC (c := 1099511627776) rfl rfl (by decide)) rfl ?_) | (refine so_is (.binOp .and 102 _ _ _) ?_; refine so_q (qt_andMU 8 (c := 256) rfl rfl (by decide)) rfl ?_) | (refine so_is (.convert 102 3 _) ?_; (refine so_q (qt_convI (k' := .i64) rfl (by kernel_rfl) (by kernel_rfl) (by (exact IntWalk.i64_in _ (by (omega))))) rfl ?_)) | refine so_nil ?_ | refine sk_seq ?_ | refine sk_skip ?_ | refine sk_region ?_ | refine sk_drawQ 2 (fun _ => false) (.step 0 true (.step 1 true (.step 2 true (.step 3 true (.step 4 true (.step 5 true (.step 6 true (.step 7 true (.step 8 true (.step 9 true .nil)))))))))) [(0, 1023, 1023, true), (1, 1022, 1023, true), (2, 1021, 1023, true), (4, 1019, 1023, false), (0, 1023, 1023, true), (16, 1007, 1023, true), (32, 991, 1023, true), (64, 959, 1023, false), (128, 895, 1023, true), (264, 759, 1023, true)] (by kernel_rfl) (by kernel_rfl) ?_ | refine sk_drawQ 3 (fun _ => false) (.step 0 true (.step 1 true (.step 2 true (.step 3 true (.step 4 true (.step 5 true (.step 6 true (.step 7 true (.step 8 true (.step 9 true (.step 10 true (.step 11 true .nil)))))))))))) [(0, 4095, 4095, true), (1, 4094, 4095, true), (2, 4093, 4095, true), (4, 4091, 4095, false), (0, 4095, 4095, true), (16, 4079, 4095, true), (32, 4063, 4095, true), (64, 4031, 4095, false), (136, 3959, 4095, true), (256, 3839, 4095, false), (512, 3583, 4095, true), (2047, 3071, 4095, true)] (by kernel_rfl) (by kernel_rfl) ?_ | refine sk_drawQ 6 (fun _ => false) (.step 0 true (.step 1 true (.step 2 true (.step 3 true (.step 4 true (.step 5 true (.step 6 true (.step 7 true (.step 8 true (.step 9 true .nil)))))))))) [(0, 1023, 1023, true), (1, 1022, 1023, true), (2, 1021, 1023, true), (4, 1019, 1023, false), (0, 1023, 1023, true), (16, 1007, 1023, true), (32, 991, 1023, true), (64, 959, 1023, false), (128, 895, 1023, true), (264, 759, 1023, true)] (by kernel_rfl) (by kernel_rfl) ?_ | refine sk_if rfl (fun hc => ?_) (fun hc => ?_))
  all_goals (apply sk_xret; (· (apply RetX.p; (· rfl); (· (repeat (first | exact BxO.nil _ | apply BxO.k | (apply BxO.o; (· (exact .lit _)))))); (· (apply GvA.cons; (· exact .tmp _); (· exact GvP.c (.lit _))); exact GvA.nil); (· (decide)))))
  all_goals exact ⟨_, _, by omega, rfl, _, by omega, rfl⟩
theorem curPick_p (code : Tx) (a s n : Int) (h0 : 0 ≤ a) (h1 : a ≤ 4611686018427387000) : PX Try.prog 180 (CurB code a s) [.v (.c (dI n))] (CurR a 2 fun res => ∃ x : Int, (0 ≤ x ∧ x ≤ 65535 ∧ (n ≤ 1 → x = 0) ∧ (1 < n → x < n)) ∧ res = .p (.c (dI x))) := by
  refine px_intro Try.func180 rfl rfl rfl (by kernel_rfl) rfl rfl rfl ?_; intro kv
  repeat' (first | (refine so_is (.assign _) ?_; (refine so_q (qt_asC rfl) rfl ?_)) | (refine so_is (.move _) ?_; (refine so_q (qt_mvC rfl) rfl ?_)) | (refine so_is (.binOp .leq 3 _ _ _) ?_; refine so_q (qt_leq rfl rfl) rfl ?_) | (refine so_is (.binOp .gtr 3 _ _ _) ?_; refine so_q (qt_gtr rfl rfl) rfl ?_) | (refine so_is (.binOp .mul 3 _ _ _) ?_; refine so_q (qt_mulI rfl rfl (by (omega))) rfl ?_) | (refine so_is (.binOp .add 3 _ _ _) ?_; refine so_q (qt_addI rfl rfl (by (omega))) rfl ?_) | (refine so_is (.binOp .rem 3 _ _ _) ?_; (refine so_q (qt_remN rfl rfl (by (omega)) (by (omega)) (by (omega))) rfl ?_)) | (refine so_is (.call ⟨.value (.func 223), _, _⟩) ?_; (apply so_callX (fid := 223); (· rfl); (· rfl); (· (repeat (first | exact BxI.nil | apply BxI.ks | (apply BxI.o; (· (exact .lit _)))))); (· (repeat (exact ArX.nil))); (· (decide)); (· (decide)); (· exact curNext_p code _ _ (by omega) (by omega)); (· rfl); (· (intro b hb1 hb2; omega)); (· rfl); (rintro _ _ ⟨a1, s1, ha1, rfl, x1, hx1, rfl⟩; refine ⟨(by first | rfl | simp [*]), ?_⟩))) | refine so_nil ?_ | refine sk_seq ?_ | refine sk_skip ?_ | refine sk_region ?_ | refine sk_if rfl (fun hc => ?_) (fun hc => ?_))
  all_goals (apply sk_xret; (· (apply RetX.p; (· rfl); (· (repeat (first | exact BxO.nil _ | apply BxO.k | (apply BxO.o; (· (exact .lit _)))))); (· (apply GvA.cons; (· exact .tmp _); (· exact GvP.c (.lit _))); exact GvA.nil); (· (decide)))))
  · exact ⟨_, _, by omega, rfl, _, by omega, rfl⟩
  · exact ⟨_, _, by omega, rfl, _, pick_bd (by omega) (by omega) (by omega), rfl⟩
  · exact ⟨_, _, by omega, rfl, _, pick_bd (by omega) (by omega) (by omega), rfl⟩
theorem curOne_p (code : Tx) (a s n : Int) (h0 : 0 ≤ a) (h1 : a ≤ 4611686018427387000) : PX Try.prog 88 (CurB code a s) [.v (.c (dI n))] (CurR a 2 fun res => ∃ b : Bool, res = .p (.c (dB b))) := by
  refine px_intro Try.func88 rfl rfl rfl (by kernel_rfl) rfl rfl rfl ?_; intro kv
  repeat' (first | (refine so_is (.assign _) ?_; (refine so_q (qt_asC rfl) rfl ?_)) | (refine so_is (.move _) ?_; (refine so_q (qt_mvC rfl) rfl ?_)) | (refine so_is (.binOp .eql 3 _ _ _) ?_; refine so_q (qt_eql rfl rfl) rfl ?_) | (refine so_is (.call ⟨.value (.func 180), _, _⟩) ?_; (apply so_callX (fid := 180); (· rfl); (· rfl); (· (repeat (first | exact BxI.nil | apply BxI.ks | (apply BxI.o; (· (exact .lit _)))))); (· (repeat (first | exact ArX.nil | apply ArX.v (.c (.d _))))); (· (decide)); (· (decide)); (· exact curPick_p code _ _ _ (by omega) (by omega)); (· rfl); (· (intro b hb1 hb2; omega)); (· rfl); (rintro _ _ ⟨a1, s1, ha1, rfl, x1, hx1, rfl⟩; refine ⟨(by first | rfl | simp [*]), ?_⟩))) | refine so_nil ?_ | refine sk_seq ?_ | refine sk_region ?_)
  all_goals (apply sk_xret; (· (apply RetX.p; (· rfl); (· (repeat (first | exact BxO.nil _ | apply BxO.k | (apply BxO.o; (· (exact .lit _)))))); (· (apply GvA.cons; (· exact .tmp _); (· exact GvP.c (.lit _))); exact GvA.nil); (· (decide)))))
  all_goals exact ⟨_, _, by omega, rfl, _, rfl⟩
theorem mem_at {α : Type} [Inhabited α] {l : List α} {x : Int} (h0 : 0 ≤ x) (h1 : x < l.length) : atZ l x ∈ l := List.mem_of_getElem? (atZ_some h0 h1)
theorem curAmong_p (code : Tx) (a s : Int) (l : List Int) (hl : 0 < l.length) (h0 : 0 ≤ a) (h1 : a ≤ 4611686018427387000) : PX Try.prog 139 (CurB code a s) [.v (.c (eI l))] (CurR a 2 fun res => ∃ t : Int, t ∈ l ∧ res = .p (.c (dI t))) := by
  refine px_intro Try.func139 rfl rfl rfl (by kernel_rfl) rfl rfl rfl ?_; intro kv
  repeat' (first | (refine so_is (.assign _) ?_; (refine so_q (qt_asC rfl) rfl ?_)) | (refine so_is (.move _) ?_; (refine so_q (qt_mvC rfl) rfl ?_)) | (refine so_is (.call ⟨.builtin .len, _, #[24]⟩) ?_; (refine so_q (qt_len_d rfl (by kernel_rfl)) rfl ?_)) | (refine so_is (.indexAddr 24 _ _) ?_; (refine so_q (qt_idxI rfl rfl (by kernel_rfl) (by (omega)) (by (omega))) rfl ?_)) | (refine so_is (.load 3 _) ?_; (refine so_q (qt_load_pt rfl (by kernel_rfl) rfl) rfl ?_)) | (refine so_is (.call ⟨.value (.func 180), _, _⟩) ?_; (apply so_callX (fid := 180); (· rfl); (· rfl); (· (repeat (first | exact BxI.nil | apply BxI.ks | (apply BxI.o; (· (exact .lit _)))))); (· (repeat (first | exact ArX.nil | apply ArX.v (.c (.d _))))); (· (decide)); (· (decide)); (· exact curPick_p code _ _ _ (by omega) (by omega)); (· rfl); (· (intro b hb1 hb2; omega)); (· rfl); (rintro _ _ ⟨a1, s1, ha1, rfl, x1, hx1, rfl⟩; refine ⟨(by first | rfl | simp [*]), ?_⟩))) | refine so_nil ?_ | refine sk_seq ?_ | refine sk_region ?_)
  all_goals (apply sk_xret; (· (apply RetX.p; (· rfl); (· (repeat (first | exact BxO.nil _ | apply BxO.k | (apply BxO.o; (· (exact .lit _)))))); (· (apply GvA.cons; (· exact .tmp _); (· exact GvP.c (.lit _))); exact GvA.nil); (· (decide)))))
  all_goals exact ⟨_, _, by omega, rfl, _, mem_at (by omega) (by omega), rfl⟩
theorem curAmongD_p (code : Tx) (a s : Int) (n : Nat) (ds : List D) (Q : Int → Prop) (hn : n = ds.length) (h2 : 0 < n) (h : ∀ x ∈ ds, ∃ t : Int, x = dI t ∧ Q t) (h0 : 0 ≤ a) (h1 : a ≤ 4611686018427387000) : PX Try.prog 139 (CurB code a s) [.v (.c (.sl 1 n ds))] (CurR a 2 fun res => ∃ t : Int, Q t ∧ res = .p (.c (dI t))) := by
  have : ∃ l : List Int, ds = l.map dI ∧ ∀ t ∈ l, Q t := by
    clear hn h2
    induction ds with
    | nil => exact ⟨[], rfl, fun t ht => by cases ht⟩
    | cons x ds ih =>
      obtain ⟨t, e, ht⟩ := h x (List.mem_cons_self ..)
      obtain ⟨l, e2, hl⟩ := ih fun y hy => h y (List.mem_cons_of_mem _ hy)
      exact ⟨t :: l, by rw [List.map_cons, e, e2], fun u hu => by rcases List.mem_cons.1 hu with e3 | hu; rw [e3]; exact ht; exact hl u hu⟩
  obtain ⟨l, rfl, hl⟩ := this
  rw [List.length_map] at hn
  subst hn
  refine (curAmong_p code a s l h2 h0 h1).mono ?_
  rintro ds res ⟨a1, s1, ha, rfl, t, ht, rfl⟩
  exact ⟨_, _, ha, rfl, t, hl t ht, rfl⟩

end Go.Proofs.Ytefbiejoikpkmaa

namespace Go.Proofs.Ytefbiejoikpkmaa
open Go.RowKit
set_option linter.unusedSectionVars false
variable [Glb]
set_option maxRecDepth 10000
set_option maxHeartbeats 4000000
theorem l1Most_p (a b : Int) : PC Try.prog 222 [.c (dI a), .c (dI b)] (.p (.c (dI (max a b)))) := by
  refine pc_intro Try.func222 rfl rfl rfl (by kernel_rfl) rfl rfl ?_; intro _
  repeat' (first | (refine so_is (.assign _) ?_; (refine so_q (qt_asC rfl) rfl ?_)) | (refine so_is (.move _) ?_; (refine so_q (qt_mvC rfl) rfl ?_)) | (refine so_is (.binOp .gtr 3 _ _ _) ?_; refine so_q (qt_gtr rfl rfl) rfl ?_) | refine so_nil ?_ | refine sk_seq ?_ | refine sk_skip ?_ | refine sk_region ?_ | refine sk_if rfl (fun hc => ?_) (fun hc => ?_))
  all_goals (apply sk_ret; apply ret_eq; (· apply RetOK.p; (· (apply GvA.cons; (· exact .tmp _); (· exact GvP.c (.lit _))); exact GvA.nil); (· (decide))))
  all_goals simp
  all_goals omega

end Go.Proofs.Ytefbiejoikpkmaa

namespace Go.Proofs.Ytefbiejoikpkmaa
open Go.RowKit
set_option linter.unusedSectionVars false
variable [Glb]
set_option maxRecDepth 10000
set_option maxHeartbeats 4000000
theorem l1Least_p (a b : Int) : PC Try.prog 221 [.c (dI a), .c (dI b)] (.p (.c (dI (min a b)))) := by
  refine pc_intro Try.func221 rfl rfl rfl (by kernel_rfl) rfl rfl ?_; intro _
  repeat' (first | (refine so_is (.assign _) ?_; (refine so_q (qt_asC rfl) rfl ?_)) | (refine so_is (.move _) ?_; (refine so_q (qt_mvC rfl) rfl ?_)) | (refine so_is (.binOp .lss 3 _ _ _) ?_; refine so_q (qt_lss rfl rfl) rfl ?_) | refine so_nil ?_ | refine sk_seq ?_ | refine sk_skip ?_ | refine sk_region ?_ | refine sk_if rfl (fun hc => ?_) (fun hc => ?_))
  all_goals (apply sk_ret; apply ret_eq; (· apply RetOK.p; (· (apply GvA.cons; (· exact .tmp _); (· exact GvP.c (.lit _))); exact GvA.nil); (· (decide))))
  all_goals simp [Int.min_def]
  all_goals omega

end Go.Proofs.Ytefbiejoikpkmaa

namespace Go.Proofs.Ytefbiejoikpkmaa
open Go.RowKit
set_option linter.unusedSectionVars false
variable [Glb]
set_option maxRecDepth 10000
set_option maxHeartbeats 4000000
theorem l2Near_p (n : Int) : PC Try.prog 179 [.c (dI n)] (.p (.c (dI (min (max n 0) 4)))) := by
  refine pc_intro Try.func179 rfl rfl rfl (by kernel_rfl) rfl rfl ?_; intro _
  repeat' (first | (refine so_is (.assign _) ?_; (refine so_q (qt_asC rfl) rfl ?_)) | (refine so_is (.move _) ?_; (refine so_q (qt_mvC rfl) rfl ?_)) | (refine so_is (.call ⟨.value (.func 222), _, _⟩) ?_; (apply so_call0 (fid := 222); (· (repeat (first | exact SeA.nil | apply SeA.cons (.c (.d _))))); (· exact l1Most_p _ _); (· rfl))) | (refine so_is (.call ⟨.value (.func 221), _, _⟩) ?_; (apply so_call0 (fid := 221); (· (repeat (first | exact SeA.nil | apply SeA.cons (.c (.d _))))); (· exact l1Least_p _ _); (· rfl))) | refine so_nil ?_ | refine sk_seq ?_ | refine sk_region ?_)
  all_goals (apply sk_ret; apply ret_eq; (· apply RetOK.p; (· (apply GvA.cons; (· exact .tmp _); (· exact GvP.c (.lit _))); exact GvA.nil); (· (decide))))
  all_goals rfl
theorem curAmongB_p (code : Tx) (a s : Int) (n : Nat) (ds : List D) (lo hi : Int) (hn : n = ds.length) (h2 : 0 < n) (h : ∀ x ∈ ds, ∃ t : Int, x = dI t ∧ (lo ≤ t ∧ t ≤ hi)) (h0 : 0 ≤ a) (h1 : a ≤ 4611686018427387000) : PX Try.prog 139 (CurB code a s) [.v (.c (.sl 1 n ds))] (CurR a 2 fun res => ∃ t : Int, (lo ≤ t ∧ t ≤ hi) ∧ res = .p (.c (dI t))) :=
  curAmongD_p code a s n ds (fun t => lo ≤ t ∧ t ≤ hi) hn h2 h h0 h1
theorem curSizes_p (code : Tx) (a s : Int) (h0 : 0 ≤ a) (h1 : a ≤ 4611686018427386000) : PX Try.prog 178 (CurB code a s) [] (CurR a 10 fun res => ∃ x y : Int, ((-1 ≤ x ∧ x ≤ 4611686018427387904) ∧ -1 ≤ y ∧ y ≤ 4611686018427387904) ∧ res = .t [.c (dI x), .c (dI y)]) := by
  refine px_intro Try.func178 rfl rfl rfl (by kernel_rfl) rfl rfl rfl ?_; intro kv
  repeat' (first | (refine so_is (.assign _) ?_; (refine so_q (qt_asC rfl) rfl ?_)) | (refine so_is (.move _) ?_; (refine so_q (qt_mvC rfl) rfl ?_)) | (refine so_is (.buildSlice 24 4 _) ?_; (apply so_bslice (sz := 1) (by_ := 8); (· kernel_rfl); (· decide); (· (repeat (first | exact GvS.nil _ | apply GvS.c rfl rfl (.lit _) rfl))); (· (decide)); (· rfl); (· rfl); (· rfl))) | (refine so_is (.call ⟨.value (.func 139), _, _⟩) ?_; (first | (apply so_callX (d := 10) (fid := 139); (· rfl); (· rfl); (· (repeat (first | exact BxI.nil | apply BxI.ks | (apply BxI.o; (· (exact .lit _)))))); (· (repeat (first | exact ArX.nil | apply ArX.v (.c (.row _ _ _ _ rfl (by ((simp; done)))))))); (· (decide)); (· (decide)); (· exact curAmongB_p code _ _ _ _ (-1) 4611686018427387904 rfl (by decide) (by repeat (first | exact fun x hx => absurd hx List.not_mem_nil | (refine List.forall_mem_cons.2 ⟨⟨_, rfl, by decide⟩, ?_⟩))) (by omega) (by omega)); (· rfl); (· (intro b hb1 hb2; omega)); (· rfl); (rintro _ _ ⟨a1, s1, ha1, rfl, t1, ht1, rfl⟩; refine ⟨(by first | rfl | simp [*]), ?_⟩)) | (apply so_callX (d := 13) (fid := 139); (· rfl); (· rfl); (· (repeat (first | exact BxI.nil | apply BxI.ks | (apply BxI.o; (· (exact .lit _)))))); (· (repeat (first | exact ArX.nil | apply ArX.v (.c (.row _ _ _ _ rfl (by ((simp; done)))))))); (· (decide)); (· (decide)); (· exact curAmongB_p code _ _ _ _ (-1) 4611686018427387904 rfl (by decide) (by repeat (first | exact fun x hx => absurd hx List.not_mem_nil | (refine List.forall_mem_cons.2 ⟨⟨_, rfl, by decide⟩, ?_⟩))) (by omega) (by omega)); (· rfl); (· (intro b hb1 hb2; omega)); (· rfl); (rintro _ _ ⟨a1, s1, ha1, rfl, t1, ht1, rfl⟩; refine ⟨(by first | rfl | simp [*]), ?_⟩)))) | (refine so_is (.call ⟨.value (.func 180), _, _⟩) ?_; (first | (apply so_callX (d := 15) (fid := 180); (· rfl); (· rfl); (· (repeat (first | exact BxI.nil | apply BxI.ks | (apply BxI.o; (· (exact .lit _)))))); (· (repeat (first | exact ArX.nil | apply ArX.v (.c (.d _))))); (· (decide)); (· (decide)); (· exact curPick_p code _ _ _ (by omega) (by omega)); (· rfl); (· (intro b hb1 hb2; omega)); (· rfl); (rintro _ _ ⟨a1, s1, ha1, rfl, x1, hx1, rfl⟩; refine ⟨(by first | rfl | simp [*]), ?_⟩)) | (apply so_callX (d := 18) (fid := 180); (· rfl); (· rfl); (· (repeat (first | exact BxI.nil | apply BxI.ks | (apply BxI.o; (· (exact .lit _)))))); (· (repeat (first | exact ArX.nil | apply ArX.v (.c (.d _))))); (· (decide)); (· (decide)); (· exact curPick_p code _ _ _ (by omega) (by omega)); (· rfl); (· (intro b hb1 hb2; omega)); (· rfl); (rintro _ _ ⟨a1, s1, ha1, rfl, x1, hx1, rfl⟩; refine ⟨(by first | rfl | simp [*]), ?_⟩)))) | (refine so_is (.binOp .add 3 _ _ _) ?_; refine so_q (qt_addI rfl rfl (by (omega))) rfl ?_) | (refine so_is (.call ⟨.value (.func 88), _, _⟩) ?_; (apply so_callX (fid := 88); (· rfl); (· rfl); (· (repeat (first | exact BxI.nil | apply BxI.ks | (apply BxI.o; (· (exact .lit _)))))); (· (repeat (first | exact ArX.nil | apply ArX.v (.c (.d _))))); (· (decide)); (· (decide)); (· exact curOne_p code _ _ _ (by omega) (by omega)); (· rfl); (· (intro b hb1 hb2; omega)); (· rfl); (rintro _ _ ⟨a1, s1, ha1, rfl, b1, rfl⟩; refine ⟨(by first | rfl | simp [*]), ?_⟩))) | refine so_nil ?_ | refine sk_seq ?_ | refine sk_skip ?_ | refine sk_region ?_ | refine sk_cond rfl (fun hc => ?_) (fun hc => ?_))
  all_goals (apply sk_xret; (· (apply RetX.t; (· rfl); (· (repeat (first | exact BxO.nil _ | apply BxO.k | (apply BxO.o; (· (exact .lit _)))))); (· (apply GvA.cons; (· exact .tmp _); (· exact GvP.c (.lit _))); (apply GvA.cons; (· exact .tmp _); (· exact GvP.c (.lit _))); exact GvA.nil); (· rfl); (· (decide)))))
  all_goals exact ⟨_, _, by omega, rfl, _, _, by omega, rfl⟩
/-- cells that hold numbers -/
def IsI (ds : List D) : Prop := ∃ l : List Int, ds = cI l
theorem IsI.map (l : List Int) : IsI (cI l) := ⟨l, rfl⟩
theorem IsI.nil : IsI [] := ⟨[], rfl⟩
theorem IsI.cons {k : Int} {ds : List D} (h : IsI ds) : IsI (dI k :: ds) := by obtain ⟨l, rfl⟩ := h; exact ⟨k :: l, rfl⟩
theorem IsI.app {a b : List D} (h : IsI a) (k : IsI b) : IsI (a ++ b) := by obtain ⟨l, rfl⟩ := h; obtain ⟨m, rfl⟩ := k; exact ⟨l ++ m, by simp⟩
theorem IsI.set {k : Int} {ds : List D} {i : Nat} (h : IsI ds) : IsI (ds.set i (dI k)) := by obtain ⟨l, rfl⟩ := h; exact ⟨l.set i k, by simp⟩
theorem IsI.take {ds : List D} {i : Nat} (h : IsI ds) : IsI (ds.take i) := by obtain ⟨l, rfl⟩ := h; exact ⟨l.take i, by simp⟩
theorem IsI.drop {ds : List D} {i : Nat} (h : IsI ds) : IsI (ds.drop i) := by obtain ⟨l, rfl⟩ := h; exact ⟨l.drop i, by simp⟩
theorem IsI.rep {k : Int} {n : Nat} : IsI (List.replicate n (dI k)) := ⟨List.replicate n k, by simp⟩
theorem IsI.sl {n : Nat} {ds : List D} (h : IsI ds) (hn : ds.length = n) : ∃ l : List Int, l.length = n ∧ D.sl 1 n ds = eI l := by
  obtain ⟨l, rfl⟩ := h
  rw [List.length_map] at hn
  exact ⟨l, hn, by rw [← hn]⟩
theorem IsI.res {n m : Nat} {ds : List D} (h : IsI ds) (hn : ds.length = n) (hm : n ≤ m) : ∃ l : List Int, l.length ≤ m ∧ Res.p (.c (D.sl 1 n ds)) = .p (.c (eI l)) := by
  obtain ⟨l, h1, h2⟩ := h.sl hn
  exact ⟨l, by omega, by rw [h2]⟩
theorem curPlay_p (code : Tx) (a s x y : Int) (h0 : 0 ≤ a) (h1 : a ≤ 4611686018427385000) : PX Try.prog 84 (CurB code a s) [.v (.c (dI x)), .v (.c (dI y))] (CurR a 100 fun res => ∃ l : List Int, l.length ≤ 9 ∧ res = .p (.c (eI l))) := by
  refine px_intro Try.func84 rfl rfl rfl (by kernel_rfl) rfl rfl rfl ?_; intro kv
  repeat' (first | (refine so_is (.assign _) ?_; (refine so_q (qt_asC rfl) rfl ?_)) | (refine so_is (.buildSlice 24 0 _) ?_; (apply so_bslice (sz := 1) (by_ := 8); (· kernel_rfl); (· decide); (· (repeat (exact GvS.nil _))); (· (decide)); (· rfl); (· rfl); (· rfl))) | refine so_nil ?_ | refine sk_seq ?_ | refine sk_block ?_ | refine sk_region ?_)
  apply sk_packC [0, 1, 2, 7, 8] [9, 22, 23, 37, 43, 44, 800000000] rfl; (· (repeat (first | exact Pf.nil | apply Pf.cons (.c rfl (.d rfl)) | apply Pf.cons (.c rfl (.ls rfl)) | apply Pf.cons (.c rfl (.lp rfl))))); (· (repeat (first | exact Pb.nil | apply Pb.cons (.row rfl) | (apply Pb.cons; (· apply Nb.box rfl; (repeat (first | exact Ncs.nil rfl | (apply Ncs.cons rfl; (· (exact .d rfl))))))) | apply Pb.skip)))
  refine sk_loopL [0, 1, 2] [22, 23, 37, 43, 44] (fun g : List Int × Int × Int => [(8, iN g.1.length), (7, .c (.ls 9 1 0 g.1.length))]) (fun g => [(800000000, .box [.d (.same (kv 0) (eB code)), .d (dI g.2.1), .d (dW g.2.2)]), (9, .row 1 (cI g.1))]) (fun g => g.1.length ≤ 8 ∧ a ≤ g.2.1 ∧ g.2.1 ≤ a + 2 * g.1.length) (fun g => 9 - g.1.length) (([], a, s)) ?_ (by (repeat (first | exact trivial | refine ⟨(by (rfl)), ?_⟩))) (by (repeat (first | exact trivial | refine ⟨(by (first | (refine row_eq rfl ?_; simp; done) | (refine box_eq rfl ?_; simp; done))), ?_⟩))) ?_
  · dsimp only; simp
  rintro ⟨L, a2, s2⟩ hL
  dsimp only at hL ⊢
  by_cases hL8 : (L.length : Int) < min (max x 0) 4 + min (max y 0) 4
  · repeat' (first | (refine so_is (.assign _) ?_; (refine so_q (qt_asC rfl) rfl ?_)) | (refine so_is (.move _) ?_; (refine so_q (qt_mvC rfl) rfl ?_)) | (refine so_is (.binOp .add 3 _ _ _) ?_; refine so_q (qt_addI rfl rfl (by (omega))) rfl ?_) | (refine so_is (.binOp .lss 3 _ _ _) ?_; refine so_q (qt_lss rfl rfl) rfl ?_) | (refine so_is (.buildSlice 24 1 _) ?_; (apply so_bslice (sz := 1) (by_ := 8); (· kernel_rfl); (· decide); (· (repeat (first | exact GvS.nil _ | apply GvS.c rfl rfl (.lit _) rfl))); (· (decide)); (· rfl); (· rfl); (· rfl))) | (refine so_is (.call ⟨.builtin .append, _, #[24, 24]⟩) ?_; ((apply so_appR (sz := 1) (by_ := 8); (· rfl); (· rfl); (· ((simp; done))); (· exact .row _ _ _ _ rfl (by ((simp; done)))); (· (decide)); (· kernel_rfl); (· decide); (· (omega)); (· (omega)); (· rfl); (· rfl); (· rfl)))) | (refine so_is (.call ⟨.builtin .len, _, #[24]⟩) ?_; (refine so_q (qt_len_ls rfl (by kernel_rfl)) rfl ?_)) | (refine so_is (.binOp .gtr 3 _ _ _) ?_; refine so_q (qt_gtr rfl rfl) rfl ?_) | (refine so_is (.pick _ _ _) ?_; (refine so_q (qt_pkC rfl rfl) rfl ?_)) | (refine so_is (.call ⟨.value (.func 179), _, _⟩) ?_; (apply so_call0 (fid := 179); (· (repeat (first | exact SeA.nil | apply SeA.cons (.c (.d _))))); (· exact l2Near_p _); (· rfl))) | (refine so_is (.call ⟨.value (.func 180), _, _⟩) ?_; (apply so_callX (fid := 180); (· rfl); (· rfl); (· (repeat (first | exact BxI.nil | apply BxI.ks | (apply BxI.o; (· (exact .lit _)))))); (· (repeat (first | exact ArX.nil | apply ArX.v (.c (.d _))))); (· (decide)); (· (decide)); (· exact curPick_p code _ _ _ (by omega) (by omega)); (· rfl); (· (intro b hb1 hb2; omega)); (· rfl); (rintro _ _ ⟨a3, s3, ha3, rfl, x3, hx3, rfl⟩; refine ⟨(by first | rfl | simp [*]), ?_⟩))) | refine so_nil ?_ | refine so_g_no rfl rfl rfl rfl ?_ | refine so_g_yes rfl rfl rfl rfl ?_ | refine so_g_if rfl rfl (fun hg => ?_) (fun hg => ?_) | refine sk_seq ?_ | refine sk_block ?_ | refine sk_blk ?_ | refine sk_exit rfl ?_ | refine sk_skip ?_ | refine sk_region ?_ | refine sk_false rfl ?_ | refine sk_if rfl (fun hc => ?_) (fun hc => ?_))
    all_goals first | (exfalso; omega) | skip
    refine sk_back ?_; refine ⟨(L ++ [x3], a3, s3), ?_, ?_, le_at rfl (by (repeat (first | exact trivial | refine ⟨(by (first | (refine int_eq rfl ?_; ((simp; done))) | (refine ls_eq rfl ?_; ((simp; done))))), ?_⟩))) (by (repeat (first | exact trivial | refine ⟨rfl, ?_⟩))) (by (repeat (first | exact trivial | refine ⟨(by (first | (refine row_eq rfl ?_; simp; done) | rfl)), ?_⟩))) (by (repeat (first | exact trivial | refine ⟨.inr rfl, ?_⟩)))⟩
    · dsimp only
      rw [List.length_append, List.length_singleton]
      omega
    · dsimp only
      rw [List.length_append, List.length_singleton]
      omega
  · repeat' (first | (refine so_is (.assign _) ?_; (refine so_q (qt_asC rfl) rfl ?_)) | (refine so_is (.move _) ?_; (refine so_q (qt_mvC rfl) rfl ?_)) | (refine so_is (.binOp .add 3 _ _ _) ?_; refine so_q (qt_addI rfl rfl (by (omega))) rfl ?_) | (refine so_is (.binOp .lss 3 _ _ _) ?_; refine so_q (qt_lss rfl rfl) rfl ?_) | (refine so_is (.buildSlice 24 1 _) ?_; (apply so_bslice (sz := 1) (by_ := 8); (· kernel_rfl); (· decide); (· (repeat (first | exact GvS.nil _ | apply GvS.c rfl rfl (.lit _) rfl))); (· (decide)); (· rfl); (· rfl); (· rfl))) | (refine so_is (.call ⟨.builtin .append, _, #[24, 24]⟩) ?_; ((apply so_appR (sz := 1) (by_ := 8); (· rfl); (· rfl); (· ((simp; done))); (· exact .row _ _ _ _ rfl (by ((simp; done)))); (· (decide)); (· kernel_rfl); (· decide); (· (omega)); (· (omega)); (· rfl); (· rfl); (· rfl)))) | (refine so_is (.call ⟨.builtin .len, _, #[24]⟩) ?_; (refine so_q (qt_len_ls rfl (by kernel_rfl)) rfl ?_)) | (refine so_is (.binOp .gtr 3 _ _ _) ?_; refine so_q (qt_gtr rfl rfl) rfl ?_) | (refine so_is (.call ⟨.value (.func 88), _, _⟩) ?_; (first | (apply so_callX (d := 29) (fid := 88); (· rfl); (· rfl); (· (repeat (first | exact BxI.nil | apply BxI.ks | (apply BxI.o; (· (exact .lit _)))))); (· (repeat (first | exact ArX.nil | apply ArX.v (.c (.d _))))); (· (decide)); (· (decide)); (· exact curOne_p code _ _ _ (by omega) (by omega)); (· rfl); (· (intro b hb1 hb2; omega)); (· rfl); (rintro _ _ ⟨a3, s3, ha3, rfl, b3, rfl⟩; refine ⟨(by first | rfl | simp [*]), ?_⟩)) | (apply so_callX (d := 41) (fid := 88); (· rfl); (· rfl); (· (repeat (first | exact BxI.nil | apply BxI.ks | (apply BxI.o; (· (exact .lit _)))))); (· (repeat (first | exact ArX.nil | apply ArX.v (.c (.d _))))); (· (decide)); (· (decide)); (· exact curOne_p code _ _ _ (by omega) (by omega)); (· rfl); (· (intro b hb1 hb2; omega)); (· rfl); (rintro _ _ ⟨a3, s3, ha3, rfl, b3, rfl⟩; refine ⟨(by first | rfl | simp [*]), ?_⟩)))) | (refine so_is (.pick _ _ _) ?_; (refine so_q (qt_pkC rfl rfl) rfl ?_)) | (refine so_is (.call ⟨.value (.func 180), _, _⟩) ?_; (apply so_callX (d := 35) (fid := 180); (· rfl); (· rfl); (· (repeat (first | exact BxI.nil | apply BxI.ks | (apply BxI.o; (· (exact .lit _)))))); (· (repeat (first | exact ArX.nil | apply ArX.v (.c (.d _))))); (· (decide)); (· (decide)); (· exact curPick_p code _ _ _ (by omega) (by omega)); (· rfl); (· (intro b hb1 hb2; omega)); (· rfl); (rintro _ _ ⟨a3, s3, ha3, rfl, x3, hx3, rfl⟩; refine ⟨(by first | rfl | simp [*]), ?_⟩))) | (refine so_is (.buildSlice 24 3 _) ?_; (apply so_bslice (sz := 1) (by_ := 8); (· kernel_rfl); (· decide); (· (repeat (first | exact GvS.nil _ | apply GvS.c rfl rfl (.lit _) rfl))); (· (decide)); (· rfl); (· rfl); (· rfl))) | (refine so_is (.call ⟨.value (.func 139), _, _⟩) ?_; (apply so_callX (fid := 139); (· rfl); (· rfl); (· (repeat (first | exact BxI.nil | apply BxI.ks | (apply BxI.o; (· (exact .lit _)))))); (· (repeat (first | exact ArX.nil | apply ArX.v (.c (.row _ _ _ _ rfl (by ((simp; done)))))))); (· (decide)); (· (decide)); (· exact curAmongD_p code _ _ _ _ (fun _ => True) rfl (by decide) (by repeat (first | exact fun x hx => absurd hx List.not_mem_nil | (refine List.forall_mem_cons.2 ⟨⟨_, rfl, trivial⟩, ?_⟩))) (by omega) (by omega)); (· rfl); (· (intro b hb1 hb2; omega)); (· rfl); (rintro _ _ ⟨a3, s3, ha3, rfl, k6, -, rfl⟩; refine ⟨(by first | rfl | simp [*]), ?_⟩))) | (refine so_is (.indexAddr 24 _ _) ?_; (refine so_q (qt_idx_ls rfl rfl (by kernel_rfl : tSl _ 24 1 = true) (by (omega)) (by (omega))) rfl ?_)) | (refine so_is (.store 3 _ _) ?_; ((refine so_store_row rfl rfl rfl rfl (.lit _) (by simp) (by simp) (by kernel_rfl) (by ((simp only [List.length_map, List.length_append, List.length_replicate, fillL_len, rowF_len, gridF_len, mkI_len, mkII_len, partZ_min] at *; omega))) rfl ?_; simp only [St.drop]))) | (refine so_is (.call ⟨.value (.func 179), _, _⟩) ?_; (apply so_call0 (fid := 179); (· (repeat (first | exact SeA.nil | apply SeA.cons (.c (.d _))))); (· exact l2Near_p _); (· rfl))) | refine so_nil ?_ | refine so_g_no rfl rfl rfl rfl ?_ | refine so_g_yes rfl rfl rfl rfl ?_ | refine so_g_if rfl rfl (fun hg => ?_) (fun hg => ?_) | refine sk_seq ?_ | refine sk_block ?_ | refine sk_exit rfl ?_ | refine sk_skip ?_ | refine sk_region ?_ | refine sk_false rfl ?_ | refine sk_if rfl (fun hc => ?_) (fun hc => ?_) | refine sk_cond rfl (fun hc => ?_) (fun hc => ?_))
    all_goals first | (exfalso; omega) | skip
    all_goals (apply sk_xret; (· (apply RetX.p; (· rfl); (· (repeat (first | exact BxO.nil _ | apply BxO.k | (apply BxO.o; (· (exact .lit _)))))); (· (apply GvA.cons; (· exact .tmp _); (· (exact GvP.c (.row _ _ _ _ rfl (by ((simp; done))))))); exact GvA.nil); (· (decide)))))
    all_goals
      refine ⟨_, _, by omega, rfl, IsI.res ?_ (by simp) (by (try simp only [List.length_append, List.length_singleton]); omega)⟩
      repeat (first | exact IsI.map _ | exact IsI.nil | apply IsI.cons | apply IsI.set | apply IsI.app)
theorem near_mul (x y : Int) : ∃ N : Nat, min (max x 0) 4 * min (max y 0) 4 = (N : Int) ∧ N ≤ 16 := by
  have h1 : 0 ≤ min (max x 0) 4 * min (max y 0) 4 := Int.mul_nonneg (by omega) (by omega)
  have h2 : min (max x 0) 4 * min (max y 0) 4 ≤ 4 * 4 := Int.mul_le_mul (by omega) (by omega) (by omega) (by omega)
  exact ⟨(min (max x 0) 4 * min (max y 0) 4).toNat, by omega, by omega⟩
def GameX (x y : Int) (res : Res) : Prop := ∃ (ws : List Int) (wi : List (List Int)), (ws.length ≤ 16 ∧ wi.length ≤ 16) ∧ res = .p (.g [dI x, dI y, eI ws, eII wi])
def IsII (ds : List D) : Prop := ∃ l : List (List Int), ds = cII l
theorem IsII.map (l : List (List Int)) : IsII (cII l) := ⟨l, rfl⟩
theorem IsII.set {n : Nat} {es ds : List D} {i : Nat} (h : IsII ds) (he : IsI es) (hn : es.length = n) : IsII (ds.set i (.sl 1 n es)) := by
  obtain ⟨l, rfl⟩ := h
  obtain ⟨m, _, e⟩ := he.sl hn
  rw [e]
  exact ⟨l.set i m, by simp⟩
theorem IsII.take {ds : List D} {i : Nat} (h : IsII ds) : IsII (ds.take i) := by obtain ⟨l, rfl⟩ := h; exact ⟨l.take i, by simp⟩
theorem IsII.drop {ds : List D} {i : Nat} (h : IsII ds) : IsII (ds.drop i) := by obtain ⟨l, rfl⟩ := h; exact ⟨l.drop i, by simp⟩
theorem IsII.sl {n : Nat} {ds : List D} (h : IsII ds) (hn : ds.length = n) : ∃ l : List (List Int), l.length = n ∧ D.sl 1 n ds = eII l := by
  obtain ⟨l, rfl⟩ := h
  rw [List.length_map] at hn
  exact ⟨l, hn, by rw [← hn]⟩
theorem gameX_of {x y : Int} {n m : Nat} {W R : List D} (hW : IsI W) (hn : W.length = n) (hR : IsII R) (hm : R.length = m) (h1 : n ≤ 16) (h2 : m ≤ 16) : GameX x y (.p (.g [dI x, dI y, .sl 1 n W, .sl 1 m R])) := by
  obtain ⟨w, h3, h4⟩ := hW.sl hn
  obtain ⟨r, h5, h6⟩ := hR.sl hm
  exact ⟨w, r, by omega, by rw [h4, h6]⟩
theorem dem_game {x y : D} {n m : Nat} {W R : List D} (hn : W.length = n) (hm : R.length = m) : C.demL 56 R (C.demL 32 W [.d x, .d y, .ls 32 1 0 n, .ls 56 1 0 m]) = [.d x, .d y, .d (.sl 1 n W), .d (.sl 1 m R)] := by
  subst hn hm
  have b1 : Nat.beq 32 32 = true := rfl
  have b2 : Nat.beq 56 32 = false := rfl
  have b3 : Nat.beq 56 56 = true := rfl
  have b4 : Nat.blt 0 1 = true := rfl
  have b5 : W.length.ble W.length = true := by simp
  have b6 : R.length.ble R.length = true := by simp
  simp [C.demL, C.dem, b1, b2, b3, b4, b5, b6]

end Go.Proofs.Ytefbiejoikpkmaa

namespace Go.Proofs.Ytefbiejoikpkmaa
open Go.RowKit
set_option linter.unusedSectionVars false
variable [Glb]
set_option maxRecDepth 10000
set_option maxHeartbeats 4000000
theorem dem_gameG {b1 b2 : Nat} {x y : D} {n m o : Nat} {W R : List D} (h12 : Nat.beq b2 b1 = false) (hn : n ≤ W.length) (hm : o + m ≤ R.length) : C.demL b2 R (C.demL b1 W [.d x, .d y, .ls b1 1 0 n, .ls b2 1 o m]) = [.d x, .d y, .d (.sl 1 n (W.take n)), .d (.sl 1 m ((R.drop o).take m))] := by
  have b1' : Nat.beq b1 b1 = true := by simp
  have b3 : Nat.beq b2 b2 = true := by simp
  have b4 : Nat.blt 0 1 = true := rfl
  have b5 : n.ble W.length = true := by simpa using hn
  have b6 : (o + m).ble R.length = true := by simpa using hm
  simp [C.demL, C.dem, b1', h12, b3, b4, b5, b6]
theorem dem_game1 {b1 : Nat} {x y e : D} {n : Nat} {W : List D} (hn : n ≤ W.length) : C.demL b1 W [.d x, .d y, .ls b1 1 0 n, .d e] = [.d x, .d y, .d (.sl 1 n (W.take n)), .d e] := by
  have b1' : Nat.beq b1 b1 = true := by simp
  have b4 : Nat.blt 0 1 = true := rfl
  have b5 : n.ble W.length = true := by simpa using hn
  simp [C.demL, C.dem, b1', b4, b5]
theorem lits4 {a b c d : Value} : Lits [.lit a, .lit b, .lit c, .lit d] := by
  intro x hx
  simp only [List.mem_cons, List.not_mem_nil, or_false] at hx
  rcases hx with rfl | rfl | rfl | rfl <;> exact ⟨_, rfl⟩
set_option maxHeartbeats 40000000 in
theorem curGameOf_p (code : Tx) (a s x y : Int) (h0 : 0 ≤ a) (h1 : a ≤ 4611686018427380000) : PXV Try.prog 82 (CurB code a s) [.c (dI x), .c (dI y)] (CurR a 400 (GameX x y)) := by
  obtain ⟨N, hN, hN16⟩ := near_mul x y
  refine pxv_intro Try.func82 rfl rfl rfl (by kernel_rfl) rfl rfl rfl ?_; intro kv X c0
  repeat' (first | (refine so_is (.alloc 27) ?_; refine so_alloc (zs := [.int .i64 0, .int .i64 0, .slice none 0 0, .slice none 0 0]) (by kernel_rfl) rfl ?_) | (refine so_is (.move _) ?_; (refine so_q (qt_mvC rfl) rfl ?_)) | (refine so_is (.build 27 _) ?_; refine so_q (qt_build (cs := [_, _, _, _]) [(0, 1), (1, 1), (2, 1), (3, 1)] [.int .i64 0, .int .i64 0, .slice none 0 0, .slice none 0 0] (by kernel_rfl) (by kernel_rfl) rfl) rfl ?_) | (refine so_is (.store 27 _ _) ?_; (refine so_store_box rfl rfl rfl (by kernel_rfl) rfl rfl ?_)) | (refine so_is (.assign _) ?_; (refine so_q (qt_asC rfl) rfl ?_)) | (refine so_is (.call ⟨.value (.func 88), _, _⟩) ?_; (apply so_callX (fid := 88); (· rfl); (· rfl); (· (repeat (first | exact BxI.nil | apply BxI.ks | (apply BxI.o; (· (exact .lit _)))))); (· (repeat (first | exact ArX.nil | apply ArX.v (.c (.d _))))); (· (decide)); (· (decide)); (· exact curOne_p code _ _ _ (by omega) (by omega)); (· rfl); (· (intro b hb1 hb2; omega)); (· rfl); (rintro _ _ ⟨a1, s1, ha1, rfl, b1, rfl⟩; refine ⟨(by first | rfl | simp [*]), ?_⟩))) | refine so_nil ?_ | refine sk_seq ?_ | refine sk_block ?_ | refine sk_region ?_)
  refine sk_ghost (sim_nil_box 7 2 32 1 rfl (by decide) rfl rfl rfl) ?_
  refine sk_ghost (sim_nil_box 7 3 56 1 rfl (by decide) rfl rfl rfl) ?_
  apply sk_packC [0, 1, 2, 6, 7, 8, 9] [6, 7, 29, 31, 32, 34, 40, 51, 55, 56, 73, 84, 87, 89, 98, 800000000, 900000000] rfl; (· (repeat (first | exact Pf.nil | apply Pf.cons (.c rfl (.d rfl)) | apply Pf.cons (.c rfl (.lp rfl))))); (· (repeat (first | exact Pb.nil | apply Pb.cons (.row rfl) | (apply Pb.cons; (· apply Nb.box rfl; (repeat (first | exact Ncs.nil rfl | (apply Ncs.cons rfl; (· (first | exact .d rfl | exact .ls rfl))))))) | apply Pb.cons (.any rfl) | apply Pb.skip)))
  refine sk_loopL [0, 1, 2, 6, 7, 8] [6, 29, 31, 34, 40, 51, 55, 73, 84, 87, 89, 98, 900000000] (fun g : Nat × List Int × List (List Int) × Int × Int => [(9, iN g.1)]) (fun g => [(800000000, .box [.d (.same (kv 0) (eB code)), .d (dI g.2.2.2.1), .d (dW g.2.2.2.2)]), (7, .box [.d (dI x), .d (dI y), .ls 32 1 0 g.1, .ls 56 1 0 g.1]), (32, .row 1 (cI g.2.1)), (56, .row 1 (cII g.2.2.1))]) (fun g => (g.1 ≤ N ∧ g.2.1.length = g.1 ∧ g.2.2.1.length = g.1) ∧ a ≤ g.2.2.2.1 ∧ g.2.2.2.1 ≤ a + 2 + 20 * g.1) (fun g => N - g.1) ((0, [], [], a1, s1)) ?_ (by (repeat (first | exact trivial | refine ⟨(by (rfl)), ?_⟩))) (by (repeat (first | exact trivial | refine ⟨(by (first | (refine row_eq rfl ?_; simp; done) | (refine box_eq rfl ?_; simp; done))), ?_⟩))) ?_
  · dsimp only; simp; omega
  rintro ⟨n, W, R, a2, s2⟩ ⟨hL, hA⟩
  dsimp only at hL hA ⊢
  by_cases hL8 : n < N
  · repeat' (first | (refine so_is (.move _) ?_; (refine so_q (qt_mvC rfl) rfl ?_)) | (refine so_is (.store 27 _ _) ?_; (refine so_store_box rfl rfl rfl (by kernel_rfl) rfl rfl ?_)) | (refine so_is (.assign _) ?_; (refine so_q (qt_asC rfl) rfl ?_)) | (refine so_is (.binOp .mul 3 _ _ _) ?_; refine so_q (qt_mulI rfl rfl (by (omega))) rfl ?_) | (refine so_is (.binOp .lss 3 _ _ _) ?_; refine so_q (qt_lss rfl rfl) rfl ?_) | (refine so_is (.fieldAddr 27 _ 2) ?_; (refine so_q (qt_fld_lp (off := 2) rfl (by kernel_rfl)) rfl ?_)) | (refine so_is (.load 24 _) ?_; (refine so_q (qt_load_box rfl rfl (by kernel_rfl) rfl) rfl ?_)) | (refine so_is (.call ⟨.builtin .len, _, #[24]⟩) ?_; (refine so_q (qt_len_ls rfl (by kernel_rfl)) rfl ?_)) | (refine so_is (.binOp .gtr 3 _ _ _) ?_; refine so_q (qt_gtr rfl rfl) rfl ?_) | (refine so_is (.load 27 _) ?_; (refine so_q (qt_load_boxs rfl rfl (by kernel_rfl : tAgg _ 27 4 = true) rfl) rfl ?_)) | (refine so_is (.call ⟨.value (.func 179), _, _⟩) ?_; (apply so_call0 (fid := 179); (· (repeat (first | exact SeA.nil | apply SeA.cons (.c (.d _))))); (· exact l2Near_p _); (· rfl))) | refine so_nil ?_ | refine sk_seq ?_ | refine sk_block ?_ | refine sk_exit rfl ?_ | refine sk_skip ?_ | refine sk_region (id := 3) ?_ | refine sk_region (id := 12) ?_ | refine sk_region (id := 13) ?_ | refine sk_region (id := 14) ?_ | refine sk_region (id := 23) ?_ | refine sk_if rfl (fun hc => ?_) (fun hc => ?_))
    all_goals first | (exfalso; omega) | skip
    apply sk_packC [0, 1, 2, 6, 7, 8, 9] [6, 7, 32, 56, 800000000, 900000000] rfl; (· (repeat (first | exact Pf.nil | apply Pf.cons (.c rfl (.d rfl)) | apply Pf.cons (.c rfl (.lp rfl))))); (· (repeat (first | exact Pb.nil | apply Pb.cons (.row rfl) | (apply Pb.cons; (· apply Nb.box rfl; (repeat (first | exact Ncs.nil rfl | (apply Ncs.cons rfl; (· (first | exact .d rfl | exact .ls rfl))))))) | apply Pb.cons (.any rfl))))
    refine sk_join [0, 1, 2, 6, 7, 8, 9] [6, 900000000] (fun g : Int × Int × Int => []) (fun g => [(800000000, .box [.d (.same (kv 0) (eB code)), .d (dI g.2.1), .d (dW g.2.2)]), (7, .box [.d (dI x), .d (dI y), .ls 32 1 0 (n + 1), .ls 56 1 0 n]), (32, .row 1 (cI (W ++ [g.1]))), (56, .row 1 (cII R))]) (fun g => a2 ≤ g.2.1 ∧ g.2.1 ≤ a2 + 2) ?_ ?_
    · repeat' (first | refine so_alt ?_ ?_ | (refine so_is (.move _) ?_; (refine so_q (qt_mvC rfl) rfl ?_)) | (refine so_is (.fieldAddr 27 _ 2) ?_; (refine so_q (qt_fld_lp (off := 2) rfl (by kernel_rfl)) rfl ?_)) | (refine so_is (.load 24 _) ?_; (refine so_q (qt_load_box rfl rfl (by kernel_rfl) rfl) rfl ?_)) | (refine so_is (.buildSlice 24 5 _) ?_; (apply so_bslice (sz := 1) (by_ := 8); (· kernel_rfl); (· decide); (· (repeat (first | exact GvS.nil _ | apply GvS.c rfl rfl (.lit _) rfl))); (· (decide)); (· rfl); (· rfl); (· rfl))) | (refine so_is (.buildSlice 24 1 _) ?_; (apply so_bslice (sz := 1) (by_ := 8); (· kernel_rfl); (· decide); (· (repeat (first | exact GvS.nil _ | apply GvS.c rfl rfl (.lit _) rfl))); (· (decide)); (· rfl); (· rfl); (· rfl))) | (refine so_is (.call ⟨.builtin .append, _, #[24, 24]⟩) ?_; ((apply so_appR (sz := 1) (by_ := 8); (· rfl); (· rfl); (· ((simp; omega))); (· exact .row _ _ _ _ rfl (by ((simp; done)))); (· (decide)); (· kernel_rfl); (· decide); (· (omega)); (· (omega)); (· rfl); (· rfl); (· rfl)))) | (refine so_is (.store 24 _ _) ?_; (refine so_store_box1 rfl rfl rfl rfl (by kernel_rfl) rfl rfl ?_)) | (refine so_is (.call ⟨.value (.func 139), _, _⟩) ?_; (apply so_callX (fid := 139); (· rfl); (· rfl); (· (repeat (first | exact BxI.nil | apply BxI.ks | (apply BxI.o; (· (exact .lit _)))))); (· (repeat (first | exact ArX.nil | apply ArX.v (.c (.row _ _ _ _ rfl (by ((simp; done)))))))); (· (decide)); (· (decide)); (· exact curAmongD_p code _ _ _ _ (fun _ => True) rfl (by decide) (by repeat (first | exact fun x hx => absurd hx List.not_mem_nil | (refine List.forall_mem_cons.2 ⟨⟨_, rfl, trivial⟩, ?_⟩))) (by omega) (by omega)); (· rfl); (· (intro b hb1 hb2; omega)); (· rfl); (rintro _ _ ⟨a3, s3, ha3, rfl, k6, -, rfl⟩; refine ⟨(by first | rfl | simp [*]), ?_⟩))) | refine so_nil ?_ | refine sk_drawQ 5 (fun i => i == 4 || i == 6 || i == 8) (.step 0 true (.step 2 true (.alt 5 (.step 1 false (.step 3 false (.step 4 false (.step 5 false (.step 6 false (.step 7 true (.step 8 false .nil))))))) (.step 3 false (.alt 5 (.step 1 false (.step 4 false (.step 5 false (.step 6 false (.step 7 true (.step 8 false .nil)))))) (.step 4 false (.step 1 true (.step 5 false (.step 6 false (.step 7 true (.step 8 false .nil))))))))))) [(0, 511, 495, true), (1, 510, 495, false), (0, 511, 511, true), (0, 511, 511, false), (12, 499, 511, false), (16, 495, 495, false), (50, 477, 495, false), (127, 511, 431, true), (255, 319, 431, false)] (by kernel_rfl) (by kernel_rfl) ?_)
      all_goals
        refine sk_back ?_; refine ⟨(k6, a3, s3), ?_, trivial, le_at rfl (by (repeat (exact trivial))) (by (repeat (first | exact trivial | refine ⟨rfl, ?_⟩))) (by (repeat (first | exact trivial | refine ⟨(by (first | (refine row_eq rfl ?_; simp; done) | rfl)), ?_⟩))) (by (repeat (first | exact trivial | refine ⟨.inr rfl, ?_⟩)))⟩
        dsimp only
        omega
    rintro ⟨k6, a3, s3⟩ ha3
    dsimp only at ha3 ⊢
    repeat' (first | (refine so_is (.move _) ?_; (refine so_q (qt_mvC rfl) rfl ?_)) | (refine so_is (.assign _) ?_; (refine so_q (qt_asC rfl) rfl ?_)) | (refine so_is (.buildSlice 24 4 _) ?_; (apply so_bslice (sz := 1) (by_ := 8); (· kernel_rfl); (· decide); (· (repeat (first | exact GvS.nil _ | apply GvS.c rfl rfl (.lit _) rfl))); (· (decide)); (· rfl); (· rfl); (· rfl))) | (refine so_is (.pick _ _ _) ?_; (refine so_q (qt_pkC rfl rfl) rfl ?_)) | (refine so_is (.unOp .not 4 _) ?_; refine so_q (qt_not rfl) rfl ?_) | (refine so_is (.fieldAddr 27 _ 3) ?_; (refine so_q (qt_fld_lp (off := 3) rfl (by kernel_rfl)) rfl ?_)) | (refine so_is (.load 25 _) ?_; (refine so_q (qt_load_box rfl rfl (by kernel_rfl) rfl) rfl ?_)) | (refine so_is (.buildSlice 25 1 _) ?_; (apply so_bslice (sz := 1) (by_ := 24); (· kernel_rfl); (· decide); (· (repeat (first | exact GvS.nil _ | apply GvS.c rfl rfl (.row _ _ _ _ rfl (by ((simp; done)))) rfl))); (· (decide)); (· rfl); (· rfl); (· rfl))) | (refine so_is (.call ⟨.builtin .append, _, #[25, 25]⟩) ?_; ((apply so_appR (sz := 1) (by_ := 24); (· rfl); (· rfl); (· ((simp; omega))); (· exact .row _ _ _ _ rfl (by ((simp; done)))); (· (decide)); (· kernel_rfl); (· decide); (· (omega)); (· (omega)); (· rfl); (· rfl); (· rfl)))) | (refine so_is (.store 25 _ _) ?_; (refine so_store_box1 rfl rfl rfl rfl (by kernel_rfl) rfl rfl ?_)) | (refine so_is (.binOp .add 3 _ _ _) ?_; refine so_q (qt_addI rfl rfl (by (omega))) rfl ?_) | (refine so_is (.call ⟨.value (.func 88), _, _⟩) ?_; (apply so_callX (fid := 88); (· rfl); (· rfl); (· (repeat (first | exact BxI.nil | apply BxI.ks | (apply BxI.o; (· (exact .lit _)))))); (· (repeat (first | exact ArX.nil | apply ArX.v (.c (.d _))))); (· (decide)); (· (decide)); (· exact curOne_p code _ _ _ (by omega) (by omega)); (· rfl); (· (intro b hb1 hb2; omega)); (· rfl); (rintro _ _ ⟨a3, s3, ha3, rfl, b3, rfl⟩; refine ⟨(by first | rfl | simp [*]), ?_⟩))) | (refine so_is (.call ⟨.value (.func 180), _, _⟩) ?_; (apply so_callX (fid := 180); (· rfl); (· rfl); (· (repeat (first | exact BxI.nil | apply BxI.ks | (apply BxI.o; (· (exact .lit _)))))); (· (repeat (first | exact ArX.nil | apply ArX.v (.c (.d _))))); (· (decide)); (· (decide)); (· exact curPick_p code _ _ _ (by omega) (by omega)); (· rfl); (· (intro b hb1 hb2; omega)); (· rfl); (rintro _ _ ⟨a3, s3, ha3, rfl, x3, hx3, rfl⟩; refine ⟨(by first | rfl | simp [*]), ?_⟩))) | refine so_nil ?_ | refine so_g_no rfl rfl rfl rfl ?_ | refine so_g_yes rfl rfl rfl rfl ?_ | refine so_g_b rfl rfl (fun hg => ?_) (fun hg => ?_) | refine sk_seq ?_ | refine sk_blk ?_ | refine sk_skip ?_ | refine sk_region ?_ | refine sk_false rfl ?_ | refine sk_not rfl (fun hc => ?_) (fun hc => ?_) | refine sk_cond rfl (fun hc => ?_) (fun hc => ?_))
    all_goals first | (exfalso; omega) | (exfalso; simp_all; done) | skip
    · refine sk_back ?_; refine ⟨(n + 1, W ++ [k6], R ++ [[0, 1, 1, 0]], a3, s3), ?_, ?_, le_at rfl (by (repeat (first | exact trivial | refine ⟨(by (rfl)), ?_⟩))) (by (repeat (first | exact trivial | refine ⟨rfl, ?_⟩))) (by (repeat (first | exact trivial | refine ⟨(by (first | (refine row_eq rfl ?_; simp; done) | rfl)), ?_⟩))) (by (repeat (first | exact trivial | refine ⟨.inr rfl, ?_⟩ | refine ⟨.inl rfl, ?_⟩)))⟩
      · dsimp only
        simp only [List.length_append, List.length_singleton]
        omega
      · dsimp only
        omega
    · refine sk_back ?_; refine ⟨(n + 1, W ++ [k6], R ++ [[1, 0, 0, 1]], a3, s3), ?_, ?_, le_at rfl (by (repeat (first | exact trivial | refine ⟨(by (rfl)), ?_⟩))) (by (repeat (first | exact trivial | refine ⟨rfl, ?_⟩))) (by (repeat (first | exact trivial | refine ⟨(by (first | (refine row_eq rfl ?_; simp; done) | rfl)), ?_⟩))) (by (repeat (first | exact trivial | refine ⟨.inr rfl, ?_⟩)))⟩
      · dsimp only
        simp only [List.length_append, List.length_singleton]
        omega
      · dsimp only
        omega
    · rename_i _ _ _ p1 _ _ _ _ p2 _ _ _ _ p3 _
      refine sk_back ?_; refine ⟨(n + 1, W ++ [k6], R ++ [[p1, p2, p3, x3]], a3, s3), ?_, ?_, le_at rfl (by (repeat (first | exact trivial | refine ⟨(by (rfl)), ?_⟩))) (by (repeat (first | exact trivial | refine ⟨rfl, ?_⟩))) (by (repeat (first | exact trivial | refine ⟨(by (first | (refine row_eq rfl ?_; simp; done) | rfl)), ?_⟩))) (by (repeat (first | exact trivial | refine ⟨.inr rfl, ?_⟩ | refine ⟨.inl rfl, ?_⟩)))⟩
      · dsimp only
        simp only [List.length_append, List.length_singleton]
        omega
      · dsimp only
        omega
  · have e : n = N := by omega
    repeat' (first | (refine so_is (.move _) ?_; (refine so_q (qt_mvC rfl) rfl ?_)) | (refine so_is (.assign _) ?_; (refine so_q (qt_asC rfl) rfl ?_)) | (refine so_is (.binOp .mul 3 _ _ _) ?_; refine so_q (qt_mulI rfl rfl (by (omega))) rfl ?_) | (refine so_is (.binOp .lss 3 _ _ _) ?_; refine so_q (qt_lss rfl rfl) rfl ?_) | (refine so_is (.fieldAddr 27 _ 2) ?_; (refine so_q (qt_fld_lp (off := 2) rfl (by kernel_rfl)) rfl ?_)) | (refine so_is (.load 24 _) ?_; (refine so_q (qt_load_box rfl rfl (by kernel_rfl) rfl) rfl ?_)) | (refine so_is (.buildSlice 24 5 _) ?_; (apply so_bslice (sz := 1) (by_ := 8); (· kernel_rfl); (· decide); (· (repeat (first | exact GvS.nil _ | apply GvS.c rfl rfl (.lit _) rfl))); (· (decide)); (· rfl); (· rfl); (· rfl))) | (refine so_is (.call ⟨.builtin .len, _, #[24]⟩) ?_; (refine so_q (qt_len_ls rfl (by kernel_rfl)) rfl ?_)) | (refine so_is (.binOp .gtr 3 _ _ _) ?_; refine so_q (qt_gtr rfl rfl) rfl ?_) | (refine so_is (.binOp .eql 3 _ _ _) ?_; refine so_q (qt_eql rfl rfl) rfl ?_) | (refine so_is (.call ⟨.value (.func 179), _, _⟩) ?_; (apply so_call0 (fid := 179); (· (repeat (first | exact SeA.nil | apply SeA.cons (.c (.d _))))); (· exact l2Near_p _); (· rfl))) | (refine so_is (.call ⟨.value (.func 180), _, _⟩) ?_; (apply so_callX (fid := 180); (· rfl); (· rfl); (· (repeat (first | exact BxI.nil | apply BxI.ks | (apply BxI.o; (· (exact .lit _)))))); (· (repeat (first | exact ArX.nil | apply ArX.v (.c (.d _))))); (· (decide)); (· (decide)); (· exact curPick_p code _ _ _ (by omega) (by omega)); (· rfl); (· (intro b hb1 hb2; omega)); (· rfl); (rintro _ _ ⟨a3, s3, ha3, rfl, x3, hx3, rfl⟩; refine ⟨(by first | rfl | simp [*]), ?_⟩))) | refine so_nil ?_ | refine sk_seq ?_ | refine sk_block ?_ | refine sk_blk ?_ | refine sk_exit rfl ?_ | refine sk_skip ?_ | refine sk_region (id := 3) ?_ | refine sk_drawQ 5 (fun i => i == 6 || i == 8) (.step 0 true (.step 1 true (.step 2 true (.step 3 false (.step 4 false (.step 5 false (.step 6 false (.step 7 true (.step 8 false .nil))))))))) [(0, 511, 511, true), (1, 510, 511, false), (0, 511, 511, true), (0, 511, 511, false), (12, 499, 511, false), (16, 495, 511, false), (50, 477, 511, false), (127, 511, 447, true), (255, 319, 447, false)] (by kernel_rfl) (by kernel_rfl) ?_ | refine sk_region (id := 12) ?_ | refine sk_region (id := 13) ?_ | refine sk_region (id := 14) ?_ | refine sk_region (id := 15) ?_ | refine sk_region (id := 17) ?_ | refine sk_region (id := 19) ?_ | refine sk_region (id := 21) ?_ | refine sk_if rfl (fun hc => ?_) (fun hc => ?_))
    all_goals first | (exfalso; omega) | skip
    · repeat' (first | refine so_alt ?_ ?_ | (refine so_is (.move _) ?_; (refine so_q (qt_mvC rfl) rfl ?_)) | (refine so_is (.fieldAddr 27 _ 2) ?_; (refine so_q (qt_fld_lp (off := 2) rfl (by kernel_rfl)) rfl ?_)) | (refine so_is (.load 24 _) ?_; (refine so_q (qt_load_box rfl rfl (by kernel_rfl) rfl) rfl ?_)) | (refine so_is (.buildSlice 24 3 _) ?_; (apply so_bslice (sz := 1) (by_ := 8); (· kernel_rfl); (· decide); (· (repeat (first | exact GvS.nil _ | apply GvS.c rfl rfl (.lit _) rfl))); (· (decide)); (· rfl); (· rfl); (· rfl))) | (refine so_is (.indexAddr 24 _ _) ?_; (refine so_q (qt_idx_ls rfl rfl (by kernel_rfl : tSl _ 24 1 = true) (by (omega)) (by (omega))) rfl ?_)) | (refine so_is (.store 3 _ _) ?_; ((refine so_store_row rfl rfl rfl rfl (.lit _) (by simp) (by simp) (by kernel_rfl) (by ((simp only [List.length_map, List.length_append, List.length_replicate, fillL_len, rowF_len, gridF_len, mkI_len, mkII_len, partZ_min] at *; omega))) rfl ?_; simp only [St.drop]))) | (refine so_is (.call ⟨.value (.func 139), _, _⟩) ?_; (apply so_callX (fid := 139); (· rfl); (· rfl); (· (repeat (first | exact BxI.nil | apply BxI.ks | (apply BxI.o; (· (exact .lit _)))))); (· (repeat (first | exact ArX.nil | apply ArX.v (.c (.row _ _ _ _ rfl (by ((simp; done)))))))); (· (decide)); (· (decide)); (· exact curAmongD_p code _ _ _ _ (fun _ => True) rfl (by decide) (by repeat (first | exact fun x hx => absurd hx List.not_mem_nil | (refine List.forall_mem_cons.2 ⟨⟨_, rfl, trivial⟩, ?_⟩))) (by omega) (by omega)); (· rfl); (· (intro b hb1 hb2; omega)); (· rfl); (rintro _ _ ⟨a3, s3, ha3, rfl, k6, -, rfl⟩; refine ⟨(by first | rfl | simp [*]), ?_⟩))) | (refine so_is (.call ⟨.value (.func 180), _, _⟩) ?_; (apply so_callX (fid := 180); (· rfl); (· rfl); (· (repeat (first | exact BxI.nil | apply BxI.ks | (apply BxI.o; (· (exact .lit _)))))); (· (repeat (first | exact ArX.nil | apply ArX.v (.c (.d _))))); (· (decide)); (· (decide)); (· exact curPick_p code _ _ _ (by omega) (by omega)); (· rfl); (· (intro b hb1 hb2; omega)); (· rfl); (rintro _ _ ⟨a3, s3, ha3, rfl, x3, hx3, rfl⟩; refine ⟨(by first | rfl | simp [*]), ?_⟩))) | refine so_nil ?_ | refine sk_seq ?_ | refine sk_blk ?_ | refine sk_drawQ 16 (fun i => i == 4 || i == 7 || i == 9) (.step 0 true (.step 2 true (.step 3 true (.step 5 true (.alt 16 (.step 1 false (.alt 16 (.step 4 false (.step 6 false (.step 7 false (.step 8 true (.step 9 false .nil))))) (.step 6 false (.step 4 false (.step 7 false (.step 8 true (.step 9 false .nil))))))) (.alt 16 (.step 4 false (.alt 16 (.step 1 false (.step 6 false (.step 7 false (.step 8 true (.step 9 false .nil))))) (.step 6 false (.alt 16 (.step 1 false (.step 7 false (.step 8 true (.step 9 false .nil)))) (.step 7 false (.step 1 true (.step 8 true (.step 9 false .nil)))))))) (.step 6 false (.alt 16 (.step 1 false (.step 4 false (.step 7 false (.step 8 true (.step 9 false .nil))))) (.step 4 false (.alt 16 (.step 1 false (.step 7 false (.step 8 true (.step 9 false .nil)))) (.step 7 false (.step 1 true (.step 8 true (.step 9 false .nil)))))))))))))) [(0, 1023, 879, true), (1, 1022, 879, false), (0, 1023, 1023, true), (0, 1023, 1023, true), (12, 1011, 1023, false), (0, 1023, 1007, true), (0, 1023, 1007, false), (112, 927, 1007, false), (255, 1005, 879, true), (511, 639, 879, false)] (by kernel_rfl) (by kernel_rfl) ?_)
      all_goals first | (exfalso; omega) | skip
      all_goals
        refine sk_ghost (sim_dem 32 1 rfl) ?_
        refine sk_ghost (sim_dem 56 1 rfl) ?_
        refine sk_ghost (sim_boxeq 7 _ rfl (dem_game (by simp; omega) (by simp; omega))) ?_
        repeat' (first | (refine so_is (.store 27 _ _) ?_; (refine so_store_box rfl rfl rfl (by kernel_rfl) rfl rfl ?_)) | (refine so_is (.load 27 _) ?_; (refine so_q (qt_load_boxs rfl rfl (by kernel_rfl : tAgg _ 27 4 = true) rfl) rfl ?_)) | refine so_nil ?_ | refine sk_region ?_)
        (apply sk_xvret; (· (apply RetXV.p; (· rfl); (· (repeat (first | exact BxO.nil _ | apply BxO.k | (apply BxO.o; (· (exact .lit _)))))); (· rfl); (· (apply RdA.cons; (· (apply RV.cellN (n := 4); (· rfl); (· rfl); (· kernel_rfl); (· rfl))); (· (apply RdP.g; (· (apply RdL.cons (.d _)); (apply RdL.cons (.d _)); ((apply RdL.cons (.d _))); ((apply RdL.cons (.d _))); exact RdL.nil)))); exact RdA.nil); (· (decide)))))
        refine ⟨_, _, by omega, rfl, gameX_of ?_ (by simp; omega) (IsII.map R) (by simp; omega) (by omega) (by omega)⟩
        exact IsI.set (IsI.map W)
    · repeat' (first | refine sk_seq ?_ | refine sk_blk ?_ | (refine sk_drawQ 18 (fun i => i == 4 || i == 7 || i == 10 || i == 13 || i == 17) (IT.lt (.step 17 false .nil) fun Y17 => (IT.lt (.step 11 false (.step 15 true (.step 16 true (IT.ref false [6, 7, 93, 94] [6, 7, 29, 31, 32, 34, 40, 51, 55, 56, 73, 84, 87, 89, 900000000, 800000000] Y17)))) fun Y16 => (IT.lt (.step 13 false (.step 14 true (.step 15 true (.step 16 true (IT.ref false [6, 7, 93, 94] [6, 7, 29, 31, 32, 34, 40, 51, 55, 56, 73, 84, 87, 89, 900000000, 800000000] Y17))))) fun Y15 => (IT.lt (.alt 18 (.step 11 false (IT.ref false [6, 7, 79, 82, 89, 90] [6, 7, 29, 31, 32, 34, 40, 51, 55, 56, 73, 84, 87, 89, 900000000, 800000000] Y15)) (.step 13 false (.step 14 true (IT.ref false [6, 7, 79, 82, 85, 88, 92] [6, 7, 29, 31, 32, 34, 40, 51, 55, 56, 73, 84, 87, 89, 900000000, 800000000] Y16)))) fun Y14 => (IT.lt (.step 10 false (IT.ref false [6, 7, 79, 82, 85, 88, 90] [6, 7, 29, 31, 32, 34, 40, 51, 55, 56, 73, 84, 87, 89, 900000000, 800000000] Y14)) fun Y13 => (IT.lt (.step 9 false (IT.ref false [6, 7, 79, 82, 85, 86, 87, 90] [6, 7, 29, 31, 32, 34, 40, 51, 55, 56, 73, 84, 87, 89, 900000000, 800000000] Y13)) fun Y12 => (IT.lt (.step 7 false (IT.ref false [6, 7, 79, 82, 85, 86, 87, 90] [6, 7, 29, 31, 32, 34, 40, 51, 55, 56, 73, 84, 87, 89, 900000000, 800000000] Y13)) fun Y11 => (IT.lt (.alt 18 (.step 1 false (IT.ref true [6, 7, 79, 82, 85, 86, 87, 90] [6, 7, 29, 31, 32, 34, 40, 51, 55, 56, 73, 84, 87, 89, 900000000, 800000000] Y13)) (.step 10 false (.alt 18 (.step 1 false (IT.ref true [6, 7, 79, 82, 85, 88, 90] [6, 7, 29, 31, 32, 34, 40, 51, 55, 56, 73, 84, 87, 89, 900000000, 800000000] Y14)) (.alt 18 (.step 11 false (.alt 18 (.step 1 false (IT.ref true [6, 7, 79, 82, 89, 90] [6, 7, 29, 31, 32, 34, 40, 51, 55, 56, 73, 84, 87, 89, 900000000, 800000000] Y15)) (.step 13 false (.step 1 true (.step 14 true (.step 15 true (.step 16 true (IT.ref true [6, 7, 93, 94] [6, 7, 29, 31, 32, 34, 40, 51, 55, 56, 73, 84, 87, 89, 900000000, 800000000] Y17)))))))) (.step 13 false (.step 1 true (.step 14 true (IT.ref true [6, 7, 79, 82, 85, 88, 92] [6, 7, 29, 31, 32, 34, 40, 51, 55, 56, 73, 84, 87, 89, 900000000, 800000000] Y16)))))))) fun Y10 => (IT.lt (.alt 18 (.step 7 false (IT.ref false [6, 7, 79, 82, 85, 86, 90] [6, 7, 29, 31, 32, 34, 40, 51, 55, 56, 73, 84, 87, 89, 900000000, 800000000] Y12)) (.step 9 false (IT.ref false [6, 7, 79, 82, 83, 84, 86, 87, 90] [6, 7, 29, 31, 32, 34, 40, 51, 55, 56, 73, 84, 87, 89, 900000000, 800000000] Y11))) fun Y9 => (IT.lt (.step 6 false (IT.ref false [6, 7, 79, 82, 83, 84, 86, 87, 90] [6, 7, 29, 31, 32, 34, 40, 51, 55, 56, 73, 84, 87, 89, 900000000, 800000000] Y11)) fun Y8 => (IT.lt (.step 4 false (IT.ref false [6, 7, 79, 82, 83, 84, 86, 87, 90] [6, 7, 29, 31, 32, 34, 40, 51, 55, 56, 73, 84, 87, 89, 900000000, 800000000] Y11)) fun Y7 => (IT.lt (.alt 18 (.step 1 false (IT.ref true [6, 7, 79, 82, 83, 84, 86, 87, 90] [6, 7, 29, 31, 32, 34, 40, 51, 55, 56, 73, 84, 87, 89, 900000000, 800000000] Y11)) (.step 7 false (IT.ref false [6, 7, 78, 82, 85, 86, 87, 90] [6, 7, 29, 31, 32, 34, 40, 51, 55, 56, 73, 84, 87, 89, 900000000, 800000000] Y10))) fun Y6 => (IT.lt (.alt 18 (.step 6 false (IT.ref false [6, 7, 79, 82, 83, 84, 86, 90] [6, 7, 29, 31, 32, 34, 40, 51, 55, 56, 73, 84, 87, 89, 900000000, 800000000] Y9)) (.step 9 false (IT.ref false [6, 7, 79, 82, 83, 86, 87, 90] [6, 7, 29, 31, 32, 34, 40, 51, 55, 56, 73, 84, 87, 89, 900000000, 800000000] Y8))) fun Y5 => (IT.lt (.alt 18 (.step 4 false (IT.ref false [6, 7, 79, 82, 83, 84, 86, 90] [6, 7, 29, 31, 32, 34, 40, 51, 55, 56, 73, 84, 87, 89, 900000000, 800000000] Y9)) (.step 9 false (IT.ref false [6, 7, 79, 80, 81, 83, 84, 86, 87, 90] [6, 7, 29, 31, 32, 34, 40, 51, 55, 56, 73, 84, 87, 89, 900000000, 800000000] Y7))) fun Y4 => (IT.lt (.alt 18 (.step 1 false (IT.ref true [6, 7, 79, 82, 83, 84, 86, 90] [6, 7, 29, 31, 32, 34, 40, 51, 55, 56, 73, 84, 87, 89, 900000000, 800000000] Y9)) (.alt 18 (.step 7 false (.alt 18 (.step 1 false (IT.ref true [6, 7, 79, 82, 85, 86, 90] [6, 7, 29, 31, 32, 34, 40, 51, 55, 56, 73, 84, 87, 89, 900000000, 800000000] Y12)) (.step 9 false (IT.ref true [6, 7, 78, 82, 85, 86, 87, 90] [6, 7, 29, 31, 32, 34, 40, 51, 55, 56, 73, 84, 87, 89, 900000000, 800000000] Y10)))) (.step 9 false (IT.ref false [6, 7, 78, 82, 83, 84, 86, 87, 90] [6, 7, 29, 31, 32, 34, 40, 51, 55, 56, 73, 84, 87, 89, 900000000, 800000000] Y6)))) fun Y3 => (IT.lt (.alt 18 (.step 4 false (IT.ref false [6, 7, 79, 82, 83, 86, 87, 90] [6, 7, 29, 31, 32, 34, 40, 51, 55, 56, 73, 84, 87, 89, 900000000, 800000000] Y8)) (.step 6 false (IT.ref false [6, 7, 79, 80, 81, 83, 84, 86, 87, 90] [6, 7, 29, 31, 32, 34, 40, 51, 55, 56, 73, 84, 87, 89, 900000000, 800000000] Y7))) fun Y2 => (IT.lt (.alt 18 (.step 1 false (IT.ref true [6, 7, 79, 82, 83, 86, 87, 90] [6, 7, 29, 31, 32, 34, 40, 51, 55, 56, 73, 84, 87, 89, 900000000, 800000000] Y8)) (.step 6 false (IT.ref false [6, 7, 78, 82, 83, 84, 86, 87, 90] [6, 7, 29, 31, 32, 34, 40, 51, 55, 56, 73, 84, 87, 89, 900000000, 800000000] Y6))) fun Y1 => (IT.lt (.alt 18 (.step 1 false (IT.ref true [6, 7, 79, 80, 81, 83, 84, 86, 87, 90] [6, 7, 29, 31, 32, 34, 40, 51, 55, 56, 73, 84, 87, 89, 900000000, 800000000] Y7)) (.step 4 false (IT.ref true [6, 7, 78, 82, 83, 84, 86, 87, 90] [6, 7, 29, 31, 32, 34, 40, 51, 55, 56, 73, 84, 87, 89, 900000000, 800000000] Y6))) fun Y0 => (.step 0 true (.step 2 true (.step 3 true (.step 5 true (.step 8 true (.step 12 true (.alt 18 (.step 1 false (.alt 18 (.step 4 false (IT.ref true [6, 7, 79, 82, 83, 86, 90] [6, 7, 29, 31, 32, 34, 40, 51, 55, 56, 73, 84, 87, 89, 900000000, 800000000] Y5)) (.alt 18 (.step 6 false (IT.ref true [6, 7, 79, 80, 81, 83, 84, 86, 90] [6, 7, 29, 31, 32, 34, 40, 51, 55, 56, 73, 84, 87, 89, 900000000, 800000000] Y4)) (.step 9 false (IT.ref true [6, 7, 79, 80, 81, 83, 86, 87, 90] [6, 7, 29, 31, 32, 34, 40, 51, 55, 56, 73, 84, 87, 89, 900000000, 800000000] Y2))))) (.alt 18 (.step 4 false (.alt 18 (.step 1 false (IT.ref false [6, 7, 79, 82, 83, 86, 90] [6, 7, 29, 31, 32, 34, 40, 51, 55, 56, 73, 84, 87, 89, 900000000, 800000000] Y5)) (.alt 18 (.step 6 false (IT.ref true [6, 7, 78, 82, 83, 84, 86, 90] [6, 7, 29, 31, 32, 34, 40, 51, 55, 56, 73, 84, 87, 89, 900000000, 800000000] Y3)) (.step 9 false (IT.ref true [6, 7, 78, 82, 83, 86, 87, 90] [6, 7, 29, 31, 32, 34, 40, 51, 55, 56, 73, 84, 87, 89, 900000000, 800000000] Y1))))) (.alt 18 (.step 6 false (.alt 18 (.step 1 false (IT.ref false [6, 7, 79, 80, 81, 83, 84, 86, 90] [6, 7, 29, 31, 32, 34, 40, 51, 55, 56, 73, 84, 87, 89, 900000000, 800000000] Y4)) (.alt 18 (.step 4 false (IT.ref false [6, 7, 78, 82, 83, 84, 86, 90] [6, 7, 29, 31, 32, 34, 40, 51, 55, 56, 73, 84, 87, 89, 900000000, 800000000] Y3)) (.step 9 false (IT.ref true [6, 7, 78, 80, 81, 83, 84, 86, 87, 90] [6, 7, 29, 31, 32, 34, 40, 51, 55, 56, 73, 84, 87, 89, 900000000, 800000000] Y0))))) (.step 9 false (.alt 18 (.step 1 false (IT.ref false [6, 7, 79, 80, 81, 83, 86, 87, 90] [6, 7, 29, 31, 32, 34, 40, 51, 55, 56, 73, 84, 87, 89, 900000000, 800000000] Y2)) (.alt 18 (.step 4 false (IT.ref false [6, 7, 78, 82, 83, 86, 87, 90] [6, 7, 29, 31, 32, 34, 40, 51, 55, 56, 73, 84, 87, 89, 900000000, 800000000] Y1)) (.step 6 false (IT.ref false [6, 7, 78, 80, 81, 83, 84, 86, 87, 90] [6, 7, 29, 31, 32, 34, 40, 51, 55, 56, 73, 84, 87, 89, 900000000, 800000000] Y0)))))))))))))))))))))))))))))))) [(0, 262143, 252783, true), (1, 262142, 252783, false), (0, 262143, 262143, true), (0, 262143, 262143, true), (12, 262131, 262143, false), (0, 262143, 262127, true), (0, 262143, 262127, false), (112, 262047, 262127, false), (0, 262143, 261999, true), (0, 262143, 261999, false), (896, 261375, 261999, false), (1152, 260991, 252783, false), (0, 262143, 260975, true), (5120, 258047, 260975, false), (8192, 253951, 252783, true), (18432, 243711, 252783, true), (65535, 262125, 252783, true), (131071, 163839, 252783, false)] (by kernel_rfl) (by kernel_rfl) ?_; apply so_lt12; (· intro Y17 hY17; apply so_lt12; (· intro Y16 hY16; apply so_lt9; (· intro Y15 hY15; apply so_lt9; (· intro Y14 hY14; apply so_lt6; (· intro Y13 hY13; apply so_lt6; (· intro Y12 hY12; apply so_lt3; (· intro Y11 hY11; apply so_lt6; (· intro Y10 hY10; apply so_lt3; (· intro Y9 hY9; apply so_lt3; (· intro Y8 hY8; apply so_lt0; (· intro Y7 hY7; apply so_lt3; (· intro Y6 hY6; apply so_lt3; (· intro Y5 hY5; apply so_lt0; (· intro Y4 hY4; apply so_lt3; (· intro Y3 hY3; apply so_lt0; (· intro Y2 hY2; apply so_lt3; (· intro Y1 hY1; apply so_lt0; (· intro Y0 hY0; ((refine so_q (qt_fld_lp (off := 3) rfl (by kernel_rfl)) rfl ?_)); ((refine so_q (qt_mvC rfl) rfl ?_)); ((refine so_q (qt_mvC rfl) rfl ?_)); ((refine so_q (qt_mvC rfl) rfl ?_)); ((refine so_q (qt_mvC rfl) rfl ?_)); ((refine so_q (qt_mvC rfl) rfl ?_)); refine so_alt ?_ ?_; (· ((refine so_q (qt_load_box rfl rfl (by kernel_rfl) rfl) rfl ?_)); refine so_alt ?_ ?_; (· (((apply so_callX (d := 82) (fid := 180); (· rfl); (· rfl); (· (repeat (first | exact BxI.nil | apply BxI.ks | (apply BxI.o; (· (exact .lit _)))))); (· (repeat (first | exact ArX.nil | apply ArX.v (.c (.d _))))); (· (decide)); (· (decide)); (· exact curPick_p code _ _ (n : Int) (by omega) (by omega)); (· rfl); (· (intro b hb1 hb2; omega)); (· rfl); (rintro _ _ ⟨w82_1, w82_2, hw82_1, rfl, w82_3, hw82_2, rfl⟩; refine ⟨(by first | rfl | simp [*]), ?_⟩)))); ((with_reducible apply so_j1); (· rfl); (· (repeat (first | exact Pf.nil | apply Pf.cons (.c rfl (.d rfl)) | apply Pf.cons (.c rfl (.ls rfl)) | apply Pf.cons (.c rfl (.lp rfl))))); (· (repeat (first | exact Pb.nil | apply Pb.cons (.row rfl) | (apply Pb.cons; (· apply Nb.box rfl; (repeat (first | exact Ncs.nil rfl | (apply Ncs.cons rfl; (· (first | exact .d rfl | exact .ls rfl))))))) | apply Pb.cons (.any rfl) | apply Pb.skip))); (· exact (hY5 w82_1 w82_2 w82_3 (And.intro hw82_1 (And.intro hw82_2 (trivial))))))); (refine so_alt ?_ ?_; (· ((apply so_bslice (sz := 1) (by_ := 8); (· kernel_rfl); (· decide); (· (repeat (first | exact GvS.nil _ | apply GvS.c rfl rfl (.lit _) rfl))); (· (decide)); (· rfl); (· rfl); (· rfl))); ((with_reducible apply so_j1); (· rfl); (· (repeat (first | exact Pf.nil | apply Pf.cons (.c rfl (.d rfl)) | apply Pf.cons (.c rfl (.ls rfl)) | apply Pf.cons (.c rfl (.lp rfl))))); (· (repeat (first | exact Pb.nil | apply Pb.cons (.row rfl) | (apply Pb.cons; (· apply Nb.box rfl; (repeat (first | exact Ncs.nil rfl | (apply Ncs.cons rfl; (· (first | exact .d rfl | exact .ls rfl))))))) | apply Pb.cons (.any rfl) | apply Pb.skip))); (· exact (hY4  (trivial))))); (((apply so_bslice (sz := 1) (by_ := 8); (· kernel_rfl); (· decide); (· (repeat (first | exact GvS.nil _ | apply GvS.c rfl rfl (.lit _) rfl))); (· (decide)); (· rfl); (· rfl); (· rfl))); ((with_reducible apply so_j1); (· rfl); (· (repeat (first | exact Pf.nil | apply Pf.cons (.c rfl (.d rfl)) | apply Pf.cons (.c rfl (.ls rfl)) | apply Pf.cons (.c rfl (.lp rfl))))); (· (repeat (first | exact Pb.nil | apply Pb.cons (.row rfl) | (apply Pb.cons; (· apply Nb.box rfl; (repeat (first | exact Ncs.nil rfl | (apply Ncs.cons rfl; (· (first | exact .d rfl | exact .ls rfl))))))) | apply Pb.cons (.any rfl) | apply Pb.skip))); (· exact (hY2  (trivial))))))); (refine so_alt ?_ ?_; (· (((apply so_callX (d := 82) (fid := 180); (· rfl); (· rfl); (· (repeat (first | exact BxI.nil | apply BxI.ks | (apply BxI.o; (· (exact .lit _)))))); (· (repeat (first | exact ArX.nil | apply ArX.v (.c (.d _))))); (· (decide)); (· (decide)); (· exact curPick_p code _ _ (n : Int) (by omega) (by omega)); (· rfl); (· (intro b hb1 hb2; omega)); (· rfl); (rintro _ _ ⟨w82_1, w82_2, hw82_1, rfl, w82_3, hw82_2, rfl⟩; refine ⟨(by first | rfl | simp [*]), ?_⟩)))); refine so_alt ?_ ?_; (· ((refine so_q (qt_load_box rfl rfl (by kernel_rfl) rfl) rfl ?_)); ((with_reducible apply so_j2); (· exact (hY5 w82_1 w82_2 w82_3 (And.intro hw82_1 (And.intro hw82_2 (trivial))))); (· rfl); (· exact (by (repeat (first | exact trivial | refine ⟨rfl, ?_⟩)))); (· exact (by (repeat (first | exact trivial | refine ⟨rfl, ?_⟩)))))); (refine so_alt ?_ ?_; (· ((apply so_bslice (sz := 1) (by_ := 8); (· kernel_rfl); (· decide); (· (repeat (first | exact GvS.nil _ | apply GvS.c rfl rfl (.lit _) rfl))); (· (decide)); (· rfl); (· rfl); (· rfl))); ((with_reducible apply so_j1); (· rfl); (· (repeat (first | exact Pf.nil | apply Pf.cons (.c rfl (.d rfl)) | apply Pf.cons (.c rfl (.ls rfl)) | apply Pf.cons (.c rfl (.lp rfl))))); (· (repeat (first | exact Pb.nil | apply Pb.cons (.row rfl) | (apply Pb.cons; (· apply Nb.box rfl; (repeat (first | exact Ncs.nil rfl | (apply Ncs.cons rfl; (· (first | exact .d rfl | exact .ls rfl))))))) | apply Pb.cons (.any rfl) | apply Pb.skip))); (· exact (hY3 w82_1 w82_2 w82_3 (And.intro hw82_1 (And.intro hw82_2 (trivial))))))); (((apply so_bslice (sz := 1) (by_ := 8); (· kernel_rfl); (· decide); (· (repeat (first | exact GvS.nil _ | apply GvS.c rfl rfl (.lit _) rfl))); (· (decide)); (· rfl); (· rfl); (· rfl))); ((with_reducible apply so_j1); (· rfl); (· (repeat (first | exact Pf.nil | apply Pf.cons (.c rfl (.d rfl)) | apply Pf.cons (.c rfl (.ls rfl)) | apply Pf.cons (.c rfl (.lp rfl))))); (· (repeat (first | exact Pb.nil | apply Pb.cons (.row rfl) | (apply Pb.cons; (· apply Nb.box rfl; (repeat (first | exact Ncs.nil rfl | (apply Ncs.cons rfl; (· (first | exact .d rfl | exact .ls rfl))))))) | apply Pb.cons (.any rfl) | apply Pb.skip))); (· exact (hY1 w82_1 w82_2 w82_3 (And.intro hw82_1 (And.intro hw82_2 (trivial))))))))); (refine so_alt ?_ ?_; (· ((apply so_bslice (sz := 1) (by_ := 8); (· kernel_rfl); (· decide); (· (repeat (first | exact GvS.nil _ | apply GvS.c rfl rfl (.lit _) rfl))); (· (decide)); (· rfl); (· rfl); (· rfl))); refine so_alt ?_ ?_; (· ((refine so_q (qt_load_box rfl rfl (by kernel_rfl) rfl) rfl ?_)); ((with_reducible apply so_j2); (· exact (hY4  (trivial))); (· rfl); (· exact (by (repeat (first | exact trivial | refine ⟨rfl, ?_⟩)))); (· exact (by (repeat (first | exact trivial | refine ⟨rfl, ?_⟩)))))); (refine so_alt ?_ ?_; (· (((apply so_callX (d := 82) (fid := 180); (· rfl); (· rfl); (· (repeat (first | exact BxI.nil | apply BxI.ks | (apply BxI.o; (· (exact .lit _)))))); (· (repeat (first | exact ArX.nil | apply ArX.v (.c (.d _))))); (· (decide)); (· (decide)); (· exact curPick_p code _ _ (n : Int) (by omega) (by omega)); (· rfl); (· (intro b hb1 hb2; omega)); (· rfl); (rintro _ _ ⟨w82_1, w82_2, hw82_1, rfl, w82_3, hw82_2, rfl⟩; refine ⟨(by first | rfl | simp [*]), ?_⟩)))); ((with_reducible apply so_j2); (· exact (hY3 w82_1 w82_2 w82_3 (And.intro hw82_1 (And.intro hw82_2 (trivial))))); (· rfl); (· exact (by (repeat (first | exact trivial | refine ⟨rfl, ?_⟩)))); (· exact (by (repeat (first | exact trivial | refine ⟨rfl, ?_⟩)))))); (((apply so_bslice (sz := 1) (by_ := 8); (· kernel_rfl); (· decide); (· (repeat (first | exact GvS.nil _ | apply GvS.c rfl rfl (.lit _) rfl))); (· (decide)); (· rfl); (· rfl); (· rfl))); ((with_reducible apply so_j1); (· rfl); (· (repeat (first | exact Pf.nil | apply Pf.cons (.c rfl (.d rfl)) | apply Pf.cons (.c rfl (.ls rfl)) | apply Pf.cons (.c rfl (.lp rfl))))); (· (repeat (first | exact Pb.nil | apply Pb.cons (.row rfl) | (apply Pb.cons; (· apply Nb.box rfl; (repeat (first | exact Ncs.nil rfl | (apply Ncs.cons rfl; (· (first | exact .d rfl | exact .ls rfl))))))) | apply Pb.cons (.any rfl) | apply Pb.skip))); (· exact (hY0  (trivial))))))); (((apply so_bslice (sz := 1) (by_ := 8); (· kernel_rfl); (· decide); (· (repeat (first | exact GvS.nil _ | apply GvS.c rfl rfl (.lit _) rfl))); (· (decide)); (· rfl); (· rfl); (· rfl))); refine so_alt ?_ ?_; (· ((refine so_q (qt_load_box rfl rfl (by kernel_rfl) rfl) rfl ?_)); ((with_reducible apply so_j2); (· exact (hY2  (trivial))); (· rfl); (· exact (by (repeat (first | exact trivial | refine ⟨rfl, ?_⟩)))); (· exact (by (repeat (first | exact trivial | refine ⟨rfl, ?_⟩)))))); (refine so_alt ?_ ?_; (· (((apply so_callX (d := 82) (fid := 180); (· rfl); (· rfl); (· (repeat (first | exact BxI.nil | apply BxI.ks | (apply BxI.o; (· (exact .lit _)))))); (· (repeat (first | exact ArX.nil | apply ArX.v (.c (.d _))))); (· (decide)); (· (decide)); (· exact curPick_p code _ _ (n : Int) (by omega) (by omega)); (· rfl); (· (intro b hb1 hb2; omega)); (· rfl); (rintro _ _ ⟨w82_1, w82_2, hw82_1, rfl, w82_3, hw82_2, rfl⟩; refine ⟨(by first | rfl | simp [*]), ?_⟩)))); ((with_reducible apply so_j2); (· exact (hY1 w82_1 w82_2 w82_3 (And.intro hw82_1 (And.intro hw82_2 (trivial))))); (· rfl); (· exact (by (repeat (first | exact trivial | refine ⟨rfl, ?_⟩)))); (· exact (by (repeat (first | exact trivial | refine ⟨rfl, ?_⟩)))))); (((apply so_bslice (sz := 1) (by_ := 8); (· kernel_rfl); (· decide); (· (repeat (first | exact GvS.nil _ | apply GvS.c rfl rfl (.lit _) rfl))); (· (decide)); (· rfl); (· rfl); (· rfl))); ((with_reducible apply so_j2); (· exact (hY0  (trivial))); (· rfl); (· exact (by (repeat (first | exact trivial | refine ⟨rfl, ?_⟩)))); (· exact (by (repeat (first | exact trivial | refine ⟨rfl, ?_⟩))))))))))); (intro  hok; obtain ⟨-⟩ := hok; refine so_alt ?_ ?_; (· ((refine so_q (qt_load_box rfl rfl (by kernel_rfl) rfl) rfl ?_)); ((with_reducible apply so_j1); (· rfl); (· (repeat (first | exact Pf.nil | apply Pf.cons (.c rfl (.d rfl)) | apply Pf.cons (.c rfl (.ls rfl)) | apply Pf.cons (.c rfl (.lp rfl))))); (· (repeat (first | exact Pb.nil | apply Pb.cons (.row rfl) | (apply Pb.cons; (· apply Nb.box rfl; (repeat (first | exact Ncs.nil rfl | (apply Ncs.cons rfl; (· (first | exact .d rfl | exact .ls rfl))))))) | apply Pb.cons (.any rfl) | apply Pb.skip))); (· exact (hY7  (trivial))))); ((((apply so_callX (d := 82) (fid := 180); (· rfl); (· rfl); (· (repeat (first | exact BxI.nil | apply BxI.ks | (apply BxI.o; (· (exact .lit _)))))); (· (repeat (first | exact ArX.nil | apply ArX.v (.c (.d _))))); (· (decide)); (· (decide)); (· exact curPick_p code _ _ (n : Int) (by omega) (by omega)); (· rfl); (· (intro b hb1 hb2; omega)); (· rfl); (rintro _ _ ⟨w82_1, w82_2, hw82_1, rfl, w82_3, hw82_2, rfl⟩; refine ⟨(by first | rfl | simp [*]), ?_⟩)))); ((with_reducible apply so_j1); (· rfl); (· (repeat (first | exact Pf.nil | apply Pf.cons (.c rfl (.d rfl)) | apply Pf.cons (.c rfl (.ls rfl)) | apply Pf.cons (.c rfl (.lp rfl))))); (· (repeat (first | exact Pb.nil | apply Pb.cons (.row rfl) | (apply Pb.cons; (· apply Nb.box rfl; (repeat (first | exact Ncs.nil rfl | (apply Ncs.cons rfl; (· (first | exact .d rfl | exact .ls rfl))))))) | apply Pb.cons (.any rfl) | apply Pb.skip))); (· exact (hY6 w82_1 w82_2 w82_3 (And.intro hw82_1 (And.intro hw82_2 (trivial))))))))); (intro w82_1 w82_2 w82_3 hok; obtain ⟨hw82_1, hw82_2, -⟩ := hok; refine so_alt ?_ ?_; (· ((refine so_q (qt_load_box rfl rfl (by kernel_rfl) rfl) rfl ?_)); ((with_reducible apply so_j1); (· rfl); (· (repeat (first | exact Pf.nil | apply Pf.cons (.c rfl (.d rfl)) | apply Pf.cons (.c rfl (.ls rfl)) | apply Pf.cons (.c rfl (.lp rfl))))); (· (repeat (first | exact Pb.nil | apply Pb.cons (.row rfl) | (apply Pb.cons; (· apply Nb.box rfl; (repeat (first | exact Ncs.nil rfl | (apply Ncs.cons rfl; (· (first | exact .d rfl | exact .ls rfl))))))) | apply Pb.cons (.any rfl) | apply Pb.skip))); (· exact (hY8 w82_1 w82_2 w82_3 (And.intro hw82_1 (And.intro hw82_2 (trivial))))))); (((apply so_bslice (sz := 1) (by_ := 8); (· kernel_rfl); (· decide); (· (repeat (first | exact GvS.nil _ | apply GvS.c rfl rfl (.lit _) rfl))); (· (decide)); (· rfl); (· rfl); (· rfl))); ((with_reducible apply so_j2); (· exact (hY6 w82_1 w82_2 w82_3 (And.intro hw82_1 (And.intro hw82_2 (trivial))))); (· rfl); (· exact (by (repeat (first | exact trivial | refine ⟨rfl, ?_⟩)))); (· exact (by (repeat (first | exact trivial | refine ⟨rfl, ?_⟩)))))))); (intro  hok; obtain ⟨-⟩ := hok; refine so_alt ?_ ?_; (· (((apply so_callX (d := 82) (fid := 180); (· rfl); (· rfl); (· (repeat (first | exact BxI.nil | apply BxI.ks | (apply BxI.o; (· (exact .lit _)))))); (· (repeat (first | exact ArX.nil | apply ArX.v (.c (.d _))))); (· (decide)); (· (decide)); (· exact curPick_p code _ _ (n : Int) (by omega) (by omega)); (· rfl); (· (intro b hb1 hb2; omega)); (· rfl); (rintro _ _ ⟨w82_1, w82_2, hw82_1, rfl, w82_3, hw82_2, rfl⟩; refine ⟨(by first | rfl | simp [*]), ?_⟩)))); ((with_reducible apply so_j2); (· exact (hY8 w82_1 w82_2 w82_3 (And.intro hw82_1 (And.intro hw82_2 (trivial))))); (· rfl); (· exact (by (repeat (first | exact trivial | refine ⟨rfl, ?_⟩)))); (· exact (by (repeat (first | exact trivial | refine ⟨rfl, ?_⟩)))))); (((apply so_bslice (sz := 1) (by_ := 8); (· kernel_rfl); (· decide); (· (repeat (first | exact GvS.nil _ | apply GvS.c rfl rfl (.lit _) rfl))); (· (decide)); (· rfl); (· rfl); (· rfl))); ((with_reducible apply so_j2); (· exact (hY7  (trivial))); (· rfl); (· exact (by (repeat (first | exact trivial | refine ⟨rfl, ?_⟩)))); (· exact (by (repeat (first | exact trivial | refine ⟨rfl, ?_⟩)))))))); (intro w82_1 w82_2 w82_3 hok; obtain ⟨hw82_1, hw82_2, -⟩ := hok; refine so_alt ?_ ?_; (· ((refine so_q (qt_load_box rfl rfl (by kernel_rfl) rfl) rfl ?_)); ((with_reducible apply so_j1); (· rfl); (· (repeat (first | exact Pf.nil | apply Pf.cons (.c rfl (.d rfl)) | apply Pf.cons (.c rfl (.ls rfl)) | apply Pf.cons (.c rfl (.lp rfl))))); (· (repeat (first | exact Pb.nil | apply Pb.cons (.row rfl) | (apply Pb.cons; (· apply Nb.box rfl; (repeat (first | exact Ncs.nil rfl | (apply Ncs.cons rfl; (· (first | exact .d rfl | exact .ls rfl))))))) | apply Pb.cons (.any rfl) | apply Pb.skip))); (· exact (hY9 w82_1 w82_2 w82_3 (And.intro hw82_1 (And.intro hw82_2 (trivial))))))); (refine so_alt ?_ ?_; (· (((apply so_callX (d := 85) (fid := 139); (· rfl); (· rfl); (· (repeat (first | exact BxI.nil | apply BxI.ks | (apply BxI.o; (· (exact .lit _)))))); (· (repeat (first | exact ArX.nil | apply ArX.v (.c (.row _ _ _ _ rfl (by ((simp; done)))))))); (· (decide)); (· (decide)); (· exact curAmongD_p code _ _ 2 [dI 0, dI 2] (fun _ => True) rfl (by decide) (by repeat (first | exact fun x hx => absurd hx List.not_mem_nil | (refine List.forall_mem_cons.2 ⟨⟨_, rfl, trivial⟩, ?_⟩))) (by omega) (by omega)); (· rfl); (· (intro b hb1 hb2; omega)); (· rfl); (rintro _ _ ⟨w85_1, w85_2, hw85_1, rfl, w85_3, -, rfl⟩; refine ⟨(by first | rfl | simp [*]), ?_⟩)))); refine so_alt ?_ ?_; (· ((refine so_q (qt_load_box rfl rfl (by kernel_rfl) rfl) rfl ?_)); ((with_reducible apply so_j1); (· rfl); (· (repeat (first | exact Pf.nil | apply Pf.cons (.c rfl (.d rfl)) | apply Pf.cons (.c rfl (.ls rfl)) | apply Pf.cons (.c rfl (.lp rfl))))); (· (repeat (first | exact Pb.nil | apply Pb.cons (.row rfl) | (apply Pb.cons; (· apply Nb.box rfl; (repeat (first | exact Ncs.nil rfl | (apply Ncs.cons rfl; (· (first | exact .d rfl | exact .ls rfl))))))) | apply Pb.cons (.any rfl) | apply Pb.skip))); (· exact (hY12 w82_1 w82_2 w82_3 w85_1 w85_2 w85_3 (And.intro hw82_1 (And.intro hw82_2 (And.intro hw85_1 (trivial)))))))); (((apply so_bslice (sz := 1) (by_ := 8); (· kernel_rfl); (· decide); (· (repeat (first | exact GvS.nil _ | apply GvS.c rfl rfl (.lit _) rfl))); (· (decide)); (· rfl); (· rfl); (· rfl))); ((with_reducible apply so_j1); (· rfl); (· (repeat (first | exact Pf.nil | apply Pf.cons (.c rfl (.d rfl)) | apply Pf.cons (.c rfl (.ls rfl)) | apply Pf.cons (.c rfl (.lp rfl))))); (· (repeat (first | exact Pb.nil | apply Pb.cons (.row rfl) | (apply Pb.cons; (· apply Nb.box rfl; (repeat (first | exact Ncs.nil rfl | (apply Ncs.cons rfl; (· (first | exact .d rfl | exact .ls rfl))))))) | apply Pb.cons (.any rfl) | apply Pb.skip))); (· exact (hY10 w82_1 w82_2 w82_3 w85_1 w85_2 w85_3 (And.intro hw82_1 (And.intro hw82_2 (And.intro hw85_1 (trivial))))))))); (((apply so_bslice (sz := 1) (by_ := 8); (· kernel_rfl); (· decide); (· (repeat (first | exact GvS.nil _ | apply GvS.c rfl rfl (.lit _) rfl))); (· (decide)); (· rfl); (· rfl); (· rfl))); ((with_reducible apply so_j2); (· exact (hY6 w82_1 w82_2 w82_3 (And.intro hw82_1 (And.intro hw82_2 (trivial))))); (· rfl); (· exact (by (repeat (first | exact trivial | refine ⟨rfl, ?_⟩)))); (· exact (by (repeat (first | exact trivial | refine ⟨rfl, ?_⟩))))))))); (intro  hok; obtain ⟨-⟩ := hok; refine so_alt ?_ ?_; (· (((apply so_callX (d := 82) (fid := 180); (· rfl); (· rfl); (· (repeat (first | exact BxI.nil | apply BxI.ks | (apply BxI.o; (· (exact .lit _)))))); (· (repeat (first | exact ArX.nil | apply ArX.v (.c (.d _))))); (· (decide)); (· (decide)); (· exact curPick_p code _ _ (n : Int) (by omega) (by omega)); (· rfl); (· (intro b hb1 hb2; omega)); (· rfl); (rintro _ _ ⟨w82_1, w82_2, hw82_1, rfl, w82_3, hw82_2, rfl⟩; refine ⟨(by first | rfl | simp [*]), ?_⟩)))); ((with_reducible apply so_j2); (· exact (hY9 w82_1 w82_2 w82_3 (And.intro hw82_1 (And.intro hw82_2 (trivial))))); (· rfl); (· exact (by (repeat (first | exact trivial | refine ⟨rfl, ?_⟩)))); (· exact (by (repeat (first | exact trivial | refine ⟨rfl, ?_⟩)))))); (((apply so_bslice (sz := 1) (by_ := 8); (· kernel_rfl); (· decide); (· (repeat (first | exact GvS.nil _ | apply GvS.c rfl rfl (.lit _) rfl))); (· (decide)); (· rfl); (· rfl); (· rfl))); ((with_reducible apply so_j2); (· exact (hY7  (trivial))); (· rfl); (· exact (by (repeat (first | exact trivial | refine ⟨rfl, ?_⟩)))); (· exact (by (repeat (first | exact trivial | refine ⟨rfl, ?_⟩)))))))); (intro w82_1 w82_2 w82_3 hok; obtain ⟨hw82_1, hw82_2, -⟩ := hok; refine so_alt ?_ ?_; (· ((apply so_bslice (sz := 1) (by_ := 8); (· kernel_rfl); (· decide); (· (repeat (first | exact GvS.nil _ | apply GvS.c rfl rfl (.lit _) rfl))); (· (decide)); (· rfl); (· rfl); (· rfl))); ((with_reducible apply so_j2); (· exact (hY9 w82_1 w82_2 w82_3 (And.intro hw82_1 (And.intro hw82_2 (trivial))))); (· rfl); (· exact (by (repeat (first | exact trivial | refine ⟨rfl, ?_⟩)))); (· exact (by (repeat (first | exact trivial | refine ⟨rfl, ?_⟩)))))); (((apply so_bslice (sz := 1) (by_ := 8); (· kernel_rfl); (· decide); (· (repeat (first | exact GvS.nil _ | apply GvS.c rfl rfl (.lit _) rfl))); (· (decide)); (· rfl); (· rfl); (· rfl))); ((with_reducible apply so_j2); (· exact (hY8 w82_1 w82_2 w82_3 (And.intro hw82_1 (And.intro hw82_2 (trivial))))); (· rfl); (· exact (by (repeat (first | exact trivial | refine ⟨rfl, ?_⟩)))); (· exact (by (repeat (first | exact trivial | refine ⟨rfl, ?_⟩)))))))); (intro w82_1 w82_2 w82_3 hok; obtain ⟨hw82_1, hw82_2, -⟩ := hok; refine so_alt ?_ ?_; (· ((refine so_q (qt_load_box rfl rfl (by kernel_rfl) rfl) rfl ?_)); ((with_reducible apply so_j1); (· rfl); (· (repeat (first | exact Pf.nil | apply Pf.cons (.c rfl (.d rfl)) | apply Pf.cons (.c rfl (.ls rfl)) | apply Pf.cons (.c rfl (.lp rfl))))); (· (repeat (first | exact Pb.nil | apply Pb.cons (.row rfl) | (apply Pb.cons; (· apply Nb.box rfl; (repeat (first | exact Ncs.nil rfl | (apply Ncs.cons rfl; (· (first | exact .d rfl | exact .ls rfl))))))) | apply Pb.cons (.any rfl) | apply Pb.skip))); (· exact (hY11 w82_1 w82_2 w82_3 (And.intro hw82_1 (And.intro hw82_2 (trivial))))))); ((((apply so_callX (d := 85) (fid := 139); (· rfl); (· rfl); (· (repeat (first | exact BxI.nil | apply BxI.ks | (apply BxI.o; (· (exact .lit _)))))); (· (repeat (first | exact ArX.nil | apply ArX.v (.c (.row _ _ _ _ rfl (by ((simp; done)))))))); (· (decide)); (· (decide)); (· exact curAmongD_p code _ _ 2 [dI 0, dI 2] (fun _ => True) rfl (by decide) (by repeat (first | exact fun x hx => absurd hx List.not_mem_nil | (refine List.forall_mem_cons.2 ⟨⟨_, rfl, trivial⟩, ?_⟩))) (by omega) (by omega)); (· rfl); (· (intro b hb1 hb2; omega)); (· rfl); (rintro _ _ ⟨w85_1, w85_2, hw85_1, rfl, w85_3, -, rfl⟩; refine ⟨(by first | rfl | simp [*]), ?_⟩)))); ((with_reducible apply so_j2); (· exact (hY10 w82_1 w82_2 w82_3 w85_1 w85_2 w85_3 (And.intro hw82_1 (And.intro hw82_2 (And.intro hw85_1 (trivial)))))); (· rfl); (· exact (by (repeat (first | exact trivial | refine ⟨rfl, ?_⟩)))); (· exact (by (repeat (first | exact trivial | refine ⟨rfl, ?_⟩)))))))); (intro  hok; obtain ⟨-⟩ := hok; (((apply so_callX (d := 82) (fid := 180); (· rfl); (· rfl); (· (repeat (first | exact BxI.nil | apply BxI.ks | (apply BxI.o; (· (exact .lit _)))))); (· (repeat (first | exact ArX.nil | apply ArX.v (.c (.d _))))); (· (decide)); (· (decide)); (· exact curPick_p code _ _ (n : Int) (by omega) (by omega)); (· rfl); (· (intro b hb1 hb2; omega)); (· rfl); (rintro _ _ ⟨w82_1, w82_2, hw82_1, rfl, w82_3, hw82_2, rfl⟩; refine ⟨(by first | rfl | simp [*]), ?_⟩)))); ((with_reducible apply so_j2); (· exact (hY11 w82_1 w82_2 w82_3 (And.intro hw82_1 (And.intro hw82_2 (trivial))))); (· rfl); (· exact (by (repeat (first | exact trivial | refine ⟨rfl, ?_⟩)))); (· exact (by (repeat (first | exact trivial | refine ⟨rfl, ?_⟩))))))); (intro w82_1 w82_2 w82_3 hok; obtain ⟨hw82_1, hw82_2, -⟩ := hok; ((apply so_bslice (sz := 1) (by_ := 8); (· kernel_rfl); (· decide); (· (repeat (first | exact GvS.nil _ | apply GvS.c rfl rfl (.lit _) rfl))); (· (decide)); (· rfl); (· rfl); (· rfl))); ((with_reducible apply so_j2); (· exact (hY11 w82_1 w82_2 w82_3 (And.intro hw82_1 (And.intro hw82_2 (trivial))))); (· rfl); (· exact (by (repeat (first | exact trivial | refine ⟨rfl, ?_⟩)))); (· exact (by (repeat (first | exact trivial | refine ⟨rfl, ?_⟩))))))); (intro w82_1 w82_2 w82_3 hok; obtain ⟨hw82_1, hw82_2, -⟩ := hok; refine so_alt ?_ ?_; (· (((apply so_callX (d := 85) (fid := 139); (· rfl); (· rfl); (· (repeat (first | exact BxI.nil | apply BxI.ks | (apply BxI.o; (· (exact .lit _)))))); (· (repeat (first | exact ArX.nil | apply ArX.v (.c (.row _ _ _ _ rfl (by ((simp; done)))))))); (· (decide)); (· (decide)); (· exact curAmongD_p code _ _ 2 [dI 0, dI 2] (fun _ => True) rfl (by decide) (by repeat (first | exact fun x hx => absurd hx List.not_mem_nil | (refine List.forall_mem_cons.2 ⟨⟨_, rfl, trivial⟩, ?_⟩))) (by omega) (by omega)); (· rfl); (· (intro b hb1 hb2; omega)); (· rfl); (rintro _ _ ⟨w85_1, w85_2, hw85_1, rfl, w85_3, -, rfl⟩; refine ⟨(by first | rfl | simp [*]), ?_⟩)))); ((with_reducible apply so_j2); (· exact (hY12 w82_1 w82_2 w82_3 w85_1 w85_2 w85_3 (And.intro hw82_1 (And.intro hw82_2 (And.intro hw85_1 (trivial)))))); (· rfl); (· exact (by (repeat (first | exact trivial | refine ⟨rfl, ?_⟩)))); (· exact (by (repeat (first | exact trivial | refine ⟨rfl, ?_⟩)))))); (((apply so_bslice (sz := 1) (by_ := 8); (· kernel_rfl); (· decide); (· (repeat (first | exact GvS.nil _ | apply GvS.c rfl rfl (.lit _) rfl))); (· (decide)); (· rfl); (· rfl); (· rfl))); ((with_reducible apply so_j2); (· exact (hY11 w82_1 w82_2 w82_3 (And.intro hw82_1 (And.intro hw82_2 (trivial))))); (· rfl); (· exact (by (repeat (first | exact trivial | refine ⟨rfl, ?_⟩)))); (· exact (by (repeat (first | exact trivial | refine ⟨rfl, ?_⟩)))))))); (intro w82_1 w82_2 w82_3 w85_1 w85_2 w85_3 hok; obtain ⟨hw82_1, hw82_2, hw85_1, -⟩ := hok; refine so_alt ?_ ?_; (· ((refine so_q (qt_load_box rfl rfl (by kernel_rfl) rfl) rfl ?_)); ((with_reducible apply so_j1); (· rfl); (· (repeat (first | exact Pf.nil | apply Pf.cons (.c rfl (.d rfl)) | apply Pf.cons (.c rfl (.ls rfl)) | apply Pf.cons (.c rfl (.lp rfl))))); (· (repeat (first | exact Pb.nil | apply Pb.cons (.row rfl) | (apply Pb.cons; (· apply Nb.box rfl; (repeat (first | exact Ncs.nil rfl | (apply Ncs.cons rfl; (· (first | exact .d rfl | exact .ls rfl))))))) | apply Pb.cons (.any rfl) | apply Pb.skip))); (· exact (hY13 w82_1 w82_2 w82_3 w85_1 w85_2 w85_3 (And.intro hw82_1 (And.intro hw82_2 (And.intro hw85_1 (trivial)))))))); ((((apply so_callX (d := 88) (fid := 139); (· rfl); (· rfl); (· (repeat (first | exact BxI.nil | apply BxI.ks | (apply BxI.o; (· (exact .lit _)))))); (· (repeat (first | exact ArX.nil | apply ArX.v (.c (.row _ _ _ _ rfl (by ((simp; done)))))))); (· (decide)); (· (decide)); (· exact curAmongD_p code _ _ 2 [dI 0, dI 1] (fun _ => True) rfl (by decide) (by repeat (first | exact fun x hx => absurd hx List.not_mem_nil | (refine List.forall_mem_cons.2 ⟨⟨_, rfl, trivial⟩, ?_⟩))) (by omega) (by omega)); (· rfl); (· (intro b hb1 hb2; omega)); (· rfl); (rintro _ _ ⟨w88_1, w88_2, hw88_1, rfl, w88_3, -, rfl⟩; refine ⟨(by first | rfl | simp [*]), ?_⟩)))); refine so_alt ?_ ?_; (· ((refine so_q (qt_load_box rfl rfl (by kernel_rfl) rfl) rfl ?_)); ((with_reducible apply so_j1); (· rfl); (· (repeat (first | exact Pf.nil | apply Pf.cons (.c rfl (.d rfl)) | apply Pf.cons (.c rfl (.ls rfl)) | apply Pf.cons (.c rfl (.lp rfl))))); (· (repeat (first | exact Pb.nil | apply Pb.cons (.row rfl) | (apply Pb.cons; (· apply Nb.box rfl; (repeat (first | exact Ncs.nil rfl | (apply Ncs.cons rfl; (· (first | exact .d rfl | exact .ls rfl))))))) | apply Pb.cons (.any rfl) | apply Pb.skip))); (· exact (hY14 w82_1 w82_2 w82_3 w85_1 w85_2 w85_3 w88_1 w88_2 w88_3 (And.intro hw82_1 (And.intro hw82_2 (And.intro hw85_1 (And.intro hw88_1 (trivial))))))))); (refine so_alt ?_ ?_; (· ((apply so_bslice (sz := 1) (by_ := 8); (· kernel_rfl); (· decide); (· (repeat (first | exact GvS.nil _ | apply GvS.c rfl rfl (.lit _) rfl))); (· (decide)); (· rfl); (· rfl); (· rfl))); refine so_alt ?_ ?_; (· ((refine so_q (qt_load_box rfl rfl (by kernel_rfl) rfl) rfl ?_)); ((with_reducible apply so_j1); (· rfl); (· (repeat (first | exact Pf.nil | apply Pf.cons (.c rfl (.d rfl)) | apply Pf.cons (.c rfl (.ls rfl)) | apply Pf.cons (.c rfl (.lp rfl))))); (· (repeat (first | exact Pb.nil | apply Pb.cons (.row rfl) | (apply Pb.cons; (· apply Nb.box rfl; (repeat (first | exact Ncs.nil rfl | (apply Ncs.cons rfl; (· (first | exact .d rfl | exact .ls rfl))))))) | apply Pb.cons (.any rfl) | apply Pb.skip))); (· exact (hY15 w82_1 w82_2 w82_3 w85_1 w85_2 w85_3 w88_1 w88_2 w88_3 (And.intro hw82_1 (And.intro hw82_2 (And.intro hw85_1 (And.intro hw88_1 (trivial))))))))); ((((apply so_callX (d := 91) (fid := 180); (· rfl); (· rfl); (· (repeat (first | exact BxI.nil | apply BxI.ks | (apply BxI.o; (· (exact .lit _)))))); (· (repeat (first | exact ArX.nil | apply ArX.v (.c (.d _))))); (· (decide)); (· (decide)); (· exact curPick_p code _ _ 2 (by omega) (by omega)); (· rfl); (· (intro b hb1 hb2; omega)); (· rfl); (rintro _ _ ⟨w91_1, w91_2, hw91_1, rfl, w91_3, hw91_2, rfl⟩; refine ⟨(by first | rfl | simp [*]), ?_⟩)))); ((refine so_q (qt_load_box rfl rfl (by kernel_rfl) rfl) rfl ?_)); (refine so_q (qt_addI rfl rfl (by (omega))) rfl ?_); ((refine so_q (qt_slice_ls01 rfl rfl (by kernel_rfl) (by (omega)) (by (omega))) rfl ?_)); ((refine so_q (qt_idx_ls rfl rfl (by kernel_rfl : tSl _ 25 1 = true) (by (omega)) (by (omega))) rfl ?_)); ((with_reducible apply so_j1); (· rfl); (· (repeat (first | exact Pf.nil | apply Pf.cons (.c rfl (.ls rfl)) | apply Pf.cons (.c rfl (.lp rfl))))); (· (repeat (first | exact Pb.nil | apply Pb.cons (.row rfl) | (apply Pb.cons; (· apply Nb.box rfl; (repeat (first | exact Ncs.nil rfl | (apply Ncs.cons rfl; (· (first | exact .d rfl | exact .ls rfl))))))) | apply Pb.cons (.any rfl) | apply Pb.skip))); (· exact (hY17 w82_1 w82_2 w82_3 w85_1 w85_2 w85_3 w88_1 w88_2 w88_3 w91_1 w91_2 w91_3 (And.intro hw82_1 (And.intro hw82_2 (And.intro hw85_1 (And.intro hw88_1 (And.intro hw91_1 (And.intro hw91_2 (trivial)))))))))))); ((((apply so_callX (d := 91) (fid := 180); (· rfl); (· rfl); (· (repeat (first | exact BxI.nil | apply BxI.ks | (apply BxI.o; (· (exact .lit _)))))); (· (repeat (first | exact ArX.nil | apply ArX.v (.c (.d _))))); (· (decide)); (· (decide)); (· exact curPick_p code _ _ 2 (by omega) (by omega)); (· rfl); (· (intro b hb1 hb2; omega)); (· rfl); (rintro _ _ ⟨w91_1, w91_2, hw91_1, rfl, w91_3, hw91_2, rfl⟩; refine ⟨(by first | rfl | simp [*]), ?_⟩)))); ((refine so_q (qt_load_box rfl rfl (by kernel_rfl) rfl) rfl ?_)); (refine so_q (qt_addI rfl rfl (by (omega))) rfl ?_); ((with_reducible apply so_j1); (· rfl); (· (repeat (first | exact Pf.nil | apply Pf.cons (.c rfl (.d rfl)) | apply Pf.cons (.c rfl (.ls rfl)) | apply Pf.cons (.c rfl (.lp rfl))))); (· (repeat (first | exact Pb.nil | apply Pb.cons (.row rfl) | (apply Pb.cons; (· apply Nb.box rfl; (repeat (first | exact Ncs.nil rfl | (apply Ncs.cons rfl; (· (first | exact .d rfl | exact .ls rfl))))))) | apply Pb.cons (.any rfl) | apply Pb.skip))); (· exact (hY16 w82_1 w82_2 w82_3 w85_1 w85_2 w85_3 w88_1 w88_2 w88_3 w91_1 w91_2 w91_3 (And.intro hw82_1 (And.intro hw82_2 (And.intro hw85_1 (And.intro hw88_1 (And.intro hw91_1 (And.intro hw91_2 (trivial))))))))))))))); (intro w82_1 w82_2 w82_3 hok; obtain ⟨hw82_1, hw82_2, -⟩ := hok; (((apply so_callX (d := 85) (fid := 139); (· rfl); (· rfl); (· (repeat (first | exact BxI.nil | apply BxI.ks | (apply BxI.o; (· (exact .lit _)))))); (· (repeat (first | exact ArX.nil | apply ArX.v (.c (.row _ _ _ _ rfl (by ((simp; done)))))))); (· (decide)); (· (decide)); (· exact curAmongD_p code _ _ 2 [dI 0, dI 2] (fun _ => True) rfl (by decide) (by repeat (first | exact fun x hx => absurd hx List.not_mem_nil | (refine List.forall_mem_cons.2 ⟨⟨_, rfl, trivial⟩, ?_⟩))) (by omega) (by omega)); (· rfl); (· (intro b hb1 hb2; omega)); (· rfl); (rintro _ _ ⟨w85_1, w85_2, hw85_1, rfl, w85_3, -, rfl⟩; refine ⟨(by first | rfl | simp [*]), ?_⟩)))); ((with_reducible apply so_j2); (· exact (hY13 w82_1 w82_2 w82_3 w85_1 w85_2 w85_3 (And.intro hw82_1 (And.intro hw82_2 (And.intro hw85_1 (trivial)))))); (· rfl); (· exact (by (repeat (first | exact trivial | refine ⟨rfl, ?_⟩)))); (· exact (by (repeat (first | exact trivial | refine ⟨rfl, ?_⟩))))))); (intro w82_1 w82_2 w82_3 w85_1 w85_2 w85_3 hok; obtain ⟨hw82_1, hw82_2, hw85_1, -⟩ := hok; ((apply so_bslice (sz := 1) (by_ := 8); (· kernel_rfl); (· decide); (· (repeat (first | exact GvS.nil _ | apply GvS.c rfl rfl (.lit _) rfl))); (· (decide)); (· rfl); (· rfl); (· rfl))); ((with_reducible apply so_j2); (· exact (hY13 w82_1 w82_2 w82_3 w85_1 w85_2 w85_3 (And.intro hw82_1 (And.intro hw82_2 (And.intro hw85_1 (trivial)))))); (· rfl); (· exact (by (repeat (first | exact trivial | refine ⟨rfl, ?_⟩)))); (· exact (by (repeat (first | exact trivial | refine ⟨rfl, ?_⟩))))))); (intro w82_1 w82_2 w82_3 w85_1 w85_2 w85_3 hok; obtain ⟨hw82_1, hw82_2, hw85_1, -⟩ := hok; (((apply so_callX (d := 88) (fid := 139); (· rfl); (· rfl); (· (repeat (first | exact BxI.nil | apply BxI.ks | (apply BxI.o; (· (exact .lit _)))))); (· (repeat (first | exact ArX.nil | apply ArX.v (.c (.row _ _ _ _ rfl (by ((simp; done)))))))); (· (decide)); (· (decide)); (· exact curAmongD_p code _ _ 2 [dI 0, dI 1] (fun _ => True) rfl (by decide) (by repeat (first | exact fun x hx => absurd hx List.not_mem_nil | (refine List.forall_mem_cons.2 ⟨⟨_, rfl, trivial⟩, ?_⟩))) (by omega) (by omega)); (· rfl); (· (intro b hb1 hb2; omega)); (· rfl); (rintro _ _ ⟨w88_1, w88_2, hw88_1, rfl, w88_3, -, rfl⟩; refine ⟨(by first | rfl | simp [*]), ?_⟩)))); ((with_reducible apply so_j2); (· exact (hY14 w82_1 w82_2 w82_3 w85_1 w85_2 w85_3 w88_1 w88_2 w88_3 (And.intro hw82_1 (And.intro hw82_2 (And.intro hw85_1 (And.intro hw88_1 (trivial))))))); (· rfl); (· exact (by (repeat (first | exact trivial | refine ⟨rfl, ?_⟩)))); (· exact (by (repeat (first | exact trivial | refine ⟨rfl, ?_⟩))))))); (intro w82_1 w82_2 w82_3 w85_1 w85_2 w85_3 w88_1 w88_2 w88_3 hok; obtain ⟨hw82_1, hw82_2, hw85_1, hw88_1, -⟩ := hok; refine so_alt ?_ ?_; (· ((apply so_bslice (sz := 1) (by_ := 8); (· kernel_rfl); (· decide); (· (repeat (first | exact GvS.nil _ | apply GvS.c rfl rfl (.lit _) rfl))); (· (decide)); (· rfl); (· rfl); (· rfl))); ((with_reducible apply so_j2); (· exact (hY15 w82_1 w82_2 w82_3 w85_1 w85_2 w85_3 w88_1 w88_2 w88_3 (And.intro hw82_1 (And.intro hw82_2 (And.intro hw85_1 (And.intro hw88_1 (trivial))))))); (· rfl); (· exact (by (repeat (first | exact trivial | refine ⟨rfl, ?_⟩)))); (· exact (by (repeat (first | exact trivial | refine ⟨rfl, ?_⟩)))))); ((((apply so_callX (d := 91) (fid := 180); (· rfl); (· rfl); (· (repeat (first | exact BxI.nil | apply BxI.ks | (apply BxI.o; (· (exact .lit _)))))); (· (repeat (first | exact ArX.nil | apply ArX.v (.c (.d _))))); (· (decide)); (· (decide)); (· exact curPick_p code _ _ 2 (by omega) (by omega)); (· rfl); (· (intro b hb1 hb2; omega)); (· rfl); (rintro _ _ ⟨w91_1, w91_2, hw91_1, rfl, w91_3, hw91_2, rfl⟩; refine ⟨(by first | rfl | simp [*]), ?_⟩)))); (refine so_q (qt_addI rfl rfl (by (omega))) rfl ?_); ((with_reducible apply so_j2); (· exact (hY16 w82_1 w82_2 w82_3 w85_1 w85_2 w85_3 w88_1 w88_2 w88_3 w91_1 w91_2 w91_3 (And.intro hw82_1 (And.intro hw82_2 (And.intro hw85_1 (And.intro hw88_1 (And.intro hw91_1 (And.intro hw91_2 (trivial))))))))); (· rfl); (· exact (by (repeat (first | exact trivial | refine ⟨rfl, ?_⟩)))); (· exact (by (repeat (first | exact trivial | refine ⟨rfl, ?_⟩)))))))); (intro w82_1 w82_2 w82_3 w85_1 w85_2 w85_3 w88_1 w88_2 w88_3 hok; obtain ⟨hw82_1, hw82_2, hw85_1, hw88_1, -⟩ := hok; (((apply so_callX (d := 91) (fid := 180); (· rfl); (· rfl); (· (repeat (first | exact BxI.nil | apply BxI.ks | (apply BxI.o; (· (exact .lit _)))))); (· (repeat (first | exact ArX.nil | apply ArX.v (.c (.d _))))); (· (decide)); (· (decide)); (· exact curPick_p code _ _ 2 (by omega) (by omega)); (· rfl); (· (intro b hb1 hb2; omega)); (· rfl); (rintro _ _ ⟨w91_1, w91_2, hw91_1, rfl, w91_3, hw91_2, rfl⟩; refine ⟨(by first | rfl | simp [*]), ?_⟩)))); (refine so_q (qt_addI rfl rfl (by (omega))) rfl ?_); ((refine so_q (qt_slice_ls01 rfl rfl (by kernel_rfl) (by (omega)) (by (omega))) rfl ?_)); ((refine so_q (qt_idx_ls rfl rfl (by kernel_rfl : tSl _ 25 1 = true) (by (omega)) (by (omega))) rfl ?_)); ((with_reducible apply so_j2); (· exact (hY17 w82_1 w82_2 w82_3 w85_1 w85_2 w85_3 w88_1 w88_2 w88_3 w91_1 w91_2 w91_3 (And.intro hw82_1 (And.intro hw82_2 (And.intro hw85_1 (And.intro hw88_1 (And.intro hw91_1 (And.intro hw91_2 (trivial))))))))); (· rfl); (· exact (by (repeat (first | exact trivial | refine ⟨rfl, ?_⟩)))); (· exact (by (repeat (first | exact trivial | refine ⟨rfl, ?_⟩))))))); (intro w82_1 w82_2 w82_3 w85_1 w85_2 w85_3 w88_1 w88_2 w88_3 w91_1 w91_2 w91_3 hok; obtain ⟨hw82_1, hw82_2, hw85_1, hw88_1, hw91_1, hw91_2, -⟩ := hok; ((apply so_bslice (sz := 1) (by_ := 8); (· kernel_rfl); (· decide); (· (repeat (first | exact GvS.nil _ | apply GvS.c rfl rfl (.lit _) rfl))); (· (decide)); (· rfl); (· rfl); (· rfl))); ((refine so_q (qt_slice_ls01 rfl rfl (by kernel_rfl) (by (omega)) (by (omega))) rfl ?_)); ((refine so_q (qt_idx_ls rfl rfl (by kernel_rfl : tSl _ 25 1 = true) (by (omega)) (by (omega))) rfl ?_)); ((with_reducible apply so_j2); (· exact (hY17 w82_1 w82_2 w82_3 w85_1 w85_2 w85_3 w88_1 w88_2 w88_3 w91_1 w91_2 w91_3 (And.intro hw82_1 (And.intro hw82_2 (And.intro hw85_1 (And.intro hw88_1 (And.intro hw91_1 (And.intro hw91_2 (trivial))))))))); (· rfl); (· exact (by (repeat (first | exact trivial | refine ⟨rfl, ?_⟩)))); (· exact (by (repeat (first | exact trivial | refine ⟨rfl, ?_⟩))))))); (intro w82_1 w82_2 w82_3 w85_1 w85_2 w85_3 w88_1 w88_2 w88_3 w91_1 w91_2 w91_3 hok; obtain ⟨hw82_1, hw82_2, hw85_1, hw88_1, hw91_1, hw91_2, -⟩ := hok; (((refine so_ghost (sim_shrink 89 1 (3 + w91_3).toNat rfl lits4) ?_; refine so_store_row rfl rfl rfl rfl (.row _ _ _ _ rfl (by simp; omega)) (by simp) (by simp) (by kernel_rfl) (by simp; omega) rfl ?_))); refine so_nil ?_)))
      refine sk_ghost (sim_dem 32 1 rfl) ?_
      refine sk_ghost (sim_dem 56 1 rfl) ?_
      refine sk_ghost (sim_boxeq 7 _ rfl (dem_gameG rfl (by simp; omega) (by simp; omega))) ?_
      repeat' (first | (refine so_is (.store 27 _ _) ?_; (refine so_store_box rfl rfl rfl (by kernel_rfl) rfl rfl ?_)) | (refine so_is (.load 27 _) ?_; (refine so_q (qt_load_boxs rfl rfl (by kernel_rfl : tAgg _ 27 4 = true) rfl) rfl ?_)) | refine so_nil ?_ | refine sk_region ?_)
      (apply sk_xvret; (· (apply RetXV.p; (· rfl); (· (repeat (first | exact BxO.nil _ | apply BxO.k | (apply BxO.o; (· (exact .lit _)))))); (· rfl); (· (apply RdA.cons; (· (apply RV.cellN (n := 4); (· rfl); (· rfl); (· kernel_rfl); (· rfl))); (· (apply RdP.g; (· (apply RdL.cons (.d _)); (apply RdL.cons (.d _)); ((apply RdL.cons (.d _))); ((apply RdL.cons (.d _))); exact RdL.nil)))); exact RdA.nil); (· (decide)))))
      refine ⟨_, _, by omega, rfl, gameX_of (IsI.take (IsI.map W)) (by simp; omega) (IsII.take (IsII.drop (IsII.set (IsII.map R) ?_ ?_))) (by simp; omega) (by omega) (by omega)⟩
      · exact IsI.take (IsI.cons (IsI.cons (IsI.cons (IsI.cons IsI.nil))))
      · simp; omega
    · repeat' (first | (refine so_is (.move _) ?_; (refine so_q (qt_mvC rfl) rfl ?_)) | (refine so_is (.fieldAddr 27 _ 2) ?_; (refine so_q (qt_fld_lp (off := 2) rfl (by kernel_rfl)) rfl ?_)) | (refine so_is (.store 24 _ _) ?_; (refine so_store_box1 rfl rfl rfl rfl (by kernel_rfl) rfl rfl ?_)) | (refine so_is (.makeSlice 24 _ _) ?_; (refine so_make (by_ := 8) (z := .int .i64 0) (y := .lit (.int .i64 0)) rfl rfl (by kernel_rfl) (by kernel_rfl) rfl (fun _ => .lit _ rfl) (by (omega)) (by (omega)) (by (omega)) rfl ?_)) | refine so_nil ?_ | refine sk_seq ?_ | refine sk_blk ?_ | refine sk_region (id := 20) ?_)
      refine sk_ghost (sim_dem 98 1 rfl) ?_
      refine sk_ghost (sim_dem 56 1 rfl) ?_
      refine sk_ghost (sim_boxeq 7 _ rfl (dem_gameG rfl (by simp) (by simp; omega))) ?_
      repeat' (first | (refine so_is (.store 27 _ _) ?_; (refine so_store_box rfl rfl rfl (by kernel_rfl) rfl rfl ?_)) | (refine so_is (.load 27 _) ?_; (refine so_q (qt_load_boxs rfl rfl (by kernel_rfl : tAgg _ 27 4 = true) rfl) rfl ?_)) | refine so_nil ?_ | refine sk_region ?_)
      (apply sk_xvret; (· (apply RetXV.p; (· rfl); (· (repeat (first | exact BxO.nil _ | apply BxO.k | (apply BxO.o; (· (exact .lit _)))))); (· rfl); (· (apply RdA.cons; (· (apply RV.cellN (n := 4); (· rfl); (· rfl); (· kernel_rfl); (· rfl))); (· (apply RdP.g; (· (apply RdL.cons (.d _)); (apply RdL.cons (.d _)); ((apply RdL.cons (.d _))); ((apply RdL.cons (.d _))); exact RdL.nil)))); exact RdA.nil); (· (decide)))))
      exact ⟨_, _, by omega, rfl, gameX_of (IsI.take IsI.rep) (by simp) (IsII.take (IsII.drop (IsII.map R))) (by simp; omega) (by omega) (by omega)⟩
    · by_cases hn1 : n = 1
      · repeat' (first | (refine so_is (.fieldAddr 27 _ 3) ?_; (refine so_q (qt_fld_lp (off := 3) rfl (by kernel_rfl)) rfl ?_)) | (refine so_is (.load 25 _) ?_; (refine so_q (qt_load_box rfl rfl (by kernel_rfl) rfl) rfl ?_)) | (refine so_is (.store 25 _ _) ?_; (refine so_store_box1 rfl rfl rfl rfl (by kernel_rfl) rfl rfl ?_)) | (refine so_is (.slice 25 _ (some _) none none) ?_; ((refine so_q (qt_slice_end rfl rfl (by kernel_rfl) (by decide) (by omega)) rfl ?_))) | refine so_nil ?_ | refine sk_seq ?_ | refine sk_blk ?_ | refine sk_region (id := 22) ?_)
        refine sk_ghost (sim_dem 32 1 rfl) ?_
        refine sk_ghost (sim_boxeq 7 _ rfl (dem_game1 (by simp; omega))) ?_
        repeat' (first | (refine so_is (.store 27 _ _) ?_; (refine so_store_box rfl rfl rfl (by kernel_rfl) rfl rfl ?_)) | (refine so_is (.load 27 _) ?_; (refine so_q (qt_load_boxs rfl rfl (by kernel_rfl : tAgg _ 27 4 = true) rfl) rfl ?_)) | refine so_nil ?_ | refine sk_region ?_)
        (apply sk_xvret; (· (apply RetXV.p; (· rfl); (· (repeat (first | exact BxO.nil _ | apply BxO.k | (apply BxO.o; (· (exact .lit _)))))); (· rfl); (· (apply RdA.cons; (· (apply RV.cellN (n := 4); (· rfl); (· rfl); (· kernel_rfl); (· rfl))); (· (apply RdP.g; (· (apply RdL.cons (.d _)); (apply RdL.cons (.d _)); ((apply RdL.cons (.d _))); ((apply RdL.cons (.d _))); exact RdL.nil)))); exact RdA.nil); (· (decide)))))
        exact ⟨_, _, by omega, rfl, gameX_of (IsI.take (IsI.map W)) (by simp; omega) (IsII.map []) (by simp) (by omega) (by omega)⟩
      repeat' (first | (refine so_is (.fieldAddr 27 _ 3) ?_; (refine so_q (qt_fld_lp (off := 3) rfl (by kernel_rfl)) rfl ?_)) | (refine so_is (.load 25 _) ?_; (refine so_q (qt_load_box rfl rfl (by kernel_rfl) rfl) rfl ?_)) | (refine so_is (.store 25 _ _) ?_; (refine so_store_box1 rfl rfl rfl rfl (by kernel_rfl) rfl rfl ?_)) | (refine so_is (.slice 25 _ (some _) none none) ?_; (refine so_q (qt_slice_ls10 rfl rfl (by kernel_rfl) (by (omega)) (by (omega))) rfl ?_)) | refine so_nil ?_ | refine sk_seq ?_ | refine sk_blk ?_ | refine sk_region (id := 22) ?_)
      refine sk_ghost (sim_dem 32 1 rfl) ?_
      refine sk_ghost (sim_dem 56 1 rfl) ?_
      refine sk_ghost (sim_boxeq 7 _ rfl (dem_gameG rfl (by simp; omega) (by simp; omega))) ?_
      repeat' (first | (refine so_is (.store 27 _ _) ?_; (refine so_store_box rfl rfl rfl (by kernel_rfl) rfl rfl ?_)) | (refine so_is (.load 27 _) ?_; (refine so_q (qt_load_boxs rfl rfl (by kernel_rfl : tAgg _ 27 4 = true) rfl) rfl ?_)) | refine so_nil ?_ | refine sk_region ?_)
      (apply sk_xvret; (· (apply RetXV.p; (· rfl); (· (repeat (first | exact BxO.nil _ | apply BxO.k | (apply BxO.o; (· (exact .lit _)))))); (· rfl); (· (apply RdA.cons; (· (apply RV.cellN (n := 4); (· rfl); (· rfl); (· kernel_rfl); (· rfl))); (· (apply RdP.g; (· (apply RdL.cons (.d _)); (apply RdL.cons (.d _)); ((apply RdL.cons (.d _))); ((apply RdL.cons (.d _))); exact RdL.nil)))); exact RdA.nil); (· (decide)))))
      exact ⟨_, _, by omega, rfl, gameX_of (IsI.take (IsI.map W)) (by simp; omega) (IsII.take (IsII.drop (IsII.map R))) (by simp; omega) (by omega) (by omega)⟩
    all_goals
      refine sk_ghost (sim_dem 32 1 rfl) ?_
      refine sk_ghost (sim_dem 56 1 rfl) ?_
      refine sk_ghost (sim_boxeq 7 _ rfl (dem_game (by simp; omega) (by simp; omega))) ?_
      repeat' (first | (refine so_is (.store 27 _ _) ?_; (refine so_store_box rfl rfl rfl (by kernel_rfl) rfl rfl ?_)) | (refine so_is (.load 27 _) ?_; (refine so_q (qt_load_boxs rfl rfl (by kernel_rfl : tAgg _ 27 4 = true) rfl) rfl ?_)) | refine so_nil ?_ | refine sk_region ?_)
      (apply sk_xvret; (· (apply RetXV.p; (· rfl); (· (repeat (first | exact BxO.nil _ | apply BxO.k | (apply BxO.o; (· (exact .lit _)))))); (· rfl); (· (apply RdA.cons; (· (apply RV.cellN (n := 4); (· rfl); (· rfl); (· kernel_rfl); (· rfl))); (· (apply RdP.g; (· (apply RdL.cons (.d _)); (apply RdL.cons (.d _)); ((apply RdL.cons (.d _))); ((apply RdL.cons (.d _))); exact RdL.nil)))); exact RdA.nil); (· (decide)))))
      exact ⟨_, _, by omega, rfl, gameX_of (IsI.map W) (by simp; omega) (IsII.map R) (by simp; omega) (by omega) (by omega)⟩

end Go.Proofs.Ytefbiejoikpkmaa

namespace Go.Proofs.Ytefbiejoikpkmaa
open Go.RowKit
set_option linter.unusedSectionVars false
variable [Glb]
set_option maxRecDepth 10000
set_option maxHeartbeats 4000000
def GameA (res : Res) : Prop := ∃ (x y : Int) (ws : List Int) (wi : List (List Int)), ((-1 ≤ x ∧ x ≤ 4611686018427387904) ∧ -1 ≤ y ∧ y ≤ 4611686018427387904) ∧ res = .p (.g [dI x, dI y, eI ws, eII wi])
theorem curGame_p (code : Tx) (a s : Int) (h0 : 0 ≤ a) (h1 : a ≤ 4611686018427379000) : PXV Try.prog 81 (CurB code a s) [] (CurR a 500 GameA) := by
  refine pxv_intro Try.func81 rfl rfl rfl (by kernel_rfl) rfl rfl rfl ?_; intro kv X c0
  repeat' (first | (refine so_is (.alloc 27) ?_; refine so_alloc (zs := [.int .i64 0, .int .i64 0, .slice none 0 0, .slice none 0 0]) (by kernel_rfl) rfl ?_) | (refine so_is (.move _) ?_; (first | refine so_q (qt_mvC rfl) rfl ?_ | refine so_q (qt_mvT rfl) rfl ?_)) | (refine so_is (.extract _ _) ?_; refine so_q (qt_extract rfl rfl) rfl ?_) | (refine so_is (.assign _) ?_; (refine so_q (qt_asC rfl) rfl ?_)) | (refine so_is (.store 27 _ _) ?_; (refine so_store_box rfl rfl rfl (by kernel_rfl) rfl rfl ?_)) | (refine so_is (.call ⟨.value (.func 178), _, _⟩) ?_; (apply so_callX (fid := 178); (· rfl); (· rfl); (· (repeat (first | exact BxI.nil | apply BxI.ks | (apply BxI.o; (· (exact .lit _)))))); (· (repeat (exact ArX.nil))); (· (decide)); (· (decide)); (· exact curSizes_p code _ _ (by omega) (by omega)); (· rfl); (· (intro b hb1 hb2; omega)); (· rfl); (rintro _ _ ⟨a1, s1, ha1, rfl, x, y, hxy, rfl⟩; refine ⟨(by first | rfl | simp [*]), ?_⟩))) | (refine so_is (.call ⟨.value (.func 82), _, _⟩) ?_; (apply so_callXV (fid := 82); (· rfl); (· rfl); (· (repeat (first | exact BxI.nil | apply BxI.ks | (apply BxI.o; (· (exact .lit _)))))); (· (repeat (first | exact SdA.nil | apply SdA.c rfl))); (· (decide)); (· exact curGameOf_p code _ _ _ _ (by omega) (by omega)); (· rfl); (· (intro b hb1 hb2; omega)); (· rfl); (rintro _ _ ⟨a2, s2, ha2, rfl, ws, wi, hl, rfl⟩; refine ⟨(by first | rfl | simp [*]), ?_⟩))) | refine so_nil ?_ | refine sk_seq ?_ | refine sk_region ?_)
  all_goals (apply sk_xvret; (· (apply RetXV.p; (· rfl); (· (repeat (first | exact BxO.nil _ | apply BxO.k | (apply BxO.o; (· (exact .lit _)))))); (· rfl); (· (apply RdA.cons; (· (apply RV.cellN (n := 4); (· rfl); (· rfl); (· kernel_rfl); (· rfl))); (· (apply RdP.g; (· (apply RdL.cons (.d _)); (apply RdL.cons (.d _)); ((apply RdL.cons (.d _))); ((apply RdL.cons (.d _))); exact RdL.nil)))); exact RdA.nil); (· (decide)))))
  all_goals exact ⟨_, _, by omega, rfl, _, _, _, _, hxy, rfl⟩
theorem DrawIsGame_p (code : Tx) : PVE Try.prog 118 [.c (eB code)] GameA := by
  refine pve_intro Try.func118 rfl rfl rfl (by kernel_rfl) rfl rfl ?_; intro X c0 _
  repeat' (first | (refine so_is (.alloc 27) ?_; refine so_alloc (zs := [.int .i64 0, .int .i64 0, .slice none 0 0, .slice none 0 0]) (by kernel_rfl) rfl ?_) | (refine so_is (.move _) ?_; (refine so_q (qt_mvC rfl) rfl ?_)) | (refine so_is (.build 104 _) ?_; refine so_q (qt_build (cs := [_, _, _]) [(0, 1), (1, 1), (2, 1)] [.slice none 0 0, .int .i64 0, .int .u64 0] (by kernel_rfl) (by kernel_rfl) rfl) rfl ?_) | (refine so_is (.box 104 _) ?_; refine so_box rfl rfl ?_) | (refine so_is (.assign _) ?_; (refine so_q (qt_asC rfl) rfl ?_)) | (refine so_is (.store 27 _ _) ?_; (refine so_store_box rfl rfl rfl (by kernel_rfl) rfl rfl ?_)) | (refine so_is (.call ⟨.value (.func 81), _, _⟩) ?_; (apply so_callXV (fid := 81); (· rfl); (· rfl); (· (repeat (first | exact BxI.nil | (apply BxI.o; (· (exact .lit _))) | apply BxI.k))); (· (repeat (exact SdA.nil))); (· (decide)); (· exact curGame_p code _ _ (by omega) (by omega)); (· rfl); (· (intro b hb1 hb2; omega)); (· rfl); (rintro _ _ ⟨a1, s1, ha1, rfl, x, y, ws, wi, hxy, rfl⟩; refine ⟨(by first | rfl | simp [*]), ?_⟩))) | refine so_nil ?_ | refine sk_seq ?_ | refine sk_region ?_)
  all_goals (apply sk_vert; (· (apply RetV.p; (· rfl); (· (apply RvA.cons; (· (apply RV.cellN (n := 4); (· rfl); (· rfl); (· kernel_rfl); (· rfl))); (· (apply RvP.g; (· (apply RvL.cons (.d _)); (apply RvL.cons (.d _)); ((apply RvL.cons (.d _))); ((apply RvL.cons (.d _))); exact RvL.nil)))); exact RvA.nil))))
  all_goals exact ⟨_, _, _, _, hxy, rfl⟩
theorem DrawBestPlay_p (code : Tx) : PVE Try.prog 28 [.c (eB code)] GameA := by
  refine pve_intro Try.func28 rfl rfl rfl (by kernel_rfl) rfl rfl ?_; intro X c0 _
  repeat' (first | (refine so_is (.alloc 27) ?_; refine so_alloc (zs := [.int .i64 0, .int .i64 0, .slice none 0 0, .slice none 0 0]) (by kernel_rfl) rfl ?_) | (refine so_is (.move _) ?_; (refine so_q (qt_mvC rfl) rfl ?_)) | (refine so_is (.store 27 _ _) ?_; (refine so_store_box rfl rfl rfl (by kernel_rfl) rfl rfl ?_)) | (refine so_is (.call ⟨.value (.func 118), _, _⟩) ?_; (apply so_callVE (fid := 118); (· (repeat (first | exact SdA.nil | apply SdA.c rfl))); (· exact DrawIsGame_p _); (· rfl); (rintro _ ⟨x, y, ws, wi, hxy, rfl⟩))) | refine so_nil ?_ | refine sk_seq ?_ | refine sk_region ?_)
  all_goals (apply sk_vert; (· (apply RetV.p; (· rfl); (· (apply RvA.cons; (· (apply RV.cellN (n := 4); (· rfl); (· rfl); (· kernel_rfl); (· rfl))); (· (apply RvP.g; (· (apply RvL.cons (.d _)); (apply RvL.cons (.d _)); ((apply RvL.cons (.d _))); ((apply RvL.cons (.d _))); exact RvL.nil)))); exact RvA.nil))))
  all_goals exact ⟨_, _, _, _, hxy, rfl⟩
theorem DrawBestReply_p (code : Tx) : PVE Try.prog 37 [.c (eB code)] (fun res => ∃ (x y : Int) (ws : List Int) (wi : List (List Int)) (l : List Int), (((-1 ≤ x ∧ x ≤ 4611686018427387904) ∧ -1 ≤ y ∧ y ≤ 4611686018427387904) ∧ l.length ≤ 9) ∧ res = .t [.g [dI x, dI y, eI ws, eII wi], .c (eI l)]) := by
  refine pve_intro Try.func37 rfl rfl rfl (by kernel_rfl) rfl rfl ?_; intro X c0 _
  repeat' (first | (refine so_is (.alloc 27) ?_; refine so_alloc (zs := [.int .i64 0, .int .i64 0, .slice none 0 0, .slice none 0 0]) (by kernel_rfl) rfl ?_) | (refine so_is (.assign _) ?_; (refine so_q (qt_asC rfl) rfl ?_)) | (refine so_is (.move _) ?_; (refine so_q (qt_mvC rfl) rfl ?_)) | (refine so_is (.build 104 _) ?_; refine so_q (qt_build (cs := [_, _, _]) [(0, 1), (1, 1), (2, 1)] [.slice none 0 0, .int .i64 0, .int .u64 0] (by kernel_rfl) (by kernel_rfl) rfl) rfl ?_) | (refine so_is (.box 104 _) ?_; refine so_box rfl rfl ?_) | (refine so_is (.store 27 _ _) ?_; (refine so_store_box rfl rfl rfl (by kernel_rfl) rfl rfl ?_)) | (refine so_is (.call ⟨.value (.func 81), _, _⟩) ?_; (apply so_callXV (fid := 81); (· rfl); (· rfl); (· (repeat (first | exact BxI.nil | (apply BxI.o; (· (exact .lit _))) | apply BxI.k))); (· (repeat (exact SdA.nil))); (· (decide)); (· exact curGame_p code _ _ (by omega) (by omega)); (· rfl); (· (intro b hb1 hb2; omega)); (· rfl); (rintro _ _ ⟨a1, s1, ha1, rfl, x, y, ws, wi, hxy, rfl⟩; refine ⟨(by first | rfl | simp [*]), ?_⟩))) | refine so_nil ?_ | refine sk_seq ?_ | refine sk_region ?_ | (refine sk_drawQ 3 (fun i => i == 4 || i == 5) (IT.lt (.step 5 false (.step 6 true .nil)) fun Y0 => (.step 1 true (.step 2 true (.step 3 true (.alt 3 (.step 0 false (.step 4 false (IT.ref true [2, 3, 11, 15] [2, 8, 2010, 3010, 5, 15, 900000000] Y0))) (.step 4 false (.step 0 true (IT.ref false [2, 3, 11, 15] [2, 8, 2010, 3010, 5, 15, 900000000] Y0)))))))) [(0, 127, 111, false), (0, 127, 127, true), (0, 127, 127, true), (4, 123, 127, false), (10, 117, 127, false), (17, 126, 111, false), (63, 111, 79, true)] (by kernel_rfl) (by kernel_rfl) ?_; apply so_lt3; (· intro Y0 hY0; ((refine so_q (qt_mvC rfl) rfl ?_)); ((refine so_q (qt_fld_lp (off := 0) rfl (by kernel_rfl)) rfl ?_)); ((refine so_q (qt_load_box rfl rfl (by kernel_rfl) rfl) rfl ?_)); refine so_alt ?_ ?_; (· ((refine so_q (qt_load_boxs rfl rfl (by kernel_rfl : tAgg _ 27 4 = true) rfl) rfl ?_)); ((apply so_callX (d := 15) (fid := 84); (· rfl); (· rfl); (· (repeat (first | exact BxI.nil | (apply BxI.o; (· (exact .lit _))) | apply BxI.k))); (· (repeat (first | exact ArX.nil | apply ArX.v (.c (.d _))))); (· (decide)); (· (decide)); (· exact curPlay_p code _ _ _ _ (by omega) (by omega)); (· rfl); (· (intro b hb1 hb2; omega)); (· rfl); (rintro _ _ ⟨w15_1, w15_2, hw15_1, rfl, w15_3, hw15_2, rfl⟩; refine ⟨(by first | rfl | simp [*]), ?_⟩))); ((with_reducible apply so_j1); (· rfl); (· (repeat (first | exact Pf.nil | apply Pf.cons (.c rfl (.d rfl)) | apply Pf.cons (.c rfl (.ls rfl)) | apply Pf.cons (.c rfl (.lp rfl)) | (apply Pf.cons; (· apply Nv.g rfl; (repeat (first | exact Ncs.nil rfl | (apply Ncs.cons rfl; (· (exact .d rfl)))))))))); (· (repeat (first | exact Pb.nil | apply Pb.cons (.row rfl) | (apply Pb.cons; (· apply Nb.box rfl; (repeat (first | exact Ncs.nil rfl | (apply Ncs.cons rfl; (· (exact .d rfl))))))) | apply Pb.cons (.any rfl) | apply Pb.skip))); (· exact (hY0 w15_1 w15_2 w15_3 (And.intro hw15_1 (And.intro hw15_2 (trivial))))))); (((apply so_callX (d := 15) (fid := 84); (· rfl); (· rfl); (· (repeat (first | exact BxI.nil | (apply BxI.o; (· (exact .lit _))) | apply BxI.k))); (· (repeat (first | exact ArX.nil | apply ArX.v (.c (.d _))))); (· (decide)); (· (decide)); (· exact curPlay_p code _ _ _ _ (by omega) (by omega)); (· rfl); (· (intro b hb1 hb2; omega)); (· rfl); (rintro _ _ ⟨w15_1, w15_2, hw15_1, rfl, w15_3, hw15_2, rfl⟩; refine ⟨(by first | rfl | simp [*]), ?_⟩))); ((refine so_q (qt_load_boxs rfl rfl (by kernel_rfl : tAgg _ 27 4 = true) rfl) rfl ?_)); ((with_reducible apply so_j2); (· exact (hY0 w15_1 w15_2 w15_3 (And.intro hw15_1 (And.intro hw15_2 (trivial))))); (· rfl); (· exact (by (repeat (first | exact trivial | refine ⟨rfl, ?_⟩)))); (· exact (by (repeat (first | exact trivial | refine ⟨rfl, ?_⟩))))))); (intro w15_1 w15_2 w15_3 hok; obtain ⟨hw15_1, hw15_2, -⟩ := hok; ((refine so_store_box rfl rfl rfl (by kernel_rfl) rfl rfl ?_)); ((refine so_q (qt_asC rfl) rfl ?_)); refine so_nil ?_)))
  all_goals (apply sk_vert; (· (apply RetV.t; (· rfl); (· (apply RvA.cons; (· (apply RV.cellN (n := 4); (· rfl); (· rfl); (· kernel_rfl); (· rfl))); (· (apply RvP.g; (· (apply RvL.cons (.d _)); (apply RvL.cons (.d _)); ((apply RvL.cons (.d _))); ((apply RvL.cons (.d _))); exact RvL.nil)))); (apply RvA.cons; (· exact .tmp _); (· (exact RvP.c (.own (.row _ _ _ _ rfl (by ((simp; done)))))))); exact RvA.nil); (· rfl))))
  all_goals exact ⟨_, _, _, _, _, ⟨hxy, by omega⟩, rfl⟩

end Go.Proofs.Ytefbiejoikpkmaa

namespace Go.Proofs.Ytefbiejoikpkmaa
open Go.RowKit
set_option linter.unusedSectionVars false
variable [Glb]
set_option maxRecDepth 10000
set_option maxHeartbeats 4000000
theorem within_p (n lo hi : Int) : PC Try.prog 130 [.c (dI n), .c (dI lo), .c (dI hi)] (.p (.c (dB (inB n lo hi)))) := by
  refine pc_intro Try.func130 rfl rfl rfl (by kernel_rfl) rfl rfl ?_; intro _
  repeat' (first | (refine so_is (.assign _) ?_; (refine so_q (qt_asC rfl) rfl ?_)) | (refine so_is (.move _) ?_; (refine so_q (qt_mvC rfl) rfl ?_)) | (refine so_is (.binOp .geq 3 _ _ _) ?_; refine so_q (qt_geq rfl rfl) rfl ?_) | (refine so_is (.binOp .leq 3 _ _ _) ?_; refine so_q (qt_leq rfl rfl) rfl ?_) | (refine so_is (.pick _ _ _) ?_; (refine so_q (qt_pkC rfl rfl) rfl ?_)) | refine so_nil ?_ | refine so_g_no rfl rfl rfl rfl ?_ | refine so_g_yes rfl rfl rfl rfl ?_ | refine so_g_if rfl rfl (fun hg => ?_) (fun hg => ?_) | refine sk_seq ?_ | refine sk_region ?_)
  all_goals ((apply sk_ret; apply ret_eq; (· apply RetOK.p; (· (apply GvA.cons; (· exact .tmp _); (· exact GvP.c (.lit _))); exact GvA.nil); (· (decide)))))
  all_goals (simp [dB, inB, *]; try omega)

end Go.Proofs.Ytefbiejoikpkmaa

namespace Go.Proofs.Ytefbiejoikpkmaa
open Go.RowKit
set_option linter.unusedSectionVars false
variable [Glb]
set_option maxRecDepth 10000
set_option maxHeartbeats 4000000
theorem allWithin_p (l : List Int) (lo hi : Int) : PC Try.prog 119 [.c (eI l), .c (dI lo), .c (dI hi)] (.p (.c (dB (allB l lo hi)))) := by
  refine pc_intro Try.func119 rfl rfl rfl (by kernel_rfl) rfl rfl ?_; rintro ⟨hl, -⟩
  have hl := hl.len
  repeat' (first | (refine so_is (.assign _) ?_; (refine so_q (qt_asC rfl) rfl ?_)) | (refine so_is (.move _) ?_; (refine so_q (qt_mvC rfl) rfl ?_)) | (refine so_is (.call ⟨.builtin .len, _, #[24]⟩) ?_; (refine so_q (qt_len_d rfl (by kernel_rfl)) rfl ?_)) | refine so_nil ?_ | refine sk_seq ?_ | refine sk_block ?_ | refine sk_region ?_)
  apply sk_packC [1, 2, 9, 10, 11] [] rfl; (· (repeat (first | exact Pf.nil | apply Pf.cons (.c rfl (.d rfl))))); (· (repeat (exact Pb.nil)))
  refine sk_loopL [1, 2, 9, 10] [] (fun k => [(11, iN k)]) (fun _ => []) (fun k => k ≤ l.length ∧ (l.take k).all (fun n => inB n lo hi) = true) (fun k => l.length - k) (0) ?_ (by (repeat (first | exact trivial | refine ⟨(by (rfl)), ?_⟩))) (by (repeat (exact trivial))) ?_
  · simp
  rintro k ⟨hk, ha⟩
  repeat' (first | (refine so_is (.assign _) ?_; (refine so_q (qt_asC rfl) rfl ?_)) | (refine so_is (.move _) ?_; (refine so_q (qt_mvC rfl) rfl ?_)) | (refine so_is (.binOp .lss 3 _ _ _) ?_; refine so_q (qt_lss rfl rfl) rfl ?_) | (refine so_is (.indexAddr 24 _ _) ?_; (refine so_q (qt_idxI rfl rfl (by kernel_rfl) (by (omega)) (by (omega))) rfl ?_)) | (refine so_is (.load 3 _) ?_; (refine so_q (qt_load_pt rfl (by kernel_rfl) rfl) rfl ?_)) | (refine so_is (.unOp .not 4 _) ?_; refine so_q (qt_not rfl) rfl ?_) | (refine so_is (.binOp .add 3 _ _ _) ?_; refine so_q (qt_addI rfl rfl (by (omega))) rfl ?_) | (refine so_is (.call ⟨.value (.func 130), _, _⟩) ?_; (apply so_call0 (fid := 130); (· (repeat (first | exact SeA.nil | apply SeA.cons (.c (.d _))))); (· exact within_p _ _ _); (· rfl))) | refine so_nil ?_ | refine sk_seq ?_ | refine sk_block ?_ | refine sk_blk ?_ | refine sk_exit rfl ?_ | refine sk_skip ?_ | refine sk_region ?_ | refine sk_if rfl (fun hc => ?_) (fun hc => ?_) | refine sk_not rfl (fun hc => ?_) (fun hc => ?_))
  · rename_i hk'
    rw [atZ_nat (by omega)] at hc
    (apply sk_ret; apply ret_eq; (· apply RetOK.p; (· (apply GvA.cons; (· exact .tmp _); (· exact GvP.c (.lit _))); exact GvA.nil); (· (decide))))
    rw [allB, all_f (by omega) hc]
  · rename_i hk'
    rw [atZ_nat (by omega)] at hc
    refine sk_back ?_; refine ⟨k + 1, ?_, ?_, le_at rfl (by (repeat (first | exact trivial | refine ⟨(by (rfl)), ?_⟩))) (by (repeat (first | exact trivial | refine ⟨rfl, ?_⟩))) (by (repeat (exact trivial))) (by (repeat (exact trivial)))⟩
    · exact ⟨by omega, by rw [take_succ_all _ _ _ (by omega), ha, hc]; rfl⟩
    · omega
  · (apply sk_ret; apply ret_eq; (· apply RetOK.p; (· (apply GvA.cons; (· exact .tmp _); (· exact GvP.c (.lit _))); exact GvA.nil); (· (decide))))
    rw [allB, all_t (by omega) ha]

end Go.Proofs.Ytefbiejoikpkmaa

namespace Go.Proofs.Ytefbiejoikpkmaa
open Go.RowKit
set_option linter.unusedSectionVars false
variable [Glb]
set_option maxRecDepth 10000
set_option maxHeartbeats 4000000
theorem areQuestions_p (x y : Int) : PC Try.prog 109 [.c (dI x), .c (dI y)] (.p (.c (dB (sizeB x y)))) := by
  refine pc_intro Try.func109 rfl rfl rfl (by kernel_rfl) rfl rfl ?_; intro _
  repeat' (first | (refine so_is (.assign _) ?_; (refine so_q (qt_asC rfl) rfl ?_)) | (refine so_is (.move _) ?_; (refine so_q (qt_mvC rfl) rfl ?_)) | (refine so_is (.pick _ _ _) ?_; (refine so_q (qt_pkC rfl rfl) rfl ?_)) | (refine so_is (.call ⟨.value (.func 130), _, _⟩) ?_; (apply so_call0 (fid := 130); (· (repeat (first | exact SeA.nil | apply SeA.cons (.c (.d _))))); (· exact within_p _ _ _); (· rfl))) | refine so_nil ?_ | refine so_g_no rfl rfl rfl rfl ?_ | refine so_g_yes rfl rfl rfl rfl ?_ | refine so_g_b rfl rfl (fun hg => ?_) (fun hg => ?_) | refine sk_seq ?_ | refine sk_region ?_)
  all_goals (apply sk_ret; apply ret_eq; (· apply RetOK.p; (· (apply GvA.cons; (· exact .tmp _); (· exact GvP.c (.lit _))); exact GvA.nil); (· (decide))))
  all_goals ((simp_all [sizeB]; done))

end Go.Proofs.Ytefbiejoikpkmaa

namespace Go.Proofs.Ytefbiejoikpkmaa
open Go.RowKit
set_option linter.unusedSectionVars false
variable [Glb]
set_option maxRecDepth 10000
set_option maxHeartbeats 4000000
theorem total_p (l : List Int) : PC Try.prog 120 [.c (eI l)] (.p (.c (dI (sum64 l)))) := by
  refine pc_intro Try.func120 rfl rfl rfl (by kernel_rfl) rfl rfl ?_; rintro ⟨hl, -⟩
  have hl := hl.len
  repeat' (first | (refine so_is (.assign _) ?_; (refine so_q (qt_asC rfl) rfl ?_)) | (refine so_is (.move _) ?_; (refine so_q (qt_mvC rfl) rfl ?_)) | (refine so_is (.call ⟨.builtin .len, _, #[24]⟩) ?_; (refine so_q (qt_len_d rfl (by kernel_rfl)) rfl ?_)) | refine so_nil ?_ | refine sk_seq ?_ | refine sk_block ?_ | refine sk_region ?_)
  apply sk_packC [3, 6, 7, 8] [] rfl; (· (repeat (first | exact Pf.nil | apply Pf.cons (.c rfl (.d rfl))))); (· (repeat (exact Pb.nil)))
  refine sk_loopL [6, 7] [] (fun k => [(8, iN k), (3, iZ (sum64 (l.take k)))]) (fun _ => []) (fun k => k ≤ l.length) (fun k => l.length - k) (0) ?_ (by (repeat (first | exact trivial | refine ⟨(by (rfl)), ?_⟩))) (by (repeat (exact trivial))) ?_
  · simp
  intro k hk
  repeat' (first | (refine so_is (.assign _) ?_; (refine so_q (qt_asC rfl) rfl ?_)) | (refine so_is (.move _) ?_; (refine so_q (qt_mvC rfl) rfl ?_)) | (refine so_is (.binOp .lss 3 _ _ _) ?_; refine so_q (qt_lss rfl rfl) rfl ?_) | (refine so_is (.indexAddr 24 _ _) ?_; (refine so_q (qt_idxI rfl rfl (by kernel_rfl) (by (omega)) (by (omega))) rfl ?_)) | (refine so_is (.load 3 _) ?_; (refine so_q (qt_load_pt rfl (by kernel_rfl) rfl) rfl ?_)) | (refine so_is (.binOp .add 3 _ _ _) ?_; (first | refine so_q (qt_addI rfl rfl (by (omega))) rfl ?_ | refine so_q (qt_add rfl rfl) rfl ?_)) | refine so_nil ?_ | refine sk_seq ?_ | refine sk_block ?_ | refine sk_blk ?_ | refine sk_exit rfl ?_ | refine sk_skip ?_ | refine sk_region ?_ | refine sk_if rfl (fun hc => ?_) (fun hc => ?_))
  · have hk2 : k < l.length := by omega
    refine sk_back ?_; refine ⟨k + 1, ?_, ?_, le_at rfl (by (repeat (first | exact trivial | refine ⟨(by (first | rfl | (refine int_eq rfl ?_; ((simp  [sum64_snoc hk2, atZ_nat hk2]; done))))), ?_⟩))) (by (repeat (first | exact trivial | refine ⟨rfl, ?_⟩))) (by (repeat (exact trivial))) (by (repeat (exact trivial)))⟩
    · omega
    · omega
  · have : k = l.length := by omega
    subst this
    (apply sk_ret; apply ret_eq; (· apply RetOK.p; (· (apply GvA.cons; (· exact .tmp _); (· exact GvP.c (.lit _))); exact GvA.nil); (· (decide))))
    simp

end Go.Proofs.Ytefbiejoikpkmaa

namespace Go.Proofs.Ytefbiejoikpkmaa
open Go.RowKit
set_option linter.unusedSectionVars false
variable [Glb]
set_option maxRecDepth 10000
set_option maxHeartbeats 4000000
theorem IsGame_p (x y : Int) (ws : List Int) (wi : List (List Int)) : PC Try.prog 29 [.g [dI x, dI y, eI ws, eII wi]] (.p (.c (dB (gameB x y ws wi)))) := by
  refine pc_intro Try.func29 rfl rfl rfl (by kernel_rfl) rfl rfl ?_; rintro ⟨hl, -⟩
  have hl := (hl _ (List.mem_cons_of_mem _ (List.mem_cons_of_mem _ (List.mem_cons_of_mem _ (List.mem_cons_self ..))))).len
  have hw := wrap_mul3 (x := x) (y := y)
  repeat' (first | (refine so_is (.box 27 _) ?_; refine so_box rfl rfl ?_) | (refine so_is (.assign _) ?_; (refine so_q (qt_asC rfl) rfl ?_)) | (refine so_is (.fieldAddr 27 _ 0) ?_; (refine so_q (qt_fld_lp (off := 0) rfl (by kernel_rfl)) rfl ?_)) | (refine so_is (.load 3 _) ?_; (refine so_q (qt_load_box rfl rfl (by kernel_rfl) rfl) rfl ?_)) | (refine so_is (.fieldAddr 27 _ 1) ?_; (refine so_q (qt_fld_lp (off := 1) rfl (by kernel_rfl)) rfl ?_)) | (refine so_is (.binOp .mul 3 _ _ _) ?_; (refine so_q (qt_mul rfl rfl) rfl ?_)) | (refine so_is (.unOp .not 4 _) ?_; refine so_q (qt_not rfl) rfl ?_) | (refine so_is (.move _) ?_; (refine so_q (qt_mvC rfl) rfl ?_)) | (refine so_is (.fieldAddr 27 _ 2) ?_; (refine so_q (qt_fld_lp (off := 2) rfl (by kernel_rfl)) rfl ?_)) | (refine so_is (.load 24 _) ?_; (refine so_q (qt_load_box rfl rfl (by kernel_rfl) rfl) rfl ?_)) | (refine so_is (.call ⟨.builtin .len, _, #[24]⟩) ?_; (refine so_q (qt_len_d rfl (by kernel_rfl)) rfl ?_)) | (refine so_is (.binOp .neq 3 _ _ _) ?_; refine so_q (qt_neq rfl rfl) rfl ?_) | (refine so_is (.pick _ _ _) ?_; (refine so_q (qt_pkC rfl rfl) rfl ?_)) | (refine so_is (.binOp .eql 3 _ _ _) ?_; refine so_q (qt_eql rfl rfl) rfl ?_) | (refine so_is (.fieldAddr 27 _ 3) ?_; (refine so_q (qt_fld_lp (off := 3) rfl (by kernel_rfl)) rfl ?_)) | (refine so_is (.load 25 _) ?_; (refine so_q (qt_load_box rfl rfl (by kernel_rfl) rfl) rfl ?_)) | (refine so_is (.call ⟨.builtin .len, _, #[25]⟩) ?_; (refine so_q (qt_len_d rfl (by kernel_rfl)) rfl ?_)) | (refine so_is (.call ⟨.value (.func 109), _, _⟩) ?_; (apply so_call0 (fid := 109); (· (repeat (first | exact SeA.nil | apply SeA.cons (.c (.d _))))); (· exact areQuestions_p _ _); (· rfl))) | (refine so_is (.call ⟨.value (.func 119), _, _⟩) ?_; (apply so_call0 (fid := 119); (· (repeat (first | exact SeA.nil | apply SeA.cons (.c (.d _))))); (· exact allWithin_p _ _ _); (· rfl))) | (refine so_is (.call ⟨.value (.func 120), _, _⟩) ?_; (apply so_call0 (fid := 120); (· (repeat (first | exact SeA.nil | apply SeA.cons (.c (.d _))))); (· exact total_p _); (· rfl))) | refine so_nil ?_ | refine so_g_no rfl rfl rfl rfl ?_ | refine so_g_yes rfl rfl rfl rfl ?_ | refine so_g_if rfl rfl (fun hg => ?_) (fun hg => ?_) | refine so_g_b rfl rfl (fun hg => ?_) (fun hg => ?_) | refine sk_seq ?_ | refine sk_block ?_ | refine sk_skip ?_ | refine sk_region ?_ | refine sk_true rfl ?_ | refine sk_if rfl (fun hc => ?_) (fun hc => ?_))
  · (apply sk_ret; apply ret_eq; (· apply RetOK.p; (· (apply GvA.cons; (· exact .tmp _); (· exact GvP.c (.lit _))); exact GvA.nil); (· (decide))))
    have h9 : sizeB x y = false := by simpa using hg
    simp [gameB, h9]
  · (apply sk_ret; apply ret_eq; (· apply RetOK.p; (· (apply GvA.cons; (· exact .tmp _); (· exact GvP.c (.lit _))); exact GvA.nil); (· (decide))))
    have h9 : ¬ (ws.length : Int) = x * y := by rw [← hw (by simp_all)]; omega
    simp [gameB, h9]
  · (apply sk_ret; apply ret_eq; (· apply RetOK.p; (· (apply GvA.cons; (· exact .tmp _); (· exact GvP.c (.lit _))); exact GvA.nil); (· (decide))))
    have h9 : allB ws 0 99 = false := by simpa using hg
    simp [gameB, h9]
  · (apply sk_ret; apply ret_eq; (· apply RetOK.p; (· (apply GvA.cons; (· exact .tmp _); (· exact GvP.c (.lit _))); exact GvA.nil); (· (decide))))
    simp [gameB, hg]
  · (apply sk_ret; apply ret_eq; (· apply RetOK.p; (· (apply GvA.cons; (· exact .tmp _); (· exact GvP.c (.lit _))); exact GvA.nil); (· (decide))))
    have h9 : ¬ (wi.length : Int) = x * y := by rw [← hw (by simp_all)]; omega
    simp [gameB, h9]
  have hs : sizeB x y = true := by simp_all
  have h1 : (ws.length : Int) = x * y := by rw [← hw hs]; simp_all
  have h2 : allB ws 0 99 = true := by simp_all
  have h3 : sum64 ws ≠ 0 := by simp_all
  have h4 : (wi.length : Int) = x * y := by rw [← hw hs]; simp_all
  apply sk_packC [44, 45, 46] [1] rfl; (· (repeat (first | exact Pf.nil | apply Pf.cons (.c rfl (.d rfl))))); (· (repeat (first | exact Pb.nil | (apply Pb.cons; (· apply Nb.box rfl; (repeat (first | exact Ncs.nil rfl | (apply Ncs.cons rfl; (· (exact .d rfl))))))))))
  refine sk_loopL [44, 45] [1] (fun k => [(46, iN k)]) (fun _ => []) (fun k => k ≤ wi.length ∧ (wi.take k).all (fun l => bitsB l 4) = true) (fun k => wi.length - k) (0) ?_ (by (repeat (first | exact trivial | refine ⟨(by (rfl)), ?_⟩))) (by (repeat (exact trivial))) ?_
  · simp
  rintro k ⟨hk, ha⟩
  repeat' (first | (refine so_is (.assign _) ?_; (refine so_q (qt_asC rfl) rfl ?_)) | (refine so_is (.unOp .not 4 _) ?_; refine so_q (qt_not rfl) rfl ?_) | (refine so_is (.move _) ?_; (refine so_q (qt_mvC rfl) rfl ?_)) | (refine so_is (.load 24 _) ?_; (refine so_q (qt_load_pt rfl (by kernel_rfl) rfl) rfl ?_)) | (refine so_is (.call ⟨.builtin .len, _, #[24]⟩) ?_; (refine so_q (qt_len_d rfl (by kernel_rfl)) rfl ?_)) | (refine so_is (.binOp .neq 3 _ _ _) ?_; refine so_q (qt_neq rfl rfl) rfl ?_) | (refine so_is (.pick _ _ _) ?_; (refine so_q (qt_pkC rfl rfl) rfl ?_)) | (refine so_is (.binOp .lss 3 _ _ _) ?_; refine so_q (qt_lss rfl rfl) rfl ?_) | (refine so_is (.indexAddr 25 _ _) ?_; (refine so_q (qt_idxII rfl rfl (by kernel_rfl) (by (omega)) (by (omega))) rfl ?_)) | (refine so_is (.binOp .add 3 _ _ _) ?_; refine so_q (qt_addI rfl rfl (by (omega))) rfl ?_) | (refine so_is (.call ⟨.value (.func 119), _, _⟩) ?_; (apply so_call0 (fid := 119); (· (repeat (first | exact SeA.nil | apply SeA.cons (.c (.d _))))); (· exact allWithin_p _ _ _); (· rfl))) | refine so_nil ?_ | refine so_g_no rfl rfl rfl rfl ?_ | refine so_g_yes rfl rfl rfl rfl ?_ | refine so_g_if rfl rfl (fun hg => ?_) (fun hg => ?_) | refine sk_seq ?_ | refine sk_block ?_ | refine sk_blk ?_ | refine sk_exit rfl ?_ | refine sk_skip ?_ | refine sk_region ?_ | refine sk_true rfl ?_ | refine sk_if rfl (fun hc => ?_) (fun hc => ?_) | refine sk_not rfl (fun hc => ?_) (fun hc => ?_))
  · have hk2 : k < wi.length := by omega
    rw [atZ_nat hk2] at hg
    (apply sk_ret; apply ret_eq; (· apply RetOK.p; (· (apply GvA.cons; (· exact .tmp _); (· exact GvP.c (.lit _))); exact GvA.nil); (· (decide))))
    have h9 : bitsB wi[k] 4 = false := by simp [bitsB]; omega
    simp only [gameB, all_f (p := fun l => bitsB l 4) hk2 h9]; simp
  · have hk2 : k < wi.length := by omega
    rw [atZ_nat hk2] at hc
    (apply sk_ret; apply ret_eq; (· apply RetOK.p; (· (apply GvA.cons; (· exact .tmp _); (· exact GvP.c (.lit _))); exact GvA.nil); (· (decide))))
    have h9 : bitsB wi[k] 4 = false := by simp [bitsB, hc]
    simp only [gameB, all_f (p := fun l => bitsB l 4) hk2 h9]; simp
  · have hk2 : k < wi.length := by omega
    rw [atZ_nat hk2] at hc hg
    have h9 : bitsB wi[k] 4 = true := by simp [bitsB, hc]; omega
    refine sk_back ?_; refine ⟨k + 1, ?_, ?_, le_at rfl (by (repeat (first | exact trivial | refine ⟨(by (rfl)), ?_⟩))) (by (repeat (first | exact trivial | refine ⟨rfl, ?_⟩))) (by (repeat (exact trivial))) (by (repeat (first | exact trivial | refine ⟨.inr rfl, ?_⟩)))⟩
    · exact ⟨by omega, by rw [take_succ_all _ _ _ hk2, ha, h9]; rfl⟩
    · omega
  · have : k = wi.length := by omega
    subst this
    rw [List.take_length] at ha
    (apply sk_ret; apply ret_eq; (· apply RetOK.p; (· (apply GvA.cons; (· exact .tmp _); (· exact GvP.c (.lit _))); exact GvA.nil); (· (decide))))
    simp [gameB, hs, h1, h2, h3, h4, ha]

end Go.Proofs.Ytefbiejoikpkmaa

namespace Go.Proofs.Ytefbiejoikpkmaa
open Go.RowKit
set_option linter.unusedSectionVars false
variable [Glb]
set_option maxRecDepth 10000
set_option maxHeartbeats 4000000
theorem plays_p (x y : Nat) (h : x + y ≤ 6) : PC Try.prog 92 [.c (dI x), .c (dI y)] (.p (.c (eII (playsF (x + y))))) := by
  have e2 : (2 : Nat) ^ (x + y) ≤ 64 := Nat.le_trans (Nat.pow_le_pow_right (by omega) h) (by decide)
  obtain ⟨N, hN⟩ : ∃ N : Nat, N = 2 ^ (x + y) := ⟨_, rfl⟩
  rw [← hN] at e2
  have e1 : (1 : Int) * 2 ^ ((x : Int) + y).toNat = N := by
    rw [show ((x : Int) + y).toNat = x + y by omega, hN, Int.natCast_pow]; simp
  refine pc_intro Try.func92 rfl rfl rfl (by kernel_rfl) rfl rfl ?_; intro _
  repeat' (first | (refine so_is (.assign _) ?_; (refine so_q (qt_asC rfl) rfl ?_)) | (refine so_is (.buildSlice 25 0 _) ?_; (apply so_bslice (sz := 1) (by_ := 24); (· kernel_rfl); (· decide); (· (repeat (exact GvS.nil _))); (· (decide)); (· rfl); (· rfl); (· rfl))) | (refine so_is (.move _) ?_; (refine so_q (qt_mvC rfl) rfl ?_)) | (refine so_is (.binOp .add 3 _ _ _) ?_; refine so_q (qt_addI rfl rfl (by (omega))) rfl ?_) | (refine so_is (.binOp .shl 3 _ _ _) ?_; (refine so_q (qt_shlI rfl rfl (by (omega)) (by (omega)) (by (omega))) rfl ?_)) | refine so_nil ?_ | refine sk_seq ?_ | refine sk_block ?_ | refine sk_region ?_)
  apply sk_packC [0, 1, 5, 13, 14] [9, 17, 34, 35, 39, 40] rfl; (· (repeat (first | exact Pf.nil | apply Pf.cons (.c rfl (.d rfl)) | apply Pf.cons (.c rfl (.ls rfl))))); (· (repeat (first | exact Pb.nil | apply Pb.cons (.row rfl) | apply Pb.skip)))
  refine sk_loopL [0, 1, 13] [17, 34, 35, 39, 40] (fun c => [(14, iN c), (5, .c (.ls 9 1 0 c))]) (fun c => [(9, .row 1 (cII ((List.range c).map (bitsM (x + y)))))]) (fun c => c ≤ N) (fun c => N - c) (0) ?_ (by (repeat (first | exact trivial | refine ⟨(by (rfl)), ?_⟩))) (by (repeat (first | exact trivial | refine ⟨(by ((refine row_eq rfl ?_; simp; done))), ?_⟩))) ?_
  · omega
  intro c hc
  repeat' (first | (refine so_is (.assign _) ?_; (refine so_q (qt_asC rfl) rfl ?_)) | (refine so_is (.move _) ?_; (refine so_q (qt_mvC rfl) rfl ?_)) | (refine so_is (.binOp .add 3 _ _ _) ?_; refine so_q (qt_addI rfl rfl (by (omega))) rfl ?_) | (refine so_is (.binOp .lss 3 _ _ _) ?_; refine so_q (qt_lss rfl rfl) rfl ?_) | (refine so_is (.buildSlice 24 0 _) ?_; (apply so_bslice (sz := 1) (by_ := 8); (· kernel_rfl); (· decide); (· (repeat (exact GvS.nil _))); (· (decide)); (· rfl); (· rfl); (· rfl))) | refine so_nil ?_ | refine sk_seq ?_ | refine sk_block ?_ | refine sk_exit rfl ?_ | refine sk_skip ?_ | refine sk_region ?_ | refine sk_if rfl (fun hc => ?_) (fun hc => ?_))
  · apply sk_packC [0, 1, 5, 6, 7, 13, 14, 20, 21] [9, 17, 34, 35, 39, 40] rfl; (· (repeat (first | exact Pf.nil | apply Pf.cons (.c rfl (.d rfl)) | apply Pf.cons (.c rfl (.ls rfl))))); (· (repeat (first | exact Pb.nil | apply Pb.cons (.row rfl) | apply Pb.skip)))
    refine sk_loopL [0, 1, 5, 6, 13, 14, 20] [9, 34, 35, 39, 40] (fun i => [(21, iN i), (7, .c (.ls 17 1 0 i))]) (fun i => [(17, .row 1 (cI (rowF (fun i => (bitN c (x + y - 1 - i) : Int)) i)))]) (fun i => i ≤ x + y) (fun i => x + y - i) (0) ?_ (by (repeat (first | exact trivial | refine ⟨(by (rfl)), ?_⟩))) (by (repeat (first | exact trivial | refine ⟨(by (rfl)), ?_⟩))) ?_
    · omega
    intro i hi
    have e3 : i < x + y → (c : Int) / 2 ^ ((x : Int) + y - 1 - i).toNat % 2 = (bitN c (x + y - 1 - i) : Int) := fun h => by
      rw [show ((x : Int) + y - 1 - i).toNat = x + y - 1 - i by omega, bit_nat]
    repeat' (first | (refine so_is (.assign _) ?_; (refine so_q (qt_asC rfl) rfl ?_)) | (refine so_is (.move _) ?_; (refine so_q (qt_mvC rfl) rfl ?_)) | (refine so_is (.binOp .add 3 _ _ _) ?_; refine so_q (qt_addI rfl rfl (by (omega))) rfl ?_) | (refine so_is (.binOp .lss 3 _ _ _) ?_; refine so_q (qt_lss rfl rfl) rfl ?_) | (refine so_is (.binOp .sub 3 _ _ _) ?_; refine so_q (qt_subI rfl rfl (by (omega))) rfl ?_) | (refine so_is (.binOp .shr 3 _ _ _) ?_; (refine so_q (qt_shrI rfl rfl (by (omega)) (by (omega))) rfl ?_)) | (refine so_is (.binOp .and 3 _ _ _) ?_; refine so_q (qt_andM 1 (c := 2) rfl rfl (by decide)) rfl ?_) | (refine so_is (.buildSlice 24 1 _) ?_; (apply so_bslice (sz := 1) (by_ := 8); (· kernel_rfl); (· decide); (· (repeat (first | exact GvS.nil _ | apply GvS.c rfl rfl (.lit _) rfl))); (· (decide)); (· rfl); (· rfl); (· rfl))) | (refine so_is (.call ⟨.builtin .append, _, #[24, 24]⟩) ?_; ((apply so_appR (sz := 1) (by_ := 8); (· rfl); (· rfl); (· ((simp; done))); (· exact .row _ _ _ _ rfl (by ((simp; done)))); (· (decide)); (· kernel_rfl); (· decide); (· (omega)); (· (omega)); (· rfl); (· rfl); (· rfl)))) | (refine so_is (.buildSlice 25 1 _) ?_; (apply so_bslice (sz := 1) (by_ := 24); (· kernel_rfl); (· decide); (· (repeat (first | exact GvS.nil _ | apply GvS.c rfl rfl (.row _ _ _ _ rfl (by ((simp; done)))) rfl))); (· (decide)); (· rfl); (· rfl); (· rfl))) | (refine so_is (.call ⟨.builtin .append, _, #[25, 25]⟩) ?_; ((apply so_appR (sz := 1) (by_ := 24); (· rfl); (· rfl); (· ((simp; done))); (· exact .row _ _ _ _ rfl (by ((simp; done)))); (· (decide)); (· kernel_rfl); (· decide); (· (omega)); (· (omega)); (· rfl); (· rfl); (· rfl)))) | refine so_nil ?_ | refine sk_seq ?_ | refine sk_block ?_ | refine sk_blk ?_ | refine sk_exit rfl ?_ | refine sk_skip ?_ | refine sk_region ?_ | refine sk_if rfl (fun hc => ?_) (fun hc => ?_))
    · have e3 := e3 (by omega)
      simp at e3
      refine sk_back ?_; refine ⟨i + 1, ?_, ?_, le_at rfl (by (repeat (first | exact trivial | refine ⟨(by (rfl)), ?_⟩))) (by (repeat (first | exact trivial | refine ⟨rfl, ?_⟩))) (by (repeat (first | exact trivial | refine ⟨(by ((refine row_eq rfl ?_; simp  [rowF_snoc, e3]; done))), ?_⟩))) (by (repeat (first | exact trivial | refine ⟨.inr rfl, ?_⟩)))⟩
      · omega
      · omega
    · have h8 : i = x + y := by omega
      subst h8
      refine sk_back ?_; refine ⟨c + 1, ?_, ?_, le_at rfl (by (repeat (first | exact trivial | refine ⟨(by (rfl)), ?_⟩))) (by (repeat (first | exact trivial | refine ⟨rfl, ?_⟩))) (by (repeat (first | exact trivial | refine ⟨(by ((refine row_eq rfl ?_; simp  [plays_snoc, bitsM]; done))), ?_⟩))) (by (repeat (first | exact trivial | refine ⟨.inr rfl, ?_⟩)))⟩
      · omega
      · omega
  · have h8 : c = N := by omega
    subst h8
    subst hN
    (apply sk_ret; apply ret_eq; (· apply RetOK.p; (· (apply GvA.cons; (· exact .tmp _); (· (exact GvP.c (.row _ _ _ _ rfl (by ((simp; done))))))); exact GvA.nil); (· (decide))))
    simp [playsF]

end Go.Proofs.Ytefbiejoikpkmaa

namespace Go.Proofs.Ytefbiejoikpkmaa
open Go.RowKit
set_option linter.unusedSectionVars false
variable [Glb]
set_option maxRecDepth 10000
set_option maxHeartbeats 4000000
theorem isPlay_p (x y : Int) (l : List Int) : PC Try.prog 110 [.c (dI x), .c (dI y), .c (eI l)] (.p (.c (dB (bitsB l (IntKind.i64.wrap (x + y)))))) := by
  refine pc_intro Try.func110 rfl rfl rfl (by kernel_rfl) rfl rfl ?_; intro _
  repeat' (first | (refine so_is (.assign _) ?_; (refine so_q (qt_asC rfl) rfl ?_)) | (refine so_is (.move _) ?_; (refine so_q (qt_mvC rfl) rfl ?_)) | (refine so_is (.call ⟨.builtin .len, _, #[24]⟩) ?_; (refine so_q (qt_len_d rfl (by kernel_rfl)) rfl ?_)) | (refine so_is (.binOp .add 3 _ _ _) ?_; (refine so_q (qt_add rfl rfl) rfl ?_)) | (refine so_is (.binOp .eql 3 _ _ _) ?_; refine so_q (qt_eql rfl rfl) rfl ?_) | (refine so_is (.pick _ _ _) ?_; (refine so_q (qt_pkC rfl rfl) rfl ?_)) | (refine so_is (.call ⟨.value (.func 119), _, _⟩) ?_; (apply so_call0 (fid := 119); (· (repeat (first | exact SeA.nil | apply SeA.cons (.c (.d _))))); (· exact allWithin_p _ _ _); (· rfl))) | refine so_nil ?_ | refine so_g_no rfl rfl rfl rfl ?_ | refine so_g_yes rfl rfl rfl rfl ?_ | refine so_g_if rfl rfl (fun hg => ?_) (fun hg => ?_) | refine sk_seq ?_ | refine sk_region ?_)
  all_goals (apply sk_ret; apply ret_eq; (· apply RetOK.p; (· (apply GvA.cons; (· exact .tmp _); (· exact GvP.c (.lit _))); exact GvA.nil); (· (decide))))
  all_goals ((simp_all [bitsB]; done))

end Go.Proofs.Ytefbiejoikpkmaa

namespace Go.Proofs.Ytefbiejoikpkmaa
open Go.RowKit
set_option linter.unusedSectionVars false
variable [Glb]
set_option maxRecDepth 10000
set_option maxHeartbeats 4000000
theorem isGamePlay_p (x y : Int) (ws : List Int) (wi : List (List Int)) (l : List Int) : PC Try.prog 100 [.g [dI x, dI y, eI ws, eII wi], .c (eI l)] (.p (.c (dB (gameB x y ws wi && bitsB l (x + y))))) := by
  have hw : gameB x y ws wi = true → IntKind.i64.wrap (x + y) = x + y := fun h => by have := gameB_spec h; have a := this.x1; have b := this.x3; have c := this.y1; have d := this.y3; exact IntWalk.i64_in _ (by omega)
  refine pc_intro Try.func100 rfl rfl rfl (by kernel_rfl) rfl rfl ?_; intro _
  repeat' (first | (refine so_is (.box 27 _) ?_; refine so_box rfl rfl ?_) | (refine so_is (.assign _) ?_; (refine so_q (qt_asC rfl) rfl ?_)) | (refine so_is (.load 27 _) ?_; (refine so_q (qt_load_boxs rfl rfl (by kernel_rfl : tAgg _ 27 4 = true) rfl) rfl ?_)) | (refine so_is (.move _) ?_; (refine so_q (qt_mvC rfl) rfl ?_)) | (refine so_is (.fieldAddr 27 _ 0) ?_; (refine so_q (qt_fld_lp (off := 0) rfl (by kernel_rfl)) rfl ?_)) | (refine so_is (.load 3 _) ?_; (refine so_q (qt_load_box rfl rfl (by kernel_rfl) rfl) rfl ?_)) | (refine so_is (.fieldAddr 27 _ 1) ?_; (refine so_q (qt_fld_lp (off := 1) rfl (by kernel_rfl)) rfl ?_)) | (refine so_is (.pick _ _ _) ?_; (refine so_q (qt_pkC rfl rfl) rfl ?_)) | (refine so_is (.call ⟨.value (.func 29), _, _⟩) ?_; (apply so_call0 (fid := 29); (· (repeat (first | exact SeA.nil | (apply SeA.cons; (· (apply SeP.g; (repeat (first | exact SeL.nil | apply SeL.cons (.d _))))))))); (· exact IsGame_p _ _ _ _); (· rfl))) | (refine so_is (.call ⟨.value (.func 110), _, _⟩) ?_; (apply so_call0 (fid := 110); (· (repeat (first | exact SeA.nil | apply SeA.cons (.c (.d _))))); (· exact isPlay_p _ _ _); (· rfl))) | refine so_nil ?_ | refine so_g_no rfl rfl rfl rfl ?_ | refine so_g_yes rfl rfl rfl rfl ?_ | refine so_g_b rfl rfl (fun hg => ?_) (fun hg => ?_) | refine sk_seq ?_ | refine sk_region ?_)
  · (apply sk_ret; apply ret_eq; (· apply RetOK.p; (· (apply GvA.cons; (· exact .tmp _); (· exact GvP.c (.lit _))); exact GvA.nil); (· (decide))))
    simp [hg, hw hg]
  · (apply sk_ret; apply ret_eq; (· apply RetOK.p; (· (apply GvA.cons; (· exact .tmp _); (· exact GvP.c (.lit _))); exact GvA.nil); (· (decide))))
    simp [hg]

end Go.Proofs.Ytefbiejoikpkmaa
