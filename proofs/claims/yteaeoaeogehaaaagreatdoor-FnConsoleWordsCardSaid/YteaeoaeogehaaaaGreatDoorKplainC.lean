/- A way of walking over plain data: part of the proof of FnConsoleWords. No condition beyond those of its theorems. -/
import Derived.WalkKit
import Derived.Lib.ItoaNum
import Derived.Test.YteaeoaeogehaaaaGreatDoorKplainB
import Derived.Test.YteaeoaeogehaaaaGreatDoorKplainA
import Derived.Below
import Derived.Lib.LaidTab
import Derived.Laws.IdiomStrings
import Derived.Laws.BytesArg
import Derived.WalkSpells
set_option linter.unusedSectionVars false
set_option maxRecDepth 10000
set_option maxHeartbeats 4000000
set_option linter.unusedVariables false
set_option linter.unusedSimpArgs false
namespace Go.Proofs.YteaeoaeogehaaaaGreatDoor
open Go.RowKit
variable [Glb]
abbrev Tx := List UInt8
def bsT (l : Tx) : ByteArray := ⟨l.toArray⟩
theorem jdh (l : Tx) : (bsT l).size = l.length := by simp [bsT, ByteArray.size]
theorem bsT_inj {a b : Tx} : bsT a = bsT b ↔ a = b := by
 constructor
 ·intro h
  have : (bsT a).data.toList = (bsT b).data.toList := by rw [h]
  simpa [bsT] using this
 ·rintro rfl; rfl
theorem jil : (⟨#[]⟩ : ByteArray) = bsT [] := rfl
theorem jox (a b : Tx) : bsT a ++ bsT b = bsT (a ++ b) := by
 apply ByteArray.ext
 rw [ByteArray.data_append]
 simp [bsT]
theorem jim (a : Tx) (i j : Nat) : (bsT a).extract i j = bsT ((a.take j).drop i) := by
 apply ByteArray.ext
 rw [ByteArray.data_extract]
 simp [bsT, List.extract_eq_take_drop, List.drop_take]
def bef (b : UInt8) : Tx → Tx
 | [] => []
 | x :: r => if x = b then [] else x :: bef b r
def aft (b : UInt8) : Tx → Tx
 | [] => []
 | x :: r => if x = b then r else aft b r
theorem jgo {b : UInt8} : ∀ {s : Tx}, b ∉ s → bef b s = s
 | [], _ => rfl
 | x :: r, h => by
  rw [List.mem_cons, not_or] at h
  rw [bef, if_neg (Ne.symm h.1), jgo h.2]
theorem jnz {b : UInt8} : ∀ {s : Tx}, b ∉ s → aft b s = []
 | [], _ => rfl
 | x :: r, h => by
  rw [List.mem_cons, not_or] at h
  rw [aft, if_neg (Ne.symm h.1), jnz h.2]
theorem jmk {b : UInt8} : ∀ {x y : Tx}, b ∉ x → bef b (x ++ b :: y) = x
 | [], y, _ => by simp [bef]
 | z :: x, y, h => by
  rw [List.mem_cons, not_or] at h
  rw [List.cons_append, bef, if_neg (Ne.symm h.1), jmk h.2]
theorem jmn {b : UInt8} : ∀ {x y : Tx}, b ∉ x → aft b (x ++ b :: y) = y
 | [], y, _ => by simp [aft]
 | z :: x, y, h => by
  rw [List.mem_cons, not_or] at h
  rw [List.cons_append, aft, if_neg (Ne.symm h.1), jmn h.2]
theorem jdl {b : UInt8} : ∀ {s : Tx}, b ∈ s → s = bef b s ++ b :: aft b s ∧ b ∉ bef b s
 | [], h => by cases h
 | x :: r, h => by
  by_cases hx : x = b
  ·rw [bef, aft, if_pos hx, if_pos hx, hx];exact ⟨rfl, fun h => by cases h⟩
  ·have hr : b ∈ r := by rcases List.mem_cons.1 h with e|e;exact absurd e.symm hx;exact e
   obtain ⟨e, n⟩ := jdl hr
   rw [bef, aft, if_neg hx, if_neg hx]
   refine ⟨by rw [List.cons_append, ← e], fun hm => ?_⟩
   rcases List.mem_cons.1 hm with e'|e'
   ·exact hx e'.symm
   ·exact n e'
def splitT (b : UInt8) : Tx → List Tx
 | [] => [[]]
 | x :: r => if x = b then [] :: splitT b r else match splitT b r with|[] => [[x]]|h :: t => (x :: h) :: t
theorem jeb (b : UInt8) : ∀ s, ∃ t, splitT b s = bef b s :: t
 | [] => ⟨[], rfl⟩
 | x :: r => by
  unfold splitT
  by_cases hx : x = b
  ·rw [if_pos hx];exact ⟨splitT b r, by simp [bef, hx]⟩
  ·rw [if_neg hx]
   obtain ⟨t, e⟩ := jeb b r
   rw [e];exact ⟨t, by simp [bef, hx]⟩
theorem jht (b : UInt8) (s : Tx) : splitT b s ≠ [] := by obtain ⟨t, e⟩ := jeb b s; rw [e]; simp
theorem jiz (b : UInt8) : ∀ s, ((splitT b s).length < 2 ↔ b ∉ s)
 | [] => by simp [splitT]
 | x :: r => by
  unfold splitT
  by_cases hx : x = b
  ·rw [if_pos hx]
   obtain ⟨t, e⟩ := jeb b r
   rw [e]; simp [hx]
  ·rw [if_neg hx]
   have ih := jiz b r
   obtain ⟨t, e⟩ := jeb b r
   rw [e] at ih ⊢
   simp only [List.length_cons, List.mem_cons, not_or] at ih ⊢
   constructor
   ·intro h;exact ⟨fun h' => hx h'.symm, ih.1 h⟩
   ·rintro ⟨_, h⟩;exact ih.2 h
def sumN (s : Tx) : Nat := s.foldl (fun h c => (41 * h + c.toNat + 1) % 999979) 7
theorem jkm (s : Tx) (c : UInt8) : sumN (s ++ [c]) = (41 * sumN s + c.toNat + 1) % 999979 := by simp [sumN]
theorem sumN_take {s : Tx} {i : Nat} (h : i < s.length) : sumN (s.take (i + 1)) = (41 * sumN (s.take i) + s[i].toNat + 1) % 999979 := by
 rw [List.take_succ_eq_append_getElem h, jkm]
theorem jls (s : Tx) : sumN s < 999979 := by
 rcases List.eq_nil_or_concat s with rfl|⟨l, c, rfl⟩
 ·decide
 ·rw [List.concat_eq_append, jkm];omega
def numT (n : Nat) : Tx := Go.Lib.decDigits n
theorem jjx (n : Nat) : numT n = if n < 10 then [UInt8.ofNat (48 + n)] else numT (n / 10) ++ [UInt8.ofNat (48 + n % 10)] := by
 unfold numT;rw [Go.Lib.decDigits];split <;> rfl
theorem dig_lt {n : Nat} (h : n < 10) : (UInt8.ofNat (48 + n)).toNat = 48 + n := by
 rw [UInt8.toNat_ofNat']; omega
theorem numT_dig (n : Nat) : ∀ b ∈ numT n, 48 ≤ b.toNat ∧ b.toNat ≤ 57 := by
 induction n using Nat.strongRecOn with
 | ind n ih =>
  rw [jjx]
  split
  ·intro b hb;rw [List.mem_singleton] at hb;subst hb;rw [dig_lt (by assumption)];omega
  ·intro b hb
   rcases List.mem_append.1 hb with hb|hb
   ·exact ih _ (by omega) b hb
   ·rw [List.mem_singleton] at hb;subst hb;rw [dig_lt (n := n % 10) (by omega)];omega
theorem jhh (m : Nat) : ∀ n, n < 10 ^ (m + 1) → 1 ≤ (numT n).length ∧ (numT n).length ≤ m + 1 := by
 induction m with
 | zero => intro n h;rw [jjx, if_pos (by omega)];simp
 | succ m ih =>
  intro n h
  rw [jjx]
  split
  ·simp
  ·have := ih (n / 10) (by rw [Nat.div_lt_iff_lt_mul (by omega)];rw [Nat.pow_succ] at h;exact h)
   simp; omega
def plB (b : UInt8) : Bool := decide (32 ≤ b.toNat) && decide (b.toNat ≤ 126)
def bytB (s : Tx) (most : Int) : Bool := (s.all fun b => plB b && b != 35) && decide ((s.length : Int) ≤ most)
def recB (c r : Tx) : Bool := decide (c ≠ []) && bytB c 160 && !c.contains 64 && bytB r 250
def plainB (s : Tx) (most : Int) (o : Tx) : Bool := s.all plB && (decide ((s.length : Int) ≤ most) && !(s.any fun b => o.contains b))
theorem recB_eq (c r : Tx) : (decide (c ≠ []) && plainB c 160 [35, 64] && plainB r 250 [35]) = recB c r := by
 have h1 : ∀ s : Tx, (s.all plB && !(s.any fun b => [35, 64].contains b)) = ((s.all fun b => plB b && b != 35) && !s.contains 64) := by
  intro s; induction s with
  | nil => rfl
  | cons x s ih =>
   simp only [List.all_cons, List.any_cons, List.contains_cons, List.contains_nil, Bool.or_false, Bool.not_or] at ih ⊢
   rw [show (plB x && s.all plB && ((!(x == 35) && !(x == 64)) && !s.any fun b => b == 35 || b == 64)) = (plB x && (!(x == 35) && !(x == 64)) && (s.all plB && !s.any fun b => b == 35 || b == 64)) by ac_rfl, ih]
   rw [show (64 == x) = (x == 64) by rw [Bool.beq_comm (α := UInt8)]]
   simp only [bne]
   ac_rfl
 have h2 : ∀ s : Tx, (s.all plB && !(s.any fun b => [35].contains b)) = (s.all fun b => plB b && b != 35) := by
  intro s; induction s with
  | nil => rfl
  | cons x s ih =>
   simp only [List.all_cons, List.any_cons, List.contains_cons, List.contains_nil, Bool.or_false, Bool.not_or] at ih ⊢
   rw [← ih];simp only [bne];ac_rfl
 unfold recB plainB bytB
 rw [show ((c.all plB && (decide ((c.length : Int) ≤ 160) && !(c.any fun b => [35, 64].contains b)))) = ((c.all plB && !(c.any fun b => [35, 64].contains b)) && decide ((c.length : Int) ≤ 160)) by ac_rfl, h1]
 rw [show ((r.all plB && (decide ((r.length : Int) ≤ 250) && !(r.any fun b => [35].contains b)))) = ((r.all plB && !(r.any fun b => [35].contains b)) && decide ((r.length : Int) ≤ 250)) by ac_rfl, h2]
 ac_rfl
structure RecP (c r : Tx) : Prop where
 ne : c ≠ []
 cl : c.length ≤ 160
 rl : r.length ≤ 250
 c35 : 35 ∉ c
 c10 : 10 ∉ c
 c64 : 64 ∉ c
 r35 : 35 ∉ r
 r10 : 10 ∉ r
theorem bytB_p {s : Tx} {most : Int} (h : bytB s most = true) : (s.length : Int) ≤ most ∧ 35 ∉ s ∧ 10 ∉ s := by
 unfold bytB plB at h
 simp only [Bool.and_eq_true, List.all_eq_true, decide_eq_true_eq, bne_iff_ne, ne_eq] at h
 refine ⟨h.2, fun hm => (h.1 _ hm).2 rfl, fun hm => ?_⟩
 have := (h.1 _ hm).1.1
 simp at this
theorem recB_p {c r : Tx} (h : recB c r = true) : RecP c r := by
 unfold recB at h
 simp only [Bool.and_eq_true, decide_eq_true_eq, Bool.not_eq_true', List.contains_eq_mem, decide_eq_false_iff_not] at h
 obtain ⟨⟨⟨h1, h2⟩, h3⟩, h4⟩ := h
 have a := bytB_p h2;have b := bytB_p h4
 exact ⟨h1, by omega, by omega, a.2.1, a.2.2, h3, b.2.1, b.2.2⟩
def sealT (s : Tx) : Tx := s ++ [35] ++ numT (sumN s)
def textT (k : Nat) (c r : Tx) : Tx := numT k ++ [32] ++ c ++ [64] ++ r
def lineT (k : Nat) (c r : Tx) : Tx := sealT (textT k c r)
theorem jjy {n : Nat} {b : UInt8} (h : b.toNat < 48 ∨ 57 < b.toNat) : b ∉ numT n := fun hm => by have := numT_dig n b hm; omega
theorem num60 {k : Nat} (h : k < 60) : 1 ≤ (numT k).length ∧ (numT k).length ≤ 2 := jhh 1 k (by omega)
theorem numS (s : Tx) : 1 ≤ (numT (sumN s)).length ∧ (numT (sumN s)).length ≤ 6 := jhh 5 _ (by have := jls s; omega)
theorem jph {k : Nat} {c r : Tx} (h : RecP c r) : 35 ∉ textT k c r := by
 have := jjy (n := k) (b := 35) (by decide)
 simp [textT, this, h.c35, h.r35]
theorem jhe {k : Nat} {c r : Tx} (hk : k < 60) (h : RecP c r) : (textT k c r).length ≤ 414 := by
 have := num60 hk;have := h.cl;have := h.rl
 simp [textT]; omega
theorem jhf (s : Tx) : s.length + 2 ≤ (sealT s).length ∧ (sealT s).length ≤ s.length + 7 := by have := numS s; simp [sealT]; omega
theorem jnc {s : Tx} (h : 35 ∉ s) : bef 35 (sealT s) = s := by
 unfold sealT;rw [List.append_assoc];exact jmk h
theorem jod {k : Nat} {c r : Tx} (h : RecP c r) : aft 32 (textT k c r) = c ++ 64 :: r ∧ bef 64 (c ++ 64 :: r) = c ∧ aft 64 (c ++ 64 :: r) = r := by
 refine ⟨?_, jmk h.c64, jmn h.c64⟩
 have : textT k c r = numT k ++ 32 :: (c ++ 64 :: r) := by simp [textT]
 rw [this];exact jmn (jjy (by decide))
def decT (k : Nat) (l : Tx) : Option (Tx × Tx) :=
 let e := aft 32 (bef 35 l)
 if recB (bef 64 e) (aft 64 e) = true ∧ lineT k (bef 64 e) (aft 64 e) = l then some (bef 64 e, aft 64 e) else none
theorem decT_iff {k : Nat} {l c r : Tx} : decT k l = some (c, r) ↔ recB c r = true ∧ lineT k c r = l := by
 constructor
 ·unfold decT;simp only;split
  ·rename_i h;intro e;simp only [Option.some.injEq, Prod.mk.injEq] at e;obtain ⟨rfl, rfl⟩ := e;exact h
  ·intro e; cases e
 ·rintro ⟨h1, rfl⟩
  have h := recB_p h1
  have e1 : bef 35 (lineT k c r) = textT k c r := jnc (jph h)
  obtain ⟨e2, e3, e4⟩ := jod (k := k) h
  unfold decT;simp only [e1, e2, e3, e4, h1, and_self, if_true]
theorem decT_none {k : Nat} {l : Tx} (h : ∀ c r, recB c r = true → lineT k c r ≠ l) : decT k l = none := by
 cases e : decT k l with
 | none => rfl
 | some x => obtain ⟨c, r⟩ := x;obtain ⟨h1, h2⟩ := decT_iff.1 e;exact absurd h2 (h c r h1)
def verT (l : Tx) : Bool := decide ((bef 35 l).length ≤ 4000) && decide ((sealT (bef 35 l)).length ≤ 4000) && decide (sealT (bef 35 l) = l)
def vtxT (l : Tx) : Tx := if verT l = true then bef 35 l else []
theorem jms {k : Nat} {c r : Tx} (hk : k < 60) (h : RecP c r) : verT (lineT k c r) = true := by
 have h1 := jhe hk h
 have h2 := jhf (textT k c r)
 unfold verT
 rw [show bef 35 (lineT k c r) = textT k c r from jnc (jph h)]
 simp [lineT]; omega
theorem decI {k : Nat} {l : Tx} (hk : k < 60) :
  decT k l = if recB (bef 64 (aft 32 (vtxT l))) (aft 64 (aft 32 (vtxT l))) = true ∧ lineT k (bef 64 (aft 32 (vtxT l))) (aft 64 (aft 32 (vtxT l))) = l then some (bef 64 (aft 32 (vtxT l)), aft 64 (aft 32 (vtxT l))) else none := by
 by_cases hv : verT l = true
 ·simp only [vtxT, hv, if_true];rfl
 ·split
  ·rename_i h
   rw [← h.2] at hv
   exact absurd (jms hk (recB_p h.1)) hv
  ·exact decT_none fun c r h e => hv (by rw [← e];exact jms hk (recB_p h))
def stepT (k : Nat) (s : Tx) : Option ((Tx × Tx) × Nat) := if 10 ∈ s then (decT k (bef 10 s)).map fun e => (e, (bef 10 s).length + 1) else none
def stepsT : Nat → Nat → Tx → List ((Tx × Tx) × Nat)
 | 0, _, _ => []
 | f + 1, k, s => match stepT k s with
  | none => []
  | some (e, n) => (e, n) :: stepsT f (k + 1) (s.drop n)
def logT (s : Tx) : List ((Tx × Tx) × Nat) := stepsT 60 0 s
def recsT (s : Tx) : List (Tx × Tx) := (logT s).map Prod.fst
def endsT (s : Tx) (j : Nat) : Nat := (((logT s).take j).map Prod.snd).sum
def numR (s : Tx) : Nat := (logT s).length
def endT (s : Tx) : Nat := endsT s (numR s)
theorem stepT_le {k n : Nat} {s : Tx} {e : Tx × Tx} (h : stepT k s = some (e, n)) : 1 ≤ n ∧ n ≤ s.length := by
 unfold stepT at h
 split at h
 ·rename_i hm
  obtain ⟨x, _, hx⟩ := Option.map_eq_some_iff.1 h
  simp only [Prod.mk.injEq] at hx
  have := congrArg List.length (jdl hm).1
  simp at this; omega
 ·cases h
theorem jiy : ∀ f k s, (stepsT f k s).length ≤ f
 | 0, _, _ => by simp [stepsT]
 | f + 1, k, s => by
  unfold stepsT; split
  ·simp
  ·simp; exact jiy f _ _
theorem jkn : ∀ f k s, ((stepsT f k s).map Prod.snd).sum ≤ s.length
 | 0, _, _ => by simp [stepsT]
 | f + 1, k, s => by
  unfold stepsT; split
  ·simp
  ·rename_i e n h
   have := jkn f (k + 1) (s.drop n)
   have := stepT_le h
   simp at *; omega
theorem jfx {f k : Nat} {s : Tx} (h : stepT k s = none) : stepsT (f + 1) k s = [] := by rw [stepsT, h]
theorem jfw {f k n : Nat} {s : Tx} {e : Tx × Tx} (h : stepT k s = some (e, n)) : stepsT (f + 1) k s = (e, n) :: stepsT f (k + 1) (s.drop n) := by rw [stepsT, h]
theorem jhs : ∀ (j f k : Nat) (s : Tx), j ≤ (stepsT f k s).length → (stepsT f k s).drop j = stepsT (f - j) (k + j) (s.drop (((stepsT f k s).take j).map Prod.snd).sum)
 | 0, f, k, s, _ => by simp
 | j + 1, 0, k, s, h => by simp [stepsT] at h
 | j + 1, f + 1, k, s, h => by
  cases e2 : stepT k s with
  | none => rw [jfx e2] at h;simp at h
  | some en =>
   obtain ⟨e, n⟩ := en
   rw [jfw e2] at h ⊢
   simp only [List.length_cons] at h
   simp only [List.drop_succ_cons, List.take_succ_cons, List.map_cons, List.sum_cons]
   rw [jhs j f (k + 1) (s.drop n) (by omega), List.drop_drop, Nat.add_sub_add_right, show k + 1 + j = k + (j + 1) by omega]
theorem jmb (s : Tx) : numR s ≤ 60 := jiy ..
theorem jmh (s : Tx) (j : Nat) : endsT s j ≤ s.length := by
 have h := jkn 60 0 s
 have : endsT s j ≤ ((logT s).map Prod.snd).sum := by
  unfold endsT
  conv => rhs;rw [← List.take_append_drop j (logT s), List.map_append, List.sum_append]
  omega
 exact Nat.le_trans this h
theorem jij (s : Tx) : endsT s 0 = 0 := by simp [endsT]
theorem jhj {s : Tx} {j : Nat} (h : j ≤ numR s) : (logT s).drop j = stepsT (60 - j) j (s.drop (endsT s j)) := by
 have := jhs j 60 0 s h
 rwa [Nat.zero_add] at this
theorem jkb {s : Tx} {j : Nat} (h : j ≤ numR s) (hs : stepT j (s.drop (endsT s j)) = none) : numR s = j := by
 have e := jhj h
 have : (logT s).drop j = [] := by
  rw [e]; cases 60 - j with
  | zero => rfl
  | succ f => simp [stepsT, hs]
 rw [List.drop_eq_nil_iff] at this
 exact Nat.le_antisymm this h
theorem log_go {s : Tx} {j n : Nat} {e : Tx × Tx} (h : j ≤ numR s) (h6 : j < 60) (hs : stepT j (s.drop (endsT s j)) = some (e, n)) : j < numR s ∧ (recsT s)[j]? = some e ∧ endsT s (j + 1) = endsT s j + n := by
 have e1 := jhj h
 obtain ⟨f, hf⟩ : ∃ f, 60 - j = f + 1 := ⟨60 - j - 1, by omega⟩
 rw [hf] at e1
 simp only [stepsT, hs] at e1
 have hlt : j < (logT s).length := by
  have := congrArg List.length e1;simp at this;omega
 rw [List.drop_eq_getElem_cons hlt] at e1
 have e2 : (logT s)[j] = (e, n) := (List.cons.inj e1).1
 refine ⟨hlt, by simp [recsT, hlt, e2], ?_⟩
 unfold endsT
 rw [List.take_succ_eq_append_getElem hlt, List.map_append, List.sum_append, e2]
 simp
theorem jhq {α : Type} {l : List α} {j : Nat} {x : α} (h : l[j]? = some x) : l.take (j + 1) = l.take j ++ [x] := by
 obtain ⟨hlt, rfl⟩ := List.getElem?_eq_some_iff.1 h
 exact List.take_succ_eq_append_getElem hlt
theorem step_no {k : Nat} {s : Tx} (h : 10 ∉ s) : stepT k s = none := by unfold stepT; rw [if_neg h]
theorem jko {k : Nat} {s : Tx} (h : decT k (bef 10 s) = none) : stepT k s = none := by unfold stepT; split; rw [h]; rfl; rfl
theorem step_some {k : Nat} {s : Tx} {e : Tx × Tx} (hm : 10 ∈ s) (h : decT k (bef 10 s) = some e) : stepT k s = some (e, (bef 10 s).length + 1) := by unfold stepT; rw [if_pos hm, h]; rfl
theorem jkk {b : UInt8} : ∀ {x y : Tx}, b ∈ x → bef b (x ++ y) = bef b x
 | [], _, h => by cases h
 | z :: x, y, h => by
  by_cases hz : z = b
  ·simp [bef, hz]
  ·have hr : b ∈ x := by rcases List.mem_cons.1 h with e|e;exact absurd e.symm hz;exact e
   simp [bef, hz, jkk hr]
theorem step_app {k n : Nat} {x y : Tx} {e : Tx × Tx} (h : stepT k x = some (e, n)) : stepT k (x ++ y) = some (e, n) := by
 unfold stepT at h ⊢
 split at h
 ·rename_i hm
  rw [if_pos (List.mem_append_left _ hm), jkk hm];exact h
 ·cases h
theorem step_back {k n : Nat} {x y : Tx} {e : Tx × Tx} (h : stepT k (x ++ y) = some (e, n)) (hn : n ≤ x.length) : stepT k x = some (e, n) := by
 unfold stepT at h ⊢
 split at h
 ·rename_i hm
  have hx : 10 ∈ x := by
   refine Classical.byContradiction fun hx => ?_
   obtain ⟨z, _, hz⟩ := Option.map_eq_some_iff.1 h
   simp only [Prod.mk.injEq] at hz
   have h2 : x.length ≤ (bef 10 (x ++ y)).length := by
    have : ∀ (x y : Tx), (10 : UInt8) ∉ x → x.length ≤ (bef 10 (x ++ y)).length := by
     intro x;induction x with
     | nil => intro y _;simp
     | cons z x ih =>
      intro y hx
      rw [List.mem_cons, not_or] at hx
      simp only [List.cons_append, bef, if_neg (Ne.symm hx.1), List.length_cons]
      have := ih y hx.2;omega
    exact this x y hx
   omega
  rw [if_pos hx];rwa [jkk hx] at h
 ·cases h
theorem log_pre {x y : Tx} : ∀ j, j ≤ numR (x ++ y) → endsT (x ++ y) j ≤ x.length → j ≤ numR x ∧ endsT x j = endsT (x ++ y) j ∧ (recsT x).take j = (recsT (x ++ y)).take j
 | 0, _, _ => ⟨Nat.zero_le _, by simp [jij], by simp⟩
 | j + 1, h, he => by
  have hlt : j < (logT (x ++ y)).length := h
  have e1 : endsT (x ++ y) (j + 1) = endsT (x ++ y) j + ((logT (x ++ y))[j]).2 := by
   unfold endsT
   rw [List.take_succ_eq_append_getElem hlt, List.map_append, List.sum_append];simp
  obtain ⟨h1, h2, h3⟩ := log_pre (x := x) (y := y) j (by omega) (by omega)
  have h6 : j < 60 := by have := jmb (x ++ y);omega
  have hst : stepT j ((x ++ y).drop (endsT (x ++ y) j)) = some (((logT (x ++ y))[j]).1, ((logT (x ++ y))[j]).2) := by
   have e2 := jhj (s := x ++ y) (j := j) (by omega)
   rw [List.drop_eq_getElem_cons hlt] at e2
   obtain ⟨f, hf⟩ : ∃ f, 60 - j = f + 1 := ⟨60 - j - 1, by omega⟩
   rw [hf] at e2
   cases hs : stepT j ((x ++ y).drop (endsT (x ++ y) j)) with
   | none => rw [jfx hs] at e2;cases e2
   | some en => rw [jfw hs] at e2;rw [(List.cons.inj e2).1]
  generalize hn : (logT (x ++ y))[j] = en at *
  obtain ⟨e, n⟩ := en
  simp only at hst e1
  rw [List.drop_append_of_le_length (by omega), ← h2] at hst
  have hb := step_back hst (by rw [List.length_drop];omega)
  obtain ⟨g1, g2, g3⟩ := log_go h1 h6 hb
  refine ⟨g1, by omega, ?_⟩
  have g4 : (recsT (x ++ y))[j]? = some e := by simp [recsT, hlt, hn]
  rw [jhq g2, jhq g4, h3]
theorem log_ext {x y : Tx} : ∀ j, j ≤ numR x → j ≤ numR (x ++ y) ∧ endsT (x ++ y) j = endsT x j
 | 0, _ => ⟨Nat.zero_le _, by simp [jij]⟩
 | j + 1, h => by
  have hlt : j < (logT x).length := h
  have e1 : endsT x (j + 1) = endsT x j + ((logT x)[j]).2 := by
   unfold endsT
   rw [List.take_succ_eq_append_getElem hlt, List.map_append, List.sum_append];simp
  obtain ⟨h1, h2⟩ := log_ext (x := x) (y := y) j (by omega)
  have h6 : j < 60 := by have := jmb x;omega
  have hst : stepT j (x.drop (endsT x j)) = some (((logT x)[j]).1, ((logT x)[j]).2) := by
   have e2 := jhj (s := x) (j := j) (by omega)
   rw [List.drop_eq_getElem_cons hlt] at e2
   obtain ⟨f, hf⟩ : ∃ f, 60 - j = f + 1 := ⟨60 - j - 1, by omega⟩
   rw [hf] at e2
   cases hs : stepT j (x.drop (endsT x j)) with
   | none => rw [jfx hs] at e2;cases e2
   | some en => rw [jfw hs] at e2;rw [(List.cons.inj e2).1]
  have hst2 := step_app (y := y) hst
  rw [← List.drop_append_of_le_length (jmh x j), ← h2] at hst2
  obtain ⟨g1, g2, g3⟩ := log_go h1 h6 hst2
  exact ⟨g1, by omega⟩
theorem jom {x y : Tx} (h : endT (x ++ y) = (x ++ y).length) : ((List.range (numR (x ++ y) + 1)).any fun j => endsT (x ++ y) j == x.length) = decide (endT x = x.length) := by
 rw [Bool.eq_iff_iff, decide_eq_true_eq, List.any_eq_true]
 constructor
 ·rintro ⟨j, hj, he⟩
  rw [List.mem_range] at hj
  have he : endsT (x ++ y) j = x.length := by simpa using he
  obtain ⟨g1, g2, -⟩ := log_pre (x := x) (y := y) j (by omega) (by omega)
  have hle : endsT x j ≤ endT x := by
   unfold endT endsT
   have e2 : (logT x).take (numR x) = (logT x).take j ++ ((logT x).take (numR x)).drop j := by
    conv => lhs;rw [← List.take_append_drop j ((logT x).take (numR x)), List.take_take, Nat.min_eq_left g1]
   rw [e2, List.map_append, List.sum_append];omega
  have := jmh x (numR x)
  unfold endT at hle ⊢;omega
 ·intro he
  obtain ⟨g1, g2⟩ := log_ext (y := y) (numR x) (Nat.le_refl _)
  refine ⟨numR x, List.mem_range.2 (by omega), ?_⟩
  rw [g2];simpa [endT] using he
def validB (d p : Tx) (c : Int) : Bool := decide ((d.length : Int) + p.length ≤ 30000) && (decide (endT (d ++ p) = (d ++ p).length) && (decide (endT d = d.length) && decide (c = numR (d ++ p))))
structure ValidP (d p : Tx) (c : Int) : Prop where
 len : d.length + p.length ≤ 30000
 all : endT (d ++ p) = (d ++ p).length
 dur : endT d = d.length
 cnt : c = numR (d ++ p)
theorem validB_p {d p : Tx} {c : Int} (h : validB d p c = true) : ValidP d p c := by
 unfold validB at h
 simp only [Bool.and_eq_true, decide_eq_true_eq] at h
 exact ⟨by omega, h.2.1, h.2.2.1, h.2.2.2⟩
end Go.Proofs.YteaeoaeogehaaaaGreatDoor
namespace Go.Proofs.YteaeoaeogehaaaaGreatDoor
open Go.RowKit
variable [Glb]
open Go Go.RowKit
abbrev dT (l : Tx) : D := .lit (.string (bsT l))
abbrev eT (l : List Tx) : D := .sl 1 l.length (l.map dT)
def byt (l : Tx) (j : Int) : Int := ((l.getD j.toNat 0).toNat : Int)
theorem byt_lt (l : Tx) (j : Int) : 0 ≤ byt l j ∧ byt l j ≤ 255 := by
 have := UInt8.toNat_lt (l.getD j.toNat 0);unfold byt;omega
theorem partZ_le {α : Type} (l : List α) (i j : Int) : (partZ l i j).length ≤ l.length := by simp [partZ]; omega
theorem jdb {α : Type} (l : List α) (i j : Int) : (partZ l i j).length = min (j.toNat - i.toNat) (l.length - i.toNat) := by simp [partZ]
theorem jon {α : Type} (l : List α) (i : Int) : (partZ l i (l.length : Int)).length = l.length - i.toNat := by simp [partZ]
theorem jmi {l : Tx} {k : Nat} (h : k < l.length) : byt l (k : Int) = (l[k].toNat : Int) := by simp [byt, h]
section
variable {P : Program} {st : St} {dst : Option Tmp} {ty : TypeId} {pos : String} {af : Array Edge} {T T' : TypeId} {x y lo hi : Operand}
theorem FitT {l : Tx} (h : Fit (dT l)) : l.length ≤ 9223372036854775807 := by have := h.str; rwa [jdh] at this
theorem jcx {l : Tx} (hx : st.ev x = .c (.d (dT l))) (ht : tStr P T = true) : Qt P ⟨dst, .call { callee := .builtin .len, args := #[x], argTypes := #[T] }, ty, pos, af, none⟩ st (.c (.d (.lit (.int .i64 l.length)))) := by
 have := jok (dst := dst) (ty := ty) (pos := pos) (af := af) hx ht
 rwa [jdh] at this
theorem jfh {l : Tx} {k : IntKind} {j : Int} (hx : st.ev x = .c (.d (dT l))) (hy : st.ev y = .c (.d (.lit (.int k j)))) (ht : tStr P T = true) (h0 : 0 ≤ j) (h1 : j < l.length) :
  Qt P ⟨dst, .index T x y, ty, pos, af, none⟩ st (.c (.d (.lit (.int .u8 (byt l j))))) := by
 have := jkz (dst := dst) (ty := ty) (pos := pos) (af := af) hx hy ht h0 (by rw [jdh];exact h1)
 have e : (bsT l).get! j.toNat = l.getD j.toNat 0 := by
  have hl : j.toNat < l.length := by omega
  show (bsT l).data[j.toNat]! = _
  simp [bsT, hl]
 rwa [e] at this
theorem jde {l : Tx} {kl : IntKind} {i : Int} (hx : st.ev x = .c (.d (dT l))) (hl : st.ev lo = .c (.d (.lit (.int kl i)))) (ht : tStr P T = true) (h0 : 0 ≤ i) (h1 : i ≤ l.length) :
  Qt P ⟨dst, .slice T x (some lo) none none, ty, pos, af, none⟩ st (.c (.d (dT (partZ l i l.length)))) := by
 have := jis (dst := dst) (ty := ty) (pos := pos) (af := af) hx hl ht h0 (by rw [jdh];exact h1)
 unfold partZ
 rw [jim, jdh, List.drop_take] at this
 exact this
theorem jfz {l : Tx} {kh : IntKind} {j : Int} (hx : st.ev x = .c (.d (dT l))) (hh : st.ev hi = .c (.d (.lit (.int kh j)))) (ht : tStr P T = true) (h0 : 0 ≤ j) (h2 : j ≤ l.length) :
  Qt P ⟨dst, .slice T x none (some hi) none, ty, pos, af, none⟩ st (.c (.d (dT (partZ l 0 j)))) := by
 have := jit (dst := dst) (ty := ty) (pos := pos) (af := af) hx hh ht h0 (by rw [jdh];exact h2)
 unfold partZ;rwa [jim, List.drop_take] at this
theorem jex {a b : Tx} (hx : st.ev x = .c (.d (dT a))) (hy : st.ev y = .c (.d (dT b))) (h : (a.length : Int) + b.length ≤ 9223372036854775807) : Qt P ⟨dst, .binOp .add T x y T', ty, pos, af, none⟩ st (.c (.d (dT (a ++ b)))) := by
 have := qt_addS (P := P) (T := T) (T' := T') (dst := dst) (ty := ty) (pos := pos) (af := af) hx hy (by rw [jdh, jdh];omega)
 rwa [jox] at this
theorem jdv {a b : Tx} (hx : st.ev x = .c (.d (dT a))) (hy : st.ev y = .c (.d (dT b))) : Qt P ⟨dst, .binOp .eql T x y T', ty, pos, af, none⟩ st (.c (.d (.lit (.bool (decide (a = b)))))) := by
 have := qt_eqlS (P := P) (T := T) (T' := T') (dst := dst) (ty := ty) (pos := pos) (af := af) hx hy
 rwa [decide_eq_decide.2 bsT_inj] at this
theorem jhz {a b : Tx} (hx : st.ev x = .c (.d (dT a))) (hy : st.ev y = .c (.d (dT b))) : Qt P ⟨dst, .binOp .neq T x y T', ty, pos, af, none⟩ st (.c (.d (.lit (.bool (decide (a ≠ b)))))) := by
 have := qt_neqS (P := P) (T := T) (T' := T') (dst := dst) (ty := ty) (pos := pos) (af := af) hx hy
 rwa [decide_eq_decide.2 (not_congr bsT_inj)] at this
theorem jgz {a : Tx} (hx : st.ev x = .c (.d (dT a))) (hy : st.ev y = .c (.d (dT a))) : Qt P ⟨dst, .binOp .neq T x y T', ty, pos, af, none⟩ st (.c (.d (.lit (.bool false)))) := by
 have := jhz (P := P) (T := T) (T' := T') (dst := dst) (ty := ty) (pos := pos) (af := af) hx hy
 rwa [show decide (a ≠ a) = false by simp] at this
theorem jga {l : List Tx} {k : IntKind} {i : Int} (hx : st.ev x = .c (.d (eT l))) (hy : st.ev y = .c (.d (.lit (.int k i)))) (ht : tSl P T 1 = true) (h0 : 0 ≤ i) (h1 : i < l.length) : Qt P ⟨dst, .indexAddr T x y, ty, pos, af, none⟩ st (.c (.d (.pt [dT (atZ l i)]))) :=
 jic hx hy ht h0 h1 (jlb (jez h0 h1))
abbrev dY (b : UInt8) : D := .lit (.int .u8 b.toNat)
abbrev cY (l : Tx) : List D := l.map dY
end
theorem VwP.lit_inv {w : World} {v u : Value} (h : VwP w v (.c (.lit u))) : v = u := by
 cases h with|c _ _ F h => cases h;rfl
theorem VwL.one {w : World} {vs : List Value} {a : RP} (h : VwL w vs [a]) : ∃ v, vs = [v] ∧ VwP w v a := by
 obtain ⟨hl, hr⟩ := h
 match vs, hl with
 | [v], _ => exact ⟨v, rfl, by simpa using hr 0 (by simp)⟩
theorem VwL.two {w : World} {vs : List Value} {a b : RP} (h : VwL w vs [a, b]) : ∃ u v, vs = [u, v] ∧ VwP w u a ∧ VwP w v b := by
 obtain ⟨hl, hr⟩ := h
 match vs, hl with
 | [u, v], _ => exact ⟨u, v, rfl, by simpa using hr 0 (by simp), by simpa using hr 1 (by simp)⟩
theorem jjw {P : Program} {f : FuncId} {a b u : Value} (he : ∀ (args : Array Value) (W : World), (callFunc f args).run P W = .ok (.enter f args) W) (hu : sc u = true)
  (h : ∀ w, Glb.ok w → Calls P f #[a, b] w fun e w' => e = .returned u ∧ Below w.heap.size w w') : PC P f [.c (.lit a), .c (.lit b)] (.p (.c (.lit u))) := by
 refine ⟨he, fun w vs ok hv => ?_⟩
 obtain ⟨x, y, rfl, h1, h2⟩ := hv.two
 rw [h1.lit_inv, h2.lit_inv]
 refine (h w ok).mono ?_
 rintro e w' ⟨rfl, hb⟩
 exact ⟨u, [], rfl, .p (.c (.lit _ hu)), List.nodup_nil, (fun g hg => by cases hg), hb⟩
theorem pc_lit1 {P : Program} {f : FuncId} {a u : Value} (he : ∀ (args : Array Value) (W : World), (callFunc f args).run P W = .ok (.enter f args) W) (hu : sc u = true)
  (h : ∀ w, Glb.ok w → Calls P f #[a] w fun e w' => e = .returned u ∧ Below w.heap.size w w') : PC P f [.c (.lit a)] (.p (.c (.lit u))) := by
 refine ⟨he, fun w vs ok hv => ?_⟩
 obtain ⟨x, rfl, h1⟩ := hv.one
 rw [h1.lit_inv]
 refine (h w ok).mono ?_
 rintro e w' ⟨rfl, hb⟩
 exact ⟨u, [], rfl, .p (.c (.lit _ hu)), List.nodup_nil, (fun g hg => by cases hg), hb⟩
class GTab (P : Program) (nm : String) : Prop where
 tab : ∀ w : World, Glb.ok w → Go.Lib.TabIs P w nm .u64 Go.Lib.pow10Tab
def recD (l : List (Tx × Tx)) : List D := l.flatMap fun e => [dT e.1, dT e.2]
@[simp] theorem recD_len (l : List (Tx × Tx)) : (recD l).length = l.length * 2 := by
 induction l with
 | nil => rfl
 | cons x r ih => simp [recD] at ih ⊢;omega
theorem recD_snoc (l : List (Tx × Tx)) (c r : Tx) : recD (l ++ [(c, r)]) = recD l ++ [dT c, dT r] := by simp [recD]
abbrev eR (l : List (Tx × Tx)) : D := .sl 2 l.length (recD l)
def endsL (s : Tx) (j : Nat) : List Int := (List.range (j + 1)).map fun i => (endsT s i : Int)
@[simp] theorem endsL_len (s : Tx) (j : Nat) : (endsL s j).length = j + 1 := by simp [endsL]
theorem jov (s : Tx) : endsL s 0 = [0] := by simp [endsL, endsT]
theorem jow (s : Tx) (j : Nat) : endsL s (j + 1) = endsL s j ++ [(endsT s (j + 1) : Int)] := by simp [endsL, List.range_succ]
theorem recs_snoc {s : Tx} {j : Nat} {c r : Tx} (h : (recsT s)[j]? = some (c, r)) : recD ((recsT s).take (j + 1)) = recD ((recsT s).take j) ++ [dT c, dT r] := by
 rw [jhq h, recD_snoc]
theorem jfr (s : Tx) : (recsT s).length = numR s := by simp [recsT, numR]
theorem jpf {d p : Tx} {c : Int} (h : (d.length : Int) + p.length ≤ 30000) : validB d p c = true ↔ ((endT (d ++ p) : Int) = d.length + p.length ∧ (endT d : Int) = d.length ∧ c = ((recsT (d ++ p)).length : Int)) := by
 unfold validB
 rw [jfr]
 simp only [Bool.and_eq_true, decide_eq_true_eq, List.length_append]
 constructor
 ·rintro ⟨_, a, b, e⟩;exact ⟨by omega, by omega, e⟩
 ·rintro ⟨a, b, e⟩;exact ⟨h, by omega, by omega, e⟩
theorem job {d p : Tx} {c : Int} (h : ¬ (d.length : Int) + p.length ≤ 30000) : validB d p c = false := by
 unfold validB;rw [decide_eq_false h];rfl
theorem endsL_at (s : Tx) : atZ (endsL s (numR s)) ((recsT s).length : Int) = endT s := by
 rw [jfr, jbw (by simp)]
 simp [endsL, endT]
theorem endsL_has (s : Tx) (n : Nat) : (endsL s (numR s)).contains (n : Int) = (List.range (numR s + 1)).any fun j => endsT s j == n := by
 rw [Bool.eq_iff_iff, List.contains_iff_mem, List.any_eq_true]
 unfold endsL
 rw [List.mem_map]
 constructor
 ·rintro ⟨j, hj, e⟩;exact ⟨j, hj, by simp;omega⟩
 ·rintro ⟨j, hj, e⟩;exact ⟨j, hj, by simp at e;omega⟩
theorem dB_eq {a b : Bool} (h : a = b) : Res.p (RP.c (D.lit (Value.bool a))) = Res.p (RP.c (D.lit (Value.bool b))) := by rw [h]
def mtT (k : Nat) : Tx := 109 :: numT k
def mkR : Nat → Nat → List (Tx × Tx)
 | _, 0 => []
 | k, n + 1 => (mtT k, mtT (k + 1)) :: mkR (k + 2) n
@[simp] theorem mkR_len : ∀ (k n : Nat), (mkR k n).length = n
 | _, 0 => rfl
 | k, n + 1 => by simp [mkR, mkR_len]
section
variable {P : Program} {st : St} {dst : Option Tmp} {ty : TypeId} {pos : String} {af : Array Edge} {T : TypeId} {x y : Operand}
end
section
variable {P : Program} {st : St} {dst : Option Tmp} {ty : TypeId} {pos : String} {af : Array Edge} {T : TypeId} {x y : Operand}
theorem jkx {b off : Nat} {cs : List C} {v : Value} {z : D} (hx : st.ev x = .c (.lp b off)) (hb : st.bl b = some (.box cs)) (ht : tOne P T = true) (hc : cs[off]? = some (.d (.same v z))) :
  Qt P ⟨dst, .load T x, ty, pos, af, none⟩ st (.c (.d z)) := fun w0 ρ Φ a w hm => by
 obtain ⟨u, h1, h2⟩ := jaf (dst := dst) (ty := ty) (pos := pos) (af := af) hx hb ht hc w0 ρ Φ a w hm
 refine ⟨u, h1, ?_⟩
 have := h2.c_inv
 cases this with
 | d _ _ F h hav => cases h with|same _ _ _ h => exact .c _ _ (.d _ _ F h hav)
abbrev eB (l : Tx) : D := .sl 1 l.length (cY l)
theorem qt_idxY {l : Tx} {k : IntKind} {i : Int} (hx : st.ev x = .c (.d (eB l))) (hy : st.ev y = .c (.d (.lit (.int k i)))) (ht : tSl P T 1 = true) (h0 : 0 ≤ i) (h1 : i < l.length) : Qt P ⟨dst, .indexAddr T x y, ty, pos, af, none⟩ st (.c (.d (.pt [.lit (.int .u8 (byt l i))]))) :=
 jic hx hy ht h0 h1 (jlb (jez h0 h1))
end
inductive BC where
 | k (x : D)
 | o (x : D)
def BC.own : BC → List D
 | .k _ => []
 | .o x => [x]
def ownsB : List BC → List D
 | [] => []
 | .k _ :: r => ownsB r
 | .o x :: r => x :: ownsB r
inductive AM where
 | v (p : RP)
 | o (p : RP)
def ownsA : List AM → List D
 | [] => []
 | .v _ :: r => ownsA r
 | .o p :: r => p.cells ++ ownsA r
inductive BcW (w : World) (X : List Nat) : List Value → List BC → List Nat → Prop
 | nil : BcW w X [] [] []
 | k {u : Value} {x : D} {us : List Value} {bs : List BC} {G : List Nat} (h : VwX w X u x) (t : BcW w X us bs G) : BcW w X (u :: us) (.k x :: bs) G
 | o {u : Value} {x : D} {F : List Nat} {us : List Value} {bs : List BC} {G : List Nat} (h : Ow w u x F) (t : BcW w X us bs G) : BcW w X (u :: us) (.o x :: bs) (F ++ G)
inductive AmW (w : World) (X : List Nat) : List Value → List AM → List Nat → Prop
 | nil : AmW w X [] [] []
 | v {u : Value} {p : RP} {us : List Value} {as : List AM} {G : List Nat} (h : VxP w X u p) (t : AmW w X us as G) : AmW w X (u :: us) (.v p :: as) G
 | o {u : Value} {p : RP} {F : List Nat} {us : List Value} {as : List AM} {G : List Nat} (h : OwP w u p F) (t : AmW w X us as G) : AmW w X (u :: us) (.o p :: as) (F ++ G)
inductive BcN (w : World) : List Value → List Value → List BC → List D → List Nat → Prop
 | nil : BcN w [] [] [] [] []
 | k {u : Value} {x : D} {us us' : List Value} {bs : List BC} {ds : List D} {G : List Nat} (t : BcN w us us' bs ds G) : BcN w (u :: us) (u :: us') (.k x :: bs) ds G
 | o {u u' : Value} {x y : D} {F : List Nat} {us us' : List Value} {bs : List BC} {ds : List D} {G : List Nat} (h : Ow w u' y F) (t : BcN w us us' bs ds G) : BcN w (u :: us) (u' :: us') (.o x :: bs) (y :: ds) (F ++ G)
def PX (P : Program) (f : FuncId) (bs : List BC) (as : List AM) (R : List D → Res → Prop) : Prop :=
 (∀ (args : Array Value) (W : World), (callFunc f args).run P W = .ok (.enter f args) W) ∧
 ∀ (w : World) (g : Nat) (us : Array Value) (E : TypeId) (vs : List Value) (Fb Fa : List Nat), w.heap[g]? = some (.cells us E (0, 0)) →
  BcW w (g :: (Fb ++ Fa)) us.toList bs Fb → AmW w (g :: (Fb ++ Fa)) vs as Fa → (g :: (Fb ++ Fa)).Nodup → (ok : Glb.ok w) → (gl : ∀ h, Glb.bl h → h ∉ g :: (Fb ++ Fa)) →
  Calls P f (.pointer (some ⟨g, 0, none⟩) :: vs).toArray w fun e w' => ∃ v us' E' ds res Gb F, R ds res ∧ e = .returned v ∧ w'.heap[g]? = some (.cells us' E' (0, 0)) ∧ BcN w' us.toList us'.toList bs ds Gb ∧ OwR w' v res F ∧
   (g :: (Gb ++ F)).Nodup ∧ (∀ h ∈ Gb ++ F, h ∈ Fb ++ Fa ∨ w.heap.size ≤ h) ∧ Kp ⟨w, fun h => h ∈ g :: (Fb ++ Fa), fun _ => none, fun _ _ => rfl, ok, gl⟩ w w'
theorem jel : ∀ (id : Nat) (xs ys : List D), ownCs id (xs ++ ys) = ownCs id xs ++ ownCs (id + 1000 * xs.length) ys
 | id, [], ys => by simp [ownCs]
 | id, x :: xs, ys => by
  simp only [List.cons_append, ownCs, List.length_cons]
  rw [jel (id + 1000) xs ys, show id + 1000 + 1000 * xs.length = id + 1000 * (xs.length + 1) by omega]
def bcCs (kv : Nat → Value) : Nat → List BC → List C → List C
 | j, .k x :: bs, cs => .d (.same (kv j) x) :: bcCs kv (j + 1) bs cs
 | j, .o _ :: bs, c :: cs => c :: bcCs kv (j + 1) bs cs
 | _, _, _ => []
def enterP : RP → FV
 | .c x => .c (.d x)
 | .g xs => .g (xs.map C.d)
def amFV : List AM → List C → Nat → FV
 | [], _, _ => .c .junk
 | .v p :: _, _, 0 => enterP p
 | .o p :: _, cs, 0 => p.shape cs
 | .v _ :: r, cs, t + 1 => amFV r cs t
 | .o p :: r, cs, t + 1 => amFV r (cs.drop p.cells.length) t
def St.enterX (n : Nat) (bs : List BC) (kv : Nat → Value) (as : List AM) : St :=
 ⟨n, fun t => match t with | 0 => .c (.lp 800000000 0) | t + 1 => amFV as (ownCs (1000000 + 1000 * (ownsB bs).length) (ownsA as)) t,
  fun b => bif Nat.beq b 800000000 then some (.box (bcCs kv 0 bs (ownCs 1000000 (ownsB bs)))) else getL (ownBs 1000000 (ownsB bs ++ ownsA as)) b⟩
inductive BxO (st : St) (kv : Nat → Value) : Nat → List C → List BC → List D → List Nat → Prop
 | nil (j : Nat) : BxO st kv j [] [] [] []
 | k {j : Nat} {x y : D} {cs : List C} {bs : List BC} {ds : List D} {S : List Nat} (t : BxO st kv (j + 1) cs bs ds S) : BxO st kv j (.d (.same (kv j) x) :: cs) (.k y :: bs) ds S
 | o {j : Nat} {c : C} {x y : D} {S : List Nat} {cs : List C} {bs : List BC} {ds : List D} {S' : List Nat} (h : Gv st c y S) (t : BxO st kv (j + 1) cs bs ds S') : BxO st kv j (c :: cs) (.o x :: bs) (y :: ds) (S ++ S')
inductive jge (P : Program) (vs : List ResultVar) (kv : Nat → Value) (bs : List BC) : List D → Res → St → Prop
 | p {st : St} {cs : List C} {ds : List D} {S : List Nat} {y : RP} {S' : List Nat} (hb : st.bl 800000000 = some (.box cs)) (hx : BxO st kv 0 cs bs ds S) (h : GvA P st vs [y] S') (hS : (S ++ S').Nodup) : jge P vs kv bs ds (.p y) st
 | t {st : St} {cs : List C} {ds : List D} {S : List Nat} {ys : List RP} {S' : List Nat} (hb : st.bl 800000000 = some (.box cs)) (hx : BxO st kv 0 cs bs ds S) (h : GvA P st vs ys S') (hl : (ys.length != 1) = true) (hS : (S ++ S').Nodup) : jge P vs kv bs ds (.t ys) st
theorem BcW.cr {w : World} {X : List Nat} {us : List Value} {bs : List BC} {G : List Nat} (h : BcW w X us bs G) : ∃ uo, OwL w uo (ownsB bs) G ∧ ∀ (ρ : Nat → Option Nat) (Ψ : Nat → Prop) (cs : List C), (∀ g, Ψ g → g ∈ X) → cs.length = uo.length →
  (∀ k (hk : k < cs.length), CR w ρ Ψ (uo.getD k undef) cs[k]) → ∀ (kv : Nat → Value) (j : Nat), (∀ i, i < us.length → kv (j + i) = us.getD i undef) → (bcCs kv j bs cs).length = us.length ∧ ∀ k (hk : k < (bcCs kv j bs cs).length), CR w ρ Ψ (us.getD k undef) (bcCs kv j bs cs)[k] := by
 induction h with
 | nil => exact ⟨[], .nil, fun ρ Ψ cs _ _ _ kv j _ => ⟨rfl, fun k hk => by simp [bcCs] at hk⟩⟩
 | k h t ih =>
  rename_i u x us bs G
  obtain ⟨uo, h1, h2⟩ := ih
  refine ⟨uo, h1, fun ρ Ψ cs hX hl hc kv j hkv => ?_⟩
  obtain ⟨e1, e2⟩ := h2 ρ Ψ cs hX hl hc kv (j + 1) (fun i hi => by have := hkv (i + 1) (by simpa using hi);rw [show j + 1 + i = j + (i + 1) by omega, this];simp)
  refine ⟨by simp [bcCs, e1], fun k hk => ?_⟩
  cases k with
  | zero =>
   obtain ⟨F, hF, hn⟩ := h
   have := hkv 0 (by simp)
   simp only [Nat.add_zero, List.getD_cons_zero] at this
   simp only [bcCs, List.getElem_cons_zero, List.getD_cons_zero]
   rw [this]
   exact .d _ _ F (.same _ _ _ hF) fun b hb hi => hn b hb (hX b hi)
  | succ k =>
   have := e2 k (by simpa [bcCs] using hk)
   simpa [bcCs] using this
 | o h t ih =>
  rename_i u x F us bs G
  obtain ⟨uo, h1, h2⟩ := ih
  refine ⟨u :: uo, .cons h h1, fun ρ Ψ cs hX hl hc kv j hkv => ?_⟩
  cases cs with
  | nil => simp at hl
  | cons c cs =>
   obtain ⟨e1, e2⟩ := h2 ρ Ψ cs hX (by simpa using hl) (fun k hk => by have := hc (k + 1) (by simpa using hk);simpa using this) kv (j + 1) (fun i hi => by have := hkv (i + 1) (by simpa using hi);rw [show j + 1 + i = j + (i + 1) by omega, this];simp)
   refine ⟨by simp [bcCs, e1], fun k hk => ?_⟩
   cases k with
   | zero => exact hc 0 (by simp)
   | succ k =>
    have := e2 k (by simpa [bcCs] using hk)
    simpa [bcCs] using this
theorem VxP.frE {w : World} {ρ : Nat → Option Nat} {Ψ : Nat → Prop} {X : List Nat} (hX : ∀ g, Ψ g → g ∈ X) {v : Value} {p : RP} (h : VxP w X v p) : FR w ρ Ψ v (enterP p) := by
 cases h with
 | c h => obtain ⟨F, h1, h2⟩ := h;exact .c _ _ (.d _ _ F h1 fun b hb hi => h2 b hb (hX b hi))
 | g hl hr =>
  refine .g _ _ (by simpa using hl) fun k hk => ?_
  obtain ⟨F, h1, h2⟩ := hr k (by simpa using hk)
  simp only [List.getElem_map]
  exact .d _ _ F h1 fun b hb hi => h2 b hb (hX b hi)
theorem AmW.fr {w : World} {X : List Nat} {vs : List Value} {as : List AM} {G : List Nat} (h : AmW w X vs as G) : ∃ ua, OwL w ua (ownsA as) G ∧ ∀ (ρ : Nat → Option Nat) (Ψ : Nat → Prop) (cs : List C), (∀ g, Ψ g → g ∈ X) → cs.length = ua.length →
  (∀ k (hk : k < cs.length), CR w ρ Ψ (ua.getD k undef) cs[k]) → ∀ t, FR w ρ Ψ (vs.getD t undef) (amFV as cs t) := by
 induction h with
 | nil => exact ⟨[], .nil, fun ρ Ψ cs _ _ _ t => FR.junkI _⟩
 | v h t ih =>
  rename_i u p us as G
  obtain ⟨ua, h1, h2⟩ := ih
  refine ⟨ua, h1, fun ρ Ψ cs hX hl hc t => ?_⟩
  cases t with
  | zero => exact h.frE hX
  | succ t => have := h2 ρ Ψ cs hX hl hc t;simpa [amFV] using this
 | o h t ih =>
  rename_i u p F us as G
  obtain ⟨ua, h1, h2⟩ := ih
  obtain ⟨up, g1, g2⟩ := h.open
  have hlp := g1.len
  refine ⟨up ++ ua, g1.append h1, fun ρ Ψ cs hX hl hc t => ?_⟩
  rw [List.length_append] at hl
  cases t with
  | zero =>
   refine g2 ρ Ψ cs (by omega) fun k hk hk' => ?_
   have := hc k hk'
   rwa [jos (by omega)] at this
  | succ t =>
   have := h2 ρ Ψ (cs.drop p.cells.length) hX (by simp;omega) (fun k hk => by
    have hk' : p.cells.length + k < cs.length := by simp at hk;omega
    have := hc _ hk'
    rw [jor (by omega), show p.cells.length + k - up.length = k by omega] at this
    simpa using this) t
   simpa [amFV] using this
theorem AmW.len {w : World} {X : List Nat} {vs : List Value} {as : List AM} {G : List Nat} (h : AmW w X vs as G) : vs.length = as.length := by
 induction h with
 | nil => rfl
 | v h t ih => simp [ih]
 | o h t ih => simp [ih]
theorem Gv.rows {st : St} {c : C} {x : D} {S : List Nat} (h : Gv st c x S) : ∀ b ∈ S, ∃ sz ds, st.bl b = some (.row sz ds) := by
 cases h with
 | lit => intro b hb;cases hb
 | nil => intro b hb;cases hb
 | row b' sz n ds hb hn => intro b hb';obtain rfl := List.mem_singleton.1 hb';exact ⟨_, _, hb⟩
theorem GvL.rows {st : St} {cs : List C} {xs : List D} {S : List Nat} (h : GvL st cs xs S) : ∀ b ∈ S, ∃ sz ds, st.bl b = some (.row sz ds) := by
 induction h with
 | nil => intro b hb;cases hb
 | cons h t ih => intro b hb;rcases List.mem_append.1 hb with hb|hb;exact h.rows b hb;exact ih b hb
theorem GvP.rows {st : St} {x : FV} {y : RP} {S : List Nat} (h : GvP st x y S) : ∀ b ∈ S, ∃ sz ds, st.bl b = some (.row sz ds) := by
 cases h with
 | c h => exact h.rows
 | g h => exact h.rows
theorem GvA.rows {P : Program} {st : St} {vs : List ResultVar} {ys : List RP} {S : List Nat} (h : GvA P st vs ys S) : ∀ b ∈ S, ∃ sz ds, st.bl b = some (.row sz ds) := by
 induction h with
 | nil => intro b hb;cases hb
 | cons hv h t ih => intro b hb;rcases List.mem_append.1 hb with hb|hb;exact h.rows b hb;exact ih b hb
theorem BxO.rows {st : St} {kv : Nat → Value} {j : Nat} {cs : List C} {bs : List BC} {ds : List D} {S : List Nat} (h : BxO st kv j cs bs ds S) : ∀ b ∈ S, ∃ sz ds, st.bl b = some (.row sz ds) := by
 induction h with
 | nil => intro b hb;cases hb
 | k t ih => exact ih
 | o h t ih => intro b hb;rcases List.mem_append.1 hb with hb|hb;exact h.rows b hb;exact ih b hb
section
variable {P : Program} {st : St} {κ : Ctx} {w : World} {ρ : Nat → Option Nat} {Φ : Nat → List Nat} {a : Act}
theorem BxO.out (hm : Sm κ ρ Φ st a w) {kv : Nat → Value} {j : Nat} {cs : List C} {bs : List BC} {ds : List D} {S : List Nat} (h : BxO st kv j cs bs ds S) : ∀ (us us' : List Value), us.length = bs.length → us'.length = cs.length → (∀ i, i < us.length → kv (j + i) = us.getD i undef) →
  (∀ k (hk : k < cs.length), CR w ρ (InΦ Φ) (us'.getD k undef) cs[k]) → BcN w us us' bs ds (S.flatMap Φ) := by
 induction h with
 | nil j => intro us us' h1 h2 _ _;cases us <;> cases us' <;> first|exact .nil|(simp at h1 h2)
 | k t ih =>
  rename_i j x y cs bs ds S
  intro us us' h1 h2 hkv hc
  cases us with
  | nil => simp at h1
  | cons u us =>
   cases us' with
   | nil => simp at h2
   | cons u' us' =>
    have e : u' = u := by
     have h0 := hc 0 (by simp)
     have h3 := hkv 0 (by simp)
     simp only [Nat.add_zero, List.getD_cons_zero, List.getElem_cons_zero] at h0 h3
     cases h0 with
     | d _ _ F h _ => cases h with|same _ _ _ h => exact h3
    subst e
    exact .k (ih us us' (by simpa using h1) (by simpa using h2) (fun i hi => by have := hkv (i + 1) (by simpa using hi);rw [show j + 1 + i = j + (i + 1) by omega, this];simp) fun k hk => by have := hc (k + 1) (by simpa using hk);simpa using this)
 | o h t ih =>
  rename_i j c x y S cs bs ds S'
  intro us us' h1 h2 hkv hc
  cases us with
  | nil => simp at h1
  | cons u us =>
   cases us' with
   | nil => simp at h2
   | cons u' us' =>
    rw [List.flatMap_append]
    refine .o (Gv.ow hm (hc 0 (by simp)) h) (ih us us' (by simpa using h1) (by simpa using h2) (fun i hi => by have := hkv (i + 1) (by simpa using hi);rw [show j + 1 + i = j + (i + 1) by omega, this];simp) fun k hk => by have := hc (k + 1) (by simpa using hk);simpa using this)
theorem jge.run (hm : Sm κ ρ Φ st a w) {fn : Func} {vs : List ResultVar} (hvs : fn.results = ⟨vs⟩) {kv : Nat → Value} {us : List Value} {bs : List BC} {ds : List D} {r : Res} (h : jge P vs kv bs ds r st) (hl : us.length = bs.length) (hkv : ∀ i, i < us.length → kv i = us.getD i undef) :
    ∃ v g us' E Gb F, ρ 800000000 = some g ∧ (results fn a.tmps).run P w = .ok v w ∧ w.heap[g]? = some (.cells us' E (0, 0)) ∧ BcN w us us'.toList bs ds Gb ∧ OwR w v r F ∧ (g :: (Gb ++ F)).Nodup ∧ ∀ h ∈ Gb ++ F, κ.lo h := by
  have run : ∀ us : List Value, (vs.mapM (rvRun a) : Sem (List Value)).run P w = .ok us w →
      (results fn a.tmps).run P w = .ok (if h : us.toArray.size = 1 then us.toArray[0] else .tuple us.toArray) w := by
    intro us hus
    have e : results fn a.tmps = (do let vs ← fn.results.mapM (rvRun a);pure (if h : vs.size = 1 then vs[0] else .tuple vs)) := by
      unfold results
      congr 1
    rw [e, hvs, List.mapM_toArray]
    simp only [Sem.run_bind, Sem.run_map, hus, Result.andThen_ok, Sem.run_pure]
  have fin : ∀ {cs : List C} {S : List Nat} {ys : List RP} {S' : List Nat}, st.bl 800000000 = some (.box cs) → BxO st kv 0 cs bs ds S → GvA P st vs ys S' → (S ++ S').Nodup →
      ∃ g us' E ul, ρ 800000000 = some g ∧ w.heap[g]? = some (.cells us' E (0, 0)) ∧ BcN w us us'.toList bs ds (S.flatMap Φ) ∧ (vs.mapM (rvRun a) : Sem (List Value)).run P w = .ok ul w ∧ jpb w ul ys (S'.flatMap Φ) ∧ (g :: (S.flatMap Φ ++ S'.flatMap Φ)).Nodup ∧ ∀ h ∈ S.flatMap Φ ++ S'.flatMap Φ, κ.lo h := by
    intro cs S ys S' hb hx h hS
    obtain ⟨g, us', E, hρ, hΦ, hg, hul, hc⟩ := hm.box hb
    obtain ⟨ul, hul2, hol⟩ := h.ow hm
    have hB : 800000000 ∉ S ++ S' := fun hin => by
      have : ∃ sz ds, st.bl 800000000 = some (.row sz ds) := by
        rcases List.mem_append.1 hin with hin|hin
        · exact hx.rows _ hin
        · exact h.rows _ hin
      obtain ⟨sz, ds, e⟩ := this
      rw [hb] at e; cases e
    have hnd := jcu hm.nd hm.dj (S := 800000000 :: (S ++ S')) (List.nodup_cons.2 ⟨hB, hS⟩)
    rw [List.flatMap_cons, hΦ, List.flatMap_append] at hnd
    refine ⟨g, us', E, ul, hρ, hg, hx.out hm us us'.toList hl (by simpa using hul) (fun i hi => by rw [Nat.zero_add];exact hkv i hi) (fun k hk => by
      have := hc k hk
      rw [Array.getD_eq_getD_getElem?] at this
      rw [List.getD_eq_getElem?_getD]
      simpa using this), hul2, hol, hnd, fun h hh => ?_⟩
    rw [← List.flatMap_append] at hh
    obtain ⟨b, _, hb'⟩ := List.mem_flatMap.1 hh
    exact hm.low b h hb'
  cases h with
  | p hb hx h hS =>
    obtain ⟨g, us', E, ul, h1, h2, h3, h4, h5, h6, h7⟩ := fin hb hx h hS
    generalize hF : List.flatMap Φ _ = F0 at h3 h6 h7
    generalize hF1 : List.flatMap Φ _ = F1 at h5 h6 h7
    match ul, h5.len with
    | [u], _ =>
      cases h5 with
      | cons k1 k2 =>
        cases k2
        exact ⟨u, g, us', E, F0, _, h1, by rw [run [u] h4];rfl, h2, h3, .p k1, by simpa using h6, fun h hh => h7 h (by simpa using hh)⟩
  | t hb hx h hl2 hS =>
    obtain ⟨g, us', E, ul, h1, h2, h3, h4, h5, h6, h7⟩ := fin hb hx h hS
    have := h5.len
    refine ⟨.tuple ul.toArray, g, us', E, _, _, h1, ?_, h2, h3, .t h5, h6, h7⟩
    rw [run ul h4, dif_neg]
    simp at hl2 ⊢; omega
end
theorem jdg {P : Program} {f : FuncId} {fn : Func} {c : Code} {n : Nat} {vs : List ResultVar} {bs : List BC} {as : List AM} {R : List D → Res → Prop} (hf : P.funcs[f]? = some fn) (hb : fn.body = some c) (hn : fn.ntmps = n) (hvs : fn.results = ⟨vs⟩)
    (hname : (fn.name == "runtime.NumGoroutine") = false) (hle : Nat.ble (as.length + 1) n = true) (hnb : Nat.ble n 1000 = true) (hlen : Nat.ble (ownsB bs ++ ownsA as).length 900 = true)
    (h : ∀ kv, SK P [.code c] (St.enterX n bs kv as) (fun st' => ∃ ds res, R ds res ∧ jge P vs kv bs ds res st')) : PX P f bs as R := by
  refine ⟨fun args W => by simp only [beq_eq_false_iff_ne] at hname;simp [callFunc, hf, hname, hb], fun w g us E va Fb Fa hg hbw haw hnd ok gl => ?_⟩
  refine calls_of_wp hf hb ?_
  rw [hn]
  obtain ⟨uo, ho1, ho2⟩ := hbw.cr
  obtain ⟨ua, ha1, ha2⟩ := haw.fr
  rw [List.nodup_cons] at hnd
  obtain ⟨r, G, h1, h2, h3, h4⟩ := (ho1.append ha1).own hnd.2 1000000
  generalize hxs : ownsB bs ++ ownsA as = xs at *
  have hlen' : xs.length ≤ 900 := by simpa using hlen
  have hLlt : ∀ b, inL (ownBs 1000000 xs) b = true → b < 800000000 := fun b hb => by have := jey hb;omega
  let kv : Nat → Value := fun i => us.toList.getD i undef
  let L := ownBs 1000000 xs
  let κ : Ctx := ⟨w, fun h => h ∈ g :: (Fb ++ Fa), fun b => if b = 800000000 then some (some g) else none, fun b hb => by rw [if_neg (by omega)], ok, gl⟩
  let ρ : Nat → Option Nat := fun b => if b = 800000000 then some g else if inL L b then r b else none
  let Φ : Nat → List Nat := fun b => if b = 800000000 then [g] else if inL L b then G b else []
  have hρ : ∀ b, inL L b = true → ρ b = r b := fun b hb => by
    have := hLlt b hb
    simp only [ρ];rw [if_neg (by omega), if_pos hb]
  have src : ∀ b h, h ∈ Φ b → b = 800000000 ∧ h = g ∨ b ≠ 800000000 ∧ inL L b = true ∧ h ∈ G b := fun b h hh => by
    simp only [Φ] at hh
    split at hh
    · rename_i e;exact .inl ⟨e, by simpa using hh⟩
    · rename_i e
      split at hh
      · rename_i e2;exact .inr ⟨e, e2, hh⟩
      · cases hh
  have inX : ∀ h, InΦ Φ h → h ∈ g :: (Fb ++ Fa) := fun h ⟨b, hh⟩ => by
    rcases src b h hh with ⟨_, e⟩|⟨_, e, e2⟩
    · rw [e];exact List.mem_cons_self ..
    · exact List.mem_cons_of_mem _ ((h2 b e).2 h e2)
  have hol := (ho1.append ha1).len
  rw [hxs, List.length_append] at hol
  have hlo := ho1.len
  have hla := ha1.len
  have ecs : ownCs 1000000 xs = ownCs 1000000 (ownsB bs) ++ ownCs (1000000 + 1000 * (ownsB bs).length) (ownsA as) := by rw [← hxs, jel]
  have hcr : ∀ k (hk : k < (ownCs 1000000 xs).length), CR w ρ (InΦ Φ) ((uo ++ ua).getD k undef) (ownCs 1000000 xs)[k] := fun k hk => h4 ρ _ hρ k hk
  have hcb : ∀ k (hk : k < (ownCs 1000000 (ownsB bs)).length), CR w ρ (InΦ Φ) (uo.getD k undef) (ownCs 1000000 (ownsB bs))[k] := fun k hk => by
    have hk2 := hk
    rw [jck] at hk2
    have := hcr k (by rw [ecs, List.length_append];omega)
    simp only [ecs] at this
    rw [List.getElem_append_left hk, jos (by omega)] at this
    exact this
  have hca : ∀ k (hk : k < (ownCs (1000000 + 1000 * (ownsB bs).length) (ownsA as)).length), CR w ρ (InΦ Φ) (ua.getD k undef) (ownCs (1000000 + 1000 * (ownsB bs).length) (ownsA as))[k] := fun k hk => by
    have := hcr ((ownCs 1000000 (ownsB bs)).length + k) (by rw [ecs, List.length_append];omega)
    simp only [ecs] at this
    rw [List.getElem_append_right (by omega), jor (by rw [jck];omega)] at this
    have e1 : (ownCs 1000000 (ownsB bs)).length + k - uo.length = k := by rw [jck];omega
    rw [e1] at this
    simpa using this
  obtain ⟨b1, b2⟩ := ho2 ρ (InΦ Φ) _ inX (by rw [jck];omega) hcb kv 0 (fun i _ => by simp [kv])
  have a1 := ha2 ρ (InΦ Φ) _ inX (by rw [jck];omega) hca
  have hul : us.toList.length = us.size := by simp
  have hle' : as.length + 1 ≤ n := by simpa using hle
  have hval := haw.len
  have sm : Sm κ ρ Φ (St.enterX n bs kv as) { tmps := (.pointer (some ⟨g, 0, none⟩) :: va).toArray ++ Array.replicate (n - (Value.pointer (some ⟨g, 0, none⟩) :: va).toArray.size) undef, defers := [] } w := by
    refine ⟨Kp.refl _ _, by simp [St.enterX];omega, by simpa [St.enterX] using hnb, fun b r' hb => ?_, rfl, fun t => ?_, fun b x hx => ?_, fun b hb => ?_, fun b h hh => .inr (inX h ⟨b, hh⟩), fun b => ?_, fun b b' h hh hh' => ?_⟩
    · simp only [κ] at hb
      split at hb
      · rename_i e;cases hb;simp only [ρ];rw [if_pos e]
      · cases hb
    · have e : ((Value.pointer (some ⟨g, 0, none⟩) :: va).toArray ++ Array.replicate (n - (Value.pointer (some ⟨g, 0, none⟩) :: va).toArray.size) undef).getD t undef = (Value.pointer (some ⟨g, 0, none⟩) :: va).getD t undef := by
        rw [Array.getD_eq_getD_getElem?, List.getD_eq_getElem?_getD]
        by_cases ht : t < (Value.pointer (some ⟨g, 0, none⟩) :: va).length
        · rw [Array.getElem?_append_left (by simpa using ht)];simp
        · rw [Array.getElem?_append_right (by simpa using ht), Array.getElem?_replicate, List.getElem?_eq_none (by omega)]
          split <;> rfl
      show FR w ρ _ (((Value.pointer (some ⟨g, 0, none⟩) :: va).toArray ++ Array.replicate (n - (Value.pointer (some ⟨g, 0, none⟩) :: va).toArray.size) undef).getD t undef) ((St.enterX n bs kv as).fr t)
      rw [e]
      cases t with
      | zero => exact .c _ _ (.lp 800000000 g 0 (by simp [ρ]))
      | succ t => have := a1 t;simpa [St.enterX] using this
    · simp only [St.enterX] at hx
      cases hbe : Nat.beq b 800000000 with
      | true =>
        rw [hbe] at hx;cases hx
        have := Nat.eq_of_beq_eq_true hbe
        subst this
        have e1 : ρ 800000000 = some g := by simp [ρ]
        have e2 : Φ 800000000 = [g] := by simp [Φ]
        rw [e1, e2]
        refine .box g us E _ hg (by rw [b1, hul]) fun k hk => ?_
        have := b2 k hk
        rw [List.getD_eq_getElem?_getD] at this
        rw [Array.getD_eq_getD_getElem?]
        simpa using this
      | false =>
        have hne : b ≠ 800000000 := fun e => by subst e;cases hbe
        rw [hbe] at hx
        simp only [cond_false, hxs] at hx
        have hi : inL L b = true := by have := jdk L b;rw [this];simp only [L];rw [hx];rfl
        rw [hρ b hi]
        have e : Φ b = G b := by simp only [Φ];rw [if_neg hne, if_pos hi]
        rw [e];exact h1 b x hx ρ _
    · simp only [St.enterX] at hb
      cases hbe : Nat.beq b 800000000 with
      | true => rw [hbe] at hb;cases hb
      | false =>
        have hne : b ≠ 800000000 := fun e => by subst e;cases hbe
        rw [hbe] at hb
        simp only [cond_false, hxs] at hb
        have hi : inL L b = false := by have := jdk L b;rw [this];simp only [L];rw [hb];rfl
        simp only [Φ];rw [if_neg hne, hi];rfl
    · simp only [Φ]; split
      · simp
      · split
        · rename_i hi;exact (h2 b hi).1
        · exact List.nodup_nil
    · rcases src b h hh with ⟨e1, e2⟩|⟨e0, e1, e2⟩
      · rcases src b' h hh' with ⟨e3, e4⟩|⟨_, e3, e4⟩
        · rw [e1, e3]
        · rw [e2] at e4;exact absurd ((h2 b' e3).2 g e4) hnd.1
      · rcases src b' h hh' with ⟨e3, e4⟩|⟨_, e3, e4⟩
        · rw [e4] at e2;exact absurd ((h2 b e1).2 g e2) hnd.1
        · exact h3 b b' h e1 e3 e2 e4
  refine Code.wp_mono ?_ ((h kv).lv κ _ w ⟨ρ, Φ, sm⟩)
  rintro e a' w' ⟨st', ⟨ρ', Φ', hm⟩, hq⟩
  have hbl : us.toList.length = bs.length := by
    have gen : ∀ {us : List Value} {bs : List BC} {G : List Nat}, BcW w (g :: (Fb ++ Fa)) us bs G → us.length = bs.length := by
      intro us bs G h
      induction h with
      | nil => rfl
      | k h t ih => simp [ih]
      | o h t ih => simp [ih]
    exact gen hbw
  have fin : (∃ ds res, R ds res ∧ jge P vs kv bs ds res st') → bodyPost P fn (fun e w' => ∃ v us' E' ds res Gb F, R ds res ∧ e = .returned v ∧ w'.heap[g]? = some (.cells us' E' (0, 0)) ∧ BcN w' us.toList us'.toList bs ds Gb ∧ OwR w' v res F ∧
      (g :: (Gb ++ F)).Nodup ∧ (∀ h ∈ Gb ++ F, h ∈ Fb ++ Fa ∨ w.heap.size ≤ h) ∧ Kp ⟨w, fun h => h ∈ g :: (Fb ++ Fa), fun _ => none, fun _ _ => rfl, ok, gl⟩ w w') .normal a' w' := fun ⟨ds, res, hR, hr⟩ => by
    obtain ⟨v, g', us', E', Gb, F, k1, k2, k3, k4, k5, k6, k7⟩ := hr.run (us := us.toList) hm hvs hbl (fun i hi => rfl)
    have hgg : g' = g := by
      have := hm.pin 800000000 (some g) (by simp [κ])
      rw [this] at k1;cases k1;rfl
    subst hgg
    exact ⟨hm.defers, v, k2, v, us', E', ds, res, Gb, F, hR, rfl, k3, k4, k5, k6, fun h hh => (k7 h hh).elim .inr fun hin => by
      rcases List.mem_cons.1 hin with e|hin
      · subst e;rw [List.nodup_cons] at k6;exact absurd hh k6.1
      · exact .inl hin, ⟨hm.below.os, hm.below.tape, hm.below.output, hm.below.size, hm.below.shp, fun h hh => hm.below.block h hh⟩⟩
  cases e with
  | normal => exact fin hq
  | ret => exact fin (by rw [LV.ret] at hq;exact hq)
  | exit id => exact (hq : False).elim
  | goto l => exact (LV.bad trivial hq).elim
  | panic c => exact (LV.bad trivial hq).elim
  | outgrown => exact (LV.bad trivial hq).elim
theorem Sm.newU {w0 : Ctx} {w w' : World} {ρ : Nat → Option Nat} {Φ : Nat → List Nat} {st : St} {a : Act} (h : Sm w0 ρ Φ st a w) (b0 g0 : Nat) (hb0 : Φ b0 = [g0]) (S : List Nat) (hbS : b0 ∉ S) (L : List (Nat × Blk)) (hbL : inL L b0 = false) (r : Nat → Option Nat) (F : Nat → List Nat) (hbel : Kp w0 w w')
  (hw : ∀ g, g ≠ g0 → (∀ c ∈ S, g ∉ Φ c) → g < w.heap.size → w'.heap[g]? = w.heap[g]?) (hs : Shp w w')
  (hnd : ∀ b, inL L b = true → (F b).Nodup) (hdj : ∀ b b' g, inL L b = true → inL L b' = true → g ∈ F b → g ∈ F b' → b = b')
  (hF : ∀ b, inL L b = true → ∀ g ∈ F b, (∃ c ∈ S, g ∈ Φ c) ∨ w.heap.size ≤ g) (hL : ∀ b, inL L b = true → b < 1000000) (hx : ∀ (ρ' : Nat → Option Nat) (Φ' : Nat → Prop), (∀ b', inL L b' = false → ρ' b' = ρ b') → (∀ b, inL L b = true → ρ' b = r b) → (∀ g, Φ' g → InΦ Φ g ∨ w.heap.size ≤ g) → ∀ (b : Nat) (x : Blk), getL L b = some x → BR w' ρ' Φ' (r b) x (F b))
  (x0 : Blk) (hx0 : ∀ (ρ' : Nat → Option Nat) (Φ' : Nat → Prop), (∀ b', inL L b' = false → ρ' b' = ρ b') → (∀ b, inL L b = true → ρ' b = r b) → (∀ g, Φ' g → InΦ Φ g ∨ w.heap.size ≤ g) → BR w' ρ' Φ' (ρ b0) x0 [g0]) :
  ∃ ρ' Φ', Sm w0 ρ' Φ' (((st.drop S).new L).setB b0 (some x0)) a w' ∧ (∀ b, inL L b = true → ρ' b = r b) ∧ (∀ b', inL L b' = false → ρ' b' = ρ b') ∧ ∀ g, InΦ Φ' g → InΦ Φ g ∨ w.heap.size ≤ g := by
 let ρ' : Nat → Option Nat := fun k => if inL L k then r k else ρ k
 let Φ' : Nat → List Nat := fun k => if inL L k then F k else if k = b0 then [g0] else if k ∈ S then [] else Φ k
 have hg0 : g0 ∈ Φ b0 := by rw [hb0];exact List.mem_cons_self ..
 have hρ : ∀ b', inL L b' = false → ρ' b' = ρ b' := fun b' hb' => by simp [ρ', hb']
 have hρb : ∀ b, inL L b = true → ρ' b = r b := fun b hb => if_pos hb
 have src : ∀ k g, g ∈ Φ' k → inL L k = true ∧ g ∈ F k ∨ inL L k = false ∧ (k = b0 ∧ g = g0 ∨ k ≠ b0 ∧ k ∉ S ∧ g ∈ Φ k) := fun k g hk => by
  simp only [Φ'] at hk
  cases hkL : inL L k with
  | true => rw [hkL, if_pos rfl] at hk;exact .inl ⟨rfl, hk⟩
  | false =>
   rw [hkL] at hk
   simp only [Bool.false_eq_true, if_false] at hk
   split at hk
   ·rename_i e;exact .inr ⟨rfl, .inl ⟨e, by simpa using hk⟩⟩
   ·rename_i e
    split at hk
    ·cases hk
    ·rename_i e2;exact .inr ⟨rfl, .inr ⟨e, e2, hk⟩⟩
 have hΦF : ∀ g, InΦ Φ' g → InΦ Φ g ∨ w.heap.size ≤ g := by
  rintro g ⟨k, hk⟩
  rcases src k g hk with ⟨h1, h2⟩|⟨_, ⟨h1, h2⟩|⟨_, _, h2⟩⟩
  ·rcases hF k h1 g h2 with ⟨c, _, hc⟩|h
   ·exact .inl ⟨c, hc⟩
   ·exact .inr h
  ·rw [h2];exact .inl ⟨b0, hg0⟩
  ·exact .inl ⟨k, h2⟩
 have hout : ∀ g, ¬ InΦ Φ g → g < w.heap.size → w'.heap[g]? = w.heap[g]? := fun g hg hlt => hw g (fun e => hg ⟨b0, e ▸ hg0⟩) (fun c _ hc => hg ⟨c, hc⟩) hlt
 refine ⟨ρ', Φ', ?_, hρb, hρ, hΦF⟩
 refine ⟨h.below.trans hbel, ?_, ?_, fun b r' hb => ?_, h.defers, ?_, ?_, ?_, ?_, ?_, ?_⟩
 ·simpa [St.new, St.kill, St.setB, (jds S st).2] using h.size
 ·simpa [St.new, St.kill, St.setB, (jds S st).2] using h.nb
 ·cases hbL' : inL L b with
  | true => rw [w0.low b (hL b hbL')] at hb;cases hb
  | false => rw [hρ b hbL'];exact h.pin b r' hb
 ·intro t
  show FR _ _ _ _ (((st.drop S).fr t).kill (inL L))
  rw [(jds S st).1]
  exact ((h.fr t).keep hout hs hΦF).kill (inL L) hρ
 ·intro k y hy
  simp only [St.setB] at hy
  by_cases hkb : k = b0
  ·subst hkb
   rw [if_pos rfl] at hy;cases hy
   have e1 : Φ' k = [g0] := by simp [Φ', hbL]
   rw [e1, hρ k hbL]
   exact hx0 ρ' (InΦ Φ') hρ hρb hΦF
  ·rw [if_neg hkb] at hy
   simp only [St.new] at hy
   have hgi := jdk L k
   cases hg : getL L k with
   | some x =>
    rw [hg] at hy hgi;cases hy
    have hkL : inL L k = true := by simpa using hgi
    simp only [Φ', if_pos hkL, hρb k hkL]
    exact hx ρ' (InΦ Φ') hρ hρb hΦF k _ hg
   | none =>
    rw [hg] at hy hgi
    have hkL : inL L k = false := by simpa using hgi
    obtain ⟨z, hz, rfl⟩ := Option.map_eq_some_iff.1 hy
    by_cases hkS : k ∈ S
    ·rw [(jeh S st k).1 hkS] at hz;cases hz
    ·rw [(jeh S st k).2 hkS] at hz
     have e1 : Φ' k = Φ k := by simp [Φ', hkL, hkS, hkb]
     rw [e1, hρ k hkL]
     refine BR.kill (inL L) (((h.bl k z hz).keep hout (fun g hg => hw g (fun e => hkb (h.dj k b0 g hg (e ▸ hg0))) (fun c hc hg' => ?_) (h.lt hg)) hs hΦF)) hρ
     have := h.dj k c g hg hg';subst this;exact hkS hc
 ·intro k hk
  simp only [St.setB] at hk
  by_cases hkb : k = b0
  ·rw [if_pos hkb] at hk;cases hk
  ·rw [if_neg hkb] at hk
   simp only [St.new] at hk
   have hgi := jdk L k
   cases hg : getL L k with
   | some x => rw [hg] at hk;cases hk
   | none =>
    rw [hg] at hk hgi
    have hkL : inL L k = false := by simpa using hgi
    simp only [Φ', hkL, Bool.false_eq_true, if_false, if_neg hkb]
    split
    ·rfl
    ·rename_i hkS
     rw [(jeh S st k).2 hkS] at hk
     exact h.emp k (by simpa using hk)
 ·intro k g hg
  rcases src k g hg with ⟨h1, h2⟩|⟨_, ⟨h1, h2⟩|⟨_, _, h2⟩⟩
  ·rcases hF k h1 g h2 with ⟨c, hc, hgc⟩|h'
   ·exact h.low c g hgc
   ·exact .inl (Nat.le_trans h.below.size h')
  ·rw [h2];exact h.low b0 g0 hg0
  ·exact h.low k g h2
 ·intro k
  simp only [Φ']
  split
  ·rename_i hkL;exact hnd k hkL
  ·split
   ·simp
   ·split
    ·exact List.nodup_nil
    ·exact h.nd k
 ·intro k k' g hg hg'
  have cross : ∀ k k', inL L k = true → g ∈ F k → inL L k' = false → (k' = b0 ∧ g = g0 ∨ k' ≠ b0 ∧ k' ∉ S ∧ g ∈ Φ k') → False := fun k k' h1 h2 h3 h4 => by
   rcases hF k h1 g h2 with ⟨c, hc, hgc⟩|hge
   ·rcases h4 with ⟨_, e⟩|⟨_, e, e2⟩
    ·subst e;have := h.dj c b0 g hgc hg0;subst this;exact hbS hc
    ·have := h.dj c k' g hgc e2;subst this;exact e hc
   ·rcases h4 with ⟨_, e⟩|⟨_, e, e2⟩
    ·subst e;have := h.lt hg0;omega
    ·have := h.lt e2;omega
  rcases src k g hg with ⟨h1, h2⟩|⟨h1, h2⟩
  ·rcases src k' g hg' with ⟨h3, h4⟩|⟨h3, h4⟩
   ·exact hdj k k' g h1 h3 h2 h4
   ·exact (cross k k' h1 h2 h3 h4).elim
  ·rcases src k' g hg' with ⟨h3, h4⟩|⟨h3, h4⟩
   ·exact (cross k' k h3 h4 h1 h2).elim
   ·rcases h2 with ⟨e1, e2⟩|⟨e1, _, e2⟩
    ·rcases h4 with ⟨e3, e4⟩|⟨e3, _, e4⟩
     ·rw [e1, e3]
     ·rw [e2] at e4;exact absurd (h.dj k' b0 g0 e4 hg0) e3
    ·rcases h4 with ⟨e3, e4⟩|⟨e3, _, e4⟩
     ·rw [e4] at e2;exact absurd (h.dj k b0 g0 e2 hg0) e1
     ·exact h.dj k k' g e2 e4
inductive BxI (st : St) : List C → List BC → List Nat → Prop
 | nil : BxI st [] [] []
 | k {x : D} {cs : List C} {bs : List BC} {S : List Nat} (t : BxI st cs bs S) : BxI st (.d x :: cs) (.k x :: bs) S
 | ks {v : Value} {x : D} {cs : List C} {bs : List BC} {S : List Nat} (t : BxI st cs bs S) : BxI st (.d (.same v x) :: cs) (.k x :: bs) S
 | o {c : C} {x : D} {S : List Nat} {cs : List C} {bs : List BC} {S' : List Nat} (h : Gv st c x S) (t : BxI st cs bs S') : BxI st (c :: cs) (.o x :: bs) (S ++ S')
inductive Sx (st : St) : C → D → List Nat → Prop
 | d (x : D) : Sx st (.d x) x []
 | row (b sz n : Nat) (ds : List D) (hb : st.bl b = some (.row sz ds)) (hn : ds.length = n * sz) : Sx st (.ls b sz 0 n) (.sl sz n ds) [b]
inductive SxL (st : St) : List C → List D → List Nat → Prop
 | nil : SxL st [] [] []
 | cons {c : C} {x : D} {V : List Nat} {cs : List C} {xs : List D} {V' : List Nat} (h : Sx st c x V) (t : SxL st cs xs V') : SxL st (c :: cs) (x :: xs) (V ++ V')
inductive SxP (st : St) : FV → RP → List Nat → Prop
 | c {c : C} {x : D} {V : List Nat} (h : Sx st c x V) : SxP st (.c c) (.c x) V
 | g {cs : List C} {xs : List D} {V : List Nat} (h : SxL st cs xs V) : SxP st (.g cs) (.g xs) V
inductive ArX (st : St) : List Operand → List AM → List Nat → List Nat → Prop
 | nil : ArX st [] [] [] []
 | v {x : Operand} {p : RP} {V : List Nat} {xs : List Operand} {as : List AM} {S V' : List Nat} (h : SxP st (st.ev x) p V) (t : ArX st xs as S V') : ArX st (x :: xs) (.v p :: as) S (V ++ V')
 | o {x : Operand} {p : RP} {S : List Nat} {xs : List Operand} {as : List AM} {S' V : List Nat} (h : GvP st (st.ev x) p S) (t : ArX st xs as S' V) : ArX st (x :: xs) (.o p :: as) (S ++ S') V
def mixC : List C → List BC → List C → List C
 | c :: cs, .k _ :: bs, ns => c :: mixC cs bs ns
 | _ :: cs, .o _ :: bs, n :: ns => n :: mixC cs bs ns
 | _, _, _ => []
section
variable {κ : Ctx} {st : St} {w : World} {ρ : Nat → Option Nat} {Φ : Nat → List Nat} {a : Act} {X : List Nat}
theorem Sx.vx (hm : Sm κ ρ Φ st a w) {c : C} {x : D} {V : List Nat} (h : Sx st c x V) (hX : ∀ g ∈ X, InΦ Φ g) (hV : ∀ b ∈ V, ∀ g ∈ Φ b, g ∉ X) {v : Value} (hc : CR w ρ (InΦ Φ) v c) : VwX w X v x := by
 cases h with
 | d => cases hc with|d _ _ F hF hav => exact ⟨F, hF, fun b hb hbX => hav b hb (hX b hbX)⟩
 | row b sz n ds hb hn =>
  obtain ⟨F, h1, h2⟩ := (Gv.ow hm hc (.row b sz n ds hb hn)).vw
  refine ⟨F, h1, fun g hg => hV b (List.mem_cons_self ..) g ?_⟩
  have := h2 g hg
  simpa using this
theorem SxL.vx (hm : Sm κ ρ Φ st a w) {cs : List C} {xs : List D} {V : List Nat} (h : SxL st cs xs V) (hX : ∀ g ∈ X, InΦ Φ g) : (∀ b ∈ V, ∀ g ∈ Φ b, g ∉ X) → ∀ us : List Value, us.length = cs.length → (∀ k (hk : k < cs.length), CR w ρ (InΦ Φ) (us.getD k undef) cs[k]) →
  us.length = xs.length ∧ ∀ k (hk : k < xs.length), VwX w X (us.getD k undef) xs[k] := by
 induction h with
 | nil => intro _ us hl _;exact ⟨by simpa using hl, fun k hk => by simp at hk⟩
 | cons h t ih =>
  intro hV us hl hr
  cases us with
  | nil => simp at hl
  | cons u us =>
   obtain ⟨h1, h2⟩ := ih (fun b hb => hV b (List.mem_append_right _ hb)) us (by simpa using hl) fun k hk => by have := hr (k + 1) (by simpa using hk);simpa using this
   refine ⟨by simpa using h1, fun k hk => ?_⟩
   cases k with
   | zero => simpa using h.vx hm hX (fun b hb => hV b (List.mem_append_left _ hb)) (hr 0 (by simp))
   | succ k => simpa using h2 k (by simpa using hk)
theorem SxP.vx (hm : Sm κ ρ Φ st a w) {x : FV} {p : RP} {V : List Nat} (h : SxP st x p V) (hX : ∀ g ∈ X, InΦ Φ g) (hV : ∀ b ∈ V, ∀ g ∈ Φ b, g ∉ X) {v : Value} (hv : FR w ρ (InΦ Φ) v x) : VxP w X v p := by
 cases h with
 | c h => exact .c (h.vx hm hX hV hv.c_inv)
 | g h =>
  obtain ⟨us, rfl, hl, hr⟩ := hv.g_inv
  obtain ⟨h1, h2⟩ := h.vx hm hX hV us hl hr
  exact .g h1 h2
theorem ArX.am (hm : Sm κ ρ Φ st a w) {xs : List Operand} {as : List AM} {S V : List Nat} (h : ArX st xs as S V) (hX : ∀ g ∈ X, InΦ Φ g) : (∀ b ∈ V, ∀ g ∈ Φ b, g ∉ X) → AmW w X (xs.map a.eval) as (S.flatMap Φ) := by
 induction h with
 | nil => intro _; exact .nil
 | v h t ih => intro hV;exact .v (h.vx hm hX (fun b hb => hV b (List.mem_append_left _ hb)) (hm.ev _)) (ih fun b hb => hV b (List.mem_append_right _ hb))
 | o h t ih => intro hV;rw [List.flatMap_append];exact .o (h.ow hm (hm.ev _)) (ih hV)
theorem BxI.bc (hm : Sm κ ρ Φ st a w) (hX : ∀ g ∈ X, InΦ Φ g) {cs : List C} {bs : List BC} {S : List Nat} (h : BxI st cs bs S) : ∀ us : List Value, us.length = cs.length → (∀ k (hk : k < cs.length), CR w ρ (InΦ Φ) (us.getD k undef) cs[k]) → BcW w X us bs (S.flatMap Φ) := by
 induction h with
 | nil => intro us hl _;cases us with|nil => exact .nil|cons => simp at hl
 | k t ih =>
  intro us hl hr
  cases us with
  | nil => simp at hl
  | cons u us =>
   refine .k ?_ (ih us (by simpa using hl) fun k hk => by have := hr (k + 1) (by simpa using hk);simpa using this)
   have := hr 0 (by simp)
   simp only [List.getD_cons_zero, List.getElem_cons_zero] at this
   cases this with|d _ _ F hF hav => exact ⟨F, hF, fun b hb hbX => hav b hb (hX b hbX)⟩
 | ks t ih =>
  intro us hl hr
  cases us with
  | nil => simp at hl
  | cons u us =>
   refine .k ?_ (ih us (by simpa using hl) fun k hk => by have := hr (k + 1) (by simpa using hk);simpa using this)
   have := hr 0 (by simp)
   simp only [List.getD_cons_zero, List.getElem_cons_zero] at this
   cases this with|d _ _ F hF hav => cases hF with|same _ _ _ hF => exact ⟨F, hF, fun b hb hbX => hav b hb (hX b hbX)⟩
 | o h t ih =>
  intro us hl hr
  cases us with
  | nil => simp at hl
  | cons u us =>
   rw [List.flatMap_append]
   exact .o (Gv.ow hm (hr 0 (by simp)) h) (ih us (by simpa using hl) fun k hk => by have := hr (k + 1) (by simpa using hk);simpa using this)
end
theorem GvL.nonbox {st : St} {b0 : Nat} {cs : List C} (hb : st.bl b0 = some (.box cs)) {S : List Nat} (h : ∀ b ∈ S, ∃ sz ds, st.bl b = some (.row sz ds)) : b0 ∉ S := fun hin => by
 obtain ⟨sz, ds, e⟩ := h b0 hin
 rw [hb] at e; cases e
theorem BxI.rows {st : St} {cs : List C} {bs : List BC} {S : List Nat} (h : BxI st cs bs S) : ∀ b ∈ S, ∃ sz ds, st.bl b = some (.row sz ds) := by
 induction h with
 | nil => intro b hb;cases hb
 | k t ih => exact ih
 | ks t ih => exact ih
 | o h t ih => intro b hb;rcases List.mem_append.1 hb with hb|hb;exact h.rows b hb;exact ih b hb
theorem ArX.rows {st : St} {xs : List Operand} {as : List AM} {S V : List Nat} (h : ArX st xs as S V) : ∀ b ∈ S, ∃ sz ds, st.bl b = some (.row sz ds) := by
 induction h with
 | nil => intro b hb;cases hb
 | v h t ih => exact ih
 | o h t ih => intro b hb;rcases List.mem_append.1 hb with hb|hb;exact h.rows b hb;exact ih b hb
section
variable {P : Program} {ops : Array Oper} {mu : Nat → Bool} {r : OT} {st : St} {K : St → Prop} {j : Nat} {ty : TypeId} {pos : String} {af : Array Edge}
theorem jbl {p : Operand} {xs : List Operand} {ts : Array TypeId} {d : Nat} {fid : FuncId} {b0 : Nat} {cs : List C} {bs : List BC} {as : List AM} {S Sa V : List Nat} {R : List D → Res → Prop} (hp : st.ev p = .c (.lp b0 0)) (hb : st.bl b0 = some (.box cs)) (hx : BxI st cs bs S) (ha : ArX st xs as Sa V)
    (hS : (S ++ Sa).Nodup) (hV : ∀ b ∈ V, b ∉ b0 :: (S ++ Sa)) (hc : PX P fid bs as R) (hd : Nat.blt d st.n = true) (hlo : ∀ b, d ≤ b → b < 1000000 → b ≠ b0) (hmu : mu j = true)
    (h : ∀ ds res, R ds res → Nat.ble (res.cells ++ ds).length 900 = true ∧ SO P ops mu r ((((st.drop (S ++ Sa)).new (ownBs d (res.cells ++ ds))).setB b0 (some (.box (mixC cs bs (ownCs (d + 1000 * res.cells.length) ds))))).put d (res.shape (ownCs d res.cells))) K) :
    SO P ops mu (.cons (some ⟨some d, .call { callee := .value (.func fid), args := ⟨p :: xs⟩, argTypes := ts }, ty, pos, af, none⟩, j, false) r) st K := by
  refine so_m hmu fun κ a w hs next Q hn => ?_
  obtain ⟨ρ, Φ, hm⟩ := hs
  obtain ⟨g, us, E, hρ, hΦ, hg, hul, hcr⟩ := hm.box hb
  have hb0 : b0 ∉ S ++ Sa := GvL.nonbox hb fun b hb => by rcases List.mem_append.1 hb with hb|hb;exact hx.rows b hb;exact ha.rows b hb
  have hnd := jcu hm.nd hm.dj (S := b0 :: (S ++ Sa)) (List.nodup_cons.2 ⟨hb0, hS⟩)
  rw [List.flatMap_cons, hΦ, List.flatMap_append] at hnd
  have hX : ∀ h ∈ g :: (S.flatMap Φ ++ Sa.flatMap Φ), InΦ Φ h := fun h hh => by
    rcases List.mem_cons.1 hh with e|hh
    · subst e;exact ⟨b0, by rw [hΦ];exact List.mem_cons_self ..⟩
    · rw [← List.flatMap_append] at hh
      obtain ⟨b, _, hb⟩ := List.mem_flatMap.1 hh
      exact ⟨b, hb⟩
  have hVX : ∀ b ∈ V, ∀ h ∈ Φ b, h ∉ g :: (S.flatMap Φ ++ Sa.flatMap Φ) := fun b hbV h hh hin => by
    refine hV b hbV ?_
    rcases List.mem_cons.1 hin with e|hin
    · subst e
      have := hm.dj b b0 h hh (by rw [hΦ];exact List.mem_cons_self ..)
      rw [this];exact List.mem_cons_self ..
    · rw [← List.flatMap_append] at hin
      obtain ⟨c, hc, hhc⟩ := List.mem_flatMap.1 hin
      have := hm.dj b c h hh hhc
      rw [this];exact List.mem_cons_of_mem _ hc
  have hcrL : ∀ k (hk : k < cs.length), CR w ρ (InΦ Φ) (us.toList.getD k undef) cs[k] := fun k hk => by
    have := hcr k hk
    rw [Array.getD_eq_getD_getElem?] at this
    rw [List.getD_eq_getElem?_getD]
    simpa using this
  have hull : us.toList.length = cs.length := by simpa using hul
  have hcall := hc.2 w g us E (xs.map a.eval) _ _ hg (hx.bc hm hX us.toList hull hcrL) (ha.am hm hX hVX) hnd hm.below.ok (fun h hh hin => Ctx.gln hh (by obtain ⟨b, hb⟩ := hX h hin;exact hm.low b h hb))
  have hpv : a.eval p = .pointer (some ⟨g, 0, none⟩) := by
    have hv := hm.ev p
    rw [hp] at hv
    obtain ⟨g', h1, h2⟩ := jeg hv.c_inv
    rw [hρ] at h1;cases h1;exact h2
  have hex : ∀ ys : List Operand, (execOp a.eval ⟨some d, .call { callee := .value (.func fid), args := ⟨ys⟩, argTypes := ts }, ty, pos, af, none⟩).run P w = .ok (.enter fid (ys.map a.eval).toArray) w := fun ys => by
    simp only [execOp, resolve, Sem.run_bind, Act.eval]
    simp [Deferred.ofValue, invoke]
    exact hc.1 _ _
  have hex := hex (p :: xs)
  rw [List.map_cons, hpv] at hex
  unfold Oper.wp
  rw [hex]
  refine Calls.mono hcall ?_
  rintro e w' ⟨v, us', E', ds, res, Gb, F, hR, rfl, c1, c2, c3, c4, c5, c6⟩
  have inlo : ∀ h, h ∈ g :: (S.flatMap Φ ++ Sa.flatMap Φ) → κ.lo h := fun h hh => by obtain ⟨b, hb⟩ := hX h hh;exact hm.low b h hb
  have kp : Kp κ w w' := ⟨c6.os, c6.tape, c6.output, c6.size, c6.shp, fun h hh => c6.block h fun h' => hh (by
    rcases h' with h' | h'
    · exact .inl (Nat.le_trans hm.below.size h')
    · exact inlo h h')⟩
  obtain ⟨hl9, hSO⟩ := h ds res hR
  have hl9' : (res.cells ++ ds).length ≤ 900 := by simpa using hl9
  have hd' : d < st.n := by simpa using hd
  have hnn := hm.nb
  obtain ⟨ur, hol, hsh⟩ := c3.open
  have hout : ∀ h, ¬ InΦ Φ h → h < w.heap.size → w'.heap[h]? = w.heap[h]? := fun h hh hlt => c6.block h fun h' => by
    rcases h' with h' | h'
    · exact absurd hlt (Nat.not_lt.2 h')
    · exact hh (hX h h')
  rw [List.nodup_cons, List.nodup_append] at c4
  have hu2 : ∃ u2, OwL w' u2 ds Gb ∧ ∀ (ρ' : Nat → Option Nat) (Ψ' : Nat → Prop), (∀ g, Ψ' g → InΦ Φ g ∨ w.heap.size ≤ g) → ∀ ns : List C, ns.length = u2.length → (∀ k (hk : k < ns.length), CR w' ρ' Ψ' (u2.getD k undef) ns[k]) →
      us'.toList.length = (mixC cs bs ns).length ∧ ∀ k (hk : k < (mixC cs bs ns).length), CR w' ρ' Ψ' (us'.toList.getD k undef) (mixC cs bs ns)[k] := by
    have uniq : ∀ {cs : List C} {us us' : List Value} {bs : List BC} {ds : List D} {G S : List Nat}, BxI st cs bs S → BcN w' us us' bs ds G → us.length = cs.length → (∀ k (hk : k < cs.length), CR w ρ (InΦ Φ) (us.getD k undef) cs[k]) → ∃ u2, OwL w' u2 ds G ∧ ∀ (ρ' : Nat → Option Nat) (Ψ' : Nat → Prop), (∀ g, Ψ' g → InΦ Φ g ∨ w.heap.size ≤ g) → ∀ ns : List C, ns.length = u2.length → (∀ k (hk : k < ns.length), CR w' ρ' Ψ' (u2.getD k undef) ns[k]) →
      us'.length = (mixC cs bs ns).length ∧ ∀ k (hk : k < (mixC cs bs ns).length), CR w' ρ' Ψ' (us'.getD k undef) (mixC cs bs ns)[k] := by
      intro cs us us' bs ds G S hxx hn hl hr
      have dk : ∀ {ρ' : Nat → Option Nat} {Ψ' : Nat → Prop} {v : Value} {x : D}, (∀ g, Ψ' g → InΦ Φ g ∨ w.heap.size ≤ g) → CR w ρ (InΦ Φ) v (.d x) → CR w' ρ' Ψ' v (.d x) := fun hΨ h => by
        have := h.keep hout c6.shp hΨ
        cases this with|d _ _ F h1 h2 => exact .d _ _ F h1 h2
      induction hn generalizing cs S with
      | nil => cases hxx;exact ⟨[], .nil, fun ρ' Ψ' _ ns _ _ => ⟨rfl, fun k hk => by simp [mixC] at hk⟩⟩
      | k tn ih =>
        cases hxx with
        | k t =>
          obtain ⟨u2, h1, h2⟩ := ih t (by simpa using hl) (fun k hk => by have := hr (k + 1) (by simpa using hk);simpa using this)
          refine ⟨u2, h1, fun ρ' Ψ' hΨ ns hns hc => ?_⟩
          obtain ⟨e1, e2⟩ := h2 ρ' Ψ' hΨ ns hns hc
          refine ⟨by simp [mixC, e1], fun k hk => ?_⟩
          cases k with
          | zero => exact dk hΨ (hr 0 (by simp))
          | succ k => have := e2 k (by simpa [mixC] using hk);simpa [mixC] using this
        | ks t =>
          obtain ⟨u2, h1, h2⟩ := ih t (by simpa using hl) (fun k hk => by have := hr (k + 1) (by simpa using hk);simpa using this)
          refine ⟨u2, h1, fun ρ' Ψ' hΨ ns hns hc => ?_⟩
          obtain ⟨e1, e2⟩ := h2 ρ' Ψ' hΨ ns hns hc
          refine ⟨by simp [mixC, e1], fun k hk => ?_⟩
          cases k with
          | zero => exact dk hΨ (hr 0 (by simp))
          | succ k => have := e2 k (by simpa [mixC] using hk);simpa [mixC] using this
      | o hOw tn ih =>
        cases hxx with
        | o hgv t =>
          obtain ⟨u2, h1, h2⟩ := ih t (by simpa using hl) (fun k hk => by have := hr (k + 1) (by simpa using hk);simpa using this)
          refine ⟨_ :: u2, .cons hOw h1, fun ρ' Ψ' hΨ ns hns hc => ?_⟩
          cases ns with
          | nil => simp at hns
          | cons n ns =>
            obtain ⟨e1, e2⟩ := h2 ρ' Ψ' hΨ ns (by simpa using hns) (fun k hk => by have := hc (k + 1) (by simpa using hk);simpa using this)
            refine ⟨by simp [mixC, e1], fun k hk => ?_⟩
            cases k with
            | zero => exact hc 0 (by simp)
            | succ k => have := e2 k (by simpa [mixC] using hk);simpa [mixC] using this
    exact uniq hx c2 hull hcrL
  obtain ⟨u2, ho2, hmx⟩ := hu2
  have hndF : (F ++ Gb).Nodup := List.nodup_append.2 ⟨c4.2.2.1, c4.2.1, fun x hx y hy e => c4.2.2.2 y hy x hx e.symm⟩
  obtain ⟨r0, G, k1, k2, k3, k4⟩ := (hol.append ho2).own hndF d
  have hLlt : ∀ b, inL (ownBs d (res.cells ++ ds)) b = true → b < 1000000 := fun b hb => by have := jey hb;omega
  have hbL : inL (ownBs d (res.cells ++ ds)) b0 = false := by
    cases hi : inL (ownBs d (res.cells ++ ds)) b0 with
    | false => rfl
    | true => exact absurd rfl (hlo b0 (jgk hi) (hLlt b0 hi))
  have hrl := hol.len
  have h2l := ho2.len
  obtain ⟨ρ', Φ', hm', hr', _, _⟩ := hm.newU (w' := w') b0 g hΦ (S ++ Sa) hb0 (ownBs d (res.cells ++ ds)) hbL r0 G kp (fun h hne hns hlt => c6.block h fun h' => by
      rcases h' with h' | h'
      · exact absurd hlt (Nat.not_lt.2 h')
      · rcases List.mem_cons.1 h' with e|h'
        · exact hne e
        · rw [← List.flatMap_append] at h'
          obtain ⟨c, hc, hhc⟩ := List.mem_flatMap.1 h'
          exact hns c hc hhc) c6.shp (fun b hb => (k2 b hb).1) k3
    (fun b hb h hh => by
      have hin := (k2 b hb).2 h hh
      rcases c5 h (by rcases List.mem_append.1 hin with hin|hin;exact List.mem_append_right _ hin;exact List.mem_append_left _ hin) with h'|h'
      · rw [← List.flatMap_append] at h'
        obtain ⟨c, hc, hhc⟩ := List.mem_flatMap.1 h'
        exact .inl ⟨c, hc, hhc⟩
      · exact .inr h') hLlt (fun ρ' Φ' _ _ _ b x hx => k1 b x hx ρ' Φ') (.box (mixC cs bs (ownCs (d + 1000 * res.cells.length) ds)))
    (fun ρ' Φ' _ hρr hΨ => by
      have hcs := k4 ρ' Φ' hρr
      obtain ⟨e1, e2⟩ := hmx ρ' Φ' hΨ (ownCs (d + 1000 * res.cells.length) ds) (by rw [jck];omega) (fun k hk => by
        have := hcs (res.cells.length + k) (by rw [jck, List.length_append];rw [jck] at hk;omega)
        simp only [jel] at this
        rw [List.getElem_append_right (by rw [jck];omega), jor (by omega)] at this
        have e3 : res.cells.length + k - ur.length = k := by omega
        rw [e3] at this
        simpa [jck] using this)
      rw [hρ]
      refine .box g us' E' _ c1 (by simpa using e1) fun k hk => ?_
      have := e2 k hk
      rw [List.getD_eq_getElem?_getD] at this
      rw [Array.getD_eq_getD_getElem?]
      simpa using this)
  refine hn _ _ (fun h => by cases h) ⟨_, ⟨ρ', Φ', hm'.put (hsh ρ' _ _ (by rw [jck];exact Nat.le_refl _) fun k hk hk' => ?_) d (by simpa [St.new, St.kill, St.setB, (jds (S ++ Sa) st).2] using hd)⟩, hSO⟩
  have := k4 ρ' (InΦ Φ') hr' k (by rw [jck, List.length_append];omega)
  simp only [jel] at this
  rw [List.getElem_append_left hk', jos (by omega)] at this
  exact this
end
theorem jct {P : Program} {k : List Itm} {st : St} {vs : List ResultVar} {kv : Nat → Value} {bs : List BC} {R : List D → Res → Prop} {ds : List D} {res : Res} (h : jge P vs kv bs ds res st) (hR : R ds res) :
  SK P (.code .ret :: k) st (fun st' => ∃ ds res, R ds res ∧ jge P vs kv bs ds res st') := jat ⟨ds, res, hR, h⟩
theorem PX.mono {P : Program} {f : FuncId} {bs : List BC} {as : List AM} {R R' : List D → Res → Prop} (h : PX P f bs as R) (hR : ∀ ds res, R ds res → R' ds res) : PX P f bs as R' :=
 ⟨h.1, fun w g us E vs Fb Fa hg hb ha hnd ok gl => (h.2 w g us E vs Fb Fa hg hb ha hnd ok gl).mono fun e w' ⟨v, us', E', ds, res, Gb, F, h0, h1, h2, h3, h4, h5, h6, h7⟩ => ⟨v, us', E', ds, res, Gb, F, hR _ _ h0, h1, h2, h3, h4, h5, h6, h7⟩⟩
def PE (P : Program) (f : FuncId) (as : List RP) (Q : Res → Prop) : Prop :=
 (∀ (args : Array Value) (W : World), (callFunc f args).run P W = .ok (.enter f args) W) ∧
 ∀ (w : World) (vs : List Value), Glb.ok w → VwL w vs as → Calls P f vs.toArray w fun e w' => ∃ res v F, Q res ∧ e = .returned v ∧ OwR w' v res F ∧ F.Nodup ∧ (∀ g ∈ F, w.heap.size ≤ g) ∧ Below w.heap.size w w'
theorem PC.pe {P : Program} {f : FuncId} {as : List RP} {Q : Res → Prop} {res : Res} (h : PC P f as res) (hQ : Q res) : PE P f as Q :=
 ⟨h.1, fun w vs ok hv => (h.2 w vs ok hv).mono fun e w' ⟨v, F, h1, h2, h3, h4, h5⟩ => ⟨res, v, F, hQ, h1, h2, h3, h4, h5⟩⟩
theorem PE.mono {P : Program} {f : FuncId} {as : List RP} {Q Q' : Res → Prop} (h : PE P f as Q) (hQ : ∀ r, Q r → Q' r) : PE P f as Q' :=
 ⟨h.1, fun w vs ok hv => (h.2 w vs ok hv).mono fun e w' ⟨res, v, F, h0, h1, h2, h3, h4, h5⟩ => ⟨res, v, F, hQ _ h0, h1, h2, h3, h4, h5⟩⟩
theorem jjv {P : Program} {f : FuncId} {fn : Func} {c : Code} {n : Nat} {vs : List ResultVar} {as : List RP} {Q : Res → Prop} (hf : P.funcs[f]? = some fn) (hb : fn.body = some c) (hn : fn.ntmps = n) (hvs : fn.results = ⟨vs⟩)
  (hname : (fn.name == "runtime.NumGoroutine") = false) (hle : Nat.ble as.length n = true) (hnb : Nat.ble n 1000 = true) (h : FitL as → SK P [.code c] (St.enter n as) (fun st' => ∃ res, Q res ∧ jbc P vs res st')) : PE P f as Q := by
 refine ⟨fun args W => by simp only [beq_eq_false_iff_ne] at hname;simp [callFunc, hf, hname, hb], fun w us ok hus => ?_⟩
 have hsz : us.toArray.size = us.length := rfl
 refine calls_of_wp hf hb ?_
 rw [hn]
 refine Code.wp_mono ?_ ((h hus.fit).lv ⟨w, fun _ => False, fun _ => none, fun _ _ => rfl, ok, fun _ _ h => h⟩ _ w ⟨_, _, Sm.enter ok hus (by simpa using hle) (by simpa using hnb)⟩)
 rintro e a' w' ⟨st', ⟨ρ, Φ, hm⟩, hq⟩
 have fin : (∃ res, Q res ∧ jbc P vs res st') → bodyPost P fn (fun e w' => ∃ res v F, Q res ∧ e = .returned v ∧ OwR w' v res F ∧ F.Nodup ∧ (∀ g ∈ F, w.heap.size ≤ g) ∧ Below w.heap.size w w') .normal a' w' := fun ⟨res, hQ, hr⟩ => by
  obtain ⟨v, F, h1, h2, h3, h4⟩ := hr.run hm hvs
  exact ⟨hm.defers, v, h1, res, v, F, hQ, rfl, h2, h3, fun g hg => (h4 g hg).elim id False.elim, ⟨hm.below.os, hm.below.tape, hm.below.output, hm.below.size, fun k hk => hm.below.block k fun h => h.elim (fun h => Nat.lt_irrefl _ (Nat.lt_of_lt_of_le hk h)) id⟩⟩
 cases e with
 | normal => exact fin hq
 | ret => exact fin (by rw [LV.ret] at hq;exact hq)
 | exit id => exact (hq : False).elim
 | goto l => exact (LV.bad trivial hq).elim
 | panic c => exact (LV.bad trivial hq).elim
 | outgrown => exact (LV.bad trivial hq).elim
theorem jhu {P : Program} {k : List Itm} {st : St} {vs : List ResultVar} {Q : Res → Prop} {res : Res} (h : jbc P vs res st) (hQ : Q res) :
  SK P (.code .ret :: k) st (fun st' => ∃ res, Q res ∧ jbc P vs res st') := jat ⟨res, hQ, h⟩
section
variable {P : Program} {ops : Array Oper} {mu : Nat → Bool} {r : OT} {st : St} {K : St → Prop} {i : Nat} {ty : TypeId} {pos : String} {af : Array Edge}
theorem callE_wp {xs : List Operand} {ts : Array TypeId} {dst : Option Tmp} {fid : FuncId} {as : List RP} {Q0 : Res → Prop} {w0 : Ctx} {w : World} {ρ : Nat → Option Nat} {Φ : Nat → List Nat} {a : Act} {next : Act → World → Prop} {Q : Exit → Act → World → Prop}
  (hm : Sm w0 ρ Φ st a w) (ha : SeA st xs as) (hc : PE P fid as Q0)
  (h : ∀ res, Q0 res → ∀ v w' F, OwR w' v res F → F.Nodup → (∀ g ∈ F, w.heap.size ≤ g) → Below w.heap.size w w' → next (a.put dst v) w') :
  Oper.wp P ⟨dst, .call { callee := .value (.func fid), args := ⟨xs⟩, argTypes := ts }, ty, pos, af, none⟩ a w next Q := by
 have hcalls := hc.2 w _ hm.below.ok (SeA.vw hm ha)
 have hex : (execOp a.eval ⟨dst, .call { callee := .value (.func fid), args := ⟨xs⟩, argTypes := ts }, ty, pos, af, none⟩).run P w = .ok (.enter fid (xs.map a.eval).toArray) w := by
  simp only [execOp, resolve, Sem.run_bind, Act.eval]
  simp [Deferred.ofValue, invoke]
  exact hc.1 _ _
 unfold Oper.wp
 rw [hex]
 refine Calls.mono hcalls ?_
 rintro e w' ⟨res, v, F, h0, rfl, h1, h2, h3, h4⟩
 exact h res h0 v w' F h1 h2 h3 h4
theorem jdp {xs : List Operand} {ts : Array TypeId} {d : Nat} {fid : FuncId} {as : List RP} {Q0 : Res → Prop} (ha : SeA st xs as) (hc : PE P fid as Q0)
  (hd : Nat.blt d st.n = true) (h : ∀ res, Q0 res → SO P ops mu r (st.put d (res.shape (res.cells.map C.d))) K) :
  SO P ops mu (.cons (some ⟨some d, .call { callee := .value (.func fid), args := ⟨xs⟩, argTypes := ts }, ty, pos, af, none⟩, i, false) r) st K := by
 refine so_a fun w0 a w hs next Q hn => ?_
 obtain ⟨ρ, Φ, hm⟩ := hs
 refine callE_wp hm ha hc fun res hQ v w' F ho hnd hlow hb => hn _ _ (fun _ => .of hb) ⟨_, ⟨ρ, Φ, (hm.later hb).put ?_ d (by simpa using hd)⟩, h res hQ⟩
 obtain ⟨us, hol, hsh⟩ := ho.open
 refine hsh ρ (InΦ Φ) _ (by simp) fun k hk hk' => ?_
 simp only [List.getElem_map]
 obtain ⟨Fs, hF, hOw⟩ := hol.split
 obtain ⟨F', h1, h2⟩ := (hOw k hk).vw
 refine .d _ _ F' h1 fun b hb' hi => ?_
 have hbF : b ∈ F := by rw [hF];exact jbt.2 ⟨k, hk, h2 b hb'⟩
 have := hlow b hbF
 obtain ⟨c, hc'⟩ := hi
 have := hm.lt hc'
 omega
end
section
variable {P : Program} {st : St} {dst : Option Tmp} {ty : TypeId} {pos : String} {af : Array Edge} {T T' : TypeId} {x y : Operand}
end
section
variable {w : World} {X : List Nat}
theorem Ow.vx {v : Value} {x : D} {F : List Nat} (h : Ow w v x F) (hF : ∀ b ∈ F, b ∉ X) : VwX w X v x := by
 obtain ⟨F', h1, h2⟩ := h.vw
 exact ⟨F', h1, fun b hb => hF b (h2 b hb)⟩
theorem OwL.vx {us : List Value} {xs : List D} {F : List Nat} (h : OwL w us xs F) : (∀ b ∈ F, b ∉ X) → us.length = xs.length ∧ ∀ k (hk : k < xs.length), VwX w X (us.getD k undef) xs[k] := by
 induction h with
 | nil => exact fun _ => ⟨rfl, fun k hk => by simp at hk⟩
 | cons h t ih =>
  intro hF
  obtain ⟨h1, h2⟩ := ih fun b hb => hF b (List.mem_append_right _ hb)
  refine ⟨by simp [h1], fun k hk => ?_⟩
  cases k with
  | zero => simpa using h.vx fun b hb => hF b (List.mem_append_left _ hb)
  | succ k => simpa using h2 k (by simpa using hk)
theorem OwP.vx {v : Value} {p : RP} {F : List Nat} (h : OwP w v p F) (hF : ∀ b ∈ F, b ∉ X) : VxP w X v p := by
 cases h with
 | c h => exact .c (h.vx hF)
 | g h => obtain ⟨h1, h2⟩ := h.vx hF;exact .g h1 h2
theorem jpb.vx {us : List Value} {xs : List RP} {F : List Nat} (h : jpb w us xs F) : (∀ b ∈ F, b ∉ X) → VxL w X us xs := by
 induction h with
 | nil => exact fun _ => ⟨rfl, fun k hk => by simp at hk⟩
 | cons h t ih =>
  intro hF
  obtain ⟨h1, h2⟩ := ih fun b hb => hF b (List.mem_append_right _ hb)
  refine ⟨by simp [h1], fun k hk => ?_⟩
  cases k with
  | zero => simpa using h.vx fun b hb => hF b (List.mem_append_left _ hb)
  | succ k => simpa using h2 k (by simpa using hk)
theorem OwR.vx {v : Value} {r : Res} {F : List Nat} (h : OwR w v r F) (hF : ∀ b ∈ F, b ∉ X) : VxR w X v r := by
 cases h with
 | p h => exact .p (h.vx hF)
 | t h => exact .t (h.vx hF)
end
theorem Sm.newUV {w0 : Ctx} {w w' : World} {ρ : Nat → Option Nat} {Φ : Nat → List Nat} {st : St} {a : Act} (h : Sm w0 ρ Φ st a w) (b0 g0 : Nat) (hb0 : Φ b0 = [g0]) (S : List Nat) (hbS : b0 ∉ S) (L : List (Nat × Blk)) (hbL : inL L b0 = false) (r : Nat → Option Nat) (F : Nat → List Nat) (hbel : Kp w0 w w')
  (hw : ∀ g, g ≠ g0 → (∀ c ∈ S, g ∉ Φ c) → g < w.heap.size → w'.heap[g]? = w.heap[g]?) (hs : Shp w w')
  (hnd : ∀ b, inL L b = true → (F b).Nodup) (hdj : ∀ b b' g, inL L b = true → inL L b' = true → g ∈ F b → g ∈ F b' → b = b')
  (hF : ∀ b, inL L b = true → ∀ g ∈ F b, (∃ c ∈ S, g ∈ Φ c) ∨ w.heap.size ≤ g) (hL : ∀ b, inL L b = true → b < 1000000) (hx : ∀ (ρ' : Nat → Option Nat) (Φ' : Nat → Prop), (∀ b', inL L b' = false → ρ' b' = ρ b') → (∀ b, inL L b = true → ρ' b = r b) → (∀ g, Φ' g → InΦ Φ g ∨ w.heap.size ≤ g) → ∀ (b : Nat) (x : Blk), getL L b = some x → BR w' ρ' Φ' (r b) x (F b))
  (x0 : Blk) (hx0 : ∀ (ρ' : Nat → Option Nat) (Φ' : Nat → Prop), (∀ b', inL L b' = false → ρ' b' = ρ b') → (∀ b, inL L b = true → ρ' b = r b) → (∀ g, Φ' g → InΦ Φ g ∨ w.heap.size ≤ g) → BR w' ρ' Φ' (ρ b0) x0 [g0]) :
  ∃ ρ' Φ', Sm w0 ρ' Φ' (((st.drop S).new L).setB b0 (some x0)) a w' ∧ (∀ b, inL L b = true → ρ' b = r b) ∧ (∀ b', inL L b' = false → ρ' b' = ρ b') ∧ ∀ g, InΦ Φ' g → (∃ b, inL L b = true ∧ g ∈ F b) ∨ g = g0 ∨ ∃ k, k ≠ b0 ∧ k ∉ S ∧ g ∈ Φ k := by
 let ρ' : Nat → Option Nat := fun k => if inL L k then r k else ρ k
 let Φ' : Nat → List Nat := fun k => if inL L k then F k else if k = b0 then [g0] else if k ∈ S then [] else Φ k
 have hg0 : g0 ∈ Φ b0 := by rw [hb0];exact List.mem_cons_self ..
 have hρ : ∀ b', inL L b' = false → ρ' b' = ρ b' := fun b' hb' => by simp [ρ', hb']
 have hρb : ∀ b, inL L b = true → ρ' b = r b := fun b hb => if_pos hb
 have src : ∀ k g, g ∈ Φ' k → inL L k = true ∧ g ∈ F k ∨ inL L k = false ∧ (k = b0 ∧ g = g0 ∨ k ≠ b0 ∧ k ∉ S ∧ g ∈ Φ k) := fun k g hk => by
  simp only [Φ'] at hk
  cases hkL : inL L k with
  | true => rw [hkL, if_pos rfl] at hk;exact .inl ⟨rfl, hk⟩
  | false =>
   rw [hkL] at hk
   simp only [Bool.false_eq_true, if_false] at hk
   split at hk
   ·rename_i e;exact .inr ⟨rfl, .inl ⟨e, by simpa using hk⟩⟩
   ·rename_i e
    split at hk
    ·cases hk
    ·rename_i e2;exact .inr ⟨rfl, .inr ⟨e, e2, hk⟩⟩
 have hΦF : ∀ g, InΦ Φ' g → InΦ Φ g ∨ w.heap.size ≤ g := by
  rintro g ⟨k, hk⟩
  rcases src k g hk with ⟨h1, h2⟩|⟨_, ⟨h1, h2⟩|⟨_, _, h2⟩⟩
  ·rcases hF k h1 g h2 with ⟨c, _, hc⟩|h
   ·exact .inl ⟨c, hc⟩
   ·exact .inr h
  ·rw [h2];exact .inl ⟨b0, hg0⟩
  ·exact .inl ⟨k, h2⟩
 have hout : ∀ g, ¬ InΦ Φ g → g < w.heap.size → w'.heap[g]? = w.heap[g]? := fun g hg hlt => hw g (fun e => hg ⟨b0, e ▸ hg0⟩) (fun c _ hc => hg ⟨c, hc⟩) hlt
 refine ⟨ρ', Φ', ?_, hρb, hρ, fun g hg => by
  obtain ⟨k, hk⟩ := hg
  rcases src k g hk with ⟨h1, h2⟩|⟨_, ⟨_, h2⟩|⟨h1, h2, h3⟩⟩
  ·exact .inl ⟨k, h1, h2⟩
  ·exact .inr (.inl h2)
  ·exact .inr (.inr ⟨k, h1, h2, h3⟩)⟩
 refine ⟨h.below.trans hbel, ?_, ?_, fun b r' hb => ?_, h.defers, ?_, ?_, ?_, ?_, ?_, ?_⟩
 ·simpa [St.new, St.kill, St.setB, (jds S st).2] using h.size
 ·simpa [St.new, St.kill, St.setB, (jds S st).2] using h.nb
 ·cases hbL' : inL L b with
  | true => rw [w0.low b (hL b hbL')] at hb;cases hb
  | false => rw [hρ b hbL'];exact h.pin b r' hb
 ·intro t
  show FR _ _ _ _ (((st.drop S).fr t).kill (inL L))
  rw [(jds S st).1]
  exact ((h.fr t).keep hout hs hΦF).kill (inL L) hρ
 ·intro k y hy
  simp only [St.setB] at hy
  by_cases hkb : k = b0
  ·subst hkb
   rw [if_pos rfl] at hy;cases hy
   have e1 : Φ' k = [g0] := by simp [Φ', hbL]
   rw [e1, hρ k hbL]
   exact hx0 ρ' (InΦ Φ') hρ hρb hΦF
  ·rw [if_neg hkb] at hy
   simp only [St.new] at hy
   have hgi := jdk L k
   cases hg : getL L k with
   | some x =>
    rw [hg] at hy hgi;cases hy
    have hkL : inL L k = true := by simpa using hgi
    simp only [Φ', if_pos hkL, hρb k hkL]
    exact hx ρ' (InΦ Φ') hρ hρb hΦF k _ hg
   | none =>
    rw [hg] at hy hgi
    have hkL : inL L k = false := by simpa using hgi
    obtain ⟨z, hz, rfl⟩ := Option.map_eq_some_iff.1 hy
    by_cases hkS : k ∈ S
    ·rw [(jeh S st k).1 hkS] at hz;cases hz
    ·rw [(jeh S st k).2 hkS] at hz
     have e1 : Φ' k = Φ k := by simp [Φ', hkL, hkS, hkb]
     rw [e1, hρ k hkL]
     refine BR.kill (inL L) (((h.bl k z hz).keep hout (fun g hg => hw g (fun e => hkb (h.dj k b0 g hg (e ▸ hg0))) (fun c hc hg' => ?_) (h.lt hg)) hs hΦF)) hρ
     have := h.dj k c g hg hg';subst this;exact hkS hc
 ·intro k hk
  simp only [St.setB] at hk
  by_cases hkb : k = b0
  ·rw [if_pos hkb] at hk;cases hk
  ·rw [if_neg hkb] at hk
   simp only [St.new] at hk
   have hgi := jdk L k
   cases hg : getL L k with
   | some x => rw [hg] at hk;cases hk
   | none =>
    rw [hg] at hk hgi
    have hkL : inL L k = false := by simpa using hgi
    simp only [Φ', hkL, Bool.false_eq_true, if_false, if_neg hkb]
    split
    ·rfl
    ·rename_i hkS
     rw [(jeh S st k).2 hkS] at hk
     exact h.emp k (by simpa using hk)
 ·intro k g hg
  rcases src k g hg with ⟨h1, h2⟩|⟨_, ⟨h1, h2⟩|⟨_, _, h2⟩⟩
  ·rcases hF k h1 g h2 with ⟨c, hc, hgc⟩|h'
   ·exact h.low c g hgc
   ·exact .inl (Nat.le_trans h.below.size h')
  ·rw [h2];exact h.low b0 g0 hg0
  ·exact h.low k g h2
 ·intro k
  simp only [Φ']
  split
  ·rename_i hkL;exact hnd k hkL
  ·split
   ·simp
   ·split
    ·exact List.nodup_nil
    ·exact h.nd k
 ·intro k k' g hg hg'
  have cross : ∀ k k', inL L k = true → g ∈ F k → inL L k' = false → (k' = b0 ∧ g = g0 ∨ k' ≠ b0 ∧ k' ∉ S ∧ g ∈ Φ k') → False := fun k k' h1 h2 h3 h4 => by
   rcases hF k h1 g h2 with ⟨c, hc, hgc⟩|hge
   ·rcases h4 with ⟨_, e⟩|⟨_, e, e2⟩
    ·subst e;have := h.dj c b0 g hgc hg0;subst this;exact hbS hc
    ·have := h.dj c k' g hgc e2;subst this;exact e hc
   ·rcases h4 with ⟨_, e⟩|⟨_, e, e2⟩
    ·subst e;have := h.lt hg0;omega
    ·have := h.lt e2;omega
  rcases src k g hg with ⟨h1, h2⟩|⟨h1, h2⟩
  ·rcases src k' g hg' with ⟨h3, h4⟩|⟨h3, h4⟩
   ·exact hdj k k' g h1 h3 h2 h4
   ·exact (cross k k' h1 h2 h3 h4).elim
  ·rcases src k' g hg' with ⟨h3, h4⟩|⟨h3, h4⟩
   ·exact (cross k' k h3 h4 h1 h2).elim
   ·rcases h2 with ⟨e1, e2⟩|⟨e1, _, e2⟩
    ·rcases h4 with ⟨e3, e4⟩|⟨e3, _, e4⟩
     ·rw [e1, e3]
     ·rw [e2] at e4;exact absurd (h.dj k' b0 g0 e4 hg0) e3
    ·rcases h4 with ⟨e3, e4⟩|⟨e3, _, e4⟩
     ·rw [e4] at e2;exact absurd (h.dj k b0 g0 e2 hg0) e1
     ·exact h.dj k k' g e2 e4
def PVE (P : Program) (f : FuncId) (as : List RP) (Q : Res → Prop) : Prop :=
 (∀ (args : Array Value) (W : World), (callFunc f args).run P W = .ok (.enter f args) W) ∧
 ∀ (w : World) (vs : List Value) (X : List Nat), X.Nodup → (∀ g ∈ X, g < w.heap.size) → Glb.ok w → (∀ g, Glb.bl g → g ∉ X) → VxL w X vs as → Calls P f vs.toArray w fun e w' => ∃ res v, Q res ∧ e = .returned v ∧ VxR w' X v res ∧ Below w.heap.size w w'
theorem PVE.mono {P : Program} {f : FuncId} {as : List RP} {Q Q' : Res → Prop} (h : PVE P f as Q) (hQ : ∀ r, Q r → Q' r) : PVE P f as Q' :=
 ⟨h.1, fun w vs X h1 h2 h3 h4 h5 => (h.2 w vs X h1 h2 h3 h4 h5).mono fun e w' ⟨res, v, k0, k1, k2, k3⟩ => ⟨res, v, hQ _ k0, k1, k2, k3⟩⟩
theorem pve_intro {P : Program} {f : FuncId} {fn : Func} {c : Code} {n : Nat} {vs : List ResultVar} {as : List RP} {Q : Res → Prop} (hf : P.funcs[f]? = some fn) (hb : fn.body = some c) (hn : fn.ntmps = n) (hvs : fn.results = ⟨vs⟩)
    (hname : (fn.name == "runtime.NumGoroutine") = false) (hle : Nat.ble as.length n = true) (hnb : Nat.ble n 1000 = true) (h : ∀ X c0, FitL as → SK P [.code c] (St.enterV n as X c0) (fun st' => ∃ res, Q res ∧ joa P vs X c0 res st')) : PVE P f as Q := by
  refine ⟨fun args W => by simp only [beq_eq_false_iff_ne] at hname;simp [callFunc, hf, hname, hb], fun w us X hnd hlt ok gl hus => ?_⟩
  have hsz : us.toArray.size = us.length := rfl
  refine calls_of_wp hf hb ?_
  rw [hn]
  have hle' : as.length ≤ n := by simpa using hle
  let κ : Ctx := ⟨w, fun g => g ∈ X, fun _ => none, fun _ _ => rfl, ok, gl⟩
  let c0 : Nat → Option Obj := fun g => w.heap[g]?
  let Φ : Nat → List Nat := fun b => if b = 900000000 then X else []
  have inX : ∀ g, InΦ Φ g → g ∈ X := fun g ⟨b, hb⟩ => by simp only [Φ] at hb;split at hb;exact hb;cases hb
  have sm : Sm κ (fun _ => none) Φ (St.enterV n as X c0) { tmps := us.toArray ++ Array.replicate (n - us.toArray.size) undef, defers := [] } w := by
    refine ⟨Kp.refl _ _, by have := hus.1;simp [St.enterV];omega, by simpa [St.enterV] using hnb, fun b r hb => (by cases hb), rfl, fun t => ?_, fun b x hb => ?_, fun b hb => ?_, fun b g hg => .inr (inX g ⟨b, hg⟩), fun b => ?_, fun b b' g hg hg' => ?_⟩
    · have gen : ∀ (as : List RP) (vs : List Value) (t : Nat), (t < as.length → ∀ hk : t < as.length, VxP w X (vs.getD t undef) as[t]) → FR w (fun _ => none) (InΦ Φ) (vs.getD t undef) (enterFV as t) := by
        intro as
        induction as with
        | nil => intro vs t _;exact FR.junkI _
        | cons y as ih =>
          intro vs t ht
          cases t with
          | zero =>
            have := ht (by simp) (by simp)
            simp only [List.getElem_cons_zero] at this
            generalize vs.getD 0 undef = v at *
            cases this with
            | c h => obtain ⟨F, h1, h2⟩ := h;exact .c _ _ (.d _ _ F h1 fun b hb hi => h2 b hb (inX b hi))
            | g hl hr =>
              refine .g _ _ (by simpa using hl) fun k hk => ?_
              obtain ⟨F, h1, h2⟩ := hr k (by simpa using hk)
              simp only [List.getElem_map]
              exact .d _ _ F h1 fun b hb hi => h2 b hb (inX b hi)
          | succ t =>
            have e : vs.getD (t + 1) undef = (vs.drop 1).getD t undef := by simp [List.getD_eq_getElem?_getD, Nat.add_comm]
            rw [e]
            have e2 : enterFV (y :: as) (t + 1) = enterFV as t := by cases y <;> rfl
            rw [e2]
            refine ih _ t fun h1 hk => ?_
            have := ht (by simpa using h1) (by simpa using hk)
            rw [e] at this;simpa using this
      have e : (us.toArray ++ Array.replicate (n - us.toArray.size) undef).getD t undef = us.getD t undef := by
        rw [Array.getD_eq_getD_getElem?, List.getD_eq_getElem?_getD]
        by_cases ht : t < us.length
        · rw [Array.getElem?_append_left (by simpa using ht)];simp
        · rw [Array.getElem?_append_right (by simp;omega), Array.getElem?_replicate, List.getElem?_eq_none (by omega)]
          split <;> rfl
      show FR w _ _ ((us.toArray ++ Array.replicate (n - us.toArray.size) undef).getD t undef) (enterFV as t)
      rw [e]
      exact gen as us t fun _ hk => hus.2 t hk
    · simp only [St.enterV] at hb
      cases hbe : Nat.beq b 900000000 with
      | false => rw [hbe] at hb;cases hb
      | true =>
        rw [hbe] at hb;cases hb
        have := Nat.eq_of_beq_eq_true hbe
        subst this
        simp only [Φ, if_pos]
        exact .held X c0 (fun g hg => rfl) hlt
    · simp only [St.enterV] at hb
      cases hbe : Nat.beq b 900000000 with
      | true => rw [hbe] at hb;cases hb
      | false =>
        have : b ≠ 900000000 := fun e => by subst e;cases hbe
        simp only [Φ, if_neg this]
    · simp only [Φ]; split
      · exact hnd
      · exact List.nodup_nil
    · simp only [Φ] at hg hg'
      split at hg
      · split at hg'
        · rename_i h1 h2;rw [h1, h2]
        · cases hg'
      · cases hg
  refine Code.wp_mono ?_ ((h X c0 hus.vw.fit).lv κ _ w ⟨_, _, sm⟩)
  rintro e a' w' ⟨st', ⟨ρ', Φ', hm⟩, hq⟩
  have fin : (∃ res, Q res ∧ joa P vs X c0 res st') → bodyPost P fn (fun e w' => ∃ res v, Q res ∧ e = .returned v ∧ VxR w' X v res ∧ Below w.heap.size w w') .normal a' w' := fun ⟨res, hQ, hr⟩ => by
    obtain ⟨v, h1, h2, h3⟩ := hr.run hm hvs
    refine ⟨hm.defers, v, h1, res, v, hQ, rfl, h2, ⟨hm.below.os, hm.below.tape, hm.below.output, hm.below.size, fun k hk => ?_⟩⟩
    by_cases hkX : k ∈ X
    · exact h3 k hkX
    · exact hm.below.block k fun h => h.elim (fun h => Nat.lt_irrefl _ (Nat.lt_of_lt_of_le hk h)) hkX
  cases e with
  | normal => exact fin hq
  | ret => exact fin (by rw [LV.ret] at hq;exact hq)
  | exit id => exact (hq : False).elim
  | goto l => exact (LV.bad trivial hq).elim
  | panic c => exact (LV.bad trivial hq).elim
  | outgrown => exact (LV.bad trivial hq).elim
theorem sk_vert {P : Program} {k : List Itm} {st : St} {vs : List ResultVar} {X : List Nat} {c0 : Nat → Option Obj} {Q : Res → Prop} {res : Res} (h : joa P vs X c0 res st) (hQ : Q res) :
  SK P (.code .ret :: k) st (fun st' => ∃ res, Q res ∧ joa P vs X c0 res st') := jat ⟨res, hQ, h⟩
section
variable {P : Program} {ops : Array Oper} {mu : Nat → Bool} {r : OT} {st : St} {K : St → Prop} {i : Nat} {ty : TypeId} {pos : String} {af : Array Edge}
theorem so_callVE {xs : List Operand} {ts : Array TypeId} {d : Nat} {fid : FuncId} {as : List RP} {Q0 : Res → Prop} (ha : SdA st xs as) (hc : PVE P fid as Q0)
  (hd : Nat.blt d st.n = true) (h : ∀ res, Q0 res → SO P ops mu r (st.put d (res.shape (res.cells.map C.d))) K) :
  SO P ops mu (.cons (some ⟨some d, .call { callee := .value (.func fid), args := ⟨xs⟩, argTypes := ts }, ty, pos, af, none⟩, i, false) r) st K := by
 refine so_a fun w0 a w hs next Q hn => ?_
 obtain ⟨ρ, Φ, hm⟩ := hs
 classical
 let X : List Nat := (List.range w.heap.size).filter fun g => decide (InΦ Φ g)
 have hX : ∀ g, InΦ Φ g → g ∈ X := fun g hg => by
  obtain ⟨b, hb⟩ := id hg
  exact List.mem_filter.2 ⟨List.mem_range.2 (hm.lt hb), by simpa using hg⟩
 have hX2 : ∀ g ∈ X, InΦ Φ g := fun g hg => by simpa using (List.mem_filter.1 hg).2
 have hX3 : ∀ g ∈ X, g < w.heap.size := fun g hg => List.mem_range.1 (List.mem_filter.1 hg).1
 have hcall := hc.2 w (xs.map a.eval) X (List.nodup_range.filter _) hX3 hm.below.ok (fun g hg h => Ctx.gln hg (by obtain ⟨b, hb⟩ := hX2 g h;exact hm.low b g hb)) (ha.vx hm hX2)
 have hex : (execOp a.eval ⟨some d, .call { callee := .value (.func fid), args := ⟨xs⟩, argTypes := ts }, ty, pos, af, none⟩).run P w = .ok (.enter fid (xs.map a.eval).toArray) w := by
  simp only [execOp, resolve, Sem.run_bind, Act.eval]
  simp [Deferred.ofValue, invoke]
  exact hc.1 _ _
 unfold Oper.wp
 rw [hex]
 refine Calls.mono hcall ?_
 rintro e w' ⟨res, v, hQ, rfl, hv, hb⟩
 exact hn _ _ (fun _ => .of hb) ⟨_, ⟨ρ, Φ, (hm.later hb).put (hv.fr hX) d (by simpa using hd)⟩, h res hQ⟩
end
inductive RdC : C → D → Prop
 | d (x : D) : RdC (.d x) x
 | nil (sz : Nat) (hz : 0 < sz) : RdC (.d (.lit (.slice none 0 0))) (.sl sz 0 [])
inductive RdL : List C → List D → Prop
 | nil : RdL [] []
 | cons {c : C} {x : D} {cs : List C} {xs : List D} (h : RdC c x) (t : RdL cs xs) : RdL (c :: cs) (x :: xs)
inductive RdP : FV → RP → Prop
 | c {c : C} {x : D} (h : RdC c x) : RdP (.c c) (.c x)
 | g {cs : List C} {xs : List D} (h : RdL cs xs) : RdP (.g cs) (.g xs)
inductive RdA (P : Program) (st : St) : List ResultVar → List RP → Prop
 | nil : RdA P st [] []
 | cons {v : ResultVar} {x : FV} {y : RP} {vs : List ResultVar} {ys : List RP} (hv : RV P st v x) (h : RdP x y) (t : RdA P st vs ys) : RdA P st (v :: vs) (y :: ys)
inductive jhc (P : Program) (vs : List ResultVar) (kv : Nat → Value) (bs : List BC) (X : List Nat) (c0 : Nat → Option Obj) : List D → Res → St → Prop
 | p {st : St} {cs : List C} {ds : List D} {S : List Nat} {y : RP} (hb : st.bl 800000000 = some (.box cs)) (hx : BxO st kv 0 cs bs ds S) (hX : st.bl 900000000 = some (.held X c0)) (h : RdA P st vs [y]) (hS : S.Nodup) : jhc P vs kv bs X c0 ds (.p y) st
def PXV (P : Program) (f : FuncId) (bs : List BC) (as : List RP) (R : List D → Res → Prop) : Prop :=
 (∀ (args : Array Value) (W : World), (callFunc f args).run P W = .ok (.enter f args) W) ∧
 ∀ (w : World) (g : Nat) (us : Array Value) (E : TypeId) (va : List Value) (Fb X : List Nat), w.heap[g]? = some (.cells us E (0, 0)) →
  BcW w (g :: (Fb ++ X)) us.toList bs Fb → VxL w (g :: (Fb ++ X)) va as → (g :: (Fb ++ X)).Nodup → (∀ h ∈ X, h < w.heap.size) → (ok : Glb.ok w) → (gl : ∀ h, Glb.bl h → h ∉ g :: (Fb ++ X)) →
  Calls P f (.pointer (some ⟨g, 0, none⟩) :: va).toArray w fun e w' => ∃ v us' E' ds res Gb, R ds res ∧ e = .returned v ∧ w'.heap[g]? = some (.cells us' E' (0, 0)) ∧ BcN w' us.toList us'.toList bs ds Gb ∧ VxR w' (g :: (Gb ++ X)) v res ∧
   (g :: Gb).Nodup ∧ (∀ h ∈ Gb, h ∈ Fb ∨ w.heap.size ≤ h) ∧ Kp ⟨w, fun h => h ∈ g :: (Fb ++ X), fun _ => none, fun _ _ => rfl, ok, gl⟩ w w' ∧ ∀ h ∈ X, w'.heap[h]? = w.heap[h]?
section
variable {P : Program} {st : St} {κ : Ctx} {w : World} {ρ : Nat → Option Nat} {Φ : Nat → List Nat} {a : Act} {X : List Nat} {c0 : Nat → Option Obj}
theorem RdC.vx {L : List Nat} (hL : ∀ g ∈ L, InΦ Φ g) {c : C} {x : D} (h : RdC c x) {v : Value} (hc : CR w ρ (InΦ Φ) v c) : VwX w L v x := by
 cases h with
 | d => cases hc with|d _ _ F hF hav => exact ⟨F, hF, fun b hb hbX => hav b hb (hL b hbX)⟩
 | nil sz hz =>
  cases hc with
  | d _ _ F hF hav =>
   cases hF with
   | lit => exact ⟨_, Vw.sl none 0 0 sz [] (fun _ => undef) (fun _ => []) (by simp) hz (by omega) (fun h => absurd h (by omega)) (fun k hk => by simp at hk) (fun k hk => by simp at hk), fun b hb => by simp at hb⟩
theorem RdL.vx {L : List Nat} (hL : ∀ g ∈ L, InΦ Φ g) {cs : List C} {xs : List D} (h : RdL cs xs) : ∀ us : List Value, us.length = cs.length → (∀ k (hk : k < cs.length), CR w ρ (InΦ Φ) (us.getD k undef) cs[k]) →
  us.length = xs.length ∧ ∀ k (hk : k < xs.length), VwX w L (us.getD k undef) xs[k] := by
 induction h with
 | nil => intro us hl _;exact ⟨by simpa using hl, fun k hk => by simp at hk⟩
 | cons h t ih =>
  intro us hl hr
  cases us with
  | nil => simp at hl
  | cons u us =>
   obtain ⟨h1, h2⟩ := ih us (by simpa using hl) fun k hk => by have := hr (k + 1) (by simpa using hk);simpa using this
   refine ⟨by simpa using h1, fun k hk => ?_⟩
   cases k with
   | zero => simpa using h.vx hL (hr 0 (by simp))
   | succ k => simpa using h2 k (by simpa using hk)
theorem RdP.vx {L : List Nat} (hL : ∀ g ∈ L, InΦ Φ g) {x : FV} {y : RP} (h : RdP x y) {v : Value} (hv : FR w ρ (InΦ Φ) v x) : VxP w L v y := by
 cases h with
 | c h => exact .c (h.vx hL hv.c_inv)
 | g h =>
  obtain ⟨us, rfl, hl, hr⟩ := hv.g_inv
  obtain ⟨h1, h2⟩ := h.vx hL us hl hr
  exact .g h1 h2
theorem RdA.vx (hm : Sm κ ρ Φ st a w) {L : List Nat} (hL : ∀ g ∈ L, InΦ Φ g) {vs : List ResultVar} {ys : List RP} (h : RdA P st vs ys) :
  ∃ us : List Value, (vs.mapM (rvRun a) : Sem (List Value)).run P w = .ok us w ∧ VxL w L us ys := by
 induction h with
 | nil => exact ⟨[], rfl, rfl, fun k hk => by simp at hk⟩
 | cons hv h t ih =>
  obtain ⟨u, hu, hfr⟩ := hv.run hm
  obtain ⟨us, hus, hol⟩ := ih
  refine ⟨u :: us, ?_, by simp [hol.1], fun k hk => ?_⟩
  ·rw [List.mapM_cons]
   simp only [Sem.run_bind, hu, Result.andThen_ok, hus, Sem.run_pure]
  ·cases k with
   | zero => simpa using h.vx hL hfr
   | succ k => simpa using hol.2 k (by simpa using hk)
theorem jhc.run (hm : Sm κ ρ Φ st a w) {fn : Func} {vs : List ResultVar} (hvs : fn.results = ⟨vs⟩) {kv : Nat → Value} {us : List Value} {bs : List BC} {ds : List D} {r : Res} (h : jhc P vs kv bs X c0 ds r st) (hl : us.length = bs.length) (hkv : ∀ i, i < us.length → kv i = us.getD i undef) :
    ∃ v g us' E Gb, ρ 800000000 = some g ∧ (results fn a.tmps).run P w = .ok v w ∧ w.heap[g]? = some (.cells us' E (0, 0)) ∧ BcN w us us'.toList bs ds Gb ∧ VxR w (g :: (Gb ++ X)) v r ∧ (g :: Gb).Nodup ∧ (∀ h ∈ Gb, κ.lo h ∧ h ∉ X) ∧ ∀ h ∈ X, w.heap[h]? = c0 h := by
  cases h with
  | p hb hx hX h hS =>
    rename_i cs S y
    obtain ⟨g, us', E, hρ, hΦ, hg, hul, hc⟩ := hm.box hb
    obtain ⟨hΦX, hcX⟩ := hm.heldN hX
    have hB : 800000000 ∉ S := fun hin => by
      obtain ⟨sz, ds, e⟩ := hx.rows _ hin
      rw [hb] at e; cases e
    have hB9 : 900000000 ∉ S := fun hin => by
      obtain ⟨sz, ds, e⟩ := hx.rows _ hin
      rw [hX] at e; cases e
    have hnd := jcu hm.nd hm.dj (S := 800000000 :: S) (List.nodup_cons.2 ⟨hB, hS⟩)
    rw [List.flatMap_cons, hΦ] at hnd
    have hL : ∀ h ∈ g :: (S.flatMap Φ ++ X), InΦ Φ h := fun h hh => by
      rcases List.mem_cons.1 hh with e|hh
      · subst e;exact ⟨800000000, by rw [hΦ];exact List.mem_cons_self ..⟩
      · rcases List.mem_append.1 hh with hh|hh
        · obtain ⟨b, _, hb⟩ := List.mem_flatMap.1 hh;exact ⟨b, hb⟩
        · exact ⟨900000000, by rw [hΦX];exact hh⟩
    obtain ⟨ul, hus, hol⟩ := h.vx hm hL
    have hlen := hol.1
    match ul, hlen with
    | [u], _ =>
      refine ⟨u, g, us', E, S.flatMap Φ, hρ, ?_, hg, hx.out hm us us'.toList hl (by simpa using hul) (fun i hi => by rw [Nat.zero_add];exact hkv i hi) (fun k hk => by
        have := hc k hk
        rw [Array.getD_eq_getD_getElem?] at this
        rw [List.getD_eq_getElem?_getD]
        simpa using this), .p (by simpa using hol.2 0 (by simp)), by simpa using hnd, fun h hh => ?_, hcX⟩
      · have e : results fn a.tmps = (do let vs ← fn.results.mapM (rvRun a);pure (if h : vs.size = 1 then vs[0] else .tuple vs)) := by
          unfold results
          congr 1
        rw [e, hvs, List.mapM_toArray]
        simp only [Sem.run_bind, Sem.run_map, hus, Result.andThen_ok, Sem.run_pure]
        rfl
      · obtain ⟨b, hbS, hb'⟩ := List.mem_flatMap.1 hh
        refine ⟨hm.low b h hb', fun hin => ?_⟩
        have := hm.dj b 900000000 h hb' (by rw [hΦX];exact hin)
        subst this;exact hB9 hbS
end
def rpFV : List RP → Nat → FV
 | [], _ => .c .junk
 | p :: _, 0 => enterP p
 | _ :: r, t + 1 => rpFV r t
theorem VxL.fr1 {w : World} {X : List Nat} {ρ : Nat → Option Nat} {Ψ : Nat → Prop} (hX : ∀ g, Ψ g → g ∈ X) : ∀ {va : List Value} {as : List RP}, VxL w X va as → ∀ t, FR w ρ Ψ (va.getD t undef) (rpFV as t)
 | va, [], h, t => by unfold rpFV;exact .c _ _ (.junk _)
 | [], p :: r, h, t => by have := h.1;simp at this
 | u :: us, p :: r, h, 0 => by
  have := h.2 0 (by simp)
  simp only [List.getD_cons_zero, List.getElem_cons_zero] at this
  exact this.frE hX
 | u :: us, p :: r, h, t + 1 => by
  have h2 : VxL w X us r := ⟨by have := h.1;simpa using this, fun k hk => by have := h.2 (k + 1) (by simpa using hk);simpa using this⟩
  have := VxL.fr1 (ρ := ρ) hX h2 t
  simpa [rpFV] using this
def St.enterXV (n : Nat) (bs : List BC) (as : List RP) (kv : Nat → Value) (X : List Nat) (c0 : Nat → Option Obj) : St :=
 ⟨n, fun t => match t with | 0 => .c (.lp 800000000 0) | t + 1 => rpFV as t,
  fun b => bif Nat.beq b 800000000 then some (.box (bcCs kv 0 bs (ownCs 1000000 (ownsB bs)))) else bif Nat.beq b 900000000 then some (.held X c0) else getL (ownBs 1000000 (ownsB bs)) b⟩
theorem pxv_intro {P : Program} {f : FuncId} {fn : Func} {c : Code} {n : Nat} {vs : List ResultVar} {bs : List BC} {as : List RP} {R : List D → Res → Prop} (hf : P.funcs[f]? = some fn) (hb : fn.body = some c) (hn : fn.ntmps = n) (hvs : fn.results = ⟨vs⟩)
    (hname : (fn.name == "runtime.NumGoroutine") = false) (hle : Nat.ble (as.length + 1) n = true) (hnb : Nat.ble n 1000 = true) (hlen : Nat.ble (ownsB bs).length 900 = true)
    (h : ∀ kv X c0, SK P [.code c] (St.enterXV n bs as kv X c0) (fun st' => ∃ ds res, R ds res ∧ jhc P vs kv bs X c0 ds res st')) : PXV P f bs as R := by
  refine ⟨fun args W => by simp only [beq_eq_false_iff_ne] at hname;simp [callFunc, hf, hname, hb], fun w g us E va Fb X hg hbw haw hnd hlt ok gl => ?_⟩
  refine calls_of_wp hf hb ?_
  rw [hn]
  obtain ⟨uo, ho1, ho2⟩ := hbw.cr
  have hnd0 := hnd
  rw [List.nodup_cons, List.nodup_append] at hnd
  obtain ⟨r, G, h1, h2, h3, h4⟩ := ho1.own hnd.2.1 1000000
  generalize hxs : ownsB bs = xs at *
  have hlen' : xs.length ≤ 900 := by simpa using hlen
  have hLlt : ∀ b, inL (ownBs 1000000 xs) b = true → b < 800000000 := fun b hb => by have := jey hb;omega
  let kv : Nat → Value := fun i => us.toList.getD i undef
  let c0 : Nat → Option Obj := fun g => w.heap[g]?
  let L := ownBs 1000000 xs
  let κ : Ctx := ⟨w, fun h => h ∈ g :: (Fb ++ X), fun b => if b = 800000000 then some (some g) else none, fun b hb => by rw [if_neg (by omega)], ok, gl⟩
  let ρ : Nat → Option Nat := fun b => if b = 800000000 then some g else if inL L b then r b else none
  let Φ : Nat → List Nat := fun b => if b = 800000000 then [g] else if b = 900000000 then X else if inL L b then G b else []
  have hρ : ∀ b, inL L b = true → ρ b = r b := fun b hb => by
    have := hLlt b hb
    simp only [ρ];rw [if_neg (by omega), if_pos hb]
  have src : ∀ b h, h ∈ Φ b → b = 800000000 ∧ h = g ∨ b = 900000000 ∧ h ∈ X ∨ b ≠ 800000000 ∧ b ≠ 900000000 ∧ inL L b = true ∧ h ∈ G b := fun b h hh => by
    simp only [Φ] at hh
    split at hh
    · rename_i e;exact .inl ⟨e, by simpa using hh⟩
    · rename_i e
      split at hh
      · rename_i e2;exact .inr (.inl ⟨e2, hh⟩)
      · rename_i e2
        split at hh
        · rename_i e3;exact .inr (.inr ⟨e, e2, e3, hh⟩)
        · cases hh
  have inX : ∀ h, InΦ Φ h → h ∈ g :: (Fb ++ X) := fun h ⟨b, hh⟩ => by
    rcases src b h hh with ⟨_, e⟩|⟨_, e⟩|⟨_, _, e, e2⟩
    · rw [e];exact List.mem_cons_self ..
    · exact List.mem_cons_of_mem _ (List.mem_append_right _ e)
    · exact List.mem_cons_of_mem _ (List.mem_append_left _ ((h2 b e).2 h e2))
  have hlo := ho1.len
  have hcb : ∀ k (hk : k < (ownCs 1000000 xs).length), CR w ρ (InΦ Φ) (uo.getD k undef) (ownCs 1000000 xs)[k] := fun k hk => h4 ρ _ hρ k hk
  obtain ⟨b1, b2⟩ := ho2 ρ (InΦ Φ) _ inX (by rw [jck];omega) hcb kv 0 (fun i _ => by simp [kv])
  have hul : us.toList.length = us.size := by simp
  have hle' : as.length + 1 ≤ n := by simpa using hle
  have hval := haw.1
  have a1 := haw.fr1 (ρ := ρ) inX
  have sm : Sm κ ρ Φ (St.enterXV n bs as kv X c0) { tmps := (.pointer (some ⟨g, 0, none⟩) :: va).toArray ++ Array.replicate (n - (Value.pointer (some ⟨g, 0, none⟩) :: va).toArray.size) undef, defers := [] } w := by
    refine ⟨Kp.refl _ _, by simp [St.enterXV];omega, by simpa [St.enterXV] using hnb, fun b r' hb => ?_, rfl, fun t => ?_, fun b x hx => ?_, fun b hb => ?_, fun b h hh => .inr (inX h ⟨b, hh⟩), fun b => ?_, fun b b' h hh hh' => ?_⟩
    · simp only [κ] at hb
      split at hb
      · rename_i e;cases hb;simp only [ρ];rw [if_pos e]
      · cases hb
    · have e : ((Value.pointer (some ⟨g, 0, none⟩) :: va).toArray ++ Array.replicate (n - (Value.pointer (some ⟨g, 0, none⟩) :: va).toArray.size) undef).getD t undef = (Value.pointer (some ⟨g, 0, none⟩) :: va).getD t undef := by
        rw [Array.getD_eq_getD_getElem?, List.getD_eq_getElem?_getD]
        by_cases ht : t < (Value.pointer (some ⟨g, 0, none⟩) :: va).length
        · rw [Array.getElem?_append_left (by simpa using ht)];simp
        · rw [Array.getElem?_append_right (by simpa using ht), Array.getElem?_replicate, List.getElem?_eq_none (by omega)]
          split <;> rfl
      show FR w ρ _ (((Value.pointer (some ⟨g, 0, none⟩) :: va).toArray ++ Array.replicate (n - (Value.pointer (some ⟨g, 0, none⟩) :: va).toArray.size) undef).getD t undef) ((St.enterXV n bs as kv X c0).fr t)
      rw [e]
      cases t with
      | zero => exact .c _ _ (.lp 800000000 g 0 (by simp [ρ]))
      | succ t => have := a1 t;simpa [St.enterXV] using this
    · simp only [St.enterXV] at hx
      cases hbe : Nat.beq b 800000000 with
      | true =>
        rw [hbe] at hx;cases hx
        have := Nat.eq_of_beq_eq_true hbe
        subst this
        have e1 : ρ 800000000 = some g := by simp [ρ]
        have e2 : Φ 800000000 = [g] := by simp [Φ]
        rw [e1, e2]
        rw [hxs]
        refine .box g us E _ hg (by rw [b1, hul]) fun k hk => ?_
        have := b2 k hk
        rw [List.getD_eq_getElem?_getD] at this
        rw [Array.getD_eq_getD_getElem?]
        simpa using this
      | false =>
        have hne : b ≠ 800000000 := fun e => by subst e;cases hbe
        rw [hbe] at hx
        simp only [cond_false] at hx
        cases hbe9 : Nat.beq b 900000000 with
        | true =>
          rw [hbe9] at hx;cases hx
          have := Nat.eq_of_beq_eq_true hbe9
          subst this
          have e0 : inL L 900000000 = false := by
            cases hi : inL L 900000000 with
            | false => rfl
            | true => have := hLlt _ hi;omega
          have e1 : ρ 900000000 = none := by simp [ρ, e0]
          have e2 : Φ 900000000 = X := by simp [Φ]
          rw [e1, e2]
          exact .held X c0 (fun g hg => rfl) hlt
        | false =>
          have hne9 : b ≠ 900000000 := fun e => by subst e;cases hbe9
          rw [hbe9] at hx
          simp only [cond_false, hxs] at hx
          have hi : inL L b = true := by have := jdk L b;rw [this];simp only [L];rw [hx];rfl
          rw [hρ b hi]
          have e : Φ b = G b := by simp only [Φ];rw [if_neg hne, if_neg hne9, if_pos hi]
          rw [e];exact h1 b x hx ρ _
    · simp only [St.enterXV] at hb
      cases hbe : Nat.beq b 800000000 with
      | true => rw [hbe] at hb;cases hb
      | false =>
        have hne : b ≠ 800000000 := fun e => by subst e;cases hbe
        rw [hbe] at hb
        simp only [cond_false] at hb
        cases hbe9 : Nat.beq b 900000000 with
        | true => rw [hbe9] at hb;cases hb
        | false =>
          have hne9 : b ≠ 900000000 := fun e => by subst e;cases hbe9
          rw [hbe9] at hb
          simp only [cond_false, hxs] at hb
          have hi : inL L b = false := by have := jdk L b;rw [this];simp only [L];rw [hb];rfl
          simp only [Φ];rw [if_neg hne, if_neg hne9, hi];rfl
    · simp only [Φ]; split
      · simp
      · split
        · exact hnd.2.2.1
        · split
          · rename_i hi;exact (h2 b hi).1
          · exact List.nodup_nil
    · rcases src b h hh with ⟨e1, e2⟩|⟨e1, e2⟩|⟨e0, e00, e1, e2⟩
      · rcases src b' h hh' with ⟨e3, e4⟩|⟨e3, e4⟩|⟨_, _, e3, e4⟩
        · rw [e1, e3]
        · rw [e2] at e4;exact absurd (List.mem_append_right _ e4) hnd.1
        · rw [e2] at e4;exact absurd (List.mem_append_left _ ((h2 b' e3).2 g e4)) hnd.1
      · rcases src b' h hh' with ⟨e3, e4⟩|⟨e3, e4⟩|⟨_, _, e3, e4⟩
        · rw [e4] at e2;exact absurd (List.mem_append_right _ e2) hnd.1
        · rw [e1, e3]
        · exact absurd rfl (hnd.2.2.2 h ((h2 b' e3).2 h e4) h e2)
      · rcases src b' h hh' with ⟨e3, e4⟩|⟨e3, e4⟩|⟨_, _, e3, e4⟩
        · rw [e4] at e2;exact absurd (List.mem_append_left _ ((h2 b e1).2 g e2)) hnd.1
        · exact absurd rfl (hnd.2.2.2 h ((h2 b e1).2 h e2) h e4)
        · exact h3 b b' h e1 e3 e2 e4
  refine Code.wp_mono ?_ ((h kv X c0).lv κ _ w ⟨ρ, Φ, sm⟩)
  rintro e a' w' ⟨st', ⟨ρ', Φ', hm⟩, hq⟩
  have hbl : us.toList.length = bs.length := by
    have gen : ∀ {us : List Value} {bs : List BC} {G : List Nat}, BcW w (g :: (Fb ++ X)) us bs G → us.length = bs.length := by
      intro us bs G h
      induction h with
      | nil => rfl
      | k h t ih => simp [ih]
      | o h t ih => simp [ih]
    exact gen hbw
  have fin : (∃ ds res, R ds res ∧ jhc P vs kv bs X c0 ds res st') → bodyPost P fn (fun e w' => ∃ v us' E' ds res Gb, R ds res ∧ e = .returned v ∧ w'.heap[g]? = some (.cells us' E' (0, 0)) ∧ BcN w' us.toList us'.toList bs ds Gb ∧ VxR w' (g :: (Gb ++ X)) v res ∧
      (g :: Gb).Nodup ∧ (∀ h ∈ Gb, h ∈ Fb ∨ w.heap.size ≤ h) ∧ Kp ⟨w, fun h => h ∈ g :: (Fb ++ X), fun _ => none, fun _ _ => rfl, ok, gl⟩ w w' ∧ ∀ h ∈ X, w'.heap[h]? = w.heap[h]?) .normal a' w' := fun ⟨ds, res, hR, hr⟩ => by
    obtain ⟨v, g', us', E', Gb, k1, k2, k3, k4, k5, k6, k7, k8⟩ := hr.run (us := us.toList) hm hvs hbl (fun i hi => rfl)
    have hgg : g' = g := by
      have := hm.pin 800000000 (some g) (by simp [κ])
      rw [this] at k1;cases k1;rfl
    subst hgg
    exact ⟨hm.defers, v, k2, v, us', E', ds, res, Gb, hR, rfl, k3, k4, k5, k6, fun h hh => (k7 h hh).1.elim .inr fun hin => by
      rcases List.mem_cons.1 hin with e|hin
      · subst e;rw [List.nodup_cons] at k6;exact absurd hh k6.1
      · rcases List.mem_append.1 hin with hin|hin
        · exact .inl hin
        · exact absurd hin (k7 h hh).2, ⟨hm.below.os, hm.below.tape, hm.below.output, hm.below.size, hm.below.shp, fun h hh => hm.below.block h hh⟩, k8⟩
  cases e with
  | normal => exact fin hq
  | ret => exact fin (by rw [LV.ret] at hq;exact hq)
  | exit id => exact (hq : False).elim
  | goto l => exact (LV.bad trivial hq).elim
  | panic c => exact (LV.bad trivial hq).elim
  | outgrown => exact (LV.bad trivial hq).elim
theorem jgh {P : Program} {k : List Itm} {st : St} {vs : List ResultVar} {kv : Nat → Value} {bs : List BC} {X : List Nat} {c0 : Nat → Option Obj} {R : List D → Res → Prop} {ds : List D} {res : Res} (h : jhc P vs kv bs X c0 ds res st) (hR : R ds res) :
  SK P (.code .ret :: k) st (fun st' => ∃ ds res, R ds res ∧ jhc P vs kv bs X c0 ds res st') := jat ⟨ds, res, hR, h⟩
section
variable {P : Program} {ops : Array Oper} {mu : Nat → Bool} {r : OT} {st : St} {K : St → Prop} {j : Nat} {ty : TypeId} {pos : String} {af : Array Edge}
theorem so_callXV {p : Operand} {xs : List Operand} {as : List RP} {ts : Array TypeId} {d : Nat} {fid : FuncId} {b0 : Nat} {cs : List C} {bs : List BC} {S : List Nat} {R : List D → Res → Prop} (hp : st.ev p = .c (.lp b0 0)) (hb : st.bl b0 = some (.box cs)) (hx : BxI st cs bs S) (ha : SdA st xs as)
    (hS : S.Nodup) (hc : PXV P fid bs as R) (hd : Nat.blt d st.n = true) (hlo : ∀ b, d ≤ b → b < 1000000 → b ≠ b0) (hmu : mu j = true)
    (h : ∀ ds res, R ds res → Nat.ble ds.length 900 = true ∧ SO P ops mu r ((((st.drop S).new (ownBs d ds)).setB b0 (some (.box (mixC cs bs (ownCs d ds))))).put d (res.shape (res.cells.map C.d))) K) :
    SO P ops mu (.cons (some ⟨some d, .call { callee := .value (.func fid), args := ⟨p :: xs⟩, argTypes := ts }, ty, pos, af, none⟩, j, false) r) st K := by
  refine so_m hmu fun κ a w hs next Q hn => ?_
  obtain ⟨ρ, Φ, hm⟩ := hs
  obtain ⟨g, us, E, hρ, hΦ, hg, hul, hcr⟩ := hm.box hb
  have hb0 : b0 ∉ S := GvL.nonbox hb fun b hb => hx.rows b hb
  have hnd := jcu hm.nd hm.dj (S := b0 :: S) (List.nodup_cons.2 ⟨hb0, hS⟩)
  rw [List.flatMap_cons, hΦ] at hnd
  have hnd : (g :: S.flatMap Φ).Nodup := by simpa using hnd
  classical
  let X : List Nat := (List.range w.heap.size).filter fun h => decide (InΦ Φ h ∧ h ∉ g :: S.flatMap Φ)
  have hXi : ∀ h, h ∈ X ↔ h < w.heap.size ∧ InΦ Φ h ∧ h ∉ g :: S.flatMap Φ := fun h => by simp [X, List.mem_filter]
  have hY : ∀ h ∈ g :: (S.flatMap Φ ++ X), InΦ Φ h := fun h hh => by
    rcases List.mem_cons.1 hh with e|hh
    · subst e;exact ⟨b0, by rw [hΦ];exact List.mem_cons_self ..⟩
    · rcases List.mem_append.1 hh with hh|hh
      · obtain ⟨b, _, hb⟩ := List.mem_flatMap.1 hh
        exact ⟨b, hb⟩
      · exact ((hXi h).1 hh).2.1
  have hndY : (g :: (S.flatMap Φ ++ X)).Nodup := by
    rw [List.nodup_cons] at hnd ⊢
    refine ⟨fun hin => ?_, List.nodup_append.2 ⟨hnd.2, List.nodup_range.filter _, fun x hx y hy e => ?_⟩⟩
    · rcases List.mem_append.1 hin with hin|hin
      · exact hnd.1 hin
      · exact ((hXi g).1 hin).2.2 (List.mem_cons_self ..)
    · subst e;exact ((hXi x).1 hy).2.2 (List.mem_cons_of_mem _ hx)
  have hcrL : ∀ k (hk : k < cs.length), CR w ρ (InΦ Φ) (us.toList.getD k undef) cs[k] := fun k hk => by
    have := hcr k hk
    rw [Array.getD_eq_getD_getElem?] at this
    rw [List.getD_eq_getElem?_getD]
    simpa using this
  have hull : us.toList.length = cs.length := by simpa using hul
  have hcall := hc.2 w g us E (xs.map a.eval) _ X hg (hx.bc hm hY us.toList hull hcrL) (ha.vx hm hY) hndY (fun h hh => ((hXi h).1 hh).1) hm.below.ok (fun h hh hin => Ctx.gln hh (by obtain ⟨b, hb⟩ := hY h hin;exact hm.low b h hb))
  have hpv : a.eval p = .pointer (some ⟨g, 0, none⟩) := by
    have hv := hm.ev p
    rw [hp] at hv
    obtain ⟨g', h1, h2⟩ := jeg hv.c_inv
    rw [hρ] at h1;cases h1;exact h2
  have hex : ∀ ys : List Operand, (execOp a.eval ⟨some d, .call { callee := .value (.func fid), args := ⟨ys⟩, argTypes := ts }, ty, pos, af, none⟩).run P w = .ok (.enter fid (ys.map a.eval).toArray) w := fun ys => by
    simp only [execOp, resolve, Sem.run_bind, Act.eval]
    simp [Deferred.ofValue, invoke]
    exact hc.1 _ _
  have hex := hex (p :: xs)
  rw [List.map_cons, hpv] at hex
  unfold Oper.wp
  rw [hex]
  refine Calls.mono hcall ?_
  rintro e w' ⟨v, us', E', ds, res, Gb, hR, rfl, c1, c2, c3, c4, c5, c6, c7⟩
  have inlo : ∀ h, h ∈ g :: (S.flatMap Φ ++ X) → κ.lo h ∨ False := fun h hh => by obtain ⟨b, hb⟩ := hY h hh;exact .inl (hm.low b h hb)
  have inlo : ∀ h, h ∈ g :: (S.flatMap Φ ++ X) → κ.lo h := fun h hh => (inlo h hh).elim id False.elim
  have kp : Kp κ w w' := ⟨c6.os, c6.tape, c6.output, c6.size, c6.shp, fun h hh => c6.block h fun h' => hh (by
    rcases h' with h' | h'
    · exact .inl (Nat.le_trans hm.below.size h')
    · exact inlo h h')⟩
  obtain ⟨hl9, hSO⟩ := h ds res hR
  have hl9' : ds.length ≤ 900 := by simpa using hl9
  have hd' : d < st.n := by simpa using hd
  have hnn := hm.nb
  have hout : ∀ h, ¬ InΦ Φ h → h < w.heap.size → w'.heap[h]? = w.heap[h]? := fun h hh hlt => c6.block h fun h' => by
    rcases h' with h' | h'
    · exact absurd hlt (Nat.not_lt.2 h')
    · exact hh (hY h h')
  rw [List.nodup_cons] at c4
  have hu2 : ∃ u2, OwL w' u2 ds Gb ∧ ∀ (ρ' : Nat → Option Nat) (Ψ' : Nat → Prop), (∀ g, Ψ' g → InΦ Φ g ∨ w.heap.size ≤ g) → ∀ ns : List C, ns.length = u2.length → (∀ k (hk : k < ns.length), CR w' ρ' Ψ' (u2.getD k undef) ns[k]) →
      us'.toList.length = (mixC cs bs ns).length ∧ ∀ k (hk : k < (mixC cs bs ns).length), CR w' ρ' Ψ' (us'.toList.getD k undef) (mixC cs bs ns)[k] := by
    have uniq : ∀ {cs : List C} {us us' : List Value} {bs : List BC} {ds : List D} {G S : List Nat}, BxI st cs bs S → BcN w' us us' bs ds G → us.length = cs.length → (∀ k (hk : k < cs.length), CR w ρ (InΦ Φ) (us.getD k undef) cs[k]) → ∃ u2, OwL w' u2 ds G ∧ ∀ (ρ' : Nat → Option Nat) (Ψ' : Nat → Prop), (∀ g, Ψ' g → InΦ Φ g ∨ w.heap.size ≤ g) → ∀ ns : List C, ns.length = u2.length → (∀ k (hk : k < ns.length), CR w' ρ' Ψ' (u2.getD k undef) ns[k]) →
      us'.length = (mixC cs bs ns).length ∧ ∀ k (hk : k < (mixC cs bs ns).length), CR w' ρ' Ψ' (us'.getD k undef) (mixC cs bs ns)[k] := by
      intro cs us us' bs ds G S hxx hn hl hr
      have dk : ∀ {ρ' : Nat → Option Nat} {Ψ' : Nat → Prop} {v : Value} {x : D}, (∀ g, Ψ' g → InΦ Φ g ∨ w.heap.size ≤ g) → CR w ρ (InΦ Φ) v (.d x) → CR w' ρ' Ψ' v (.d x) := fun hΨ h => by
        have := h.keep hout c6.shp hΨ
        cases this with|d _ _ F h1 h2 => exact .d _ _ F h1 h2
      induction hn generalizing cs S with
      | nil => cases hxx;exact ⟨[], .nil, fun ρ' Ψ' _ ns _ _ => ⟨rfl, fun k hk => by simp [mixC] at hk⟩⟩
      | k tn ih =>
        cases hxx with
        | k t =>
          obtain ⟨u2, h1, h2⟩ := ih t (by simpa using hl) (fun k hk => by have := hr (k + 1) (by simpa using hk);simpa using this)
          refine ⟨u2, h1, fun ρ' Ψ' hΨ ns hns hc => ?_⟩
          obtain ⟨e1, e2⟩ := h2 ρ' Ψ' hΨ ns hns hc
          refine ⟨by simp [mixC, e1], fun k hk => ?_⟩
          cases k with
          | zero => exact dk hΨ (hr 0 (by simp))
          | succ k => have := e2 k (by simpa [mixC] using hk);simpa [mixC] using this
        | ks t =>
          obtain ⟨u2, h1, h2⟩ := ih t (by simpa using hl) (fun k hk => by have := hr (k + 1) (by simpa using hk);simpa using this)
          refine ⟨u2, h1, fun ρ' Ψ' hΨ ns hns hc => ?_⟩
          obtain ⟨e1, e2⟩ := h2 ρ' Ψ' hΨ ns hns hc
          refine ⟨by simp [mixC, e1], fun k hk => ?_⟩
          cases k with
          | zero => exact dk hΨ (hr 0 (by simp))
          | succ k => have := e2 k (by simpa [mixC] using hk);simpa [mixC] using this
      | o hOw tn ih =>
        cases hxx with
        | o hgv t =>
          obtain ⟨u2, h1, h2⟩ := ih t (by simpa using hl) (fun k hk => by have := hr (k + 1) (by simpa using hk);simpa using this)
          refine ⟨_ :: u2, .cons hOw h1, fun ρ' Ψ' hΨ ns hns hc => ?_⟩
          cases ns with
          | nil => simp at hns
          | cons n ns =>
            obtain ⟨e1, e2⟩ := h2 ρ' Ψ' hΨ ns (by simpa using hns) (fun k hk => by have := hc (k + 1) (by simpa using hk);simpa using this)
            refine ⟨by simp [mixC, e1], fun k hk => ?_⟩
            cases k with
            | zero => exact hc 0 (by simp)
            | succ k => have := e2 k (by simpa [mixC] using hk);simpa [mixC] using this
    exact uniq hx c2 hull hcrL
  obtain ⟨u2, ho2, hmx⟩ := hu2
  obtain ⟨r0, G, k1, k2, k3, k4⟩ := ho2.own c4.2 d
  have hLlt : ∀ b, inL (ownBs d ds) b = true → b < 1000000 := fun b hb => by have := jey hb;omega
  have hbL : inL (ownBs d ds) b0 = false := by
    cases hi : inL (ownBs d ds) b0 with
    | false => rfl
    | true => exact absurd rfl (hlo b0 (jgk hi) (hLlt b0 hi))
  have h2l := ho2.len
  obtain ⟨ρ', Φ', hm', hr', _, hin⟩ := hm.newUV (w' := w') b0 g hΦ S hb0 (ownBs d ds) hbL r0 G kp (fun h hne hns hlt => by
      by_cases hX : h ∈ X
      · exact c7 h hX
      · refine c6.block h fun h' => ?_
        rcases h' with h' | h'
        · exact absurd hlt (Nat.not_lt.2 h')
        · rcases List.mem_cons.1 h' with e|h'
          · exact hne e
          · rcases List.mem_append.1 h' with h'|h'
            · obtain ⟨c, hc, hhc⟩ := List.mem_flatMap.1 h'
              exact hns c hc hhc
            · exact hX h') c6.shp (fun b hb => (k2 b hb).1) k3
    (fun b hb h hh => by
      rcases c5 h ((k2 b hb).2 h hh) with h'|h'
      · obtain ⟨c, hc, hhc⟩ := List.mem_flatMap.1 h'
        exact .inl ⟨c, hc, hhc⟩
      · exact .inr h') hLlt (fun ρ' Φ' _ _ _ b x hx => k1 b x hx ρ' Φ') (.box (mixC cs bs (ownCs d ds)))
    (fun ρ' Φ' _ hρr hΨ => by
      have hcs := k4 ρ' Φ' hρr
      obtain ⟨e1, e2⟩ := hmx ρ' Φ' hΨ (ownCs d ds) (by rw [jck];omega) (fun k hk => hcs k hk)
      rw [hρ]
      refine .box g us' E' _ c1 (by simpa using e1) fun k hk => ?_
      have := e2 k hk
      rw [List.getD_eq_getElem?_getD] at this
      rw [Array.getD_eq_getD_getElem?]
      simpa using this)
  have hsub : ∀ h, InΦ Φ' h → h ∈ g :: (Gb ++ X) := fun h hh => by
    rcases hin h hh with ⟨b, hbL, hbG⟩|e|⟨k, hkb, hkS, hkΦ⟩
    · exact List.mem_cons_of_mem _ (List.mem_append_left _ ((k2 b hbL).2 h hbG))
    · rw [e];exact List.mem_cons_self ..
    · refine List.mem_cons_of_mem _ (List.mem_append_right _ ((hXi h).2 ⟨hm.lt hkΦ, ⟨k, hkΦ⟩, fun hmem => ?_⟩))
      rcases List.mem_cons.1 hmem with e|hmem
      · subst e;exact hkb (hm.dj k b0 h hkΦ (by rw [hΦ];exact List.mem_cons_self ..))
      · obtain ⟨c, hc, hhc⟩ := List.mem_flatMap.1 hmem
        have := hm.dj k c h hkΦ hhc
        subst this;exact hkS hc
  exact hn _ _ (fun h => by cases h) ⟨_, ⟨ρ', Φ', hm'.put (c3.fr hsub) d (by simpa [St.new, St.kill, St.setB, (jds S st).2] using hd)⟩, hSO⟩
end
section
variable {P : Program} {ops : Array Oper} {mu : Nat → Bool} {r : OT} {st : St} {K : St → Prop} {j : Nat} {ty : TypeId} {pos : String} {af : Array Edge}
end
end Go.Proofs.YteaeoaeogehaaaaGreatDoor
