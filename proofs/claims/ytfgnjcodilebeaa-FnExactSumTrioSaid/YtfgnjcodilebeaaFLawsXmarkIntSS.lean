/- One part of the proof: laws.markIntSS. No condition beyond those of its theorems. -/
import Derived.Test.YtfgnjcodilebeaaBase
import Derived.Test.YtfgnjcodilebeaaFLawsXmarkIntS
import Derived.Test.YtfgnjcodilebeaaFLawsXszIntSS
namespace Go.Proofs.Ytfgnjcodilebeaa
open Go.RowKit
/-- how many numbers the first q rows hold -/
def offs (ll : List (List Int)) (q : Nat) : Nat := ((ll.take q).map List.length).sum
def markII (k : Int) (ll : List (List Int)) : List (List Int) := (List.range ll.length).map fun q => iota (k + offs ll q) (ll.getD q []).length
theorem markII_len (k : Int) (ll : List (List Int)) : (markII k ll).length = ll.length := by simp [markII]
theorem offs_succ (ll : List (List Int)) (q : Nat) (h : q < ll.length) : offs ll (q + 1) = offs ll q + ll[q].length := sum_take_succ ll q h
theorem offs_le (ll : List (List Int)) (q : Nat) : offs ll q ≤ offs ll ll.length := by
  unfold offs
  rw [List.take_length]
  conv => rhs; rw [← List.take_append_drop q ll, List.map_append, List.sum_append]
  omega
/-- the first q rows are marked -/
def markQ (k : Int) (ll : List (List Int)) (q : Nat) : List (List Int) := (markII k ll).take q ++ ll.drop q
theorem markQ_len (k : Int) (ll : List (List Int)) (q : Nat) (h : q ≤ ll.length) : (markQ k ll q).length = ll.length := by
  simp [markQ, markII_len]; omega
theorem markQ_zero (k : Int) (ll : List (List Int)) : markQ k ll 0 = ll := by simp [markQ]
theorem markQ_all (k : Int) (ll : List (List Int)) : markQ k ll ll.length = markII k ll := by
  unfold markQ; rw [List.take_of_length_le (by rw [markII_len]; omega)]; simp
theorem markQ_at (k : Int) (ll : List (List Int)) (q : Nat) (h : q < ll.length) : (markQ k ll q)[q]? = some ll[q] := by
  unfold markQ
  rw [List.getElem?_append_right (by rw [List.length_take, markII_len]; omega), List.length_take, markII_len, Nat.min_eq_left (by omega), Nat.sub_self]
  simp [h]
theorem markQ_succ (k : Int) (ll : List (List Int)) (q : Nat) (h : q < ll.length) : markQ k ll (q + 1) = (markQ k ll q).set q (iota (k + offs ll q) ll[q].length) := by
  have hm : (markII k ll)[q]'(by rw [markII_len]; exact h) = iota (k + offs ll q) ll[q].length := by simp [markII, h]
  unfold markQ
  rw [List.take_succ_eq_append_getElem (by rw [markII_len]; exact h), hm, List.set_append_right _ _ (by rw [List.length_take, markII_len]; omega), List.length_take, markII_len, Nat.min_eq_left (by omega), Nat.sub_self,
    List.drop_eq_getElem_cons h, List.set_cons_zero, List.append_assoc]
  rfl

theorem nodup_flatMap_at {n q : Nat} {Fs : Nat → List Nat} (h : ((List.range n).flatMap Fs).Nodup) (hq : q < n) : (Fs q).Nodup := by
  unfold List.Nodup at h
  exact (List.pairwise_flatMap.1 h).1 q (List.mem_range.2 hq)
theorem nodup_flatMap_ne {n i j : Nat} {Fs : Nat → List Nat} (h : ((List.range n).flatMap Fs).Nodup) (hi : i < n) (hj : j < n) (hij : i ≠ j) {b : Nat} (hb : b ∈ Fs i) (hb' : b ∈ Fs j) : False := by
  unfold List.Nodup at h
  have h2 := List.pairwise_iff_getElem.1 (List.pairwise_flatMap.1 h).2
  rcases Nat.lt_or_gt_of_ne hij with hlt | hlt
  · have := h2 i j (by simpa using hi) (by simpa using hj) hlt
    simp only [List.getElem_range] at this
    exact this b hb b hb' rfl
  · have := h2 j i (by simpa using hj) (by simpa using hi) hlt
    simp only [List.getElem_range] at this
    exact this b hb' b hb rfl

/-- One row of a slice of rows is written anew: the rest reads as before. -/
theorem intss_row {w : World} {ao : Option Addr} {n cap q : Nat} {ll : List (List Int)} {F : List Nat} (h : tIntss.rd true w [.slice ao n cap] ll F) (hn : F.Nodup) (hq : q < ll.length) :
    ∃ (u : Value) (Fq : List Nat), w.cell? ((adr ao).add q) = some u ∧ tInts.rd true w [u] ll[q] Fq ∧ Fq.Nodup ∧ (∀ b ∈ Fq, b ∈ F) ∧
      ∀ (w' : World) (r : List Int), tInts.rd true w' [u] r Fq → Chg Fq w w' → tIntss.rd true w' [.slice ao n cap] (ll.set q r) F := by
  obtain ⟨ao', cap', hv, hl, Fs, rfl, hc⟩ := h
  simp only [List.cons.injEq, Value.slice.injEq, and_true] at hv
  obtain ⟨rfl, rfl, rfl⟩ := hv
  have hne : ll.length ≠ 0 := by omega
  rw [if_neg hne] at hn
  obtain ⟨ck, hs, hcj, hr⟩ := hc q hq
  have hlen := tInts.len hr
  match ck, hlen with
  | [u], _ =>
    have c1 := hcj 0 (by simp)
    simp only [show tInts.n = 1 from rfl, Nat.mul_one, Nat.add_zero, List.getElem_cons_zero] at c1
    have hnf := (List.nodup_cons.1 hn).2
    have hsub : ∀ b ∈ Fs q, b ∈ (List.range ll.length).flatMap Fs := fun b hb => List.mem_flatMap.2 ⟨q, List.mem_range.2 hq, hb⟩
    have hnq : (Fs q).Nodup := nodup_flatMap_at hnf hq
    refine ⟨u, Fs q, c1.1, hr, hnq, fun b hb => by rw [if_neg hne]; exact List.mem_cons_of_mem _ (hsub b hb), fun w' r hr' hch => ?_⟩
    refine ⟨ao, cap, by simp, by simpa using hl, Fs, by simp [hne], fun j hj => ?_⟩
    have hj' : j < ll.length := by simpa using hj
    obtain ⟨cj, hsj, hcjj, hrj⟩ := hc j hj'
    have hblk : ∀ m, w'.heap[((adr ao).add m).block]? = w.heap[((adr ao).add m).block]? := fun m => by
      rw [add_block]
      refine hch.block _ (fun hb => (List.nodup_cons.1 hn).1 (hsub _ hb)) ?_
      have := World.block_lt_of_cell? w _ c1.1
      rwa [add_block] at this
    have hcell : ∀ i (hi : i < cj.length), w'.cell? ((adr ao).add (j * tInts.n + i)) = some cj[i] ∧ (true = true → w'.frozen? ((adr ao).add (j * tInts.n + i)) = false) := fun i hi => by
      rw [World.cell?_of_block (hblk _), World.frozen?_of_block (hblk _)]
      exact hcjj i hi
    by_cases hjq : j = q
    · subst hjq
      refine ⟨cj, hsj, hcell, ?_⟩
      have : cj = [u] := by
        obtain ⟨u2, rfl⟩ : ∃ u2, cj = [u2] := List.length_eq_one_iff.1 (tInts.len hrj)
        have c2 := (hcjj 0 (by simp)).1
        have e0 : j * tInts.n + 0 = j := by show j * 1 + 0 = j; omega
        rw [e0, c1.1] at c2
        simpa using (Option.some.inj c2).symm
      rw [this]
      simpa using hr'
    · refine ⟨cj, hsj, hcell, ?_⟩
      rw [List.getElem_set_ne (Ne.symm hjq)]
      exact tInts.keep hrj fun b hb => hch.block b (fun hb' => nodup_flatMap_ne hnf hj' hq hjq hb hb') (tInts.lt hrj b hb)

set_option maxHeartbeats 1000000 in
theorem markIntSS_c {ll : List (List Int)} {v : Value} {F : List Nat} (k : Int) {w : World} (h : tIntss.rd true w [v] ll F) (hn : F.Nodup) (h0 : 0 ≤ k) (h1 : k + offs ll ll.length ≤ 1099511627776) :
    Calls Try.prog 69 #[v, .int .i64 k] w fun e w' => e = .returned (.int .i64 (k + offs ll ll.length)) ∧ tIntss.rd true w' [v] (markII k ll) F ∧ Chg F w w' := by
  have H0 := Lib.hid h
  have HN := Lib.hid hn
  obtain ⟨ao, cap, rfl, hl, hs, hc⟩ := Rd.sl (w := w) (v := v) (l := ll) (t := tInts) ⟨F, tIntss.weak h⟩ rfl
  have hix := idx_run1 eIntss sIntss ao ll.length cap hs
  clear hs h hc hn
  go_enter Try.func69, Try.ntmps69
  go_wp2
  go_loopw [5, 1] (fun i b wr => ∃ (q : Nat), q ≤ ll.length ∧ i = .int .i64 q ∧ b = .int .i64 (k + offs ll q) ∧ Hid (tIntss.rd true wr [.slice ao ll.length cap] (markQ k ll q) F) ∧ Chg F w wr) (fun i _ _ => ll.length - (intOf i).toNat)
  case atStart => exact ⟨0, by omega, rfl, by simp [offs], Lib.hid (by rw [markQ_zero]; exact H0.out), Chg.refl _ _⟩
  case round =>
    obtain ⟨q, hq, rfl, rfl, hr, hch⟩ := hrel
    by_cases hlt : q < ll.length
    · have hle := offs_le ll (q + 1)
      have hsu := offs_succ ll q hlt
      have HSU := Lib.hid hsu
      rw [hsu] at hle
      have hml := markQ_len k ll q hq
      obtain ⟨u, Fq, hcq, hrq, hnq, hsub, hset⟩ := intss_row hr.out HN.out (q := q) (by rw [hml]; exact hlt)
      have hgq : (markQ k ll q)[q]'(by rw [hml]; exact hlt) = ll[q] := by
        have := markQ_at k ll q hlt
        rw [List.getElem?_eq_getElem (by rw [hml]; exact hlt)] at this
        exact Option.some.inj this
      rw [hgq] at hrq
      have HRQ := Lib.hid hrq
      have HSET := Lib.hid hset
      have HSUB := Lib.hid hsub
      clear hsu hml hgq hrq hset hsub hnq
      go_wp2_with (go_at_call 26; refine (markIntS_c _ HRQ.out (by omega) (by omega)).mono ?_; rintro e w1 ⟨rfl, hr1, hch1⟩)
      go_roundw
      case rel => exact ⟨q + 1, by omega, by go_num, by rw [HSU.out]; go_num, Lib.hid (by rw [markQ_succ k ll q hlt]; exact HSET.out _ _ hr1 hch1), hch.trans (hch1.mono HSUB.out)⟩
      case measure => simp [intOf]; omega
    · go_wp2
      go_ret
      have hqe : q = ll.length := by omega
      subst hqe
      exact ⟨rfl, by rw [← markQ_all]; exact hr.out, hch⟩

end Go.Proofs.Ytfgnjcodilebeaa
