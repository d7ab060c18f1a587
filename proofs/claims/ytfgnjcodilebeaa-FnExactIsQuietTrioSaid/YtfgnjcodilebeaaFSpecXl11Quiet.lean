/- One part of the proof: spec.l11Quiet. No condition beyond those of its theorems. -/
import Derived.Test.YtfgnjcodilebeaaBase
import Derived.Test.YtfgnjcodilebeaaFImplIsTrio
import Derived.Test.YtfgnjcodilebeaaFImplXisQuietTrio
import Derived.Test.YtfgnjcodilebeaaPBits
import Derived.Test.YtfgnjcodilebeaaPCanon
namespace Go.Proofs.Ytfgnjcodilebeaa
open Go.RowKit
def spQuietAt (ll : List (List Int)) (d q a : Nat) : Bool := (q &&& d != 0) || (a &&& d != 0) || decide (at2 ll q a + at2 ll q (a ^^^ d) = at2 ll (q ||| d) a + at2 ll (q ||| d) (a ^^^ d))
def spQuiet (ll : List (List Int)) (p : Nat) : Bool := (List.take p [1, 2, 4]).all fun d => (List.range 8).all fun q => (List.range 8).all fun a => spQuietAt ll d q a
theorem spQuiet_row {ll : List (List Int)} {d q : Nat} (h : d = 1 ∨ d = 2 ∨ d = 4) : ((List.range 8).all fun a => spQuietAt ll d q a) = ((List.range 8).all fun a => quietAt ll d q a) := by
  rw [Bool.eq_iff_iff, List.all_eq_true, List.all_eq_true]
  constructor
  · intro H a ha
    by_cases hd : a &&& d = 0
    · have := H a ha
      simpa [spQuietAt, quietAt, hd] using this
    · have hx : a ^^^ d < 8 ∧ (a ^^^ d) &&& d = 0 ∧ (a ^^^ d) ^^^ d = a := by
        have ha' := List.mem_range.1 ha
        have hall : ∀ d, (d = 1 ∨ d = 2 ∨ d = 4) → ∀ a, a < 8 → a &&& d ≠ 0 → a ^^^ d < 8 ∧ (a ^^^ d) &&& d = 0 ∧ (a ^^^ d) ^^^ d = a := by
          rintro d (rfl | rfl | rfl) <;> decide
        exact hall d h a ha' hd
      have := H (a ^^^ d) (List.mem_range.2 hx.1)
      simp only [spQuietAt, quietAt, hx.2.1, hx.2.2, Bool.or_eq_true, bne_iff_ne, ne_eq, not_true_eq_false, or_false, decide_eq_true_eq] at this ⊢
      rcases this with h1 | h1
      · exact .inl h1
      · right; omega
  · intro H a ha
    have := H a ha
    simp only [spQuietAt, quietAt, Bool.or_eq_true] at this ⊢
    rcases this with h1 | h1
    · exact .inl (.inl h1)
    · exact .inr h1
theorem spQuiet_eq (ll : List (List Int)) : spQuiet ll 3 = quiet3 ll := by
  have e : ∀ d, (d = 1 ∨ d = 2 ∨ d = 4) → ((List.range 8).all fun q => (List.range 8).all fun a => spQuietAt ll d q a) = ((List.range 8).all fun q => (List.range 8).all fun a => quietAt ll d q a) := fun d hd =>
    congrArg (List.all (List.range 8)) (funext fun q => spQuiet_row hd)
  unfold spQuiet quiet3
  simp only [List.take_succ_cons, List.take_zero, List.all_cons, List.all_nil, Bool.and_true]
  rw [e 1 (by simp), e 2 (by simp), e 4 (by simp)]
  cases (List.range 8).all fun q => (List.range 8).all fun a => quietAt ll 1 q a <;> cases (List.range 8).all fun q => (List.range 8).all fun a => quietAt ll 2 q a <;> cases (List.range 8).all fun q => (List.range 8).all fun a => quietAt ll 4 q a <;> rfl
theorem spQuiet_digit (p : Nat) (h : p < 3) : ∃ d : Nat, ((2 ^ p : Nat) : Int) = (d : Int) ∧ ((2 ^ (p + 1) : Nat) : Int) = (d : Int) * 2 ∧ (∀ f : Nat → Bool, (List.take (p + 1) [1, 2, 4]).all f = ((List.take p [1, 2, 4]).all f && f d)) ∧ 0 < d ∧ d ≤ 4 ∧ (∀ f : Nat → Bool, f d = false → [1, 2, 4].all f = false) ∧
    (∀ a, a < 8 → a &&& d = 0 → a ^^^ d = a + d ∧ a + d < 8) ∧ ∀ q, q < 8 → q &&& d = 0 → q ||| d = q + d := by
  have : p = 0 ∨ p = 1 ∨ p = 2 := by omega
  rcases this with rfl | rfl | rfl
  · exact ⟨1, by decide, by decide, fun f => by simp, by decide, by decide, fun f h => by simp [h], by decide, by decide⟩
  · exact ⟨2, by decide, by decide, fun f => by simp, by decide, by decide, fun f h => by simp [h], by decide, by decide⟩
  · exact ⟨4, by decide, by decide, fun f => by simp [Bool.and_assoc], by decide, by decide, fun f h => by simp [h], by decide, by decide⟩

set_option maxRecDepth 100000 in
set_option maxHeartbeats 4000000 in
theorem l11Quiet_c {ll : List (List Int)} {v : Value} (n : Int) {w : World} (h : RII w v ll) (ht : isTrio n ll = true) :
    Calls Try.prog 71 #[.agg #[.int .i64 n, v]] w fun e w' => e = .returned (.bool (quiet3 ll)) ∧ Below w.heap.size w w' := by
  have HT := Lib.hid ht
  obtain ⟨ao, cap, A, C, rfl, hs, hsA, hg⟩ := RII.grid h (isTrio_len ht).2.2.1 (isTrio_rows ht)
  have hix := idx_run1 eIntss sIntss ao 8 cap hs
  have hiq : ∀ q, q < 8 → ∀ (W : World) (i : Int), 0 ≤ i → i < 8 → (Instr.indexAt 31 (.slice (A q) 8 (C q)) (.int .i64 i)).run Try.prog W = .ok (.pointer (some ((adr (A q)).add i.toNat))) W :=
    fun q hq W i h0 h1 => idx_run1 eInts sInts (A q) 8 (C q) (hsA q hq) W i h0 (by omega)
  clear hs hsA h ht
  go_enter Try.func71, Try.ntmps71
  go_wp2
  go_loopw [3] (fun i wr => ∃ (p : Nat) (x : Int), p ≤ 3 ∧ i = .int .i64 x ∧ Hid (x = ((2 ^ p : Nat) : Int)) ∧ Below w.heap.size w wr ∧ wr.cell? ⟨w.heap.size, 1, none⟩ = some (.slice ao 8 cap) ∧ Hid (spQuiet ll p = true)) (fun i _ => (8 - intOf i).toNat)
  case atStart => exact ⟨0, 1, by omega, rfl, Lib.hid rfl, bel_box _ _, by simp, Lib.hid rfl⟩
  case round =>
    obtain ⟨p, x, hp, rfl, hx, hb, hn1, ha⟩ := hrel
    by_cases hlt : p < 3
    · obtain ⟨d, hd, hd2, hdm, hd0, hd4, hdf, hdx, hdo⟩ := spQuiet_digit p hlt
      have hxd : x = (d : Int) := hx.out.trans hd
      subst hxd
      have HD := Lib.hid hdm
      have HD2 := Lib.hid hd2
      have HX := Lib.hid hdx
      have HO := Lib.hid hdo
      have HF := Lib.hid hdf
      clear hdm hdx hdo hdf hd hd2 hx
      go_wp2
      go_loopw [4] (fun i wr => ∃ q : Nat, q ≤ 8 ∧ i = .int .i64 q ∧ Below w.heap.size w wr ∧ wr.cell? ⟨w.heap.size, 1, none⟩ = some (.slice ao 8 cap) ∧ Hid (((List.range q).all fun q => (List.range 8).all fun a => spQuietAt ll d q a) = true)) (fun i _ => 8 - (intOf i).toNat)
      case atStart => exact ⟨0, by omega, rfl, hb, hn1, Lib.hid rfl⟩
      case round =>
        clear hb hn1
        obtain ⟨q, hq, rfl, hb, hn1, ha2⟩ := hrel
        by_cases hltq : q < 8
        · have hband := band_nat q d (by omega) (by omega)
          go_wp2
          go_loopw [5] (fun i wr => ∃ k : Nat, k ≤ 8 ∧ i = .int .i64 k ∧ Below w.heap.size w wr ∧ wr.cell? ⟨w.heap.size, 1, none⟩ = some (.slice ao 8 cap) ∧ Hid (((List.range k).all fun a => spQuietAt ll d q a) = true)) (fun i _ => 8 - (intOf i).toNat)
          case atStart => exact ⟨0, by omega, rfl, hb, hn1, Lib.hid rfl⟩
          case round =>
            clear hb hn1
            obtain ⟨k, hk, rfl, hb, hn1, ha3⟩ := hrel
            by_cases hltk : k < 8
            · have hbandk := band_nat k d (by omega) (by omega)
              by_cases hqd' : q &&& d = 0
              · have hqd : (((q &&& d : Nat) : Int) != 0) = false := by rw [hqd']; rfl
                have HQD := Lib.hid hqd'
                have hqo := HO.out q hltq hqd'
                have hqo8 := (HX.out q hltq hqd').2
                have HQO := Lib.hid hqo
                clear hqd' hqo
                by_cases hkd' : k &&& d = 0
                · have hkd : (((k &&& d : Nat) : Int) != 0) = false := by rw [hkd']; rfl
                  have HKD := Lib.hid hkd'
                  obtain ⟨hkx, hkx8⟩ := HX.out k hltk hkd'
                  have HKX := Lib.hid hkx
                  clear hkd' hkx
                  have hgw := hg.keep hb
                  have hr1 := hgw.row q hltq
                  have hr2 := hgw.row (q + d) hqo8
                  have hiq1 := hiq q hltq
                  have hiq2 := hiq (q + d) hqo8
                  have e1 := hgw.cell q hltq k hltk
                  have e2 := hgw.cell q hltq (k + d) hkx8
                  have e3 := hgw.cell (q + d) hqo8 k hltk
                  have e4 := hgw.cell (q + d) hqo8 (k + d) hkx8
                  obtain ⟨b1, b1'⟩ := isTrio_at HT.out q k hltq hltk
                  obtain ⟨b2, b2'⟩ := isTrio_at HT.out q (k + d) hltq hkx8
                  obtain ⟨b3, b3'⟩ := isTrio_at HT.out (q + d) k hqo8 hltk
                  obtain ⟨b4, b4'⟩ := isTrio_at HT.out (q + d) (k + d) hqo8 hkx8
                  have t1 : ((k : Int) + (d : Int)).toNat = k + d := by omega
                  have t2 : ((q : Int) + (d : Int)).toNat = q + d := by omega
                  have w1 : IntKind.i64.wrap ((k : Int) + (d : Int)) = (k : Int) + (d : Int) := IntWalk.i64_in _ (by omega)
                  have w2 : IntKind.i64.wrap ((q : Int) + (d : Int)) = (q : Int) + (d : Int) := IntWalk.i64_in _ (by omega)
                  have l1 : (k : Int) + (d : Int) < 8 := by omega
                  have l2 : (q : Int) + (d : Int) < 8 := by omega
                  have l3 : 0 ≤ (k : Int) + (d : Int) := by omega
                  have l4 : 0 ≤ (q : Int) + (d : Int) := by omega
                  clear hgw hiq
                  cases hcmp : decide (at2 ll q k + at2 ll q (k + d) = at2 ll (q + d) k + at2 ll (q + d) (k + d))
                  all_goals
                    have hne : (at2 ll q k + at2 ll q (k + d) != at2 ll (q + d) k + at2 ll (q + d) (k + d)) = !decide (at2 ll q k + at2 ll q (k + d) = at2 ll (q + d) k + at2 ll (q + d) (k + d)) := bne_dec _ _
                    rw [hcmp] at hne
                    have hw1 : IntKind.i64.wrap (at2 ll q k + at2 ll q (k + d)) = at2 ll q k + at2 ll q (k + d) := IntWalk.i64_in _ (by omega)
                    have hw2 : IntKind.i64.wrap (at2 ll (q + d) k + at2 ll (q + d) (k + d)) = at2 ll (q + d) k + at2 ll (q + d) (k + d) := IntWalk.i64_in _ (by omega)
                    go_wp2
                    refine wp_region_D (fun _ => false) [(0, true), (1, true), (2, true), (3, true), (4, true), (5, true), (6, true), (7, true), (8, true), (9, true), (10, true), (11, true), (12, true), (13, true), (14, true), (15, true), (16, true), (17, true), (18, true), (19, true), (20, true), (21, true), (22, true), (23, true), (24, true), (25, true), (26, true), (27, true), (28, true), (29, true), (30, true), (31, true), (32, true), (33, true), (34, true), (35, true), (36, true), (37, true), (38, true), (39, true), (40, true), (41, true), (42, true)] (by kernel_rfl) (by kernel_rfl) ?_; simp only [List.map_cons, List.map_nil, List.getElem?_toArray, List.getElem?_cons_zero, List.getElem?_cons_succ]
                    repeat (first | (refine wpD_skip (by rfl) ?_; (try simp only [Act.put, List.setIfInBounds_toArray, List.set_cons_zero, List.set_cons_succ])) | (refine wpD_take (v := ?_) (by rfl) ?_ ?_; rotate_left; (intro wS hS; unfold CellS at hS; go_simp; try with_reducible rfl); (try simp only [Act.put, List.setIfInBounds_toArray, List.set_cons_zero, List.set_cons_succ])))
                    refine wpD_nil ?_
                    go_wp2
                  · go_ret
                    exact ⟨ret_bool (by rw [← spQuiet_eq]; exact (HF.out _ (range_all_f hltq (range_all_f hltk (by simp [spQuietAt, HQD.out, HKD.out, HQO.out, HKX.out, hcmp])))).symm), hb.drew⟩
                  · go_roundw
                    case rel => exact ⟨k + 1, by omega, by go_num, hb.drew, by simpa using hn1, Lib.hid (by rw [List.range_succ, List.all_append, ha3.out]; simp [spQuietAt, HQD.out, HKD.out, HQO.out, HKX.out, hcmp])⟩
                    case measure => simp [intOf]; omega
                · have hkd : (((k &&& d : Nat) : Int) != 0) = true := by rw [bne_iff_ne]; omega
                  have HKD := Lib.hid hkd'
                  clear hkd'
                  go_wp2
                  go_roundw
                  case rel => exact ⟨k + 1, by omega, by go_num, hb, hn1, Lib.hid (by rw [List.range_succ, List.all_append, ha3.out]; simp [spQuietAt, HKD.out])⟩
                  case measure => simp [intOf]; omega
              · have hqd : (((q &&& d : Nat) : Int) != 0) = true := by rw [bne_iff_ne]; omega
                have HQD := Lib.hid hqd'
                clear hqd'
                go_wp2
                go_roundw
                case rel => exact ⟨k + 1, by omega, by go_num, hb, hn1, Lib.hid (by rw [List.range_succ, List.all_append, ha3.out]; simp [spQuietAt, HQD.out])⟩
                case measure => simp [intOf]; omega
            · go_wp2
              go_roundw
              case rel => exact ⟨q + 1, by omega, by go_num, hb, hn1, Lib.hid (by have h8 : k = 8 := (by omega); subst h8; rw [List.range_succ, List.all_append, ha2.out, List.all_cons, ha3.out]; rfl)⟩
              case measure => simp [intOf]; omega
        · go_wp2
          go_roundw
          case rel => exact ⟨p + 1, (d : Int) * 2, by omega, by go_num, Lib.hid HD2.out.symm, hb, hn1, Lib.hid (by have h8 : q = 8 := (by omega); subst h8; unfold spQuiet; rw [HD.out]; have := ha.out; unfold spQuiet at this; rw [this, ha2.out]; rfl)⟩
          case measure => simp [intOf]; omega
    · have hp3 : p = 3 := by omega
      subst hp3
      have hx8 : x = 8 := hx.out
      subst hx8
      go_wp2
      go_ret
      exact ⟨ret_bool (by rw [← spQuiet_eq]; exact ha.out.symm), hb⟩

end Go.Proofs.Ytfgnjcodilebeaa
