/- One part of the proof: impl.isQuietTrio. No condition beyond those of its theorems. -/
import Derived.Test.YtfgnjcodilebeaaBase
import Derived.Test.YtfgnjcodilebeaaFImplIsTrio
import Derived.Test.YtfgnjcodilebeaaFImplXallWithin
import Derived.Test.YtfgnjcodilebeaaFImplXtotal
import Derived.Test.YtfgnjcodilebeaaFImplXwithin
import Derived.Test.YtfgnjcodilebeaaPBits
import Derived.Test.YtfgnjcodilebeaaPCanon
namespace Go.Proofs.Ytfgnjcodilebeaa
open Go.RowKit
/-- the numbers of the places that differ by a digit add up alike for the questions that differ by it -/
def quietAt (ll : List (List Int)) (d q a : Nat) : Bool := (q &&& d != 0) || decide (at2 ll q a + at2 ll q (a ^^^ d) = at2 ll (q ||| d) a + at2 ll (q ||| d) (a ^^^ d))
def quiet3 (ll : List (List Int)) : Bool := [4, 2, 1].all fun d => (List.range 8).all fun q => (List.range 8).all fun a => quietAt ll d q a
theorem isTrio_len {n : Int} {ll : List (List Int)} (h : isTrio n ll = true) : 1 ≤ n ∧ n ≤ 1000 ∧ ll.length = 8 ∧ ∀ q (hq : q < ll.length), rowOk n ll[q] = true := by
  simp only [isTrio, Bool.and_eq_true, decide_eq_true_eq, List.all_eq_true] at h
  obtain ⟨⟨h1, h2⟩, h3⟩ := h
  rw [inB_iff] at h1
  exact ⟨h1.1, h1.2, h2, fun q hq => h3 _ (List.getElem_mem hq)⟩
theorem rowOk_len {n : Int} {row : List Int} (h : rowOk n row = true) : row.length = 8 ∧ (∀ k (hk : k < row.length), 0 ≤ row[k] ∧ row[k] ≤ n) ∧ sumW row = n := by
  simp only [rowOk, Bool.and_eq_true, decide_eq_true_eq, allB, List.all_eq_true] at h
  obtain ⟨⟨h1, h2⟩, h3⟩ := h
  exact ⟨h1, fun k hk => inB_iff.1 (h2 _ (List.getElem_mem hk)), h3⟩
theorem isTrio_rows {n : Int} {ll : List (List Int)} (h : isTrio n ll = true) : ∀ q (hq : q < ll.length), ll[q].length = 8 := fun q hq => (rowOk_len ((isTrio_len h).2.2.2 q hq)).1
theorem isTrio_at {n : Int} {ll : List (List Int)} (h : isTrio n ll = true) (q k : Nat) (hq : q < 8) (hk : k < 8) : 0 ≤ at2 ll q k ∧ at2 ll q k ≤ 1000 := by
  obtain ⟨_, hn, hl, hr⟩ := isTrio_len h
  obtain ⟨h1, h2, _⟩ := rowOk_len (hr q (by omega))
  have := h2 k (by omega)
  simp [at2, show q < ll.length from by omega, show k < ll[q].length from by omega]
  omega

theorem range_all_f {f : Nat → Bool} {n k : Nat} (h : k < n) (hf : f k = false) : (List.range n).all f = false := by
  rw [← Bool.not_eq_true, List.all_eq_true]; intro H; have := H k (List.mem_range.2 h); rw [hf] at this; cases this
theorem quiet_digit (p : Nat) (h : p < 3) : ∃ d : Nat, (4 : Int) / 2 ^ p = (d : Int) ∧ (∀ f : Nat → Bool, (List.take (p + 1) [4, 2, 1]).all f = ((List.take p [4, 2, 1]).all f && f d)) ∧ d ≤ 4 ∧ (∀ f : Nat → Bool, f d = false → [4, 2, 1].all f = false) ∧ (∀ a, a < 8 → a ^^^ d < 8) ∧ ∀ q, q < 8 → q &&& d = 0 → q ||| d < 8 := by
  have : p = 0 ∨ p = 1 ∨ p = 2 := by omega
  rcases this with rfl | rfl | rfl
  · exact ⟨4, by decide, fun f => by simp, by decide, fun f h => by simp [h], by decide, by decide⟩
  · exact ⟨2, by decide, fun f => by simp, by decide, fun f h => by simp [h], by decide, by decide⟩
  · exact ⟨1, by decide, fun f => by simp [Bool.and_assoc], by decide, fun f h => by simp [h], by decide, by decide⟩

set_option maxRecDepth 100000 in
set_option maxHeartbeats 4000000 in
theorem isQuietTrio_c {ll : List (List Int)} {v : Value} (n : Int) {w : World} (h : RII w v ll) (ht : isTrio n ll = true) :
    Calls Try.prog 72 #[.agg #[.int .i64 n, v]] w fun e w' => e = .returned (.bool (quiet3 ll)) ∧ Below w.heap.size w w' := by
  have HT := Lib.hid ht
  obtain ⟨ao, cap, A, C, rfl, hs, hsA, hg⟩ := RII.grid h (isTrio_len ht).2.2.1 (isTrio_rows ht)
  have hix := idx_run1 eIntss sIntss ao 8 cap hs
  have hiq : ∀ q, q < 8 → ∀ (W : World) (i : Int), 0 ≤ i → i < 8 → (Instr.indexAt 31 (.slice (A q) 8 (C q)) (.int .i64 i)).run Try.prog W = .ok (.pointer (some ((adr (A q)).add i.toNat))) W :=
    fun q hq W i h0 h1 => idx_run1 eInts sInts (A q) 8 (C q) (hsA q hq) W i h0 (by omega)
  clear hs hsA h ht
  go_enter Try.func72, Try.ntmps72
  go_wp2
  go_loopw [9] (fun i wr => ∃ p : Nat, p ≤ 3 ∧ i = .int .i64 p ∧ Below w.heap.size w wr ∧ wr.cell? ⟨w.heap.size, 1, none⟩ = some (.slice ao 8 cap) ∧ Hid (((List.take p [4, 2, 1]).all fun d => (List.range 8).all fun q => (List.range 8).all fun a => quietAt ll d q a) = true)) (fun i _ => 3 - (intOf i).toNat)
  case atStart => exact ⟨0, by omega, rfl, bel_box _ _, by simp, Lib.hid rfl⟩
  case round =>
    obtain ⟨p, hp, rfl, hb, hn1, ha⟩ := hrel
    by_cases hlt : p < 3
    · obtain ⟨d, hd, hdm, hd4, hdf, hdx, hdo⟩ := quiet_digit p hlt
      have HF := Lib.hid hdf
      have HD := Lib.hid hdm
      have HX := Lib.hid hdx
      have HO := Lib.hid hdo
      clear hdm hdx hdo hdf
      go_wp2
      go_loopw [17] (fun i wr => ∃ q : Nat, q ≤ 8 ∧ i = .int .i64 q ∧ Below w.heap.size w wr ∧ wr.cell? ⟨w.heap.size, 1, none⟩ = some (.slice ao 8 cap) ∧ Hid (((List.range q).all fun q => (List.range 8).all fun a => quietAt ll d q a) = true)) (fun i _ => 8 - (intOf i).toNat)
      case atStart => exact ⟨0, by omega, rfl, hb, hn1, Lib.hid rfl⟩
      case round =>
        clear hb hn1
        obtain ⟨q, hq, rfl, hb, hn1, ha2⟩ := hrel
        by_cases hltq : q < 8
        · have hgw := hg.keep hb
          have hr1 := hgw.row q hltq
          have hband := band_nat q d (by omega) (by omega)
          have hbor := bor_nat q d (by omega) (by omega)
          by_cases hqd' : q &&& d = 0
          · have hqd : (((q &&& d : Nat) : Int) != 0) = false := by rw [hqd']; rfl
            have HQD := Lib.hid hqd'
            have hqo := HO.out q hltq hqd'
            clear hqd'
            have hqoI : ((q ||| d : Nat) : Int) < 8 := Int.ofNat_lt.2 hqo
            have hr2 := hgw.row (q ||| d) hqo
            have hiq1 := hiq q hltq
            have hiq2 := hiq (q ||| d) hqo
            go_wp2
            go_loopw [35] (fun i wr => ∃ k : Nat, k ≤ 8 ∧ i = .int .i64 k ∧ Below w.heap.size w wr ∧ wr.cell? ⟨w.heap.size, 1, none⟩ = some (.slice ao 8 cap) ∧ Hid (((List.range k).all fun a => quietAt ll d q a) = true)) (fun i _ => 8 - (intOf i).toNat)
            case atStart => exact ⟨0, by omega, rfl, hb, hn1, Lib.hid rfl⟩
            case round =>
              clear hb hn1 hr1 hr2 hgw
              obtain ⟨k, hk, rfl, hb, hn1, ha3⟩ := hrel
              by_cases hltk : k < 8
              · have hgw := hg.keep hb
                have hkx := HX.out k hltk
                have hkxI : ((k ^^^ d : Nat) : Int) < 8 := Int.ofNat_lt.2 hkx
                have e1 := hgw.cell q hltq k hltk
                have e2 := hgw.cell q hltq (k ^^^ d) hkx
                have e3 := hgw.cell (q ||| d) hqo k hltk
                have e4 := hgw.cell (q ||| d) hqo (k ^^^ d) hkx
                have hxor := bxor_nat k d (by omega) (by omega)
                obtain ⟨b1, b1'⟩ := isTrio_at HT.out q k hltq hltk
                obtain ⟨b2, b2'⟩ := isTrio_at HT.out q (k ^^^ d) hltq hkx
                obtain ⟨b3, b3'⟩ := isTrio_at HT.out (q ||| d) k hqo hltk
                obtain ⟨b4, b4'⟩ := isTrio_at HT.out (q ||| d) (k ^^^ d) hqo hkx
                clear hgw hiq
                cases hcmp : decide (at2 ll q k + at2 ll q (k ^^^ d) = at2 ll (q ||| d) k + at2 ll (q ||| d) (k ^^^ d))
                all_goals
                  have hne : (at2 ll q k + at2 ll q (k ^^^ d) != at2 ll (q ||| d) k + at2 ll (q ||| d) (k ^^^ d)) = !decide (at2 ll q k + at2 ll q (k ^^^ d) = at2 ll (q ||| d) k + at2 ll (q ||| d) (k ^^^ d)) := bne_dec _ _
                  rw [hcmp] at hne
                  have hw1 : IntKind.i64.wrap (at2 ll q k + at2 ll q (k ^^^ d)) = at2 ll q k + at2 ll q (k ^^^ d) := IntWalk.i64_in _ (by omega)
                  have hw2 : IntKind.i64.wrap (at2 ll (q ||| d) k + at2 ll (q ||| d) (k ^^^ d)) = at2 ll (q ||| d) k + at2 ll (q ||| d) (k ^^^ d) := IntWalk.i64_in _ (by omega)
                  go_wp2
                  refine wp_region_D (fun _ => false) [(0, true), (1, true), (2, true), (3, true), (4, true), (5, true), (6, true), (7, true), (8, true), (9, true), (10, true), (11, true), (12, true), (13, true), (14, true), (15, true), (16, true), (17, true), (18, true), (19, true), (20, true), (21, true), (22, true)] (by kernel_rfl) (by kernel_rfl) ?_; simp only [List.map_cons, List.map_nil, List.getElem?_toArray, List.getElem?_cons_zero, List.getElem?_cons_succ]
                  repeat (first | (refine wpD_skip (by rfl) ?_; (try simp only [Act.put, List.setIfInBounds_toArray, List.set_cons_zero, List.set_cons_succ])) | (refine wpD_take (v := ?_) (by rfl) ?_ ?_; rotate_left; (intro wS hS; unfold CellS at hS; go_simp; try with_reducible rfl); (try simp only [Act.put, List.setIfInBounds_toArray, List.set_cons_zero, List.set_cons_succ])))
                  refine wpD_nil ?_
                  go_wp2
                · go_ret
                  exact ⟨ret_bool (HF.out _ (range_all_f hltq (range_all_f hltk (by simp [quietAt, HQD.out, hcmp])))).symm, hb.drew⟩
                · go_roundw
                  case rel => exact ⟨k + 1, by omega, by go_num, hb.drew, by simpa using hn1, Lib.hid (by rw [List.range_succ, List.all_append, ha3.out]; simp [quietAt, HQD.out, hcmp])⟩
                  case measure => simp [intOf]; omega
              · go_wp2
                go_roundw
                case rel => exact ⟨q + 1, by omega, by go_num, hb, hn1, Lib.hid (by have h8 : k = 8 := (by omega); subst h8; rw [List.range_succ, List.all_append, ha2.out, List.all_cons, ha3.out]; rfl)⟩
                case measure => simp [intOf]; omega
          · have hqd : (((q &&& d : Nat) : Int) != 0) = true := by rw [bne_iff_ne]; omega
            have HQD := Lib.hid hqd'
            clear hqd'
            have hiq1 := hiq q hltq
            go_wp2
            go_roundw
            case rel => exact ⟨q + 1, by omega, by go_num, hb, hn1, Lib.hid (by rw [List.range_succ, List.all_append, ha2.out]; simp [quietAt, HQD.out])⟩
            case measure => simp [intOf]; omega
        · go_wp2
          go_roundw
          case rel => exact ⟨p + 1, by omega, by go_num, hb, hn1, Lib.hid (by have h8 : q = 8 := (by omega); subst h8; rw [HD.out, ha.out, ha2.out]; rfl)⟩
          case measure => simp [intOf]; omega
    · go_wp2
      go_ret
      exact ⟨ret_bool (by have hp3 : p = 3 := (by omega); subst hp3; exact ha.out.symm), hb⟩

end Go.Proofs.Ytfgnjcodilebeaa
