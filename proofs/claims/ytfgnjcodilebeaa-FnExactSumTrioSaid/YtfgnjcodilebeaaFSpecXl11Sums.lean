/- One part of the proof: spec.l11Sums. No condition beyond those of its theorems. -/
import Derived.Test.YtfgnjcodilebeaaBase
import Derived.Test.YtfgnjcodilebeaaFNumRow
import Derived.Test.YtfgnjcodilebeaaFOwnX
import Derived.Test.YtfgnjcodilebeaaFImplSumTrio
import Derived.Test.YtfgnjcodilebeaaFRowF
import Derived.Test.YtfgnjcodilebeaaFImplXisBits
import Derived.Test.YtfgnjcodilebeaaFImplXplayed
import Derived.Test.YtfgnjcodilebeaaFMathXbitsOnesCount
import Derived.Test.YtfgnjcodilebeaaPCanon
import Derived.Test.YtfgnjcodilebeaaFSpecXl11Triples
namespace Go.Proofs.Ytfgnjcodilebeaa
open Go.RowKit
set_option maxRecDepth 100000 in
set_option maxHeartbeats 4000000 in
theorem l11Sums_c {l : List Int} {v : Value} {w : World} (h : RI w v l) (hB : isBits l (8 : Nat) = true) :
    Calls Try.prog 73 #[v] w fun e w' => ∃ v', e = .returned (.agg #[.int .i64 4, v']) ∧ Own tIntss w' v' (gridF (sumF l) 8 8) w.heap.size ∧ Below w.heap.size w w' := by
  have HB := Lib.hid hB
  obtain ⟨ao, cap, rfl, hl, hs, hc⟩ := h.opn
  have hl8 := isBits_len hB
  have hix : ∀ (W : World) (i : Int), 0 ≤ i → i < 8 → (Instr.indexAt 31 (.slice ao 8 cap) (.int .i64 i)).run Try.prog W = .ok (.pointer (some ((adr ao).add i.toNat))) W := fun W i h0 h1 => by
    have := idx_run1 eInts sInts ao l.length cap hs W i h0 (by omega)
    rwa [hl8] at this
  have hc' : ∀ i, i < 8 → w.cell? ((adr ao).add i) = some (.int .i64 (at1 l i)) := fun i hi => by
    rw [hc i (by omega), at1_lt (by omega)]
  simp only [hl8]
  clear hs h hB hc hl hl8
  go_enter Try.func73, Try.ntmps73
  go_wp2
  go_loopw [4] (fun i wr => ∃ (q : Nat) (s : Value), q ≤ 8 ∧ i = .int .i64 q ∧ Row wr w.heap.size 27 #[.int .i64 0, .slice none 0 0] ∧ Row wr (w.heap.size + 2) 27 #[.int .i64 4, s] ∧ OwnX tInts 31 wr s (gridF (sumF l) q 8) (w.heap.size + 1) (w.heap.size + 2) ∧ Below w.heap.size w wr ∧ w.heap.size + 3 ≤ wr.heap.size) (fun i _ => 8 - (intOf i).toNat)
  case atStart =>
    have hr2 := Row.new ((w.alloc (.cells #[.int .i64 0, .slice none 0 0] 27)).alloc (.cells #[] 31)) #[.int .i64 4, .slice (some ⟨w.heap.size + 1, 0, none⟩) 0 0] 27
    have hm := (OwnX.made tInts 31 (w.alloc (.cells #[.int .i64 0, .slice none 0 0] 27)) (B := w.heap.size + 1) (g := w.heap.size + 2) (by simp) (by simp)).keep (bel_box _ (.cells #[.int .i64 4, .slice (some ⟨w.heap.size + 1, 0, none⟩) 0 0] 27))
    rw [heap_sz, heap_sz] at hr2
    rw [heap_sz] at hm
    exact ⟨0, _, by omega, rfl, ((Row.new _ _ _).alloc _).alloc _, hr2, hm, bel_three _ _ _ _, by simp⟩
  case round =>
    obtain ⟨q, s, hq, rfl, hr0, hr1, hown, hb, hsz⟩ := hrel
    by_cases hltq : q < 8
    · have hqI : (q : Int) < 8 := by omega
      have hqb : decide ((q : Int) < 8) = true := by simp; omega
      obtain ⟨wo, rfl⟩ : ∃ wo : World, wo = wr := ⟨_, rfl⟩
      have eq1 := hc' q hltq
      have bq := isBits_at HB.out q hltq
      go_wp2_with (at_make; refine mk_row 31 3 (.int .i64 0) 8 8 rfl rfl uInts info_int rfl rfl rfl (by omega) (by omega) ?_; intro w1 hrow hb1)
      go_loopw [6] (fun i wr => ∃ k : Nat, k ≤ 8 ∧ i = .int .i64 k ∧ Below wo.heap.size wo wr ∧ Row wr wo.heap.size 3 (numRow (sumF l q) k)) (fun i _ => 8 - (intOf i).toNat)
      case atStart => exact ⟨0, by omega, rfl, hb1, by rw [numRow_zero]; exact hrow⟩
      case round =>
        clear hrow hb1
        obtain ⟨k, hk, rfl, hbk, hrow⟩ := hrel
        by_cases hltk : k < 8
        · have hkI : (k : Int) < 8 := by omega
          have e1 := CellS.of (hb.trans (hbk.mono (by omega))) _ (by rw [eq1]; rfl)
          rw [eq1] at e1
          have h1 := hrow.cellS (numRow_get _ hltk)
          have h2 := hrow.frozen k
          obtain ⟨p, hp⟩ : ∃ p, par8 k = p := ⟨_, rfl⟩
          have HP := Lib.hid hp
          by_cases hpe : par8 k = at1 l q
          · have hpe1 : (p == at1 l q) = true := by rw [← hp, hpe]; simp
            have HE := Lib.hid hpe
            clear hpe hp
            have hf : sumF l q k = 1 := if_pos HE.out
            have HF := Lib.hid hf
            clear hf
            go_wp2
            refine wp_region_D (fun _ => false) [(0, true), (2, true), (3, true), (4, true), (5, true), (1, false), (6, true)] (by kernel_rfl) (by kernel_rfl) ?_; simp only [List.map_cons, List.map_nil, List.getElem?_toArray, List.getElem?_cons_zero, List.getElem?_cons_succ]
            repeat (first | (refine wpD_skip (by rfl) ?_; (try simp only [Act.put, List.setIfInBounds_toArray, List.set_cons_zero, List.set_cons_succ])) | (refine wpD_take (v := ?_) (by rfl) ?_ ?_; rotate_left; (intro wS hS; unfold CellS at hS; go_simp; try with_reducible rfl); (try simp only [Act.put, List.setIfInBounds_toArray, List.set_cons_zero, List.set_cons_succ])))
            refine wpD_do (by rfl) (fun K hK => ?_); go_simp; refine Calls.mono ((l11Parity_v k HP.out _ hltk)) ?_; rintro e wC ⟨rfl, rfl⟩; refine hK _ _ (CellS.refl _) ?_; clear hK K; (try simp only [Act.put, List.setIfInBounds_toArray, List.set_cons_zero, List.set_cons_succ])
            repeat (first | (refine wpD_skip (by rfl) ?_; (try simp only [Act.put, List.setIfInBounds_toArray, List.set_cons_zero, List.set_cons_succ])) | (refine wpD_take (v := ?_) (by rfl) ?_ ?_; rotate_left; (intro wS hS; unfold CellS at hS; go_simp; try with_reducible rfl); (try simp only [Act.put, List.setIfInBounds_toArray, List.set_cons_zero, List.set_cons_succ])))
            refine wpD_nil ?_
            go_wp2
            go_roundw
            case rel => exact ⟨k + 1, by omega, by go_num, hbk.drew.setCell (Nat.le_refl _) _, by have := (hrow.keep (w' := wr.drew) rfl).set k (.int .i64 1); rw [← HF.out, numRow_set _ hltk, HF.out] at this; exact this⟩
            case measure => simp [intOf]; omega
          · have hpe1 : (p == at1 l q) = false := by rw [← hp, beq_eq_false_iff_ne]; exact hpe
            have HE := Lib.hid hpe
            clear hpe hp
            have hf : sumF l q k = 0 := if_neg HE.out
            have HF := Lib.hid hf
            clear hf
            go_wp2
            refine wp_region_D (fun _ => false) [(0, true), (2, true), (3, true), (4, true), (5, true), (1, false), (6, true)] (by kernel_rfl) (by kernel_rfl) ?_; simp only [List.map_cons, List.map_nil, List.getElem?_toArray, List.getElem?_cons_zero, List.getElem?_cons_succ]
            repeat (first | (refine wpD_skip (by rfl) ?_; (try simp only [Act.put, List.setIfInBounds_toArray, List.set_cons_zero, List.set_cons_succ])) | (refine wpD_take (v := ?_) (by rfl) ?_ ?_; rotate_left; (intro wS hS; unfold CellS at hS; go_simp; try with_reducible rfl); (try simp only [Act.put, List.setIfInBounds_toArray, List.set_cons_zero, List.set_cons_succ])))
            refine wpD_do (by rfl) (fun K hK => ?_); go_simp; refine Calls.mono ((l11Parity_v k HP.out _ hltk)) ?_; rintro e wC ⟨rfl, rfl⟩; refine hK _ _ (CellS.refl _) ?_; clear hK K; (try simp only [Act.put, List.setIfInBounds_toArray, List.set_cons_zero, List.set_cons_succ])
            repeat (first | (refine wpD_skip (by rfl) ?_; (try simp only [Act.put, List.setIfInBounds_toArray, List.set_cons_zero, List.set_cons_succ])) | (refine wpD_take (v := ?_) (by rfl) ?_ ?_; rotate_left; (intro wS hS; unfold CellS at hS; go_simp; try with_reducible rfl); (try simp only [Act.put, List.setIfInBounds_toArray, List.set_cons_zero, List.set_cons_succ])))
            refine wpD_nil ?_
            go_wp2
            go_roundw
            case rel => exact ⟨k + 1, by omega, by go_num, hbk.drew, by rw [← numRow_same hltk HF.out]; exact hrow⟩
            case measure => simp [intOf]; omega
        · have hk8 : k = 8 := by omega
          subst hk8
          obtain ⟨a1, k1, rfl⟩ := hown.s.len
          have hl1 := gridF_len (sumF l) q 8
          have HL := Lib.hid hl1
          clear hl1
          have hv := numRow_own 8 hrow (Nat.le_refl wo.heap.size)
          have hr1' := hr1.later hbk
          have hr0' := hr0.later hbk
          have c1 := hr1'.cellS (j := 1) rfl
          have c0 := hr1'.cellS (j := 0) rfl
          have f1 := hr1'.frozen 1
          have f0 := hr1'.frozen 0
          have hbw : Below w.heap.size w wr := hb.trans (hbk.mono (by omega))
          have hszk := hbk.size
          go_wp2_with (at_builtin; refine app1X 22 31 (.slice none 0 0) 24 hown (by omega) (hbk.trans ((bel_box _ _).mono hszk)) (hv.keep (bel_box _ _)) rfl rfl rfl uIntss info_ints rfl rfl rfl (by simp [go_sem]) (by omega) (by rw [HL.out]; omega) (by rw [HL.out]; omega) ?_; intro v1 w2 hown1 hbel hgr hne; obtain ⟨a3, k3, rfl⟩ := hown1.s.len; have hB3 : Below (w.heap.size + 1) wr w2 := hbel _ _ ((bel_box _ _).mono (by omega)) (by omega) (by simp; omega); have hr4 : Row w2 (w.heap.size + 2) 27 #[.int .i64 4, .slice a1 (gridF (sumF l) q 8).length k1] := (hr1'.alloc _).keep (hgr.block _ (by simp; omega) (fun e => hne e.symm)); have f2 := hr4.frozen 1; have f3 := hr4.frozen 0; have c2 := hr4.cellS (j := 1) rfl; have c3 := hr4.cellS (j := 0) rfl)
          go_roundw
          case rel =>
            exact ⟨q + 1, _, by omega, by go_num, (hr0'.below hB3 (by omega)).other (by simp <;> omega) _, hr4.set 1 _, by rw [gridF_snoc]; simpa using hown1.setCell (a := ⟨w.heap.size + 2, 1, none⟩) rfl (Value.slice a3 ((gridF (sumF l) q 8).length + 1) k3), (hbel _ _ (hbw.trans ((bel_box _ _).mono (by omega))) (by omega) (by simp; omega)).setCell (by simp <;> omega) _, by have h9 := hgr.size; simp at h9; first | omega | (simp; omega)⟩
          case measure => simp [intOf]; omega
    · obtain ⟨a1, k1, rfl⟩ := hown.s.len
      have c0 := hr1.cellS (j := 0) rfl
      have c1 := hr1.cellS (j := 1) rfl
      have f0 := hr0.frozen 0
      have f1 := hr0.frozen 1
      have d0 := hr0.cellS (j := 0) rfl
      have d1 := hr0.cellS (j := 1) rfl
      go_wp2
      have hq8 : q = 8 := by omega
      subst hq8
      have hv := hown.s.own (by rw [gridF_len]; omega)
      refine bodyPost_ret (v := .agg #[.int .i64 4, .slice a1 (gridF (sumF l) 8 8).length k1]) (by simp [results, Try.results73, go_sem, c0, c1, d0, d1]) rfl ⟨_, rfl, ?_, ?_⟩
      · exact ((hv.setCell (by simp <;> omega) _).setCell (by simp <;> omega) _).mono (by omega)
      · exact (hb.setCell (by simp) _).setCell (by simp) _

end Go.Proofs.Ytfgnjcodilebeaa
