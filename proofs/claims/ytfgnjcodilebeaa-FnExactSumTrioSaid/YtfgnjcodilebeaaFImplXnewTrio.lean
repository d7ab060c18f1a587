/- One part of the proof: impl.newTrio. No condition beyond those of its theorems. -/
import Derived.Test.YtfgnjcodilebeaaBase
import Derived.Test.YtfgnjcodilebeaaFOwnSet
import Derived.Test.YtfgnjcodilebeaaFRowF
namespace Go.Proofs.Ytfgnjcodilebeaa
open Go.RowKit
set_option maxRecDepth 100000 in
set_option maxHeartbeats 4000000 in
theorem newTrio_c (n : Int) (fid : FuncId) (cap : Array Value) (f : Nat → Nat → Int) {w : World} (hfid : ∀ (args : Array Value) (W : World), (callFunc fid args).run Try.prog W = .ok (.enter fid args) W)
    (hf : ∀ W, Below w.heap.size w W → ∀ q k : Nat, q < 8 → k < 8 → Calls Try.prog fid (#[.int .i64 q, .int .i64 k] ++ cap) W fun e W' => e = .returned (.int .i64 (f q k)) ∧ Below W.heap.size W W') :
    Calls Try.prog 74 #[.int .i64 n, .func (.func fid) #[] cap] w fun e w' => ∃ v', e = .returned (.agg #[.int .i64 n, v']) ∧ Own tIntss w' v' (gridF f 8 8) w.heap.size ∧ Below w.heap.size w w' := by
  go_enter Try.func74, Try.ntmps74
  go_wp2
  go_loopw [11] (fun i wr => ∃ (q : Nat) (s : Value), q ≤ 8 ∧ i = .int .i64 q ∧ Row wr w.heap.size 27 #[.int .i64 0, .slice none 0 0] ∧ Row wr (w.heap.size + 1) 27 #[.int .i64 n, s] ∧ OwnS tInts 31 wr s (gridF f q 8) (w.heap.size + 2) ∧ Below w.heap.size w wr ∧ w.heap.size + 2 ≤ wr.heap.size) (fun i _ => 8 - (intOf i).toNat)
  case atStart => exact ⟨0, _, by omega, rfl, (Row.new _ _ _).alloc _, by simpa using Row.new (w.alloc (.cells #[.int .i64 0, .slice none 0 0] 27)) #[.int .i64 n, .slice none 0 0] 27, by simpa [gridF] using OwnS.nil tInts 31 _ _, bel_two _ _ _, by simp⟩
  case round =>
    obtain ⟨q, s, hq, rfl, hr0, hr1, hown, hb, hsz⟩ := hrel
    by_cases hltq : q < 8
    · have hqI : (q : Int) < 8 := by omega
      have hqb : decide ((q : Int) < 8) = true := by simp; omega
      obtain ⟨wo, rfl⟩ : ∃ wo : World, wo = wr := ⟨_, rfl⟩
      go_wp2
      go_loopw [15, 7] (fun i s wr => ∃ m : Nat, m ≤ 8 ∧ i = .int .i64 m ∧ OwnS tInt 3 wr s (rowF (f q) m) wo.heap.size ∧ Below wo.heap.size wo wr ∧ wo.heap.size ≤ wr.heap.size) (fun i _ _ => 8 - (intOf i).toNat)
      case atStart => exact ⟨0, by omega, rfl, by simpa [rowF] using OwnS.made tInt 3 wo (Nat.le_refl _), bel_box _ _, by simp⟩
      case round =>
        obtain ⟨m, hm, rfl, hownm, hbm, hszm⟩ := hrel
        by_cases hltm : m < 8
        · have hmI : (m : Int) < 8 := by omega
          have hmb : decide ((m : Int) < 8) = true := by simp; omega
          have hbw : Below w.heap.size w wr := hb.trans (hbm.mono (by omega))
          go_wp2_with first
            | (show Calls _ fid _ _ _; refine (hf _ hbw q m hltq hltm).mono ?_; rintro e w1 ⟨rfl, hb1⟩; have hbs := hb1.size)
            | (at_builtin; refine app1 31 3 (.int .i64 0) 8 (hownm.keep hb1) (bel_box _ _) (own_int _ (f q m) _) rfl rfl rfl uInts info_int rfl rfl rfl (by simp [go_sem]) (by omega) (by rw [rowF_len]; omega) (by rw [rowF_len]; omega) ?_; intro v1 w2 hown1 hbel hgr)
          go_roundw
          case rel =>
            have hbx := hbm.trans (hb1.mono hszm)
            exact ⟨m + 1, by omega, by go_num, by rw [rowF_snoc]; exact hown1, hbel _ _ (hbx.trans ((bel_box _ _).mono (by omega))) (by omega) (by simp; omega), by have := hgr.size; simp at this; omega⟩
          case measure => simp [intOf]; omega
        · have hm8 : m = 8 := by omega
          subst hm8
          obtain ⟨a1, k1, rfl⟩ := hown.len
          have hl1 := gridF_len f q 8
          have HL := Lib.hid hl1
          have hv := hownm.own (by rw [rowF_len]; omega)
          obtain ⟨a2, k2, rfl⟩ := hownm.len
          have hr1' := hr1.later hbm
          have hr0' := hr0.later hbm
          have c1 := hr1'.cellS (j := 1) rfl
          have f1 := hr1'.frozen 1
          have f0 := hr1'.frozen 0
          have hbw : Below w.heap.size w wr := hb.trans (hbm.mono (by omega))
          have c0 := hr0'.cellS (j := 0) rfl
          clear hl1
          go_wp2_with (at_builtin; refine app1 22 31 (.slice none 0 0) 24 hown (hbm.trans ((bel_box _ _).mono hszm)) (hv.keep (bel_box _ _)) rfl rfl rfl uIntss info_ints rfl rfl rfl (by simp [go_sem]) (by omega) (by rw [HL.out]; omega) (by rw [HL.out]; omega) ?_; intro v1 w2 hown1 hbel hgr; obtain ⟨a3, k3, rfl⟩ := hown1.len; have hB3 : Below (w.heap.size + 2) wr w2 := hbel _ _ ((bel_box _ _).mono (by omega)) (by omega) (by simp; omega); have f2 := (hr1'.below hB3 (by omega)).frozen 1; have f3 := (hr1'.below hB3 (by omega)).frozen 0; have c2 := (hr1'.below hB3 (by omega)).cellS (j := 1) rfl; have c3 := (hr1'.below hB3 (by omega)).cellS (j := 0) rfl)
          go_roundw
          case rel =>
            exact ⟨q + 1, _, by omega, by go_num, (hr0'.below hB3 (by omega)).other (by simp) _, (hr1'.below hB3 (by omega)).set 1 _, by rw [gridF_snoc]; simpa using hown1.setCell (a := ⟨w.heap.size + 1, 1, none⟩) (by show w.heap.size + 1 < _; omega) (Value.slice a3 ((gridF f q 8).length + 1) k3), (hbel _ _ (hbw.trans ((bel_box _ _).mono (by omega))) (by omega) (by simp; omega)).setCell (by simp) _, by have h9 := hgr.size; simp at h9; first | omega | (simp; omega)⟩
          case measure => simp [intOf]; omega
    · obtain ⟨a1, k1, rfl⟩ := hown.len
      have c0 := hr1.cellS (j := 0) rfl
      have c1 := hr1.cellS (j := 1) rfl
      have f0 := hr0.frozen 0
      have f1 := hr0.frozen 1
      have d0 := hr0.cellS (j := 0) rfl
      have d1 := hr0.cellS (j := 1) rfl
      go_wp2
      have hq8 : q = 8 := by omega
      subst hq8
      have hv := hown.own (by rw [gridF_len]; omega)
      refine bodyPost_ret (v := .agg #[.int .i64 n, .slice a1 (gridF f 8 8).length k1]) (by simp [results, Try.results74, go_sem, c0, c1, d0, d1]) rfl ⟨_, rfl, ?_, ?_⟩
      · exact ((hv.setCell (by simp <;> omega) _).setCell (by simp <;> omega) _).mono (by omega)
      · exact (hb.setCell (by simp) _).setCell (by simp) _

end Go.Proofs.Ytfgnjcodilebeaa
