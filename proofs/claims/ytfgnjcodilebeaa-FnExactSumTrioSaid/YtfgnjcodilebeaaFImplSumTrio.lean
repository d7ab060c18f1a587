/- One part of the proof: impl.SumTrio. No condition beyond those of its theorems. -/
import Derived.Test.YtfgnjcodilebeaaBase
import Derived.Test.YtfgnjcodilebeaaFImplXnewTrio
import Derived.Test.YtfgnjcodilebeaaFImplXisBits
import Derived.Test.YtfgnjcodilebeaaFImplXplayed
import Derived.Test.YtfgnjcodilebeaaFRowF
import Derived.Test.YtfgnjcodilebeaaFImplTrioXagreements
import Derived.Test.YtfgnjcodilebeaaFMathXbitsOnesCount
import Derived.Test.YtfgnjcodilebeaaPCanon
namespace Go.Proofs.Ytfgnjcodilebeaa
open Go.RowKit
def sumF (l : List Int) (q k : Nat) : Int := if par8 k = at1 l q then 1 else 0
set_option maxRecDepth 100000 in
set_option maxHeartbeats 1000000 in
theorem SumTrio1_v {l : List Int} {v : Value} {w W : World} (b q k : Nat) (p u x y : Int) (hq : q < 8) (hk : k < 8) (h : RI w v l) (hW : Below w.heap.size w W) (hr : Row W b 31 #[v]) (h8 : l.length = 8)
    (hp : par8 k = p) (hu : at1 l q = u) (hx : bits .xor .i64 p u = x) (hy : 1 - x = y) (hx0 : 0 ≤ x) (hx1 : x ≤ 1) :
    Calls Try.prog 75 #[.int .i64 q, .int .i64 k, .pointer (some ⟨b, 0, none⟩)] W fun e W' => e = .returned (.int .i64 y) ∧ Below W.heap.size W W' := by
  have h' := Rd.keep h hW
  obtain ⟨ao, cap, rfl, hl, hs, hc⟩ := RI.opn h'
  have hix := idx_run1 eInts sInts ao l.length cap hs
  have hqI : (q : Int) < 8 := by omega
  have c0 := hr.cellS (j := 0) rfl
  have e1 : W.cell? ((adr ao).add q) = some (.int .i64 u) := by
    rw [hc q (by omega), ← hu, at1_lt (by omega)]
  have hq1 : (q : Int) < (l.length : Int) := by omega
  have hxy : IntKind.i64.wrap (1 - x) = y := by rw [← hy]; exact IntWalk.i64_in _ (by omega)
  have HP := Lib.hid hp
  clear h h' hs hc hr hW hl hu hp hy h8
  go_enter Try.func75, Try.ntmps75
  go_wp2
  refine wp_region_D (fun _ => false) [(0, true), (2, true), (3, true), (4, true), (5, true), (1, false), (6, true), (7, true), (8, true)] (by kernel_rfl) (by kernel_rfl) ?_; simp only [List.map_cons, List.map_nil, List.getElem?_toArray, List.getElem?_cons_zero, List.getElem?_cons_succ]
  repeat (first | (refine wpD_skip (by rfl) ?_; (try simp only [Act.put, List.setIfInBounds_toArray, List.set_cons_zero, List.set_cons_succ])) | (refine wpD_take (v := ?_) (by rfl) ?_ ?_; rotate_left; (intro wS hS; unfold CellS at hS; go_simp; try with_reducible rfl); (try simp only [Act.put, List.setIfInBounds_toArray, List.set_cons_zero, List.set_cons_succ])))
  refine wpD_do (by rfl) (fun K hK => ?_); go_simp; refine Calls.mono ((parity_v k HP.out _ hk)) ?_; rintro e wC ⟨rfl, rfl⟩; refine hK _ _ (CellS.refl _) ?_; clear hK K; (try simp only [Act.put, List.setIfInBounds_toArray, List.set_cons_zero, List.set_cons_succ])
  repeat (first | (refine wpD_skip (by rfl) ?_; (try simp only [Act.put, List.setIfInBounds_toArray, List.set_cons_zero, List.set_cons_succ])) | (refine wpD_take (v := ?_) (by rfl) ?_ ?_; rotate_left; (intro wS hS; unfold CellS at hS; go_simp; try with_reducible rfl); (try simp only [Act.put, List.setIfInBounds_toArray, List.set_cons_zero, List.set_cons_succ])))
  refine wpD_nil ?_
  go_wp2
  go_ret
  exact ⟨rfl, (Below.refl _ _).drew⟩
theorem SumTrio1_c {l : List Int} {v : Value} {w W : World} (b q k : Nat) (hq : q < 8) (hk : k < 8) (h : RI w v l) (hW : Below w.heap.size w W) (hr : Row W b 31 #[v]) (hB : isBits l (8 : Nat) = true) :
    Calls Try.prog 75 #[.int .i64 q, .int .i64 k, .pointer (some ⟨b, 0, none⟩)] W fun e W' => e = .returned (.int .i64 (sumF l q k)) ∧ Below W.heap.size W W' := by
  have b1 := isBits_at hB q hq
  have h8 := isBits_len hB
  rcases par8_two k with hp | hp
  all_goals rcases (by omega : at1 l q = 0 ∨ at1 l q = 1) with hu | hu
  all_goals rw [sumF, hp, hu]
  · exact SumTrio1_v b q k 0 0 0 1 hq hk h hW hr h8 hp hu (by kernel_rfl) (by omega) (by omega) (by omega)
  · exact SumTrio1_v b q k 0 1 1 0 hq hk h hW hr h8 hp hu (by kernel_rfl) (by omega) (by omega) (by omega)
  · exact SumTrio1_v b q k 1 0 1 0 hq hk h hW hr h8 hp hu (by kernel_rfl) (by omega) (by omega) (by omega)
  · exact SumTrio1_v b q k 1 1 0 1 hq hk h hW hr h8 hp hu (by kernel_rfl) (by omega) (by omega) (by omega)
def sumR (l : List Int) : List (List Int) := whenL (isBits l (8 : Nat)) (gridF (sumF l) 8 8)
def sumN (l : List Int) : Int := whenN (isBits l (8 : Nat)) 4
set_option maxRecDepth 100000 in
set_option maxHeartbeats 1000000 in
theorem SumTrio_c {l : List Int} {v : Value} {w : World} (h : RI w v l) :
    Calls Try.prog 32 #[v] w fun e w' => ∃ v', e = .returned (.tuple #[.agg #[.int .i64 (sumN l), v'], .bool (isBits l (8 : Nat))]) ∧ Own tIntss w' v' (sumR l) w.heap.size ∧ Below w.heap.size w w' := by
  have H0 := Lib.hid h
  obtain ⟨ao, cap, rfl, hl, hs, hc⟩ := h.opn
  clear hs h hc
  go_enter Try.func32, Try.ntmps32
  cases ht : isBits l (8 : Nat)
  · have HT := Lib.hid ht
    clear ht
    go_wp2_with fail
    refine (isBits_c (8 : Nat) (Rd.keep H0.out (bel_two _ _ _))).mono ?_
    rintro e w1 ⟨rfl, rfl⟩
    rw [HT.out]
    go_wp2
    have r2 := Row.new (w.alloc (.cells #[.slice ao l.length cap] 31)) #[.int .i64 0, .slice none 0 0] 27
    rw [heap_sz] at r2
    have c0 := r2.cellS (j := 0) rfl
    have c1 := r2.cellS (j := 1) rfl
    refine bodyPost_ret (v := .tuple #[.agg #[.int .i64 0, .slice none 0 0], .bool false]) (by simp [results, Try.results32, go_sem, c0, c1]) rfl ⟨.slice none 0 0, by rw [sumN, HT.out]; rfl, ?_, bel_two _ _ _⟩
    rw [sumR, HT.out]
    exact (OwnS.nil tInts 31 _ _).own (by simp)
  · have HT := Lib.hid ht
    clear ht
    go_wp2_with fail
    refine (isBits_c (8 : Nat) (Rd.keep H0.out (bel_two _ _ _))).mono ?_
    rintro e w1 ⟨rfl, rfl⟩
    rw [HT.out]
    go_wp2_with fail
    refine (newTrio_c 4 75 _ (sumF l) (fun _ _ => rfl) (fun W hW q k hq hk => ?_)).mono ?_
    · obtain ⟨r1, r2, hZ, hB⟩ := rows2 hW
      exact SumTrio1_c _ q k hq hk H0.out hB r1 HT.out
    · rintro e w1 ⟨v', rfl, hv, hb1⟩
      obtain ⟨aq, cq, rfl⟩ : ∃ aq cq, v' = .slice aq 8 cq := by obtain ⟨a, c, h⟩ := hv.shape; exact ⟨a, c, by rw [h, gridF_len]⟩
      obtain ⟨r1, r2, hZ, hB⟩ := rows2 hb1
      have f0 := r2.frozen 0
      have f1 := r2.frozen 1
      have c0 := r2.cellS (j := 0) rfl
      have c1 := r2.cellS (j := 1) rfl
      go_wp2
      refine bodyPost_ret (v := .tuple #[.agg #[.int .i64 4, .slice aq 8 cq], .bool true]) (by simp [results, Try.results32, go_sem, c0, c1]) rfl ⟨_, by rw [sumN, HT.out]; rfl, ?_, ?_⟩
      · rw [sumR, HT.out]
        exact ((hv.setCell (by simp) _).setCell (by simp) _).mono (by simp <;> omega)
      · exact (hB.setCell (by simp <;> omega) _).setCell (by simp <;> omega) _

end Go.Proofs.Ytfgnjcodilebeaa
