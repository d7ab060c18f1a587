/- One part of the proof: laws.toIntSS. No condition beyond those of its theorems. -/
import Derived.Test.YtfgnjcodilebeaaBase
import Derived.Test.YtfgnjcodilebeaaFLawsXszIntSS
import Derived.Test.YtfgnjcodilebeaaFLawsXtoIntS
import Derived.Test.YtfgnjcodilebeaaPCanon
namespace Go.Proofs.Ytfgnjcodilebeaa
open Go.RowKit
set_option maxHeartbeats 1000000 in
theorem toIntSS_c {ll : List (List Int)} {v : Value} {w : World} (h : RII w v ll) (hb20 : szII ll ≤ 1048576) :
    Calls Try.prog 52 #[v] w fun e w' => ∃ v', e = .returned v' ∧ Own tIntss w' v' ll w.heap.size ∧ Below w.heap.size w w' := by
  obtain ⟨ao, cap, rfl, hl, hs, hc⟩ := Rd.sl h rfl
  have hix := idx_run1 eIntss sIntss ao ll.length cap hs
  clear hs h
  have hb20' : ll.length ≤ 1048576 := Nat.le_trans (Nat.le_add_right _ _) hb20
  have HB20 := Lib.hid hb20
  clear hb20
  go_enter Try.func52, Try.ntmps52
  go_wp2_with (at_make; refine mk_row 22 31 (.slice none 0 0) 24 ll.length rfl rfl uIntss info_ints rfl rfl rfl (by omega) (by omega) ?_; intro w1 hrow hb1)
  go_loopw [4] (fun i wr => ∃ (k : Nat) (xs : List Value) (F : List Nat), k ≤ ll.length ∧ i = .int .i64 k ∧ Below w.heap.size w wr ∧ Row wr w.heap.size 31 (fillV (.slice none 0 0) xs ll.length) ∧ Elems tInts wr xs (ll.take k) (w.heap.size + 1) F) (fun i _ => ll.length - (intOf i).toNat)
  case atStart => exact ⟨0, [], [], by omega, rfl, hb1, by rw [fillV_nil]; exact hrow, Elems.nil _ _ _⟩
  case round =>
    clear hrow hb1
    obtain ⟨k, xs, F, hk, rfl, hb, hrow, hel⟩ := hrel
    have hxk' := hel.len
    simp only [List.length_take, Nat.min_eq_left hk] at hxk'
    have hxk : xs.length = k := by simpa [tSl] using hxk'
    clear hxk'
    have HK := Lib.hid hxk
    by_cases hlt : k < ll.length
    · obtain ⟨u, hck, hu⟩ := hc k hlt
      rw [← CellS.of hb _ (by rw [hck]; rfl)] at hck
      have HU := Lib.hid (Rd.keep hu hb)
      have h1 := hrow.cellS (fillV_get (by omega)) 
      rw [hxk] at h1
      have h2 := hrow.frozen k
      have hg := hrow.lt
      clear hc hxk
      go_wp2_with (go_at_call 21; refine (toIntS_c HU.out (Nat.le_trans (row_le_szII hlt) HB20.out)).mono ?_; rintro e w1 ⟨v', rfl, hv, hbv⟩; obtain ⟨aq, cq, rfl⟩ := hv.shape; have hS := CellS.of hbv; unfold CellS at hS; have h3 := (hrow.later hbv).frozen k)
      go_roundw
      case rel =>
        obtain ⟨F', he', _⟩ := (hel.keep hbv).snocOwn hv (by omega) hel.lt
        have hrow' := (hrow.later hbv).set k (.slice aq ll[k].length cq)
        rw [fillV_set HK.out hlt] at hrow'
        refine ⟨k + 1, xs ++ [.slice aq ll[k].length cq], F', by omega, by go_num, (hb.trans (hbv.mono (by omega))).setCell (Nat.le_refl _) _, ?_, ?_⟩
        · exact hrow'
        · rw [List.take_succ_eq_append_getElem hlt]
          exact he'.keepF fun b hb' => Below.heap_setCell _ _ _ _ (by have := he'.low b hb'; show b ≠ w.heap.size; omega)
      case measure => simp [intOf]; omega
    · clear hc
      go_wp2
      go_ret
      have hkl : k = ll.length := by omega
      subst hkl
      rw [List.take_length] at hel
      exact ⟨_, rfl, hel.own hrow _ hl (fun j hj => fillV_lt hj) (fun hm => absurd (hel.low _ hm) (by omega)) (Nat.le_refl _) (by omega), hb⟩

end Go.Proofs.Ytfgnjcodilebeaa
