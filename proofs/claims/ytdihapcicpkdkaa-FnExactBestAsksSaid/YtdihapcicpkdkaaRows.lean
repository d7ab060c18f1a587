/-
  No cell of these rows narrows 'for every input' (looked for: loops, veiled, ifaces, maps, wideKeys, modest, calm, conditions, laid).
  DERIVED. THE GIVEN ROWS OF THIS SEAT. 6 by the template 'for every input the law returns true; each argument reads behind the call as it read before'; 0 by the template 'total and deterministic' (their statements: YtdihapcicpkdkaaTotals.lean).
  GIVEN WITH THE SEED: the statements are not yours to turn. If you find one false, say at which input.
  Laid BY PROGRAM, IN A SANDBOX (cutbox-rows.mjs): the forced cells as the released guide's own fill.sh prints them over the translation 12ae3e5dee42513a… (all of the seat's roots in one cut). By AI agents, Wed Nov 11 2026. No macro, syntax, notation, axiom, sorry.
-/
import Derived.Test.YtdihapcicpkdkaaChecked
import GoSem.Claim
import GoSem.ClaimJoined
import GoSem.ClaimMapViews
import Derived.JoinedTies
import Derived.KernelRfl
namespace Go.Proofs.Ytdihapcicpkdkaa
/- THE CELL 'sum', in the pinned program and in every row, IS THE sha256 OF THE DUMP (.gsa) THAT YtdihapcicpkdkaaProg.lean LOADS. Nothing in Lean hashes anything: it is a label: what it is worth is what the hold of that sum in a sandbox is worth. -/
noncomputable def Try.pinned : Pinned := { name := "ytdihapcicpkdkaa", sum := "12ae3e5dee42513a13dd1cfa42c8aa25904e0dcbb9f59986ded1e7067cc7b470", checked := Try.checked }
namespace Rows
def none {H : Type} : Left H := { results := [], args := [] }

/-- 'laws.FnExactBestAsks': WHATEVER THE INPUT: true; the input reads as it did. -/
def fnExactBestAsksSpec : ChangeSpec := { name := "fnExactBestAsks", fn := fun _ => fun
  | [d1, d2, d3] => { results := [.lit (.bool true)], args := [d1, d2, d3] }
  | _ => none }
def fnExactBestAsksRow : OpenClaim := { program := "ytdihapcicpkdkaa", sum := "12ae3e5dee42513a13dd1cfa42c8aa25904e0dcbb9f59986ded1e7067cc7b470", func := "loop.example/g01141/laws.FnExactBestAsks", spec := "fnExactBestAsks", unfollowed := true, recurses := true, apart := false }
def FnExactBestAsksSaid : Prop := fnExactBestAsksRow.holds Try.pinned (OpenSpec.ofChange fnExactBestAsksSpec)

/-- ITS FALSE NEIGHBOUR: 'it returns false'. Refute it at one input. -/
def fnExactBestAsksWrong : ChangeSpec := { name := "fnExactBestAsks", fn := fun _ => fun
  | [d1, d2, d3] => { results := [.lit (.bool false)], args := [d1, d2, d3] }
  | _ => none }
def FnExactBestAsksWrongFalsely : Prop := fnExactBestAsksRow.holds Try.pinned (OpenSpec.ofChange fnExactBestAsksWrong)

/-- 'laws.FnExactMixWirings': WHATEVER THE INPUT: true; the input reads as it did. -/
def fnExactMixWiringsSpec : ChangeSpec := { name := "fnExactMixWirings", fn := fun _ => fun
  | [d1, d2, d3, d4] => { results := [.lit (.bool true)], args := [d1, d2, d3, d4] }
  | _ => none }
def fnExactMixWiringsRow : OpenClaim := { program := "ytdihapcicpkdkaa", sum := "12ae3e5dee42513a13dd1cfa42c8aa25904e0dcbb9f59986ded1e7067cc7b470", func := "loop.example/g01141/laws.FnExactMixWirings", spec := "fnExactMixWirings", unfollowed := true, recurses := true, apart := false }
def FnExactMixWiringsSaid : Prop := fnExactMixWiringsRow.holds Try.pinned (OpenSpec.ofChange fnExactMixWiringsSpec)

/-- ITS FALSE NEIGHBOUR: 'it returns false'. Refute it at one input. -/
def fnExactMixWiringsWrong : ChangeSpec := { name := "fnExactMixWirings", fn := fun _ => fun
  | [d1, d2, d3, d4] => { results := [.lit (.bool false)], args := [d1, d2, d3, d4] }
  | _ => none }
def FnExactMixWiringsWrongFalsely : Prop := fnExactMixWiringsRow.holds Try.pinned (OpenSpec.ofChange fnExactMixWiringsWrong)

/-- 'laws.FnExactCallHall': WHATEVER THE INPUT: true; the input reads as it did. -/
def fnExactCallHallSpec : ChangeSpec := { name := "fnExactCallHall", fn := fun _ => fun
  | [d1, d2] => { results := [.lit (.bool true)], args := [d1, d2] }
  | _ => none }
def fnExactCallHallRow : OpenClaim := { program := "ytdihapcicpkdkaa", sum := "12ae3e5dee42513a13dd1cfa42c8aa25904e0dcbb9f59986ded1e7067cc7b470", func := "loop.example/g01141/laws.FnExactCallHall", spec := "fnExactCallHall", unfollowed := true, recurses := true, apart := false }
def FnExactCallHallSaid : Prop := fnExactCallHallRow.holds Try.pinned (OpenSpec.ofChange fnExactCallHallSpec)

/-- ITS FALSE NEIGHBOUR: 'it returns false'. Refute it at one input. -/
def fnExactCallHallWrong : ChangeSpec := { name := "fnExactCallHall", fn := fun _ => fun
  | [d1, d2] => { results := [.lit (.bool false)], args := [d1, d2] }
  | _ => none }
def FnExactCallHallWrongFalsely : Prop := fnExactCallHallRow.holds Try.pinned (OpenSpec.ofChange fnExactCallHallWrong)

/-- 'laws.FnGames': WHATEVER THE INPUT: true; the input reads as it did. -/
def fnGamesSpec : ChangeSpec := { name := "fnGames", fn := fun _ => fun
  | [d] => { results := [.lit (.bool true)], args := [d] }
  | _ => none }
def fnGamesRow : OpenClaim := { program := "ytdihapcicpkdkaa", sum := "12ae3e5dee42513a13dd1cfa42c8aa25904e0dcbb9f59986ded1e7067cc7b470", func := "loop.example/g01141/laws.FnGames", spec := "fnGames", apart := false }
def FnGamesSaid : Prop := fnGamesRow.holds Try.pinned (OpenSpec.ofChange fnGamesSpec)

/-- ITS FALSE NEIGHBOUR: 'it returns false'. Refute it at one input. -/
def fnGamesWrong : ChangeSpec := { name := "fnGames", fn := fun _ => fun
  | [d] => { results := [.lit (.bool false)], args := [d] }
  | _ => none }
def FnGamesWrongFalsely : Prop := fnGamesRow.holds Try.pinned (OpenSpec.ofChange fnGamesWrong)

/-- 'laws.FnTrios': WHATEVER THE INPUT: true; the input reads as it did. -/
def fnTriosSpec : ChangeSpec := { name := "fnTrios", fn := fun _ => fun
  | [d] => { results := [.lit (.bool true)], args := [d] }
  | _ => none }
def fnTriosRow : OpenClaim := { program := "ytdihapcicpkdkaa", sum := "12ae3e5dee42513a13dd1cfa42c8aa25904e0dcbb9f59986ded1e7067cc7b470", func := "loop.example/g01141/laws.FnTrios", spec := "fnTrios", unfollowed := true, recurses := true, apart := false }
def FnTriosSaid : Prop := fnTriosRow.holds Try.pinned (OpenSpec.ofChange fnTriosSpec)

/-- ITS FALSE NEIGHBOUR: 'it returns false'. Refute it at one input. -/
def fnTriosWrong : ChangeSpec := { name := "fnTrios", fn := fun _ => fun
  | [d] => { results := [.lit (.bool false)], args := [d] }
  | _ => none }
def FnTriosWrongFalsely : Prop := fnTriosRow.holds Try.pinned (OpenSpec.ofChange fnTriosWrong)

/-- 'laws.FnSumWirings': WHATEVER THE INPUT: true; the input reads as it did. -/
def fnSumWiringsSpec : ChangeSpec := { name := "fnSumWirings", fn := fun _ => fun
  | [d] => { results := [.lit (.bool true)], args := [d] }
  | _ => none }
def fnSumWiringsRow : OpenClaim := { program := "ytdihapcicpkdkaa", sum := "12ae3e5dee42513a13dd1cfa42c8aa25904e0dcbb9f59986ded1e7067cc7b470", func := "loop.example/g01141/laws.FnSumWirings", spec := "fnSumWirings", unfollowed := true, recurses := true, apart := false }
def FnSumWiringsSaid : Prop := fnSumWiringsRow.holds Try.pinned (OpenSpec.ofChange fnSumWiringsSpec)

/-- ITS FALSE NEIGHBOUR: 'it returns false'. Refute it at one input. -/
def fnSumWiringsWrong : ChangeSpec := { name := "fnSumWirings", fn := fun _ => fun
  | [d] => { results := [.lit (.bool false)], args := [d] }
  | _ => none }
def FnSumWiringsWrongFalsely : Prop := fnSumWiringsRow.holds Try.pinned (OpenSpec.ofChange fnSumWiringsWrong)

/- THE SECOND FORM. 'bulk': how many values and letters a reading holds, each counted each time it is reached (what is shared counts as often as it is met; a slice's spare places count too). A statement '..UptoSaid' is the law's where the arguments, and the package variables that the reading takes, are together of bulk at most 1048576: NARROWER than '..Said'. Prove '..Said' where nothing that the law and all that it calls make is longer than what came in: it says more and counts as full. Else prove '..UptoSaid'. A law counts once. -/
mutual
def uptoBulk {H : Type} : DataW H → Nat
  | .lit (.string bytes) => bytes.length + 1
  | .lit _ => 1
  | .nil => 1
  | .ptr d => uptoBulk d + 1
  | .slice elems spare => uptoBulkAll elems + uptoBulkAll spare + 1
  | .agg parts => uptoBulkAll parts + 1
  | .iface _ d => uptoBulk d + 1
  | .map entries => uptoBulkEntries entries + 1
  | .held _ => 1
def uptoBulkAll {H : Type} : List (DataW H) → Nat
  | [] => 0
  | d :: r => uptoBulk d + uptoBulkAll r
def uptoBulkEntries {H : Type} : List (Lit × DataW H) → Nat
  | [] => 0
  | x :: r => uptoBulkEntry x + uptoBulkEntries r
def uptoBulkEntry {H : Type} : Lit × DataW H → Nat
  | (.string bytes, d) => bytes.length + uptoBulk d + 1
  | (_, d) => uptoBulk d + 1
 end
def uptoSmall : (H : Type) → List (DataW H) → Bool := fun _ ds => decide (uptoBulkAll ds ≤ 1048576)
def OpenSpec.upto (s : _root_.Go.ChangeSpec) : _root_.Go.OpenSpec := { _root_.Go.OpenSpec.ofChange s with cond := some uptoSmall }

/-- 'laws.FnExactBestAsks', WHERE WHAT IT READS IS OF BULK AT MOST 1048576: true; the input reads as it did. -/
def fnExactBestAsksUptoRow : OpenClaim := { program := "ytdihapcicpkdkaa", sum := "12ae3e5dee42513a13dd1cfa42c8aa25904e0dcbb9f59986ded1e7067cc7b470", func := "loop.example/g01141/laws.FnExactBestAsks", spec := "fnExactBestAsks", unfollowed := true, recurses := true, apart := false, narrowed := true }
def FnExactBestAsksUptoSaid : Prop := fnExactBestAsksUptoRow.holds Try.pinned (OpenSpec.upto fnExactBestAsksSpec)

/-- 'laws.FnExactMixWirings', WHERE WHAT IT READS IS OF BULK AT MOST 1048576: true; the input reads as it did. -/
def fnExactMixWiringsUptoRow : OpenClaim := { program := "ytdihapcicpkdkaa", sum := "12ae3e5dee42513a13dd1cfa42c8aa25904e0dcbb9f59986ded1e7067cc7b470", func := "loop.example/g01141/laws.FnExactMixWirings", spec := "fnExactMixWirings", unfollowed := true, recurses := true, apart := false, narrowed := true }
def FnExactMixWiringsUptoSaid : Prop := fnExactMixWiringsUptoRow.holds Try.pinned (OpenSpec.upto fnExactMixWiringsSpec)

/-- 'laws.FnExactCallHall', WHERE WHAT IT READS IS OF BULK AT MOST 1048576: true; the input reads as it did. -/
def fnExactCallHallUptoRow : OpenClaim := { program := "ytdihapcicpkdkaa", sum := "12ae3e5dee42513a13dd1cfa42c8aa25904e0dcbb9f59986ded1e7067cc7b470", func := "loop.example/g01141/laws.FnExactCallHall", spec := "fnExactCallHall", unfollowed := true, recurses := true, apart := false, narrowed := true }
def FnExactCallHallUptoSaid : Prop := fnExactCallHallUptoRow.holds Try.pinned (OpenSpec.upto fnExactCallHallSpec)

/-- 'laws.FnGames', WHERE WHAT IT READS IS OF BULK AT MOST 1048576: true; the input reads as it did. -/
def fnGamesUptoRow : OpenClaim := { program := "ytdihapcicpkdkaa", sum := "12ae3e5dee42513a13dd1cfa42c8aa25904e0dcbb9f59986ded1e7067cc7b470", func := "loop.example/g01141/laws.FnGames", spec := "fnGames", apart := false, narrowed := true }
def FnGamesUptoSaid : Prop := fnGamesUptoRow.holds Try.pinned (OpenSpec.upto fnGamesSpec)

/-- 'laws.FnTrios', WHERE WHAT IT READS IS OF BULK AT MOST 1048576: true; the input reads as it did. -/
def fnTriosUptoRow : OpenClaim := { program := "ytdihapcicpkdkaa", sum := "12ae3e5dee42513a13dd1cfa42c8aa25904e0dcbb9f59986ded1e7067cc7b470", func := "loop.example/g01141/laws.FnTrios", spec := "fnTrios", unfollowed := true, recurses := true, apart := false, narrowed := true }
def FnTriosUptoSaid : Prop := fnTriosUptoRow.holds Try.pinned (OpenSpec.upto fnTriosSpec)

/-- 'laws.FnSumWirings', WHERE WHAT IT READS IS OF BULK AT MOST 1048576: true; the input reads as it did. -/
def fnSumWiringsUptoRow : OpenClaim := { program := "ytdihapcicpkdkaa", sum := "12ae3e5dee42513a13dd1cfa42c8aa25904e0dcbb9f59986ded1e7067cc7b470", func := "loop.example/g01141/laws.FnSumWirings", spec := "fnSumWirings", unfollowed := true, recurses := true, apart := false, narrowed := true }
def FnSumWiringsUptoSaid : Prop := fnSumWiringsUptoRow.holds Try.pinned (OpenSpec.upto fnSumWiringsSpec)

end Rows
end Go.Proofs.Ytdihapcicpkdkaa
