/-
  No cell of these rows narrows 'for every input' (looked for: loops, veiled, ifaces, maps, wideKeys, modest, calm, conditions, laid).
  DERIVED. THE GIVEN ROWS OF THIS SEAT. 5 by the template 'for every input the law returns true; each argument reads behind the call as it read before'; 0 by the template 'total and deterministic' (their statements: YtefbiejoikpkmaaTotals.lean).
  GIVEN WITH THE SEED: the statements are not yours to turn. If you find one false, say at which input.
  Laid BY PROGRAM, IN A SANDBOX (cutbox-rows.mjs): the forced cells as the released guide's own fill.sh prints them over the translation 429e952103117da3… (all of the seat's roots in one cut). By AI agents, Wed Nov 11 2026. No macro, syntax, notation, axiom, sorry.
-/
import Derived.Test.YtefbiejoikpkmaaChecked
import GoSem.Claim
import GoSem.ClaimJoined
import GoSem.ClaimMapViews
import Derived.JoinedTies
import Derived.KernelRfl
namespace Go.Proofs.Ytefbiejoikpkmaa
/- THE CELL 'sum', in the pinned program and in every row, IS THE sha256 OF THE DUMP (.gsa) THAT YtefbiejoikpkmaaProg.lean LOADS. Nothing in Lean hashes anything: it is a label: what it is worth is what the hold of that sum in a sandbox is worth. -/
noncomputable def Try.pinned : Pinned := { name := "ytefbiejoikpkmaa", sum := "429e952103117da35cbbc054f8f2cd9443974c82b3a5ea0e363a3a897b344b41", checked := Try.checked }
namespace Rows
def none {H : Type} : Left H := { results := [], args := [] }

/-- 'laws.FnGameNames': WHATEVER THE INPUT: true; the input reads as it did. -/
def fnGameNamesSpec : ChangeSpec := { name := "fnGameNames", fn := fun _ => fun
  | [d] => { results := [.lit (.bool true)], args := [d] }
  | _ => none }
def fnGameNamesRow : OpenClaim := { program := "ytefbiejoikpkmaa", sum := "429e952103117da35cbbc054f8f2cd9443974c82b3a5ea0e363a3a897b344b41", func := "loop.example/g01141/laws.FnGameNames", spec := "fnGameNames", inPlace := ["slices.overlaps[int]"], unfollowed := true, recurses := true, apart := false }
def FnGameNamesSaid : Prop := fnGameNamesRow.holds Try.pinned (OpenSpec.ofChange fnGameNamesSpec)

/-- ITS FALSE NEIGHBOUR: 'it returns false'. Refute it at one input. -/
def fnGameNamesWrong : ChangeSpec := { name := "fnGameNames", fn := fun _ => fun
  | [d] => { results := [.lit (.bool false)], args := [d] }
  | _ => none }
def FnGameNamesWrongFalsely : Prop := fnGameNamesRow.holds Try.pinned (OpenSpec.ofChange fnGameNamesWrong)

/-- 'laws.FnExactSameByNames': WHATEVER THE INPUT: true; the input reads as it did. -/
def fnExactSameByNamesSpec : ChangeSpec := { name := "fnExactSameByNames", fn := fun _ => fun
  | [d1, d2] => { results := [.lit (.bool true)], args := [d1, d2] }
  | _ => none }
def fnExactSameByNamesRow : OpenClaim := { program := "ytefbiejoikpkmaa", sum := "429e952103117da35cbbc054f8f2cd9443974c82b3a5ea0e363a3a897b344b41", func := "loop.example/g01141/laws.FnExactSameByNames", spec := "fnExactSameByNames", inPlace := ["slices.overlaps[int]"], unfollowed := true, recurses := true, apart := false }
def FnExactSameByNamesSaid : Prop := fnExactSameByNamesRow.holds Try.pinned (OpenSpec.ofChange fnExactSameByNamesSpec)

/-- ITS FALSE NEIGHBOUR: 'it returns false'. Refute it at one input. -/
def fnExactSameByNamesWrong : ChangeSpec := { name := "fnExactSameByNames", fn := fun _ => fun
  | [d1, d2] => { results := [.lit (.bool false)], args := [d1, d2] }
  | _ => none }
def FnExactSameByNamesWrongFalsely : Prop := fnExactSameByNamesRow.holds Try.pinned (OpenSpec.ofChange fnExactSameByNamesWrong)

/-- 'laws.FnGames': WHATEVER THE INPUT: true; the input reads as it did. -/
def fnGamesSpec : ChangeSpec := { name := "fnGames", fn := fun _ => fun
  | [d] => { results := [.lit (.bool true)], args := [d] }
  | _ => none }
def fnGamesRow : OpenClaim := { program := "ytefbiejoikpkmaa", sum := "429e952103117da35cbbc054f8f2cd9443974c82b3a5ea0e363a3a897b344b41", func := "loop.example/g01141/laws.FnGames", spec := "fnGames", apart := false }
def FnGamesSaid : Prop := fnGamesRow.holds Try.pinned (OpenSpec.ofChange fnGamesSpec)

/-- ITS FALSE NEIGHBOUR: 'it returns false'. Refute it at one input. -/
def fnGamesWrong : ChangeSpec := { name := "fnGames", fn := fun _ => fun
  | [d] => { results := [.lit (.bool false)], args := [d] }
  | _ => none }
def FnGamesWrongFalsely : Prop := fnGamesRow.holds Try.pinned (OpenSpec.ofChange fnGamesWrong)

/-- 'laws.FnTrios': WHATEVER THE INPUT: true; the input reads as it did. -/
def fnTriosSpec : ChangeSpec := { name := "fnTrios", fn := fun _ => fun
  | [d] => { results := [.lit (.bool true)], args := [d] }
  | _ => none }
def fnTriosRow : OpenClaim := { program := "ytefbiejoikpkmaa", sum := "429e952103117da35cbbc054f8f2cd9443974c82b3a5ea0e363a3a897b344b41", func := "loop.example/g01141/laws.FnTrios", spec := "fnTrios", unfollowed := true, recurses := true, apart := false }
def FnTriosSaid : Prop := fnTriosRow.holds Try.pinned (OpenSpec.ofChange fnTriosSpec)

/-- ITS FALSE NEIGHBOUR: 'it returns false'. Refute it at one input. -/
def fnTriosWrong : ChangeSpec := { name := "fnTrios", fn := fun _ => fun
  | [d] => { results := [.lit (.bool false)], args := [d] }
  | _ => none }
def FnTriosWrongFalsely : Prop := fnTriosRow.holds Try.pinned (OpenSpec.ofChange fnTriosWrong)

/-- 'laws.FnSumWirings': WHATEVER THE INPUT: true; the input reads as it did. -/
def fnSumWiringsSpec : ChangeSpec := { name := "fnSumWirings", fn := fun _ => fun
  | [d] => { results := [.lit (.bool true)], args := [d] }
  | _ => none }
def fnSumWiringsRow : OpenClaim := { program := "ytefbiejoikpkmaa", sum := "429e952103117da35cbbc054f8f2cd9443974c82b3a5ea0e363a3a897b344b41", func := "loop.example/g01141/laws.FnSumWirings", spec := "fnSumWirings", unfollowed := true, recurses := true, apart := false }
def FnSumWiringsSaid : Prop := fnSumWiringsRow.holds Try.pinned (OpenSpec.ofChange fnSumWiringsSpec)

/-- ITS FALSE NEIGHBOUR: 'it returns false'. Refute it at one input. -/
def fnSumWiringsWrong : ChangeSpec := { name := "fnSumWirings", fn := fun _ => fun
  | [d] => { results := [.lit (.bool false)], args := [d] }
  | _ => none }
def FnSumWiringsWrongFalsely : Prop := fnSumWiringsRow.holds Try.pinned (OpenSpec.ofChange fnSumWiringsWrong)

/- THE SECOND FORM. 'bulk': how many values and letters a reading holds, each counted each time it is reached (what is shared counts as often as it is met; a slice's spare places count too). A statement '..UptoSaid' is the law's where the arguments, and the package variables that the reading takes, are together of bulk at most 1048576: NARROWER than '..Said'. Prove '..Said' where nothing that the law and all that it calls make is longer than what came in: it says more and counts as full. Else prove '..UptoSaid'. A law counts once. -/
mutual
def uptoBulk {H : Type} : DataW H → Nat
  | .lit (.string bytes) => bytes.length + 1
  | .lit _ => 1
  | .nil => 1
  | .ptr d => uptoBulk d + 1
  | .slice elems spare => uptoBulkAll elems + uptoBulkAll spare + 1
  | .agg parts => uptoBulkAll parts + 1
  | .iface _ d => uptoBulk d + 1
  | .map entries => uptoBulkEntries entries + 1
  | .held _ => 1
def uptoBulkAll {H : Type} : List (DataW H) → Nat
  | [] => 0
  | d :: r => uptoBulk d + uptoBulkAll r
def uptoBulkEntries {H : Type} : List (Lit × DataW H) → Nat
  | [] => 0
  | x :: r => uptoBulkEntry x + uptoBulkEntries r
def uptoBulkEntry {H : Type} : Lit × DataW H → Nat
  | (.string bytes, d) => bytes.length + uptoBulk d + 1
  | (_, d) => uptoBulk d + 1
 end
def uptoSmall : (H : Type) → List (DataW H) → Bool := fun _ ds => decide (uptoBulkAll ds ≤ 1048576)
def OpenSpec.upto (s : _root_.Go.ChangeSpec) : _root_.Go.OpenSpec := { _root_.Go.OpenSpec.ofChange s with cond := some uptoSmall }

/-- 'laws.FnGameNames', WHERE WHAT IT READS IS OF BULK AT MOST 1048576: true; the input reads as it did. -/
def fnGameNamesUptoRow : OpenClaim := { program := "ytefbiejoikpkmaa", sum := "429e952103117da35cbbc054f8f2cd9443974c82b3a5ea0e363a3a897b344b41", func := "loop.example/g01141/laws.FnGameNames", spec := "fnGameNames", inPlace := ["slices.overlaps[int]"], unfollowed := true, recurses := true, apart := false, narrowed := true }
def FnGameNamesUptoSaid : Prop := fnGameNamesUptoRow.holds Try.pinned (OpenSpec.upto fnGameNamesSpec)

/-- 'laws.FnExactSameByNames', WHERE WHAT IT READS IS OF BULK AT MOST 1048576: true; the input reads as it did. -/
def fnExactSameByNamesUptoRow : OpenClaim := { program := "ytefbiejoikpkmaa", sum := "429e952103117da35cbbc054f8f2cd9443974c82b3a5ea0e363a3a897b344b41", func := "loop.example/g01141/laws.FnExactSameByNames", spec := "fnExactSameByNames", inPlace := ["slices.overlaps[int]"], unfollowed := true, recurses := true, apart := false, narrowed := true }
def FnExactSameByNamesUptoSaid : Prop := fnExactSameByNamesUptoRow.holds Try.pinned (OpenSpec.upto fnExactSameByNamesSpec)

/-- 'laws.FnGames', WHERE WHAT IT READS IS OF BULK AT MOST 1048576: true; the input reads as it did. -/
def fnGamesUptoRow : OpenClaim := { program := "ytefbiejoikpkmaa", sum := "429e952103117da35cbbc054f8f2cd9443974c82b3a5ea0e363a3a897b344b41", func := "loop.example/g01141/laws.FnGames", spec := "fnGames", apart := false, narrowed := true }
def FnGamesUptoSaid : Prop := fnGamesUptoRow.holds Try.pinned (OpenSpec.upto fnGamesSpec)

/-- 'laws.FnTrios', WHERE WHAT IT READS IS OF BULK AT MOST 1048576: true; the input reads as it did. -/
def fnTriosUptoRow : OpenClaim := { program := "ytefbiejoikpkmaa", sum := "429e952103117da35cbbc054f8f2cd9443974c82b3a5ea0e363a3a897b344b41", func := "loop.example/g01141/laws.FnTrios", spec := "fnTrios", unfollowed := true, recurses := true, apart := false, narrowed := true }
def FnTriosUptoSaid : Prop := fnTriosUptoRow.holds Try.pinned (OpenSpec.upto fnTriosSpec)

/-- 'laws.FnSumWirings', WHERE WHAT IT READS IS OF BULK AT MOST 1048576: true; the input reads as it did. -/
def fnSumWiringsUptoRow : OpenClaim := { program := "ytefbiejoikpkmaa", sum := "429e952103117da35cbbc054f8f2cd9443974c82b3a5ea0e363a3a897b344b41", func := "loop.example/g01141/laws.FnSumWirings", spec := "fnSumWirings", unfollowed := true, recurses := true, apart := false, narrowed := true }
def FnSumWiringsUptoSaid : Prop := fnSumWiringsUptoRow.holds Try.pinned (OpenSpec.upto fnSumWiringsSpec)

end Rows
end Go.Proofs.Ytefbiejoikpkmaa
