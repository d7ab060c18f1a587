/-
  No cell of these rows narrows 'for every input' (looked for: loops, veiled, ifaces, maps, wideKeys, modest, calm, conditions, laid).
  DERIVED. THE GIVEN ROWS OF THIS SEAT. 12 by the template 'for every input the law returns true; each argument reads behind the call as it read before'; 0 by the template 'total and deterministic' (their statements: YtpkjjnmegdkjiaaTotals.lean).
  GIVEN WITH THE SEED: the statements are not yours to turn. If you find one false, say at which input.
  Laid BY PROGRAM, IN A SANDBOX (cutbox-rows.mjs): the forced cells as the released guide's own fill.sh prints them over the translation ec4eb86fb206d745… (all of the seat's roots in one cut). By AI agents, Wed Nov 11 2026. No macro, syntax, notation, axiom, sorry.
-/
import Derived.Test.YtpkjjnmegdkjiaaChecked
import GoSem.Claim
import GoSem.ClaimJoined
import GoSem.ClaimMapViews
import Derived.JoinedTies
import Derived.KernelRfl
namespace Go.Proofs.Ytpkjjnmegdkjiaa
/- THE CELL 'sum', in the pinned program and in every row, IS THE sha256 OF THE DUMP (.gsa) THAT YtpkjjnmegdkjiaaProg.lean LOADS. Nothing in Lean hashes anything: it is a label: what it is worth is what the hold of that sum in a sandbox is worth. -/
noncomputable def Try.pinned : Pinned := { name := "ytpkjjnmegdkjiaa", sum := "ec4eb86fb206d745bcca16133c29b8a69f9ad146000a0ae7dcae42bf3a00cad0", checked := Try.checked }
namespace Rows
def none {H : Type} : Left H := { results := [], args := [] }

/-- 'laws.FnExactFlipGame': WHATEVER THE INPUT: true; the input reads as it did. -/
def fnExactFlipGameSpec : ChangeSpec := { name := "fnExactFlipGame", fn := fun _ => fun
  | [d1, d2] => { results := [.lit (.bool true)], args := [d1, d2] }
  | _ => none }
def fnExactFlipGameRow : OpenClaim := { program := "ytpkjjnmegdkjiaa", sum := "ec4eb86fb206d745bcca16133c29b8a69f9ad146000a0ae7dcae42bf3a00cad0", func := "loop.example/g01141/laws.FnExactFlipGame", spec := "fnExactFlipGame", apart := false }
def FnExactFlipGameSaid : Prop := fnExactFlipGameRow.holds Try.pinned (OpenSpec.ofChange fnExactFlipGameSpec)

/-- ITS FALSE NEIGHBOUR: 'it returns false'. Refute it at one input. -/
def fnExactFlipGameWrong : ChangeSpec := { name := "fnExactFlipGame", fn := fun _ => fun
  | [d1, d2] => { results := [.lit (.bool false)], args := [d1, d2] }
  | _ => none }
def FnExactFlipGameWrongFalsely : Prop := fnExactFlipGameRow.holds Try.pinned (OpenSpec.ofChange fnExactFlipGameWrong)

/-- 'laws.FnExactTrimGame': WHATEVER THE INPUT: true; the input reads as it did. -/
def fnExactTrimGameSpec : ChangeSpec := { name := "fnExactTrimGame", fn := fun _ => fun
  | [d] => { results := [.lit (.bool true)], args := [d] }
  | _ => none }
def fnExactTrimGameRow : OpenClaim := { program := "ytpkjjnmegdkjiaa", sum := "ec4eb86fb206d745bcca16133c29b8a69f9ad146000a0ae7dcae42bf3a00cad0", func := "loop.example/g01141/laws.FnExactTrimGame", spec := "fnExactTrimGame", apart := false }
def FnExactTrimGameSaid : Prop := fnExactTrimGameRow.holds Try.pinned (OpenSpec.ofChange fnExactTrimGameSpec)

/-- ITS FALSE NEIGHBOUR: 'it returns false'. Refute it at one input. -/
def fnExactTrimGameWrong : ChangeSpec := { name := "fnExactTrimGame", fn := fun _ => fun
  | [d] => { results := [.lit (.bool false)], args := [d] }
  | _ => none }
def FnExactTrimGameWrongFalsely : Prop := fnExactTrimGameRow.holds Try.pinned (OpenSpec.ofChange fnExactTrimGameWrong)

/-- 'laws.FnExactIsHall': WHATEVER THE INPUT: true; the input reads as it did. -/
def fnExactIsHallSpec : ChangeSpec := { name := "fnExactIsHall", fn := fun _ => fun
  | [d] => { results := [.lit (.bool true)], args := [d] }
  | _ => none }
def fnExactIsHallRow : OpenClaim := { program := "ytpkjjnmegdkjiaa", sum := "ec4eb86fb206d745bcca16133c29b8a69f9ad146000a0ae7dcae42bf3a00cad0", func := "loop.example/g01141/laws.FnExactIsHall", spec := "fnExactIsHall", apart := false }
def FnExactIsHallSaid : Prop := fnExactIsHallRow.holds Try.pinned (OpenSpec.ofChange fnExactIsHallSpec)

/-- ITS FALSE NEIGHBOUR: 'it returns false'. Refute it at one input. -/
def fnExactIsHallWrong : ChangeSpec := { name := "fnExactIsHall", fn := fun _ => fun
  | [d] => { results := [.lit (.bool false)], args := [d] }
  | _ => none }
def FnExactIsHallWrongFalsely : Prop := fnExactIsHallRow.holds Try.pinned (OpenSpec.ofChange fnExactIsHallWrong)

/-- 'laws.FnExactPairOf': WHATEVER THE INPUT: true; the input reads as it did. -/
def fnExactPairOfSpec : ChangeSpec := { name := "fnExactPairOf", fn := fun _ => fun
  | [d1, d2] => { results := [.lit (.bool true)], args := [d1, d2] }
  | _ => none }
def fnExactPairOfRow : OpenClaim := { program := "ytpkjjnmegdkjiaa", sum := "ec4eb86fb206d745bcca16133c29b8a69f9ad146000a0ae7dcae42bf3a00cad0", func := "loop.example/g01141/laws.FnExactPairOf", spec := "fnExactPairOf", unfollowed := true, recurses := true, apart := false }
def FnExactPairOfSaid : Prop := fnExactPairOfRow.holds Try.pinned (OpenSpec.ofChange fnExactPairOfSpec)

/-- ITS FALSE NEIGHBOUR: 'it returns false'. Refute it at one input. -/
def fnExactPairOfWrong : ChangeSpec := { name := "fnExactPairOf", fn := fun _ => fun
  | [d1, d2] => { results := [.lit (.bool false)], args := [d1, d2] }
  | _ => none }
def FnExactPairOfWrongFalsely : Prop := fnExactPairOfRow.holds Try.pinned (OpenSpec.ofChange fnExactPairOfWrong)

/-- 'laws.FnExactAddThird': WHATEVER THE INPUT: true; the input reads as it did. -/
def fnExactAddThirdSpec : ChangeSpec := { name := "fnExactAddThird", fn := fun _ => fun
  | [d1, d2, d3] => { results := [.lit (.bool true)], args := [d1, d2, d3] }
  | _ => none }
def fnExactAddThirdRow : OpenClaim := { program := "ytpkjjnmegdkjiaa", sum := "ec4eb86fb206d745bcca16133c29b8a69f9ad146000a0ae7dcae42bf3a00cad0", func := "loop.example/g01141/laws.FnExactAddThird", spec := "fnExactAddThird", unfollowed := true, recurses := true, apart := false }
def FnExactAddThirdSaid : Prop := fnExactAddThirdRow.holds Try.pinned (OpenSpec.ofChange fnExactAddThirdSpec)

/-- ITS FALSE NEIGHBOUR: 'it returns false'. Refute it at one input. -/
def fnExactAddThirdWrong : ChangeSpec := { name := "fnExactAddThird", fn := fun _ => fun
  | [d1, d2, d3] => { results := [.lit (.bool false)], args := [d1, d2, d3] }
  | _ => none }
def FnExactAddThirdWrongFalsely : Prop := fnExactAddThirdRow.holds Try.pinned (OpenSpec.ofChange fnExactAddThirdWrong)

/-- 'laws.FnExactSumBoxes': WHATEVER THE INPUT: true; the input reads as it did. -/
def fnExactSumBoxesSpec : ChangeSpec := { name := "fnExactSumBoxes", fn := fun _ => fun
  | [d1, d2] => { results := [.lit (.bool true)], args := [d1, d2] }
  | _ => none }
def fnExactSumBoxesRow : OpenClaim := { program := "ytpkjjnmegdkjiaa", sum := "ec4eb86fb206d745bcca16133c29b8a69f9ad146000a0ae7dcae42bf3a00cad0", func := "loop.example/g01141/laws.FnExactSumBoxes", spec := "fnExactSumBoxes", unfollowed := true, recurses := true, apart := false }
def FnExactSumBoxesSaid : Prop := fnExactSumBoxesRow.holds Try.pinned (OpenSpec.ofChange fnExactSumBoxesSpec)

/-- ITS FALSE NEIGHBOUR: 'it returns false'. Refute it at one input. -/
def fnExactSumBoxesWrong : ChangeSpec := { name := "fnExactSumBoxes", fn := fun _ => fun
  | [d1, d2] => { results := [.lit (.bool false)], args := [d1, d2] }
  | _ => none }
def FnExactSumBoxesWrongFalsely : Prop := fnExactSumBoxesRow.holds Try.pinned (OpenSpec.ofChange fnExactSumBoxesWrong)

/-- 'laws.FnExactPlayChance': WHATEVER THE INPUT: true; the input reads as it did. -/
def fnExactPlayChanceSpec : ChangeSpec := { name := "fnExactPlayChance", fn := fun _ => fun
  | [d] => { results := [.lit (.bool true)], args := [d] }
  | _ => none }
def fnExactPlayChanceRow : OpenClaim := { program := "ytpkjjnmegdkjiaa", sum := "ec4eb86fb206d745bcca16133c29b8a69f9ad146000a0ae7dcae42bf3a00cad0", func := "loop.example/g01141/laws.FnExactPlayChance", spec := "fnExactPlayChance", apart := false }
def FnExactPlayChanceSaid : Prop := fnExactPlayChanceRow.holds Try.pinned (OpenSpec.ofChange fnExactPlayChanceSpec)

/-- ITS FALSE NEIGHBOUR: 'it returns false'. Refute it at one input. -/
def fnExactPlayChanceWrong : ChangeSpec := { name := "fnExactPlayChance", fn := fun _ => fun
  | [d] => { results := [.lit (.bool false)], args := [d] }
  | _ => none }
def FnExactPlayChanceWrongFalsely : Prop := fnExactPlayChanceRow.holds Try.pinned (OpenSpec.ofChange fnExactPlayChanceWrong)

/-- 'laws.FnExactWireBoxes': WHATEVER THE INPUT: true; the input reads as it did. -/
def fnExactWireBoxesSpec : ChangeSpec := { name := "fnExactWireBoxes", fn := fun _ => fun
  | [d1, d2, d3, d4] => { results := [.lit (.bool true)], args := [d1, d2, d3, d4] }
  | _ => none }
def fnExactWireBoxesRow : OpenClaim := { program := "ytpkjjnmegdkjiaa", sum := "ec4eb86fb206d745bcca16133c29b8a69f9ad146000a0ae7dcae42bf3a00cad0", func := "loop.example/g01141/laws.FnExactWireBoxes", spec := "fnExactWireBoxes", unfollowed := true, recurses := true, apart := false }
def FnExactWireBoxesSaid : Prop := fnExactWireBoxesRow.holds Try.pinned (OpenSpec.ofChange fnExactWireBoxesSpec)

/-- ITS FALSE NEIGHBOUR: 'it returns false'. Refute it at one input. -/
def fnExactWireBoxesWrong : ChangeSpec := { name := "fnExactWireBoxes", fn := fun _ => fun
  | [d1, d2, d3, d4] => { results := [.lit (.bool false)], args := [d1, d2, d3, d4] }
  | _ => none }
def FnExactWireBoxesWrongFalsely : Prop := fnExactWireBoxesRow.holds Try.pinned (OpenSpec.ofChange fnExactWireBoxesWrong)

/-- 'laws.FnExactRepeatSum': WHATEVER THE INPUT: true; the input reads as it did. -/
def fnExactRepeatSumSpec : ChangeSpec := { name := "fnExactRepeatSum", fn := fun _ => fun
  | [d1, d2] => { results := [.lit (.bool true)], args := [d1, d2] }
  | _ => none }
def fnExactRepeatSumRow : OpenClaim := { program := "ytpkjjnmegdkjiaa", sum := "ec4eb86fb206d745bcca16133c29b8a69f9ad146000a0ae7dcae42bf3a00cad0", func := "loop.example/g01141/laws.FnExactRepeatSum", spec := "fnExactRepeatSum", unfollowed := true, recurses := true, apart := false }
def FnExactRepeatSumSaid : Prop := fnExactRepeatSumRow.holds Try.pinned (OpenSpec.ofChange fnExactRepeatSumSpec)

/-- ITS FALSE NEIGHBOUR: 'it returns false'. Refute it at one input. -/
def fnExactRepeatSumWrong : ChangeSpec := { name := "fnExactRepeatSum", fn := fun _ => fun
  | [d1, d2] => { results := [.lit (.bool false)], args := [d1, d2] }
  | _ => none }
def FnExactRepeatSumWrongFalsely : Prop := fnExactRepeatSumRow.holds Try.pinned (OpenSpec.ofChange fnExactRepeatSumWrong)

/-- 'laws.FnExactBestAsks': WHATEVER THE INPUT: true; the input reads as it did. -/
def fnExactBestAsksSpec : ChangeSpec := { name := "fnExactBestAsks", fn := fun _ => fun
  | [d1, d2, d3] => { results := [.lit (.bool true)], args := [d1, d2, d3] }
  | _ => none }
def fnExactBestAsksRow : OpenClaim := { program := "ytpkjjnmegdkjiaa", sum := "ec4eb86fb206d745bcca16133c29b8a69f9ad146000a0ae7dcae42bf3a00cad0", func := "loop.example/g01141/laws.FnExactBestAsks", spec := "fnExactBestAsks", unfollowed := true, recurses := true, apart := false }
def FnExactBestAsksSaid : Prop := fnExactBestAsksRow.holds Try.pinned (OpenSpec.ofChange fnExactBestAsksSpec)

/-- ITS FALSE NEIGHBOUR: 'it returns false'. Refute it at one input. -/
def fnExactBestAsksWrong : ChangeSpec := { name := "fnExactBestAsks", fn := fun _ => fun
  | [d1, d2, d3] => { results := [.lit (.bool false)], args := [d1, d2, d3] }
  | _ => none }
def FnExactBestAsksWrongFalsely : Prop := fnExactBestAsksRow.holds Try.pinned (OpenSpec.ofChange fnExactBestAsksWrong)

/-- 'laws.FnExactNewHall': WHATEVER THE INPUT: true; the input reads as it did. -/
def fnExactNewHallSpec : ChangeSpec := { name := "fnExactNewHall", fn := fun _ => fun
  | [d1, d2] => { results := [.lit (.bool true)], args := [d1, d2] }
  | _ => none }
def fnExactNewHallRow : OpenClaim := { program := "ytpkjjnmegdkjiaa", sum := "ec4eb86fb206d745bcca16133c29b8a69f9ad146000a0ae7dcae42bf3a00cad0", func := "loop.example/g01141/laws.FnExactNewHall", spec := "fnExactNewHall", apart := false }
def FnExactNewHallSaid : Prop := fnExactNewHallRow.holds Try.pinned (OpenSpec.ofChange fnExactNewHallSpec)

/-- ITS FALSE NEIGHBOUR: 'it returns false'. Refute it at one input. -/
def fnExactNewHallWrong : ChangeSpec := { name := "fnExactNewHall", fn := fun _ => fun
  | [d1, d2] => { results := [.lit (.bool false)], args := [d1, d2] }
  | _ => none }
def FnExactNewHallWrongFalsely : Prop := fnExactNewHallRow.holds Try.pinned (OpenSpec.ofChange fnExactNewHallWrong)

/-- 'laws.FnExactMixWirings': WHATEVER THE INPUT: true; the input reads as it did. -/
def fnExactMixWiringsSpec : ChangeSpec := { name := "fnExactMixWirings", fn := fun _ => fun
  | [d1, d2, d3, d4] => { results := [.lit (.bool true)], args := [d1, d2, d3, d4] }
  | _ => none }
def fnExactMixWiringsRow : OpenClaim := { program := "ytpkjjnmegdkjiaa", sum := "ec4eb86fb206d745bcca16133c29b8a69f9ad146000a0ae7dcae42bf3a00cad0", func := "loop.example/g01141/laws.FnExactMixWirings", spec := "fnExactMixWirings", unfollowed := true, recurses := true, apart := false }
def FnExactMixWiringsSaid : Prop := fnExactMixWiringsRow.holds Try.pinned (OpenSpec.ofChange fnExactMixWiringsSpec)

/-- ITS FALSE NEIGHBOUR: 'it returns false'. Refute it at one input. -/
def fnExactMixWiringsWrong : ChangeSpec := { name := "fnExactMixWirings", fn := fun _ => fun
  | [d1, d2, d3, d4] => { results := [.lit (.bool false)], args := [d1, d2, d3, d4] }
  | _ => none }
def FnExactMixWiringsWrongFalsely : Prop := fnExactMixWiringsRow.holds Try.pinned (OpenSpec.ofChange fnExactMixWiringsWrong)

/- THE SECOND FORM. 'bulk': how many values and letters a reading holds, each counted each time it is reached (what is shared counts as often as it is met; a slice's spare places count too). A statement '..UptoSaid' is the law's where the arguments, and the package variables that the reading takes, are together of bulk at most 1048576: NARROWER than '..Said'. Prove '..Said' where nothing that the law and all that it calls make is longer than what came in: it says more and counts as full. Else prove '..UptoSaid'. A law counts once. -/
mutual
def uptoBulk {H : Type} : DataW H → Nat
  | .lit (.string bytes) => bytes.length + 1
  | .lit _ => 1
  | .nil => 1
  | .ptr d => uptoBulk d + 1
  | .slice elems spare => uptoBulkAll elems + uptoBulkAll spare + 1
  | .agg parts => uptoBulkAll parts + 1
  | .iface _ d => uptoBulk d + 1
  | .map entries => uptoBulkEntries entries + 1
  | .held _ => 1
def uptoBulkAll {H : Type} : List (DataW H) → Nat
  | [] => 0
  | d :: r => uptoBulk d + uptoBulkAll r
def uptoBulkEntries {H : Type} : List (Lit × DataW H) → Nat
  | [] => 0
  | x :: r => uptoBulkEntry x + uptoBulkEntries r
def uptoBulkEntry {H : Type} : Lit × DataW H → Nat
  | (.string bytes, d) => bytes.length + uptoBulk d + 1
  | (_, d) => uptoBulk d + 1
 end
def uptoSmall : (H : Type) → List (DataW H) → Bool := fun _ ds => decide (uptoBulkAll ds ≤ 1048576)
def OpenSpec.upto (s : _root_.Go.ChangeSpec) : _root_.Go.OpenSpec := { _root_.Go.OpenSpec.ofChange s with cond := some uptoSmall }

/-- 'laws.FnExactFlipGame', WHERE WHAT IT READS IS OF BULK AT MOST 1048576: true; the input reads as it did. -/
def fnExactFlipGameUptoRow : OpenClaim := { program := "ytpkjjnmegdkjiaa", sum := "ec4eb86fb206d745bcca16133c29b8a69f9ad146000a0ae7dcae42bf3a00cad0", func := "loop.example/g01141/laws.FnExactFlipGame", spec := "fnExactFlipGame", apart := false, narrowed := true }
def FnExactFlipGameUptoSaid : Prop := fnExactFlipGameUptoRow.holds Try.pinned (OpenSpec.upto fnExactFlipGameSpec)

/-- 'laws.FnExactTrimGame', WHERE WHAT IT READS IS OF BULK AT MOST 1048576: true; the input reads as it did. -/
def fnExactTrimGameUptoRow : OpenClaim := { program := "ytpkjjnmegdkjiaa", sum := "ec4eb86fb206d745bcca16133c29b8a69f9ad146000a0ae7dcae42bf3a00cad0", func := "loop.example/g01141/laws.FnExactTrimGame", spec := "fnExactTrimGame", apart := false, narrowed := true }
def FnExactTrimGameUptoSaid : Prop := fnExactTrimGameUptoRow.holds Try.pinned (OpenSpec.upto fnExactTrimGameSpec)

/-- 'laws.FnExactIsHall', WHERE WHAT IT READS IS OF BULK AT MOST 1048576: true; the input reads as it did. -/
def fnExactIsHallUptoRow : OpenClaim := { program := "ytpkjjnmegdkjiaa", sum := "ec4eb86fb206d745bcca16133c29b8a69f9ad146000a0ae7dcae42bf3a00cad0", func := "loop.example/g01141/laws.FnExactIsHall", spec := "fnExactIsHall", apart := false, narrowed := true }
def FnExactIsHallUptoSaid : Prop := fnExactIsHallUptoRow.holds Try.pinned (OpenSpec.upto fnExactIsHallSpec)

/-- 'laws.FnExactPairOf', WHERE WHAT IT READS IS OF BULK AT MOST 1048576: true; the input reads as it did. -/
def fnExactPairOfUptoRow : OpenClaim := { program := "ytpkjjnmegdkjiaa", sum := "ec4eb86fb206d745bcca16133c29b8a69f9ad146000a0ae7dcae42bf3a00cad0", func := "loop.example/g01141/laws.FnExactPairOf", spec := "fnExactPairOf", unfollowed := true, recurses := true, apart := false, narrowed := true }
def FnExactPairOfUptoSaid : Prop := fnExactPairOfUptoRow.holds Try.pinned (OpenSpec.upto fnExactPairOfSpec)

/-- 'laws.FnExactAddThird', WHERE WHAT IT READS IS OF BULK AT MOST 1048576: true; the input reads as it did. -/
def fnExactAddThirdUptoRow : OpenClaim := { program := "ytpkjjnmegdkjiaa", sum := "ec4eb86fb206d745bcca16133c29b8a69f9ad146000a0ae7dcae42bf3a00cad0", func := "loop.example/g01141/laws.FnExactAddThird", spec := "fnExactAddThird", unfollowed := true, recurses := true, apart := false, narrowed := true }
def FnExactAddThirdUptoSaid : Prop := fnExactAddThirdUptoRow.holds Try.pinned (OpenSpec.upto fnExactAddThirdSpec)

/-- 'laws.FnExactSumBoxes', WHERE WHAT IT READS IS OF BULK AT MOST 1048576: true; the input reads as it did. -/
def fnExactSumBoxesUptoRow : OpenClaim := { program := "ytpkjjnmegdkjiaa", sum := "ec4eb86fb206d745bcca16133c29b8a69f9ad146000a0ae7dcae42bf3a00cad0", func := "loop.example/g01141/laws.FnExactSumBoxes", spec := "fnExactSumBoxes", unfollowed := true, recurses := true, apart := false, narrowed := true }
def FnExactSumBoxesUptoSaid : Prop := fnExactSumBoxesUptoRow.holds Try.pinned (OpenSpec.upto fnExactSumBoxesSpec)

/-- 'laws.FnExactPlayChance', WHERE WHAT IT READS IS OF BULK AT MOST 1048576: true; the input reads as it did. -/
def fnExactPlayChanceUptoRow : OpenClaim := { program := "ytpkjjnmegdkjiaa", sum := "ec4eb86fb206d745bcca16133c29b8a69f9ad146000a0ae7dcae42bf3a00cad0", func := "loop.example/g01141/laws.FnExactPlayChance", spec := "fnExactPlayChance", apart := false, narrowed := true }
def FnExactPlayChanceUptoSaid : Prop := fnExactPlayChanceUptoRow.holds Try.pinned (OpenSpec.upto fnExactPlayChanceSpec)

/-- 'laws.FnExactWireBoxes', WHERE WHAT IT READS IS OF BULK AT MOST 1048576: true; the input reads as it did. -/
def fnExactWireBoxesUptoRow : OpenClaim := { program := "ytpkjjnmegdkjiaa", sum := "ec4eb86fb206d745bcca16133c29b8a69f9ad146000a0ae7dcae42bf3a00cad0", func := "loop.example/g01141/laws.FnExactWireBoxes", spec := "fnExactWireBoxes", unfollowed := true, recurses := true, apart := false, narrowed := true }
def FnExactWireBoxesUptoSaid : Prop := fnExactWireBoxesUptoRow.holds Try.pinned (OpenSpec.upto fnExactWireBoxesSpec)

/-- 'laws.FnExactRepeatSum', WHERE WHAT IT READS IS OF BULK AT MOST 1048576: true; the input reads as it did. -/
def fnExactRepeatSumUptoRow : OpenClaim := { program := "ytpkjjnmegdkjiaa", sum := "ec4eb86fb206d745bcca16133c29b8a69f9ad146000a0ae7dcae42bf3a00cad0", func := "loop.example/g01141/laws.FnExactRepeatSum", spec := "fnExactRepeatSum", unfollowed := true, recurses := true, apart := false, narrowed := true }
def FnExactRepeatSumUptoSaid : Prop := fnExactRepeatSumUptoRow.holds Try.pinned (OpenSpec.upto fnExactRepeatSumSpec)

/-- 'laws.FnExactBestAsks', WHERE WHAT IT READS IS OF BULK AT MOST 1048576: true; the input reads as it did. -/
def fnExactBestAsksUptoRow : OpenClaim := { program := "ytpkjjnmegdkjiaa", sum := "ec4eb86fb206d745bcca16133c29b8a69f9ad146000a0ae7dcae42bf3a00cad0", func := "loop.example/g01141/laws.FnExactBestAsks", spec := "fnExactBestAsks", unfollowed := true, recurses := true, apart := false, narrowed := true }
def FnExactBestAsksUptoSaid : Prop := fnExactBestAsksUptoRow.holds Try.pinned (OpenSpec.upto fnExactBestAsksSpec)

/-- 'laws.FnExactNewHall', WHERE WHAT IT READS IS OF BULK AT MOST 1048576: true; the input reads as it did. -/
def fnExactNewHallUptoRow : OpenClaim := { program := "ytpkjjnmegdkjiaa", sum := "ec4eb86fb206d745bcca16133c29b8a69f9ad146000a0ae7dcae42bf3a00cad0", func := "loop.example/g01141/laws.FnExactNewHall", spec := "fnExactNewHall", apart := false, narrowed := true }
def FnExactNewHallUptoSaid : Prop := fnExactNewHallUptoRow.holds Try.pinned (OpenSpec.upto fnExactNewHallSpec)

/-- 'laws.FnExactMixWirings', WHERE WHAT IT READS IS OF BULK AT MOST 1048576: true; the input reads as it did. -/
def fnExactMixWiringsUptoRow : OpenClaim := { program := "ytpkjjnmegdkjiaa", sum := "ec4eb86fb206d745bcca16133c29b8a69f9ad146000a0ae7dcae42bf3a00cad0", func := "loop.example/g01141/laws.FnExactMixWirings", spec := "fnExactMixWirings", unfollowed := true, recurses := true, apart := false, narrowed := true }
def FnExactMixWiringsUptoSaid : Prop := fnExactMixWiringsUptoRow.holds Try.pinned (OpenSpec.upto fnExactMixWiringsSpec)

end Rows
end Go.Proofs.Ytpkjjnmegdkjiaa
