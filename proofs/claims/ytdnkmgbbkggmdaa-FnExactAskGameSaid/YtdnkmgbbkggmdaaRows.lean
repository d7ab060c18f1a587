/-
  No cell of these rows narrows 'for every input' (looked for: loops, veiled, ifaces, maps, wideKeys, modest, calm, conditions, laid).
  DERIVED. THE GIVEN ROWS OF THIS SEAT. 3 by the template 'for every input the law returns true; each argument reads behind the call as it read before'; 0 by the template 'total and deterministic' (their statements: YtdnkmgbbkggmdaaTotals.lean).
  GIVEN WITH THE SEED: the statements are not yours to turn. If you find one false, say at which input.
  Laid BY PROGRAM, IN A SANDBOX (cutbox-rows.mjs): the forced cells as the released guide's own fill.sh prints them over the translation dc2f30279f19d165… (all of the seat's roots in one cut). By AI agents, Wed Nov 11 2026. No macro, syntax, notation, axiom, sorry.
-/
import Derived.Test.YtdnkmgbbkggmdaaChecked
import GoSem.Claim
import GoSem.ClaimJoined
import GoSem.ClaimMapViews
import Derived.JoinedTies
import Derived.KernelRfl
namespace Go.Proofs.Ytdnkmgbbkggmdaa
/- THE CELL 'sum', in the pinned program and in every row, IS THE sha256 OF THE DUMP (.gsa) THAT YtdnkmgbbkggmdaaProg.lean LOADS. Nothing in Lean hashes anything: it is a label: what it is worth is what the hold of that sum in a sandbox is worth. -/
noncomputable def Try.pinned : Pinned := { name := "ytdnkmgbbkggmdaa", sum := "dc2f30279f19d165ca4fc366ee2c09fe6d41f3232310e7f2798ac75833314f5d", checked := Try.checked }
namespace Rows
def none {H : Type} : Left H := { results := [], args := [] }

/-- 'laws.FnExactIsValidRecord': WHATEVER THE INPUT: true; the input reads as it did. -/
def fnExactIsValidRecordSpec : ChangeSpec := { name := "fnExactIsValidRecord", fn := fun _ => fun
  | [d] => { results := [.lit (.bool true)], args := [d] }
  | _ => none }
def fnExactIsValidRecordRow : OpenClaim := { program := "ytdnkmgbbkggmdaa", sum := "dc2f30279f19d165ca4fc366ee2c09fe6d41f3232310e7f2798ac75833314f5d", func := "loop.example/g01141/laws.FnExactIsValidRecord", spec := "fnExactIsValidRecord", inPlace := ["internal/bytealg.IndexByteString", "internal/bytealg.IndexString"], named := ["internal/bytealg.MaxLen"], apart := false }
def FnExactIsValidRecordSaid : Prop := fnExactIsValidRecordRow.holds Try.pinned (OpenSpec.ofChange fnExactIsValidRecordSpec)

/-- ITS FALSE NEIGHBOUR: 'it returns false'. Refute it at one input. -/
def fnExactIsValidRecordWrong : ChangeSpec := { name := "fnExactIsValidRecord", fn := fun _ => fun
  | [d] => { results := [.lit (.bool false)], args := [d] }
  | _ => none }
def FnExactIsValidRecordWrongFalsely : Prop := fnExactIsValidRecordRow.holds Try.pinned (OpenSpec.ofChange fnExactIsValidRecordWrong)

/-- 'laws.FnExactSameByNames': WHATEVER THE INPUT: true; the input reads as it did. -/
def fnExactSameByNamesSpec : ChangeSpec := { name := "fnExactSameByNames", fn := fun _ => fun
  | [d1, d2] => { results := [.lit (.bool true)], args := [d1, d2] }
  | _ => none }
def fnExactSameByNamesRow : OpenClaim := { program := "ytdnkmgbbkggmdaa", sum := "dc2f30279f19d165ca4fc366ee2c09fe6d41f3232310e7f2798ac75833314f5d", func := "loop.example/g01141/laws.FnExactSameByNames", spec := "fnExactSameByNames", inPlace := ["slices.overlaps[int]"], unfollowed := true, recurses := true, apart := false }
def FnExactSameByNamesSaid : Prop := fnExactSameByNamesRow.holds Try.pinned (OpenSpec.ofChange fnExactSameByNamesSpec)

/-- ITS FALSE NEIGHBOUR: 'it returns false'. Refute it at one input. -/
def fnExactSameByNamesWrong : ChangeSpec := { name := "fnExactSameByNames", fn := fun _ => fun
  | [d1, d2] => { results := [.lit (.bool false)], args := [d1, d2] }
  | _ => none }
def FnExactSameByNamesWrongFalsely : Prop := fnExactSameByNamesRow.holds Try.pinned (OpenSpec.ofChange fnExactSameByNamesWrong)

/-- 'laws.FnExactAskGame': WHATEVER THE INPUT: true; the input reads as it did. -/
def fnExactAskGameSpec : ChangeSpec := { name := "fnExactAskGame", fn := fun _ => fun
  | [d1, d2, d3] => { results := [.lit (.bool true)], args := [d1, d2, d3] }
  | _ => none }
def fnExactAskGameRow : OpenClaim := { program := "ytdnkmgbbkggmdaa", sum := "dc2f30279f19d165ca4fc366ee2c09fe6d41f3232310e7f2798ac75833314f5d", func := "loop.example/g01141/laws.FnExactAskGame", spec := "fnExactAskGame", recurses := true, apart := false }
def FnExactAskGameSaid : Prop := fnExactAskGameRow.holds Try.pinned (OpenSpec.ofChange fnExactAskGameSpec)

/-- ITS FALSE NEIGHBOUR: 'it returns false'. Refute it at one input. -/
def fnExactAskGameWrong : ChangeSpec := { name := "fnExactAskGame", fn := fun _ => fun
  | [d1, d2, d3] => { results := [.lit (.bool false)], args := [d1, d2, d3] }
  | _ => none }
def FnExactAskGameWrongFalsely : Prop := fnExactAskGameRow.holds Try.pinned (OpenSpec.ofChange fnExactAskGameWrong)

/- THE SECOND FORM. 'bulk': how many values and letters a reading holds, each counted each time it is reached (what is shared counts as often as it is met; a slice's spare places count too). A statement '..UptoSaid' is the law's where the arguments, and the package variables that the reading takes, are together of bulk at most 1048576: NARROWER than '..Said'. Prove '..Said' where nothing that the law and all that it calls make is longer than what came in: it says more and counts as full. Else prove '..UptoSaid'. A law counts once. -/
mutual
def uptoBulk {H : Type} : DataW H → Nat
  | .lit (.string bytes) => bytes.length + 1
  | .lit _ => 1
  | .nil => 1
  | .ptr d => uptoBulk d + 1
  | .slice elems spare => uptoBulkAll elems + uptoBulkAll spare + 1
  | .agg parts => uptoBulkAll parts + 1
  | .iface _ d => uptoBulk d + 1
  | .map entries => uptoBulkEntries entries + 1
  | .held _ => 1
def uptoBulkAll {H : Type} : List (DataW H) → Nat
  | [] => 0
  | d :: r => uptoBulk d + uptoBulkAll r
def uptoBulkEntries {H : Type} : List (Lit × DataW H) → Nat
  | [] => 0
  | x :: r => uptoBulkEntry x + uptoBulkEntries r
def uptoBulkEntry {H : Type} : Lit × DataW H → Nat
  | (.string bytes, d) => bytes.length + uptoBulk d + 1
  | (_, d) => uptoBulk d + 1
 end
def uptoSmall : (H : Type) → List (DataW H) → Bool := fun _ ds => decide (uptoBulkAll ds ≤ 1048576)
def OpenSpec.upto (s : _root_.Go.ChangeSpec) : _root_.Go.OpenSpec := { _root_.Go.OpenSpec.ofChange s with cond := some uptoSmall }

/-- 'laws.FnExactIsValidRecord', WHERE WHAT IT READS IS OF BULK AT MOST 1048576: true; the input reads as it did. -/
def fnExactIsValidRecordUptoRow : OpenClaim := { program := "ytdnkmgbbkggmdaa", sum := "dc2f30279f19d165ca4fc366ee2c09fe6d41f3232310e7f2798ac75833314f5d", func := "loop.example/g01141/laws.FnExactIsValidRecord", spec := "fnExactIsValidRecord", inPlace := ["internal/bytealg.IndexByteString", "internal/bytealg.IndexString"], named := ["internal/bytealg.MaxLen"], apart := false, narrowed := true }
def FnExactIsValidRecordUptoSaid : Prop := fnExactIsValidRecordUptoRow.holds Try.pinned (OpenSpec.upto fnExactIsValidRecordSpec)

/-- 'laws.FnExactSameByNames', WHERE WHAT IT READS IS OF BULK AT MOST 1048576: true; the input reads as it did. -/
def fnExactSameByNamesUptoRow : OpenClaim := { program := "ytdnkmgbbkggmdaa", sum := "dc2f30279f19d165ca4fc366ee2c09fe6d41f3232310e7f2798ac75833314f5d", func := "loop.example/g01141/laws.FnExactSameByNames", spec := "fnExactSameByNames", inPlace := ["slices.overlaps[int]"], unfollowed := true, recurses := true, apart := false, narrowed := true }
def FnExactSameByNamesUptoSaid : Prop := fnExactSameByNamesUptoRow.holds Try.pinned (OpenSpec.upto fnExactSameByNamesSpec)

/-- 'laws.FnExactAskGame', WHERE WHAT IT READS IS OF BULK AT MOST 1048576: true; the input reads as it did. -/
def fnExactAskGameUptoRow : OpenClaim := { program := "ytdnkmgbbkggmdaa", sum := "dc2f30279f19d165ca4fc366ee2c09fe6d41f3232310e7f2798ac75833314f5d", func := "loop.example/g01141/laws.FnExactAskGame", spec := "fnExactAskGame", recurses := true, apart := false, narrowed := true }
def FnExactAskGameUptoSaid : Prop := fnExactAskGameUptoRow.holds Try.pinned (OpenSpec.upto fnExactAskGameSpec)

end Rows
end Go.Proofs.Ytdnkmgbbkggmdaa
