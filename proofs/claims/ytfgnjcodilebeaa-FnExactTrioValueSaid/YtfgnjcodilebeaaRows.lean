/-
  No cell of these rows narrows 'for every input' (looked for: loops, veiled, ifaces, maps, wideKeys, modest, calm, conditions, laid).
  DERIVED. THE GIVEN ROWS OF THIS SEAT. 12 by the template 'for every input the law returns true; each argument reads behind the call as it read before'; 0 by the template 'total and deterministic' (their statements: YtfgnjcodilebeaaTotals.lean).
  GIVEN WITH THE SEED: the statements are not yours to turn. If you find one false, say at which input.
  Laid BY PROGRAM, IN A SANDBOX (cutbox-rows.mjs): the forced cells as the released guide's own fill.sh prints them over the translation 9d66f94569a7a12e… (all of the seat's roots in one cut). By AI agents, Wed Nov 11 2026. No macro, syntax, notation, axiom, sorry.
-/
import Derived.Test.YtfgnjcodilebeaaChecked
import GoSem.Claim
import GoSem.ClaimJoined
import GoSem.ClaimMapViews
import Derived.JoinedTies
import Derived.KernelRfl
namespace Go.Proofs.Ytfgnjcodilebeaa
/- THE CELL 'sum', in the pinned program and in every row, IS THE sha256 OF THE DUMP (.gsa) THAT YtfgnjcodilebeaaProg.lean LOADS. Nothing in Lean hashes anything: it is a label: what it is worth is what the hold of that sum in a sandbox is worth. -/
noncomputable def Try.pinned : Pinned := { name := "ytfgnjcodilebeaa", sum := "9d66f94569a7a12ee63c908b9ea235c906864ac8523fd3f4418d7d66dd48ea41", checked := Try.checked }
namespace Rows
def none {H : Type} : Left H := { results := [], args := [] }

/-- 'laws.FnExactIsTrio': WHATEVER THE INPUT: true; the input reads as it did. -/
def fnExactIsTrioSpec : ChangeSpec := { name := "fnExactIsTrio", fn := fun _ => fun
  | [d] => { results := [.lit (.bool true)], args := [d] }
  | _ => none }
def fnExactIsTrioRow : OpenClaim := { program := "ytfgnjcodilebeaa", sum := "9d66f94569a7a12ee63c908b9ea235c906864ac8523fd3f4418d7d66dd48ea41", func := "loop.example/g01141/laws.FnExactIsTrio", spec := "fnExactIsTrio", apart := false }
def FnExactIsTrioSaid : Prop := fnExactIsTrioRow.holds Try.pinned (OpenSpec.ofChange fnExactIsTrioSpec)

/-- ITS FALSE NEIGHBOUR: 'it returns false'. Refute it at one input. -/
def fnExactIsTrioWrong : ChangeSpec := { name := "fnExactIsTrio", fn := fun _ => fun
  | [d] => { results := [.lit (.bool false)], args := [d] }
  | _ => none }
def FnExactIsTrioWrongFalsely : Prop := fnExactIsTrioRow.holds Try.pinned (OpenSpec.ofChange fnExactIsTrioWrong)

/-- 'laws.FnExactTrioValue': WHATEVER THE INPUT: true; the input reads as it did. -/
def fnExactTrioValueSpec : ChangeSpec := { name := "fnExactTrioValue", fn := fun _ => fun
  | [d1, d2] => { results := [.lit (.bool true)], args := [d1, d2] }
  | _ => none }
def fnExactTrioValueRow : OpenClaim := { program := "ytfgnjcodilebeaa", sum := "9d66f94569a7a12ee63c908b9ea235c906864ac8523fd3f4418d7d66dd48ea41", func := "loop.example/g01141/laws.FnExactTrioValue", spec := "fnExactTrioValue", apart := false }
def FnExactTrioValueSaid : Prop := fnExactTrioValueRow.holds Try.pinned (OpenSpec.ofChange fnExactTrioValueSpec)

/-- ITS FALSE NEIGHBOUR: 'it returns false'. Refute it at one input. -/
def fnExactTrioValueWrong : ChangeSpec := { name := "fnExactTrioValue", fn := fun _ => fun
  | [d1, d2] => { results := [.lit (.bool false)], args := [d1, d2] }
  | _ => none }
def FnExactTrioValueWrongFalsely : Prop := fnExactTrioValueRow.holds Try.pinned (OpenSpec.ofChange fnExactTrioValueWrong)

/-- 'laws.FnExactTrioOf': WHATEVER THE INPUT: true; the input reads as it did. -/
def fnExactTrioOfSpec : ChangeSpec := { name := "fnExactTrioOf", fn := fun _ => fun
  | [d1, d2] => { results := [.lit (.bool true)], args := [d1, d2] }
  | _ => none }
def fnExactTrioOfRow : OpenClaim := { program := "ytfgnjcodilebeaa", sum := "9d66f94569a7a12ee63c908b9ea235c906864ac8523fd3f4418d7d66dd48ea41", func := "loop.example/g01141/laws.FnExactTrioOf", spec := "fnExactTrioOf", unfollowed := true, recurses := true, apart := false }
def FnExactTrioOfSaid : Prop := fnExactTrioOfRow.holds Try.pinned (OpenSpec.ofChange fnExactTrioOfSpec)

/-- ITS FALSE NEIGHBOUR: 'it returns false'. Refute it at one input. -/
def fnExactTrioOfWrong : ChangeSpec := { name := "fnExactTrioOf", fn := fun _ => fun
  | [d1, d2] => { results := [.lit (.bool false)], args := [d1, d2] }
  | _ => none }
def FnExactTrioOfWrongFalsely : Prop := fnExactTrioOfRow.holds Try.pinned (OpenSpec.ofChange fnExactTrioOfWrong)

/-- 'laws.FnExactIsQuietTrio': WHATEVER THE INPUT: true; the input reads as it did. -/
def fnExactIsQuietTrioSpec : ChangeSpec := { name := "fnExactIsQuietTrio", fn := fun _ => fun
  | [d] => { results := [.lit (.bool true)], args := [d] }
  | _ => none }
def fnExactIsQuietTrioRow : OpenClaim := { program := "ytfgnjcodilebeaa", sum := "9d66f94569a7a12ee63c908b9ea235c906864ac8523fd3f4418d7d66dd48ea41", func := "loop.example/g01141/laws.FnExactIsQuietTrio", spec := "fnExactIsQuietTrio", apart := false }
def FnExactIsQuietTrioSaid : Prop := fnExactIsQuietTrioRow.holds Try.pinned (OpenSpec.ofChange fnExactIsQuietTrioSpec)

/-- ITS FALSE NEIGHBOUR: 'it returns false'. Refute it at one input. -/
def fnExactIsQuietTrioWrong : ChangeSpec := { name := "fnExactIsQuietTrio", fn := fun _ => fun
  | [d] => { results := [.lit (.bool false)], args := [d] }
  | _ => none }
def FnExactIsQuietTrioWrongFalsely : Prop := fnExactIsQuietTrioRow.holds Try.pinned (OpenSpec.ofChange fnExactIsQuietTrioWrong)

/-- 'laws.FnExactSumTrio': WHATEVER THE INPUT: true; the input reads as it did. -/
def fnExactSumTrioSpec : ChangeSpec := { name := "fnExactSumTrio", fn := fun _ => fun
  | [d] => { results := [.lit (.bool true)], args := [d] }
  | _ => none }
def fnExactSumTrioRow : OpenClaim := { program := "ytfgnjcodilebeaa", sum := "9d66f94569a7a12ee63c908b9ea235c906864ac8523fd3f4418d7d66dd48ea41", func := "loop.example/g01141/laws.FnExactSumTrio", spec := "fnExactSumTrio", unfollowed := true, recurses := true, apart := false }
def FnExactSumTrioSaid : Prop := fnExactSumTrioRow.holds Try.pinned (OpenSpec.ofChange fnExactSumTrioSpec)

/-- ITS FALSE NEIGHBOUR: 'it returns false'. Refute it at one input. -/
def fnExactSumTrioWrong : ChangeSpec := { name := "fnExactSumTrio", fn := fun _ => fun
  | [d] => { results := [.lit (.bool false)], args := [d] }
  | _ => none }
def FnExactSumTrioWrongFalsely : Prop := fnExactSumTrioRow.holds Try.pinned (OpenSpec.ofChange fnExactSumTrioWrong)

/-- 'laws.FnExactGroupTrio': WHATEVER THE INPUT: true; the input reads as it did. -/
def fnExactGroupTrioSpec : ChangeSpec := { name := "fnExactGroupTrio", fn := fun _ => fun
  | [d1, d2, d3, d4] => { results := [.lit (.bool true)], args := [d1, d2, d3, d4] }
  | _ => none }
def fnExactGroupTrioRow : OpenClaim := { program := "ytfgnjcodilebeaa", sum := "9d66f94569a7a12ee63c908b9ea235c906864ac8523fd3f4418d7d66dd48ea41", func := "loop.example/g01141/laws.FnExactGroupTrio", spec := "fnExactGroupTrio", unfollowed := true, recurses := true, apart := false }
def FnExactGroupTrioSaid : Prop := fnExactGroupTrioRow.holds Try.pinned (OpenSpec.ofChange fnExactGroupTrioSpec)

/-- ITS FALSE NEIGHBOUR: 'it returns false'. Refute it at one input. -/
def fnExactGroupTrioWrong : ChangeSpec := { name := "fnExactGroupTrio", fn := fun _ => fun
  | [d1, d2, d3, d4] => { results := [.lit (.bool false)], args := [d1, d2, d3, d4] }
  | _ => none }
def FnExactGroupTrioWrongFalsely : Prop := fnExactGroupTrioRow.holds Try.pinned (OpenSpec.ofChange fnExactGroupTrioWrong)

/-- 'laws.FnExactIsValidRecord': WHATEVER THE INPUT: true; the input reads as it did. -/
def fnExactIsValidRecordSpec : ChangeSpec := { name := "fnExactIsValidRecord", fn := fun _ => fun
  | [d] => { results := [.lit (.bool true)], args := [d] }
  | _ => none }
def fnExactIsValidRecordRow : OpenClaim := { program := "ytfgnjcodilebeaa", sum := "9d66f94569a7a12ee63c908b9ea235c906864ac8523fd3f4418d7d66dd48ea41", func := "loop.example/g01141/laws.FnExactIsValidRecord", spec := "fnExactIsValidRecord", inPlace := ["internal/bytealg.IndexByteString", "internal/bytealg.IndexString"], named := ["internal/bytealg.MaxLen"], apart := false }
def FnExactIsValidRecordSaid : Prop := fnExactIsValidRecordRow.holds Try.pinned (OpenSpec.ofChange fnExactIsValidRecordSpec)

/-- ITS FALSE NEIGHBOUR: 'it returns false'. Refute it at one input. -/
def fnExactIsValidRecordWrong : ChangeSpec := { name := "fnExactIsValidRecord", fn := fun _ => fun
  | [d] => { results := [.lit (.bool false)], args := [d] }
  | _ => none }
def FnExactIsValidRecordWrongFalsely : Prop := fnExactIsValidRecordRow.holds Try.pinned (OpenSpec.ofChange fnExactIsValidRecordWrong)

/-- 'laws.FnExactSignSum': WHATEVER THE INPUT: true; the input reads as it did. -/
def fnExactSignSumSpec : ChangeSpec := { name := "fnExactSignSum", fn := fun _ => fun
  | [d] => { results := [.lit (.bool true)], args := [d] }
  | _ => none }
def fnExactSignSumRow : OpenClaim := { program := "ytfgnjcodilebeaa", sum := "9d66f94569a7a12ee63c908b9ea235c906864ac8523fd3f4418d7d66dd48ea41", func := "loop.example/g01141/laws.FnExactSignSum", spec := "fnExactSignSum", apart := false }
def FnExactSignSumSaid : Prop := fnExactSignSumRow.holds Try.pinned (OpenSpec.ofChange fnExactSignSumSpec)

/-- ITS FALSE NEIGHBOUR: 'it returns false'. Refute it at one input. -/
def fnExactSignSumWrong : ChangeSpec := { name := "fnExactSignSum", fn := fun _ => fun
  | [d] => { results := [.lit (.bool false)], args := [d] }
  | _ => none }
def FnExactSignSumWrongFalsely : Prop := fnExactSignSumRow.holds Try.pinned (OpenSpec.ofChange fnExactSignSumWrong)

/-- 'laws.FnExactTurnTrio': WHATEVER THE INPUT: true; the input reads as it did. -/
def fnExactTurnTrioSpec : ChangeSpec := { name := "fnExactTurnTrio", fn := fun _ => fun
  | [d] => { results := [.lit (.bool true)], args := [d] }
  | _ => none }
def fnExactTurnTrioRow : OpenClaim := { program := "ytfgnjcodilebeaa", sum := "9d66f94569a7a12ee63c908b9ea235c906864ac8523fd3f4418d7d66dd48ea41", func := "loop.example/g01141/laws.FnExactTurnTrio", spec := "fnExactTurnTrio", unfollowed := true, recurses := true, apart := false }
def FnExactTurnTrioSaid : Prop := fnExactTurnTrioRow.holds Try.pinned (OpenSpec.ofChange fnExactTurnTrioSpec)

/-- ITS FALSE NEIGHBOUR: 'it returns false'. Refute it at one input. -/
def fnExactTurnTrioWrong : ChangeSpec := { name := "fnExactTurnTrio", fn := fun _ => fun
  | [d] => { results := [.lit (.bool false)], args := [d] }
  | _ => none }
def FnExactTurnTrioWrongFalsely : Prop := fnExactTurnTrioRow.holds Try.pinned (OpenSpec.ofChange fnExactTurnTrioWrong)

/-- 'laws.FnExactMixTrios': WHATEVER THE INPUT: true; the input reads as it did. -/
def fnExactMixTriosSpec : ChangeSpec := { name := "fnExactMixTrios", fn := fun _ => fun
  | [d1, d2] => { results := [.lit (.bool true)], args := [d1, d2] }
  | _ => none }
def fnExactMixTriosRow : OpenClaim := { program := "ytfgnjcodilebeaa", sum := "9d66f94569a7a12ee63c908b9ea235c906864ac8523fd3f4418d7d66dd48ea41", func := "loop.example/g01141/laws.FnExactMixTrios", spec := "fnExactMixTrios", unfollowed := true, recurses := true, apart := false }
def FnExactMixTriosSaid : Prop := fnExactMixTriosRow.holds Try.pinned (OpenSpec.ofChange fnExactMixTriosSpec)

/-- ITS FALSE NEIGHBOUR: 'it returns false'. Refute it at one input. -/
def fnExactMixTriosWrong : ChangeSpec := { name := "fnExactMixTrios", fn := fun _ => fun
  | [d1, d2] => { results := [.lit (.bool false)], args := [d1, d2] }
  | _ => none }
def FnExactMixTriosWrongFalsely : Prop := fnExactMixTriosRow.holds Try.pinned (OpenSpec.ofChange fnExactMixTriosWrong)

/-- 'laws.FnExactGroupSum': WHATEVER THE INPUT: true; the input reads as it did. -/
def fnExactGroupSumSpec : ChangeSpec := { name := "fnExactGroupSum", fn := fun _ => fun
  | [d] => { results := [.lit (.bool true)], args := [d] }
  | _ => none }
def fnExactGroupSumRow : OpenClaim := { program := "ytfgnjcodilebeaa", sum := "9d66f94569a7a12ee63c908b9ea235c906864ac8523fd3f4418d7d66dd48ea41", func := "loop.example/g01141/laws.FnExactGroupSum", spec := "fnExactGroupSum", apart := false }
def FnExactGroupSumSaid : Prop := fnExactGroupSumRow.holds Try.pinned (OpenSpec.ofChange fnExactGroupSumSpec)

/-- ITS FALSE NEIGHBOUR: 'it returns false'. Refute it at one input. -/
def fnExactGroupSumWrong : ChangeSpec := { name := "fnExactGroupSum", fn := fun _ => fun
  | [d] => { results := [.lit (.bool false)], args := [d] }
  | _ => none }
def FnExactGroupSumWrongFalsely : Prop := fnExactGroupSumRow.holds Try.pinned (OpenSpec.ofChange fnExactGroupSumWrong)

/-- 'laws.FnExactTripleAgreements': WHATEVER THE INPUT: true; the input reads as it did. -/
def fnExactTripleAgreementsSpec : ChangeSpec := { name := "fnExactTripleAgreements", fn := fun _ => fun
  | [d] => { results := [.lit (.bool true)], args := [d] }
  | _ => none }
def fnExactTripleAgreementsRow : OpenClaim := { program := "ytfgnjcodilebeaa", sum := "9d66f94569a7a12ee63c908b9ea235c906864ac8523fd3f4418d7d66dd48ea41", func := "loop.example/g01141/laws.FnExactTripleAgreements", spec := "fnExactTripleAgreements", apart := false }
def FnExactTripleAgreementsSaid : Prop := fnExactTripleAgreementsRow.holds Try.pinned (OpenSpec.ofChange fnExactTripleAgreementsSpec)

/-- ITS FALSE NEIGHBOUR: 'it returns false'. Refute it at one input. -/
def fnExactTripleAgreementsWrong : ChangeSpec := { name := "fnExactTripleAgreements", fn := fun _ => fun
  | [d] => { results := [.lit (.bool false)], args := [d] }
  | _ => none }
def FnExactTripleAgreementsWrongFalsely : Prop := fnExactTripleAgreementsRow.holds Try.pinned (OpenSpec.ofChange fnExactTripleAgreementsWrong)

/- THE SECOND FORM. 'bulk': how many values and letters a reading holds, each counted each time it is reached (what is shared counts as often as it is met; a slice's spare places count too). A statement '..UptoSaid' is the law's where the arguments, and the package variables that the reading takes, are together of bulk at most 1048576: NARROWER than '..Said'. Prove '..Said' where nothing that the law and all that it calls make is longer than what came in: it says more and counts as full. Else prove '..UptoSaid'. A law counts once. -/
mutual
def uptoBulk {H : Type} : DataW H → Nat
  | .lit (.string bytes) => bytes.length + 1
  | .lit _ => 1
  | .nil => 1
  | .ptr d => uptoBulk d + 1
  | .slice elems spare => uptoBulkAll elems + uptoBulkAll spare + 1
  | .agg parts => uptoBulkAll parts + 1
  | .iface _ d => uptoBulk d + 1
  | .map entries => uptoBulkEntries entries + 1
  | .held _ => 1
def uptoBulkAll {H : Type} : List (DataW H) → Nat
  | [] => 0
  | d :: r => uptoBulk d + uptoBulkAll r
def uptoBulkEntries {H : Type} : List (Lit × DataW H) → Nat
  | [] => 0
  | x :: r => uptoBulkEntry x + uptoBulkEntries r
def uptoBulkEntry {H : Type} : Lit × DataW H → Nat
  | (.string bytes, d) => bytes.length + uptoBulk d + 1
  | (_, d) => uptoBulk d + 1
 end
def uptoSmall : (H : Type) → List (DataW H) → Bool := fun _ ds => decide (uptoBulkAll ds ≤ 1048576)
def OpenSpec.upto (s : _root_.Go.ChangeSpec) : _root_.Go.OpenSpec := { _root_.Go.OpenSpec.ofChange s with cond := some uptoSmall }

/-- 'laws.FnExactIsTrio', WHERE WHAT IT READS IS OF BULK AT MOST 1048576: true; the input reads as it did. -/
def fnExactIsTrioUptoRow : OpenClaim := { program := "ytfgnjcodilebeaa", sum := "9d66f94569a7a12ee63c908b9ea235c906864ac8523fd3f4418d7d66dd48ea41", func := "loop.example/g01141/laws.FnExactIsTrio", spec := "fnExactIsTrio", apart := false, narrowed := true }
def FnExactIsTrioUptoSaid : Prop := fnExactIsTrioUptoRow.holds Try.pinned (OpenSpec.upto fnExactIsTrioSpec)

/-- 'laws.FnExactTrioValue', WHERE WHAT IT READS IS OF BULK AT MOST 1048576: true; the input reads as it did. -/
def fnExactTrioValueUptoRow : OpenClaim := { program := "ytfgnjcodilebeaa", sum := "9d66f94569a7a12ee63c908b9ea235c906864ac8523fd3f4418d7d66dd48ea41", func := "loop.example/g01141/laws.FnExactTrioValue", spec := "fnExactTrioValue", apart := false, narrowed := true }
def FnExactTrioValueUptoSaid : Prop := fnExactTrioValueUptoRow.holds Try.pinned (OpenSpec.upto fnExactTrioValueSpec)

/-- 'laws.FnExactTrioOf', WHERE WHAT IT READS IS OF BULK AT MOST 1048576: true; the input reads as it did. -/
def fnExactTrioOfUptoRow : OpenClaim := { program := "ytfgnjcodilebeaa", sum := "9d66f94569a7a12ee63c908b9ea235c906864ac8523fd3f4418d7d66dd48ea41", func := "loop.example/g01141/laws.FnExactTrioOf", spec := "fnExactTrioOf", unfollowed := true, recurses := true, apart := false, narrowed := true }
def FnExactTrioOfUptoSaid : Prop := fnExactTrioOfUptoRow.holds Try.pinned (OpenSpec.upto fnExactTrioOfSpec)

/-- 'laws.FnExactIsQuietTrio', WHERE WHAT IT READS IS OF BULK AT MOST 1048576: true; the input reads as it did. -/
def fnExactIsQuietTrioUptoRow : OpenClaim := { program := "ytfgnjcodilebeaa", sum := "9d66f94569a7a12ee63c908b9ea235c906864ac8523fd3f4418d7d66dd48ea41", func := "loop.example/g01141/laws.FnExactIsQuietTrio", spec := "fnExactIsQuietTrio", apart := false, narrowed := true }
def FnExactIsQuietTrioUptoSaid : Prop := fnExactIsQuietTrioUptoRow.holds Try.pinned (OpenSpec.upto fnExactIsQuietTrioSpec)

/-- 'laws.FnExactSumTrio', WHERE WHAT IT READS IS OF BULK AT MOST 1048576: true; the input reads as it did. -/
def fnExactSumTrioUptoRow : OpenClaim := { program := "ytfgnjcodilebeaa", sum := "9d66f94569a7a12ee63c908b9ea235c906864ac8523fd3f4418d7d66dd48ea41", func := "loop.example/g01141/laws.FnExactSumTrio", spec := "fnExactSumTrio", unfollowed := true, recurses := true, apart := false, narrowed := true }
def FnExactSumTrioUptoSaid : Prop := fnExactSumTrioUptoRow.holds Try.pinned (OpenSpec.upto fnExactSumTrioSpec)

/-- 'laws.FnExactGroupTrio', WHERE WHAT IT READS IS OF BULK AT MOST 1048576: true; the input reads as it did. -/
def fnExactGroupTrioUptoRow : OpenClaim := { program := "ytfgnjcodilebeaa", sum := "9d66f94569a7a12ee63c908b9ea235c906864ac8523fd3f4418d7d66dd48ea41", func := "loop.example/g01141/laws.FnExactGroupTrio", spec := "fnExactGroupTrio", unfollowed := true, recurses := true, apart := false, narrowed := true }
def FnExactGroupTrioUptoSaid : Prop := fnExactGroupTrioUptoRow.holds Try.pinned (OpenSpec.upto fnExactGroupTrioSpec)

/-- 'laws.FnExactIsValidRecord', WHERE WHAT IT READS IS OF BULK AT MOST 1048576: true; the input reads as it did. -/
def fnExactIsValidRecordUptoRow : OpenClaim := { program := "ytfgnjcodilebeaa", sum := "9d66f94569a7a12ee63c908b9ea235c906864ac8523fd3f4418d7d66dd48ea41", func := "loop.example/g01141/laws.FnExactIsValidRecord", spec := "fnExactIsValidRecord", inPlace := ["internal/bytealg.IndexByteString", "internal/bytealg.IndexString"], named := ["internal/bytealg.MaxLen"], apart := false, narrowed := true }
def FnExactIsValidRecordUptoSaid : Prop := fnExactIsValidRecordUptoRow.holds Try.pinned (OpenSpec.upto fnExactIsValidRecordSpec)

/-- 'laws.FnExactSignSum', WHERE WHAT IT READS IS OF BULK AT MOST 1048576: true; the input reads as it did. -/
def fnExactSignSumUptoRow : OpenClaim := { program := "ytfgnjcodilebeaa", sum := "9d66f94569a7a12ee63c908b9ea235c906864ac8523fd3f4418d7d66dd48ea41", func := "loop.example/g01141/laws.FnExactSignSum", spec := "fnExactSignSum", apart := false, narrowed := true }
def FnExactSignSumUptoSaid : Prop := fnExactSignSumUptoRow.holds Try.pinned (OpenSpec.upto fnExactSignSumSpec)

/-- 'laws.FnExactTurnTrio', WHERE WHAT IT READS IS OF BULK AT MOST 1048576: true; the input reads as it did. -/
def fnExactTurnTrioUptoRow : OpenClaim := { program := "ytfgnjcodilebeaa", sum := "9d66f94569a7a12ee63c908b9ea235c906864ac8523fd3f4418d7d66dd48ea41", func := "loop.example/g01141/laws.FnExactTurnTrio", spec := "fnExactTurnTrio", unfollowed := true, recurses := true, apart := false, narrowed := true }
def FnExactTurnTrioUptoSaid : Prop := fnExactTurnTrioUptoRow.holds Try.pinned (OpenSpec.upto fnExactTurnTrioSpec)

/-- 'laws.FnExactMixTrios', WHERE WHAT IT READS IS OF BULK AT MOST 1048576: true; the input reads as it did. -/
def fnExactMixTriosUptoRow : OpenClaim := { program := "ytfgnjcodilebeaa", sum := "9d66f94569a7a12ee63c908b9ea235c906864ac8523fd3f4418d7d66dd48ea41", func := "loop.example/g01141/laws.FnExactMixTrios", spec := "fnExactMixTrios", unfollowed := true, recurses := true, apart := false, narrowed := true }
def FnExactMixTriosUptoSaid : Prop := fnExactMixTriosUptoRow.holds Try.pinned (OpenSpec.upto fnExactMixTriosSpec)

/-- 'laws.FnExactGroupSum', WHERE WHAT IT READS IS OF BULK AT MOST 1048576: true; the input reads as it did. -/
def fnExactGroupSumUptoRow : OpenClaim := { program := "ytfgnjcodilebeaa", sum := "9d66f94569a7a12ee63c908b9ea235c906864ac8523fd3f4418d7d66dd48ea41", func := "loop.example/g01141/laws.FnExactGroupSum", spec := "fnExactGroupSum", apart := false, narrowed := true }
def FnExactGroupSumUptoSaid : Prop := fnExactGroupSumUptoRow.holds Try.pinned (OpenSpec.upto fnExactGroupSumSpec)

/-- 'laws.FnExactTripleAgreements', WHERE WHAT IT READS IS OF BULK AT MOST 1048576: true; the input reads as it did. -/
def fnExactTripleAgreementsUptoRow : OpenClaim := { program := "ytfgnjcodilebeaa", sum := "9d66f94569a7a12ee63c908b9ea235c906864ac8523fd3f4418d7d66dd48ea41", func := "loop.example/g01141/laws.FnExactTripleAgreements", spec := "fnExactTripleAgreements", apart := false, narrowed := true }
def FnExactTripleAgreementsUptoSaid : Prop := fnExactTripleAgreementsUptoRow.holds Try.pinned (OpenSpec.upto fnExactTripleAgreementsSpec)

end Rows
end Go.Proofs.Ytfgnjcodilebeaa
