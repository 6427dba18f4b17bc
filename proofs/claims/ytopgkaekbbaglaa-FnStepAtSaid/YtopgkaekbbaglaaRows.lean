/-
  No cell of these rows narrows 'for every input' (looked for: loops, veiled, ifaces, maps, wideKeys, modest, calm, conditions, laid).
  DERIVED. THE GIVEN ROWS OF THIS SEAT. 12 by the template 'for every input the law returns true; each argument reads behind the call as it read before'; 0 by the template 'total and deterministic' (their statements: YtopgkaekbbaglaaTotals.lean).
  GIVEN WITH THE SEED: the statements are not yours to turn. If you find one false, say at which input.
  Laid BY PROGRAM, IN A SANDBOX (cutbox-rows.mjs): the forced cells as the released guide's own fill.sh prints them over the translation ec013173bca9bb6e… (all of the seat's roots in one cut). By AI agents, Wed Nov 11 2026. No macro, syntax, notation, axiom, sorry.
-/
import Derived.Test.YtopgkaekbbaglaaChecked
import GoSem.Claim
import GoSem.ClaimJoined
import GoSem.ClaimMapViews
import Derived.JoinedTies
import Derived.KernelRfl
namespace Go.Proofs.Ytopgkaekbbaglaa
/- THE CELL 'sum', in the pinned program and in every row, IS THE sha256 OF THE DUMP (.gsa) THAT YtopgkaekbbaglaaProg.lean LOADS. Nothing in Lean hashes anything: it is a label: what it is worth is what the hold of that sum in a sandbox is worth. -/
noncomputable def Try.pinned : Pinned := { name := "ytopgkaekbbaglaa", sum := "ec013173bca9bb6eb9a00608a9196913b31c0a494d91192ca29fe55f6315010e", checked := Try.checked }
namespace Rows
def none {H : Type} : Left H := { results := [], args := [] }

/-- 'laws.FnExactConstants': WHATEVER THE INPUT: true; the input reads as it did. -/
def fnExactConstantsSpec : ChangeSpec := { name := "fnExactConstants", fn := fun _ => fun
  | [] => { results := [.lit (.bool true)], args := [] }
  | _ => none }
def fnExactConstantsRow : OpenClaim := { program := "ytopgkaekbbaglaa", sum := "ec013173bca9bb6eb9a00608a9196913b31c0a494d91192ca29fe55f6315010e", func := "loop.example/endsoflife/laws.FnExactConstants", spec := "fnExactConstants", apart := false }
def FnExactConstantsSaid : Prop := fnExactConstantsRow.holds Try.pinned (OpenSpec.ofChange fnExactConstantsSpec)

/-- ITS FALSE NEIGHBOUR: 'it returns false'. Refute it at one input. -/
def fnExactConstantsWrong : ChangeSpec := { name := "fnExactConstants", fn := fun _ => fun
  | [] => { results := [.lit (.bool false)], args := [] }
  | _ => none }
def FnExactConstantsWrongFalsely : Prop := fnExactConstantsRow.holds Try.pinned (OpenSpec.ofChange fnExactConstantsWrong)

/-- 'laws.FnExactNameOfExit': WHATEVER THE INPUT: true; the input reads as it did. -/
def fnExactNameOfExitSpec : ChangeSpec := { name := "fnExactNameOfExit", fn := fun _ => fun
  | [d] => { results := [.lit (.bool true)], args := [d] }
  | _ => none }
def fnExactNameOfExitRow : OpenClaim := { program := "ytopgkaekbbaglaa", sum := "ec013173bca9bb6eb9a00608a9196913b31c0a494d91192ca29fe55f6315010e", func := "loop.example/endsoflife/laws.FnExactNameOfExit", spec := "fnExactNameOfExit", apart := false }
def FnExactNameOfExitSaid : Prop := fnExactNameOfExitRow.holds Try.pinned (OpenSpec.ofChange fnExactNameOfExitSpec)

/-- ITS FALSE NEIGHBOUR: 'it returns false'. Refute it at one input. -/
def fnExactNameOfExitWrong : ChangeSpec := { name := "fnExactNameOfExit", fn := fun _ => fun
  | [d] => { results := [.lit (.bool false)], args := [d] }
  | _ => none }
def FnExactNameOfExitWrongFalsely : Prop := fnExactNameOfExitRow.holds Try.pinned (OpenSpec.ofChange fnExactNameOfExitWrong)

/-- 'laws.FnExactNameOfFault': WHATEVER THE INPUT: true; the input reads as it did. -/
def fnExactNameOfFaultSpec : ChangeSpec := { name := "fnExactNameOfFault", fn := fun _ => fun
  | [d] => { results := [.lit (.bool true)], args := [d] }
  | _ => none }
def fnExactNameOfFaultRow : OpenClaim := { program := "ytopgkaekbbaglaa", sum := "ec013173bca9bb6eb9a00608a9196913b31c0a494d91192ca29fe55f6315010e", func := "loop.example/endsoflife/laws.FnExactNameOfFault", spec := "fnExactNameOfFault", apart := false }
def FnExactNameOfFaultSaid : Prop := fnExactNameOfFaultRow.holds Try.pinned (OpenSpec.ofChange fnExactNameOfFaultSpec)

/-- ITS FALSE NEIGHBOUR: 'it returns false'. Refute it at one input. -/
def fnExactNameOfFaultWrong : ChangeSpec := { name := "fnExactNameOfFault", fn := fun _ => fun
  | [d] => { results := [.lit (.bool false)], args := [d] }
  | _ => none }
def FnExactNameOfFaultWrongFalsely : Prop := fnExactNameOfFaultRow.holds Try.pinned (OpenSpec.ofChange fnExactNameOfFaultWrong)

/-- 'laws.FnExactProgramValid': WHATEVER THE INPUT: true; the input reads as it did. -/
def fnExactProgramValidSpec : ChangeSpec := { name := "fnExactProgramValid", fn := fun _ => fun
  | [d] => { results := [.lit (.bool true)], args := [d] }
  | _ => none }
def fnExactProgramValidRow : OpenClaim := { program := "ytopgkaekbbaglaa", sum := "ec013173bca9bb6eb9a00608a9196913b31c0a494d91192ca29fe55f6315010e", func := "loop.example/endsoflife/laws.FnExactProgramValid", spec := "fnExactProgramValid", inPlace := ["internal/bytealg.IndexByteString", "internal/bytealg.IndexString"], recurses := true, named := ["internal/bytealg.MaxLen"], apart := false }
def FnExactProgramValidSaid : Prop := fnExactProgramValidRow.holds Try.pinned (OpenSpec.ofChange fnExactProgramValidSpec)

/-- ITS FALSE NEIGHBOUR: 'it returns false'. Refute it at one input. -/
def fnExactProgramValidWrong : ChangeSpec := { name := "fnExactProgramValid", fn := fun _ => fun
  | [d] => { results := [.lit (.bool false)], args := [d] }
  | _ => none }
def FnExactProgramValidWrongFalsely : Prop := fnExactProgramValidRow.holds Try.pinned (OpenSpec.ofChange fnExactProgramValidWrong)

/-- 'laws.FnExactDepthOf': WHATEVER THE INPUT: true; the input reads as it did. -/
def fnExactDepthOfSpec : ChangeSpec := { name := "fnExactDepthOf", fn := fun _ => fun
  | [d] => { results := [.lit (.bool true)], args := [d] }
  | _ => none }
def fnExactDepthOfRow : OpenClaim := { program := "ytopgkaekbbaglaa", sum := "ec013173bca9bb6eb9a00608a9196913b31c0a494d91192ca29fe55f6315010e", func := "loop.example/endsoflife/laws.FnExactDepthOf", spec := "fnExactDepthOf", inPlace := ["internal/bytealg.IndexByteString", "internal/bytealg.IndexString"], recurses := true, named := ["internal/bytealg.MaxLen"], apart := false }
def FnExactDepthOfSaid : Prop := fnExactDepthOfRow.holds Try.pinned (OpenSpec.ofChange fnExactDepthOfSpec)

/-- ITS FALSE NEIGHBOUR: 'it returns false'. Refute it at one input. -/
def fnExactDepthOfWrong : ChangeSpec := { name := "fnExactDepthOf", fn := fun _ => fun
  | [d] => { results := [.lit (.bool false)], args := [d] }
  | _ => none }
def FnExactDepthOfWrongFalsely : Prop := fnExactDepthOfRow.holds Try.pinned (OpenSpec.ofChange fnExactDepthOfWrong)

/-- 'laws.FnExactCountSteps': WHATEVER THE INPUT: true; the input reads as it did. -/
def fnExactCountStepsSpec : ChangeSpec := { name := "fnExactCountSteps", fn := fun _ => fun
  | [d1, d2] => { results := [.lit (.bool true)], args := [d1, d2] }
  | _ => none }
def fnExactCountStepsRow : OpenClaim := { program := "ytopgkaekbbaglaa", sum := "ec013173bca9bb6eb9a00608a9196913b31c0a494d91192ca29fe55f6315010e", func := "loop.example/endsoflife/laws.FnExactCountSteps", spec := "fnExactCountSteps", inPlace := ["internal/bytealg.IndexByteString", "internal/bytealg.IndexString"], unfollowed := true, recurses := true, named := ["internal/bytealg.MaxLen"], apart := false }
def FnExactCountStepsSaid : Prop := fnExactCountStepsRow.holds Try.pinned (OpenSpec.ofChange fnExactCountStepsSpec)

/-- ITS FALSE NEIGHBOUR: 'it returns false'. Refute it at one input. -/
def fnExactCountStepsWrong : ChangeSpec := { name := "fnExactCountSteps", fn := fun _ => fun
  | [d1, d2] => { results := [.lit (.bool false)], args := [d1, d2] }
  | _ => none }
def FnExactCountStepsWrongFalsely : Prop := fnExactCountStepsRow.holds Try.pinned (OpenSpec.ofChange fnExactCountStepsWrong)

/-- 'laws.FnExactIsStraight': WHATEVER THE INPUT: true; the input reads as it did. -/
def fnExactIsStraightSpec : ChangeSpec := { name := "fnExactIsStraight", fn := fun _ => fun
  | [d] => { results := [.lit (.bool true)], args := [d] }
  | _ => none }
def fnExactIsStraightRow : OpenClaim := { program := "ytopgkaekbbaglaa", sum := "ec013173bca9bb6eb9a00608a9196913b31c0a494d91192ca29fe55f6315010e", func := "loop.example/endsoflife/laws.FnExactIsStraight", spec := "fnExactIsStraight", inPlace := ["internal/bytealg.IndexByteString", "internal/bytealg.IndexString"], unfollowed := true, recurses := true, named := ["internal/bytealg.MaxLen"], apart := false }
def FnExactIsStraightSaid : Prop := fnExactIsStraightRow.holds Try.pinned (OpenSpec.ofChange fnExactIsStraightSpec)

/-- ITS FALSE NEIGHBOUR: 'it returns false'. Refute it at one input. -/
def fnExactIsStraightWrong : ChangeSpec := { name := "fnExactIsStraight", fn := fun _ => fun
  | [d] => { results := [.lit (.bool false)], args := [d] }
  | _ => none }
def FnExactIsStraightWrongFalsely : Prop := fnExactIsStraightRow.holds Try.pinned (OpenSpec.ofChange fnExactIsStraightWrong)

/-- 'laws.FnExactInScope': WHATEVER THE INPUT: true; the input reads as it did. -/
def fnExactInScopeSpec : ChangeSpec := { name := "fnExactInScope", fn := fun _ => fun
  | [d1, d2] => { results := [.lit (.bool true)], args := [d1, d2] }
  | _ => none }
def fnExactInScopeRow : OpenClaim := { program := "ytopgkaekbbaglaa", sum := "ec013173bca9bb6eb9a00608a9196913b31c0a494d91192ca29fe55f6315010e", func := "loop.example/endsoflife/laws.FnExactInScope", spec := "fnExactInScope", inPlace := ["internal/bytealg.IndexByteString", "internal/bytealg.IndexString"], unfollowed := true, recurses := true, named := ["internal/bytealg.MaxLen"], apart := false }
def FnExactInScopeSaid : Prop := fnExactInScopeRow.holds Try.pinned (OpenSpec.ofChange fnExactInScopeSpec)

/-- ITS FALSE NEIGHBOUR: 'it returns false'. Refute it at one input. -/
def fnExactInScopeWrong : ChangeSpec := { name := "fnExactInScope", fn := fun _ => fun
  | [d1, d2] => { results := [.lit (.bool false)], args := [d1, d2] }
  | _ => none }
def FnExactInScopeWrongFalsely : Prop := fnExactInScopeRow.holds Try.pinned (OpenSpec.ofChange fnExactInScopeWrong)

/-- 'laws.FnExactStepAt': WHATEVER THE INPUT: true; the input reads as it did. -/
def fnExactStepAtSpec : ChangeSpec := { name := "fnExactStepAt", fn := fun _ => fun
  | [d1, d2] => { results := [.lit (.bool true)], args := [d1, d2] }
  | _ => none }
def fnExactStepAtRow : OpenClaim := { program := "ytopgkaekbbaglaa", sum := "ec013173bca9bb6eb9a00608a9196913b31c0a494d91192ca29fe55f6315010e", func := "loop.example/endsoflife/laws.FnExactStepAt", spec := "fnExactStepAt", inPlace := ["internal/bytealg.IndexByteString", "internal/bytealg.IndexString"], unfollowed := true, recurses := true, named := ["internal/bytealg.MaxLen"], apart := false }
def FnExactStepAtSaid : Prop := fnExactStepAtRow.holds Try.pinned (OpenSpec.ofChange fnExactStepAtSpec)

/-- ITS FALSE NEIGHBOUR: 'it returns false'. Refute it at one input. -/
def fnExactStepAtWrong : ChangeSpec := { name := "fnExactStepAt", fn := fun _ => fun
  | [d1, d2] => { results := [.lit (.bool false)], args := [d1, d2] }
  | _ => none }
def FnExactStepAtWrongFalsely : Prop := fnExactStepAtRow.holds Try.pinned (OpenSpec.ofChange fnExactStepAtWrong)

/-- 'laws.FnExactStepsOf': WHATEVER THE INPUT: true; the input reads as it did. -/
def fnExactStepsOfSpec : ChangeSpec := { name := "fnExactStepsOf", fn := fun _ => fun
  | [d] => { results := [.lit (.bool true)], args := [d] }
  | _ => none }
def fnExactStepsOfRow : OpenClaim := { program := "ytopgkaekbbaglaa", sum := "ec013173bca9bb6eb9a00608a9196913b31c0a494d91192ca29fe55f6315010e", func := "loop.example/endsoflife/laws.FnExactStepsOf", spec := "fnExactStepsOf", inPlace := ["internal/bytealg.IndexByteString", "internal/bytealg.IndexString"], unfollowed := true, recurses := true, named := ["internal/bytealg.MaxLen"], apart := false }
def FnExactStepsOfSaid : Prop := fnExactStepsOfRow.holds Try.pinned (OpenSpec.ofChange fnExactStepsOfSpec)

/-- ITS FALSE NEIGHBOUR: 'it returns false'. Refute it at one input. -/
def fnExactStepsOfWrong : ChangeSpec := { name := "fnExactStepsOf", fn := fun _ => fun
  | [d] => { results := [.lit (.bool false)], args := [d] }
  | _ => none }
def FnExactStepsOfWrongFalsely : Prop := fnExactStepsOfRow.holds Try.pinned (OpenSpec.ofChange fnExactStepsOfWrong)

/-- 'laws.FnExactNeedOf': WHATEVER THE INPUT: true; the input reads as it did. -/
def fnExactNeedOfSpec : ChangeSpec := { name := "fnExactNeedOf", fn := fun _ => fun
  | [d1, d2] => { results := [.lit (.bool true)], args := [d1, d2] }
  | _ => none }
def fnExactNeedOfRow : OpenClaim := { program := "ytopgkaekbbaglaa", sum := "ec013173bca9bb6eb9a00608a9196913b31c0a494d91192ca29fe55f6315010e", func := "loop.example/endsoflife/laws.FnExactNeedOf", spec := "fnExactNeedOf", inPlace := ["internal/bytealg.IndexByteString", "internal/bytealg.IndexString"], unfollowed := true, recurses := true, named := ["internal/bytealg.MaxLen"], apart := false }
def FnExactNeedOfSaid : Prop := fnExactNeedOfRow.holds Try.pinned (OpenSpec.ofChange fnExactNeedOfSpec)

/-- ITS FALSE NEIGHBOUR: 'it returns false'. Refute it at one input. -/
def fnExactNeedOfWrong : ChangeSpec := { name := "fnExactNeedOf", fn := fun _ => fun
  | [d1, d2] => { results := [.lit (.bool false)], args := [d1, d2] }
  | _ => none }
def FnExactNeedOfWrongFalsely : Prop := fnExactNeedOfRow.holds Try.pinned (OpenSpec.ofChange fnExactNeedOfWrong)

/-- 'laws.FnStepAt': WHATEVER THE INPUT: true; the input reads as it did. -/
def fnStepAtSpec : ChangeSpec := { name := "fnStepAt", fn := fun _ => fun
  | [d1, d2] => { results := [.lit (.bool true)], args := [d1, d2] }
  | _ => none }
def fnStepAtRow : OpenClaim := { program := "ytopgkaekbbaglaa", sum := "ec013173bca9bb6eb9a00608a9196913b31c0a494d91192ca29fe55f6315010e", func := "loop.example/endsoflife/laws.FnStepAt", spec := "fnStepAt", inPlace := ["internal/bytealg.IndexByteString", "internal/bytealg.IndexString"], unfollowed := true, recurses := true, named := ["internal/bytealg.MaxLen"], apart := false }
def FnStepAtSaid : Prop := fnStepAtRow.holds Try.pinned (OpenSpec.ofChange fnStepAtSpec)

/-- ITS FALSE NEIGHBOUR: 'it returns false'. Refute it at one input. -/
def fnStepAtWrong : ChangeSpec := { name := "fnStepAt", fn := fun _ => fun
  | [d1, d2] => { results := [.lit (.bool false)], args := [d1, d2] }
  | _ => none }
def FnStepAtWrongFalsely : Prop := fnStepAtRow.holds Try.pinned (OpenSpec.ofChange fnStepAtWrong)

/- THE SECOND FORM. 'bulk': how many values and letters a reading holds, each counted each time it is reached (what is shared counts as often as it is met; a slice's spare places count too). A statement '..UptoSaid' is the law's where the arguments, and the package variables that the reading takes, are together of bulk at most 1048576: NARROWER than '..Said'. Prove '..Said' where nothing that the law and all that it calls make is longer than what came in: it says more and counts as full. Else prove '..UptoSaid'. A law counts once. -/
mutual
def uptoBulk {H : Type} : DataW H → Nat
  | .lit (.string bytes) => bytes.length + 1
  | .lit _ => 1
  | .nil => 1
  | .ptr d => uptoBulk d + 1
  | .slice elems spare => uptoBulkAll elems + uptoBulkAll spare + 1
  | .agg parts => uptoBulkAll parts + 1
  | .iface _ d => uptoBulk d + 1
  | .map entries => uptoBulkEntries entries + 1
  | .held _ => 1
def uptoBulkAll {H : Type} : List (DataW H) → Nat
  | [] => 0
  | d :: r => uptoBulk d + uptoBulkAll r
def uptoBulkEntries {H : Type} : List (Lit × DataW H) → Nat
  | [] => 0
  | x :: r => uptoBulkEntry x + uptoBulkEntries r
def uptoBulkEntry {H : Type} : Lit × DataW H → Nat
  | (.string bytes, d) => bytes.length + uptoBulk d + 1
  | (_, d) => uptoBulk d + 1
 end
def uptoSmall : (H : Type) → List (DataW H) → Bool := fun _ ds => decide (uptoBulkAll ds ≤ 1048576)
def OpenSpec.upto (s : _root_.Go.ChangeSpec) : _root_.Go.OpenSpec := { _root_.Go.OpenSpec.ofChange s with cond := some uptoSmall }

/-- 'laws.FnExactConstants', WHERE WHAT IT READS IS OF BULK AT MOST 1048576: true; the input reads as it did. -/
def fnExactConstantsUptoRow : OpenClaim := { program := "ytopgkaekbbaglaa", sum := "ec013173bca9bb6eb9a00608a9196913b31c0a494d91192ca29fe55f6315010e", func := "loop.example/endsoflife/laws.FnExactConstants", spec := "fnExactConstants", apart := false, narrowed := true }
def FnExactConstantsUptoSaid : Prop := fnExactConstantsUptoRow.holds Try.pinned (OpenSpec.upto fnExactConstantsSpec)

/-- 'laws.FnExactNameOfExit', WHERE WHAT IT READS IS OF BULK AT MOST 1048576: true; the input reads as it did. -/
def fnExactNameOfExitUptoRow : OpenClaim := { program := "ytopgkaekbbaglaa", sum := "ec013173bca9bb6eb9a00608a9196913b31c0a494d91192ca29fe55f6315010e", func := "loop.example/endsoflife/laws.FnExactNameOfExit", spec := "fnExactNameOfExit", apart := false, narrowed := true }
def FnExactNameOfExitUptoSaid : Prop := fnExactNameOfExitUptoRow.holds Try.pinned (OpenSpec.upto fnExactNameOfExitSpec)

/-- 'laws.FnExactNameOfFault', WHERE WHAT IT READS IS OF BULK AT MOST 1048576: true; the input reads as it did. -/
def fnExactNameOfFaultUptoRow : OpenClaim := { program := "ytopgkaekbbaglaa", sum := "ec013173bca9bb6eb9a00608a9196913b31c0a494d91192ca29fe55f6315010e", func := "loop.example/endsoflife/laws.FnExactNameOfFault", spec := "fnExactNameOfFault", apart := false, narrowed := true }
def FnExactNameOfFaultUptoSaid : Prop := fnExactNameOfFaultUptoRow.holds Try.pinned (OpenSpec.upto fnExactNameOfFaultSpec)

/-- 'laws.FnExactProgramValid', WHERE WHAT IT READS IS OF BULK AT MOST 1048576: true; the input reads as it did. -/
def fnExactProgramValidUptoRow : OpenClaim := { program := "ytopgkaekbbaglaa", sum := "ec013173bca9bb6eb9a00608a9196913b31c0a494d91192ca29fe55f6315010e", func := "loop.example/endsoflife/laws.FnExactProgramValid", spec := "fnExactProgramValid", inPlace := ["internal/bytealg.IndexByteString", "internal/bytealg.IndexString"], recurses := true, named := ["internal/bytealg.MaxLen"], apart := false, narrowed := true }
def FnExactProgramValidUptoSaid : Prop := fnExactProgramValidUptoRow.holds Try.pinned (OpenSpec.upto fnExactProgramValidSpec)

/-- 'laws.FnExactDepthOf', WHERE WHAT IT READS IS OF BULK AT MOST 1048576: true; the input reads as it did. -/
def fnExactDepthOfUptoRow : OpenClaim := { program := "ytopgkaekbbaglaa", sum := "ec013173bca9bb6eb9a00608a9196913b31c0a494d91192ca29fe55f6315010e", func := "loop.example/endsoflife/laws.FnExactDepthOf", spec := "fnExactDepthOf", inPlace := ["internal/bytealg.IndexByteString", "internal/bytealg.IndexString"], recurses := true, named := ["internal/bytealg.MaxLen"], apart := false, narrowed := true }
def FnExactDepthOfUptoSaid : Prop := fnExactDepthOfUptoRow.holds Try.pinned (OpenSpec.upto fnExactDepthOfSpec)

/-- 'laws.FnExactCountSteps', WHERE WHAT IT READS IS OF BULK AT MOST 1048576: true; the input reads as it did. -/
def fnExactCountStepsUptoRow : OpenClaim := { program := "ytopgkaekbbaglaa", sum := "ec013173bca9bb6eb9a00608a9196913b31c0a494d91192ca29fe55f6315010e", func := "loop.example/endsoflife/laws.FnExactCountSteps", spec := "fnExactCountSteps", inPlace := ["internal/bytealg.IndexByteString", "internal/bytealg.IndexString"], unfollowed := true, recurses := true, named := ["internal/bytealg.MaxLen"], apart := false, narrowed := true }
def FnExactCountStepsUptoSaid : Prop := fnExactCountStepsUptoRow.holds Try.pinned (OpenSpec.upto fnExactCountStepsSpec)

/-- 'laws.FnExactIsStraight', WHERE WHAT IT READS IS OF BULK AT MOST 1048576: true; the input reads as it did. -/
def fnExactIsStraightUptoRow : OpenClaim := { program := "ytopgkaekbbaglaa", sum := "ec013173bca9bb6eb9a00608a9196913b31c0a494d91192ca29fe55f6315010e", func := "loop.example/endsoflife/laws.FnExactIsStraight", spec := "fnExactIsStraight", inPlace := ["internal/bytealg.IndexByteString", "internal/bytealg.IndexString"], unfollowed := true, recurses := true, named := ["internal/bytealg.MaxLen"], apart := false, narrowed := true }
def FnExactIsStraightUptoSaid : Prop := fnExactIsStraightUptoRow.holds Try.pinned (OpenSpec.upto fnExactIsStraightSpec)

/-- 'laws.FnExactInScope', WHERE WHAT IT READS IS OF BULK AT MOST 1048576: true; the input reads as it did. -/
def fnExactInScopeUptoRow : OpenClaim := { program := "ytopgkaekbbaglaa", sum := "ec013173bca9bb6eb9a00608a9196913b31c0a494d91192ca29fe55f6315010e", func := "loop.example/endsoflife/laws.FnExactInScope", spec := "fnExactInScope", inPlace := ["internal/bytealg.IndexByteString", "internal/bytealg.IndexString"], unfollowed := true, recurses := true, named := ["internal/bytealg.MaxLen"], apart := false, narrowed := true }
def FnExactInScopeUptoSaid : Prop := fnExactInScopeUptoRow.holds Try.pinned (OpenSpec.upto fnExactInScopeSpec)

/-- 'laws.FnExactStepAt', WHERE WHAT IT READS IS OF BULK AT MOST 1048576: true; the input reads as it did. -/
def fnExactStepAtUptoRow : OpenClaim := { program := "ytopgkaekbbaglaa", sum := "ec013173bca9bb6eb9a00608a9196913b31c0a494d91192ca29fe55f6315010e", func := "loop.example/endsoflife/laws.FnExactStepAt", spec := "fnExactStepAt", inPlace := ["internal/bytealg.IndexByteString", "internal/bytealg.IndexString"], unfollowed := true, recurses := true, named := ["internal/bytealg.MaxLen"], apart := false, narrowed := true }
def FnExactStepAtUptoSaid : Prop := fnExactStepAtUptoRow.holds Try.pinned (OpenSpec.upto fnExactStepAtSpec)

/-- 'laws.FnExactStepsOf', WHERE WHAT IT READS IS OF BULK AT MOST 1048576: true; the input reads as it did. -/
def fnExactStepsOfUptoRow : OpenClaim := { program := "ytopgkaekbbaglaa", sum := "ec013173bca9bb6eb9a00608a9196913b31c0a494d91192ca29fe55f6315010e", func := "loop.example/endsoflife/laws.FnExactStepsOf", spec := "fnExactStepsOf", inPlace := ["internal/bytealg.IndexByteString", "internal/bytealg.IndexString"], unfollowed := true, recurses := true, named := ["internal/bytealg.MaxLen"], apart := false, narrowed := true }
def FnExactStepsOfUptoSaid : Prop := fnExactStepsOfUptoRow.holds Try.pinned (OpenSpec.upto fnExactStepsOfSpec)

/-- 'laws.FnExactNeedOf', WHERE WHAT IT READS IS OF BULK AT MOST 1048576: true; the input reads as it did. -/
def fnExactNeedOfUptoRow : OpenClaim := { program := "ytopgkaekbbaglaa", sum := "ec013173bca9bb6eb9a00608a9196913b31c0a494d91192ca29fe55f6315010e", func := "loop.example/endsoflife/laws.FnExactNeedOf", spec := "fnExactNeedOf", inPlace := ["internal/bytealg.IndexByteString", "internal/bytealg.IndexString"], unfollowed := true, recurses := true, named := ["internal/bytealg.MaxLen"], apart := false, narrowed := true }
def FnExactNeedOfUptoSaid : Prop := fnExactNeedOfUptoRow.holds Try.pinned (OpenSpec.upto fnExactNeedOfSpec)

/-- 'laws.FnStepAt', WHERE WHAT IT READS IS OF BULK AT MOST 1048576: true; the input reads as it did. -/
def fnStepAtUptoRow : OpenClaim := { program := "ytopgkaekbbaglaa", sum := "ec013173bca9bb6eb9a00608a9196913b31c0a494d91192ca29fe55f6315010e", func := "loop.example/endsoflife/laws.FnStepAt", spec := "fnStepAt", inPlace := ["internal/bytealg.IndexByteString", "internal/bytealg.IndexString"], unfollowed := true, recurses := true, named := ["internal/bytealg.MaxLen"], apart := false, narrowed := true }
def FnStepAtUptoSaid : Prop := fnStepAtUptoRow.holds Try.pinned (OpenSpec.upto fnStepAtSpec)

end Rows
end Go.Proofs.Ytopgkaekbbaglaa
