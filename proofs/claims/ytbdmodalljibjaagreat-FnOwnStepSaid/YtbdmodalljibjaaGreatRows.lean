/-
  No cell of these rows narrows 'for every input' (looked for: loops, veiled, ifaces, maps, wideKeys, modest, calm, conditions, laid).
  DERIVED. THE GIVEN ROWS OF THIS SEAT. 10 by the template 'for every input the law returns true; each argument reads behind the call as it read before'; 0 by the template 'total and deterministic' (their statements: YtbdmodalljibjaaGreatTotals.lean).
  GIVEN WITH THE SEED: the statements are not yours to turn. If you find one false, say at which input.
  Laid BY PROGRAM, IN A SANDBOX (cutbox-rows.mjs): the forced cells as the released guide's own fill.sh prints them over the translation 08382f5222fa3fb0… (all of the seat's roots in one cut). By AI agents, Wed Nov 11 2026. No macro, syntax, notation, axiom, sorry.
-/
import Derived.Test.YtbdmodalljibjaaGreatChecked
import GoSem.Claim
import GoSem.ClaimJoined
import GoSem.ClaimMapViews
import Derived.JoinedTies
import Derived.KernelRfl
namespace Go.Proofs.YtbdmodalljibjaaGreat
/- THE CELL 'sum', in the pinned program and in every row, IS THE sha256 OF THE DUMP (.gsa) THAT YtbdmodalljibjaaGreatProg.lean LOADS. Nothing in Lean hashes anything: it is a label: what it is worth is what the hold of that sum in a sandbox is worth. -/
noncomputable def Tryz.pinned : Pinned := { name := "ytbdmodalljibjaagreat", sum := "08382f5222fa3fb08f734210d55be62e2aff467138d5e987c6e7b2f30f093cc1", checked := Tryz.checked }
namespace Rows
def none {H : Type} : Left H := { results := [], args := [] }

/-- 'laws.FnExactDrain': WHATEVER THE INPUT: true; the input reads as it did. -/
def fnExactDrainSpec : ChangeSpec := { name := "fnExactDrain", fn := fun _ => fun
  | [d1, d2] => { results := [.lit (.bool true)], args := [d1, d2] }
  | _ => none }
def fnExactDrainRow : OpenClaim := { program := "ytbdmodalljibjaagreat", sum := "08382f5222fa3fb08f734210d55be62e2aff467138d5e987c6e7b2f30f093cc1", func := "loop.example/g01538/laws.FnExactDrain", spec := "fnExactDrain", unfollowed := true, recurses := true, apart := false }
def FnExactDrainSaid : Prop := fnExactDrainRow.holds Tryz.pinned (OpenSpec.ofChange fnExactDrainSpec)

/-- ITS FALSE NEIGHBOUR: 'it returns false'. Refute it at one input. -/
def fnExactDrainWrong : ChangeSpec := { name := "fnExactDrain", fn := fun _ => fun
  | [d1, d2] => { results := [.lit (.bool false)], args := [d1, d2] }
  | _ => none }
def FnExactDrainWrongFalsely : Prop := fnExactDrainRow.holds Tryz.pinned (OpenSpec.ofChange fnExactDrainWrong)

/-- 'laws.FnOwnStep': WHATEVER THE INPUT: true; the input reads as it did. -/
def fnOwnStepSpec : ChangeSpec := { name := "fnOwnStep", fn := fun _ => fun
  | [d] => { results := [.lit (.bool true)], args := [d] }
  | _ => none }
def fnOwnStepRow : OpenClaim := { program := "ytbdmodalljibjaagreat", sum := "08382f5222fa3fb08f734210d55be62e2aff467138d5e987c6e7b2f30f093cc1", func := "loop.example/g01538/laws.FnOwnStep", spec := "fnOwnStep", unfollowed := true, recurses := true, apart := false }
def FnOwnStepSaid : Prop := fnOwnStepRow.holds Tryz.pinned (OpenSpec.ofChange fnOwnStepSpec)

/-- ITS FALSE NEIGHBOUR: 'it returns false'. Refute it at one input. -/
def fnOwnStepWrong : ChangeSpec := { name := "fnOwnStep", fn := fun _ => fun
  | [d] => { results := [.lit (.bool false)], args := [d] }
  | _ => none }
def FnOwnStepWrongFalsely : Prop := fnOwnStepRow.holds Tryz.pinned (OpenSpec.ofChange fnOwnStepWrong)

/-- 'laws.FnCollectors': WHATEVER THE INPUT: true; the input reads as it did. -/
def fnCollectorsSpec : ChangeSpec := { name := "fnCollectors", fn := fun _ => fun
  | [d] => { results := [.lit (.bool true)], args := [d] }
  | _ => none }
def fnCollectorsRow : OpenClaim := { program := "ytbdmodalljibjaagreat", sum := "08382f5222fa3fb08f734210d55be62e2aff467138d5e987c6e7b2f30f093cc1", func := "loop.example/g01538/laws.FnCollectors", spec := "fnCollectors", unfollowed := true, recurses := true, apart := false }
def FnCollectorsSaid : Prop := fnCollectorsRow.holds Tryz.pinned (OpenSpec.ofChange fnCollectorsSpec)

/-- ITS FALSE NEIGHBOUR: 'it returns false'. Refute it at one input. -/
def fnCollectorsWrong : ChangeSpec := { name := "fnCollectors", fn := fun _ => fun
  | [d] => { results := [.lit (.bool false)], args := [d] }
  | _ => none }
def FnCollectorsWrongFalsely : Prop := fnCollectorsRow.holds Tryz.pinned (OpenSpec.ofChange fnCollectorsWrong)

/-- 'laws.FnParts': WHATEVER THE INPUT: true; the input reads as it did. -/
def fnPartsSpec : ChangeSpec := { name := "fnParts", fn := fun _ => fun
  | [d] => { results := [.lit (.bool true)], args := [d] }
  | _ => none }
def fnPartsRow : OpenClaim := { program := "ytbdmodalljibjaagreat", sum := "08382f5222fa3fb08f734210d55be62e2aff467138d5e987c6e7b2f30f093cc1", func := "loop.example/g01538/laws.FnParts", spec := "fnParts", unfollowed := true, recurses := true, apart := false }
def FnPartsSaid : Prop := fnPartsRow.holds Tryz.pinned (OpenSpec.ofChange fnPartsSpec)

/-- ITS FALSE NEIGHBOUR: 'it returns false'. Refute it at one input. -/
def fnPartsWrong : ChangeSpec := { name := "fnParts", fn := fun _ => fun
  | [d] => { results := [.lit (.bool false)], args := [d] }
  | _ => none }
def FnPartsWrongFalsely : Prop := fnPartsRow.holds Tryz.pinned (OpenSpec.ofChange fnPartsWrong)

/-- 'laws.FnAdvances': WHATEVER THE INPUT: true; the input reads as it did. -/
def fnAdvancesSpec : ChangeSpec := { name := "fnAdvances", fn := fun _ => fun
  | [d] => { results := [.lit (.bool true)], args := [d] }
  | _ => none }
def fnAdvancesRow : OpenClaim := { program := "ytbdmodalljibjaagreat", sum := "08382f5222fa3fb08f734210d55be62e2aff467138d5e987c6e7b2f30f093cc1", func := "loop.example/g01538/laws.FnAdvances", spec := "fnAdvances", unfollowed := true, recurses := true, apart := false }
def FnAdvancesSaid : Prop := fnAdvancesRow.holds Tryz.pinned (OpenSpec.ofChange fnAdvancesSpec)

/-- ITS FALSE NEIGHBOUR: 'it returns false'. Refute it at one input. -/
def fnAdvancesWrong : ChangeSpec := { name := "fnAdvances", fn := fun _ => fun
  | [d] => { results := [.lit (.bool false)], args := [d] }
  | _ => none }
def FnAdvancesWrongFalsely : Prop := fnAdvancesRow.holds Tryz.pinned (OpenSpec.ofChange fnAdvancesWrong)

/-- 'laws.FnCollects': WHATEVER THE INPUT: true; the input reads as it did. -/
def fnCollectsSpec : ChangeSpec := { name := "fnCollects", fn := fun _ => fun
  | [d] => { results := [.lit (.bool true)], args := [d] }
  | _ => none }
def fnCollectsRow : OpenClaim := { program := "ytbdmodalljibjaagreat", sum := "08382f5222fa3fb08f734210d55be62e2aff467138d5e987c6e7b2f30f093cc1", func := "loop.example/g01538/laws.FnCollects", spec := "fnCollects", unfollowed := true, recurses := true, apart := false }
def FnCollectsSaid : Prop := fnCollectsRow.holds Tryz.pinned (OpenSpec.ofChange fnCollectsSpec)

/-- ITS FALSE NEIGHBOUR: 'it returns false'. Refute it at one input. -/
def fnCollectsWrong : ChangeSpec := { name := "fnCollects", fn := fun _ => fun
  | [d] => { results := [.lit (.bool false)], args := [d] }
  | _ => none }
def FnCollectsWrongFalsely : Prop := fnCollectsRow.holds Tryz.pinned (OpenSpec.ofChange fnCollectsWrong)

/-- 'laws.FnPins': WHATEVER THE INPUT: true; the input reads as it did. -/
def fnPinsSpec : ChangeSpec := { name := "fnPins", fn := fun _ => fun
  | [d] => { results := [.lit (.bool true)], args := [d] }
  | _ => none }
def fnPinsRow : OpenClaim := { program := "ytbdmodalljibjaagreat", sum := "08382f5222fa3fb08f734210d55be62e2aff467138d5e987c6e7b2f30f093cc1", func := "loop.example/g01538/laws.FnPins", spec := "fnPins", unfollowed := true, recurses := true, apart := false }
def FnPinsSaid : Prop := fnPinsRow.holds Tryz.pinned (OpenSpec.ofChange fnPinsSpec)

/-- ITS FALSE NEIGHBOUR: 'it returns false'. Refute it at one input. -/
def fnPinsWrong : ChangeSpec := { name := "fnPins", fn := fun _ => fun
  | [d] => { results := [.lit (.bool false)], args := [d] }
  | _ => none }
def FnPinsWrongFalsely : Prop := fnPinsRow.holds Tryz.pinned (OpenSpec.ofChange fnPinsWrong)

/-- 'laws.FnBounds': WHATEVER THE INPUT: true; the input reads as it did. -/
def fnBoundsSpec : ChangeSpec := { name := "fnBounds", fn := fun _ => fun
  | [d] => { results := [.lit (.bool true)], args := [d] }
  | _ => none }
def fnBoundsRow : OpenClaim := { program := "ytbdmodalljibjaagreat", sum := "08382f5222fa3fb08f734210d55be62e2aff467138d5e987c6e7b2f30f093cc1", func := "loop.example/g01538/laws.FnBounds", spec := "fnBounds", unfollowed := true, recurses := true, apart := false }
def FnBoundsSaid : Prop := fnBoundsRow.holds Tryz.pinned (OpenSpec.ofChange fnBoundsSpec)

/-- ITS FALSE NEIGHBOUR: 'it returns false'. Refute it at one input. -/
def fnBoundsWrong : ChangeSpec := { name := "fnBounds", fn := fun _ => fun
  | [d] => { results := [.lit (.bool false)], args := [d] }
  | _ => none }
def FnBoundsWrongFalsely : Prop := fnBoundsRow.holds Tryz.pinned (OpenSpec.ofChange fnBoundsWrong)

/-- 'laws.FnWhole': WHATEVER THE INPUT: true; the input reads as it did. -/
def fnWholeSpec : ChangeSpec := { name := "fnWhole", fn := fun _ => fun
  | [d] => { results := [.lit (.bool true)], args := [d] }
  | _ => none }
def fnWholeRow : OpenClaim := { program := "ytbdmodalljibjaagreat", sum := "08382f5222fa3fb08f734210d55be62e2aff467138d5e987c6e7b2f30f093cc1", func := "loop.example/g01538/laws.FnWhole", spec := "fnWhole", unfollowed := true, recurses := true, apart := false }
def FnWholeSaid : Prop := fnWholeRow.holds Tryz.pinned (OpenSpec.ofChange fnWholeSpec)

/-- ITS FALSE NEIGHBOUR: 'it returns false'. Refute it at one input. -/
def fnWholeWrong : ChangeSpec := { name := "fnWhole", fn := fun _ => fun
  | [d] => { results := [.lit (.bool false)], args := [d] }
  | _ => none }
def FnWholeWrongFalsely : Prop := fnWholeRow.holds Tryz.pinned (OpenSpec.ofChange fnWholeWrong)

/-- 'laws.FnEpochs': WHATEVER THE INPUT: true; the input reads as it did. -/
def fnEpochsSpec : ChangeSpec := { name := "fnEpochs", fn := fun _ => fun
  | [d] => { results := [.lit (.bool true)], args := [d] }
  | _ => none }
def fnEpochsRow : OpenClaim := { program := "ytbdmodalljibjaagreat", sum := "08382f5222fa3fb08f734210d55be62e2aff467138d5e987c6e7b2f30f093cc1", func := "loop.example/g01538/laws.FnEpochs", spec := "fnEpochs", unfollowed := true, recurses := true, apart := false }
def FnEpochsSaid : Prop := fnEpochsRow.holds Tryz.pinned (OpenSpec.ofChange fnEpochsSpec)

/-- ITS FALSE NEIGHBOUR: 'it returns false'. Refute it at one input. -/
def fnEpochsWrong : ChangeSpec := { name := "fnEpochs", fn := fun _ => fun
  | [d] => { results := [.lit (.bool false)], args := [d] }
  | _ => none }
def FnEpochsWrongFalsely : Prop := fnEpochsRow.holds Tryz.pinned (OpenSpec.ofChange fnEpochsWrong)

/- THE SECOND FORM. 'bulk': how many values and letters a reading holds, each counted each time it is reached (what is shared counts as often as it is met; a slice's spare places count too). A statement '..UptoSaid' is the law's where the arguments, and the package variables that the reading takes, are together of bulk at most 1048576: NARROWER than '..Said'. Prove '..Said' where nothing that the law and all that it calls make is longer than what came in: it says more and counts as full. Else prove '..UptoSaid'. A law counts once. -/
mutual
def uptoBulk {H : Type} : DataW H → Nat
  | .lit (.string bytes) => bytes.length + 1
  | .lit _ => 1
  | .nil => 1
  | .ptr d => uptoBulk d + 1
  | .slice elems spare => uptoBulkAll elems + uptoBulkAll spare + 1
  | .agg parts => uptoBulkAll parts + 1
  | .iface _ d => uptoBulk d + 1
  | .map entries => uptoBulkEntries entries + 1
  | .held _ => 1
def uptoBulkAll {H : Type} : List (DataW H) → Nat
  | [] => 0
  | d :: r => uptoBulk d + uptoBulkAll r
def uptoBulkEntries {H : Type} : List (Lit × DataW H) → Nat
  | [] => 0
  | x :: r => uptoBulkEntry x + uptoBulkEntries r
def uptoBulkEntry {H : Type} : Lit × DataW H → Nat
  | (.string bytes, d) => bytes.length + uptoBulk d + 1
  | (_, d) => uptoBulk d + 1
 end
def uptoSmall : (H : Type) → List (DataW H) → Bool := fun _ ds => decide (uptoBulkAll ds ≤ 1048576)
def OpenSpec.upto (s : _root_.Go.ChangeSpec) : _root_.Go.OpenSpec := { _root_.Go.OpenSpec.ofChange s with cond := some uptoSmall }

/-- 'laws.FnExactDrain', WHERE WHAT IT READS IS OF BULK AT MOST 1048576: true; the input reads as it did. -/
def fnExactDrainUptoRow : OpenClaim := { program := "ytbdmodalljibjaagreat", sum := "08382f5222fa3fb08f734210d55be62e2aff467138d5e987c6e7b2f30f093cc1", func := "loop.example/g01538/laws.FnExactDrain", spec := "fnExactDrain", unfollowed := true, recurses := true, apart := false, narrowed := true }
def FnExactDrainUptoSaid : Prop := fnExactDrainUptoRow.holds Tryz.pinned (OpenSpec.upto fnExactDrainSpec)

/-- 'laws.FnOwnStep', WHERE WHAT IT READS IS OF BULK AT MOST 1048576: true; the input reads as it did. -/
def fnOwnStepUptoRow : OpenClaim := { program := "ytbdmodalljibjaagreat", sum := "08382f5222fa3fb08f734210d55be62e2aff467138d5e987c6e7b2f30f093cc1", func := "loop.example/g01538/laws.FnOwnStep", spec := "fnOwnStep", unfollowed := true, recurses := true, apart := false, narrowed := true }
def FnOwnStepUptoSaid : Prop := fnOwnStepUptoRow.holds Tryz.pinned (OpenSpec.upto fnOwnStepSpec)

/-- 'laws.FnCollectors', WHERE WHAT IT READS IS OF BULK AT MOST 1048576: true; the input reads as it did. -/
def fnCollectorsUptoRow : OpenClaim := { program := "ytbdmodalljibjaagreat", sum := "08382f5222fa3fb08f734210d55be62e2aff467138d5e987c6e7b2f30f093cc1", func := "loop.example/g01538/laws.FnCollectors", spec := "fnCollectors", unfollowed := true, recurses := true, apart := false, narrowed := true }
def FnCollectorsUptoSaid : Prop := fnCollectorsUptoRow.holds Tryz.pinned (OpenSpec.upto fnCollectorsSpec)

/-- 'laws.FnParts', WHERE WHAT IT READS IS OF BULK AT MOST 1048576: true; the input reads as it did. -/
def fnPartsUptoRow : OpenClaim := { program := "ytbdmodalljibjaagreat", sum := "08382f5222fa3fb08f734210d55be62e2aff467138d5e987c6e7b2f30f093cc1", func := "loop.example/g01538/laws.FnParts", spec := "fnParts", unfollowed := true, recurses := true, apart := false, narrowed := true }
def FnPartsUptoSaid : Prop := fnPartsUptoRow.holds Tryz.pinned (OpenSpec.upto fnPartsSpec)

/-- 'laws.FnAdvances', WHERE WHAT IT READS IS OF BULK AT MOST 1048576: true; the input reads as it did. -/
def fnAdvancesUptoRow : OpenClaim := { program := "ytbdmodalljibjaagreat", sum := "08382f5222fa3fb08f734210d55be62e2aff467138d5e987c6e7b2f30f093cc1", func := "loop.example/g01538/laws.FnAdvances", spec := "fnAdvances", unfollowed := true, recurses := true, apart := false, narrowed := true }
def FnAdvancesUptoSaid : Prop := fnAdvancesUptoRow.holds Tryz.pinned (OpenSpec.upto fnAdvancesSpec)

/-- 'laws.FnCollects', WHERE WHAT IT READS IS OF BULK AT MOST 1048576: true; the input reads as it did. -/
def fnCollectsUptoRow : OpenClaim := { program := "ytbdmodalljibjaagreat", sum := "08382f5222fa3fb08f734210d55be62e2aff467138d5e987c6e7b2f30f093cc1", func := "loop.example/g01538/laws.FnCollects", spec := "fnCollects", unfollowed := true, recurses := true, apart := false, narrowed := true }
def FnCollectsUptoSaid : Prop := fnCollectsUptoRow.holds Tryz.pinned (OpenSpec.upto fnCollectsSpec)

/-- 'laws.FnPins', WHERE WHAT IT READS IS OF BULK AT MOST 1048576: true; the input reads as it did. -/
def fnPinsUptoRow : OpenClaim := { program := "ytbdmodalljibjaagreat", sum := "08382f5222fa3fb08f734210d55be62e2aff467138d5e987c6e7b2f30f093cc1", func := "loop.example/g01538/laws.FnPins", spec := "fnPins", unfollowed := true, recurses := true, apart := false, narrowed := true }
def FnPinsUptoSaid : Prop := fnPinsUptoRow.holds Tryz.pinned (OpenSpec.upto fnPinsSpec)

/-- 'laws.FnBounds', WHERE WHAT IT READS IS OF BULK AT MOST 1048576: true; the input reads as it did. -/
def fnBoundsUptoRow : OpenClaim := { program := "ytbdmodalljibjaagreat", sum := "08382f5222fa3fb08f734210d55be62e2aff467138d5e987c6e7b2f30f093cc1", func := "loop.example/g01538/laws.FnBounds", spec := "fnBounds", unfollowed := true, recurses := true, apart := false, narrowed := true }
def FnBoundsUptoSaid : Prop := fnBoundsUptoRow.holds Tryz.pinned (OpenSpec.upto fnBoundsSpec)

/-- 'laws.FnWhole', WHERE WHAT IT READS IS OF BULK AT MOST 1048576: true; the input reads as it did. -/
def fnWholeUptoRow : OpenClaim := { program := "ytbdmodalljibjaagreat", sum := "08382f5222fa3fb08f734210d55be62e2aff467138d5e987c6e7b2f30f093cc1", func := "loop.example/g01538/laws.FnWhole", spec := "fnWhole", unfollowed := true, recurses := true, apart := false, narrowed := true }
def FnWholeUptoSaid : Prop := fnWholeUptoRow.holds Tryz.pinned (OpenSpec.upto fnWholeSpec)

/-- 'laws.FnEpochs', WHERE WHAT IT READS IS OF BULK AT MOST 1048576: true; the input reads as it did. -/
def fnEpochsUptoRow : OpenClaim := { program := "ytbdmodalljibjaagreat", sum := "08382f5222fa3fb08f734210d55be62e2aff467138d5e987c6e7b2f30f093cc1", func := "loop.example/g01538/laws.FnEpochs", spec := "fnEpochs", unfollowed := true, recurses := true, apart := false, narrowed := true }
def FnEpochsUptoSaid : Prop := fnEpochsUptoRow.holds Tryz.pinned (OpenSpec.upto fnEpochsSpec)

end Rows
end Go.Proofs.YtbdmodalljibjaaGreat
