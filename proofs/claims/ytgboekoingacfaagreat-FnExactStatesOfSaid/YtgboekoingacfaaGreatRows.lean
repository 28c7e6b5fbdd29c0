/-
  No cell of these rows narrows 'for every input' (looked for: loops, veiled, ifaces, maps, wideKeys, modest, calm, conditions, laid).
  DERIVED. THE GIVEN ROWS OF THIS SEAT. 7 by the template 'for every input the law returns true; each argument reads behind the call as it read before'; 0 by the template 'total and deterministic' (their statements: YtgboekoingacfaaGreatTotals.lean).
  GIVEN WITH THE SEED: the statements are not yours to turn. If you find one false, say at which input.
  Laid BY PROGRAM, IN A SANDBOX (cutbox-rows.mjs): the forced cells as the released guide's own fill.sh prints them over the translation 4e6b38c5acfa20e1… (all of the seat's roots in one cut). By AI agents, Wed Nov 11 2026. No macro, syntax, notation, axiom, sorry.
-/
import Derived.Test.YtgboekoingacfaaGreatChecked
import GoSem.Claim
import GoSem.ClaimJoined
import GoSem.ClaimMapViews
import Derived.JoinedTies
import Derived.KernelRfl
namespace Go.Proofs.YtgboekoingacfaaGreat
/- THE CELL 'sum', in the pinned program and in every row, IS THE sha256 OF THE DUMP (.gsa) THAT YtgboekoingacfaaGreatProg.lean LOADS. Nothing in Lean hashes anything: it is a label: what it is worth is what the hold of that sum in a sandbox is worth. -/
noncomputable def Tryz.pinned : Pinned := { name := "ytgboekoingacfaagreat", sum := "4e6b38c5acfa20e1d7aade1be093af3e1595ea777dccba5e4edd5d9e53ecded3", checked := Tryz.checked }
namespace Rows
def none {H : Type} : Left H := { results := [], args := [] }

/-- 'laws.FnExactShelfStep': WHATEVER THE INPUT: true; the input reads as it did. -/
def fnExactShelfStepSpec : ChangeSpec := { name := "fnExactShelfStep", fn := fun _ => fun
  | [d1, d2] => { results := [.lit (.bool true)], args := [d1, d2] }
  | _ => none }
def fnExactShelfStepRow : OpenClaim := { program := "ytgboekoingacfaagreat", sum := "4e6b38c5acfa20e1d7aade1be093af3e1595ea777dccba5e4edd5d9e53ecded3", func := "loop.example/g01538/laws.FnExactShelfStep", spec := "fnExactShelfStep", unfollowed := true, recurses := true, apart := false }
def FnExactShelfStepSaid : Prop := fnExactShelfStepRow.holds Tryz.pinned (OpenSpec.ofChange fnExactShelfStepSpec)

/-- ITS FALSE NEIGHBOUR: 'it returns false'. Refute it at one input. -/
def fnExactShelfStepWrong : ChangeSpec := { name := "fnExactShelfStep", fn := fun _ => fun
  | [d1, d2] => { results := [.lit (.bool false)], args := [d1, d2] }
  | _ => none }
def FnExactShelfStepWrongFalsely : Prop := fnExactShelfStepRow.holds Tryz.pinned (OpenSpec.ofChange fnExactShelfStepWrong)

/-- 'laws.FnExactRounds': WHATEVER THE INPUT: true; the input reads as it did. -/
def fnExactRoundsSpec : ChangeSpec := { name := "fnExactRounds", fn := fun _ => fun
  | [d1, d2] => { results := [.lit (.bool true)], args := [d1, d2] }
  | _ => none }
def fnExactRoundsRow : OpenClaim := { program := "ytgboekoingacfaagreat", sum := "4e6b38c5acfa20e1d7aade1be093af3e1595ea777dccba5e4edd5d9e53ecded3", func := "loop.example/g01538/laws.FnExactRounds", spec := "fnExactRounds", unfollowed := true, recurses := true, apart := false }
def FnExactRoundsSaid : Prop := fnExactRoundsRow.holds Tryz.pinned (OpenSpec.ofChange fnExactRoundsSpec)

/-- ITS FALSE NEIGHBOUR: 'it returns false'. Refute it at one input. -/
def fnExactRoundsWrong : ChangeSpec := { name := "fnExactRounds", fn := fun _ => fun
  | [d1, d2] => { results := [.lit (.bool false)], args := [d1, d2] }
  | _ => none }
def FnExactRoundsWrongFalsely : Prop := fnExactRoundsRow.holds Tryz.pinned (OpenSpec.ofChange fnExactRoundsWrong)

/-- 'laws.FnExactFinish': WHATEVER THE INPUT: true; the input reads as it did. -/
def fnExactFinishSpec : ChangeSpec := { name := "fnExactFinish", fn := fun _ => fun
  | [d] => { results := [.lit (.bool true)], args := [d] }
  | _ => none }
def fnExactFinishRow : OpenClaim := { program := "ytgboekoingacfaagreat", sum := "4e6b38c5acfa20e1d7aade1be093af3e1595ea777dccba5e4edd5d9e53ecded3", func := "loop.example/g01538/laws.FnExactFinish", spec := "fnExactFinish", unfollowed := true, recurses := true, apart := false }
def FnExactFinishSaid : Prop := fnExactFinishRow.holds Tryz.pinned (OpenSpec.ofChange fnExactFinishSpec)

/-- ITS FALSE NEIGHBOUR: 'it returns false'. Refute it at one input. -/
def fnExactFinishWrong : ChangeSpec := { name := "fnExactFinish", fn := fun _ => fun
  | [d] => { results := [.lit (.bool false)], args := [d] }
  | _ => none }
def FnExactFinishWrongFalsely : Prop := fnExactFinishRow.holds Tryz.pinned (OpenSpec.ofChange fnExactFinishWrong)

/-- 'laws.FnExactDrain': WHATEVER THE INPUT: true; the input reads as it did. -/
def fnExactDrainSpec : ChangeSpec := { name := "fnExactDrain", fn := fun _ => fun
  | [d1, d2] => { results := [.lit (.bool true)], args := [d1, d2] }
  | _ => none }
def fnExactDrainRow : OpenClaim := { program := "ytgboekoingacfaagreat", sum := "4e6b38c5acfa20e1d7aade1be093af3e1595ea777dccba5e4edd5d9e53ecded3", func := "loop.example/g01538/laws.FnExactDrain", spec := "fnExactDrain", unfollowed := true, recurses := true, apart := false }
def FnExactDrainSaid : Prop := fnExactDrainRow.holds Tryz.pinned (OpenSpec.ofChange fnExactDrainSpec)

/-- ITS FALSE NEIGHBOUR: 'it returns false'. Refute it at one input. -/
def fnExactDrainWrong : ChangeSpec := { name := "fnExactDrain", fn := fun _ => fun
  | [d1, d2] => { results := [.lit (.bool false)], args := [d1, d2] }
  | _ => none }
def FnExactDrainWrongFalsely : Prop := fnExactDrainRow.holds Tryz.pinned (OpenSpec.ofChange fnExactDrainWrong)

/-- 'laws.FnExactStatesOf': WHATEVER THE INPUT: true; the input reads as it did. -/
def fnExactStatesOfSpec : ChangeSpec := { name := "fnExactStatesOf", fn := fun _ => fun
  | [d] => { results := [.lit (.bool true)], args := [d] }
  | _ => none }
def fnExactStatesOfRow : OpenClaim := { program := "ytgboekoingacfaagreat", sum := "4e6b38c5acfa20e1d7aade1be093af3e1595ea777dccba5e4edd5d9e53ecded3", func := "loop.example/g01538/laws.FnExactStatesOf", spec := "fnExactStatesOf", unfollowed := true, recurses := true, apart := false }
def FnExactStatesOfSaid : Prop := fnExactStatesOfRow.holds Tryz.pinned (OpenSpec.ofChange fnExactStatesOfSpec)

/-- ITS FALSE NEIGHBOUR: 'it returns false'. Refute it at one input. -/
def fnExactStatesOfWrong : ChangeSpec := { name := "fnExactStatesOf", fn := fun _ => fun
  | [d] => { results := [.lit (.bool false)], args := [d] }
  | _ => none }
def FnExactStatesOfWrongFalsely : Prop := fnExactStatesOfRow.holds Tryz.pinned (OpenSpec.ofChange fnExactStatesOfWrong)

/-- 'laws.FnExactPeakLimbo': WHATEVER THE INPUT: true; the input reads as it did. -/
def fnExactPeakLimboSpec : ChangeSpec := { name := "fnExactPeakLimbo", fn := fun _ => fun
  | [d] => { results := [.lit (.bool true)], args := [d] }
  | _ => none }
def fnExactPeakLimboRow : OpenClaim := { program := "ytgboekoingacfaagreat", sum := "4e6b38c5acfa20e1d7aade1be093af3e1595ea777dccba5e4edd5d9e53ecded3", func := "loop.example/g01538/laws.FnExactPeakLimbo", spec := "fnExactPeakLimbo", unfollowed := true, recurses := true, apart := false }
def FnExactPeakLimboSaid : Prop := fnExactPeakLimboRow.holds Tryz.pinned (OpenSpec.ofChange fnExactPeakLimboSpec)

/-- ITS FALSE NEIGHBOUR: 'it returns false'. Refute it at one input. -/
def fnExactPeakLimboWrong : ChangeSpec := { name := "fnExactPeakLimbo", fn := fun _ => fun
  | [d] => { results := [.lit (.bool false)], args := [d] }
  | _ => none }
def FnExactPeakLimboWrongFalsely : Prop := fnExactPeakLimboRow.holds Tryz.pinned (OpenSpec.ofChange fnExactPeakLimboWrong)

/-- 'laws.FnExactPeakUsed': WHATEVER THE INPUT: true; the input reads as it did. -/
def fnExactPeakUsedSpec : ChangeSpec := { name := "fnExactPeakUsed", fn := fun _ => fun
  | [d] => { results := [.lit (.bool true)], args := [d] }
  | _ => none }
def fnExactPeakUsedRow : OpenClaim := { program := "ytgboekoingacfaagreat", sum := "4e6b38c5acfa20e1d7aade1be093af3e1595ea777dccba5e4edd5d9e53ecded3", func := "loop.example/g01538/laws.FnExactPeakUsed", spec := "fnExactPeakUsed", unfollowed := true, recurses := true, apart := false }
def FnExactPeakUsedSaid : Prop := fnExactPeakUsedRow.holds Tryz.pinned (OpenSpec.ofChange fnExactPeakUsedSpec)

/-- ITS FALSE NEIGHBOUR: 'it returns false'. Refute it at one input. -/
def fnExactPeakUsedWrong : ChangeSpec := { name := "fnExactPeakUsed", fn := fun _ => fun
  | [d] => { results := [.lit (.bool false)], args := [d] }
  | _ => none }
def FnExactPeakUsedWrongFalsely : Prop := fnExactPeakUsedRow.holds Tryz.pinned (OpenSpec.ofChange fnExactPeakUsedWrong)

/- THE SECOND FORM. 'bulk': how many values and letters a reading holds, each counted each time it is reached (what is shared counts as often as it is met; a slice's spare places count too). A statement '..UptoSaid' is the law's where the arguments, and the package variables that the reading takes, are together of bulk at most 1048576: NARROWER than '..Said'. Prove '..Said' where nothing that the law and all that it calls make is longer than what came in: it says more and counts as full. Else prove '..UptoSaid'. A law counts once. -/
mutual
def uptoBulk {H : Type} : DataW H → Nat
  | .lit (.string bytes) => bytes.length + 1
  | .lit _ => 1
  | .nil => 1
  | .ptr d => uptoBulk d + 1
  | .slice elems spare => uptoBulkAll elems + uptoBulkAll spare + 1
  | .agg parts => uptoBulkAll parts + 1
  | .iface _ d => uptoBulk d + 1
  | .map entries => uptoBulkEntries entries + 1
  | .held _ => 1
def uptoBulkAll {H : Type} : List (DataW H) → Nat
  | [] => 0
  | d :: r => uptoBulk d + uptoBulkAll r
def uptoBulkEntries {H : Type} : List (Lit × DataW H) → Nat
  | [] => 0
  | x :: r => uptoBulkEntry x + uptoBulkEntries r
def uptoBulkEntry {H : Type} : Lit × DataW H → Nat
  | (.string bytes, d) => bytes.length + uptoBulk d + 1
  | (_, d) => uptoBulk d + 1
 end
def uptoSmall : (H : Type) → List (DataW H) → Bool := fun _ ds => decide (uptoBulkAll ds ≤ 1048576)
def OpenSpec.upto (s : _root_.Go.ChangeSpec) : _root_.Go.OpenSpec := { _root_.Go.OpenSpec.ofChange s with cond := some uptoSmall }

/-- 'laws.FnExactShelfStep', WHERE WHAT IT READS IS OF BULK AT MOST 1048576: true; the input reads as it did. -/
def fnExactShelfStepUptoRow : OpenClaim := { program := "ytgboekoingacfaagreat", sum := "4e6b38c5acfa20e1d7aade1be093af3e1595ea777dccba5e4edd5d9e53ecded3", func := "loop.example/g01538/laws.FnExactShelfStep", spec := "fnExactShelfStep", unfollowed := true, recurses := true, apart := false, narrowed := true }
def FnExactShelfStepUptoSaid : Prop := fnExactShelfStepUptoRow.holds Tryz.pinned (OpenSpec.upto fnExactShelfStepSpec)

/-- 'laws.FnExactRounds', WHERE WHAT IT READS IS OF BULK AT MOST 1048576: true; the input reads as it did. -/
def fnExactRoundsUptoRow : OpenClaim := { program := "ytgboekoingacfaagreat", sum := "4e6b38c5acfa20e1d7aade1be093af3e1595ea777dccba5e4edd5d9e53ecded3", func := "loop.example/g01538/laws.FnExactRounds", spec := "fnExactRounds", unfollowed := true, recurses := true, apart := false, narrowed := true }
def FnExactRoundsUptoSaid : Prop := fnExactRoundsUptoRow.holds Tryz.pinned (OpenSpec.upto fnExactRoundsSpec)

/-- 'laws.FnExactFinish', WHERE WHAT IT READS IS OF BULK AT MOST 1048576: true; the input reads as it did. -/
def fnExactFinishUptoRow : OpenClaim := { program := "ytgboekoingacfaagreat", sum := "4e6b38c5acfa20e1d7aade1be093af3e1595ea777dccba5e4edd5d9e53ecded3", func := "loop.example/g01538/laws.FnExactFinish", spec := "fnExactFinish", unfollowed := true, recurses := true, apart := false, narrowed := true }
def FnExactFinishUptoSaid : Prop := fnExactFinishUptoRow.holds Tryz.pinned (OpenSpec.upto fnExactFinishSpec)

/-- 'laws.FnExactDrain', WHERE WHAT IT READS IS OF BULK AT MOST 1048576: true; the input reads as it did. -/
def fnExactDrainUptoRow : OpenClaim := { program := "ytgboekoingacfaagreat", sum := "4e6b38c5acfa20e1d7aade1be093af3e1595ea777dccba5e4edd5d9e53ecded3", func := "loop.example/g01538/laws.FnExactDrain", spec := "fnExactDrain", unfollowed := true, recurses := true, apart := false, narrowed := true }
def FnExactDrainUptoSaid : Prop := fnExactDrainUptoRow.holds Tryz.pinned (OpenSpec.upto fnExactDrainSpec)

/-- 'laws.FnExactStatesOf', WHERE WHAT IT READS IS OF BULK AT MOST 1048576: true; the input reads as it did. -/
def fnExactStatesOfUptoRow : OpenClaim := { program := "ytgboekoingacfaagreat", sum := "4e6b38c5acfa20e1d7aade1be093af3e1595ea777dccba5e4edd5d9e53ecded3", func := "loop.example/g01538/laws.FnExactStatesOf", spec := "fnExactStatesOf", unfollowed := true, recurses := true, apart := false, narrowed := true }
def FnExactStatesOfUptoSaid : Prop := fnExactStatesOfUptoRow.holds Tryz.pinned (OpenSpec.upto fnExactStatesOfSpec)

/-- 'laws.FnExactPeakLimbo', WHERE WHAT IT READS IS OF BULK AT MOST 1048576: true; the input reads as it did. -/
def fnExactPeakLimboUptoRow : OpenClaim := { program := "ytgboekoingacfaagreat", sum := "4e6b38c5acfa20e1d7aade1be093af3e1595ea777dccba5e4edd5d9e53ecded3", func := "loop.example/g01538/laws.FnExactPeakLimbo", spec := "fnExactPeakLimbo", unfollowed := true, recurses := true, apart := false, narrowed := true }
def FnExactPeakLimboUptoSaid : Prop := fnExactPeakLimboUptoRow.holds Tryz.pinned (OpenSpec.upto fnExactPeakLimboSpec)

/-- 'laws.FnExactPeakUsed', WHERE WHAT IT READS IS OF BULK AT MOST 1048576: true; the input reads as it did. -/
def fnExactPeakUsedUptoRow : OpenClaim := { program := "ytgboekoingacfaagreat", sum := "4e6b38c5acfa20e1d7aade1be093af3e1595ea777dccba5e4edd5d9e53ecded3", func := "loop.example/g01538/laws.FnExactPeakUsed", spec := "fnExactPeakUsed", unfollowed := true, recurses := true, apart := false, narrowed := true }
def FnExactPeakUsedUptoSaid : Prop := fnExactPeakUsedUptoRow.holds Tryz.pinned (OpenSpec.upto fnExactPeakUsedSpec)

end Rows
end Go.Proofs.YtgboekoingacfaaGreat
