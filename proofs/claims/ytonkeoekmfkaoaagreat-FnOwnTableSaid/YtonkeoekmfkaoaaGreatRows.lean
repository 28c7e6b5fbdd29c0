/-
  No cell of these rows narrows 'for every input' (looked for: loops, veiled, ifaces, maps, wideKeys, modest, calm, conditions, laid).
  DERIVED. THE GIVEN ROWS OF THIS SEAT. 3 by the template 'for every input the law returns true; each argument reads behind the call as it read before'; 0 by the template 'total and deterministic' (their statements: YtonkeoekmfkaoaaGreatTotals.lean).
  GIVEN WITH THE SEED: the statements are not yours to turn. If you find one false, say at which input.
  Laid BY PROGRAM, IN A SANDBOX (cutbox-rows.mjs): the forced cells as the released guide's own fill.sh prints them over the translation 3dafefdca55959ab… (all of the seat's roots in one cut). By AI agents, Wed Nov 11 2026. No macro, syntax, notation, axiom, sorry.
-/
import Derived.Test.YtonkeoekmfkaoaaGreatChecked
import GoSem.Claim
import GoSem.ClaimJoined
import GoSem.ClaimMapViews
import Derived.JoinedTies
import Derived.KernelRfl
namespace Go.Proofs.YtonkeoekmfkaoaaGreat
/- THE CELL 'sum', in the pinned program and in every row, IS THE sha256 OF THE DUMP (.gsa) THAT YtonkeoekmfkaoaaGreatProg.lean LOADS. Nothing in Lean hashes anything: it is a label: what it is worth is what the hold of that sum in a sandbox is worth. -/
noncomputable def Tryz.pinned : Pinned := { name := "ytonkeoekmfkaoaagreat", sum := "3dafefdca55959ab7ee2e076adacb5cf6f5c4952749a0b18f6db80f12bc2ee96", checked := Tryz.checked }
namespace Rows
def none {H : Type} : Left H := { results := [], args := [] }

/-- 'laws.FnExactTablePeak': WHATEVER THE INPUT: true; the input reads as it did. -/
def fnExactTablePeakSpec : ChangeSpec := { name := "fnExactTablePeak", fn := fun _ => fun
  | [d] => { results := [.lit (.bool true)], args := [d] }
  | _ => none }
def fnExactTablePeakRow : OpenClaim := { program := "ytonkeoekmfkaoaagreat", sum := "3dafefdca55959ab7ee2e076adacb5cf6f5c4952749a0b18f6db80f12bc2ee96", func := "loop.example/g01538/laws.FnExactTablePeak", spec := "fnExactTablePeak", inPlace := ["slices.overlaps[loop.example/g01538/impl.Write]"], unfollowed := true, recurses := true, apart := false }
def FnExactTablePeakSaid : Prop := fnExactTablePeakRow.holds Tryz.pinned (OpenSpec.ofChange fnExactTablePeakSpec)

/-- ITS FALSE NEIGHBOUR: 'it returns false'. Refute it at one input. -/
def fnExactTablePeakWrong : ChangeSpec := { name := "fnExactTablePeak", fn := fun _ => fun
  | [d] => { results := [.lit (.bool false)], args := [d] }
  | _ => none }
def FnExactTablePeakWrongFalsely : Prop := fnExactTablePeakRow.holds Tryz.pinned (OpenSpec.ofChange fnExactTablePeakWrong)

/-- 'laws.FnOwnTable': WHATEVER THE INPUT: true; the input reads as it did. -/
def fnOwnTableSpec : ChangeSpec := { name := "fnOwnTable", fn := fun _ => fun
  | [d] => { results := [.lit (.bool true)], args := [d] }
  | _ => none }
def fnOwnTableRow : OpenClaim := { program := "ytonkeoekmfkaoaagreat", sum := "3dafefdca55959ab7ee2e076adacb5cf6f5c4952749a0b18f6db80f12bc2ee96", func := "loop.example/g01538/laws.FnOwnTable", spec := "fnOwnTable", inPlace := ["slices.overlaps[loop.example/g01538/impl.Write]"], unfollowed := true, recurses := true, apart := false }
def FnOwnTableSaid : Prop := fnOwnTableRow.holds Tryz.pinned (OpenSpec.ofChange fnOwnTableSpec)

/-- ITS FALSE NEIGHBOUR: 'it returns false'. Refute it at one input. -/
def fnOwnTableWrong : ChangeSpec := { name := "fnOwnTable", fn := fun _ => fun
  | [d] => { results := [.lit (.bool false)], args := [d] }
  | _ => none }
def FnOwnTableWrongFalsely : Prop := fnOwnTableRow.holds Tryz.pinned (OpenSpec.ofChange fnOwnTableWrong)

/-- 'laws.FnExactTablePlay': WHATEVER THE INPUT: true; the input reads as it did. -/
def fnExactTablePlaySpec : ChangeSpec := { name := "fnExactTablePlay", fn := fun _ => fun
  | [d] => { results := [.lit (.bool true)], args := [d] }
  | _ => none }
def fnExactTablePlayRow : OpenClaim := { program := "ytonkeoekmfkaoaagreat", sum := "3dafefdca55959ab7ee2e076adacb5cf6f5c4952749a0b18f6db80f12bc2ee96", func := "loop.example/g01538/laws.FnExactTablePlay", spec := "fnExactTablePlay", inPlace := ["slices.overlaps[loop.example/g01538/impl.Write]"], unfollowed := true, recurses := true, apart := false }
def FnExactTablePlaySaid : Prop := fnExactTablePlayRow.holds Tryz.pinned (OpenSpec.ofChange fnExactTablePlaySpec)

/-- ITS FALSE NEIGHBOUR: 'it returns false'. Refute it at one input. -/
def fnExactTablePlayWrong : ChangeSpec := { name := "fnExactTablePlay", fn := fun _ => fun
  | [d] => { results := [.lit (.bool false)], args := [d] }
  | _ => none }
def FnExactTablePlayWrongFalsely : Prop := fnExactTablePlayRow.holds Tryz.pinned (OpenSpec.ofChange fnExactTablePlayWrong)

/- THE SECOND FORM. 'bulk': how many values and letters a reading holds, each counted each time it is reached (what is shared counts as often as it is met; a slice's spare places count too). A statement '..UptoSaid' is the law's where the arguments, and the package variables that the reading takes, are together of bulk at most 1048576: NARROWER than '..Said'. Prove '..Said' where nothing that the law and all that it calls make is longer than what came in: it says more and counts as full. Else prove '..UptoSaid'. A law counts once. -/
mutual
def uptoBulk {H : Type} : DataW H → Nat
  | .lit (.string bytes) => bytes.length + 1
  | .lit _ => 1
  | .nil => 1
  | .ptr d => uptoBulk d + 1
  | .slice elems spare => uptoBulkAll elems + uptoBulkAll spare + 1
  | .agg parts => uptoBulkAll parts + 1
  | .iface _ d => uptoBulk d + 1
  | .map entries => uptoBulkEntries entries + 1
  | .held _ => 1
def uptoBulkAll {H : Type} : List (DataW H) → Nat
  | [] => 0
  | d :: r => uptoBulk d + uptoBulkAll r
def uptoBulkEntries {H : Type} : List (Lit × DataW H) → Nat
  | [] => 0
  | x :: r => uptoBulkEntry x + uptoBulkEntries r
def uptoBulkEntry {H : Type} : Lit × DataW H → Nat
  | (.string bytes, d) => bytes.length + uptoBulk d + 1
  | (_, d) => uptoBulk d + 1
 end
def uptoSmall : (H : Type) → List (DataW H) → Bool := fun _ ds => decide (uptoBulkAll ds ≤ 1048576)
def OpenSpec.upto (s : _root_.Go.ChangeSpec) : _root_.Go.OpenSpec := { _root_.Go.OpenSpec.ofChange s with cond := some uptoSmall }

/-- 'laws.FnExactTablePeak', WHERE WHAT IT READS IS OF BULK AT MOST 1048576: true; the input reads as it did. -/
def fnExactTablePeakUptoRow : OpenClaim := { program := "ytonkeoekmfkaoaagreat", sum := "3dafefdca55959ab7ee2e076adacb5cf6f5c4952749a0b18f6db80f12bc2ee96", func := "loop.example/g01538/laws.FnExactTablePeak", spec := "fnExactTablePeak", inPlace := ["slices.overlaps[loop.example/g01538/impl.Write]"], unfollowed := true, recurses := true, apart := false, narrowed := true }
def FnExactTablePeakUptoSaid : Prop := fnExactTablePeakUptoRow.holds Tryz.pinned (OpenSpec.upto fnExactTablePeakSpec)

/-- 'laws.FnOwnTable', WHERE WHAT IT READS IS OF BULK AT MOST 1048576: true; the input reads as it did. -/
def fnOwnTableUptoRow : OpenClaim := { program := "ytonkeoekmfkaoaagreat", sum := "3dafefdca55959ab7ee2e076adacb5cf6f5c4952749a0b18f6db80f12bc2ee96", func := "loop.example/g01538/laws.FnOwnTable", spec := "fnOwnTable", inPlace := ["slices.overlaps[loop.example/g01538/impl.Write]"], unfollowed := true, recurses := true, apart := false, narrowed := true }
def FnOwnTableUptoSaid : Prop := fnOwnTableUptoRow.holds Tryz.pinned (OpenSpec.upto fnOwnTableSpec)

/-- 'laws.FnExactTablePlay', WHERE WHAT IT READS IS OF BULK AT MOST 1048576: true; the input reads as it did. -/
def fnExactTablePlayUptoRow : OpenClaim := { program := "ytonkeoekmfkaoaagreat", sum := "3dafefdca55959ab7ee2e076adacb5cf6f5c4952749a0b18f6db80f12bc2ee96", func := "loop.example/g01538/laws.FnExactTablePlay", spec := "fnExactTablePlay", inPlace := ["slices.overlaps[loop.example/g01538/impl.Write]"], unfollowed := true, recurses := true, apart := false, narrowed := true }
def FnExactTablePlayUptoSaid : Prop := fnExactTablePlayUptoRow.holds Tryz.pinned (OpenSpec.upto fnExactTablePlaySpec)

end Rows
end Go.Proofs.YtonkeoekmfkaoaaGreat
