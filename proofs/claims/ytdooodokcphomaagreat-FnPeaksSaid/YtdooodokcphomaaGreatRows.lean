/-
  No cell of these rows narrows 'for every input' (looked for: loops, veiled, ifaces, maps, wideKeys, modest, calm, conditions, laid).
  DERIVED. THE GIVEN ROWS OF THIS SEAT. 2 by the template 'for every input the law returns true; each argument reads behind the call as it read before'; 0 by the template 'total and deterministic' (their statements: YtdooodokcphomaaGreatTotals.lean).
  GIVEN WITH THE SEED: the statements are not yours to turn. If you find one false, say at which input.
  Laid BY PROGRAM, IN A SANDBOX (cutbox-rows.mjs): the forced cells as the released guide's own fill.sh prints them over the translation 01aaa3b0a9325672… (all of the seat's roots in one cut). By AI agents, Wed Nov 11 2026. No macro, syntax, notation, axiom, sorry.
-/
import Derived.Test.YtdooodokcphomaaGreatChecked
import GoSem.Claim
import GoSem.ClaimJoined
import GoSem.ClaimMapViews
import Derived.JoinedTies
import Derived.KernelRfl
namespace Go.Proofs.YtdooodokcphomaaGreat
/- THE CELL 'sum', in the pinned program and in every row, IS THE sha256 OF THE DUMP (.gsa) THAT YtdooodokcphomaaGreatProg.lean LOADS. Nothing in Lean hashes anything: it is a label: what it is worth is what the hold of that sum in a sandbox is worth. -/
noncomputable def Tryz.pinned : Pinned := { name := "ytdooodokcphomaagreat", sum := "01aaa3b0a9325672e0f868bb9bf86f184f4e18e8a8fa047f3cbfccb8e415d956", checked := Tryz.checked }
namespace Rows
def none {H : Type} : Left H := { results := [], args := [] }

/-- 'laws.FnSerial': WHATEVER THE INPUT: true; the input reads as it did. -/
def fnSerialSpec : ChangeSpec := { name := "fnSerial", fn := fun _ => fun
  | [d] => { results := [.lit (.bool true)], args := [d] }
  | _ => none }
def fnSerialRow : OpenClaim := { program := "ytdooodokcphomaagreat", sum := "01aaa3b0a9325672e0f868bb9bf86f184f4e18e8a8fa047f3cbfccb8e415d956", func := "loop.example/g01538/laws.FnSerial", spec := "fnSerial", inPlace := ["slices.overlaps[loop.example/g01538/impl.Write]", "slices.overlaps[loop.example/g01538/impl.KV]"], unfollowed := true, recurses := true, apart := false }
def FnSerialSaid : Prop := fnSerialRow.holds Tryz.pinned (OpenSpec.ofChange fnSerialSpec)

/-- ITS FALSE NEIGHBOUR: 'it returns false'. Refute it at one input. -/
def fnSerialWrong : ChangeSpec := { name := "fnSerial", fn := fun _ => fun
  | [d] => { results := [.lit (.bool false)], args := [d] }
  | _ => none }
def FnSerialWrongFalsely : Prop := fnSerialRow.holds Tryz.pinned (OpenSpec.ofChange fnSerialWrong)

/-- 'laws.FnPeaks': WHATEVER THE INPUT: true; the input reads as it did. -/
def fnPeaksSpec : ChangeSpec := { name := "fnPeaks", fn := fun _ => fun
  | [d] => { results := [.lit (.bool true)], args := [d] }
  | _ => none }
def fnPeaksRow : OpenClaim := { program := "ytdooodokcphomaagreat", sum := "01aaa3b0a9325672e0f868bb9bf86f184f4e18e8a8fa047f3cbfccb8e415d956", func := "loop.example/g01538/laws.FnPeaks", spec := "fnPeaks", inPlace := ["slices.overlaps[loop.example/g01538/impl.Write]"], unfollowed := true, recurses := true, apart := false }
def FnPeaksSaid : Prop := fnPeaksRow.holds Tryz.pinned (OpenSpec.ofChange fnPeaksSpec)

/-- ITS FALSE NEIGHBOUR: 'it returns false'. Refute it at one input. -/
def fnPeaksWrong : ChangeSpec := { name := "fnPeaks", fn := fun _ => fun
  | [d] => { results := [.lit (.bool false)], args := [d] }
  | _ => none }
def FnPeaksWrongFalsely : Prop := fnPeaksRow.holds Tryz.pinned (OpenSpec.ofChange fnPeaksWrong)

/- THE SECOND FORM. 'bulk': how many values and letters a reading holds, each counted each time it is reached (what is shared counts as often as it is met; a slice's spare places count too). A statement '..UptoSaid' is the law's where the arguments, and the package variables that the reading takes, are together of bulk at most 1048576: NARROWER than '..Said'. Prove '..Said' where nothing that the law and all that it calls make is longer than what came in: it says more and counts as full. Else prove '..UptoSaid'. A law counts once. -/
mutual
def uptoBulk {H : Type} : DataW H → Nat
  | .lit (.string bytes) => bytes.length + 1
  | .lit _ => 1
  | .nil => 1
  | .ptr d => uptoBulk d + 1
  | .slice elems spare => uptoBulkAll elems + uptoBulkAll spare + 1
  | .agg parts => uptoBulkAll parts + 1
  | .iface _ d => uptoBulk d + 1
  | .map entries => uptoBulkEntries entries + 1
  | .held _ => 1
def uptoBulkAll {H : Type} : List (DataW H) → Nat
  | [] => 0
  | d :: r => uptoBulk d + uptoBulkAll r
def uptoBulkEntries {H : Type} : List (Lit × DataW H) → Nat
  | [] => 0
  | x :: r => uptoBulkEntry x + uptoBulkEntries r
def uptoBulkEntry {H : Type} : Lit × DataW H → Nat
  | (.string bytes, d) => bytes.length + uptoBulk d + 1
  | (_, d) => uptoBulk d + 1
 end
def uptoSmall : (H : Type) → List (DataW H) → Bool := fun _ ds => decide (uptoBulkAll ds ≤ 1048576)
def OpenSpec.upto (s : _root_.Go.ChangeSpec) : _root_.Go.OpenSpec := { _root_.Go.OpenSpec.ofChange s with cond := some uptoSmall }

/-- 'laws.FnSerial', WHERE WHAT IT READS IS OF BULK AT MOST 1048576: true; the input reads as it did. -/
def fnSerialUptoRow : OpenClaim := { program := "ytdooodokcphomaagreat", sum := "01aaa3b0a9325672e0f868bb9bf86f184f4e18e8a8fa047f3cbfccb8e415d956", func := "loop.example/g01538/laws.FnSerial", spec := "fnSerial", inPlace := ["slices.overlaps[loop.example/g01538/impl.Write]", "slices.overlaps[loop.example/g01538/impl.KV]"], unfollowed := true, recurses := true, apart := false, narrowed := true }
def FnSerialUptoSaid : Prop := fnSerialUptoRow.holds Tryz.pinned (OpenSpec.upto fnSerialSpec)

/-- 'laws.FnPeaks', WHERE WHAT IT READS IS OF BULK AT MOST 1048576: true; the input reads as it did. -/
def fnPeaksUptoRow : OpenClaim := { program := "ytdooodokcphomaagreat", sum := "01aaa3b0a9325672e0f868bb9bf86f184f4e18e8a8fa047f3cbfccb8e415d956", func := "loop.example/g01538/laws.FnPeaks", spec := "fnPeaks", inPlace := ["slices.overlaps[loop.example/g01538/impl.Write]"], unfollowed := true, recurses := true, apart := false, narrowed := true }
def FnPeaksUptoSaid : Prop := fnPeaksUptoRow.holds Tryz.pinned (OpenSpec.upto fnPeaksSpec)

end Rows
end Go.Proofs.YtdooodokcphomaaGreat
