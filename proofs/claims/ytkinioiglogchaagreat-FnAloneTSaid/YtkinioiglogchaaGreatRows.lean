/-
  No cell of these rows narrows 'for every input' (looked for: loops, veiled, ifaces, maps, wideKeys, modest, calm, conditions, laid).
  DERIVED. THE GIVEN ROWS OF THIS SEAT. 4 by the template 'for every input the law returns true; each argument reads behind the call as it read before'; 0 by the template 'total and deterministic' (their statements: YtkinioiglogchaaGreatTotals.lean).
  GIVEN WITH THE SEED: the statements are not yours to turn. If you find one false, say at which input.
  Laid BY PROGRAM, IN A SANDBOX (cutbox-rows.mjs): the forced cells as the released guide's own fill.sh prints them over the translation 8c4f53d11fa9a923… (all of the seat's roots in one cut). By AI agents, Wed Nov 11 2026. No macro, syntax, notation, axiom, sorry.
-/
import Derived.Test.YtkinioiglogchaaGreatChecked
import GoSem.Claim
import GoSem.ClaimJoined
import GoSem.ClaimMapViews
import Derived.JoinedTies
import Derived.KernelRfl
namespace Go.Proofs.YtkinioiglogchaaGreat
/- THE CELL 'sum', in the pinned program and in every row, IS THE sha256 OF THE DUMP (.gsa) THAT YtkinioiglogchaaGreatProg.lean LOADS. Nothing in Lean hashes anything: it is a label: what it is worth is what the hold of that sum in a sandbox is worth. -/
noncomputable def Tryz.pinned : Pinned := { name := "ytkinioiglogchaagreat", sum := "8c4f53d11fa9a923b44ffc68711e76d0dfa622ba59b45afffae1a7b7d4834202", checked := Tryz.checked }
namespace Rows
def none {H : Type} : Left H := { results := [], args := [] }

/-- 'laws.FnNothing': WHATEVER THE INPUT: true; the input reads as it did. -/
def fnNothingSpec : ChangeSpec := { name := "fnNothing", fn := fun _ => fun
  | [d] => { results := [.lit (.bool true)], args := [d] }
  | _ => none }
def fnNothingRow : OpenClaim := { program := "ytkinioiglogchaagreat", sum := "8c4f53d11fa9a923b44ffc68711e76d0dfa622ba59b45afffae1a7b7d4834202", func := "loop.example/g01538/laws.FnNothing", spec := "fnNothing", inPlace := ["slices.overlaps[loop.example/g01538/impl.Write]", "slices.overlaps[loop.example/g01538/impl.KV]"], unfollowed := true, recurses := true, apart := false }
def FnNothingSaid : Prop := fnNothingRow.holds Tryz.pinned (OpenSpec.ofChange fnNothingSpec)

/-- ITS FALSE NEIGHBOUR: 'it returns false'. Refute it at one input. -/
def fnNothingWrong : ChangeSpec := { name := "fnNothing", fn := fun _ => fun
  | [d] => { results := [.lit (.bool false)], args := [d] }
  | _ => none }
def FnNothingWrongFalsely : Prop := fnNothingRow.holds Tryz.pinned (OpenSpec.ofChange fnNothingWrong)

/-- 'laws.FnCounter': WHATEVER THE INPUT: true; the input reads as it did. -/
def fnCounterSpec : ChangeSpec := { name := "fnCounter", fn := fun _ => fun
  | [d] => { results := [.lit (.bool true)], args := [d] }
  | _ => none }
def fnCounterRow : OpenClaim := { program := "ytkinioiglogchaagreat", sum := "8c4f53d11fa9a923b44ffc68711e76d0dfa622ba59b45afffae1a7b7d4834202", func := "loop.example/g01538/laws.FnCounter", spec := "fnCounter", inPlace := ["slices.overlaps[loop.example/g01538/impl.Write]", "slices.overlaps[loop.example/g01538/impl.KV]"], unfollowed := true, recurses := true, apart := false }
def FnCounterSaid : Prop := fnCounterRow.holds Tryz.pinned (OpenSpec.ofChange fnCounterSpec)

/-- ITS FALSE NEIGHBOUR: 'it returns false'. Refute it at one input. -/
def fnCounterWrong : ChangeSpec := { name := "fnCounter", fn := fun _ => fun
  | [d] => { results := [.lit (.bool false)], args := [d] }
  | _ => none }
def FnCounterWrongFalsely : Prop := fnCounterRow.holds Tryz.pinned (OpenSpec.ofChange fnCounterWrong)

/-- 'laws.FnBank': WHATEVER THE INPUT: true; the input reads as it did. -/
def fnBankSpec : ChangeSpec := { name := "fnBank", fn := fun _ => fun
  | [d] => { results := [.lit (.bool true)], args := [d] }
  | _ => none }
def fnBankRow : OpenClaim := { program := "ytkinioiglogchaagreat", sum := "8c4f53d11fa9a923b44ffc68711e76d0dfa622ba59b45afffae1a7b7d4834202", func := "loop.example/g01538/laws.FnBank", spec := "fnBank", inPlace := ["slices.overlaps[loop.example/g01538/impl.Write]", "slices.overlaps[loop.example/g01538/impl.KV]"], unfollowed := true, recurses := true, apart := false }
def FnBankSaid : Prop := fnBankRow.holds Tryz.pinned (OpenSpec.ofChange fnBankSpec)

/-- ITS FALSE NEIGHBOUR: 'it returns false'. Refute it at one input. -/
def fnBankWrong : ChangeSpec := { name := "fnBank", fn := fun _ => fun
  | [d] => { results := [.lit (.bool false)], args := [d] }
  | _ => none }
def FnBankWrongFalsely : Prop := fnBankRow.holds Tryz.pinned (OpenSpec.ofChange fnBankWrong)

/-- 'laws.FnAloneT': WHATEVER THE INPUT: true; the input reads as it did. -/
def fnAloneTSpec : ChangeSpec := { name := "fnAloneT", fn := fun _ => fun
  | [d] => { results := [.lit (.bool true)], args := [d] }
  | _ => none }
def fnAloneTRow : OpenClaim := { program := "ytkinioiglogchaagreat", sum := "8c4f53d11fa9a923b44ffc68711e76d0dfa622ba59b45afffae1a7b7d4834202", func := "loop.example/g01538/laws.FnAloneT", spec := "fnAloneT", inPlace := ["slices.overlaps[loop.example/g01538/impl.Write]", "slices.overlaps[loop.example/g01538/impl.KV]"], unfollowed := true, recurses := true, apart := false }
def FnAloneTSaid : Prop := fnAloneTRow.holds Tryz.pinned (OpenSpec.ofChange fnAloneTSpec)

/-- ITS FALSE NEIGHBOUR: 'it returns false'. Refute it at one input. -/
def fnAloneTWrong : ChangeSpec := { name := "fnAloneT", fn := fun _ => fun
  | [d] => { results := [.lit (.bool false)], args := [d] }
  | _ => none }
def FnAloneTWrongFalsely : Prop := fnAloneTRow.holds Tryz.pinned (OpenSpec.ofChange fnAloneTWrong)

/- THE SECOND FORM. 'bulk': how many values and letters a reading holds, each counted each time it is reached (what is shared counts as often as it is met; a slice's spare places count too). A statement '..UptoSaid' is the law's where the arguments, and the package variables that the reading takes, are together of bulk at most 1048576: NARROWER than '..Said'. Prove '..Said' where nothing that the law and all that it calls make is longer than what came in: it says more and counts as full. Else prove '..UptoSaid'. A law counts once. -/
mutual
def uptoBulk {H : Type} : DataW H → Nat
  | .lit (.string bytes) => bytes.length + 1
  | .lit _ => 1
  | .nil => 1
  | .ptr d => uptoBulk d + 1
  | .slice elems spare => uptoBulkAll elems + uptoBulkAll spare + 1
  | .agg parts => uptoBulkAll parts + 1
  | .iface _ d => uptoBulk d + 1
  | .map entries => uptoBulkEntries entries + 1
  | .held _ => 1
def uptoBulkAll {H : Type} : List (DataW H) → Nat
  | [] => 0
  | d :: r => uptoBulk d + uptoBulkAll r
def uptoBulkEntries {H : Type} : List (Lit × DataW H) → Nat
  | [] => 0
  | x :: r => uptoBulkEntry x + uptoBulkEntries r
def uptoBulkEntry {H : Type} : Lit × DataW H → Nat
  | (.string bytes, d) => bytes.length + uptoBulk d + 1
  | (_, d) => uptoBulk d + 1
 end
def uptoSmall : (H : Type) → List (DataW H) → Bool := fun _ ds => decide (uptoBulkAll ds ≤ 1048576)
def OpenSpec.upto (s : _root_.Go.ChangeSpec) : _root_.Go.OpenSpec := { _root_.Go.OpenSpec.ofChange s with cond := some uptoSmall }

/-- 'laws.FnNothing', WHERE WHAT IT READS IS OF BULK AT MOST 1048576: true; the input reads as it did. -/
def fnNothingUptoRow : OpenClaim := { program := "ytkinioiglogchaagreat", sum := "8c4f53d11fa9a923b44ffc68711e76d0dfa622ba59b45afffae1a7b7d4834202", func := "loop.example/g01538/laws.FnNothing", spec := "fnNothing", inPlace := ["slices.overlaps[loop.example/g01538/impl.Write]", "slices.overlaps[loop.example/g01538/impl.KV]"], unfollowed := true, recurses := true, apart := false, narrowed := true }
def FnNothingUptoSaid : Prop := fnNothingUptoRow.holds Tryz.pinned (OpenSpec.upto fnNothingSpec)

/-- 'laws.FnCounter', WHERE WHAT IT READS IS OF BULK AT MOST 1048576: true; the input reads as it did. -/
def fnCounterUptoRow : OpenClaim := { program := "ytkinioiglogchaagreat", sum := "8c4f53d11fa9a923b44ffc68711e76d0dfa622ba59b45afffae1a7b7d4834202", func := "loop.example/g01538/laws.FnCounter", spec := "fnCounter", inPlace := ["slices.overlaps[loop.example/g01538/impl.Write]", "slices.overlaps[loop.example/g01538/impl.KV]"], unfollowed := true, recurses := true, apart := false, narrowed := true }
def FnCounterUptoSaid : Prop := fnCounterUptoRow.holds Tryz.pinned (OpenSpec.upto fnCounterSpec)

/-- 'laws.FnBank', WHERE WHAT IT READS IS OF BULK AT MOST 1048576: true; the input reads as it did. -/
def fnBankUptoRow : OpenClaim := { program := "ytkinioiglogchaagreat", sum := "8c4f53d11fa9a923b44ffc68711e76d0dfa622ba59b45afffae1a7b7d4834202", func := "loop.example/g01538/laws.FnBank", spec := "fnBank", inPlace := ["slices.overlaps[loop.example/g01538/impl.Write]", "slices.overlaps[loop.example/g01538/impl.KV]"], unfollowed := true, recurses := true, apart := false, narrowed := true }
def FnBankUptoSaid : Prop := fnBankUptoRow.holds Tryz.pinned (OpenSpec.upto fnBankSpec)

/-- 'laws.FnAloneT', WHERE WHAT IT READS IS OF BULK AT MOST 1048576: true; the input reads as it did. -/
def fnAloneTUptoRow : OpenClaim := { program := "ytkinioiglogchaagreat", sum := "8c4f53d11fa9a923b44ffc68711e76d0dfa622ba59b45afffae1a7b7d4834202", func := "loop.example/g01538/laws.FnAloneT", spec := "fnAloneT", inPlace := ["slices.overlaps[loop.example/g01538/impl.Write]", "slices.overlaps[loop.example/g01538/impl.KV]"], unfollowed := true, recurses := true, apart := false, narrowed := true }
def FnAloneTUptoSaid : Prop := fnAloneTUptoRow.holds Tryz.pinned (OpenSpec.upto fnAloneTSpec)

end Rows
end Go.Proofs.YtkinioiglogchaaGreat
