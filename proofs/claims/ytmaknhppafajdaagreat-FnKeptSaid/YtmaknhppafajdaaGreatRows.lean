/-
  No cell of these rows narrows 'for every input' (looked for: loops, veiled, ifaces, maps, wideKeys, modest, calm, conditions, laid).
  DERIVED. THE GIVEN ROWS OF THIS SEAT. 7 by the template 'for every input the law returns true; each argument reads behind the call as it read before'; 0 by the template 'total and deterministic' (their statements: YtmaknhppafajdaaGreatTotals.lean).
  GIVEN WITH THE SEED: the statements are not yours to turn. If you find one false, say at which input.
  Laid BY PROGRAM, IN A SANDBOX (cutbox-rows.mjs): the forced cells as the released guide's own fill.sh prints them over the translation f8da2c86195e32aa… (all of the seat's roots in one cut). By AI agents, Wed Nov 11 2026. No macro, syntax, notation, axiom, sorry.
-/
import Derived.Test.YtmaknhppafajdaaGreatChecked
import GoSem.Claim
import GoSem.ClaimJoined
import GoSem.ClaimMapViews
import Derived.JoinedTies
import Derived.KernelRfl
namespace Go.Proofs.YtmaknhppafajdaaGreat
/- THE CELL 'sum', in the pinned program and in every row, IS THE sha256 OF THE DUMP (.gsa) THAT YtmaknhppafajdaaGreatProg.lean LOADS. Nothing in Lean hashes anything: it is a label: what it is worth is what the hold of that sum in a sandbox is worth. -/
noncomputable def Tryz.pinned : Pinned := { name := "ytmaknhppafajdaagreat", sum := "f8da2c86195e32aa431520758301019f8276f4b02a8b716e5e2c107d1c87a055", checked := Tryz.checked }
namespace Rows
def none {H : Type} : Left H := { results := [], args := [] }

/-- 'laws.FnUnguarded': WHATEVER THE INPUT: true; the input reads as it did. -/
def fnUnguardedSpec : ChangeSpec := { name := "fnUnguarded", fn := fun _ => fun
  | [d] => { results := [.lit (.bool true)], args := [d] }
  | _ => none }
def fnUnguardedRow : OpenClaim := { program := "ytmaknhppafajdaagreat", sum := "f8da2c86195e32aa431520758301019f8276f4b02a8b716e5e2c107d1c87a055", func := "loop.example/g01538/laws.FnUnguarded", spec := "fnUnguarded", unfollowed := true, recurses := true, apart := false }
def FnUnguardedSaid : Prop := fnUnguardedRow.holds Tryz.pinned (OpenSpec.ofChange fnUnguardedSpec)

/-- ITS FALSE NEIGHBOUR: 'it returns false'. Refute it at one input. -/
def fnUnguardedWrong : ChangeSpec := { name := "fnUnguarded", fn := fun _ => fun
  | [d] => { results := [.lit (.bool false)], args := [d] }
  | _ => none }
def FnUnguardedWrongFalsely : Prop := fnUnguardedRow.holds Tryz.pinned (OpenSpec.ofChange fnUnguardedWrong)

/-- 'laws.FnStuck': WHATEVER THE INPUT: true; the input reads as it did. -/
def fnStuckSpec : ChangeSpec := { name := "fnStuck", fn := fun _ => fun
  | [d] => { results := [.lit (.bool true)], args := [d] }
  | _ => none }
def fnStuckRow : OpenClaim := { program := "ytmaknhppafajdaagreat", sum := "f8da2c86195e32aa431520758301019f8276f4b02a8b716e5e2c107d1c87a055", func := "loop.example/g01538/laws.FnStuck", spec := "fnStuck", unfollowed := true, recurses := true, apart := false }
def FnStuckSaid : Prop := fnStuckRow.holds Tryz.pinned (OpenSpec.ofChange fnStuckSpec)

/-- ITS FALSE NEIGHBOUR: 'it returns false'. Refute it at one input. -/
def fnStuckWrong : ChangeSpec := { name := "fnStuck", fn := fun _ => fun
  | [d] => { results := [.lit (.bool false)], args := [d] }
  | _ => none }
def FnStuckWrongFalsely : Prop := fnStuckRow.holds Tryz.pinned (OpenSpec.ofChange fnStuckWrong)

/-- 'laws.FnHazard': WHATEVER THE INPUT: true; the input reads as it did. -/
def fnHazardSpec : ChangeSpec := { name := "fnHazard", fn := fun _ => fun
  | [d] => { results := [.lit (.bool true)], args := [d] }
  | _ => none }
def fnHazardRow : OpenClaim := { program := "ytmaknhppafajdaagreat", sum := "f8da2c86195e32aa431520758301019f8276f4b02a8b716e5e2c107d1c87a055", func := "loop.example/g01538/laws.FnHazard", spec := "fnHazard", unfollowed := true, recurses := true, apart := false }
def FnHazardSaid : Prop := fnHazardRow.holds Tryz.pinned (OpenSpec.ofChange fnHazardSpec)

/-- ITS FALSE NEIGHBOUR: 'it returns false'. Refute it at one input. -/
def fnHazardWrong : ChangeSpec := { name := "fnHazard", fn := fun _ => fun
  | [d] => { results := [.lit (.bool false)], args := [d] }
  | _ => none }
def FnHazardWrongFalsely : Prop := fnHazardRow.holds Tryz.pinned (OpenSpec.ofChange fnHazardWrong)

/-- 'laws.FnKept': WHATEVER THE INPUT: true; the input reads as it did. -/
def fnKeptSpec : ChangeSpec := { name := "fnKept", fn := fun _ => fun
  | [d] => { results := [.lit (.bool true)], args := [d] }
  | _ => none }
def fnKeptRow : OpenClaim := { program := "ytmaknhppafajdaagreat", sum := "f8da2c86195e32aa431520758301019f8276f4b02a8b716e5e2c107d1c87a055", func := "loop.example/g01538/laws.FnKept", spec := "fnKept", unfollowed := true, recurses := true, apart := false }
def FnKeptSaid : Prop := fnKeptRow.holds Tryz.pinned (OpenSpec.ofChange fnKeptSpec)

/-- ITS FALSE NEIGHBOUR: 'it returns false'. Refute it at one input. -/
def fnKeptWrong : ChangeSpec := { name := "fnKept", fn := fun _ => fun
  | [d] => { results := [.lit (.bool false)], args := [d] }
  | _ => none }
def FnKeptWrongFalsely : Prop := fnKeptRow.holds Tryz.pinned (OpenSpec.ofChange fnKeptWrong)

/-- 'laws.FnTolds': WHATEVER THE INPUT: true; the input reads as it did. -/
def fnToldsSpec : ChangeSpec := { name := "fnTolds", fn := fun _ => fun
  | [d] => { results := [.lit (.bool true)], args := [d] }
  | _ => none }
def fnToldsRow : OpenClaim := { program := "ytmaknhppafajdaagreat", sum := "f8da2c86195e32aa431520758301019f8276f4b02a8b716e5e2c107d1c87a055", func := "loop.example/g01538/laws.FnTolds", spec := "fnTolds", unfollowed := true, recurses := true, apart := false }
def FnToldsSaid : Prop := fnToldsRow.holds Tryz.pinned (OpenSpec.ofChange fnToldsSpec)

/-- ITS FALSE NEIGHBOUR: 'it returns false'. Refute it at one input. -/
def fnToldsWrong : ChangeSpec := { name := "fnTolds", fn := fun _ => fun
  | [d] => { results := [.lit (.bool false)], args := [d] }
  | _ => none }
def FnToldsWrongFalsely : Prop := fnToldsRow.holds Tryz.pinned (OpenSpec.ofChange fnToldsWrong)

/-- 'laws.FnDrained': WHATEVER THE INPUT: true; the input reads as it did. -/
def fnDrainedSpec : ChangeSpec := { name := "fnDrained", fn := fun _ => fun
  | [d] => { results := [.lit (.bool true)], args := [d] }
  | _ => none }
def fnDrainedRow : OpenClaim := { program := "ytmaknhppafajdaagreat", sum := "f8da2c86195e32aa431520758301019f8276f4b02a8b716e5e2c107d1c87a055", func := "loop.example/g01538/laws.FnDrained", spec := "fnDrained", unfollowed := true, recurses := true, apart := false }
def FnDrainedSaid : Prop := fnDrainedRow.holds Tryz.pinned (OpenSpec.ofChange fnDrainedSpec)

/-- ITS FALSE NEIGHBOUR: 'it returns false'. Refute it at one input. -/
def fnDrainedWrong : ChangeSpec := { name := "fnDrained", fn := fun _ => fun
  | [d] => { results := [.lit (.bool false)], args := [d] }
  | _ => none }
def FnDrainedWrongFalsely : Prop := fnDrainedRow.holds Tryz.pinned (OpenSpec.ofChange fnDrainedWrong)

/-- 'laws.FnRegister': WHATEVER THE INPUT: true; the input reads as it did. -/
def fnRegisterSpec : ChangeSpec := { name := "fnRegister", fn := fun _ => fun
  | [d] => { results := [.lit (.bool true)], args := [d] }
  | _ => none }
def fnRegisterRow : OpenClaim := { program := "ytmaknhppafajdaagreat", sum := "f8da2c86195e32aa431520758301019f8276f4b02a8b716e5e2c107d1c87a055", func := "loop.example/g01538/laws.FnRegister", spec := "fnRegister", unfollowed := true, recurses := true, apart := false }
def FnRegisterSaid : Prop := fnRegisterRow.holds Tryz.pinned (OpenSpec.ofChange fnRegisterSpec)

/-- ITS FALSE NEIGHBOUR: 'it returns false'. Refute it at one input. -/
def fnRegisterWrong : ChangeSpec := { name := "fnRegister", fn := fun _ => fun
  | [d] => { results := [.lit (.bool false)], args := [d] }
  | _ => none }
def FnRegisterWrongFalsely : Prop := fnRegisterRow.holds Tryz.pinned (OpenSpec.ofChange fnRegisterWrong)

/- THE SECOND FORM. 'bulk': how many values and letters a reading holds, each counted each time it is reached (what is shared counts as often as it is met; a slice's spare places count too). A statement '..UptoSaid' is the law's where the arguments, and the package variables that the reading takes, are together of bulk at most 1048576: NARROWER than '..Said'. Prove '..Said' where nothing that the law and all that it calls make is longer than what came in: it says more and counts as full. Else prove '..UptoSaid'. A law counts once. -/
mutual
def uptoBulk {H : Type} : DataW H → Nat
  | .lit (.string bytes) => bytes.length + 1
  | .lit _ => 1
  | .nil => 1
  | .ptr d => uptoBulk d + 1
  | .slice elems spare => uptoBulkAll elems + uptoBulkAll spare + 1
  | .agg parts => uptoBulkAll parts + 1
  | .iface _ d => uptoBulk d + 1
  | .map entries => uptoBulkEntries entries + 1
  | .held _ => 1
def uptoBulkAll {H : Type} : List (DataW H) → Nat
  | [] => 0
  | d :: r => uptoBulk d + uptoBulkAll r
def uptoBulkEntries {H : Type} : List (Lit × DataW H) → Nat
  | [] => 0
  | x :: r => uptoBulkEntry x + uptoBulkEntries r
def uptoBulkEntry {H : Type} : Lit × DataW H → Nat
  | (.string bytes, d) => bytes.length + uptoBulk d + 1
  | (_, d) => uptoBulk d + 1
 end
def uptoSmall : (H : Type) → List (DataW H) → Bool := fun _ ds => decide (uptoBulkAll ds ≤ 1048576)
def OpenSpec.upto (s : _root_.Go.ChangeSpec) : _root_.Go.OpenSpec := { _root_.Go.OpenSpec.ofChange s with cond := some uptoSmall }

/-- 'laws.FnUnguarded', WHERE WHAT IT READS IS OF BULK AT MOST 1048576: true; the input reads as it did. -/
def fnUnguardedUptoRow : OpenClaim := { program := "ytmaknhppafajdaagreat", sum := "f8da2c86195e32aa431520758301019f8276f4b02a8b716e5e2c107d1c87a055", func := "loop.example/g01538/laws.FnUnguarded", spec := "fnUnguarded", unfollowed := true, recurses := true, apart := false, narrowed := true }
def FnUnguardedUptoSaid : Prop := fnUnguardedUptoRow.holds Tryz.pinned (OpenSpec.upto fnUnguardedSpec)

/-- 'laws.FnStuck', WHERE WHAT IT READS IS OF BULK AT MOST 1048576: true; the input reads as it did. -/
def fnStuckUptoRow : OpenClaim := { program := "ytmaknhppafajdaagreat", sum := "f8da2c86195e32aa431520758301019f8276f4b02a8b716e5e2c107d1c87a055", func := "loop.example/g01538/laws.FnStuck", spec := "fnStuck", unfollowed := true, recurses := true, apart := false, narrowed := true }
def FnStuckUptoSaid : Prop := fnStuckUptoRow.holds Tryz.pinned (OpenSpec.upto fnStuckSpec)

/-- 'laws.FnHazard', WHERE WHAT IT READS IS OF BULK AT MOST 1048576: true; the input reads as it did. -/
def fnHazardUptoRow : OpenClaim := { program := "ytmaknhppafajdaagreat", sum := "f8da2c86195e32aa431520758301019f8276f4b02a8b716e5e2c107d1c87a055", func := "loop.example/g01538/laws.FnHazard", spec := "fnHazard", unfollowed := true, recurses := true, apart := false, narrowed := true }
def FnHazardUptoSaid : Prop := fnHazardUptoRow.holds Tryz.pinned (OpenSpec.upto fnHazardSpec)

/-- 'laws.FnKept', WHERE WHAT IT READS IS OF BULK AT MOST 1048576: true; the input reads as it did. -/
def fnKeptUptoRow : OpenClaim := { program := "ytmaknhppafajdaagreat", sum := "f8da2c86195e32aa431520758301019f8276f4b02a8b716e5e2c107d1c87a055", func := "loop.example/g01538/laws.FnKept", spec := "fnKept", unfollowed := true, recurses := true, apart := false, narrowed := true }
def FnKeptUptoSaid : Prop := fnKeptUptoRow.holds Tryz.pinned (OpenSpec.upto fnKeptSpec)

/-- 'laws.FnTolds', WHERE WHAT IT READS IS OF BULK AT MOST 1048576: true; the input reads as it did. -/
def fnToldsUptoRow : OpenClaim := { program := "ytmaknhppafajdaagreat", sum := "f8da2c86195e32aa431520758301019f8276f4b02a8b716e5e2c107d1c87a055", func := "loop.example/g01538/laws.FnTolds", spec := "fnTolds", unfollowed := true, recurses := true, apart := false, narrowed := true }
def FnToldsUptoSaid : Prop := fnToldsUptoRow.holds Tryz.pinned (OpenSpec.upto fnToldsSpec)

/-- 'laws.FnDrained', WHERE WHAT IT READS IS OF BULK AT MOST 1048576: true; the input reads as it did. -/
def fnDrainedUptoRow : OpenClaim := { program := "ytmaknhppafajdaagreat", sum := "f8da2c86195e32aa431520758301019f8276f4b02a8b716e5e2c107d1c87a055", func := "loop.example/g01538/laws.FnDrained", spec := "fnDrained", unfollowed := true, recurses := true, apart := false, narrowed := true }
def FnDrainedUptoSaid : Prop := fnDrainedUptoRow.holds Tryz.pinned (OpenSpec.upto fnDrainedSpec)

/-- 'laws.FnRegister', WHERE WHAT IT READS IS OF BULK AT MOST 1048576: true; the input reads as it did. -/
def fnRegisterUptoRow : OpenClaim := { program := "ytmaknhppafajdaagreat", sum := "f8da2c86195e32aa431520758301019f8276f4b02a8b716e5e2c107d1c87a055", func := "loop.example/g01538/laws.FnRegister", spec := "fnRegister", unfollowed := true, recurses := true, apart := false, narrowed := true }
def FnRegisterUptoSaid : Prop := fnRegisterUptoRow.holds Tryz.pinned (OpenSpec.upto fnRegisterSpec)

end Rows
end Go.Proofs.YtmaknhppafajdaaGreat
