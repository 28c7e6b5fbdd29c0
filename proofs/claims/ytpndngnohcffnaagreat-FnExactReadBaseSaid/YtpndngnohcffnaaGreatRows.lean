/-
  No cell of these rows narrows 'for every input' (looked for: loops, veiled, ifaces, maps, wideKeys, modest, calm, conditions, laid).
  DERIVED. THE GIVEN ROWS OF THIS SEAT. 2 by the template 'for every input the law returns true; each argument reads behind the call as it read before'; 0 by the template 'total and deterministic' (their statements: YtpndngnohcffnaaGreatTotals.lean).
  GIVEN WITH THE SEED: the statements are not yours to turn. If you find one false, say at which input.
  Laid BY PROGRAM, IN A SANDBOX (cutbox-rows.mjs): the forced cells as the released guide's own fill.sh prints them over the translation 58135d68b87f3c0e… (all of the seat's roots in one cut). By AI agents, Wed Nov 11 2026. No macro, syntax, notation, axiom, sorry.
-/
import Derived.Test.YtpndngnohcffnaaGreatChecked
import GoSem.Claim
import GoSem.ClaimJoined
import GoSem.ClaimMapViews
import Derived.JoinedTies
import Derived.KernelRfl
namespace Go.Proofs.YtpndngnohcffnaaGreat
/- THE CELL 'sum', in the pinned program and in every row, IS THE sha256 OF THE DUMP (.gsa) THAT YtpndngnohcffnaaGreatProg.lean LOADS. Nothing in Lean hashes anything: it is a label: what it is worth is what the hold of that sum in a sandbox is worth. -/
noncomputable def Tryz.pinned : Pinned := { name := "ytpndngnohcffnaagreat", sum := "58135d68b87f3c0eb119d48e512cd563645f42b7da63f482d058bf6323e5fe6c", checked := Tryz.checked }
namespace Rows
def none {H : Type} : Left H := { results := [], args := [] }

/-- 'laws.FnExactShowBase': WHATEVER THE INPUT: true; the input reads as it did. -/
def fnExactShowBaseSpec : ChangeSpec := { name := "fnExactShowBase", fn := fun _ => fun
  | [d] => { results := [.lit (.bool true)], args := [d] }
  | _ => none }
def fnExactShowBaseRow : OpenClaim := { program := "ytpndngnohcffnaagreat", sum := "58135d68b87f3c0eb119d48e512cd563645f42b7da63f482d058bf6323e5fe6c", func := "loop.example/g01538/laws.FnExactShowBase", spec := "fnExactShowBase", unfollowed := true, recurses := true, apart := false }
def FnExactShowBaseSaid : Prop := fnExactShowBaseRow.holds Tryz.pinned (OpenSpec.ofChange fnExactShowBaseSpec)

/-- ITS FALSE NEIGHBOUR: 'it returns false'. Refute it at one input. -/
def fnExactShowBaseWrong : ChangeSpec := { name := "fnExactShowBase", fn := fun _ => fun
  | [d] => { results := [.lit (.bool false)], args := [d] }
  | _ => none }
def FnExactShowBaseWrongFalsely : Prop := fnExactShowBaseRow.holds Tryz.pinned (OpenSpec.ofChange fnExactShowBaseWrong)

/-- 'laws.FnExactReadBase': WHATEVER THE INPUT: true; the input reads as it did. -/
def fnExactReadBaseSpec : ChangeSpec := { name := "fnExactReadBase", fn := fun _ => fun
  | [d] => { results := [.lit (.bool true)], args := [d] }
  | _ => none }
def fnExactReadBaseRow : OpenClaim := { program := "ytpndngnohcffnaagreat", sum := "58135d68b87f3c0eb119d48e512cd563645f42b7da63f482d058bf6323e5fe6c", func := "loop.example/g01538/laws.FnExactReadBase", spec := "fnExactReadBase", unfollowed := true, recurses := true, apart := false }
def FnExactReadBaseSaid : Prop := fnExactReadBaseRow.holds Tryz.pinned (OpenSpec.ofChange fnExactReadBaseSpec)

/-- ITS FALSE NEIGHBOUR: 'it returns false'. Refute it at one input. -/
def fnExactReadBaseWrong : ChangeSpec := { name := "fnExactReadBase", fn := fun _ => fun
  | [d] => { results := [.lit (.bool false)], args := [d] }
  | _ => none }
def FnExactReadBaseWrongFalsely : Prop := fnExactReadBaseRow.holds Tryz.pinned (OpenSpec.ofChange fnExactReadBaseWrong)

/- THE SECOND FORM. 'bulk': how many values and letters a reading holds, each counted each time it is reached (what is shared counts as often as it is met; a slice's spare places count too). A statement '..UptoSaid' is the law's where the arguments, and the package variables that the reading takes, are together of bulk at most 1048576: NARROWER than '..Said'. Prove '..Said' where nothing that the law and all that it calls make is longer than what came in: it says more and counts as full. Else prove '..UptoSaid'. A law counts once. -/
mutual
def uptoBulk {H : Type} : DataW H → Nat
  | .lit (.string bytes) => bytes.length + 1
  | .lit _ => 1
  | .nil => 1
  | .ptr d => uptoBulk d + 1
  | .slice elems spare => uptoBulkAll elems + uptoBulkAll spare + 1
  | .agg parts => uptoBulkAll parts + 1
  | .iface _ d => uptoBulk d + 1
  | .map entries => uptoBulkEntries entries + 1
  | .held _ => 1
def uptoBulkAll {H : Type} : List (DataW H) → Nat
  | [] => 0
  | d :: r => uptoBulk d + uptoBulkAll r
def uptoBulkEntries {H : Type} : List (Lit × DataW H) → Nat
  | [] => 0
  | x :: r => uptoBulkEntry x + uptoBulkEntries r
def uptoBulkEntry {H : Type} : Lit × DataW H → Nat
  | (.string bytes, d) => bytes.length + uptoBulk d + 1
  | (_, d) => uptoBulk d + 1
 end
def uptoSmall : (H : Type) → List (DataW H) → Bool := fun _ ds => decide (uptoBulkAll ds ≤ 1048576)
def OpenSpec.upto (s : _root_.Go.ChangeSpec) : _root_.Go.OpenSpec := { _root_.Go.OpenSpec.ofChange s with cond := some uptoSmall }

/-- 'laws.FnExactShowBase', WHERE WHAT IT READS IS OF BULK AT MOST 1048576: true; the input reads as it did. -/
def fnExactShowBaseUptoRow : OpenClaim := { program := "ytpndngnohcffnaagreat", sum := "58135d68b87f3c0eb119d48e512cd563645f42b7da63f482d058bf6323e5fe6c", func := "loop.example/g01538/laws.FnExactShowBase", spec := "fnExactShowBase", unfollowed := true, recurses := true, apart := false, narrowed := true }
def FnExactShowBaseUptoSaid : Prop := fnExactShowBaseUptoRow.holds Tryz.pinned (OpenSpec.upto fnExactShowBaseSpec)

/-- 'laws.FnExactReadBase', WHERE WHAT IT READS IS OF BULK AT MOST 1048576: true; the input reads as it did. -/
def fnExactReadBaseUptoRow : OpenClaim := { program := "ytpndngnohcffnaagreat", sum := "58135d68b87f3c0eb119d48e512cd563645f42b7da63f482d058bf6323e5fe6c", func := "loop.example/g01538/laws.FnExactReadBase", spec := "fnExactReadBase", unfollowed := true, recurses := true, apart := false, narrowed := true }
def FnExactReadBaseUptoSaid : Prop := fnExactReadBaseUptoRow.holds Tryz.pinned (OpenSpec.upto fnExactReadBaseSpec)

end Rows
end Go.Proofs.YtpndngnohcffnaaGreat
