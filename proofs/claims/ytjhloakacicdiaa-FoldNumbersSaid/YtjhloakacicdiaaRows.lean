/-
  No cell of these rows narrows 'for every input' (looked for: loops, veiled, ifaces, maps, wideKeys, modest, calm, conditions, laid).
  DERIVED. THE GIVEN ROWS OF THIS SEAT. 4 by the template 'for every input the law returns true; each argument reads behind the call as it read before'; 0 by the template 'total and deterministic' (their statements: YtjhloakacicdiaaTotals.lean).
  GIVEN WITH THE SEED: the statements are not yours to turn. If you find one false, say at which input.
  Laid BY PROGRAM, IN A SANDBOX (cutbox-rows.mjs): the forced cells as the released guide's own fill.sh prints them over the translation abceb2ce94fad57e… (all of the seat's roots in one cut). By AI agents, Wed Nov 11 2026. No macro, syntax, notation, axiom, sorry.
-/
import Derived.Test.YtjhloakacicdiaaChecked
import GoSem.Claim
import GoSem.ClaimJoined
import GoSem.ClaimMapViews
import Derived.JoinedTies
import Derived.KernelRfl
namespace Go.Proofs.Ytjhloakacicdiaa
/- THE CELL 'sum', in the pinned program and in every row, IS THE sha256 OF THE DUMP (.gsa) THAT YtjhloakacicdiaaProg.lean LOADS. Nothing in Lean hashes anything: it is a label: what it is worth is what the hold of that sum in a sandbox is worth. -/
noncomputable def Try.pinned : Pinned := { name := "ytjhloakacicdiaa", sum := "abceb2ce94fad57ea6d6e03e4d841225860160d7ba216e1f5fcdd4c4fff94b1c", checked := Try.checked }
namespace Rows
def none {H : Type} : Left H := { results := [], args := [] }

/-- 'merlonlaw14.DeadWays': WHATEVER THE INPUT: true; the input reads as it did. -/
def deadWaysSpec : ChangeSpec := { name := "deadWays", fn := fun _ => fun
  | [d] => { results := [.lit (.bool true)], args := [d] }
  | _ => none }
def deadWaysRow : OpenClaim := { program := "ytjhloakacicdiaa", sum := "abceb2ce94fad57ea6d6e03e4d841225860160d7ba216e1f5fcdd4c4fff94b1c", func := "merlon/merlonlaw14.DeadWays", spec := "deadWays", unfollowed := true, recurses := true, apart := false }
def DeadWaysSaid : Prop := deadWaysRow.holds Try.pinned (OpenSpec.ofChange deadWaysSpec)

/-- ITS FALSE NEIGHBOUR: 'it returns false'. Refute it at one input. -/
def deadWaysWrong : ChangeSpec := { name := "deadWays", fn := fun _ => fun
  | [d] => { results := [.lit (.bool false)], args := [d] }
  | _ => none }
def DeadWaysWrongFalsely : Prop := deadWaysRow.holds Try.pinned (OpenSpec.ofChange deadWaysWrong)

/-- 'merlonlaw10.RtlrunFuel': WHATEVER THE INPUT: true; the input reads as it did. -/
def rtlrunFuelSpec : ChangeSpec := { name := "rtlrunFuel", fn := fun _ => fun
  | [d1, d2, d3] => { results := [.lit (.bool true)], args := [d1, d2, d3] }
  | _ => none }
def rtlrunFuelRow : OpenClaim := { program := "ytjhloakacicdiaa", sum := "abceb2ce94fad57ea6d6e03e4d841225860160d7ba216e1f5fcdd4c4fff94b1c", func := "merlon/merlonlaw10.RtlrunFuel", spec := "rtlrunFuel", recurses := true, apart := false }
def RtlrunFuelSaid : Prop := rtlrunFuelRow.holds Try.pinned (OpenSpec.ofChange rtlrunFuelSpec)

/-- ITS FALSE NEIGHBOUR: 'it returns false'. Refute it at one input. -/
def rtlrunFuelWrong : ChangeSpec := { name := "rtlrunFuel", fn := fun _ => fun
  | [d1, d2, d3] => { results := [.lit (.bool false)], args := [d1, d2, d3] }
  | _ => none }
def RtlrunFuelWrongFalsely : Prop := rtlrunFuelRow.holds Try.pinned (OpenSpec.ofChange rtlrunFuelWrong)

/-- 'merlonlaw10.RtlrunCalls': WHATEVER THE INPUT: true; the input reads as it did. -/
def rtlrunCallsSpec : ChangeSpec := { name := "rtlrunCalls", fn := fun _ => fun
  | [d] => { results := [.lit (.bool true)], args := [d] }
  | _ => none }
def rtlrunCallsRow : OpenClaim := { program := "ytjhloakacicdiaa", sum := "abceb2ce94fad57ea6d6e03e4d841225860160d7ba216e1f5fcdd4c4fff94b1c", func := "merlon/merlonlaw10.RtlrunCalls", spec := "rtlrunCalls", recurses := true, apart := false }
def RtlrunCallsSaid : Prop := rtlrunCallsRow.holds Try.pinned (OpenSpec.ofChange rtlrunCallsSpec)

/-- ITS FALSE NEIGHBOUR: 'it returns false'. Refute it at one input. -/
def rtlrunCallsWrong : ChangeSpec := { name := "rtlrunCalls", fn := fun _ => fun
  | [d] => { results := [.lit (.bool false)], args := [d] }
  | _ => none }
def RtlrunCallsWrongFalsely : Prop := rtlrunCallsRow.holds Try.pinned (OpenSpec.ofChange rtlrunCallsWrong)

/-- 'merlonlaw12.FoldNumbers': WHATEVER THE INPUT: true; the input reads as it did. -/
def foldNumbersSpec : ChangeSpec := { name := "foldNumbers", fn := fun _ => fun
  | [d] => { results := [.lit (.bool true)], args := [d] }
  | _ => none }
def foldNumbersRow : OpenClaim := { program := "ytjhloakacicdiaa", sum := "abceb2ce94fad57ea6d6e03e4d841225860160d7ba216e1f5fcdd4c4fff94b1c", func := "merlon/merlonlaw12.FoldNumbers", spec := "foldNumbers", unfollowed := true, recurses := true, apart := false }
def FoldNumbersSaid : Prop := foldNumbersRow.holds Try.pinned (OpenSpec.ofChange foldNumbersSpec)

/-- ITS FALSE NEIGHBOUR: 'it returns false'. Refute it at one input. -/
def foldNumbersWrong : ChangeSpec := { name := "foldNumbers", fn := fun _ => fun
  | [d] => { results := [.lit (.bool false)], args := [d] }
  | _ => none }
def FoldNumbersWrongFalsely : Prop := foldNumbersRow.holds Try.pinned (OpenSpec.ofChange foldNumbersWrong)

/- THE SECOND FORM. 'bulk': how many values and letters a reading holds, each counted each time it is reached (what is shared counts as often as it is met; a slice's spare places count too). A statement '..UptoSaid' is the law's where the arguments, and the package variables that the reading takes, are together of bulk at most 1048576: NARROWER than '..Said'. Prove '..Said' where nothing that the law and all that it calls make is longer than what came in: it says more and counts as full. Else prove '..UptoSaid'. A law counts once. -/
mutual
def uptoBulk {H : Type} : DataW H → Nat
  | .lit (.string bytes) => bytes.length + 1
  | .lit _ => 1
  | .nil => 1
  | .ptr d => uptoBulk d + 1
  | .slice elems spare => uptoBulkAll elems + uptoBulkAll spare + 1
  | .agg parts => uptoBulkAll parts + 1
  | .iface _ d => uptoBulk d + 1
  | .map entries => uptoBulkEntries entries + 1
  | .held _ => 1
def uptoBulkAll {H : Type} : List (DataW H) → Nat
  | [] => 0
  | d :: r => uptoBulk d + uptoBulkAll r
def uptoBulkEntries {H : Type} : List (Lit × DataW H) → Nat
  | [] => 0
  | x :: r => uptoBulkEntry x + uptoBulkEntries r
def uptoBulkEntry {H : Type} : Lit × DataW H → Nat
  | (.string bytes, d) => bytes.length + uptoBulk d + 1
  | (_, d) => uptoBulk d + 1
 end
def uptoSmall : (H : Type) → List (DataW H) → Bool := fun _ ds => decide (uptoBulkAll ds ≤ 1048576)
def OpenSpec.upto (s : _root_.Go.ChangeSpec) : _root_.Go.OpenSpec := { _root_.Go.OpenSpec.ofChange s with cond := some uptoSmall }

/-- 'merlonlaw14.DeadWays', WHERE WHAT IT READS IS OF BULK AT MOST 1048576: true; the input reads as it did. -/
def deadWaysUptoRow : OpenClaim := { program := "ytjhloakacicdiaa", sum := "abceb2ce94fad57ea6d6e03e4d841225860160d7ba216e1f5fcdd4c4fff94b1c", func := "merlon/merlonlaw14.DeadWays", spec := "deadWays", unfollowed := true, recurses := true, apart := false, narrowed := true }
def DeadWaysUptoSaid : Prop := deadWaysUptoRow.holds Try.pinned (OpenSpec.upto deadWaysSpec)

/-- 'merlonlaw10.RtlrunFuel', WHERE WHAT IT READS IS OF BULK AT MOST 1048576: true; the input reads as it did. -/
def rtlrunFuelUptoRow : OpenClaim := { program := "ytjhloakacicdiaa", sum := "abceb2ce94fad57ea6d6e03e4d841225860160d7ba216e1f5fcdd4c4fff94b1c", func := "merlon/merlonlaw10.RtlrunFuel", spec := "rtlrunFuel", recurses := true, apart := false, narrowed := true }
def RtlrunFuelUptoSaid : Prop := rtlrunFuelUptoRow.holds Try.pinned (OpenSpec.upto rtlrunFuelSpec)

/-- 'merlonlaw10.RtlrunCalls', WHERE WHAT IT READS IS OF BULK AT MOST 1048576: true; the input reads as it did. -/
def rtlrunCallsUptoRow : OpenClaim := { program := "ytjhloakacicdiaa", sum := "abceb2ce94fad57ea6d6e03e4d841225860160d7ba216e1f5fcdd4c4fff94b1c", func := "merlon/merlonlaw10.RtlrunCalls", spec := "rtlrunCalls", recurses := true, apart := false, narrowed := true }
def RtlrunCallsUptoSaid : Prop := rtlrunCallsUptoRow.holds Try.pinned (OpenSpec.upto rtlrunCallsSpec)

/-- 'merlonlaw12.FoldNumbers', WHERE WHAT IT READS IS OF BULK AT MOST 1048576: true; the input reads as it did. -/
def foldNumbersUptoRow : OpenClaim := { program := "ytjhloakacicdiaa", sum := "abceb2ce94fad57ea6d6e03e4d841225860160d7ba216e1f5fcdd4c4fff94b1c", func := "merlon/merlonlaw12.FoldNumbers", spec := "foldNumbers", unfollowed := true, recurses := true, apart := false, narrowed := true }
def FoldNumbersUptoSaid : Prop := foldNumbersUptoRow.holds Try.pinned (OpenSpec.upto foldNumbersSpec)

end Rows
end Go.Proofs.Ytjhloakacicdiaa
