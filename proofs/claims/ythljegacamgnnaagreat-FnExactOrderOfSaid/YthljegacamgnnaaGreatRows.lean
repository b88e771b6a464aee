/-
  No cell of these rows narrows 'for every input' (looked for: loops, veiled, ifaces, maps, wideKeys, modest, calm, conditions, laid).
  DERIVED. THE GIVEN ROWS OF THIS SEAT. 9 by the template 'for every input the law returns true; each argument reads behind the call as it read before'; 0 by the template 'total and deterministic' (their statements: YthljegacamgnnaaGreatTotals.lean).
  GIVEN WITH THE SEED: the statements are not yours to turn. If you find one false, say at which input.
  Laid BY PROGRAM, IN A SANDBOX (cutbox-rows.mjs): the forced cells as the released guide's own fill.sh prints them over the translation 1ce8d3b087aee97e… (all of the seat's roots in one cut). By AI agents, Wed Nov 11 2026. No macro, syntax, notation, axiom, sorry.
-/
import Derived.Test.YthljegacamgnnaaGreatChecked
import GoSem.Claim
import GoSem.ClaimJoined
import GoSem.ClaimMapViews
import Derived.JoinedTies
import Derived.KernelRfl
namespace Go.Proofs.YthljegacamgnnaaGreat
/- THE CELL 'sum', in the pinned program and in every row, IS THE sha256 OF THE DUMP (.gsa) THAT YthljegacamgnnaaGreatProg.lean LOADS. Nothing in Lean hashes anything: it is a label: what it is worth is what the hold of that sum in a sandbox is worth. -/
noncomputable def Tryz.pinned : Pinned := { name := "ythljegacamgnnaagreat", sum := "1ce8d3b087aee97ec8708adfe1f157555d2eb79185284811a4b52ef3ffd75965", checked := Tryz.checked }
namespace Rows
def none {H : Type} : Left H := { results := [], args := [] }

/-- 'laws.FnExactHeldTotal': WHATEVER THE INPUT: true; the input reads as it did. -/
def fnExactHeldTotalSpec : ChangeSpec := { name := "fnExactHeldTotal", fn := fun _ => fun
  | [d1, d2] => { results := [.lit (.bool true)], args := [d1, d2] }
  | _ => none }
def fnExactHeldTotalRow : OpenClaim := { program := "ythljegacamgnnaagreat", sum := "1ce8d3b087aee97ec8708adfe1f157555d2eb79185284811a4b52ef3ffd75965", func := "loop.example/g00203/laws.FnExactHeldTotal", spec := "fnExactHeldTotal", unfollowed := true, recurses := true, plainKeys := false, apart := false }
def FnExactHeldTotalSaid : Prop := fnExactHeldTotalRow.holds Tryz.pinned (OpenSpec.ofChange fnExactHeldTotalSpec)

/-- ITS FALSE NEIGHBOUR: 'it returns false'. Refute it at one input. -/
def fnExactHeldTotalWrong : ChangeSpec := { name := "fnExactHeldTotal", fn := fun _ => fun
  | [d1, d2] => { results := [.lit (.bool false)], args := [d1, d2] }
  | _ => none }
def FnExactHeldTotalWrongFalsely : Prop := fnExactHeldTotalRow.holds Tryz.pinned (OpenSpec.ofChange fnExactHeldTotalWrong)

/-- 'laws.FnExactSettledAt': WHATEVER THE INPUT: true; the input reads as it did. -/
def fnExactSettledAtSpec : ChangeSpec := { name := "fnExactSettledAt", fn := fun _ => fun
  | [d1, d2] => { results := [.lit (.bool true)], args := [d1, d2] }
  | _ => none }
def fnExactSettledAtRow : OpenClaim := { program := "ythljegacamgnnaagreat", sum := "1ce8d3b087aee97ec8708adfe1f157555d2eb79185284811a4b52ef3ffd75965", func := "loop.example/g00203/laws.FnExactSettledAt", spec := "fnExactSettledAt", unfollowed := true, recurses := true, plainKeys := false, apart := false }
def FnExactSettledAtSaid : Prop := fnExactSettledAtRow.holds Tryz.pinned (OpenSpec.ofChange fnExactSettledAtSpec)

/-- ITS FALSE NEIGHBOUR: 'it returns false'. Refute it at one input. -/
def fnExactSettledAtWrong : ChangeSpec := { name := "fnExactSettledAt", fn := fun _ => fun
  | [d1, d2] => { results := [.lit (.bool false)], args := [d1, d2] }
  | _ => none }
def FnExactSettledAtWrongFalsely : Prop := fnExactSettledAtRow.holds Tryz.pinned (OpenSpec.ofChange fnExactSettledAtWrong)

/-- 'laws.FnExactRoundsFor': WHATEVER THE INPUT: true; the input reads as it did. -/
def fnExactRoundsForSpec : ChangeSpec := { name := "fnExactRoundsFor", fn := fun _ => fun
  | [d] => { results := [.lit (.bool true)], args := [d] }
  | _ => none }
def fnExactRoundsForRow : OpenClaim := { program := "ythljegacamgnnaagreat", sum := "1ce8d3b087aee97ec8708adfe1f157555d2eb79185284811a4b52ef3ffd75965", func := "loop.example/g00203/laws.FnExactRoundsFor", spec := "fnExactRoundsFor", unfollowed := true, recurses := true, plainKeys := false, apart := false }
def FnExactRoundsForSaid : Prop := fnExactRoundsForRow.holds Tryz.pinned (OpenSpec.ofChange fnExactRoundsForSpec)

/-- ITS FALSE NEIGHBOUR: 'it returns false'. Refute it at one input. -/
def fnExactRoundsForWrong : ChangeSpec := { name := "fnExactRoundsFor", fn := fun _ => fun
  | [d] => { results := [.lit (.bool false)], args := [d] }
  | _ => none }
def FnExactRoundsForWrongFalsely : Prop := fnExactRoundsForRow.holds Tryz.pinned (OpenSpec.ofChange fnExactRoundsForWrong)

/-- 'laws.FnExactBooksBalance': WHATEVER THE INPUT: true; the input reads as it did. -/
def fnExactBooksBalanceSpec : ChangeSpec := { name := "fnExactBooksBalance", fn := fun _ => fun
  | [d1, d2] => { results := [.lit (.bool true)], args := [d1, d2] }
  | _ => none }
def fnExactBooksBalanceRow : OpenClaim := { program := "ythljegacamgnnaagreat", sum := "1ce8d3b087aee97ec8708adfe1f157555d2eb79185284811a4b52ef3ffd75965", func := "loop.example/g00203/laws.FnExactBooksBalance", spec := "fnExactBooksBalance", unfollowed := true, recurses := true, plainKeys := false, apart := false }
def FnExactBooksBalanceSaid : Prop := fnExactBooksBalanceRow.holds Tryz.pinned (OpenSpec.ofChange fnExactBooksBalanceSpec)

/-- ITS FALSE NEIGHBOUR: 'it returns false'. Refute it at one input. -/
def fnExactBooksBalanceWrong : ChangeSpec := { name := "fnExactBooksBalance", fn := fun _ => fun
  | [d1, d2] => { results := [.lit (.bool false)], args := [d1, d2] }
  | _ => none }
def FnExactBooksBalanceWrongFalsely : Prop := fnExactBooksBalanceRow.holds Tryz.pinned (OpenSpec.ofChange fnExactBooksBalanceWrong)

/-- 'laws.FnExactStatementOf': WHATEVER THE INPUT: true; the input reads as it did. -/
def fnExactStatementOfSpec : ChangeSpec := { name := "fnExactStatementOf", fn := fun _ => fun
  | [d1, d2, d3] => { results := [.lit (.bool true)], args := [d1, d2, d3] }
  | _ => none }
def fnExactStatementOfRow : OpenClaim := { program := "ythljegacamgnnaagreat", sum := "1ce8d3b087aee97ec8708adfe1f157555d2eb79185284811a4b52ef3ffd75965", func := "loop.example/g00203/laws.FnExactStatementOf", spec := "fnExactStatementOf", unfollowed := true, recurses := true, plainKeys := false, apart := false }
def FnExactStatementOfSaid : Prop := fnExactStatementOfRow.holds Tryz.pinned (OpenSpec.ofChange fnExactStatementOfSpec)

/-- ITS FALSE NEIGHBOUR: 'it returns false'. Refute it at one input. -/
def fnExactStatementOfWrong : ChangeSpec := { name := "fnExactStatementOf", fn := fun _ => fun
  | [d1, d2, d3] => { results := [.lit (.bool false)], args := [d1, d2, d3] }
  | _ => none }
def FnExactStatementOfWrongFalsely : Prop := fnExactStatementOfRow.holds Tryz.pinned (OpenSpec.ofChange fnExactStatementOfWrong)

/-- 'laws.FnExactDoneOf': WHATEVER THE INPUT: true; the input reads as it did. -/
def fnExactDoneOfSpec : ChangeSpec := { name := "fnExactDoneOf", fn := fun _ => fun
  | [d] => { results := [.lit (.bool true)], args := [d] }
  | _ => none }
def fnExactDoneOfRow : OpenClaim := { program := "ythljegacamgnnaagreat", sum := "1ce8d3b087aee97ec8708adfe1f157555d2eb79185284811a4b52ef3ffd75965", func := "loop.example/g00203/laws.FnExactDoneOf", spec := "fnExactDoneOf", unfollowed := true, recurses := true, plainKeys := false, apart := false }
def FnExactDoneOfSaid : Prop := fnExactDoneOfRow.holds Tryz.pinned (OpenSpec.ofChange fnExactDoneOfSpec)

/-- ITS FALSE NEIGHBOUR: 'it returns false'. Refute it at one input. -/
def fnExactDoneOfWrong : ChangeSpec := { name := "fnExactDoneOf", fn := fun _ => fun
  | [d] => { results := [.lit (.bool false)], args := [d] }
  | _ => none }
def FnExactDoneOfWrongFalsely : Prop := fnExactDoneOfRow.holds Tryz.pinned (OpenSpec.ofChange fnExactDoneOfWrong)

/-- 'laws.FnExactOpenOf': WHATEVER THE INPUT: true; the input reads as it did. -/
def fnExactOpenOfSpec : ChangeSpec := { name := "fnExactOpenOf", fn := fun _ => fun
  | [d] => { results := [.lit (.bool true)], args := [d] }
  | _ => none }
def fnExactOpenOfRow : OpenClaim := { program := "ythljegacamgnnaagreat", sum := "1ce8d3b087aee97ec8708adfe1f157555d2eb79185284811a4b52ef3ffd75965", func := "loop.example/g00203/laws.FnExactOpenOf", spec := "fnExactOpenOf", unfollowed := true, recurses := true, plainKeys := false, apart := false }
def FnExactOpenOfSaid : Prop := fnExactOpenOfRow.holds Tryz.pinned (OpenSpec.ofChange fnExactOpenOfSpec)

/-- ITS FALSE NEIGHBOUR: 'it returns false'. Refute it at one input. -/
def fnExactOpenOfWrong : ChangeSpec := { name := "fnExactOpenOf", fn := fun _ => fun
  | [d] => { results := [.lit (.bool false)], args := [d] }
  | _ => none }
def FnExactOpenOfWrongFalsely : Prop := fnExactOpenOfRow.holds Tryz.pinned (OpenSpec.ofChange fnExactOpenOfWrong)

/-- 'laws.FnExactLedgerOf': WHATEVER THE INPUT: true; the input reads as it did. -/
def fnExactLedgerOfSpec : ChangeSpec := { name := "fnExactLedgerOf", fn := fun _ => fun
  | [d] => { results := [.lit (.bool true)], args := [d] }
  | _ => none }
def fnExactLedgerOfRow : OpenClaim := { program := "ythljegacamgnnaagreat", sum := "1ce8d3b087aee97ec8708adfe1f157555d2eb79185284811a4b52ef3ffd75965", func := "loop.example/g00203/laws.FnExactLedgerOf", spec := "fnExactLedgerOf", unfollowed := true, recurses := true, plainKeys := false, apart := false }
def FnExactLedgerOfSaid : Prop := fnExactLedgerOfRow.holds Tryz.pinned (OpenSpec.ofChange fnExactLedgerOfSpec)

/-- ITS FALSE NEIGHBOUR: 'it returns false'. Refute it at one input. -/
def fnExactLedgerOfWrong : ChangeSpec := { name := "fnExactLedgerOf", fn := fun _ => fun
  | [d] => { results := [.lit (.bool false)], args := [d] }
  | _ => none }
def FnExactLedgerOfWrongFalsely : Prop := fnExactLedgerOfRow.holds Tryz.pinned (OpenSpec.ofChange fnExactLedgerOfWrong)

/-- 'laws.FnExactOrderOf': WHATEVER THE INPUT: true; the input reads as it did. -/
def fnExactOrderOfSpec : ChangeSpec := { name := "fnExactOrderOf", fn := fun _ => fun
  | [d] => { results := [.lit (.bool true)], args := [d] }
  | _ => none }
def fnExactOrderOfRow : OpenClaim := { program := "ythljegacamgnnaagreat", sum := "1ce8d3b087aee97ec8708adfe1f157555d2eb79185284811a4b52ef3ffd75965", func := "loop.example/g00203/laws.FnExactOrderOf", spec := "fnExactOrderOf", unfollowed := true, recurses := true, plainKeys := false, apart := false }
def FnExactOrderOfSaid : Prop := fnExactOrderOfRow.holds Tryz.pinned (OpenSpec.ofChange fnExactOrderOfSpec)

/-- ITS FALSE NEIGHBOUR: 'it returns false'. Refute it at one input. -/
def fnExactOrderOfWrong : ChangeSpec := { name := "fnExactOrderOf", fn := fun _ => fun
  | [d] => { results := [.lit (.bool false)], args := [d] }
  | _ => none }
def FnExactOrderOfWrongFalsely : Prop := fnExactOrderOfRow.holds Tryz.pinned (OpenSpec.ofChange fnExactOrderOfWrong)

/- THE SECOND FORM. 'bulk': how many values and letters a reading holds, each counted each time it is reached (what is shared counts as often as it is met; a slice's spare places count too). A statement '..UptoSaid' is the law's where the arguments, and the package variables that the reading takes, are together of bulk at most 1048576: NARROWER than '..Said'. Prove '..Said' where nothing that the law and all that it calls make is longer than what came in: it says more and counts as full. Else prove '..UptoSaid'. A law counts once. -/
mutual
def uptoBulk {H : Type} : DataW H → Nat
  | .lit (.string bytes) => bytes.length + 1
  | .lit _ => 1
  | .nil => 1
  | .ptr d => uptoBulk d + 1
  | .slice elems spare => uptoBulkAll elems + uptoBulkAll spare + 1
  | .agg parts => uptoBulkAll parts + 1
  | .iface _ d => uptoBulk d + 1
  | .map entries => uptoBulkEntries entries + 1
  | .held _ => 1
def uptoBulkAll {H : Type} : List (DataW H) → Nat
  | [] => 0
  | d :: r => uptoBulk d + uptoBulkAll r
def uptoBulkEntries {H : Type} : List (Lit × DataW H) → Nat
  | [] => 0
  | x :: r => uptoBulkEntry x + uptoBulkEntries r
def uptoBulkEntry {H : Type} : Lit × DataW H → Nat
  | (.string bytes, d) => bytes.length + uptoBulk d + 1
  | (_, d) => uptoBulk d + 1
 end
def uptoSmall : (H : Type) → List (DataW H) → Bool := fun _ ds => decide (uptoBulkAll ds ≤ 1048576)
def OpenSpec.upto (s : _root_.Go.ChangeSpec) : _root_.Go.OpenSpec := { _root_.Go.OpenSpec.ofChange s with cond := some uptoSmall }

/-- 'laws.FnExactHeldTotal', WHERE WHAT IT READS IS OF BULK AT MOST 1048576: true; the input reads as it did. -/
def fnExactHeldTotalUptoRow : OpenClaim := { program := "ythljegacamgnnaagreat", sum := "1ce8d3b087aee97ec8708adfe1f157555d2eb79185284811a4b52ef3ffd75965", func := "loop.example/g00203/laws.FnExactHeldTotal", spec := "fnExactHeldTotal", unfollowed := true, recurses := true, plainKeys := false, apart := false, narrowed := true }
def FnExactHeldTotalUptoSaid : Prop := fnExactHeldTotalUptoRow.holds Tryz.pinned (OpenSpec.upto fnExactHeldTotalSpec)

/-- 'laws.FnExactSettledAt', WHERE WHAT IT READS IS OF BULK AT MOST 1048576: true; the input reads as it did. -/
def fnExactSettledAtUptoRow : OpenClaim := { program := "ythljegacamgnnaagreat", sum := "1ce8d3b087aee97ec8708adfe1f157555d2eb79185284811a4b52ef3ffd75965", func := "loop.example/g00203/laws.FnExactSettledAt", spec := "fnExactSettledAt", unfollowed := true, recurses := true, plainKeys := false, apart := false, narrowed := true }
def FnExactSettledAtUptoSaid : Prop := fnExactSettledAtUptoRow.holds Tryz.pinned (OpenSpec.upto fnExactSettledAtSpec)

/-- 'laws.FnExactRoundsFor', WHERE WHAT IT READS IS OF BULK AT MOST 1048576: true; the input reads as it did. -/
def fnExactRoundsForUptoRow : OpenClaim := { program := "ythljegacamgnnaagreat", sum := "1ce8d3b087aee97ec8708adfe1f157555d2eb79185284811a4b52ef3ffd75965", func := "loop.example/g00203/laws.FnExactRoundsFor", spec := "fnExactRoundsFor", unfollowed := true, recurses := true, plainKeys := false, apart := false, narrowed := true }
def FnExactRoundsForUptoSaid : Prop := fnExactRoundsForUptoRow.holds Tryz.pinned (OpenSpec.upto fnExactRoundsForSpec)

/-- 'laws.FnExactBooksBalance', WHERE WHAT IT READS IS OF BULK AT MOST 1048576: true; the input reads as it did. -/
def fnExactBooksBalanceUptoRow : OpenClaim := { program := "ythljegacamgnnaagreat", sum := "1ce8d3b087aee97ec8708adfe1f157555d2eb79185284811a4b52ef3ffd75965", func := "loop.example/g00203/laws.FnExactBooksBalance", spec := "fnExactBooksBalance", unfollowed := true, recurses := true, plainKeys := false, apart := false, narrowed := true }
def FnExactBooksBalanceUptoSaid : Prop := fnExactBooksBalanceUptoRow.holds Tryz.pinned (OpenSpec.upto fnExactBooksBalanceSpec)

/-- 'laws.FnExactStatementOf', WHERE WHAT IT READS IS OF BULK AT MOST 1048576: true; the input reads as it did. -/
def fnExactStatementOfUptoRow : OpenClaim := { program := "ythljegacamgnnaagreat", sum := "1ce8d3b087aee97ec8708adfe1f157555d2eb79185284811a4b52ef3ffd75965", func := "loop.example/g00203/laws.FnExactStatementOf", spec := "fnExactStatementOf", unfollowed := true, recurses := true, plainKeys := false, apart := false, narrowed := true }
def FnExactStatementOfUptoSaid : Prop := fnExactStatementOfUptoRow.holds Tryz.pinned (OpenSpec.upto fnExactStatementOfSpec)

/-- 'laws.FnExactDoneOf', WHERE WHAT IT READS IS OF BULK AT MOST 1048576: true; the input reads as it did. -/
def fnExactDoneOfUptoRow : OpenClaim := { program := "ythljegacamgnnaagreat", sum := "1ce8d3b087aee97ec8708adfe1f157555d2eb79185284811a4b52ef3ffd75965", func := "loop.example/g00203/laws.FnExactDoneOf", spec := "fnExactDoneOf", unfollowed := true, recurses := true, plainKeys := false, apart := false, narrowed := true }
def FnExactDoneOfUptoSaid : Prop := fnExactDoneOfUptoRow.holds Tryz.pinned (OpenSpec.upto fnExactDoneOfSpec)

/-- 'laws.FnExactOpenOf', WHERE WHAT IT READS IS OF BULK AT MOST 1048576: true; the input reads as it did. -/
def fnExactOpenOfUptoRow : OpenClaim := { program := "ythljegacamgnnaagreat", sum := "1ce8d3b087aee97ec8708adfe1f157555d2eb79185284811a4b52ef3ffd75965", func := "loop.example/g00203/laws.FnExactOpenOf", spec := "fnExactOpenOf", unfollowed := true, recurses := true, plainKeys := false, apart := false, narrowed := true }
def FnExactOpenOfUptoSaid : Prop := fnExactOpenOfUptoRow.holds Tryz.pinned (OpenSpec.upto fnExactOpenOfSpec)

/-- 'laws.FnExactLedgerOf', WHERE WHAT IT READS IS OF BULK AT MOST 1048576: true; the input reads as it did. -/
def fnExactLedgerOfUptoRow : OpenClaim := { program := "ythljegacamgnnaagreat", sum := "1ce8d3b087aee97ec8708adfe1f157555d2eb79185284811a4b52ef3ffd75965", func := "loop.example/g00203/laws.FnExactLedgerOf", spec := "fnExactLedgerOf", unfollowed := true, recurses := true, plainKeys := false, apart := false, narrowed := true }
def FnExactLedgerOfUptoSaid : Prop := fnExactLedgerOfUptoRow.holds Tryz.pinned (OpenSpec.upto fnExactLedgerOfSpec)

/-- 'laws.FnExactOrderOf', WHERE WHAT IT READS IS OF BULK AT MOST 1048576: true; the input reads as it did. -/
def fnExactOrderOfUptoRow : OpenClaim := { program := "ythljegacamgnnaagreat", sum := "1ce8d3b087aee97ec8708adfe1f157555d2eb79185284811a4b52ef3ffd75965", func := "loop.example/g00203/laws.FnExactOrderOf", spec := "fnExactOrderOf", unfollowed := true, recurses := true, plainKeys := false, apart := false, narrowed := true }
def FnExactOrderOfUptoSaid : Prop := fnExactOrderOfUptoRow.holds Tryz.pinned (OpenSpec.upto fnExactOrderOfSpec)

end Rows
end Go.Proofs.YthljegacamgnnaaGreat
