/-
  No cell of these rows narrows 'for every input' (looked for: loops, veiled, ifaces, maps, wideKeys, modest, calm, conditions, laid).
  DERIVED. THE GIVEN ROWS OF THIS SEAT. 6 by the template 'for every input the law returns true; each argument reads behind the call as it read before'; 0 by the template 'total and deterministic' (their statements: YtbnbjaedijbnpaaGreatTotals.lean).
  GIVEN WITH THE SEED: the statements are not yours to turn. If you find one false, say at which input.
  Laid BY PROGRAM, IN A SANDBOX (cutbox-rows.mjs): the forced cells as the released guide's own fill.sh prints them over the translation b2934933cf16619e… (all of the seat's roots in one cut). By AI agents, Wed Nov 11 2026. No macro, syntax, notation, axiom, sorry.
-/
import Derived.Test.YtbnbjaedijbnpaaGreatChecked
import GoSem.Claim
import GoSem.ClaimJoined
import GoSem.ClaimMapViews
import Derived.JoinedTies
import Derived.KernelRfl
namespace Go.Proofs.YtbnbjaedijbnpaaGreat
/- THE CELL 'sum', in the pinned program and in every row, IS THE sha256 OF THE DUMP (.gsa) THAT YtbnbjaedijbnpaaGreatProg.lean LOADS. Nothing in Lean hashes anything: it is a label: what it is worth is what the hold of that sum in a sandbox is worth. -/
noncomputable def Tryz.pinned : Pinned := { name := "ytbnbjaedijbnpaagreat", sum := "b2934933cf16619e2c4a2b916c5c4aae690bbdb335202cadac0f2c5bbc0f9924", checked := Tryz.checked }
namespace Rows
def none {H : Type} : Left H := { results := [], args := [] }

/-- 'laws.FnExactBooksBalance': WHATEVER THE INPUT: true; the input reads as it did. -/
def fnExactBooksBalanceSpec : ChangeSpec := { name := "fnExactBooksBalance", fn := fun _ => fun
  | [d1, d2] => { results := [.lit (.bool true)], args := [d1, d2] }
  | _ => none }
def fnExactBooksBalanceRow : OpenClaim := { program := "ytbnbjaedijbnpaagreat", sum := "b2934933cf16619e2c4a2b916c5c4aae690bbdb335202cadac0f2c5bbc0f9924", func := "loop.example/g00203/laws.FnExactBooksBalance", spec := "fnExactBooksBalance", unfollowed := true, recurses := true, plainKeys := false, apart := false }
def FnExactBooksBalanceSaid : Prop := fnExactBooksBalanceRow.holds Tryz.pinned (OpenSpec.ofChange fnExactBooksBalanceSpec)

/-- ITS FALSE NEIGHBOUR: 'it returns false'. Refute it at one input. -/
def fnExactBooksBalanceWrong : ChangeSpec := { name := "fnExactBooksBalance", fn := fun _ => fun
  | [d1, d2] => { results := [.lit (.bool false)], args := [d1, d2] }
  | _ => none }
def FnExactBooksBalanceWrongFalsely : Prop := fnExactBooksBalanceRow.holds Tryz.pinned (OpenSpec.ofChange fnExactBooksBalanceWrong)

/-- 'laws.FnExactOutcomeAt': WHATEVER THE INPUT: true; the input reads as it did. -/
def fnExactOutcomeAtSpec : ChangeSpec := { name := "fnExactOutcomeAt", fn := fun _ => fun
  | [d1, d2] => { results := [.lit (.bool true)], args := [d1, d2] }
  | _ => none }
def fnExactOutcomeAtRow : OpenClaim := { program := "ytbnbjaedijbnpaagreat", sum := "b2934933cf16619e2c4a2b916c5c4aae690bbdb335202cadac0f2c5bbc0f9924", func := "loop.example/g00203/laws.FnExactOutcomeAt", spec := "fnExactOutcomeAt", unfollowed := true, recurses := true, plainKeys := false, apart := false }
def FnExactOutcomeAtSaid : Prop := fnExactOutcomeAtRow.holds Tryz.pinned (OpenSpec.ofChange fnExactOutcomeAtSpec)

/-- ITS FALSE NEIGHBOUR: 'it returns false'. Refute it at one input. -/
def fnExactOutcomeAtWrong : ChangeSpec := { name := "fnExactOutcomeAt", fn := fun _ => fun
  | [d1, d2] => { results := [.lit (.bool false)], args := [d1, d2] }
  | _ => none }
def FnExactOutcomeAtWrongFalsely : Prop := fnExactOutcomeAtRow.holds Tryz.pinned (OpenSpec.ofChange fnExactOutcomeAtWrong)

/-- 'laws.FnExactSafeCluster': WHATEVER THE INPUT: true; the input reads as it did. -/
def fnExactSafeClusterSpec : ChangeSpec := { name := "fnExactSafeCluster", fn := fun _ => fun
  | [d] => { results := [.lit (.bool true)], args := [d] }
  | _ => none }
def fnExactSafeClusterRow : OpenClaim := { program := "ytbnbjaedijbnpaagreat", sum := "b2934933cf16619e2c4a2b916c5c4aae690bbdb335202cadac0f2c5bbc0f9924", func := "loop.example/g00203/laws.FnExactSafeCluster", spec := "fnExactSafeCluster", unfollowed := true, recurses := true, plainKeys := false, apart := false }
def FnExactSafeClusterSaid : Prop := fnExactSafeClusterRow.holds Tryz.pinned (OpenSpec.ofChange fnExactSafeClusterSpec)

/-- ITS FALSE NEIGHBOUR: 'it returns false'. Refute it at one input. -/
def fnExactSafeClusterWrong : ChangeSpec := { name := "fnExactSafeCluster", fn := fun _ => fun
  | [d] => { results := [.lit (.bool false)], args := [d] }
  | _ => none }
def FnExactSafeClusterWrongFalsely : Prop := fnExactSafeClusterRow.holds Tryz.pinned (OpenSpec.ofChange fnExactSafeClusterWrong)

/-- 'laws.FnExactCopyMessage': WHATEVER THE INPUT: true; the input reads as it did. -/
def fnExactCopyMessageSpec : ChangeSpec := { name := "fnExactCopyMessage", fn := fun _ => fun
  | [d1, d2] => { results := [.lit (.bool true)], args := [d1, d2] }
  | _ => none }
def fnExactCopyMessageRow : OpenClaim := { program := "ytbnbjaedijbnpaagreat", sum := "b2934933cf16619e2c4a2b916c5c4aae690bbdb335202cadac0f2c5bbc0f9924", func := "loop.example/g00203/laws.FnExactCopyMessage", spec := "fnExactCopyMessage", unfollowed := true, recurses := true, plainKeys := false, apart := false }
def FnExactCopyMessageSaid : Prop := fnExactCopyMessageRow.holds Tryz.pinned (OpenSpec.ofChange fnExactCopyMessageSpec)

/-- ITS FALSE NEIGHBOUR: 'it returns false'. Refute it at one input. -/
def fnExactCopyMessageWrong : ChangeSpec := { name := "fnExactCopyMessage", fn := fun _ => fun
  | [d1, d2] => { results := [.lit (.bool false)], args := [d1, d2] }
  | _ => none }
def FnExactCopyMessageWrongFalsely : Prop := fnExactCopyMessageRow.holds Tryz.pinned (OpenSpec.ofChange fnExactCopyMessageWrong)

/-- 'laws.FnExactResendShard': WHATEVER THE INPUT: true; the input reads as it did. -/
def fnExactResendShardSpec : ChangeSpec := { name := "fnExactResendShard", fn := fun _ => fun
  | [d1, d2] => { results := [.lit (.bool true)], args := [d1, d2] }
  | _ => none }
def fnExactResendShardRow : OpenClaim := { program := "ytbnbjaedijbnpaagreat", sum := "b2934933cf16619e2c4a2b916c5c4aae690bbdb335202cadac0f2c5bbc0f9924", func := "loop.example/g00203/laws.FnExactResendShard", spec := "fnExactResendShard", unfollowed := true, recurses := true, plainKeys := false, apart := false }
def FnExactResendShardSaid : Prop := fnExactResendShardRow.holds Tryz.pinned (OpenSpec.ofChange fnExactResendShardSpec)

/-- ITS FALSE NEIGHBOUR: 'it returns false'. Refute it at one input. -/
def fnExactResendShardWrong : ChangeSpec := { name := "fnExactResendShard", fn := fun _ => fun
  | [d1, d2] => { results := [.lit (.bool false)], args := [d1, d2] }
  | _ => none }
def FnExactResendShardWrongFalsely : Prop := fnExactResendShardRow.holds Tryz.pinned (OpenSpec.ofChange fnExactResendShardWrong)

/-- 'laws.FnExactDropMessage': WHATEVER THE INPUT: true; the input reads as it did. -/
def fnExactDropMessageSpec : ChangeSpec := { name := "fnExactDropMessage", fn := fun _ => fun
  | [d1, d2] => { results := [.lit (.bool true)], args := [d1, d2] }
  | _ => none }
def fnExactDropMessageRow : OpenClaim := { program := "ytbnbjaedijbnpaagreat", sum := "b2934933cf16619e2c4a2b916c5c4aae690bbdb335202cadac0f2c5bbc0f9924", func := "loop.example/g00203/laws.FnExactDropMessage", spec := "fnExactDropMessage", unfollowed := true, recurses := true, plainKeys := false, apart := false }
def FnExactDropMessageSaid : Prop := fnExactDropMessageRow.holds Tryz.pinned (OpenSpec.ofChange fnExactDropMessageSpec)

/-- ITS FALSE NEIGHBOUR: 'it returns false'. Refute it at one input. -/
def fnExactDropMessageWrong : ChangeSpec := { name := "fnExactDropMessage", fn := fun _ => fun
  | [d1, d2] => { results := [.lit (.bool false)], args := [d1, d2] }
  | _ => none }
def FnExactDropMessageWrongFalsely : Prop := fnExactDropMessageRow.holds Tryz.pinned (OpenSpec.ofChange fnExactDropMessageWrong)

/- THE SECOND FORM. 'bulk': how many values and letters a reading holds, each counted each time it is reached (what is shared counts as often as it is met; a slice's spare places count too). A statement '..UptoSaid' is the law's where the arguments, and the package variables that the reading takes, are together of bulk at most 1048576: NARROWER than '..Said'. Prove '..Said' where nothing that the law and all that it calls make is longer than what came in: it says more and counts as full. Else prove '..UptoSaid'. A law counts once. -/
mutual
def uptoBulk {H : Type} : DataW H → Nat
  | .lit (.string bytes) => bytes.length + 1
  | .lit _ => 1
  | .nil => 1
  | .ptr d => uptoBulk d + 1
  | .slice elems spare => uptoBulkAll elems + uptoBulkAll spare + 1
  | .agg parts => uptoBulkAll parts + 1
  | .iface _ d => uptoBulk d + 1
  | .map entries => uptoBulkEntries entries + 1
  | .held _ => 1
def uptoBulkAll {H : Type} : List (DataW H) → Nat
  | [] => 0
  | d :: r => uptoBulk d + uptoBulkAll r
def uptoBulkEntries {H : Type} : List (Lit × DataW H) → Nat
  | [] => 0
  | x :: r => uptoBulkEntry x + uptoBulkEntries r
def uptoBulkEntry {H : Type} : Lit × DataW H → Nat
  | (.string bytes, d) => bytes.length + uptoBulk d + 1
  | (_, d) => uptoBulk d + 1
 end
def uptoSmall : (H : Type) → List (DataW H) → Bool := fun _ ds => decide (uptoBulkAll ds ≤ 1048576)
def OpenSpec.upto (s : _root_.Go.ChangeSpec) : _root_.Go.OpenSpec := { _root_.Go.OpenSpec.ofChange s with cond := some uptoSmall }

/-- 'laws.FnExactBooksBalance', WHERE WHAT IT READS IS OF BULK AT MOST 1048576: true; the input reads as it did. -/
def fnExactBooksBalanceUptoRow : OpenClaim := { program := "ytbnbjaedijbnpaagreat", sum := "b2934933cf16619e2c4a2b916c5c4aae690bbdb335202cadac0f2c5bbc0f9924", func := "loop.example/g00203/laws.FnExactBooksBalance", spec := "fnExactBooksBalance", unfollowed := true, recurses := true, plainKeys := false, apart := false, narrowed := true }
def FnExactBooksBalanceUptoSaid : Prop := fnExactBooksBalanceUptoRow.holds Tryz.pinned (OpenSpec.upto fnExactBooksBalanceSpec)

/-- 'laws.FnExactOutcomeAt', WHERE WHAT IT READS IS OF BULK AT MOST 1048576: true; the input reads as it did. -/
def fnExactOutcomeAtUptoRow : OpenClaim := { program := "ytbnbjaedijbnpaagreat", sum := "b2934933cf16619e2c4a2b916c5c4aae690bbdb335202cadac0f2c5bbc0f9924", func := "loop.example/g00203/laws.FnExactOutcomeAt", spec := "fnExactOutcomeAt", unfollowed := true, recurses := true, plainKeys := false, apart := false, narrowed := true }
def FnExactOutcomeAtUptoSaid : Prop := fnExactOutcomeAtUptoRow.holds Tryz.pinned (OpenSpec.upto fnExactOutcomeAtSpec)

/-- 'laws.FnExactSafeCluster', WHERE WHAT IT READS IS OF BULK AT MOST 1048576: true; the input reads as it did. -/
def fnExactSafeClusterUptoRow : OpenClaim := { program := "ytbnbjaedijbnpaagreat", sum := "b2934933cf16619e2c4a2b916c5c4aae690bbdb335202cadac0f2c5bbc0f9924", func := "loop.example/g00203/laws.FnExactSafeCluster", spec := "fnExactSafeCluster", unfollowed := true, recurses := true, plainKeys := false, apart := false, narrowed := true }
def FnExactSafeClusterUptoSaid : Prop := fnExactSafeClusterUptoRow.holds Tryz.pinned (OpenSpec.upto fnExactSafeClusterSpec)

/-- 'laws.FnExactCopyMessage', WHERE WHAT IT READS IS OF BULK AT MOST 1048576: true; the input reads as it did. -/
def fnExactCopyMessageUptoRow : OpenClaim := { program := "ytbnbjaedijbnpaagreat", sum := "b2934933cf16619e2c4a2b916c5c4aae690bbdb335202cadac0f2c5bbc0f9924", func := "loop.example/g00203/laws.FnExactCopyMessage", spec := "fnExactCopyMessage", unfollowed := true, recurses := true, plainKeys := false, apart := false, narrowed := true }
def FnExactCopyMessageUptoSaid : Prop := fnExactCopyMessageUptoRow.holds Tryz.pinned (OpenSpec.upto fnExactCopyMessageSpec)

/-- 'laws.FnExactResendShard', WHERE WHAT IT READS IS OF BULK AT MOST 1048576: true; the input reads as it did. -/
def fnExactResendShardUptoRow : OpenClaim := { program := "ytbnbjaedijbnpaagreat", sum := "b2934933cf16619e2c4a2b916c5c4aae690bbdb335202cadac0f2c5bbc0f9924", func := "loop.example/g00203/laws.FnExactResendShard", spec := "fnExactResendShard", unfollowed := true, recurses := true, plainKeys := false, apart := false, narrowed := true }
def FnExactResendShardUptoSaid : Prop := fnExactResendShardUptoRow.holds Tryz.pinned (OpenSpec.upto fnExactResendShardSpec)

/-- 'laws.FnExactDropMessage', WHERE WHAT IT READS IS OF BULK AT MOST 1048576: true; the input reads as it did. -/
def fnExactDropMessageUptoRow : OpenClaim := { program := "ytbnbjaedijbnpaagreat", sum := "b2934933cf16619e2c4a2b916c5c4aae690bbdb335202cadac0f2c5bbc0f9924", func := "loop.example/g00203/laws.FnExactDropMessage", spec := "fnExactDropMessage", unfollowed := true, recurses := true, plainKeys := false, apart := false, narrowed := true }
def FnExactDropMessageUptoSaid : Prop := fnExactDropMessageUptoRow.holds Tryz.pinned (OpenSpec.upto fnExactDropMessageSpec)

end Rows
end Go.Proofs.YtbnbjaedijbnpaaGreat
