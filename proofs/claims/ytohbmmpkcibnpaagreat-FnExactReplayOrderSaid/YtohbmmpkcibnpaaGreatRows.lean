/-
  No cell of these rows narrows 'for every input' (looked for: loops, veiled, ifaces, maps, wideKeys, modest, calm, conditions, laid).
  DERIVED. THE GIVEN ROWS OF THIS SEAT. 6 by the template 'for every input the law returns true; each argument reads behind the call as it read before'; 0 by the template 'total and deterministic' (their statements: YtohbmmpkcibnpaaGreatTotals.lean).
  GIVEN WITH THE SEED: the statements are not yours to turn. If you find one false, say at which input.
  Laid BY PROGRAM, IN A SANDBOX (cutbox-rows.mjs): the forced cells as the released guide's own fill.sh prints them over the translation 7055ce639cb7490c… (all of the seat's roots in one cut). By AI agents, Wed Nov 11 2026. No macro, syntax, notation, axiom, sorry.
-/
import Derived.Test.YtohbmmpkcibnpaaGreatChecked
import GoSem.Claim
import GoSem.ClaimJoined
import GoSem.ClaimMapViews
import Derived.JoinedTies
import Derived.KernelRfl
namespace Go.Proofs.YtohbmmpkcibnpaaGreat
/- THE CELL 'sum', in the pinned program and in every row, IS THE sha256 OF THE DUMP (.gsa) THAT YtohbmmpkcibnpaaGreatProg.lean LOADS. Nothing in Lean hashes anything: it is a label: what it is worth is what the hold of that sum in a sandbox is worth. -/
noncomputable def Tryz.pinned : Pinned := { name := "ytohbmmpkcibnpaagreat", sum := "7055ce639cb7490c185d9c6fb1eb6004bd035e2745e1c7a79702125d1b1b4043", checked := Tryz.checked }
namespace Rows
def none {H : Type} : Left H := { results := [], args := [] }

/-- 'laws.FnExactOutcomeAt': WHATEVER THE INPUT: true; the input reads as it did. -/
def fnExactOutcomeAtSpec : ChangeSpec := { name := "fnExactOutcomeAt", fn := fun _ => fun
  | [d1, d2] => { results := [.lit (.bool true)], args := [d1, d2] }
  | _ => none }
def fnExactOutcomeAtRow : OpenClaim := { program := "ytohbmmpkcibnpaagreat", sum := "7055ce639cb7490c185d9c6fb1eb6004bd035e2745e1c7a79702125d1b1b4043", func := "loop.example/g00203/laws.FnExactOutcomeAt", spec := "fnExactOutcomeAt", unfollowed := true, recurses := true, plainKeys := false, apart := false }
def FnExactOutcomeAtSaid : Prop := fnExactOutcomeAtRow.holds Tryz.pinned (OpenSpec.ofChange fnExactOutcomeAtSpec)

/-- ITS FALSE NEIGHBOUR: 'it returns false'. Refute it at one input. -/
def fnExactOutcomeAtWrong : ChangeSpec := { name := "fnExactOutcomeAt", fn := fun _ => fun
  | [d1, d2] => { results := [.lit (.bool false)], args := [d1, d2] }
  | _ => none }
def FnExactOutcomeAtWrongFalsely : Prop := fnExactOutcomeAtRow.holds Tryz.pinned (OpenSpec.ofChange fnExactOutcomeAtWrong)

/-- 'laws.FnExactSafeCluster': WHATEVER THE INPUT: true; the input reads as it did. -/
def fnExactSafeClusterSpec : ChangeSpec := { name := "fnExactSafeCluster", fn := fun _ => fun
  | [d] => { results := [.lit (.bool true)], args := [d] }
  | _ => none }
def fnExactSafeClusterRow : OpenClaim := { program := "ytohbmmpkcibnpaagreat", sum := "7055ce639cb7490c185d9c6fb1eb6004bd035e2745e1c7a79702125d1b1b4043", func := "loop.example/g00203/laws.FnExactSafeCluster", spec := "fnExactSafeCluster", unfollowed := true, recurses := true, plainKeys := false, apart := false }
def FnExactSafeClusterSaid : Prop := fnExactSafeClusterRow.holds Tryz.pinned (OpenSpec.ofChange fnExactSafeClusterSpec)

/-- ITS FALSE NEIGHBOUR: 'it returns false'. Refute it at one input. -/
def fnExactSafeClusterWrong : ChangeSpec := { name := "fnExactSafeCluster", fn := fun _ => fun
  | [d] => { results := [.lit (.bool false)], args := [d] }
  | _ => none }
def FnExactSafeClusterWrongFalsely : Prop := fnExactSafeClusterRow.holds Tryz.pinned (OpenSpec.ofChange fnExactSafeClusterWrong)

/-- 'laws.FnExactStatusAs': WHATEVER THE INPUT: true; the input reads as it did. -/
def fnExactStatusAsSpec : ChangeSpec := { name := "fnExactStatusAs", fn := fun _ => fun
  | [d1, d2, d3, d4] => { results := [.lit (.bool true)], args := [d1, d2, d3, d4] }
  | _ => none }
def fnExactStatusAsRow : OpenClaim := { program := "ytohbmmpkcibnpaagreat", sum := "7055ce639cb7490c185d9c6fb1eb6004bd035e2745e1c7a79702125d1b1b4043", func := "loop.example/g00203/laws.FnExactStatusAs", spec := "fnExactStatusAs", unfollowed := true, recurses := true, plainKeys := false, apart := false }
def FnExactStatusAsSaid : Prop := fnExactStatusAsRow.holds Tryz.pinned (OpenSpec.ofChange fnExactStatusAsSpec)

/-- ITS FALSE NEIGHBOUR: 'it returns false'. Refute it at one input. -/
def fnExactStatusAsWrong : ChangeSpec := { name := "fnExactStatusAs", fn := fun _ => fun
  | [d1, d2, d3, d4] => { results := [.lit (.bool false)], args := [d1, d2, d3, d4] }
  | _ => none }
def FnExactStatusAsWrongFalsely : Prop := fnExactStatusAsRow.holds Tryz.pinned (OpenSpec.ofChange fnExactStatusAsWrong)

/-- 'laws.FnExactReplayOrder': WHATEVER THE INPUT: true; the input reads as it did. -/
def fnExactReplayOrderSpec : ChangeSpec := { name := "fnExactReplayOrder", fn := fun _ => fun
  | [d1, d2] => { results := [.lit (.bool true)], args := [d1, d2] }
  | _ => none }
def fnExactReplayOrderRow : OpenClaim := { program := "ytohbmmpkcibnpaagreat", sum := "7055ce639cb7490c185d9c6fb1eb6004bd035e2745e1c7a79702125d1b1b4043", func := "loop.example/g00203/laws.FnExactReplayOrder", spec := "fnExactReplayOrder", inPlace := ["slices.overlaps[loop.example/g00203/impl.Balance]"], unfollowed := true, recurses := true, plainKeys := false, apart := false }
def FnExactReplayOrderSaid : Prop := fnExactReplayOrderRow.holds Tryz.pinned (OpenSpec.ofChange fnExactReplayOrderSpec)

/-- ITS FALSE NEIGHBOUR: 'it returns false'. Refute it at one input. -/
def fnExactReplayOrderWrong : ChangeSpec := { name := "fnExactReplayOrder", fn := fun _ => fun
  | [d1, d2] => { results := [.lit (.bool false)], args := [d1, d2] }
  | _ => none }
def FnExactReplayOrderWrongFalsely : Prop := fnExactReplayOrderRow.holds Tryz.pinned (OpenSpec.ofChange fnExactReplayOrderWrong)

/-- 'laws.FnExactSubmitContract': WHATEVER THE INPUT: true; the input reads as it did. -/
def fnExactSubmitContractSpec : ChangeSpec := { name := "fnExactSubmitContract", fn := fun _ => fun
  | [d1, d2] => { results := [.lit (.bool true)], args := [d1, d2] }
  | _ => none }
def fnExactSubmitContractRow : OpenClaim := { program := "ytohbmmpkcibnpaagreat", sum := "7055ce639cb7490c185d9c6fb1eb6004bd035e2745e1c7a79702125d1b1b4043", func := "loop.example/g00203/laws.FnExactSubmitContract", spec := "fnExactSubmitContract", unfollowed := true, recurses := true, plainKeys := false, apart := false }
def FnExactSubmitContractSaid : Prop := fnExactSubmitContractRow.holds Tryz.pinned (OpenSpec.ofChange fnExactSubmitContractSpec)

/-- ITS FALSE NEIGHBOUR: 'it returns false'. Refute it at one input. -/
def fnExactSubmitContractWrong : ChangeSpec := { name := "fnExactSubmitContract", fn := fun _ => fun
  | [d1, d2] => { results := [.lit (.bool false)], args := [d1, d2] }
  | _ => none }
def FnExactSubmitContractWrongFalsely : Prop := fnExactSubmitContractRow.holds Tryz.pinned (OpenSpec.ofChange fnExactSubmitContractWrong)

/-- 'laws.FnExactTickLeader': WHATEVER THE INPUT: true; the input reads as it did. -/
def fnExactTickLeaderSpec : ChangeSpec := { name := "fnExactTickLeader", fn := fun _ => fun
  | [d1, d2, d3] => { results := [.lit (.bool true)], args := [d1, d2, d3] }
  | _ => none }
def fnExactTickLeaderRow : OpenClaim := { program := "ytohbmmpkcibnpaagreat", sum := "7055ce639cb7490c185d9c6fb1eb6004bd035e2745e1c7a79702125d1b1b4043", func := "loop.example/g00203/laws.FnExactTickLeader", spec := "fnExactTickLeader", inPlace := ["slices.overlaps[loop.example/g00203/impl.Try]"], unfollowed := true, recurses := true, plainKeys := false, apart := false }
def FnExactTickLeaderSaid : Prop := fnExactTickLeaderRow.holds Tryz.pinned (OpenSpec.ofChange fnExactTickLeaderSpec)

/-- ITS FALSE NEIGHBOUR: 'it returns false'. Refute it at one input. -/
def fnExactTickLeaderWrong : ChangeSpec := { name := "fnExactTickLeader", fn := fun _ => fun
  | [d1, d2, d3] => { results := [.lit (.bool false)], args := [d1, d2, d3] }
  | _ => none }
def FnExactTickLeaderWrongFalsely : Prop := fnExactTickLeaderRow.holds Tryz.pinned (OpenSpec.ofChange fnExactTickLeaderWrong)

/- THE SECOND FORM. 'bulk': how many values and letters a reading holds, each counted each time it is reached (what is shared counts as often as it is met; a slice's spare places count too). A statement '..UptoSaid' is the law's where the arguments, and the package variables that the reading takes, are together of bulk at most 1048576: NARROWER than '..Said'. Prove '..Said' where nothing that the law and all that it calls make is longer than what came in: it says more and counts as full. Else prove '..UptoSaid'. A law counts once. -/
mutual
def uptoBulk {H : Type} : DataW H → Nat
  | .lit (.string bytes) => bytes.length + 1
  | .lit _ => 1
  | .nil => 1
  | .ptr d => uptoBulk d + 1
  | .slice elems spare => uptoBulkAll elems + uptoBulkAll spare + 1
  | .agg parts => uptoBulkAll parts + 1
  | .iface _ d => uptoBulk d + 1
  | .map entries => uptoBulkEntries entries + 1
  | .held _ => 1
def uptoBulkAll {H : Type} : List (DataW H) → Nat
  | [] => 0
  | d :: r => uptoBulk d + uptoBulkAll r
def uptoBulkEntries {H : Type} : List (Lit × DataW H) → Nat
  | [] => 0
  | x :: r => uptoBulkEntry x + uptoBulkEntries r
def uptoBulkEntry {H : Type} : Lit × DataW H → Nat
  | (.string bytes, d) => bytes.length + uptoBulk d + 1
  | (_, d) => uptoBulk d + 1
 end
def uptoSmall : (H : Type) → List (DataW H) → Bool := fun _ ds => decide (uptoBulkAll ds ≤ 1048576)
def OpenSpec.upto (s : _root_.Go.ChangeSpec) : _root_.Go.OpenSpec := { _root_.Go.OpenSpec.ofChange s with cond := some uptoSmall }

/-- 'laws.FnExactOutcomeAt', WHERE WHAT IT READS IS OF BULK AT MOST 1048576: true; the input reads as it did. -/
def fnExactOutcomeAtUptoRow : OpenClaim := { program := "ytohbmmpkcibnpaagreat", sum := "7055ce639cb7490c185d9c6fb1eb6004bd035e2745e1c7a79702125d1b1b4043", func := "loop.example/g00203/laws.FnExactOutcomeAt", spec := "fnExactOutcomeAt", unfollowed := true, recurses := true, plainKeys := false, apart := false, narrowed := true }
def FnExactOutcomeAtUptoSaid : Prop := fnExactOutcomeAtUptoRow.holds Tryz.pinned (OpenSpec.upto fnExactOutcomeAtSpec)

/-- 'laws.FnExactSafeCluster', WHERE WHAT IT READS IS OF BULK AT MOST 1048576: true; the input reads as it did. -/
def fnExactSafeClusterUptoRow : OpenClaim := { program := "ytohbmmpkcibnpaagreat", sum := "7055ce639cb7490c185d9c6fb1eb6004bd035e2745e1c7a79702125d1b1b4043", func := "loop.example/g00203/laws.FnExactSafeCluster", spec := "fnExactSafeCluster", unfollowed := true, recurses := true, plainKeys := false, apart := false, narrowed := true }
def FnExactSafeClusterUptoSaid : Prop := fnExactSafeClusterUptoRow.holds Tryz.pinned (OpenSpec.upto fnExactSafeClusterSpec)

/-- 'laws.FnExactStatusAs', WHERE WHAT IT READS IS OF BULK AT MOST 1048576: true; the input reads as it did. -/
def fnExactStatusAsUptoRow : OpenClaim := { program := "ytohbmmpkcibnpaagreat", sum := "7055ce639cb7490c185d9c6fb1eb6004bd035e2745e1c7a79702125d1b1b4043", func := "loop.example/g00203/laws.FnExactStatusAs", spec := "fnExactStatusAs", unfollowed := true, recurses := true, plainKeys := false, apart := false, narrowed := true }
def FnExactStatusAsUptoSaid : Prop := fnExactStatusAsUptoRow.holds Tryz.pinned (OpenSpec.upto fnExactStatusAsSpec)

/-- 'laws.FnExactReplayOrder', WHERE WHAT IT READS IS OF BULK AT MOST 1048576: true; the input reads as it did. -/
def fnExactReplayOrderUptoRow : OpenClaim := { program := "ytohbmmpkcibnpaagreat", sum := "7055ce639cb7490c185d9c6fb1eb6004bd035e2745e1c7a79702125d1b1b4043", func := "loop.example/g00203/laws.FnExactReplayOrder", spec := "fnExactReplayOrder", inPlace := ["slices.overlaps[loop.example/g00203/impl.Balance]"], unfollowed := true, recurses := true, plainKeys := false, apart := false, narrowed := true }
def FnExactReplayOrderUptoSaid : Prop := fnExactReplayOrderUptoRow.holds Tryz.pinned (OpenSpec.upto fnExactReplayOrderSpec)

/-- 'laws.FnExactSubmitContract', WHERE WHAT IT READS IS OF BULK AT MOST 1048576: true; the input reads as it did. -/
def fnExactSubmitContractUptoRow : OpenClaim := { program := "ytohbmmpkcibnpaagreat", sum := "7055ce639cb7490c185d9c6fb1eb6004bd035e2745e1c7a79702125d1b1b4043", func := "loop.example/g00203/laws.FnExactSubmitContract", spec := "fnExactSubmitContract", unfollowed := true, recurses := true, plainKeys := false, apart := false, narrowed := true }
def FnExactSubmitContractUptoSaid : Prop := fnExactSubmitContractUptoRow.holds Tryz.pinned (OpenSpec.upto fnExactSubmitContractSpec)

/-- 'laws.FnExactTickLeader', WHERE WHAT IT READS IS OF BULK AT MOST 1048576: true; the input reads as it did. -/
def fnExactTickLeaderUptoRow : OpenClaim := { program := "ytohbmmpkcibnpaagreat", sum := "7055ce639cb7490c185d9c6fb1eb6004bd035e2745e1c7a79702125d1b1b4043", func := "loop.example/g00203/laws.FnExactTickLeader", spec := "fnExactTickLeader", inPlace := ["slices.overlaps[loop.example/g00203/impl.Try]"], unfollowed := true, recurses := true, plainKeys := false, apart := false, narrowed := true }
def FnExactTickLeaderUptoSaid : Prop := fnExactTickLeaderUptoRow.holds Tryz.pinned (OpenSpec.upto fnExactTickLeaderSpec)

end Rows
end Go.Proofs.YtohbmmpkcibnpaaGreat
