/-
  No cell of these rows narrows 'for every input' (looked for: loops, veiled, ifaces, maps, wideKeys, modest, calm, conditions, laid).
  DERIVED. THE GIVEN ROWS OF THIS SEAT. 6 by the template 'for every input the law returns true; each argument reads behind the call as it read before'; 0 by the template 'total and deterministic' (their statements: YtjdiongbbijdpaaGreatTotals.lean).
  GIVEN WITH THE SEED: the statements are not yours to turn. If you find one false, say at which input.
  Laid BY PROGRAM, IN A SANDBOX (cutbox-rows.mjs): the forced cells as the released guide's own fill.sh prints them over the translation e21960f4a22fff9c… (all of the seat's roots in one cut). By AI agents, Wed Nov 11 2026. No macro, syntax, notation, axiom, sorry.
-/
import Derived.Test.YtjdiongbbijdpaaGreatChecked
import GoSem.Claim
import GoSem.ClaimJoined
import GoSem.ClaimMapViews
import Derived.JoinedTies
import Derived.KernelRfl
namespace Go.Proofs.YtjdiongbbijdpaaGreat
/- THE CELL 'sum', in the pinned program and in every row, IS THE sha256 OF THE DUMP (.gsa) THAT YtjdiongbbijdpaaGreatProg.lean LOADS. Nothing in Lean hashes anything: it is a label: what it is worth is what the hold of that sum in a sandbox is worth. -/
noncomputable def Tryz.pinned : Pinned := { name := "ytjdiongbbijdpaagreat", sum := "e21960f4a22fff9ccee19dc6a87176e354782253af120541bfcc1a2ab8d6d809", checked := Tryz.checked }
namespace Rows
def none {H : Type} : Left H := { results := [], args := [] }

/-- 'laws.FnExactSubmitContract': WHATEVER THE INPUT: true; the input reads as it did. -/
def fnExactSubmitContractSpec : ChangeSpec := { name := "fnExactSubmitContract", fn := fun _ => fun
  | [d1, d2] => { results := [.lit (.bool true)], args := [d1, d2] }
  | _ => none }
def fnExactSubmitContractRow : OpenClaim := { program := "ytjdiongbbijdpaagreat", sum := "e21960f4a22fff9ccee19dc6a87176e354782253af120541bfcc1a2ab8d6d809", func := "loop.example/g00203/laws.FnExactSubmitContract", spec := "fnExactSubmitContract", unfollowed := true, recurses := true, plainKeys := false, apart := false }
def FnExactSubmitContractSaid : Prop := fnExactSubmitContractRow.holds Tryz.pinned (OpenSpec.ofChange fnExactSubmitContractSpec)

/-- ITS FALSE NEIGHBOUR: 'it returns false'. Refute it at one input. -/
def fnExactSubmitContractWrong : ChangeSpec := { name := "fnExactSubmitContract", fn := fun _ => fun
  | [d1, d2] => { results := [.lit (.bool false)], args := [d1, d2] }
  | _ => none }
def FnExactSubmitContractWrongFalsely : Prop := fnExactSubmitContractRow.holds Tryz.pinned (OpenSpec.ofChange fnExactSubmitContractWrong)

/-- 'laws.FnExactTickLeader': WHATEVER THE INPUT: true; the input reads as it did. -/
def fnExactTickLeaderSpec : ChangeSpec := { name := "fnExactTickLeader", fn := fun _ => fun
  | [d1, d2, d3] => { results := [.lit (.bool true)], args := [d1, d2, d3] }
  | _ => none }
def fnExactTickLeaderRow : OpenClaim := { program := "ytjdiongbbijdpaagreat", sum := "e21960f4a22fff9ccee19dc6a87176e354782253af120541bfcc1a2ab8d6d809", func := "loop.example/g00203/laws.FnExactTickLeader", spec := "fnExactTickLeader", inPlace := ["slices.overlaps[loop.example/g00203/impl.Try]"], unfollowed := true, recurses := true, plainKeys := false, apart := false }
def FnExactTickLeaderSaid : Prop := fnExactTickLeaderRow.holds Tryz.pinned (OpenSpec.ofChange fnExactTickLeaderSpec)

/-- ITS FALSE NEIGHBOUR: 'it returns false'. Refute it at one input. -/
def fnExactTickLeaderWrong : ChangeSpec := { name := "fnExactTickLeader", fn := fun _ => fun
  | [d1, d2, d3] => { results := [.lit (.bool false)], args := [d1, d2, d3] }
  | _ => none }
def FnExactTickLeaderWrongFalsely : Prop := fnExactTickLeaderRow.holds Tryz.pinned (OpenSpec.ofChange fnExactTickLeaderWrong)

/-- 'laws.FnExactSubmitAs': WHATEVER THE INPUT: true; the input reads as it did. -/
def fnExactSubmitAsSpec : ChangeSpec := { name := "fnExactSubmitAs", fn := fun _ => fun
  | [d1, d2, d3, d4, d5] => { results := [.lit (.bool true)], args := [d1, d2, d3, d4, d5] }
  | _ => none }
def fnExactSubmitAsRow : OpenClaim := { program := "ytjdiongbbijdpaagreat", sum := "e21960f4a22fff9ccee19dc6a87176e354782253af120541bfcc1a2ab8d6d809", func := "loop.example/g00203/laws.FnExactSubmitAs", spec := "fnExactSubmitAs", unfollowed := true, recurses := true, plainKeys := false, apart := false }
def FnExactSubmitAsSaid : Prop := fnExactSubmitAsRow.holds Tryz.pinned (OpenSpec.ofChange fnExactSubmitAsSpec)

/-- ITS FALSE NEIGHBOUR: 'it returns false'. Refute it at one input. -/
def fnExactSubmitAsWrong : ChangeSpec := { name := "fnExactSubmitAs", fn := fun _ => fun
  | [d1, d2, d3, d4, d5] => { results := [.lit (.bool false)], args := [d1, d2, d3, d4, d5] }
  | _ => none }
def FnExactSubmitAsWrongFalsely : Prop := fnExactSubmitAsRow.holds Tryz.pinned (OpenSpec.ofChange fnExactSubmitAsWrong)

/-- 'laws.FnExactDeliverMessage': WHATEVER THE INPUT: true; the input reads as it did. -/
def fnExactDeliverMessageSpec : ChangeSpec := { name := "fnExactDeliverMessage", fn := fun _ => fun
  | [d1, d2] => { results := [.lit (.bool true)], args := [d1, d2] }
  | _ => none }
def fnExactDeliverMessageRow : OpenClaim := { program := "ytjdiongbbijdpaagreat", sum := "e21960f4a22fff9ccee19dc6a87176e354782253af120541bfcc1a2ab8d6d809", func := "loop.example/g00203/laws.FnExactDeliverMessage", spec := "fnExactDeliverMessage", inPlace := ["slices.overlaps[loop.example/g00203/impl.Contract]", "slices.overlaps[loop.example/g00203/impl.Mark]", "slices.overlaps[loop.example/g00203/impl.Slot]", "slices.overlaps[loop.example/g00203/impl.Balance]", "slices.overlaps[loop.example/g00203/impl.Heard]"], unfollowed := true, recurses := true, plainKeys := false, apart := false }
def FnExactDeliverMessageSaid : Prop := fnExactDeliverMessageRow.holds Tryz.pinned (OpenSpec.ofChange fnExactDeliverMessageSpec)

/-- ITS FALSE NEIGHBOUR: 'it returns false'. Refute it at one input. -/
def fnExactDeliverMessageWrong : ChangeSpec := { name := "fnExactDeliverMessage", fn := fun _ => fun
  | [d1, d2] => { results := [.lit (.bool false)], args := [d1, d2] }
  | _ => none }
def FnExactDeliverMessageWrongFalsely : Prop := fnExactDeliverMessageRow.holds Tryz.pinned (OpenSpec.ofChange fnExactDeliverMessageWrong)

/-- 'laws.FnExactRoundCluster': WHATEVER THE INPUT: true; the input reads as it did. -/
def fnExactRoundClusterSpec : ChangeSpec := { name := "fnExactRoundCluster", fn := fun _ => fun
  | [d] => { results := [.lit (.bool true)], args := [d] }
  | _ => none }
def fnExactRoundClusterRow : OpenClaim := { program := "ytjdiongbbijdpaagreat", sum := "e21960f4a22fff9ccee19dc6a87176e354782253af120541bfcc1a2ab8d6d809", func := "loop.example/g00203/laws.FnExactRoundCluster", spec := "fnExactRoundCluster", inPlace := ["slices.overlaps[loop.example/g00203/impl.Contract]", "slices.overlaps[loop.example/g00203/impl.Mark]", "slices.overlaps[loop.example/g00203/impl.Slot]", "slices.overlaps[loop.example/g00203/impl.Balance]", "slices.overlaps[loop.example/g00203/impl.Heard]", "slices.overlaps[loop.example/g00203/impl.Try]"], unfollowed := true, recurses := true, plainKeys := false, apart := false }
def FnExactRoundClusterSaid : Prop := fnExactRoundClusterRow.holds Tryz.pinned (OpenSpec.ofChange fnExactRoundClusterSpec)

/-- ITS FALSE NEIGHBOUR: 'it returns false'. Refute it at one input. -/
def fnExactRoundClusterWrong : ChangeSpec := { name := "fnExactRoundCluster", fn := fun _ => fun
  | [d] => { results := [.lit (.bool false)], args := [d] }
  | _ => none }
def FnExactRoundClusterWrongFalsely : Prop := fnExactRoundClusterRow.holds Tryz.pinned (OpenSpec.ofChange fnExactRoundClusterWrong)

/-- 'laws.FnExactDrainCluster': WHATEVER THE INPUT: true; the input reads as it did. -/
def fnExactDrainClusterSpec : ChangeSpec := { name := "fnExactDrainCluster", fn := fun _ => fun
  | [d1, d2] => { results := [.lit (.bool true)], args := [d1, d2] }
  | _ => none }
def fnExactDrainClusterRow : OpenClaim := { program := "ytjdiongbbijdpaagreat", sum := "e21960f4a22fff9ccee19dc6a87176e354782253af120541bfcc1a2ab8d6d809", func := "loop.example/g00203/laws.FnExactDrainCluster", spec := "fnExactDrainCluster", inPlace := ["slices.overlaps[loop.example/g00203/impl.Contract]", "slices.overlaps[loop.example/g00203/impl.Mark]", "slices.overlaps[loop.example/g00203/impl.Slot]", "slices.overlaps[loop.example/g00203/impl.Balance]", "slices.overlaps[loop.example/g00203/impl.Heard]", "slices.overlaps[loop.example/g00203/impl.Try]"], unfollowed := true, recurses := true, plainKeys := false, apart := false }
def FnExactDrainClusterSaid : Prop := fnExactDrainClusterRow.holds Tryz.pinned (OpenSpec.ofChange fnExactDrainClusterSpec)

/-- ITS FALSE NEIGHBOUR: 'it returns false'. Refute it at one input. -/
def fnExactDrainClusterWrong : ChangeSpec := { name := "fnExactDrainCluster", fn := fun _ => fun
  | [d1, d2] => { results := [.lit (.bool false)], args := [d1, d2] }
  | _ => none }
def FnExactDrainClusterWrongFalsely : Prop := fnExactDrainClusterRow.holds Tryz.pinned (OpenSpec.ofChange fnExactDrainClusterWrong)

/- THE SECOND FORM. 'bulk': how many values and letters a reading holds, each counted each time it is reached (what is shared counts as often as it is met; a slice's spare places count too). A statement '..UptoSaid' is the law's where the arguments, and the package variables that the reading takes, are together of bulk at most 1048576: NARROWER than '..Said'. Prove '..Said' where nothing that the law and all that it calls make is longer than what came in: it says more and counts as full. Else prove '..UptoSaid'. A law counts once. -/
mutual
def uptoBulk {H : Type} : DataW H → Nat
  | .lit (.string bytes) => bytes.length + 1
  | .lit _ => 1
  | .nil => 1
  | .ptr d => uptoBulk d + 1
  | .slice elems spare => uptoBulkAll elems + uptoBulkAll spare + 1
  | .agg parts => uptoBulkAll parts + 1
  | .iface _ d => uptoBulk d + 1
  | .map entries => uptoBulkEntries entries + 1
  | .held _ => 1
def uptoBulkAll {H : Type} : List (DataW H) → Nat
  | [] => 0
  | d :: r => uptoBulk d + uptoBulkAll r
def uptoBulkEntries {H : Type} : List (Lit × DataW H) → Nat
  | [] => 0
  | x :: r => uptoBulkEntry x + uptoBulkEntries r
def uptoBulkEntry {H : Type} : Lit × DataW H → Nat
  | (.string bytes, d) => bytes.length + uptoBulk d + 1
  | (_, d) => uptoBulk d + 1
 end
def uptoSmall : (H : Type) → List (DataW H) → Bool := fun _ ds => decide (uptoBulkAll ds ≤ 1048576)
def OpenSpec.upto (s : _root_.Go.ChangeSpec) : _root_.Go.OpenSpec := { _root_.Go.OpenSpec.ofChange s with cond := some uptoSmall }

/-- 'laws.FnExactSubmitContract', WHERE WHAT IT READS IS OF BULK AT MOST 1048576: true; the input reads as it did. -/
def fnExactSubmitContractUptoRow : OpenClaim := { program := "ytjdiongbbijdpaagreat", sum := "e21960f4a22fff9ccee19dc6a87176e354782253af120541bfcc1a2ab8d6d809", func := "loop.example/g00203/laws.FnExactSubmitContract", spec := "fnExactSubmitContract", unfollowed := true, recurses := true, plainKeys := false, apart := false, narrowed := true }
def FnExactSubmitContractUptoSaid : Prop := fnExactSubmitContractUptoRow.holds Tryz.pinned (OpenSpec.upto fnExactSubmitContractSpec)

/-- 'laws.FnExactTickLeader', WHERE WHAT IT READS IS OF BULK AT MOST 1048576: true; the input reads as it did. -/
def fnExactTickLeaderUptoRow : OpenClaim := { program := "ytjdiongbbijdpaagreat", sum := "e21960f4a22fff9ccee19dc6a87176e354782253af120541bfcc1a2ab8d6d809", func := "loop.example/g00203/laws.FnExactTickLeader", spec := "fnExactTickLeader", inPlace := ["slices.overlaps[loop.example/g00203/impl.Try]"], unfollowed := true, recurses := true, plainKeys := false, apart := false, narrowed := true }
def FnExactTickLeaderUptoSaid : Prop := fnExactTickLeaderUptoRow.holds Tryz.pinned (OpenSpec.upto fnExactTickLeaderSpec)

/-- 'laws.FnExactSubmitAs', WHERE WHAT IT READS IS OF BULK AT MOST 1048576: true; the input reads as it did. -/
def fnExactSubmitAsUptoRow : OpenClaim := { program := "ytjdiongbbijdpaagreat", sum := "e21960f4a22fff9ccee19dc6a87176e354782253af120541bfcc1a2ab8d6d809", func := "loop.example/g00203/laws.FnExactSubmitAs", spec := "fnExactSubmitAs", unfollowed := true, recurses := true, plainKeys := false, apart := false, narrowed := true }
def FnExactSubmitAsUptoSaid : Prop := fnExactSubmitAsUptoRow.holds Tryz.pinned (OpenSpec.upto fnExactSubmitAsSpec)

/-- 'laws.FnExactDeliverMessage', WHERE WHAT IT READS IS OF BULK AT MOST 1048576: true; the input reads as it did. -/
def fnExactDeliverMessageUptoRow : OpenClaim := { program := "ytjdiongbbijdpaagreat", sum := "e21960f4a22fff9ccee19dc6a87176e354782253af120541bfcc1a2ab8d6d809", func := "loop.example/g00203/laws.FnExactDeliverMessage", spec := "fnExactDeliverMessage", inPlace := ["slices.overlaps[loop.example/g00203/impl.Contract]", "slices.overlaps[loop.example/g00203/impl.Mark]", "slices.overlaps[loop.example/g00203/impl.Slot]", "slices.overlaps[loop.example/g00203/impl.Balance]", "slices.overlaps[loop.example/g00203/impl.Heard]"], unfollowed := true, recurses := true, plainKeys := false, apart := false, narrowed := true }
def FnExactDeliverMessageUptoSaid : Prop := fnExactDeliverMessageUptoRow.holds Tryz.pinned (OpenSpec.upto fnExactDeliverMessageSpec)

/-- 'laws.FnExactRoundCluster', WHERE WHAT IT READS IS OF BULK AT MOST 1048576: true; the input reads as it did. -/
def fnExactRoundClusterUptoRow : OpenClaim := { program := "ytjdiongbbijdpaagreat", sum := "e21960f4a22fff9ccee19dc6a87176e354782253af120541bfcc1a2ab8d6d809", func := "loop.example/g00203/laws.FnExactRoundCluster", spec := "fnExactRoundCluster", inPlace := ["slices.overlaps[loop.example/g00203/impl.Contract]", "slices.overlaps[loop.example/g00203/impl.Mark]", "slices.overlaps[loop.example/g00203/impl.Slot]", "slices.overlaps[loop.example/g00203/impl.Balance]", "slices.overlaps[loop.example/g00203/impl.Heard]", "slices.overlaps[loop.example/g00203/impl.Try]"], unfollowed := true, recurses := true, plainKeys := false, apart := false, narrowed := true }
def FnExactRoundClusterUptoSaid : Prop := fnExactRoundClusterUptoRow.holds Tryz.pinned (OpenSpec.upto fnExactRoundClusterSpec)

/-- 'laws.FnExactDrainCluster', WHERE WHAT IT READS IS OF BULK AT MOST 1048576: true; the input reads as it did. -/
def fnExactDrainClusterUptoRow : OpenClaim := { program := "ytjdiongbbijdpaagreat", sum := "e21960f4a22fff9ccee19dc6a87176e354782253af120541bfcc1a2ab8d6d809", func := "loop.example/g00203/laws.FnExactDrainCluster", spec := "fnExactDrainCluster", inPlace := ["slices.overlaps[loop.example/g00203/impl.Contract]", "slices.overlaps[loop.example/g00203/impl.Mark]", "slices.overlaps[loop.example/g00203/impl.Slot]", "slices.overlaps[loop.example/g00203/impl.Balance]", "slices.overlaps[loop.example/g00203/impl.Heard]", "slices.overlaps[loop.example/g00203/impl.Try]"], unfollowed := true, recurses := true, plainKeys := false, apart := false, narrowed := true }
def FnExactDrainClusterUptoSaid : Prop := fnExactDrainClusterUptoRow.holds Tryz.pinned (OpenSpec.upto fnExactDrainClusterSpec)

end Rows
end Go.Proofs.YtjdiongbbijdpaaGreat
