/- WHAT IS PROVED: parts of the proof of fnExactResendShard_holds: a frame for walks, what each Go function that it reaches answers, and plain lemmas; no condition beyond those that each theorem names. -/
import Derived.Test.YtbnbjaedijbnpaaGreatCRs4
import Derived.WalkKit
import Derived.OrdersHeld
import Derived.DeepKeys
import Derived.Maps.RangeWalk
import Derived.Maps.OwnOps
import Derived.WideKeyEntry
import Derived.Orders
import Derived.Deep.Slices
import Derived.ChangeArms
import Derived.WideShapes
import Derived.Sort.AssemblyPlain
import Derived.Test.YtbnbjaedijbnpaaGreatProg
import Derived.Shelf.SortG.Plain
import Derived.Shelf.SortG.SortNone
import Derived.Shelf.SlicesG.CompactI
import Derived.Lib.OwnBridge
import Derived.RangeFuncGives
import Derived.RangeFuncBox
import Derived.RangeFuncLeaves
import Derived.Shelf.Abstract
import Derived.Maps.AppendAt
import Derived.OwnWalkIn
import Derived.TacticsInMore
import Derived.LoopNIn
import Derived.LoopIn
set_option linter.unusedVariables false
set_option linter.unusedSimpArgs false
section
namespace Go.Proofs.YtbnbjaedijbnpaaGreat
open Go Go.Sx
def tab : TT := (.node 84 ⟨(some (false, 1)), none, none, false, false, true, none, (some (.one (.b (.s .nilFunc)))), none, none, [], none⟩
 (.node 39 ⟨(some (false, 1)), (some 2), (some (2, 32)), false, false, true, none, (some (.one (.nil))), none, (some [.s (.int .i64 0), .l []]), [], none⟩
 (.node 20 ⟨(some (false, 1)), none, none, false, false, true, none, (some (.one (.b (.s .nilIface)))), none, none, [], none⟩
 (.node 10 ⟨(some (false, 1)), none, none, true, false, true, none, (some (.one (.b (.s (.string ByteArray.empty))))), none, none, [], none⟩
 (.node 5 ⟨(some (false, 1)), none, none, false, false, true, (some .u8), (some (.one (.b (.s (.int .u8 0))))), none, none, [], none⟩
 (.node 3 ⟨(some (false, 1)), none, none, false, false, true, (some .i64), (some (.one (.b (.s (.int .i64 0))))), none, none, [], none⟩
 (.node 2 ⟨(some (false, 1)), none, none, false, false, true, (some .i64), (some (.one (.b (.s (.int .i64 0))))), none, none, [], none⟩
 (.node 1 ⟨(some (false, 1)), none, none, false, false, true, none, (some (.one (.b (.s .nilFunc)))), none, none, [], none⟩
 .leaf .leaf) .leaf) (.node 4 ⟨(some (false, 1)), none, none, false, true, true, none, (some (.one (.b (.s (.bool false))))), none, none, [], none⟩
 .leaf .leaf)) (.node 8 ⟨(some (true, 4)), none, none, false, false, true, none, (some (.agg [.b (.s (.int .i64 0)), .b (.s (.int .i64 0)), .b (.s (.bool false)), .b (.s (.int .u8 0))])), (some [.b (.s (.int .i64 0)), .b (.s (.int .i64 0)), .b (.s (.bool false)), .b (.s (.int .u8 0))]), none, [((some 0), (some (false, 0, 1))), ((some 1), (some (false, 1, 1))), ((some 2), (some (false, 2, 1))), ((some 3), (some (false, 3, 1)))], (some [.i .i64, .i .i64, .b, .i .u8])⟩
 (.node 7 ⟨(some (true, 4)), none, none, false, false, true, none, (some (.agg [.b (.s (.int .i64 0)), .b (.s (.int .i64 0)), .b (.s (.bool false)), .b (.s (.int .u8 0))])), (some [.b (.s (.int .i64 0)), .b (.s (.int .i64 0)), .b (.s (.bool false)), .b (.s (.int .u8 0))]), none, [((some 0), (some (false, 0, 1))), ((some 1), (some (false, 1, 1))), ((some 2), (some (false, 2, 1))), ((some 3), (some (false, 3, 1)))], (some [.i .i64, .i .i64, .b, .i .u8])⟩
 (.node 6 ⟨(some (false, 1)), none, none, false, false, true, (some .u8), (some (.one (.b (.s (.int .u8 0))))), none, none, [], none⟩
 .leaf .leaf) .leaf) (.node 9 ⟨(some (false, 1)), none, none, true, false, true, none, (some (.one (.b (.s (.string ByteArray.empty))))), none, none, [], none⟩
 .leaf .leaf))) (.node 15 ⟨(some (false, 1)), none, none, false, false, true, none, (some (.one (.b (.s (.pointer none))))), none, none, [], none⟩
 (.node 13 ⟨(some (true, 2)), none, none, false, false, true, none, (some (.agg [.b (.s (.string ByteArray.empty)), .b (.s (.int .u64 0))])), (some [.b (.s (.string ByteArray.empty)), .b (.s (.int .u64 0))]), none, [((some 0), (some (false, 0, 1))), ((some 1), (some (false, 1, 1)))], none⟩
 (.node 12 ⟨(some (false, 1)), none, none, false, false, true, (some .u64), (some (.one (.b (.s (.int .u64 0))))), none, none, [], none⟩
 (.node 11 ⟨(some (false, 1)), none, none, true, false, true, none, (some (.one (.b (.s (.string ByteArray.empty))))), none, none, [], none⟩
 .leaf .leaf) .leaf) (.node 14 ⟨(some (true, 2)), none, none, false, false, true, none, (some (.agg [.b (.s (.string ByteArray.empty)), .b (.s (.int .u64 0))])), (some [.b (.s (.string ByteArray.empty)), .b (.s (.int .u64 0))]), none, [((some 0), (some (false, 0, 1))), ((some 1), (some (false, 1, 1)))], none⟩
 .leaf .leaf)) (.node 18 ⟨(some (true, 1)), none, none, false, false, true, none, (some (.agg [.b (.s (.pointer none))])), (some [.b (.s (.pointer none))]), none, [((some 0), (some (false, 0, 1)))], none⟩
 (.node 17 ⟨(some (false, 1)), none, none, false, false, true, none, (some (.one (.b (.s (.pointer none))))), none, none, [], none⟩
 (.node 16 ⟨(some (false, 1)), none, none, false, false, true, none, (some (.one (.b (.s (.pointer none))))), none, none, [], none⟩
 .leaf .leaf) .leaf) (.node 19 ⟨(some (true, 1)), none, none, false, false, true, none, (some (.agg [.b (.s (.pointer none))])), (some [.b (.s (.pointer none))]), none, [((some 0), (some (false, 0, 1)))], none⟩
 .leaf .leaf)))) (.node 30 ⟨(some (true, 5)), none, none, false, false, true, none, (some (.agg [.nil, .nil, .nil, .nil, .nil])), (some [.nil, .nil, .nil, .nil, .nil]), none, [((some 0), (some (false, 0, 1))), ((some 1), (some (false, 1, 1))), ((some 2), (some (false, 2, 1))), ((some 3), (some (false, 3, 1))), ((some 4), (some (false, 4, 1)))], none⟩
 (.node 25 ⟨(some (false, 1)), (some 2), (some (2, 32)), false, false, true, none, (some (.one (.nil))), none, (some [.s (.int .i64 0), .l []]), [], none⟩
 (.node 23 ⟨(some (true, 1)), none, none, false, false, true, none, (some (.agg [.nil])), (some [.nil]), none, [((some 0), (some (false, 0, 1)))], none⟩
 (.node 22 ⟨(some (false, 1)), (some 1), (some (1, 24)), false, false, true, none, (some (.one (.nil))), none, (some [.l []]), [], none⟩
 (.node 21 ⟨(some (false, 1)), none, none, false, false, true, (some .i32), (some (.one (.b (.s (.int .i32 0))))), none, none, [], none⟩
 .leaf .leaf) .leaf) (.node 24 ⟨(some (true, 1)), none, none, false, false, true, none, (some (.agg [.nil])), (some [.nil]), none, [((some 0), (some (false, 0, 1)))], none⟩
 .leaf .leaf)) (.node 28 ⟨(some (false, 1)), (some 3), (some (3, 56)), false, false, true, none, (some (.one (.nil))), none, (some [.s (.int .i64 0), .l [], .l []]), [], none⟩
 (.node 27 ⟨(some (false, 1)), (some 1), (some (1, 24)), false, false, true, none, (some (.one (.nil))), none, (some [.l []]), [], none⟩
 (.node 26 ⟨(some (false, 1)), (some 6), (some (6, 128)), false, false, true, none, (some (.one (.nil))), none, (some [.s (.int .i64 0), .l [], .l [], .l [], .l [], .l []]), [], none⟩
 .leaf .leaf) .leaf) (.node 29 ⟨(some (false, 1)), (some 9), (some (9, 72)), false, false, true, none, (some (.one (.nil))), none, (some [.s (.int .i64 0), .s (.int .i64 0), .s (.int .i64 0), .s (.int .i64 0), .s (.int .i64 0), .s (.int .i64 0), .s (.int .i64 0), .s (.int .i64 0), .s (.int .i64 0)]), [], none⟩
 .leaf .leaf))) (.node 35 ⟨(some (false, 1)), (some 1), (some (1, 24)), false, false, true, none, (some (.one (.nil))), none, (some [.l []]), [], none⟩
 (.node 33 ⟨(some (false, 1)), none, none, false, false, true, none, (some (.one (.b (.s .nilFunc)))), none, none, [], none⟩
 (.node 32 ⟨(some (false, 1)), none, none, false, false, true, none, (some (.one (.b (.s .nilFunc)))), none, none, [], none⟩
 (.node 31 ⟨(some (true, 5)), none, none, false, false, true, none, (some (.agg [.nil, .nil, .nil, .nil, .nil])), (some [.nil, .nil, .nil, .nil, .nil]), none, [((some 0), (some (false, 0, 1))), ((some 1), (some (false, 1, 1))), ((some 2), (some (false, 2, 1))), ((some 3), (some (false, 3, 1))), ((some 4), (some (false, 4, 1)))], none⟩
 .leaf .leaf) .leaf) (.node 34 ⟨(some (false, 1)), none, none, false, false, true, none, (some (.one (.b (.s .nilFunc)))), none, none, [], none⟩
 .leaf .leaf)) (.node 37 ⟨(some (true, 1)), none, none, false, false, true, none, (some (.agg [.nil])), (some [.nil]), none, [((some 0), (some (false, 0, 1)))], none⟩
 (.node 36 ⟨(some (true, 1)), none, none, false, false, true, none, (some (.agg [.nil])), (some [.nil]), none, [((some 0), (some (false, 0, 1)))], none⟩
 .leaf .leaf) (.node 38 ⟨(some (false, 1)), none, none, false, false, true, none, (some (.one (.b (.s .nilFunc)))), none, none, [], none⟩
 .leaf .leaf))))) (.node 59 ⟨(some (false, 1)), none, none, false, false, true, none, (some (.one (.b (.s .nilFunc)))), none, none, [], none⟩
 (.node 49 ⟨(some (false, 1)), none, none, false, false, true, none, (some (.one (.b (.s .nilFunc)))), none, none, [], none⟩
 (.node 44 ⟨(some (true, 5)), none, none, false, false, true, none, (some (.agg [.nil, .nil, .nil, .nil, .nil])), (some [.nil, .nil, .nil, .nil, .nil]), none, [((some 0), (some (false, 0, 1))), ((some 1), (some (false, 1, 1))), ((some 2), (some (false, 2, 1))), ((some 3), (some (false, 3, 1))), ((some 4), (some (false, 4, 1)))], none⟩
 (.node 42 ⟨(some (false, 1)), (some 3), (some (3, 56)), false, false, true, none, (some (.one (.nil))), none, (some [.s (.int .i64 0), .l [], .l []]), [], none⟩
 (.node 41 ⟨(some (false, 1)), (some 1), (some (1, 24)), false, false, true, none, (some (.one (.nil))), none, (some [.l []]), [], none⟩
 (.node 40 ⟨(some (false, 1)), (some 6), (some (6, 128)), false, false, true, none, (some (.one (.nil))), none, (some [.s (.int .i64 0), .l [], .l [], .l [], .l [], .l []]), [], none⟩
 .leaf .leaf) .leaf) (.node 43 ⟨(some (false, 1)), (some 9), (some (9, 72)), false, false, true, none, (some (.one (.nil))), none, (some [.s (.int .i64 0), .s (.int .i64 0), .s (.int .i64 0), .s (.int .i64 0), .s (.int .i64 0), .s (.int .i64 0), .s (.int .i64 0), .s (.int .i64 0), .s (.int .i64 0)]), [], none⟩
 .leaf .leaf)) (.node 47 ⟨(some (false, 1)), none, none, false, false, true, none, (some (.one (.b (.s .nilFunc)))), none, none, [], none⟩
 (.node 46 ⟨(some (false, 1)), none, none, false, false, true, none, (some (.one (.b (.s .nilFunc)))), none, none, [], none⟩
 (.node 45 ⟨(some (true, 5)), none, none, false, false, true, none, (some (.agg [.nil, .nil, .nil, .nil, .nil])), (some [.nil, .nil, .nil, .nil, .nil]), none, [((some 0), (some (false, 0, 1))), ((some 1), (some (false, 1, 1))), ((some 2), (some (false, 2, 1))), ((some 3), (some (false, 3, 1))), ((some 4), (some (false, 4, 1)))], none⟩
 .leaf .leaf) .leaf) (.node 48 ⟨(some (false, 1)), none, none, false, false, true, none, (some (.one (.b (.s .nilFunc)))), none, none, [], none⟩
 .leaf .leaf))) (.node 54 ⟨(some (false, 1)), none, none, false, false, true, none, (some (.one (.b (.s .nilFunc)))), none, none, [], none⟩
 (.node 52 ⟨(some (false, 1)), none, none, false, false, true, none, (some (.one (.b (.s .nilFunc)))), none, none, [], none⟩
 (.node 51 ⟨(some (true, 2)), none, none, false, false, true, none, (some (.agg [.b (.s (.int .i64 0)), .b (.s (.int .i64 0))])), (some [.b (.s (.int .i64 0)), .b (.s (.int .i64 0))]), none, [((some 0), (some (false, 0, 1))), ((some 1), (some (false, 1, 1)))], (some [.i .i64, .i .i64])⟩
 (.node 50 ⟨(some (true, 2)), none, none, false, false, true, none, (some (.agg [.b (.s (.int .i64 0)), .b (.s (.int .i64 0))])), (some [.b (.s (.int .i64 0)), .b (.s (.int .i64 0))]), none, [((some 0), (some (false, 0, 1))), ((some 1), (some (false, 1, 1)))], (some [.i .i64, .i .i64])⟩
 .leaf .leaf) .leaf) (.node 53 ⟨(some (false, 1)), none, none, false, false, true, none, (some (.one (.b (.s .nilFunc)))), none, none, [], none⟩
 .leaf .leaf)) (.node 57 ⟨(some (true, 6)), none, none, false, false, true, none, (some (.agg [.b (.s (.int .i64 0)), .nil, .nil, .nil, .nil, .nil])), (some [.b (.s (.int .i64 0)), .nil, .nil, .nil, .nil, .nil]), none, [((some 0), (some (false, 0, 1))), ((some 1), (some (true, 1, 5)))], none⟩
 (.node 56 ⟨(some (false, 1)), none, none, false, false, true, none, (some (.one (.b (.s .nilFunc)))), none, none, [], none⟩
 (.node 55 ⟨(some (false, 1)), none, none, false, false, true, none, (some (.one (.b (.s .nilFunc)))), none, none, [], none⟩
 .leaf .leaf) .leaf) (.node 58 ⟨(some (true, 6)), none, none, false, false, true, none, (some (.agg [.b (.s (.int .i64 0)), .nil, .nil, .nil, .nil, .nil])), (some [.b (.s (.int .i64 0)), .nil, .nil, .nil, .nil, .nil]), none, [((some 0), (some (false, 0, 1))), ((some 1), (some (true, 1, 5)))], none⟩
 .leaf .leaf)))) (.node 73 ⟨(some (false, 1)), (some 1), (some (1, 8)), false, false, true, none, (some (.one (.nil))), none, (some [.s (.int .i64 0)]), [], none⟩
 (.node 67 ⟨(some (false, 1)), none, none, false, false, true, none, (some (.one (.b (.s .nilFunc)))), none, none, [], none⟩
 (.node 63 ⟨(some (false, 1)), none, none, false, false, true, none, (some (.one (.b (.s .nilFunc)))), none, none, [], none⟩
 (.node 61 ⟨(some (false, 1)), none, none, false, false, true, none, (some (.one (.b (.s .nilFunc)))), none, none, [], none⟩
 (.node 60 ⟨(some (false, 1)), none, none, false, false, true, none, (some (.one (.b (.s .nilFunc)))), none, none, [], none⟩
 .leaf .leaf) .leaf) (.node 65 ⟨(some (false, 1)), none, none, false, false, true, none, (some (.one (.b (.s .nilFunc)))), none, none, [], none⟩
 .leaf .leaf)) (.node 71 ⟨(some (false, 1)), (some 3), (some (3, 24)), false, false, true, none, (some (.one (.nil))), none, (some [.s (.int .i64 0), .s (.int .i64 0), .s (.int .i64 0)]), [], none⟩
 (.node 70 ⟨(some (false, 1)), none, none, false, false, true, none, (some (.one (.b (.s .nilFunc)))), none, none, [], none⟩
 (.node 69 ⟨(some (false, 1)), none, none, false, false, true, none, (some (.one (.b (.s .nilFunc)))), none, none, [], none⟩
 .leaf .leaf) .leaf) (.node 72 ⟨(some (false, 1)), (some 2), (some (2, 16)), false, false, true, none, (some (.one (.nil))), none, (some [.s (.int .i64 0), .s (.int .i64 0)]), [], none⟩
 .leaf .leaf))) (.node 78 ⟨(some (false, 1)), none, none, false, false, true, none, (some (.one (.b (.s .nilFunc)))), none, none, [], none⟩
 (.node 76 ⟨(some (false, 1)), none, none, false, false, true, none, (some (.one (.b (.s .nilFunc)))), none, none, [], none⟩
 (.node 75 ⟨(some (true, 6)), none, none, false, false, true, none, (some (.agg [.b (.s (.int .i64 0)), .nil, .nil, .nil, .nil, .nil])), (some [.b (.s (.int .i64 0)), .nil, .nil, .nil, .nil, .nil]), none, [((some 0), (some (false, 0, 1))), ((some 1), (some (false, 1, 1))), ((some 2), (some (false, 2, 1))), ((some 3), (some (false, 3, 1))), ((some 4), (some (false, 4, 1))), ((some 5), (some (false, 5, 1)))], none⟩
 (.node 74 ⟨(some (true, 6)), none, none, false, false, true, none, (some (.agg [.b (.s (.int .i64 0)), .nil, .nil, .nil, .nil, .nil])), (some [.b (.s (.int .i64 0)), .nil, .nil, .nil, .nil, .nil]), none, [((some 0), (some (false, 0, 1))), ((some 1), (some (false, 1, 1))), ((some 2), (some (false, 2, 1))), ((some 3), (some (false, 3, 1))), ((some 4), (some (false, 4, 1))), ((some 5), (some (false, 5, 1)))], none⟩
 .leaf .leaf) .leaf) (.node 77 ⟨(some (false, 1)), (some 4), (some (4, 32)), false, false, true, none, (some (.one (.nil))), none, (some [.s (.int .i64 0), .s (.int .i64 0), .s (.int .i64 0), .s (.int .i64 0)]), [], none⟩
 .leaf .leaf)) (.node 81 ⟨(some (false, 1)), none, none, false, false, true, none, (some (.one (.b (.s .nilFunc)))), none, none, [], none⟩
 (.node 80 ⟨(some (true, 2)), none, none, false, false, true, none, (some (.agg [.b (.s (.int .i64 0)), .nil])), (some [.b (.s (.int .i64 0)), .nil]), none, [((some 0), (some (false, 0, 1))), ((some 1), (some (false, 1, 1)))], none⟩
 .leaf .leaf) (.node 82 ⟨(some (false, 1)), none, none, false, false, true, none, (some (.one (.b (.s (.pointer none))))), none, none, [], none⟩
 .leaf .leaf)))))) (.node 179 ⟨(some (false, 1)), none, none, false, false, true, none, (some (.one (.b (.s .nilFunc)))), none, none, [], none⟩
 (.node 135 ⟨(some (false, 1)), (some 4), (some (4, 32)), false, false, true, none, (some (.one (.nil))), none, (some [.s (.int .i64 0), .s (.int .i64 0), .s (.int .i64 0), .s (.int .i64 0)]), [], none⟩
 (.node 100 ⟨(some (false, 1)), none, none, false, false, true, none, (some (.one (.b (.s .nilFunc)))), none, none, [], none⟩
 (.node 93 ⟨(some (true, 2)), none, none, false, false, true, none, (some (.agg [.b (.s (.int .i64 0)), .b (.s (.int .i64 0))])), none, none, [], none⟩
 (.node 91 ⟨(some (true, 3)), none, none, false, false, true, none, (some (.agg [.b (.s (.int .i64 0)), .b (.s (.int .i64 0)), .b (.s (.int .i64 0))])), (some [.b (.s (.int .i64 0)), .b (.s (.int .i64 0)), .b (.s (.int .i64 0))]), none, [((some 0), (some (false, 0, 1))), ((some 1), (some (false, 1, 1))), ((some 2), (some (false, 2, 1)))], (some [.i .i64, .i .i64, .i .i64])⟩
 (.node 90 ⟨(some (false, 1)), none, none, false, false, true, none, (some (.one (.b (.s .nilFunc)))), none, none, [], none⟩
 (.node 89 ⟨(some (false, 1)), none, none, false, false, true, none, (some (.one (.b (.s (.map none))))), none, none, [], none⟩
 .leaf .leaf) .leaf) (.node 92 ⟨(some (true, 3)), none, none, false, false, true, none, (some (.agg [.b (.s (.int .i64 0)), .b (.s (.int .i64 0)), .b (.s (.int .i64 0))])), (some [.b (.s (.int .i64 0)), .b (.s (.int .i64 0)), .b (.s (.int .i64 0))]), none, [((some 0), (some (false, 0, 1))), ((some 1), (some (false, 1, 1))), ((some 2), (some (false, 2, 1)))], (some [.i .i64, .i .i64, .i .i64])⟩
 .leaf .leaf)) (.node 97 ⟨(some (false, 1)), none, none, false, false, true, none, (some (.one (.b (.s .nilFunc)))), none, none, [], none⟩
 (.node 96 ⟨(some (false, 1)), none, none, false, false, true, none, (some (.one (.b (.s .nilFunc)))), none, none, [], none⟩
 (.node 94 ⟨(some (false, 1)), none, none, false, false, true, none, (some (.one (.b (.s .nilFunc)))), none, none, [], none⟩
 .leaf .leaf) .leaf) (.node 98 ⟨(some (false, 1)), none, none, false, false, true, none, (some (.one (.b (.s .nilFunc)))), none, none, [], none⟩
 .leaf .leaf))) (.node 119 ⟨(some (true, 9)), none, none, false, false, true, none, (some (.agg [.b (.s (.int .i64 0)), .b (.s (.int .i64 0)), .b (.s (.int .i64 0)), .b (.s (.int .i64 0)), .b (.s (.int .i64 0)), .b (.s (.int .i64 0)), .b (.s (.int .i64 0)), .b (.s (.int .i64 0)), .b (.s (.int .i64 0))])), (some [.b (.s (.int .i64 0)), .b (.s (.int .i64 0)), .b (.s (.int .i64 0)), .b (.s (.int .i64 0)), .b (.s (.int .i64 0)), .b (.s (.int .i64 0)), .b (.s (.int .i64 0)), .b (.s (.int .i64 0)), .b (.s (.int .i64 0))]), none, [((some 0), (some (false, 0, 1))), ((some 1), (some (false, 1, 1))), ((some 2), (some (false, 2, 1))), ((some 3), (some (false, 3, 1))), ((some 4), (some (false, 4, 1))), ((some 5), (some (false, 5, 1))), ((some 6), (some (false, 6, 1))), ((some 7), (some (true, 7, 2)))], (some [.i .i64, .i .i64, .i .i64, .i .i64, .i .i64, .i .i64, .i .i64, .i .i64, .i .i64])⟩
 (.node 112 ⟨(some (false, 1)), none, none, false, false, true, none, (some (.one (.b (.s .nilFunc)))), none, none, [], none⟩
 (.node 108 ⟨(some (false, 1)), none, none, false, false, true, none, (some (.one (.b (.s .nilFunc)))), none, none, [], none⟩
 (.node 105 ⟨(some (false, 1)), (some 6), (some (6, 64)), false, false, true, none, (some (.one (.nil))), none, (some [.s (.int .i64 0), .s (.int .i64 0), .s (.int .i64 0), .s (.int .i64 0), .s (.int .i64 0), .l []]), [], none⟩
 .leaf .leaf) .leaf) (.node 118 ⟨(some (true, 2)), none, none, false, false, true, none, (some (.agg [.b (.s (.int .i64 0)), .b (.s (.int .i64 0))])), (some [.b (.s (.int .i64 0)), .b (.s (.int .i64 0))]), none, [((some 0), (some (false, 0, 1))), ((some 1), (some (false, 1, 1)))], (some [.i .i64, .i .i64])⟩
 .leaf .leaf)) (.node 133 ⟨(some (false, 1)), (some 3), (some (3, 24)), false, false, true, none, (some (.one (.nil))), none, (some [.s (.int .i64 0), .s (.int .i64 0), .s (.int .i64 0)]), [], none⟩
 (.node 124 ⟨(some (false, 1)), none, none, false, false, true, none, (some (.one (.b (.s .nilFunc)))), none, none, [], none⟩
 (.node 120 ⟨(some (true, 9)), none, none, false, false, true, none, (some (.agg [.b (.s (.int .i64 0)), .b (.s (.int .i64 0)), .b (.s (.int .i64 0)), .b (.s (.int .i64 0)), .b (.s (.int .i64 0)), .b (.s (.int .i64 0)), .b (.s (.int .i64 0)), .b (.s (.int .i64 0)), .b (.s (.int .i64 0))])), (some [.b (.s (.int .i64 0)), .b (.s (.int .i64 0)), .b (.s (.int .i64 0)), .b (.s (.int .i64 0)), .b (.s (.int .i64 0)), .b (.s (.int .i64 0)), .b (.s (.int .i64 0)), .b (.s (.int .i64 0)), .b (.s (.int .i64 0))]), none, [((some 0), (some (false, 0, 1))), ((some 1), (some (false, 1, 1))), ((some 2), (some (false, 2, 1))), ((some 3), (some (false, 3, 1))), ((some 4), (some (false, 4, 1))), ((some 5), (some (false, 5, 1))), ((some 6), (some (false, 6, 1))), ((some 7), (some (true, 7, 2)))], (some [.i .i64, .i .i64, .i .i64, .i .i64, .i .i64, .i .i64, .i .i64, .i .i64, .i .i64])⟩
 .leaf .leaf) .leaf) (.node 134 ⟨(some (false, 1)), none, none, false, false, true, none, (some (.one (.b (.s .nilFunc)))), none, none, [], none⟩
 .leaf .leaf)))) (.node 161 ⟨(some (true, 1)), none, none, false, false, true, none, (some (.agg [.nil])), (some [.nil]), none, [((some 0), (some (false, 0, 1)))], none⟩
 (.node 145 ⟨(some (true, 1)), none, none, false, false, true, none, (some (.agg [.nil])), (some [.nil]), none, [((some 0), (some (false, 0, 1)))], none⟩
 (.node 141 ⟨(some (true, 6)), none, none, false, false, true, none, (some (.agg [.b (.s (.int .i64 0)), .nil, .nil, .nil, .nil, .nil])), (some [.b (.s (.int .i64 0)), .nil, .nil, .nil, .nil, .nil]), none, [((some 0), (some (false, 0, 1))), ((some 1), (some (false, 1, 1))), ((some 2), (some (false, 2, 1))), ((some 3), (some (false, 3, 1))), ((some 4), (some (false, 4, 1))), ((some 5), (some (false, 5, 1)))], none⟩
 (.node 139 ⟨(some (false, 1)), (some 2), (some (2, 16)), false, false, true, none, (some (.one (.nil))), none, (some [.s (.int .i64 0), .s (.int .i64 0)]), [], none⟩
 (.node 137 ⟨(some (true, 2)), none, none, false, false, true, none, (some (.agg [.b (.s (.int .i64 0)), .nil])), (some [.b (.s (.int .i64 0)), .nil]), none, [((some 0), (some (false, 0, 1))), ((some 1), (some (false, 1, 1)))], none⟩
 .leaf .leaf) .leaf) (.node 143 ⟨(some (false, 1)), (some 6), (some (6, 64)), false, false, true, none, (some (.one (.nil))), none, (some [.s (.int .i64 0), .s (.int .i64 0), .s (.int .i64 0), .s (.int .i64 0), .s (.int .i64 0), .l []]), [], none⟩
 .leaf .leaf)) (.node 150 ⟨(some (true, 3)), none, none, false, false, true, none, (some (.agg [.b (.s (.int .i64 0)), .nil, .nil])), (some [.b (.s (.int .i64 0)), .nil, .nil]), none, [((some 0), (some (false, 0, 1))), ((some 1), (some (false, 1, 1))), ((some 2), (some (false, 2, 1)))], none⟩
 (.node 148 ⟨(some (false, 1)), (some 5), (some (5, 40)), false, false, true, none, (some (.one (.nil))), none, (some [.s (.int .i64 0), .s (.int .i64 0), .s (.int .i64 0), .s (.int .i64 0), .s (.int .i64 0)]), [], none⟩
 (.node 147 ⟨(some (false, 1)), (some 6), (some (6, 80)), false, false, true, none, (some (.one (.nil))), none, (some [.s (.int .i64 0), .s (.int .i64 0), .s (.int .i64 0), .s (.int .i64 0), .l [], .l []]), [], none⟩
 .leaf .leaf) .leaf) (.node 155 ⟨(some (true, 4)), none, none, false, false, true, none, (some (.agg [.b (.s (.int .i64 0)), .b (.s (.int .i64 0)), .b (.s (.int .i64 0)), .b (.s (.int .i64 0))])), (some [.b (.s (.int .i64 0)), .b (.s (.int .i64 0)), .b (.s (.int .i64 0)), .b (.s (.int .i64 0))]), none, [((some 0), (some (false, 0, 1))), ((some 1), (some (false, 1, 1))), ((some 2), (some (false, 2, 1))), ((some 3), (some (false, 3, 1)))], (some [.i .i64, .i .i64, .i .i64, .i .i64])⟩
 .leaf .leaf))) (.node 169 ⟨(some (true, 2)), none, none, false, false, true, none, (some (.agg [.b (.s (.int .i64 0)), .b (.s (.int .i64 0))])), (some [.b (.s (.int .i64 0)), .b (.s (.int .i64 0))]), none, [((some 0), (some (false, 0, 1))), ((some 1), (some (false, 1, 1)))], (some [.i .i64, .i .i64])⟩
 (.node 166 ⟨(some (true, 3)), none, none, false, false, true, none, (some (.agg [.b (.s (.int .i64 0)), .nil, .nil])), (some [.b (.s (.int .i64 0)), .nil, .nil]), none, [((some 0), (some (false, 0, 1))), ((some 1), (some (false, 1, 1))), ((some 2), (some (false, 2, 1)))], none⟩
 (.node 164 ⟨(some (false, 1)), (some 5), (some (5, 40)), false, false, true, none, (some (.one (.nil))), none, (some [.s (.int .i64 0), .s (.int .i64 0), .s (.int .i64 0), .s (.int .i64 0), .s (.int .i64 0)]), [], none⟩
 (.node 163 ⟨(some (false, 1)), (some 6), (some (6, 80)), false, false, true, none, (some (.one (.nil))), none, (some [.s (.int .i64 0), .s (.int .i64 0), .s (.int .i64 0), .s (.int .i64 0), .l [], .l []]), [], none⟩
 .leaf .leaf) .leaf) (.node 168 ⟨(some (false, 1)), none, none, false, false, true, none, (some (.one (.b (.s .nilFunc)))), none, none, [], none⟩
 .leaf .leaf)) (.node 177 ⟨(some (false, 1)), none, none, false, false, true, none, (some (.one (.b (.s .nilFunc)))), none, none, [], none⟩
 (.node 171 ⟨(some (true, 9)), none, none, false, false, true, none, (some (.agg [.b (.s (.int .i64 0)), .b (.s (.int .i64 0)), .b (.s (.int .i64 0)), .b (.s (.int .i64 0)), .b (.s (.int .i64 0)), .b (.s (.int .i64 0)), .b (.s (.int .i64 0)), .b (.s (.int .i64 0)), .b (.s (.int .i64 0))])), (some [.b (.s (.int .i64 0)), .b (.s (.int .i64 0)), .b (.s (.int .i64 0)), .b (.s (.int .i64 0)), .b (.s (.int .i64 0)), .b (.s (.int .i64 0)), .b (.s (.int .i64 0)), .b (.s (.int .i64 0)), .b (.s (.int .i64 0))]), none, [((some 0), (some (false, 0, 1))), ((some 1), (some (false, 1, 1))), ((some 2), (some (false, 2, 1))), ((some 3), (some (false, 3, 1))), ((some 4), (some (false, 4, 1))), ((some 5), (some (false, 5, 1))), ((some 6), (some (false, 6, 1))), ((some 7), (some (true, 7, 2)))], (some [.i .i64, .i .i64, .i .i64, .i .i64, .i .i64, .i .i64, .i .i64, .i .i64, .i .i64])⟩
 .leaf .leaf) (.node 178 ⟨(some (false, 1)), none, none, false, false, true, none, (some (.one (.b (.s .nilFunc)))), none, none, [], none⟩
 .leaf .leaf))))) (.node 299 ⟨(some (true, 2)), none, none, false, false, true, none, (some (.agg [.b (.s (.int .i64 0)), .b (.s (.int .i64 0))])), (some [.b (.s (.int .i64 0)), .b (.s (.int .i64 0))]), none, [((some 0), (some (false, 0, 1))), ((some 1), (some (false, 1, 1)))], (some [.i .i64, .i .i64])⟩
 (.node 248 ⟨(some (false, 1)), none, none, false, false, true, none, (some (.one (.b (.s .nilFunc)))), none, none, [], none⟩
 (.node 200 ⟨(some (true, 6)), none, none, false, false, true, none, (some (.agg [.b (.s (.int .i64 0)), .b (.s (.int .i64 0)), .b (.s (.int .i64 0)), .b (.s (.int .i64 0)), .b (.s (.int .i64 0)), .nil])), (some [.b (.s (.int .i64 0)), .b (.s (.int .i64 0)), .b (.s (.int .i64 0)), .b (.s (.int .i64 0)), .b (.s (.int .i64 0)), .nil]), none, [((some 0), (some (false, 0, 1))), ((some 1), (some (false, 1, 1))), ((some 2), (some (false, 2, 1))), ((some 3), (some (true, 3, 2))), ((some 5), (some (false, 5, 1)))], none⟩
 (.node 193 ⟨(some (true, 3)), none, none, false, false, true, none, (some (.agg [.b (.s (.int .i64 0)), .b (.s (.int .i64 0)), .b (.s (.int .i64 0))])), (some [.b (.s (.int .i64 0)), .b (.s (.int .i64 0)), .b (.s (.int .i64 0))]), none, [((some 0), (some (false, 0, 1))), ((some 1), (some (true, 1, 2)))], (some [.i .i64, .i .i64, .i .i64])⟩
 (.node 191 ⟨(some (false, 1)), none, none, false, false, true, none, (some (.one (.b (.s .nilFunc)))), none, none, [], none⟩
 (.node 182 ⟨(some (false, 1)), none, none, false, false, true, none, (some (.one (.b (.s .nilFunc)))), none, none, [], none⟩
 .leaf .leaf) .leaf) (.node 197 ⟨(some (false, 1)), (some 2), (some (2, 16)), false, false, true, none, (some (.one (.nil))), none, (some [.s (.int .i64 0), .s (.int .i64 0)]), [], none⟩
 .leaf .leaf)) (.node 237 ⟨(some (false, 1)), none, none, false, false, true, none, (some (.one (.b (.s .nilFunc)))), none, none, [], none⟩
 (.node 233 ⟨(some (true, 5)), none, none, false, false, true, none, (some (.agg [.b (.s (.int .i64 0)), .b (.s (.int .i64 0)), .b (.s (.int .i64 0)), .b (.s (.int .i64 0)), .b (.s (.int .i64 0))])), (some [.b (.s (.int .i64 0)), .b (.s (.int .i64 0)), .b (.s (.int .i64 0)), .b (.s (.int .i64 0)), .b (.s (.int .i64 0))]), none, [((some 0), (some (false, 0, 1))), ((some 1), (some (false, 1, 1))), ((some 2), (some (false, 2, 1))), ((some 3), (some (false, 3, 1))), ((some 4), (some (false, 4, 1)))], (some [.i .i64, .i .i64, .i .i64, .i .i64, .i .i64])⟩
 (.node 203 ⟨(some (true, 2)), none, none, false, false, true, none, (some (.agg [.b (.s (.int .i64 0)), .b (.s (.int .i64 0))])), (some [.b (.s (.int .i64 0)), .b (.s (.int .i64 0))]), none, [((some 0), (some (false, 0, 1))), ((some 1), (some (false, 1, 1)))], (some [.i .i64, .i .i64])⟩
 .leaf .leaf) .leaf) (.node 241 ⟨(some (true, 3)), none, none, false, false, true, none, (some (.agg [.b (.s (.int .i64 0)), .b (.s (.int .i64 0)), .b (.s (.int .i64 0))])), (some [.b (.s (.int .i64 0)), .b (.s (.int .i64 0)), .b (.s (.int .i64 0))]), none, [((some 0), (some (false, 0, 1))), ((some 1), (some (false, 1, 1))), ((some 2), (some (false, 2, 1)))], (some [.i .i64, .i .i64, .i .i64])⟩
 .leaf .leaf))) (.node 280 ⟨(some (true, 6)), none, none, false, false, true, none, (some (.agg [.b (.s (.int .i64 0)), .b (.s (.int .i64 0)), .b (.s (.int .i64 0)), .b (.s (.int .i64 0)), .nil, .nil])), (some [.b (.s (.int .i64 0)), .b (.s (.int .i64 0)), .b (.s (.int .i64 0)), .b (.s (.int .i64 0)), .nil, .nil]), none, [((some 0), (some (false, 0, 1))), ((some 1), (some (false, 1, 1))), ((some 2), (some (false, 2, 1))), ((some 3), (some (false, 3, 1))), ((some 4), (some (false, 4, 1))), ((some 5), (some (false, 5, 1)))], none⟩
 (.node 270 ⟨(some (true, 9)), none, none, false, false, true, none, (some (.agg [.b (.s (.int .i64 0)), .b (.s (.int .i64 0)), .b (.s (.int .i64 0)), .b (.s (.int .i64 0)), .b (.s (.int .i64 0)), .b (.s (.int .i64 0)), .b (.s (.int .i64 0)), .b (.s (.int .i64 0)), .nil])), (some [.b (.s (.int .i64 0)), .b (.s (.int .i64 0)), .b (.s (.int .i64 0)), .b (.s (.int .i64 0)), .b (.s (.int .i64 0)), .b (.s (.int .i64 0)), .b (.s (.int .i64 0)), .b (.s (.int .i64 0)), .nil]), none, [((some 0), (some (false, 0, 1))), ((some 1), (some (true, 1, 2))), ((some 3), (some (true, 3, 6)))], none⟩
 (.node 256 ⟨(some (false, 1)), none, none, false, false, true, none, (some (.one (.b (.s .nilFunc)))), none, none, [], none⟩
 (.node 251 ⟨(some (false, 1)), none, none, false, false, true, none, (some (.one (.b (.s .nilFunc)))), none, none, [], none⟩
 .leaf .leaf) .leaf) (.node 274 ⟨(some (false, 1)), none, none, false, false, true, (some .u64), (some (.one (.b (.s (.int .u64 0))))), none, none, [], none⟩
 .leaf .leaf)) (.node 290 ⟨(some (true, 6)), none, none, false, false, true, none, (some (.agg [.b (.s (.int .i64 0)), .b (.s (.int .i64 0)), .b (.s (.int .i64 0)), .b (.s (.int .i64 0)), .nil, .nil])), (some [.b (.s (.int .i64 0)), .b (.s (.int .i64 0)), .b (.s (.int .i64 0)), .b (.s (.int .i64 0)), .nil, .nil]), none, [((some 0), (some (false, 0, 1))), ((some 1), (some (false, 1, 1))), ((some 2), (some (false, 2, 1))), ((some 3), (some (false, 3, 1))), ((some 4), (some (false, 4, 1))), ((some 5), (some (false, 5, 1)))], none⟩
 (.node 287 ⟨(some (true, 6)), none, none, false, false, true, none, (some (.agg [.b (.s (.int .i64 0)), .b (.s (.int .i64 0)), .b (.s (.int .i64 0)), .b (.s (.int .i64 0)), .b (.s (.int .i64 0)), .nil])), (some [.b (.s (.int .i64 0)), .b (.s (.int .i64 0)), .b (.s (.int .i64 0)), .b (.s (.int .i64 0)), .b (.s (.int .i64 0)), .nil]), none, [((some 0), (some (false, 0, 1))), ((some 1), (some (false, 1, 1))), ((some 2), (some (false, 2, 1))), ((some 3), (some (true, 3, 2))), ((some 5), (some (false, 5, 1)))], none⟩
 (.node 285 ⟨(some (false, 1)), (some 2), (some (2, 16)), false, false, true, none, (some (.one (.nil))), none, (some [.s (.int .i64 0), .s (.int .i64 0)]), [], none⟩
 .leaf .leaf) .leaf) (.node 297 ⟨(some (true, 4)), none, none, false, false, true, none, (some (.agg [.b (.s (.int .i64 0)), .b (.s (.int .i64 0)), .b (.s (.int .i64 0)), .b (.s (.int .i64 0))])), (some [.b (.s (.int .i64 0)), .b (.s (.int .i64 0)), .b (.s (.int .i64 0)), .b (.s (.int .i64 0))]), none, [((some 0), (some (false, 0, 1))), ((some 1), (some (false, 1, 1))), ((some 2), (some (false, 2, 1))), ((some 3), (some (false, 3, 1)))], (some [.i .i64, .i .i64, .i .i64, .i .i64])⟩
 .leaf .leaf)))) (.node 340 ⟨(some (false, 1)), none, none, false, false, true, (some .u64), (some (.one (.b (.s (.int .u64 0))))), none, none, [], none⟩
 (.node 312 ⟨(some (false, 1)), none, none, false, false, true, none, (some (.one (.b (.s .nilFunc)))), none, none, [], none⟩
 (.node 305 ⟨(some (false, 1)), none, none, false, false, true, none, (some (.one (.b (.s (.map none))))), none, none, [], none⟩
 (.node 303 ⟨(some (true, 5)), none, none, false, false, true, none, (some (.agg [.b (.s (.int .i64 0)), .b (.s (.int .i64 0)), .b (.s (.int .i64 0)), .b (.s (.int .i64 0)), .b (.s (.int .i64 0))])), (some [.b (.s (.int .i64 0)), .b (.s (.int .i64 0)), .b (.s (.int .i64 0)), .b (.s (.int .i64 0)), .b (.s (.int .i64 0))]), none, [((some 0), (some (false, 0, 1))), ((some 1), (some (false, 1, 1))), ((some 2), (some (false, 2, 1))), ((some 3), (some (false, 3, 1))), ((some 4), (some (false, 4, 1)))], (some [.i .i64, .i .i64, .i .i64, .i .i64, .i .i64])⟩
 (.node 300 ⟨(some (false, 1)), none, none, false, false, true, none, (some (.one (.b (.s .nilFunc)))), none, none, [], none⟩
 .leaf .leaf) .leaf) (.node 308 ⟨(some (false, 1)), none, none, false, false, true, none, (some (.one (.b (.s .nilFunc)))), none, none, [], none⟩
 .leaf .leaf)) (.node 331 ⟨(some (false, 1)), none, none, false, false, true, (some .i64), (some (.one (.b (.s (.int .i64 0))))), none, none, [], none⟩
 (.node 327 ⟨(some (false, 1)), none, none, false, false, true, none, (some (.one (.b (.s .nilFunc)))), none, none, [], none⟩
 (.node 323 ⟨(some (false, 1)), none, none, false, false, true, none, (some (.one (.b (.s (.map none))))), none, none, [], none⟩
 .leaf .leaf) .leaf) (.node 338 ⟨(some (false, 1)), none, none, false, false, true, (some .u32), (some (.one (.b (.s (.int .u32 0))))), none, none, [], none⟩
 .leaf .leaf))) (.node 370 ⟨(some (false, 1)), none, none, false, false, true, none, (some (.one (.b (.s (.pointer none))))), none, none, [], none⟩
 (.node 362 ⟨(some (false, 1)), (some 1), (some (1, 8)), false, false, true, none, (some (.one (.nil))), none, (some [.s (.int .i64 0)]), [], none⟩
 (.node 356 ⟨(some (false, 1)), none, none, false, false, true, none, (some (.one (.b (.s .nilFunc)))), none, none, [], none⟩
 (.node 343 ⟨(some (false, 1)), none, none, false, false, true, none, (some (.one (.b (.s .nilFunc)))), none, none, [], none⟩
 .leaf .leaf) .leaf) (.node 366 ⟨(some (false, 1)), none, none, false, false, true, (some .u64), (some (.one (.b (.s (.int .u64 0))))), none, none, [], none⟩
 .leaf .leaf)) (.node 383 ⟨(some (false, 1)), none, none, false, false, true, none, (some (.one (.b (.s (.pointer none))))), none, none, [], none⟩
 (.node 375 ⟨(some (false, 1)), none, none, false, false, true, none, (some (.one (.b (.s .nilFunc)))), none, none, [], none⟩
 .leaf .leaf) (.node 400 ⟨(some (false, 1)), none, none, false, false, true, (some .u8), (some (.one (.b (.s (.int .u8 0))))), none, none, [], none⟩
 .leaf .leaf)))))))
theorem zaw : tab = tab.map Tryz.prog := by kernel_rfl
instance : yn Tryz.prog := ⟨tab, zaw, by kernel_rfl⟩
end Go.Proofs.YtbnbjaedijbnpaaGreat
end
section
namespace Go.Proofs.YtbnbjaedijbnpaaGreat
open Go Go.Sx
set_option maxRecDepth 20000
abbrev qw : Sh := (.i .i64 (.i .i64 (.i .i64 (.i .i64 .nil))))
theorem z1x {N : Nat} {row : List Cell} (h : WT N qw row) : ∃ (x0 : Int) (x1 : Int) (x2 : Int) (x3 : Int), row = [.s (.int .i64 x0), .s (.int .i64 x1), .s (.int .i64 x2), .s (.int .i64 x3)] := by
 obtain ⟨x0, _, rfl, g0⟩ := h.qx
 obtain ⟨x1, _, rfl, g1⟩ := g0.qx
 obtain ⟨x2, _, rfl, g2⟩ := g1.qx
 obtain ⟨x3, _, rfl, g3⟩ := g2.qx
 obtain rfl := g3.yz
 exact ⟨x0, x1, x2, x3, rfl⟩
abbrev q7 : Sh := (.i .i64 (.l qw .nil))
theorem y05 {N : Nat} {row : List Cell} (h : WT N q7 row) : ∃ (x0 : Int) (x1 : List (List Cell)), row = [.s (.int .i64 x0), .l x1] ∧ WR N qw x1 := by
 obtain ⟨x0, _, rfl, g0⟩ := h.qx
 obtain ⟨x1, _, rfl, h1, g1⟩ := g0.z1f
 obtain rfl := g1.yz
 exact ⟨x0, x1, rfl, h1⟩
abbrev ze : Sh := (.i .i64 (.i .i64 (.i .i64 .nil)))
theorem q09 {N : Nat} {row : List Cell} (h : WT N ze row) : ∃ (x0 : Int) (x1 : Int) (x2 : Int), row = [.s (.int .i64 x0), .s (.int .i64 x1), .s (.int .i64 x2)] := by
 obtain ⟨x0, _, rfl, g0⟩ := h.qx
 obtain ⟨x1, _, rfl, g1⟩ := g0.qx
 obtain ⟨x2, _, rfl, g2⟩ := g1.qx
 obtain rfl := g2.yz
 exact ⟨x0, x1, x2, rfl⟩
abbrev zh : Sh := (.i .i64 (.i .i64 .nil))
theorem q16 {N : Nat} {row : List Cell} (h : WT N zh row) : ∃ (x0 : Int) (x1 : Int), row = [.s (.int .i64 x0), .s (.int .i64 x1)] := by
 obtain ⟨x0, _, rfl, g0⟩ := h.qx
 obtain ⟨x1, _, rfl, g1⟩ := g0.qx
 obtain rfl := g1.yz
 exact ⟨x0, x1, rfl⟩
abbrev zb : Sh := (.i .i64 (.l ze (.l zh (.l q7 (.l zh (.l (.i .i64 .nil) .nil))))))
theorem z0q {N : Nat} {row : List Cell} (h : WT N zb row) : ∃ (x0 : Int) (x1 : List (List Cell)) (x2 : List (List Cell)) (x3 : List (List Cell)) (x4 : List (List Cell)) (x5 : List (List Cell)), row = [.s (.int .i64 x0), .l x1, .l x2, .l x3, .l x4, .l x5] ∧ WR N ze x1 ∧ WR N zh x2 ∧ WR N q7 x3 ∧ WR N zh x4 ∧ WR N (.i .i64 .nil) x5 := by
 obtain ⟨x0, _, rfl, g0⟩ := h.qx
 obtain ⟨x1, _, rfl, h1, g1⟩ := g0.z1f
 obtain ⟨x2, _, rfl, h2, g2⟩ := g1.z1f
 obtain ⟨x3, _, rfl, h3, g3⟩ := g2.z1f
 obtain ⟨x4, _, rfl, h4, g4⟩ := g3.z1f
 obtain ⟨x5, _, rfl, h5, g5⟩ := g4.z1f
 obtain rfl := g5.yz
 exact ⟨x0, x1, x2, x3, x4, x5, rfl, h1, h2, h3, h4, h5⟩
abbrev yk : Sh := (.i .i64 (.i .i64 .nil))
theorem y17 {N : Nat} {row : List Cell} (h : WT N yk row) : ∃ (x0 : Int) (x1 : Int), row = [.s (.int .i64 x0), .s (.int .i64 x1)] := by
 obtain ⟨x0, _, rfl, g0⟩ := h.qx
 obtain ⟨x1, _, rfl, g1⟩ := g0.qx
 obtain rfl := g1.yz
 exact ⟨x0, x1, rfl⟩
abbrev qj : Sh := (.i .i64 (.i .i64 (.i .i64 (.i .i64 (.i .i64 (.l yk .nil))))))
theorem z17 {N : Nat} {row : List Cell} (h : WT N qj row) : ∃ (x0 : Int) (x1 : Int) (x2 : Int) (x3 : Int) (x4 : Int) (x5 : List (List Cell)), row = [.s (.int .i64 x0), .s (.int .i64 x1), .s (.int .i64 x2), .s (.int .i64 x3), .s (.int .i64 x4), .l x5] ∧ WR N yk x5 := by
 obtain ⟨x0, _, rfl, g0⟩ := h.qx
 obtain ⟨x1, _, rfl, g1⟩ := g0.qx
 obtain ⟨x2, _, rfl, g2⟩ := g1.qx
 obtain ⟨x3, _, rfl, g3⟩ := g2.qx
 obtain ⟨x4, _, rfl, g4⟩ := g3.qx
 obtain ⟨x5, _, rfl, h5, g5⟩ := g4.z1f
 obtain rfl := g5.yz
 exact ⟨x0, x1, x2, x3, x4, x5, rfl, h5⟩
abbrev z8 : Sh := (.l qj .nil)
theorem q04 {N : Nat} {row : List Cell} (h : WT N z8 row) : ∃ (x0 : List (List Cell)), row = [.l x0] ∧ WR N qj x0 := by
 obtain ⟨x0, _, rfl, h0, g0⟩ := h.z1f
 obtain rfl := g0.yz
 exact ⟨x0, rfl, h0⟩
abbrev zp : Sh := (.i .i64 (.i .i64 (.i .i64 (.i .i64 (.l (.i .i64 .nil) (.l yk .nil))))))
theorem y1x {N : Nat} {row : List Cell} (h : WT N zp row) : ∃ (x0 : Int) (x1 : Int) (x2 : Int) (x3 : Int) (x4 : List (List Cell)) (x5 : List (List Cell)), row = [.s (.int .i64 x0), .s (.int .i64 x1), .s (.int .i64 x2), .s (.int .i64 x3), .l x4, .l x5] ∧ WR N (.i .i64 .nil) x4 ∧ WR N yk x5 := by
 obtain ⟨x0, _, rfl, g0⟩ := h.qx
 obtain ⟨x1, _, rfl, g1⟩ := g0.qx
 obtain ⟨x2, _, rfl, g2⟩ := g1.qx
 obtain ⟨x3, _, rfl, g3⟩ := g2.qx
 obtain ⟨x4, _, rfl, h4, g4⟩ := g3.z1f
 obtain ⟨x5, _, rfl, h5, g5⟩ := g4.z1f
 obtain rfl := g5.yz
 exact ⟨x0, x1, x2, x3, x4, x5, rfl, h4, h5⟩
abbrev zm : Sh := (.i .i64 (.i .i64 (.i .i64 (.i .i64 (.i .i64 .nil)))))
theorem q0p {N : Nat} {row : List Cell} (h : WT N zm row) : ∃ (x0 : Int) (x1 : Int) (x2 : Int) (x3 : Int) (x4 : Int), row = [.s (.int .i64 x0), .s (.int .i64 x1), .s (.int .i64 x2), .s (.int .i64 x3), .s (.int .i64 x4)] := by
 obtain ⟨x0, _, rfl, g0⟩ := h.qx
 obtain ⟨x1, _, rfl, g1⟩ := g0.qx
 obtain ⟨x2, _, rfl, g2⟩ := g1.qx
 obtain ⟨x3, _, rfl, g3⟩ := g2.qx
 obtain ⟨x4, _, rfl, g4⟩ := g3.qx
 obtain rfl := g4.yz
 exact ⟨x0, x1, x2, x3, x4, rfl⟩
abbrev qa : Sh := (.i .i64 (.l zp (.l zm .nil)))
theorem q0e {N : Nat} {row : List Cell} (h : WT N qa row) : ∃ (x0 : Int) (x1 : List (List Cell)) (x2 : List (List Cell)), row = [.s (.int .i64 x0), .l x1, .l x2] ∧ WR N zp x1 ∧ WR N zm x2 := by
 obtain ⟨x0, _, rfl, g0⟩ := h.qx
 obtain ⟨x1, _, rfl, h1, g1⟩ := g0.z1f
 obtain ⟨x2, _, rfl, h2, g2⟩ := g1.z1f
 obtain rfl := g2.yz
 exact ⟨x0, x1, x2, rfl, h1, h2⟩
abbrev qb : Sh := (.i .i64 (.i .i64 (.i .i64 (.i .i64 (.i .i64 (.i .i64 (.i .i64 (.i .i64 (.i .i64 .nil)))))))))
theorem z0a {N : Nat} {row : List Cell} (h : WT N qb row) : ∃ (x0 : Int) (x1 : Int) (x2 : Int) (x3 : Int) (x4 : Int) (x5 : Int) (x6 : Int) (x7 : Int) (x8 : Int), row = [.s (.int .i64 x0), .s (.int .i64 x1), .s (.int .i64 x2), .s (.int .i64 x3), .s (.int .i64 x4), .s (.int .i64 x5), .s (.int .i64 x6), .s (.int .i64 x7), .s (.int .i64 x8)] := by
 obtain ⟨x0, _, rfl, g0⟩ := h.qx
 obtain ⟨x1, _, rfl, g1⟩ := g0.qx
 obtain ⟨x2, _, rfl, g2⟩ := g1.qx
 obtain ⟨x3, _, rfl, g3⟩ := g2.qx
 obtain ⟨x4, _, rfl, g4⟩ := g3.qx
 obtain ⟨x5, _, rfl, g5⟩ := g4.qx
 obtain ⟨x6, _, rfl, g6⟩ := g5.qx
 obtain ⟨x7, _, rfl, g7⟩ := g6.qx
 obtain ⟨x8, _, rfl, g8⟩ := g7.qx
 obtain rfl := g8.yz
 exact ⟨x0, x1, x2, x3, x4, x5, x6, x7, x8, rfl⟩
abbrev yb : Sh := (.l q7 (.l zb (.l z8 (.l qa (.l qb .nil)))))
theorem z05 {N : Nat} {row : List Cell} (h : WT N yb row) : ∃ (x0 : List (List Cell)) (x1 : List (List Cell)) (x2 : List (List Cell)) (x3 : List (List Cell)) (x4 : List (List Cell)), row = [.l x0, .l x1, .l x2, .l x3, .l x4] ∧ WR N q7 x0 ∧ WR N zb x1 ∧ WR N z8 x2 ∧ WR N qa x3 ∧ WR N qb x4 := by
 obtain ⟨x0, _, rfl, h0, g0⟩ := h.z1f
 obtain ⟨x1, _, rfl, h1, g1⟩ := g0.z1f
 obtain ⟨x2, _, rfl, h2, g2⟩ := g1.z1f
 obtain ⟨x3, _, rfl, h3, g3⟩ := g2.z1f
 obtain ⟨x4, _, rfl, h4, g4⟩ := g3.z1f
 obtain rfl := g4.yz
 exact ⟨x0, x1, x2, x3, x4, rfl, h0, h1, h2, h3, h4⟩
theorem y8o (x0 : Int) (x1 : Int) (x2 : Int) (x3 : Int) (y0 : Int) (y1 : Int) (y2 : Int) (y3 : Int)   : PC Tryz.prog 293 [.agg [.s (.int .i64 x0), .s (.int .i64 x1), .s (.int .i64 x2), .s (.int .i64 x3)], .agg [.s (.int .i64 y0), .s (.int .i64 y1), .s (.int .i64 y2), .s (.int .i64 y3)]] (rB (dE (α := List Cell) [.s (.int .i64 x0), .s (.int .i64 x1), .s (.int .i64 x2), .s (.int .i64 x3)] [.s (.int .i64 y0), .s (.int .i64 y1), .s (.int .i64 y2), .s (.int .i64 y3)])) := by
 refine PC.begin Tryz.func293 rfl (by kernel_rfl) ?_
 refine xb rfl (fun h => ?_) (fun e0 => ?_)
 · exact xv rfl rfl rfl (zl (fun e => by simp only [List.cons.injEq, Cell.s.injEq, Value.int.injEq, Value.bool.injEq, Value.string.injEq] at e; simp [e] at h))
 have e0 : x0 = y0 := by simpa using e0
 refine xb rfl (fun h => ?_) (fun e1 => ?_)
 · exact xv rfl rfl rfl (zl (fun e => by simp only [List.cons.injEq, Cell.s.injEq, Value.int.injEq, Value.bool.injEq, Value.string.injEq] at e; simp [e] at h))
 have e1 : x1 = y1 := by simpa using e1
 refine xb rfl (fun h => ?_) (fun e2 => ?_)
 · exact xv rfl rfl rfl (zl (fun e => by simp only [List.cons.injEq, Cell.s.injEq, Value.int.injEq, Value.bool.injEq, Value.string.injEq] at e; simp [e] at h))
 have e2 : x2 = y2 := by simpa using e2
 refine xb rfl (fun h => ?_) (fun e3 => ?_)
 · exact xv rfl rfl rfl (zl (fun e => by simp only [List.cons.injEq, Cell.s.injEq, Value.int.injEq, Value.bool.injEq, Value.string.injEq] at e; simp [e] at h))
 have e3 : x3 = y3 := by simpa using e3
 exact xv rfl rfl rfl (yx (by simp [e0, e1, e2, e3]))
theorem z7k (p q : List (List Cell)) (hp : WR 9000000000000000000 qw p) (hq : WR 9000000000000000000 qw q) : PC Tryz.prog 216 [.one (.l p), .one (.l q)] (rB (dE p q)) := by
 refine PC.begin Tryz.func216 rfl (by kernel_rfl) ?_
 have hpl := hp.1
 have hql := hq.1
 refine xb rfl ?_ ?_ <;> intro h
 · exact xv rfl rfl rfl (zl (fun e => by subst e; simp at h))
 have hl : p.length = q.length := by simpa [Int.ofNat_inj] using h
 refine yd rfl (ι := Nat) (fun i => i ≤ p.length ∧ p.take i = q.take i) (fun i => ⟨[(5, sV (.int .i64 i)), (0, .one (.b (.l p))), (1, .one (.b (.l q)))], []⟩) (fun i => p.length - i) 0 ⟨Nat.zero_le _, rfl⟩ ?_ ?_
 · repeat' (first | exact trivial | exact rfl | exact Or.inl rfl | refine And.intro ?_ ?_)
 · intro i ⟨hi, he⟩ J hJ
   refine xb rfl ?_ ?_ <;> intro h
   · have h : i < p.length := by simpa using h
     obtain ⟨row, hg⟩ : ∃ row, p[i]? = some row := ⟨_, List.getElem?_eq_getElem h⟩
     obtain ⟨row', hg'⟩ : ∃ row, q[i]? = some row := ⟨_, List.getElem?_eq_getElem (by omega)⟩
     obtain ⟨x0, x1, x2, x3, rfl⟩ := z1x (hp.2 row (List.mem_of_getElem? hg))
     obtain ⟨y0, y1, y2, y3, rfl⟩ := z1x (hq.2 row' (List.mem_of_getElem? hg'))
     refine qd rfl [] (Tk [0, 1, 2] (.take 3 [8, 9] (Tk [4, 5, 6] (.take 7 [8, 9] (.alt 8 (.take 9 [] .done) .nil))))) (by kernel_rfl) ?_
     refine xs rfl (nn_ _) (y9 rfl _ hg (xs rfl rfl ?_))
     refine xs rfl (nn_ _) (y9 rfl _ hg' (xs rfl rfl ?_))
     refine z7 rfl (y8o _ _ _ _ _ _ _ _) rfl ⟨tv5, tv5, trivial⟩ ?_
     refine xb rfl ?_ ?_ <;> intro hb
     · exact xv rfl rfl rfl (zl (fun e => by subst e; rw [hg] at hg'; cases hg'; exact y08 hb rfl))
     · have hb := z08 hb
       refine q9 rfl (hJ _ (i + 1) ⟨by omega, qp he hg (hg'.trans (by rw [hb]))⟩ (by omega) ?_)
       repeat' (first | exact trivial | exact rfl | exact Or.inl rfl | exact cwi (by omega) (by omega) (by omega) | refine And.intro ?_ ?_)
   · have h : ¬ i < p.length := by simpa using h
     exact xv rfl rfl rfl (yx (by rw [show i = p.length by omega, List.take_length] at he; rw [he, hl, List.take_length]))
theorem y49 (x0 : Int) (x1 : List (List Cell)) (y0 : Int) (y1 : List (List Cell)) (h1 : WR 9000000000000000000 qw x1) (k1 : WR 9000000000000000000 qw y1) : PC Tryz.prog 129 [.agg [.s (.int .i64 x0), .l x1], .agg [.s (.int .i64 y0), .l y1]] (rB (dE (α := List Cell) [.s (.int .i64 x0), .l x1] [.s (.int .i64 y0), .l y1])) := by
 refine PC.begin Tryz.func129 rfl (by kernel_rfl) ?_
 refine xb rfl (fun h => ?_) (fun e0 => ?_)
 · exact xv rfl rfl rfl (zl (fun e => by simp only [List.cons.injEq, Cell.s.injEq, Value.int.injEq, Value.bool.injEq, Value.string.injEq] at e; simp [e] at h))
 have e0 : x0 = y0 := by simpa using e0
 refine z7 rfl (z7k _ _ h1 k1) rfl tv3 ?_
 refine xb rfl (fun h => ?_) (fun e1 => ?_)
 · exact xv rfl rfl rfl (zl (fun e => y08 h (by simp only [List.cons.injEq, Cell.l.injEq] at e ⊢; simp only [e]; try trivial)))
 have e1 := z08 e1
 exact xv rfl rfl rfl (yx (by simp [e0, e1]))
theorem y1r (p q : List (List Cell)) (hp : WR 9000000000000000000 q7 p) (hq : WR 9000000000000000000 q7 q) : PC Tryz.prog 54 [.one (.l p), .one (.l q)] (rB (dE p q)) := by
 refine PC.begin Tryz.func54 rfl (by kernel_rfl) ?_
 have hpl := hp.1
 have hql := hq.1
 refine xb rfl ?_ ?_ <;> intro h
 · exact xv rfl rfl rfl (zl (fun e => by subst e; simp at h))
 have hl : p.length = q.length := by simpa [Int.ofNat_inj] using h
 refine yd rfl (ι := Nat) (fun i => i ≤ p.length ∧ p.take i = q.take i) (fun i => ⟨[(5, sV (.int .i64 i)), (0, .one (.b (.l p))), (1, .one (.b (.l q)))], []⟩) (fun i => p.length - i) 0 ⟨Nat.zero_le _, rfl⟩ ?_ ?_
 · repeat' (first | exact trivial | exact rfl | exact Or.inl rfl | refine And.intro ?_ ?_)
 · intro i ⟨hi, he⟩ J hJ
   refine xb rfl ?_ ?_ <;> intro h
   · have h : i < p.length := by simpa using h
     obtain ⟨row, hg⟩ : ∃ row, p[i]? = some row := ⟨_, List.getElem?_eq_getElem h⟩
     obtain ⟨row', hg'⟩ : ∃ row, q[i]? = some row := ⟨_, List.getElem?_eq_getElem (by omega)⟩
     obtain ⟨x0, x1, rfl, h1⟩ := y05 (hp.2 row (List.mem_of_getElem? hg))
     obtain ⟨y0, y1, rfl, k1⟩ := y05 (hq.2 row' (List.mem_of_getElem? hg'))
     refine qd rfl [] (Tk [0, 1, 2] (.take 3 [8, 9] (Tk [4, 5, 6] (.take 7 [8, 9] (.alt 8 (.take 9 [] .done) .nil))))) (by kernel_rfl) ?_
     refine xs rfl (nn_ _) (y9 rfl _ hg (xs rfl rfl ?_))
     refine xs rfl (nn_ _) (y9 rfl _ hg' (xs rfl rfl ?_))
     refine z7 rfl (y49 _ _ _ _ h1 k1) rfl ⟨tv3, tv3, trivial⟩ ?_
     refine xb rfl ?_ ?_ <;> intro hb
     · exact xv rfl rfl rfl (zl (fun e => by subst e; rw [hg] at hg'; cases hg'; exact y08 hb rfl))
     · have hb := z08 hb
       refine q9 rfl (hJ _ (i + 1) ⟨by omega, qp he hg (hg'.trans (by rw [hb]))⟩ (by omega) ?_)
       repeat' (first | exact trivial | exact rfl | exact Or.inl rfl | exact cwi (by omega) (by omega) (by omega) | refine And.intro ?_ ?_)
   · have h : ¬ i < p.length := by simpa using h
     exact xv rfl rfl rfl (yx (by rw [show i = p.length by omega, List.take_length] at he; rw [he, hl, List.take_length]))
theorem z4x (x0 : Int) (x1 : Int) (x2 : Int) (y0 : Int) (y1 : Int) (y2 : Int)   : PC Tryz.prog 215 [.agg [.s (.int .i64 x0), .s (.int .i64 x1), .s (.int .i64 x2)], .agg [.s (.int .i64 y0), .s (.int .i64 y1), .s (.int .i64 y2)]] (rB (dE (α := List Cell) [.s (.int .i64 x0), .s (.int .i64 x1), .s (.int .i64 x2)] [.s (.int .i64 y0), .s (.int .i64 y1), .s (.int .i64 y2)])) := by
 refine PC.begin Tryz.func215 rfl (by kernel_rfl) ?_
 refine xb rfl (fun h => ?_) (fun e0 => ?_)
 · exact xv rfl rfl rfl (zl (fun e => by simp only [List.cons.injEq, Cell.s.injEq, Value.int.injEq, Value.bool.injEq, Value.string.injEq] at e; simp [e] at h))
 have e0 : x0 = y0 := by simpa using e0
 refine xb rfl (fun h => ?_) (fun e1 => ?_)
 · exact xv rfl rfl rfl (zl (fun e => by simp only [List.cons.injEq, Cell.s.injEq, Value.int.injEq, Value.bool.injEq, Value.string.injEq] at e; simp [e] at h))
 have e1 : x1 = y1 := by simpa using e1
 refine xb rfl (fun h => ?_) (fun e2 => ?_)
 · exact xv rfl rfl rfl (zl (fun e => by simp only [List.cons.injEq, Cell.s.injEq, Value.int.injEq, Value.bool.injEq, Value.string.injEq] at e; simp [e] at h))
 have e2 : x2 = y2 := by simpa using e2
 exact xv rfl rfl rfl (yx (by simp [e0, e1, e2]))
theorem z49 (p q : List (List Cell)) (hp : WR 9000000000000000000 ze p) (hq : WR 9000000000000000000 ze q) : PC Tryz.prog 128 [.one (.l p), .one (.l q)] (rB (dE p q)) := by
 refine PC.begin Tryz.func128 rfl (by kernel_rfl) ?_
 have hpl := hp.1
 have hql := hq.1
 refine xb rfl ?_ ?_ <;> intro h
 · exact xv rfl rfl rfl (zl (fun e => by subst e; simp at h))
 have hl : p.length = q.length := by simpa [Int.ofNat_inj] using h
 refine yd rfl (ι := Nat) (fun i => i ≤ p.length ∧ p.take i = q.take i) (fun i => ⟨[(5, sV (.int .i64 i)), (0, .one (.b (.l p))), (1, .one (.b (.l q)))], []⟩) (fun i => p.length - i) 0 ⟨Nat.zero_le _, rfl⟩ ?_ ?_
 · repeat' (first | exact trivial | exact rfl | exact Or.inl rfl | refine And.intro ?_ ?_)
 · intro i ⟨hi, he⟩ J hJ
   refine xb rfl ?_ ?_ <;> intro h
   · have h : i < p.length := by simpa using h
     obtain ⟨row, hg⟩ : ∃ row, p[i]? = some row := ⟨_, List.getElem?_eq_getElem h⟩
     obtain ⟨row', hg'⟩ : ∃ row, q[i]? = some row := ⟨_, List.getElem?_eq_getElem (by omega)⟩
     obtain ⟨x0, x1, x2, rfl⟩ := q09 (hp.2 row (List.mem_of_getElem? hg))
     obtain ⟨y0, y1, y2, rfl⟩ := q09 (hq.2 row' (List.mem_of_getElem? hg'))
     refine qd rfl [] (Tk [0, 1, 2] (.take 3 [8, 9] (Tk [4, 5, 6] (.take 7 [8, 9] (.alt 8 (.take 9 [] .done) .nil))))) (by kernel_rfl) ?_
     refine xs rfl (nn_ _) (y9 rfl _ hg (xs rfl rfl ?_))
     refine xs rfl (nn_ _) (y9 rfl _ hg' (xs rfl rfl ?_))
     refine z7 rfl (z4x _ _ _ _ _ _) rfl ⟨tv4, tv4, trivial⟩ ?_
     refine xb rfl ?_ ?_ <;> intro hb
     · exact xv rfl rfl rfl (zl (fun e => by subst e; rw [hg] at hg'; cases hg'; exact y08 hb rfl))
     · have hb := z08 hb
       refine q9 rfl (hJ _ (i + 1) ⟨by omega, qp he hg (hg'.trans (by rw [hb]))⟩ (by omega) ?_)
       repeat' (first | exact trivial | exact rfl | exact Or.inl rfl | exact cwi (by omega) (by omega) (by omega) | refine And.intro ?_ ?_)
   · have h : ¬ i < p.length := by simpa using h
     exact xv rfl rfl rfl (yx (by rw [show i = p.length by omega, List.take_length] at he; rw [he, hl, List.take_length]))
theorem y7k (x0 : Int) (x1 : Int) (y0 : Int) (y1 : Int)   : PC Tryz.prog 294 [.agg [.s (.int .i64 x0), .s (.int .i64 x1)], .agg [.s (.int .i64 y0), .s (.int .i64 y1)]] (rB (dE (α := List Cell) [.s (.int .i64 x0), .s (.int .i64 x1)] [.s (.int .i64 y0), .s (.int .i64 y1)])) := by
 refine PC.begin Tryz.func294 rfl (by kernel_rfl) ?_
 refine xb rfl (fun h => ?_) (fun e0 => ?_)
 · exact xv rfl rfl rfl (zl (fun e => by simp only [List.cons.injEq, Cell.s.injEq, Value.int.injEq, Value.bool.injEq, Value.string.injEq] at e; simp [e] at h))
 have e0 : x0 = y0 := by simpa using e0
 refine xb rfl (fun h => ?_) (fun e1 => ?_)
 · exact xv rfl rfl rfl (zl (fun e => by simp only [List.cons.injEq, Cell.s.injEq, Value.int.injEq, Value.bool.injEq, Value.string.injEq] at e; simp [e] at h))
 have e1 : x1 = y1 := by simpa using e1
 exact xv rfl rfl rfl (yx (by simp [e0, e1]))
theorem z3v (p q : List (List Cell)) (hp : WR 9000000000000000000 zh p) (hq : WR 9000000000000000000 zh q) : PC Tryz.prog 217 [.one (.l p), .one (.l q)] (rB (dE p q)) := by
 refine PC.begin Tryz.func217 rfl (by kernel_rfl) ?_
 have hpl := hp.1
 have hql := hq.1
 refine xb rfl ?_ ?_ <;> intro h
 · exact xv rfl rfl rfl (zl (fun e => by subst e; simp at h))
 have hl : p.length = q.length := by simpa [Int.ofNat_inj] using h
 refine yd rfl (ι := Nat) (fun i => i ≤ p.length ∧ p.take i = q.take i) (fun i => ⟨[(5, sV (.int .i64 i)), (0, .one (.b (.l p))), (1, .one (.b (.l q)))], []⟩) (fun i => p.length - i) 0 ⟨Nat.zero_le _, rfl⟩ ?_ ?_
 · repeat' (first | exact trivial | exact rfl | exact Or.inl rfl | refine And.intro ?_ ?_)
 · intro i ⟨hi, he⟩ J hJ
   refine xb rfl ?_ ?_ <;> intro h
   · have h : i < p.length := by simpa using h
     obtain ⟨row, hg⟩ : ∃ row, p[i]? = some row := ⟨_, List.getElem?_eq_getElem h⟩
     obtain ⟨row', hg'⟩ : ∃ row, q[i]? = some row := ⟨_, List.getElem?_eq_getElem (by omega)⟩
     obtain ⟨x0, x1, rfl⟩ := q16 (hp.2 row (List.mem_of_getElem? hg))
     obtain ⟨y0, y1, rfl⟩ := q16 (hq.2 row' (List.mem_of_getElem? hg'))
     refine qd rfl [] (Tk [0, 1, 2] (.take 3 [8, 9] (Tk [4, 5, 6] (.take 7 [8, 9] (.alt 8 (.take 9 [] .done) .nil))))) (by kernel_rfl) ?_
     refine xs rfl (nn_ _) (y9 rfl _ hg (xs rfl rfl ?_))
     refine xs rfl (nn_ _) (y9 rfl _ hg' (xs rfl rfl ?_))
     refine z7 rfl (y7k _ _ _ _) rfl ⟨tv3, tv3, trivial⟩ ?_
     refine xb rfl ?_ ?_ <;> intro hb
     · exact xv rfl rfl rfl (zl (fun e => by subst e; rw [hg] at hg'; cases hg'; exact y08 hb rfl))
     · have hb := z08 hb
       refine q9 rfl (hJ _ (i + 1) ⟨by omega, qp he hg (hg'.trans (by rw [hb]))⟩ (by omega) ?_)
       repeat' (first | exact trivial | exact rfl | exact Or.inl rfl | exact cwi (by omega) (by omega) (by omega) | refine And.intro ?_ ?_)
   · have h : ¬ i < p.length := by simpa using h
     exact xv rfl rfl rfl (yx (by rw [show i = p.length by omega, List.take_length] at he; rw [he, hl, List.take_length]))
theorem z33 (p q : List (List Cell)) (hp : WR 9000000000000000000 (.i .i64 .nil) p) (hq : WR 9000000000000000000 (.i .i64 .nil) q) : PC Tryz.prog 218 [.one (.l p), .one (.l q)] (rB (dE p q)) := by
 refine PC.begin Tryz.func218 rfl (by kernel_rfl) ?_
 have hpl := hp.1
 have hql := hq.1
 refine xb rfl ?_ ?_ <;> intro h
 · exact xv rfl rfl rfl (zl (fun e => by subst e; simp at h))
 have hl : p.length = q.length := by simpa [Int.ofNat_inj] using h
 refine yd rfl (ι := Nat) (fun i => i ≤ p.length ∧ p.take i = q.take i) (fun i => ⟨[(5, sV (.int .i64 i)), (0, .one (.b (.l p))), (1, .one (.b (.l q)))], []⟩) (fun i => p.length - i) 0 ⟨Nat.zero_le _, rfl⟩ ?_ ?_
 · repeat' (first | exact trivial | exact rfl | exact Or.inl rfl | refine And.intro ?_ ?_)
 · intro i ⟨hi, he⟩ J hJ
   refine xb rfl ?_ ?_ <;> intro h
   · have h : i < p.length := by simpa using h
     obtain ⟨row, hg⟩ : ∃ row, p[i]? = some row := ⟨_, List.getElem?_eq_getElem h⟩
     obtain ⟨row', hg'⟩ : ∃ row, q[i]? = some row := ⟨_, List.getElem?_eq_getElem (by omega)⟩
     obtain ⟨x0, _, rfl, hnil⟩ := ((hp.2 row (List.mem_of_getElem? hg))).qx; obtain rfl := hnil.yz
     obtain ⟨y0, _, rfl, knil⟩ := ((hq.2 row' (List.mem_of_getElem? hg'))).qx; obtain rfl := knil.yz
     refine qd rfl [] (Tk [0, 1, 2] (.take 3 [8] (Tk [4, 5, 6] (.take 7 [8] (.take 8 [] .done))))) (by kernel_rfl) ?_
     refine xs rfl (nn_ _) (y9 rfl _ hg (xs rfl rfl ?_))
     refine xs rfl (nn_ _) (y9 rfl _ hg' (xs rfl rfl ?_))
     refine xb rfl ?_ ?_ <;> intro hb
     · exact xv rfl rfl rfl (zl (fun e => by subst e; rw [hg] at hg'; cases hg'; simp at hb))
     · have hb : x0 = y0 := by simpa using hb
       refine q9 rfl (hJ _ (i + 1) ⟨by omega, qp he hg (hg'.trans (by rw [hb]))⟩ (by omega) ?_)
       repeat' (first | exact trivial | exact rfl | exact Or.inl rfl | exact cwi (by omega) (by omega) (by omega) | refine And.intro ?_ ?_)
   · have h : ¬ i < p.length := by simpa using h
     exact xv rfl rfl rfl (yx (by rw [show i = p.length by omega, List.take_length] at he; rw [he, hl, List.take_length]))
theorem y6q (x0 : Int) (x1 : List (List Cell)) (x2 : List (List Cell)) (x3 : List (List Cell)) (x4 : List (List Cell)) (x5 : List (List Cell)) (y0 : Int) (y1 : List (List Cell)) (y2 : List (List Cell)) (y3 : List (List Cell)) (y4 : List (List Cell)) (y5 : List (List Cell)) (h1 : WR 9000000000000000000 ze x1) (h2 : WR 9000000000000000000 zh x2) (h3 : WR 9000000000000000000 q7 x3) (h4 : WR 9000000000000000000 zh x4) (h5 : WR 9000000000000000000 (.i .i64 .nil) x5) (k1 : WR 9000000000000000000 ze y1) (k2 : WR 9000000000000000000 zh y2) (k3 : WR 9000000000000000000 q7 y3) (k4 : WR 9000000000000000000 zh y4) (k5 : WR 9000000000000000000 (.i .i64 .nil) y5) : PC Tryz.prog 130 [.agg [.s (.int .i64 x0), .l x1, .l x2, .l x3, .l x4, .l x5], .agg [.s (.int .i64 y0), .l y1, .l y2, .l y3, .l y4, .l y5]] (rB (dE (α := List Cell) [.s (.int .i64 x0), .l x1, .l x2, .l x3, .l x4, .l x5] [.s (.int .i64 y0), .l y1, .l y2, .l y3, .l y4, .l y5])) := by
 refine PC.begin Tryz.func130 rfl (by kernel_rfl) ?_
 refine xb rfl (fun h => ?_) (fun e0 => ?_)
 · exact xv rfl rfl rfl (zl (fun e => by simp only [List.cons.injEq, Cell.s.injEq, Value.int.injEq, Value.bool.injEq, Value.string.injEq] at e; simp [e] at h))
 have e0 : x0 = y0 := by simpa using e0
 refine z7 rfl (z49 _ _ h1 k1) rfl tv3 ?_
 refine xb rfl (fun h => ?_) (fun e1 => ?_)
 · exact xv rfl rfl rfl (zl (fun e => y08 h (by simp only [List.cons.injEq, Cell.l.injEq] at e ⊢; simp only [e]; try trivial)))
 have e1 := z08 e1
 refine z7 rfl (z3v _ _ h2 k2) rfl tv3 ?_
 refine xb rfl (fun h => ?_) (fun e2 => ?_)
 · exact xv rfl rfl rfl (zl (fun e => y08 h (by simp only [List.cons.injEq, Cell.l.injEq] at e ⊢; simp only [e]; try trivial)))
 have e2 := z08 e2
 refine z7 rfl (y1r _ _ h3 k3) rfl tv3 ?_
 refine xb rfl (fun h => ?_) (fun e3 => ?_)
 · exact xv rfl rfl rfl (zl (fun e => y08 h (by simp only [List.cons.injEq, Cell.l.injEq] at e ⊢; simp only [e]; try trivial)))
 have e3 := z08 e3
 refine z7 rfl (z3v _ _ h4 k4) rfl tv3 ?_
 refine xb rfl (fun h => ?_) (fun e4 => ?_)
 · exact xv rfl rfl rfl (zl (fun e => y08 h (by simp only [List.cons.injEq, Cell.l.injEq] at e ⊢; simp only [e]; try trivial)))
 have e4 := z08 e4
 refine z7 rfl (z33 _ _ h5 k5) rfl tv3 ?_
 refine xb rfl (fun h => ?_) (fun e5 => ?_)
 · exact xv rfl rfl rfl (zl (fun e => y08 h (by simp only [List.cons.injEq, Cell.l.injEq] at e ⊢; simp only [e]; try trivial)))
 have e5 := z08 e5
 exact xv rfl rfl rfl (yx (by simp [e0, e1, e2, e3, e4, e5]))
theorem q5l (p q : List (List Cell)) (hp : WR 9000000000000000000 zb p) (hq : WR 9000000000000000000 zb q) : PC Tryz.prog 55 [.one (.l p), .one (.l q)] (rB (dE p q)) := by
 refine PC.begin Tryz.func55 rfl (by kernel_rfl) ?_
 have hpl := hp.1
 have hql := hq.1
 refine xb rfl ?_ ?_ <;> intro h
 · exact xv rfl rfl rfl (zl (fun e => by subst e; simp at h))
 have hl : p.length = q.length := by simpa [Int.ofNat_inj] using h
 refine yd rfl (ι := Nat) (fun i => i ≤ p.length ∧ p.take i = q.take i) (fun i => ⟨[(5, sV (.int .i64 i)), (0, .one (.b (.l p))), (1, .one (.b (.l q)))], []⟩) (fun i => p.length - i) 0 ⟨Nat.zero_le _, rfl⟩ ?_ ?_
 · repeat' (first | exact trivial | exact rfl | exact Or.inl rfl | refine And.intro ?_ ?_)
 · intro i ⟨hi, he⟩ J hJ
   refine xb rfl ?_ ?_ <;> intro h
   · have h : i < p.length := by simpa using h
     obtain ⟨row, hg⟩ : ∃ row, p[i]? = some row := ⟨_, List.getElem?_eq_getElem h⟩
     obtain ⟨row', hg'⟩ : ∃ row, q[i]? = some row := ⟨_, List.getElem?_eq_getElem (by omega)⟩
     obtain ⟨x0, x1, x2, x3, x4, x5, rfl, h1, h2, h3, h4, h5⟩ := z0q (hp.2 row (List.mem_of_getElem? hg))
     obtain ⟨y0, y1, y2, y3, y4, y5, rfl, k1, k2, k3, k4, k5⟩ := z0q (hq.2 row' (List.mem_of_getElem? hg'))
     refine qd rfl [] (Tk [0, 1, 2] (.take 3 [8, 9] (Tk [4, 5, 6] (.take 7 [8, 9] (.alt 8 (.take 9 [] .done) .nil))))) (by kernel_rfl) ?_
     refine xs rfl (nn_ _) (y9 rfl _ hg (xs rfl rfl ?_))
     refine xs rfl (nn_ _) (y9 rfl _ hg' (xs rfl rfl ?_))
     refine z7 rfl (y6q _ _ _ _ _ _ _ _ _ _ _ _ h1 h2 h3 h4 h5 k1 k2 k3 k4 k5) rfl ⟨tv7, tv7, trivial⟩ ?_
     refine xb rfl ?_ ?_ <;> intro hb
     · exact xv rfl rfl rfl (zl (fun e => by subst e; rw [hg] at hg'; cases hg'; exact y08 hb rfl))
     · have hb := z08 hb
       refine q9 rfl (hJ _ (i + 1) ⟨by omega, qp he hg (hg'.trans (by rw [hb]))⟩ (by omega) ?_)
       repeat' (first | exact trivial | exact rfl | exact Or.inl rfl | exact cwi (by omega) (by omega) (by omega) | refine And.intro ?_ ?_)
   · have h : ¬ i < p.length := by simpa using h
     exact xv rfl rfl rfl (yx (by rw [show i = p.length by omega, List.take_length] at he; rw [he, hl, List.take_length]))
theorem y33 (x0 : Int) (x1 : Int) (y0 : Int) (y1 : Int)   : PC Tryz.prog 222 [.agg [.s (.int .i64 x0), .s (.int .i64 x1)], .agg [.s (.int .i64 y0), .s (.int .i64 y1)]] (rB (dE (α := List Cell) [.s (.int .i64 x0), .s (.int .i64 x1)] [.s (.int .i64 y0), .s (.int .i64 y1)])) := by
 refine PC.begin Tryz.func222 rfl (by kernel_rfl) ?_
 refine xb rfl (fun h => ?_) (fun e0 => ?_)
 · exact xv rfl rfl rfl (zl (fun e => by simp only [List.cons.injEq, Cell.s.injEq, Value.int.injEq, Value.bool.injEq, Value.string.injEq] at e; simp [e] at h))
 have e0 : x0 = y0 := by simpa using e0
 refine xb rfl (fun h => ?_) (fun e1 => ?_)
 · exact xv rfl rfl rfl (zl (fun e => by simp only [List.cons.injEq, Cell.s.injEq, Value.int.injEq, Value.bool.injEq, Value.string.injEq] at e; simp [e] at h))
 have e1 : x1 = y1 := by simpa using e1
 exact xv rfl rfl rfl (yx (by simp [e0, e1]))
theorem y3v (p q : List (List Cell)) (hp : WR 9000000000000000000 yk p) (hq : WR 9000000000000000000 yk q) : PC Tryz.prog 352 [.one (.l p), .one (.l q)] (rB (dE p q)) := by
 refine PC.begin Tryz.func352 rfl (by kernel_rfl) ?_
 have hpl := hp.1
 have hql := hq.1
 refine xb rfl ?_ ?_ <;> intro h
 · exact xv rfl rfl rfl (zl (fun e => by subst e; simp at h))
 have hl : p.length = q.length := by simpa [Int.ofNat_inj] using h
 refine yd rfl (ι := Nat) (fun i => i ≤ p.length ∧ p.take i = q.take i) (fun i => ⟨[(5, sV (.int .i64 i)), (0, .one (.b (.l p))), (1, .one (.b (.l q)))], []⟩) (fun i => p.length - i) 0 ⟨Nat.zero_le _, rfl⟩ ?_ ?_
 · repeat' (first | exact trivial | exact rfl | exact Or.inl rfl | refine And.intro ?_ ?_)
 · intro i ⟨hi, he⟩ J hJ
   refine xb rfl ?_ ?_ <;> intro h
   · have h : i < p.length := by simpa using h
     obtain ⟨row, hg⟩ : ∃ row, p[i]? = some row := ⟨_, List.getElem?_eq_getElem h⟩
     obtain ⟨row', hg'⟩ : ∃ row, q[i]? = some row := ⟨_, List.getElem?_eq_getElem (by omega)⟩
     obtain ⟨x0, x1, rfl⟩ := y17 (hp.2 row (List.mem_of_getElem? hg))
     obtain ⟨y0, y1, rfl⟩ := y17 (hq.2 row' (List.mem_of_getElem? hg'))
     refine qd rfl [] (Tk [0, 1, 2] (.take 3 [8, 9] (Tk [4, 5, 6] (.take 7 [8, 9] (.alt 8 (.take 9 [] .done) .nil))))) (by kernel_rfl) ?_
     refine xs rfl (nn_ _) (y9 rfl _ hg (xs rfl rfl ?_))
     refine xs rfl (nn_ _) (y9 rfl _ hg' (xs rfl rfl ?_))
     refine z7 rfl (y33 _ _ _ _) rfl ⟨tv3, tv3, trivial⟩ ?_
     refine xb rfl ?_ ?_ <;> intro hb
     · exact xv rfl rfl rfl (zl (fun e => by subst e; rw [hg] at hg'; cases hg'; exact y08 hb rfl))
     · have hb := z08 hb
       refine q9 rfl (hJ _ (i + 1) ⟨by omega, qp he hg (hg'.trans (by rw [hb]))⟩ (by omega) ?_)
       repeat' (first | exact trivial | exact rfl | exact Or.inl rfl | exact cwi (by omega) (by omega) (by omega) | refine And.intro ?_ ?_)
   · have h : ¬ i < p.length := by simpa using h
     exact xv rfl rfl rfl (yx (by rw [show i = p.length by omega, List.take_length] at he; rw [he, hl, List.take_length]))
theorem q7k (x0 : Int) (x1 : Int) (x2 : Int) (x3 : Int) (x4 : Int) (x5 : List (List Cell)) (y0 : Int) (y1 : Int) (y2 : Int) (y3 : Int) (y4 : Int) (y5 : List (List Cell)) (h5 : WR 9000000000000000000 yk x5) (k5 : WR 9000000000000000000 yk y5) : PC Tryz.prog 295 [.agg [.s (.int .i64 x0), .s (.int .i64 x1), .s (.int .i64 x2), .s (.int .i64 x3), .s (.int .i64 x4), .l x5], .agg [.s (.int .i64 y0), .s (.int .i64 y1), .s (.int .i64 y2), .s (.int .i64 y3), .s (.int .i64 y4), .l y5]] (rB (dE (α := List Cell) [.s (.int .i64 x0), .s (.int .i64 x1), .s (.int .i64 x2), .s (.int .i64 x3), .s (.int .i64 x4), .l x5] [.s (.int .i64 y0), .s (.int .i64 y1), .s (.int .i64 y2), .s (.int .i64 y3), .s (.int .i64 y4), .l y5])) := by
 refine PC.begin Tryz.func295 rfl (by kernel_rfl) ?_
 refine xb rfl (fun h => ?_) (fun e0 => ?_)
 · exact xv rfl rfl rfl (zl (fun e => by simp only [List.cons.injEq, Cell.s.injEq, Value.int.injEq, Value.bool.injEq, Value.string.injEq] at e; simp [e] at h))
 have e0 : x0 = y0 := by simpa using e0
 refine xb rfl (fun h => ?_) (fun e1 => ?_)
 · exact xv rfl rfl rfl (zl (fun e => by simp only [List.cons.injEq, Cell.s.injEq, Value.int.injEq, Value.bool.injEq, Value.string.injEq] at e; simp [e] at h))
 have e1 : x1 = y1 := by simpa using e1
 refine xb rfl (fun h => ?_) (fun e2 => ?_)
 · exact xv rfl rfl rfl (zl (fun e => by simp only [List.cons.injEq, Cell.s.injEq, Value.int.injEq, Value.bool.injEq, Value.string.injEq] at e; simp [e] at h))
 have e2 : x2 = y2 := by simpa using e2
 refine z7 rfl (y33 _ _ _ _) rfl ⟨tv3, tv3, trivial⟩ ?_
 refine xb rfl (fun h => ?_) (fun e3 => ?_)
 · exact xv rfl rfl rfl (zl (fun e => y08 h (by simp only [List.cons.injEq, Cell.l.injEq] at e ⊢; simp only [e]; try trivial)))
 have e3 := z08 e3
 simp only [List.cons.injEq, Cell.s.injEq, Cell.l.injEq, Value.int.injEq, Value.bool.injEq, and_true, true_and] at e3
 refine z7 rfl (y3v _ _ h5 k5) rfl tv3 ?_
 refine xb rfl (fun h => ?_) (fun e5 => ?_)
 · exact xv rfl rfl rfl (zl (fun e => y08 h (by simp only [List.cons.injEq, Cell.l.injEq] at e ⊢; simp only [e]; try trivial)))
 have e5 := z08 e5
 exact xv rfl rfl rfl (yx (by simp [e0, e1, e2, e3, e5]))
theorem q6q (p q : List (List Cell)) (hp : WR 9000000000000000000 qj p) (hq : WR 9000000000000000000 qj q) : PC Tryz.prog 219 [.one (.l p), .one (.l q)] (rB (dE p q)) := by
 refine PC.begin Tryz.func219 rfl (by kernel_rfl) ?_
 have hpl := hp.1
 have hql := hq.1
 refine xb rfl ?_ ?_ <;> intro h
 · exact xv rfl rfl rfl (zl (fun e => by subst e; simp at h))
 have hl : p.length = q.length := by simpa [Int.ofNat_inj] using h
 refine yd rfl (ι := Nat) (fun i => i ≤ p.length ∧ p.take i = q.take i) (fun i => ⟨[(5, sV (.int .i64 i)), (0, .one (.b (.l p))), (1, .one (.b (.l q)))], []⟩) (fun i => p.length - i) 0 ⟨Nat.zero_le _, rfl⟩ ?_ ?_
 · repeat' (first | exact trivial | exact rfl | exact Or.inl rfl | refine And.intro ?_ ?_)
 · intro i ⟨hi, he⟩ J hJ
   refine xb rfl ?_ ?_ <;> intro h
   · have h : i < p.length := by simpa using h
     obtain ⟨row, hg⟩ : ∃ row, p[i]? = some row := ⟨_, List.getElem?_eq_getElem h⟩
     obtain ⟨row', hg'⟩ : ∃ row, q[i]? = some row := ⟨_, List.getElem?_eq_getElem (by omega)⟩
     obtain ⟨x0, x1, x2, x3, x4, x5, rfl, h5⟩ := z17 (hp.2 row (List.mem_of_getElem? hg))
     obtain ⟨y0, y1, y2, y3, y4, y5, rfl, k5⟩ := z17 (hq.2 row' (List.mem_of_getElem? hg'))
     refine qd rfl [] (Tk [0, 1, 2] (.take 3 [8, 9] (Tk [4, 5, 6] (.take 7 [8, 9] (.alt 8 (.take 9 [] .done) .nil))))) (by kernel_rfl) ?_
     refine xs rfl (nn_ _) (y9 rfl _ hg (xs rfl rfl ?_))
     refine xs rfl (nn_ _) (y9 rfl _ hg' (xs rfl rfl ?_))
     refine z7 rfl (q7k _ _ _ _ _ _ _ _ _ _ _ _ h5 k5) rfl ⟨tv7, tv7, trivial⟩ ?_
     refine xb rfl ?_ ?_ <;> intro hb
     · exact xv rfl rfl rfl (zl (fun e => by subst e; rw [hg] at hg'; cases hg'; exact y08 hb rfl))
     · have hb := z08 hb
       refine q9 rfl (hJ _ (i + 1) ⟨by omega, qp he hg (hg'.trans (by rw [hb]))⟩ (by omega) ?_)
       repeat' (first | exact trivial | exact rfl | exact Or.inl rfl | exact cwi (by omega) (by omega) (by omega) | refine And.intro ?_ ?_)
   · have h : ¬ i < p.length := by simpa using h
     exact xv rfl rfl rfl (yx (by rw [show i = p.length by omega, List.take_length] at he; rw [he, hl, List.take_length]))
theorem q48 (x0 : List (List Cell)) (y0 : List (List Cell)) (h0 : WR 9000000000000000000 qj x0) (k0 : WR 9000000000000000000 qj y0) : PC Tryz.prog 131 [.agg [.l x0], .agg [.l y0]] (rB (dE (α := List Cell) [.l x0] [.l y0])) := by
 refine PC.begin Tryz.func131 rfl (by kernel_rfl) ?_
 refine z7 rfl (q6q _ _ h0 k0) rfl tv3 ?_
 refine xb rfl (fun h => ?_) (fun e0 => ?_)
 · exact xv rfl rfl rfl (zl (fun e => y08 h (by simp only [List.cons.injEq, Cell.l.injEq] at e ⊢; simp only [e]; try trivial)))
 have e0 := z08 e0
 exact xv rfl rfl rfl (yx (by simp [e0]))
theorem q3n (p q : List (List Cell)) (hp : WR 9000000000000000000 z8 p) (hq : WR 9000000000000000000 z8 q) : PC Tryz.prog 56 [.one (.l p), .one (.l q)] (rB (dE p q)) := by
 refine PC.begin Tryz.func56 rfl (by kernel_rfl) ?_
 have hpl := hp.1
 have hql := hq.1
 refine xb rfl ?_ ?_ <;> intro h
 · exact xv rfl rfl rfl (zl (fun e => by subst e; simp at h))
 have hl : p.length = q.length := by simpa [Int.ofNat_inj] using h
 refine yd rfl (ι := Nat) (fun i => i ≤ p.length ∧ p.take i = q.take i) (fun i => ⟨[(5, sV (.int .i64 i)), (0, .one (.b (.l p))), (1, .one (.b (.l q)))], []⟩) (fun i => p.length - i) 0 ⟨Nat.zero_le _, rfl⟩ ?_ ?_
 · repeat' (first | exact trivial | exact rfl | exact Or.inl rfl | refine And.intro ?_ ?_)
 · intro i ⟨hi, he⟩ J hJ
   refine xb rfl ?_ ?_ <;> intro h
   · have h : i < p.length := by simpa using h
     obtain ⟨row, hg⟩ : ∃ row, p[i]? = some row := ⟨_, List.getElem?_eq_getElem h⟩
     obtain ⟨row', hg'⟩ : ∃ row, q[i]? = some row := ⟨_, List.getElem?_eq_getElem (by omega)⟩
     obtain ⟨x0, rfl, h0⟩ := q04 (hp.2 row (List.mem_of_getElem? hg))
     obtain ⟨y0, rfl, k0⟩ := q04 (hq.2 row' (List.mem_of_getElem? hg'))
     refine qd rfl [] (Tk [0, 1, 2] (.take 3 [8, 9] (Tk [4, 5, 6] (.take 7 [8, 9] (.alt 8 (.take 9 [] .done) .nil))))) (by kernel_rfl) ?_
     refine xs rfl (nn_ _) (y9 rfl _ hg (xs rfl rfl ?_))
     refine xs rfl (nn_ _) (y9 rfl _ hg' (xs rfl rfl ?_))
     refine z7 rfl (q48 _ _ h0 k0) rfl ⟨⟨trivial, trivial⟩, ⟨trivial, trivial⟩, trivial⟩ ?_
     refine xb rfl ?_ ?_ <;> intro hb
     · exact xv rfl rfl rfl (zl (fun e => by subst e; rw [hg] at hg'; cases hg'; exact y08 hb rfl))
     · have hb := z08 hb
       refine q9 rfl (hJ _ (i + 1) ⟨by omega, qp he hg (hg'.trans (by rw [hb]))⟩ (by omega) ?_)
       repeat' (first | exact trivial | exact rfl | exact Or.inl rfl | exact cwi (by omega) (by omega) (by omega) | refine And.intro ?_ ?_)
   · have h : ¬ i < p.length := by simpa using h
     exact xv rfl rfl rfl (yx (by rw [show i = p.length by omega, List.take_length] at he; rw [he, hl, List.take_length]))
theorem q8o (x0 : Int) (x1 : Int) (x2 : Int) (x3 : Int) (x4 : List (List Cell)) (x5 : List (List Cell)) (y0 : Int) (y1 : Int) (y2 : Int) (y3 : Int) (y4 : List (List Cell)) (y5 : List (List Cell)) (h4 : WR 9000000000000000000 (.i .i64 .nil) x4) (h5 : WR 9000000000000000000 yk x5) (k4 : WR 9000000000000000000 (.i .i64 .nil) y4) (k5 : WR 9000000000000000000 yk y5) : PC Tryz.prog 296 [.agg [.s (.int .i64 x0), .s (.int .i64 x1), .s (.int .i64 x2), .s (.int .i64 x3), .l x4, .l x5], .agg [.s (.int .i64 y0), .s (.int .i64 y1), .s (.int .i64 y2), .s (.int .i64 y3), .l y4, .l y5]] (rB (dE (α := List Cell) [.s (.int .i64 x0), .s (.int .i64 x1), .s (.int .i64 x2), .s (.int .i64 x3), .l x4, .l x5] [.s (.int .i64 y0), .s (.int .i64 y1), .s (.int .i64 y2), .s (.int .i64 y3), .l y4, .l y5])) := by
 refine PC.begin Tryz.func296 rfl (by kernel_rfl) ?_
 refine xb rfl (fun h => ?_) (fun e0 => ?_)
 · exact xv rfl rfl rfl (zl (fun e => by simp only [List.cons.injEq, Cell.s.injEq, Value.int.injEq, Value.bool.injEq, Value.string.injEq] at e; simp [e] at h))
 have e0 : x0 = y0 := by simpa using e0
 refine xb rfl (fun h => ?_) (fun e1 => ?_)
 · exact xv rfl rfl rfl (zl (fun e => by simp only [List.cons.injEq, Cell.s.injEq, Value.int.injEq, Value.bool.injEq, Value.string.injEq] at e; simp [e] at h))
 have e1 : x1 = y1 := by simpa using e1
 refine xb rfl (fun h => ?_) (fun e2 => ?_)
 · exact xv rfl rfl rfl (zl (fun e => by simp only [List.cons.injEq, Cell.s.injEq, Value.int.injEq, Value.bool.injEq, Value.string.injEq] at e; simp [e] at h))
 have e2 : x2 = y2 := by simpa using e2
 refine xb rfl (fun h => ?_) (fun e3 => ?_)
 · exact xv rfl rfl rfl (zl (fun e => by simp only [List.cons.injEq, Cell.s.injEq, Value.int.injEq, Value.bool.injEq, Value.string.injEq] at e; simp [e] at h))
 have e3 : x3 = y3 := by simpa using e3
 refine z7 rfl (z33 _ _ h4 k4) rfl tv3 ?_
 refine xb rfl (fun h => ?_) (fun e4 => ?_)
 · exact xv rfl rfl rfl (zl (fun e => y08 h (by simp only [List.cons.injEq, Cell.l.injEq] at e ⊢; simp only [e]; try trivial)))
 have e4 := z08 e4
 refine z7 rfl (y3v _ _ h5 k5) rfl tv3 ?_
 refine xb rfl (fun h => ?_) (fun e5 => ?_)
 · exact xv rfl rfl rfl (zl (fun e => y08 h (by simp only [List.cons.injEq, Cell.l.injEq] at e ⊢; simp only [e]; try trivial)))
 have e5 := z08 e5
 exact xv rfl rfl rfl (yx (by simp [e0, e1, e2, e3, e4, e5]))
theorem z7l (p q : List (List Cell)) (hp : WR 9000000000000000000 zp p) (hq : WR 9000000000000000000 zp q) : PC Tryz.prog 220 [.one (.l p), .one (.l q)] (rB (dE p q)) := by
 refine PC.begin Tryz.func220 rfl (by kernel_rfl) ?_
 have hpl := hp.1
 have hql := hq.1
 refine xb rfl ?_ ?_ <;> intro h
 · exact xv rfl rfl rfl (zl (fun e => by subst e; simp at h))
 have hl : p.length = q.length := by simpa [Int.ofNat_inj] using h
 refine yd rfl (ι := Nat) (fun i => i ≤ p.length ∧ p.take i = q.take i) (fun i => ⟨[(5, sV (.int .i64 i)), (0, .one (.b (.l p))), (1, .one (.b (.l q)))], []⟩) (fun i => p.length - i) 0 ⟨Nat.zero_le _, rfl⟩ ?_ ?_
 · repeat' (first | exact trivial | exact rfl | exact Or.inl rfl | refine And.intro ?_ ?_)
 · intro i ⟨hi, he⟩ J hJ
   refine xb rfl ?_ ?_ <;> intro h
   · have h : i < p.length := by simpa using h
     obtain ⟨row, hg⟩ : ∃ row, p[i]? = some row := ⟨_, List.getElem?_eq_getElem h⟩
     obtain ⟨row', hg'⟩ : ∃ row, q[i]? = some row := ⟨_, List.getElem?_eq_getElem (by omega)⟩
     obtain ⟨x0, x1, x2, x3, x4, x5, rfl, h4, h5⟩ := y1x (hp.2 row (List.mem_of_getElem? hg))
     obtain ⟨y0, y1, y2, y3, y4, y5, rfl, k4, k5⟩ := y1x (hq.2 row' (List.mem_of_getElem? hg'))
     refine qd rfl [] (Tk [0, 1, 2] (.take 3 [8, 9] (Tk [4, 5, 6] (.take 7 [8, 9] (.alt 8 (.take 9 [] .done) .nil))))) (by kernel_rfl) ?_
     refine xs rfl (nn_ _) (y9 rfl _ hg (xs rfl rfl ?_))
     refine xs rfl (nn_ _) (y9 rfl _ hg' (xs rfl rfl ?_))
     refine z7 rfl (q8o _ _ _ _ _ _ _ _ _ _ _ _ h4 h5 k4 k5) rfl ⟨tv7, tv7, trivial⟩ ?_
     refine xb rfl ?_ ?_ <;> intro hb
     · exact xv rfl rfl rfl (zl (fun e => by subst e; rw [hg] at hg'; cases hg'; exact y08 hb rfl))
     · have hb := z08 hb
       refine q9 rfl (hJ _ (i + 1) ⟨by omega, qp he hg (hg'.trans (by rw [hb]))⟩ (by omega) ?_)
       repeat' (first | exact trivial | exact rfl | exact Or.inl rfl | exact cwi (by omega) (by omega) (by omega) | refine And.intro ?_ ?_)
   · have h : ¬ i < p.length := by simpa using h
     exact xv rfl rfl rfl (yx (by rw [show i = p.length by omega, List.take_length] at he; rw [he, hl, List.take_length]))
theorem z6q (x0 : Int) (x1 : Int) (x2 : Int) (x3 : Int) (x4 : Int) (y0 : Int) (y1 : Int) (y2 : Int) (y3 : Int) (y4 : Int)   : PC Tryz.prog 297 [.agg [.s (.int .i64 x0), .s (.int .i64 x1), .s (.int .i64 x2), .s (.int .i64 x3), .s (.int .i64 x4)], .agg [.s (.int .i64 y0), .s (.int .i64 y1), .s (.int .i64 y2), .s (.int .i64 y3), .s (.int .i64 y4)]] (rB (dE (α := List Cell) [.s (.int .i64 x0), .s (.int .i64 x1), .s (.int .i64 x2), .s (.int .i64 x3), .s (.int .i64 x4)] [.s (.int .i64 y0), .s (.int .i64 y1), .s (.int .i64 y2), .s (.int .i64 y3), .s (.int .i64 y4)])) := by
 refine PC.begin Tryz.func297 rfl (by kernel_rfl) ?_
 refine xb rfl (fun h => ?_) (fun e0 => ?_)
 · exact xv rfl rfl rfl (zl (fun e => by simp only [List.cons.injEq, Cell.s.injEq, Value.int.injEq, Value.bool.injEq, Value.string.injEq] at e; simp [e] at h))
 have e0 : x0 = y0 := by simpa using e0
 refine xb rfl (fun h => ?_) (fun e1 => ?_)
 · exact xv rfl rfl rfl (zl (fun e => by simp only [List.cons.injEq, Cell.s.injEq, Value.int.injEq, Value.bool.injEq, Value.string.injEq] at e; simp [e] at h))
 have e1 : x1 = y1 := by simpa using e1
 refine xb rfl (fun h => ?_) (fun e2 => ?_)
 · exact xv rfl rfl rfl (zl (fun e => by simp only [List.cons.injEq, Cell.s.injEq, Value.int.injEq, Value.bool.injEq, Value.string.injEq] at e; simp [e] at h))
 have e2 : x2 = y2 := by simpa using e2
 refine xb rfl (fun h => ?_) (fun e3 => ?_)
 · exact xv rfl rfl rfl (zl (fun e => by simp only [List.cons.injEq, Cell.s.injEq, Value.int.injEq, Value.bool.injEq, Value.string.injEq] at e; simp [e] at h))
 have e3 : x3 = y3 := by simpa using e3
 refine xb rfl (fun h => ?_) (fun e4 => ?_)
 · exact xv rfl rfl rfl (zl (fun e => by simp only [List.cons.injEq, Cell.s.injEq, Value.int.injEq, Value.bool.injEq, Value.string.injEq] at e; simp [e] at h))
 have e4 : x4 = y4 := by simpa using e4
 exact xv rfl rfl rfl (yx (by simp [e0, e1, e2, e3, e4]))
theorem z5l (p q : List (List Cell)) (hp : WR 9000000000000000000 zm p) (hq : WR 9000000000000000000 zm q) : PC Tryz.prog 221 [.one (.l p), .one (.l q)] (rB (dE p q)) := by
 refine PC.begin Tryz.func221 rfl (by kernel_rfl) ?_
 have hpl := hp.1
 have hql := hq.1
 refine xb rfl ?_ ?_ <;> intro h
 · exact xv rfl rfl rfl (zl (fun e => by subst e; simp at h))
 have hl : p.length = q.length := by simpa [Int.ofNat_inj] using h
 refine yd rfl (ι := Nat) (fun i => i ≤ p.length ∧ p.take i = q.take i) (fun i => ⟨[(5, sV (.int .i64 i)), (0, .one (.b (.l p))), (1, .one (.b (.l q)))], []⟩) (fun i => p.length - i) 0 ⟨Nat.zero_le _, rfl⟩ ?_ ?_
 · repeat' (first | exact trivial | exact rfl | exact Or.inl rfl | refine And.intro ?_ ?_)
 · intro i ⟨hi, he⟩ J hJ
   refine xb rfl ?_ ?_ <;> intro h
   · have h : i < p.length := by simpa using h
     obtain ⟨row, hg⟩ : ∃ row, p[i]? = some row := ⟨_, List.getElem?_eq_getElem h⟩
     obtain ⟨row', hg'⟩ : ∃ row, q[i]? = some row := ⟨_, List.getElem?_eq_getElem (by omega)⟩
     obtain ⟨x0, x1, x2, x3, x4, rfl⟩ := q0p (hp.2 row (List.mem_of_getElem? hg))
     obtain ⟨y0, y1, y2, y3, y4, rfl⟩ := q0p (hq.2 row' (List.mem_of_getElem? hg'))
     refine qd rfl [] (Tk [0, 1, 2] (.take 3 [8, 9] (Tk [4, 5, 6] (.take 7 [8, 9] (.alt 8 (.take 9 [] .done) .nil))))) (by kernel_rfl) ?_
     refine xs rfl (nn_ _) (y9 rfl _ hg (xs rfl rfl ?_))
     refine xs rfl (nn_ _) (y9 rfl _ hg' (xs rfl rfl ?_))
     refine z7 rfl (z6q _ _ _ _ _ _ _ _ _ _) rfl ⟨tv6, tv6, trivial⟩ ?_
     refine xb rfl ?_ ?_ <;> intro hb
     · exact xv rfl rfl rfl (zl (fun e => by subst e; rw [hg] at hg'; cases hg'; exact y08 hb rfl))
     · have hb := z08 hb
       refine q9 rfl (hJ _ (i + 1) ⟨by omega, qp he hg (hg'.trans (by rw [hb]))⟩ (by omega) ?_)
       repeat' (first | exact trivial | exact rfl | exact Or.inl rfl | exact cwi (by omega) (by omega) (by omega) | refine And.intro ?_ ?_)
   · have h : ¬ i < p.length := by simpa using h
     exact xv rfl rfl rfl (yx (by rw [show i = p.length by omega, List.take_length] at he; rw [he, hl, List.take_length]))
theorem y5l (x0 : Int) (x1 : List (List Cell)) (x2 : List (List Cell)) (y0 : Int) (y1 : List (List Cell)) (y2 : List (List Cell)) (h1 : WR 9000000000000000000 zp x1) (h2 : WR 9000000000000000000 zm x2) (k1 : WR 9000000000000000000 zp y1) (k2 : WR 9000000000000000000 zm y2) : PC Tryz.prog 132 [.agg [.s (.int .i64 x0), .l x1, .l x2], .agg [.s (.int .i64 y0), .l y1, .l y2]] (rB (dE (α := List Cell) [.s (.int .i64 x0), .l x1, .l x2] [.s (.int .i64 y0), .l y1, .l y2])) := by
 refine PC.begin Tryz.func132 rfl (by kernel_rfl) ?_
 refine xb rfl (fun h => ?_) (fun e0 => ?_)
 · exact xv rfl rfl rfl (zl (fun e => by simp only [List.cons.injEq, Cell.s.injEq, Value.int.injEq, Value.bool.injEq, Value.string.injEq] at e; simp [e] at h))
 have e0 : x0 = y0 := by simpa using e0
 refine z7 rfl (z7l _ _ h1 k1) rfl tv3 ?_
 refine xb rfl (fun h => ?_) (fun e1 => ?_)
 · exact xv rfl rfl rfl (zl (fun e => y08 h (by simp only [List.cons.injEq, Cell.l.injEq] at e ⊢; simp only [e]; try trivial)))
 have e1 := z08 e1
 refine z7 rfl (z5l _ _ h2 k2) rfl tv3 ?_
 refine xb rfl (fun h => ?_) (fun e2 => ?_)
 · exact xv rfl rfl rfl (zl (fun e => y08 h (by simp only [List.cons.injEq, Cell.l.injEq] at e ⊢; simp only [e]; try trivial)))
 have e2 := z08 e2
 exact xv rfl rfl rfl (yx (by simp [e0, e1, e2]))
theorem y4x (p q : List (List Cell)) (hp : WR 9000000000000000000 qa p) (hq : WR 9000000000000000000 qa q) : PC Tryz.prog 57 [.one (.l p), .one (.l q)] (rB (dE p q)) := by
 refine PC.begin Tryz.func57 rfl (by kernel_rfl) ?_
 have hpl := hp.1
 have hql := hq.1
 refine xb rfl ?_ ?_ <;> intro h
 · exact xv rfl rfl rfl (zl (fun e => by subst e; simp at h))
 have hl : p.length = q.length := by simpa [Int.ofNat_inj] using h
 refine yd rfl (ι := Nat) (fun i => i ≤ p.length ∧ p.take i = q.take i) (fun i => ⟨[(5, sV (.int .i64 i)), (0, .one (.b (.l p))), (1, .one (.b (.l q)))], []⟩) (fun i => p.length - i) 0 ⟨Nat.zero_le _, rfl⟩ ?_ ?_
 · repeat' (first | exact trivial | exact rfl | exact Or.inl rfl | refine And.intro ?_ ?_)
 · intro i ⟨hi, he⟩ J hJ
   refine xb rfl ?_ ?_ <;> intro h
   · have h : i < p.length := by simpa using h
     obtain ⟨row, hg⟩ : ∃ row, p[i]? = some row := ⟨_, List.getElem?_eq_getElem h⟩
     obtain ⟨row', hg'⟩ : ∃ row, q[i]? = some row := ⟨_, List.getElem?_eq_getElem (by omega)⟩
     obtain ⟨x0, x1, x2, rfl, h1, h2⟩ := q0e (hp.2 row (List.mem_of_getElem? hg))
     obtain ⟨y0, y1, y2, rfl, k1, k2⟩ := q0e (hq.2 row' (List.mem_of_getElem? hg'))
     refine qd rfl [] (Tk [0, 1, 2] (.take 3 [8, 9] (Tk [4, 5, 6] (.take 7 [8, 9] (.alt 8 (.take 9 [] .done) .nil))))) (by kernel_rfl) ?_
     refine xs rfl (nn_ _) (y9 rfl _ hg (xs rfl rfl ?_))
     refine xs rfl (nn_ _) (y9 rfl _ hg' (xs rfl rfl ?_))
     refine z7 rfl (y5l _ _ _ _ _ _ h1 h2 k1 k2) rfl ⟨tv4, tv4, trivial⟩ ?_
     refine xb rfl ?_ ?_ <;> intro hb
     · exact xv rfl rfl rfl (zl (fun e => by subst e; rw [hg] at hg'; cases hg'; exact y08 hb rfl))
     · have hb := z08 hb
       refine q9 rfl (hJ _ (i + 1) ⟨by omega, qp he hg (hg'.trans (by rw [hb]))⟩ (by omega) ?_)
       repeat' (first | exact trivial | exact rfl | exact Or.inl rfl | exact cwi (by omega) (by omega) (by omega) | refine And.intro ?_ ?_)
   · have h : ¬ i < p.length := by simpa using h
     exact xv rfl rfl rfl (yx (by rw [show i = p.length by omega, List.take_length] at he; rw [he, hl, List.take_length]))
theorem q4x (x0 : Int) (x1 : Int) (x2 : Int) (x3 : Int) (x4 : Int) (x5 : Int) (x6 : Int) (x7 : Int) (x8 : Int) (y0 : Int) (y1 : Int) (y2 : Int) (y3 : Int) (y4 : Int) (y5 : Int) (y6 : Int) (y7 : Int) (y8 : Int)   : PC Tryz.prog 133 [.agg [.s (.int .i64 x0), .s (.int .i64 x1), .s (.int .i64 x2), .s (.int .i64 x3), .s (.int .i64 x4), .s (.int .i64 x5), .s (.int .i64 x6), .s (.int .i64 x7), .s (.int .i64 x8)], .agg [.s (.int .i64 y0), .s (.int .i64 y1), .s (.int .i64 y2), .s (.int .i64 y3), .s (.int .i64 y4), .s (.int .i64 y5), .s (.int .i64 y6), .s (.int .i64 y7), .s (.int .i64 y8)]] (rB (dE (α := List Cell) [.s (.int .i64 x0), .s (.int .i64 x1), .s (.int .i64 x2), .s (.int .i64 x3), .s (.int .i64 x4), .s (.int .i64 x5), .s (.int .i64 x6), .s (.int .i64 x7), .s (.int .i64 x8)] [.s (.int .i64 y0), .s (.int .i64 y1), .s (.int .i64 y2), .s (.int .i64 y3), .s (.int .i64 y4), .s (.int .i64 y5), .s (.int .i64 y6), .s (.int .i64 y7), .s (.int .i64 y8)])) := by
 refine PC.begin Tryz.func133 rfl (by kernel_rfl) ?_
 refine xb rfl (fun h => ?_) (fun e0 => ?_)
 · exact xv rfl rfl rfl (zl (fun e => by simp only [List.cons.injEq, Cell.s.injEq, Value.int.injEq, Value.bool.injEq, Value.string.injEq] at e; simp [e] at h))
 have e0 : x0 = y0 := by simpa using e0
 refine xb rfl (fun h => ?_) (fun e1 => ?_)
 · exact xv rfl rfl rfl (zl (fun e => by simp only [List.cons.injEq, Cell.s.injEq, Value.int.injEq, Value.bool.injEq, Value.string.injEq] at e; simp [e] at h))
 have e1 : x1 = y1 := by simpa using e1
 refine xb rfl (fun h => ?_) (fun e2 => ?_)
 · exact xv rfl rfl rfl (zl (fun e => by simp only [List.cons.injEq, Cell.s.injEq, Value.int.injEq, Value.bool.injEq, Value.string.injEq] at e; simp [e] at h))
 have e2 : x2 = y2 := by simpa using e2
 refine xb rfl (fun h => ?_) (fun e3 => ?_)
 · exact xv rfl rfl rfl (zl (fun e => by simp only [List.cons.injEq, Cell.s.injEq, Value.int.injEq, Value.bool.injEq, Value.string.injEq] at e; simp [e] at h))
 have e3 : x3 = y3 := by simpa using e3
 refine xb rfl (fun h => ?_) (fun e4 => ?_)
 · exact xv rfl rfl rfl (zl (fun e => by simp only [List.cons.injEq, Cell.s.injEq, Value.int.injEq, Value.bool.injEq, Value.string.injEq] at e; simp [e] at h))
 have e4 : x4 = y4 := by simpa using e4
 refine xb rfl (fun h => ?_) (fun e5 => ?_)
 · exact xv rfl rfl rfl (zl (fun e => by simp only [List.cons.injEq, Cell.s.injEq, Value.int.injEq, Value.bool.injEq, Value.string.injEq] at e; simp [e] at h))
 have e5 : x5 = y5 := by simpa using e5
 refine xb rfl (fun h => ?_) (fun e6 => ?_)
 · exact xv rfl rfl rfl (zl (fun e => by simp only [List.cons.injEq, Cell.s.injEq, Value.int.injEq, Value.bool.injEq, Value.string.injEq] at e; simp [e] at h))
 have e6 : x6 = y6 := by simpa using e6
 refine z7 rfl (y33 _ _ _ _) rfl ⟨tv3, tv3, trivial⟩ ?_
 refine xb rfl (fun h => ?_) (fun e7 => ?_)
 · exact xv rfl rfl rfl (zl (fun e => y08 h (by simp only [List.cons.injEq, Cell.l.injEq] at e ⊢; simp only [e]; try trivial)))
 have e7 := z08 e7
 simp only [List.cons.injEq, Cell.s.injEq, Cell.l.injEq, Value.int.injEq, Value.bool.injEq, and_true, true_and] at e7
 exact xv rfl rfl rfl (yx (by simp [e0, e1, e2, e3, e4, e5, e6, e7]))
theorem z4a (p q : List (List Cell)) (hp : WR 9000000000000000000 qb p) (hq : WR 9000000000000000000 qb q) : PC Tryz.prog 58 [.one (.l p), .one (.l q)] (rB (dE p q)) := by
 refine PC.begin Tryz.func58 rfl (by kernel_rfl) ?_
 have hpl := hp.1
 have hql := hq.1
 refine xb rfl ?_ ?_ <;> intro h
 · exact xv rfl rfl rfl (zl (fun e => by subst e; simp at h))
 have hl : p.length = q.length := by simpa [Int.ofNat_inj] using h
 refine yd rfl (ι := Nat) (fun i => i ≤ p.length ∧ p.take i = q.take i) (fun i => ⟨[(5, sV (.int .i64 i)), (0, .one (.b (.l p))), (1, .one (.b (.l q)))], []⟩) (fun i => p.length - i) 0 ⟨Nat.zero_le _, rfl⟩ ?_ ?_
 · repeat' (first | exact trivial | exact rfl | exact Or.inl rfl | refine And.intro ?_ ?_)
 · intro i ⟨hi, he⟩ J hJ
   refine xb rfl ?_ ?_ <;> intro h
   · have h : i < p.length := by simpa using h
     obtain ⟨row, hg⟩ : ∃ row, p[i]? = some row := ⟨_, List.getElem?_eq_getElem h⟩
     obtain ⟨row', hg'⟩ : ∃ row, q[i]? = some row := ⟨_, List.getElem?_eq_getElem (by omega)⟩
     obtain ⟨x0, x1, x2, x3, x4, x5, x6, x7, x8, rfl⟩ := z0a (hp.2 row (List.mem_of_getElem? hg))
     obtain ⟨y0, y1, y2, y3, y4, y5, y6, y7, y8, rfl⟩ := z0a (hq.2 row' (List.mem_of_getElem? hg'))
     refine qd rfl [] (Tk [0, 1, 2] (.take 3 [8, 9] (Tk [4, 5, 6] (.take 7 [8, 9] (.alt 8 (.take 9 [] .done) .nil))))) (by kernel_rfl) ?_
     refine xs rfl (nn_ _) (y9 rfl _ hg (xs rfl rfl ?_))
     refine xs rfl (nn_ _) (y9 rfl _ hg' (xs rfl rfl ?_))
     refine z7 rfl (q4x _ _ _ _ _ _ _ _ _ _ _ _ _ _ _ _ _ _) rfl ⟨tv10, tv10, trivial⟩ ?_
     refine xb rfl ?_ ?_ <;> intro hb
     · exact xv rfl rfl rfl (zl (fun e => by subst e; rw [hg] at hg'; cases hg'; exact y08 hb rfl))
     · have hb := z08 hb
       refine q9 rfl (hJ _ (i + 1) ⟨by omega, qp he hg (hg'.trans (by rw [hb]))⟩ (by omega) ?_)
       repeat' (first | exact trivial | exact rfl | exact Or.inl rfl | exact cwi (by omega) (by omega) (by omega) | refine And.intro ?_ ?_)
   · have h : ¬ i < p.length := by simpa using h
     exact xv rfl rfl rfl (yx (by rw [show i = p.length by omega, List.take_length] at he; rw [he, hl, List.take_length]))
theorem y2k (x0 : List (List Cell)) (x1 : List (List Cell)) (x2 : List (List Cell)) (x3 : List (List Cell)) (x4 : List (List Cell)) (y0 : List (List Cell)) (y1 : List (List Cell)) (y2 : List (List Cell)) (y3 : List (List Cell)) (y4 : List (List Cell)) (h0 : WR 9000000000000000000 q7 x0) (h1 : WR 9000000000000000000 zb x1) (h2 : WR 9000000000000000000 z8 x2) (h3 : WR 9000000000000000000 qa x3) (h4 : WR 9000000000000000000 qb x4) (k0 : WR 9000000000000000000 q7 y0) (k1 : WR 9000000000000000000 zb y1) (k2 : WR 9000000000000000000 z8 y2) (k3 : WR 9000000000000000000 qa y3) (k4 : WR 9000000000000000000 qb y4) : PC Tryz.prog 16 [.agg [.l x0, .l x1, .l x2, .l x3, .l x4], .agg [.l y0, .l y1, .l y2, .l y3, .l y4]] (rB (dE (α := List Cell) [.l x0, .l x1, .l x2, .l x3, .l x4] [.l y0, .l y1, .l y2, .l y3, .l y4])) := by
 refine PC.begin Tryz.func16 rfl (by kernel_rfl) ?_
 refine z7 rfl (y1r _ _ h0 k0) rfl tv3 ?_
 refine xb rfl (fun h => ?_) (fun e0 => ?_)
 · exact xv rfl rfl rfl (zl (fun e => y08 h (by simp only [List.cons.injEq, Cell.l.injEq] at e ⊢; simp only [e]; try trivial)))
 have e0 := z08 e0
 refine z7 rfl (q5l _ _ h1 k1) rfl tv3 ?_
 refine xb rfl (fun h => ?_) (fun e1 => ?_)
 · exact xv rfl rfl rfl (zl (fun e => y08 h (by simp only [List.cons.injEq, Cell.l.injEq] at e ⊢; simp only [e]; try trivial)))
 have e1 := z08 e1
 refine z7 rfl (q3n _ _ h2 k2) rfl tv3 ?_
 refine xb rfl (fun h => ?_) (fun e2 => ?_)
 · exact xv rfl rfl rfl (zl (fun e => y08 h (by simp only [List.cons.injEq, Cell.l.injEq] at e ⊢; simp only [e]; try trivial)))
 have e2 := z08 e2
 refine z7 rfl (y4x _ _ h3 k3) rfl tv3 ?_
 refine xb rfl (fun h => ?_) (fun e3 => ?_)
 · exact xv rfl rfl rfl (zl (fun e => y08 h (by simp only [List.cons.injEq, Cell.l.injEq] at e ⊢; simp only [e]; try trivial)))
 have e3 := z08 e3
 refine z7 rfl (z4a _ _ h4 k4) rfl tv3 ?_
 refine xb rfl (fun h => ?_) (fun e4 => ?_)
 · exact xv rfl rfl rfl (zl (fun e => y08 h (by simp only [List.cons.injEq, Cell.l.injEq] at e ⊢; simp only [e]; try trivial)))
 have e4 := z08 e4
 exact xv rfl rfl rfl (yx (by simp [e0, e1, e2, e3, e4]))
end Go.Proofs.YtbnbjaedijbnpaaGreat
end
section
namespace Go.Proofs.YtbnbjaedijbnpaaGreat
open Go Go.Sx
set_option maxRecDepth 20000
set_option maxHeartbeats 4000000
theorem z5r (z : Nat) (rr : List (List Cell)) (k : Int) (hw : WR 9000000000000000000 qw rr) : PG Tryz.prog 154 [.one (.giv true z rr), .one (.bor (i64 k))] (rI (mkR (mk qw) rr k).2) [(0, (mkR (mk qw) rr k).1)] := by
 refine PG.begin Tryz.func154 rfl (by kernel_rfl) ?_
 have hlen := hw.1
 refine yd rfl (ι := Nat) (fun i => i ≤ rr.length) (fun i => ⟨[(5, sV (.int .i64 i)), (1, sV (.int .i64 (mdk (mk qw) rr k i))), (0, .one (.h 1000000000 rr.length))], [(1000000000, .arr true z 0 (md (mk qw) rr k i))]⟩) (fun i => rr.length - i) 0 (Nat.zero_le _) ?_ ?_
 · exact ⟨⟨rfl, congrArg (fun n => Cell.s (.int .i64 n)) z07.symm, ⟨rfl, rfl, rfl⟩, trivial⟩, ⟨⟨q0f.symm, .inl rfl, .inl rfl⟩, trivial⟩, rfl⟩
 · intro i hi J hJ
   refine xb rfl ?_ ?_ <;> intro h
   · have h : i < rr.length := by simpa using h
     obtain ⟨row, hg⟩ : ∃ row, rr[i]? = some row := ⟨_, List.getElem?_eq_getElem h⟩
     obtain ⟨x0, x1, x2, x3, rfl⟩ := z1x (hw.2 row (List.mem_of_getElem? hg))
     have hl := z11 (f := (mk qw)) (k := k) hi
     have hg0 := q10 (f := (mk qw)) (k := k) hg
     have hlt : i < (md (mk qw) rr k i).length := by omega
     refine xs rfl (hl).symm (xs rfl (nn_ _) (y9 rfl _ hg0 (xs rfl rfl (xs rfl (hl).symm (y9 rfl _ hg0 (xs rfl (by show 0 + 1 ≤ 4; omega) (xs rfl ⟨trivial, trivial⟩ ?_)))))))
     refine xs rfl (qc (hl)).symm (xs rfl (nn_ _) (y9 rfl _ (qy (hl) h) (xs rfl rfl (xs rfl (qc (hl)).symm (y9 rfl _ (qy (hl) h) (xs rfl (by show 1 + 1 ≤ 4; omega) (xs rfl ⟨trivial, trivial⟩ ?_)))))))
     refine xs rfl (qc (qc (hl))).symm (xs rfl (nn_ _) (y9 rfl _ (qy (qc (hl)) h) (xs rfl rfl (xs rfl (qc (qc (hl))).symm (y9 rfl _ (qy (qc (hl)) h) (xs rfl (by show 2 + 1 ≤ 4; omega) (xs rfl ⟨trivial, trivial⟩ ?_)))))))
     refine xs rfl (qc (qc (qc (hl)))).symm (xs rfl (nn_ _) (y9 rfl _ (qy (qc (qc (hl))) h) (xs rfl rfl (xs rfl (qc (qc (qc (hl)))).symm (y9 rfl _ (qy (qc (qc (hl))) h) (xs rfl (by show 3 + 1 ≤ 4; omega) (xs rfl ⟨trivial, trivial⟩ ?_)))))))
     refine q9 rfl (hJ _ (i + 1) (by omega) (by omega) ?_)
     refine ⟨⟨cwi (by omega) (by omega) (by omega), ?_, ⟨rfl, rfl, rfl⟩, trivial⟩, ⟨⟨?_, .inl rfl, .inl rfl⟩, trivial⟩, rfl⟩
     · rw [q06 hg]; rfl
     · refine Eq.trans ?_ (y11 hg)
       try simp only [Int.toNat_natCast, qv hg0, ssr hlt, List.set_set]
       rfl
   · have h : ¬ i < rr.length := by simpa using h
     have : i = rr.length := by omega
     subst this
     exact xr rfl (y18 rfl ⟨⟨rfl, congrArg (Value.int .i64) z0g, trivial⟩, z6 rfl⟩ ⟨⟨rfl, rfl, y10, qn _ _ _, qq hw⟩, trivial⟩)
theorem z1a (z : Nat) (rr : List (List Cell)) (k : Int) (hw : WR 9000000000000000000 q7 rr) : PG Tryz.prog 80 [.one (.giv true z rr), .one (.bor (i64 k))] (rI (mkR (mk q7) rr k).2) [(0, (mkR (mk q7) rr k).1)] := by
 refine PG.begin Tryz.func80 rfl (by kernel_rfl) ?_
 have hlen := hw.1
 refine yd rfl (ι := Nat) (fun i => i ≤ rr.length) (fun i => ⟨[(5, sV (.int .i64 i)), (1, sV (.int .i64 (mdk (mk q7) rr k i))), (0, .one (.h 1000000000 rr.length))], [(1000000000, .arr true z 0 (md (mk q7) rr k i))]⟩) (fun i => rr.length - i) 0 (Nat.zero_le _) ?_ ?_
 · exact ⟨⟨rfl, congrArg (fun n => Cell.s (.int .i64 n)) z07.symm, ⟨rfl, rfl, rfl⟩, trivial⟩, ⟨⟨q0f.symm, .inl rfl, .inl rfl⟩, trivial⟩, rfl⟩
 · intro i hi J hJ
   refine xb rfl ?_ ?_ <;> intro h
   · have h : i < rr.length := by simpa using h
     obtain ⟨row, hg⟩ : ∃ row, rr[i]? = some row := ⟨_, List.getElem?_eq_getElem h⟩
     obtain ⟨x0, x1, rfl, h1⟩ := y05 (hw.2 row (List.mem_of_getElem? hg))
     have hl := z11 (f := (mk q7)) (k := k) hi
     have hg0 := q10 (f := (mk q7)) (k := k) hg
     have hlt : i < (md (mk q7) rr k i).length := by omega
     refine xs rfl (hl).symm (xs rfl (nn_ _) (y9 rfl _ hg0 (xs rfl rfl (xs rfl (hl).symm (y9 rfl _ hg0 (xs rfl (by show 0 + 1 ≤ 2; omega) (xs rfl ⟨trivial, trivial⟩ ?_)))))))
     refine xs rfl (qc (hl)).symm (xs rfl (nn_ _) (y9 rfl _ (qy (hl) h) (xs rfl rfl (xs rfl (qc (hl)).symm (y9 rfl _ (qy (hl) h) ?_)))))
     refine y0u rfl (z5r 0 _ _ h1) ⟨⟨rfl, rfl, rfl, _, (qy (hl) h), rfl⟩, rfl, trivial⟩ rfl ?_
     refine q9 rfl (hJ _ (i + 1) (by omega) (by omega) ?_)
     refine ⟨⟨cwi (by omega) (by omega) (by omega), ?_, ⟨rfl, rfl, rfl⟩, trivial⟩, ⟨⟨?_, .inl rfl, .inl rfl⟩, trivial⟩, rfl⟩
     · rw [q06 hg]; rfl
     · refine Eq.trans ?_ (y11 hg)
       try simp only [Int.toNat_natCast, qv hg0, ssr hlt, List.set_set]
       rfl
   · have h : ¬ i < rr.length := by simpa using h
     have : i = rr.length := by omega
     subst this
     exact xr rfl (y18 rfl ⟨⟨rfl, congrArg (Value.int .i64) z0g, trivial⟩, z6 rfl⟩ ⟨⟨rfl, rfl, y10, qn _ _ _, qq hw⟩, trivial⟩)
theorem z39 (z : Nat) (rr : List (List Cell)) (k : Int) (hw : WR 9000000000000000000 ze rr) : PG Tryz.prog 155 [.one (.giv true z rr), .one (.bor (i64 k))] (rI (mkR (mk ze) rr k).2) [(0, (mkR (mk ze) rr k).1)] := by
 refine PG.begin Tryz.func155 rfl (by kernel_rfl) ?_
 have hlen := hw.1
 refine yd rfl (ι := Nat) (fun i => i ≤ rr.length) (fun i => ⟨[(5, sV (.int .i64 i)), (1, sV (.int .i64 (mdk (mk ze) rr k i))), (0, .one (.h 1000000000 rr.length))], [(1000000000, .arr true z 0 (md (mk ze) rr k i))]⟩) (fun i => rr.length - i) 0 (Nat.zero_le _) ?_ ?_
 · exact ⟨⟨rfl, congrArg (fun n => Cell.s (.int .i64 n)) z07.symm, ⟨rfl, rfl, rfl⟩, trivial⟩, ⟨⟨q0f.symm, .inl rfl, .inl rfl⟩, trivial⟩, rfl⟩
 · intro i hi J hJ
   refine xb rfl ?_ ?_ <;> intro h
   · have h : i < rr.length := by simpa using h
     obtain ⟨row, hg⟩ : ∃ row, rr[i]? = some row := ⟨_, List.getElem?_eq_getElem h⟩
     obtain ⟨x0, x1, x2, rfl⟩ := q09 (hw.2 row (List.mem_of_getElem? hg))
     have hl := z11 (f := (mk ze)) (k := k) hi
     have hg0 := q10 (f := (mk ze)) (k := k) hg
     have hlt : i < (md (mk ze) rr k i).length := by omega
     refine xs rfl (hl).symm (xs rfl (nn_ _) (y9 rfl _ hg0 (xs rfl rfl (xs rfl (hl).symm (y9 rfl _ hg0 (xs rfl (by show 0 + 1 ≤ 3; omega) (xs rfl ⟨trivial, trivial⟩ ?_)))))))
     refine xs rfl (qc (hl)).symm (xs rfl (nn_ _) (y9 rfl _ (qy (hl) h) (xs rfl rfl (xs rfl (qc (hl)).symm (y9 rfl _ (qy (hl) h) (xs rfl (by show 1 + 1 ≤ 3; omega) (xs rfl ⟨trivial, trivial⟩ ?_)))))))
     refine xs rfl (qc (qc (hl))).symm (xs rfl (nn_ _) (y9 rfl _ (qy (qc (hl)) h) (xs rfl rfl (xs rfl (qc (qc (hl))).symm (y9 rfl _ (qy (qc (hl)) h) (xs rfl (by show 2 + 1 ≤ 3; omega) (xs rfl ⟨trivial, trivial⟩ ?_)))))))
     refine q9 rfl (hJ _ (i + 1) (by omega) (by omega) ?_)
     refine ⟨⟨cwi (by omega) (by omega) (by omega), ?_, ⟨rfl, rfl, rfl⟩, trivial⟩, ⟨⟨?_, .inl rfl, .inl rfl⟩, trivial⟩, rfl⟩
     · rw [q06 hg]; rfl
     · refine Eq.trans ?_ (y11 hg)
       try simp only [Int.toNat_natCast, qv hg0, ssr hlt, List.set_set]
       rfl
   · have h : ¬ i < rr.length := by simpa using h
     have : i = rr.length := by omega
     subst this
     exact xr rfl (y18 rfl ⟨⟨rfl, congrArg (Value.int .i64) z0g, trivial⟩, z6 rfl⟩ ⟨⟨rfl, rfl, y10, qn _ _ _, qq hw⟩, trivial⟩)
theorem z2o (z : Nat) (rr : List (List Cell)) (k : Int) (hw : WR 9000000000000000000 zh rr) : PG Tryz.prog 156 [.one (.giv true z rr), .one (.bor (i64 k))] (rI (mkR (mk zh) rr k).2) [(0, (mkR (mk zh) rr k).1)] := by
 refine PG.begin Tryz.func156 rfl (by kernel_rfl) ?_
 have hlen := hw.1
 refine yd rfl (ι := Nat) (fun i => i ≤ rr.length) (fun i => ⟨[(5, sV (.int .i64 i)), (1, sV (.int .i64 (mdk (mk zh) rr k i))), (0, .one (.h 1000000000 rr.length))], [(1000000000, .arr true z 0 (md (mk zh) rr k i))]⟩) (fun i => rr.length - i) 0 (Nat.zero_le _) ?_ ?_
 · exact ⟨⟨rfl, congrArg (fun n => Cell.s (.int .i64 n)) z07.symm, ⟨rfl, rfl, rfl⟩, trivial⟩, ⟨⟨q0f.symm, .inl rfl, .inl rfl⟩, trivial⟩, rfl⟩
 · intro i hi J hJ
   refine xb rfl ?_ ?_ <;> intro h
   · have h : i < rr.length := by simpa using h
     obtain ⟨row, hg⟩ : ∃ row, rr[i]? = some row := ⟨_, List.getElem?_eq_getElem h⟩
     obtain ⟨x0, x1, rfl⟩ := q16 (hw.2 row (List.mem_of_getElem? hg))
     have hl := z11 (f := (mk zh)) (k := k) hi
     have hg0 := q10 (f := (mk zh)) (k := k) hg
     have hlt : i < (md (mk zh) rr k i).length := by omega
     refine xs rfl (hl).symm (xs rfl (nn_ _) (y9 rfl _ hg0 (xs rfl rfl (xs rfl (hl).symm (y9 rfl _ hg0 (xs rfl (by show 0 + 1 ≤ 2; omega) (xs rfl ⟨trivial, trivial⟩ ?_)))))))
     refine xs rfl (qc (hl)).symm (xs rfl (nn_ _) (y9 rfl _ (qy (hl) h) (xs rfl rfl (xs rfl (qc (hl)).symm (y9 rfl _ (qy (hl) h) (xs rfl (by show 1 + 1 ≤ 2; omega) (xs rfl ⟨trivial, trivial⟩ ?_)))))))
     refine q9 rfl (hJ _ (i + 1) (by omega) (by omega) ?_)
     refine ⟨⟨cwi (by omega) (by omega) (by omega), ?_, ⟨rfl, rfl, rfl⟩, trivial⟩, ⟨⟨?_, .inl rfl, .inl rfl⟩, trivial⟩, rfl⟩
     · rw [q06 hg]; rfl
     · refine Eq.trans ?_ (y11 hg)
       try simp only [Int.toNat_natCast, qv hg0, ssr hlt, List.set_set]
       rfl
   · have h : ¬ i < rr.length := by simpa using h
     have : i = rr.length := by omega
     subst this
     exact xr rfl (y18 rfl ⟨⟨rfl, congrArg (Value.int .i64) z0g, trivial⟩, z6 rfl⟩ ⟨⟨rfl, rfl, y10, qn _ _ _, qq hw⟩, trivial⟩)
theorem y26 (z : Nat) (rr : List (List Cell)) (k : Int) (hw : WR 9000000000000000000 (.i .i64 .nil) rr) : PG Tryz.prog 157 [.one (.giv true z rr), .one (.bor (i64 k))] (rI (mkR (mk (.i .i64 .nil)) rr k).2) [(0, (mkR (mk (.i .i64 .nil)) rr k).1)] := by
 refine PG.begin Tryz.func157 rfl (by kernel_rfl) ?_
 have hlen := hw.1
 refine yd rfl (ι := Nat) (fun i => i ≤ rr.length) (fun i => ⟨[(5, sV (.int .i64 i)), (1, sV (.int .i64 (mdk (mk (.i .i64 .nil)) rr k i))), (0, .one (.h 1000000000 rr.length))], [(1000000000, .arr true z 0 (md (mk (.i .i64 .nil)) rr k i))]⟩) (fun i => rr.length - i) 0 (Nat.zero_le _) ?_ ?_
 · exact ⟨⟨rfl, congrArg (fun n => Cell.s (.int .i64 n)) z07.symm, ⟨rfl, rfl, rfl⟩, trivial⟩, ⟨⟨q0f.symm, .inl rfl, .inl rfl⟩, trivial⟩, rfl⟩
 · intro i hi J hJ
   refine xb rfl ?_ ?_ <;> intro h
   · have h : i < rr.length := by simpa using h
     obtain ⟨row, hg⟩ : ∃ row, rr[i]? = some row := ⟨_, List.getElem?_eq_getElem h⟩
     obtain ⟨x0, _, rfl, hnil⟩ := ((hw.2 row (List.mem_of_getElem? hg))).qx; obtain rfl := hnil.yz
     have hl := z11 (f := (mk (.i .i64 .nil))) (k := k) hi
     have hg0 := q10 (f := (mk (.i .i64 .nil))) (k := k) hg
     have hlt : i < (md (mk (.i .i64 .nil)) rr k i).length := by omega
     refine xs rfl (hl).symm (xs rfl (nn_ _) (y9 rfl _ hg0 (xs rfl rfl (xs rfl (hl).symm (y9 rfl _ hg0 (xs rfl (by show 0 + 1 ≤ 1; omega) (xs rfl ⟨trivial, trivial⟩ ?_)))))))
     refine q9 rfl (hJ _ (i + 1) (by omega) (by omega) ?_)
     refine ⟨⟨cwi (by omega) (by omega) (by omega), ?_, ⟨rfl, rfl, rfl⟩, trivial⟩, ⟨⟨?_, .inl rfl, .inl rfl⟩, trivial⟩, rfl⟩
     · rw [q06 hg]; rfl
     · refine Eq.trans ?_ (y11 hg)
       try simp only [Int.toNat_natCast, qv hg0, ssr hlt, List.set_set]
       rfl
   · have h : ¬ i < rr.length := by simpa using h
     have : i = rr.length := by omega
     subst this
     exact xr rfl (y18 rfl ⟨⟨rfl, congrArg (Value.int .i64) z0g, trivial⟩, z6 rfl⟩ ⟨⟨rfl, rfl, y10, qn _ _ _, qq hw⟩, trivial⟩)
theorem z4h (z : Nat) (rr : List (List Cell)) (k : Int) (hw : WR 9000000000000000000 zb rr) : PG Tryz.prog 81 [.one (.giv true z rr), .one (.bor (i64 k))] (rI (mkR (mk zb) rr k).2) [(0, (mkR (mk zb) rr k).1)] := by
 refine PG.begin Tryz.func81 rfl (by kernel_rfl) ?_
 have hlen := hw.1
 refine yd rfl (ι := Nat) (fun i => i ≤ rr.length) (fun i => ⟨[(5, sV (.int .i64 i)), (1, sV (.int .i64 (mdk (mk zb) rr k i))), (0, .one (.h 1000000000 rr.length))], [(1000000000, .arr true z 0 (md (mk zb) rr k i))]⟩) (fun i => rr.length - i) 0 (Nat.zero_le _) ?_ ?_
 · exact ⟨⟨rfl, congrArg (fun n => Cell.s (.int .i64 n)) z07.symm, ⟨rfl, rfl, rfl⟩, trivial⟩, ⟨⟨q0f.symm, .inl rfl, .inl rfl⟩, trivial⟩, rfl⟩
 · intro i hi J hJ
   refine xb rfl ?_ ?_ <;> intro h
   · have h : i < rr.length := by simpa using h
     obtain ⟨row, hg⟩ : ∃ row, rr[i]? = some row := ⟨_, List.getElem?_eq_getElem h⟩
     obtain ⟨x0, x1, x2, x3, x4, x5, rfl, h1, h2, h3, h4, h5⟩ := z0q (hw.2 row (List.mem_of_getElem? hg))
     have hl := z11 (f := (mk zb)) (k := k) hi
     have hg0 := q10 (f := (mk zb)) (k := k) hg
     have hlt : i < (md (mk zb) rr k i).length := by omega
     refine xs rfl (hl).symm (xs rfl (nn_ _) (y9 rfl _ hg0 (xs rfl rfl (xs rfl (hl).symm (y9 rfl _ hg0 (xs rfl (by show 0 + 1 ≤ 6; omega) (xs rfl ⟨trivial, trivial⟩ ?_)))))))
     refine xs rfl (qc (hl)).symm (xs rfl (nn_ _) (y9 rfl _ (qy (hl) h) (xs rfl rfl (xs rfl (qc (hl)).symm (y9 rfl _ (qy (hl) h) ?_)))))
     refine y0u rfl (z39 0 _ _ h1) ⟨⟨rfl, rfl, rfl, _, (qy (hl) h), rfl⟩, rfl, trivial⟩ rfl ?_
     refine xs rfl (lsr (qc (hl))).symm (xs rfl (nn_ _) (y9 rfl _ (yf (qy (hl) h)) (xs rfl rfl (xs rfl (lsr (qc (hl))).symm (y9 rfl _ (yf (qy (hl) h)) ?_)))))
     refine y0u rfl (z2o 0 _ _ h2) ⟨⟨rfl, rfl, rfl, _, (yf (qy (hl) h)), rfl⟩, rfl, trivial⟩ rfl ?_
     refine xs rfl (lsr (lsr (qc (hl)))).symm (xs rfl (nn_ _) (y9 rfl _ (yf (yf (qy (hl) h))) (xs rfl rfl (xs rfl (lsr (lsr (qc (hl)))).symm (y9 rfl _ (yf (yf (qy (hl) h))) ?_)))))
     refine y0u rfl (z1a 0 _ _ h3) ⟨⟨rfl, rfl, rfl, _, (yf (yf (qy (hl) h))), rfl⟩, rfl, trivial⟩ rfl ?_
     refine xs rfl (lsr (lsr (lsr (qc (hl))))).symm (xs rfl (nn_ _) (y9 rfl _ (yf (yf (yf (qy (hl) h)))) (xs rfl rfl (xs rfl (lsr (lsr (lsr (qc (hl))))).symm (y9 rfl _ (yf (yf (yf (qy (hl) h)))) ?_)))))
     refine y0u rfl (z2o 0 _ _ h4) ⟨⟨rfl, rfl, rfl, _, (yf (yf (yf (qy (hl) h)))), rfl⟩, rfl, trivial⟩ rfl ?_
     refine xs rfl (lsr (lsr (lsr (lsr (qc (hl)))))).symm (xs rfl (nn_ _) (y9 rfl _ (yf (yf (yf (yf (qy (hl) h))))) (xs rfl rfl (xs rfl (lsr (lsr (lsr (lsr (qc (hl)))))).symm (y9 rfl _ (yf (yf (yf (yf (qy (hl) h))))) ?_)))))
     refine y0u rfl (y26 0 _ _ h5) ⟨⟨rfl, rfl, rfl, _, (yf (yf (yf (yf (qy (hl) h))))), rfl⟩, rfl, trivial⟩ rfl ?_
     refine q9 rfl (hJ _ (i + 1) (by omega) (by omega) ?_)
     refine ⟨⟨cwi (by omega) (by omega) (by omega), ?_, ⟨rfl, rfl, rfl⟩, trivial⟩, ⟨⟨?_, .inl rfl, .inl rfl⟩, trivial⟩, rfl⟩
     · rw [q06 hg]; rfl
     · refine Eq.trans ?_ (y11 hg)
       try simp only [Int.toNat_natCast, qv hg0, ssr hlt, List.set_set]
       rfl
   · have h : ¬ i < rr.length := by simpa using h
     have : i = rr.length := by omega
     subst this
     exact xr rfl (y18 rfl ⟨⟨rfl, congrArg (Value.int .i64) z0g, trivial⟩, z6 rfl⟩ ⟨⟨rfl, rfl, y10, qn _ _ _, qq hw⟩, trivial⟩)
theorem y2o (z : Nat) (rr : List (List Cell)) (k : Int) (hw : WR 9000000000000000000 yk rr) : PG Tryz.prog 239 [.one (.giv true z rr), .one (.bor (i64 k))] (rI (mkR (mk yk) rr k).2) [(0, (mkR (mk yk) rr k).1)] := by
 refine PG.begin Tryz.func239 rfl (by kernel_rfl) ?_
 have hlen := hw.1
 refine yd rfl (ι := Nat) (fun i => i ≤ rr.length) (fun i => ⟨[(5, sV (.int .i64 i)), (1, sV (.int .i64 (mdk (mk yk) rr k i))), (0, .one (.h 1000000000 rr.length))], [(1000000000, .arr true z 0 (md (mk yk) rr k i))]⟩) (fun i => rr.length - i) 0 (Nat.zero_le _) ?_ ?_
 · exact ⟨⟨rfl, congrArg (fun n => Cell.s (.int .i64 n)) z07.symm, ⟨rfl, rfl, rfl⟩, trivial⟩, ⟨⟨q0f.symm, .inl rfl, .inl rfl⟩, trivial⟩, rfl⟩
 · intro i hi J hJ
   refine xb rfl ?_ ?_ <;> intro h
   · have h : i < rr.length := by simpa using h
     obtain ⟨row, hg⟩ : ∃ row, rr[i]? = some row := ⟨_, List.getElem?_eq_getElem h⟩
     obtain ⟨x0, x1, rfl⟩ := y17 (hw.2 row (List.mem_of_getElem? hg))
     have hl := z11 (f := (mk yk)) (k := k) hi
     have hg0 := q10 (f := (mk yk)) (k := k) hg
     have hlt : i < (md (mk yk) rr k i).length := by omega
     refine xs rfl (hl).symm (xs rfl (nn_ _) (y9 rfl _ hg0 (xs rfl rfl (xs rfl (hl).symm (y9 rfl _ hg0 (xs rfl (by show 0 + 1 ≤ 2; omega) (xs rfl ⟨trivial, trivial⟩ ?_)))))))
     refine xs rfl (qc (hl)).symm (xs rfl (nn_ _) (y9 rfl _ (qy (hl) h) (xs rfl rfl (xs rfl (qc (hl)).symm (y9 rfl _ (qy (hl) h) (xs rfl (by show 1 + 1 ≤ 2; omega) (xs rfl ⟨trivial, trivial⟩ ?_)))))))
     refine q9 rfl (hJ _ (i + 1) (by omega) (by omega) ?_)
     refine ⟨⟨cwi (by omega) (by omega) (by omega), ?_, ⟨rfl, rfl, rfl⟩, trivial⟩, ⟨⟨?_, .inl rfl, .inl rfl⟩, trivial⟩, rfl⟩
     · rw [q06 hg]; rfl
     · refine Eq.trans ?_ (y11 hg)
       try simp only [Int.toNat_natCast, qv hg0, ssr hlt, List.set_set]
       rfl
   · have h : ¬ i < rr.length := by simpa using h
     have : i = rr.length := by omega
     subst this
     exact xr rfl (y18 rfl ⟨⟨rfl, congrArg (Value.int .i64) z0g, trivial⟩, z6 rfl⟩ ⟨⟨rfl, rfl, y10, qn _ _ _, qq hw⟩, trivial⟩)
theorem z54 (z : Nat) (rr : List (List Cell)) (k : Int) (hw : WR 9000000000000000000 qj rr) : PG Tryz.prog 158 [.one (.giv true z rr), .one (.bor (i64 k))] (rI (mkR (mk qj) rr k).2) [(0, (mkR (mk qj) rr k).1)] := by
 refine PG.begin Tryz.func158 rfl (by kernel_rfl) ?_
 have hlen := hw.1
 refine yd rfl (ι := Nat) (fun i => i ≤ rr.length) (fun i => ⟨[(5, sV (.int .i64 i)), (1, sV (.int .i64 (mdk (mk qj) rr k i))), (0, .one (.h 1000000000 rr.length))], [(1000000000, .arr true z 0 (md (mk qj) rr k i))]⟩) (fun i => rr.length - i) 0 (Nat.zero_le _) ?_ ?_
 · exact ⟨⟨rfl, congrArg (fun n => Cell.s (.int .i64 n)) z07.symm, ⟨rfl, rfl, rfl⟩, trivial⟩, ⟨⟨q0f.symm, .inl rfl, .inl rfl⟩, trivial⟩, rfl⟩
 · intro i hi J hJ
   refine xb rfl ?_ ?_ <;> intro h
   · have h : i < rr.length := by simpa using h
     obtain ⟨row, hg⟩ : ∃ row, rr[i]? = some row := ⟨_, List.getElem?_eq_getElem h⟩
     obtain ⟨x0, x1, x2, x3, x4, x5, rfl, h5⟩ := z17 (hw.2 row (List.mem_of_getElem? hg))
     have hl := z11 (f := (mk qj)) (k := k) hi
     have hg0 := q10 (f := (mk qj)) (k := k) hg
     have hlt : i < (md (mk qj) rr k i).length := by omega
     refine xs rfl (hl).symm (xs rfl (nn_ _) (y9 rfl _ hg0 (xs rfl rfl (xs rfl (hl).symm (y9 rfl _ hg0 (xs rfl (by show 0 + 1 ≤ 6; omega) (xs rfl ⟨trivial, trivial⟩ ?_)))))))
     refine xs rfl (qc (hl)).symm (xs rfl (nn_ _) (y9 rfl _ (qy (hl) h) (xs rfl rfl (xs rfl (qc (hl)).symm (y9 rfl _ (qy (hl) h) (xs rfl (by show 1 + 1 ≤ 6; omega) (xs rfl ⟨trivial, trivial⟩ ?_)))))))
     refine xs rfl (qc (qc (hl))).symm (xs rfl (nn_ _) (y9 rfl _ (qy (qc (hl)) h) (xs rfl rfl (xs rfl (qc (qc (hl))).symm (y9 rfl _ (qy (qc (hl)) h) (xs rfl (by show 2 + 1 ≤ 6; omega) (xs rfl ⟨trivial, trivial⟩ ?_)))))))
     refine xs rfl (qc (qc (qc (hl)))).symm (xs rfl (nn_ _) (y9 rfl _ (qy (qc (qc (hl))) h) (xs rfl rfl (xs rfl (qc (qc (qc (hl)))).symm (y9 rfl _ (qy (qc (qc (hl))) h) (xs rfl (by show 3 + 1 ≤ 6; omega) (xs rfl ⟨trivial, trivial⟩ ?_)))))))
     refine xs rfl (qc (qc (qc (qc (hl))))).symm (xs rfl (nn_ _) (y9 rfl _ (qy (qc (qc (qc (hl)))) h) (xs rfl rfl (xs rfl (qc (qc (qc (qc (hl))))).symm (y9 rfl _ (qy (qc (qc (qc (hl)))) h) (xs rfl (by show 4 + 1 ≤ 6; omega) (xs rfl ⟨trivial, trivial⟩ ?_)))))))
     refine xs rfl (qc (qc (qc (qc (qc (hl)))))).symm (xs rfl (nn_ _) (y9 rfl _ (qy (qc (qc (qc (qc (hl))))) h) (xs rfl rfl (xs rfl (qc (qc (qc (qc (qc (hl)))))).symm (y9 rfl _ (qy (qc (qc (qc (qc (hl))))) h) ?_)))))
     refine y0u rfl (y2o 0 _ _ h5) ⟨⟨rfl, rfl, rfl, _, (qy (qc (qc (qc (qc (hl))))) h), rfl⟩, rfl, trivial⟩ rfl ?_
     refine q9 rfl (hJ _ (i + 1) (by omega) (by omega) ?_)
     refine ⟨⟨cwi (by omega) (by omega) (by omega), ?_, ⟨rfl, rfl, rfl⟩, trivial⟩, ⟨⟨?_, .inl rfl, .inl rfl⟩, trivial⟩, rfl⟩
     · rw [q06 hg]; rfl
     · refine Eq.trans ?_ (y11 hg)
       try simp only [Int.toNat_natCast, qv hg0, ssr hlt, List.set_set]
       rfl
   · have h : ¬ i < rr.length := by simpa using h
     have : i = rr.length := by omega
     subst this
     exact xr rfl (y18 rfl ⟨⟨rfl, congrArg (Value.int .i64) z0g, trivial⟩, z6 rfl⟩ ⟨⟨rfl, rfl, y10, qn _ _ _, qq hw⟩, trivial⟩)
theorem y2s (z : Nat) (rr : List (List Cell)) (k : Int) (hw : WR 9000000000000000000 z8 rr) : PG Tryz.prog 82 [.one (.giv true z rr), .one (.bor (i64 k))] (rI (mkR (mk z8) rr k).2) [(0, (mkR (mk z8) rr k).1)] := by
 refine PG.begin Tryz.func82 rfl (by kernel_rfl) ?_
 have hlen := hw.1
 refine yd rfl (ι := Nat) (fun i => i ≤ rr.length) (fun i => ⟨[(5, sV (.int .i64 i)), (1, sV (.int .i64 (mdk (mk z8) rr k i))), (0, .one (.h 1000000000 rr.length))], [(1000000000, .arr true z 0 (md (mk z8) rr k i))]⟩) (fun i => rr.length - i) 0 (Nat.zero_le _) ?_ ?_
 · exact ⟨⟨rfl, congrArg (fun n => Cell.s (.int .i64 n)) z07.symm, ⟨rfl, rfl, rfl⟩, trivial⟩, ⟨⟨q0f.symm, .inl rfl, .inl rfl⟩, trivial⟩, rfl⟩
 · intro i hi J hJ
   refine xb rfl ?_ ?_ <;> intro h
   · have h : i < rr.length := by simpa using h
     obtain ⟨row, hg⟩ : ∃ row, rr[i]? = some row := ⟨_, List.getElem?_eq_getElem h⟩
     obtain ⟨x0, rfl, h0⟩ := q04 (hw.2 row (List.mem_of_getElem? hg))
     have hl := z11 (f := (mk z8)) (k := k) hi
     have hg0 := q10 (f := (mk z8)) (k := k) hg
     have hlt : i < (md (mk z8) rr k i).length := by omega
     refine xs rfl (hl).symm (xs rfl (nn_ _) (y9 rfl _ hg0 (xs rfl rfl (xs rfl (hl).symm (y9 rfl _ hg0 ?_)))))
     refine y0u rfl (z54 0 _ _ h0) ⟨⟨rfl, rfl, rfl, _, hg0, rfl⟩, rfl, trivial⟩ rfl ?_
     refine q9 rfl (hJ _ (i + 1) (by omega) (by omega) ?_)
     refine ⟨⟨cwi (by omega) (by omega) (by omega), ?_, ⟨rfl, rfl, rfl⟩, trivial⟩, ⟨⟨?_, .inl rfl, .inl rfl⟩, trivial⟩, rfl⟩
     · rw [q06 hg]; rfl
     · refine Eq.trans ?_ (y11 hg)
       try simp only [Int.toNat_natCast, qv hg0, ssr hlt, List.set_set]
       rfl
   · have h : ¬ i < rr.length := by simpa using h
     have : i = rr.length := by omega
     subst this
     exact xr rfl (y18 rfl ⟨⟨rfl, congrArg (Value.int .i64) z0g, trivial⟩, z6 rfl⟩ ⟨⟨rfl, rfl, y10, qn _ _ _, qq hw⟩, trivial⟩)
theorem y5r (z : Nat) (rr : List (List Cell)) (k : Int) (hw : WR 9000000000000000000 zp rr) : PG Tryz.prog 159 [.one (.giv true z rr), .one (.bor (i64 k))] (rI (mkR (mk zp) rr k).2) [(0, (mkR (mk zp) rr k).1)] := by
 refine PG.begin Tryz.func159 rfl (by kernel_rfl) ?_
 have hlen := hw.1
 refine yd rfl (ι := Nat) (fun i => i ≤ rr.length) (fun i => ⟨[(5, sV (.int .i64 i)), (1, sV (.int .i64 (mdk (mk zp) rr k i))), (0, .one (.h 1000000000 rr.length))], [(1000000000, .arr true z 0 (md (mk zp) rr k i))]⟩) (fun i => rr.length - i) 0 (Nat.zero_le _) ?_ ?_
 · exact ⟨⟨rfl, congrArg (fun n => Cell.s (.int .i64 n)) z07.symm, ⟨rfl, rfl, rfl⟩, trivial⟩, ⟨⟨q0f.symm, .inl rfl, .inl rfl⟩, trivial⟩, rfl⟩
 · intro i hi J hJ
   refine xb rfl ?_ ?_ <;> intro h
   · have h : i < rr.length := by simpa using h
     obtain ⟨row, hg⟩ : ∃ row, rr[i]? = some row := ⟨_, List.getElem?_eq_getElem h⟩
     obtain ⟨x0, x1, x2, x3, x4, x5, rfl, h4, h5⟩ := y1x (hw.2 row (List.mem_of_getElem? hg))
     have hl := z11 (f := (mk zp)) (k := k) hi
     have hg0 := q10 (f := (mk zp)) (k := k) hg
     have hlt : i < (md (mk zp) rr k i).length := by omega
     refine xs rfl (hl).symm (xs rfl (nn_ _) (y9 rfl _ hg0 (xs rfl rfl (xs rfl (hl).symm (y9 rfl _ hg0 (xs rfl (by show 0 + 1 ≤ 6; omega) (xs rfl ⟨trivial, trivial⟩ ?_)))))))
     refine xs rfl (qc (hl)).symm (xs rfl (nn_ _) (y9 rfl _ (qy (hl) h) (xs rfl rfl (xs rfl (qc (hl)).symm (y9 rfl _ (qy (hl) h) (xs rfl (by show 1 + 1 ≤ 6; omega) (xs rfl ⟨trivial, trivial⟩ ?_)))))))
     refine xs rfl (qc (qc (hl))).symm (xs rfl (nn_ _) (y9 rfl _ (qy (qc (hl)) h) (xs rfl rfl (xs rfl (qc (qc (hl))).symm (y9 rfl _ (qy (qc (hl)) h) (xs rfl (by show 2 + 1 ≤ 6; omega) (xs rfl ⟨trivial, trivial⟩ ?_)))))))
     refine xs rfl (qc (qc (qc (hl)))).symm (xs rfl (nn_ _) (y9 rfl _ (qy (qc (qc (hl))) h) (xs rfl rfl (xs rfl (qc (qc (qc (hl)))).symm (y9 rfl _ (qy (qc (qc (hl))) h) (xs rfl (by show 3 + 1 ≤ 6; omega) (xs rfl ⟨trivial, trivial⟩ ?_)))))))
     refine xs rfl (qc (qc (qc (qc (hl))))).symm (xs rfl (nn_ _) (y9 rfl _ (qy (qc (qc (qc (hl)))) h) (xs rfl rfl (xs rfl (qc (qc (qc (qc (hl))))).symm (y9 rfl _ (qy (qc (qc (qc (hl)))) h) ?_)))))
     refine y0u rfl (y26 0 _ _ h4) ⟨⟨rfl, rfl, rfl, _, (qy (qc (qc (qc (hl)))) h), rfl⟩, rfl, trivial⟩ rfl ?_
     refine xs rfl (lsr (qc (qc (qc (qc (hl)))))).symm (xs rfl (nn_ _) (y9 rfl _ (yf (qy (qc (qc (qc (hl)))) h)) (xs rfl rfl (xs rfl (lsr (qc (qc (qc (qc (hl)))))).symm (y9 rfl _ (yf (qy (qc (qc (qc (hl)))) h)) ?_)))))
     refine y0u rfl (y2o 0 _ _ h5) ⟨⟨rfl, rfl, rfl, _, (yf (qy (qc (qc (qc (hl)))) h)), rfl⟩, rfl, trivial⟩ rfl ?_
     refine q9 rfl (hJ _ (i + 1) (by omega) (by omega) ?_)
     refine ⟨⟨cwi (by omega) (by omega) (by omega), ?_, ⟨rfl, rfl, rfl⟩, trivial⟩, ⟨⟨?_, .inl rfl, .inl rfl⟩, trivial⟩, rfl⟩
     · rw [q06 hg]; rfl
     · refine Eq.trans ?_ (y11 hg)
       try simp only [Int.toNat_natCast, qv hg0, ssr hlt, List.set_set]
       rfl
   · have h : ¬ i < rr.length := by simpa using h
     have : i = rr.length := by omega
     subst this
     exact xr rfl (y18 rfl ⟨⟨rfl, congrArg (Value.int .i64) z0g, trivial⟩, z6 rfl⟩ ⟨⟨rfl, rfl, y10, qn _ _ _, qq hw⟩, trivial⟩)
theorem y4g (z : Nat) (rr : List (List Cell)) (k : Int) (hw : WR 9000000000000000000 zm rr) : PG Tryz.prog 160 [.one (.giv true z rr), .one (.bor (i64 k))] (rI (mkR (mk zm) rr k).2) [(0, (mkR (mk zm) rr k).1)] := by
 refine PG.begin Tryz.func160 rfl (by kernel_rfl) ?_
 have hlen := hw.1
 refine yd rfl (ι := Nat) (fun i => i ≤ rr.length) (fun i => ⟨[(5, sV (.int .i64 i)), (1, sV (.int .i64 (mdk (mk zm) rr k i))), (0, .one (.h 1000000000 rr.length))], [(1000000000, .arr true z 0 (md (mk zm) rr k i))]⟩) (fun i => rr.length - i) 0 (Nat.zero_le _) ?_ ?_
 · exact ⟨⟨rfl, congrArg (fun n => Cell.s (.int .i64 n)) z07.symm, ⟨rfl, rfl, rfl⟩, trivial⟩, ⟨⟨q0f.symm, .inl rfl, .inl rfl⟩, trivial⟩, rfl⟩
 · intro i hi J hJ
   refine xb rfl ?_ ?_ <;> intro h
   · have h : i < rr.length := by simpa using h
     obtain ⟨row, hg⟩ : ∃ row, rr[i]? = some row := ⟨_, List.getElem?_eq_getElem h⟩
     obtain ⟨x0, x1, x2, x3, x4, rfl⟩ := q0p (hw.2 row (List.mem_of_getElem? hg))
     have hl := z11 (f := (mk zm)) (k := k) hi
     have hg0 := q10 (f := (mk zm)) (k := k) hg
     have hlt : i < (md (mk zm) rr k i).length := by omega
     refine xs rfl (hl).symm (xs rfl (nn_ _) (y9 rfl _ hg0 (xs rfl rfl (xs rfl (hl).symm (y9 rfl _ hg0 (xs rfl (by show 0 + 1 ≤ 5; omega) (xs rfl ⟨trivial, trivial⟩ ?_)))))))
     refine xs rfl (qc (hl)).symm (xs rfl (nn_ _) (y9 rfl _ (qy (hl) h) (xs rfl rfl (xs rfl (qc (hl)).symm (y9 rfl _ (qy (hl) h) (xs rfl (by show 1 + 1 ≤ 5; omega) (xs rfl ⟨trivial, trivial⟩ ?_)))))))
     refine xs rfl (qc (qc (hl))).symm (xs rfl (nn_ _) (y9 rfl _ (qy (qc (hl)) h) (xs rfl rfl (xs rfl (qc (qc (hl))).symm (y9 rfl _ (qy (qc (hl)) h) (xs rfl (by show 2 + 1 ≤ 5; omega) (xs rfl ⟨trivial, trivial⟩ ?_)))))))
     refine xs rfl (qc (qc (qc (hl)))).symm (xs rfl (nn_ _) (y9 rfl _ (qy (qc (qc (hl))) h) (xs rfl rfl (xs rfl (qc (qc (qc (hl)))).symm (y9 rfl _ (qy (qc (qc (hl))) h) (xs rfl (by show 3 + 1 ≤ 5; omega) (xs rfl ⟨trivial, trivial⟩ ?_)))))))
     refine xs rfl (qc (qc (qc (qc (hl))))).symm (xs rfl (nn_ _) (y9 rfl _ (qy (qc (qc (qc (hl)))) h) (xs rfl rfl (xs rfl (qc (qc (qc (qc (hl))))).symm (y9 rfl _ (qy (qc (qc (qc (hl)))) h) (xs rfl (by show 4 + 1 ≤ 5; omega) (xs rfl ⟨trivial, trivial⟩ ?_)))))))
     refine q9 rfl (hJ _ (i + 1) (by omega) (by omega) ?_)
     refine ⟨⟨cwi (by omega) (by omega) (by omega), ?_, ⟨rfl, rfl, rfl⟩, trivial⟩, ⟨⟨?_, .inl rfl, .inl rfl⟩, trivial⟩, rfl⟩
     · rw [q06 hg]; rfl
     · refine Eq.trans ?_ (y11 hg)
       try simp only [Int.toNat_natCast, qv hg0, ssr hlt, List.set_set]
       rfl
   · have h : ¬ i < rr.length := by simpa using h
     have : i = rr.length := by omega
     subst this
     exact xr rfl (y18 rfl ⟨⟨rfl, congrArg (Value.int .i64) z0g, trivial⟩, z6 rfl⟩ ⟨⟨rfl, rfl, y10, qn _ _ _, qq hw⟩, trivial⟩)
theorem y3q (z : Nat) (rr : List (List Cell)) (k : Int) (hw : WR 9000000000000000000 qa rr) : PG Tryz.prog 83 [.one (.giv true z rr), .one (.bor (i64 k))] (rI (mkR (mk qa) rr k).2) [(0, (mkR (mk qa) rr k).1)] := by
 refine PG.begin Tryz.func83 rfl (by kernel_rfl) ?_
 have hlen := hw.1
 refine yd rfl (ι := Nat) (fun i => i ≤ rr.length) (fun i => ⟨[(5, sV (.int .i64 i)), (1, sV (.int .i64 (mdk (mk qa) rr k i))), (0, .one (.h 1000000000 rr.length))], [(1000000000, .arr true z 0 (md (mk qa) rr k i))]⟩) (fun i => rr.length - i) 0 (Nat.zero_le _) ?_ ?_
 · exact ⟨⟨rfl, congrArg (fun n => Cell.s (.int .i64 n)) z07.symm, ⟨rfl, rfl, rfl⟩, trivial⟩, ⟨⟨q0f.symm, .inl rfl, .inl rfl⟩, trivial⟩, rfl⟩
 · intro i hi J hJ
   refine xb rfl ?_ ?_ <;> intro h
   · have h : i < rr.length := by simpa using h
     obtain ⟨row, hg⟩ : ∃ row, rr[i]? = some row := ⟨_, List.getElem?_eq_getElem h⟩
     obtain ⟨x0, x1, x2, rfl, h1, h2⟩ := q0e (hw.2 row (List.mem_of_getElem? hg))
     have hl := z11 (f := (mk qa)) (k := k) hi
     have hg0 := q10 (f := (mk qa)) (k := k) hg
     have hlt : i < (md (mk qa) rr k i).length := by omega
     refine xs rfl (hl).symm (xs rfl (nn_ _) (y9 rfl _ hg0 (xs rfl rfl (xs rfl (hl).symm (y9 rfl _ hg0 (xs rfl (by show 0 + 1 ≤ 3; omega) (xs rfl ⟨trivial, trivial⟩ ?_)))))))
     refine xs rfl (qc (hl)).symm (xs rfl (nn_ _) (y9 rfl _ (qy (hl) h) (xs rfl rfl (xs rfl (qc (hl)).symm (y9 rfl _ (qy (hl) h) ?_)))))
     refine y0u rfl (y5r 0 _ _ h1) ⟨⟨rfl, rfl, rfl, _, (qy (hl) h), rfl⟩, rfl, trivial⟩ rfl ?_
     refine xs rfl (lsr (qc (hl))).symm (xs rfl (nn_ _) (y9 rfl _ (yf (qy (hl) h)) (xs rfl rfl (xs rfl (lsr (qc (hl))).symm (y9 rfl _ (yf (qy (hl) h)) ?_)))))
     refine y0u rfl (y4g 0 _ _ h2) ⟨⟨rfl, rfl, rfl, _, (yf (qy (hl) h)), rfl⟩, rfl, trivial⟩ rfl ?_
     refine q9 rfl (hJ _ (i + 1) (by omega) (by omega) ?_)
     refine ⟨⟨cwi (by omega) (by omega) (by omega), ?_, ⟨rfl, rfl, rfl⟩, trivial⟩, ⟨⟨?_, .inl rfl, .inl rfl⟩, trivial⟩, rfl⟩
     · rw [q06 hg]; rfl
     · refine Eq.trans ?_ (y11 hg)
       try simp only [Int.toNat_natCast, qv hg0, ssr hlt, List.set_set]
       rfl
   · have h : ¬ i < rr.length := by simpa using h
     have : i = rr.length := by omega
     subst this
     exact xr rfl (y18 rfl ⟨⟨rfl, congrArg (Value.int .i64) z0g, trivial⟩, z6 rfl⟩ ⟨⟨rfl, rfl, y10, qn _ _ _, qq hw⟩, trivial⟩)
theorem y39 (z : Nat) (rr : List (List Cell)) (k : Int) (hw : WR 9000000000000000000 qb rr) : PG Tryz.prog 84 [.one (.giv true z rr), .one (.bor (i64 k))] (rI (mkR (mk qb) rr k).2) [(0, (mkR (mk qb) rr k).1)] := by
 refine PG.begin Tryz.func84 rfl (by kernel_rfl) ?_
 have hlen := hw.1
 refine yd rfl (ι := Nat) (fun i => i ≤ rr.length) (fun i => ⟨[(5, sV (.int .i64 i)), (1, sV (.int .i64 (mdk (mk qb) rr k i))), (0, .one (.h 1000000000 rr.length))], [(1000000000, .arr true z 0 (md (mk qb) rr k i))]⟩) (fun i => rr.length - i) 0 (Nat.zero_le _) ?_ ?_
 · exact ⟨⟨rfl, congrArg (fun n => Cell.s (.int .i64 n)) z07.symm, ⟨rfl, rfl, rfl⟩, trivial⟩, ⟨⟨q0f.symm, .inl rfl, .inl rfl⟩, trivial⟩, rfl⟩
 · intro i hi J hJ
   refine xb rfl ?_ ?_ <;> intro h
   · have h : i < rr.length := by simpa using h
     obtain ⟨row, hg⟩ : ∃ row, rr[i]? = some row := ⟨_, List.getElem?_eq_getElem h⟩
     obtain ⟨x0, x1, x2, x3, x4, x5, x6, x7, x8, rfl⟩ := z0a (hw.2 row (List.mem_of_getElem? hg))
     have hl := z11 (f := (mk qb)) (k := k) hi
     have hg0 := q10 (f := (mk qb)) (k := k) hg
     have hlt : i < (md (mk qb) rr k i).length := by omega
     refine xs rfl (hl).symm (xs rfl (nn_ _) (y9 rfl _ hg0 (xs rfl rfl (xs rfl (hl).symm (y9 rfl _ hg0 (xs rfl (by show 0 + 1 ≤ 9; omega) (xs rfl ⟨trivial, trivial⟩ ?_)))))))
     refine xs rfl (qc (hl)).symm (xs rfl (nn_ _) (y9 rfl _ (qy (hl) h) (xs rfl rfl (xs rfl (qc (hl)).symm (y9 rfl _ (qy (hl) h) (xs rfl (by show 1 + 1 ≤ 9; omega) (xs rfl ⟨trivial, trivial⟩ ?_)))))))
     refine xs rfl (qc (qc (hl))).symm (xs rfl (nn_ _) (y9 rfl _ (qy (qc (hl)) h) (xs rfl rfl (xs rfl (qc (qc (hl))).symm (y9 rfl _ (qy (qc (hl)) h) (xs rfl (by show 2 + 1 ≤ 9; omega) (xs rfl ⟨trivial, trivial⟩ ?_)))))))
     refine xs rfl (qc (qc (qc (hl)))).symm (xs rfl (nn_ _) (y9 rfl _ (qy (qc (qc (hl))) h) (xs rfl rfl (xs rfl (qc (qc (qc (hl)))).symm (y9 rfl _ (qy (qc (qc (hl))) h) (xs rfl (by show 3 + 1 ≤ 9; omega) (xs rfl ⟨trivial, trivial⟩ ?_)))))))
     refine xs rfl (qc (qc (qc (qc (hl))))).symm (xs rfl (nn_ _) (y9 rfl _ (qy (qc (qc (qc (hl)))) h) (xs rfl rfl (xs rfl (qc (qc (qc (qc (hl))))).symm (y9 rfl _ (qy (qc (qc (qc (hl)))) h) (xs rfl (by show 4 + 1 ≤ 9; omega) (xs rfl ⟨trivial, trivial⟩ ?_)))))))
     refine xs rfl (qc (qc (qc (qc (qc (hl)))))).symm (xs rfl (nn_ _) (y9 rfl _ (qy (qc (qc (qc (qc (hl))))) h) (xs rfl rfl (xs rfl (qc (qc (qc (qc (qc (hl)))))).symm (y9 rfl _ (qy (qc (qc (qc (qc (hl))))) h) (xs rfl (by show 5 + 1 ≤ 9; omega) (xs rfl ⟨trivial, trivial⟩ ?_)))))))
     refine xs rfl (qc (qc (qc (qc (qc (qc (hl))))))).symm (xs rfl (nn_ _) (y9 rfl _ (qy (qc (qc (qc (qc (qc (hl)))))) h) (xs rfl rfl (xs rfl (qc (qc (qc (qc (qc (qc (hl))))))).symm (y9 rfl _ (qy (qc (qc (qc (qc (qc (hl)))))) h) (xs rfl (by show 6 + 1 ≤ 9; omega) (xs rfl ⟨trivial, trivial⟩ ?_)))))))
     refine xs rfl (qc (qc (qc (qc (qc (qc (qc (hl)))))))).symm (xs rfl (nn_ _) (y9 rfl _ (qy (qc (qc (qc (qc (qc (qc (hl))))))) h) (xs rfl rfl (xs rfl (qc (qc (qc (qc (qc (qc (qc (hl)))))))).symm (y9 rfl _ (qy (qc (qc (qc (qc (qc (qc (hl))))))) h) (xs rfl (by show 7 + 1 ≤ 9; omega) (xs rfl ⟨trivial, trivial⟩ ?_)))))))
     refine xs rfl (qc (qc (qc (qc (qc (qc (qc (qc (hl))))))))).symm (xs rfl (nn_ _) (y9 rfl _ (qy (qc (qc (qc (qc (qc (qc (qc (hl)))))))) h) (xs rfl rfl (xs rfl (qc (qc (qc (qc (qc (qc (qc (qc (hl))))))))).symm (y9 rfl _ (qy (qc (qc (qc (qc (qc (qc (qc (hl)))))))) h) (xs rfl (by show 8 + 1 ≤ 9; omega) (xs rfl ⟨trivial, trivial⟩ ?_)))))))
     refine q9 rfl (hJ _ (i + 1) (by omega) (by omega) ?_)
     refine ⟨⟨cwi (by omega) (by omega) (by omega), ?_, ⟨rfl, rfl, rfl⟩, trivial⟩, ⟨⟨?_, .inl rfl, .inl rfl⟩, trivial⟩, rfl⟩
     · rw [q06 hg]; rfl
     · refine Eq.trans ?_ (y11 hg)
       try simp only [Int.toNat_natCast, qv hg0, ssr hlt, List.set_set]
       rfl
   · have h : ¬ i < rr.length := by simpa using h
     have : i = rr.length := by omega
     subst this
     exact xr rfl (y18 rfl ⟨⟨rfl, congrArg (Value.int .i64) z0g, trivial⟩, z6 rfl⟩ ⟨⟨rfl, rfl, y10, qn _ _ _, qq hw⟩, trivial⟩)
theorem y1s (z0 z1 z2 z3 z4 : Nat) (x0 : List (List Cell)) (x1 : List (List Cell)) (x2 : List (List Cell)) (x3 : List (List Cell)) (x4 : List (List Cell)) (k : Int) (k0 : Int) (k1 : Int) (k2 : Int) (k3 : Int) (k4 : Int) (h0 : WR 9000000000000000000 q7 x0) (h1 : WR 9000000000000000000 zb x1) (h2 : WR 9000000000000000000 z8 x2) (h3 : WR 9000000000000000000 qa x3) (h4 : WR 9000000000000000000 qb x4) (e0 : (mkR (mk q7) x0 k).2 = k0) (e1 : (mkR (mk zb) x1 k0).2 = k1) (e2 : (mkR (mk z8) x2 k1).2 = k2) (e3 : (mkR (mk qa) x3 k2).2 = k3) (e4 : (mkR (mk qb) x4 k3).2 = k4) : PG Tryz.prog 25 [.agg [.giv true z0 x0, .giv true z1 x1, .giv true z2 x2, .giv true z3 x3, .giv true z4 x4], .one (.bor (i64 k))] (rI k4) [(0, (mkR (mk q7) x0 k).1), (1, (mkR (mk zb) x1 k0).1), (2, (mkR (mk z8) x2 k1).1), (3, (mkR (mk qa) x3 k2).1), (4, (mkR (mk qb) x4 k3).1)] := by
 refine PG.begin Tryz.func25 rfl (by kernel_rfl) ?_
 refine y0u rfl (z1a z0 x0 k h0) ⟨⟨rfl, rfl, rfl, rfl⟩, rfl, trivial⟩ rfl ?_
 rw [e0]
 refine y0u rfl (z4h z1 x1 k0 h1) ⟨⟨rfl, rfl, rfl, rfl⟩, rfl, trivial⟩ rfl ?_
 rw [e1]
 refine y0u rfl (y2s z2 x2 k1 h2) ⟨⟨rfl, rfl, rfl, rfl⟩, rfl, trivial⟩ rfl ?_
 rw [e2]
 refine y0u rfl (y3q z3 x3 k2 h3) ⟨⟨rfl, rfl, rfl, rfl⟩, rfl, trivial⟩ rfl ?_
 rw [e3]
 refine y0u rfl (y39 z4 x4 k3 h4) ⟨⟨rfl, rfl, rfl, rfl⟩, rfl, trivial⟩ rfl ?_
 rw [e4]
 exact xr rfl (y18 rfl ⟨⟨rfl, rfl, trivial⟩, z6 rfl⟩ ⟨⟨rfl, rfl, rfl, qn _ _ _, qq h0⟩, ⟨rfl, rfl, rfl, qn _ _ _, qq h1⟩, ⟨rfl, rfl, rfl, qn _ _ _, qq h2⟩, ⟨rfl, rfl, rfl, qn _ _ _, qq h3⟩, ⟨rfl, rfl, rfl, qn _ _ _, qq h4⟩, trivial⟩)
theorem z37 (rr : List (List Cell)) (k : Int) (hw : WR 9000000000000000000 ze rr) : PC Tryz.prog 241 [.one (.l rr), .one (i64 k)] (rI (ng (hdR (hd ze) rr k))) := by
 refine PC.begin Tryz.func241 rfl (by kernel_rfl) ?_
 have hlen := hw.1
 refine yd rfl (ι := Nat × Int) (fun x => x.1 ≤ rr.length ∧ hdR (hd ze) (rr.take x.1) k = some x.2) (fun x => ⟨[(5, sV (.int .i64 x.1)), (1, sV (.int .i64 x.2)), (0, .one (.b (.l rr)))], []⟩) (fun x => rr.length - x.1) (0, k) ⟨Nat.zero_le _, rfl⟩ ?_ ?_
 · exact ⟨⟨rfl, rfl, rfl, trivial⟩, trivial, rfl⟩
 · intro ⟨i, v⟩ ⟨hi, hv⟩ J hJ
   dsimp only at hi hv ⊢
   refine xb rfl ?_ ?_ <;> intro h
   · have h : i < rr.length := by simpa using h
     obtain ⟨row, hg⟩ : ∃ row, rr[i]? = some row := ⟨_, List.getElem?_eq_getElem h⟩
     obtain ⟨x0, x1, x2, rfl⟩ := q09 (hw.2 row (List.mem_of_getElem? hg))
     have hst := y06 hg hv
     refine xs rfl (nn_ _) (y9 rfl _ hg (xs rfl rfl ?_))
     refine xb rfl ?_ ?_ <;> intro hb
     · have hb : ¬ x0 = mkv .i64 (v) := by simpa [mkv, nx] using hb
       exact xv rfl rfl rfl (congrArg (Value.int .i64) (yg (qf (i := i + 1) (hst.trans (by simp only [hd, if_neg hb])))).symm)
     have hb0 : x0 = mkv .i64 (v) := by simpa [mkv, nx] using hb
     clear hb
     refine xs rfl (nn_ _) (y9 rfl _ hg (xs rfl rfl ?_))
     refine xb rfl ?_ ?_ <;> intro hb
     · have hb : ¬ x1 = mkv .i64 (nx (v)) := by simpa [mkv, nx] using hb
       exact xv rfl rfl rfl (congrArg (Value.int .i64) (yg (qf (i := i + 1) (hst.trans (by simp only [hd, if_neg hb, if_pos hb0])))).symm)
     have hb1 : x1 = mkv .i64 (nx (v)) := by simpa [mkv, nx] using hb
     clear hb
     refine xs rfl (nn_ _) (y9 rfl _ hg (xs rfl rfl ?_))
     refine xb rfl ?_ ?_ <;> intro hb
     · have hb : ¬ x2 = mkv .i64 (nx (nx (v))) := by simpa [mkv, nx] using hb
       exact xv rfl rfl rfl (congrArg (Value.int .i64) (yg (qf (i := i + 1) (hst.trans (by simp only [hd, if_neg hb, if_pos hb0, if_pos hb1])))).symm)
     have hb2 : x2 = mkv .i64 (nx (nx (v))) := by simpa [mkv, nx] using hb
     clear hb
     refine q9 rfl (hJ _ (i + 1, nx (nx (nx (v)))) ⟨by dsimp only; omega, hst.trans (by simp only [hd, if_pos hb0, if_pos hb1, if_pos hb2])⟩ (by dsimp only; omega) ?_)
     exact ⟨⟨cwi (by omega) (by omega) (by omega), rfl, rfl, trivial⟩, trivial, rfl⟩
   · have h : ¬ i < rr.length := by simpa using h
     have : i = rr.length := by omega
     subst this
     rw [List.take_length] at hv
     exact xv rfl rfl rfl (congrArg (Value.int .i64) (by rw [hv]; rfl))
abbrev z1b : Sh := (.i .i64 (.l q7 (.l zb (.l z8 (.l qa (.l qb .nil))))))
theorem y22 (x0 : Int) (x1 : List (List Cell)) (x2 : List (List Cell)) (x3 : List (List Cell)) (x4 : List (List Cell)) (x5 : List (List Cell)) (y0 : Int) (y1 : List (List Cell)) (y2 : List (List Cell)) (y3 : List (List Cell)) (y4 : List (List Cell)) (y5 : List (List Cell)) (h1 : WR 9000000000000000000 q7 x1) (h2 : WR 9000000000000000000 zb x2) (h3 : WR 9000000000000000000 z8 x3) (h4 : WR 9000000000000000000 qa x4) (h5 : WR 9000000000000000000 qb x5) (k1 : WR 9000000000000000000 q7 y1) (k2 : WR 9000000000000000000 zb y2) (k3 : WR 9000000000000000000 z8 y3) (k4 : WR 9000000000000000000 qa y4) (k5 : WR 9000000000000000000 qb y5) : PC Tryz.prog 24 [.agg [.s (.int .i64 x0), .l x1, .l x2, .l x3, .l x4, .l x5], .agg [.s (.int .i64 y0), .l y1, .l y2, .l y3, .l y4, .l y5]] (rB (dE (α := List Cell) [.s (.int .i64 x0), .l x1, .l x2, .l x3, .l x4, .l x5] [.s (.int .i64 y0), .l y1, .l y2, .l y3, .l y4, .l y5])) := by
 refine PC.begin Tryz.func24 rfl (by kernel_rfl) ?_
 refine xb rfl (fun h => ?_) (fun e0 => ?_)
 · exact xv rfl rfl rfl (zl (fun e => by simp only [List.cons.injEq, Cell.s.injEq, Value.int.injEq, Value.bool.injEq, Value.string.injEq] at e; simp [e] at h))
 have e0 : x0 = y0 := by simpa using e0
 refine z7 rfl (y2k _ _ _ _ _ _ _ _ _ _ h1 h2 h3 h4 h5 k1 k2 k3 k4 k5) rfl ⟨tv6, tv6, trivial⟩ ?_
 refine xb rfl (fun h => ?_) (fun e1 => ?_)
 · exact xv rfl rfl rfl (zl (fun e => y08 h (by simp only [List.cons.injEq, Cell.l.injEq] at e ⊢; simp only [e]; try trivial)))
 have e1 := z08 e1
 simp only [List.cons.injEq, Cell.s.injEq, Cell.l.injEq, Value.int.injEq, Value.bool.injEq, and_true, true_and] at e1
 exact xv rfl rfl rfl (yx (by simp [e0, e1]))
theorem z1q (z1 z2 z3 z4 z5 : Nat) (x0 : Int) (x1 : List (List Cell)) (x2 : List (List Cell)) (x3 : List (List Cell)) (x4 : List (List Cell)) (x5 : List (List Cell)) (k : Int) (k1 : Int) (k2 : Int) (k3 : Int) (k4 : Int) (k5 : Int) (h1 : WR 9000000000000000000 q7 x1) (h2 : WR 9000000000000000000 zb x2) (h3 : WR 9000000000000000000 z8 x3) (h4 : WR 9000000000000000000 qa x4) (h5 : WR 9000000000000000000 qb x5) (e1 : (mkR (mk q7) x1 k).2 = k1) (e2 : (mkR (mk zb) x2 k1).2 = k2) (e3 : (mkR (mk z8) x3 k2).2 = k3) (e4 : (mkR (mk qa) x4 k3).2 = k4) (e5 : (mkR (mk qb) x5 k4).2 = k5) : PG Tryz.prog 26 [.agg [.bor (.s (.int .i64 x0)), .giv true z1 x1, .giv true z2 x2, .giv true z3 x3, .giv true z4 x4, .giv true z5 x5], .one (.bor (i64 k))] (rI k5) [(1, (mkR (mk q7) x1 k).1), (2, (mkR (mk zb) x2 k1).1), (3, (mkR (mk z8) x3 k2).1), (4, (mkR (mk qa) x4 k3).1), (5, (mkR (mk qb) x5 k4).1)] := by
 refine PG.begin Tryz.func26 rfl (by kernel_rfl) ?_
 refine y0u rfl (y1s z1 z2 z3 z4 z5 x1 x2 x3 x4 x5 k k1 k2 k3 k4 k5 h1 h2 h3 h4 h5 e1 e2 e3 e4 e5) ⟨⟨⟨rfl, rfl, rfl, rfl⟩, ⟨rfl, rfl, rfl, rfl⟩, ⟨rfl, rfl, rfl, rfl⟩, ⟨rfl, rfl, rfl, rfl⟩, ⟨rfl, rfl, rfl, rfl⟩, trivial⟩, rfl, trivial⟩ rfl ?_
 exact xr rfl (y18 rfl ⟨⟨rfl, rfl, trivial⟩, z6 rfl⟩ ⟨⟨rfl, rfl, rfl, qn _ _ _, qq h1⟩, ⟨rfl, rfl, rfl, qn _ _ _, qq h2⟩, ⟨rfl, rfl, rfl, qn _ _ _, qq h3⟩, ⟨rfl, rfl, rfl, qn _ _ _, qq h4⟩, ⟨rfl, rfl, rfl, qn _ _ _, qq h5⟩, trivial⟩)
theorem q5n (rr : List (List Cell)) (k : Int) (hw : WR 9000000000000000000 qw rr) : PC Tryz.prog 240 [.one (.l rr), .one (i64 k)] (rI (ng (hdR (hd qw) rr k))) := by
 refine PC.begin Tryz.func240 rfl (by kernel_rfl) ?_
 have hlen := hw.1
 refine yd rfl (ι := Nat × Int) (fun x => x.1 ≤ rr.length ∧ hdR (hd qw) (rr.take x.1) k = some x.2) (fun x => ⟨[(5, sV (.int .i64 x.1)), (1, sV (.int .i64 x.2)), (0, .one (.b (.l rr)))], []⟩) (fun x => rr.length - x.1) (0, k) ⟨Nat.zero_le _, rfl⟩ ?_ ?_
 · exact ⟨⟨rfl, rfl, rfl, trivial⟩, trivial, rfl⟩
 · intro ⟨i, v⟩ ⟨hi, hv⟩ J hJ
   dsimp only at hi hv ⊢
   refine xb rfl ?_ ?_ <;> intro h
   · have h : i < rr.length := by simpa using h
     obtain ⟨row, hg⟩ : ∃ row, rr[i]? = some row := ⟨_, List.getElem?_eq_getElem h⟩
     obtain ⟨x0, x1, x2, x3, rfl⟩ := z1x (hw.2 row (List.mem_of_getElem? hg))
     have hst := y06 hg hv
     refine xs rfl (nn_ _) (y9 rfl _ hg (xs rfl rfl ?_))
     refine xb rfl ?_ ?_ <;> intro hb
     · have hb : ¬ x0 = mkv .i64 (v) := by simpa [mkv, nx] using hb
       exact xv rfl rfl rfl (congrArg (Value.int .i64) (yg (qf (i := i + 1) (hst.trans (by simp only [hd, if_neg hb])))).symm)
     have hb0 : x0 = mkv .i64 (v) := by simpa [mkv, nx] using hb
     clear hb
     refine xs rfl (nn_ _) (y9 rfl _ hg (xs rfl rfl ?_))
     refine xb rfl ?_ ?_ <;> intro hb
     · have hb : ¬ x1 = mkv .i64 (nx (v)) := by simpa [mkv, nx] using hb
       exact xv rfl rfl rfl (congrArg (Value.int .i64) (yg (qf (i := i + 1) (hst.trans (by simp only [hd, if_neg hb, if_pos hb0])))).symm)
     have hb1 : x1 = mkv .i64 (nx (v)) := by simpa [mkv, nx] using hb
     clear hb
     refine xs rfl (nn_ _) (y9 rfl _ hg (xs rfl rfl ?_))
     refine xb rfl ?_ ?_ <;> intro hb
     · have hb : ¬ x2 = mkv .i64 (nx (nx (v))) := by simpa [mkv, nx] using hb
       exact xv rfl rfl rfl (congrArg (Value.int .i64) (yg (qf (i := i + 1) (hst.trans (by simp only [hd, if_neg hb, if_pos hb0, if_pos hb1])))).symm)
     have hb2 : x2 = mkv .i64 (nx (nx (v))) := by simpa [mkv, nx] using hb
     clear hb
     refine xs rfl (nn_ _) (y9 rfl _ hg (xs rfl rfl ?_))
     refine xb rfl ?_ ?_ <;> intro hb
     · have hb : ¬ x3 = mkv .i64 (nx (nx (nx (v)))) := by simpa [mkv, nx] using hb
       exact xv rfl rfl rfl (congrArg (Value.int .i64) (yg (qf (i := i + 1) (hst.trans (by simp only [hd, if_neg hb, if_pos hb0, if_pos hb1, if_pos hb2])))).symm)
     have hb3 : x3 = mkv .i64 (nx (nx (nx (v)))) := by simpa [mkv, nx] using hb
     clear hb
     refine q9 rfl (hJ _ (i + 1, nx (nx (nx (nx (v))))) ⟨by dsimp only; omega, hst.trans (by simp only [hd, if_pos hb0, if_pos hb1, if_pos hb2, if_pos hb3])⟩ (by dsimp only; omega) ?_)
     exact ⟨⟨cwi (by omega) (by omega) (by omega), rfl, rfl, trivial⟩, trivial, rfl⟩
   · have h : ¬ i < rr.length := by simpa using h
     have : i = rr.length := by omega
     subst this
     rw [List.take_length] at hv
     exact xv rfl rfl rfl (congrArg (Value.int .i64) (by rw [hv]; rfl))
theorem y19 (rr : List (List Cell)) (k : Int) (hw : WR 9000000000000000000 q7 rr) : PC Tryz.prog 161 [.one (.l rr), .one (i64 k)] (rI (ng (hdR (hd q7) rr k))) := by
 refine PC.begin Tryz.func161 rfl (by kernel_rfl) ?_
 have hlen := hw.1
 refine yd rfl (ι := Nat × Int) (fun x => x.1 ≤ rr.length ∧ hdR (hd q7) (rr.take x.1) k = some x.2) (fun x => ⟨[(5, sV (.int .i64 x.1)), (1, sV (.int .i64 x.2)), (0, .one (.b (.l rr)))], []⟩) (fun x => rr.length - x.1) (0, k) ⟨Nat.zero_le _, rfl⟩ ?_ ?_
 · exact ⟨⟨rfl, rfl, rfl, trivial⟩, trivial, rfl⟩
 · intro ⟨i, v⟩ ⟨hi, hv⟩ J hJ
   dsimp only at hi hv ⊢
   refine xb rfl ?_ ?_ <;> intro h
   · have h : i < rr.length := by simpa using h
     obtain ⟨row, hg⟩ : ∃ row, rr[i]? = some row := ⟨_, List.getElem?_eq_getElem h⟩
     obtain ⟨x0, x1, rfl, h1⟩ := y05 (hw.2 row (List.mem_of_getElem? hg))
     have hst := y06 hg hv
     refine xs rfl (nn_ _) (y9 rfl _ hg (xs rfl rfl ?_))
     refine xb rfl ?_ ?_ <;> intro hb
     · have hb : ¬ x0 = mkv .i64 (v) := by simpa [mkv, nx] using hb
       exact xv rfl rfl rfl (congrArg (Value.int .i64) (yg (qf (i := i + 1) (hst.trans (by simp only [hd, if_neg hb])))).symm)
     have hb0 : x0 = mkv .i64 (v) := by simpa [mkv, nx] using hb
     clear hb
     refine xs rfl (nn_ _) (y9 rfl _ hg (xs rfl rfl ?_))
     refine z7 rfl (q5n x1 (nx (v)) h1) rfl tv3 ?_
     generalize hk1 : ng (hdR (hd qw) x1 (nx (v))) = k1
     refine xb rfl ?_ ?_ <;> intro hb
     · have hb : k1 < 0 := by simpa using hb
       exact xv rfl rfl rfl (congrArg (Value.int .i64) (yg (qf (i := i + 1) (hst.trans (by simp only [hd, if_pos hb0, hk1, y1i hb]; rfl)))).symm)
     have hb1 : ¬ k1 < 0 := by simpa using hb
     clear hb
     refine q9 rfl (hJ _ (i + 1, k1) ⟨by dsimp only; omega, hst.trans (by simp only [hd, if_pos hb0, hk1, z00 hb1, Option.bind_some])⟩ (by dsimp only; omega) ?_)
     exact ⟨⟨cwi (by omega) (by omega) (by omega), rfl, rfl, trivial⟩, trivial, rfl⟩
   · have h : ¬ i < rr.length := by simpa using h
     have : i = rr.length := by omega
     subst this
     rw [List.take_length] at hv
     exact xv rfl rfl rfl (congrArg (Value.int .i64) (by rw [hv]; rfl))
theorem q2m (rr : List (List Cell)) (k : Int) (hw : WR 9000000000000000000 zh rr) : PC Tryz.prog 242 [.one (.l rr), .one (i64 k)] (rI (ng (hdR (hd zh) rr k))) := by
 refine PC.begin Tryz.func242 rfl (by kernel_rfl) ?_
 have hlen := hw.1
 refine yd rfl (ι := Nat × Int) (fun x => x.1 ≤ rr.length ∧ hdR (hd zh) (rr.take x.1) k = some x.2) (fun x => ⟨[(5, sV (.int .i64 x.1)), (1, sV (.int .i64 x.2)), (0, .one (.b (.l rr)))], []⟩) (fun x => rr.length - x.1) (0, k) ⟨Nat.zero_le _, rfl⟩ ?_ ?_
 · exact ⟨⟨rfl, rfl, rfl, trivial⟩, trivial, rfl⟩
 · intro ⟨i, v⟩ ⟨hi, hv⟩ J hJ
   dsimp only at hi hv ⊢
   refine xb rfl ?_ ?_ <;> intro h
   · have h : i < rr.length := by simpa using h
     obtain ⟨row, hg⟩ : ∃ row, rr[i]? = some row := ⟨_, List.getElem?_eq_getElem h⟩
     obtain ⟨x0, x1, rfl⟩ := q16 (hw.2 row (List.mem_of_getElem? hg))
     have hst := y06 hg hv
     refine xs rfl (nn_ _) (y9 rfl _ hg (xs rfl rfl ?_))
     refine xb rfl ?_ ?_ <;> intro hb
     · have hb : ¬ x0 = mkv .i64 (v) := by simpa [mkv, nx] using hb
       exact xv rfl rfl rfl (congrArg (Value.int .i64) (yg (qf (i := i + 1) (hst.trans (by simp only [hd, if_neg hb])))).symm)
     have hb0 : x0 = mkv .i64 (v) := by simpa [mkv, nx] using hb
     clear hb
     refine xs rfl (nn_ _) (y9 rfl _ hg (xs rfl rfl ?_))
     refine xb rfl ?_ ?_ <;> intro hb
     · have hb : ¬ x1 = mkv .i64 (nx (v)) := by simpa [mkv, nx] using hb
       exact xv rfl rfl rfl (congrArg (Value.int .i64) (yg (qf (i := i + 1) (hst.trans (by simp only [hd, if_neg hb, if_pos hb0])))).symm)
     have hb1 : x1 = mkv .i64 (nx (v)) := by simpa [mkv, nx] using hb
     clear hb
     refine q9 rfl (hJ _ (i + 1, nx (nx (v))) ⟨by dsimp only; omega, hst.trans (by simp only [hd, if_pos hb0, if_pos hb1])⟩ (by dsimp only; omega) ?_)
     exact ⟨⟨cwi (by omega) (by omega) (by omega), rfl, rfl, trivial⟩, trivial, rfl⟩
   · have h : ¬ i < rr.length := by simpa using h
     have : i = rr.length := by omega
     subst this
     rw [List.take_length] at hv
     exact xv rfl rfl rfl (congrArg (Value.int .i64) (by rw [hv]; rfl))
theorem y24 (rr : List (List Cell)) (k : Int) (hw : WR 9000000000000000000 (.i .i64 .nil) rr) : PC Tryz.prog 243 [.one (.l rr), .one (i64 k)] (rI (ng (hdR (hd (.i .i64 .nil)) rr k))) := by
 refine PC.begin Tryz.func243 rfl (by kernel_rfl) ?_
 have hlen := hw.1
 refine yd rfl (ι := Nat × Int) (fun x => x.1 ≤ rr.length ∧ hdR (hd (.i .i64 .nil)) (rr.take x.1) k = some x.2) (fun x => ⟨[(5, sV (.int .i64 x.1)), (1, sV (.int .i64 x.2)), (0, .one (.b (.l rr)))], []⟩) (fun x => rr.length - x.1) (0, k) ⟨Nat.zero_le _, rfl⟩ ?_ ?_
 · exact ⟨⟨rfl, rfl, rfl, trivial⟩, trivial, rfl⟩
 · intro ⟨i, v⟩ ⟨hi, hv⟩ J hJ
   dsimp only at hi hv ⊢
   refine xb rfl ?_ ?_ <;> intro h
   · have h : i < rr.length := by simpa using h
     obtain ⟨row, hg⟩ : ∃ row, rr[i]? = some row := ⟨_, List.getElem?_eq_getElem h⟩
     obtain ⟨x0, _, rfl, hnil⟩ := ((hw.2 row (List.mem_of_getElem? hg))).qx; obtain rfl := hnil.yz
     have hst := y06 hg hv
     refine xs rfl (nn_ _) (y9 rfl _ hg (xs rfl rfl ?_))
     refine xb rfl ?_ ?_ <;> intro hb
     · have hb : ¬ x0 = mkv .i64 (v) := by simpa [mkv, nx] using hb
       exact xv rfl rfl rfl (congrArg (Value.int .i64) (yg (qf (i := i + 1) (hst.trans (by simp only [hd, if_neg hb])))).symm)
     have hb0 : x0 = mkv .i64 (v) := by simpa [mkv, nx] using hb
     clear hb
     refine q9 rfl (hJ _ (i + 1, nx (v)) ⟨by dsimp only; omega, hst.trans (by simp only [hd, if_pos hb0])⟩ (by dsimp only; omega) ?_)
     exact ⟨⟨cwi (by omega) (by omega) (by omega), rfl, rfl, trivial⟩, trivial, rfl⟩
   · have h : ¬ i < rr.length := by simpa using h
     have : i = rr.length := by omega
     subst this
     rw [List.take_length] at hv
     exact xv rfl rfl rfl (congrArg (Value.int .i64) (by rw [hv]; rfl))
theorem q4c (rr : List (List Cell)) (k : Int) (hw : WR 9000000000000000000 zb rr) : PC Tryz.prog 162 [.one (.l rr), .one (i64 k)] (rI (ng (hdR (hd zb) rr k))) := by
 refine PC.begin Tryz.func162 rfl (by kernel_rfl) ?_
 have hlen := hw.1
 refine yd rfl (ι := Nat × Int) (fun x => x.1 ≤ rr.length ∧ hdR (hd zb) (rr.take x.1) k = some x.2) (fun x => ⟨[(5, sV (.int .i64 x.1)), (1, sV (.int .i64 x.2)), (0, .one (.b (.l rr)))], []⟩) (fun x => rr.length - x.1) (0, k) ⟨Nat.zero_le _, rfl⟩ ?_ ?_
 · exact ⟨⟨rfl, rfl, rfl, trivial⟩, trivial, rfl⟩
 · intro ⟨i, v⟩ ⟨hi, hv⟩ J hJ
   dsimp only at hi hv ⊢
   refine xb rfl ?_ ?_ <;> intro h
   · have h : i < rr.length := by simpa using h
     obtain ⟨row, hg⟩ : ∃ row, rr[i]? = some row := ⟨_, List.getElem?_eq_getElem h⟩
     obtain ⟨x0, x1, x2, x3, x4, x5, rfl, h1, h2, h3, h4, h5⟩ := z0q (hw.2 row (List.mem_of_getElem? hg))
     have hst := y06 hg hv
     refine xs rfl (nn_ _) (y9 rfl _ hg (xs rfl rfl ?_))
     refine xb rfl ?_ ?_ <;> intro hb
     · have hb : ¬ x0 = mkv .i64 (v) := by simpa [mkv, nx] using hb
       exact xv rfl rfl rfl (congrArg (Value.int .i64) (yg (qf (i := i + 1) (hst.trans (by simp only [hd, if_neg hb])))).symm)
     have hb0 : x0 = mkv .i64 (v) := by simpa [mkv, nx] using hb
     clear hb
     refine xs rfl (nn_ _) (y9 rfl _ hg (xs rfl rfl ?_))
     refine z7 rfl (z37 x1 (nx (v)) h1) rfl tv3 ?_
     generalize hk1 : ng (hdR (hd ze) x1 (nx (v))) = k1
     refine xb rfl ?_ ?_ <;> intro hb
     · have hb : k1 < 0 := by simpa using hb
       exact xv rfl rfl rfl (congrArg (Value.int .i64) (yg (qf (i := i + 1) (hst.trans (by simp only [hd, if_pos hb0, hk1, y1i hb]; rfl)))).symm)
     have hb1 : ¬ k1 < 0 := by simpa using hb
     clear hb
     refine xs rfl (nn_ _) (y9 rfl _ hg (xs rfl rfl ?_))
     refine z7 rfl (q2m x2 (k1) h2) rfl tv3 ?_
     generalize hk2 : ng (hdR (hd zh) x2 (k1)) = k2
     refine xb rfl ?_ ?_ <;> intro hb
     · have hb : k2 < 0 := by simpa using hb
       exact xv rfl rfl rfl (congrArg (Value.int .i64) (yg (qf (i := i + 1) (hst.trans (by simp only [hd, if_pos hb0, hk1, z00 hb1, Option.bind_some, hk2, y1i hb]; rfl)))).symm)
     have hb2 : ¬ k2 < 0 := by simpa using hb
     clear hb
     refine xs rfl (nn_ _) (y9 rfl _ hg (xs rfl rfl ?_))
     refine z7 rfl (y19 x3 (k2) h3) rfl tv3 ?_
     generalize hk3 : ng (hdR (hd q7) x3 (k2)) = k3
     refine xb rfl ?_ ?_ <;> intro hb
     · have hb : k3 < 0 := by simpa using hb
       exact xv rfl rfl rfl (congrArg (Value.int .i64) (yg (qf (i := i + 1) (hst.trans (by simp only [hd, if_pos hb0, hk1, z00 hb1, Option.bind_some, hk2, z00 hb2, Option.bind_some, hk3, y1i hb]; rfl)))).symm)
     have hb3 : ¬ k3 < 0 := by simpa using hb
     clear hb
     refine xs rfl (nn_ _) (y9 rfl _ hg (xs rfl rfl ?_))
     refine z7 rfl (q2m x4 (k3) h4) rfl tv3 ?_
     generalize hk4 : ng (hdR (hd zh) x4 (k3)) = k4
     refine xb rfl ?_ ?_ <;> intro hb
     · have hb : k4 < 0 := by simpa using hb
       exact xv rfl rfl rfl (congrArg (Value.int .i64) (yg (qf (i := i + 1) (hst.trans (by simp only [hd, if_pos hb0, hk1, z00 hb1, Option.bind_some, hk2, z00 hb2, Option.bind_some, hk3, z00 hb3, Option.bind_some, hk4, y1i hb]; rfl)))).symm)
     have hb4 : ¬ k4 < 0 := by simpa using hb
     clear hb
     refine xs rfl (nn_ _) (y9 rfl _ hg (xs rfl rfl ?_))
     refine z7 rfl (y24 x5 (k4) h5) rfl tv3 ?_
     generalize hk5 : ng (hdR (hd (.i .i64 .nil)) x5 (k4)) = k5
     refine xb rfl ?_ ?_ <;> intro hb
     · have hb : k5 < 0 := by simpa using hb
       exact xv rfl rfl rfl (congrArg (Value.int .i64) (yg (qf (i := i + 1) (hst.trans (by simp only [hd, if_pos hb0, hk1, z00 hb1, Option.bind_some, hk2, z00 hb2, Option.bind_some, hk3, z00 hb3, Option.bind_some, hk4, z00 hb4, Option.bind_some, hk5, y1i hb]; rfl)))).symm)
     have hb5 : ¬ k5 < 0 := by simpa using hb
     clear hb
     refine q9 rfl (hJ _ (i + 1, k5) ⟨by dsimp only; omega, hst.trans (by simp only [hd, if_pos hb0, hk1, z00 hb1, Option.bind_some, hk2, z00 hb2, Option.bind_some, hk3, z00 hb3, Option.bind_some, hk4, z00 hb4, Option.bind_some, hk5, z00 hb5, Option.bind_some])⟩ (by dsimp only; omega) ?_)
     exact ⟨⟨cwi (by omega) (by omega) (by omega), rfl, rfl, trivial⟩, trivial, rfl⟩
   · have h : ¬ i < rr.length := by simpa using h
     have : i = rr.length := by omega
     subst this
     rw [List.take_length] at hv
     exact xv rfl rfl rfl (congrArg (Value.int .i64) (by rw [hv]; rfl))
theorem z2n (rr : List (List Cell)) (k : Int) (hw : WR 9000000000000000000 yk rr) : PC Tryz.prog 329 [.one (.l rr), .one (i64 k)] (rI (ng (hdR (hd yk) rr k))) := by
 refine PC.begin Tryz.func329 rfl (by kernel_rfl) ?_
 have hlen := hw.1
 refine yd rfl (ι := Nat × Int) (fun x => x.1 ≤ rr.length ∧ hdR (hd yk) (rr.take x.1) k = some x.2) (fun x => ⟨[(5, sV (.int .i64 x.1)), (1, sV (.int .i64 x.2)), (0, .one (.b (.l rr)))], []⟩) (fun x => rr.length - x.1) (0, k) ⟨Nat.zero_le _, rfl⟩ ?_ ?_
 · exact ⟨⟨rfl, rfl, rfl, trivial⟩, trivial, rfl⟩
 · intro ⟨i, v⟩ ⟨hi, hv⟩ J hJ
   dsimp only at hi hv ⊢
   refine xb rfl ?_ ?_ <;> intro h
   · have h : i < rr.length := by simpa using h
     obtain ⟨row, hg⟩ : ∃ row, rr[i]? = some row := ⟨_, List.getElem?_eq_getElem h⟩
     obtain ⟨x0, x1, rfl⟩ := y17 (hw.2 row (List.mem_of_getElem? hg))
     have hst := y06 hg hv
     refine xs rfl (nn_ _) (y9 rfl _ hg (xs rfl rfl ?_))
     refine xb rfl ?_ ?_ <;> intro hb
     · have hb : ¬ x0 = mkv .i64 (v) := by simpa [mkv, nx] using hb
       exact xv rfl rfl rfl (congrArg (Value.int .i64) (yg (qf (i := i + 1) (hst.trans (by simp only [hd, if_neg hb])))).symm)
     have hb0 : x0 = mkv .i64 (v) := by simpa [mkv, nx] using hb
     clear hb
     refine xs rfl (nn_ _) (y9 rfl _ hg (xs rfl rfl ?_))
     refine xb rfl ?_ ?_ <;> intro hb
     · have hb : ¬ x1 = mkv .i64 (nx (v)) := by simpa [mkv, nx] using hb
       exact xv rfl rfl rfl (congrArg (Value.int .i64) (yg (qf (i := i + 1) (hst.trans (by simp only [hd, if_neg hb, if_pos hb0])))).symm)
     have hb1 : x1 = mkv .i64 (nx (v)) := by simpa [mkv, nx] using hb
     clear hb
     refine q9 rfl (hJ _ (i + 1, nx (nx (v))) ⟨by dsimp only; omega, hst.trans (by simp only [hd, if_pos hb0, if_pos hb1])⟩ (by dsimp only; omega) ?_)
     exact ⟨⟨cwi (by omega) (by omega) (by omega), rfl, rfl, trivial⟩, trivial, rfl⟩
   · have h : ¬ i < rr.length := by simpa using h
     have : i = rr.length := by omega
     subst this
     rw [List.take_length] at hv
     exact xv rfl rfl rfl (congrArg (Value.int .i64) (by rw [hv]; rfl))
theorem q4z (rr : List (List Cell)) (k : Int) (hw : WR 9000000000000000000 qj rr) : PC Tryz.prog 244 [.one (.l rr), .one (i64 k)] (rI (ng (hdR (hd qj) rr k))) := by
 refine PC.begin Tryz.func244 rfl (by kernel_rfl) ?_
 have hlen := hw.1
 refine yd rfl (ι := Nat × Int) (fun x => x.1 ≤ rr.length ∧ hdR (hd qj) (rr.take x.1) k = some x.2) (fun x => ⟨[(5, sV (.int .i64 x.1)), (1, sV (.int .i64 x.2)), (0, .one (.b (.l rr)))], []⟩) (fun x => rr.length - x.1) (0, k) ⟨Nat.zero_le _, rfl⟩ ?_ ?_
 · exact ⟨⟨rfl, rfl, rfl, trivial⟩, trivial, rfl⟩
 · intro ⟨i, v⟩ ⟨hi, hv⟩ J hJ
   dsimp only at hi hv ⊢
   refine xb rfl ?_ ?_ <;> intro h
   · have h : i < rr.length := by simpa using h
     obtain ⟨row, hg⟩ : ∃ row, rr[i]? = some row := ⟨_, List.getElem?_eq_getElem h⟩
     obtain ⟨x0, x1, x2, x3, x4, x5, rfl, h5⟩ := z17 (hw.2 row (List.mem_of_getElem? hg))
     have hst := y06 hg hv
     refine xs rfl (nn_ _) (y9 rfl _ hg (xs rfl rfl ?_))
     refine xb rfl ?_ ?_ <;> intro hb
     · have hb : ¬ x0 = mkv .i64 (v) := by simpa [mkv, nx] using hb
       exact xv rfl rfl rfl (congrArg (Value.int .i64) (yg (qf (i := i + 1) (hst.trans (by simp only [hd, if_neg hb])))).symm)
     have hb0 : x0 = mkv .i64 (v) := by simpa [mkv, nx] using hb
     clear hb
     refine xs rfl (nn_ _) (y9 rfl _ hg (xs rfl rfl ?_))
     refine xb rfl ?_ ?_ <;> intro hb
     · have hb : ¬ x1 = mkv .i64 (nx (v)) := by simpa [mkv, nx] using hb
       exact xv rfl rfl rfl (congrArg (Value.int .i64) (yg (qf (i := i + 1) (hst.trans (by simp only [hd, if_neg hb, if_pos hb0])))).symm)
     have hb1 : x1 = mkv .i64 (nx (v)) := by simpa [mkv, nx] using hb
     clear hb
     refine xs rfl (nn_ _) (y9 rfl _ hg (xs rfl rfl ?_))
     refine xb rfl ?_ ?_ <;> intro hb
     · have hb : ¬ x2 = mkv .i64 (nx (nx (v))) := by simpa [mkv, nx] using hb
       exact xv rfl rfl rfl (congrArg (Value.int .i64) (yg (qf (i := i + 1) (hst.trans (by simp only [hd, if_neg hb, if_pos hb0, if_pos hb1])))).symm)
     have hb2 : x2 = mkv .i64 (nx (nx (v))) := by simpa [mkv, nx] using hb
     clear hb
     refine xs rfl (nn_ _) (y9 rfl _ hg (xs rfl rfl ?_))
     refine xb rfl ?_ ?_ <;> intro hb
     · have hb : ¬ x3 = mkv .i64 (nx (nx (nx (v)))) := by simpa [mkv, nx] using hb
       exact xv rfl rfl rfl (congrArg (Value.int .i64) (yg (qf (i := i + 1) (hst.trans (by simp only [hd, if_neg hb, if_pos hb0, if_pos hb1, if_pos hb2])))).symm)
     have hb3 : x3 = mkv .i64 (nx (nx (nx (v)))) := by simpa [mkv, nx] using hb
     clear hb
     refine xs rfl (nn_ _) (y9 rfl _ hg (xs rfl rfl ?_))
     refine xb rfl ?_ ?_ <;> intro hb
     · have hb : ¬ x4 = mkv .i64 (nx (nx (nx (nx (v))))) := by simpa [mkv, nx] using hb
       exact xv rfl rfl rfl (congrArg (Value.int .i64) (yg (qf (i := i + 1) (hst.trans (by simp only [hd, if_neg hb, if_pos hb0, if_pos hb1, if_pos hb2, if_pos hb3])))).symm)
     have hb4 : x4 = mkv .i64 (nx (nx (nx (nx (v))))) := by simpa [mkv, nx] using hb
     clear hb
     refine xs rfl (nn_ _) (y9 rfl _ hg (xs rfl rfl ?_))
     refine z7 rfl (z2n x5 (nx (nx (nx (nx (nx (v)))))) h5) rfl tv3 ?_
     generalize hk5 : ng (hdR (hd yk) x5 (nx (nx (nx (nx (nx (v))))))) = k5
     refine xb rfl ?_ ?_ <;> intro hb
     · have hb : k5 < 0 := by simpa using hb
       exact xv rfl rfl rfl (congrArg (Value.int .i64) (yg (qf (i := i + 1) (hst.trans (by simp only [hd, if_pos hb0, if_pos hb1, if_pos hb2, if_pos hb3, if_pos hb4, hk5, y1i hb]; rfl)))).symm)
     have hb5 : ¬ k5 < 0 := by simpa using hb
     clear hb
     refine q9 rfl (hJ _ (i + 1, k5) ⟨by dsimp only; omega, hst.trans (by simp only [hd, if_pos hb0, if_pos hb1, if_pos hb2, if_pos hb3, if_pos hb4, hk5, z00 hb5, Option.bind_some])⟩ (by dsimp only; omega) ?_)
     exact ⟨⟨cwi (by omega) (by omega) (by omega), rfl, rfl, trivial⟩, trivial, rfl⟩
   · have h : ¬ i < rr.length := by simpa using h
     have : i = rr.length := by omega
     subst this
     rw [List.take_length] at hv
     exact xv rfl rfl rfl (congrArg (Value.int .i64) (by rw [hv]; rfl))
theorem q2r (rr : List (List Cell)) (k : Int) (hw : WR 9000000000000000000 z8 rr) : PC Tryz.prog 163 [.one (.l rr), .one (i64 k)] (rI (ng (hdR (hd z8) rr k))) := by
 refine PC.begin Tryz.func163 rfl (by kernel_rfl) ?_
 have hlen := hw.1
 refine yd rfl (ι := Nat × Int) (fun x => x.1 ≤ rr.length ∧ hdR (hd z8) (rr.take x.1) k = some x.2) (fun x => ⟨[(5, sV (.int .i64 x.1)), (1, sV (.int .i64 x.2)), (0, .one (.b (.l rr)))], []⟩) (fun x => rr.length - x.1) (0, k) ⟨Nat.zero_le _, rfl⟩ ?_ ?_
 · exact ⟨⟨rfl, rfl, rfl, trivial⟩, trivial, rfl⟩
 · intro ⟨i, v⟩ ⟨hi, hv⟩ J hJ
   dsimp only at hi hv ⊢
   refine xb rfl ?_ ?_ <;> intro h
   · have h : i < rr.length := by simpa using h
     obtain ⟨row, hg⟩ : ∃ row, rr[i]? = some row := ⟨_, List.getElem?_eq_getElem h⟩
     obtain ⟨x0, rfl, h0⟩ := q04 (hw.2 row (List.mem_of_getElem? hg))
     have hst := y06 hg hv
     refine xs rfl (nn_ _) (y9 rfl _ hg (xs rfl rfl ?_))
     refine z7 rfl (q4z x0 (v) h0) rfl tv3 ?_
     generalize hk0 : ng (hdR (hd qj) x0 (v)) = k0
     refine xb rfl ?_ ?_ <;> intro hb
     · have hb : k0 < 0 := by simpa using hb
       exact xv rfl rfl rfl (congrArg (Value.int .i64) (yg (qf (i := i + 1) (hst.trans (by simp only [hd, hk0, y1i hb]; rfl)))).symm)
     have hb0 : ¬ k0 < 0 := by simpa using hb
     clear hb
     refine q9 rfl (hJ _ (i + 1, k0) ⟨by dsimp only; omega, hst.trans (by simp only [hd, hk0, z00 hb0, Option.bind_some])⟩ (by dsimp only; omega) ?_)
     exact ⟨⟨cwi (by omega) (by omega) (by omega), rfl, rfl, trivial⟩, trivial, rfl⟩
   · have h : ¬ i < rr.length := by simpa using h
     have : i = rr.length := by omega
     subst this
     rw [List.take_length] at hv
     exact xv rfl rfl rfl (congrArg (Value.int .i64) (by rw [hv]; rfl))
theorem z5o (rr : List (List Cell)) (k : Int) (hw : WR 9000000000000000000 zp rr) : PC Tryz.prog 245 [.one (.l rr), .one (i64 k)] (rI (ng (hdR (hd zp) rr k))) := by
 refine PC.begin Tryz.func245 rfl (by kernel_rfl) ?_
 have hlen := hw.1
 refine yd rfl (ι := Nat × Int) (fun x => x.1 ≤ rr.length ∧ hdR (hd zp) (rr.take x.1) k = some x.2) (fun x => ⟨[(5, sV (.int .i64 x.1)), (1, sV (.int .i64 x.2)), (0, .one (.b (.l rr)))], []⟩) (fun x => rr.length - x.1) (0, k) ⟨Nat.zero_le _, rfl⟩ ?_ ?_
 · exact ⟨⟨rfl, rfl, rfl, trivial⟩, trivial, rfl⟩
 · intro ⟨i, v⟩ ⟨hi, hv⟩ J hJ
   dsimp only at hi hv ⊢
   refine xb rfl ?_ ?_ <;> intro h
   · have h : i < rr.length := by simpa using h
     obtain ⟨row, hg⟩ : ∃ row, rr[i]? = some row := ⟨_, List.getElem?_eq_getElem h⟩
     obtain ⟨x0, x1, x2, x3, x4, x5, rfl, h4, h5⟩ := y1x (hw.2 row (List.mem_of_getElem? hg))
     have hst := y06 hg hv
     refine xs rfl (nn_ _) (y9 rfl _ hg (xs rfl rfl ?_))
     refine xb rfl ?_ ?_ <;> intro hb
     · have hb : ¬ x0 = mkv .i64 (v) := by simpa [mkv, nx] using hb
       exact xv rfl rfl rfl (congrArg (Value.int .i64) (yg (qf (i := i + 1) (hst.trans (by simp only [hd, if_neg hb])))).symm)
     have hb0 : x0 = mkv .i64 (v) := by simpa [mkv, nx] using hb
     clear hb
     refine xs rfl (nn_ _) (y9 rfl _ hg (xs rfl rfl ?_))
     refine xb rfl ?_ ?_ <;> intro hb
     · have hb : ¬ x1 = mkv .i64 (nx (v)) := by simpa [mkv, nx] using hb
       exact xv rfl rfl rfl (congrArg (Value.int .i64) (yg (qf (i := i + 1) (hst.trans (by simp only [hd, if_neg hb, if_pos hb0])))).symm)
     have hb1 : x1 = mkv .i64 (nx (v)) := by simpa [mkv, nx] using hb
     clear hb
     refine xs rfl (nn_ _) (y9 rfl _ hg (xs rfl rfl ?_))
     refine xb rfl ?_ ?_ <;> intro hb
     · have hb : ¬ x2 = mkv .i64 (nx (nx (v))) := by simpa [mkv, nx] using hb
       exact xv rfl rfl rfl (congrArg (Value.int .i64) (yg (qf (i := i + 1) (hst.trans (by simp only [hd, if_neg hb, if_pos hb0, if_pos hb1])))).symm)
     have hb2 : x2 = mkv .i64 (nx (nx (v))) := by simpa [mkv, nx] using hb
     clear hb
     refine xs rfl (nn_ _) (y9 rfl _ hg (xs rfl rfl ?_))
     refine xb rfl ?_ ?_ <;> intro hb
     · have hb : ¬ x3 = mkv .i64 (nx (nx (nx (v)))) := by simpa [mkv, nx] using hb
       exact xv rfl rfl rfl (congrArg (Value.int .i64) (yg (qf (i := i + 1) (hst.trans (by simp only [hd, if_neg hb, if_pos hb0, if_pos hb1, if_pos hb2])))).symm)
     have hb3 : x3 = mkv .i64 (nx (nx (nx (v)))) := by simpa [mkv, nx] using hb
     clear hb
     refine xs rfl (nn_ _) (y9 rfl _ hg (xs rfl rfl ?_))
     refine z7 rfl (y24 x4 (nx (nx (nx (nx (v))))) h4) rfl tv3 ?_
     generalize hk4 : ng (hdR (hd (.i .i64 .nil)) x4 (nx (nx (nx (nx (v)))))) = k4
     refine xb rfl ?_ ?_ <;> intro hb
     · have hb : k4 < 0 := by simpa using hb
       exact xv rfl rfl rfl (congrArg (Value.int .i64) (yg (qf (i := i + 1) (hst.trans (by simp only [hd, if_pos hb0, if_pos hb1, if_pos hb2, if_pos hb3, hk4, y1i hb]; rfl)))).symm)
     have hb4 : ¬ k4 < 0 := by simpa using hb
     clear hb
     refine xs rfl (nn_ _) (y9 rfl _ hg (xs rfl rfl ?_))
     refine z7 rfl (z2n x5 (k4) h5) rfl tv3 ?_
     generalize hk5 : ng (hdR (hd yk) x5 (k4)) = k5
     refine xb rfl ?_ ?_ <;> intro hb
     · have hb : k5 < 0 := by simpa using hb
       exact xv rfl rfl rfl (congrArg (Value.int .i64) (yg (qf (i := i + 1) (hst.trans (by simp only [hd, if_pos hb0, if_pos hb1, if_pos hb2, if_pos hb3, hk4, z00 hb4, Option.bind_some, hk5, y1i hb]; rfl)))).symm)
     have hb5 : ¬ k5 < 0 := by simpa using hb
     clear hb
     refine q9 rfl (hJ _ (i + 1, k5) ⟨by dsimp only; omega, hst.trans (by simp only [hd, if_pos hb0, if_pos hb1, if_pos hb2, if_pos hb3, hk4, z00 hb4, Option.bind_some, hk5, z00 hb5, Option.bind_some])⟩ (by dsimp only; omega) ?_)
     exact ⟨⟨cwi (by omega) (by omega) (by omega), rfl, rfl, trivial⟩, trivial, rfl⟩
   · have h : ¬ i < rr.length := by simpa using h
     have : i = rr.length := by omega
     subst this
     rw [List.take_length] at hv
     exact xv rfl rfl rfl (congrArg (Value.int .i64) (by rw [hv]; rfl))
theorem y4c (rr : List (List Cell)) (k : Int) (hw : WR 9000000000000000000 zm rr) : PC Tryz.prog 246 [.one (.l rr), .one (i64 k)] (rI (ng (hdR (hd zm) rr k))) := by
 refine PC.begin Tryz.func246 rfl (by kernel_rfl) ?_
 have hlen := hw.1
 refine yd rfl (ι := Nat × Int) (fun x => x.1 ≤ rr.length ∧ hdR (hd zm) (rr.take x.1) k = some x.2) (fun x => ⟨[(5, sV (.int .i64 x.1)), (1, sV (.int .i64 x.2)), (0, .one (.b (.l rr)))], []⟩) (fun x => rr.length - x.1) (0, k) ⟨Nat.zero_le _, rfl⟩ ?_ ?_
 · exact ⟨⟨rfl, rfl, rfl, trivial⟩, trivial, rfl⟩
 · intro ⟨i, v⟩ ⟨hi, hv⟩ J hJ
   dsimp only at hi hv ⊢
   refine xb rfl ?_ ?_ <;> intro h
   · have h : i < rr.length := by simpa using h
     obtain ⟨row, hg⟩ : ∃ row, rr[i]? = some row := ⟨_, List.getElem?_eq_getElem h⟩
     obtain ⟨x0, x1, x2, x3, x4, rfl⟩ := q0p (hw.2 row (List.mem_of_getElem? hg))
     have hst := y06 hg hv
     refine xs rfl (nn_ _) (y9 rfl _ hg (xs rfl rfl ?_))
     refine xb rfl ?_ ?_ <;> intro hb
     · have hb : ¬ x0 = mkv .i64 (v) := by simpa [mkv, nx] using hb
       exact xv rfl rfl rfl (congrArg (Value.int .i64) (yg (qf (i := i + 1) (hst.trans (by simp only [hd, if_neg hb])))).symm)
     have hb0 : x0 = mkv .i64 (v) := by simpa [mkv, nx] using hb
     clear hb
     refine xs rfl (nn_ _) (y9 rfl _ hg (xs rfl rfl ?_))
     refine xb rfl ?_ ?_ <;> intro hb
     · have hb : ¬ x1 = mkv .i64 (nx (v)) := by simpa [mkv, nx] using hb
       exact xv rfl rfl rfl (congrArg (Value.int .i64) (yg (qf (i := i + 1) (hst.trans (by simp only [hd, if_neg hb, if_pos hb0])))).symm)
     have hb1 : x1 = mkv .i64 (nx (v)) := by simpa [mkv, nx] using hb
     clear hb
     refine xs rfl (nn_ _) (y9 rfl _ hg (xs rfl rfl ?_))
     refine xb rfl ?_ ?_ <;> intro hb
     · have hb : ¬ x2 = mkv .i64 (nx (nx (v))) := by simpa [mkv, nx] using hb
       exact xv rfl rfl rfl (congrArg (Value.int .i64) (yg (qf (i := i + 1) (hst.trans (by simp only [hd, if_neg hb, if_pos hb0, if_pos hb1])))).symm)
     have hb2 : x2 = mkv .i64 (nx (nx (v))) := by simpa [mkv, nx] using hb
     clear hb
     refine xs rfl (nn_ _) (y9 rfl _ hg (xs rfl rfl ?_))
     refine xb rfl ?_ ?_ <;> intro hb
     · have hb : ¬ x3 = mkv .i64 (nx (nx (nx (v)))) := by simpa [mkv, nx] using hb
       exact xv rfl rfl rfl (congrArg (Value.int .i64) (yg (qf (i := i + 1) (hst.trans (by simp only [hd, if_neg hb, if_pos hb0, if_pos hb1, if_pos hb2])))).symm)
     have hb3 : x3 = mkv .i64 (nx (nx (nx (v)))) := by simpa [mkv, nx] using hb
     clear hb
     refine xs rfl (nn_ _) (y9 rfl _ hg (xs rfl rfl ?_))
     refine xb rfl ?_ ?_ <;> intro hb
     · have hb : ¬ x4 = mkv .i64 (nx (nx (nx (nx (v))))) := by simpa [mkv, nx] using hb
       exact xv rfl rfl rfl (congrArg (Value.int .i64) (yg (qf (i := i + 1) (hst.trans (by simp only [hd, if_neg hb, if_pos hb0, if_pos hb1, if_pos hb2, if_pos hb3])))).symm)
     have hb4 : x4 = mkv .i64 (nx (nx (nx (nx (v))))) := by simpa [mkv, nx] using hb
     clear hb
     refine q9 rfl (hJ _ (i + 1, nx (nx (nx (nx (nx (v)))))) ⟨by dsimp only; omega, hst.trans (by simp only [hd, if_pos hb0, if_pos hb1, if_pos hb2, if_pos hb3, if_pos hb4])⟩ (by dsimp only; omega) ?_)
     exact ⟨⟨cwi (by omega) (by omega) (by omega), rfl, rfl, trivial⟩, trivial, rfl⟩
   · have h : ¬ i < rr.length := by simpa using h
     have : i = rr.length := by omega
     subst this
     rw [List.take_length] at hv
     exact xv rfl rfl rfl (congrArg (Value.int .i64) (by rw [hv]; rfl))
theorem q3o (rr : List (List Cell)) (k : Int) (hw : WR 9000000000000000000 qa rr) : PC Tryz.prog 164 [.one (.l rr), .one (i64 k)] (rI (ng (hdR (hd qa) rr k))) := by
 refine PC.begin Tryz.func164 rfl (by kernel_rfl) ?_
 have hlen := hw.1
 refine yd rfl (ι := Nat × Int) (fun x => x.1 ≤ rr.length ∧ hdR (hd qa) (rr.take x.1) k = some x.2) (fun x => ⟨[(5, sV (.int .i64 x.1)), (1, sV (.int .i64 x.2)), (0, .one (.b (.l rr)))], []⟩) (fun x => rr.length - x.1) (0, k) ⟨Nat.zero_le _, rfl⟩ ?_ ?_
 · exact ⟨⟨rfl, rfl, rfl, trivial⟩, trivial, rfl⟩
 · intro ⟨i, v⟩ ⟨hi, hv⟩ J hJ
   dsimp only at hi hv ⊢
   refine xb rfl ?_ ?_ <;> intro h
   · have h : i < rr.length := by simpa using h
     obtain ⟨row, hg⟩ : ∃ row, rr[i]? = some row := ⟨_, List.getElem?_eq_getElem h⟩
     obtain ⟨x0, x1, x2, rfl, h1, h2⟩ := q0e (hw.2 row (List.mem_of_getElem? hg))
     have hst := y06 hg hv
     refine xs rfl (nn_ _) (y9 rfl _ hg (xs rfl rfl ?_))
     refine xb rfl ?_ ?_ <;> intro hb
     · have hb : ¬ x0 = mkv .i64 (v) := by simpa [mkv, nx] using hb
       exact xv rfl rfl rfl (congrArg (Value.int .i64) (yg (qf (i := i + 1) (hst.trans (by simp only [hd, if_neg hb])))).symm)
     have hb0 : x0 = mkv .i64 (v) := by simpa [mkv, nx] using hb
     clear hb
     refine xs rfl (nn_ _) (y9 rfl _ hg (xs rfl rfl ?_))
     refine z7 rfl (z5o x1 (nx (v)) h1) rfl tv3 ?_
     generalize hk1 : ng (hdR (hd zp) x1 (nx (v))) = k1
     refine xb rfl ?_ ?_ <;> intro hb
     · have hb : k1 < 0 := by simpa using hb
       exact xv rfl rfl rfl (congrArg (Value.int .i64) (yg (qf (i := i + 1) (hst.trans (by simp only [hd, if_pos hb0, hk1, y1i hb]; rfl)))).symm)
     have hb1 : ¬ k1 < 0 := by simpa using hb
     clear hb
     refine xs rfl (nn_ _) (y9 rfl _ hg (xs rfl rfl ?_))
     refine z7 rfl (y4c x2 (k1) h2) rfl tv3 ?_
     generalize hk2 : ng (hdR (hd zm) x2 (k1)) = k2
     refine xb rfl ?_ ?_ <;> intro hb
     · have hb : k2 < 0 := by simpa using hb
       exact xv rfl rfl rfl (congrArg (Value.int .i64) (yg (qf (i := i + 1) (hst.trans (by simp only [hd, if_pos hb0, hk1, z00 hb1, Option.bind_some, hk2, y1i hb]; rfl)))).symm)
     have hb2 : ¬ k2 < 0 := by simpa using hb
     clear hb
     refine q9 rfl (hJ _ (i + 1, k2) ⟨by dsimp only; omega, hst.trans (by simp only [hd, if_pos hb0, hk1, z00 hb1, Option.bind_some, hk2, z00 hb2, Option.bind_some])⟩ (by dsimp only; omega) ?_)
     exact ⟨⟨cwi (by omega) (by omega) (by omega), rfl, rfl, trivial⟩, trivial, rfl⟩
   · have h : ¬ i < rr.length := by simpa using h
     have : i = rr.length := by omega
     subst this
     rw [List.take_length] at hv
     exact xv rfl rfl rfl (congrArg (Value.int .i64) (by rw [hv]; rfl))
theorem y37 (rr : List (List Cell)) (k : Int) (hw : WR 9000000000000000000 qb rr) : PC Tryz.prog 165 [.one (.l rr), .one (i64 k)] (rI (ng (hdR (hd qb) rr k))) := by
 refine PC.begin Tryz.func165 rfl (by kernel_rfl) ?_
 have hlen := hw.1
 refine yd rfl (ι := Nat × Int) (fun x => x.1 ≤ rr.length ∧ hdR (hd qb) (rr.take x.1) k = some x.2) (fun x => ⟨[(5, sV (.int .i64 x.1)), (1, sV (.int .i64 x.2)), (0, .one (.b (.l rr)))], []⟩) (fun x => rr.length - x.1) (0, k) ⟨Nat.zero_le _, rfl⟩ ?_ ?_
 · exact ⟨⟨rfl, rfl, rfl, trivial⟩, trivial, rfl⟩
 · intro ⟨i, v⟩ ⟨hi, hv⟩ J hJ
   dsimp only at hi hv ⊢
   refine xb rfl ?_ ?_ <;> intro h
   · have h : i < rr.length := by simpa using h
     obtain ⟨row, hg⟩ : ∃ row, rr[i]? = some row := ⟨_, List.getElem?_eq_getElem h⟩
     obtain ⟨x0, x1, x2, x3, x4, x5, x6, x7, x8, rfl⟩ := z0a (hw.2 row (List.mem_of_getElem? hg))
     have hst := y06 hg hv
     refine xs rfl (nn_ _) (y9 rfl _ hg (xs rfl rfl ?_))
     refine xb rfl ?_ ?_ <;> intro hb
     · have hb : ¬ x0 = mkv .i64 (v) := by simpa [mkv, nx] using hb
       exact xv rfl rfl rfl (congrArg (Value.int .i64) (yg (qf (i := i + 1) (hst.trans (by simp only [hd, if_neg hb])))).symm)
     have hb0 : x0 = mkv .i64 (v) := by simpa [mkv, nx] using hb
     clear hb
     refine xs rfl (nn_ _) (y9 rfl _ hg (xs rfl rfl ?_))
     refine xb rfl ?_ ?_ <;> intro hb
     · have hb : ¬ x1 = mkv .i64 (nx (v)) := by simpa [mkv, nx] using hb
       exact xv rfl rfl rfl (congrArg (Value.int .i64) (yg (qf (i := i + 1) (hst.trans (by simp only [hd, if_neg hb, if_pos hb0])))).symm)
     have hb1 : x1 = mkv .i64 (nx (v)) := by simpa [mkv, nx] using hb
     clear hb
     refine xs rfl (nn_ _) (y9 rfl _ hg (xs rfl rfl ?_))
     refine xb rfl ?_ ?_ <;> intro hb
     · have hb : ¬ x2 = mkv .i64 (nx (nx (v))) := by simpa [mkv, nx] using hb
       exact xv rfl rfl rfl (congrArg (Value.int .i64) (yg (qf (i := i + 1) (hst.trans (by simp only [hd, if_neg hb, if_pos hb0, if_pos hb1])))).symm)
     have hb2 : x2 = mkv .i64 (nx (nx (v))) := by simpa [mkv, nx] using hb
     clear hb
     refine xs rfl (nn_ _) (y9 rfl _ hg (xs rfl rfl ?_))
     refine xb rfl ?_ ?_ <;> intro hb
     · have hb : ¬ x3 = mkv .i64 (nx (nx (nx (v)))) := by simpa [mkv, nx] using hb
       exact xv rfl rfl rfl (congrArg (Value.int .i64) (yg (qf (i := i + 1) (hst.trans (by simp only [hd, if_neg hb, if_pos hb0, if_pos hb1, if_pos hb2])))).symm)
     have hb3 : x3 = mkv .i64 (nx (nx (nx (v)))) := by simpa [mkv, nx] using hb
     clear hb
     refine xs rfl (nn_ _) (y9 rfl _ hg (xs rfl rfl ?_))
     refine xb rfl ?_ ?_ <;> intro hb
     · have hb : ¬ x4 = mkv .i64 (nx (nx (nx (nx (v))))) := by simpa [mkv, nx] using hb
       exact xv rfl rfl rfl (congrArg (Value.int .i64) (yg (qf (i := i + 1) (hst.trans (by simp only [hd, if_neg hb, if_pos hb0, if_pos hb1, if_pos hb2, if_pos hb3])))).symm)
     have hb4 : x4 = mkv .i64 (nx (nx (nx (nx (v))))) := by simpa [mkv, nx] using hb
     clear hb
     refine xs rfl (nn_ _) (y9 rfl _ hg (xs rfl rfl ?_))
     refine xb rfl ?_ ?_ <;> intro hb
     · have hb : ¬ x5 = mkv .i64 (nx (nx (nx (nx (nx (v)))))) := by simpa [mkv, nx] using hb
       exact xv rfl rfl rfl (congrArg (Value.int .i64) (yg (qf (i := i + 1) (hst.trans (by simp only [hd, if_neg hb, if_pos hb0, if_pos hb1, if_pos hb2, if_pos hb3, if_pos hb4])))).symm)
     have hb5 : x5 = mkv .i64 (nx (nx (nx (nx (nx (v)))))) := by simpa [mkv, nx] using hb
     clear hb
     refine xs rfl (nn_ _) (y9 rfl _ hg (xs rfl rfl ?_))
     refine xb rfl ?_ ?_ <;> intro hb
     · have hb : ¬ x6 = mkv .i64 (nx (nx (nx (nx (nx (nx (v))))))) := by simpa [mkv, nx] using hb
       exact xv rfl rfl rfl (congrArg (Value.int .i64) (yg (qf (i := i + 1) (hst.trans (by simp only [hd, if_neg hb, if_pos hb0, if_pos hb1, if_pos hb2, if_pos hb3, if_pos hb4, if_pos hb5])))).symm)
     have hb6 : x6 = mkv .i64 (nx (nx (nx (nx (nx (nx (v))))))) := by simpa [mkv, nx] using hb
     clear hb
     refine xs rfl (nn_ _) (y9 rfl _ hg (xs rfl rfl ?_))
     refine xb rfl ?_ ?_ <;> intro hb
     · have hb : ¬ x7 = mkv .i64 (nx (nx (nx (nx (nx (nx (nx (v)))))))) := by simpa [mkv, nx] using hb
       exact xv rfl rfl rfl (congrArg (Value.int .i64) (yg (qf (i := i + 1) (hst.trans (by simp only [hd, if_neg hb, if_pos hb0, if_pos hb1, if_pos hb2, if_pos hb3, if_pos hb4, if_pos hb5, if_pos hb6])))).symm)
     have hb7 : x7 = mkv .i64 (nx (nx (nx (nx (nx (nx (nx (v)))))))) := by simpa [mkv, nx] using hb
     clear hb
     refine xs rfl (nn_ _) (y9 rfl _ hg (xs rfl rfl ?_))
     refine xb rfl ?_ ?_ <;> intro hb
     · have hb : ¬ x8 = mkv .i64 (nx (nx (nx (nx (nx (nx (nx (nx (v))))))))) := by simpa [mkv, nx] using hb
       exact xv rfl rfl rfl (congrArg (Value.int .i64) (yg (qf (i := i + 1) (hst.trans (by simp only [hd, if_neg hb, if_pos hb0, if_pos hb1, if_pos hb2, if_pos hb3, if_pos hb4, if_pos hb5, if_pos hb6, if_pos hb7])))).symm)
     have hb8 : x8 = mkv .i64 (nx (nx (nx (nx (nx (nx (nx (nx (v))))))))) := by simpa [mkv, nx] using hb
     clear hb
     refine q9 rfl (hJ _ (i + 1, nx (nx (nx (nx (nx (nx (nx (nx (nx (v)))))))))) ⟨by dsimp only; omega, hst.trans (by simp only [hd, if_pos hb0, if_pos hb1, if_pos hb2, if_pos hb3, if_pos hb4, if_pos hb5, if_pos hb6, if_pos hb7, if_pos hb8])⟩ (by dsimp only; omega) ?_)
     exact ⟨⟨cwi (by omega) (by omega) (by omega), rfl, rfl, trivial⟩, trivial, rfl⟩
   · have h : ¬ i < rr.length := by simpa using h
     have : i = rr.length := by omega
     subst this
     rw [List.take_length] at hv
     exact xv rfl rfl rfl (congrArg (Value.int .i64) (by rw [hv]; rfl))
theorem y3o (x0 : List (List Cell)) (x1 : List (List Cell)) (x2 : List (List Cell)) (x3 : List (List Cell)) (x4 : List (List Cell)) (k : Int) (h0 : WR 9000000000000000000 q7 x0) (h1 : WR 9000000000000000000 zb x1) (h2 : WR 9000000000000000000 z8 x2) (h3 : WR 9000000000000000000 qa x3) (h4 : WR 9000000000000000000 qb x4) (hk : 0 ≤ k) : PC Tryz.prog 85 [.agg [.l x0, .l x1, .l x2, .l x3, .l x4], .one (i64 k)] (rI (ng (ht yb [.l x0, .l x1, .l x2, .l x3, .l x4] k))) := by
 refine PC.begin Tryz.func85 rfl (by kernel_rfl) ?_
 have e : ht yb [.l x0, .l x1, .l x2, .l x3, .l x4] k = ((ps (ng (hdR (hd q7) x0 k))).bind fun v1 => (ps (ng (hdR (hd zb) x1 v1))).bind fun v2 => (ps (ng (hdR (hd z8) x2 v2))).bind fun v3 => (ps (ng (hdR (hd qa) x3 v3))).bind fun v4 => (ps (ng (hdR (hd qb) x4 v4))).bind fun v5 => some v5) := by simp only [ht, Option.bind_assoc, Option.bind_some]
 rw [e]
 refine z7 rfl (y19 x0 k h0) rfl tv3 ?_
 generalize hk0 : ng (hdR (hd q7) x0 (k)) = k0
 refine xb rfl ?_ ?_ <;> intro hb
 · have hb : k0 < 0 := by simpa using hb
   exact xv rfl rfl rfl (congrArg (Value.int .i64) (yg (by simp only [hk0, y1i hb]; rfl)).symm)
 have hb0 : ¬ k0 < 0 := by simpa using hb
 have hp0 : 0 ≤ k0 := by omega
 clear hb
 refine z7 rfl (q4c x1 k0 h1) rfl tv3 ?_
 generalize hk1 : ng (hdR (hd zb) x1 (k0)) = k1
 refine xb rfl ?_ ?_ <;> intro hb
 · have hb : k1 < 0 := by simpa using hb
   exact xv rfl rfl rfl (congrArg (Value.int .i64) (yg (by simp only [hk0, z00 hb0, Option.bind_some, hk1, y1i hb]; rfl)).symm)
 have hb1 : ¬ k1 < 0 := by simpa using hb
 have hp1 : 0 ≤ k1 := by omega
 clear hb
 refine z7 rfl (q2r x2 k1 h2) rfl tv3 ?_
 generalize hk2 : ng (hdR (hd z8) x2 (k1)) = k2
 refine xb rfl ?_ ?_ <;> intro hb
 · have hb : k2 < 0 := by simpa using hb
   exact xv rfl rfl rfl (congrArg (Value.int .i64) (yg (by simp only [hk0, z00 hb0, Option.bind_some, hk1, z00 hb1, Option.bind_some, hk2, y1i hb]; rfl)).symm)
 have hb2 : ¬ k2 < 0 := by simpa using hb
 have hp2 : 0 ≤ k2 := by omega
 clear hb
 refine z7 rfl (q3o x3 k2 h3) rfl tv3 ?_
 generalize hk3 : ng (hdR (hd qa) x3 (k2)) = k3
 refine xb rfl ?_ ?_ <;> intro hb
 · have hb : k3 < 0 := by simpa using hb
   exact xv rfl rfl rfl (congrArg (Value.int .i64) (yg (by simp only [hk0, z00 hb0, Option.bind_some, hk1, z00 hb1, Option.bind_some, hk2, z00 hb2, Option.bind_some, hk3, y1i hb]; rfl)).symm)
 have hb3 : ¬ k3 < 0 := by simpa using hb
 have hp3 : 0 ≤ k3 := by omega
 clear hb
 refine z7 rfl (y37 x4 k3 h4) rfl tv3 ?_
 generalize hk4 : ng (hdR (hd qb) x4 (k3)) = k4
 refine xb rfl ?_ ?_ <;> intro hb
 · have hb : k4 < 0 := by simpa using hb
   exact xv rfl rfl rfl (congrArg (Value.int .i64) (yg (by simp only [hk0, z00 hb0, Option.bind_some, hk1, z00 hb1, Option.bind_some, hk2, z00 hb2, Option.bind_some, hk3, z00 hb3, Option.bind_some, hk4, y1i hb]; rfl)).symm)
 have hb4 : ¬ k4 < 0 := by simpa using hb
 have hp4 : 0 ≤ k4 := by omega
 clear hb
 exact xv rfl rfl rfl (congrArg (Value.int .i64) (by simp only [hk0, z00 hb0, Option.bind_some, hk1, z00 hb1, Option.bind_some, hk2, z00 hb2, Option.bind_some, hk3, z00 hb3, Option.bind_some, hk4, z00 hb4, Option.bind_some]; rfl))
theorem y1p (x0 : Int) (x1 : List (List Cell)) (x2 : List (List Cell)) (x3 : List (List Cell)) (x4 : List (List Cell)) (x5 : List (List Cell)) (k : Int) (h1 : WR 9000000000000000000 q7 x1) (h2 : WR 9000000000000000000 zb x2) (h3 : WR 9000000000000000000 z8 x3) (h4 : WR 9000000000000000000 qa x4) (h5 : WR 9000000000000000000 qb x5) (hk : 0 ≤ k) : PC Tryz.prog 27 [.agg [.s (.int .i64 x0), .l x1, .l x2, .l x3, .l x4, .l x5], .one (i64 k)] (rI (ng (ht z1b [.s (.int .i64 x0), .l x1, .l x2, .l x3, .l x4, .l x5] k))) := by
 refine PC.begin Tryz.func27 rfl (by kernel_rfl) ?_
 have e : ht z1b [.s (.int .i64 x0), .l x1, .l x2, .l x3, .l x4, .l x5] k = ((ht yb [.l x1, .l x2, .l x3, .l x4, .l x5] k).bind fun v1 => some v1) := by simp only [ht, Option.bind_assoc, Option.bind_some]
 rw [e]
 refine z7 rfl (y3o x1 x2 x3 x4 x5 k h1 h2 h3 h4 h5 hk) rfl ⟨tv6, trivial, trivial⟩ ?_
 generalize hk1 : ng (ht yb [.l x1, .l x2, .l x3, .l x4, .l x5] (k)) = k1
 refine xb rfl ?_ ?_ <;> intro hb
 · have hb : k1 < 0 := by simpa using hb
   exact xv rfl rfl rfl (congrArg (Value.int .i64) (yg (by simp only [ybb hk hk1 hb]; rfl)).symm)
 have hb1 : ¬ k1 < 0 := by simpa using hb
 have hp1 : 0 ≤ k1 := by omega
 clear hb
 exact xv rfl rfl rfl (congrArg (Value.int .i64) (by simp only [qa1 hk1 hb1, Option.bind_some]; rfl))
end Go.Proofs.YtbnbjaedijbnpaaGreat
end
section
namespace Go.Proofs.YtbnbjaedijbnpaaGreat
open Go Go.Sx
set_option maxRecDepth 20000
set_option maxHeartbeats 4000000
open Go.Proofs Go.Shelf Go.RowKit Go.Lib
def ybx : Ren := ⟨fun n => bif Nat.beq n 53 then 143 else bif Nat.beq n 59 then 315 else bif Nat.beq n 63 then 231 else bif Nat.beq n 64 then 232 else bif Nat.beq n 68 then 351 else bif Nat.beq n 70 then 309 else bif Nat.beq n 71 then 310 else bif Nat.beq n 72 then 311 else bif Nat.beq n 73 then 312 else bif Nat.beq n 74 then 313 else bif Nat.beq n 75 then 314 else bif Nat.beq n 76 then 316 else bif Nat.beq n 77 then 317 else bif Nat.beq n 78 then 318 else bif Nat.beq n 79 then 319 else bif Nat.beq n 88 then 355 else bif Nat.beq n 89 then 356 else bif Nat.beq n 90 then 357 else bif Nat.beq n 91 then 358 else bif Nat.beq n 92 then 359 else bif Nat.beq n 96 then 380 else 0, fun t => bif Nat.beq t 3 then 3 else bif Nat.beq t 4 then 4 else bif Nat.beq t 5 then 5 else bif Nat.beq t 9 then 9 else bif Nat.beq t 22 then 73 else bif Nat.beq t 23 then 2 else bif Nat.beq t 44 then 276 else bif Nat.beq t 51 then 274 else bif Nat.beq t 60 then 331 else bif Nat.beq t 61 then 332 else bif Nat.beq t 67 then 338 else bif Nat.beq t 69 then 340 else bif Nat.beq t 75 then 366 else bif Nat.beq t 79 then 370 else bif Nat.beq t 83 then 383 else bif Nat.beq t 84 then 384 else 0, fun x => x⟩
theorem z9z : SlLaysN.n53 Tryz.prog ybx where
 mixed := by kernel_rfl
 f53 := ⟨ "slices.Sort[[]int64,int64]", by decide, by kernel_rfl⟩
 f59 := ⟨ "cmp.Less[int64]", by decide, by kernel_rfl⟩
 f63 := ⟨ "slices.pdqsortOrdered[int64]", by decide, by kernel_rfl⟩
 f64 := by kernel_rfl
 f68 := ⟨ "cmp.isNaN[int64]", by decide, by kernel_rfl⟩
 f70 := ⟨ "slices.insertionSortOrdered[int64]", by decide, by kernel_rfl⟩
 f71 := ⟨ "slices.heapSortOrdered[int64]", by decide, by kernel_rfl⟩
 f72 := ⟨ "slices.breakPatternsOrdered[int64]", by decide, by kernel_rfl⟩
 f73 := ⟨ "slices.choosePivotOrdered[int64]", by decide, by kernel_rfl⟩
 f74 := ⟨ "slices.reverseRangeOrdered[int64]", by decide, by kernel_rfl⟩
 f75 := ⟨ "slices.partialInsertionSortOrdered[int64]", by decide, by kernel_rfl⟩
 f76 := ⟨ "slices.partitionEqualOrdered[int64]", by decide, by kernel_rfl⟩
 f77 := ⟨ "slices.partitionOrdered[int64]", by decide, by kernel_rfl⟩
 f78 := by kernel_rfl
 f79 := by kernel_rfl
 f88 := ⟨ "slices.siftDownOrdered[int64]", by decide, by kernel_rfl⟩
 f89 := by kernel_rfl
 f90 := by kernel_rfl
 f91 := ⟨ "slices.medianAdjacentOrdered[int64]", by decide, by kernel_rfl⟩
 f92 := ⟨ "slices.medianOrdered[int64]", by decide, by kernel_rfl⟩
 f96 := ⟨ "slices.order2Ordered[int64]", by decide, by kernel_rfl⟩
 t0 := Tryz.underlying0
 a0 := Tryz.isAgg0
 z0 := Tryz.sizeOf0
 v0 := Tryz.zeroValue0
 t3 := Tryz.underlying3
 a3 := Tryz.isAgg3
 z3 := Tryz.sizeOf3
 v3 := Tryz.zeroValue3
 t4 := Tryz.underlying4
 a4 := Tryz.isAgg4
 z4 := Tryz.sizeOf4
 v4 := Tryz.zeroValue4
 t5 := Tryz.underlying5
 a5 := Tryz.isAgg5
 z5 := Tryz.sizeOf5
 v5 := Tryz.zeroValue5
 t9 := Tryz.underlying9
 a9 := Tryz.isAgg9
 z9 := Tryz.sizeOf9
 v9 := Tryz.zeroValue9
 t22 := Tryz.underlying73
 a22 := Tryz.isAgg73
 z22 := Tryz.sizeOf73
 v22 := Tryz.zeroValue73
 t23 := Tryz.underlying2
 a23 := Tryz.isAgg2
 z23 := Tryz.sizeOf2
 v23 := Tryz.zeroValue2
 t44 := Tryz.underlying276
 a44 := Tryz.isAgg276
 z44 := Tryz.sizeOf276
 v44 := Tryz.zeroValue276
 t51 := Tryz.underlying274
 a51 := Tryz.isAgg274
 z51 := Tryz.sizeOf274
 v51 := Tryz.zeroValue274
 t60 := Tryz.underlying331
 a60 := Tryz.isAgg331
 z60 := Tryz.sizeOf331
 v60 := Tryz.zeroValue331
 t61 := Tryz.underlying332
 a61 := Tryz.isAgg332
 z61 := Tryz.sizeOf332
 v61 := Tryz.zeroValue332
 t67 := Tryz.underlying338
 a67 := Tryz.isAgg338
 z67 := Tryz.sizeOf338
 v67 := Tryz.zeroValue338
 t69 := Tryz.underlying340
 a69 := Tryz.isAgg340
 z69 := Tryz.sizeOf340
 v69 := Tryz.zeroValue340
 t75 := Tryz.underlying366
 a75 := Tryz.isAgg366
 z75 := Tryz.sizeOf366
 v75 := Tryz.zeroValue366
 t79 := Tryz.underlying370
 a79 := Tryz.isAgg370
 z79 := Tryz.sizeOf370
 v79 := Tryz.zeroValue370
 t83 := Tryz.underlying383
 a83 := Tryz.isAgg383
 z83 := Tryz.sizeOf383
 v83 := Tryz.zeroValue383
 t84 := Tryz.underlying384
 a84 := Tryz.isAgg384
 z84 := Tryz.sizeOf384
 v84 := Tryz.zeroValue384
theorem ybh {w : World} {S : Nat → Prop} {u v : Value} (h : Go.Sx.Own w S (.s v) u) : u = v := by cases h; rfl
theorem y88 {w : World} {N S : Nat → Prop} {us : List Int} {v : Value} (h : z0l w (CN w N true) S 1 (ints us) v) : (us = [] ∧ ∃ A, v = .slice A 0 0) ∨ ∃ e, w.ownsRow 0 e 1 v us.length (us.map (Value.int .i64)) ∧ ∀ g, v.ownBlock = some g → S g := by
 rcases h with ⟨hn, A, rfl⟩ | ⟨e, xs, u, F, h⟩
 · exact .inl ⟨by simpa [ints] using hn, A, rfl⟩
 · refine .inr ⟨e, ?_, h.hS⟩
   have ho := h.ho
   have hl : (ints us).length = us.length := by simp [ints]
   rw [hl] at ho
   have hxl : xs.length = us.length := by have := ho.1; omega
   have hx : xs = us.map (Value.int .i64) := by
    refine List.ext_getElem (by simp [hxl]) fun j h1 h2 => ?_
    have hj : j < us.length := by omega
    have h3 := h.hu j 0 (by omega) (by omega)
    have h4 := ybh (h.hr j 0 [i64 us[j]] _ (by simp [ints, hj]) rfl)
    rw [Nat.mul_one, Nat.add_zero, h4] at h3
    rw [List.getElem?_eq_getElem h1] at h3
    simpa using h3
   rw [hx] at ho
   exact ho
theorem z8z {w : World} {S : Nat → Prop} {us : List Int} {v : Value} {e : TypeId} (h : w.ownsRow 0 e 1 v us.length (us.map (Value.int .i64))) (hS : ∀ g, v.ownBlock = some g → S g) : z0l w (Go.Sx.Own w) S 1 (ints us) v := by
 refine .inr ⟨e, us.map (Value.int .i64), fun j _ => .int .i64 (us[j]?.getD 0), fun _ _ _ => False, by simpa [ints] using h, hS, fun row hrow => ?_, fun _ _ _ h => h.elim, fun _ _ _ _ _ h => h.elim, fun j k hj hk => ?_, fun j k row c hj hk => ?_⟩
 · simp [ints] at hrow
   obtain ⟨_, _, rfl⟩ := hrow; rfl
 · have hj : j < us.length := by simpa [ints] using hj
   have : k = 0 := by omega
   subst this
   simp [hj]
 · have hjl : j < us.length := by have := (List.getElem?_eq_some_iff.1 hj).1; simpa [ints] using this
   have : row = [i64 us[j]] := by simp [ints, hjl] at hj; exact hj.symm
   subst this
   cases k with
   | succ k => simp at hk
   | zero =>
     cases hk
     simp only [hjl, getElem?_pos, Option.getD_some]
     exact .s _ _ rfl
theorem q92 (N : Nat → Prop) (S : Nat → Prop) (us : List Int) (w : World) (v0 : Value) (hu : us.length ≤ 1048576) (hS : ∀ x, S x → x < w.heap.size) (h0 : z0l w (CN w N true) S 1 (ints us) v0) :
 Calls Tryz.prog 143 #[v0] w fun e w' => e = .returned (.tuple #[]) ∧ yr w w' S ∧ ∃ R : Nat → Prop, z0l w' (Go.Sx.Own w') R 1 (ints (q1b us)) v0 ∧ ∀ x, R x → S x ∧ x < w'.heap.size := by
 have hm0 : q1b ([] : List Int) = [] := by simp [q1b]
 rcases y88 h0 with ⟨rfl, A, rfl⟩ | ⟨e, ho, hSo⟩
 · refine (AnyG.slices_Sort_int_none z9z A 0 w).mono ?_
   rintro e w' ⟨rfl, rfl⟩
   rw [hm0]
   exact ⟨rfl, yr.refl _ _, fun _ => False, .inl ⟨rfl, A, rfl⟩, fun x hx => hx.elim⟩
 · by_cases hn : v0 = .slice none 0 0
   · have hl : us.length = 0 := by
      rcases ho.2 with ⟨_, h⟩ | ⟨g, cap, cur, h, _⟩
      · exact h
      · rw [hn] at h; cases h
     have : us = [] := List.eq_nil_of_length_eq_zero hl
     subst this
     subst hn
     refine (AnyG.slices_Sort_int_none z9z none 0 w).mono ?_
     rintro e w' ⟨rfl, rfl⟩
     rw [hm0]
     exact ⟨rfl, yr.refl _ _, fun _ => False, .inl ⟨rfl, none, rfl⟩, fun x hx => hx.elim⟩
   · obtain ⟨g, cap, rfl, hb, hg, hc1, hc2, hzl, hH⟩ := holds_of_ownsRow ho hn
     refine (AnyG.slices_Sort_int z9z g 0 cap us w hH hg (by omega)).mono ?_
     rintro e' w' ⟨rfl, q, os, rfl⟩
     have hml : (q1b us).length = us.length := (List.mergeSort_perm us _).length_eq
     have hgS := hSo g rfl
     have hp := ownsRow_putRow (q := q) (k := us.length) (ys := q1b us) ho hml (Nat.le_refl _)
     rw [List.take_of_length_le (by omega), ← hml] at hp
     have hsz : (Sort.putRow (Value.int .i64) (Sort.ahead w q) g 0 (q1b us).toArray).heap.size = w.heap.size := by simp [Sort.putRow, Sort.mapBlock, Sort.ahead]
     refine ⟨rfl, ⟨rfl, rfl, rfl, by rw [Sort.size_grow]; exact Nat.le_trans (Nat.le_of_eq hsz.symm) (Nat.le_add_right _ _), fun k hk hnk => ?_⟩, fun x => x = g, ?_, fun x hx => ?_⟩
     · rw [Sort.heap_grow_old _ _ (by rw [show (us.mergeSort fun x y => decide (x ≤ y)) = q1b us from rfl, hsz]; exact hk)]
       simp [Sort.putRow, Sort.mapBlock, Sort.ahead, Array.getElem?_modify, show g ≠ k from fun h => hnk (h ▸ hgS)]
     · rw [← hml]
       refine z8z (e := e) (z0n hp fun g' h => ?_) (fun g' h => by cases h; rfl)
       cases h
       exact Sort.heap_grow_old _ _ (by rw [show (us.mergeSort fun x y => decide (x ≤ y)) = q1b us from rfl, hsz]; exact hg)
     · subst hx
       exact ⟨hgS, by rw [Sort.size_grow]; exact Nat.lt_of_lt_of_le (by rw [show (us.mergeSort fun x y => decide (x ≤ y)) = q1b us from rfl, hsz]; exact hg) (Nat.le_add_right _ _)⟩
theorem y92 (us : List Int) (hu : us.length ≤ 1048576) : PG Tryz.prog 143 [.one (.giv true 1 (ints us))] (.tup []) [(0, ints (q1b us))] := by
 refine ⟨by kernel_rfl, fun N S w vals hS hSd hsh hc => ?_⟩
 obtain ⟨v0, rfl⟩ : ∃ v0, vals = #[v0] := by
  match vals, hsh with
  | ⟨[v0]⟩, _ => exact ⟨v0, rfl⟩
 obtain ⟨sz, hz, h0⟩ := hc 0 _ v0 rfl rfl
 obtain rfl := hz (by decide)
 refine (q92 N (S 0) us w v0 hu (fun x hx => (hS 0 x hx).1) h0).mono ?_
 rintro e w' ⟨rfl, hk, R, hsl, hv⟩
 refine ⟨_, fun _ => False, fun t x => t = 0 ∧ R x, rfl, hk.mono fun _ _ h => ⟨0, h⟩, ⟨#[], fun _ _ => False, rfl, rfl, fun _ _ h => h, fun _ _ _ h => h.elim, fun i rc u h => by simp at h⟩, fun x hx => hx.elim, fun t x hx => ⟨.inr ⟨0, (hv x hx.2).1⟩, (hv x hx.2).2⟩, fun t t' x h h' => by rw [h.1, h'.1], fun t rows' hb full sz rows u hg hu => ?_⟩
 cases t with
 | succ t => cases hb
 | zero =>
   cases hb
   cases hg
   cases hu
   refine ⟨by simp [q1b], fun i row row' h1 h2 => ?_, 1, fun _ => rfl, z0l.imp hsl (fun _ h => ⟨rfl, h⟩) (fun _ _ _ => rfl) (fun _ _ _ _ h => h)⟩
   simp [ints] at h1 h2
   obtain ⟨_, _, rfl⟩ := h1
   obtain ⟨_, _, rfl⟩ := h2
   rfl
end Go.Proofs.YtbnbjaedijbnpaaGreat
end
section
namespace Go.Proofs.YtbnbjaedijbnpaaGreat
open Go Go.Sx
set_option maxRecDepth 20000
set_option maxHeartbeats 4000000
open Go.RowKit Go.Maps Go.Shelf
theorem z78 {α : Type} (f : Nat → α) (k : Nat) : (List.range (k + 1)).map f = (List.range k).map f ++ [f k] := by simp [List.range_succ]
theorem q8e (zs : List Int) : (List.range zs.length).map (fun j => zs[j]?.getD 0) = zs := by
 apply List.ext_getElem
 · simp
 · intro i h1 h2
   simp [h2]
set_option maxRecDepth 100000 in
set_option maxHeartbeats 2000000 in
theorem q94 (F : Fence) (n : Nat) (h330 : F.fn 367) (hro : F.round = none) (hn : 1 ≤ n) (l n0 : Nat) (a b : Addr) (cap : Nat) (zs : List Int) (W0 : World) (J : List Int → World → Prop)
 (hJ : ∀ pre W, J pre W → Below n0 W0 W) (hB : a.block < n0) (hc : W0.cell? a = some (.slice (some b) zs.length cap)) (hz : zs.length ≤ 1048576)
 (hA : ∀ j, j < zs.length → b.block < n0 ∧ W0.cell? (b.add j) = some (.int .i64 (zs[j]?.getD 0)))
 (hY : ∀ pre x W, J pre W → pre.length < zs.length → YieldAt F (n - 1) Tryz.prog l #[.int .i64 x] W fun e W' => e = .returned (.bool true) ∧ J (pre ++ [x]) W')
 (W : World) (h0 : J [] W) :
 CallsIn F n Tryz.prog 367 #[.func (.yield l) #[] #[], .pointer (some a)] W fun e W' => (∃ v, e = .returned v) ∧ J zs W' := by
 refine callsIn_of_wp Tryz.func367 rfl h330 ?_ hro
 simp only [Tryz.ntmps367, List.size_toArray, List.length_cons, List.length_nil, Nat.reduceAdd, Nat.reduceSub, Array.replicate_succ, Array.replicate_zero, List.push_toArray, List.append_toArray, List.nil_append, List.cons_append]
 have hca : W.cell? a = some (.slice (some b) zs.length cap) := ((hJ _ _ h0).cell (p := a) hB).trans hc
 gi_wp2
 gi_loopw [7] (fun i wr => ∃ k : Nat, k ≤ zs.length ∧ i = .int .i64 k ∧ J ((List.range k).map (fun j => zs[j]?.getD 0)) wr)
  (fun i _ => zs.length - (intOf i).toNat)
 case atStart => exact ⟨0, Nat.zero_le _, rfl, h0⟩
 case round =>
  obtain ⟨k, hk, rfl, hJs⟩ := hrel
  have hcx : k < zs.length → wr.cell? (b.add k) = some (.int .i64 (zs[k]?.getD 0)) := fun h => ((hJ _ _ hJs).cell (p := b.add k) (by rw [z0c]; exact (hA k h).1)).trans (hA k h).2
  by_cases hlt : k < zs.length
  · obtain ⟨fn, tmps, assign, body, hy, hR⟩ := hY _ (zs[k]?.getD 0) wr hJs (by simpa using hlt)
    have hcx' := hcx hlt
    have hup := z78 (fun j => zs[j]?.getD 0) k
    clear hcx
    generalize zs[k]?.getD 0 = x at hy hR hcx' hup
    gi_wp2
    refine hR.mono ?_
    rintro e W3 ⟨rfl, hJ3⟩
    gi_wp2
    go_roundw
    case rel => exact ⟨k + 1, by omega, by simp, by rw [hup]; exact hJ3⟩
    case measure => simp [intOf]; omega
  · obtain rfl : k = zs.length := by omega
    gi_wp2
    go_end0
    exact ⟨⟨_, rfl⟩, by rw [q8e] at hJs; exact hJs⟩
set_option maxRecDepth 100000 in
set_option maxHeartbeats 2000000 in
theorem y94 (F : Fence) (n : Nat) (h330 : F.fn 367) (hro : F.round = none) (l : Nat) (a : Addr) (cap : Nat) (J : List Int → World → Prop)
 (W : World) (hca : W.cell? a = some (.slice none 0 cap)) (h0 : J [] W) :
 CallsIn F n Tryz.prog 367 #[.func (.yield l) #[] #[], .pointer (some a)] W fun e W' => (∃ v, e = .returned v) ∧ J [] W' := by
 refine callsIn_of_wp Tryz.func367 rfl h330 ?_ hro
 simp only [Tryz.ntmps367, List.size_toArray, List.length_cons, List.length_nil, Nat.reduceAdd, Nat.reduceSub, Array.replicate_succ, Array.replicate_zero, List.push_toArray, List.append_toArray, List.nil_append, List.cons_append]
 gi_wp2
 gi_loopw [7] (fun i wr => i = .int .i64 0 ∧ J [] wr) (fun _ _ => 0)
 case atStart => exact ⟨rfl, h0⟩
 case round =>
  obtain ⟨rfl, hJs⟩ := hrel
  gi_wp2
  go_end0
  exact ⟨⟨_, rfl⟩, hJs⟩
theorem yaw (F : Fence) (n : Nat) (h330 : F.fn 367) (hro : F.round = none) (hn : 1 ≤ n) (l n0 : Nat) (a : Addr) (A : Option Addr) (cap : Nat) (zs : List Int) (W0 : World) (J : List Int → World → Prop)
 (hJ : ∀ pre W, J pre W → Below n0 W0 W) (hB : a.block < n0) (hc : W0.cell? a = some (.slice A zs.length cap)) (hz : zs.length ≤ 1048576)
 (hA : (∃ b, A = some b ∧ ∀ j, j < zs.length → b.block < n0 ∧ W0.cell? (b.add j) = some (.int .i64 (zs[j]?.getD 0))) ∨ (A = none ∧ zs = []))
 (hY : ∀ pre x W, J pre W → pre.length < zs.length → YieldAt F (n - 1) Tryz.prog l #[.int .i64 x] W fun e W' => e = .returned (.bool true) ∧ J (pre ++ [x]) W')
 (W : World) (h0 : J [] W) :
 CallsIn F n Tryz.prog 367 #[.func (.yield l) #[] #[], .pointer (some a)] W fun e W' => (∃ v, e = .returned v) ∧ J zs W' := by
 rcases hA with ⟨b, rfl, hA⟩ | ⟨rfl, rfl⟩
 · exact q94 F n h330 hro hn l n0 a b cap zs W0 J hJ hB hc hz hA hY W h0
 · exact y94 F n h330 hro l a cap J W (((hJ _ _ h0).cell (p := a) hB).trans hc) h0
def y45 : Code := Code.region 2 #[{ dst := some 5, op := Op.assign (Operand.tmp 7), type := 2, pos := "iter.go:51", after := #[], guard := none }] false
def z7e : Code := Code.block 1 (Code.region 3 #[{ dst := some 8, op := Op.load 73 (Operand.tmp 2), type := 73, pos := "iter.go:52", after := #[], guard := none }, { dst := some 9, op := Op.move (Operand.tmp 5), type := 2, pos := "iter.go:52", after := #[], guard := none }, { dst := some 10, op := Op.buildSlice 73 1 #[(0, Operand.tmp 9)], type := 73, pos := "iter.go:52", after := #[{ on := 1, ground := Ground.data }], guard := none }, { dst := some 11, op := Op.call { callee := Callee.builtin Builtin.append, args := #[Operand.tmp 8, Operand.tmp 10], argTypes := #[73, 73] }, type := 73, pos := "iter.go:52", after := #[{ on := 0, ground := Ground.data }, { on := 2, ground := Ground.data }], guard := none }, { dst := none, op := Op.store 73 (Operand.tmp 2) (Operand.tmp 11), type := 0, pos := "iter.go:52", after := #[{ on := 3, ground := Ground.data }, { on := 3, ground := Ground.chain }, { on := 0, ground := Ground.phase }, { on := 1, ground := Ground.phase }, { on := 2, ground := Ground.phase }, { on := 3, ground := Ground.phase }], guard := none }] false)
def z2y (fn : FuncId) (sv : Value) (Bs D : Nat) (st : LoopState) (pend : Option Code) : Loop :=
 { state := st, pending := pend, fn, tmps := #[.slice none 0 0, sv, .pointer (some ⟨Bs, 0, none⟩), undef, .slice none 0 0, undef, sv, undef, undef, undef, undef, undef, undef], params := #[7], assign := y45, body := z7e, defers := D }
structure qb1 (w0 : World) (fn : FuncId) (sv : Value) (Bs l D : Nat) (ss : List Int) (W : World) : Prop where
 box : ∃ v, W.heap[Bs]? = some (.cells #[v] 73 (0, 0)) ∧ W.ownsRow w0.heap.size 2 1 v ss.length (ss.map (Value.int .i64)) ∧ (v = .slice none 0 0 ↔ ss = [])
 L : W.heap[l]? = some (.loop (z2y fn sv Bs D .ready none))
 K : W.heap[D]? = some (.deferred (some []))
 below : Below w0.heap.size w0 W
theorem zz (W : World) (l : Nat) (o : Obj) : W.grownBy (W.putObj l o) (some l) :=
 ⟨rfl, rfl, rfl, by simp, fun k _ hk => World.putObj_heap_other (fun e => hk (by rw [e]))⟩
theorem y2r (W : World) (b : Nat) (v : Value) : W.grownBy (W.setCell ⟨b, 0, none⟩ v) (some b) :=
 ⟨rfl, rfl, rfl, (KeepsWalks.setCell W _ v).size, fun k _ hk => Below.heap_setCell _ _ _ k (fun e => hk (by rw [e]))⟩
theorem q0g {W : World} {base : Nat} {e : TypeId} {size : Nat} {v : Value} {k : Nat} {xs : List Value} (h : W.ownsRow base e size v k xs) {j : Nat} {o : Obj} (hj : W.heap[j]? = some o) (hno : ∀ cur, o ≠ .cells cur e (0, 0)) :
 v.ownBlock = none ∨ v.ownBlock ≠ some j := by
 rcases h.2 with ⟨rfl, _⟩ | ⟨g, cap, cur, rfl, _, hgb, _⟩
 · exact .inl rfl
 · refine .inr fun e' => ?_
   have : g = j := by simpa [Value.ownBlock] using e'
   subst this; rw [hgb] at hj; cases hj; exact hno cur rfl
theorem z0v {W : World} {B : Nat} {v : Value} {t : TypeId} (h : W.heap[B]? = some (.cells #[v] t (0, 0))) : W.cell? ⟨B, 0, none⟩ = some v ∧ W.frozen? ⟨B, 0, none⟩ = false := by
 constructor <;> simp [World.cell?, World.frozen?, h]
theorem z2e {W : World} {B : Nat} {v : Value} {t : TypeId} (v' : Value) (h : W.heap[B]? = some (.cells #[v] t (0, 0))) : (W.setCell ⟨B, 0, none⟩ v').heap[B]? = some (.cells #[v'] t (0, 0)) := by
 obtain ⟨hlt, hk⟩ := Array.getElem?_eq_some_iff.1 h
 show (W.heap.modify B _)[B]? = _
 rw [Array.getElem?_eq_getElem (by rw [Array.size_modify]; exact hlt), Array.getElem_modify_self, hk]
 rfl
theorem qam : (Tryz.prog.info? 2).map (fun i => (i.zero, i.size, i.bytes)) = some (some (.int .i64 0), 1, 8) := by kernel_rfl
set_option maxRecDepth 100000 in
set_option maxHeartbeats 2000000 in
theorem y9m (F : Fence) (m : Nat) (w0 : World) (fn : FuncId) (hfn : F.fn fn) (sv : Value) (Bs l D : Nat) (hBl : Bs ≠ l) (hDl : D ≠ l) (hDB : D ≠ Bs) (h0B : w0.heap.size ≤ Bs) (h0l : w0.heap.size ≤ l)
 (N : Nat) (hN : N ≤ maxLen) (hNb : N * 8 ≤ 140737488355328) (ss : List Int) (x : Int) (W : World) (h : qb1 w0 fn sv Bs l D ss W) (hlen : ss.length < N) :
 YieldAt F m Tryz.prog l #[.int .i64 x] W fun e W' => e = .returned (.bool true) ∧ qb1 w0 fn sv Bs l D (ss ++ [x]) W' := by
 obtain ⟨i0, hi, hz0, hz1, hz2⟩ := info_parts qam
 obtain ⟨v, hv, hrow, _⟩ := h.box
 refine ⟨fn, #[.slice none 0 0, sv, .pointer (some ⟨Bs, 0, none⟩), undef, .slice none 0 0, undef, sv, .int .i64 x, undef, undef, undef, undef, undef], y45, z7e, by simpa [z2y] using run_yield (P := Tryz.prog) (args := #[.int .i64 x]) h.L rfl, roundIn_of_wpIn hfn ?_⟩
 have hl : l < W.heap.size := (Array.getElem?_eq_some_iff.1 h.L).1
 have hbr := run_beginRound (P := Tryz.prog) h.L rfl
 obtain ⟨W2, hW2⟩ : ∃ W2, W.putObj l (.loop { z2y fn sv Bs D .ready none with state := .busy }) = W2 := ⟨_, rfl⟩
 rw [hW2] at hbr
 have hg2 : W.grownBy W2 (some l) := by rw [← hW2]; exact zz _ _ _
 have hv2 : W2.heap[Bs]? = some (.cells #[v] 73 (0, 0)) := by rw [← hW2]; exact (World.putObj_heap_other hBl).trans hv
 have hK2 : W2.heap[D]? = some (.deferred (some [])) := by rw [← hW2]; exact (World.putObj_heap_other hDl).trans h.K
 have hL2 : W2.heap[l]? = some (.loop { z2y fn sv Bs D .ready none with state := .busy }) := by rw [← hW2]; exact World.putObj_heap_same hl
 have hrow2 : W2.ownsRow w0.heap.size 2 1 v ss.length (ss.map (Value.int .i64)) := hrow.kept hg2 (q0g hrow h.L (fun cur e => by cases e))
 have hb2 : Below w0.heap.size w0 W2 := h.below.grown hg2 h.below.size (fun k e => by cases e; exact h0l)
 obtain ⟨hc2, hf2⟩ := z0v hv2
 have hBlt : Bs < W2.heap.size := (Array.getElem?_eq_some_iff.1 hv2).1
 have hl2 : l < W2.heap.size := (Array.getElem?_eq_some_iff.1 hL2).1
 have hDlt : D < W2.heap.size := (Array.getElem?_eq_some_iff.1 hK2).1
 have ne_of : ∀ {j : Nat} {o : Obj}, W2.heap[j]? = some o → (∀ cur, o ≠ .cells cur 2 (0, 0)) → some j ≠ v.ownBlock := fun hj hno => by
  rcases q0g hrow2 hj hno with e | e
  · rw [e]; simp
  · exact fun e' => e e'.symm
 clear hW2
 unfold y45
 gi_wp2_with (rw [Oper.semAt_eq _ _ _ (fun c h => by cases h)]; go_simp; try go_bits)
 unfold z7e
 gi_wp2_with (first
  | (gi_at_builtin; refine wpListIn_append_own _ rfl _ _ 73 rfl w0.heap.size 2 i0 (.int .i64 0) 1 8 Tryz.underlying73 hi hz0 hz1 hz2 rfl (by decide) _ _ _ rfl (hrow2.alloc _) ⟨W2.heap.size, 0, none⟩ 1 1 [.int .i64 x] rfl rfl (cell_one_new _ _ _) (by simp [Value.oneCell']) (by omega) (by omega) (by have := hb2.size; simp; omega) ?_; intro v' w3 hown' hg3 hnil3
     have hv3 : w3.heap[Bs]? = some (.cells #[v] 73 (0, 0)) := (hg3.block Bs (by simp; omega) (ne_of hv2 (fun cur e => by cases e))).trans ((Below.heap_alloc _ _ Bs hBlt).trans hv2)
     obtain ⟨hc3, hf3⟩ := z0v hv3
     obtain ⟨g', cap', cur', rfl, hbase', hgb', hr1, hr2, hr3, hr4⟩ : ∃ g' cap' cur', v' = .slice (some ⟨g', 0, none⟩) (ss.length + 1) cap' ∧ w0.heap.size ≤ g' ∧ w3.heap[g']? = some (.cells cur' 2 (0, 0)) ∧ ss.length + 1 ≤ cap' ∧ cap' ≤ maxLen ∧ cur'.size = cap' * 1 ∧ cur'.toList.take ((ss.length + 1) * 1) = ss.map (Value.int .i64) ++ [.int .i64 x] := by
      rcases hown'.2 with ⟨_, h0⟩ | h'
      · exact absurd h0 (by omega)
      · exact h'
     go_frame)
  | (rw [Oper.semAt_eq _ _ _ (fun c h => by cases h)]; go_simp; try go_bits))
 have hg3' : (W2.alloc (.cells #[.int .i64 x] 2)).grownBy w3 v.ownBlock := hg3
 have hL3 : w3.heap[l]? = some (.loop { z2y fn sv Bs D .ready none with state := .busy }) := (hg3'.block l (by simp; omega) (ne_of hL2 (fun cur e => by cases e))).trans ((Below.heap_alloc _ _ l hl2).trans hL2)
 have hK3 : w3.heap[D]? = some (.deferred (some [])) := (hg3'.block D (by simp; omega) (ne_of hK2 (fun cur e => by cases e))).trans ((Below.heap_alloc _ _ D hDlt).trans hK2)
 obtain ⟨w4, hw4⟩ : ∃ w4, w3.setCell ⟨Bs, 0, none⟩ (.slice (some ⟨g', 0, none⟩) (ss.length + 1) cap') = w4 := ⟨_, rfl⟩
 rw [hw4]
 have hg4 : w3.grownBy w4 (some Bs) := by rw [← hw4]; exact y2r _ _ _
 have hv4 : w4.heap[Bs]? = some (.cells #[.slice (some ⟨g', 0, none⟩) (ss.length + 1) cap'] 73 (0, 0)) := by rw [← hw4]; exact z2e _ hv3
 have hL4 : w4.heap[l]? = some (.loop { z2y fn sv Bs D .ready none with state := .busy }) := (hg4.block l (Array.getElem?_eq_some_iff.1 hL3).1 (fun e => hBl (by cases e; rfl))).trans hL3
 have hK4 : w4.heap[D]? = some (.deferred (some [])) := (hg4.block D (Array.getElem?_eq_some_iff.1 hK3).1 (fun e => hDB (by cases e; rfl))).trans hK3
 have hrow4 := hown'.kept hg4 (q0g hown' hv3 (fun cur e => by cases e))
 have hl4 : l < w4.heap.size := (Array.getElem?_eq_some_iff.1 hL4).1
 have hb3 : Below w0.heap.size w0 w3 := (hb2.alloc hb2.size _).grown hg3' (by have := hb2.size; simp; omega) (fun k e => (hrow2.lt k e).1)
 have hb4 : Below w0.heap.size w0 w4 := hb3.grown hg4 hb3.size (fun k e => by cases e; exact h0B)
 clear hw4
 refine ⟨_, _, run_endRound none hL4, rfl, ⟨⟨_, (World.putObj_heap_other hBl).trans hv4, ?_, by simp⟩, World.putObj_heap_same hl4, (World.putObj_heap_other hDl).trans hK4, hb4.grown (zz _ _ _) hb4.size (fun k e => by cases e; exact h0l)⟩⟩
 have := hrow4.kept (zz w4 l (.loop { { z2y fn sv Bs D .ready none with state := .busy } with state := if (none : Option Code).isNone then .ready else .done, pending := none })) (q0g hrow4 hL4 (fun cur e => by cases e))
 simpa using this
set_option maxRecDepth 100000 in
set_option maxHeartbeats 2000000 in
theorem q4r (F : Fence) (n : Nat) (h11 : F.fn 382) (h330 : F.fn 367) (hro : F.round = none) (hn : 3 ≤ n) (a : Addr) (A : Option Addr) (cap : Nat) (zs : List Int) (hz : zs.length ≤ 1048576) (w : World) (hB : a.block < w.heap.size)
 (hc : w.cell? a = some (.slice A zs.length cap)) (hA : (∃ b, A = some b ∧ ∀ j, j < zs.length → b.block < w.heap.size ∧ w.cell? (b.add j) = some (.int .i64 (zs[j]?.getD 0))) ∨ (A = none ∧ zs = [])) :
 CallsIn F n Tryz.prog 382 #[.slice none 0 0, .func (.func 367) #[] #[.pointer (some a)]] w fun e w' => ∃ (v : Value), e = .returned v ∧ w'.ownsRow w.heap.size 2 1 v zs.length (zs.map (Value.int .i64)) ∧ Below w.heap.size w w' := by
 have h1 : 1 ≤ n := by omega
 refine callsIn_of_wp_marks Tryz.func382 rfl h11 ?_ hro
 simp only [Tryz.ntmps382, List.size_toArray, List.length_cons, List.length_nil, Nat.reduceAdd, Nat.reduceSub, Array.replicate_succ, Array.replicate_zero, List.push_toArray, List.append_toArray, List.nil_append, List.cons_append]
 gi_wp2
 refine wpIn_rangeFunc ?_
 intro fn hfn
 rw [hro]
 obtain ⟨W0, hW0⟩ : ∃ W0, w.alloc (.cells #[.slice none 0 0] 73) = W0 := ⟨_, rfl⟩
 have hs0 : W0.heap.size = w.heap.size + 1 := by rw [← hW0]; simp
 have hv0 : W0.heap[w.heap.size]? = some (.cells #[.slice none 0 0] 73 (0, 0)) := by rw [← hW0]; exact World.alloc_heap_new w _
 have hb0 : Below w.heap.size w W0 := by rw [← hW0]; exact (Below.refl _ w).alloc (Nat.le_refl _) _
 rw [hW0]
 obtain ⟨sv, hsv⟩ : ∃ sv, sv = Value.func (.func 367) #[] #[.pointer (some a)] := ⟨_, rfl⟩
 obtain ⟨W1, hW1⟩ : ∃ W1, (W0.alloc (.deferred (some []))).alloc (.loop (z2y fn (Value.func (.func 367) #[] #[.pointer (some a)]) w.heap.size W0.heap.size .ready none)) = W1 := ⟨_, rfl⟩
 have hold : ∀ k, k < W0.heap.size → W1.heap[k]? = W0.heap[k]? := fun k hk => by
  rw [← hW1]; exact (Below.heap_alloc _ _ k (by simp; omega)).trans (Below.heap_alloc _ _ k hk)
 have hb1 : Below w.heap.size w W1 := by rw [← hW1]; exact (hb0.alloc hb0.size _).alloc (by have := hb0.size; simp; omega) _
 have hs1 : W1.heap.size = W0.heap.size + 2 := by rw [← hW1]; simp
 have hM : qb1 w fn (.func (.func 367) #[] #[.pointer (some a)]) w.heap.size (W0.heap.size + 1) W0.heap.size [] W1 :=
  ⟨⟨_, (hold w.heap.size (by omega)).trans hv0, ⟨rfl, .inl ⟨rfl, rfl⟩⟩, by simp⟩,
   by rw [← hW1]; have := World.alloc_heap_new (W0.alloc (.deferred (some []))) (.loop (z2y fn (.func (.func 367) #[] #[.pointer (some a)]) w.heap.size W0.heap.size .ready none)); rwa [World.size_alloc] at this,
   by rw [← hW1]; exact (Below.heap_alloc _ _ _ (by simp)).trans (World.alloc_heap_new W0 _), hb1⟩
 refine ⟨W0.heap.size + 1, [{ target := .collected W0.heap.size, args := #[] }], W1, { target := .fn (.func 367) #[.pointer (some a)], args := #[.func (.yield (W0.heap.size + 1)) #[] #[]] }, W1, 367,
  #[.func (.yield (W0.heap.size + 1)) #[] #[], .pointer (some a)], W1, ?_, ?_, ?_, ?_, fun _ => h1, ?_⟩
 · rw [← hW1]; exact run_enterLoop_outer _ _ _ _ _
 · simp [resolve, go_sem]
 · intro f' hf'; simp [Target.leads] at hf'; subst hf'; exact h330
 · simp [invoke, go_sem, enters_of Tryz.func367 (by kernel_rfl) rfl]
 · refine (yaw F (n - 1) h330 hro (by omega) (W0.heap.size + 1) w.heap.size a A cap zs w (qb1 w fn (.func (.func 367) #[] #[.pointer (some a)]) w.heap.size (W0.heap.size + 1) W0.heap.size)
    (fun pre W hJ => hJ.below) hB hc hz hA
    (fun pre x W hJ hl => y9m F (n - 1 - 1) w fn hfn _ w.heap.size (W0.heap.size + 1) W0.heap.size (by omega) (by omega) (by omega) (Nat.le_refl _) (by omega) zs.length (by unfold maxLen; omega) (by omega) pre x W hJ hl) W1 hM).mono ?_
   rintro e W2 ⟨⟨v0, rfl⟩, h2⟩
   obtain ⟨v, hv, hrow, hnil⟩ := h2.box
   have hend := run_endLoop (P := Tryz.prog) h2.L (by simp [z2y])
   obtain ⟨W3, hW3⟩ : ∃ W3, W2.putObj (W0.heap.size + 1) (.loop { z2y fn (.func (.func 367) #[] #[.pointer (some a)]) w.heap.size W0.heap.size .ready none with state := .exhausted }) = W3 := ⟨_, rfl⟩
   rw [hW3] at hend
   have hg3 : W2.grownBy W3 (some (W0.heap.size + 1)) := by rw [← hW3]; exact zz _ _ _
   have hv3 : W3.heap[w.heap.size]? = some (.cells #[v] 73 (0, 0)) := by rw [← hW3]; exact (World.putObj_heap_other (by omega)).trans hv
   have hK3 : W3.heap[W0.heap.size]? = some (.deferred (some [])) := by rw [← hW3]; exact (World.putObj_heap_other (by omega)).trans h2.K
   have hrow3 := hrow.kept hg3 (q0g hrow h2.L (fun cur e => by cases e))
   have hb3 : Below w.heap.size w W3 := h2.below.grown hg3 h2.below.size (fun k e => by cases e; omega)
   obtain ⟨hc3, hf3⟩ := z0v hv3
   clear hW3
   refine ⟨none, W3, hend, ?_⟩
   gi_wp2
   rw [← hs0]
   refine ⟨by simp, .inl ⟨_, _, rfl, run_takeDeferred hK3, ?_⟩⟩
   exact ⟨_, results_tmp rfl _ _ _, v, rfl, hrow3.kept (zz _ _ _) (q0g hrow3 hK3 (fun cur e => by cases e)), hb3.grown (zz _ _ _) hb3.size (fun k e => by cases e; omega)⟩
set_option maxHeartbeats 1000000 in
theorem y6o (F : Fence) (n : Nat) (h8 : F.fn 366) (h11 : F.fn 382) (h330 : F.fn 367) (hro : F.round = none) (hn : 4 ≤ n) (a : Addr) (A : Option Addr) (cap : Nat) (zs : List Int) (hz : zs.length ≤ 1048576) (w : World) (hB : a.block < w.heap.size)
 (hc : w.cell? a = some (.slice A zs.length cap)) (hA : (∃ b, A = some b ∧ ∀ j, j < zs.length → b.block < w.heap.size ∧ w.cell? (b.add j) = some (.int .i64 (zs[j]?.getD 0))) ∨ (A = none ∧ zs = [])) :
 CallsIn F n Tryz.prog 366 #[.func (.func 367) #[] #[.pointer (some a)]] w fun e w' => ∃ (v : Value), e = .returned v ∧ w'.ownsRow w.heap.size 2 1 v zs.length (zs.map (Value.int .i64)) ∧ Below w.heap.size w w' := by
 have h1 : 1 ≤ n := by omega
 refine callsIn_of_wp Tryz.func366 rfl h8 ?_ hro
 simp only [Tryz.ntmps366, List.size_toArray, List.length_cons, List.length_nil, Nat.reduceAdd, Nat.reduceSub, Array.replicate_succ, Array.replicate_zero, List.push_toArray, List.append_toArray, List.nil_append, List.cons_append]
 gi_wp2_with (gi_at_call 382; refine (q4r F (n - 1) h11 h330 hro (by omega) a A cap zs hz _ hB hc hA).mono ?_; rintro e w' ⟨v, rfl, hrow, hb⟩)
 go_ret
 exact ⟨v, rfl, hrow, hb⟩
theorem zbi {w : World} {N : Nat → Prop} {u v : Value} (h : Rep w N (.s v) u) : u = v := by cases h; rfl
theorem q4i {W : World} {base base' : Nat} {e : TypeId} {size : Nat} {v : Value} {k : Nat} {xs : List Value} (h : W.ownsRow base e size v k xs) (hb : base' ≤ base) : W.ownsRow base' e size v k xs := by
 refine ⟨h.1, ?_⟩
 rcases h.2 with hn | ⟨g, cap, cur, hv, hbg, rest⟩
 · exact .inl hn
 · exact .inr ⟨g, cap, cur, hv, Nat.le_trans hb hbg, rest⟩
theorem q6o (us : List Int) (hu : us.length ≤ 1048576) : PC Tryz.prog 366 [.one (.f 367 [.p [.l (ints us)]])] (.one (.own false [.l 1 (ints us)])) := by
 refine ⟨by kernel_rfl, fun N w vals hargs => ?_⟩
 obtain ⟨hsz, hr⟩ := hargs
 obtain ⟨v0, rfl⟩ : ∃ v0, vals = #[v0] := by
  match vals, hsz with
  | ⟨[v0]⟩, _ => exact ⟨v0, rfl⟩
 have h0 : Rep w N (.f 367 [.p [.l (ints us)]]) v0 := hr 0 _ _ rfl rfl
 obtain ⟨a, A, cap, rfl, hB, hc, hA⟩ : ∃ (a : Addr) (A : Option Addr) (cap : Nat), v0 = .func (.func 367) #[] #[.pointer (some a)] ∧ a.block < w.heap.size ∧ w.cell? a = some (.slice A us.length cap) ∧
  ((∃ b, A = some b ∧ ∀ j, j < us.length → b.block < w.heap.size ∧ w.cell? (b.add j) = some (.int .i64 (us[j]?.getD 0))) ∨ (A = none ∧ us = [])) := by
  cases h0 with
  | f _ _ vs hs hv =>
    obtain ⟨u0, rfl⟩ : ∃ u0, vs = #[u0] := by
     match vs, hs with
     | ⟨[u0]⟩, _ => exact ⟨u0, rfl⟩
    have h1 : Rep w N (.p [.l (ints us)]) u0 := hv 0 _ _ rfl rfl
    cases h1 with
    | p _ a u hm hq =>
      have h2 := hm 0 (by simp)
      have h3 : Rep w N (.l (ints us)) (u 0) := hq 0 _ rfl
      have ha0 : a.add 0 = a := by obtain ⟨g, o, sp⟩ := a; unfold Addr.add; cases sp <;> simp
      rw [ha0] at h2
      have hlt : a.block < w.heap.size := World.block_lt_of_cell? w _ h2.2
      generalize u 0 = x at h2 h3
      generalize hrr : ints us = rr at h3
      cases h3 with
      | l sz _ A cap ux hz hcap hn hmm hrx =>
        have hlen : rr.length = us.length := by rw [← hrr]; simp
        refine ⟨a, A, cap, rfl, hlt, by rw [h2.2, hlen], ?_⟩
        cases A with
        | none =>
          have := hn rfl
          rw [this] at hlen
          exact .inr ⟨rfl, List.eq_nil_of_length_eq_zero hlen.symm⟩
        | some b =>
          refine .inl ⟨b, rfl, fun j hj => ?_⟩
          have hrow : rr[j]? = some [i64 us[j]] := by rw [← hrr]; simp [ints, hj]
          have hs1 : sz = 1 := (hz _ (List.mem_of_getElem? hrow)).symm
          subst hs1
          obtain ⟨b', hb', _, hcell⟩ := hmm j 0 (by omega) (by omega)
          cases hb'
          have hx := zbi (hrx j 0 _ _ hrow rfl)
          rw [hx, Nat.mul_one, Nat.add_zero] at hcell
          have hbl := World.block_lt_of_cell? w _ hcell
          rw [z0c] at hbl
          exact ⟨hbl, by rw [hcell]; simp [hj]⟩
 refine (callsIn_wide.1 (y6o Fence.wide 4 trivial trivial trivial rfl (Nat.le_refl _) a A cap us hu w hB hc hA)).mono ?_
 rintro e w' ⟨v, rfl, hrow, hb⟩
 refine ⟨v, fun x => w.heap.size ≤ x ∧ x < w'.heap.size, rfl, yr.q8v hb, ⟨#[v], fun k x => k = 0 ∧ w.heap.size ≤ x ∧ x < w'.heap.size, rfl, rfl, fun k x hx => hx.2, fun k k' x hx hx' => by rw [hx.1, hx'.1], fun k c u hc hu' => ?_⟩, fun x hx => hx⟩
 cases k with
 | succ k => simp at hc
 | zero =>
   cases hc
   cases hu'
   refine ⟨1, fun _ => rfl, .inr ⟨2, us.map (Value.int .i64), fun j _ => .int .i64 (us[j]?.getD 0), fun _ _ _ => False, ?_, fun g hg => ⟨rfl, hrow.lt g hg⟩, fun row hrow => ?_, fun _ _ _ h => h.elim, fun _ _ _ _ _ h => h.elim, fun j k hj hk => ?_, fun j k row c hj hk => ?_⟩⟩
   · have := q4i hrow (Nat.zero_le _)
     simpa [ints] using this
   · simp [ints] at hrow
     obtain ⟨_, _, rfl⟩ := hrow; rfl
   · have hj : j < us.length := by simpa [ints] using hj
     have : k = 0 := by omega
     subst this
     simp [hj]
   · have hjl : j < us.length := by have := (List.getElem?_eq_some_iff.1 hj).1; simpa [ints] using this
     have : row = [i64 us[j]] := by simp [ints, hjl] at hj; exact hj.symm
     subst this
     cases k with
     | succ k => simp at hk
     | zero =>
       cases hk
       simp only [hjl, getElem?_pos, Option.getD_some]
       exact .s _ _ rfl
set_option maxHeartbeats 1000000 in
theorem z8f (A : Option Addr) (len cap : Nat) (w : World) :
 CallsIn Fence.wide 1 Tryz.prog 340 #[.slice A len cap] w fun e w' => e = .returned (.func (.func 367) #[] #[.pointer (some ⟨w.heap.size, 0, none⟩)]) ∧ w' = w.alloc (.cells #[.slice A len cap] 73) := by
 refine callsIn_of_wp Tryz.func340 rfl trivial ?_ rfl
 simp only [Tryz.ntmps340, List.size_toArray, List.length_cons, List.length_nil, Nat.reduceAdd, Nat.reduceSub, Array.replicate_succ, Array.replicate_zero, List.push_toArray, List.append_toArray, List.nil_append, List.cons_append]
 gi_wp2
 go_ret
 exact ⟨rfl, rfl⟩
theorem y8f (rows : List (List Cell)) : PC Tryz.prog 340 [.one (.l rows)] (.one (.bor false [.f 367 [.p [.l rows]]])) := by
 refine ⟨by kernel_rfl, fun N w vals hargs => ?_⟩
 obtain ⟨hsz, hr⟩ := hargs
 obtain ⟨v0, rfl⟩ : ∃ v0, vals = #[v0] := by
  match vals, hsz with
  | ⟨[v0]⟩, _ => exact ⟨v0, rfl⟩
 have h0 : Rep w N (.l rows) v0 := hr 0 _ _ rfl rfl
 obtain ⟨A, len, cap, rfl⟩ : ∃ A len cap, v0 = .slice A len cap := by cases h0; exact ⟨_, _, _, rfl⟩
 refine (callsIn_wide.1 (z8f A len cap w)).mono ?_
 rintro e w' ⟨rfl, rfl⟩
 refine ⟨_, fun _ => False, rfl, yr.alloc w _ _, ⟨#[_], rfl, rfl, fun k c u hc hu => ?_⟩, fun x hx => hx.elim⟩
 cases k with
 | succ k => simp at hc
 | zero =>
   cases hc
   cases hu
   refine .f _ _ _ rfl (fun k c v hc hv => ?_)
   cases k with
   | succ k => simp at hc
   | zero =>
     cases hc
     cases hv
     refine .p _ _ (fun _ => .slice A len cap) (fun k hk => ⟨⟨.inr (Nat.le_refl _), fun h => h⟩, ?_⟩) (fun k c hc => ?_)
     · have : k = 0 := by simpa using hk
       subst this
       rw [add_plain]
       exact (z0v (World.alloc_heap_new w _)).1
     · cases k with
       | succ k => simp at hc
       | zero =>
         cases hc
         exact Rep.move h0 (fun x hx hN => ⟨⟨.inl hN, fun h => h⟩, Below.heap_alloc w _ x hx⟩)
end Go.Proofs.YtbnbjaedijbnpaaGreat
end
section
namespace Go.Proofs.YtbnbjaedijbnpaaGreat
open Go Go.Sx
set_option maxRecDepth 20000
set_option maxHeartbeats 4000000
theorem qi (n lo hi : Int) : PC Tryz.prog 86 [.one (i64 n), .one (i64 lo), .one (i64 hi)] (rB (within n lo hi)) := by
 refine PC.begin Tryz.func86 rfl (by kernel_rfl) ?_
 refine xb rfl ?_ ?_ <;> intro b0
 refine xj (k := 3) rfl ?_
 refine xv rfl rfl rfl ?_; rotate_left
 refine xj (k := 3) rfl ?_
 refine xv rfl rfl rfl ?_; rotate_left
 all_goals (refine vb ?_; (simp_all [within] <;> omega))
theorem zo (n lo hi : Int) : PC Tryz.prog 112 [.one (i64 n), .one (i64 lo), .one (i64 hi)] (rB (within n lo hi)) := by
 refine PC.begin Tryz.func112 rfl (by kernel_rfl) ?_
 refine xb rfl ?_ ?_ <;> intro b0
 refine xj (k := 3) rfl ?_
 refine xv rfl rfl rfl ?_; rotate_left
 refine xj (k := 3) rfl ?_
 refine xv rfl rfl rfl ?_; rotate_left
 all_goals (refine vb ?_; (simp_all [within] <;> omega))
theorem y2f (n : Int) : PC Tryz.prog 269 [.one (i64 n)] (rB (within n 0 2)) := by
 refine PC.begin Tryz.func269 rfl (by kernel_rfl) ?_
 refine z7 rfl (zo _ _ _) rfl tv4 ?_
 refine xr rfl (qm rfl ⟨⟨rfl, rfl, trivial⟩, z6 rfl⟩)
theorem z6t (n : Int) : PC Tryz.prog 290 [.one (i64 n)] (rB (within n 0 2)) := by
 refine PC.begin Tryz.func290 rfl (by kernel_rfl) ?_
 refine z7 rfl (zo _ _ _) rfl tv4 ?_
 refine xr rfl (qm rfl ⟨⟨rfl, rfl, trivial⟩, z6 rfl⟩)
theorem y4e (n : Int) : PC Tryz.prog 262 [.one (i64 n)] (rB (within n 1 1000000000)) := by
 refine PC.begin Tryz.func262 rfl (by kernel_rfl) ?_
 refine z7 rfl (zo _ _ _) rfl tv4 ?_
 refine xr rfl (qm rfl ⟨⟨rfl, rfl, trivial⟩, z6 rfl⟩)
theorem q4e (n : Int) : PC Tryz.prog 250 [.one (i64 n)] (rB (within n 1 1000000000)) := by
 refine PC.begin Tryz.func250 rfl (by kernel_rfl) ?_
 refine z7 rfl (qi _ _ _) rfl tv4 ?_
 refine xr rfl (qm rfl ⟨⟨rfl, rfl, trivial⟩, z6 rfl⟩)
theorem z2f (a b : Int) : PC Tryz.prog 213 [.one (i64 a), .one (i64 b)] (rB (within a 0 5 && within b 0 2)) := by
 refine PC.begin Tryz.func213 rfl (by kernel_rfl) ?_
 refine z7 rfl (zo _ _ _) rfl tv4 ?_
 refine xb rfl ?_ ?_ <;> intro b0
 refine xj (k := 1) rfl (z7 rfl (z6t _) rfl ⟨trivial, trivial⟩ (xj (k := 1) rfl ?_))
 refine xv rfl rfl rfl ?_; rotate_left
 refine xj (k := 2) rfl ?_
 refine xv rfl rfl rfl ?_; rotate_left
 all_goals (refine vb ?_; simp_all)
theorem y6c (a b : Int) : PC Tryz.prog 188 [.one (i64 a), .one (i64 b)] (rB (within a 0 5 && within b 0 2)) := by
 refine PC.begin Tryz.func188 rfl (by kernel_rfl) ?_
 refine z7 rfl (qi _ _ _) rfl tv4 ?_
 refine xb rfl ?_ ?_ <;> intro b0
 refine xj (k := 1) rfl (z7 rfl (qi _ _ _) rfl tv4 (xj (k := 1) rfl ?_))
 refine xv rfl rfl rfl ?_; rotate_left
 refine xj (k := 2) rfl ?_
 refine xv rfl rfl rfl ?_; rotate_left
 all_goals (refine vb ?_; simp_all)
theorem y58 (l : Leg) : PC Tryz.prog 251 [.agg l.cs] (rI l.fault) := by
 refine PC.begin Tryz.func251 rfl (by kernel_rfl) ?_
 refine z7 rfl (qi _ _ _) rfl tv4 ?_
 refine xb rfl ?_ ?_ <;> intro b0
 refine xj (k := 15) rfl ?_
 refine xv rfl rfl rfl ?_; rotate_left
 refine xj (k := 2) rfl (z7 rfl (qi _ _ _) rfl tv4 (xj (k := 2) rfl ?_))
 refine xb rfl ?_ ?_ <;> intro b1
 refine xj (k := 10) rfl ?_
 refine xv rfl rfl rfl ?_; rotate_left
 refine xj (k := 2) rfl (z7 rfl (qi _ _ _) rfl tv4 (xj (k := 2) rfl ?_))
 refine xb rfl ?_ ?_ <;> intro b2
 refine xj (k := 5) rfl ?_
 refine xv rfl rfl rfl ?_; rotate_left
 refine xj (k := 2) rfl (z7 rfl (qi _ _ _) rfl tv4 (xj (k := 2) rfl ?_))
 refine xb rfl ?_ ?_ <;> intro b3
 refine xv rfl rfl rfl ?_; rotate_left
 refine xb rfl ?_ ?_ <;> intro b4
 refine xv rfl rfl rfl ?_; rotate_left
 refine xv rfl rfl rfl ?_; rotate_left
 all_goals (refine vi ?_; simp_all [Leg.fault, Leg.bad])
theorem z50 (l : Leg) : PC Tryz.prog 264 [.agg l.cs] (rI l.fault) := by
 refine PC.begin Tryz.func264 rfl (by kernel_rfl) ?_
 refine z7 rfl (y2f _) rfl ⟨trivial, trivial⟩ ?_
 refine xb rfl ?_ ?_ <;> intro b0
 refine xj (k := 12) rfl ?_
 refine xv rfl rfl rfl ?_; rotate_left
 refine xj (k := 4) rfl (z7 rfl (z2f _ _) rfl tv3 (xj (k := 2) rfl ?_))
 refine xb rfl ?_ ?_ <;> intro b1
 refine xj (k := 5) rfl ?_
 refine xv rfl rfl rfl ?_; rotate_left
 refine xj (k := 2) rfl (z7 rfl (zo _ _ _) rfl tv4 (xj (k := 2) rfl ?_))
 refine xb rfl ?_ ?_ <;> intro b2
 refine xv rfl rfl rfl ?_; rotate_left
 refine xb rfl ?_ ?_ <;> intro b3
 refine xv rfl rfl rfl ?_; rotate_left
 refine xv rfl rfl rfl ?_; rotate_left
 all_goals (refine vi ?_; simp_all [Leg.fault, Leg.bad])
theorem y74 (rr : List (List Cell)) : PC Tryz.prog 263 [.one (.l rr)] (rI rr.length) := by
 refine PC.begin Tryz.func263 rfl (by kernel_rfl) ?_
 refine xr rfl (qm rfl ⟨⟨rfl, rfl, trivial⟩, z6 rfl⟩)
theorem q2p (l m : Leg) : PC Tryz.prog 267 [.agg l.cs, .agg m.cs] (rB (l.same m)) := by
 refine PC.begin Tryz.func267 rfl (by kernel_rfl) ?_
 refine xb rfl ?_ ?_ <;> intro b0
 refine xj (k := 5) rfl ?_
 refine xb rfl ?_ ?_ <;> intro b1
 refine xj (k := 5) rfl ?_
 refine xv rfl rfl rfl ?_; rotate_left
 refine xj (k := 5) rfl ?_
 refine xv rfl rfl rfl ?_; rotate_left
 refine xj (k := 11) rfl ?_
 refine xv rfl rfl rfl ?_; rotate_left
 all_goals (refine vb ?_; simp_all [Leg.same])
theorem q6b (n : Int) : PC Tryz.prog 351 [.one (i64 n)] (rB false) := by
 refine PC.begin Tryz.func351 rfl (by kernel_rfl) ?_
 refine xv rfl rfl rfl ?_
 all_goals (refine vb ?_; simp_all)
theorem qu (a b : Int) : PC Tryz.prog 292 [.one (i64 a), .one (i64 b)] (rI (y0i a b)) := by
 refine PC.begin Tryz.func292 rfl (by kernel_rfl) ?_
 refine z7 rfl (q6b _) rfl ⟨trivial, trivial⟩ (z7 rfl (q6b _) rfl ⟨trivial, trivial⟩ (xj (k := 2) rfl ?_))
 refine xb rfl ?_ ?_ <;> intro b0
 refine xv rfl rfl rfl ?_; rotate_left
 refine xb rfl ?_ ?_ <;> intro b1
 refine xv rfl rfl rfl ?_; rotate_left
 refine xv rfl rfl rfl ?_; rotate_left
 all_goals (refine vi ?_; simp_all [y0i] <;> omega)
theorem q8w (us : List Int) (hl : us.length ≤ 1048576) : PC Tryz.prog 291 [.one (.l (ints us))] (rI (orr us)) := by
 refine PC.begin Tryz.func291 rfl (by kernel_rfl) ?_
 have hn : (ints us).length = us.length := by simp
 refine yd rfl (ι := Nat) (fun i => i ≤ us.length ∧ ∀ j y, j < i → us[j]? = some y → y = 0) (fun i => ⟨[(8, sV (.int .i64 i)), (7, sV (.int .i64 (ints us).length)), (6, .one (.b (.l (ints us)))), (3, sV (.int .i64 0))], []⟩) (fun i => us.length - i) 0 ⟨Nat.zero_le _, fun j y hj => by omega⟩ ?_ ?_
 · exact ⟨⟨rfl, rfl, rfl, rfl, trivial⟩, trivial, rfl⟩
 · intro i ⟨hi, h0⟩ J hJ
   refine xb rfl ?_ ?_ <;> intro h
   · have h : i < us.length := by simpa using h
     obtain ⟨x, hx⟩ := gx h
     have hg := gm (fun n => [i64 n]) hx
     refine xs rfl (nn_ _) (y9 rfl _ hg (xs rfl rfl ?_))
     refine xb rfl ?_ ?_ <;> intro b0
     refine xv rfl rfl rfl ?_; rotate_left
     rotate_left
     · exact vi (y5u hx h0 (by simpa using b0)).symm
     · exact q9 rfl (hJ _ (i + 1) ⟨by omega, qg hx h0 (by simpa using b0)⟩ (by omega) ⟨⟨cwi (by omega) (by omega) (by omega), rfl, rfl, rfl, trivial⟩, trivial, rfl⟩)
   · have h : ¬ i < us.length := by simpa using h
     refine xv rfl rfl rfl ?_
     exact vi (y4i (zk (by omega) h0)).symm
theorem z2d (us : List Int) (hl : us.length ≤ 1048576) : PC Tryz.prog 117 [.one (.l (ints us))] (rI (orr us)) := by
 refine PC.begin Tryz.func117 rfl (by kernel_rfl) ?_
 have hn : (ints us).length = us.length := by simp
 refine yd rfl (ι := Nat) (fun i => i ≤ us.length ∧ ∀ j y, j < i → us[j]? = some y → y = 0) (fun i => ⟨[(7, sV (.int .i64 i)), (6, sV (.int .i64 (ints us).length)), (5, .one (.b (.l (ints us))))], []⟩) (fun i => us.length - i) 0 ⟨Nat.zero_le _, fun j y hj => by omega⟩ ?_ ?_
 · exact ⟨⟨rfl, rfl, rfl, trivial⟩, trivial, rfl⟩
 · intro i ⟨hi, h0⟩ J hJ
   refine xb rfl ?_ ?_ <;> intro h
   · have h : i < us.length := by simpa using h
     obtain ⟨x, hx⟩ := gx h
     have hg := gm (fun n => [i64 n]) hx
     refine xs rfl (nn_ _) (y9 rfl _ hg (xs rfl rfl ?_))
     refine xb rfl ?_ ?_ <;> intro b0
     refine xv rfl rfl rfl ?_; rotate_left
     rotate_left
     · exact vi (y5u hx h0 (by simpa using b0)).symm
     · exact q9 rfl (hJ _ (i + 1) ⟨by omega, qg hx h0 (by simpa using b0)⟩ (by omega) ⟨⟨cwi (by omega) (by omega) (by omega), rfl, rfl, trivial⟩, trivial, rfl⟩)
   · have h : ¬ i < us.length := by simpa using h
     refine xv rfl rfl rfl ?_
     exact vi (y4i (zk (by omega) h0)).symm
theorem za5 (us : List Bal) (a b : Int) (hl : us.length ≤ 1048576) : PC Tryz.prog 105 [.one (.l (us.map Bal.cs)), .one (i64 a), .one (i64 b)] (rI (hasB us a b)) := by
 refine PC.begin Tryz.func105 rfl (by kernel_rfl) ?_
 refine yd rfl (ι := Nat) (fun i => i ≤ us.length ∧ ∀ j y, j < i → us[j]? = some y → ¬ (y.a = a ∧ y.b = b)) (fun i => ⟨[(7, sV (.int .i64 i)), (0, .one (.b (.l (us.map Bal.cs)))), (1, sV (.int .i64 a)), (2, sV (.int .i64 b))], []⟩) (fun i => us.length - i) 0 ⟨Nat.zero_le _, fun j y hj => by omega⟩ ?_ ?_
 · exact ⟨⟨rfl, rfl, rfl, rfl, trivial⟩, trivial, rfl⟩
 · intro i ⟨hi, h0⟩ J hJ
   refine xb rfl ?_ ?_ <;> intro h
   · have h : i < us.length := by simpa using h
     obtain ⟨x, hx⟩ := gx h
     have hg := gm Bal.cs hx
     refine xs rfl (nn_ _) (y9 rfl _ hg (xs rfl rfl ?_))
     refine xb rfl ?_ ?_ <;> intro b0
     refine xj (k := 2) rfl (xs rfl (nn_ _) (y9 rfl _ hg (xs rfl rfl (xj (k := 5) rfl ?_))))
     refine xb rfl ?_ ?_ <;> intro b1
     refine xs rfl (nn_ _) (y9 rfl _ hg (xs rfl rfl ?_))
     refine xv rfl rfl rfl ?_; rotate_left
     rotate_left
     refine xj (k := 8) rfl ?_; rotate_left
     · exact vi (q4b hx h0 (by simp_all)).symm
     · exact q9 rfl (hJ _ (i + 1) ⟨by omega, qg hx h0 (by simp_all)⟩ (by omega) ⟨⟨cwi (by omega) (by omega) (by omega), rfl, rfl, rfl, trivial⟩, trivial, rfl⟩)
     · exact q9 rfl (hJ _ (i + 1) ⟨by omega, qg hx h0 (by simp_all)⟩ (by omega) ⟨⟨cwi (by omega) (by omega) (by omega), rfl, rfl, rfl, trivial⟩, trivial, rfl⟩)
   · have h : ¬ i < us.length := by simpa using h
     refine xv rfl rfl rfl ?_
     exact vi (q36 (zk (by omega) h0)).symm
theorem y9n (us : List Mk) (f : Mk → Int) (fn : Nat) (t : Int) (hf : ∀ x ∈ us, PC Tryz.prog fn [.agg x.cs, .one (i64 t)] (rI (f x))) (hl : us.length ≤ 1048576) : PC Tryz.prog 321 [.one (.l (us.map Mk.cs)), .one (i64 t), .one (.f fn [])] (bsV f us) := by
 refine PC.begin Tryz.func321 rfl (by kernel_rfl) ?_
 have hn : (us.map Mk.cs).length = us.length := by simp
 refine yd rfl (ι := Nat × Nat) (fun x => x.1 ≤ x.2 ∧ x.2 ≤ us.length ∧ bsr (bsC f us) x.1 x.2 = bsP f us) (fun x => ⟨[(9, sV (.int .i64 x.1)), (10, sV (.int .i64 x.2)), (8, sV (.int .i64 (us.map Mk.cs).length)), (0, .one (.b (.l (us.map Mk.cs)))), (1, sV (.int .i64 t)), (2, .one (.b (.f fn [])))], []⟩) (fun x => x.2 - x.1) (0, us.length) ⟨Nat.zero_le _, Nat.le_refl _, rfl⟩ ?_ ?_
 · exact ⟨⟨rfl, ci (by simp), rfl, rfl, rfl, rfl, trivial⟩, trivial, rfl⟩
 · intro ⟨i, j⟩ ⟨hij, hj, he⟩ J hJ
   dsimp only at hij hj he ⊢
   refine xb rfl ?_ ?_ <;> intro h
   · have h : i < j := by simpa using h
     obtain ⟨x, hx⟩ := gx (xs := us) (i := (i + j) / 2) (by omega)
     have hg := z9s Mk.cs (i := i) (j := j) (by omega) (by omega) hx
     have hxm := List.mem_of_getElem? hx
     have hc := y2u (f := f) hx
     refine xs rfl (nn_ _) (xs rfl (q9r (by omega) (by omega)) (y9 rfl _ hg (xs rfl rfl (z7 rfl (hf _ hxm) rfl ⟨tv3, trivial, trivial⟩ ?_))))
     refine xb rfl (fun b0 => ?_) (fun b0 => ?_); rotate_left
     rotate_left
     · refine q9 rfl (hJ _ ((i + j) / 2 + 1, j) ⟨by dsimp only; omega, hj, ?_⟩ (by dsimp only; omega) ⟨⟨?_, rfl, rfl, rfl, rfl, rfl, trivial⟩, trivial, rfl⟩)
       · rw [← he, q7g h (hc.trans b0)]
       · rw [half (by omega) (by omega)]; exact cwi (by omega) (by omega) (by omega)
     · refine q9 rfl (hJ _ (i, (i + j) / 2) ⟨by dsimp only; omega, by dsimp only; omega, ?_⟩ (by dsimp only; omega) ⟨⟨rfl, ci (half (by omega) (by omega)), rfl, rfl, rfl, rfl, trivial⟩, trivial, rfl⟩)
       rw [← he, y7g h (hc.trans b0)]
   · have h : ¬ i < j := by simpa using h
     rw [y5i h] at he
     by_cases hin : i < us.length
     · obtain ⟨x, hx⟩ := gx hin
       have hg := gm Mk.cs hx
       have hxm := List.mem_of_getElem? hx
       have hF := q2u he.symm hx
       refine xb rfl ?_ ?_ <;> intro b0
       refine xj (k := 3) rfl (xs rfl (nn_ _) (y9 rfl _ hg (xs rfl rfl (xj (k := 3) rfl (z7 rfl (hf _ hxm) rfl ⟨tv3, trivial, trivial⟩ (xj (k := 2) rfl ?_))))))
       refine xr rfl (qm rfl ⟨(by decide), ⟨⟨rfl, ?_, trivial⟩, ⟨rfl, ?_, trivial⟩, trivial⟩, z6 rfl⟩); rotate_left
       rotate_left
       refine xj (k := 8) rfl ?_
       refine xr rfl (qm rfl ⟨(by decide), ⟨⟨rfl, ?_, trivial⟩, ⟨rfl, ?_, trivial⟩, trivial⟩, z6 rfl⟩); rotate_left
       rotate_left
       all_goals first | (exfalso; simp at b0; omega) | (refine vi ?_; rw [he]; done) | (refine vb ?_; rw [hF]; done)
     · have hF := y46 he.symm (by omega)
       refine xb rfl ?_ ?_ <;> intro b0
       refine xj (k := 3) rfl ?_
       refine xs rfl (nn_ _) ?_; rotate_left
       refine xj (k := 8) rfl ?_
       refine xr rfl (qm rfl ⟨(by decide), ⟨⟨rfl, ?_, trivial⟩, ⟨rfl, ?_, trivial⟩, trivial⟩, z6 rfl⟩); rotate_left
       rotate_left
       all_goals first | (exfalso; simp at b0; omega) | (refine vi ?_; rw [he]; done) | (refine vb ?_; rw [hF]; done)
theorem y8l (us : List Con) (f : Con → Int) (fn : Nat) (t : Int) (hf : ∀ x ∈ us, PC Tryz.prog fn [.agg x.cs, .one (i64 t)] (rI (f x))) (hl : us.length ≤ 1048576) : PC Tryz.prog 364 [.one (.l (us.map Con.cs)), .one (i64 t), .one (.f fn [])] (bsV f us) := by
 refine PC.begin Tryz.func364 rfl (by kernel_rfl) ?_
 have hn : (us.map Con.cs).length = us.length := by simp
 refine yd rfl (ι := Nat × Nat) (fun x => x.1 ≤ x.2 ∧ x.2 ≤ us.length ∧ bsr (bsC f us) x.1 x.2 = bsP f us) (fun x => ⟨[(9, sV (.int .i64 x.1)), (10, sV (.int .i64 x.2)), (8, sV (.int .i64 (us.map Con.cs).length)), (0, .one (.b (.l (us.map Con.cs)))), (1, sV (.int .i64 t)), (2, .one (.b (.f fn [])))], []⟩) (fun x => x.2 - x.1) (0, us.length) ⟨Nat.zero_le _, Nat.le_refl _, rfl⟩ ?_ ?_
 · exact ⟨⟨rfl, ci (by simp), rfl, rfl, rfl, rfl, trivial⟩, trivial, rfl⟩
 · intro ⟨i, j⟩ ⟨hij, hj, he⟩ J hJ
   dsimp only at hij hj he ⊢
   refine xb rfl ?_ ?_ <;> intro h
   · have h : i < j := by simpa using h
     obtain ⟨x, hx⟩ := gx (xs := us) (i := (i + j) / 2) (by omega)
     have hg := z9s Con.cs (i := i) (j := j) (by omega) (by omega) hx
     have hxm := List.mem_of_getElem? hx
     have hc := y2u (f := f) hx
     refine xs rfl (nn_ _) (xs rfl (q9r (by omega) (by omega)) (y9 rfl _ hg (xs rfl rfl (z7 rfl (hf _ hxm) rfl ⟨tv3, trivial, trivial⟩ ?_))))
     refine xb rfl (fun b0 => ?_) (fun b0 => ?_); rotate_left
     rotate_left
     · refine q9 rfl (hJ _ ((i + j) / 2 + 1, j) ⟨by dsimp only; omega, hj, ?_⟩ (by dsimp only; omega) ⟨⟨?_, rfl, rfl, rfl, rfl, rfl, trivial⟩, trivial, rfl⟩)
       · rw [← he, q7g h (hc.trans b0)]
       · rw [half (by omega) (by omega)]; exact cwi (by omega) (by omega) (by omega)
     · refine q9 rfl (hJ _ (i, (i + j) / 2) ⟨by dsimp only; omega, by dsimp only; omega, ?_⟩ (by dsimp only; omega) ⟨⟨rfl, ci (half (by omega) (by omega)), rfl, rfl, rfl, rfl, trivial⟩, trivial, rfl⟩)
       rw [← he, y7g h (hc.trans b0)]
   · have h : ¬ i < j := by simpa using h
     rw [y5i h] at he
     by_cases hin : i < us.length
     · obtain ⟨x, hx⟩ := gx hin
       have hg := gm Con.cs hx
       have hxm := List.mem_of_getElem? hx
       have hF := q2u he.symm hx
       refine xb rfl ?_ ?_ <;> intro b0
       refine xj (k := 3) rfl (xs rfl (nn_ _) (y9 rfl _ hg (xs rfl rfl (xj (k := 3) rfl (z7 rfl (hf _ hxm) rfl ⟨tv3, trivial, trivial⟩ (xj (k := 2) rfl ?_))))))
       refine xr rfl (qm rfl ⟨(by decide), ⟨⟨rfl, ?_, trivial⟩, ⟨rfl, ?_, trivial⟩, trivial⟩, z6 rfl⟩); rotate_left
       rotate_left
       refine xj (k := 8) rfl ?_
       refine xr rfl (qm rfl ⟨(by decide), ⟨⟨rfl, ?_, trivial⟩, ⟨rfl, ?_, trivial⟩, trivial⟩, z6 rfl⟩); rotate_left
       rotate_left
       all_goals first | (exfalso; simp at b0; omega) | (refine vi ?_; rw [he]; done) | (refine vb ?_; rw [hF]; done)
     · have hF := y46 he.symm (by omega)
       refine xb rfl ?_ ?_ <;> intro b0
       refine xj (k := 3) rfl ?_
       refine xs rfl (nn_ _) ?_; rotate_left
       refine xj (k := 8) rfl ?_
       refine xr rfl (qm rfl ⟨(by decide), ⟨⟨rfl, ?_, trivial⟩, ⟨rfl, ?_, trivial⟩, trivial⟩, z6 rfl⟩); rotate_left
       rotate_left
       all_goals first | (exfalso; simp at b0; omega) | (refine vi ?_; rw [he]; done) | (refine vb ?_; rw [hF]; done)
theorem z8l (us : List Bal) (f : Bal → Int) (fn : Nat) (t : Bal) (hf : ∀ x ∈ us, PC Tryz.prog fn [.agg x.cs, .agg t.cs] (rI (f x))) (hl : us.length ≤ 1048576) : PC Tryz.prog 387 [.one (.l (us.map Bal.cs)), .agg t.cs, .one (.f fn [])] (bsV f us) := by
 refine PC.begin Tryz.func387 rfl (by kernel_rfl) ?_
 have hn : (us.map Bal.cs).length = us.length := by simp
 refine yd rfl (ι := Nat × Nat) (fun x => x.1 ≤ x.2 ∧ x.2 ≤ us.length ∧ bsr (bsC f us) x.1 x.2 = bsP f us) (fun x => ⟨[(9, sV (.int .i64 x.1)), (10, sV (.int .i64 x.2)), (8, sV (.int .i64 (us.map Bal.cs).length)), (0, .one (.b (.l (us.map Bal.cs)))), (4, .one (.a 4 0)), (2, .one (.b (.f fn [])))], [(4, .var (t.cs.map .b))]⟩) (fun x => x.2 - x.1) (0, us.length) ⟨Nat.zero_le _, Nat.le_refl _, rfl⟩ ?_ ?_
 · exact ⟨⟨rfl, ci (by simp), rfl, rfl, ⟨rfl, rfl, rfl⟩, rfl, trivial⟩, ⟨lcr, trivial⟩, rfl⟩
 · intro ⟨i, j⟩ ⟨hij, hj, he⟩ J hJ
   dsimp only at hij hj he ⊢
   refine xb rfl ?_ ?_ <;> intro h
   · have h : i < j := by simpa using h
     obtain ⟨x, hx⟩ := gx (xs := us) (i := (i + j) / 2) (by omega)
     have hg := z9s Bal.cs (i := i) (j := j) (by omega) (by omega) hx
     have hxm := List.mem_of_getElem? hx
     have hc := y2u (f := f) hx
     refine xs rfl (nn_ _) (qd rfl [] (Tk (Rg 0 4) (.take 4 [6, 7] (.take 5 [6, 7] (.alt 6 (.take 7 [] .done) .nil)))) (by kernel_rfl) (xs rfl (q9r (by omega) (by omega)) (y9 rfl _ hg (xs rfl rfl (z7 rfl (hf _ hxm) rfl ⟨tv4, tv4, trivial⟩ ?_)))))
     refine xb rfl (fun b0 => ?_) (fun b0 => ?_); rotate_left
     rotate_left
     · refine q9 rfl (hJ _ ((i + j) / 2 + 1, j) ⟨by dsimp only; omega, hj, ?_⟩ (by dsimp only; omega) ⟨⟨?_, rfl, rfl, rfl, ⟨rfl, rfl, rfl⟩, rfl, trivial⟩, ⟨lcr, trivial⟩, rfl⟩)
       · rw [← he, q7g h (hc.trans b0)]
       · rw [half (by omega) (by omega)]; exact cwi (by omega) (by omega) (by omega)
     · refine q9 rfl (hJ _ (i, (i + j) / 2) ⟨by dsimp only; omega, by dsimp only; omega, ?_⟩ (by dsimp only; omega) ⟨⟨rfl, ci (half (by omega) (by omega)), rfl, rfl, ⟨rfl, rfl, rfl⟩, rfl, trivial⟩, ⟨lcr, trivial⟩, rfl⟩)
       rw [← he, y7g h (hc.trans b0)]
   · have h : ¬ i < j := by simpa using h
     rw [y5i h] at he
     by_cases hin : i < us.length
     · obtain ⟨x, hx⟩ := gx hin
       have hg := gm Bal.cs hx
       have hxm := List.mem_of_getElem? hx
       have hF := q2u he.symm hx
       refine qd rfl [] (Tk (Rg 0 9) (.take 9 (Rg 11 5) (.take 10 (Rg 11 5) (.alt 11 (Tk (Rg 12 4) .done) .nil)))) (by kernel_rfl) ?_
       refine xb rfl ?_ ?_ <;> intro b0
       refine xj (k := 3) rfl (xs rfl (nn_ _) (y9 rfl _ hg (xs rfl rfl (xj (k := 3) rfl (z7 rfl (hf _ hxm) rfl ⟨tv4, tv4, trivial⟩ (xj (k := 2) rfl ?_))))))
       refine xr rfl (qm rfl ⟨(by decide), ⟨⟨rfl, ?_, trivial⟩, ⟨rfl, ?_, trivial⟩, trivial⟩, z6 rfl⟩); rotate_left
       rotate_left
       refine xj (k := 8) rfl ?_
       refine xr rfl (qm rfl ⟨(by decide), ⟨⟨rfl, ?_, trivial⟩, ⟨rfl, ?_, trivial⟩, trivial⟩, z6 rfl⟩); rotate_left
       rotate_left
       all_goals first | (exfalso; simp at b0; omega) | (refine vi ?_; rw [he]; done) | (refine vb ?_; rw [hF]; done)
     · have hF := y46 he.symm (by omega)
       refine qd rfl [] (Tk (Rg 0 9) (.take 9 (Rg 11 5) (.take 10 (Rg 11 5) (.alt 11 (Tk (Rg 12 4) .done) .nil)))) (by kernel_rfl) ?_
       refine xb rfl ?_ ?_ <;> intro b0
       refine xj (k := 3) rfl ?_
       refine xs rfl (nn_ _) ?_; rotate_left
       refine xj (k := 8) rfl ?_
       refine xr rfl (qm rfl ⟨(by decide), ⟨⟨rfl, ?_, trivial⟩, ⟨rfl, ?_, trivial⟩, trivial⟩, z6 rfl⟩); rotate_left
       rotate_left
       all_goals first | (exfalso; simp at b0; omega) | (refine vi ?_; rw [he]; done) | (refine vb ?_; rw [hF]; done)
theorem y9v (rr : List (List Cell)) (us : List Leg) (p : Leg → Bool) (fn : Nat) (c0 : Cell) (hr : rr = us.map Leg.cs) (hf : ∀ x ∈ us, PC Tryz.prog fn [.agg x.cs, .one c0] (rB (p x))) (hl : us.length ≤ 1048576) : PC Tryz.prog 336 [.one (.l rr), .one (.f fn [c0])] (rI (y1e p us)) := by
 refine PC.begin Tryz.func336 rfl (by kernel_rfl) ?_
 subst hr
 have hn : (us.map Leg.cs).length = us.length := by simp
 refine yd rfl (ι := Nat) (fun i => i ≤ us.length ∧ ∀ j y, j < i → us[j]? = some y → p y = false) (fun i => ⟨[(8, sV (.int .i64 i)), (7, sV (.int .i64 (us.map Leg.cs).length)), (0, .one (.b (.l (us.map Leg.cs)))), (1, .one (.b (.f fn [c0])))], []⟩) (fun i => us.length - i) 0 ⟨Nat.zero_le _, fun j y hj => by omega⟩ ?_ ?_
 · exact ⟨⟨rfl, rfl, rfl, rfl, trivial⟩, trivial, rfl⟩
 · intro i ⟨hi, h0⟩ J hJ
   refine xb rfl ?_ ?_ <;> intro h
   · have h : i < us.length := by simpa using h
     obtain ⟨x, hx⟩ := gx h
     have hg := gm Leg.cs hx
     have hxm := List.mem_of_getElem? hx
     refine xs rfl (nn_ _) (y9 rfl _ hg (xs rfl rfl (z7 rfl (hf _ hxm) rfl ⟨tv5, trivial, trivial⟩ ?_)))
     refine xb rfl ?_ ?_ <;> intro b0
     refine xv rfl rfl rfl ?_; rotate_left
     rotate_left
     · exact vi (q08 hx h0 b0).symm
     · exact q9 rfl (hJ _ (i + 1) ⟨by omega, qg hx h0 b0⟩ (by omega) ⟨⟨cwi (by omega) (by omega) (by omega), rfl, rfl, rfl, trivial⟩, trivial, rfl⟩)
   · have h : ¬ i < us.length := by simpa using h
     refine xv rfl rfl rfl ?_
     exact vi (y02 (zk (by omega) h0)).symm
theorem q5g (rr : List (List Cell)) (us : List Leg) (p : Leg → Bool) (fn : Nat) (c0 : Cell) (hr : rr = us.map Leg.cs) (hf : ∀ x ∈ us, PC Tryz.prog fn [.agg x.cs, .one c0] (rB (p x))) (hl : us.length ≤ 1048576) : PC Tryz.prog 265 [.one (.l rr), .one (.f fn [c0])] (rB (us.any p)) := by
 refine PC.begin Tryz.func265 rfl (by kernel_rfl) ?_
 have hi := y9v rr us p fn c0 hr hf hl
 refine z7 rfl (hi) rfl tv3 (xv rfl rfl rfl ?_)
 exact vb q0h
theorem q9v (rr : List (List Cell)) (us : List Leg) (p : Leg → Bool) (fn : Nat) (c0 : Cell) (c1 : Cell) (hr : rr = us.map Leg.cs) (hf : ∀ x ∈ us, PC Tryz.prog fn [.agg x.cs, .one c0, .one c1] (rB (p x))) (hl : us.length ≤ 1048576) : PC Tryz.prog 336 [.one (.l rr), .one (.f fn [c0, c1])] (rI (y1e p us)) := by
 refine PC.begin Tryz.func336 rfl (by kernel_rfl) ?_
 subst hr
 have hn : (us.map Leg.cs).length = us.length := by simp
 refine yd rfl (ι := Nat) (fun i => i ≤ us.length ∧ ∀ j y, j < i → us[j]? = some y → p y = false) (fun i => ⟨[(8, sV (.int .i64 i)), (7, sV (.int .i64 (us.map Leg.cs).length)), (0, .one (.b (.l (us.map Leg.cs)))), (1, .one (.b (.f fn [c0, c1])))], []⟩) (fun i => us.length - i) 0 ⟨Nat.zero_le _, fun j y hj => by omega⟩ ?_ ?_
 · exact ⟨⟨rfl, rfl, rfl, rfl, trivial⟩, trivial, rfl⟩
 · intro i ⟨hi, h0⟩ J hJ
   refine xb rfl ?_ ?_ <;> intro h
   · have h : i < us.length := by simpa using h
     obtain ⟨x, hx⟩ := gx h
     have hg := gm Leg.cs hx
     have hxm := List.mem_of_getElem? hx
     refine xs rfl (nn_ _) (y9 rfl _ hg (xs rfl rfl (z7 rfl (hf _ hxm) rfl ⟨tv5, trivial, trivial, trivial⟩ ?_)))
     refine xb rfl ?_ ?_ <;> intro b0
     refine xv rfl rfl rfl ?_; rotate_left
     rotate_left
     · exact vi (q08 hx h0 b0).symm
     · exact q9 rfl (hJ _ (i + 1) ⟨by omega, qg hx h0 b0⟩ (by omega) ⟨⟨cwi (by omega) (by omega) (by omega), rfl, rfl, rfl, trivial⟩, trivial, rfl⟩)
   · have h : ¬ i < us.length := by simpa using h
     refine xv rfl rfl rfl ?_
     exact vi (y02 (zk (by omega) h0)).symm
theorem q9l (rr : List (List Cell)) (us : List Leg) (p : Leg → Bool) (fn : Nat) (c0 : Cell) (c1 : Cell) (hr : rr = us.map Leg.cs) (hf : ∀ x ∈ us, PC Tryz.prog fn [.agg x.cs, .one c0, .one c1] (rB (p x))) (hl : us.length ≤ 1048576) : PC Tryz.prog 265 [.one (.l rr), .one (.f fn [c0, c1])] (rB (us.any p)) := by
 refine PC.begin Tryz.func265 rfl (by kernel_rfl) ?_
 have hi := q9v rr us p fn c0 c1 hr hf hl
 refine z7 rfl (hi) rfl tv3 (xv rfl rfl rfl ?_)
 exact vb q0h
theorem y9u (rr : List (List Cell)) (us : List Con) (p : Con → Bool) (fn : Nat) (c0 : Cell) (c1 : Cell) (hr : rr = us.map Con.cs) (hf : ∀ x ∈ us, PC Tryz.prog fn [.agg x.cs, .one c0, .one c1] (rB (p x))) (hl : us.length ≤ 1048576) : PC Tryz.prog 134 [.one (.l rr), .one (.f fn [c0, c1])] (rI (y1e p us)) := by
 refine PC.begin Tryz.func134 rfl (by kernel_rfl) ?_
 subst hr
 have hn : (us.map Con.cs).length = us.length := by simp
 refine yd rfl (ι := Nat) (fun i => i ≤ us.length ∧ ∀ j y, j < i → us[j]? = some y → p y = false) (fun i => ⟨[(8, sV (.int .i64 i)), (7, sV (.int .i64 (us.map Con.cs).length)), (0, .one (.b (.l (us.map Con.cs)))), (1, .one (.b (.f fn [c0, c1])))], []⟩) (fun i => us.length - i) 0 ⟨Nat.zero_le _, fun j y hj => by omega⟩ ?_ ?_
 · exact ⟨⟨rfl, rfl, rfl, rfl, trivial⟩, trivial, rfl⟩
 · intro i ⟨hi, h0⟩ J hJ
   refine xb rfl ?_ ?_ <;> intro h
   · have h : i < us.length := by simpa using h
     obtain ⟨x, hx⟩ := gx h
     have hg := gm Con.cs hx
     have hxm := List.mem_of_getElem? hx
     refine xs rfl (nn_ _) (y9 rfl _ hg (xs rfl rfl (z7 rfl (hf _ hxm) rfl ⟨tv3, trivial, trivial, trivial⟩ ?_)))
     refine xb rfl ?_ ?_ <;> intro b0
     refine xv rfl rfl rfl ?_; rotate_left
     rotate_left
     · exact vi (q08 hx h0 b0).symm
     · exact q9 rfl (hJ _ (i + 1) ⟨by omega, qg hx h0 b0⟩ (by omega) ⟨⟨cwi (by omega) (by omega) (by omega), rfl, rfl, rfl, trivial⟩, trivial, rfl⟩)
   · have h : ¬ i < us.length := by simpa using h
     refine xv rfl rfl rfl ?_
     exact vi (y02 (zk (by omega) h0)).symm
theorem z9l (rr : List (List Cell)) (us : List Con) (p : Con → Bool) (fn : Nat) (c0 : Cell) (c1 : Cell) (hr : rr = us.map Con.cs) (hf : ∀ x ∈ us, PC Tryz.prog fn [.agg x.cs, .one c0, .one c1] (rB (p x))) (hl : us.length ≤ 1048576) : PC Tryz.prog 341 [.one (.l rr), .one (.f fn [c0, c1])] (rB (us.any p)) := by
 refine PC.begin Tryz.func341 rfl (by kernel_rfl) ?_
 have hi := y9u rr us p fn c0 c1 hr hf hl
 refine z7 rfl (hi) rfl tv3 (xv rfl rfl rfl ?_)
 exact vb q0h
end Go.Proofs.YtbnbjaedijbnpaaGreat
end
