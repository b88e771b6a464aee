/- WHAT IS PROVED: parts of the proof of fnExactDropMessage_holds: a frame for walks, what each Go function that it reaches answers, and plain lemmas; no condition beyond those that each theorem names. -/
import Derived.Test.YtbnbjaedijbnpaaGreatCDm4
import Derived.WalkKit
import Derived.OrdersHeld
import Derived.DeepKeys
import Derived.Maps.RangeWalk
import Derived.Maps.OwnOps
import Derived.WideKeyEntry
import Derived.Orders
import Derived.Deep.Slices
import Derived.ChangeArms
import Derived.WideShapes
import Derived.Sort.AssemblyPlain
import Derived.Test.YtbnbjaedijbnpaaGreatProg
import Derived.Shelf.SortG.Plain
import Derived.Shelf.SortG.SortNone
import Derived.Shelf.SlicesG.CompactI
import Derived.Lib.OwnBridge
import Derived.RangeFuncGives
import Derived.RangeFuncBox
import Derived.RangeFuncLeaves
import Derived.Shelf.Abstract
import Derived.Maps.AppendAt
import Derived.OwnWalkIn
import Derived.TacticsInMore
import Derived.LoopNIn
import Derived.LoopIn
set_option linter.unusedVariables false
set_option linter.unusedSimpArgs false
section
namespace Go.Proofs.YtbnbjaedijbnpaaGreat
open Go Go.Sx
def tab : TT := (.node 84 ⟨(some (false, 1)), none, none, false, false, true, none, (some (.one (.b (.s .nilFunc)))), none, none, [], none⟩
 (.node 39 ⟨(some (false, 1)), (some 2), (some (2, 32)), false, false, true, none, (some (.one (.nil))), none, (some [.s (.int .i64 0), .l []]), [], none⟩
 (.node 20 ⟨(some (false, 1)), none, none, false, false, true, none, (some (.one (.b (.s .nilIface)))), none, none, [], none⟩
 (.node 10 ⟨(some (false, 1)), none, none, true, false, true, none, (some (.one (.b (.s (.string ByteArray.empty))))), none, none, [], none⟩
 (.node 5 ⟨(some (false, 1)), none, none, false, false, true, (some .u8), (some (.one (.b (.s (.int .u8 0))))), none, none, [], none⟩
 (.node 3 ⟨(some (false, 1)), none, none, false, false, true, (some .i64), (some (.one (.b (.s (.int .i64 0))))), none, none, [], none⟩
 (.node 2 ⟨(some (false, 1)), none, none, false, false, true, (some .i64), (some (.one (.b (.s (.int .i64 0))))), none, none, [], none⟩
 (.node 1 ⟨(some (false, 1)), none, none, false, false, true, none, (some (.one (.b (.s .nilFunc)))), none, none, [], none⟩
 .leaf .leaf) .leaf) (.node 4 ⟨(some (false, 1)), none, none, false, true, true, none, (some (.one (.b (.s (.bool false))))), none, none, [], none⟩
 .leaf .leaf)) (.node 8 ⟨(some (true, 4)), none, none, false, false, true, none, (some (.agg [.b (.s (.int .i64 0)), .b (.s (.int .i64 0)), .b (.s (.bool false)), .b (.s (.int .u8 0))])), (some [.b (.s (.int .i64 0)), .b (.s (.int .i64 0)), .b (.s (.bool false)), .b (.s (.int .u8 0))]), none, [((some 0), (some (false, 0, 1))), ((some 1), (some (false, 1, 1))), ((some 2), (some (false, 2, 1))), ((some 3), (some (false, 3, 1)))], (some [.i .i64, .i .i64, .b, .i .u8])⟩
 (.node 7 ⟨(some (true, 4)), none, none, false, false, true, none, (some (.agg [.b (.s (.int .i64 0)), .b (.s (.int .i64 0)), .b (.s (.bool false)), .b (.s (.int .u8 0))])), (some [.b (.s (.int .i64 0)), .b (.s (.int .i64 0)), .b (.s (.bool false)), .b (.s (.int .u8 0))]), none, [((some 0), (some (false, 0, 1))), ((some 1), (some (false, 1, 1))), ((some 2), (some (false, 2, 1))), ((some 3), (some (false, 3, 1)))], (some [.i .i64, .i .i64, .b, .i .u8])⟩
 (.node 6 ⟨(some (false, 1)), none, none, false, false, true, (some .u8), (some (.one (.b (.s (.int .u8 0))))), none, none, [], none⟩
 .leaf .leaf) .leaf) (.node 9 ⟨(some (false, 1)), none, none, true, false, true, none, (some (.one (.b (.s (.string ByteArray.empty))))), none, none, [], none⟩
 .leaf .leaf))) (.node 15 ⟨(some (false, 1)), none, none, false, false, true, none, (some (.one (.b (.s (.pointer none))))), none, none, [], none⟩
 (.node 13 ⟨(some (true, 2)), none, none, false, false, true, none, (some (.agg [.b (.s (.string ByteArray.empty)), .b (.s (.int .u64 0))])), (some [.b (.s (.string ByteArray.empty)), .b (.s (.int .u64 0))]), none, [((some 0), (some (false, 0, 1))), ((some 1), (some (false, 1, 1)))], none⟩
 (.node 12 ⟨(some (false, 1)), none, none, false, false, true, (some .u64), (some (.one (.b (.s (.int .u64 0))))), none, none, [], none⟩
 (.node 11 ⟨(some (false, 1)), none, none, true, false, true, none, (some (.one (.b (.s (.string ByteArray.empty))))), none, none, [], none⟩
 .leaf .leaf) .leaf) (.node 14 ⟨(some (true, 2)), none, none, false, false, true, none, (some (.agg [.b (.s (.string ByteArray.empty)), .b (.s (.int .u64 0))])), (some [.b (.s (.string ByteArray.empty)), .b (.s (.int .u64 0))]), none, [((some 0), (some (false, 0, 1))), ((some 1), (some (false, 1, 1)))], none⟩
 .leaf .leaf)) (.node 18 ⟨(some (true, 1)), none, none, false, false, true, none, (some (.agg [.b (.s (.pointer none))])), (some [.b (.s (.pointer none))]), none, [((some 0), (some (false, 0, 1)))], none⟩
 (.node 17 ⟨(some (false, 1)), none, none, false, false, true, none, (some (.one (.b (.s (.pointer none))))), none, none, [], none⟩
 (.node 16 ⟨(some (false, 1)), none, none, false, false, true, none, (some (.one (.b (.s (.pointer none))))), none, none, [], none⟩
 .leaf .leaf) .leaf) (.node 19 ⟨(some (true, 1)), none, none, false, false, true, none, (some (.agg [.b (.s (.pointer none))])), (some [.b (.s (.pointer none))]), none, [((some 0), (some (false, 0, 1)))], none⟩
 .leaf .leaf)))) (.node 30 ⟨(some (true, 5)), none, none, false, false, true, none, (some (.agg [.nil, .nil, .nil, .nil, .nil])), (some [.nil, .nil, .nil, .nil, .nil]), none, [((some 0), (some (false, 0, 1))), ((some 1), (some (false, 1, 1))), ((some 2), (some (false, 2, 1))), ((some 3), (some (false, 3, 1))), ((some 4), (some (false, 4, 1)))], none⟩
 (.node 25 ⟨(some (false, 1)), (some 2), (some (2, 32)), false, false, true, none, (some (.one (.nil))), none, (some [.s (.int .i64 0), .l []]), [], none⟩
 (.node 23 ⟨(some (true, 1)), none, none, false, false, true, none, (some (.agg [.nil])), (some [.nil]), none, [((some 0), (some (false, 0, 1)))], none⟩
 (.node 22 ⟨(some (false, 1)), (some 1), (some (1, 24)), false, false, true, none, (some (.one (.nil))), none, (some [.l []]), [], none⟩
 (.node 21 ⟨(some (false, 1)), none, none, false, false, true, (some .i32), (some (.one (.b (.s (.int .i32 0))))), none, none, [], none⟩
 .leaf .leaf) .leaf) (.node 24 ⟨(some (true, 1)), none, none, false, false, true, none, (some (.agg [.nil])), (some [.nil]), none, [((some 0), (some (false, 0, 1)))], none⟩
 .leaf .leaf)) (.node 28 ⟨(some (false, 1)), (some 3), (some (3, 56)), false, false, true, none, (some (.one (.nil))), none, (some [.s (.int .i64 0), .l [], .l []]), [], none⟩
 (.node 27 ⟨(some (false, 1)), (some 1), (some (1, 24)), false, false, true, none, (some (.one (.nil))), none, (some [.l []]), [], none⟩
 (.node 26 ⟨(some (false, 1)), (some 6), (some (6, 128)), false, false, true, none, (some (.one (.nil))), none, (some [.s (.int .i64 0), .l [], .l [], .l [], .l [], .l []]), [], none⟩
 .leaf .leaf) .leaf) (.node 29 ⟨(some (false, 1)), (some 9), (some (9, 72)), false, false, true, none, (some (.one (.nil))), none, (some [.s (.int .i64 0), .s (.int .i64 0), .s (.int .i64 0), .s (.int .i64 0), .s (.int .i64 0), .s (.int .i64 0), .s (.int .i64 0), .s (.int .i64 0), .s (.int .i64 0)]), [], none⟩
 .leaf .leaf))) (.node 35 ⟨(some (false, 1)), (some 1), (some (1, 24)), false, false, true, none, (some (.one (.nil))), none, (some [.l []]), [], none⟩
 (.node 33 ⟨(some (false, 1)), none, none, false, false, true, none, (some (.one (.b (.s .nilFunc)))), none, none, [], none⟩
 (.node 32 ⟨(some (false, 1)), none, none, false, false, true, none, (some (.one (.b (.s .nilFunc)))), none, none, [], none⟩
 (.node 31 ⟨(some (true, 5)), none, none, false, false, true, none, (some (.agg [.nil, .nil, .nil, .nil, .nil])), (some [.nil, .nil, .nil, .nil, .nil]), none, [((some 0), (some (false, 0, 1))), ((some 1), (some (false, 1, 1))), ((some 2), (some (false, 2, 1))), ((some 3), (some (false, 3, 1))), ((some 4), (some (false, 4, 1)))], none⟩
 .leaf .leaf) .leaf) (.node 34 ⟨(some (false, 1)), none, none, false, false, true, none, (some (.one (.b (.s .nilFunc)))), none, none, [], none⟩
 .leaf .leaf)) (.node 37 ⟨(some (true, 1)), none, none, false, false, true, none, (some (.agg [.nil])), (some [.nil]), none, [((some 0), (some (false, 0, 1)))], none⟩
 (.node 36 ⟨(some (true, 1)), none, none, false, false, true, none, (some (.agg [.nil])), (some [.nil]), none, [((some 0), (some (false, 0, 1)))], none⟩
 .leaf .leaf) (.node 38 ⟨(some (false, 1)), none, none, false, false, true, none, (some (.one (.b (.s .nilFunc)))), none, none, [], none⟩
 .leaf .leaf))))) (.node 59 ⟨(some (false, 1)), none, none, false, false, true, none, (some (.one (.b (.s .nilFunc)))), none, none, [], none⟩
 (.node 49 ⟨(some (false, 1)), none, none, false, false, true, none, (some (.one (.b (.s .nilFunc)))), none, none, [], none⟩
 (.node 44 ⟨(some (true, 5)), none, none, false, false, true, none, (some (.agg [.nil, .nil, .nil, .nil, .nil])), (some [.nil, .nil, .nil, .nil, .nil]), none, [((some 0), (some (false, 0, 1))), ((some 1), (some (false, 1, 1))), ((some 2), (some (false, 2, 1))), ((some 3), (some (false, 3, 1))), ((some 4), (some (false, 4, 1)))], none⟩
 (.node 42 ⟨(some (false, 1)), (some 3), (some (3, 56)), false, false, true, none, (some (.one (.nil))), none, (some [.s (.int .i64 0), .l [], .l []]), [], none⟩
 (.node 41 ⟨(some (false, 1)), (some 1), (some (1, 24)), false, false, true, none, (some (.one (.nil))), none, (some [.l []]), [], none⟩
 (.node 40 ⟨(some (false, 1)), (some 6), (some (6, 128)), false, false, true, none, (some (.one (.nil))), none, (some [.s (.int .i64 0), .l [], .l [], .l [], .l [], .l []]), [], none⟩
 .leaf .leaf) .leaf) (.node 43 ⟨(some (false, 1)), (some 9), (some (9, 72)), false, false, true, none, (some (.one (.nil))), none, (some [.s (.int .i64 0), .s (.int .i64 0), .s (.int .i64 0), .s (.int .i64 0), .s (.int .i64 0), .s (.int .i64 0), .s (.int .i64 0), .s (.int .i64 0), .s (.int .i64 0)]), [], none⟩
 .leaf .leaf)) (.node 47 ⟨(some (false, 1)), none, none, false, false, true, none, (some (.one (.b (.s .nilFunc)))), none, none, [], none⟩
 (.node 46 ⟨(some (false, 1)), none, none, false, false, true, none, (some (.one (.b (.s .nilFunc)))), none, none, [], none⟩
 (.node 45 ⟨(some (true, 5)), none, none, false, false, true, none, (some (.agg [.nil, .nil, .nil, .nil, .nil])), (some [.nil, .nil, .nil, .nil, .nil]), none, [((some 0), (some (false, 0, 1))), ((some 1), (some (false, 1, 1))), ((some 2), (some (false, 2, 1))), ((some 3), (some (false, 3, 1))), ((some 4), (some (false, 4, 1)))], none⟩
 .leaf .leaf) .leaf) (.node 48 ⟨(some (false, 1)), none, none, false, false, true, none, (some (.one (.b (.s .nilFunc)))), none, none, [], none⟩
 .leaf .leaf))) (.node 54 ⟨(some (false, 1)), none, none, false, false, true, none, (some (.one (.b (.s .nilFunc)))), none, none, [], none⟩
 (.node 52 ⟨(some (false, 1)), none, none, false, false, true, none, (some (.one (.b (.s .nilFunc)))), none, none, [], none⟩
 (.node 51 ⟨(some (true, 2)), none, none, false, false, true, none, (some (.agg [.b (.s (.int .i64 0)), .b (.s (.int .i64 0))])), (some [.b (.s (.int .i64 0)), .b (.s (.int .i64 0))]), none, [((some 0), (some (false, 0, 1))), ((some 1), (some (false, 1, 1)))], (some [.i .i64, .i .i64])⟩
 (.node 50 ⟨(some (true, 2)), none, none, false, false, true, none, (some (.agg [.b (.s (.int .i64 0)), .b (.s (.int .i64 0))])), (some [.b (.s (.int .i64 0)), .b (.s (.int .i64 0))]), none, [((some 0), (some (false, 0, 1))), ((some 1), (some (false, 1, 1)))], (some [.i .i64, .i .i64])⟩
 .leaf .leaf) .leaf) (.node 53 ⟨(some (false, 1)), none, none, false, false, true, none, (some (.one (.b (.s .nilFunc)))), none, none, [], none⟩
 .leaf .leaf)) (.node 57 ⟨(some (true, 6)), none, none, false, false, true, none, (some (.agg [.b (.s (.int .i64 0)), .nil, .nil, .nil, .nil, .nil])), (some [.b (.s (.int .i64 0)), .nil, .nil, .nil, .nil, .nil]), none, [((some 0), (some (false, 0, 1))), ((some 1), (some (true, 1, 5)))], none⟩
 (.node 56 ⟨(some (false, 1)), none, none, false, false, true, none, (some (.one (.b (.s .nilFunc)))), none, none, [], none⟩
 (.node 55 ⟨(some (false, 1)), none, none, false, false, true, none, (some (.one (.b (.s .nilFunc)))), none, none, [], none⟩
 .leaf .leaf) .leaf) (.node 58 ⟨(some (true, 6)), none, none, false, false, true, none, (some (.agg [.b (.s (.int .i64 0)), .nil, .nil, .nil, .nil, .nil])), (some [.b (.s (.int .i64 0)), .nil, .nil, .nil, .nil, .nil]), none, [((some 0), (some (false, 0, 1))), ((some 1), (some (true, 1, 5)))], none⟩
 .leaf .leaf)))) (.node 73 ⟨(some (false, 1)), (some 1), (some (1, 8)), false, false, true, none, (some (.one (.nil))), none, (some [.s (.int .i64 0)]), [], none⟩
 (.node 67 ⟨(some (false, 1)), none, none, false, false, true, none, (some (.one (.b (.s .nilFunc)))), none, none, [], none⟩
 (.node 63 ⟨(some (false, 1)), none, none, false, false, true, none, (some (.one (.b (.s .nilFunc)))), none, none, [], none⟩
 (.node 61 ⟨(some (false, 1)), none, none, false, false, true, none, (some (.one (.b (.s .nilFunc)))), none, none, [], none⟩
 (.node 60 ⟨(some (false, 1)), none, none, false, false, true, none, (some (.one (.b (.s .nilFunc)))), none, none, [], none⟩
 .leaf .leaf) .leaf) (.node 65 ⟨(some (false, 1)), none, none, false, false, true, none, (some (.one (.b (.s .nilFunc)))), none, none, [], none⟩
 .leaf .leaf)) (.node 71 ⟨(some (false, 1)), (some 3), (some (3, 24)), false, false, true, none, (some (.one (.nil))), none, (some [.s (.int .i64 0), .s (.int .i64 0), .s (.int .i64 0)]), [], none⟩
 (.node 70 ⟨(some (false, 1)), none, none, false, false, true, none, (some (.one (.b (.s .nilFunc)))), none, none, [], none⟩
 (.node 69 ⟨(some (false, 1)), none, none, false, false, true, none, (some (.one (.b (.s .nilFunc)))), none, none, [], none⟩
 .leaf .leaf) .leaf) (.node 72 ⟨(some (false, 1)), (some 2), (some (2, 16)), false, false, true, none, (some (.one (.nil))), none, (some [.s (.int .i64 0), .s (.int .i64 0)]), [], none⟩
 .leaf .leaf))) (.node 78 ⟨(some (false, 1)), none, none, false, false, true, none, (some (.one (.b (.s .nilFunc)))), none, none, [], none⟩
 (.node 76 ⟨(some (false, 1)), none, none, false, false, true, none, (some (.one (.b (.s .nilFunc)))), none, none, [], none⟩
 (.node 75 ⟨(some (true, 6)), none, none, false, false, true, none, (some (.agg [.b (.s (.int .i64 0)), .nil, .nil, .nil, .nil, .nil])), (some [.b (.s (.int .i64 0)), .nil, .nil, .nil, .nil, .nil]), none, [((some 0), (some (false, 0, 1))), ((some 1), (some (false, 1, 1))), ((some 2), (some (false, 2, 1))), ((some 3), (some (false, 3, 1))), ((some 4), (some (false, 4, 1))), ((some 5), (some (false, 5, 1)))], none⟩
 (.node 74 ⟨(some (true, 6)), none, none, false, false, true, none, (some (.agg [.b (.s (.int .i64 0)), .nil, .nil, .nil, .nil, .nil])), (some [.b (.s (.int .i64 0)), .nil, .nil, .nil, .nil, .nil]), none, [((some 0), (some (false, 0, 1))), ((some 1), (some (false, 1, 1))), ((some 2), (some (false, 2, 1))), ((some 3), (some (false, 3, 1))), ((some 4), (some (false, 4, 1))), ((some 5), (some (false, 5, 1)))], none⟩
 .leaf .leaf) .leaf) (.node 77 ⟨(some (false, 1)), (some 4), (some (4, 32)), false, false, true, none, (some (.one (.nil))), none, (some [.s (.int .i64 0), .s (.int .i64 0), .s (.int .i64 0), .s (.int .i64 0)]), [], none⟩
 .leaf .leaf)) (.node 81 ⟨(some (false, 1)), none, none, false, false, true, none, (some (.one (.b (.s .nilFunc)))), none, none, [], none⟩
 (.node 80 ⟨(some (true, 2)), none, none, false, false, true, none, (some (.agg [.b (.s (.int .i64 0)), .nil])), (some [.b (.s (.int .i64 0)), .nil]), none, [((some 0), (some (false, 0, 1))), ((some 1), (some (false, 1, 1)))], none⟩
 .leaf .leaf) (.node 82 ⟨(some (false, 1)), none, none, false, false, true, none, (some (.one (.b (.s (.pointer none))))), none, none, [], none⟩
 .leaf .leaf)))))) (.node 179 ⟨(some (false, 1)), none, none, false, false, true, none, (some (.one (.b (.s .nilFunc)))), none, none, [], none⟩
 (.node 135 ⟨(some (false, 1)), (some 4), (some (4, 32)), false, false, true, none, (some (.one (.nil))), none, (some [.s (.int .i64 0), .s (.int .i64 0), .s (.int .i64 0), .s (.int .i64 0)]), [], none⟩
 (.node 100 ⟨(some (false, 1)), none, none, false, false, true, none, (some (.one (.b (.s .nilFunc)))), none, none, [], none⟩
 (.node 93 ⟨(some (true, 2)), none, none, false, false, true, none, (some (.agg [.b (.s (.int .i64 0)), .b (.s (.int .i64 0))])), none, none, [], none⟩
 (.node 91 ⟨(some (true, 3)), none, none, false, false, true, none, (some (.agg [.b (.s (.int .i64 0)), .b (.s (.int .i64 0)), .b (.s (.int .i64 0))])), (some [.b (.s (.int .i64 0)), .b (.s (.int .i64 0)), .b (.s (.int .i64 0))]), none, [((some 0), (some (false, 0, 1))), ((some 1), (some (false, 1, 1))), ((some 2), (some (false, 2, 1)))], (some [.i .i64, .i .i64, .i .i64])⟩
 (.node 90 ⟨(some (false, 1)), none, none, false, false, true, none, (some (.one (.b (.s .nilFunc)))), none, none, [], none⟩
 (.node 89 ⟨(some (false, 1)), none, none, false, false, true, none, (some (.one (.b (.s (.map none))))), none, none, [], none⟩
 .leaf .leaf) .leaf) (.node 92 ⟨(some (true, 3)), none, none, false, false, true, none, (some (.agg [.b (.s (.int .i64 0)), .b (.s (.int .i64 0)), .b (.s (.int .i64 0))])), (some [.b (.s (.int .i64 0)), .b (.s (.int .i64 0)), .b (.s (.int .i64 0))]), none, [((some 0), (some (false, 0, 1))), ((some 1), (some (false, 1, 1))), ((some 2), (some (false, 2, 1)))], (some [.i .i64, .i .i64, .i .i64])⟩
 .leaf .leaf)) (.node 97 ⟨(some (false, 1)), none, none, false, false, true, none, (some (.one (.b (.s .nilFunc)))), none, none, [], none⟩
 (.node 96 ⟨(some (false, 1)), none, none, false, false, true, none, (some (.one (.b (.s .nilFunc)))), none, none, [], none⟩
 (.node 94 ⟨(some (false, 1)), none, none, false, false, true, none, (some (.one (.b (.s .nilFunc)))), none, none, [], none⟩
 .leaf .leaf) .leaf) (.node 98 ⟨(some (false, 1)), none, none, false, false, true, none, (some (.one (.b (.s .nilFunc)))), none, none, [], none⟩
 .leaf .leaf))) (.node 119 ⟨(some (true, 9)), none, none, false, false, true, none, (some (.agg [.b (.s (.int .i64 0)), .b (.s (.int .i64 0)), .b (.s (.int .i64 0)), .b (.s (.int .i64 0)), .b (.s (.int .i64 0)), .b (.s (.int .i64 0)), .b (.s (.int .i64 0)), .b (.s (.int .i64 0)), .b (.s (.int .i64 0))])), (some [.b (.s (.int .i64 0)), .b (.s (.int .i64 0)), .b (.s (.int .i64 0)), .b (.s (.int .i64 0)), .b (.s (.int .i64 0)), .b (.s (.int .i64 0)), .b (.s (.int .i64 0)), .b (.s (.int .i64 0)), .b (.s (.int .i64 0))]), none, [((some 0), (some (false, 0, 1))), ((some 1), (some (false, 1, 1))), ((some 2), (some (false, 2, 1))), ((some 3), (some (false, 3, 1))), ((some 4), (some (false, 4, 1))), ((some 5), (some (false, 5, 1))), ((some 6), (some (false, 6, 1))), ((some 7), (some (true, 7, 2)))], (some [.i .i64, .i .i64, .i .i64, .i .i64, .i .i64, .i .i64, .i .i64, .i .i64, .i .i64])⟩
 (.node 112 ⟨(some (false, 1)), none, none, false, false, true, none, (some (.one (.b (.s .nilFunc)))), none, none, [], none⟩
 (.node 108 ⟨(some (false, 1)), none, none, false, false, true, none, (some (.one (.b (.s .nilFunc)))), none, none, [], none⟩
 (.node 105 ⟨(some (false, 1)), (some 6), (some (6, 64)), false, false, true, none, (some (.one (.nil))), none, (some [.s (.int .i64 0), .s (.int .i64 0), .s (.int .i64 0), .s (.int .i64 0), .s (.int .i64 0), .l []]), [], none⟩
 .leaf .leaf) .leaf) (.node 118 ⟨(some (true, 2)), none, none, false, false, true, none, (some (.agg [.b (.s (.int .i64 0)), .b (.s (.int .i64 0))])), (some [.b (.s (.int .i64 0)), .b (.s (.int .i64 0))]), none, [((some 0), (some (false, 0, 1))), ((some 1), (some (false, 1, 1)))], (some [.i .i64, .i .i64])⟩
 .leaf .leaf)) (.node 133 ⟨(some (false, 1)), (some 3), (some (3, 24)), false, false, true, none, (some (.one (.nil))), none, (some [.s (.int .i64 0), .s (.int .i64 0), .s (.int .i64 0)]), [], none⟩
 (.node 124 ⟨(some (false, 1)), none, none, false, false, true, none, (some (.one (.b (.s .nilFunc)))), none, none, [], none⟩
 (.node 120 ⟨(some (true, 9)), none, none, false, false, true, none, (some (.agg [.b (.s (.int .i64 0)), .b (.s (.int .i64 0)), .b (.s (.int .i64 0)), .b (.s (.int .i64 0)), .b (.s (.int .i64 0)), .b (.s (.int .i64 0)), .b (.s (.int .i64 0)), .b (.s (.int .i64 0)), .b (.s (.int .i64 0))])), (some [.b (.s (.int .i64 0)), .b (.s (.int .i64 0)), .b (.s (.int .i64 0)), .b (.s (.int .i64 0)), .b (.s (.int .i64 0)), .b (.s (.int .i64 0)), .b (.s (.int .i64 0)), .b (.s (.int .i64 0)), .b (.s (.int .i64 0))]), none, [((some 0), (some (false, 0, 1))), ((some 1), (some (false, 1, 1))), ((some 2), (some (false, 2, 1))), ((some 3), (some (false, 3, 1))), ((some 4), (some (false, 4, 1))), ((some 5), (some (false, 5, 1))), ((some 6), (some (false, 6, 1))), ((some 7), (some (true, 7, 2)))], (some [.i .i64, .i .i64, .i .i64, .i .i64, .i .i64, .i .i64, .i .i64, .i .i64, .i .i64])⟩
 .leaf .leaf) .leaf) (.node 134 ⟨(some (false, 1)), none, none, false, false, true, none, (some (.one (.b (.s .nilFunc)))), none, none, [], none⟩
 .leaf .leaf)))) (.node 161 ⟨(some (true, 1)), none, none, false, false, true, none, (some (.agg [.nil])), (some [.nil]), none, [((some 0), (some (false, 0, 1)))], none⟩
 (.node 145 ⟨(some (true, 1)), none, none, false, false, true, none, (some (.agg [.nil])), (some [.nil]), none, [((some 0), (some (false, 0, 1)))], none⟩
 (.node 141 ⟨(some (true, 6)), none, none, false, false, true, none, (some (.agg [.b (.s (.int .i64 0)), .nil, .nil, .nil, .nil, .nil])), (some [.b (.s (.int .i64 0)), .nil, .nil, .nil, .nil, .nil]), none, [((some 0), (some (false, 0, 1))), ((some 1), (some (false, 1, 1))), ((some 2), (some (false, 2, 1))), ((some 3), (some (false, 3, 1))), ((some 4), (some (false, 4, 1))), ((some 5), (some (false, 5, 1)))], none⟩
 (.node 139 ⟨(some (false, 1)), (some 2), (some (2, 16)), false, false, true, none, (some (.one (.nil))), none, (some [.s (.int .i64 0), .s (.int .i64 0)]), [], none⟩
 (.node 137 ⟨(some (true, 2)), none, none, false, false, true, none, (some (.agg [.b (.s (.int .i64 0)), .nil])), (some [.b (.s (.int .i64 0)), .nil]), none, [((some 0), (some (false, 0, 1))), ((some 1), (some (false, 1, 1)))], none⟩
 .leaf .leaf) .leaf) (.node 143 ⟨(some (false, 1)), (some 6), (some (6, 64)), false, false, true, none, (some (.one (.nil))), none, (some [.s (.int .i64 0), .s (.int .i64 0), .s (.int .i64 0), .s (.int .i64 0), .s (.int .i64 0), .l []]), [], none⟩
 .leaf .leaf)) (.node 150 ⟨(some (true, 3)), none, none, false, false, true, none, (some (.agg [.b (.s (.int .i64 0)), .nil, .nil])), (some [.b (.s (.int .i64 0)), .nil, .nil]), none, [((some 0), (some (false, 0, 1))), ((some 1), (some (false, 1, 1))), ((some 2), (some (false, 2, 1)))], none⟩
 (.node 148 ⟨(some (false, 1)), (some 5), (some (5, 40)), false, false, true, none, (some (.one (.nil))), none, (some [.s (.int .i64 0), .s (.int .i64 0), .s (.int .i64 0), .s (.int .i64 0), .s (.int .i64 0)]), [], none⟩
 (.node 147 ⟨(some (false, 1)), (some 6), (some (6, 80)), false, false, true, none, (some (.one (.nil))), none, (some [.s (.int .i64 0), .s (.int .i64 0), .s (.int .i64 0), .s (.int .i64 0), .l [], .l []]), [], none⟩
 .leaf .leaf) .leaf) (.node 155 ⟨(some (true, 4)), none, none, false, false, true, none, (some (.agg [.b (.s (.int .i64 0)), .b (.s (.int .i64 0)), .b (.s (.int .i64 0)), .b (.s (.int .i64 0))])), (some [.b (.s (.int .i64 0)), .b (.s (.int .i64 0)), .b (.s (.int .i64 0)), .b (.s (.int .i64 0))]), none, [((some 0), (some (false, 0, 1))), ((some 1), (some (false, 1, 1))), ((some 2), (some (false, 2, 1))), ((some 3), (some (false, 3, 1)))], (some [.i .i64, .i .i64, .i .i64, .i .i64])⟩
 .leaf .leaf))) (.node 169 ⟨(some (true, 2)), none, none, false, false, true, none, (some (.agg [.b (.s (.int .i64 0)), .b (.s (.int .i64 0))])), (some [.b (.s (.int .i64 0)), .b (.s (.int .i64 0))]), none, [((some 0), (some (false, 0, 1))), ((some 1), (some (false, 1, 1)))], (some [.i .i64, .i .i64])⟩
 (.node 166 ⟨(some (true, 3)), none, none, false, false, true, none, (some (.agg [.b (.s (.int .i64 0)), .nil, .nil])), (some [.b (.s (.int .i64 0)), .nil, .nil]), none, [((some 0), (some (false, 0, 1))), ((some 1), (some (false, 1, 1))), ((some 2), (some (false, 2, 1)))], none⟩
 (.node 164 ⟨(some (false, 1)), (some 5), (some (5, 40)), false, false, true, none, (some (.one (.nil))), none, (some [.s (.int .i64 0), .s (.int .i64 0), .s (.int .i64 0), .s (.int .i64 0), .s (.int .i64 0)]), [], none⟩
 (.node 163 ⟨(some (false, 1)), (some 6), (some (6, 80)), false, false, true, none, (some (.one (.nil))), none, (some [.s (.int .i64 0), .s (.int .i64 0), .s (.int .i64 0), .s (.int .i64 0), .l [], .l []]), [], none⟩
 .leaf .leaf) .leaf) (.node 168 ⟨(some (false, 1)), none, none, false, false, true, none, (some (.one (.b (.s .nilFunc)))), none, none, [], none⟩
 .leaf .leaf)) (.node 177 ⟨(some (false, 1)), none, none, false, false, true, none, (some (.one (.b (.s .nilFunc)))), none, none, [], none⟩
 (.node 171 ⟨(some (true, 9)), none, none, false, false, true, none, (some (.agg [.b (.s (.int .i64 0)), .b (.s (.int .i64 0)), .b (.s (.int .i64 0)), .b (.s (.int .i64 0)), .b (.s (.int .i64 0)), .b (.s (.int .i64 0)), .b (.s (.int .i64 0)), .b (.s (.int .i64 0)), .b (.s (.int .i64 0))])), (some [.b (.s (.int .i64 0)), .b (.s (.int .i64 0)), .b (.s (.int .i64 0)), .b (.s (.int .i64 0)), .b (.s (.int .i64 0)), .b (.s (.int .i64 0)), .b (.s (.int .i64 0)), .b (.s (.int .i64 0)), .b (.s (.int .i64 0))]), none, [((some 0), (some (false, 0, 1))), ((some 1), (some (false, 1, 1))), ((some 2), (some (false, 2, 1))), ((some 3), (some (false, 3, 1))), ((some 4), (some (false, 4, 1))), ((some 5), (some (false, 5, 1))), ((some 6), (some (false, 6, 1))), ((some 7), (some (true, 7, 2)))], (some [.i .i64, .i .i64, .i .i64, .i .i64, .i .i64, .i .i64, .i .i64, .i .i64, .i .i64])⟩
 .leaf .leaf) (.node 178 ⟨(some (false, 1)), none, none, false, false, true, none, (some (.one (.b (.s .nilFunc)))), none, none, [], none⟩
 .leaf .leaf))))) (.node 299 ⟨(some (true, 2)), none, none, false, false, true, none, (some (.agg [.b (.s (.int .i64 0)), .b (.s (.int .i64 0))])), (some [.b (.s (.int .i64 0)), .b (.s (.int .i64 0))]), none, [((some 0), (some (false, 0, 1))), ((some 1), (some (false, 1, 1)))], (some [.i .i64, .i .i64])⟩
 (.node 248 ⟨(some (false, 1)), none, none, false, false, true, none, (some (.one (.b (.s .nilFunc)))), none, none, [], none⟩
 (.node 200 ⟨(some (true, 6)), none, none, false, false, true, none, (some (.agg [.b (.s (.int .i64 0)), .b (.s (.int .i64 0)), .b (.s (.int .i64 0)), .b (.s (.int .i64 0)), .b (.s (.int .i64 0)), .nil])), (some [.b (.s (.int .i64 0)), .b (.s (.int .i64 0)), .b (.s (.int .i64 0)), .b (.s (.int .i64 0)), .b (.s (.int .i64 0)), .nil]), none, [((some 0), (some (false, 0, 1))), ((some 1), (some (false, 1, 1))), ((some 2), (some (false, 2, 1))), ((some 3), (some (true, 3, 2))), ((some 5), (some (false, 5, 1)))], none⟩
 (.node 193 ⟨(some (true, 3)), none, none, false, false, true, none, (some (.agg [.b (.s (.int .i64 0)), .b (.s (.int .i64 0)), .b (.s (.int .i64 0))])), (some [.b (.s (.int .i64 0)), .b (.s (.int .i64 0)), .b (.s (.int .i64 0))]), none, [((some 0), (some (false, 0, 1))), ((some 1), (some (true, 1, 2)))], (some [.i .i64, .i .i64, .i .i64])⟩
 (.node 191 ⟨(some (false, 1)), none, none, false, false, true, none, (some (.one (.b (.s .nilFunc)))), none, none, [], none⟩
 (.node 182 ⟨(some (false, 1)), none, none, false, false, true, none, (some (.one (.b (.s .nilFunc)))), none, none, [], none⟩
 .leaf .leaf) .leaf) (.node 197 ⟨(some (false, 1)), (some 2), (some (2, 16)), false, false, true, none, (some (.one (.nil))), none, (some [.s (.int .i64 0), .s (.int .i64 0)]), [], none⟩
 .leaf .leaf)) (.node 237 ⟨(some (false, 1)), none, none, false, false, true, none, (some (.one (.b (.s .nilFunc)))), none, none, [], none⟩
 (.node 233 ⟨(some (true, 5)), none, none, false, false, true, none, (some (.agg [.b (.s (.int .i64 0)), .b (.s (.int .i64 0)), .b (.s (.int .i64 0)), .b (.s (.int .i64 0)), .b (.s (.int .i64 0))])), (some [.b (.s (.int .i64 0)), .b (.s (.int .i64 0)), .b (.s (.int .i64 0)), .b (.s (.int .i64 0)), .b (.s (.int .i64 0))]), none, [((some 0), (some (false, 0, 1))), ((some 1), (some (false, 1, 1))), ((some 2), (some (false, 2, 1))), ((some 3), (some (false, 3, 1))), ((some 4), (some (false, 4, 1)))], (some [.i .i64, .i .i64, .i .i64, .i .i64, .i .i64])⟩
 (.node 203 ⟨(some (true, 2)), none, none, false, false, true, none, (some (.agg [.b (.s (.int .i64 0)), .b (.s (.int .i64 0))])), (some [.b (.s (.int .i64 0)), .b (.s (.int .i64 0))]), none, [((some 0), (some (false, 0, 1))), ((some 1), (some (false, 1, 1)))], (some [.i .i64, .i .i64])⟩
 .leaf .leaf) .leaf) (.node 241 ⟨(some (true, 3)), none, none, false, false, true, none, (some (.agg [.b (.s (.int .i64 0)), .b (.s (.int .i64 0)), .b (.s (.int .i64 0))])), (some [.b (.s (.int .i64 0)), .b (.s (.int .i64 0)), .b (.s (.int .i64 0))]), none, [((some 0), (some (false, 0, 1))), ((some 1), (some (false, 1, 1))), ((some 2), (some (false, 2, 1)))], (some [.i .i64, .i .i64, .i .i64])⟩
 .leaf .leaf))) (.node 280 ⟨(some (true, 6)), none, none, false, false, true, none, (some (.agg [.b (.s (.int .i64 0)), .b (.s (.int .i64 0)), .b (.s (.int .i64 0)), .b (.s (.int .i64 0)), .nil, .nil])), (some [.b (.s (.int .i64 0)), .b (.s (.int .i64 0)), .b (.s (.int .i64 0)), .b (.s (.int .i64 0)), .nil, .nil]), none, [((some 0), (some (false, 0, 1))), ((some 1), (some (false, 1, 1))), ((some 2), (some (false, 2, 1))), ((some 3), (some (false, 3, 1))), ((some 4), (some (false, 4, 1))), ((some 5), (some (false, 5, 1)))], none⟩
 (.node 270 ⟨(some (true, 9)), none, none, false, false, true, none, (some (.agg [.b (.s (.int .i64 0)), .b (.s (.int .i64 0)), .b (.s (.int .i64 0)), .b (.s (.int .i64 0)), .b (.s (.int .i64 0)), .b (.s (.int .i64 0)), .b (.s (.int .i64 0)), .b (.s (.int .i64 0)), .nil])), (some [.b (.s (.int .i64 0)), .b (.s (.int .i64 0)), .b (.s (.int .i64 0)), .b (.s (.int .i64 0)), .b (.s (.int .i64 0)), .b (.s (.int .i64 0)), .b (.s (.int .i64 0)), .b (.s (.int .i64 0)), .nil]), none, [((some 0), (some (false, 0, 1))), ((some 1), (some (true, 1, 2))), ((some 3), (some (true, 3, 6)))], none⟩
 (.node 256 ⟨(some (false, 1)), none, none, false, false, true, none, (some (.one (.b (.s .nilFunc)))), none, none, [], none⟩
 (.node 251 ⟨(some (false, 1)), none, none, false, false, true, none, (some (.one (.b (.s .nilFunc)))), none, none, [], none⟩
 .leaf .leaf) .leaf) (.node 274 ⟨(some (false, 1)), none, none, false, false, true, (some .u64), (some (.one (.b (.s (.int .u64 0))))), none, none, [], none⟩
 .leaf .leaf)) (.node 290 ⟨(some (true, 6)), none, none, false, false, true, none, (some (.agg [.b (.s (.int .i64 0)), .b (.s (.int .i64 0)), .b (.s (.int .i64 0)), .b (.s (.int .i64 0)), .nil, .nil])), (some [.b (.s (.int .i64 0)), .b (.s (.int .i64 0)), .b (.s (.int .i64 0)), .b (.s (.int .i64 0)), .nil, .nil]), none, [((some 0), (some (false, 0, 1))), ((some 1), (some (false, 1, 1))), ((some 2), (some (false, 2, 1))), ((some 3), (some (false, 3, 1))), ((some 4), (some (false, 4, 1))), ((some 5), (some (false, 5, 1)))], none⟩
 (.node 287 ⟨(some (true, 6)), none, none, false, false, true, none, (some (.agg [.b (.s (.int .i64 0)), .b (.s (.int .i64 0)), .b (.s (.int .i64 0)), .b (.s (.int .i64 0)), .b (.s (.int .i64 0)), .nil])), (some [.b (.s (.int .i64 0)), .b (.s (.int .i64 0)), .b (.s (.int .i64 0)), .b (.s (.int .i64 0)), .b (.s (.int .i64 0)), .nil]), none, [((some 0), (some (false, 0, 1))), ((some 1), (some (false, 1, 1))), ((some 2), (some (false, 2, 1))), ((some 3), (some (true, 3, 2))), ((some 5), (some (false, 5, 1)))], none⟩
 (.node 285 ⟨(some (false, 1)), (some 2), (some (2, 16)), false, false, true, none, (some (.one (.nil))), none, (some [.s (.int .i64 0), .s (.int .i64 0)]), [], none⟩
 .leaf .leaf) .leaf) (.node 297 ⟨(some (true, 4)), none, none, false, false, true, none, (some (.agg [.b (.s (.int .i64 0)), .b (.s (.int .i64 0)), .b (.s (.int .i64 0)), .b (.s (.int .i64 0))])), (some [.b (.s (.int .i64 0)), .b (.s (.int .i64 0)), .b (.s (.int .i64 0)), .b (.s (.int .i64 0))]), none, [((some 0), (some (false, 0, 1))), ((some 1), (some (false, 1, 1))), ((some 2), (some (false, 2, 1))), ((some 3), (some (false, 3, 1)))], (some [.i .i64, .i .i64, .i .i64, .i .i64])⟩
 .leaf .leaf)))) (.node 340 ⟨(some (false, 1)), none, none, false, false, true, (some .u64), (some (.one (.b (.s (.int .u64 0))))), none, none, [], none⟩
 (.node 312 ⟨(some (false, 1)), none, none, false, false, true, none, (some (.one (.b (.s .nilFunc)))), none, none, [], none⟩
 (.node 305 ⟨(some (false, 1)), none, none, false, false, true, none, (some (.one (.b (.s (.map none))))), none, none, [], none⟩
 (.node 303 ⟨(some (true, 5)), none, none, false, false, true, none, (some (.agg [.b (.s (.int .i64 0)), .b (.s (.int .i64 0)), .b (.s (.int .i64 0)), .b (.s (.int .i64 0)), .b (.s (.int .i64 0))])), (some [.b (.s (.int .i64 0)), .b (.s (.int .i64 0)), .b (.s (.int .i64 0)), .b (.s (.int .i64 0)), .b (.s (.int .i64 0))]), none, [((some 0), (some (false, 0, 1))), ((some 1), (some (false, 1, 1))), ((some 2), (some (false, 2, 1))), ((some 3), (some (false, 3, 1))), ((some 4), (some (false, 4, 1)))], (some [.i .i64, .i .i64, .i .i64, .i .i64, .i .i64])⟩
 (.node 300 ⟨(some (false, 1)), none, none, false, false, true, none, (some (.one (.b (.s .nilFunc)))), none, none, [], none⟩
 .leaf .leaf) .leaf) (.node 308 ⟨(some (false, 1)), none, none, false, false, true, none, (some (.one (.b (.s .nilFunc)))), none, none, [], none⟩
 .leaf .leaf)) (.node 331 ⟨(some (false, 1)), none, none, false, false, true, (some .i64), (some (.one (.b (.s (.int .i64 0))))), none, none, [], none⟩
 (.node 327 ⟨(some (false, 1)), none, none, false, false, true, none, (some (.one (.b (.s .nilFunc)))), none, none, [], none⟩
 (.node 323 ⟨(some (false, 1)), none, none, false, false, true, none, (some (.one (.b (.s (.map none))))), none, none, [], none⟩
 .leaf .leaf) .leaf) (.node 338 ⟨(some (false, 1)), none, none, false, false, true, (some .u32), (some (.one (.b (.s (.int .u32 0))))), none, none, [], none⟩
 .leaf .leaf))) (.node 370 ⟨(some (false, 1)), none, none, false, false, true, none, (some (.one (.b (.s (.pointer none))))), none, none, [], none⟩
 (.node 362 ⟨(some (false, 1)), (some 1), (some (1, 8)), false, false, true, none, (some (.one (.nil))), none, (some [.s (.int .i64 0)]), [], none⟩
 (.node 356 ⟨(some (false, 1)), none, none, false, false, true, none, (some (.one (.b (.s .nilFunc)))), none, none, [], none⟩
 (.node 343 ⟨(some (false, 1)), none, none, false, false, true, none, (some (.one (.b (.s .nilFunc)))), none, none, [], none⟩
 .leaf .leaf) .leaf) (.node 366 ⟨(some (false, 1)), none, none, false, false, true, (some .u64), (some (.one (.b (.s (.int .u64 0))))), none, none, [], none⟩
 .leaf .leaf)) (.node 383 ⟨(some (false, 1)), none, none, false, false, true, none, (some (.one (.b (.s (.pointer none))))), none, none, [], none⟩
 (.node 375 ⟨(some (false, 1)), none, none, false, false, true, none, (some (.one (.b (.s .nilFunc)))), none, none, [], none⟩
 .leaf .leaf) (.node 400 ⟨(some (false, 1)), none, none, false, false, true, (some .u8), (some (.one (.b (.s (.int .u8 0))))), none, none, [], none⟩
 .leaf .leaf)))))))
theorem yay : tab = tab.map Tryz.prog := by kernel_rfl
instance : qn Tryz.prog := ⟨tab, yay, by kernel_rfl⟩
end Go.Proofs.YtbnbjaedijbnpaaGreat
end
section
namespace Go.Proofs.YtbnbjaedijbnpaaGreat
open Go Go.Sx
set_option maxRecDepth 20000
abbrev yw : Sh := (.i .i64 (.i .i64 (.i .i64 (.i .i64 .nil))))
theorem q1v {N : Nat} {row : List Cell} (h : WT N yw row) : ∃ (x0 : Int) (x1 : Int) (x2 : Int) (x3 : Int), row = [.s (.int .i64 x0), .s (.int .i64 x1), .s (.int .i64 x2), .s (.int .i64 x3)] := by
 obtain ⟨x0, _, rfl, g0⟩ := h.yx
 obtain ⟨x1, _, rfl, g1⟩ := g0.yx
 obtain ⟨x2, _, rfl, g2⟩ := g1.yx
 obtain ⟨x3, _, rfl, g3⟩ := g2.yx
 obtain rfl := g3.zz
 exact ⟨x0, x1, x2, x3, rfl⟩
abbrev q7 : Sh := (.i .i64 (.l yw .nil))
theorem y04 {N : Nat} {row : List Cell} (h : WT N q7 row) : ∃ (x0 : Int) (x1 : List (List Cell)), row = [.s (.int .i64 x0), .l x1] ∧ WR N yw x1 := by
 obtain ⟨x0, _, rfl, g0⟩ := h.yx
 obtain ⟨x1, _, rfl, h1, g1⟩ := g0.q1d
 obtain rfl := g1.zz
 exact ⟨x0, x1, rfl, h1⟩
abbrev ze : Sh := (.i .i64 (.i .i64 (.i .i64 .nil)))
theorem q08 {N : Nat} {row : List Cell} (h : WT N ze row) : ∃ (x0 : Int) (x1 : Int) (x2 : Int), row = [.s (.int .i64 x0), .s (.int .i64 x1), .s (.int .i64 x2)] := by
 obtain ⟨x0, _, rfl, g0⟩ := h.yx
 obtain ⟨x1, _, rfl, g1⟩ := g0.yx
 obtain ⟨x2, _, rfl, g2⟩ := g1.yx
 obtain rfl := g2.zz
 exact ⟨x0, x1, x2, rfl⟩
abbrev zh : Sh := (.i .i64 (.i .i64 .nil))
theorem y15 {N : Nat} {row : List Cell} (h : WT N zh row) : ∃ (x0 : Int) (x1 : Int), row = [.s (.int .i64 x0), .s (.int .i64 x1)] := by
 obtain ⟨x0, _, rfl, g0⟩ := h.yx
 obtain ⟨x1, _, rfl, g1⟩ := g0.yx
 obtain rfl := g1.zz
 exact ⟨x0, x1, rfl⟩
abbrev zb : Sh := (.i .i64 (.l ze (.l zh (.l q7 (.l zh (.l (.i .i64 .nil) .nil))))))
theorem z0p {N : Nat} {row : List Cell} (h : WT N zb row) : ∃ (x0 : Int) (x1 : List (List Cell)) (x2 : List (List Cell)) (x3 : List (List Cell)) (x4 : List (List Cell)) (x5 : List (List Cell)), row = [.s (.int .i64 x0), .l x1, .l x2, .l x3, .l x4, .l x5] ∧ WR N ze x1 ∧ WR N zh x2 ∧ WR N q7 x3 ∧ WR N zh x4 ∧ WR N (.i .i64 .nil) x5 := by
 obtain ⟨x0, _, rfl, g0⟩ := h.yx
 obtain ⟨x1, _, rfl, h1, g1⟩ := g0.q1d
 obtain ⟨x2, _, rfl, h2, g2⟩ := g1.q1d
 obtain ⟨x3, _, rfl, h3, g3⟩ := g2.q1d
 obtain ⟨x4, _, rfl, h4, g4⟩ := g3.q1d
 obtain ⟨x5, _, rfl, h5, g5⟩ := g4.q1d
 obtain rfl := g5.zz
 exact ⟨x0, x1, x2, x3, x4, x5, rfl, h1, h2, h3, h4, h5⟩
abbrev yk : Sh := (.i .i64 (.i .i64 .nil))
theorem z16 {N : Nat} {row : List Cell} (h : WT N yk row) : ∃ (x0 : Int) (x1 : Int), row = [.s (.int .i64 x0), .s (.int .i64 x1)] := by
 obtain ⟨x0, _, rfl, g0⟩ := h.yx
 obtain ⟨x1, _, rfl, g1⟩ := g0.yx
 obtain rfl := g1.zz
 exact ⟨x0, x1, rfl⟩
abbrev qj : Sh := (.i .i64 (.i .i64 (.i .i64 (.i .i64 (.i .i64 (.l yk .nil))))))
theorem q15 {N : Nat} {row : List Cell} (h : WT N qj row) : ∃ (x0 : Int) (x1 : Int) (x2 : Int) (x3 : Int) (x4 : Int) (x5 : List (List Cell)), row = [.s (.int .i64 x0), .s (.int .i64 x1), .s (.int .i64 x2), .s (.int .i64 x3), .s (.int .i64 x4), .l x5] ∧ WR N yk x5 := by
 obtain ⟨x0, _, rfl, g0⟩ := h.yx
 obtain ⟨x1, _, rfl, g1⟩ := g0.yx
 obtain ⟨x2, _, rfl, g2⟩ := g1.yx
 obtain ⟨x3, _, rfl, g3⟩ := g2.yx
 obtain ⟨x4, _, rfl, g4⟩ := g3.yx
 obtain ⟨x5, _, rfl, h5, g5⟩ := g4.q1d
 obtain rfl := g5.zz
 exact ⟨x0, x1, x2, x3, x4, x5, rfl, h5⟩
abbrev z8 : Sh := (.l qj .nil)
theorem q03 {N : Nat} {row : List Cell} (h : WT N z8 row) : ∃ (x0 : List (List Cell)), row = [.l x0] ∧ WR N qj x0 := by
 obtain ⟨x0, _, rfl, h0, g0⟩ := h.q1d
 obtain rfl := g0.zz
 exact ⟨x0, rfl, h0⟩
abbrev zp : Sh := (.i .i64 (.i .i64 (.i .i64 (.i .i64 (.l (.i .i64 .nil) (.l yk .nil))))))
theorem z1w {N : Nat} {row : List Cell} (h : WT N zp row) : ∃ (x0 : Int) (x1 : Int) (x2 : Int) (x3 : Int) (x4 : List (List Cell)) (x5 : List (List Cell)), row = [.s (.int .i64 x0), .s (.int .i64 x1), .s (.int .i64 x2), .s (.int .i64 x3), .l x4, .l x5] ∧ WR N (.i .i64 .nil) x4 ∧ WR N yk x5 := by
 obtain ⟨x0, _, rfl, g0⟩ := h.yx
 obtain ⟨x1, _, rfl, g1⟩ := g0.yx
 obtain ⟨x2, _, rfl, g2⟩ := g1.yx
 obtain ⟨x3, _, rfl, g3⟩ := g2.yx
 obtain ⟨x4, _, rfl, h4, g4⟩ := g3.q1d
 obtain ⟨x5, _, rfl, h5, g5⟩ := g4.q1d
 obtain rfl := g5.zz
 exact ⟨x0, x1, x2, x3, x4, x5, rfl, h4, h5⟩
abbrev zm : Sh := (.i .i64 (.i .i64 (.i .i64 (.i .i64 (.i .i64 .nil)))))
theorem q0o {N : Nat} {row : List Cell} (h : WT N zm row) : ∃ (x0 : Int) (x1 : Int) (x2 : Int) (x3 : Int) (x4 : Int), row = [.s (.int .i64 x0), .s (.int .i64 x1), .s (.int .i64 x2), .s (.int .i64 x3), .s (.int .i64 x4)] := by
 obtain ⟨x0, _, rfl, g0⟩ := h.yx
 obtain ⟨x1, _, rfl, g1⟩ := g0.yx
 obtain ⟨x2, _, rfl, g2⟩ := g1.yx
 obtain ⟨x3, _, rfl, g3⟩ := g2.yx
 obtain ⟨x4, _, rfl, g4⟩ := g3.yx
 obtain rfl := g4.zz
 exact ⟨x0, x1, x2, x3, x4, rfl⟩
abbrev qa : Sh := (.i .i64 (.l zp (.l zm .nil)))
theorem q0d {N : Nat} {row : List Cell} (h : WT N qa row) : ∃ (x0 : Int) (x1 : List (List Cell)) (x2 : List (List Cell)), row = [.s (.int .i64 x0), .l x1, .l x2] ∧ WR N zp x1 ∧ WR N zm x2 := by
 obtain ⟨x0, _, rfl, g0⟩ := h.yx
 obtain ⟨x1, _, rfl, h1, g1⟩ := g0.q1d
 obtain ⟨x2, _, rfl, h2, g2⟩ := g1.q1d
 obtain rfl := g2.zz
 exact ⟨x0, x1, x2, rfl, h1, h2⟩
abbrev yb : Sh := (.i .i64 (.i .i64 (.i .i64 (.i .i64 (.i .i64 (.i .i64 (.i .i64 (.i .i64 (.i .i64 .nil)))))))))
theorem z09 {N : Nat} {row : List Cell} (h : WT N yb row) : ∃ (x0 : Int) (x1 : Int) (x2 : Int) (x3 : Int) (x4 : Int) (x5 : Int) (x6 : Int) (x7 : Int) (x8 : Int), row = [.s (.int .i64 x0), .s (.int .i64 x1), .s (.int .i64 x2), .s (.int .i64 x3), .s (.int .i64 x4), .s (.int .i64 x5), .s (.int .i64 x6), .s (.int .i64 x7), .s (.int .i64 x8)] := by
 obtain ⟨x0, _, rfl, g0⟩ := h.yx
 obtain ⟨x1, _, rfl, g1⟩ := g0.yx
 obtain ⟨x2, _, rfl, g2⟩ := g1.yx
 obtain ⟨x3, _, rfl, g3⟩ := g2.yx
 obtain ⟨x4, _, rfl, g4⟩ := g3.yx
 obtain ⟨x5, _, rfl, g5⟩ := g4.yx
 obtain ⟨x6, _, rfl, g6⟩ := g5.yx
 obtain ⟨x7, _, rfl, g7⟩ := g6.yx
 obtain ⟨x8, _, rfl, g8⟩ := g7.yx
 obtain rfl := g8.zz
 exact ⟨x0, x1, x2, x3, x4, x5, x6, x7, x8, rfl⟩
abbrev yd : Sh := (.l q7 (.l zb (.l z8 (.l qa (.l yb .nil)))))
theorem z04 {N : Nat} {row : List Cell} (h : WT N yd row) : ∃ (x0 : List (List Cell)) (x1 : List (List Cell)) (x2 : List (List Cell)) (x3 : List (List Cell)) (x4 : List (List Cell)), row = [.l x0, .l x1, .l x2, .l x3, .l x4] ∧ WR N q7 x0 ∧ WR N zb x1 ∧ WR N z8 x2 ∧ WR N qa x3 ∧ WR N yb x4 := by
 obtain ⟨x0, _, rfl, h0, g0⟩ := h.q1d
 obtain ⟨x1, _, rfl, h1, g1⟩ := g0.q1d
 obtain ⟨x2, _, rfl, h2, g2⟩ := g1.q1d
 obtain ⟨x3, _, rfl, h3, g3⟩ := g2.q1d
 obtain ⟨x4, _, rfl, h4, g4⟩ := g3.q1d
 obtain rfl := g4.zz
 exact ⟨x0, x1, x2, x3, x4, rfl, h0, h1, h2, h3, h4⟩
end Go.Proofs.YtbnbjaedijbnpaaGreat
end
section
namespace Go.Proofs.YtbnbjaedijbnpaaGreat
open Go Go.Sx
set_option maxRecDepth 20000
set_option maxHeartbeats 4000000
open Go.Proofs Go.Shelf Go.RowKit Go.Lib
def qc0 : Ren := ⟨fun n => bif Nat.beq n 53 then 143 else bif Nat.beq n 59 then 315 else bif Nat.beq n 63 then 231 else bif Nat.beq n 64 then 232 else bif Nat.beq n 68 then 351 else bif Nat.beq n 70 then 309 else bif Nat.beq n 71 then 310 else bif Nat.beq n 72 then 311 else bif Nat.beq n 73 then 312 else bif Nat.beq n 74 then 313 else bif Nat.beq n 75 then 314 else bif Nat.beq n 76 then 316 else bif Nat.beq n 77 then 317 else bif Nat.beq n 78 then 318 else bif Nat.beq n 79 then 319 else bif Nat.beq n 88 then 355 else bif Nat.beq n 89 then 356 else bif Nat.beq n 90 then 357 else bif Nat.beq n 91 then 358 else bif Nat.beq n 92 then 359 else bif Nat.beq n 96 then 380 else 0, fun t => bif Nat.beq t 3 then 3 else bif Nat.beq t 4 then 4 else bif Nat.beq t 5 then 5 else bif Nat.beq t 9 then 9 else bif Nat.beq t 22 then 73 else bif Nat.beq t 23 then 2 else bif Nat.beq t 44 then 276 else bif Nat.beq t 51 then 274 else bif Nat.beq t 60 then 331 else bif Nat.beq t 61 then 332 else bif Nat.beq t 67 then 338 else bif Nat.beq t 69 then 340 else bif Nat.beq t 75 then 366 else bif Nat.beq t 79 then 370 else bif Nat.beq t 83 then 383 else bif Nat.beq t 84 then 384 else 0, fun x => x⟩
theorem qa1 : SlLaysN.n53 Tryz.prog qc0 where
 mixed := by kernel_rfl
 f53 := ⟨ "slices.Sort[[]int64,int64]", by decide, by kernel_rfl⟩
 f59 := ⟨ "cmp.Less[int64]", by decide, by kernel_rfl⟩
 f63 := ⟨ "slices.pdqsortOrdered[int64]", by decide, by kernel_rfl⟩
 f64 := by kernel_rfl
 f68 := ⟨ "cmp.isNaN[int64]", by decide, by kernel_rfl⟩
 f70 := ⟨ "slices.insertionSortOrdered[int64]", by decide, by kernel_rfl⟩
 f71 := ⟨ "slices.heapSortOrdered[int64]", by decide, by kernel_rfl⟩
 f72 := ⟨ "slices.breakPatternsOrdered[int64]", by decide, by kernel_rfl⟩
 f73 := ⟨ "slices.choosePivotOrdered[int64]", by decide, by kernel_rfl⟩
 f74 := ⟨ "slices.reverseRangeOrdered[int64]", by decide, by kernel_rfl⟩
 f75 := ⟨ "slices.partialInsertionSortOrdered[int64]", by decide, by kernel_rfl⟩
 f76 := ⟨ "slices.partitionEqualOrdered[int64]", by decide, by kernel_rfl⟩
 f77 := ⟨ "slices.partitionOrdered[int64]", by decide, by kernel_rfl⟩
 f78 := by kernel_rfl
 f79 := by kernel_rfl
 f88 := ⟨ "slices.siftDownOrdered[int64]", by decide, by kernel_rfl⟩
 f89 := by kernel_rfl
 f90 := by kernel_rfl
 f91 := ⟨ "slices.medianAdjacentOrdered[int64]", by decide, by kernel_rfl⟩
 f92 := ⟨ "slices.medianOrdered[int64]", by decide, by kernel_rfl⟩
 f96 := ⟨ "slices.order2Ordered[int64]", by decide, by kernel_rfl⟩
 t0 := Tryz.underlying0
 a0 := Tryz.isAgg0
 z0 := Tryz.sizeOf0
 v0 := Tryz.zeroValue0
 t3 := Tryz.underlying3
 a3 := Tryz.isAgg3
 z3 := Tryz.sizeOf3
 v3 := Tryz.zeroValue3
 t4 := Tryz.underlying4
 a4 := Tryz.isAgg4
 z4 := Tryz.sizeOf4
 v4 := Tryz.zeroValue4
 t5 := Tryz.underlying5
 a5 := Tryz.isAgg5
 z5 := Tryz.sizeOf5
 v5 := Tryz.zeroValue5
 t9 := Tryz.underlying9
 a9 := Tryz.isAgg9
 z9 := Tryz.sizeOf9
 v9 := Tryz.zeroValue9
 t22 := Tryz.underlying73
 a22 := Tryz.isAgg73
 z22 := Tryz.sizeOf73
 v22 := Tryz.zeroValue73
 t23 := Tryz.underlying2
 a23 := Tryz.isAgg2
 z23 := Tryz.sizeOf2
 v23 := Tryz.zeroValue2
 t44 := Tryz.underlying276
 a44 := Tryz.isAgg276
 z44 := Tryz.sizeOf276
 v44 := Tryz.zeroValue276
 t51 := Tryz.underlying274
 a51 := Tryz.isAgg274
 z51 := Tryz.sizeOf274
 v51 := Tryz.zeroValue274
 t60 := Tryz.underlying331
 a60 := Tryz.isAgg331
 z60 := Tryz.sizeOf331
 v60 := Tryz.zeroValue331
 t61 := Tryz.underlying332
 a61 := Tryz.isAgg332
 z61 := Tryz.sizeOf332
 v61 := Tryz.zeroValue332
 t67 := Tryz.underlying338
 a67 := Tryz.isAgg338
 z67 := Tryz.sizeOf338
 v67 := Tryz.zeroValue338
 t69 := Tryz.underlying340
 a69 := Tryz.isAgg340
 z69 := Tryz.sizeOf340
 v69 := Tryz.zeroValue340
 t75 := Tryz.underlying366
 a75 := Tryz.isAgg366
 z75 := Tryz.sizeOf366
 v75 := Tryz.zeroValue366
 t79 := Tryz.underlying370
 a79 := Tryz.isAgg370
 z79 := Tryz.sizeOf370
 v79 := Tryz.zeroValue370
 t83 := Tryz.underlying383
 a83 := Tryz.isAgg383
 z83 := Tryz.sizeOf383
 v83 := Tryz.zeroValue383
 t84 := Tryz.underlying384
 a84 := Tryz.isAgg384
 z84 := Tryz.sizeOf384
 v84 := Tryz.zeroValue384
theorem zav {w : World} {S : Nat → Prop} {u v : Value} (h : Go.Sx.Own w S (.s v) u) : u = v := by cases h; rfl
theorem q87 {w : World} {N S : Nat → Prop} {us : List Int} {v : Value} (h : y0h w (CN w N true) S 1 (ints us) v) : (us = [] ∧ ∃ A, v = .slice A 0 0) ∨ ∃ e, w.ownsRow 0 e 1 v us.length (us.map (Value.int .i64)) ∧ ∀ g, v.ownBlock = some g → S g := by
 rcases h with ⟨hn, A, rfl⟩ | ⟨e, xs, u, F, h⟩
 · exact .inl ⟨by simpa [ints] using hn, A, rfl⟩
 · refine .inr ⟨e, ?_, h.hS⟩
   have ho := h.ho
   have hl : (ints us).length = us.length := by simp [ints]
   rw [hl] at ho
   have hxl : xs.length = us.length := by have := ho.1; omega
   have hx : xs = us.map (Value.int .i64) := by
    refine List.ext_getElem (by simp [hxl]) fun j h1 h2 => ?_
    have hj : j < us.length := by omega
    have h3 := h.hu j 0 (by omega) (by omega)
    have h4 := zav (h.hr j 0 [i64 us[j]] _ (by simp [ints, hj]) rfl)
    rw [Nat.mul_one, Nat.add_zero, h4] at h3
    rw [List.getElem?_eq_getElem h1] at h3
    simpa using h3
   rw [hx] at ho
   exact ho
theorem q8z {w : World} {S : Nat → Prop} {us : List Int} {v : Value} {e : TypeId} (h : w.ownsRow 0 e 1 v us.length (us.map (Value.int .i64))) (hS : ∀ g, v.ownBlock = some g → S g) : y0h w (Go.Sx.Own w) S 1 (ints us) v := by
 refine .inr ⟨e, us.map (Value.int .i64), fun j _ => .int .i64 (us[j]?.getD 0), fun _ _ _ => False, by simpa [ints] using h, hS, fun row hrow => ?_, fun _ _ _ h => h.elim, fun _ _ _ _ _ h => h.elim, fun j k hj hk => ?_, fun j k row c hj hk => ?_⟩
 · simp [ints] at hrow
   obtain ⟨_, _, rfl⟩ := hrow; rfl
 · have hj : j < us.length := by simpa [ints] using hj
   have : k = 0 := by omega
   subst this
   simp [hj]
 · have hjl : j < us.length := by have := (List.getElem?_eq_some_iff.1 hj).1; simpa [ints] using this
   have : row = [i64 us[j]] := by simp [ints, hjl] at hj; exact hj.symm
   subst this
   cases k with
   | succ k => simp at hk
   | zero =>
     cases hk
     simp only [hjl, getElem?_pos, Option.getD_some]
     exact .s _ _ rfl
theorem q93 (N : Nat → Prop) (S : Nat → Prop) (us : List Int) (w : World) (v0 : Value) (hu : us.length ≤ 1048576) (hS : ∀ x, S x → x < w.heap.size) (h0 : y0h w (CN w N true) S 1 (ints us) v0) :
 Calls Tryz.prog 143 #[v0] w fun e w' => e = .returned (.tuple #[]) ∧ qr w w' S ∧ ∃ R : Nat → Prop, y0h w' (Go.Sx.Own w') R 1 (ints (z1a us)) v0 ∧ ∀ x, R x → S x ∧ x < w'.heap.size := by
 have hm0 : z1a ([] : List Int) = [] := by simp [z1a]
 rcases q87 h0 with ⟨rfl, A, rfl⟩ | ⟨e, ho, hSo⟩
 · refine (AnyG.slices_Sort_int_none qa1 A 0 w).mono ?_
   rintro e w' ⟨rfl, rfl⟩
   rw [hm0]
   exact ⟨rfl, qr.refl _ _, fun _ => False, .inl ⟨rfl, A, rfl⟩, fun x hx => hx.elim⟩
 · by_cases hn : v0 = .slice none 0 0
   · have hl : us.length = 0 := by
      rcases ho.2 with ⟨_, h⟩ | ⟨g, cap, cur, h, _⟩
      · exact h
      · rw [hn] at h; cases h
     have : us = [] := List.eq_nil_of_length_eq_zero hl
     subst this
     subst hn
     refine (AnyG.slices_Sort_int_none qa1 none 0 w).mono ?_
     rintro e w' ⟨rfl, rfl⟩
     rw [hm0]
     exact ⟨rfl, qr.refl _ _, fun _ => False, .inl ⟨rfl, none, rfl⟩, fun x hx => hx.elim⟩
   · obtain ⟨g, cap, rfl, hb, hg, hc1, hc2, hzl, hH⟩ := holds_of_ownsRow ho hn
     refine (AnyG.slices_Sort_int qa1 g 0 cap us w hH hg (by omega)).mono ?_
     rintro e' w' ⟨rfl, q, os, rfl⟩
     have hml : (z1a us).length = us.length := (List.mergeSort_perm us _).length_eq
     have hgS := hSo g rfl
     have hp := ownsRow_putRow (q := q) (k := us.length) (ys := z1a us) ho hml (Nat.le_refl _)
     rw [List.take_of_length_le (by omega), ← hml] at hp
     have hsz : (Sort.putRow (Value.int .i64) (Sort.ahead w q) g 0 (z1a us).toArray).heap.size = w.heap.size := by simp [Sort.putRow, Sort.mapBlock, Sort.ahead]
     refine ⟨rfl, ⟨rfl, rfl, rfl, by rw [Sort.size_grow]; exact Nat.le_trans (Nat.le_of_eq hsz.symm) (Nat.le_add_right _ _), fun k hk hnk => ?_⟩, fun x => x = g, ?_, fun x hx => ?_⟩
     · rw [Sort.heap_grow_old _ _ (by rw [show (us.mergeSort fun x y => decide (x ≤ y)) = z1a us from rfl, hsz]; exact hk)]
       simp [Sort.putRow, Sort.mapBlock, Sort.ahead, Array.getElem?_modify, show g ≠ k from fun h => hnk (h ▸ hgS)]
     · rw [← hml]
       refine q8z (e := e) (z0m hp fun g' h => ?_) (fun g' h => by cases h; rfl)
       cases h
       exact Sort.heap_grow_old _ _ (by rw [show (us.mergeSort fun x y => decide (x ≤ y)) = z1a us from rfl, hsz]; exact hg)
     · subst hx
       exact ⟨hgS, by rw [Sort.size_grow]; exact Nat.lt_of_lt_of_le (by rw [show (us.mergeSort fun x y => decide (x ≤ y)) = z1a us from rfl, hsz]; exact hg) (Nat.le_add_right _ _)⟩
theorem y93 (us : List Int) (hu : us.length ≤ 1048576) : PG Tryz.prog 143 [.one (.giv true 1 (ints us))] (.tup []) [(0, ints (z1a us))] := by
 refine ⟨by kernel_rfl, fun N S w vals hS hSd hsh hc => ?_⟩
 obtain ⟨v0, rfl⟩ : ∃ v0, vals = #[v0] := by
  match vals, hsh with
  | ⟨[v0]⟩, _ => exact ⟨v0, rfl⟩
 obtain ⟨sz, hz, h0⟩ := hc 0 _ v0 rfl rfl
 obtain rfl := hz (by decide)
 refine (q93 N (S 0) us w v0 hu (fun x hx => (hS 0 x hx).1) h0).mono ?_
 rintro e w' ⟨rfl, hk, R, hsl, hv⟩
 refine ⟨_, fun _ => False, fun t x => t = 0 ∧ R x, rfl, hk.mono fun _ _ h => ⟨0, h⟩, ⟨#[], fun _ _ => False, rfl, rfl, fun _ _ h => h, fun _ _ _ h => h.elim, fun i rc u h => by simp at h⟩, fun x hx => hx.elim, fun t x hx => ⟨.inr ⟨0, (hv x hx.2).1⟩, (hv x hx.2).2⟩, fun t t' x h h' => by rw [h.1, h'.1], fun t rows' hb full sz rows u hg hu => ?_⟩
 cases t with
 | succ t => cases hb
 | zero =>
   cases hb
   cases hg
   cases hu
   refine ⟨by simp [z1a], fun i row row' h1 h2 => ?_, 1, fun _ => rfl, y0h.imp hsl (fun _ h => ⟨rfl, h⟩) (fun _ _ _ => rfl) (fun _ _ _ _ h => h)⟩
   simp [ints] at h1 h2
   obtain ⟨_, _, rfl⟩ := h1
   obtain ⟨_, _, rfl⟩ := h2
   rfl
end Go.Proofs.YtbnbjaedijbnpaaGreat
end
section
namespace Go.Proofs.YtbnbjaedijbnpaaGreat
open Go Go.Sx
set_option maxRecDepth 20000
set_option maxHeartbeats 4000000
open Go.RowKit Go.Maps Go.Shelf
theorem z76 {α : Type} (f : Nat → α) (k : Nat) : (List.range (k + 1)).map f = (List.range k).map f ++ [f k] := by simp [List.range_succ]
theorem y8e (zs : List Int) : (List.range zs.length).map (fun j => zs[j]?.getD 0) = zs := by
 apply List.ext_getElem
 · simp
 · intro i h1 h2
   simp [h2]
set_option maxRecDepth 100000 in
set_option maxHeartbeats 2000000 in
theorem y96 (F : Fence) (n : Nat) (h330 : F.fn 367) (hro : F.round = none) (hn : 1 ≤ n) (l n0 : Nat) (a b : Addr) (cap : Nat) (zs : List Int) (W0 : World) (J : List Int → World → Prop)
 (hJ : ∀ pre W, J pre W → Below n0 W0 W) (hB : a.block < n0) (hc : W0.cell? a = some (.slice (some b) zs.length cap)) (hz : zs.length ≤ 1048576)
 (hA : ∀ j, j < zs.length → b.block < n0 ∧ W0.cell? (b.add j) = some (.int .i64 (zs[j]?.getD 0)))
 (hY : ∀ pre x W, J pre W → pre.length < zs.length → YieldAt F (n - 1) Tryz.prog l #[.int .i64 x] W fun e W' => e = .returned (.bool true) ∧ J (pre ++ [x]) W')
 (W : World) (h0 : J [] W) :
 CallsIn F n Tryz.prog 367 #[.func (.yield l) #[] #[], .pointer (some a)] W fun e W' => (∃ v, e = .returned v) ∧ J zs W' := by
 refine callsIn_of_wp Tryz.func367 rfl h330 ?_ hro
 simp only [Tryz.ntmps367, List.size_toArray, List.length_cons, List.length_nil, Nat.reduceAdd, Nat.reduceSub, Array.replicate_succ, Array.replicate_zero, List.push_toArray, List.append_toArray, List.nil_append, List.cons_append]
 have hca : W.cell? a = some (.slice (some b) zs.length cap) := ((hJ _ _ h0).cell (p := a) hB).trans hc
 gi_wp2
 gi_loopw [7] (fun i wr => ∃ k : Nat, k ≤ zs.length ∧ i = .int .i64 k ∧ J ((List.range k).map (fun j => zs[j]?.getD 0)) wr)
  (fun i _ => zs.length - (intOf i).toNat)
 case atStart => exact ⟨0, Nat.zero_le _, rfl, h0⟩
 case round =>
  obtain ⟨k, hk, rfl, hJs⟩ := hrel
  have hcx : k < zs.length → wr.cell? (b.add k) = some (.int .i64 (zs[k]?.getD 0)) := fun h => ((hJ _ _ hJs).cell (p := b.add k) (by rw [z0b]; exact (hA k h).1)).trans (hA k h).2
  by_cases hlt : k < zs.length
  · obtain ⟨fn, tmps, assign, body, hy, hR⟩ := hY _ (zs[k]?.getD 0) wr hJs (by simpa using hlt)
    have hcx' := hcx hlt
    have hup := z76 (fun j => zs[j]?.getD 0) k
    clear hcx
    generalize zs[k]?.getD 0 = x at hy hR hcx' hup
    gi_wp2
    refine hR.mono ?_
    rintro e W3 ⟨rfl, hJ3⟩
    gi_wp2
    go_roundw
    case rel => exact ⟨k + 1, by omega, by simp, by rw [hup]; exact hJ3⟩
    case measure => simp [intOf]; omega
  · obtain rfl : k = zs.length := by omega
    gi_wp2
    go_end0
    exact ⟨⟨_, rfl⟩, by rw [y8e] at hJs; exact hJs⟩
set_option maxRecDepth 100000 in
set_option maxHeartbeats 2000000 in
theorem z96 (F : Fence) (n : Nat) (h330 : F.fn 367) (hro : F.round = none) (l : Nat) (a : Addr) (cap : Nat) (J : List Int → World → Prop)
 (W : World) (hca : W.cell? a = some (.slice none 0 cap)) (h0 : J [] W) :
 CallsIn F n Tryz.prog 367 #[.func (.yield l) #[] #[], .pointer (some a)] W fun e W' => (∃ v, e = .returned v) ∧ J [] W' := by
 refine callsIn_of_wp Tryz.func367 rfl h330 ?_ hro
 simp only [Tryz.ntmps367, List.size_toArray, List.length_cons, List.length_nil, Nat.reduceAdd, Nat.reduceSub, Array.replicate_succ, Array.replicate_zero, List.push_toArray, List.append_toArray, List.nil_append, List.cons_append]
 gi_wp2
 gi_loopw [7] (fun i wr => i = .int .i64 0 ∧ J [] wr) (fun _ _ => 0)
 case atStart => exact ⟨rfl, h0⟩
 case round =>
  obtain ⟨rfl, hJs⟩ := hrel
  gi_wp2
  go_end0
  exact ⟨⟨_, rfl⟩, hJs⟩
theorem qay (F : Fence) (n : Nat) (h330 : F.fn 367) (hro : F.round = none) (hn : 1 ≤ n) (l n0 : Nat) (a : Addr) (A : Option Addr) (cap : Nat) (zs : List Int) (W0 : World) (J : List Int → World → Prop)
 (hJ : ∀ pre W, J pre W → Below n0 W0 W) (hB : a.block < n0) (hc : W0.cell? a = some (.slice A zs.length cap)) (hz : zs.length ≤ 1048576)
 (hA : (∃ b, A = some b ∧ ∀ j, j < zs.length → b.block < n0 ∧ W0.cell? (b.add j) = some (.int .i64 (zs[j]?.getD 0))) ∨ (A = none ∧ zs = []))
 (hY : ∀ pre x W, J pre W → pre.length < zs.length → YieldAt F (n - 1) Tryz.prog l #[.int .i64 x] W fun e W' => e = .returned (.bool true) ∧ J (pre ++ [x]) W')
 (W : World) (h0 : J [] W) :
 CallsIn F n Tryz.prog 367 #[.func (.yield l) #[] #[], .pointer (some a)] W fun e W' => (∃ v, e = .returned v) ∧ J zs W' := by
 rcases hA with ⟨b, rfl, hA⟩ | ⟨rfl, rfl⟩
 · exact y96 F n h330 hro hn l n0 a b cap zs W0 J hJ hB hc hz hA hY W h0
 · exact z96 F n h330 hro l a cap J W (((hJ _ _ h0).cell (p := a) hB).trans hc) h0
def q42 : Code := Code.region 2 #[{ dst := some 5, op := Op.assign (Operand.tmp 7), type := 2, pos := "iter.go:51", after := #[], guard := none }] false
def z7c : Code := Code.block 1 (Code.region 3 #[{ dst := some 8, op := Op.load 73 (Operand.tmp 2), type := 73, pos := "iter.go:52", after := #[], guard := none }, { dst := some 9, op := Op.move (Operand.tmp 5), type := 2, pos := "iter.go:52", after := #[], guard := none }, { dst := some 10, op := Op.buildSlice 73 1 #[(0, Operand.tmp 9)], type := 73, pos := "iter.go:52", after := #[{ on := 1, ground := Ground.data }], guard := none }, { dst := some 11, op := Op.call { callee := Callee.builtin Builtin.append, args := #[Operand.tmp 8, Operand.tmp 10], argTypes := #[73, 73] }, type := 73, pos := "iter.go:52", after := #[{ on := 0, ground := Ground.data }, { on := 2, ground := Ground.data }], guard := none }, { dst := none, op := Op.store 73 (Operand.tmp 2) (Operand.tmp 11), type := 0, pos := "iter.go:52", after := #[{ on := 3, ground := Ground.data }, { on := 3, ground := Ground.chain }, { on := 0, ground := Ground.phase }, { on := 1, ground := Ground.phase }, { on := 2, ground := Ground.phase }, { on := 3, ground := Ground.phase }], guard := none }] false)
def q2w (fn : FuncId) (sv : Value) (Bs D : Nat) (st : LoopState) (pend : Option Code) : Loop :=
 { state := st, pending := pend, fn, tmps := #[.slice none 0 0, sv, .pointer (some ⟨Bs, 0, none⟩), undef, .slice none 0 0, undef, sv, undef, undef, undef, undef, undef, undef], params := #[7], assign := q42, body := z7c, defers := D }
structure qb4 (w0 : World) (fn : FuncId) (sv : Value) (Bs l D : Nat) (ss : List Int) (W : World) : Prop where
 box : ∃ v, W.heap[Bs]? = some (.cells #[v] 73 (0, 0)) ∧ W.ownsRow w0.heap.size 2 1 v ss.length (ss.map (Value.int .i64)) ∧ (v = .slice none 0 0 ↔ ss = [])
 L : W.heap[l]? = some (.loop (q2w fn sv Bs D .ready none))
 K : W.heap[D]? = some (.deferred (some []))
 below : Below w0.heap.size w0 W
theorem qy (W : World) (l : Nat) (o : Obj) : W.grownBy (W.putObj l o) (some l) :=
 ⟨rfl, rfl, rfl, by simp, fun k _ hk => World.putObj_heap_other (fun e => hk (by rw [e]))⟩
theorem z2q (W : World) (b : Nat) (v : Value) : W.grownBy (W.setCell ⟨b, 0, none⟩ v) (some b) :=
 ⟨rfl, rfl, rfl, (KeepsWalks.setCell W _ v).size, fun k _ hk => Below.heap_setCell _ _ _ k (fun e => hk (by rw [e]))⟩
theorem q0f {W : World} {base : Nat} {e : TypeId} {size : Nat} {v : Value} {k : Nat} {xs : List Value} (h : W.ownsRow base e size v k xs) {j : Nat} {o : Obj} (hj : W.heap[j]? = some o) (hno : ∀ cur, o ≠ .cells cur e (0, 0)) :
 v.ownBlock = none ∨ v.ownBlock ≠ some j := by
 rcases h.2 with ⟨rfl, _⟩ | ⟨g, cap, cur, rfl, _, hgb, _⟩
 · exact .inl rfl
 · refine .inr fun e' => ?_
   have : g = j := by simpa [Value.ownBlock] using e'
   subst this; rw [hgb] at hj; cases hj; exact hno cur rfl
theorem z0u {W : World} {B : Nat} {v : Value} {t : TypeId} (h : W.heap[B]? = some (.cells #[v] t (0, 0))) : W.cell? ⟨B, 0, none⟩ = some v ∧ W.frozen? ⟨B, 0, none⟩ = false := by
 constructor <;> simp [World.cell?, World.frozen?, h]
theorem q2c {W : World} {B : Nat} {v : Value} {t : TypeId} (v' : Value) (h : W.heap[B]? = some (.cells #[v] t (0, 0))) : (W.setCell ⟨B, 0, none⟩ v').heap[B]? = some (.cells #[v'] t (0, 0)) := by
 obtain ⟨hlt, hk⟩ := Array.getElem?_eq_some_iff.1 h
 show (W.heap.modify B _)[B]? = _
 rw [Array.getElem?_eq_getElem (by rw [Array.size_modify]; exact hlt), Array.getElem_modify_self, hk]
 rfl
theorem yao : (Tryz.prog.info? 2).map (fun i => (i.zero, i.size, i.bytes)) = some (some (.int .i64 0), 1, 8) := by kernel_rfl
set_option maxRecDepth 100000 in
set_option maxHeartbeats 2000000 in
theorem z9o (F : Fence) (m : Nat) (w0 : World) (fn : FuncId) (hfn : F.fn fn) (sv : Value) (Bs l D : Nat) (hBl : Bs ≠ l) (hDl : D ≠ l) (hDB : D ≠ Bs) (h0B : w0.heap.size ≤ Bs) (h0l : w0.heap.size ≤ l)
 (N : Nat) (hN : N ≤ maxLen) (hNb : N * 8 ≤ 140737488355328) (ss : List Int) (x : Int) (W : World) (h : qb4 w0 fn sv Bs l D ss W) (hlen : ss.length < N) :
 YieldAt F m Tryz.prog l #[.int .i64 x] W fun e W' => e = .returned (.bool true) ∧ qb4 w0 fn sv Bs l D (ss ++ [x]) W' := by
 obtain ⟨i0, hi, hz0, hz1, hz2⟩ := info_parts yao
 obtain ⟨v, hv, hrow, _⟩ := h.box
 refine ⟨fn, #[.slice none 0 0, sv, .pointer (some ⟨Bs, 0, none⟩), undef, .slice none 0 0, undef, sv, .int .i64 x, undef, undef, undef, undef, undef], q42, z7c, by simpa [q2w] using run_yield (P := Tryz.prog) (args := #[.int .i64 x]) h.L rfl, roundIn_of_wpIn hfn ?_⟩
 have hl : l < W.heap.size := (Array.getElem?_eq_some_iff.1 h.L).1
 have hbr := run_beginRound (P := Tryz.prog) h.L rfl
 obtain ⟨W2, hW2⟩ : ∃ W2, W.putObj l (.loop { q2w fn sv Bs D .ready none with state := .busy }) = W2 := ⟨_, rfl⟩
 rw [hW2] at hbr
 have hg2 : W.grownBy W2 (some l) := by rw [← hW2]; exact qy _ _ _
 have hv2 : W2.heap[Bs]? = some (.cells #[v] 73 (0, 0)) := by rw [← hW2]; exact (World.putObj_heap_other hBl).trans hv
 have hK2 : W2.heap[D]? = some (.deferred (some [])) := by rw [← hW2]; exact (World.putObj_heap_other hDl).trans h.K
 have hL2 : W2.heap[l]? = some (.loop { q2w fn sv Bs D .ready none with state := .busy }) := by rw [← hW2]; exact World.putObj_heap_same hl
 have hrow2 : W2.ownsRow w0.heap.size 2 1 v ss.length (ss.map (Value.int .i64)) := hrow.kept hg2 (q0f hrow h.L (fun cur e => by cases e))
 have hb2 : Below w0.heap.size w0 W2 := h.below.grown hg2 h.below.size (fun k e => by cases e; exact h0l)
 obtain ⟨hc2, hf2⟩ := z0u hv2
 have hBlt : Bs < W2.heap.size := (Array.getElem?_eq_some_iff.1 hv2).1
 have hl2 : l < W2.heap.size := (Array.getElem?_eq_some_iff.1 hL2).1
 have hDlt : D < W2.heap.size := (Array.getElem?_eq_some_iff.1 hK2).1
 have ne_of : ∀ {j : Nat} {o : Obj}, W2.heap[j]? = some o → (∀ cur, o ≠ .cells cur 2 (0, 0)) → some j ≠ v.ownBlock := fun hj hno => by
  rcases q0f hrow2 hj hno with e | e
  · rw [e]; simp
  · exact fun e' => e e'.symm
 clear hW2
 unfold q42
 gi_wp2_with (rw [Oper.semAt_eq _ _ _ (fun c h => by cases h)]; go_simp; try go_bits)
 unfold z7c
 gi_wp2_with (first
  | (gi_at_builtin; refine wpListIn_append_own _ rfl _ _ 73 rfl w0.heap.size 2 i0 (.int .i64 0) 1 8 Tryz.underlying73 hi hz0 hz1 hz2 rfl (by decide) _ _ _ rfl (hrow2.alloc _) ⟨W2.heap.size, 0, none⟩ 1 1 [.int .i64 x] rfl rfl (cell_one_new _ _ _) (by simp [Value.oneCell']) (by omega) (by omega) (by have := hb2.size; simp; omega) ?_; intro v' w3 hown' hg3 hnil3
     have hv3 : w3.heap[Bs]? = some (.cells #[v] 73 (0, 0)) := (hg3.block Bs (by simp; omega) (ne_of hv2 (fun cur e => by cases e))).trans ((Below.heap_alloc _ _ Bs hBlt).trans hv2)
     obtain ⟨hc3, hf3⟩ := z0u hv3
     obtain ⟨g', cap', cur', rfl, hbase', hgb', hr1, hr2, hr3, hr4⟩ : ∃ g' cap' cur', v' = .slice (some ⟨g', 0, none⟩) (ss.length + 1) cap' ∧ w0.heap.size ≤ g' ∧ w3.heap[g']? = some (.cells cur' 2 (0, 0)) ∧ ss.length + 1 ≤ cap' ∧ cap' ≤ maxLen ∧ cur'.size = cap' * 1 ∧ cur'.toList.take ((ss.length + 1) * 1) = ss.map (Value.int .i64) ++ [.int .i64 x] := by
      rcases hown'.2 with ⟨_, h0⟩ | h'
      · exact absurd h0 (by omega)
      · exact h'
     go_frame)
  | (rw [Oper.semAt_eq _ _ _ (fun c h => by cases h)]; go_simp; try go_bits))
 have hg3' : (W2.alloc (.cells #[.int .i64 x] 2)).grownBy w3 v.ownBlock := hg3
 have hL3 : w3.heap[l]? = some (.loop { q2w fn sv Bs D .ready none with state := .busy }) := (hg3'.block l (by simp; omega) (ne_of hL2 (fun cur e => by cases e))).trans ((Below.heap_alloc _ _ l hl2).trans hL2)
 have hK3 : w3.heap[D]? = some (.deferred (some [])) := (hg3'.block D (by simp; omega) (ne_of hK2 (fun cur e => by cases e))).trans ((Below.heap_alloc _ _ D hDlt).trans hK2)
 obtain ⟨w4, hw4⟩ : ∃ w4, w3.setCell ⟨Bs, 0, none⟩ (.slice (some ⟨g', 0, none⟩) (ss.length + 1) cap') = w4 := ⟨_, rfl⟩
 rw [hw4]
 have hg4 : w3.grownBy w4 (some Bs) := by rw [← hw4]; exact z2q _ _ _
 have hv4 : w4.heap[Bs]? = some (.cells #[.slice (some ⟨g', 0, none⟩) (ss.length + 1) cap'] 73 (0, 0)) := by rw [← hw4]; exact q2c _ hv3
 have hL4 : w4.heap[l]? = some (.loop { q2w fn sv Bs D .ready none with state := .busy }) := (hg4.block l (Array.getElem?_eq_some_iff.1 hL3).1 (fun e => hBl (by cases e; rfl))).trans hL3
 have hK4 : w4.heap[D]? = some (.deferred (some [])) := (hg4.block D (Array.getElem?_eq_some_iff.1 hK3).1 (fun e => hDB (by cases e; rfl))).trans hK3
 have hrow4 := hown'.kept hg4 (q0f hown' hv3 (fun cur e => by cases e))
 have hl4 : l < w4.heap.size := (Array.getElem?_eq_some_iff.1 hL4).1
 have hb3 : Below w0.heap.size w0 w3 := (hb2.alloc hb2.size _).grown hg3' (by have := hb2.size; simp; omega) (fun k e => (hrow2.lt k e).1)
 have hb4 : Below w0.heap.size w0 w4 := hb3.grown hg4 hb3.size (fun k e => by cases e; exact h0B)
 clear hw4
 refine ⟨_, _, run_endRound none hL4, rfl, ⟨⟨_, (World.putObj_heap_other hBl).trans hv4, ?_, by simp⟩, World.putObj_heap_same hl4, (World.putObj_heap_other hDl).trans hK4, hb4.grown (qy _ _ _) hb4.size (fun k e => by cases e; exact h0l)⟩⟩
 have := hrow4.kept (qy w4 l (.loop { { q2w fn sv Bs D .ready none with state := .busy } with state := if (none : Option Code).isNone then .ready else .done, pending := none })) (q0f hrow4 hL4 (fun cur e => by cases e))
 simpa using this
set_option maxRecDepth 100000 in
set_option maxHeartbeats 2000000 in
theorem q4p (F : Fence) (n : Nat) (h11 : F.fn 382) (h330 : F.fn 367) (hro : F.round = none) (hn : 3 ≤ n) (a : Addr) (A : Option Addr) (cap : Nat) (zs : List Int) (hz : zs.length ≤ 1048576) (w : World) (hB : a.block < w.heap.size)
 (hc : w.cell? a = some (.slice A zs.length cap)) (hA : (∃ b, A = some b ∧ ∀ j, j < zs.length → b.block < w.heap.size ∧ w.cell? (b.add j) = some (.int .i64 (zs[j]?.getD 0))) ∨ (A = none ∧ zs = [])) :
 CallsIn F n Tryz.prog 382 #[.slice none 0 0, .func (.func 367) #[] #[.pointer (some a)]] w fun e w' => ∃ (v : Value), e = .returned v ∧ w'.ownsRow w.heap.size 2 1 v zs.length (zs.map (Value.int .i64)) ∧ Below w.heap.size w w' := by
 have h1 : 1 ≤ n := by omega
 refine callsIn_of_wp_marks Tryz.func382 rfl h11 ?_ hro
 simp only [Tryz.ntmps382, List.size_toArray, List.length_cons, List.length_nil, Nat.reduceAdd, Nat.reduceSub, Array.replicate_succ, Array.replicate_zero, List.push_toArray, List.append_toArray, List.nil_append, List.cons_append]
 gi_wp2
 refine wpIn_rangeFunc ?_
 intro fn hfn
 rw [hro]
 obtain ⟨W0, hW0⟩ : ∃ W0, w.alloc (.cells #[.slice none 0 0] 73) = W0 := ⟨_, rfl⟩
 have hs0 : W0.heap.size = w.heap.size + 1 := by rw [← hW0]; simp
 have hv0 : W0.heap[w.heap.size]? = some (.cells #[.slice none 0 0] 73 (0, 0)) := by rw [← hW0]; exact World.alloc_heap_new w _
 have hb0 : Below w.heap.size w W0 := by rw [← hW0]; exact (Below.refl _ w).alloc (Nat.le_refl _) _
 rw [hW0]
 obtain ⟨sv, hsv⟩ : ∃ sv, sv = Value.func (.func 367) #[] #[.pointer (some a)] := ⟨_, rfl⟩
 obtain ⟨W1, hW1⟩ : ∃ W1, (W0.alloc (.deferred (some []))).alloc (.loop (q2w fn (Value.func (.func 367) #[] #[.pointer (some a)]) w.heap.size W0.heap.size .ready none)) = W1 := ⟨_, rfl⟩
 have hold : ∀ k, k < W0.heap.size → W1.heap[k]? = W0.heap[k]? := fun k hk => by
  rw [← hW1]; exact (Below.heap_alloc _ _ k (by simp; omega)).trans (Below.heap_alloc _ _ k hk)
 have hb1 : Below w.heap.size w W1 := by rw [← hW1]; exact (hb0.alloc hb0.size _).alloc (by have := hb0.size; simp; omega) _
 have hs1 : W1.heap.size = W0.heap.size + 2 := by rw [← hW1]; simp
 have hM : qb4 w fn (.func (.func 367) #[] #[.pointer (some a)]) w.heap.size (W0.heap.size + 1) W0.heap.size [] W1 :=
  ⟨⟨_, (hold w.heap.size (by omega)).trans hv0, ⟨rfl, .inl ⟨rfl, rfl⟩⟩, by simp⟩,
   by rw [← hW1]; have := World.alloc_heap_new (W0.alloc (.deferred (some []))) (.loop (q2w fn (.func (.func 367) #[] #[.pointer (some a)]) w.heap.size W0.heap.size .ready none)); rwa [World.size_alloc] at this,
   by rw [← hW1]; exact (Below.heap_alloc _ _ _ (by simp)).trans (World.alloc_heap_new W0 _), hb1⟩
 refine ⟨W0.heap.size + 1, [{ target := .collected W0.heap.size, args := #[] }], W1, { target := .fn (.func 367) #[.pointer (some a)], args := #[.func (.yield (W0.heap.size + 1)) #[] #[]] }, W1, 367,
  #[.func (.yield (W0.heap.size + 1)) #[] #[], .pointer (some a)], W1, ?_, ?_, ?_, ?_, fun _ => h1, ?_⟩
 · rw [← hW1]; exact run_enterLoop_outer _ _ _ _ _
 · simp [resolve, go_sem]
 · intro f' hf'; simp [Target.leads] at hf'; subst hf'; exact h330
 · simp [invoke, go_sem, enters_of Tryz.func367 (by kernel_rfl) rfl]
 · refine (qay F (n - 1) h330 hro (by omega) (W0.heap.size + 1) w.heap.size a A cap zs w (qb4 w fn (.func (.func 367) #[] #[.pointer (some a)]) w.heap.size (W0.heap.size + 1) W0.heap.size)
    (fun pre W hJ => hJ.below) hB hc hz hA
    (fun pre x W hJ hl => z9o F (n - 1 - 1) w fn hfn _ w.heap.size (W0.heap.size + 1) W0.heap.size (by omega) (by omega) (by omega) (Nat.le_refl _) (by omega) zs.length (by unfold maxLen; omega) (by omega) pre x W hJ hl) W1 hM).mono ?_
   rintro e W2 ⟨⟨v0, rfl⟩, h2⟩
   obtain ⟨v, hv, hrow, hnil⟩ := h2.box
   have hend := run_endLoop (P := Tryz.prog) h2.L (by simp [q2w])
   obtain ⟨W3, hW3⟩ : ∃ W3, W2.putObj (W0.heap.size + 1) (.loop { q2w fn (.func (.func 367) #[] #[.pointer (some a)]) w.heap.size W0.heap.size .ready none with state := .exhausted }) = W3 := ⟨_, rfl⟩
   rw [hW3] at hend
   have hg3 : W2.grownBy W3 (some (W0.heap.size + 1)) := by rw [← hW3]; exact qy _ _ _
   have hv3 : W3.heap[w.heap.size]? = some (.cells #[v] 73 (0, 0)) := by rw [← hW3]; exact (World.putObj_heap_other (by omega)).trans hv
   have hK3 : W3.heap[W0.heap.size]? = some (.deferred (some [])) := by rw [← hW3]; exact (World.putObj_heap_other (by omega)).trans h2.K
   have hrow3 := hrow.kept hg3 (q0f hrow h2.L (fun cur e => by cases e))
   have hb3 : Below w.heap.size w W3 := h2.below.grown hg3 h2.below.size (fun k e => by cases e; omega)
   obtain ⟨hc3, hf3⟩ := z0u hv3
   clear hW3
   refine ⟨none, W3, hend, ?_⟩
   gi_wp2
   rw [← hs0]
   refine ⟨by simp, .inl ⟨_, _, rfl, run_takeDeferred hK3, ?_⟩⟩
   exact ⟨_, results_tmp rfl _ _ _, v, rfl, hrow3.kept (qy _ _ _) (q0f hrow3 hK3 (fun cur e => by cases e)), hb3.grown (qy _ _ _) hb3.size (fun k e => by cases e; omega)⟩
set_option maxHeartbeats 1000000 in
theorem y6n (F : Fence) (n : Nat) (h8 : F.fn 366) (h11 : F.fn 382) (h330 : F.fn 367) (hro : F.round = none) (hn : 4 ≤ n) (a : Addr) (A : Option Addr) (cap : Nat) (zs : List Int) (hz : zs.length ≤ 1048576) (w : World) (hB : a.block < w.heap.size)
 (hc : w.cell? a = some (.slice A zs.length cap)) (hA : (∃ b, A = some b ∧ ∀ j, j < zs.length → b.block < w.heap.size ∧ w.cell? (b.add j) = some (.int .i64 (zs[j]?.getD 0))) ∨ (A = none ∧ zs = [])) :
 CallsIn F n Tryz.prog 366 #[.func (.func 367) #[] #[.pointer (some a)]] w fun e w' => ∃ (v : Value), e = .returned v ∧ w'.ownsRow w.heap.size 2 1 v zs.length (zs.map (Value.int .i64)) ∧ Below w.heap.size w w' := by
 have h1 : 1 ≤ n := by omega
 refine callsIn_of_wp Tryz.func366 rfl h8 ?_ hro
 simp only [Tryz.ntmps366, List.size_toArray, List.length_cons, List.length_nil, Nat.reduceAdd, Nat.reduceSub, Array.replicate_succ, Array.replicate_zero, List.push_toArray, List.append_toArray, List.nil_append, List.cons_append]
 gi_wp2_with (gi_at_call 382; refine (q4p F (n - 1) h11 h330 hro (by omega) a A cap zs hz _ hB hc hA).mono ?_; rintro e w' ⟨v, rfl, hrow, hb⟩)
 go_ret
 exact ⟨v, rfl, hrow, hb⟩
theorem zbl {w : World} {N : Nat → Prop} {u v : Value} (h : Rep w N (.s v) u) : u = v := by cases h; rfl
theorem q4g {W : World} {base base' : Nat} {e : TypeId} {size : Nat} {v : Value} {k : Nat} {xs : List Value} (h : W.ownsRow base e size v k xs) (hb : base' ≤ base) : W.ownsRow base' e size v k xs := by
 refine ⟨h.1, ?_⟩
 rcases h.2 with hn | ⟨g, cap, cur, hv, hbg, rest⟩
 · exact .inl hn
 · exact .inr ⟨g, cap, cur, hv, Nat.le_trans hb hbg, rest⟩
theorem q6n (us : List Int) (hu : us.length ≤ 1048576) : PC Tryz.prog 366 [.one (.f 367 [.p [.l (ints us)]])] (.one (.own false [.l 1 (ints us)])) := by
 refine ⟨by kernel_rfl, fun N w vals hargs => ?_⟩
 obtain ⟨hsz, hr⟩ := hargs
 obtain ⟨v0, rfl⟩ : ∃ v0, vals = #[v0] := by
  match vals, hsz with
  | ⟨[v0]⟩, _ => exact ⟨v0, rfl⟩
 have h0 : Rep w N (.f 367 [.p [.l (ints us)]]) v0 := hr 0 _ _ rfl rfl
 obtain ⟨a, A, cap, rfl, hB, hc, hA⟩ : ∃ (a : Addr) (A : Option Addr) (cap : Nat), v0 = .func (.func 367) #[] #[.pointer (some a)] ∧ a.block < w.heap.size ∧ w.cell? a = some (.slice A us.length cap) ∧
  ((∃ b, A = some b ∧ ∀ j, j < us.length → b.block < w.heap.size ∧ w.cell? (b.add j) = some (.int .i64 (us[j]?.getD 0))) ∨ (A = none ∧ us = [])) := by
  cases h0 with
  | f _ _ vs hs hv =>
    obtain ⟨u0, rfl⟩ : ∃ u0, vs = #[u0] := by
     match vs, hs with
     | ⟨[u0]⟩, _ => exact ⟨u0, rfl⟩
    have h1 : Rep w N (.p [.l (ints us)]) u0 := hv 0 _ _ rfl rfl
    cases h1 with
    | p _ a u hm hq =>
      have h2 := hm 0 (by simp)
      have h3 : Rep w N (.l (ints us)) (u 0) := hq 0 _ rfl
      have ha0 : a.add 0 = a := by obtain ⟨g, o, sp⟩ := a; unfold Addr.add; cases sp <;> simp
      rw [ha0] at h2
      have hlt : a.block < w.heap.size := World.block_lt_of_cell? w _ h2.2
      generalize u 0 = x at h2 h3
      generalize hrr : ints us = rr at h3
      cases h3 with
      | l sz _ A cap ux hz hcap hn hmm hrx =>
        have hlen : rr.length = us.length := by rw [← hrr]; simp
        refine ⟨a, A, cap, rfl, hlt, by rw [h2.2, hlen], ?_⟩
        cases A with
        | none =>
          have := hn rfl
          rw [this] at hlen
          exact .inr ⟨rfl, List.eq_nil_of_length_eq_zero hlen.symm⟩
        | some b =>
          refine .inl ⟨b, rfl, fun j hj => ?_⟩
          have hrow : rr[j]? = some [i64 us[j]] := by rw [← hrr]; simp [ints, hj]
          have hs1 : sz = 1 := (hz _ (List.mem_of_getElem? hrow)).symm
          subst hs1
          obtain ⟨b', hb', _, hcell⟩ := hmm j 0 (by omega) (by omega)
          cases hb'
          have hx := zbl (hrx j 0 _ _ hrow rfl)
          rw [hx, Nat.mul_one, Nat.add_zero] at hcell
          have hbl := World.block_lt_of_cell? w _ hcell
          rw [z0b] at hbl
          exact ⟨hbl, by rw [hcell]; simp [hj]⟩
 refine (callsIn_wide.1 (y6n Fence.wide 4 trivial trivial trivial rfl (Nat.le_refl _) a A cap us hu w hB hc hA)).mono ?_
 rintro e w' ⟨v, rfl, hrow, hb⟩
 refine ⟨v, fun x => w.heap.size ≤ x ∧ x < w'.heap.size, rfl, qr.y8w hb, ⟨#[v], fun k x => k = 0 ∧ w.heap.size ≤ x ∧ x < w'.heap.size, rfl, rfl, fun k x hx => hx.2, fun k k' x hx hx' => by rw [hx.1, hx'.1], fun k c u hc hu' => ?_⟩, fun x hx => hx⟩
 cases k with
 | succ k => simp at hc
 | zero =>
   cases hc
   cases hu'
   refine ⟨1, fun _ => rfl, .inr ⟨2, us.map (Value.int .i64), fun j _ => .int .i64 (us[j]?.getD 0), fun _ _ _ => False, ?_, fun g hg => ⟨rfl, hrow.lt g hg⟩, fun row hrow => ?_, fun _ _ _ h => h.elim, fun _ _ _ _ _ h => h.elim, fun j k hj hk => ?_, fun j k row c hj hk => ?_⟩⟩
   · have := q4g hrow (Nat.zero_le _)
     simpa [ints] using this
   · simp [ints] at hrow
     obtain ⟨_, _, rfl⟩ := hrow; rfl
   · have hj : j < us.length := by simpa [ints] using hj
     have : k = 0 := by omega
     subst this
     simp [hj]
   · have hjl : j < us.length := by have := (List.getElem?_eq_some_iff.1 hj).1; simpa [ints] using this
     have : row = [i64 us[j]] := by simp [ints, hjl] at hj; exact hj.symm
     subst this
     cases k with
     | succ k => simp at hk
     | zero =>
       cases hk
       simp only [hjl, getElem?_pos, Option.getD_some]
       exact .s _ _ rfl
set_option maxHeartbeats 1000000 in
theorem q8e (A : Option Addr) (len cap : Nat) (w : World) :
 CallsIn Fence.wide 1 Tryz.prog 340 #[.slice A len cap] w fun e w' => e = .returned (.func (.func 367) #[] #[.pointer (some ⟨w.heap.size, 0, none⟩)]) ∧ w' = w.alloc (.cells #[.slice A len cap] 73) := by
 refine callsIn_of_wp Tryz.func340 rfl trivial ?_ rfl
 simp only [Tryz.ntmps340, List.size_toArray, List.length_cons, List.length_nil, Nat.reduceAdd, Nat.reduceSub, Array.replicate_succ, Array.replicate_zero, List.push_toArray, List.append_toArray, List.nil_append, List.cons_append]
 gi_wp2
 go_ret
 exact ⟨rfl, rfl⟩
theorem z8f (rows : List (List Cell)) : PC Tryz.prog 340 [.one (.l rows)] (.one (.bor false [.f 367 [.p [.l rows]]])) := by
 refine ⟨by kernel_rfl, fun N w vals hargs => ?_⟩
 obtain ⟨hsz, hr⟩ := hargs
 obtain ⟨v0, rfl⟩ : ∃ v0, vals = #[v0] := by
  match vals, hsz with
  | ⟨[v0]⟩, _ => exact ⟨v0, rfl⟩
 have h0 : Rep w N (.l rows) v0 := hr 0 _ _ rfl rfl
 obtain ⟨A, len, cap, rfl⟩ : ∃ A len cap, v0 = .slice A len cap := by cases h0; exact ⟨_, _, _, rfl⟩
 refine (callsIn_wide.1 (q8e A len cap w)).mono ?_
 rintro e w' ⟨rfl, rfl⟩
 refine ⟨_, fun _ => False, rfl, qr.alloc w _ _, ⟨#[_], rfl, rfl, fun k c u hc hu => ?_⟩, fun x hx => hx.elim⟩
 cases k with
 | succ k => simp at hc
 | zero =>
   cases hc
   cases hu
   refine .f _ _ _ rfl (fun k c v hc hv => ?_)
   cases k with
   | succ k => simp at hc
   | zero =>
     cases hc
     cases hv
     refine .p _ _ (fun _ => .slice A len cap) (fun k hk => ⟨⟨.inr (Nat.le_refl _), fun h => h⟩, ?_⟩) (fun k c hc => ?_)
     · have : k = 0 := by simpa using hk
       subst this
       rw [add_plain]
       exact (z0u (World.alloc_heap_new w _)).1
     · cases k with
       | succ k => simp at hc
       | zero =>
         cases hc
         exact Rep.move h0 (fun x hx hN => ⟨⟨.inl hN, fun h => h⟩, Below.heap_alloc w _ x hx⟩)
end Go.Proofs.YtbnbjaedijbnpaaGreat
end
section
namespace Go.Proofs.YtbnbjaedijbnpaaGreat
open Go Go.Sx
set_option maxRecDepth 20000
set_option maxHeartbeats 4000000
theorem qi (n lo hi : Int) : PC Tryz.prog 86 [.one (i64 n), .one (i64 lo), .one (i64 hi)] (rB (within n lo hi)) := by
 refine PC.begin Tryz.func86 rfl (by kernel_rfl) ?_
 refine xb rfl ?_ ?_ <;> intro b0
 refine xj (k := 3) rfl ?_
 refine xv rfl rfl rfl ?_; rotate_left
 refine xj (k := 3) rfl ?_
 refine xv rfl rfl rfl ?_; rotate_left
 all_goals (refine vb ?_; (simp_all [within] <;> omega))
theorem zn (n lo hi : Int) : PC Tryz.prog 112 [.one (i64 n), .one (i64 lo), .one (i64 hi)] (rB (within n lo hi)) := by
 refine PC.begin Tryz.func112 rfl (by kernel_rfl) ?_
 refine xb rfl ?_ ?_ <;> intro b0
 refine xj (k := 3) rfl ?_
 refine xv rfl rfl rfl ?_; rotate_left
 refine xj (k := 3) rfl ?_
 refine xv rfl rfl rfl ?_; rotate_left
 all_goals (refine vb ?_; (simp_all [within] <;> omega))
theorem y2e (n : Int) : PC Tryz.prog 269 [.one (i64 n)] (rB (within n 0 2)) := by
 refine PC.begin Tryz.func269 rfl (by kernel_rfl) ?_
 refine z7 rfl (zn _ _ _) rfl tv4 ?_
 refine xr rfl (qm rfl ⟨⟨rfl, rfl, trivial⟩, z6 rfl⟩)
theorem q6r (n : Int) : PC Tryz.prog 290 [.one (i64 n)] (rB (within n 0 2)) := by
 refine PC.begin Tryz.func290 rfl (by kernel_rfl) ?_
 refine z7 rfl (zn _ _ _) rfl tv4 ?_
 refine xr rfl (qm rfl ⟨⟨rfl, rfl, trivial⟩, z6 rfl⟩)
theorem y4c (n : Int) : PC Tryz.prog 262 [.one (i64 n)] (rB (within n 1 1000000000)) := by
 refine PC.begin Tryz.func262 rfl (by kernel_rfl) ?_
 refine z7 rfl (zn _ _ _) rfl tv4 ?_
 refine xr rfl (qm rfl ⟨⟨rfl, rfl, trivial⟩, z6 rfl⟩)
theorem q4c (n : Int) : PC Tryz.prog 250 [.one (i64 n)] (rB (within n 1 1000000000)) := by
 refine PC.begin Tryz.func250 rfl (by kernel_rfl) ?_
 refine z7 rfl (qi _ _ _) rfl tv4 ?_
 refine xr rfl (qm rfl ⟨⟨rfl, rfl, trivial⟩, z6 rfl⟩)
theorem z2e (a b : Int) : PC Tryz.prog 213 [.one (i64 a), .one (i64 b)] (rB (within a 0 5 && within b 0 2)) := by
 refine PC.begin Tryz.func213 rfl (by kernel_rfl) ?_
 refine z7 rfl (zn _ _ _) rfl tv4 ?_
 refine xb rfl ?_ ?_ <;> intro b0
 refine xj (k := 1) rfl (z7 rfl (q6r _) rfl ⟨trivial, trivial⟩ (xj (k := 1) rfl ?_))
 refine xv rfl rfl rfl ?_; rotate_left
 refine xj (k := 2) rfl ?_
 refine xv rfl rfl rfl ?_; rotate_left
 all_goals (refine vb ?_; simp_all)
theorem z6c (a b : Int) : PC Tryz.prog 188 [.one (i64 a), .one (i64 b)] (rB (within a 0 5 && within b 0 2)) := by
 refine PC.begin Tryz.func188 rfl (by kernel_rfl) ?_
 refine z7 rfl (qi _ _ _) rfl tv4 ?_
 refine xb rfl ?_ ?_ <;> intro b0
 refine xj (k := 1) rfl (z7 rfl (qi _ _ _) rfl tv4 (xj (k := 1) rfl ?_))
 refine xv rfl rfl rfl ?_; rotate_left
 refine xj (k := 2) rfl ?_
 refine xv rfl rfl rfl ?_; rotate_left
 all_goals (refine vb ?_; simp_all)
theorem y57 (l : Leg) : PC Tryz.prog 251 [.agg l.cs] (rI l.fault) := by
 refine PC.begin Tryz.func251 rfl (by kernel_rfl) ?_
 refine z7 rfl (qi _ _ _) rfl tv4 ?_
 refine xb rfl ?_ ?_ <;> intro b0
 refine xj (k := 15) rfl ?_
 refine xv rfl rfl rfl ?_; rotate_left
 refine xj (k := 2) rfl (z7 rfl (qi _ _ _) rfl tv4 (xj (k := 2) rfl ?_))
 refine xb rfl ?_ ?_ <;> intro b1
 refine xj (k := 10) rfl ?_
 refine xv rfl rfl rfl ?_; rotate_left
 refine xj (k := 2) rfl (z7 rfl (qi _ _ _) rfl tv4 (xj (k := 2) rfl ?_))
 refine xb rfl ?_ ?_ <;> intro b2
 refine xj (k := 5) rfl ?_
 refine xv rfl rfl rfl ?_; rotate_left
 refine xj (k := 2) rfl (z7 rfl (qi _ _ _) rfl tv4 (xj (k := 2) rfl ?_))
 refine xb rfl ?_ ?_ <;> intro b3
 refine xv rfl rfl rfl ?_; rotate_left
 refine xb rfl ?_ ?_ <;> intro b4
 refine xv rfl rfl rfl ?_; rotate_left
 refine xv rfl rfl rfl ?_; rotate_left
 all_goals (refine vi ?_; simp_all [Leg.fault, Leg.bad])
theorem q4y (l : Leg) : PC Tryz.prog 264 [.agg l.cs] (rI l.fault) := by
 refine PC.begin Tryz.func264 rfl (by kernel_rfl) ?_
 refine z7 rfl (y2e _) rfl ⟨trivial, trivial⟩ ?_
 refine xb rfl ?_ ?_ <;> intro b0
 refine xj (k := 12) rfl ?_
 refine xv rfl rfl rfl ?_; rotate_left
 refine xj (k := 4) rfl (z7 rfl (z2e _ _) rfl tv3 (xj (k := 2) rfl ?_))
 refine xb rfl ?_ ?_ <;> intro b1
 refine xj (k := 5) rfl ?_
 refine xv rfl rfl rfl ?_; rotate_left
 refine xj (k := 2) rfl (z7 rfl (zn _ _ _) rfl tv4 (xj (k := 2) rfl ?_))
 refine xb rfl ?_ ?_ <;> intro b2
 refine xv rfl rfl rfl ?_; rotate_left
 refine xb rfl ?_ ?_ <;> intro b3
 refine xv rfl rfl rfl ?_; rotate_left
 refine xv rfl rfl rfl ?_; rotate_left
 all_goals (refine vi ?_; simp_all [Leg.fault, Leg.bad])
theorem q71 (rr : List (List Cell)) : PC Tryz.prog 263 [.one (.l rr)] (rI rr.length) := by
 refine PC.begin Tryz.func263 rfl (by kernel_rfl) ?_
 refine xr rfl (qm rfl ⟨⟨rfl, rfl, trivial⟩, z6 rfl⟩)
theorem y2o (l m : Leg) : PC Tryz.prog 267 [.agg l.cs, .agg m.cs] (rB (l.same m)) := by
 refine PC.begin Tryz.func267 rfl (by kernel_rfl) ?_
 refine xb rfl ?_ ?_ <;> intro b0
 refine xj (k := 5) rfl ?_
 refine xb rfl ?_ ?_ <;> intro b1
 refine xj (k := 5) rfl ?_
 refine xv rfl rfl rfl ?_; rotate_left
 refine xj (k := 5) rfl ?_
 refine xv rfl rfl rfl ?_; rotate_left
 refine xj (k := 11) rfl ?_
 refine xv rfl rfl rfl ?_; rotate_left
 all_goals (refine vb ?_; simp_all [Leg.same])
theorem y6b (n : Int) : PC Tryz.prog 351 [.one (i64 n)] (rB false) := by
 refine PC.begin Tryz.func351 rfl (by kernel_rfl) ?_
 refine xv rfl rfl rfl ?_
 all_goals (refine vb ?_; simp_all)
theorem yu (a b : Int) : PC Tryz.prog 292 [.one (i64 a), .one (i64 b)] (rI (q0h a b)) := by
 refine PC.begin Tryz.func292 rfl (by kernel_rfl) ?_
 refine z7 rfl (y6b _) rfl ⟨trivial, trivial⟩ (z7 rfl (y6b _) rfl ⟨trivial, trivial⟩ (xj (k := 2) rfl ?_))
 refine xb rfl ?_ ?_ <;> intro b0
 refine xv rfl rfl rfl ?_; rotate_left
 refine xb rfl ?_ ?_ <;> intro b1
 refine xv rfl rfl rfl ?_; rotate_left
 refine xv rfl rfl rfl ?_; rotate_left
 all_goals (refine vi ?_; simp_all [q0h] <;> omega)
theorem y8x (us : List Int) (hl : us.length ≤ 1048576) : PC Tryz.prog 291 [.one (.l (ints us))] (rI (orr us)) := by
 refine PC.begin Tryz.func291 rfl (by kernel_rfl) ?_
 have hn : (ints us).length = us.length := by simp
 refine qc rfl (ι := Nat) (fun i => i ≤ us.length ∧ ∀ j y, j < i → us[j]? = some y → y = 0) (fun i => ⟨[(8, sV (.int .i64 i)), (7, sV (.int .i64 (ints us).length)), (6, .one (.b (.l (ints us)))), (3, sV (.int .i64 0))], []⟩) (fun i => us.length - i) 0 ⟨Nat.zero_le _, fun j y hj => by omega⟩ ?_ ?_
 · exact ⟨⟨rfl, rfl, rfl, rfl, trivial⟩, trivial, rfl⟩
 · intro i ⟨hi, h0⟩ J hJ
   refine xb rfl ?_ ?_ <;> intro h
   · have h : i < us.length := by simpa using h
     obtain ⟨x, hx⟩ := gx h
     have hg := gm (fun n => [i64 n]) hx
     refine xs rfl (nn_ _) (y9 rfl _ hg (xs rfl rfl ?_))
     refine xb rfl ?_ ?_ <;> intro b0
     refine xv rfl rfl rfl ?_; rotate_left
     rotate_left
     · exact vi (y5t hx h0 (by simpa using b0)).symm
     · exact q9 rfl (hJ _ (i + 1) ⟨by omega, qg hx h0 (by simpa using b0)⟩ (by omega) ⟨⟨cwi (by omega) (by omega) (by omega), rfl, rfl, rfl, trivial⟩, trivial, rfl⟩)
   · have h : ¬ i < us.length := by simpa using h
     refine xv rfl rfl rfl ?_
     exact vi (y4g (zk (by omega) h0)).symm
theorem q2b (us : List Int) (hl : us.length ≤ 1048576) : PC Tryz.prog 117 [.one (.l (ints us))] (rI (orr us)) := by
 refine PC.begin Tryz.func117 rfl (by kernel_rfl) ?_
 have hn : (ints us).length = us.length := by simp
 refine qc rfl (ι := Nat) (fun i => i ≤ us.length ∧ ∀ j y, j < i → us[j]? = some y → y = 0) (fun i => ⟨[(7, sV (.int .i64 i)), (6, sV (.int .i64 (ints us).length)), (5, .one (.b (.l (ints us))))], []⟩) (fun i => us.length - i) 0 ⟨Nat.zero_le _, fun j y hj => by omega⟩ ?_ ?_
 · exact ⟨⟨rfl, rfl, rfl, trivial⟩, trivial, rfl⟩
 · intro i ⟨hi, h0⟩ J hJ
   refine xb rfl ?_ ?_ <;> intro h
   · have h : i < us.length := by simpa using h
     obtain ⟨x, hx⟩ := gx h
     have hg := gm (fun n => [i64 n]) hx
     refine xs rfl (nn_ _) (y9 rfl _ hg (xs rfl rfl ?_))
     refine xb rfl ?_ ?_ <;> intro b0
     refine xv rfl rfl rfl ?_; rotate_left
     rotate_left
     · exact vi (y5t hx h0 (by simpa using b0)).symm
     · exact q9 rfl (hJ _ (i + 1) ⟨by omega, qg hx h0 (by simpa using b0)⟩ (by omega) ⟨⟨cwi (by omega) (by omega) (by omega), rfl, rfl, trivial⟩, trivial, rfl⟩)
   · have h : ¬ i < us.length := by simpa using h
     refine xv rfl rfl rfl ?_
     exact vi (y4g (zk (by omega) h0)).symm
theorem ya7 (us : List Bal) (a b : Int) (hl : us.length ≤ 1048576) : PC Tryz.prog 105 [.one (.l (us.map Bal.cs)), .one (i64 a), .one (i64 b)] (rI (hasB us a b)) := by
 refine PC.begin Tryz.func105 rfl (by kernel_rfl) ?_
 refine qc rfl (ι := Nat) (fun i => i ≤ us.length ∧ ∀ j y, j < i → us[j]? = some y → ¬ (y.a = a ∧ y.b = b)) (fun i => ⟨[(7, sV (.int .i64 i)), (0, .one (.b (.l (us.map Bal.cs)))), (1, sV (.int .i64 a)), (2, sV (.int .i64 b))], []⟩) (fun i => us.length - i) 0 ⟨Nat.zero_le _, fun j y hj => by omega⟩ ?_ ?_
 · exact ⟨⟨rfl, rfl, rfl, rfl, trivial⟩, trivial, rfl⟩
 · intro i ⟨hi, h0⟩ J hJ
   refine xb rfl ?_ ?_ <;> intro h
   · have h : i < us.length := by simpa using h
     obtain ⟨x, hx⟩ := gx h
     have hg := gm Bal.cs hx
     refine xs rfl (nn_ _) (y9 rfl _ hg (xs rfl rfl ?_))
     refine xb rfl ?_ ?_ <;> intro b0
     refine xj (k := 2) rfl (xs rfl (nn_ _) (y9 rfl _ hg (xs rfl rfl (xj (k := 5) rfl ?_))))
     refine xb rfl ?_ ?_ <;> intro b1
     refine xs rfl (nn_ _) (y9 rfl _ hg (xs rfl rfl ?_))
     refine xv rfl rfl rfl ?_; rotate_left
     rotate_left
     refine xj (k := 8) rfl ?_; rotate_left
     · exact vi (q49 hx h0 (by simp_all)).symm
     · exact q9 rfl (hJ _ (i + 1) ⟨by omega, qg hx h0 (by simp_all)⟩ (by omega) ⟨⟨cwi (by omega) (by omega) (by omega), rfl, rfl, rfl, trivial⟩, trivial, rfl⟩)
     · exact q9 rfl (hJ _ (i + 1) ⟨by omega, qg hx h0 (by simp_all)⟩ (by omega) ⟨⟨cwi (by omega) (by omega) (by omega), rfl, rfl, rfl, trivial⟩, trivial, rfl⟩)
   · have h : ¬ i < us.length := by simpa using h
     refine xv rfl rfl rfl ?_
     exact vi (y35 (zk (by omega) h0)).symm
theorem z9p (us : List Mk) (f : Mk → Int) (fn : Nat) (t : Int) (hf : ∀ x ∈ us, PC Tryz.prog fn [.agg x.cs, .one (i64 t)] (rI (f x))) (hl : us.length ≤ 1048576) : PC Tryz.prog 321 [.one (.l (us.map Mk.cs)), .one (i64 t), .one (.f fn [])] (bsV f us) := by
 refine PC.begin Tryz.func321 rfl (by kernel_rfl) ?_
 have hn : (us.map Mk.cs).length = us.length := by simp
 refine qc rfl (ι := Nat × Nat) (fun x => x.1 ≤ x.2 ∧ x.2 ≤ us.length ∧ bsr (bsC f us) x.1 x.2 = bsP f us) (fun x => ⟨[(9, sV (.int .i64 x.1)), (10, sV (.int .i64 x.2)), (8, sV (.int .i64 (us.map Mk.cs).length)), (0, .one (.b (.l (us.map Mk.cs)))), (1, sV (.int .i64 t)), (2, .one (.b (.f fn [])))], []⟩) (fun x => x.2 - x.1) (0, us.length) ⟨Nat.zero_le _, Nat.le_refl _, rfl⟩ ?_ ?_
 · exact ⟨⟨rfl, ci (by simp), rfl, rfl, rfl, rfl, trivial⟩, trivial, rfl⟩
 · intro ⟨i, j⟩ ⟨hij, hj, he⟩ J hJ
   dsimp only at hij hj he ⊢
   refine xb rfl ?_ ?_ <;> intro h
   · have h : i < j := by simpa using h
     obtain ⟨x, hx⟩ := gx (xs := us) (i := (i + j) / 2) (by omega)
     have hg := q9u Mk.cs (i := i) (j := j) (by omega) (by omega) hx
     have hxm := List.mem_of_getElem? hx
     have hc := z2t (f := f) hx
     refine xs rfl (nn_ _) (xs rfl (y9u (by omega) (by omega)) (y9 rfl _ hg (xs rfl rfl (z7 rfl (hf _ hxm) rfl ⟨tv3, trivial, trivial⟩ ?_))))
     refine xb rfl (fun b0 => ?_) (fun b0 => ?_); rotate_left
     rotate_left
     · refine q9 rfl (hJ _ ((i + j) / 2 + 1, j) ⟨by dsimp only; omega, hj, ?_⟩ (by dsimp only; omega) ⟨⟨?_, rfl, rfl, rfl, rfl, rfl, trivial⟩, trivial, rfl⟩)
       · rw [← he, q7e h (hc.trans b0)]
       · rw [half (by omega) (by omega)]; exact cwi (by omega) (by omega) (by omega)
     · refine q9 rfl (hJ _ (i, (i + j) / 2) ⟨by dsimp only; omega, by dsimp only; omega, ?_⟩ (by dsimp only; omega) ⟨⟨rfl, ci (half (by omega) (by omega)), rfl, rfl, rfl, rfl, trivial⟩, trivial, rfl⟩)
       rw [← he, y7e h (hc.trans b0)]
   · have h : ¬ i < j := by simpa using h
     rw [z5h h] at he
     by_cases hin : i < us.length
     · obtain ⟨x, hx⟩ := gx hin
       have hg := gm Mk.cs hx
       have hxm := List.mem_of_getElem? hx
       have hF := y2t he.symm hx
       refine xb rfl ?_ ?_ <;> intro b0
       refine xj (k := 3) rfl (xs rfl (nn_ _) (y9 rfl _ hg (xs rfl rfl (xj (k := 3) rfl (z7 rfl (hf _ hxm) rfl ⟨tv3, trivial, trivial⟩ (xj (k := 2) rfl ?_))))))
       refine xr rfl (qm rfl ⟨(by decide), ⟨⟨rfl, ?_, trivial⟩, ⟨rfl, ?_, trivial⟩, trivial⟩, z6 rfl⟩); rotate_left
       rotate_left
       refine xj (k := 8) rfl ?_
       refine xr rfl (qm rfl ⟨(by decide), ⟨⟨rfl, ?_, trivial⟩, ⟨rfl, ?_, trivial⟩, trivial⟩, z6 rfl⟩); rotate_left
       rotate_left
       all_goals first | (exfalso; simp at b0; omega) | (refine vi ?_; rw [he]; done) | (refine vb ?_; rw [hF]; done)
     · have hF := y44 he.symm (by omega)
       refine xb rfl ?_ ?_ <;> intro b0
       refine xj (k := 3) rfl ?_
       refine xs rfl (nn_ _) ?_; rotate_left
       refine xj (k := 8) rfl ?_
       refine xr rfl (qm rfl ⟨(by decide), ⟨⟨rfl, ?_, trivial⟩, ⟨rfl, ?_, trivial⟩, trivial⟩, z6 rfl⟩); rotate_left
       rotate_left
       all_goals first | (exfalso; simp at b0; omega) | (refine vi ?_; rw [he]; done) | (refine vb ?_; rw [hF]; done)
theorem z8l (us : List Con) (f : Con → Int) (fn : Nat) (t : Int) (hf : ∀ x ∈ us, PC Tryz.prog fn [.agg x.cs, .one (i64 t)] (rI (f x))) (hl : us.length ≤ 1048576) : PC Tryz.prog 364 [.one (.l (us.map Con.cs)), .one (i64 t), .one (.f fn [])] (bsV f us) := by
 refine PC.begin Tryz.func364 rfl (by kernel_rfl) ?_
 have hn : (us.map Con.cs).length = us.length := by simp
 refine qc rfl (ι := Nat × Nat) (fun x => x.1 ≤ x.2 ∧ x.2 ≤ us.length ∧ bsr (bsC f us) x.1 x.2 = bsP f us) (fun x => ⟨[(9, sV (.int .i64 x.1)), (10, sV (.int .i64 x.2)), (8, sV (.int .i64 (us.map Con.cs).length)), (0, .one (.b (.l (us.map Con.cs)))), (1, sV (.int .i64 t)), (2, .one (.b (.f fn [])))], []⟩) (fun x => x.2 - x.1) (0, us.length) ⟨Nat.zero_le _, Nat.le_refl _, rfl⟩ ?_ ?_
 · exact ⟨⟨rfl, ci (by simp), rfl, rfl, rfl, rfl, trivial⟩, trivial, rfl⟩
 · intro ⟨i, j⟩ ⟨hij, hj, he⟩ J hJ
   dsimp only at hij hj he ⊢
   refine xb rfl ?_ ?_ <;> intro h
   · have h : i < j := by simpa using h
     obtain ⟨x, hx⟩ := gx (xs := us) (i := (i + j) / 2) (by omega)
     have hg := q9u Con.cs (i := i) (j := j) (by omega) (by omega) hx
     have hxm := List.mem_of_getElem? hx
     have hc := z2t (f := f) hx
     refine xs rfl (nn_ _) (xs rfl (y9u (by omega) (by omega)) (y9 rfl _ hg (xs rfl rfl (z7 rfl (hf _ hxm) rfl ⟨tv3, trivial, trivial⟩ ?_))))
     refine xb rfl (fun b0 => ?_) (fun b0 => ?_); rotate_left
     rotate_left
     · refine q9 rfl (hJ _ ((i + j) / 2 + 1, j) ⟨by dsimp only; omega, hj, ?_⟩ (by dsimp only; omega) ⟨⟨?_, rfl, rfl, rfl, rfl, rfl, trivial⟩, trivial, rfl⟩)
       · rw [← he, q7e h (hc.trans b0)]
       · rw [half (by omega) (by omega)]; exact cwi (by omega) (by omega) (by omega)
     · refine q9 rfl (hJ _ (i, (i + j) / 2) ⟨by dsimp only; omega, by dsimp only; omega, ?_⟩ (by dsimp only; omega) ⟨⟨rfl, ci (half (by omega) (by omega)), rfl, rfl, rfl, rfl, trivial⟩, trivial, rfl⟩)
       rw [← he, y7e h (hc.trans b0)]
   · have h : ¬ i < j := by simpa using h
     rw [z5h h] at he
     by_cases hin : i < us.length
     · obtain ⟨x, hx⟩ := gx hin
       have hg := gm Con.cs hx
       have hxm := List.mem_of_getElem? hx
       have hF := y2t he.symm hx
       refine xb rfl ?_ ?_ <;> intro b0
       refine xj (k := 3) rfl (xs rfl (nn_ _) (y9 rfl _ hg (xs rfl rfl (xj (k := 3) rfl (z7 rfl (hf _ hxm) rfl ⟨tv3, trivial, trivial⟩ (xj (k := 2) rfl ?_))))))
       refine xr rfl (qm rfl ⟨(by decide), ⟨⟨rfl, ?_, trivial⟩, ⟨rfl, ?_, trivial⟩, trivial⟩, z6 rfl⟩); rotate_left
       rotate_left
       refine xj (k := 8) rfl ?_
       refine xr rfl (qm rfl ⟨(by decide), ⟨⟨rfl, ?_, trivial⟩, ⟨rfl, ?_, trivial⟩, trivial⟩, z6 rfl⟩); rotate_left
       rotate_left
       all_goals first | (exfalso; simp at b0; omega) | (refine vi ?_; rw [he]; done) | (refine vb ?_; rw [hF]; done)
     · have hF := y44 he.symm (by omega)
       refine xb rfl ?_ ?_ <;> intro b0
       refine xj (k := 3) rfl ?_
       refine xs rfl (nn_ _) ?_; rotate_left
       refine xj (k := 8) rfl ?_
       refine xr rfl (qm rfl ⟨(by decide), ⟨⟨rfl, ?_, trivial⟩, ⟨rfl, ?_, trivial⟩, trivial⟩, z6 rfl⟩); rotate_left
       rotate_left
       all_goals first | (exfalso; simp at b0; omega) | (refine vi ?_; rw [he]; done) | (refine vb ?_; rw [hF]; done)
theorem q8k (us : List Bal) (f : Bal → Int) (fn : Nat) (t : Bal) (hf : ∀ x ∈ us, PC Tryz.prog fn [.agg x.cs, .agg t.cs] (rI (f x))) (hl : us.length ≤ 1048576) : PC Tryz.prog 387 [.one (.l (us.map Bal.cs)), .agg t.cs, .one (.f fn [])] (bsV f us) := by
 refine PC.begin Tryz.func387 rfl (by kernel_rfl) ?_
 have hn : (us.map Bal.cs).length = us.length := by simp
 refine qc rfl (ι := Nat × Nat) (fun x => x.1 ≤ x.2 ∧ x.2 ≤ us.length ∧ bsr (bsC f us) x.1 x.2 = bsP f us) (fun x => ⟨[(9, sV (.int .i64 x.1)), (10, sV (.int .i64 x.2)), (8, sV (.int .i64 (us.map Bal.cs).length)), (0, .one (.b (.l (us.map Bal.cs)))), (4, .one (.a 4 0)), (2, .one (.b (.f fn [])))], [(4, .var (t.cs.map .b))]⟩) (fun x => x.2 - x.1) (0, us.length) ⟨Nat.zero_le _, Nat.le_refl _, rfl⟩ ?_ ?_
 · exact ⟨⟨rfl, ci (by simp), rfl, rfl, ⟨rfl, rfl, rfl⟩, rfl, trivial⟩, ⟨lcr, trivial⟩, rfl⟩
 · intro ⟨i, j⟩ ⟨hij, hj, he⟩ J hJ
   dsimp only at hij hj he ⊢
   refine xb rfl ?_ ?_ <;> intro h
   · have h : i < j := by simpa using h
     obtain ⟨x, hx⟩ := gx (xs := us) (i := (i + j) / 2) (by omega)
     have hg := q9u Bal.cs (i := i) (j := j) (by omega) (by omega) hx
     have hxm := List.mem_of_getElem? hx
     have hc := z2t (f := f) hx
     refine xs rfl (nn_ _) (qd rfl [] (Tk (Rg 0 4) (.take 4 [6, 7] (.take 5 [6, 7] (.alt 6 (.take 7 [] .done) .nil)))) (by kernel_rfl) (xs rfl (y9u (by omega) (by omega)) (y9 rfl _ hg (xs rfl rfl (z7 rfl (hf _ hxm) rfl ⟨tv4, tv4, trivial⟩ ?_)))))
     refine xb rfl (fun b0 => ?_) (fun b0 => ?_); rotate_left
     rotate_left
     · refine q9 rfl (hJ _ ((i + j) / 2 + 1, j) ⟨by dsimp only; omega, hj, ?_⟩ (by dsimp only; omega) ⟨⟨?_, rfl, rfl, rfl, ⟨rfl, rfl, rfl⟩, rfl, trivial⟩, ⟨lcr, trivial⟩, rfl⟩)
       · rw [← he, q7e h (hc.trans b0)]
       · rw [half (by omega) (by omega)]; exact cwi (by omega) (by omega) (by omega)
     · refine q9 rfl (hJ _ (i, (i + j) / 2) ⟨by dsimp only; omega, by dsimp only; omega, ?_⟩ (by dsimp only; omega) ⟨⟨rfl, ci (half (by omega) (by omega)), rfl, rfl, ⟨rfl, rfl, rfl⟩, rfl, trivial⟩, ⟨lcr, trivial⟩, rfl⟩)
       rw [← he, y7e h (hc.trans b0)]
   · have h : ¬ i < j := by simpa using h
     rw [z5h h] at he
     by_cases hin : i < us.length
     · obtain ⟨x, hx⟩ := gx hin
       have hg := gm Bal.cs hx
       have hxm := List.mem_of_getElem? hx
       have hF := y2t he.symm hx
       refine qd rfl [] (Tk (Rg 0 9) (.take 9 (Rg 11 5) (.take 10 (Rg 11 5) (.alt 11 (Tk (Rg 12 4) .done) .nil)))) (by kernel_rfl) ?_
       refine xb rfl ?_ ?_ <;> intro b0
       refine xj (k := 3) rfl (xs rfl (nn_ _) (y9 rfl _ hg (xs rfl rfl (xj (k := 3) rfl (z7 rfl (hf _ hxm) rfl ⟨tv4, tv4, trivial⟩ (xj (k := 2) rfl ?_))))))
       refine xr rfl (qm rfl ⟨(by decide), ⟨⟨rfl, ?_, trivial⟩, ⟨rfl, ?_, trivial⟩, trivial⟩, z6 rfl⟩); rotate_left
       rotate_left
       refine xj (k := 8) rfl ?_
       refine xr rfl (qm rfl ⟨(by decide), ⟨⟨rfl, ?_, trivial⟩, ⟨rfl, ?_, trivial⟩, trivial⟩, z6 rfl⟩); rotate_left
       rotate_left
       all_goals first | (exfalso; simp at b0; omega) | (refine vi ?_; rw [he]; done) | (refine vb ?_; rw [hF]; done)
     · have hF := y44 he.symm (by omega)
       refine qd rfl [] (Tk (Rg 0 9) (.take 9 (Rg 11 5) (.take 10 (Rg 11 5) (.alt 11 (Tk (Rg 12 4) .done) .nil)))) (by kernel_rfl) ?_
       refine xb rfl ?_ ?_ <;> intro b0
       refine xj (k := 3) rfl ?_
       refine xs rfl (nn_ _) ?_; rotate_left
       refine xj (k := 8) rfl ?_
       refine xr rfl (qm rfl ⟨(by decide), ⟨⟨rfl, ?_, trivial⟩, ⟨rfl, ?_, trivial⟩, trivial⟩, z6 rfl⟩); rotate_left
       rotate_left
       all_goals first | (exfalso; simp at b0; omega) | (refine vi ?_; rw [he]; done) | (refine vb ?_; rw [hF]; done)
theorem z9y (rr : List (List Cell)) (us : List Leg) (p : Leg → Bool) (fn : Nat) (c0 : Cell) (hr : rr = us.map Leg.cs) (hf : ∀ x ∈ us, PC Tryz.prog fn [.agg x.cs, .one c0] (rB (p x))) (hl : us.length ≤ 1048576) : PC Tryz.prog 336 [.one (.l rr), .one (.f fn [c0])] (rI (z1d p us)) := by
 refine PC.begin Tryz.func336 rfl (by kernel_rfl) ?_
 subst hr
 have hn : (us.map Leg.cs).length = us.length := by simp
 refine qc rfl (ι := Nat) (fun i => i ≤ us.length ∧ ∀ j y, j < i → us[j]? = some y → p y = false) (fun i => ⟨[(8, sV (.int .i64 i)), (7, sV (.int .i64 (us.map Leg.cs).length)), (0, .one (.b (.l (us.map Leg.cs)))), (1, .one (.b (.f fn [c0])))], []⟩) (fun i => us.length - i) 0 ⟨Nat.zero_le _, fun j y hj => by omega⟩ ?_ ?_
 · exact ⟨⟨rfl, rfl, rfl, rfl, trivial⟩, trivial, rfl⟩
 · intro i ⟨hi, h0⟩ J hJ
   refine xb rfl ?_ ?_ <;> intro h
   · have h : i < us.length := by simpa using h
     obtain ⟨x, hx⟩ := gx h
     have hg := gm Leg.cs hx
     have hxm := List.mem_of_getElem? hx
     refine xs rfl (nn_ _) (y9 rfl _ hg (xs rfl rfl (z7 rfl (hf _ hxm) rfl ⟨tv5, trivial, trivial⟩ ?_)))
     refine xb rfl ?_ ?_ <;> intro b0
     refine xv rfl rfl rfl ?_; rotate_left
     rotate_left
     · exact vi (q07 hx h0 b0).symm
     · exact q9 rfl (hJ _ (i + 1) ⟨by omega, qg hx h0 b0⟩ (by omega) ⟨⟨cwi (by omega) (by omega) (by omega), rfl, rfl, rfl, trivial⟩, trivial, rfl⟩)
   · have h : ¬ i < us.length := by simpa using h
     refine xv rfl rfl rfl ?_
     exact vi (q01 (zk (by omega) h0)).symm
theorem y5f (rr : List (List Cell)) (us : List Leg) (p : Leg → Bool) (fn : Nat) (c0 : Cell) (hr : rr = us.map Leg.cs) (hf : ∀ x ∈ us, PC Tryz.prog fn [.agg x.cs, .one c0] (rB (p x))) (hl : us.length ≤ 1048576) : PC Tryz.prog 265 [.one (.l rr), .one (.f fn [c0])] (rB (us.any p)) := by
 refine PC.begin Tryz.func265 rfl (by kernel_rfl) ?_
 have hi := z9y rr us p fn c0 hr hf hl
 refine z7 rfl (hi) rfl tv3 (xv rfl rfl rfl ?_)
 exact vb q0g
theorem y9y (rr : List (List Cell)) (us : List Leg) (p : Leg → Bool) (fn : Nat) (c0 : Cell) (c1 : Cell) (hr : rr = us.map Leg.cs) (hf : ∀ x ∈ us, PC Tryz.prog fn [.agg x.cs, .one c0, .one c1] (rB (p x))) (hl : us.length ≤ 1048576) : PC Tryz.prog 336 [.one (.l rr), .one (.f fn [c0, c1])] (rI (z1d p us)) := by
 refine PC.begin Tryz.func336 rfl (by kernel_rfl) ?_
 subst hr
 have hn : (us.map Leg.cs).length = us.length := by simp
 refine qc rfl (ι := Nat) (fun i => i ≤ us.length ∧ ∀ j y, j < i → us[j]? = some y → p y = false) (fun i => ⟨[(8, sV (.int .i64 i)), (7, sV (.int .i64 (us.map Leg.cs).length)), (0, .one (.b (.l (us.map Leg.cs)))), (1, .one (.b (.f fn [c0, c1])))], []⟩) (fun i => us.length - i) 0 ⟨Nat.zero_le _, fun j y hj => by omega⟩ ?_ ?_
 · exact ⟨⟨rfl, rfl, rfl, rfl, trivial⟩, trivial, rfl⟩
 · intro i ⟨hi, h0⟩ J hJ
   refine xb rfl ?_ ?_ <;> intro h
   · have h : i < us.length := by simpa using h
     obtain ⟨x, hx⟩ := gx h
     have hg := gm Leg.cs hx
     have hxm := List.mem_of_getElem? hx
     refine xs rfl (nn_ _) (y9 rfl _ hg (xs rfl rfl (z7 rfl (hf _ hxm) rfl ⟨tv5, trivial, trivial, trivial⟩ ?_)))
     refine xb rfl ?_ ?_ <;> intro b0
     refine xv rfl rfl rfl ?_; rotate_left
     rotate_left
     · exact vi (q07 hx h0 b0).symm
     · exact q9 rfl (hJ _ (i + 1) ⟨by omega, qg hx h0 b0⟩ (by omega) ⟨⟨cwi (by omega) (by omega) (by omega), rfl, rfl, rfl, trivial⟩, trivial, rfl⟩)
   · have h : ¬ i < us.length := by simpa using h
     refine xv rfl rfl rfl ?_
     exact vi (q01 (zk (by omega) h0)).symm
theorem y9n (rr : List (List Cell)) (us : List Leg) (p : Leg → Bool) (fn : Nat) (c0 : Cell) (c1 : Cell) (hr : rr = us.map Leg.cs) (hf : ∀ x ∈ us, PC Tryz.prog fn [.agg x.cs, .one c0, .one c1] (rB (p x))) (hl : us.length ≤ 1048576) : PC Tryz.prog 265 [.one (.l rr), .one (.f fn [c0, c1])] (rB (us.any p)) := by
 refine PC.begin Tryz.func265 rfl (by kernel_rfl) ?_
 have hi := y9y rr us p fn c0 c1 hr hf hl
 refine z7 rfl (hi) rfl tv3 (xv rfl rfl rfl ?_)
 exact vb q0g
theorem z9x (rr : List (List Cell)) (us : List Con) (p : Con → Bool) (fn : Nat) (c0 : Cell) (c1 : Cell) (hr : rr = us.map Con.cs) (hf : ∀ x ∈ us, PC Tryz.prog fn [.agg x.cs, .one c0, .one c1] (rB (p x))) (hl : us.length ≤ 1048576) : PC Tryz.prog 134 [.one (.l rr), .one (.f fn [c0, c1])] (rI (z1d p us)) := by
 refine PC.begin Tryz.func134 rfl (by kernel_rfl) ?_
 subst hr
 have hn : (us.map Con.cs).length = us.length := by simp
 refine qc rfl (ι := Nat) (fun i => i ≤ us.length ∧ ∀ j y, j < i → us[j]? = some y → p y = false) (fun i => ⟨[(8, sV (.int .i64 i)), (7, sV (.int .i64 (us.map Con.cs).length)), (0, .one (.b (.l (us.map Con.cs)))), (1, .one (.b (.f fn [c0, c1])))], []⟩) (fun i => us.length - i) 0 ⟨Nat.zero_le _, fun j y hj => by omega⟩ ?_ ?_
 · exact ⟨⟨rfl, rfl, rfl, rfl, trivial⟩, trivial, rfl⟩
 · intro i ⟨hi, h0⟩ J hJ
   refine xb rfl ?_ ?_ <;> intro h
   · have h : i < us.length := by simpa using h
     obtain ⟨x, hx⟩ := gx h
     have hg := gm Con.cs hx
     have hxm := List.mem_of_getElem? hx
     refine xs rfl (nn_ _) (y9 rfl _ hg (xs rfl rfl (z7 rfl (hf _ hxm) rfl ⟨tv3, trivial, trivial, trivial⟩ ?_)))
     refine xb rfl ?_ ?_ <;> intro b0
     refine xv rfl rfl rfl ?_; rotate_left
     rotate_left
     · exact vi (q07 hx h0 b0).symm
     · exact q9 rfl (hJ _ (i + 1) ⟨by omega, qg hx h0 b0⟩ (by omega) ⟨⟨cwi (by omega) (by omega) (by omega), rfl, rfl, rfl, trivial⟩, trivial, rfl⟩)
   · have h : ¬ i < us.length := by simpa using h
     refine xv rfl rfl rfl ?_
     exact vi (q01 (zk (by omega) h0)).symm
theorem q9m (rr : List (List Cell)) (us : List Con) (p : Con → Bool) (fn : Nat) (c0 : Cell) (c1 : Cell) (hr : rr = us.map Con.cs) (hf : ∀ x ∈ us, PC Tryz.prog fn [.agg x.cs, .one c0, .one c1] (rB (p x))) (hl : us.length ≤ 1048576) : PC Tryz.prog 341 [.one (.l rr), .one (.f fn [c0, c1])] (rB (us.any p)) := by
 refine PC.begin Tryz.func341 rfl (by kernel_rfl) ?_
 have hi := z9x rr us p fn c0 c1 hr hf hl
 refine z7 rfl (hi) rfl tv3 (xv rfl rfl rfl ?_)
 exact vb q0g
theorem y0v (us : List Mk) (c : Int) (hl : us.length ≤ 1048576) : PC Tryz.prog 66 [.one (.l (us.map Mk.cs)), .one (i64 c)] (rI (q0l us c)) := by
 refine PC.begin Tryz.func66 rfl (by kernel_rfl) ?_
 refine qc rfl (ι := Nat) (fun i => i ≤ us.length ∧ ∀ j y, j < i → us[j]? = some y → ¬ y.c = c) (fun i => ⟨[(5, sV (.int .i64 i)), (0, .one (.b (.l (us.map Mk.cs)))), (1, sV (.int .i64 c))], []⟩) (fun i => us.length - i) 0 ⟨Nat.zero_le _, fun j y hj => by omega⟩ ?_ ?_
 · exact ⟨⟨rfl, rfl, rfl, trivial⟩, trivial, rfl⟩
 · intro i ⟨hi, h0⟩ J hJ
   refine xb rfl ?_ ?_ <;> intro h
   · have h : i < us.length := by simpa using h
     obtain ⟨x, hx⟩ := gx h
     have hg := gm Mk.cs hx
     refine xs rfl (nn_ _) (y9 rfl _ hg (xs rfl rfl ?_))
     refine xb rfl ?_ ?_ <;> intro b0
     refine xs rfl (nn_ _) (y9 rfl _ hg (xs rfl rfl ?_))
     refine xv rfl rfl rfl ?_; rotate_left
     rotate_left
     · exact vi (y1c hx h0 (by simpa using b0)).symm
     · exact q9 rfl (hJ _ (i + 1) ⟨by omega, qg hx h0 (by simpa using b0)⟩ (by omega) ⟨⟨cwi (by omega) (by omega) (by omega), rfl, rfl, trivial⟩, trivial, rfl⟩)
   · have h : ¬ i < us.length := by simpa using h
     refine xv rfl rfl rfl ?_
     exact vi (z1k (zk (by omega) h0)).symm
theorem y90 (us : List Bal) (hl : us.length ≤ 1048576) : PC Tryz.prog 103 [.one (.l (us.map Bal.cs))] (rI (ql us)) := by
 refine PC.begin Tryz.func103 rfl (by kernel_rfl) ?_
 refine xb rfl ?_ ?_ <;> intro hn
 · have hn : 18 < us.length := by simp at hn; omega
   refine xv rfl rfl rfl ?_
   exact vi (by rw [ql, if_pos hn])
 have hn : ¬ 18 < us.length := by simp at hn; omega
 have hr : ql us = scan (y2h us) us.length := by rw [ql, if_neg hn]
 rw [hr]
 refine qc rfl (ι := Nat) (fun i => i ≤ us.length ∧ ∀ j, j < i → y2h us j = 0) (fun i => ⟨[(3, sV (.int .i64 i)), (0, .one (.b (.l (us.map Bal.cs))))], []⟩) (fun i => us.length - i) 0 ⟨Nat.zero_le _, fun j hj => by omega⟩ ?_ ?_
 · exact ⟨⟨rfl, rfl, trivial⟩, trivial, rfl⟩
 · intro i ⟨hi, h0⟩ J hJ
   refine xb rfl ?_ ?_ <;> intro h
   · have h : i < us.length := by simpa using h
     obtain ⟨x, hx⟩ := gx h
     have hg := gm Bal.cs hx
     rcases Nat.eq_zero_or_pos i with hz | hz
     · subst hz
       refine xs rfl (nn_ _) (y9 rfl _ hg (xs rfl rfl (z7 rfl (z6c _ _) rfl tv3 ?_)))
       refine xb rfl ?_ ?_ <;> intro b0
       refine xj (k := 5) rfl ?_
       refine xv rfl rfl rfl ?_; rotate_left
       refine xj (k := 2) rfl (z7 rfl (qi _ _ _) rfl tv4 (xj (k := 2) rfl ?_))
       refine xb rfl ?_ ?_ <;> intro b1
       refine xv rfl rfl rfl ?_; rotate_left
       refine qd rfl [] (Tk (Rg 0 4) (.take 4 [5, 8, 23, 24] (Tk [5, 6] (.take 7 [8, 23, 24] (Tk (Rg 8 6) (.take 14 [15, 22, 23, 24] (Tk (Rg 15 6) (.take 21 (Rg 22 3) (Tk [22, 23, 24] .done))))))))) (by kernel_rfl) ?_
       refine xj (k := 23) rfl ?_; rotate_left
       all_goals (first | (refine vi (q8 h h0 ?_ (by first | decide | decide | simp_all)); clear hJ h0 hg; first | (simp_all [y2h, Bal.bad, ahead_zero]; done) | (have hxb : x.bad = false := (by simp_all [Bal.bad]); simp only [Bal.q0u hxb, Bal.q0u hpb] at *; simp_all [y2h, ya hz hp]; done)) | (refine q9 rfl (hJ _ 1 ⟨by omega, qb h0 ?_⟩ (by omega) ⟨⟨cwi (by omega) (by omega) (by omega), rfl, trivial⟩, trivial, rfl⟩); clear hJ h0 hg; first | (simp_all [y2h, Bal.bad, ahead_zero]; done) | (have hxb : x.bad = false := (by simp_all [Bal.bad]); simp only [Bal.q0u hxb, Bal.q0u hpb] at *; simp_all [y2h, ya hz hp]; done)))
     · obtain ⟨p, hp⟩ := gx (xs := us) (i := i - 1) (by omega)
       have hgp := q19 Bal.cs hz (by omega) hp
       have hpb := z5g hp (h0 (i - 1) (by omega))
       refine xs rfl (nn_ _) (y9 rfl _ hg (xs rfl rfl (z7 rfl (z6c _ _) rfl tv3 ?_)))
       refine xb rfl ?_ ?_ <;> intro b0
       refine xj (k := 5) rfl ?_
       refine xv rfl rfl rfl ?_; rotate_left
       refine xj (k := 2) rfl (z7 rfl (qi _ _ _) rfl tv4 (xj (k := 2) rfl ?_))
       refine xb rfl ?_ ?_ <;> intro b1
       refine xv rfl rfl rfl ?_; rotate_left
       refine qd rfl [] (Tk (Rg 0 4) (.take 4 [5, 8, 23, 24] (Tk [5, 6] (.take 7 [8, 23, 24] (Tk (Rg 8 6) (.take 14 [15, 22, 23, 24] (Tk (Rg 15 6) (.take 21 (Rg 22 3) (Tk [22, 23, 24] .done))))))))) (by kernel_rfl) ?_
       refine xb rfl ?_ ?_ <;> intro b2
       refine xj (k := 9) rfl (xs rfl (q0m hz (by omega)) (y9 rfl _ hgp (xs rfl rfl (xj (k := 7) rfl (xs rfl (q0m hz (by omega)) (y9 rfl _ hgp (xs rfl rfl (xj (k := 5) rfl ?_))))))))
       refine xb rfl ?_ ?_ <;> intro b3
       refine xv rfl rfl rfl ?_; rotate_left
       rotate_left
       refine xj (k := 22) rfl ?_; rotate_left
       all_goals (first | (refine vi (q8 h h0 ?_ (by first | decide | decide | simp_all)); clear hJ h0 hg hgp; first | (simp_all [ya hz hp, y2h, Bal.bad, ahead_zero]; done) | (have hxb : x.bad = false := (by simp_all [Bal.bad]); simp only [Bal.q0u hxb, Bal.q0u hpb] at *; simp_all [y2h, ya hz hp]; done)) | (refine q9 rfl (hJ _ (i + 1) ⟨by omega, qb h0 ?_⟩ (by omega) ⟨⟨cwi (by omega) (by omega) (by omega), rfl, trivial⟩, trivial, rfl⟩); clear hJ h0 hg hgp; first | (simp_all [ya hz hp, y2h, Bal.bad, ahead_zero]; done) | (have hxb : x.bad = false := (by simp_all [Bal.bad]); simp only [Bal.q0u hxb, Bal.q0u hpb] at *; simp_all [y2h, ya hz hp]; done)))
   · have h : ¬ i < us.length := by simpa using h
     have hz := zg (f := y2h us) (n := us.length) (fun j hj => h0 j (by omega))
     refine xv rfl rfl rfl ?_
     exact vi (hz.symm)
theorem z0j (p x : Bal) : PC Tryz.prog 214 [.agg p.cs, .agg x.cs] (rI (q0b p x)) := by
 refine PC.begin Tryz.func214 rfl (by kernel_rfl) ?_
 refine qd rfl [] (.take 0 [] (.take 1 [4, 9, 10, 11, 12] (.take 2 [] (.take 3 [4, 9, 10, 11, 12] (.take 5 [] (.take 6 (Rg 9 4) (.take 7 [] (.take 8 (Rg 9 4) (.alt 4 (.alt 9 (.alt 10 (.alt 11 (.take 12 [] .done) .nil) .nil) .nil) .nil))))))))) (by kernel_rfl) (z7 rfl (yu _ _) rfl tv3 (z7 rfl (yu _ _) rfl tv3 (xs rfl tv3 (z7 rfl (y8x [_, _] (by simp)) rfl ⟨rfl, trivial⟩ ?_))))
 refine xr rfl (qm rfl ⟨⟨rfl, rfl, trivial⟩, z6 rfl⟩)
theorem z8r (us : List Bal) (hl : us.length ≤ 1048576) : PC Tryz.prog 126 [.one (.l (us.map Bal.cs))] (rI (ql us)) := by
 refine PC.begin Tryz.func126 rfl (by kernel_rfl) ?_
 refine xb rfl ?_ ?_ <;> intro hn
 · have hn : 18 < us.length := by simp at hn; omega
   refine xv rfl rfl rfl ?_
   exact vi (by rw [ql, if_pos hn])
 have hn : ¬ 18 < us.length := by simp at hn; omega
 have hr : ql us = scan (y2h us) us.length := by rw [ql, if_neg hn]
 rw [hr]
 have hle : (us.map Bal.cs).length = us.length := by simp
 refine qc rfl (ι := Nat) (fun i => i ≤ us.length ∧ ∀ j, j < i → y2h us j = 0) (fun i => ⟨[(10, sV (.int .i64 i)), (9, sV (.int .i64 (us.map Bal.cs).length)), (8, .one (.b (.l (us.map Bal.cs)))), (0, .one (.b (.l (us.map Bal.cs))))], []⟩) (fun i => us.length - i) 0 ⟨Nat.zero_le _, fun j hj => by omega⟩ ?_ ?_
 · exact ⟨⟨rfl, rfl, rfl, rfl, trivial⟩, trivial, rfl⟩
 · intro i ⟨hi, h0⟩ J hJ
   refine xb rfl ?_ ?_ <;> intro h
   · have h : i < us.length := by simpa using h
     obtain ⟨x, hx⟩ := gx h
     have hg := gm Bal.cs hx
     rcases Nat.eq_zero_or_pos i with hz | hz
     · subst hz
       refine xs rfl (nn_ _) (y9 rfl _ hg (xs rfl rfl (z7 rfl (z2e _ _) rfl tv3 ?_)))
       refine xb rfl ?_ ?_ <;> intro b0
       refine xj (k := 5) rfl ?_
       refine xv rfl rfl rfl ?_; rotate_left
       refine xj (k := 2) rfl (z7 rfl (zn _ _ _) rfl tv4 (xj (k := 2) rfl ?_))
       refine xb rfl ?_ ?_ <;> intro b1
       refine xv rfl rfl rfl ?_; rotate_left
       refine qd rfl [] (Tk (Rg 0 7) (.take 7 (Rg 9 4) (.take 8 (Rg 9 4) (.alt 9 (Tk [10, 11, 12] .done) .nil)))) (by kernel_rfl) ?_
       refine xj (k := 10) rfl ?_; rotate_left
       all_goals (first | (refine vi (q8 h h0 ?_ (by first | decide | decide | simp_all)); clear hJ h0 hg; first | (simp_all [y2h, Bal.bad, ahead_zero]; done) | (have hxb : x.bad = false := (by simp_all [Bal.bad]); have hc := y27 hpb hxb; (simp_all [y2h, ya hz hp] <;> omega))) | (refine q9 rfl (hJ _ 1 ⟨by omega, qb h0 ?_⟩ (by omega) ⟨⟨cwi (by omega) (by omega) (by omega), rfl, rfl, rfl, trivial⟩, trivial, rfl⟩); clear hJ h0 hg; first | (simp_all [y2h, Bal.bad, ahead_zero]; done) | (have hxb : x.bad = false := (by simp_all [Bal.bad]); have hc := y27 hpb hxb; (simp_all [y2h, ya hz hp] <;> omega))))
     · obtain ⟨p, hp⟩ := gx (xs := us) (i := i - 1) (by omega)
       have hgp := q19 Bal.cs hz (by omega) hp
       have hpb := z5g hp (h0 (i - 1) (by omega))
       refine xs rfl (nn_ _) (y9 rfl _ hg (xs rfl rfl (z7 rfl (z2e _ _) rfl tv3 ?_)))
       refine xb rfl ?_ ?_ <;> intro b0
       refine xj (k := 5) rfl ?_
       refine xv rfl rfl rfl ?_; rotate_left
       refine xj (k := 2) rfl (z7 rfl (zn _ _ _) rfl tv4 (xj (k := 2) rfl ?_))
       refine xb rfl ?_ ?_ <;> intro b1
       refine xv rfl rfl rfl ?_; rotate_left
       refine qd rfl [] (Tk (Rg 0 7) (.take 7 (Rg 9 4) (.take 8 (Rg 9 4) (.alt 9 (Tk [10, 11, 12] .done) .nil)))) (by kernel_rfl) ?_
       refine xb rfl ?_ ?_ <;> intro b2
       refine xj (k := 3) rfl (xs rfl (q0m hz (by omega)) (y9 rfl _ hgp (xs rfl rfl (xj (k := 3) rfl (z7 rfl (z0j _ _) rfl ⟨tv4, tv4, trivial⟩ (xj (k := 2) rfl ?_))))))
       refine xb rfl ?_ ?_ <;> intro b3
       refine xv rfl rfl rfl ?_; rotate_left
       rotate_left
       refine xj (k := 9) rfl ?_; rotate_left
       all_goals (first | (refine vi (q8 h h0 ?_ (by first | decide | decide | simp_all)); clear hJ h0 hg hgp; first | (simp_all [ya hz hp, y2h, Bal.bad, ahead_zero]; done) | (have hxb : x.bad = false := (by simp_all [Bal.bad]); have hc := y27 hpb hxb; (simp_all [y2h, ya hz hp] <;> omega))) | (refine q9 rfl (hJ _ (i + 1) ⟨by omega, qb h0 ?_⟩ (by omega) ⟨⟨cwi (by omega) (by omega) (by omega), rfl, rfl, rfl, trivial⟩, trivial, rfl⟩); clear hJ h0 hg hgp; first | (simp_all [ya hz hp, y2h, Bal.bad, ahead_zero]; done) | (have hxb : x.bad = false := (by simp_all [Bal.bad]); have hc := y27 hpb hxb; (simp_all [y2h, ya hz hp] <;> omega))))
   · have h : ¬ i < us.length := by simpa using h
     have hz := zg (f := y2h us) (n := us.length) (fun j hj => h0 j (by omega))
     refine xv rfl rfl rfl ?_
     exact vi (hz.symm)
theorem q57 (us : List Mk) (hl : us.length ≤ 1048576) : PC Tryz.prog 253 [.one (.l (us.map Mk.cs))] (rI (yi us)) := by
 refine PC.begin Tryz.func253 rfl (by kernel_rfl) ?_
 refine qc rfl (ι := Nat) (fun i => i ≤ us.length ∧ ∀ j, j < i → z24 us j = 0) (fun i => ⟨[(3, sV (.int .i64 i)), (0, .one (.b (.l (us.map Mk.cs))))], []⟩) (fun i => us.length - i) 0 ⟨Nat.zero_le _, fun j hj => by omega⟩ ?_ ?_
 · exact ⟨⟨rfl, rfl, trivial⟩, trivial, rfl⟩
 · intro i ⟨hi, h0⟩ J hJ
   refine xb rfl ?_ ?_ <;> intro h
   · have h : i < us.length := by simpa using h
     obtain ⟨x, hx⟩ := gx h
     have hg := gm Mk.cs hx
     rcases Nat.eq_zero_or_pos i with hz | hz
     · subst hz
       refine xs rfl (nn_ _) (y9 rfl _ hg (xs rfl rfl (z7 rfl (q4c _) rfl ⟨trivial, trivial⟩ ?_)))
       refine xb rfl ?_ ?_ <;> intro b0
       refine xj (k := 8) rfl ?_
       refine xv rfl rfl rfl ?_; rotate_left
       refine xj (k := 2) rfl (xs rfl (nn_ _) (y9 rfl _ hg (xs rfl rfl (xj (k := 3) rfl (z7 rfl (qi _ _ _) rfl tv4 (xj (k := 2) rfl ?_))))))
       refine xb rfl ?_ ?_ <;> intro b1
       refine xv rfl rfl rfl ?_; rotate_left
       refine qd rfl [] (Tk (Rg 0 7) (.take 7 [14, 15] (Tk (Rg 8 5) (.take 13 [14, 15] (Tk [14, 15] .done))))) (by kernel_rfl) ?_
       refine xj (k := 14) rfl ?_; rotate_left
       all_goals (first | (refine vi (q8 h h0 ?_ (by first | decide | decide | simp_all)); clear hJ h0 hg; simp_all [z24, ahead_zero]) | (refine q9 rfl (hJ _ 1 ⟨by omega, qb h0 ?_⟩ (by omega) ⟨⟨cwi (by omega) (by omega) (by omega), rfl, trivial⟩, trivial, rfl⟩); clear hJ h0 hg; simp_all [z24, ahead_zero]))
     · obtain ⟨p, hp⟩ := gx (xs := us) (i := i - 1) (by omega)
       have hgp := q19 Mk.cs hz (by omega) hp
       refine xs rfl (nn_ _) (y9 rfl _ hg (xs rfl rfl (z7 rfl (q4c _) rfl ⟨trivial, trivial⟩ ?_)))
       refine xb rfl ?_ ?_ <;> intro b0
       refine xj (k := 8) rfl ?_
       refine xv rfl rfl rfl ?_; rotate_left
       refine xj (k := 2) rfl (xs rfl (nn_ _) (y9 rfl _ hg (xs rfl rfl (xj (k := 3) rfl (z7 rfl (qi _ _ _) rfl tv4 (xj (k := 2) rfl ?_))))))
       refine xb rfl ?_ ?_ <;> intro b1
       refine xv rfl rfl rfl ?_; rotate_left
       refine qd rfl [] (Tk (Rg 0 7) (.take 7 [14, 15] (Tk (Rg 8 5) (.take 13 [14, 15] (Tk [14, 15] .done))))) (by kernel_rfl) ?_
       refine xb rfl ?_ ?_ <;> intro b2
       refine xj (k := 2) rfl (xs rfl (nn_ _) (y9 rfl _ hg (xs rfl rfl (xj (k := 6) rfl (xs rfl (q0m hz (by omega)) (y9 rfl _ hgp (xs rfl rfl (xj (k := 4) rfl ?_))))))))
       refine xb rfl ?_ ?_ <;> intro b3
       refine xv rfl rfl rfl ?_; rotate_left
       rotate_left
       refine xj (k := 13) rfl ?_; rotate_left
       all_goals (first | (refine vi (q8 h h0 ?_ (by first | decide | decide | simp_all)); clear hJ h0 hg hgp; simp_all [ya hz hp, z24, ahead_zero]) | (refine q9 rfl (hJ _ (i + 1) ⟨by omega, qb h0 ?_⟩ (by omega) ⟨⟨cwi (by omega) (by omega) (by omega), rfl, trivial⟩, trivial, rfl⟩); clear hJ h0 hg hgp; simp_all [ya hz hp, z24, ahead_zero]))
   · have h : ¬ i < us.length := by simpa using h
     have hz := zg (f := z24 us) (n := us.length) (fun j hj => h0 j (by omega))
     refine xv rfl rfl rfl ?_
     exact vi (hz.symm)
theorem z4z (us : List Mk) (fn : Nat) (hf : ∀ v, PC Tryz.prog fn [.one (i64 v)] (rB (within v 1 2))) (hl : us.length ≤ 1048576) : PC Tryz.prog 270 [.one (.l (us.map Mk.cs)), .one (.f fn [])] (rI (yi us)) := by
 refine PC.begin Tryz.func270 rfl (by kernel_rfl) ?_
 have hle : (us.map Mk.cs).length = us.length := by simp
 refine qc rfl (ι := Nat) (fun i => i ≤ us.length ∧ ∀ j, j < i → z24 us j = 0) (fun i => ⟨[(9, sV (.int .i64 i)), (8, sV (.int .i64 (us.map Mk.cs).length)), (7, .one (.b (.l (us.map Mk.cs)))), (0, .one (.b (.l (us.map Mk.cs)))), (1, .one (.b (.f fn [])))], []⟩) (fun i => us.length - i) 0 ⟨Nat.zero_le _, fun j hj => by omega⟩ ?_ ?_
 · exact ⟨⟨rfl, rfl, rfl, rfl, rfl, trivial⟩, trivial, rfl⟩
 · intro i ⟨hi, h0⟩ J hJ
   refine xb rfl ?_ ?_ <;> intro h
   · have h : i < us.length := by simpa using h
     obtain ⟨x, hx⟩ := gx h
     have hg := gm Mk.cs hx
     rcases Nat.eq_zero_or_pos i with hz | hz
     · subst hz
       refine xs rfl (nn_ _) (y9 rfl _ hg (xs rfl rfl (z7 rfl (y4c _) rfl ⟨trivial, trivial⟩ ?_)))
       refine xb rfl ?_ ?_ <;> intro b0
       refine xj (k := 6) rfl ?_
       refine xv rfl rfl rfl ?_; rotate_left
       refine xj (k := 3) rfl (z7 rfl (hf _) rfl ⟨trivial, trivial⟩ (xj (k := 2) rfl ?_))
       refine xb rfl ?_ ?_ <;> intro b1
       refine xv rfl rfl rfl ?_; rotate_left
       refine qd rfl [] (Tk (Rg 0 8) (.take 8 (Rg 11 3) (.take 9 [] (.take 10 (Rg 11 3) (Tk [11, 12, 13] .done))))) (by kernel_rfl) ?_
       refine xj (k := 11) rfl ?_; rotate_left
       all_goals (first | (refine vi (q8 h h0 ?_ (by first | decide | decide | simp_all)); clear hJ h0 hg; simp_all [z24, ahead_zero]) | (refine q9 rfl (hJ _ 1 ⟨by omega, qb h0 ?_⟩ (by omega) ⟨⟨cwi (by omega) (by omega) (by omega), rfl, rfl, rfl, rfl, trivial⟩, trivial, rfl⟩); clear hJ h0 hg; simp_all [z24, ahead_zero]))
     · obtain ⟨p, hp⟩ := gx (xs := us) (i := i - 1) (by omega)
       have hgp := q19 Mk.cs hz (by omega) hp
       refine xs rfl (nn_ _) (y9 rfl _ hg (xs rfl rfl (z7 rfl (y4c _) rfl ⟨trivial, trivial⟩ ?_)))
       refine xb rfl ?_ ?_ <;> intro b0
       refine xj (k := 6) rfl ?_
       refine xv rfl rfl rfl ?_; rotate_left
       refine xj (k := 3) rfl (z7 rfl (hf _) rfl ⟨trivial, trivial⟩ (xj (k := 2) rfl ?_))
       refine xb rfl ?_ ?_ <;> intro b1
       refine xv rfl rfl rfl ?_; rotate_left
       refine qd rfl [] (Tk (Rg 0 8) (.take 8 (Rg 11 3) (.take 9 [] (.take 10 (Rg 11 3) (Tk [11, 12, 13] .done))))) (by kernel_rfl) ?_
       refine xb rfl ?_ ?_ <;> intro b2
       refine xj (k := 3) rfl (xs rfl (q0m hz (by omega)) (y9 rfl _ hgp (xs rfl rfl (xj (k := 6) rfl ?_))))
       refine xb rfl ?_ ?_ <;> intro b3
       refine xv rfl rfl rfl ?_; rotate_left
       rotate_left
       refine xj (k := 10) rfl ?_; rotate_left
       all_goals (first | (refine vi (q8 h h0 ?_ (by first | decide | decide | simp_all)); clear hJ h0 hg hgp; simp_all [ya hz hp, z24, ahead_zero]) | (refine q9 rfl (hJ _ (i + 1) ⟨by omega, qb h0 ?_⟩ (by omega) ⟨⟨cwi (by omega) (by omega) (by omega), rfl, rfl, rfl, rfl, trivial⟩, trivial, rfl⟩); clear hJ h0 hg hgp; simp_all [ya hz hp, z24, ahead_zero]))
   · have h : ¬ i < us.length := by simpa using h
     have hz := zg (f := z24 us) (n := us.length) (fun j hj => h0 j (by omega))
     refine xv rfl rfl rfl ?_
     exact vi (hz.symm)
theorem q0n (v : Int) : PC Tryz.prog 271 [.one (i64 v)] (rB (within v 1 2)) := by
 refine PC.begin Tryz.func271 rfl (by kernel_rfl) ?_
 refine xb rfl ?_ ?_ <;> intro b0
 refine xj (k := 2) rfl ?_
 refine xv rfl rfl rfl ?_; rotate_left
 refine xj (k := 2) rfl ?_
 refine xv rfl rfl rfl ?_; rotate_left
 all_goals (refine vb ?_; rw [Bool.eq_iff_iff]; (simp_all [within] <;> omega))
theorem z2m (v : Int) : PC Tryz.prog 272 [.one (i64 v)] (rB (within v 1 2)) := by
 refine PC.begin Tryz.func272 rfl (by kernel_rfl) ?_
 refine xb rfl ?_ ?_ <;> intro b0
 refine xj (k := 2) rfl ?_
 refine xv rfl rfl rfl ?_; rotate_left
 refine xj (k := 2) rfl ?_
 refine xv rfl rfl rfl ?_; rotate_left
 all_goals (refine vb ?_; rw [Bool.eq_iff_iff]; (simp_all [within] <;> omega))
theorem y1m (c : Con) (s : Int) (hl : c.legs.length ≤ 1048576) : PC Tryz.prog 41 [.agg c.cs, .one (i64 s)] (.one (.own false [.l 4 ((yn c s).map Leg.cs)])) := by
 refine PC.begin Tryz.func41 rfl (by kernel_rfl) ?_
 refine xs rfl trivial ?_
 refine qc rfl (ι := Nat) (fun i => i ≤ c.legs.length) (fun i => ⟨[(6, sV (.int .i64 i)), (5, .one (.h 7 ((c.legs.take i).filter (fun l => l.s == s)).length)), (1, sV (.int .i64 s)), (2, .one (.a 2 0))], [(7, .arr true 4 0 (((c.legs.take i).filter (fun l => l.s == s)).map Leg.cs)), (2, .var (c.cs.map .b))]⟩) (fun i => c.legs.length - i) 0 (Nat.zero_le _) ?_ ?_
 · exact ⟨⟨rfl, ⟨rfl, rfl, rfl⟩, rfl, ⟨rfl, rfl, rfl⟩, trivial⟩, ⟨⟨rfl, .inl rfl, .inl rfl⟩, lcr, trivial⟩, rfl⟩
 · intro i hi J hJ
   refine xb rfl ?_ ?_ <;> intro h
   · have h : i < c.legs.length := by simpa using h
     obtain ⟨x, hx⟩ := gx h
     have hg := gm Leg.cs hx
     have hf := y13 (p := fun l : Leg => l.s == s) hx
     have hfl : ((c.legs.take i).filter (fun l => l.s == s)).length ≤ i := Nat.le_trans (List.length_filter_le _ _) (by simp; omega)
     refine xs rfl (by simp) (y9 rfl _ hg (xs rfl rfl ?_))
     refine xb rfl ?_ ?_ <;> intro b0
     refine xs rfl (by simp) (y9 rfl _ hg (xs rfl rfl (xs rfl tv5 (xs rfl (by simp) (xs rfl rfl (xs rfl (.inl rfl) (xs rfl (by simp; omega) ?_)))))))
     refine xs rfl (by simp; omega) ?_; rotate_left
     rotate_left
     · refine q9 rfl (hJ _ (i + 1) (by omega) (by omega) ⟨⟨cwi (by omega) (by omega) (by omega), ⟨rfl, ?_, rfl⟩, rfl, ⟨rfl, rfl, rfl⟩, trivial⟩, ⟨⟨?_, .inl rfl, .inl rfl⟩, lcr, trivial⟩, rfl⟩)
       · rw [hf, if_pos (by simpa using b0)]; simp
       · rw [hf, if_pos (by simpa using b0)]; simp
     · refine q9 rfl (hJ _ (i + 1) (by omega) (by omega) ⟨⟨cwi (by omega) (by omega) (by omega), ⟨rfl, ?_, rfl⟩, rfl, ⟨rfl, rfl, rfl⟩, trivial⟩, ⟨⟨?_, .inl rfl, .inl rfl⟩, lcr, trivial⟩, rfl⟩)
       · rw [hf, if_neg (by simpa using b0)]; simp
       · rw [hf, if_neg (by simpa using b0)]; simp
   · have h : ¬ i < c.legs.length := by simpa using h
     have e : i = c.legs.length := by omega
     subst e
     refine xr rfl (qm rfl ⟨⟨rfl, ⟨?_, ?_, .inl rfl⟩, trivial⟩, z6 rfl⟩); rotate_left
     rotate_left
     all_goals first | (simp [yn]; done) | skip
theorem z15 (c : Con) (s : Int) (hl : c.legs.length ≤ 1048576) : PC Tryz.prog 127 [.agg c.cs, .one (i64 s)] (.one (.own false [.l 4 ((yn c s).map Leg.cs)])) := by
 refine PC.begin Tryz.func127 rfl (by kernel_rfl) ?_
 have hle : (c.legs.map Leg.cs).length = c.legs.length := by simp
 refine xs rfl trivial ?_
 refine qc rfl (ι := Nat) (fun i => i ≤ c.legs.length) (fun i => ⟨[(12, sV (.int .i64 i)), (5, .one (.h 8 ((c.legs.take i).filter (fun l => l.s == s)).length)), (1, sV (.int .i64 s)), (10, .one (.b (.l (c.legs.map Leg.cs)))), (11, sV (.int .i64 (c.legs.map Leg.cs).length))], [(8, .arr true 4 0 (((c.legs.take i).filter (fun l => l.s == s)).map Leg.cs))]⟩) (fun i => c.legs.length - i) 0 (Nat.zero_le _) ?_ ?_
 · exact ⟨⟨rfl, ⟨rfl, rfl, rfl⟩, rfl, rfl, rfl, trivial⟩, ⟨⟨rfl, .inl rfl, .inl rfl⟩, trivial⟩, rfl⟩
 · intro i hi J hJ
   refine xb rfl ?_ ?_ <;> intro h
   · have h : i < c.legs.length := by simpa using h
     obtain ⟨x, hx⟩ := gx h
     have hg := gm Leg.cs hx
     have hf := y13 (p := fun l : Leg => l.s == s) hx
     have hfl : ((c.legs.take i).filter (fun l => l.s == s)).length ≤ i := Nat.le_trans (List.length_filter_le _ _) (by simp; omega)
     refine xs rfl (by simp) (y9 rfl _ hg (xs rfl rfl ?_))
     refine xb rfl ?_ ?_ <;> intro b0
     refine xs rfl tv5 (xs rfl (by simp) (xs rfl rfl (xs rfl (.inl rfl) (xs rfl (by simp; omega) ?_))))
     refine xs rfl (by simp; omega) ?_; rotate_left
     rotate_left
     · refine q9 rfl (hJ _ (i + 1) (by omega) (by omega) ⟨⟨cwi (by omega) (by omega) (by omega), ⟨rfl, ?_, rfl⟩, rfl, rfl, rfl, trivial⟩, ⟨⟨?_, .inl rfl, .inl rfl⟩, trivial⟩, rfl⟩)
       · rw [hf, if_pos (by simpa using b0)]; simp
       · rw [hf, if_pos (by simpa using b0)]; simp
     · refine q9 rfl (hJ _ (i + 1) (by omega) (by omega) ⟨⟨cwi (by omega) (by omega) (by omega), ⟨rfl, ?_, rfl⟩, rfl, rfl, rfl, trivial⟩, ⟨⟨?_, .inl rfl, .inl rfl⟩, trivial⟩, rfl⟩)
       · rw [hf, if_neg (by simpa using b0)]; simp
       · rw [hf, if_neg (by simpa using b0)]; simp
   · have h : ¬ i < c.legs.length := by simpa using h
     have e : i = c.legs.length := by omega
     subst e
     refine xr rfl (qm rfl ⟨⟨rfl, ⟨?_, ?_, .inl rfl⟩, trivial⟩, z6 rfl⟩); rotate_left
     rotate_left
     all_goals first | (simp [yn]; done) | skip
theorem q5e (us : List Bal) (a b : Int) (hl : us.length ≤ 1048576) : PC Tryz.prog 383 [.one (.l (us.map Bal.cs)), .one (i64 a), .one (i64 b)] (rI (y4n us a b)) := by
 refine PC.begin Tryz.func383 rfl (by kernel_rfl) ?_
 have hbs := fun fn hf => q8k us (fun x => q0b x ⟨a, b, 0⟩) fn ⟨a, b, 0⟩ hf hl
 cases hq : us[bsP (fun x => q0b x ⟨a, b, 0⟩) us]? with
 | none =>
   have hF : bsF (fun x => q0b x ⟨a, b, 0⟩) us = false := q9b hq
   refine z7 rfl (hbs _ (fun x _ => z0j x _)) rfl ⟨trivial, tv4, (fun _ h => nomatch h), trivial⟩ ?_
   refine xb rfl ?_ ?_ <;> intro b0
   refine xv rfl rfl rfl ?_; rotate_left
   refine xs rfl (nn_ _) ?_; rotate_left
   all_goals first | (exfalso; rw [hF] at b0; cases b0; done) | exact vi (z5f hF)
 | some x =>
   have hg : (us.map Bal.cs)[((bsP (fun x => q0b x ⟨a, b, 0⟩) us : Nat) : Int).toNat]? = some x.cs := gm Bal.cs hq
   refine z7 rfl (hbs _ (fun x _ => z0j x _)) rfl ⟨trivial, tv4, (fun _ h => nomatch h), trivial⟩ ?_
   refine xb rfl ?_ ?_ <;> intro b0
   refine xv rfl rfl rfl ?_; rotate_left
   refine xs rfl (nn_ _) (y9 rfl _ hg (xs rfl rfl ?_))
   refine xv rfl rfl rfl ?_; rotate_left
   · exact vi (z5f (by simpa using b0))
   · exact vi (y64 (by simpa using b0) hq)
theorem q6u (us : List Bal) (l : Leg) (hl : us.length ≤ 1048576) (hb : -9000000000000000000 ≤ y4n us l.a l.b + l.v ∧ y4n us l.a l.b + l.v ≤ 9000000000000000000) : PC Tryz.prog 370 [.one (.l (us.map Bal.cs)), .agg l.cs] (rI (z8v us l)) := by
 refine PC.begin Tryz.func370 rfl (by kernel_rfl) ?_
 have hw : IntKind.i64.wrap (y4n us l.a l.b + l.v) = y4n us l.a l.b + l.v := wrap_i64 (by omega) (by omega)
 refine qd rfl [] (Tk [0, 1] (.take 2 [5, 8, 9] (.take 3 [] (.take 4 [5, 8, 9] (.take 6 [] (.take 7 [8, 9] (.alt 5 (Tk [8, 9] .done) .nil))))))) (by kernel_rfl) (z7 rfl (q5e _ _ _ (by omega)) rfl tv4 ?_)
 refine xb rfl ?_ ?_ <;> intro b0
 refine xv rfl rfl rfl ?_; rotate_left
 refine xb rfl ?_ ?_ <;> intro b1
 refine xv rfl rfl rfl ?_; rotate_left
 refine xv rfl rfl rfl ?_; rotate_left
 all_goals (refine vi ?_; rw [hw] at *; simp_all [z8v]; try (repeat' split) <;> omega)
theorem y72 (us : List Bal) (ls : List Leg) (hl : us.length ≤ 1048576) (hl2 : ls.length ≤ 1048576) (hb : ∀ l ∈ ls, -9000000000000000000 ≤ hasB us l.a l.b + l.v ∧ hasB us l.a l.b + l.v ≤ 9000000000000000000) : PC Tryz.prog 334 [.one (.l (us.map Bal.cs)), .one (.l (ls.map Leg.cs))] (rI (z3o us ls)) := by
 refine PC.begin Tryz.func334 rfl (by kernel_rfl) ?_
 rw [z3o]
 refine qc rfl (ι := Nat) (fun i => i ≤ ls.length ∧ ∀ j, j < i → y6u us ls j = 0) (fun i => ⟨[(5, sV (.int .i64 i)), (0, .one (.b (.l (us.map Bal.cs)))), (1, .one (.b (.l (ls.map Leg.cs))))], []⟩) (fun i => ls.length - i) 0 ⟨Nat.zero_le _, fun j hj => by omega⟩ ?_ ?_
 · exact ⟨⟨rfl, rfl, rfl, trivial⟩, trivial, rfl⟩
 · intro i ⟨hi, h0⟩ J hJ
   refine xb rfl ?_ ?_ <;> intro h
   · have h : i < ls.length := by simpa using h
     obtain ⟨x, hx⟩ := gx h
     have hg := gm Leg.cs hx
     have hbx := hb x (List.mem_of_getElem? hx)
     have hw : IntKind.i64.wrap (hasB us x.a x.b + x.v) = hasB us x.a x.b + x.v := wrap_i64 (by omega) (by omega)
     refine qd rfl [] (Tk (Rg 0 5) (.take 5 [11, 17, 18] (Tk (Rg 6 4) (.take 10 [11, 17, 18] (Tk (Rg 12 4) (.take 16 [17, 18] (.alt 11 (Tk [17, 18] .done) .nil))))))) (by kernel_rfl) (xs rfl (nn_ _) (y9 rfl _ hg (xs rfl rfl (xs rfl (nn_ _) (y9 rfl _ hg (xs rfl rfl (xs rfl (nn_ _) (y9 rfl _ hg (xs rfl rfl ?_)))))))))
     refine z7 rfl (ya7 _ _ _ (by assumption)) rfl tv4 ?_
     refine xb rfl ?_ ?_ <;> intro b0
     refine xv rfl rfl rfl ?_; rotate_left
     refine xb rfl ?_ ?_ <;> intro b1
     refine xv rfl rfl rfl ?_; rotate_left
     rotate_left
     all_goals (first | (refine vi (q8 h h0 ?_ (by first | decide | decide | simp_all)); clear hJ h0 hg; (simp only [hw] at *; simp_all [y6u, yb7]; try (repeat' split) <;> omega)) | (refine q9 rfl (hJ _ (i + 1) ⟨by omega, qb h0 ?_⟩ (by omega) ⟨⟨cwi (by omega) (by omega) (by omega), rfl, rfl, trivial⟩, trivial, rfl⟩); clear hJ h0 hg; (simp only [hw] at *; simp_all [y6u, yb7]; try (repeat' split) <;> omega)))
   · have h : ¬ i < ls.length := by simpa using h
     have hz := zg (f := y6u us ls) (n := ls.length) (fun j hj => h0 j (by omega))
     refine xv rfl rfl rfl ?_
     exact vi (hz.symm)
theorem q6v (x : Mk) (c : Int) : PC Tryz.prog 322 [.agg x.cs, .one (i64 c)] (rI (q0h x.c c)) := by
 refine PC.begin Tryz.func322 rfl (by kernel_rfl) ?_
 refine z7 rfl (yu _ _) rfl tv3 ?_
 refine xr rfl (qm rfl ⟨⟨rfl, rfl, trivial⟩, z6 rfl⟩)
theorem z52 (us : List Mk) (c : Int) (hl : us.length ≤ 1048576) : PC Tryz.prog 235 [.one (.l (us.map Mk.cs)), .one (i64 c)] (bsV (fun x : Mk => q0h x.c c) us) := by
 refine PC.begin Tryz.func235 rfl (by kernel_rfl) ?_
 have hbs := fun fn hf => z9p us (fun x => q0h x.c c) fn c hf hl
 refine z7 rfl (hbs _ (fun x _ => q6v x c)) rfl ⟨trivial, trivial, (fun _ h => nomatch h), trivial⟩ ?_
 refine xr rfl (qm rfl ⟨(by decide), ⟨⟨rfl, rfl, trivial⟩, ⟨rfl, rfl, trivial⟩, trivial⟩, z6 rfl⟩)
theorem y0p (us : List Mk) (c : Int) (hl : us.length ≤ 1048576) : PC Tryz.prog 146 [.one (.l (us.map Mk.cs)), .one (i64 c)] (rI (y24 us c)) := by
 refine PC.begin Tryz.func146 rfl (by kernel_rfl) ?_
 cases hq : us[bsP (fun x : Mk => q0h x.c c) us]? with
 | none =>
   have hF : bsF (fun x : Mk => q0h x.c c) us = false := q9b hq
   refine z7 rfl (z52 _ _ (by omega)) rfl tv3 ?_
   refine xb rfl ?_ ?_ <;> intro b0
   refine xv rfl rfl rfl ?_; rotate_left
   refine xs rfl (nn_ _) ?_; rotate_left
   all_goals first | (exfalso; rw [hF] at b0; cases b0; done) | exact vi (q4e hF)
 | some x =>
   have hg : (us.map Mk.cs)[((bsP (fun x : Mk => q0h x.c c) us : Nat) : Int).toNat]? = some x.cs := gm Mk.cs hq
   refine z7 rfl (z52 _ _ (by omega)) rfl tv3 ?_
   refine xb rfl ?_ ?_ <;> intro b0
   refine xv rfl rfl rfl ?_; rotate_left
   refine xs rfl (nn_ _) (y9 rfl _ hg (xs rfl rfl ?_))
   refine xv rfl rfl rfl ?_; rotate_left
   · exact vi (q4e (by simpa using b0))
   · exact vi (y52 (by simpa using b0) hq)
theorem z6r (x : Con) (c : Int) : PC Tryz.prog 365 [.agg x.cs, .one (i64 c)] (rI (q0h x.id c)) := by
 refine PC.begin Tryz.func365 rfl (by kernel_rfl) ?_
 refine z7 rfl (yu _ _) rfl tv3 ?_
 refine xr rfl (qm rfl ⟨⟨rfl, rfl, trivial⟩, z6 rfl⟩)
theorem y7o (s : Shd) (c : Int) (hl : s.held.length ≤ 1048576) : PC Tryz.prog 337 [.agg s.cs, .one (i64 c)] (bsV (fun x : Con => q0h x.id c) s.held) := by
 refine PC.begin Tryz.func337 rfl (by kernel_rfl) ?_
 have hbs := fun fn hf => z8l s.held (fun x => q0h x.id c) fn c hf hl
 refine z7 rfl (hbs _ (fun x _ => z6r x c)) rfl ⟨trivial, trivial, (fun _ h => nomatch h), trivial⟩ ?_
 refine xr rfl (qm rfl ⟨(by decide), ⟨⟨rfl, rfl, trivial⟩, ⟨rfl, rfl, trivial⟩, trivial⟩, z6 rfl⟩)
theorem z71 (s : Shd) (c : Int) (hl : s.held.length ≤ 1048576) : PC Tryz.prog 331 [.agg s.cs, .one (i64 c)] (rB (s.held.any (fun x : Con => x.id == c))) := by
 refine PC.begin Tryz.func331 rfl (by kernel_rfl) ?_
 refine qc rfl (ι := Nat) (fun i => i ≤ s.held.length ∧ ∀ j y, j < i → s.held[j]? = some y → (fun x : Con => x.id == c) y = false) (fun i => ⟨[(5, sV (.int .i64 i)), (1, sV (.int .i64 c)), (2, .one (.a 2 0))], [(2, .var (s.cs.map .b))]⟩) (fun i => s.held.length - i) 0 ⟨Nat.zero_le _, fun j y hj => by omega⟩ ?_ ?_
 · exact ⟨⟨rfl, rfl, ⟨rfl, rfl, rfl⟩, trivial⟩, ⟨lcr, trivial⟩, rfl⟩
 · intro i ⟨hi, h0⟩ J hJ
   refine xb rfl ?_ ?_ <;> intro h
   · have h : i < s.held.length := by simpa using h
     obtain ⟨x, hx⟩ := gx h
     have hg := gm Con.cs hx
     refine xs rfl (nn_ _) (y9 rfl _ hg (xs rfl rfl ?_))
     refine xb rfl ?_ ?_ <;> intro b0
     refine xv rfl rfl rfl ?_; rotate_left
     rotate_left
     all_goals first | exact vb (qt hx (by simp_all)) | exact q9 rfl (hJ _ (i + 1) ⟨by omega, qg hx h0 (by simp_all)⟩ (by omega) ⟨⟨cwi (by omega) (by omega) (by omega), rfl, ⟨rfl, rfl, rfl⟩, trivial⟩, ⟨lcr, trivial⟩, rfl⟩)
   · have h : ¬ i < s.held.length := by simpa using h
     refine xv rfl rfl rfl ?_
     exact vb (any_none (zk (by omega) h0))
theorem z86 (us ws : List Leg) (hl : us.length ≤ 1048576) (hl2 : ws.length ≤ 1048576) : PC Tryz.prog 333 [.one (.l (us.map Leg.cs)), .one (.l (ws.map Leg.cs))] (rB (z5d us ws)) := by
 refine PC.begin Tryz.func333 rfl (by kernel_rfl) ?_
 rw [z5d]
 refine qc rfl (ι := Nat) (fun i => i ≤ us.length ∧ ∀ j y, j < i → us[j]? = some y → (ws.any fun z => y.a == z.a && y.b == z.b) = false) (fun i => ⟨[(5, sV (.int .i64 i)), (0, .one (.b (.l (us.map Leg.cs)))), (1, .one (.b (.l (ws.map Leg.cs))))], []⟩) (fun i => us.length - i) 0 ⟨Nat.zero_le _, fun j y hj => by omega⟩ ?_ ?_
 · exact ⟨⟨rfl, rfl, rfl, trivial⟩, trivial, rfl⟩
 · intro i ⟨hi, h0⟩ J hJ
   refine xb rfl ?_ ?_ <;> intro h
   · have h : i < us.length := by simpa using h
     obtain ⟨x, hx⟩ := gx h
     have hg := gm Leg.cs hx
     refine qc rfl (ι := Nat) (fun k => k ≤ ws.length ∧ ∀ j y, j < k → ws[j]? = some y → (x.a == y.a && x.b == y.b) = false) (fun k => ⟨[(6, sV (.int .i64 k)), (5, sV (.int .i64 i)), (0, .one (.b (.l (us.map Leg.cs)))), (1, .one (.b (.l (ws.map Leg.cs))))], []⟩) (fun k => ws.length - k) 0 ⟨Nat.zero_le _, fun j y hj => by omega⟩ ?_ ?_
     · exact ⟨⟨rfl, rfl, rfl, rfl, trivial⟩, trivial, rfl⟩
     · intro k ⟨hk, h1⟩ J2 hJ2
       refine xb rfl (fun h' => ?_) (fun h' => ?_)
       · have h' : k < ws.length := by simpa using h'
         obtain ⟨y, hy⟩ := gx h'
         have hg2 := gm Leg.cs hy
         refine qd rfl [] (Tk (Rg 0 4) (.take 4 (Rg 10 14) (Tk (Rg 5 4) (.take 9 (Rg 10 14) (Tk (Rg 10 6) (.take 16 [22, 23] (Tk (Rg 17 4) (.take 21 [22, 23] (Tk [22, 23] .done))))))))) (by kernel_rfl) (xs rfl (nn_ _) (y9 rfl _ hg (xs rfl rfl (xs rfl (nn_ _) (y9 rfl _ hg2 (xs rfl rfl ?_))))))
         refine xb rfl ?_ ?_ <;> intro b0
         refine xj (k := 2) rfl (xs rfl (nn_ _) (y9 rfl _ hg (xs rfl rfl (xj (k := 5) rfl (xs rfl (nn_ _) (y9 rfl _ hg2 (xs rfl rfl (xj (k := 4) rfl ?_))))))))
         refine xb rfl ?_ ?_ <;> intro b1
         refine xv rfl rfl rfl ?_; rotate_left
         rotate_left
         refine xj (k := 12) rfl ?_; rotate_left
         all_goals first | (refine vb (qt hx (qt hy ?_).symm); simp_all; done) | exact q9 rfl (hJ2 _ (k + 1) ⟨by omega, qg hy h1 (by simp_all)⟩ (by omega) ⟨⟨cwi (by omega) (by omega) (by omega), rfl, rfl, rfl, trivial⟩, trivial, rfl⟩)
       · have h' : ¬ k < ws.length := by simpa using h'
         skip
         exact q9 rfl (hJ _ (i + 1) ⟨by omega, qg hx h0 (any_none (zk (by omega) h1)).symm⟩ (by omega) ⟨⟨cwi (by omega) (by omega) (by omega), rfl, rfl, trivial⟩, trivial, rfl⟩)
   · have h : ¬ i < us.length := by simpa using h
     refine xv rfl rfl rfl ?_
     exact vb (any_none (zk (by omega) h0))
theorem q8m (x y : Leg) : PC Tryz.prog 266 [.agg x.cs, .one (.p y.cs)] (rB (x.same y)) := by
 refine PC.begin Tryz.func266 rfl (by kernel_rfl) ?_
 refine z7 rfl (y2o _ _) rfl ⟨tv5, tv5, trivial⟩ ?_
 refine xr rfl (qm rfl ⟨⟨rfl, rfl, trivial⟩, z6 rfl⟩)
theorem y4b (c : Con) (hl : c.legs.length ≤ 1048576) : PC Tryz.prog 197 [.agg c.cs] (rI (yq c)) := by
 refine PC.begin Tryz.func197 rfl (by kernel_rfl) ?_
 have hKd : Maps.Keyed Tryz.prog 2 := Maps.int_keyed Tryz.underlying2
 have hz : ∀ w, (zeroValue 2).run Tryz.prog w = .ok (.int .i64 0) w := fun w => by kernel_rfl
 have hsz : (Go.Sx.within (((c.legs.map Leg.cs).length : Nat) : Int) 2 8 = true) = (2 ≤ c.legs.length ∧ c.legs.length ≤ 8) := by rw [Go.Sx.within_iff, List.length_map]; apply propext; omega
 unfold yq
 refine z7 rfl (y4c _) rfl ⟨trivial, trivial⟩ ?_
 refine xb rfl ?_ ?_ <;> intro b0
 refine xv rfl rfl rfl ?_; rotate_left
 refine z7 rfl (q71 _) rfl ⟨trivial, trivial⟩ (z7 rfl (zn _ _ _) rfl tv4 ?_)
 refine xb rfl ?_ ?_ <;> intro b1
 refine xv rfl rfl rfl ?_; rotate_left
 rotate_left
 · refine vi ?_; simp_all
 · refine vi ?_
   have hid : Go.Sx.within c.id 1 1000000000 = true := by simpa using b0
   have hn : ¬ (2 ≤ c.legs.length ∧ c.legs.length ≤ 8) := by rw [← hsz]; simpa using b1
   rw [if_pos hid, if_neg hn]
 have hid : Go.Sx.within c.id 1 1000000000 = true := by simpa using b0
 have hn : 2 ≤ c.legs.length ∧ c.legs.length ≤ 8 := by rw [← hsz]; simpa using b1
 rw [if_pos hid, if_pos hn]
 clear b0 b1 hsz hid
 refine qb1 rfl rfl rfl Tryz.underlying305 rfl ?_
 refine qc rfl (ι := Nat × DataW Unit) (fun p => p.1 ≤ c.legs.length ∧ (∀ j, j < p.1 → z3j c.legs j = 0) ∧ SM (c.legs.take p.1) p.2) (fun p => ⟨[(24, sV (.int .i64 p.1)), (1, .one (.a 1 0)), (3, .one (.mx 0 20)), (22, .one (.b (.l (c.legs.map Leg.cs)))), (23, sV (.int .i64 c.legs.length))], [(1, .var (c.cs.map .b)), (20, .mp 2 2 p.1 p.2 none)]⟩) (fun p => c.legs.length - p.1) (0, .map []) ⟨Nat.zero_le _, fun j hj => (by omega), qah⟩ ?_ ?_
 · exact ⟨⟨rfl, ⟨rfl, rfl, rfl⟩, ⟨rfl, rfl, rfl⟩, rfl, (by rw [List.length_map]; rfl), trivial⟩, ⟨lcr, ⟨rfl, rfl, rfl, rfl, rfl⟩, trivial⟩, rfl⟩
 · intro ⟨i, D⟩ ⟨hi, h0, hS⟩ J hJ
   dsimp only at hi h0 hS hJ ⊢
   refine xb rfl ?_ ?_ <;> intro h
   · have h : i < c.legs.length := by simpa using h
     obtain ⟨x, hx⟩ := gx h
     have hg := gm Leg.cs hx
     have hd : ∀ y ∈ c.legs.take i, y.fault = 0 := q1j h0
     refine xs rfl (nn_ _) (y9 rfl _ hg (xs rfl rfl (z7 rfl (q4y _) rfl ⟨tv5, trivial⟩ ?_)))
     refine xb rfl ?_ ?_ <;> intro b0
     refine xv rfl rfl rfl ?_; rotate_left
     refine xs rfl (.inl rfl) (xs rfl (nn_ _) (xs rfl (nn_ _) (xs rfl (by simp; omega) (z7 rfl (y5f _ (c.legs.take i) (fun y => y.same x) _ _ (by simp [List.map_take]) (fun y _ => q8m y x) (by rw [List.length_take]; omega)) rfl ⟨trivial, (List.forall_mem_cons.2 ⟨tv5, (fun _ h => nomatch h)⟩), trivial⟩ ?_))))
     refine xb rfl ?_ ?_ <;> intro b1
     refine xv rfl rfl rfl ?_; rotate_left
     rotate_left
     · refine vi ?_
       rw [q0v h0 (by simp_all [z3j]) h]; simp_all [z3j]
     · refine vi ?_
       rw [q0v h0 (by simp_all [z3j]) h]; simp_all [z3j]
     have hxf : x.fault = 0 := by simpa using b0
     have hok := Leg.y0g hxf
     have hkey : keyOf Tryz.prog 2 (.int .i64 x.b) = some (.int .i64 x.b) := Maps.keyOf_int_mk Tryz.underlying2 (wfi (by omega) (by omega))
     refine qbm rfl rfl rfl rfl Tryz.underlying305 Tryz.underlying2 hKd hz rfl rfl hkey (fun cc hat hwc => ?_)
     have hw := q79 hS hxf hd (by omega) hat
     have hb := y4k (c.legs.take i) x.b (fun y hy => (Leg.y0g (hd y hy)).2.2.2.1)
     have hsm := hok.2.2.2.1
     have hlen : (c.legs.take i).length ≤ 8 := by rw [List.length_take]; omega
     unfold Leg.small at hsm
     have hwf : (Lit.int .i64 (IntKind.i64.wrap (cc + x.v))).wf = true := by rw [hw.2]; exact wfi (by omega) (by omega)
     skip
     refine zc1 rfl rfl rfl rfl rfl Tryz.underlying305 Tryz.underlying2 hKd (show i < maxLen by unfold maxLen; omega) rfl rfl hkey rfl hwf ?_
     skip
     exact q9 rfl (hJ _ (i + 1, _) ⟨by omega, qb h0 (by simp_all [z3j]), q9l hS hx hxf hd (by omega) hat⟩ (by dsimp only; omega) ⟨⟨cwi (by omega) (by omega) (by omega), ⟨rfl, rfl, rfl⟩, ⟨rfl, rfl, rfl⟩, rfl, rfl, trivial⟩, ⟨lcr, ⟨rfl, rfl, rfl, rfl, rfl⟩, trivial⟩, rfl⟩)
   · have h : i = c.legs.length := by have : ¬ i < c.legs.length := (by simpa using h); omega
     have hd : ∀ y ∈ c.legs, y.fault = 0 := by have := q1j h0; rwa [h, List.take_length] at this
     have hz2 := zg (f := z3j c.legs) (n := c.legs.length) (fun j hj => h0 j (by omega))
     rw [h, List.take_length] at hS
     rw [hz2]
     skip
     refine qb2 rfl rfl rfl rfl rfl rfl Tryz.underlying305 hKd ?_
     refine qc rfl (ι := (Lit → Bool) × Nat × Option (Value × Value)) (fun p => ∀ a : Int, p.1 (.int .i64 a) = false → y1a c.legs a = 0) (fun p => ⟨[(49, .one (.mx 1 49))], [(49, .mp 2 2 i D (some p))]⟩) (fun p => p.2.1) (Maps.has D, Maps.size D, none) (y9l hS) ?_ ?_
     · exact ⟨⟨⟨rfl, rfl, rfl⟩, trivial⟩, ⟨⟨rfl, rfl, rfl, rfl, rfl⟩, trivial⟩, rfl⟩
     · intro ⟨left, cnt, cur⟩ hL J2 hJ2
       dsimp only at hL hJ2 ⊢
       refine zb2 rfl rfl rfl rfl rfl hKd Tryz.underlying2 Tryz.underlying2 (fun _ hall => ?_) (fun y cc cnt' hl hat hwc hlt => ?_)
       · skip
         refine xj (k := 1) rfl (xv rfl rfl rfl ?_)
         exact vi (by rw [q72 (fun a => hL a (hall _))]; rfl)
       · have hy := zbb hS hat
         refine xj (k := 1) rfl (zb1 rfl rfl rfl rfl rfl rfl rfl (fun vs h => (nomatch h)) (fun vs h => (nomatch h)) ?_)
         refine xb rfl ?_ ?_ <;> intro b0
         refine xv rfl rfl rfl ?_; rotate_left
         rotate_left
         · exact vi (by rw [y3g hd (a := y) (by rw [hy]; simpa using b0)]; rfl)
         · exact q9 rfl (hJ2 _ (_, cnt', _) (zau hL hy (by simpa using b0)) hlt ⟨⟨⟨rfl, rfl, rfl⟩, trivial⟩, ⟨⟨rfl, rfl, rfl, rfl, rfl⟩, trivial⟩, rfl⟩)
theorem z4i (c : Con) (hl : c.legs.length ≤ 1048576) : PC Tryz.prog 175 [.agg c.cs] (rI (yq c)) := by
 refine PC.begin Tryz.func175 rfl (by kernel_rfl) ?_
 have fin : ∀ n : Int, (Go.Sx.within c.id 1 1000000000 = true → (2 ≤ c.legs.length ∧ c.legs.length ≤ 8) → n = (if scan (z3j c.legs) c.legs.length ≠ 0 then scan (z3j c.legs) c.legs.length else if q1y c.legs then 1 else 0)) → (Go.Sx.within c.id 1 1000000000 = true) → (2 ≤ c.legs.length ∧ c.legs.length ≤ 8) → n = yq c := fun n h1 h2 h3 => by
  unfold yq; rw [if_pos h2, if_pos h3]; exact h1 h2 h3
 refine z7 rfl (q4c _) rfl ⟨trivial, trivial⟩ ?_
 refine xb rfl ?_ ?_ <;> intro b0
 refine xv rfl rfl rfl ?_; rotate_left
 refine xb rfl ?_ ?_ <;> intro b1
 refine xj (k := 5) rfl ?_
 refine xv rfl rfl rfl ?_; rotate_left
 refine xj (k := 4) rfl ?_
 refine xb rfl ?_ ?_ <;> intro b2
 refine xv rfl rfl rfl ?_; rotate_left
 refine xs rfl rfl (xs rfl (nn_ _) (xs rfl (nn_ _) ?_))
 refine xs rfl (nn_ _) ?_; rotate_left
 · refine vi ?_; unfold yq; simp_all
 · refine vi ?_
   have hid : Go.Sx.within c.id 1 1000000000 = true := by simpa using b0
   unfold yq
   rw [if_pos hid, if_neg (by simp at b1; omega)]
 · refine vi ?_
   have hid : Go.Sx.within c.id 1 1000000000 = true := by simpa using b0
   unfold yq
   rw [if_pos hid, if_neg (by simp at b2; omega)]
 have hid : Go.Sx.within c.id 1 1000000000 = true := by simpa using b0
 have hn : 2 ≤ c.legs.length ∧ c.legs.length ≤ 8 := by
  simp at b1 b2; omega
 clear b0 b1 b2
 refine qc rfl (ι := Nat) (fun i => i ≤ c.legs.length ∧ ∀ j, j < i → z3j c.legs j = 0) (fun i => ⟨[(4, sV (.int .i64 i)), (1, .one (.a 1 0)), (3, .one (.h 24 3))], [(1, .var (c.cs.map .b)), (24, .arr true 1 0 (q56 (c.legs.take i)))]⟩) (fun i => c.legs.length - i) 0 ⟨Nat.zero_le _, fun j hj => (by omega)⟩ ?_ ?_
 · exact ⟨⟨rfl, ⟨rfl, rfl, rfl⟩, ⟨rfl, rfl, rfl⟩, trivial⟩, ⟨lcr, ⟨rfl, .inl rfl, .inl rfl⟩, trivial⟩, rfl⟩
 · intro i ⟨hi, h0⟩ J hJ
   have hd : ∀ y ∈ c.legs.take i, y.fault = 0 := q1j h0
   refine xb rfl ?_ ?_ <;> intro h
   · have h : i < c.legs.length := by simpa using h
     obtain ⟨x, hx⟩ := gx h
     have hg := gm Leg.cs hx
     refine xs rfl (nn_ _) (y9 rfl _ hg (xs rfl rfl (z7 rfl (y57 _) rfl ⟨tv5, trivial⟩ ?_)))
     refine xb rfl ?_ ?_ <;> intro b0
     refine xv rfl rfl rfl ?_; rotate_left
     rotate_left
     · refine vi (fin _ (fun _ _ => ?_) hid hn)
       rw [q0v h0 (by simp_all [z3j]) h]; simp_all [z3j]
     have hxf : x.fault = 0 := by simpa using b0
     have hok := Leg.y0g hxf
     refine qc rfl (ι := Nat) (fun k => k ≤ i ∧ ∀ j y, j < k → c.legs[j]? = some y → y.same x = false) (fun k => ⟨[(7, sV (.int .i64 k)), (4, sV (.int .i64 i)), (1, .one (.a 1 0)), (3, .one (.h 24 3)), (5, .one (.a 5 0))], [(1, .var (c.cs.map .b)), (24, .arr true 1 0 (q56 (c.legs.take i))), (5, .var (x.cs.map .b))]⟩) (fun k => i - k) 0 ⟨Nat.zero_le _, fun j y hj => (by omega)⟩ ?_ ?_
     · exact ⟨⟨rfl, rfl, ⟨rfl, rfl, rfl⟩, ⟨rfl, rfl, rfl⟩, ⟨rfl, rfl, rfl⟩, trivial⟩, ⟨lcr, ⟨rfl, .inl rfl, .inl rfl⟩, ⟨rfl, rfl, rfl, rfl, trivial⟩, trivial⟩, rfl⟩
     · intro k ⟨hk, h1⟩ J2 hJ2
       refine xb rfl (fun h' => ?_) (fun h' => ?_)
       · have h' : k < i := by simpa using h'
         obtain ⟨y, hy⟩ := gx (xs := c.legs) (i := k) (by omega)
         have hg2 := gm Leg.cs hy
         have hyt : (c.legs.take i)[k]? = some y := by rw [List.getElem?_take, if_pos h', hy]
         refine xs rfl (nn_ _) (y9 rfl _ hg2 (xs rfl rfl ?_))
         refine xb rfl ?_ ?_ <;> intro b0
         refine xj (k := 5) rfl ?_
         refine xb rfl ?_ ?_ <;> intro b1
         refine xj (k := 5) rfl ?_
         refine xb rfl ?_ ?_ <;> intro b2
         refine xv rfl rfl rfl ?_; rotate_left
         rotate_left
         refine xj (k := 6) rfl ?_; rotate_left
         refine xj (k := 12) rfl ?_; rotate_left
         all_goals first | (refine vi (fin _ (fun _ _ => ?_) hid hn); have hsame : y.same x = true := (by simp_all [Leg.same]); have ha := (qt (p := fun y : Leg => y.same x) hyt hsame).symm; have hc7 : z3j c.legs i = 7 := (by simp only [z3j, hx, hxf]; rw [if_neg (by simp), if_pos ha]); rw [q0v h0 (by rw [hc7]; decide) h, hc7]; rfl) | exact q9 rfl (hJ2 _ (k + 1) ⟨by omega, qg hy h1 (by simp_all [Leg.same])⟩ (by omega) ⟨⟨cwi (by omega) (by omega) (by omega), rfl, ⟨rfl, rfl, rfl⟩, ⟨rfl, rfl, rfl⟩, ⟨rfl, rfl, rfl⟩, trivial⟩, ⟨lcr, ⟨rfl, .inl rfl, .inl rfl⟩, ⟨rfl, rfl, rfl, rfl, trivial⟩, trivial⟩, rfl⟩)
       · have h' : ¬ k < i := by simpa using h'
         have hnone := any_none (p := fun y : Leg => y.same x) (l := c.legs.take i) (fun j y hj => by
          rw [List.getElem?_take] at hj
          split at hj
          · exact h1 j y (by omega) hj
          · cases hj)
         have hc0 : z3j c.legs i = 0 := by
          simp only [z3j, hx, hxf]; rw [if_neg (by simp), if_neg (by rw [← hnone]; decide)]
         have hrow := z57 (l := c.legs.take i) (b := x.b) (by omega) (by omega)
         have hb0 : 0 ≤ x.b := by omega
         refine qd rfl [] (Tk [0, 1] (.take 2 [11, 12] (Tk [3, 4] (.take 5 [6, 7, 10, 11, 12] (.take 6 [] (.take 7 (Rg 10 3) (.take 8 [] (.take 9 (Rg 10 3) (Tk [10, 11] (.alt 12 .done .nil)))))))))) (by kernel_rfl) (xs rfl rfl (xs rfl (hb0) (y9 rfl _ hrow (xs rfl rfl (xs rfl rfl (y9 rfl _ hrow (xs rfl rfl (xs rfl (hb0) (y9 rfl _ hrow ?_)))))))))
         refine xs rfl rfl (xs rfl rfl (y9 rfl _ hrow (xs rfl (Nat.le_refl _) (xs rfl ⟨trivial, trivial⟩ ?_))))
         exact q9 rfl (hJ _ (i + 1) ⟨by omega, qb h0 hc0⟩ (by omega) ⟨⟨cwi (by omega) (by omega) (by omega), ⟨rfl, rfl, rfl⟩, ⟨rfl, rfl, rfl⟩, trivial⟩, ⟨lcr, ⟨z70 hx (by omega) (by omega) hd hxf (by omega), .inl rfl, .inl rfl⟩, trivial⟩, rfl⟩)
   · have h : i = c.legs.length := by have : ¬ i < c.legs.length := (by simpa using h); omega
     have hz2 := zg (f := z3j c.legs) (n := c.legs.length) (fun j hj => h0 j (by omega))
     rw [h, List.take_length] at hd
     rw [h, List.take_length]
     skip
     refine qc rfl (ι := Nat) (fun k => k ≤ 3 ∧ ∀ j : Nat, j < k → y1a c.legs j = 0) (fun k => ⟨[(9, sV (.int .i64 k)), (3, .one (.h 24 3))], [(24, .arr true 1 0 (q56 c.legs))]⟩) (fun k => 3 - k) 0 ⟨by omega, fun j hj => (by omega)⟩ ?_ ?_
     · exact ⟨⟨rfl, ⟨rfl, rfl, rfl⟩, trivial⟩, ⟨⟨rfl, .inl rfl, .inl rfl⟩, trivial⟩, rfl⟩
     · intro k ⟨hk, h1⟩ J2 hJ2
       refine xb rfl (fun h' => ?_) (fun h' => ?_)
       · have h' : k < 3 := by simp at h'; omega
         have hrow : (q56 c.legs)[(k : Int).toNat]? = some [i64 (y1a c.legs k)] := z57 (by omega) (by omega)
         refine xs rfl rfl (xs rfl (nn_ _) (y9 rfl _ hrow (xs rfl rfl (xs rfl rfl (y9 rfl _ hrow ?_)))))
         refine xb rfl ?_ ?_ <;> intro b0
         refine xv rfl rfl rfl ?_; rotate_left
         rotate_left
         · refine vi (fin _ (fun _ _ => ?_) hid hn)
           rw [hz2, y3g hd (a := k) (by simpa using b0)]; rfl
         · exact q9 rfl (hJ2 _ (k + 1) ⟨by omega, fun j hj => by
            by_cases e : j = k
            · subst e; simpa using b0
            · exact h1 j (by omega)⟩ (by omega) ⟨⟨cwi (by omega) (by omega) (by omega), ⟨rfl, rfl, rfl⟩, trivial⟩, ⟨⟨rfl, .inl rfl, .inl rfl⟩, trivial⟩, rfl⟩)
       · have h' : k = 3 := by simp at h'; omega
         subst h'
         refine xv rfl rfl rfl ?_
         refine vi (fin _ (fun _ _ => ?_) hid hn)
         have a0 := h1 0 (by omega)
         have a1 := h1 1 (by omega)
         have a2 := h1 2 (by omega)
         rw [hz2]
         simp at a0 a1 a2
         simp [q1y, a0, a1, a2]
def q4o (s : Shd) : Prop := s.bals.length ≤ 1048576 ∧ s.votes.length ≤ 1048576 ∧ s.held.length ≤ 1048576 ∧ s.done.length ≤ 1048576 ∧ s.app.length ≤ 1048576 ∧ ∀ c ∈ s.held, c.legs.length ≤ 1048576
theorem yaq (rr : List (List Cell)) (us : List Mk) (p : Mk → Bool) (fn : Nat) (s : Shd) (hr : rr = us.map Mk.cs) (hf : ∀ x ∈ us, PC Tryz.prog fn [.agg s.cs, .agg x.cs] (rB (p x))) (hl : us.length ≤ 1048576) : PC Tryz.prog 277 [.one (.l rr), .one (.m fn true s.cs)] (rI (z1d p us)) := by
 refine PC.begin Tryz.func277 rfl (by kernel_rfl) ?_
 subst hr
 have hn : (us.map Mk.cs).length = us.length := by simp
 refine qc rfl (ι := Nat) (fun i => i ≤ us.length ∧ ∀ j y, j < i → us[j]? = some y → p y = false) (fun i => ⟨[(8, sV (.int .i64 i)), (7, sV (.int .i64 (us.map Mk.cs).length)), (0, .one (.b (.l (us.map Mk.cs)))), (1, .one (.b (.m fn true s.cs)))], []⟩) (fun i => us.length - i) 0 ⟨Nat.zero_le _, fun j y hj => by omega⟩ ?_ ?_
 · exact ⟨⟨rfl, rfl, rfl, rfl, trivial⟩, trivial, rfl⟩
 · intro i ⟨hi, h0⟩ J hJ
   refine xb rfl ?_ ?_ <;> intro h
   · have h : i < us.length := by simpa using h
     obtain ⟨x, hx⟩ := gx h
     have hg := gm Mk.cs hx
     have hxm := List.mem_of_getElem? hx
     refine xs rfl (nn_ _) (y9 rfl _ hg (xs rfl rfl (z7 rfl (hf _ hxm) rfl ⟨tv7, tv3, trivial⟩ ?_)))
     refine xb rfl ?_ ?_ <;> intro b0
     refine xv rfl rfl rfl ?_; rotate_left
     rotate_left
     · exact vi (q07 hx h0 b0).symm
     · exact q9 rfl (hJ _ (i + 1) ⟨by omega, qg hx h0 b0⟩ (by omega) ⟨⟨cwi (by omega) (by omega) (by omega), rfl, rfl, rfl, trivial⟩, trivial, rfl⟩)
   · have h : ¬ i < us.length := by simpa using h
     refine xv rfl rfl rfl ?_
     exact vi (q01 (zk (by omega) h0)).symm
theorem qak (rr : List (List Cell)) (us : List Mk) (p : Mk → Bool) (fn : Nat) (s : Shd) (hr : rr = us.map Mk.cs) (hf : ∀ x ∈ us, PC Tryz.prog fn [.agg s.cs, .agg x.cs] (rB (p x))) (hl : us.length ≤ 1048576) : PC Tryz.prog 202 [.one (.l rr), .one (.m fn true s.cs)] (rB (us.any p)) := by
 refine PC.begin Tryz.func202 rfl (by kernel_rfl) ?_
 have hi := yaq rr us p fn s hr hf hl
 refine z7 rfl (hi) rfl tv3 (xv rfl rfl rfl ?_)
 exact vb q0g
theorem z4y (s : Shd) (ho : q4o s) : PC Tryz.prog 273 [.agg s.cs] (rI (zr y24 s)) := by
 refine PC.begin Tryz.func273 rfl (by kernel_rfl) ?_
 have ho' := ho
 obtain ⟨o1, o2, o3, o4, o5, o6⟩ := ho'
 rw [zr]
 refine qc rfl (ι := Nat) (fun i => i ≤ s.held.length ∧ ∀ j, j < i → y1o y24 s j = 0) (fun i => ⟨[(9, sV (.int .i64 i)), (1, .one (.a 1 0)), (7, .one (.b (.l (s.held.map Con.cs)))), (8, sV (.int .i64 (s.held.map Con.cs).length))], [(1, .var (s.cs.map .b))]⟩) (fun i => s.held.length - i) 0 ⟨Nat.zero_le _, fun j hj => by omega⟩ ?_ ?_
 · exact ⟨⟨rfl, ⟨rfl, rfl, rfl⟩, rfl, rfl, trivial⟩, ⟨lcr, trivial⟩, rfl⟩
 · intro i ⟨hi, h0⟩ J hJ
   refine xb rfl ?_ ?_ <;> intro h
   · have h : i < s.held.length := by simpa using h
     obtain ⟨x, hx⟩ := gx h
     have hg := gm Con.cs hx
     have hcl := o6 x (List.mem_of_getElem? hx)
     rcases Nat.eq_zero_or_pos i with hz | hz
     · subst hz
       refine xs rfl (nn_ _) (y9 rfl _ hg (xs rfl rfl (z7 rfl (y4b _ (by assumption)) rfl ⟨tv3, trivial⟩ ?_)))
       refine xb rfl ?_ ?_ <;> intro b0
       refine xv rfl rfl rfl ?_; rotate_left
       refine qd rfl [] (Tk (Rg 0 4) (.take 4 (Rg 7 3 ++ Rg 12 26) (Tk (Rg 5 4) (.take 9 (Rg 12 26) (.take 10 [] (.take 11 (Rg 12 26) (Tk [12, 13, 14] (.take 15 (Rg 18 20) (.take 16 [] (.take 17 (Rg 18 20) (.alt 18 (Tk (Rg 19 5) (.take 24 (Rg 27 11) (.take 25 [] (.take 26 (Rg 27 11) (.alt 27 (Tk (Rg 28 4) (.take 32 (Rg 35 3) (.take 33 [] (.take 34 (Rg 35 3) (.alt 35 (Tk [36, 37] .done) .nil))))) .nil))))) .nil))))))))))) (by kernel_rfl) (xj (k := 15) rfl (z7 rfl (z15 _ _ (by omega)) rfl ⟨tv3, trivial, trivial⟩ (xj (k := 3) rfl ?_)))
       refine xb rfl ?_ ?_ <;> intro b1
       refine xj (k := 14) rfl ?_
       refine xv rfl rfl rfl ?_; rotate_left
       refine xj (k := 4) rfl (z7 rfl (y0p _ _ (by omega)) rfl tv3 (xj (k := 2) rfl ?_))
       refine xb rfl ?_ ?_ <;> intro b2
       refine xj (k := 7) rfl ?_
       refine xv rfl rfl rfl ?_; rotate_left
       refine xj (k := 4) rfl (z7 rfl (y0p _ _ (by omega)) rfl tv3 (xj (k := 2) rfl ?_))
       refine xb rfl ?_ ?_ <;> intro b3
       refine xv rfl rfl rfl ?_; rotate_left
       rotate_left
       all_goals (first | (refine vi (q8 h h0 ?_ (by first | decide | decide | simp_all)); clear hJ h0 hg; simp_all [y1o, ahead_zero]) | (refine q9 rfl (hJ _ 1 ⟨by omega, qb h0 ?_⟩ (by omega) ⟨⟨cwi (by omega) (by omega) (by omega), ⟨rfl, rfl, rfl⟩, rfl, rfl, trivial⟩, ⟨lcr, trivial⟩, rfl⟩); clear hJ h0 hg; simp_all [y1o, ahead_zero]))
     · obtain ⟨p, hp⟩ := gx (xs := s.held) (i := i - 1) (by omega)
       have hgp := q19 Con.cs hz (by omega) hp
       refine xs rfl (nn_ _) (y9 rfl _ hg (xs rfl rfl (z7 rfl (y4b _ (by assumption)) rfl ⟨tv3, trivial⟩ ?_)))
       refine xb rfl ?_ ?_ <;> intro b0
       refine xv rfl rfl rfl ?_; rotate_left
       refine qd rfl [] (Tk (Rg 0 4) (.take 4 (Rg 7 3 ++ Rg 12 26) (Tk (Rg 5 4) (.take 9 (Rg 12 26) (.take 10 [] (.take 11 (Rg 12 26) (Tk [12, 13, 14] (.take 15 (Rg 18 20) (.take 16 [] (.take 17 (Rg 18 20) (.alt 18 (Tk (Rg 19 5) (.take 24 (Rg 27 11) (.take 25 [] (.take 26 (Rg 27 11) (.alt 27 (Tk (Rg 28 4) (.take 32 (Rg 35 3) (.take 33 [] (.take 34 (Rg 35 3) (.alt 35 (Tk [36, 37] .done) .nil))))) .nil))))) .nil))))))))))) (by kernel_rfl) ?_
       refine xb rfl ?_ ?_ <;> intro b1
       refine xj (k := 4) rfl (xs rfl (q0m hz (by omega)) (y9 rfl _ hgp (xs rfl rfl (xj (k := 6) rfl ?_))))
       refine xb rfl ?_ ?_ <;> intro b2
       refine xj (k := 21) rfl ?_
       refine xv rfl rfl rfl ?_; rotate_left
       refine xj (k := 3) rfl (z7 rfl (z15 _ _ (by omega)) rfl ⟨tv3, trivial, trivial⟩ (xj (k := 3) rfl ?_))
       refine xb rfl ?_ ?_ <;> intro b3
       refine xj (k := 14) rfl ?_
       refine xv rfl rfl rfl ?_; rotate_left
       refine xj (k := 4) rfl (z7 rfl (y0p _ _ (by omega)) rfl tv3 (xj (k := 2) rfl ?_))
       refine xb rfl ?_ ?_ <;> intro b4
       refine xj (k := 7) rfl ?_
       refine xv rfl rfl rfl ?_; rotate_left
       refine xj (k := 4) rfl (z7 rfl (y0p _ _ (by omega)) rfl tv3 (xj (k := 2) rfl ?_))
       refine xb rfl ?_ ?_ <;> intro b5
       refine xv rfl rfl rfl ?_; rotate_left
       rotate_left
       refine xj (k := 14) rfl (z7 rfl (z15 _ _ (by omega)) rfl ⟨tv3, trivial, trivial⟩ (xj (k := 3) rfl ?_))
       refine xb rfl ?_ ?_ <;> intro b2
       refine xj (k := 14) rfl ?_
       refine xv rfl rfl rfl ?_; rotate_left
       refine xj (k := 4) rfl (z7 rfl (y0p _ _ (by omega)) rfl tv3 (xj (k := 2) rfl ?_))
       refine xb rfl ?_ ?_ <;> intro b3
       refine xj (k := 7) rfl ?_
       refine xv rfl rfl rfl ?_; rotate_left
       refine xj (k := 4) rfl (z7 rfl (y0p _ _ (by omega)) rfl tv3 (xj (k := 2) rfl ?_))
       refine xb rfl ?_ ?_ <;> intro b4
       refine xv rfl rfl rfl ?_; rotate_left
       rotate_left
       all_goals (first | (refine vi (q8 h h0 ?_ (by first | decide | decide | simp_all)); clear hJ h0 hg hgp; simp_all [ya hz hp, y1o, ahead_zero]) | (refine q9 rfl (hJ _ (i + 1) ⟨by omega, qb h0 ?_⟩ (by omega) ⟨⟨cwi (by omega) (by omega) (by omega), ⟨rfl, rfl, rfl⟩, rfl, rfl, trivial⟩, ⟨lcr, trivial⟩, rfl⟩); clear hJ h0 hg hgp; simp_all [ya hz hp, y1o, ahead_zero]))
   · have h : ¬ i < s.held.length := by simpa using h
     have hz := zg (f := y1o y24 s) (n := s.held.length) (fun j hj => h0 j (by omega))
     refine xv rfl rfl rfl ?_
     exact vi (hz.symm)
theorem y7r (s : Shd) (m : Mk) (ho : q4o s) : PC Tryz.prog 274 [.agg s.cs, .agg m.cs] (rB (q6x s m)) := by
 refine PC.begin Tryz.func274 rfl (by kernel_rfl) ?_
 have ho' := ho
 obtain ⟨o1, o2, o3, o4, o5, o6⟩ := ho'
 refine z7 rfl (y7o _ _ (by assumption)) rfl ⟨tv7, trivial, trivial⟩ ?_
 refine xb rfl ?_ ?_ <;> intro b0
 refine xj (k := 2) rfl ?_
 refine xb rfl ?_ ?_ <;> intro b1
 refine xj (k := 4) rfl (z7 rfl (y0p _ _ (by omega)) rfl tv3 (xj (k := 2) rfl ?_))
 refine xv rfl rfl rfl ?_; rotate_left
 refine xj (k := 6) rfl ?_
 refine xv rfl rfl rfl ?_; rotate_left
 refine xj (k := 9) rfl ?_
 refine xv rfl rfl rfl ?_; rotate_left
 all_goals (refine vb ?_; simp_all [q6x])
theorem z7w (x y : Leg) : PC Tryz.prog 369 [.agg y.cs, .one (.p x.cs)] (rB (x.same y)) := by
 refine PC.begin Tryz.func369 rfl (by kernel_rfl) ?_
 refine z7 rfl (y2o _ _) rfl ⟨tv5, tv5, trivial⟩ ?_
 refine xr rfl (qm rfl ⟨⟨rfl, rfl, trivial⟩, z6 rfl⟩)
theorem q8v (s : Shd) (b : Con) (x : Leg) (hl : b.legs.length ≤ 1048576) : PC Tryz.prog 368 [.agg x.cs, .one (.p b.cs), .one (.p s.cs)] (rB ((yn b s.idx).any fun m => x.same m)) := by
 refine PC.begin Tryz.func368 rfl (by kernel_rfl) ?_
 have hlb : (yn b s.idx).length ≤ 1048576 := Nat.le_trans (List.length_filter_le _ _) (by omega)
 refine z7 rfl (z15 _ _ (by omega)) rfl ⟨tv3, trivial, trivial⟩ (z7 rfl (y5f _ (yn b s.idx) (fun m => x.same m) _ _ rfl (fun m _ => z7w x m) hlb) rfl ⟨rfl, (List.forall_mem_cons.2 ⟨tv5, (fun _ h => nomatch h)⟩), trivial⟩ ?_)
 refine xr rfl (qm rfl ⟨⟨rfl, rfl, trivial⟩, z6 rfl⟩)
theorem q5o (s : Shd) (a b : Con) (ha : a.legs.length ≤ 1048576) (hb : b.legs.length ≤ 1048576) : PC Tryz.prog 343 [.agg s.cs, .agg a.cs, .agg b.cs] (rB (z6w s a b)) := by
 refine PC.begin Tryz.func343 rfl (by kernel_rfl) ?_
 have hlb : (yn a s.idx).length ≤ 1048576 := Nat.le_trans (List.length_filter_le _ _) (by omega)
 refine z7 rfl (z15 _ _ (by omega)) rfl ⟨tv3, trivial, trivial⟩ (z7 rfl (y9n _ (yn a s.idx) (fun l => (yn b s.idx).any fun m => l.same m) _ _ _ rfl (fun l _ => q8v s b l hb) hlb) rfl ⟨rfl, (List.forall_mem_cons.2 ⟨tv3, (List.forall_mem_cons.2 ⟨tv7, (fun _ h => nomatch h)⟩)⟩), trivial⟩ ?_)
 refine xr rfl (qm rfl ⟨⟨rfl, rfl, trivial⟩, z6 rfl⟩)
theorem q5c (s : Shd) (a b : Con) (ha : a.legs.length ≤ 1048576) (hb : b.legs.length ≤ 1048576) : PC Tryz.prog 342 [.agg a.cs, .one (.p s.cs), .one (.p b.cs)] (rB (z6w s a b)) := by
 refine PC.begin Tryz.func342 rfl (by kernel_rfl) ?_
 refine z7 rfl (q5o _ _ _ (by omega) (by omega)) rfl ⟨tv7, tv3, tv3, trivial⟩ ?_
 refine xr rfl (qm rfl ⟨⟨rfl, rfl, trivial⟩, z6 rfl⟩)
theorem z9t (s : Shd) (c : Con) (hl : s.bals.length ≤ 1048576) (hc : c.legs.length ≤ 1048576) (hb : ∀ l ∈ yn c s.idx, -9000000000000000000 ≤ y4n s.bals l.a l.b + l.v ∧ y4n s.bals l.a l.b + l.v ≤ 9000000000000000000) : PC Tryz.prog 344 [.agg s.cs, .agg c.cs] (rI (q1q s.bals (yn c s.idx))) := by
 refine PC.begin Tryz.func344 rfl (by kernel_rfl) ?_
 have hlb : (yn c s.idx).length ≤ 1048576 := Nat.le_trans (List.length_filter_le _ _) (by omega)
 rw [q1q]
 refine z7 rfl (z15 _ _ (by omega)) rfl ⟨tv3, trivial, trivial⟩ ?_
 refine qc rfl (ι := Nat) (fun i => i ≤ (yn c s.idx).length ∧ ∀ j, j < i → z3v s.bals (yn c s.idx) j = 0) (fun i => ⟨[(13, sV (.int .i64 i)), (2, .one (.a 2 0)), (11, .one (.h 1200000 ((yn c s.idx).map Leg.cs).length)), (12, sV (.int .i64 ((yn c s.idx).map Leg.cs).length))], [(2, .var (s.cs.map .b)), (1200000, .arr true 4 0 ((yn c s.idx).map Leg.cs))]⟩) (fun i => (yn c s.idx).length - i) 0 ⟨Nat.zero_le _, fun j hj => by omega⟩ ?_ ?_
 · exact ⟨⟨rfl, ⟨rfl, rfl, rfl⟩, ⟨rfl, rfl, rfl⟩, rfl, trivial⟩, ⟨lcr, ⟨rfl, .inl rfl, .inl rfl⟩, trivial⟩, rfl⟩
 · intro i ⟨hi, h0⟩ J hJ
   refine xb rfl ?_ ?_ <;> intro h
   · have h : i < (yn c s.idx).length := by simpa using h
     obtain ⟨x, hx⟩ := gx h
     have hg := gm Leg.cs hx
     have hbx := hb x (List.mem_of_getElem? hx)
     refine xs rfl rfl (xs rfl (nn_ _) (y9 rfl _ hg (xs rfl rfl (xs rfl rfl (y9 rfl _ hg (z7 rfl (q6u _ _ (by omega) (by assumption)) rfl ⟨trivial, tv5, trivial⟩ ?_))))))
     refine xb rfl ?_ ?_ <;> intro b0
     refine xv rfl rfl rfl ?_; rotate_left
     rotate_left
     · exact vi (q8 h h0 (by simp_all [z3v]) (by simpa using b0))
     · exact q9 rfl (hJ _ (i + 1) ⟨by omega, qb h0 (by simp_all [z3v])⟩ (by omega) ⟨⟨cwi (by omega) (by omega) (by omega), ⟨rfl, rfl, rfl⟩, ⟨rfl, rfl, rfl⟩, rfl, trivial⟩, ⟨lcr, ⟨rfl, .inl rfl, .inl rfl⟩, trivial⟩, rfl⟩)
   · have h : ¬ i < (yn c s.idx).length := by simpa using h
     have hz := zg (f := z3v s.bals (yn c s.idx)) (n := (yn c s.idx).length) (fun j hj => h0 j (by omega))
     refine xv rfl rfl rfl ?_
     exact vi hz.symm
theorem y36 (s : Shd) (ho : q4o s) (hb : ∀ c ∈ s.held, ∀ l ∈ yn c s.idx, -9000000000000000000 ≤ y4n s.bals l.a l.b + l.v ∧ y4n s.bals l.a l.b + l.v ≤ 9000000000000000000) : PC Tryz.prog 276 [.agg s.cs] (rI (z08 y1r q1q s)) := by
 refine PC.begin Tryz.func276 rfl (by kernel_rfl) ?_
 obtain ⟨o1, o2, o3, o4, o5, o6⟩ := ho
 unfold z08
 refine qc rfl (ι := Nat) (fun i => i ≤ s.held.length ∧ ∀ j, j < i → y1r s j = 0) (fun i => ⟨[(11, sV (.int .i64 i)), (1, .one (.a 1 0)), (9, .one (.b (.l (s.held.map Con.cs)))), (10, sV (.int .i64 (s.held.map Con.cs).length))], [(1, .var (s.cs.map .b))]⟩) (fun i => s.held.length - i) 0 ⟨Nat.zero_le _, fun j hj => by omega⟩ ?_ ?_
 · exact ⟨⟨rfl, ⟨rfl, rfl, rfl⟩, rfl, rfl, trivial⟩, ⟨lcr, trivial⟩, rfl⟩
 · intro i ⟨hi, h0⟩ J hJ
   refine xb rfl ?_ ?_ <;> intro h
   · have h : i < s.held.length := by simpa using h
     obtain ⟨x, hx⟩ := gx h
     have hg := gm Con.cs hx
     have hcl := o6 x (List.mem_of_getElem? hx)
     refine xs rfl (nn_ _) (y9 rfl _ hg (xs rfl rfl (xs rfl (.inl rfl) (xs rfl (nn_ _) (xs rfl (nn_ _) (xs rfl (by simp; omega) (z7 rfl (q9m _ (s.held.take i) (fun own => z6w s own x) _ _ _ (by simp [List.map_take]) (fun own hown => q5c s own x (o6 own (List.mem_of_mem_take hown)) hcl) (by rw [List.length_take]; omega)) rfl ⟨trivial, (List.forall_mem_cons.2 ⟨tv7, (List.forall_mem_cons.2 ⟨tv3, (fun _ h => nomatch h)⟩)⟩), trivial⟩ ?_)))))))
     refine xb rfl ?_ ?_ <;> intro b0
     refine xv rfl rfl rfl ?_; rotate_left
     rotate_left
     · refine vi ?_
       have hc7 : y1r s i = 7 := by simp only [y1r, hx]; rw [if_pos b0]
       rw [q0v h0 (by rw [hc7]; decide) h, hc7]; rfl
     · exact q9 rfl (hJ _ (i + 1) ⟨by omega, qb h0 (by simp only [y1r, hx]; rw [if_neg (by rw [b0]; decide)])⟩ (by omega) ⟨⟨cwi (by omega) (by omega) (by omega), ⟨rfl, rfl, rfl⟩, rfl, rfl, trivial⟩, ⟨lcr, trivial⟩, rfl⟩)
   · have h : ¬ i < s.held.length := by simpa using h
     have hz := zg (f := y1r s) (n := s.held.length) (fun j hj => h0 j (by omega))
     rw [hz]
     clear hJ h0
     refine qc rfl (ι := Nat) (fun i => i ≤ s.held.length ∧ ∀ j, j < i → y6q q1q s j = 0) (fun i => ⟨[(26, sV (.int .i64 i)), (1, .one (.a 1 0)), (24, .one (.b (.l (s.held.map Con.cs)))), (25, sV (.int .i64 (s.held.map Con.cs).length))], [(1, .var (s.cs.map .b))]⟩) (fun i => s.held.length - i) 0 ⟨Nat.zero_le _, fun j hj => by omega⟩ ?_ ?_
     · exact ⟨⟨rfl, ⟨rfl, rfl, rfl⟩, rfl, rfl, trivial⟩, ⟨lcr, trivial⟩, rfl⟩
     · intro i ⟨hi, h0⟩ J hJ
       refine xb rfl ?_ ?_ <;> intro h
       · have h : i < s.held.length := by simpa using h
         obtain ⟨x, hx⟩ := gx h
         have hg := gm Con.cs hx
         have hxm := List.mem_of_getElem? hx
         have hcl := o6 x hxm
         refine xs rfl (nn_ _) (y9 rfl _ hg (xs rfl rfl (z7 rfl (z9t s x o1 hcl (hb x hxm)) rfl ⟨tv7, tv3, trivial⟩ ?_)))
         refine xb rfl ?_ ?_ <;> intro b0
         refine xv rfl rfl rfl ?_; rotate_left
         rotate_left
         · exact vi (by rw [if_neg (by decide)]; exact q8 h h0 (by simp_all [y6q]) (by simpa using b0))
         · exact q9 rfl (hJ _ (i + 1) ⟨by omega, qb h0 (by simp_all [y6q])⟩ (by omega) ⟨⟨cwi (by omega) (by omega) (by omega), ⟨rfl, rfl, rfl⟩, rfl, rfl, trivial⟩, ⟨lcr, trivial⟩, rfl⟩)
       · have h : ¬ i < s.held.length := by simpa using h
         have hz := zg (f := y6q q1q s) (n := s.held.length) (fun j hj => h0 j (by omega))
         refine xv rfl rfl rfl ?_
         exact vi (by rw [hz]; rfl)
theorem z6s (x : Int) (us : List Bal) (hl : us.length ≤ 1048576) : PC Tryz.prog 252 [.one (i64 x), .one (.l (us.map Bal.cs))] (rI (if within x 0 2 then ql us else 3)) := by
 refine PC.begin Tryz.func252 rfl (by kernel_rfl) ?_
 refine z7 rfl (qi _ _ _) rfl tv4 ?_
 refine xb rfl ?_ ?_ <;> intro b0
 refine xv rfl rfl rfl ?_; rotate_left
 refine z7 rfl (y90 _ (by omega)) rfl ⟨trivial, trivial⟩ ?_
 refine xv rfl rfl rfl ?_; rotate_left
 all_goals (refine vi ?_; simp_all)
theorem y2v (rr : List (List Cell)) (us : List Int) (c : Int) (hr : rr = ints us) (hl : us.length ≤ 1048576) : PC Tryz.prog 255 [.one (.l rr), .one (i64 c)] (rB (us.any fun y => y == c)) := by
 refine PC.begin Tryz.func255 rfl (by kernel_rfl) ?_
 subst hr
 refine qc rfl (ι := Nat) (fun i => i ≤ us.length ∧ ∀ j y, j < i → us[j]? = some y → (y == c) = false) (fun i => ⟨[(5, sV (.int .i64 i)), (0, .one (.b (.l (ints us)))), (1, sV (.int .i64 c))], []⟩) (fun i => us.length - i) 0 ⟨Nat.zero_le _, fun j y hj => by omega⟩ ?_ ?_
 · exact ⟨⟨rfl, rfl, rfl, trivial⟩, trivial, rfl⟩
 · intro i ⟨hi, h0⟩ J hJ
   refine xb rfl ?_ ?_ <;> intro h
   · have h : i < us.length := by simpa using h
     obtain ⟨x, hx⟩ := gx h
     have hg := gm (fun n => [i64 n]) hx
     refine xs rfl (nn_ _) (y9 rfl _ hg (xs rfl rfl ?_))
     refine xb rfl ?_ ?_ <;> intro b0
     refine xv rfl rfl rfl ?_; rotate_left
     rotate_left
     · exact vb (qt hx (by simpa using b0))
     · exact q9 rfl (hJ _ (i + 1) ⟨by omega, qg hx h0 (by simpa using b0)⟩ (by omega) ⟨⟨cwi (by omega) (by omega) (by omega), rfl, rfl, trivial⟩, trivial, rfl⟩)
   · have h : ¬ i < us.length := by simpa using h
     refine xv rfl rfl rfl ?_
     exact vb (any_none (zk (by omega) h0))
theorem za7 (s : Shd) (ho : q4o s) : PC Tryz.prog 332 [.agg s.cs] (rB (z65 s)) := by
 refine PC.begin Tryz.func332 rfl (by kernel_rfl) ?_
 obtain ⟨o1, o2, o3, o4, o5, o6⟩ := ho
 refine qc rfl (ι := Nat) (fun i => i ≤ s.done.length) (fun i => ⟨[(4, sV (.int .i64 i)), (3, sV (.int .i64 (y3l (s.done.take i)))), (1, .one (.a 1 0))], [(1, .var (s.cs.map .b))]⟩) (fun i => s.done.length - i) 0 (Nat.zero_le _) ?_ ?_
 · exact ⟨⟨rfl, rfl, ⟨rfl, rfl, rfl⟩, trivial⟩, ⟨lcr, trivial⟩, rfl⟩
 · intro i hi J hJ
   refine xb rfl ?_ ?_ <;> intro h
   · have h : i < s.done.length := by simpa using h
     obtain ⟨x, hx⟩ := gx h
     have hg := gm Mk.cs hx
     have hst := q6o hx
     have hle := y68 s.done i
     refine xs rfl (nn_ _) (y9 rfl _ hg (xs rfl rfl ?_))
     refine xb rfl (fun b0 => ?_) (fun b0 => ?_); rotate_left
     rotate_left
     · rw [if_pos (by simpa using b0)] at hst
       exact q9 rfl (hJ _ (i + 1) (by omega) (by omega) ⟨⟨cwi (by omega) (by omega) (by omega), (by rw [hst]; exact cwi (by omega) (by omega) (by omega)), ⟨rfl, rfl, rfl⟩, trivial⟩, ⟨lcr, trivial⟩, rfl⟩)
     · rw [if_neg (by simpa using b0)] at hst
       exact q9 rfl (hJ _ (i + 1) (by omega) (by omega) ⟨⟨cwi (by omega) (by omega) (by omega), (by rw [hst]; rfl), ⟨rfl, rfl, rfl⟩, trivial⟩, ⟨lcr, trivial⟩, rfl⟩)
   · have h : i = s.done.length := by have : ¬ i < s.done.length := (by simpa using h); omega
     rw [h, List.take_length]
     clear hJ
     refine qc rfl (ι := Nat) (fun i => i ≤ s.app.length ∧ ∀ j, j < i → z9b s j = 0) (fun i => ⟨[(5, sV (.int .i64 i)), (3, sV (.int .i64 (y3l s.done))), (1, .one (.a 1 0))], [(1, .var (s.cs.map .b))]⟩) (fun i => s.app.length - i) 0 ⟨Nat.zero_le _, fun j hj => by omega⟩ ?_ ?_
     · exact ⟨⟨rfl, rfl, ⟨rfl, rfl, rfl⟩, trivial⟩, ⟨lcr, trivial⟩, rfl⟩
     · intro i ⟨hi, h0⟩ J hJ
       refine xb rfl ?_ ?_ <;> intro h
       · have h : i < s.app.length := by simpa using h
         obtain ⟨x, hx⟩ := gx h
         have hg := gm (fun n => [i64 n]) hx
         refine qd rfl [] (.take 0 [] (.take 1 (Rg 7 14) (.take 2 [] (.take 3 (Rg 5 16) (Tk [4, 5] (.take 6 (Rg 7 14) (.alt 7 (Tk [8, 9, 10] (.take 11 [13, 19, 20] (Tk [12, 13, 14] (.take 15 (Rg 17 4) (Tk [16, 17] (.take 18 [19, 20] (.alt 19 (.take 20 [] .done) .nil))))))) .nil))))))) (by kernel_rfl) (xs rfl (nn_ _) (y9 rfl _ hg (xs rfl rfl (z7 rfl (y0v _ _ (by assumption)) rfl tv3 ?_))))
         refine xb rfl ?_ ?_ <;> intro b0
         refine xj (k := 11) rfl ?_
         refine xv rfl rfl rfl ?_; rotate_left
         refine xj (k := 3) rfl (xs rfl (.inl rfl) (xs rfl (nn_ _) (xs rfl (nn_ _) (xs rfl (by simp; omega) (xj (k := 4) rfl (xs rfl (nn_ _) (y9 rfl _ hg (xs rfl rfl (xj (k := 2) rfl ?_)))))))))
         refine z7 rfl (y2v _ (s.app.take i) x (by simp [ints, List.map_take]) (by rw [List.length_take]; omega)) rfl tv3 (xj (k := 1) rfl ?_)
         refine xb rfl ?_ ?_ <;> intro b1
         refine xv rfl rfl rfl ?_; rotate_left
         rotate_left
         all_goals first | (refine vb ?_; have hc1 : z9b s i = 1 := (by simp only [z9b, hx]; first | (rw [b0, b1]; rfl) | (rw [b0]; rfl)); have := q0v h0 (by rw [hc1]; decide) h; rw [hc1] at this; simp [z65, this]; done) | exact q9 rfl (hJ _ (i + 1) ⟨by omega, qb h0 (by simp only [z9b, hx]; rw [b0, b1]; rfl)⟩ (by omega) ⟨⟨cwi (by omega) (by omega) (by omega), rfl, ⟨rfl, rfl, rfl⟩, trivial⟩, ⟨lcr, trivial⟩, rfl⟩)
       · have h : ¬ i < s.app.length := by simpa using h
         have hz := zg (f := z9b s) (n := s.app.length) (fun j hj => h0 j (by omega))
         refine xv rfl rfl rfl ?_
         exact vb (by simp only [z65, hz, ints, List.length_map]; rw [Bool.eq_iff_iff]; simp; omega)
theorem y91 (s : Shd) (ho : q4o s) (hB : ql s.bals = 0) : PC Tryz.prog 254 [.agg s.cs] (rI (q11 s)) := by
 refine PC.begin Tryz.func254 rfl (by kernel_rfl) ?_
 have ho' := ho
 obtain ⟨o1, o2, o3, o4, o5, o6⟩ := ho'
 refine qc rfl (ι := Nat) (fun i => i ≤ s.held.length ∧ ∀ j, j < i → y1o q0l s j = 0) (fun i => ⟨[(3, sV (.int .i64 i)), (1, .one (.a 1 0))], [(1, .var (s.cs.map .b))]⟩) (fun i => s.held.length - i) 0 ⟨Nat.zero_le _, fun j hj => by omega⟩ ?_ ?_
 · exact ⟨⟨rfl, ⟨rfl, rfl, rfl⟩, trivial⟩, ⟨lcr, trivial⟩, rfl⟩
 · intro i ⟨hi, h0⟩ J hJ
   refine xb rfl ?_ ?_ <;> intro h
   · have h : i < s.held.length := by simpa using h
     obtain ⟨x, hx⟩ := gx h
     have hg := gm Con.cs hx
     have hcl := o6 x (List.mem_of_getElem? hx)
     rcases Nat.eq_zero_or_pos i with hz | hz
     · subst hz
       refine xs rfl (nn_ _) (y9 rfl _ hg (xs rfl rfl (z7 rfl (z4i _ (by assumption)) rfl ⟨tv3, trivial⟩ ?_)))
       refine xb rfl ?_ ?_ <;> intro b0
       refine xv rfl rfl rfl ?_; rotate_left
       refine qd rfl [] (Tk (Rg 0 4) (.take 4 (Rg 12 26) (.take 5 [] (.take 6 (Rg 9 29) (Tk (Rg 7 4) (.take 11 (Rg 12 26) (Tk [12, 13, 14] (.take 15 (Rg 18 20) (.take 16 [] (.take 17 (Rg 18 20) (.alt 18 (Tk (Rg 19 5) (.take 24 (Rg 27 11) (.take 25 [] (.take 26 (Rg 27 11) (.alt 27 (Tk (Rg 28 4) (.take 32 (Rg 35 3) (.take 33 [] (.take 34 (Rg 35 3) (.alt 35 (Tk [36, 37] .done) .nil))))) .nil))))) .nil))))))))))) (by kernel_rfl) (xj (k := 15) rfl (z7 rfl (y1m _ _ (by omega)) rfl ⟨tv3, trivial, trivial⟩ (xj (k := 3) rfl ?_)))
       refine xb rfl ?_ ?_ <;> intro b1
       refine xj (k := 14) rfl ?_
       refine xv rfl rfl rfl ?_; rotate_left
       refine xj (k := 4) rfl (z7 rfl (y0v _ _ (by assumption)) rfl tv3 (xj (k := 2) rfl ?_))
       refine xb rfl ?_ ?_ <;> intro b2
       refine xj (k := 7) rfl ?_
       refine xv rfl rfl rfl ?_; rotate_left
       refine xj (k := 4) rfl (z7 rfl (y0v _ _ (by assumption)) rfl tv3 (xj (k := 2) rfl ?_))
       refine xb rfl ?_ ?_ <;> intro b3
       refine xv rfl rfl rfl ?_; rotate_left
       rotate_left
       all_goals (first | (refine vi (y6h (q8 h h0 ?_ (by first | decide | simp_all)) (by first | decide | simp_all)); clear hJ h0 hg; simp_all [y1o, ahead_zero]; done) | (refine q9 rfl (hJ _ 1 ⟨by omega, qb h0 ?_⟩ (by omega) ⟨⟨cwi (by omega) (by omega) (by omega), ⟨rfl, rfl, rfl⟩, trivial⟩, ⟨lcr, trivial⟩, rfl⟩); clear hJ h0 hg; simp_all [y1o, ahead_zero]))
     · obtain ⟨p, hp⟩ := gx (xs := s.held) (i := i - 1) (by omega)
       have hgp := q19 Con.cs hz (by omega) hp
       refine xs rfl (nn_ _) (y9 rfl _ hg (xs rfl rfl (z7 rfl (z4i _ (by assumption)) rfl ⟨tv3, trivial⟩ ?_)))
       refine xb rfl ?_ ?_ <;> intro b0
       refine xv rfl rfl rfl ?_; rotate_left
       refine qd rfl [] (Tk (Rg 0 4) (.take 4 (Rg 12 26) (.take 5 [] (.take 6 (Rg 9 29) (Tk (Rg 7 4) (.take 11 (Rg 12 26) (Tk [12, 13, 14] (.take 15 (Rg 18 20) (.take 16 [] (.take 17 (Rg 18 20) (.alt 18 (Tk (Rg 19 5) (.take 24 (Rg 27 11) (.take 25 [] (.take 26 (Rg 27 11) (.alt 27 (Tk (Rg 28 4) (.take 32 (Rg 35 3) (.take 33 [] (.take 34 (Rg 35 3) (.alt 35 (Tk [36, 37] .done) .nil))))) .nil))))) .nil))))))))))) (by kernel_rfl) ?_
       refine xb rfl ?_ ?_ <;> intro b1
       refine xj (k := 6) rfl (xs rfl (q0m hz (by omega)) (y9 rfl _ hgp (xs rfl rfl (xj (k := 4) rfl ?_))))
       refine xb rfl ?_ ?_ <;> intro b2
       refine xj (k := 21) rfl ?_
       refine xv rfl rfl rfl ?_; rotate_left
       refine xj (k := 3) rfl (z7 rfl (y1m _ _ (by omega)) rfl ⟨tv3, trivial, trivial⟩ (xj (k := 3) rfl ?_))
       refine xb rfl ?_ ?_ <;> intro b3
       refine xj (k := 14) rfl ?_
       refine xv rfl rfl rfl ?_; rotate_left
       refine xj (k := 4) rfl (z7 rfl (y0v _ _ (by assumption)) rfl tv3 (xj (k := 2) rfl ?_))
       refine xb rfl ?_ ?_ <;> intro b4
       refine xj (k := 7) rfl ?_
       refine xv rfl rfl rfl ?_; rotate_left
       refine xj (k := 4) rfl (z7 rfl (y0v _ _ (by assumption)) rfl tv3 (xj (k := 2) rfl ?_))
       refine xb rfl ?_ ?_ <;> intro b5
       refine xv rfl rfl rfl ?_; rotate_left
       rotate_left
       refine xj (k := 14) rfl (z7 rfl (y1m _ _ (by omega)) rfl ⟨tv3, trivial, trivial⟩ (xj (k := 3) rfl ?_))
       refine xb rfl ?_ ?_ <;> intro b2
       refine xj (k := 14) rfl ?_
       refine xv rfl rfl rfl ?_; rotate_left
       refine xj (k := 4) rfl (z7 rfl (y0v _ _ (by assumption)) rfl tv3 (xj (k := 2) rfl ?_))
       refine xb rfl ?_ ?_ <;> intro b3
       refine xj (k := 7) rfl ?_
       refine xv rfl rfl rfl ?_; rotate_left
       refine xj (k := 4) rfl (z7 rfl (y0v _ _ (by assumption)) rfl tv3 (xj (k := 2) rfl ?_))
       refine xb rfl ?_ ?_ <;> intro b4
       refine xv rfl rfl rfl ?_; rotate_left
       rotate_left
       all_goals (first | (refine vi (y6h (q8 h h0 ?_ (by first | decide | simp_all)) (by first | decide | simp_all)); clear hJ h0 hg hgp; simp_all [y1o, ya hz hp]; done) | (refine q9 rfl (hJ _ (i + 1) ⟨by omega, qb h0 ?_⟩ (by omega) ⟨⟨cwi (by omega) (by omega) (by omega), ⟨rfl, rfl, rfl⟩, trivial⟩, ⟨lcr, trivial⟩, rfl⟩); clear hJ h0 hg hgp; simp_all [y1o, ya hz hp]))
   · have h : ¬ i < s.held.length := by simpa using h
     have hH : zr q0l s = 0 := zg (f := y1o q0l s) (n := s.held.length) (fun j hj => h0 j (by omega))
     have hcon := z4b hH
     clear hJ h0
     refine qc rfl (ι := Nat) (fun i => i ≤ s.votes.length ∧ ∀ j y, j < i → s.votes[j]? = some y → q3o s y = false) (fun i => ⟨[(6, sV (.int .i64 i)), (1, .one (.a 1 0))], [(1, .var (s.cs.map .b))]⟩) (fun i => s.votes.length - i) 0 ⟨Nat.zero_le _, fun j y hj => by omega⟩ ?_ ?_
     · exact ⟨⟨rfl, ⟨rfl, rfl, rfl⟩, trivial⟩, ⟨lcr, trivial⟩, rfl⟩
     · intro i ⟨hi, h0⟩ J hJ
       refine xb rfl ?_ ?_ <;> intro h
       · have h : i < s.votes.length := by simpa using h
         obtain ⟨x, hx⟩ := gx h
         have hg := gm Mk.cs hx
         refine xs rfl (nn_ _) (y9 rfl _ hg (xs rfl rfl ?_))
         refine xb rfl ?_ ?_ <;> intro b0
         refine xj (k := 3) rfl (z7 rfl (z71 _ _ (by assumption)) rfl ⟨tv7, trivial, trivial⟩ (xj (k := 2) rfl ?_))
         refine xb rfl ?_ ?_ <;> intro b1
         refine xj (k := 4) rfl (z7 rfl (y0v _ _ (by assumption)) rfl tv3 (xj (k := 2) rfl ?_))
         refine xb rfl ?_ ?_ <;> intro b2
         refine xv rfl rfl rfl ?_; rotate_left
         rotate_left
         refine xj (k := 7) rfl ?_; rotate_left
         refine xj (k := 13) rfl ?_; rotate_left
         all_goals first | (refine vi (y92 hH (qt hx ?_)); clear hJ h0 hg; simp only [q3o, z4c]; generalize (s.held.any fun y => y.id == x.c) = q at *; simp_all; done) | (refine q9 rfl (hJ _ (i + 1) ⟨by omega, qg hx h0 ?_⟩ (by omega) ⟨⟨cwi (by omega) (by omega) (by omega), ⟨rfl, rfl, rfl⟩, trivial⟩, ⟨lcr, trivial⟩, rfl⟩); clear hJ h0 hg; simp only [q3o, z4c]; generalize (s.held.any fun y => y.id == x.c) = q at *; simp_all)
       · have h : ¬ i < s.votes.length := by simpa using h
         have hO := any_none (zk (by omega) h0)
         clear hJ h0
         refine z7 rfl (za7 _ (by assumption)) rfl ⟨tv7, trivial⟩ ?_
         refine xb rfl ?_ ?_ <;> intro b0
         refine xv rfl rfl rfl ?_; rotate_left
         rotate_left
         · exact vi (q92 hH hO (by simpa using b0))
         have hA : z65 s = true := by simpa using b0
         refine qc rfl (ι := Nat) (fun i => i ≤ s.held.length ∧ ∀ j, j < i → q1e s j = 0) (fun i => ⟨[(8, sV (.int .i64 i)), (1, .one (.a 1 0))], [(1, .var (s.cs.map .b))]⟩) (fun i => s.held.length - i) 0 ⟨Nat.zero_le _, fun j hj => by omega⟩ ?_ ?_
         · exact ⟨⟨rfl, ⟨rfl, rfl, rfl⟩, trivial⟩, ⟨lcr, trivial⟩, rfl⟩
         · intro i ⟨hi, h0⟩ J hJ
           refine xb rfl ?_ ?_ <;> intro h
           · have h : i < s.held.length := by simpa using h
             obtain ⟨x, hx⟩ := gx h
             have hg := gm Con.cs hx
             have hcl := o6 x (List.mem_of_getElem? hx)
             have hlx : (yn x s.idx).length ≤ 1048576 := Nat.le_trans (List.length_filter_le _ _) (by omega)
             refine qc rfl (ι := Nat) (fun k => k ≤ i ∧ ∀ j y, j < k → s.held[j]? = some y → z5d (yn x s.idx) (yn y s.idx) = false) (fun k => ⟨[(9, sV (.int .i64 k)), (8, sV (.int .i64 i)), (1, .one (.a 1 0))], [(1, .var (s.cs.map .b))]⟩) (fun k => i - k) 0 ⟨Nat.zero_le _, fun j y hj => by omega⟩ ?_ ?_
             · exact ⟨⟨rfl, rfl, ⟨rfl, rfl, rfl⟩, trivial⟩, ⟨lcr, trivial⟩, rfl⟩
             · intro k ⟨hk, h1⟩ J2 hJ2
               refine xb rfl (fun h' => ?_) (fun h' => ?_)
               · have h' : k < i := by simpa using h'
                 obtain ⟨y, hy⟩ := gx (xs := s.held) (i := k) (by omega)
                 have hg2 := gm Con.cs hy
                 have hcl2 := o6 y (List.mem_of_getElem? hy)
                 have hly : (yn y s.idx).length ≤ 1048576 := Nat.le_trans (List.length_filter_le _ _) (by omega)
                 have hyt : (s.held.take i)[k]? = some y := by rw [List.getElem?_take, if_pos h', hy]
                 refine qd rfl [] (.take 0 [] (.take 1 [3, 4, 7, 15, 16] (Tk [2, 3] (.take 4 [7, 15, 16] (.take 5 [] (.take 6 [7, 15, 16] (.take 8 [] (.take 9 [11, 12, 15, 16] (Tk [10, 11] (.take 12 [15, 16] (.take 13 [] (.take 14 [15, 16] (.alt 7 (.alt 15 (.alt 16 .done .nil) .nil) .nil))))))))))))) (by kernel_rfl) (xs rfl (nn_ _) (y9 rfl _ hg (xs rfl rfl (xs rfl (nn_ _) (y9 rfl _ hg2 (xs rfl rfl (z7 rfl (y1m _ _ (by omega)) rfl ⟨tv3, trivial, trivial⟩ (z7 rfl (y1m _ _ (by omega)) rfl ⟨tv3, trivial, trivial⟩ (z7 rfl (z86 _ _ (by assumption) (by assumption)) rfl ⟨rfl, rfl, trivial⟩ ?_)))))))))
                 refine xb rfl ?_ ?_ <;> intro b0
                 refine xv rfl rfl rfl ?_; rotate_left
                 rotate_left
                 · have ha := (qt (p := fun own : Con => z5d (yn x s.idx) (yn own s.idx)) hyt b0).symm
                   have hc7 : q1e s i = 7 := by simp only [q1e, hx]; rw [if_pos ha]
                   exact vi (y4j hH hO hA (y75 (q8 h h0 hc7 (by decide)) (by decide)))
                 · exact q9 rfl (hJ2 _ (k + 1) ⟨by omega, qg hy h1 b0⟩ (by omega) ⟨⟨cwi (by omega) (by omega) (by omega), rfl, ⟨rfl, rfl, rfl⟩, trivial⟩, ⟨lcr, trivial⟩, rfl⟩)
               · have h' : ¬ k < i := by simpa using h'
                 have hnone := any_none (p := fun own : Con => z5d (yn x s.idx) (yn own s.idx)) (l := s.held.take i) (fun j y hj => by
                  rw [List.getElem?_take] at hj
                  split at hj
                  · exact h1 j y (by omega) hj
                  · cases hj)
                 have hc0 : q1e s i = 0 := by simp only [q1e, hx]; rw [if_neg (by rw [← hnone]; decide)]
                 skip
                 exact q9 rfl (hJ _ (i + 1) ⟨by omega, qb h0 hc0⟩ (by omega) ⟨⟨cwi (by omega) (by omega) (by omega), ⟨rfl, rfl, rfl⟩, trivial⟩, ⟨lcr, trivial⟩, rfl⟩)
           · have h : ¬ i < s.held.length := by simpa using h
             have hM := zg (f := q1e s) (n := s.held.length) (fun j hj => h0 j (by omega))
             clear hJ h0
             refine qc rfl (ι := Nat) (fun i => i ≤ s.held.length ∧ ∀ j, j < i → y6q z3o s j = 0) (fun i => ⟨[(10, sV (.int .i64 i)), (1, .one (.a 1 0))], [(1, .var (s.cs.map .b))]⟩) (fun i => s.held.length - i) 0 ⟨Nat.zero_le _, fun j hj => by omega⟩ ?_ ?_
             · exact ⟨⟨rfl, ⟨rfl, rfl, rfl⟩, trivial⟩, ⟨lcr, trivial⟩, rfl⟩
             · intro i ⟨hi, h0⟩ J hJ
               refine xb rfl ?_ ?_ <;> intro h
               · have h : i < s.held.length := by simpa using h
                 obtain ⟨x, hx⟩ := gx h
                 have hg := gm Con.cs hx
                 have hxm := List.mem_of_getElem? hx
                 have hcl := o6 x hxm
                 have hlx : (yn x s.idx).length ≤ 1048576 := Nat.le_trans (List.length_filter_le _ _) (by omega)
                 refine qd rfl [] (.take 0 [] (.take 1 [10, 11] (.take 2 [] (.take 3 [5, 6, 9, 10, 11] (Tk [4, 5] (.take 6 (Rg 9 3) (.take 7 [] (.take 8 (Rg 9 3) (.alt 9 (.alt 10 (.take 11 [] .done) .nil) .nil))))))))) (by kernel_rfl) (xs rfl (nn_ _) (y9 rfl _ hg (xs rfl rfl (z7 rfl (y1m _ _ (by omega)) rfl ⟨tv3, trivial, trivial⟩ (z7 rfl (y72 s.bals (yn x s.idx) o1 hlx (q7o hB (hcon x hxm))) rfl ⟨trivial, rfl, trivial⟩ ?_)))))
                 refine xb rfl ?_ ?_ <;> intro b0
                 refine xv rfl rfl rfl ?_; rotate_left
                 rotate_left
                 · exact vi (y4j hH hO hA (q3z hM (q8 h h0 (by simp_all [y6q]) (by simpa using b0))))
                 · exact q9 rfl (hJ _ (i + 1) ⟨by omega, qb h0 (by simp_all [y6q])⟩ (by omega) ⟨⟨cwi (by omega) (by omega) (by omega), ⟨rfl, rfl, rfl⟩, trivial⟩, ⟨lcr, trivial⟩, rfl⟩)
               · have h : ¬ i < s.held.length := by simpa using h
                 have hF := zg (f := y6q z3o s) (n := s.held.length) (fun j hj => h0 j (by omega))
                 refine xv rfl rfl rfl ?_
                 exact vi (y4j hH hO hA (q3z hM hF.symm))
theorem q85 (s : Shd) (ho : q4o s) : PC Tryz.prog 176 [.agg s.cs] (rI (qp s)) := by
 refine PC.begin Tryz.func176 rfl (by kernel_rfl) ?_
 have ho' := ho
 obtain ⟨o1, o2, o3, o4, o5, o6⟩ := ho'
 refine z7 rfl (z6s _ _ (by assumption)) rfl tv3 ?_
 refine xb rfl ?_ ?_ <;> intro b0
 refine xv rfl rfl rfl ?_; rotate_left
 refine xb rfl ?_ ?_ <;> intro b1
 refine xj (k := 15) rfl ?_
 refine xv rfl rfl rfl ?_; rotate_left
 refine xj (k := 4) rfl ?_
 refine xb rfl ?_ ?_ <;> intro b2
 refine xj (k := 10) rfl ?_
 refine xv rfl rfl rfl ?_; rotate_left
 refine xj (k := 4) rfl ?_
 refine xb rfl ?_ ?_ <;> intro b3
 refine xj (k := 5) rfl ?_
 refine xv rfl rfl rfl ?_; rotate_left
 refine xj (k := 4) rfl ?_
 refine xb rfl ?_ ?_ <;> intro b4
 refine xv rfl rfl rfl ?_; rotate_left
 refine z7 rfl (q57 _ (by omega)) rfl ⟨trivial, trivial⟩ ?_
 refine xb rfl ?_ ?_ <;> intro b5
 refine xv rfl rfl rfl ?_; rotate_left
 refine z7 rfl (q57 _ (by omega)) rfl ⟨trivial, trivial⟩ ?_
 refine xb rfl ?_ ?_ <;> intro b6
 refine xv rfl rfl rfl ?_; rotate_left
 refine z7 rfl (y91 s ho (y9b b0).2) rfl ⟨tv7, trivial⟩ ?_
 refine xv rfl rfl rfl ?_; rotate_left
 · exact vi (z58 b0)
 all_goals (have e : ∀ n : Nat, (100 < (n : Int)) = (100 < n) := fun n => by apply propext; omega)
 all_goals (have e' : ∀ n : Nat, ((n : Int) ≤ 100) = (n ≤ 100) := fun n => by apply propext; omega)
 all_goals (refine vi (y58 (y9b b0) ?_); clear b0; simp_all [many]; try (intros; exfalso; omega))
theorem z89 (us : List Int) (hu : us.length < 65536) : PC Tryz.prog 339 [.one (.f 367 [.p [.l (ints us)]])] (.one (.own false [.l 1 (ints (z1a us))])) := by
 refine PC.begin Tryz.func339 rfl (by kernel_rfl) ?_
 have hc := q6n us (by omega)
 have hq := y93 us (by omega)
 have hms : (ints us).length = (ints (z1a us)).length := by simp [ints, z1a]
 refine z7 rfl (hc) rfl ⟨trivial, trivial⟩ (y0t rfl (hq) ⟨⟨rfl, rfl, rfl, rfl⟩, trivial⟩ rfl ?_)
 refine xr rfl (qm rfl ⟨⟨rfl, ⟨?_, rfl, .inl rfl⟩, trivial⟩, z6 rfl⟩)
 exact hms
theorem q7j (us vs : List Int) (hx : us.length ≤ 1048576) : PC Tryz.prog 338 [.one (.l (ints us)), .one (.l (ints vs))] (rB (us == vs)) := by
 refine PC.begin Tryz.func338 rfl (by kernel_rfl) ?_
 have hle : (ints us).length = us.length := by simp
 have hle2 : (ints vs).length = vs.length := by simp
 refine xb rfl ?_ ?_ <;> intro h0
 · have hne : ¬ us.length = vs.length := by simp at h0; omega
   refine xv rfl rfl rfl ?_
   all_goals (refine vb ?_; rw [eq_comm, beq_eq_false_iff_ne]; exact fun e => hne (by rw [e]))
 · have he : us.length = vs.length := by simp at h0; omega
   refine qc rfl (ι := Nat) (fun i => i ≤ us.length ∧ us.take i = vs.take i) (fun i => ⟨[(13, sV (.int .i64 i)), (12, sV (.int .i64 (ints us).length)), (0, .one (.b (.l (ints us)))), (1, .one (.b (.l (ints vs))))], []⟩) (fun i => us.length - i) 0 ⟨Nat.zero_le _, rfl⟩ ?_ ?_
   · exact ⟨⟨rfl, rfl, rfl, rfl, trivial⟩, trivial, rfl⟩
   · intro i ⟨hi, hq⟩ J hJ
     refine xb rfl ?_ ?_ <;> intro h
     · have h : i < us.length := by simpa using h
       obtain ⟨x, hx1⟩ := gx h
       obtain ⟨y, hy1⟩ := gx (xs := vs) (i := i) (by omega)
       have hg := gm (fun n => [i64 n]) hx1
       have hg2 := gm (fun n => [i64 n]) hy1
       refine qd rfl [] (Tk [0, 1, 2] (.take 3 [8] (Tk [4, 5, 6] (.take 7 [8] (.take 8 [] .done))))) (by kernel_rfl) (xs rfl (nn_ _) (y9 rfl _ hg (xs rfl rfl (xs rfl (nn_ _) (y9 rfl _ hg2 (xs rfl rfl ?_))))))
       refine xb rfl ?_ ?_ <;> intro b0
       refine xv rfl rfl rfl ?_; rotate_left
       rotate_left
       · refine vb ?_; rw [eq_comm, beq_eq_false_iff_ne]; intro e; subst e; rw [hx1] at hy1; cases hy1; simp at b0
       · have e : x = y := by simpa using b0
         exact q9 rfl (hJ _ (i + 1) ⟨by omega, by rw [List.take_add_one, List.take_add_one, hx1, hy1, hq, e]⟩ (by omega) ⟨⟨cwi (by omega) (by omega) (by omega), rfl, rfl, rfl, trivial⟩, trivial, rfl⟩)
     · have h : i = us.length := by have : ¬ i < us.length := (by simpa using h); omega
       rw [h, List.take_length, he, List.take_length] at hq
       refine xv rfl rfl rfl ?_
       all_goals (refine vb ?_; rw [hq]; simp)
theorem z4q (s : Shd) (ho : q4o s) (ha : s.app.length < 65536) (hd : yi s.done = 0) : PC Tryz.prog 275 [.agg s.cs] (rB (z65 s)) := by
 refine PC.begin Tryz.func275 rfl (by kernel_rfl) ?_
 obtain ⟨o1, o2, o3, o4, o5, o6⟩ := ho
 rw [← q6l hd]
 have hle : (s.done.map Mk.cs).length = s.done.length := by simp
 have hms : (z1a s.app).length = s.app.length := (List.mergeSort_perm s.app _).length_eq
 have hv := z8f (ints s.app)
 have hso := z89 s.app ha
 have hq := q7j (z1a s.app) (dnI s.done) (by omega)
 refine xs rfl trivial ?_
 refine qc rfl (ι := Nat) (fun i => i ≤ s.done.length) (fun i => ⟨[(10, sV (.int .i64 i)), (3, .one (.h 6 (dnI (s.done.take i)).length)), (1, .one (.a 1 0)), (8, .one (.b (.l (s.done.map Mk.cs)))), (9, sV (.int .i64 (s.done.map Mk.cs).length))], [(6, .arr true 1 0 (ints (dnI (s.done.take i)))), (1, .var (s.cs.map .b))]⟩) (fun i => s.done.length - i) 0 (Nat.zero_le _) ?_ ?_
 · exact ⟨⟨rfl, ⟨rfl, rfl, rfl⟩, ⟨rfl, rfl, rfl⟩, rfl, rfl, trivial⟩, ⟨⟨rfl, .inl rfl, .inl rfl⟩, lcr, trivial⟩, rfl⟩
 · intro i hi J hJ
   refine xb rfl ?_ ?_ <;> intro h
   · have h : i < s.done.length := by simpa using h
     obtain ⟨x, hx⟩ := gx h
     have hg := gm Mk.cs hx
     have hf := q8n hx
     have hfl : (dnI (s.done.take i)).length ≤ i := by rw [q7h]; exact y68 _ _
     refine xs rfl (by simp) (y9 rfl _ hg (xs rfl rfl ?_))
     refine xb rfl ?_ ?_ <;> intro b0
     refine xs rfl ⟨trivial, trivial⟩ (xs rfl (by simp) (xs rfl rfl (xs rfl (.inl rfl) (xs rfl (by simp; omega) ?_))))
     refine xs rfl (by simp; omega) ?_; rotate_left
     rotate_left
     · rw [if_pos (by simpa using b0)] at hf
       exact q9 rfl (hJ _ (i + 1) (by omega) (by omega) ⟨⟨cwi (by omega) (by omega) (by omega), ⟨rfl, by rw [hf]; simp, rfl⟩, ⟨rfl, rfl, rfl⟩, rfl, rfl, trivial⟩, ⟨⟨by rw [hf]; simp, .inl rfl, .inl rfl⟩, lcr, trivial⟩, rfl⟩)
     · rw [if_neg (by simpa using b0)] at hf
       exact q9 rfl (hJ _ (i + 1) (by omega) (by omega) ⟨⟨cwi (by omega) (by omega) (by omega), ⟨rfl, by rw [hf], rfl⟩, ⟨rfl, rfl, rfl⟩, rfl, rfl, trivial⟩, ⟨⟨by rw [hf], .inl rfl, .inl rfl⟩, lcr, trivial⟩, rfl⟩)
   · have h : i = s.done.length := by have : ¬ i < s.done.length := (by simpa using h); omega
     subst h
     rw [List.take_length]
     have hdl : (ints (dnI s.done)).length = (dnI s.done).length := by simp
     refine z7 rfl (hv) rfl ⟨trivial, trivial⟩ (z7 rfl (hso) rfl ⟨trivial, trivial⟩ (z7 rfl hq rfl ⟨rfl, hdl.symm, trivial⟩ ?_))
     exact xr rfl (qm rfl ⟨⟨rfl, rfl, trivial⟩, z6 rfl⟩)
theorem y87 (s : Shd) (ho : q4o s) : PC Tryz.prog 199 [.agg s.cs] (rI (qp s)) := by
 rw [← z4j s]
 have hA : many s = false → yi s.done = 0 → PC Tryz.prog 275 [.agg s.cs] (rB (z65 s)) := fun h1 h2 => z4q s ho (by simp [many] at h1; omega) h2
 refine PC.begin Tryz.func199 rfl (by kernel_rfl) ?_
 have ho' := ho
 obtain ⟨o1, o2, o3, o4, o5, o6⟩ := ho'
 have hm := za3 s
 refine z7 rfl (y2e _) rfl ⟨trivial, trivial⟩ ?_
 refine xb rfl ?_ ?_ <;> intro b0
 refine xv rfl rfl rfl ?_; rotate_left
 refine z7 rfl (z8r _ (by omega)) rfl ⟨trivial, trivial⟩ ?_
 refine xb rfl ?_ ?_ <;> intro b1
 refine xv rfl rfl rfl ?_; rotate_left
 refine xb rfl ?_ ?_ <;> intro b2
 refine xv rfl rfl rfl ?_; rotate_left
 refine qd rfl [] (.take 0 [] (.take 1 [2, 5, 7, 8, 9, 10] (.take 3 [] (.take 4 [5, 7, 8, 9, 10] (.take 6 (Rg 7 4) (.alt 2 (.alt 5 (.alt 7 (.alt 8 (.alt 9 (.take 10 [] .done) .nil) .nil) .nil) .nil) .nil)))))) (by kernel_rfl) (z7 rfl (z4z _ _ q0n o2) rfl ⟨trivial, (fun _ h => nomatch h), trivial⟩ (z7 rfl (z4z _ _ z2m o4) rfl ⟨trivial, (fun _ h => nomatch h), trivial⟩ (z7 rfl (z4y _ (by assumption)) rfl ⟨tv7, trivial⟩ (xs rfl tv4 (z7 rfl (q2b [_, _, _] (by simp)) rfl ⟨rfl, trivial⟩ ?_)))))
 refine xb rfl ?_ ?_ <;> intro b3
 refine xv rfl rfl rfl ?_; rotate_left
 refine z7 rfl (qak _ s.votes (q6x s) _ s rfl (fun m _ => y7r s m ho) o2) rfl tv3 ?_
 refine xb rfl ?_ ?_ <;> intro b4
 refine xj (k := 4) rfl ?_
 refine xv rfl rfl rfl ?_; rotate_left
 refine xj (k := 1) rfl (z7 rfl (hA (hm.symm.trans b2) (zbq b3).2.1) rfl ⟨tv7, trivial⟩ (xj (k := 2) rfl ?_))
 refine xb rfl ?_ ?_ <;> intro b5
 refine xv rfl rfl rfl ?_; rotate_left
 refine z7 rfl (y36 s ho (fun c hc => y8q (by simpa using b1) (z4b (mk := y24) (zbq b3).2.2 c hc))) rfl ⟨tv7, trivial⟩ ?_
 refine xv rfl rfl rfl ?_; rotate_left
 all_goals (refine vi ?_; unfold z1y; simp_all)
theorem y09 (v : Int) : PC Tryz.prog 284 [.one (i64 v)] (rB (within v 0 1000)) := by
 refine PC.begin Tryz.func284 rfl (by kernel_rfl) ?_
 refine z7 rfl (zn _ _ _) rfl tv4 ?_
 refine xr rfl (qm rfl ⟨⟨rfl, rfl, trivial⟩, z6 rfl⟩)
theorem z01 (v : Int) : PC Tryz.prog 181 [.one (i64 v)] (rB (within v 0 1000)) := by
 refine PC.begin Tryz.func181 rfl (by kernel_rfl) ?_
 refine z7 rfl (qi _ _ _) rfl tv4 ?_
 refine xr rfl (qm rfl ⟨⟨rfl, rfl, trivial⟩, z6 rfl⟩)
theorem y0a (v : Int) : PC Tryz.prog 182 [.one (i64 v)] (rB (within v 1 2)) := by
 refine PC.begin Tryz.func182 rfl (by kernel_rfl) ?_
 refine xb rfl ?_ ?_ <;> intro b0
 refine xj (k := 2) rfl ?_
 refine xv rfl rfl rfl ?_; rotate_left
 refine xj (k := 2) rfl ?_
 refine xv rfl rfl rfl ?_; rotate_left
 all_goals (refine vb ?_; rw [Bool.eq_iff_iff]; (simp_all [within] <;> omega))
theorem y23 (x : Vt) : PC Tryz.prog 289 [.agg x.cs] (rB x.ok) := by
 refine PC.begin Tryz.func289 rfl (by kernel_rfl) ?_
 refine z7 rfl (y09 _) rfl ⟨trivial, trivial⟩ ?_
 refine xb rfl ?_ ?_ <;> intro b0
 refine xj (k := 2) rfl (z7 rfl (q0n _) rfl ⟨trivial, trivial⟩ (xj (k := 1) rfl ?_))
 refine xv rfl rfl rfl ?_; rotate_left
 refine xj (k := 3) rfl ?_
 refine xv rfl rfl rfl ?_; rotate_left
 all_goals (refine vb ?_; simp_all [Vt.ok])
theorem y1w (x : Vt) : PC Tryz.prog 186 [.agg x.cs] (rB x.ok) := by
 refine PC.begin Tryz.func186 rfl (by kernel_rfl) ?_
 refine z7 rfl (z01 _) rfl ⟨trivial, trivial⟩ ?_
 refine xb rfl ?_ ?_ <;> intro b0
 refine xj (k := 2) rfl (z7 rfl (y0a _) rfl ⟨trivial, trivial⟩ (xj (k := 1) rfl ?_))
 refine xv rfl rfl rfl ?_; rotate_left
 refine xj (k := 3) rfl ?_
 refine xv rfl rfl rfl ?_; rotate_left
 all_goals (refine vb ?_; simp_all [Vt.ok])
theorem z21 {a b c d : Int} : z1c [.int .i64 a, .int .i64 b] [.int .i64 c, .int .i64 d] = (a == c && b == d) := by simp [z1c]
abbrev rVt (x : Vt) : Res := .one (.own true [.s (.int .i64 x.b), .s (.int .i64 x.v)])
theorem q38 : PC Tryz.prog 288 [] (rVt Vt.none) := by
 refine PC.begin Tryz.func288 rfl (by kernel_rfl) ?_
 refine xr rfl (qm rfl ⟨⟨rfl, rfl, rfl, trivial⟩, z6 rfl⟩)
theorem q23 : PC Tryz.prog 185 [] (rVt Vt.none) := by
 refine PC.begin Tryz.func185 rfl (by kernel_rfl) ?_
 refine xr rfl (qm rfl ⟨⟨rfl, rfl, rfl, trivial⟩, z6 rfl⟩)
theorem zap {α β : Type} {us : List α} {x : α} (f : α → β) (h0 : 0 < us.length) (h : us.length ≤ 1048576) (hx : us[us.length - 1]? = some x) : (us.map f)[(IntKind.i64.wrap (((us.map f).length : Int) - 1)).toNat]? = some (f x) := by
 rw [List.length_map]; exact q19 f h0 (by omega) hx
theorem zaz {α β : Type} {us : List α} (f : α → β) (h0 : 0 < us.length) (h : us.length ≤ 1048576) : 0 ≤ IntKind.i64.wrap (((us.map f).length : Int) - 1) := by rw [List.length_map]; exact q0m h0 (by omega)
theorem z5o (us : List Vt) (hl : us.length ≤ 1048576) : PC Tryz.prog 346 [.one (.l (us.map Vt.cs))] (rVt (y3n us)) := by
 refine PC.begin Tryz.func346 rfl (by kernel_rfl) ?_
 by_cases h0 : us.length = 0
 · have e : us = [] := List.eq_nil_of_length_eq_zero h0
   have e2 : y3n us = Vt.none := by rw [e]; rfl
   rw [e2]
   refine xb rfl ?_ ?_ <;> intro b0
   refine z7 rfl (q38) rfl trivial ?_
   refine xr rfl (qm rfl ⟨⟨rfl, rfl, rfl, trivial⟩, z6 rfl⟩)
   exact absurd b0 (by simp; omega)
   all_goals first | done | (exfalso; simp_all; done) | skip
 · obtain ⟨x, hx⟩ := gx (xs := us) (i := us.length - 1) (by omega)
   have e2 : y3n us = x := by unfold y3n; rw [hx]; rfl
   rw [e2]
   have hg := zap Vt.cs (by omega) hl hx
   refine xb rfl ?_ ?_ <;> intro b0
   exact absurd b0 (by simp [*])
   refine xs rfl (zaz Vt.cs (by omega) hl) (y9 rfl _ hg (xs rfl rfl ?_))
   refine xr rfl (qm rfl ⟨⟨rfl, rfl, rfl, trivial⟩, z6 rfl⟩)
   all_goals first | done | (exfalso; simp_all; done) | skip
theorem y7s (s : Slt) (hl : s.cast.length ≤ 1048576) : PC Tryz.prog 308 [.agg s.cs] (rVt (y3n s.cast)) := by
 refine PC.begin Tryz.func308 rfl (by kernel_rfl) ?_
 by_cases h0 : s.cast.length = 0
 · have e : s.cast = [] := List.eq_nil_of_length_eq_zero h0
   have e2 : y3n s.cast = Vt.none := by rw [e]; rfl
   rw [e2]
   refine xb rfl ?_ ?_ <;> intro b0
   refine z7 rfl (q23) rfl trivial ?_
   refine xr rfl (qm rfl ⟨⟨rfl, rfl, rfl, trivial⟩, z6 rfl⟩)
   exact absurd b0 (by simp; omega)
   all_goals first | done | (exfalso; simp_all; done) | skip
 · obtain ⟨x, hx⟩ := gx (xs := s.cast) (i := s.cast.length - 1) (by omega)
   have e2 : y3n s.cast = x := by unfold y3n; rw [hx]; rfl
   rw [e2]
   have hg := zap Vt.cs (by omega) hl hx
   refine xb rfl ?_ ?_ <;> intro b0
   exact absurd b0 (by simp [*])
   refine xs rfl (zaz Vt.cs (by omega) hl) (y9 rfl _ hg (xs rfl rfl ?_))
   refine xr rfl (qm rfl ⟨⟨rfl, rfl, rfl, trivial⟩, z6 rfl⟩)
   all_goals first | done | (exfalso; simp_all; done) | skip
theorem q4r (us : List Vt) (hl : us.length ≤ 1048576) : PC Tryz.prog 345 [.one (.l (us.map Vt.cs))] (rI (scan (y12 us) us.length)) := by
 refine PC.begin Tryz.func345 rfl (by kernel_rfl) ?_
 have hle : (us.map Vt.cs).length = us.length := by simp
 refine qc rfl (ι := Nat) (fun i => i ≤ us.length ∧ ∀ j, j < i → y12 us j = 0) (fun i => ⟨[(7, sV (.int .i64 i)), (6, sV (.int .i64 (us.map Vt.cs).length)), (5, .one (.b (.l (us.map Vt.cs)))), (0, .one (.b (.l (us.map Vt.cs))))], []⟩) (fun i => us.length - i) 0 ⟨Nat.zero_le _, fun j hj => by omega⟩ ?_ ?_
 · exact ⟨⟨rfl, rfl, rfl, rfl, trivial⟩, trivial, rfl⟩
 · intro i ⟨hi, h0⟩ J hJ
   refine xb rfl ?_ ?_ <;> intro h
   · have h : i < us.length := by simpa using h
     obtain ⟨x, hx⟩ := gx h
     have hg := gm Vt.cs hx
     rcases Nat.eq_zero_or_pos i with hz | hz
     · subst hz
       refine xs rfl (nn_ _) (y9 rfl _ hg (xs rfl rfl (z7 rfl (y23 _) rfl ⟨tv3, trivial⟩ ?_)))
       refine xb rfl ?_ ?_ <;> intro b0
       refine xv rfl rfl rfl ?_; rotate_left
       refine qd rfl [] (Tk (Rg 0 4) (.take 4 (Rg 11 25) (Tk (Rg 5 5) (.take 10 (Rg 11 25) (Tk [11, 12, 13] (.take 14 (Rg 21 15) (Tk (Rg 15 5) (.take 20 (Rg 21 15) (Tk [21, 22, 23] (.take 24 (Rg 31 5) (Tk (Rg 25 5) (.take 30 (Rg 31 5) (Tk (Rg 31 5) .done))))))))))))) (by kernel_rfl) ?_
       refine xj (k := 13) rfl ?_; rotate_left
       all_goals (first | (refine vi (q8 h h0 ?_ (by first | decide | decide | simp_all)); clear hJ h0 hg; simp_all [y12, ahead_zero]; done) | (refine q9 rfl (hJ _ 1 ⟨by omega, qb h0 ?_⟩ (by omega) ⟨⟨cwi (by omega) (by omega) (by omega), rfl, rfl, rfl, trivial⟩, trivial, rfl⟩); clear hJ h0 hg; simp_all [y12, ahead_zero]; done) | skip)
     · obtain ⟨p, hp⟩ := gx (xs := us) (i := i - 1) (by omega)
       have hgp := q19 Vt.cs hz (by omega) hp
       refine xs rfl (nn_ _) (y9 rfl _ hg (xs rfl rfl (z7 rfl (y23 _) rfl ⟨tv3, trivial⟩ ?_)))
       refine xb rfl ?_ ?_ <;> intro b0
       refine xv rfl rfl rfl ?_; rotate_left
       refine qd rfl [] (Tk (Rg 0 4) (.take 4 (Rg 11 25) (Tk (Rg 5 5) (.take 10 (Rg 11 25) (Tk [11, 12, 13] (.take 14 (Rg 21 15) (Tk (Rg 15 5) (.take 20 (Rg 21 15) (Tk [21, 22, 23] (.take 24 (Rg 31 5) (Tk (Rg 25 5) (.take 30 (Rg 31 5) (Tk (Rg 31 5) .done))))))))))))) (by kernel_rfl) ?_
       refine xb rfl ?_ ?_ <;> intro b1
       refine xj (k := 5) rfl (xs rfl (q0m hz (by omega)) (y9 rfl _ hgp (xs rfl rfl (xj (k := 4) rfl ?_))))
       refine xb rfl ?_ ?_ <;> intro b2
       refine xj (k := 14) rfl ?_
       refine xv rfl rfl rfl ?_; rotate_left
       refine xj (k := 5) rfl (xs rfl (q0m hz (by omega)) (y9 rfl _ hgp (xs rfl rfl (xj (k := 4) rfl ?_))))
       refine xb rfl ?_ ?_ <;> intro b3
       refine xj (k := 5) rfl (xs rfl (q0m hz (by omega)) (y9 rfl _ hgp (xs rfl rfl (xj (k := 8) rfl ?_))))
       refine xb rfl ?_ ?_ <;> intro b4
       refine xv rfl rfl rfl ?_; rotate_left
       rotate_left
       refine xj (k := 14) rfl ?_; rotate_left
       refine xj (k := 12) rfl ?_; rotate_left
       all_goals (first | (refine vi (q8 h h0 ?_ (by first | decide | decide | simp_all)); clear hJ h0 hg hgp; simp_all [y12, ya hz hp]; done) | (refine q9 rfl (hJ _ (i + 1) ⟨by omega, qb h0 ?_⟩ (by omega) ⟨⟨cwi (by omega) (by omega) (by omega), rfl, rfl, rfl, trivial⟩, trivial, rfl⟩); clear hJ h0 hg hgp; simp_all [y12, ya hz hp]; done) | skip)
   · have h : ¬ i < us.length := by simpa using h
     have hz := zg (f := y12 us) (n := us.length) (fun j hj => h0 j (by omega))
     clear hJ
     refine xv rfl rfl rfl ?_
     exact vi (hz.symm)
theorem z6b (s : Slt) (hl : s.cast.length ≤ 1048576) : PC Tryz.prog 279 [.agg s.cs] (rI s.fault) := by
 refine PC.begin Tryz.func279 rfl (by kernel_rfl) ?_
 have hle : (s.cast.map Vt.cs).length = s.cast.length := by simp
 refine z7 rfl (y4c _) rfl ⟨trivial, trivial⟩ ?_
 refine xb rfl ?_ ?_ <;> intro b0
 refine xj (k := 10) rfl ?_
 refine xv rfl rfl rfl ?_; rotate_left
 refine xj (k := 2) rfl (z7 rfl (y2e _) rfl ⟨trivial, trivial⟩ (xj (k := 2) rfl ?_))
 refine xb rfl ?_ ?_ <;> intro b1
 refine xj (k := 5) rfl ?_
 refine xv rfl rfl rfl ?_; rotate_left
 refine xj (k := 2) rfl (z7 rfl (zn _ _ _) rfl tv4 (xj (k := 2) rfl ?_))
 refine xb rfl ?_ ?_ <;> intro b2
 refine xv rfl rfl rfl ?_; rotate_left
 refine xb rfl ?_ ?_ <;> intro b3
 refine xv rfl rfl rfl ?_; rotate_left
 refine z7 rfl (q4r _ hl) rfl ⟨trivial, trivial⟩ ?_
 refine xb rfl ?_ ?_ <;> intro b4
 refine xv rfl rfl rfl ?_; rotate_left
 refine qd rfl [] (.take 0 [] (.take 1 (Rg 5 9) (.take 2 [] (.take 3 (Rg 4 10) (.alt 4 (Tk (Rg 5 4) (.take 9 [12, 13] (.take 10 [] (.take 11 [12, 13] (Tk [12, 13] .done))))) .nil))))) (by kernel_rfl) (z7 rfl (z5o _ hl) rfl ⟨trivial, trivial⟩ ?_)
 refine xb rfl ?_ ?_ <;> intro b5
 refine xj (k := 7) rfl ?_
 refine xv rfl rfl rfl ?_; rotate_left
 refine xj (k := 6) rfl ?_
 refine xb rfl ?_ ?_ <;> intro b6
 refine xv rfl rfl rfl ?_; rotate_left
 refine xv rfl rfl rfl ?_; rotate_left
 all_goals ((refine vi ?_; unfold Slt.fault; simp only [hle] at *; simp_all [z21]; first | done | omega | ((repeat' split) <;> first | rfl | omega | (simp_all; done) | (simp_all; omega))))
theorem y6g (s : Slt) (hl : s.cast.length ≤ 1048576) : PC Tryz.prog 226 [.agg s.cs] (rI s.fault) := by
 refine PC.begin Tryz.func226 rfl (by kernel_rfl) ?_
 have hle : (s.cast.map Vt.cs).length = s.cast.length := by simp
 refine z7 rfl (q4c _) rfl ⟨trivial, trivial⟩ ?_
 refine xb rfl ?_ ?_ <;> intro b0
 refine xj (k := 10) rfl ?_
 refine xv rfl rfl rfl ?_; rotate_left
 refine xj (k := 2) rfl (z7 rfl (qi _ _ _) rfl tv4 (xj (k := 2) rfl ?_))
 refine xb rfl ?_ ?_ <;> intro b1
 refine xj (k := 5) rfl ?_
 refine xv rfl rfl rfl ?_; rotate_left
 refine xj (k := 2) rfl (z7 rfl (qi _ _ _) rfl tv4 (xj (k := 2) rfl ?_))
 refine xb rfl ?_ ?_ <;> intro b2
 refine xv rfl rfl rfl ?_; rotate_left
 refine xb rfl ?_ ?_ <;> intro b3
 refine xv rfl rfl rfl ?_; rotate_left
 rotate_left
 all_goals first | ((refine vi ?_; unfold Slt.fault; simp only [hle] at *; simp_all [z21]; first | done | omega | ((repeat' split) <;> first | rfl | omega | (simp_all; done) | (simp_all; omega))); done) | skip
 refine qc rfl (ι := Nat) (fun i => i ≤ s.cast.length ∧ ∀ j, j < i → y12 s.cast j = 0) (fun i => ⟨[(3, sV (.int .i64 i)), (1, .one (.a 1 0))], [(1, .var (s.cs.map .b))]⟩) (fun i => s.cast.length - i) 0 ⟨Nat.zero_le _, fun j hj => by omega⟩ ?_ ?_
 · exact ⟨⟨rfl, ⟨rfl, rfl, rfl⟩, trivial⟩, ⟨lcr, trivial⟩, rfl⟩
 · intro i ⟨hi, h0⟩ J hJ
   refine xb rfl ?_ ?_ <;> intro h
   · have h : i < s.cast.length := by simpa using h
     obtain ⟨x, hx⟩ := gx h
     have hg := gm Vt.cs hx
     rcases Nat.eq_zero_or_pos i with hz | hz
     · subst hz
       refine xs rfl (nn_ _) (y9 rfl _ hg (xs rfl rfl (z7 rfl (z01 _) rfl ⟨trivial, trivial⟩ ?_)))
       refine xb rfl ?_ ?_ <;> intro b0
       refine xj (k := 5) rfl ?_
       refine xv rfl rfl rfl ?_; rotate_left
       refine xj (k := 2) rfl (z7 rfl (y0a _) rfl ⟨trivial, trivial⟩ (xj (k := 2) rfl ?_))
       refine xb rfl ?_ ?_ <;> intro b1
       refine xv rfl rfl rfl ?_; rotate_left
       refine qd rfl [] (Tk (Rg 0 4) (.take 4 (Rg 12 26) (.take 5 [] (.take 6 (Rg 9 29) (Tk (Rg 7 4) (.take 11 (Rg 12 26) (Tk [12, 13, 14] (.take 15 (Rg 23 15) (.take 16 [] (.take 17 (Rg 20 18) (Tk (Rg 18 4) (.take 22 (Rg 23 15) (Tk [23, 24, 25] (.take 26 (Rg 34 4) (.take 27 [] (.take 28 (Rg 31 7) (Tk (Rg 29 4) (.take 33 (Rg 34 4) (Tk (Rg 34 4) .done))))))))))))))))))) (by kernel_rfl) ?_
       refine xj (k := 14) rfl ?_; rotate_left
       all_goals (first | (have hsc := q8 (c := 3) h h0 (by clear hJ h0 hg; simp_all [y12, ahead_zero, Vt.ok]; done) (by decide); clear hJ h0 hg; (refine vi ?_; unfold Slt.fault; simp only [hle] at *; simp_all [z21]; first | done | omega | ((repeat' split) <;> first | rfl | omega | (simp_all; done) | (simp_all; omega))); done) | (have hsc := q8 (c := 1) h h0 (by clear hJ h0 hg; simp_all [y12, ahead_zero, Vt.ok]; done) (by decide); clear hJ h0 hg; (refine vi ?_; unfold Slt.fault; simp only [hle] at *; simp_all [z21]; first | done | omega | ((repeat' split) <;> first | rfl | omega | (simp_all; done) | (simp_all; omega))); done) | (refine vi (q8 h h0 ?_ (by first | decide | decide | simp_all)); clear hJ h0 hg; simp_all [y12, ahead_zero, Vt.ok]; done) | (refine q9 rfl (hJ _ 1 ⟨by omega, qb h0 ?_⟩ (by omega) ⟨⟨cwi (by omega) (by omega) (by omega), ⟨rfl, rfl, rfl⟩, trivial⟩, ⟨lcr, trivial⟩, rfl⟩); clear hJ h0 hg; simp_all [y12, ahead_zero, Vt.ok]; done) | skip)
     · obtain ⟨p, hp⟩ := gx (xs := s.cast) (i := i - 1) (by omega)
       have hgp := q19 Vt.cs hz (by omega) hp
       refine xs rfl (nn_ _) (y9 rfl _ hg (xs rfl rfl (z7 rfl (z01 _) rfl ⟨trivial, trivial⟩ ?_)))
       refine xb rfl ?_ ?_ <;> intro b0
       refine xj (k := 5) rfl ?_
       refine xv rfl rfl rfl ?_; rotate_left
       refine xj (k := 2) rfl (z7 rfl (y0a _) rfl ⟨trivial, trivial⟩ (xj (k := 2) rfl ?_))
       refine xb rfl ?_ ?_ <;> intro b1
       refine xv rfl rfl rfl ?_; rotate_left
       refine qd rfl [] (Tk (Rg 0 4) (.take 4 (Rg 12 26) (.take 5 [] (.take 6 (Rg 9 29) (Tk (Rg 7 4) (.take 11 (Rg 12 26) (Tk [12, 13, 14] (.take 15 (Rg 23 15) (.take 16 [] (.take 17 (Rg 20 18) (Tk (Rg 18 4) (.take 22 (Rg 23 15) (Tk [23, 24, 25] (.take 26 (Rg 34 4) (.take 27 [] (.take 28 (Rg 31 7) (Tk (Rg 29 4) (.take 33 (Rg 34 4) (Tk (Rg 34 4) .done))))))))))))))))))) (by kernel_rfl) ?_
       refine xb rfl ?_ ?_ <;> intro b2
       refine xj (k := 6) rfl (xs rfl (q0m hz (by omega)) (y9 rfl _ hgp (xs rfl rfl (xj (k := 4) rfl ?_))))
       refine xb rfl ?_ ?_ <;> intro b3
       refine xj (k := 15) rfl ?_
       refine xv rfl rfl rfl ?_; rotate_left
       refine xj (k := 6) rfl (xs rfl (q0m hz (by omega)) (y9 rfl _ hgp (xs rfl rfl (xj (k := 4) rfl ?_))))
       refine xb rfl ?_ ?_ <;> intro b4
       refine xj (k := 6) rfl (xs rfl (q0m hz (by omega)) (y9 rfl _ hgp (xs rfl rfl (xj (k := 8) rfl ?_))))
       refine xb rfl ?_ ?_ <;> intro b5
       refine xv rfl rfl rfl ?_; rotate_left
       rotate_left
       refine xj (k := 15) rfl ?_; rotate_left
       refine xj (k := 13) rfl ?_; rotate_left
       all_goals (first | (have hsc := q8 (c := 3) h h0 (by clear hJ h0 hg hgp; simp_all [y12, ya hz hp, Vt.ok]; done) (by decide); clear hJ h0 hg; (refine vi ?_; unfold Slt.fault; simp only [hle] at *; simp_all [z21]; first | done | omega | ((repeat' split) <;> first | rfl | omega | (simp_all; done) | (simp_all; omega))); done) | (have hsc := q8 (c := 1) h h0 (by clear hJ h0 hg hgp; simp_all [y12, ya hz hp, Vt.ok]; done) (by decide); clear hJ h0 hg; (refine vi ?_; unfold Slt.fault; simp only [hle] at *; simp_all [z21]; first | done | omega | ((repeat' split) <;> first | rfl | omega | (simp_all; done) | (simp_all; omega))); done) | (refine vi (q8 h h0 ?_ (by first | decide | decide | simp_all)); clear hJ h0 hg hgp; simp_all [y12, ya hz hp, Vt.ok]; done) | (refine q9 rfl (hJ _ (i + 1) ⟨by omega, qb h0 ?_⟩ (by omega) ⟨⟨cwi (by omega) (by omega) (by omega), ⟨rfl, rfl, rfl⟩, trivial⟩, ⟨lcr, trivial⟩, rfl⟩); clear hJ h0 hg hgp; simp_all [y12, ya hz hp, Vt.ok]; done) | skip)
   · have h : ¬ i < s.cast.length := by simpa using h
     have hz := zg (f := y12 s.cast) (n := s.cast.length) (fun j hj => h0 j (by omega))
     clear hJ
     refine qd rfl [] (.take 0 [] (.take 1 (Rg 4 9) (.take 2 (Rg 3 10) (.alt 3 (Tk (Rg 4 4) (.take 8 [11, 12] (.take 9 [] (.take 10 [11, 12] (Tk [11, 12] .done))))) .nil)))) (by kernel_rfl) (z7 rfl (y7s _ hl) rfl ⟨tv7, trivial⟩ ?_)
     refine xb rfl ?_ ?_ <;> intro b0
     refine xj (k := 7) rfl ?_
     refine xv rfl rfl rfl ?_; rotate_left
     refine xj (k := 6) rfl ?_
     refine xb rfl ?_ ?_ <;> intro b1
     refine xv rfl rfl rfl ?_; rotate_left
     refine xv rfl rfl rfl ?_; rotate_left
     all_goals ((refine vi ?_; unfold Slt.fault; simp only [hle] at *; simp_all [z21]; first | done | omega | ((repeat' split) <;> first | rfl | omega | (simp_all; done) | (simp_all; omega))))
theorem z2z (a b : Slt) : PC Tryz.prog 280 [.agg a.cs, .agg b.cs] (rI (orr [q0h a.c b.c, q0h a.s b.s])) := by
 refine PC.begin Tryz.func280 rfl (by kernel_rfl) ?_
 refine qd rfl [] (.take 0 [] (.take 1 [4, 9, 10, 11, 12] (.take 2 [] (.take 3 [4, 9, 10, 11, 12] (.take 5 [] (.take 6 (Rg 9 4) (.take 7 [] (.take 8 (Rg 9 4) (.alt 4 (.alt 9 (.alt 10 (.alt 11 (.take 12 [] .done) .nil) .nil) .nil) .nil))))))))) (by kernel_rfl) (z7 rfl (yu _ _) rfl tv3 (z7 rfl (yu _ _) rfl tv3 (xs rfl tv3 (z7 rfl (y8x [_, _] (by simp)) rfl ⟨rfl, trivial⟩ ?_))))
 refine xr rfl (qm rfl ⟨⟨rfl, rfl, trivial⟩, z6 rfl⟩)
theorem q3u (a b : Slt) : PC Tryz.prog 256 [.agg a.cs, .agg b.cs] (rB (Slt.lt a b)) := by
 refine PC.begin Tryz.func256 rfl (by kernel_rfl) ?_
 refine xb rfl ?_ ?_ <;> intro b0
 refine xv rfl rfl rfl ?_; rotate_left
 refine xv rfl rfl rfl ?_; rotate_left
 all_goals (refine vb ?_; simp_all [Slt.lt])
theorem z9d {p x : Slt} : 0 ≤ orr [q0h p.c x.c, q0h p.s x.s] ↔ Slt.lt p x = false := by
 unfold orr orr orr q0h Slt.lt
 repeat' split
 all_goals (simp; try omega)
theorem q9v (a : Acc) (ho : z41 a) : PC Tryz.prog 204 [.agg a.cs] (rI a.fault) := by
 refine PC.begin Tryz.func204 rfl (by kernel_rfl) ?_
 have hle : (a.slots.map Slt.cs).length = a.slots.length := by simp
 obtain ⟨ho1, ho2⟩ := ho
 refine xb rfl ?_ ?_ <;> intro b0
 refine xv rfl rfl rfl ?_; rotate_left
 rotate_left
 all_goals first | ((refine vi ?_; unfold Acc.fault; simp only [hle] at *; simp_all; first | done | omega | ((repeat' split) <;> first | rfl | omega | (simp_all; done) | (simp_all; omega))); done) | skip
 refine qc rfl (ι := Nat) (fun i => i ≤ a.slots.length ∧ ∀ j, j < i → q3k a.slots j = 0) (fun i => ⟨[(13, sV (.int .i64 i)), (12, sV (.int .i64 (a.slots.map Slt.cs).length)), (11, .one (.b (.l (a.slots.map Slt.cs)))), (1, .one (.a 1 0))], [(1, .var (a.cs.map .b))]⟩) (fun i => a.slots.length - i) 0 ⟨Nat.zero_le _, fun j hj => by omega⟩ ?_ ?_
 · exact ⟨⟨rfl, rfl, rfl, ⟨rfl, rfl, rfl⟩, trivial⟩, ⟨lcr, trivial⟩, rfl⟩
 · intro i ⟨hi, h0⟩ J hJ
   refine xb rfl ?_ ?_ <;> intro h
   · have h : i < a.slots.length := by simpa using h
     obtain ⟨x, hx⟩ := gx h
     have hg := gm Slt.cs hx
     have hxc := ho2 x (List.mem_of_getElem? hx)
     rcases Nat.eq_zero_or_pos i with hz | hz
     · subst hz
       refine xs rfl (nn_ _) (y9 rfl _ hg (xs rfl rfl (z7 rfl (z6b _ (by assumption)) rfl ⟨tv7, trivial⟩ ?_)))
       refine xb rfl ?_ ?_ <;> intro b0
       refine xv rfl rfl rfl ?_; rotate_left
       refine qd rfl [] (Tk (Rg 0 4) (.take 4 [7, 8, 10, 11, 12] (Tk [5, 6, 7] (.take 8 (Rg 10 3) (.take 9 (Rg 10 3) (.alt 10 (Tk [11, 12] .done) .nil)))))) (by kernel_rfl) ?_
       refine xj (k := 11) rfl ?_; rotate_left
       all_goals (first | (have hsc := q8 (c := 1) h h0 (by clear hJ h0 hg; simp_all [q3k, ahead_zero, z9d]; done) (by decide); clear hJ h0 hg; (refine vi ?_; unfold Acc.fault; simp only [hle] at *; simp_all; first | done | omega | ((repeat' split) <;> first | rfl | omega | (simp_all; done) | (simp_all; omega))); done) | (have hsc := q8 (c := x.fault) h h0 (by clear hJ h0 hg; simp_all [q3k, ahead_zero, z9d]; done) (by clear hJ h0; simp_all); clear hJ h0 hg; (refine vi ?_; unfold Acc.fault; simp only [hle] at *; simp_all; first | done | omega | ((repeat' split) <;> first | rfl | omega | (simp_all; done) | (simp_all; omega))); done) | (refine vi (q8 h h0 ?_ (by first | decide | decide | simp_all)); clear hJ h0 hg; simp_all [q3k, ahead_zero, z9d]; done) | (refine q9 rfl (hJ _ 1 ⟨by omega, qb h0 ?_⟩ (by omega) ⟨⟨cwi (by omega) (by omega) (by omega), rfl, rfl, ⟨rfl, rfl, rfl⟩, trivial⟩, ⟨lcr, trivial⟩, rfl⟩); clear hJ h0 hg; simp_all [q3k, ahead_zero, z9d]; done) | skip)
     · obtain ⟨p, hp⟩ := gx (xs := a.slots) (i := i - 1) (by omega)
       have hgp := q19 Slt.cs hz (by omega) hp
       refine xs rfl (nn_ _) (y9 rfl _ hg (xs rfl rfl (z7 rfl (z6b _ (by assumption)) rfl ⟨tv7, trivial⟩ ?_)))
       refine xb rfl ?_ ?_ <;> intro b0
       refine xv rfl rfl rfl ?_; rotate_left
       refine qd rfl [] (Tk (Rg 0 4) (.take 4 [7, 8, 10, 11, 12] (Tk [5, 6, 7] (.take 8 (Rg 10 3) (.take 9 (Rg 10 3) (.alt 10 (Tk [11, 12] .done) .nil)))))) (by kernel_rfl) ?_
       refine xb rfl ?_ ?_ <;> intro b1
       refine xj (k := 4) rfl (xs rfl (q0m hz (by omega)) (y9 rfl _ hgp (xs rfl rfl (xj (k := 3) rfl (z7 rfl (z2z _ _) rfl ⟨tv7, tv7, trivial⟩ (xj (k := 2) rfl ?_))))))
       refine xb rfl ?_ ?_ <;> intro b2
       refine xv rfl rfl rfl ?_; rotate_left
       rotate_left
       refine xj (k := 10) rfl ?_; rotate_left
       all_goals (first | (have hsc := q8 (c := 1) h h0 (by clear hJ h0 hg hgp; simp_all [q3k, ya hz hp, z9d]; done) (by decide); clear hJ h0 hg; (refine vi ?_; unfold Acc.fault; simp only [hle] at *; simp_all; first | done | omega | ((repeat' split) <;> first | rfl | omega | (simp_all; done) | (simp_all; omega))); done) | (have hsc := q8 (c := x.fault) h h0 (by clear hJ h0 hg hgp; simp_all [q3k, ya hz hp, z9d]; done) (by clear hJ h0; simp_all); clear hJ h0 hg; (refine vi ?_; unfold Acc.fault; simp only [hle] at *; simp_all; first | done | omega | ((repeat' split) <;> first | rfl | omega | (simp_all; done) | (simp_all; omega))); done) | (refine vi (q8 h h0 ?_ (by first | decide | decide | simp_all)); clear hJ h0 hg hgp; simp_all [q3k, ya hz hp, z9d]; done) | (refine q9 rfl (hJ _ (i + 1) ⟨by omega, qb h0 ?_⟩ (by omega) ⟨⟨cwi (by omega) (by omega) (by omega), rfl, rfl, ⟨rfl, rfl, rfl⟩, trivial⟩, ⟨lcr, trivial⟩, rfl⟩); clear hJ h0 hg hgp; simp_all [q3k, ya hz hp, z9d]; done) | skip)
   · have h : ¬ i < a.slots.length := by simpa using h
     have hz := zg (f := q3k a.slots) (n := a.slots.length) (fun j hj => h0 j (by omega))
     clear hJ
     refine xv rfl rfl rfl ?_
     all_goals ((refine vi ?_; unfold Acc.fault; simp only [hle] at *; simp_all; first | done | omega | ((repeat' split) <;> first | rfl | omega | (simp_all; done) | (simp_all; omega))))
theorem qa6 (a : Acc) (ho : z41 a) : PC Tryz.prog 179 [.agg a.cs] (rI a.fault) := by
 refine PC.begin Tryz.func179 rfl (by kernel_rfl) ?_
 have hle : (a.slots.map Slt.cs).length = a.slots.length := by simp
 obtain ⟨ho1, ho2⟩ := ho
 refine xb rfl ?_ ?_ <;> intro b0
 refine xv rfl rfl rfl ?_; rotate_left
 rotate_left
 all_goals first | ((refine vi ?_; unfold Acc.fault; simp only [hle] at *; simp_all; first | done | omega | ((repeat' split) <;> first | rfl | omega | (simp_all; done) | (simp_all; omega))); done) | skip
 refine qc rfl (ι := Nat) (fun i => i ≤ a.slots.length ∧ ∀ j, j < i → q3k a.slots j = 0) (fun i => ⟨[(3, sV (.int .i64 i)), (1, .one (.a 1 0))], [(1, .var (a.cs.map .b))]⟩) (fun i => a.slots.length - i) 0 ⟨Nat.zero_le _, fun j hj => by omega⟩ ?_ ?_
 · exact ⟨⟨rfl, ⟨rfl, rfl, rfl⟩, trivial⟩, ⟨lcr, trivial⟩, rfl⟩
 · intro i ⟨hi, h0⟩ J hJ
   refine xb rfl ?_ ?_ <;> intro h
   · have h : i < a.slots.length := by simpa using h
     obtain ⟨x, hx⟩ := gx h
     have hg := gm Slt.cs hx
     have hxc := ho2 x (List.mem_of_getElem? hx)
     rcases Nat.eq_zero_or_pos i with hz | hz
     · subst hz
       refine xs rfl (nn_ _) (y9 rfl _ hg (xs rfl rfl (z7 rfl (y6g _ (by assumption)) rfl ⟨tv7, trivial⟩ ?_)))
       refine xb rfl ?_ ?_ <;> intro b0
       refine xv rfl rfl rfl ?_; rotate_left
       refine qd rfl [] (Tk (Rg 0 4) (.take 4 [7, 8, 14, 15, 16] (Tk [5, 6, 7] (.take 8 (Rg 14 3) (.take 9 [] (.take 10 (Rg 12 5) (Tk [11, 12] (.take 13 (Rg 14 3) (.alt 14 (Tk [15, 16] .done) .nil))))))))) (by kernel_rfl) ?_
       refine xj (k := 15) rfl ?_; rotate_left
       all_goals (first | (have hsc := q8 (c := 1) h h0 (by clear hJ h0 hg; simp_all [q3k, ahead_zero]; done) (by decide); clear hJ h0 hg; (refine vi ?_; unfold Acc.fault; simp only [hle] at *; simp_all; first | done | omega | ((repeat' split) <;> first | rfl | omega | (simp_all; done) | (simp_all; omega))); done) | (have hsc := q8 (c := x.fault) h h0 (by clear hJ h0 hg; simp_all [q3k, ahead_zero]; done) (by clear hJ h0; simp_all); clear hJ h0 hg; (refine vi ?_; unfold Acc.fault; simp only [hle] at *; simp_all; first | done | omega | ((repeat' split) <;> first | rfl | omega | (simp_all; done) | (simp_all; omega))); done) | (refine vi (q8 h h0 ?_ (by first | decide | decide | simp_all)); clear hJ h0 hg; simp_all [q3k, ahead_zero]; done) | (refine q9 rfl (hJ _ 1 ⟨by omega, qb h0 ?_⟩ (by omega) ⟨⟨cwi (by omega) (by omega) (by omega), ⟨rfl, rfl, rfl⟩, trivial⟩, ⟨lcr, trivial⟩, rfl⟩); clear hJ h0 hg; simp_all [q3k, ahead_zero]; done) | skip)
     · obtain ⟨p, hp⟩ := gx (xs := a.slots) (i := i - 1) (by omega)
       have hgp := q19 Slt.cs hz (by omega) hp
       refine xs rfl (nn_ _) (y9 rfl _ hg (xs rfl rfl (z7 rfl (y6g _ (by assumption)) rfl ⟨tv7, trivial⟩ ?_)))
       refine xb rfl ?_ ?_ <;> intro b0
       refine xv rfl rfl rfl ?_; rotate_left
       refine qd rfl [] (Tk (Rg 0 4) (.take 4 [7, 8, 14, 15, 16] (Tk [5, 6, 7] (.take 8 (Rg 14 3) (.take 9 [] (.take 10 (Rg 12 5) (Tk [11, 12] (.take 13 (Rg 14 3) (.alt 14 (Tk [15, 16] .done) .nil))))))))) (by kernel_rfl) ?_
       refine xb rfl ?_ ?_ <;> intro b1
       refine xj (k := 4) rfl (xs rfl (q0m hz (by omega)) (y9 rfl _ hgp (xs rfl rfl (xj (k := 5) rfl (xs rfl (nn_ _) (y9 rfl _ hg (xs rfl rfl (xj (k := 2) rfl (z7 rfl (q3u _ _) rfl ⟨tv7, tv7, trivial⟩ ?_)))))))))
       refine xj (k := 2) rfl ?_
       refine xb rfl ?_ ?_ <;> intro b2
       refine xv rfl rfl rfl ?_; rotate_left
       rotate_left
       refine xj (k := 14) rfl ?_; rotate_left
       all_goals (first | (have hsc := q8 (c := 1) h h0 (by clear hJ h0 hg hgp; simp_all [q3k, ya hz hp]; done) (by decide); clear hJ h0 hg; (refine vi ?_; unfold Acc.fault; simp only [hle] at *; simp_all; first | done | omega | ((repeat' split) <;> first | rfl | omega | (simp_all; done) | (simp_all; omega))); done) | (have hsc := q8 (c := x.fault) h h0 (by clear hJ h0 hg hgp; simp_all [q3k, ya hz hp]; done) (by clear hJ h0; simp_all); clear hJ h0 hg; (refine vi ?_; unfold Acc.fault; simp only [hle] at *; simp_all; first | done | omega | ((repeat' split) <;> first | rfl | omega | (simp_all; done) | (simp_all; omega))); done) | (refine vi (q8 h h0 ?_ (by first | decide | decide | simp_all)); clear hJ h0 hg hgp; simp_all [q3k, ya hz hp]; done) | (refine q9 rfl (hJ _ (i + 1) ⟨by omega, qb h0 ?_⟩ (by omega) ⟨⟨cwi (by omega) (by omega) (by omega), ⟨rfl, rfl, rfl⟩, trivial⟩, ⟨lcr, trivial⟩, rfl⟩); clear hJ h0 hg hgp; simp_all [q3k, ya hz hp]; done) | skip)
   · have h : ¬ i < a.slots.length := by simpa using h
     have hz := zg (f := q3k a.slots) (n := a.slots.length) (fun j hj => h0 j (by omega))
     clear hJ
     refine xv rfl rfl rfl ?_
     all_goals ((refine vi ?_; unfold Acc.fault; simp only [hle] at *; simp_all; first | done | omega | ((repeat' split) <;> first | rfl | omega | (simp_all; done) | (simp_all; omega))))
theorem z7q (rr : List (List Cell)) (us : List Con) (p : Con → Bool) (fn : Nat) (c0 : Cell) (hr : rr = us.map Con.cs) (hf : ∀ x ∈ us, PC Tryz.prog fn [.agg x.cs, .one c0] (rB (p x))) (hl : us.length ≤ 1048576) : PC Tryz.prog 134 [.one (.l rr), .one (.f fn [c0])] (rI (z1d p us)) := by
 refine PC.begin Tryz.func134 rfl (by kernel_rfl) ?_
 subst hr
 have hn : (us.map Con.cs).length = us.length := by simp
 refine qc rfl (ι := Nat) (fun i => i ≤ us.length ∧ ∀ j y, j < i → us[j]? = some y → p y = false) (fun i => ⟨[(8, sV (.int .i64 i)), (7, sV (.int .i64 (us.map Con.cs).length)), (0, .one (.b (.l (us.map Con.cs)))), (1, .one (.b (.f fn [c0])))], []⟩) (fun i => us.length - i) 0 ⟨Nat.zero_le _, fun j y hj => by omega⟩ ?_ ?_
 · exact ⟨⟨rfl, rfl, rfl, rfl, trivial⟩, trivial, rfl⟩
 · intro i ⟨hi, h0⟩ J hJ
   refine xb rfl ?_ ?_ <;> intro h
   · have h : i < us.length := by simpa using h
     obtain ⟨x, hx⟩ := gx h
     have hg := gm Con.cs hx
     have hxm := List.mem_of_getElem? hx
     refine xs rfl (nn_ _) (y9 rfl _ hg (xs rfl rfl (z7 rfl (hf _ hxm) rfl ⟨tv3, trivial, trivial⟩ ?_)))
     refine xb rfl ?_ ?_ <;> intro b0
     refine xv rfl rfl rfl ?_; rotate_left
     rotate_left
     · exact vi (q07 hx h0 b0).symm
     · exact q9 rfl (hJ _ (i + 1) ⟨by omega, qg hx h0 b0⟩ (by omega) ⟨⟨cwi (by omega) (by omega) (by omega), rfl, rfl, rfl, trivial⟩, trivial, rfl⟩)
   · have h : ¬ i < us.length := by simpa using h
     refine xv rfl rfl rfl ?_
     exact vi (q01 (zk (by omega) h0)).symm
theorem q0y (c : Clu) (id : Int) (hl : c.cons.length ≤ 1048576) : PC Tryz.prog 42 [.one (.p c.cs), .one (i64 id)] (rI (z1d (fun x : Con => x.id == id) c.cons)) := by
 refine PC.begin Tryz.func42 rfl (by kernel_rfl) ?_
 refine qc rfl (ι := Nat) (fun i => i ≤ c.cons.length ∧ ∀ j y, j < i → c.cons[j]? = some y → (y.id == id) = false) (fun i => ⟨[(5, sV (.int .i64 i)), (0, .one (.b (.p c.cs))), (1, sV (.int .i64 id))], []⟩) (fun i => c.cons.length - i) 0 ⟨Nat.zero_le _, fun j y hj => by omega⟩ ?_ ?_
 · exact ⟨⟨rfl, rfl, rfl, trivial⟩, trivial, rfl⟩
 · intro i ⟨hi, h0⟩ J hJ
   refine xb rfl ?_ ?_ <;> intro h
   · have h : i < c.cons.length := by simpa using h
     obtain ⟨x, hx⟩ := gx h
     have hg := gm Con.cs hx
     refine xs rfl (nn_ _) (y9 rfl _ hg (xs rfl rfl ?_))
     refine xb rfl ?_ ?_ <;> intro b0
     refine xv rfl rfl rfl ?_; rotate_left
     rotate_left
     · exact vi (q07 hx h0 b0).symm
     · exact q9 rfl (hJ _ (i + 1) ⟨by omega, qg hx h0 b0⟩ (by omega) ⟨⟨cwi (by omega) (by omega) (by omega), rfl, rfl, trivial⟩, trivial, rfl⟩)
   · have h : ¬ i < c.cons.length := by simpa using h
     refine xv rfl rfl rfl ?_
     exact vi (q01 (p := fun x : Con => x.id == id) (zk (by omega) h0)).symm
theorem y0j (l : List Int) (a b : Nat) : ∀ row ∈ ((ints l).take b).drop a, row.length = 1 := fun row h => by
 have h := List.mem_of_mem_take (List.mem_of_mem_drop h)
 simp [ints] at h
 obtain ⟨_, _, rfl⟩ := h; rfl
theorem q0j (l : List Int) (a b : Nat) : yp (((ints l).take b).drop a) := fun row h => by
 have h := List.mem_of_mem_take (List.mem_of_mem_drop h)
 simp [ints] at h
 obtain ⟨x, _, rfl⟩ := h
 intro c hc
 exact ⟨_, by simpa using hc⟩
abbrev yc0 (l : List Int) (v : Int) : Bool → Res
 | true => .one (.bor false [.l (ints l)])
 | false => .one (.own false [.l 1 (ints (z3p l v))])
theorem q6b (l : List Int) (v : Int) (b : Bool) (hb : l.contains v = b) (hl : l.length ≤ 1048576) (hs : l.Pairwise (· < ·)) : PC Tryz.prog 138 [.one (.l (ints l)), .one (i64 v)] (yc0 l v b) := by
 refine PC.begin Tryz.func138 rfl (by kernel_rfl) ?_
 have hn : (ints l).length = l.length := by simp
 refine qc rfl (ι := Nat) (fun i => i ≤ l.length ∧ ∀ j y, j < i → l[j]? = some y → y < v) (fun i => ⟨[(5, sV (.int .i64 i)), (0, .one (.b (.l (ints l)))), (1, sV (.int .i64 v))], []⟩) (fun i => l.length - i) 0 ⟨Nat.zero_le _, fun j y hj => by omega⟩ ?_ ?_
 · exact ⟨⟨rfl, rfl, rfl, trivial⟩, trivial, rfl⟩
 · intro i ⟨hi, h0⟩ J hJ
   refine xb rfl ?_ ?_ <;> intro h
   · have h : i < l.length := by simpa using h
     obtain ⟨x, hx⟩ := gx h
     have hg := gm (fun n => [i64 n]) hx
     by_cases h1 : x < v
     · skip
       refine xj (k := 2) rfl (xs rfl (nn_ _) (y9 rfl _ hg (xs rfl rfl (xj (k := 4) rfl ?_))))
       refine xb rfl (fun b0 => ?_) (fun b0 => ?_); rotate_left
       exact absurd b0 (by simp; omega)
       all_goals first
        | exact q9 rfl (hJ _ (i + 1) ⟨by omega, qg hx h0 (by simpa using b0)⟩ (by omega) ⟨⟨cwi (by omega) (by omega) (by omega), rfl, rfl, trivial⟩, trivial, rfl⟩)
        | (exfalso; simp at b0; omega)
     · have hnx : ∀ y, l[i]? = some y → ¬ y < v := fun y hy => by rw [hx] at hy; cases hy; exact h1
       by_cases h2 : x = v
       · have hbt : b = true := by rw [← hb, q1t hs h0 hnx, hx, h2]; simp
         subst hbt
         refine xj (k := 2) rfl (xs rfl (nn_ _) (y9 rfl _ hg (xs rfl rfl (xj (k := 4) rfl ?_))))
         refine xb rfl ?_ ?_ <;> intro b0
         exact absurd b0 (by simp; omega)
         refine xb rfl ?_ ?_ <;> intro b1
         refine xj (k := 2) rfl (xs rfl (nn_ _) (y9 rfl _ hg (xs rfl rfl (xj (k := 4) rfl ?_))))
         refine xb rfl ?_ ?_ <;> intro b2
         refine xr rfl (qm rfl ⟨⟨rfl, rfl, trivial⟩, z6 rfl⟩)
         exact absurd b2 (by simp; omega)
         exact absurd b1 (by simp; omega)
         all_goals first
          | (exfalso; simp at b0; omega)
          | (exfalso; simp at b1; omega)
          | (exfalso; simp at b2; omega)
       · have hbt : b = false := by rw [← hb, q1t hs h0 hnx, hx]; simpa using h2
         have hp := q5t (v := v) (Nat.le_of_lt h) h0 hnx
         rw [hx, if_neg (by simpa using h2)] at hp
         subst hbt
         refine xj (k := 2) rfl (xs rfl (nn_ _) (y9 rfl _ hg (xs rfl rfl (xj (k := 4) rfl ?_))))
         refine xb rfl ?_ ?_ <;> intro b0
         exact absurd b0 (by simp; omega)
         refine xb rfl ?_ ?_ <;> intro b1
         refine xj (k := 2) rfl (xs rfl (nn_ _) (y9 rfl _ hg (xs rfl rfl (xj (k := 4) rfl ?_))))
         refine xb rfl ?_ ?_ <;> intro b2
         exact absurd b2 (by simp; omega)
         refine qd rfl [] (Tk [1, 2, 3, 5, 8, 9, 10] (.alt 0 (.alt 4 (.alt 6 (.alt 7 (.alt 11 (.take 12 [] .done) .nil) .nil) .nil) (.alt 6 (.alt 4 (.alt 7 (.alt 11 (.take 12 [] .done) .nil) .nil) .nil) .nil)) (.alt 6 (.alt 0 (.alt 4 (.alt 7 (.alt 11 (.take 12 [] .done) .nil) .nil) .nil) .nil) .nil))) (by kernel_rfl) (xs rfl (.inl rfl) (xs rfl (nn_ _) (xs rfl (nn_ _) (xs rfl (by simp; omega) (xs rfl (by simp) (xs rfl (nn_ _) (xs rfl (by simp; omega) (xs rfl (by simp) ?_))))))))
         refine y03 rfl ?_ ?_
         refine xs rfl trivial ?_
         refine y03 rfl ?_ ?_
         refine xs rfl rfl (xs rfl (y0j _ _ _) (xs rfl (fun _ => q0j _ _ _) (xs rfl (by simp; omega) (xs rfl (by simp; omega) (xs rfl ⟨trivial, trivial⟩ (xs rfl (by simp) (xs rfl rfl (xs rfl (.inl rfl) (xs rfl (by simp; omega) ?_)))))))))
         refine xs rfl (by simp; omega) (xs rfl (by simp) (xs rfl (y0j _ _ _) (xs rfl (fun _ => q0j _ _ _) (xs rfl (by simp; omega) (xs rfl (by simp; omega) ?_)))))
         refine xr rfl (qm rfl ⟨⟨rfl, ⟨?_, ?_, .inl rfl⟩, trivial⟩, z6 rfl⟩); rotate_left
         rotate_left
         refine xs rfl ⟨trivial, trivial⟩ (xs rfl rfl (xs rfl (y0j _ _ _) (xs rfl (fun _ => q0j _ _ _) (xs rfl (by simp; omega) (xs rfl (by simp; omega) (xs rfl (by simp) (xs rfl rfl (xs rfl (.inl rfl) (xs rfl (by simp; omega) ?_)))))))))
         refine xs rfl (by simp; omega) (xs rfl (by simp) (xs rfl (y0j _ _ _) (xs rfl (fun _ => q0j _ _ _) (xs rfl (by simp; omega) (xs rfl (by simp; omega) ?_)))))
         refine xr rfl (qm rfl ⟨⟨rfl, ⟨?_, ?_, .inl rfl⟩, trivial⟩, z6 rfl⟩); rotate_left
         rotate_left
         refine xs rfl ⟨trivial, trivial⟩ (xs rfl trivial (xs rfl rfl (xs rfl (y0j _ _ _) (xs rfl (fun _ => q0j _ _ _) (xs rfl (by simp; omega) (xs rfl (by simp; omega) (xs rfl (by simp) (xs rfl rfl (xs rfl (.inl rfl) ?_)))))))))
         refine xs rfl (by simp; omega) (xs rfl (by simp; omega) (xs rfl (by simp) (xs rfl (y0j _ _ _) (xs rfl (fun _ => q0j _ _ _) (xs rfl (by simp; omega) (xs rfl (by simp; omega) ?_))))))
         refine xr rfl (qm rfl ⟨⟨rfl, ⟨?_, ?_, .inl rfl⟩, trivial⟩, z6 rfl⟩); rotate_left
         rotate_left
         exact absurd b1 (by simp; omega)
         all_goals first
          | (exfalso; simp at b0; omega)
          | (exfalso; simp at b1; omega)
          | (exfalso; simp at b2; omega)
          | exact List.length_append.symm
          | (rw [hp]; simp [ints, List.map_take, List.map_drop, List.take_of_length_le]; done)
   · have h : i = l.length := by have : ¬ i < l.length := (by simpa using h); omega
     subst h
     have hc := q1t hs h0 (fun x hx => by rw [List.getElem?_eq_none (Nat.le_refl _)] at hx; cases hx)
     rw [List.getElem?_eq_none (Nat.le_refl _)] at hc
     have hbf : b = false := by rw [← hb, hc]; rfl
     subst hbf
     have hp := q5t (v := v) (Nat.le_refl _) h0 (fun x hx => by rw [List.getElem?_eq_none (Nat.le_refl _)] at hx; cases hx)
     rw [List.getElem?_eq_none (Nat.le_refl _), if_neg (by simp)] at hp
     refine xj (k := 7) rfl ?_
     refine xb rfl ?_ ?_ <;> intro b0
     exact absurd b0 (by simp [*])
     refine xj (k := 7) rfl (qd rfl [] (Tk [1, 2, 3, 5, 8, 9, 10] (.alt 0 (.alt 4 (.alt 6 (.alt 7 (.alt 11 (.take 12 [] .done) .nil) .nil) .nil) (.alt 6 (.alt 4 (.alt 7 (.alt 11 (.take 12 [] .done) .nil) .nil) .nil) .nil)) (.alt 6 (.alt 0 (.alt 4 (.alt 7 (.alt 11 (.take 12 [] .done) .nil) .nil) .nil) .nil) .nil))) (by kernel_rfl) (xs rfl (.inl rfl) (xs rfl (nn_ _) (xs rfl (nn_ _) (xs rfl (by simp) (xs rfl (by simp) (xs rfl (nn_ _) (xs rfl (by simp) (xs rfl (by simp) ?_)))))))))
     refine y03 rfl ?_ ?_
     refine xs rfl trivial ?_
     refine y03 rfl ?_ ?_
     refine xs rfl rfl (xs rfl (y0j _ _ _) (xs rfl (fun _ => q0j _ _ _) (xs rfl (by simp; omega) (xs rfl (by simp; omega) (xs rfl ⟨trivial, trivial⟩ (xs rfl (by simp) (xs rfl rfl (xs rfl (.inl rfl) (xs rfl (by simp; omega) ?_)))))))))
     refine xs rfl (by simp; omega) (xs rfl (by simp) (xs rfl (y0j _ _ _) (xs rfl (fun _ => q0j _ _ _) (xs rfl (by simp; omega) (xs rfl (by simp; omega) ?_)))))
     refine xr rfl (qm rfl ⟨⟨rfl, ⟨?_, ?_, .inl rfl⟩, trivial⟩, z6 rfl⟩); rotate_left
     rotate_left
     refine xs rfl ⟨trivial, trivial⟩ (xs rfl rfl (xs rfl (y0j _ _ _) (xs rfl (fun _ => q0j _ _ _) (xs rfl (by simp; omega) (xs rfl (by simp; omega) (xs rfl (by simp) (xs rfl rfl (xs rfl (.inl rfl) (xs rfl (by simp; omega) ?_)))))))))
     refine xs rfl (by simp; omega) (xs rfl (by simp) (xs rfl (y0j _ _ _) (xs rfl (fun _ => q0j _ _ _) (xs rfl (by simp; omega) (xs rfl (by simp; omega) ?_)))))
     refine xr rfl (qm rfl ⟨⟨rfl, ⟨?_, ?_, .inl rfl⟩, trivial⟩, z6 rfl⟩); rotate_left
     rotate_left
     refine xs rfl ⟨trivial, trivial⟩ (xs rfl trivial (xs rfl rfl (xs rfl (y0j _ _ _) (xs rfl (fun _ => q0j _ _ _) (xs rfl (by simp; omega) (xs rfl (by simp; omega) (xs rfl (by simp) (xs rfl rfl (xs rfl (.inl rfl) ?_)))))))))
     refine xs rfl (by simp; omega) (xs rfl (by simp; omega) (xs rfl (by simp) (xs rfl (y0j _ _ _) (xs rfl (fun _ => q0j _ _ _) (xs rfl (by simp; omega) (xs rfl (by simp; omega) ?_))))))
     refine xr rfl (qm rfl ⟨⟨rfl, ⟨?_, ?_, .inl rfl⟩, trivial⟩, z6 rfl⟩); rotate_left
     rotate_left
     all_goals first
      | exact List.length_append.symm
      | (rw [hp]; simp [ints, List.map_take, List.map_drop, List.take_of_length_le]; done)
end Go.Proofs.YtbnbjaedijbnpaaGreat
end
