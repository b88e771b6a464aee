/- WHAT IS PROVED: parts of the proof of fnExactSettledAt_holds: a frame for walks, what each Go function that it reaches answers, and plain lemmas; no condition beyond those that each theorem names. -/
import Derived.Test.YthljegacamgnnaaGreatCSa4
import Derived.WalkKit
import Derived.OrdersHeld
import Derived.DeepKeys
import Derived.Maps.RangeWalk
import Derived.Maps.OwnOps
import Derived.Deep.Slices
import Derived.ChangeArms
import Derived.WideShapes
import Derived.Lib.SlicesCompact
import Derived.Test.YthljegacamgnnaaGreatProg
import Derived.Shelf.SortG.Plain
import Derived.Shelf.SortG.SortNone
import Derived.Shelf.SlicesG.CompactI
import Derived.Lib.OwnBridge
import Derived.RangeFuncGives
import Derived.RangeFuncBox
import Derived.RangeFuncLeaves
import Derived.Shelf.Abstract
import Derived.Maps.AppendAt
import Derived.OwnWalkIn
import Derived.TacticsInMore
import Derived.LoopNIn
import Derived.LoopIn
set_option linter.unusedVariables false
set_option linter.unusedSimpArgs false
section
namespace Go.Proofs.YthljegacamgnnaaGreat
open Go Go.Sx
def tab : TT := (.node 81 ⟨(some (false, 1)), none, none, false, false, true, none, (some (.one (.b (.s .nilFunc)))), none, none, [], none⟩
 (.node 38 ⟨(some (true, 5)), none, none, false, false, true, none, (some (.agg [.nil, .nil, .nil, .nil, .nil])), (some [.nil, .nil, .nil, .nil, .nil]), none, [((some 0), (some (false, 0, 1))), ((some 1), (some (false, 1, 1))), ((some 2), (some (false, 2, 1))), ((some 3), (some (false, 3, 1))), ((some 4), (some (false, 4, 1)))], none⟩
 (.node 19 ⟨(some (true, 1)), none, none, false, false, true, none, (some (.agg [.b (.s (.pointer none))])), (some [.b (.s (.pointer none))]), none, [((some 0), (some (false, 0, 1)))], none⟩
 (.node 10 ⟨(some (false, 1)), none, none, true, false, true, none, (some (.one (.b (.s (.string ByteArray.empty))))), none, none, [], none⟩
 (.node 5 ⟨(some (false, 1)), none, none, false, false, true, (some .u8), (some (.one (.b (.s (.int .u8 0))))), none, none, [], none⟩
 (.node 3 ⟨(some (false, 1)), none, none, false, false, true, (some .i64), (some (.one (.b (.s (.int .i64 0))))), none, none, [], none⟩
 (.node 2 ⟨(some (false, 1)), none, none, false, false, true, (some .i64), (some (.one (.b (.s (.int .i64 0))))), none, none, [], none⟩
 (.node 1 ⟨(some (false, 1)), none, none, false, false, true, none, (some (.one (.b (.s .nilFunc)))), none, none, [], none⟩
 .leaf .leaf) .leaf) (.node 4 ⟨(some (false, 1)), none, none, false, true, true, none, (some (.one (.b (.s (.bool false))))), none, none, [], none⟩
 .leaf .leaf)) (.node 8 ⟨(some (true, 4)), none, none, false, false, true, none, (some (.agg [.b (.s (.int .i64 0)), .b (.s (.int .i64 0)), .b (.s (.bool false)), .b (.s (.int .u8 0))])), (some [.b (.s (.int .i64 0)), .b (.s (.int .i64 0)), .b (.s (.bool false)), .b (.s (.int .u8 0))]), none, [((some 0), (some (false, 0, 1))), ((some 1), (some (false, 1, 1))), ((some 2), (some (false, 2, 1))), ((some 3), (some (false, 3, 1)))], (some [.i .i64, .i .i64, .b, .i .u8])⟩
 (.node 7 ⟨(some (true, 4)), none, none, false, false, true, none, (some (.agg [.b (.s (.int .i64 0)), .b (.s (.int .i64 0)), .b (.s (.bool false)), .b (.s (.int .u8 0))])), (some [.b (.s (.int .i64 0)), .b (.s (.int .i64 0)), .b (.s (.bool false)), .b (.s (.int .u8 0))]), none, [((some 0), (some (false, 0, 1))), ((some 1), (some (false, 1, 1))), ((some 2), (some (false, 2, 1))), ((some 3), (some (false, 3, 1)))], (some [.i .i64, .i .i64, .b, .i .u8])⟩
 (.node 6 ⟨(some (false, 1)), none, none, false, false, true, (some .u8), (some (.one (.b (.s (.int .u8 0))))), none, none, [], none⟩
 .leaf .leaf) .leaf) (.node 9 ⟨(some (false, 1)), none, none, true, false, true, none, (some (.one (.b (.s (.string ByteArray.empty))))), none, none, [], none⟩
 .leaf .leaf))) (.node 15 ⟨(some (false, 1)), none, none, false, false, true, none, (some (.one (.b (.s (.pointer none))))), none, none, [], none⟩
 (.node 13 ⟨(some (true, 2)), none, none, false, false, true, none, (some (.agg [.b (.s (.string ByteArray.empty)), .b (.s (.int .u64 0))])), (some [.b (.s (.string ByteArray.empty)), .b (.s (.int .u64 0))]), none, [((some 0), (some (false, 0, 1))), ((some 1), (some (false, 1, 1)))], none⟩
 (.node 12 ⟨(some (false, 1)), none, none, false, false, true, (some .u64), (some (.one (.b (.s (.int .u64 0))))), none, none, [], none⟩
 (.node 11 ⟨(some (false, 1)), none, none, true, false, true, none, (some (.one (.b (.s (.string ByteArray.empty))))), none, none, [], none⟩
 .leaf .leaf) .leaf) (.node 14 ⟨(some (true, 2)), none, none, false, false, true, none, (some (.agg [.b (.s (.string ByteArray.empty)), .b (.s (.int .u64 0))])), (some [.b (.s (.string ByteArray.empty)), .b (.s (.int .u64 0))]), none, [((some 0), (some (false, 0, 1))), ((some 1), (some (false, 1, 1)))], none⟩
 .leaf .leaf)) (.node 17 ⟨(some (false, 1)), none, none, false, false, true, none, (some (.one (.b (.s (.pointer none))))), none, none, [], none⟩
 (.node 16 ⟨(some (false, 1)), none, none, false, false, true, none, (some (.one (.b (.s (.pointer none))))), none, none, [], none⟩
 .leaf .leaf) (.node 18 ⟨(some (true, 1)), none, none, false, false, true, none, (some (.agg [.b (.s (.pointer none))])), (some [.b (.s (.pointer none))]), none, [((some 0), (some (false, 0, 1)))], none⟩
 .leaf .leaf)))) (.node 29 ⟨(some (false, 1)), none, none, false, false, true, none, (some (.one (.b (.s .nilFunc)))), none, none, [], none⟩
 (.node 24 ⟨(some (false, 1)), (some 1), (some (1, 24)), false, false, true, none, (some (.one (.nil))), none, (some [.l []]), [], none⟩
 (.node 22 ⟨(some (false, 1)), (some 2), (some (2, 32)), false, false, true, none, (some (.one (.nil))), none, (some [.s (.int .i64 0), .l []]), [], none⟩
 (.node 21 ⟨(some (false, 1)), none, none, false, false, true, (some .i32), (some (.one (.b (.s (.int .i32 0))))), none, none, [], none⟩
 (.node 20 ⟨(some (false, 1)), none, none, false, false, true, none, (some (.one (.b (.s .nilIface)))), none, none, [], none⟩
 .leaf .leaf) .leaf) (.node 23 ⟨(some (false, 1)), (some 6), (some (6, 128)), false, false, true, none, (some (.one (.nil))), none, (some [.s (.int .i64 0), .l [], .l [], .l [], .l [], .l []]), [], none⟩
 .leaf .leaf)) (.node 27 ⟨(some (true, 5)), none, none, false, false, true, none, (some (.agg [.nil, .nil, .nil, .nil, .nil])), (some [.nil, .nil, .nil, .nil, .nil]), none, [((some 0), (some (false, 0, 1))), ((some 1), (some (false, 1, 1))), ((some 2), (some (false, 2, 1))), ((some 3), (some (false, 3, 1))), ((some 4), (some (false, 4, 1)))], none⟩
 (.node 26 ⟨(some (false, 1)), (some 9), (some (9, 72)), false, false, true, none, (some (.one (.nil))), none, (some [.s (.int .i64 0), .s (.int .i64 0), .s (.int .i64 0), .s (.int .i64 0), .s (.int .i64 0), .s (.int .i64 0), .s (.int .i64 0), .s (.int .i64 0), .s (.int .i64 0)]), [], none⟩
 (.node 25 ⟨(some (false, 1)), (some 3), (some (3, 56)), false, false, true, none, (some (.one (.nil))), none, (some [.s (.int .i64 0), .l [], .l []]), [], none⟩
 .leaf .leaf) .leaf) (.node 28 ⟨(some (true, 5)), none, none, false, false, true, none, (some (.agg [.nil, .nil, .nil, .nil, .nil])), (some [.nil, .nil, .nil, .nil, .nil]), none, [((some 0), (some (false, 0, 1))), ((some 1), (some (false, 1, 1))), ((some 2), (some (false, 2, 1))), ((some 3), (some (false, 3, 1))), ((some 4), (some (false, 4, 1)))], none⟩
 .leaf .leaf))) (.node 34 ⟨(some (false, 1)), (some 6), (some (6, 128)), false, false, true, none, (some (.one (.nil))), none, (some [.s (.int .i64 0), .l [], .l [], .l [], .l [], .l []]), [], none⟩
 (.node 32 ⟨(some (false, 1)), none, none, false, false, true, none, (some (.one (.b (.s .nilFunc)))), none, none, [], none⟩
 (.node 31 ⟨(some (true, 2)), none, none, false, false, true, none, (some (.agg [.b (.s (.int .i64 0)), .b (.s (.int .i64 0))])), (some [.b (.s (.int .i64 0)), .b (.s (.int .i64 0))]), none, [((some 0), (some (false, 0, 1))), ((some 1), (some (false, 1, 1)))], (some [.i .i64, .i .i64])⟩
 (.node 30 ⟨(some (true, 2)), none, none, false, false, true, none, (some (.agg [.b (.s (.int .i64 0)), .b (.s (.int .i64 0))])), (some [.b (.s (.int .i64 0)), .b (.s (.int .i64 0))]), none, [((some 0), (some (false, 0, 1))), ((some 1), (some (false, 1, 1)))], (some [.i .i64, .i .i64])⟩
 .leaf .leaf) .leaf) (.node 33 ⟨(some (false, 1)), (some 2), (some (2, 32)), false, false, true, none, (some (.one (.nil))), none, (some [.s (.int .i64 0), .l []]), [], none⟩
 .leaf .leaf)) (.node 36 ⟨(some (false, 1)), (some 3), (some (3, 56)), false, false, true, none, (some (.one (.nil))), none, (some [.s (.int .i64 0), .l [], .l []]), [], none⟩
 (.node 35 ⟨(some (false, 1)), (some 1), (some (1, 24)), false, false, true, none, (some (.one (.nil))), none, (some [.l []]), [], none⟩
 .leaf .leaf) (.node 37 ⟨(some (false, 1)), (some 9), (some (9, 72)), false, false, true, none, (some (.one (.nil))), none, (some [.s (.int .i64 0), .s (.int .i64 0), .s (.int .i64 0), .s (.int .i64 0), .s (.int .i64 0), .s (.int .i64 0), .s (.int .i64 0), .s (.int .i64 0), .s (.int .i64 0)]), [], none⟩
 .leaf .leaf))))) (.node 58 ⟨(some (false, 1)), (some 4), (some (4, 32)), false, false, true, none, (some (.one (.nil))), none, (some [.s (.int .i64 0), .s (.int .i64 0), .s (.int .i64 0), .s (.int .i64 0)]), [], none⟩
 (.node 48 ⟨(some (true, 1)), none, none, false, false, true, none, (some (.agg [.nil])), (some [.nil]), none, [((some 0), (some (false, 0, 1)))], none⟩
 (.node 43 ⟨(some (false, 1)), none, none, false, false, true, none, (some (.one (.b (.s .nilFunc)))), none, none, [], none⟩
 (.node 41 ⟨(some (false, 1)), none, none, false, false, true, none, (some (.one (.b (.s .nilFunc)))), none, none, [], none⟩
 (.node 40 ⟨(some (false, 1)), none, none, false, false, true, none, (some (.one (.b (.s .nilFunc)))), none, none, [], none⟩
 (.node 39 ⟨(some (true, 5)), none, none, false, false, true, none, (some (.agg [.nil, .nil, .nil, .nil, .nil])), (some [.nil, .nil, .nil, .nil, .nil]), none, [((some 0), (some (false, 0, 1))), ((some 1), (some (false, 1, 1))), ((some 2), (some (false, 2, 1))), ((some 3), (some (false, 3, 1))), ((some 4), (some (false, 4, 1)))], none⟩
 .leaf .leaf) .leaf) (.node 42 ⟨(some (false, 1)), none, none, false, false, true, none, (some (.one (.b (.s .nilFunc)))), none, none, [], none⟩
 .leaf .leaf)) (.node 46 ⟨(some (false, 1)), none, none, false, false, true, none, (some (.one (.b (.s .nilFunc)))), none, none, [], none⟩
 (.node 45 ⟨(some (false, 1)), none, none, false, false, true, none, (some (.one (.b (.s .nilFunc)))), none, none, [], none⟩
 (.node 44 ⟨(some (false, 1)), none, none, false, false, true, none, (some (.one (.b (.s .nilFunc)))), none, none, [], none⟩
 .leaf .leaf) .leaf) (.node 47 ⟨(some (false, 1)), (some 1), (some (1, 24)), false, false, true, none, (some (.one (.nil))), none, (some [.l []]), [], none⟩
 .leaf .leaf))) (.node 54 ⟨(some (true, 1)), none, none, false, false, true, none, (some (.agg [.nil])), (some [.nil]), none, [((some 0), (some (false, 0, 1)))], none⟩
 (.node 52 ⟨(some (false, 1)), (some 1), (some (1, 24)), false, false, true, none, (some (.one (.nil))), none, (some [.l []]), [], none⟩
 (.node 50 ⟨(some (false, 1)), none, none, false, false, true, none, (some (.one (.b (.s .nilFunc)))), none, none, [], none⟩
 (.node 49 ⟨(some (true, 1)), none, none, false, false, true, none, (some (.agg [.nil])), (some [.nil]), none, [((some 0), (some (false, 0, 1)))], none⟩
 .leaf .leaf) .leaf) (.node 53 ⟨(some (true, 1)), none, none, false, false, true, none, (some (.agg [.nil])), (some [.nil]), none, [((some 0), (some (false, 0, 1)))], none⟩
 .leaf .leaf)) (.node 56 ⟨(some (false, 1)), none, none, false, false, true, none, (some (.one (.b (.s .nilFunc)))), none, none, [], none⟩
 (.node 55 ⟨(some (false, 1)), none, none, false, false, true, none, (some (.one (.b (.s .nilFunc)))), none, none, [], none⟩
 .leaf .leaf) (.node 57 ⟨(some (false, 1)), none, none, false, false, true, none, (some (.one (.b (.s .nilFunc)))), none, none, [], none⟩
 .leaf .leaf)))) (.node 70 ⟨(some (false, 1)), none, none, false, false, true, none, (some (.one (.b (.s .nilFunc)))), none, none, [], none⟩
 (.node 65 ⟨(some (false, 1)), none, none, false, false, true, none, (some (.one (.b (.s .nilFunc)))), none, none, [], none⟩
 (.node 61 ⟨(some (false, 1)), none, none, false, false, true, none, (some (.one (.b (.s .nilFunc)))), none, none, [], none⟩
 (.node 60 ⟨(some (true, 2)), none, none, false, false, true, none, (some (.agg [.b (.s (.int .i64 0)), .nil])), (some [.b (.s (.int .i64 0)), .nil]), none, [((some 0), (some (false, 0, 1))), ((some 1), (some (false, 1, 1)))], none⟩
 (.node 59 ⟨(some (true, 2)), none, none, false, false, true, none, (some (.agg [.b (.s (.int .i64 0)), .nil])), (some [.b (.s (.int .i64 0)), .nil]), none, [((some 0), (some (false, 0, 1))), ((some 1), (some (false, 1, 1)))], none⟩
 .leaf .leaf) .leaf) (.node 63 ⟨(some (false, 1)), none, none, false, false, true, none, (some (.one (.b (.s .nilFunc)))), none, none, [], none⟩
 .leaf .leaf)) (.node 68 ⟨(some (true, 2)), none, none, false, false, true, none, (some (.agg [.b (.s (.int .i64 0)), .nil])), (some [.b (.s (.int .i64 0)), .nil]), none, [((some 0), (some (false, 0, 1))), ((some 1), (some (false, 1, 1)))], none⟩
 (.node 66 ⟨(some (false, 1)), (some 1), (some (1, 8)), false, false, true, none, (some (.one (.nil))), none, (some [.s (.int .i64 0)]), [], none⟩
 .leaf .leaf) (.node 69 ⟨(some (false, 1)), none, none, false, false, true, none, (some (.one (.b (.s .nilFunc)))), none, none, [], none⟩
 .leaf .leaf))) (.node 77 ⟨(some (true, 2)), none, none, false, false, true, none, (some (.agg [.b (.s (.int .i64 0)), .nil])), (some [.b (.s (.int .i64 0)), .nil]), none, [((some 0), (some (false, 0, 1))), ((some 1), (some (false, 1, 1)))], none⟩
 (.node 75 ⟨(some (false, 1)), none, none, false, false, true, none, (some (.one (.b (.s .nilFunc)))), none, none, [], none⟩
 (.node 73 ⟨(some (true, 2)), none, none, false, false, true, none, (some (.agg [.b (.s (.int .i64 0)), .nil])), (some [.b (.s (.int .i64 0)), .nil]), none, [((some 0), (some (false, 0, 1))), ((some 1), (some (true, 1, 1)))], none⟩
 (.node 72 ⟨(some (true, 2)), none, none, false, false, true, none, (some (.agg [.b (.s (.int .i64 0)), .nil])), (some [.b (.s (.int .i64 0)), .nil]), none, [((some 0), (some (false, 0, 1))), ((some 1), (some (true, 1, 1)))], none⟩
 .leaf .leaf) .leaf) (.node 76 ⟨(some (false, 1)), none, none, false, false, true, none, (some (.one (.b (.s .nilFunc)))), none, none, [], none⟩
 .leaf .leaf)) (.node 79 ⟨(some (false, 1)), none, none, false, false, true, none, (some (.one (.b (.s .nilFunc)))), none, none, [], none⟩
 (.node 78 ⟨(some (true, 2)), none, none, false, false, true, none, (some (.agg [.b (.s (.int .i64 0)), .nil])), (some [.b (.s (.int .i64 0)), .nil]), none, [((some 0), (some (false, 0, 1))), ((some 1), (some (false, 1, 1)))], none⟩
 .leaf .leaf) (.node 80 ⟨(some (false, 1)), none, none, false, false, true, none, (some (.one (.b (.s .nilFunc)))), none, none, [], none⟩
 .leaf .leaf)))))) (.node 176 ⟨(some (false, 1)), (some 6), (some (6, 64)), false, false, true, none, (some (.one (.nil))), none, (some [.s (.int .i64 0), .s (.int .i64 0), .s (.int .i64 0), .s (.int .i64 0), .s (.int .i64 0), .l []]), [], none⟩
 (.node 127 ⟨(some (false, 1)), none, none, false, false, true, none, (some (.one (.b (.s (.map none))))), none, none, [], none⟩
 (.node 100 ⟨(some (false, 1)), none, none, false, false, true, none, (some (.one (.b (.s .nilFunc)))), none, none, [], none⟩
 (.node 92 ⟨(some (true, 6)), none, none, false, false, true, none, (some (.agg [.b (.s (.int .i64 0)), .nil, .nil, .nil, .nil, .nil])), (some [.b (.s (.int .i64 0)), .nil, .nil, .nil, .nil, .nil]), none, [((some 0), (some (false, 0, 1))), ((some 1), (some (false, 1, 1))), ((some 2), (some (false, 2, 1))), ((some 3), (some (false, 3, 1))), ((some 4), (some (false, 4, 1))), ((some 5), (some (false, 5, 1)))], none⟩
 (.node 90 ⟨(some (false, 1)), (some 2), (some (2, 16)), false, false, true, none, (some (.one (.nil))), none, (some [.s (.int .i64 0), .s (.int .i64 0)]), [], none⟩
 (.node 89 ⟨(some (false, 1)), (some 3), (some (3, 24)), false, false, true, none, (some (.one (.nil))), none, (some [.s (.int .i64 0), .s (.int .i64 0), .s (.int .i64 0)]), [], none⟩
 (.node 84 ⟨(some (false, 1)), none, none, false, false, true, none, (some (.one (.b (.s .nilFunc)))), none, none, [], none⟩
 .leaf .leaf) .leaf) (.node 91 ⟨(some (true, 6)), none, none, false, false, true, none, (some (.agg [.b (.s (.int .i64 0)), .nil, .nil, .nil, .nil, .nil])), (some [.b (.s (.int .i64 0)), .nil, .nil, .nil, .nil, .nil]), none, [((some 0), (some (false, 0, 1))), ((some 1), (some (false, 1, 1))), ((some 2), (some (false, 2, 1))), ((some 3), (some (false, 3, 1))), ((some 4), (some (false, 4, 1))), ((some 5), (some (false, 5, 1)))], none⟩
 .leaf .leaf)) (.node 97 ⟨(some (true, 4)), none, none, false, false, true, none, (some (.agg [.b (.s (.int .i64 0)), .b (.s (.int .i64 0)), .b (.s (.int .i64 0)), .b (.s (.int .i64 0))])), (some [.b (.s (.int .i64 0)), .b (.s (.int .i64 0)), .b (.s (.int .i64 0)), .b (.s (.int .i64 0))]), none, [((some 0), (some (false, 0, 1))), ((some 1), (some (false, 1, 1))), ((some 2), (some (false, 2, 1))), ((some 3), (some (false, 3, 1)))], (some [.i .i64, .i .i64, .i .i64, .i .i64])⟩
 (.node 95 ⟨(some (true, 2)), none, none, false, false, true, none, (some (.agg [.b (.s (.int .i64 0)), .nil])), (some [.b (.s (.int .i64 0)), .nil]), none, [((some 0), (some (false, 0, 1))), ((some 1), (some (false, 1, 1)))], none⟩
 (.node 94 ⟨(some (true, 2)), none, none, false, false, true, none, (some (.agg [.b (.s (.int .i64 0)), .nil])), (some [.b (.s (.int .i64 0)), .nil]), none, [((some 0), (some (false, 0, 1))), ((some 1), (some (false, 1, 1)))], none⟩
 .leaf .leaf) .leaf) (.node 98 ⟨(some (false, 1)), none, none, false, false, true, none, (some (.one (.b (.s .nilFunc)))), none, none, [], none⟩
 .leaf .leaf))) (.node 115 ⟨(some (false, 1)), (some 6), (some (6, 80)), false, false, true, none, (some (.one (.nil))), none, (some [.s (.int .i64 0), .s (.int .i64 0), .s (.int .i64 0), .s (.int .i64 0), .l [], .l []]), [], none⟩
 (.node 111 ⟨(some (false, 1)), none, none, false, false, true, none, (some (.one (.b (.s (.pointer none))))), none, none, [], none⟩
 (.node 108 ⟨(some (false, 1)), none, none, false, false, true, none, (some (.one (.b (.s .nilFunc)))), none, none, [], none⟩
 (.node 104 ⟨(some (false, 1)), none, none, false, false, true, none, (some (.one (.b (.s .nilFunc)))), none, none, [], none⟩
 .leaf .leaf) .leaf) (.node 114 ⟨(some (false, 1)), none, none, false, false, true, none, (some (.one (.b (.s .nilFunc)))), none, none, [], none⟩
 .leaf .leaf)) (.node 118 ⟨(some (true, 3)), none, none, false, false, true, none, (some (.agg [.b (.s (.int .i64 0)), .nil, .nil])), (some [.b (.s (.int .i64 0)), .nil, .nil]), none, [((some 0), (some (false, 0, 1))), ((some 1), (some (false, 1, 1))), ((some 2), (some (false, 2, 1)))], none⟩
 (.node 116 ⟨(some (false, 1)), (some 5), (some (5, 40)), false, false, true, none, (some (.one (.nil))), none, (some [.s (.int .i64 0), .s (.int .i64 0), .s (.int .i64 0), .s (.int .i64 0), .s (.int .i64 0)]), [], none⟩
 .leaf .leaf) (.node 119 ⟨(some (false, 1)), none, none, false, false, true, none, (some (.one (.b (.s .nilFunc)))), none, none, [], none⟩
 .leaf .leaf)))) (.node 158 ⟨(some (true, 6)), none, none, false, false, true, none, (some (.agg [.b (.s (.int .i64 0)), .nil, .nil, .nil, .nil, .nil])), (some [.b (.s (.int .i64 0)), .nil, .nil, .nil, .nil, .nil]), none, [((some 0), (some (false, 0, 1))), ((some 1), (some (false, 1, 1))), ((some 2), (some (false, 2, 1))), ((some 3), (some (false, 3, 1))), ((some 4), (some (false, 4, 1))), ((some 5), (some (false, 5, 1)))], none⟩
 (.node 150 ⟨(some (false, 1)), none, none, false, false, true, none, (some (.one (.b (.s .nilFunc)))), none, none, [], none⟩
 (.node 133 ⟨(some (false, 1)), none, none, false, false, true, none, (some (.one (.b (.s .nilFunc)))), none, none, [], none⟩
 (.node 131 ⟨(some (true, 2)), none, none, false, false, true, none, (some (.agg [.b (.s (.int .i64 0)), .b (.s (.int .i64 0))])), none, none, [], none⟩
 (.node 130 ⟨(some (true, 3)), none, none, false, false, true, none, (some (.agg [.b (.s (.int .i64 0)), .b (.s (.int .i64 0)), .b (.s (.int .i64 0))])), (some [.b (.s (.int .i64 0)), .b (.s (.int .i64 0)), .b (.s (.int .i64 0))]), none, [((some 0), (some (false, 0, 1))), ((some 1), (some (false, 1, 1))), ((some 2), (some (false, 2, 1)))], (some [.i .i64, .i .i64, .i .i64])⟩
 .leaf .leaf) .leaf) (.node 134 ⟨(some (false, 1)), none, none, false, false, true, none, (some (.one (.b (.s .nilFunc)))), none, none, [], none⟩
 .leaf .leaf)) (.node 155 ⟨(some (false, 1)), (some 3), (some (3, 24)), false, false, true, none, (some (.one (.nil))), none, (some [.s (.int .i64 0), .s (.int .i64 0), .s (.int .i64 0)]), [], none⟩
 (.node 153 ⟨(some (true, 2)), none, none, false, false, true, none, (some (.agg [.b (.s (.int .i64 0)), .nil])), (some [.b (.s (.int .i64 0)), .nil]), none, [((some 0), (some (false, 0, 1))), ((some 1), (some (false, 1, 1)))], none⟩
 (.node 151 ⟨(some (false, 1)), (some 4), (some (4, 32)), false, false, true, none, (some (.one (.nil))), none, (some [.s (.int .i64 0), .s (.int .i64 0), .s (.int .i64 0), .s (.int .i64 0)]), [], none⟩
 .leaf .leaf) .leaf) (.node 156 ⟨(some (false, 1)), (some 2), (some (2, 16)), false, false, true, none, (some (.one (.nil))), none, (some [.s (.int .i64 0), .s (.int .i64 0)]), [], none⟩
 .leaf .leaf))) (.node 167 ⟨(some (true, 3)), none, none, false, false, true, none, (some (.agg [.b (.s (.int .i64 0)), .nil, .nil])), (some [.b (.s (.int .i64 0)), .nil, .nil]), none, [((some 0), (some (false, 0, 1))), ((some 1), (some (false, 1, 1))), ((some 2), (some (false, 2, 1)))], none⟩
 (.node 164 ⟨(some (false, 1)), (some 6), (some (6, 80)), false, false, true, none, (some (.one (.nil))), none, (some [.s (.int .i64 0), .s (.int .i64 0), .s (.int .i64 0), .s (.int .i64 0), .l [], .l []]), [], none⟩
 (.node 162 ⟨(some (true, 1)), none, none, false, false, true, none, (some (.agg [.nil])), (some [.nil]), none, [((some 0), (some (false, 0, 1)))], none⟩
 (.node 160 ⟨(some (false, 1)), (some 6), (some (6, 64)), false, false, true, none, (some (.one (.nil))), none, (some [.s (.int .i64 0), .s (.int .i64 0), .s (.int .i64 0), .s (.int .i64 0), .s (.int .i64 0), .l []]), [], none⟩
 .leaf .leaf) .leaf) (.node 165 ⟨(some (false, 1)), (some 5), (some (5, 40)), false, false, true, none, (some (.one (.nil))), none, (some [.s (.int .i64 0), .s (.int .i64 0), .s (.int .i64 0), .s (.int .i64 0), .s (.int .i64 0)]), [], none⟩
 .leaf .leaf)) (.node 171 ⟨(some (true, 2)), none, none, false, false, true, none, (some (.agg [.b (.s (.int .i64 0)), .b (.s (.int .i64 0))])), (some [.b (.s (.int .i64 0)), .b (.s (.int .i64 0))]), none, [((some 0), (some (false, 0, 1))), ((some 1), (some (false, 1, 1)))], (some [.i .i64, .i .i64])⟩
 (.node 168 ⟨(some (false, 1)), none, none, false, false, true, none, (some (.one (.b (.s .nilFunc)))), none, none, [], none⟩
 .leaf .leaf) (.node 173 ⟨(some (true, 9)), none, none, false, false, true, none, (some (.agg [.b (.s (.int .i64 0)), .b (.s (.int .i64 0)), .b (.s (.int .i64 0)), .b (.s (.int .i64 0)), .b (.s (.int .i64 0)), .b (.s (.int .i64 0)), .b (.s (.int .i64 0)), .b (.s (.int .i64 0)), .b (.s (.int .i64 0))])), (some [.b (.s (.int .i64 0)), .b (.s (.int .i64 0)), .b (.s (.int .i64 0)), .b (.s (.int .i64 0)), .b (.s (.int .i64 0)), .b (.s (.int .i64 0)), .b (.s (.int .i64 0)), .b (.s (.int .i64 0)), .b (.s (.int .i64 0))]), none, [((some 0), (some (false, 0, 1))), ((some 1), (some (false, 1, 1))), ((some 2), (some (false, 2, 1))), ((some 3), (some (false, 3, 1))), ((some 4), (some (false, 4, 1))), ((some 5), (some (false, 5, 1))), ((some 6), (some (false, 6, 1))), ((some 7), (some (true, 7, 2)))], (some [.i .i64, .i .i64, .i .i64, .i .i64, .i .i64, .i .i64, .i .i64, .i .i64, .i .i64])⟩
 .leaf .leaf))))) (.node 282 ⟨(some (false, 1)), (some 2), (some (2, 16)), false, false, true, none, (some (.one (.nil))), none, (some [.s (.int .i64 0), .s (.int .i64 0)]), [], none⟩
 (.node 238 ⟨(some (true, 6)), none, none, false, false, true, none, (some (.agg [.b (.s (.int .i64 0)), .b (.s (.int .i64 0)), .b (.s (.int .i64 0)), .b (.s (.int .i64 0)), .b (.s (.int .i64 0)), .nil])), (some [.b (.s (.int .i64 0)), .b (.s (.int .i64 0)), .b (.s (.int .i64 0)), .b (.s (.int .i64 0)), .b (.s (.int .i64 0)), .nil]), none, [((some 0), (some (false, 0, 1))), ((some 1), (some (false, 1, 1))), ((some 2), (some (false, 2, 1))), ((some 3), (some (true, 3, 2))), ((some 5), (some (false, 5, 1)))], none⟩
 (.node 193 ⟨(some (false, 1)), none, none, false, false, true, none, (some (.one (.b (.s .nilFunc)))), none, none, [], none⟩
 (.node 184 ⟨(some (true, 9)), none, none, false, false, true, none, (some (.agg [.b (.s (.int .i64 0)), .b (.s (.int .i64 0)), .b (.s (.int .i64 0)), .b (.s (.int .i64 0)), .b (.s (.int .i64 0)), .b (.s (.int .i64 0)), .b (.s (.int .i64 0)), .b (.s (.int .i64 0)), .b (.s (.int .i64 0))])), (some [.b (.s (.int .i64 0)), .b (.s (.int .i64 0)), .b (.s (.int .i64 0)), .b (.s (.int .i64 0)), .b (.s (.int .i64 0)), .b (.s (.int .i64 0)), .b (.s (.int .i64 0)), .b (.s (.int .i64 0)), .b (.s (.int .i64 0))]), none, [((some 0), (some (false, 0, 1))), ((some 1), (some (false, 1, 1))), ((some 2), (some (false, 2, 1))), ((some 3), (some (false, 3, 1))), ((some 4), (some (false, 4, 1))), ((some 5), (some (false, 5, 1))), ((some 6), (some (false, 6, 1))), ((some 7), (some (true, 7, 2)))], (some [.i .i64, .i .i64, .i .i64, .i .i64, .i .i64, .i .i64, .i .i64, .i .i64, .i .i64])⟩
 (.node 182 ⟨(some (true, 2)), none, none, false, false, true, none, (some (.agg [.b (.s (.int .i64 0)), .b (.s (.int .i64 0))])), (some [.b (.s (.int .i64 0)), .b (.s (.int .i64 0))]), none, [((some 0), (some (false, 0, 1))), ((some 1), (some (false, 1, 1)))], (some [.i .i64, .i .i64])⟩
 (.node 178 ⟨(some (true, 1)), none, none, false, false, true, none, (some (.agg [.nil])), (some [.nil]), none, [((some 0), (some (false, 0, 1)))], none⟩
 .leaf .leaf) .leaf) (.node 191 ⟨(some (false, 1)), none, none, false, false, true, none, (some (.one (.b (.s .nilFunc)))), none, none, [], none⟩
 .leaf .leaf)) (.node 235 ⟨(some (true, 2)), none, none, false, false, true, none, (some (.agg [.b (.s (.int .i64 0)), .b (.s (.int .i64 0))])), (some [.b (.s (.int .i64 0)), .b (.s (.int .i64 0))]), none, [((some 0), (some (false, 0, 1))), ((some 1), (some (false, 1, 1)))], (some [.i .i64, .i .i64])⟩
 (.node 200 ⟨(some (false, 1)), none, none, false, false, true, none, (some (.one (.b (.s .nilFunc)))), none, none, [], none⟩
 (.node 196 ⟨(some (false, 1)), none, none, false, false, true, none, (some (.one (.b (.s .nilFunc)))), none, none, [], none⟩
 .leaf .leaf) .leaf) (.node 236 ⟨(some (false, 1)), (some 2), (some (2, 16)), false, false, true, none, (some (.one (.nil))), none, (some [.s (.int .i64 0), .s (.int .i64 0)]), [], none⟩
 .leaf .leaf))) (.node 269 ⟨(some (true, 3)), none, none, false, false, true, none, (some (.agg [.b (.s (.int .i64 0)), .b (.s (.int .i64 0)), .b (.s (.int .i64 0))])), (some [.b (.s (.int .i64 0)), .b (.s (.int .i64 0)), .b (.s (.int .i64 0))]), none, [((some 0), (some (false, 0, 1))), ((some 1), (some (false, 1, 1))), ((some 2), (some (false, 2, 1)))], (some [.i .i64, .i .i64, .i .i64])⟩
 (.node 253 ⟨(some (false, 1)), none, none, false, false, true, none, (some (.one (.b (.s .nilFunc)))), none, none, [], none⟩
 (.node 245 ⟨(some (false, 1)), none, none, false, false, true, none, (some (.one (.b (.s .nilFunc)))), none, none, [], none⟩
 (.node 241 ⟨(some (true, 5)), none, none, false, false, true, none, (some (.agg [.b (.s (.int .i64 0)), .b (.s (.int .i64 0)), .b (.s (.int .i64 0)), .b (.s (.int .i64 0)), .b (.s (.int .i64 0))])), (some [.b (.s (.int .i64 0)), .b (.s (.int .i64 0)), .b (.s (.int .i64 0)), .b (.s (.int .i64 0)), .b (.s (.int .i64 0))]), none, [((some 0), (some (false, 0, 1))), ((some 1), (some (false, 1, 1))), ((some 2), (some (false, 2, 1))), ((some 3), (some (false, 3, 1))), ((some 4), (some (false, 4, 1)))], (some [.i .i64, .i .i64, .i .i64, .i .i64, .i .i64])⟩
 .leaf .leaf) .leaf) (.node 256 ⟨(some (false, 1)), none, none, false, false, true, none, (some (.one (.b (.s .nilFunc)))), none, none, [], none⟩
 .leaf .leaf)) (.node 274 ⟨(some (true, 6)), none, none, false, false, true, none, (some (.agg [.b (.s (.int .i64 0)), .b (.s (.int .i64 0)), .b (.s (.int .i64 0)), .b (.s (.int .i64 0)), .nil, .nil])), (some [.b (.s (.int .i64 0)), .b (.s (.int .i64 0)), .b (.s (.int .i64 0)), .b (.s (.int .i64 0)), .nil, .nil]), none, [((some 0), (some (false, 0, 1))), ((some 1), (some (false, 1, 1))), ((some 2), (some (false, 2, 1))), ((some 3), (some (false, 3, 1))), ((some 4), (some (false, 4, 1))), ((some 5), (some (false, 5, 1)))], none⟩
 (.node 270 ⟨(some (false, 1)), none, none, false, false, true, none, (some (.one (.b (.s .nilFunc)))), none, none, [], none⟩
 .leaf .leaf) (.node 277 ⟨(some (false, 1)), none, none, false, false, true, (some .u64), (some (.one (.b (.s (.int .u64 0))))), none, none, [], none⟩
 .leaf .leaf)))) (.node 322 ⟨(some (false, 1)), none, none, false, false, true, (some .i64), (some (.one (.b (.s (.int .i64 0))))), none, none, [], none⟩
 (.node 300 ⟨(some (true, 5)), none, none, false, false, true, none, (some (.agg [.b (.s (.int .i64 0)), .b (.s (.int .i64 0)), .b (.s (.int .i64 0)), .b (.s (.int .i64 0)), .b (.s (.int .i64 0))])), (some [.b (.s (.int .i64 0)), .b (.s (.int .i64 0)), .b (.s (.int .i64 0)), .b (.s (.int .i64 0)), .b (.s (.int .i64 0))]), none, [((some 0), (some (false, 0, 1))), ((some 1), (some (false, 1, 1))), ((some 2), (some (false, 2, 1))), ((some 3), (some (false, 3, 1))), ((some 4), (some (false, 4, 1)))], (some [.i .i64, .i .i64, .i .i64, .i .i64, .i .i64])⟩
 (.node 294 ⟨(some (true, 4)), none, none, false, false, true, none, (some (.agg [.b (.s (.int .i64 0)), .b (.s (.int .i64 0)), .b (.s (.int .i64 0)), .b (.s (.int .i64 0))])), (some [.b (.s (.int .i64 0)), .b (.s (.int .i64 0)), .b (.s (.int .i64 0)), .b (.s (.int .i64 0))]), none, [((some 0), (some (false, 0, 1))), ((some 1), (some (false, 1, 1))), ((some 2), (some (false, 2, 1))), ((some 3), (some (false, 3, 1)))], (some [.i .i64, .i .i64, .i .i64, .i .i64])⟩
 (.node 287 ⟨(some (true, 6)), none, none, false, false, true, none, (some (.agg [.b (.s (.int .i64 0)), .b (.s (.int .i64 0)), .b (.s (.int .i64 0)), .b (.s (.int .i64 0)), .nil, .nil])), (some [.b (.s (.int .i64 0)), .b (.s (.int .i64 0)), .b (.s (.int .i64 0)), .b (.s (.int .i64 0)), .nil, .nil]), none, [((some 0), (some (false, 0, 1))), ((some 1), (some (false, 1, 1))), ((some 2), (some (false, 2, 1))), ((some 3), (some (false, 3, 1))), ((some 4), (some (false, 4, 1))), ((some 5), (some (false, 5, 1)))], none⟩
 (.node 284 ⟨(some (true, 6)), none, none, false, false, true, none, (some (.agg [.b (.s (.int .i64 0)), .b (.s (.int .i64 0)), .b (.s (.int .i64 0)), .b (.s (.int .i64 0)), .b (.s (.int .i64 0)), .nil])), (some [.b (.s (.int .i64 0)), .b (.s (.int .i64 0)), .b (.s (.int .i64 0)), .b (.s (.int .i64 0)), .b (.s (.int .i64 0)), .nil]), none, [((some 0), (some (false, 0, 1))), ((some 1), (some (false, 1, 1))), ((some 2), (some (false, 2, 1))), ((some 3), (some (true, 3, 2))), ((some 5), (some (false, 5, 1)))], none⟩
 .leaf .leaf) .leaf) (.node 296 ⟨(some (true, 2)), none, none, false, false, true, none, (some (.agg [.b (.s (.int .i64 0)), .b (.s (.int .i64 0))])), (some [.b (.s (.int .i64 0)), .b (.s (.int .i64 0))]), none, [((some 0), (some (false, 0, 1))), ((some 1), (some (false, 1, 1)))], (some [.i .i64, .i .i64])⟩
 .leaf .leaf)) (.node 304 ⟨(some (false, 1)), none, none, false, false, true, none, (some (.one (.b (.s .nilFunc)))), none, none, [], none⟩
 (.node 302 ⟨(some (false, 1)), none, none, false, false, true, none, (some (.one (.b (.s (.map none))))), none, none, [], none⟩
 .leaf .leaf) (.node 319 ⟨(some (false, 1)), none, none, false, false, true, none, (some (.one (.b (.s .nilFunc)))), none, none, [], none⟩
 .leaf .leaf))) (.node 351 ⟨(some (false, 1)), none, none, false, false, true, (some .u64), (some (.one (.b (.s (.int .u64 0))))), none, none, [], none⟩
 (.node 342 ⟨(some (false, 1)), none, none, false, false, true, none, (some (.one (.b (.s .nilFunc)))), none, none, [], none⟩
 (.node 331 ⟨(some (false, 1)), none, none, false, false, true, (some .u64), (some (.one (.b (.s (.int .u64 0))))), none, none, [], none⟩
 (.node 329 ⟨(some (false, 1)), none, none, false, false, true, (some .u32), (some (.one (.b (.s (.int .u32 0))))), none, none, [], none⟩
 .leaf .leaf) .leaf) (.node 350 ⟨(some (false, 1)), (some 1), (some (1, 8)), false, false, true, none, (some (.one (.nil))), none, (some [.s (.int .i64 0)]), [], none⟩
 .leaf .leaf)) (.node 358 ⟨(some (false, 1)), none, none, false, false, true, none, (some (.one (.b (.s .nilFunc)))), none, none, [], none⟩
 (.node 355 ⟨(some (false, 1)), none, none, false, false, true, none, (some (.one (.b (.s (.pointer none))))), none, none, [], none⟩
 .leaf .leaf) (.node 361 ⟨(some (false, 1)), none, none, false, false, true, none, (some (.one (.b (.s (.pointer none))))), none, none, [], none⟩
 .leaf .leaf)))))))
theorem q97 : tab = tab.map Tryz.prog := by kernel_rfl
instance : yl Tryz.prog := ⟨tab, q97, by kernel_rfl⟩
end Go.Proofs.YthljegacamgnnaaGreat
end
section
namespace Go.Proofs.YthljegacamgnnaaGreat
open Go Go.Sx
set_option maxRecDepth 20000
abbrev y05 : Sh := (.i .i64 (.i .i64 (.i .i64 (.i .i64 .nil))))
theorem y2i {N : Nat} {row : List Cell} (h : WT N y05 row) : ∃ (x0 : Int) (x1 : Int) (x2 : Int) (x3 : Int), row = [.s (.int .i64 x0), .s (.int .i64 x1), .s (.int .i64 x2), .s (.int .i64 x3)] := by
 obtain ⟨x0, _, rfl, g0⟩ := h.qr
 obtain ⟨x1, _, rfl, g1⟩ := g0.qr
 obtain ⟨x2, _, rfl, g2⟩ := g1.qr
 obtain ⟨x3, _, rfl, g3⟩ := g2.qr
 obtain rfl := g3.yw
 exact ⟨x0, x1, x2, x3, rfl⟩
abbrev q7 : Sh := (.i .i64 (.l y05 .nil))
theorem y0b {N : Nat} {row : List Cell} (h : WT N q7 row) : ∃ (x0 : Int) (x1 : List (List Cell)), row = [.s (.int .i64 x0), .l x1] ∧ WR N y05 x1 := by
 obtain ⟨x0, _, rfl, g0⟩ := h.qr
 obtain ⟨x1, _, rfl, h1, g1⟩ := g0.y0z
 obtain rfl := g1.yw
 exact ⟨x0, x1, rfl, h1⟩
abbrev qd : Sh := (.i .i64 (.i .i64 (.i .i64 .nil)))
theorem z0h {N : Nat} {row : List Cell} (h : WT N qd row) : ∃ (x0 : Int) (x1 : Int) (x2 : Int), row = [.s (.int .i64 x0), .s (.int .i64 x1), .s (.int .i64 x2)] := by
 obtain ⟨x0, _, rfl, g0⟩ := h.qr
 obtain ⟨x1, _, rfl, g1⟩ := g0.qr
 obtain ⟨x2, _, rfl, g2⟩ := g1.qr
 obtain rfl := g2.yw
 exact ⟨x0, x1, x2, rfl⟩
abbrev qh : Sh := (.i .i64 (.i .i64 .nil))
theorem q1k {N : Nat} {row : List Cell} (h : WT N qh row) : ∃ (x0 : Int) (x1 : Int), row = [.s (.int .i64 x0), .s (.int .i64 x1)] := by
 obtain ⟨x0, _, rfl, g0⟩ := h.qr
 obtain ⟨x1, _, rfl, g1⟩ := g0.qr
 obtain rfl := g1.yw
 exact ⟨x0, x1, rfl⟩
abbrev qf : Sh := (.i .i64 (.l qd (.l qh (.l q7 (.l qh (.l (.i .i64 .nil) .nil))))))
theorem z0z {N : Nat} {row : List Cell} (h : WT N qf row) : ∃ (x0 : Int) (x1 : List (List Cell)) (x2 : List (List Cell)) (x3 : List (List Cell)) (x4 : List (List Cell)) (x5 : List (List Cell)), row = [.s (.int .i64 x0), .l x1, .l x2, .l x3, .l x4, .l x5] ∧ WR N qd x1 ∧ WR N qh x2 ∧ WR N q7 x3 ∧ WR N qh x4 ∧ WR N (.i .i64 .nil) x5 := by
 obtain ⟨x0, _, rfl, g0⟩ := h.qr
 obtain ⟨x1, _, rfl, h1, g1⟩ := g0.y0z
 obtain ⟨x2, _, rfl, h2, g2⟩ := g1.y0z
 obtain ⟨x3, _, rfl, h3, g3⟩ := g2.y0z
 obtain ⟨x4, _, rfl, h4, g4⟩ := g3.y0z
 obtain ⟨x5, _, rfl, h5, g5⟩ := g4.y0z
 obtain rfl := g5.yw
 exact ⟨x0, x1, x2, x3, x4, x5, rfl, h1, h2, h3, h4, h5⟩
abbrev zn : Sh := (.i .i64 (.i .i64 .nil))
theorem y1l {N : Nat} {row : List Cell} (h : WT N zn row) : ∃ (x0 : Int) (x1 : Int), row = [.s (.int .i64 x0), .s (.int .i64 x1)] := by
 obtain ⟨x0, _, rfl, g0⟩ := h.qr
 obtain ⟨x1, _, rfl, g1⟩ := g0.qr
 obtain rfl := g1.yw
 exact ⟨x0, x1, rfl⟩
abbrev qm : Sh := (.i .i64 (.i .i64 (.i .i64 (.i .i64 (.i .i64 (.l zn .nil))))))
theorem z1l {N : Nat} {row : List Cell} (h : WT N qm row) : ∃ (x0 : Int) (x1 : Int) (x2 : Int) (x3 : Int) (x4 : Int) (x5 : List (List Cell)), row = [.s (.int .i64 x0), .s (.int .i64 x1), .s (.int .i64 x2), .s (.int .i64 x3), .s (.int .i64 x4), .l x5] ∧ WR N zn x5 := by
 obtain ⟨x0, _, rfl, g0⟩ := h.qr
 obtain ⟨x1, _, rfl, g1⟩ := g0.qr
 obtain ⟨x2, _, rfl, g2⟩ := g1.qr
 obtain ⟨x3, _, rfl, g3⟩ := g2.qr
 obtain ⟨x4, _, rfl, g4⟩ := g3.qr
 obtain ⟨x5, _, rfl, h5, g5⟩ := g4.y0z
 obtain rfl := g5.yw
 exact ⟨x0, x1, x2, x3, x4, x5, rfl, h5⟩
abbrev qa : Sh := (.l qm .nil)
theorem z0b {N : Nat} {row : List Cell} (h : WT N qa row) : ∃ (x0 : List (List Cell)), row = [.l x0] ∧ WR N qm x0 := by
 obtain ⟨x0, _, rfl, h0, g0⟩ := h.y0z
 obtain rfl := g0.yw
 exact ⟨x0, rfl, h0⟩
abbrev qo : Sh := (.i .i64 (.i .i64 (.i .i64 (.i .i64 (.l (.i .i64 .nil) (.l zn .nil))))))
theorem q2i {N : Nat} {row : List Cell} (h : WT N qo row) : ∃ (x0 : Int) (x1 : Int) (x2 : Int) (x3 : Int) (x4 : List (List Cell)) (x5 : List (List Cell)), row = [.s (.int .i64 x0), .s (.int .i64 x1), .s (.int .i64 x2), .s (.int .i64 x3), .l x4, .l x5] ∧ WR N (.i .i64 .nil) x4 ∧ WR N zn x5 := by
 obtain ⟨x0, _, rfl, g0⟩ := h.qr
 obtain ⟨x1, _, rfl, g1⟩ := g0.qr
 obtain ⟨x2, _, rfl, g2⟩ := g1.qr
 obtain ⟨x3, _, rfl, g3⟩ := g2.qr
 obtain ⟨x4, _, rfl, h4, g4⟩ := g3.y0z
 obtain ⟨x5, _, rfl, h5, g5⟩ := g4.y0z
 obtain rfl := g5.yw
 exact ⟨x0, x1, x2, x3, x4, x5, rfl, h4, h5⟩
abbrev qp : Sh := (.i .i64 (.i .i64 (.i .i64 (.i .i64 (.i .i64 .nil)))))
theorem q0y {N : Nat} {row : List Cell} (h : WT N qp row) : ∃ (x0 : Int) (x1 : Int) (x2 : Int) (x3 : Int) (x4 : Int), row = [.s (.int .i64 x0), .s (.int .i64 x1), .s (.int .i64 x2), .s (.int .i64 x3), .s (.int .i64 x4)] := by
 obtain ⟨x0, _, rfl, g0⟩ := h.qr
 obtain ⟨x1, _, rfl, g1⟩ := g0.qr
 obtain ⟨x2, _, rfl, g2⟩ := g1.qr
 obtain ⟨x3, _, rfl, g3⟩ := g2.qr
 obtain ⟨x4, _, rfl, g4⟩ := g3.qr
 obtain rfl := g4.yw
 exact ⟨x0, x1, x2, x3, x4, rfl⟩
abbrev yf : Sh := (.i .i64 (.l qo (.l qp .nil)))
theorem z0q {N : Nat} {row : List Cell} (h : WT N yf row) : ∃ (x0 : Int) (x1 : List (List Cell)) (x2 : List (List Cell)), row = [.s (.int .i64 x0), .l x1, .l x2] ∧ WR N qo x1 ∧ WR N qp x2 := by
 obtain ⟨x0, _, rfl, g0⟩ := h.qr
 obtain ⟨x1, _, rfl, h1, g1⟩ := g0.y0z
 obtain ⟨x2, _, rfl, h2, g2⟩ := g1.y0z
 obtain rfl := g2.yw
 exact ⟨x0, x1, x2, rfl, h1, h2⟩
abbrev zl : Sh := (.i .i64 (.i .i64 (.i .i64 (.i .i64 (.i .i64 (.i .i64 (.i .i64 (.i .i64 (.i .i64 .nil)))))))))
theorem y0h {N : Nat} {row : List Cell} (h : WT N zl row) : ∃ (x0 : Int) (x1 : Int) (x2 : Int) (x3 : Int) (x4 : Int) (x5 : Int) (x6 : Int) (x7 : Int) (x8 : Int), row = [.s (.int .i64 x0), .s (.int .i64 x1), .s (.int .i64 x2), .s (.int .i64 x3), .s (.int .i64 x4), .s (.int .i64 x5), .s (.int .i64 x6), .s (.int .i64 x7), .s (.int .i64 x8)] := by
 obtain ⟨x0, _, rfl, g0⟩ := h.qr
 obtain ⟨x1, _, rfl, g1⟩ := g0.qr
 obtain ⟨x2, _, rfl, g2⟩ := g1.qr
 obtain ⟨x3, _, rfl, g3⟩ := g2.qr
 obtain ⟨x4, _, rfl, g4⟩ := g3.qr
 obtain ⟨x5, _, rfl, g5⟩ := g4.qr
 obtain ⟨x6, _, rfl, g6⟩ := g5.qr
 obtain ⟨x7, _, rfl, g7⟩ := g6.qr
 obtain ⟨x8, _, rfl, g8⟩ := g7.qr
 obtain rfl := g8.yw
 exact ⟨x0, x1, x2, x3, x4, x5, x6, x7, x8, rfl⟩
abbrev yp : Sh := (.l q7 (.l qf (.l qa (.l yf (.l zl .nil)))))
theorem y0t {N : Nat} {row : List Cell} (h : WT N yp row) : ∃ (x0 : List (List Cell)) (x1 : List (List Cell)) (x2 : List (List Cell)) (x3 : List (List Cell)) (x4 : List (List Cell)), row = [.l x0, .l x1, .l x2, .l x3, .l x4] ∧ WR N q7 x0 ∧ WR N qf x1 ∧ WR N qa x2 ∧ WR N yf x3 ∧ WR N zl x4 := by
 obtain ⟨x0, _, rfl, h0, g0⟩ := h.y0z
 obtain ⟨x1, _, rfl, h1, g1⟩ := g0.y0z
 obtain ⟨x2, _, rfl, h2, g2⟩ := g1.y0z
 obtain ⟨x3, _, rfl, h3, g3⟩ := g2.y0z
 obtain ⟨x4, _, rfl, h4, g4⟩ := g3.y0z
 obtain rfl := g4.yw
 exact ⟨x0, x1, x2, x3, x4, rfl, h0, h1, h2, h3, h4⟩
end Go.Proofs.YthljegacamgnnaaGreat
end
section
namespace Go.Proofs.YthljegacamgnnaaGreat
open Go Go.Sx
set_option maxRecDepth 20000
set_option maxHeartbeats 4000000
open Go.Proofs Go.Shelf Go.RowKit Go.Lib
def qa5 : Ren := ⟨fun n => bif Nat.beq n 53 then 162 else bif Nat.beq n 59 then 293 else bif Nat.beq n 63 then 227 else bif Nat.beq n 64 then 228 else bif Nat.beq n 68 then 321 else bif Nat.beq n 70 then 287 else bif Nat.beq n 71 then 288 else bif Nat.beq n 72 then 289 else bif Nat.beq n 73 then 290 else bif Nat.beq n 74 then 291 else bif Nat.beq n 75 then 292 else bif Nat.beq n 76 then 294 else bif Nat.beq n 77 then 295 else bif Nat.beq n 78 then 296 else bif Nat.beq n 79 then 297 else bif Nat.beq n 88 then 322 else bif Nat.beq n 89 then 323 else bif Nat.beq n 90 then 324 else bif Nat.beq n 91 then 325 else bif Nat.beq n 92 then 326 else bif Nat.beq n 96 then 333 else 0, fun t => bif Nat.beq t 3 then 3 else bif Nat.beq t 4 then 4 else bif Nat.beq t 5 then 5 else bif Nat.beq t 9 then 9 else bif Nat.beq t 22 then 66 else bif Nat.beq t 23 then 2 else bif Nat.beq t 44 then 266 else bif Nat.beq t 51 then 277 else bif Nat.beq t 60 then 322 else bif Nat.beq t 61 then 323 else bif Nat.beq t 67 then 329 else bif Nat.beq t 69 then 331 else bif Nat.beq t 75 then 351 else bif Nat.beq t 79 then 355 else bif Nat.beq t 83 then 361 else bif Nat.beq t 84 then 362 else 0, fun x => x⟩
theorem z8g : SlLaysN.n53 Tryz.prog qa5 where
 mixed := by kernel_rfl
 f53 := ⟨ "slices.Sort[[]int64,int64]", by decide, by kernel_rfl⟩
 f59 := ⟨ "cmp.Less[int64]", by decide, by kernel_rfl⟩
 f63 := ⟨ "slices.pdqsortOrdered[int64]", by decide, by kernel_rfl⟩
 f64 := by kernel_rfl
 f68 := ⟨ "cmp.isNaN[int64]", by decide, by kernel_rfl⟩
 f70 := ⟨ "slices.insertionSortOrdered[int64]", by decide, by kernel_rfl⟩
 f71 := ⟨ "slices.heapSortOrdered[int64]", by decide, by kernel_rfl⟩
 f72 := ⟨ "slices.breakPatternsOrdered[int64]", by decide, by kernel_rfl⟩
 f73 := ⟨ "slices.choosePivotOrdered[int64]", by decide, by kernel_rfl⟩
 f74 := ⟨ "slices.reverseRangeOrdered[int64]", by decide, by kernel_rfl⟩
 f75 := ⟨ "slices.partialInsertionSortOrdered[int64]", by decide, by kernel_rfl⟩
 f76 := ⟨ "slices.partitionEqualOrdered[int64]", by decide, by kernel_rfl⟩
 f77 := ⟨ "slices.partitionOrdered[int64]", by decide, by kernel_rfl⟩
 f78 := by kernel_rfl
 f79 := by kernel_rfl
 f88 := ⟨ "slices.siftDownOrdered[int64]", by decide, by kernel_rfl⟩
 f89 := by kernel_rfl
 f90 := by kernel_rfl
 f91 := ⟨ "slices.medianAdjacentOrdered[int64]", by decide, by kernel_rfl⟩
 f92 := ⟨ "slices.medianOrdered[int64]", by decide, by kernel_rfl⟩
 f96 := ⟨ "slices.order2Ordered[int64]", by decide, by kernel_rfl⟩
 t0 := Tryz.underlying0
 a0 := Tryz.isAgg0
 z0 := Tryz.sizeOf0
 v0 := Tryz.zeroValue0
 t3 := Tryz.underlying3
 a3 := Tryz.isAgg3
 z3 := Tryz.sizeOf3
 v3 := Tryz.zeroValue3
 t4 := Tryz.underlying4
 a4 := Tryz.isAgg4
 z4 := Tryz.sizeOf4
 v4 := Tryz.zeroValue4
 t5 := Tryz.underlying5
 a5 := Tryz.isAgg5
 z5 := Tryz.sizeOf5
 v5 := Tryz.zeroValue5
 t9 := Tryz.underlying9
 a9 := Tryz.isAgg9
 z9 := Tryz.sizeOf9
 v9 := Tryz.zeroValue9
 t22 := Tryz.underlying66
 a22 := Tryz.isAgg66
 z22 := Tryz.sizeOf66
 v22 := Tryz.zeroValue66
 t23 := Tryz.underlying2
 a23 := Tryz.isAgg2
 z23 := Tryz.sizeOf2
 v23 := Tryz.zeroValue2
 t44 := Tryz.underlying266
 a44 := Tryz.isAgg266
 z44 := Tryz.sizeOf266
 v44 := Tryz.zeroValue266
 t51 := Tryz.underlying277
 a51 := Tryz.isAgg277
 z51 := Tryz.sizeOf277
 v51 := Tryz.zeroValue277
 t60 := Tryz.underlying322
 a60 := Tryz.isAgg322
 z60 := Tryz.sizeOf322
 v60 := Tryz.zeroValue322
 t61 := Tryz.underlying323
 a61 := Tryz.isAgg323
 z61 := Tryz.sizeOf323
 v61 := Tryz.zeroValue323
 t67 := Tryz.underlying329
 a67 := Tryz.isAgg329
 z67 := Tryz.sizeOf329
 v67 := Tryz.zeroValue329
 t69 := Tryz.underlying331
 a69 := Tryz.isAgg331
 z69 := Tryz.sizeOf331
 v69 := Tryz.zeroValue331
 t75 := Tryz.underlying351
 a75 := Tryz.isAgg351
 z75 := Tryz.sizeOf351
 v75 := Tryz.zeroValue351
 t79 := Tryz.underlying355
 a79 := Tryz.isAgg355
 z79 := Tryz.sizeOf355
 v79 := Tryz.zeroValue355
 t83 := Tryz.underlying361
 a83 := Tryz.isAgg361
 z83 := Tryz.sizeOf361
 v83 := Tryz.zeroValue361
 t84 := Tryz.underlying362
 a84 := Tryz.isAgg362
 z84 := Tryz.sizeOf362
 v84 := Tryz.zeroValue362
theorem z9q {w : World} {S : Nat → Prop} {u v : Value} (h : Go.Sx.Own w S (.s v) u) : u = v := by cases h; rfl
theorem z4b {w : World} {N S : Nat → Prop} {us : List Int} {v : Value} (h : y0g w (CN w N true) S 1 (ints us) v) : (us = [] ∧ ∃ A, v = .slice A 0 0) ∨ ∃ e, w.ownsRow 0 e 1 v us.length (us.map (Value.int .i64)) ∧ ∀ g, v.ownBlock = some g → S g := by
 rcases h with ⟨hn, A, rfl⟩ | ⟨e, xs, u, F, h⟩
 · exact .inl ⟨by simpa [ints] using hn, A, rfl⟩
 · refine .inr ⟨e, ?_, h.hS⟩
   have ho := h.ho
   have hl : (ints us).length = us.length := by simp [ints]
   rw [hl] at ho
   have hxl : xs.length = us.length := by have := ho.1; omega
   have hx : xs = us.map (Value.int .i64) := by
    refine List.ext_getElem (by simp [hxl]) fun j h1 h2 => ?_
    have hj : j < us.length := by omega
    have h3 := h.hu j 0 (by omega) (by omega)
    have h4 := z9q (h.hr j 0 [i64 us[j]] _ (by simp [ints, hj]) rfl)
    rw [Nat.mul_one, Nat.add_zero, h4] at h3
    rw [List.getElem?_eq_getElem h1] at h3
    simpa using h3
   rw [hx] at ho
   exact ho
theorem z5a {w : World} {S : Nat → Prop} {us : List Int} {v : Value} {e : TypeId} (h : w.ownsRow 0 e 1 v us.length (us.map (Value.int .i64))) (hS : ∀ g, v.ownBlock = some g → S g) : y0g w (Go.Sx.Own w) S 1 (ints us) v := by
 refine .inr ⟨e, us.map (Value.int .i64), fun j _ => .int .i64 (us[j]?.getD 0), fun _ _ _ => False, by simpa [ints] using h, hS, fun row hrow => ?_, fun _ _ _ h => h.elim, fun _ _ _ _ _ h => h.elim, fun j k hj hk => ?_, fun j k row c hj hk => ?_⟩
 · simp [ints] at hrow
   obtain ⟨_, _, rfl⟩ := hrow; rfl
 · have hj : j < us.length := by simpa [ints] using hj
   have : k = 0 := by omega
   subst this
   simp [hj]
 · have hjl : j < us.length := by have := (List.getElem?_eq_some_iff.1 hj).1; simpa [ints] using this
   have : row = [i64 us[j]] := by simp [ints, hjl] at hj; exact hj.symm
   subst this
   cases k with
   | succ k => simp at hk
   | zero =>
     cases hk
     simp only [hjl, getElem?_pos, Option.getD_some]
     exact .s _ _ rfl
theorem z7m (N : Nat → Prop) (S : Nat → Prop) (us : List Int) (w : World) (v0 : Value) (hu : us.length ≤ 1048576) (hS : ∀ x, S x → x < w.heap.size) (h0 : y0g w (CN w N true) S 1 (ints us) v0) :
 Calls Tryz.prog 162 #[v0] w fun e w' => e = .returned (.tuple #[]) ∧ zo w w' S ∧ ∃ R : Nat → Prop, y0g w' (Go.Sx.Own w') R 1 (ints (q0d us)) v0 ∧ ∀ x, R x → S x ∧ x < w'.heap.size := by
 have hm0 : q0d ([] : List Int) = [] := by simp [q0d]
 rcases z4b h0 with ⟨rfl, A, rfl⟩ | ⟨e, ho, hSo⟩
 · refine (AnyG.slices_Sort_int_none z8g A 0 w).mono ?_
   rintro e w' ⟨rfl, rfl⟩
   rw [hm0]
   exact ⟨rfl, zo.refl _ _, fun _ => False, .inl ⟨rfl, A, rfl⟩, fun x hx => hx.elim⟩
 · by_cases hn : v0 = .slice none 0 0
   · have hl : us.length = 0 := by
      rcases ho.2 with ⟨_, h⟩ | ⟨g, cap, cur, h, _⟩
      · exact h
      · rw [hn] at h; cases h
     have : us = [] := List.eq_nil_of_length_eq_zero hl
     subst this
     subst hn
     refine (AnyG.slices_Sort_int_none z8g none 0 w).mono ?_
     rintro e w' ⟨rfl, rfl⟩
     rw [hm0]
     exact ⟨rfl, zo.refl _ _, fun _ => False, .inl ⟨rfl, none, rfl⟩, fun x hx => hx.elim⟩
   · obtain ⟨g, cap, rfl, hb, hg, hc1, hc2, hzl, hH⟩ := holds_of_ownsRow ho hn
     refine (AnyG.slices_Sort_int z8g g 0 cap us w hH hg (by omega)).mono ?_
     rintro e' w' ⟨rfl, q, os, rfl⟩
     have hml : (q0d us).length = us.length := (List.mergeSort_perm us _).length_eq
     have hgS := hSo g rfl
     have hp := ownsRow_putRow (q := q) (k := us.length) (ys := q0d us) ho hml (Nat.le_refl _)
     rw [List.take_of_length_le (by omega), ← hml] at hp
     have hsz : (Sort.putRow (Value.int .i64) (Sort.ahead w q) g 0 (q0d us).toArray).heap.size = w.heap.size := by simp [Sort.putRow, Sort.mapBlock, Sort.ahead]
     refine ⟨rfl, ⟨rfl, rfl, rfl, by rw [Sort.size_grow]; exact Nat.le_trans (Nat.le_of_eq hsz.symm) (Nat.le_add_right _ _), fun k hk hnk => ?_⟩, fun x => x = g, ?_, fun x hx => ?_⟩
     · rw [Sort.heap_grow_old _ _ (by rw [show (us.mergeSort fun x y => decide (x ≤ y)) = q0d us from rfl, hsz]; exact hk)]
       simp [Sort.putRow, Sort.mapBlock, Sort.ahead, Array.getElem?_modify, show g ≠ k from fun h => hnk (h ▸ hgS)]
     · rw [← hml]
       refine z5a (e := e) (z0e hp fun g' h => ?_) (fun g' h => by cases h; rfl)
       cases h
       exact Sort.heap_grow_old _ _ (by rw [show (us.mergeSort fun x y => decide (x ≤ y)) = q0d us from rfl, hsz]; exact hg)
     · subst hx
       exact ⟨hgS, by rw [Sort.size_grow]; exact Nat.lt_of_lt_of_le (by rw [show (us.mergeSort fun x y => decide (x ≤ y)) = q0d us from rfl, hsz]; exact hg) (Nat.le_add_right _ _)⟩
theorem q5b (us : List Int) (hu : us.length ≤ 1048576) : PG Tryz.prog 162 [.one (.giv true 1 (ints us))] (.tup []) [(0, ints (q0d us))] := by
 refine ⟨by kernel_rfl, fun N S w vals hS hSd hsh hc => ?_⟩
 obtain ⟨v0, rfl⟩ : ∃ v0, vals = #[v0] := by
  match vals, hsh with
  | ⟨[v0]⟩, _ => exact ⟨v0, rfl⟩
 obtain ⟨sz, hz, h0⟩ := hc 0 _ v0 rfl rfl
 obtain rfl := hz (by decide)
 refine (z7m N (S 0) us w v0 hu (fun x hx => (hS 0 x hx).1) h0).mono ?_
 rintro e w' ⟨rfl, hk, R, hsl, hv⟩
 refine ⟨_, fun _ => False, fun t x => t = 0 ∧ R x, rfl, hk.mono fun _ _ h => ⟨0, h⟩, ⟨#[], fun _ _ => False, rfl, rfl, fun _ _ h => h, fun _ _ _ h => h.elim, fun i rc u h => by simp at h⟩, fun x hx => hx.elim, fun t x hx => ⟨.inr ⟨0, (hv x hx.2).1⟩, (hv x hx.2).2⟩, fun t t' x h h' => by rw [h.1, h'.1], fun t rows' hb full sz rows u hg hu => ?_⟩
 cases t with
 | succ t => cases hb
 | zero =>
   cases hb
   cases hg
   cases hu
   refine ⟨by simp [q0d], fun i row row' h1 h2 => ?_, 1, fun _ => rfl, y0g.imp hsl (fun _ h => ⟨rfl, h⟩) (fun _ _ _ => rfl) (fun _ _ _ _ h => h)⟩
   simp [ints] at h1 h2
   obtain ⟨_, _, rfl⟩ := h1
   obtain ⟨_, _, rfl⟩ := h2
   rfl
end Go.Proofs.YthljegacamgnnaaGreat
end
section
namespace Go.Proofs.YthljegacamgnnaaGreat
open Go Go.Sx
set_option maxRecDepth 20000
set_option maxHeartbeats 4000000
open Go.Proofs Go.Shelf Go.RowKit Go.Lib
def ya5 : Ren := ⟨fun _ => 163, fun t => bif Nat.beq t 3 then 3 else bif Nat.beq t 4 then 4 else bif Nat.beq t 22 then 66 else bif Nat.beq t 23 then 2 else 0, fun x => x⟩
theorem q8f : SlLaysN.n43 Tryz.prog ya5 where
 mixed := by kernel_rfl
 f43 := ⟨ "slices.Compact[[]int64,int64]", by decide, by kernel_rfl⟩
 t0 := Tryz.underlying0
 a0 := Tryz.isAgg0
 z0 := Tryz.sizeOf0
 v0 := Tryz.zeroValue0
 t3 := Tryz.underlying3
 a3 := Tryz.isAgg3
 z3 := Tryz.sizeOf3
 v3 := Tryz.zeroValue3
 t4 := Tryz.underlying4
 a4 := Tryz.isAgg4
 z4 := Tryz.sizeOf4
 v4 := Tryz.zeroValue4
 t22 := Tryz.underlying66
 a22 := Tryz.isAgg66
 z22 := Tryz.sizeOf66
 v22 := Tryz.zeroValue66
 t23 := Tryz.underlying2
 a23 := Tryz.isAgg2
 z23 := Tryz.sizeOf2
 v23 := Tryz.zeroValue2
 i23 := by kernel_rfl
theorem z4k (N : Nat → Prop) (S : Nat → Prop) (us : List Int) (w : World) (v0 : Value) (hu : us.length ≤ 1048576) (hS : ∀ x, S x → x < w.heap.size) (h0 : y0g w (CN w N true) S 1 (ints us) v0) :
 Calls Tryz.prog 163 #[v0] w fun e w' => ∃ (v' : Value) (R : Nat → Prop), e = .returned v' ∧ zo w w' S ∧ y0g w' (Go.Sx.Own w') R 1 (ints (compact us)) v' ∧ ∀ x, R x → S x ∧ x < w'.heap.size := by
 rcases z4b h0 with ⟨rfl, A, rfl⟩ | ⟨e, ho, hSo⟩
 · refine (AnyG.slices_Compact_int_empty q8f A 0 w).mono ?_
   rintro e w' ⟨rfl, rfl⟩
   exact ⟨_, fun _ => False, rfl, zo.refl _ _, .inl ⟨rfl, A, rfl⟩, fun x hx => hx.elim⟩
 · by_cases hn : v0 = .slice none 0 0
   · have hl : us.length = 0 := by
      rcases ho.2 with ⟨_, h⟩ | ⟨g, cap, cur, h, _⟩
      · exact h
      · rw [hn] at h; cases h
     have : us = [] := List.eq_nil_of_length_eq_zero hl
     subst this
     subst hn
     refine (AnyG.slices_Compact_int_empty q8f none 0 w).mono ?_
     rintro e w' ⟨rfl, rfl⟩
     exact ⟨_, fun _ => False, rfl, zo.refl _ _, .inl ⟨rfl, none, rfl⟩, fun x hx => hx.elim⟩
   · obtain ⟨g, cap, rfl, hb, hg, hc1, hc2, hzl, hH⟩ := holds_of_ownsRow ho hn
     refine (AnyG.slices_Compact_int q8f g 0 cap us w hH (by omega) hc1).mono ?_
     rintro e' w' ⟨rfl, q, rfl⟩
     have hcl := z5h us
     have hgS := hSo g rfl
     have hp := ownsRow_putRow (q := q) (k := (compact us).length) (ys := compact us ++ List.replicate (us.length - (compact us).length) 0) ho (by simp; omega) hcl
     rw [List.take_left' rfl] at hp
     refine ⟨_, fun x => x = g, rfl, ⟨rfl, rfl, rfl, by simp [Sort.putRow, Sort.mapBlock, Sort.ahead], fun k hk hnk => ?_⟩, z5a hp (fun g' h => by cases h; rfl), fun x hx => ?_⟩
     · simp [Sort.putRow, Sort.mapBlock, Sort.ahead, Array.getElem?_modify, show g ≠ k from fun h => hnk (h ▸ hgS)]
     · cases hx
       exact ⟨hgS, by simpa [Sort.putRow, Sort.mapBlock, Sort.ahead] using hg⟩
theorem y5h (us : List Int) (hu : us.length ≤ 1048576) : PG Tryz.prog 163 [.one (.giv true 1 (ints us))] (.one (.own false [.l 1 (ints (compact us))])) [] := by
 refine ⟨by kernel_rfl, fun N S w vals hS hSd hsh hc => ?_⟩
 obtain ⟨v0, rfl⟩ : ∃ v0, vals = #[v0] := by
  match vals, hsh with
  | ⟨[v0]⟩, _ => exact ⟨v0, rfl⟩
 obtain ⟨sz, hz, h0⟩ := hc 0 _ v0 rfl rfl
 obtain rfl := hz (by decide)
 refine (z4k N (S 0) us w v0 hu (fun x hx => (hS 0 x hx).1) h0).mono ?_
 rintro e w' ⟨v', R, rfl, hk, hsl, hv⟩
 refine ⟨v', R, fun _ _ => False, rfl, hk.mono fun _ _ h => ⟨0, h⟩, ⟨#[v'], fun k x => k = 0 ∧ R x, rfl, rfl, fun k x hx => hx.2, fun k k' x hx hx' => by rw [hx.1, hx'.1], fun k c u hc hu => ?_⟩, fun x hx => ⟨.inr ⟨0, (hv x hx).1⟩, (hv x hx).2, fun _ h => h⟩, fun _ _ h => h.elim, fun _ _ _ h => h.elim, fun t rows' hb => by cases hb⟩
 cases k with
 | succ k => simp at hc
 | zero =>
   cases hc
   cases hu
   exact ⟨1, fun _ => rfl, y0g.imp hsl (fun _ h => ⟨rfl, h⟩) (fun _ _ _ => rfl) (fun _ _ _ _ h => h)⟩
end Go.Proofs.YthljegacamgnnaaGreat
end
section
namespace Go.Proofs.YthljegacamgnnaaGreat
open Go Go.Sx
set_option maxRecDepth 20000
set_option maxHeartbeats 4000000
open Go.Lib (compact)
def shN (x : Con) (i : Nat) : List Int := (x.legs.take i).map Leg.s
theorem y7k {x : Con} {i : Nat} {l : Leg} (h : x.legs[i]? = some l) : shN x (i + 1) = shN x i ++ [l.s] := by
 unfold shN
 rw [List.take_add_one, h]; simp
theorem q4u (x : Con) (i : Nat) : (shN x i).length ≤ i := by unfold shN; simp; omega
theorem y4v (x : Con) (hl : x.legs.length < 65536) : PC Tryz.prog 145 [.agg x.cs] (.one (.own false [.l 1 (ints (shF x.legs))])) := by
 refine PC.begin Tryz.func145 rfl (by kernel_rfl) ?_
 have hle : (x.legs.map Leg.cs).length = x.legs.length := by simp
 refine xs rfl trivial ?_
 refine zc rfl (ι := Nat) (fun i => i ≤ x.legs.length) (fun i => ⟨[(10, sV (.int .i64 i)), (3, .one (.h 6 (shN x i).length)), (1, .one (.a 1 0)), (8, .one (.b (.l (x.legs.map Leg.cs)))), (9, sV (.int .i64 (x.legs.map Leg.cs).length))], [(6, .arr true 1 0 (ints (shN x i))), (1, .var (x.cs.map .b))]⟩) (fun i => x.legs.length - i) 0 (Nat.zero_le _) ?_ ?_
 · exact ⟨⟨rfl, ⟨rfl, rfl, rfl⟩, ⟨rfl, rfl, rfl⟩, rfl, rfl, trivial⟩, ⟨⟨rfl, .inl rfl, .inl rfl⟩, lcr, trivial⟩, rfl⟩
 · intro i hi J hJ
   refine xb rfl (fun h => ?_) (fun h => ?_)
   · have h : i < x.legs.length := by simpa using h
     obtain ⟨l, hx⟩ := gx h
     have hg := gm Leg.cs hx
     have hf := y7k hx
     have hfl := q4u x i
     refine xs rfl (by simp) ?_
     refine za rfl _ hg ?_
     refine xs rfl rfl ?_
     refine xs rfl ⟨trivial, trivial⟩ ?_
     refine xs rfl (by simp) ?_
     refine xs rfl rfl ?_
     refine xs rfl (.inl rfl) ?_
     refine xs rfl (by simp; omega) ?_
     refine xs rfl (by simp; omega) ?_
     exact q9 rfl (hJ _ (i + 1) (by omega) (by omega) ⟨⟨cwi (by omega) (by omega) (by omega), ⟨rfl, by rw [hf]; simp, rfl⟩, ⟨rfl, rfl, rfl⟩, rfl, rfl, trivial⟩, ⟨⟨by rw [hf]; simp, .inl rfl, .inl rfl⟩, lcr, trivial⟩, rfl⟩)
   · have h : i = x.legs.length := by have : ¬ i < x.legs.length := by simpa using h
                                      omega
     subst h
     have hs := q5b (shN x x.legs.length) (by have := q4u x x.legs.length; omega)
     have hms : (q0d (shN x x.legs.length)).length = (shN x x.legs.length).length := (List.mergeSort_perm _ _).length_eq
     have hc := y5h (q0d (shN x x.legs.length)) (by have := q4u x x.legs.length; omega)
     have he : compact (q0d (shN x x.legs.length)) = shF x.legs := by unfold shN; rw [List.take_length]; exact y97 x.legs
     rw [he] at hc
     refine q8p rfl (hs) ⟨⟨rfl, rfl, rfl, (by first | omega | (simp only [ai_len]; omega) | simp_all)⟩, trivial⟩ rfl ?_
     refine q8p rfl (hc) ⟨⟨rfl, rfl, rfl, (by first | omega | (simp only [ai_len]; omega) | simp_all)⟩, trivial⟩ rfl ?_
     refine xr rfl (z6 rfl ⟨⟨rfl, ⟨rfl, rfl, .inl rfl⟩, trivial⟩, z1 rfl⟩)
end Go.Proofs.YthljegacamgnnaaGreat
end
section
namespace Go.Proofs.YthljegacamgnnaaGreat
open Go Go.Sx
set_option maxRecDepth 20000
set_option maxHeartbeats 4000000
open Go.RowKit Go.Maps Go.Shelf
theorem z5w {α : Type} (f : Nat → α) (k : Nat) : (List.range (k + 1)).map f = (List.range k).map f ++ [f k] := by simp [List.range_succ]
theorem y6y (zs : List Int) : (List.range zs.length).map (fun j => zs[j]?.getD 0) = zs := by
 apply List.ext_getElem
 · simp
 · intro i h1 h2
   simp [h2]
set_option maxRecDepth 100000 in
set_option maxHeartbeats 2000000 in
theorem q7n (F : Fence) (n : Nat) (h330 : F.fn 330) (hro : F.round = none) (hn : 1 ≤ n) (l n0 : Nat) (a b : Addr) (cap : Nat) (zs : List Int) (W0 : World) (J : List Int → World → Prop)
 (hJ : ∀ pre W, J pre W → Below n0 W0 W) (hB : a.block < n0) (hc : W0.cell? a = some (.slice (some b) zs.length cap)) (hz : zs.length ≤ 1048576)
 (hA : ∀ j, j < zs.length → b.block < n0 ∧ W0.cell? (b.add j) = some (.int .i64 (zs[j]?.getD 0)))
 (hY : ∀ pre x W, J pre W → pre.length < zs.length → YieldAt F (n - 1) Tryz.prog l #[.int .i64 x] W fun e W' => e = .returned (.bool true) ∧ J (pre ++ [x]) W')
 (W : World) (h0 : J [] W) :
 CallsIn F n Tryz.prog 330 #[.func (.yield l) #[] #[], .pointer (some a)] W fun e W' => (∃ v, e = .returned v) ∧ J zs W' := by
 refine callsIn_of_wp Tryz.func330 rfl h330 ?_ hro
 simp only [Tryz.ntmps330, List.size_toArray, List.length_cons, List.length_nil, Nat.reduceAdd, Nat.reduceSub, Array.replicate_succ, Array.replicate_zero, List.push_toArray, List.append_toArray, List.nil_append, List.cons_append]
 have hca : W.cell? a = some (.slice (some b) zs.length cap) := ((hJ _ _ h0).cell (p := a) hB).trans hc
 gi_wp2
 gi_loopw [7] (fun i wr => ∃ k : Nat, k ≤ zs.length ∧ i = .int .i64 k ∧ J ((List.range k).map (fun j => zs[j]?.getD 0)) wr)
  (fun i _ => zs.length - (intOf i).toNat)
 case atStart => exact ⟨0, Nat.zero_le _, rfl, h0⟩
 case round =>
  obtain ⟨k, hk, rfl, hJs⟩ := hrel
  have hcx : k < zs.length → wr.cell? (b.add k) = some (.int .i64 (zs[k]?.getD 0)) := fun h => ((hJ _ _ hJs).cell (p := b.add k) (by rw [z04]; exact (hA k h).1)).trans (hA k h).2
  by_cases hlt : k < zs.length
  · obtain ⟨fn, tmps, assign, body, hy, hR⟩ := hY _ (zs[k]?.getD 0) wr hJs (by simpa using hlt)
    have hcx' := hcx hlt
    have hup := z5w (fun j => zs[j]?.getD 0) k
    clear hcx
    generalize zs[k]?.getD 0 = x at hy hR hcx' hup
    gi_wp2
    refine hR.mono ?_
    rintro e W3 ⟨rfl, hJ3⟩
    gi_wp2
    go_roundw
    case rel => exact ⟨k + 1, by omega, by simp, by rw [hup]; exact hJ3⟩
    case measure => simp [intOf]; omega
  · obtain rfl : k = zs.length := by omega
    gi_wp2
    go_end0
    exact ⟨⟨_, rfl⟩, by rw [y6y] at hJs; exact hJs⟩
set_option maxRecDepth 100000 in
set_option maxHeartbeats 2000000 in
theorem y7n (F : Fence) (n : Nat) (h330 : F.fn 330) (hro : F.round = none) (l : Nat) (a : Addr) (cap : Nat) (J : List Int → World → Prop)
 (W : World) (hca : W.cell? a = some (.slice none 0 cap)) (h0 : J [] W) :
 CallsIn F n Tryz.prog 330 #[.func (.yield l) #[] #[], .pointer (some a)] W fun e W' => (∃ v, e = .returned v) ∧ J [] W' := by
 refine callsIn_of_wp Tryz.func330 rfl h330 ?_ hro
 simp only [Tryz.ntmps330, List.size_toArray, List.length_cons, List.length_nil, Nat.reduceAdd, Nat.reduceSub, Array.replicate_succ, Array.replicate_zero, List.push_toArray, List.append_toArray, List.nil_append, List.cons_append]
 gi_wp2
 gi_loopw [7] (fun i wr => i = .int .i64 0 ∧ J [] wr) (fun _ _ => 0)
 case atStart => exact ⟨rfl, h0⟩
 case round =>
  obtain ⟨rfl, hJs⟩ := hrel
  gi_wp2
  go_end0
  exact ⟨⟨_, rfl⟩, hJs⟩
theorem z98 (F : Fence) (n : Nat) (h330 : F.fn 330) (hro : F.round = none) (hn : 1 ≤ n) (l n0 : Nat) (a : Addr) (A : Option Addr) (cap : Nat) (zs : List Int) (W0 : World) (J : List Int → World → Prop)
 (hJ : ∀ pre W, J pre W → Below n0 W0 W) (hB : a.block < n0) (hc : W0.cell? a = some (.slice A zs.length cap)) (hz : zs.length ≤ 1048576)
 (hA : (∃ b, A = some b ∧ ∀ j, j < zs.length → b.block < n0 ∧ W0.cell? (b.add j) = some (.int .i64 (zs[j]?.getD 0))) ∨ (A = none ∧ zs = []))
 (hY : ∀ pre x W, J pre W → pre.length < zs.length → YieldAt F (n - 1) Tryz.prog l #[.int .i64 x] W fun e W' => e = .returned (.bool true) ∧ J (pre ++ [x]) W')
 (W : World) (h0 : J [] W) :
 CallsIn F n Tryz.prog 330 #[.func (.yield l) #[] #[], .pointer (some a)] W fun e W' => (∃ v, e = .returned v) ∧ J zs W' := by
 rcases hA with ⟨b, rfl, hA⟩ | ⟨rfl, rfl⟩
 · exact q7n F n h330 hro hn l n0 a b cap zs W0 J hJ hB hc hz hA hY W h0
 · exact y7n F n h330 hro l a cap J W (((hJ _ _ h0).cell (p := a) hB).trans hc) h0
def z3b : Code := Code.region 2 #[{ dst := some 5, op := Op.assign (Operand.tmp 7), type := 2, pos := "iter.go:51", after := #[], guard := none }] false
def q61 : Code := Code.block 1 (Code.region 3 #[{ dst := some 8, op := Op.load 66 (Operand.tmp 2), type := 66, pos := "iter.go:52", after := #[], guard := none }, { dst := some 9, op := Op.move (Operand.tmp 5), type := 2, pos := "iter.go:52", after := #[], guard := none }, { dst := some 10, op := Op.buildSlice 66 1 #[(0, Operand.tmp 9)], type := 66, pos := "iter.go:52", after := #[{ on := 1, ground := Ground.data }], guard := none }, { dst := some 11, op := Op.call { callee := Callee.builtin Builtin.append, args := #[Operand.tmp 8, Operand.tmp 10], argTypes := #[66, 66] }, type := 66, pos := "iter.go:52", after := #[{ on := 0, ground := Ground.data }, { on := 2, ground := Ground.data }], guard := none }, { dst := none, op := Op.store 66 (Operand.tmp 2) (Operand.tmp 11), type := 0, pos := "iter.go:52", after := #[{ on := 3, ground := Ground.data }, { on := 3, ground := Ground.chain }, { on := 0, ground := Ground.phase }, { on := 1, ground := Ground.phase }, { on := 2, ground := Ground.phase }, { on := 3, ground := Ground.phase }], guard := none }] false)
def q2b (fn : FuncId) (sv : Value) (Bs D : Nat) (st : LoopState) (pend : Option Code) : Loop :=
 { state := st, pending := pend, fn, tmps := #[.slice none 0 0, sv, .pointer (some ⟨Bs, 0, none⟩), undef, .slice none 0 0, undef, sv, undef, undef, undef, undef, undef, undef], params := #[7], assign := z3b, body := q61, defers := D }
structure z9d (w0 : World) (fn : FuncId) (sv : Value) (Bs l D : Nat) (ss : List Int) (W : World) : Prop where
 box : ∃ v, W.heap[Bs]? = some (.cells #[v] 66 (0, 0)) ∧ W.ownsRow w0.heap.size 2 1 v ss.length (ss.map (Value.int .i64)) ∧ (v = .slice none 0 0 ↔ ss = [])
 L : W.heap[l]? = some (.loop (q2b fn sv Bs D .ready none))
 K : W.heap[D]? = some (.deferred (some []))
 below : Below w0.heap.size w0 W
theorem qt (W : World) (l : Nat) (o : Obj) : W.grownBy (W.putObj l o) (some l) :=
 ⟨rfl, rfl, rfl, by simp, fun k _ hk => World.putObj_heap_other (fun e => hk (by rw [e]))⟩
theorem y23 (W : World) (b : Nat) (v : Value) : W.grownBy (W.setCell ⟨b, 0, none⟩ v) (some b) :=
 ⟨rfl, rfl, rfl, (KeepsWalks.setCell W _ v).size, fun k _ hk => Below.heap_setCell _ _ _ k (fun e => hk (by rw [e]))⟩
theorem z08 {W : World} {base : Nat} {e : TypeId} {size : Nat} {v : Value} {k : Nat} {xs : List Value} (h : W.ownsRow base e size v k xs) {j : Nat} {o : Obj} (hj : W.heap[j]? = some o) (hno : ∀ cur, o ≠ .cells cur e (0, 0)) :
 v.ownBlock = none ∨ v.ownBlock ≠ some j := by
 rcases h.2 with ⟨rfl, _⟩ | ⟨g, cap, cur, rfl, _, hgb, _⟩
 · exact .inl rfl
 · refine .inr fun e' => ?_
   have : g = j := by simpa [Value.ownBlock] using e'
   subst this; rw [hgb] at hj; cases hj; exact hno cur rfl
theorem q0k {W : World} {B : Nat} {v : Value} {t : TypeId} (h : W.heap[B]? = some (.cells #[v] t (0, 0))) : W.cell? ⟨B, 0, none⟩ = some v ∧ W.frozen? ⟨B, 0, none⟩ = false := by
 constructor <;> simp [World.cell?, World.frozen?, h]
theorem y1s {W : World} {B : Nat} {v : Value} {t : TypeId} (v' : Value) (h : W.heap[B]? = some (.cells #[v] t (0, 0))) : (W.setCell ⟨B, 0, none⟩ v').heap[B]? = some (.cells #[v'] t (0, 0)) := by
 obtain ⟨hlt, hk⟩ := Array.getElem?_eq_some_iff.1 h
 show (W.heap.modify B _)[B]? = _
 rw [Array.getElem?_eq_getElem (by rw [Array.size_modify]; exact hlt), Array.getElem_modify_self, hk]
 rfl
theorem z91 : (Tryz.prog.info? 2).map (fun i => (i.zero, i.size, i.bytes)) = some (some (.int .i64 0), 1, 8) := by kernel_rfl
set_option maxRecDepth 100000 in
set_option maxHeartbeats 2000000 in
theorem q83 (F : Fence) (m : Nat) (w0 : World) (fn : FuncId) (hfn : F.fn fn) (sv : Value) (Bs l D : Nat) (hBl : Bs ≠ l) (hDl : D ≠ l) (hDB : D ≠ Bs) (h0B : w0.heap.size ≤ Bs) (h0l : w0.heap.size ≤ l)
 (N : Nat) (hN : N ≤ maxLen) (hNb : N * 8 ≤ 140737488355328) (ss : List Int) (x : Int) (W : World) (h : z9d w0 fn sv Bs l D ss W) (hlen : ss.length < N) :
 YieldAt F m Tryz.prog l #[.int .i64 x] W fun e W' => e = .returned (.bool true) ∧ z9d w0 fn sv Bs l D (ss ++ [x]) W' := by
 obtain ⟨i0, hi, hz0, hz1, hz2⟩ := info_parts z91
 obtain ⟨v, hv, hrow, _⟩ := h.box
 refine ⟨fn, #[.slice none 0 0, sv, .pointer (some ⟨Bs, 0, none⟩), undef, .slice none 0 0, undef, sv, .int .i64 x, undef, undef, undef, undef, undef], z3b, q61, by simpa [q2b] using run_yield (P := Tryz.prog) (args := #[.int .i64 x]) h.L rfl, roundIn_of_wpIn hfn ?_⟩
 have hl : l < W.heap.size := (Array.getElem?_eq_some_iff.1 h.L).1
 have hbr := run_beginRound (P := Tryz.prog) h.L rfl
 obtain ⟨W2, hW2⟩ : ∃ W2, W.putObj l (.loop { q2b fn sv Bs D .ready none with state := .busy }) = W2 := ⟨_, rfl⟩
 rw [hW2] at hbr
 have hg2 : W.grownBy W2 (some l) := by rw [← hW2]; exact qt _ _ _
 have hv2 : W2.heap[Bs]? = some (.cells #[v] 66 (0, 0)) := by rw [← hW2]; exact (World.putObj_heap_other hBl).trans hv
 have hK2 : W2.heap[D]? = some (.deferred (some [])) := by rw [← hW2]; exact (World.putObj_heap_other hDl).trans h.K
 have hL2 : W2.heap[l]? = some (.loop { q2b fn sv Bs D .ready none with state := .busy }) := by rw [← hW2]; exact World.putObj_heap_same hl
 have hrow2 : W2.ownsRow w0.heap.size 2 1 v ss.length (ss.map (Value.int .i64)) := hrow.kept hg2 (z08 hrow h.L (fun cur e => by cases e))
 have hb2 : Below w0.heap.size w0 W2 := h.below.grown hg2 h.below.size (fun k e => by cases e; exact h0l)
 obtain ⟨hc2, hf2⟩ := q0k hv2
 have hBlt : Bs < W2.heap.size := (Array.getElem?_eq_some_iff.1 hv2).1
 have hl2 : l < W2.heap.size := (Array.getElem?_eq_some_iff.1 hL2).1
 have hDlt : D < W2.heap.size := (Array.getElem?_eq_some_iff.1 hK2).1
 have ne_of : ∀ {j : Nat} {o : Obj}, W2.heap[j]? = some o → (∀ cur, o ≠ .cells cur 2 (0, 0)) → some j ≠ v.ownBlock := fun hj hno => by
  rcases z08 hrow2 hj hno with e | e
  · rw [e]; simp
  · exact fun e' => e e'.symm
 clear hW2
 unfold z3b
 gi_wp2_with (rw [Oper.semAt_eq _ _ _ (fun c h => by cases h)]; go_simp; try go_bits)
 unfold q61
 gi_wp2_with (first
  | (gi_at_builtin; refine wpListIn_append_own _ rfl _ _ 66 rfl w0.heap.size 2 i0 (.int .i64 0) 1 8 Tryz.underlying66 hi hz0 hz1 hz2 rfl (by decide) _ _ _ rfl (hrow2.alloc _) ⟨W2.heap.size, 0, none⟩ 1 1 [.int .i64 x] rfl rfl (cell_one_new _ _ _) (by simp [Value.oneCell']) (by omega) (by omega) (by have := hb2.size; simp; omega) ?_; intro v' w3 hown' hg3 hnil3
     have hv3 : w3.heap[Bs]? = some (.cells #[v] 66 (0, 0)) := (hg3.block Bs (by simp; omega) (ne_of hv2 (fun cur e => by cases e))).trans ((Below.heap_alloc _ _ Bs hBlt).trans hv2)
     obtain ⟨hc3, hf3⟩ := q0k hv3
     obtain ⟨g', cap', cur', rfl, hbase', hgb', hr1, hr2, hr3, hr4⟩ : ∃ g' cap' cur', v' = .slice (some ⟨g', 0, none⟩) (ss.length + 1) cap' ∧ w0.heap.size ≤ g' ∧ w3.heap[g']? = some (.cells cur' 2 (0, 0)) ∧ ss.length + 1 ≤ cap' ∧ cap' ≤ maxLen ∧ cur'.size = cap' * 1 ∧ cur'.toList.take ((ss.length + 1) * 1) = ss.map (Value.int .i64) ++ [.int .i64 x] := by
      rcases hown'.2 with ⟨_, h0⟩ | h'
      · exact absurd h0 (by omega)
      · exact h'
     go_frame)
  | (rw [Oper.semAt_eq _ _ _ (fun c h => by cases h)]; go_simp; try go_bits))
 have hg3' : (W2.alloc (.cells #[.int .i64 x] 2)).grownBy w3 v.ownBlock := hg3
 have hL3 : w3.heap[l]? = some (.loop { q2b fn sv Bs D .ready none with state := .busy }) := (hg3'.block l (by simp; omega) (ne_of hL2 (fun cur e => by cases e))).trans ((Below.heap_alloc _ _ l hl2).trans hL2)
 have hK3 : w3.heap[D]? = some (.deferred (some [])) := (hg3'.block D (by simp; omega) (ne_of hK2 (fun cur e => by cases e))).trans ((Below.heap_alloc _ _ D hDlt).trans hK2)
 obtain ⟨w4, hw4⟩ : ∃ w4, w3.setCell ⟨Bs, 0, none⟩ (.slice (some ⟨g', 0, none⟩) (ss.length + 1) cap') = w4 := ⟨_, rfl⟩
 rw [hw4]
 have hg4 : w3.grownBy w4 (some Bs) := by rw [← hw4]; exact y23 _ _ _
 have hv4 : w4.heap[Bs]? = some (.cells #[.slice (some ⟨g', 0, none⟩) (ss.length + 1) cap'] 66 (0, 0)) := by rw [← hw4]; exact y1s _ hv3
 have hL4 : w4.heap[l]? = some (.loop { q2b fn sv Bs D .ready none with state := .busy }) := (hg4.block l (Array.getElem?_eq_some_iff.1 hL3).1 (fun e => hBl (by cases e; rfl))).trans hL3
 have hK4 : w4.heap[D]? = some (.deferred (some [])) := (hg4.block D (Array.getElem?_eq_some_iff.1 hK3).1 (fun e => hDB (by cases e; rfl))).trans hK3
 have hrow4 := hown'.kept hg4 (z08 hown' hv3 (fun cur e => by cases e))
 have hl4 : l < w4.heap.size := (Array.getElem?_eq_some_iff.1 hL4).1
 have hb3 : Below w0.heap.size w0 w3 := (hb2.alloc hb2.size _).grown hg3' (by have := hb2.size; simp; omega) (fun k e => (hrow2.lt k e).1)
 have hb4 : Below w0.heap.size w0 w4 := hb3.grown hg4 hb3.size (fun k e => by cases e; exact h0B)
 clear hw4
 refine ⟨_, _, run_endRound none hL4, rfl, ⟨⟨_, (World.putObj_heap_other hBl).trans hv4, ?_, by simp⟩, World.putObj_heap_same hl4, (World.putObj_heap_other hDl).trans hK4, hb4.grown (qt _ _ _) hb4.size (fun k e => by cases e; exact h0l)⟩⟩
 have := hrow4.kept (qt w4 l (.loop { { q2b fn sv Bs D .ready none with state := .busy } with state := if (none : Option Code).isNone then .ready else .done, pending := none })) (z08 hrow4 hL4 (fun cur e => by cases e))
 simpa using this
set_option maxRecDepth 100000 in
set_option maxHeartbeats 2000000 in
theorem z3u (F : Fence) (n : Nat) (h11 : F.fn 334) (h330 : F.fn 330) (hro : F.round = none) (hn : 3 ≤ n) (a : Addr) (A : Option Addr) (cap : Nat) (zs : List Int) (hz : zs.length ≤ 1048576) (w : World) (hB : a.block < w.heap.size)
 (hc : w.cell? a = some (.slice A zs.length cap)) (hA : (∃ b, A = some b ∧ ∀ j, j < zs.length → b.block < w.heap.size ∧ w.cell? (b.add j) = some (.int .i64 (zs[j]?.getD 0))) ∨ (A = none ∧ zs = [])) :
 CallsIn F n Tryz.prog 334 #[.slice none 0 0, .func (.func 330) #[] #[.pointer (some a)]] w fun e w' => ∃ (v : Value), e = .returned v ∧ w'.ownsRow w.heap.size 2 1 v zs.length (zs.map (Value.int .i64)) ∧ Below w.heap.size w w' := by
 have h1 : 1 ≤ n := by omega
 refine callsIn_of_wp_marks Tryz.func334 rfl h11 ?_ hro
 simp only [Tryz.ntmps334, List.size_toArray, List.length_cons, List.length_nil, Nat.reduceAdd, Nat.reduceSub, Array.replicate_succ, Array.replicate_zero, List.push_toArray, List.append_toArray, List.nil_append, List.cons_append]
 gi_wp2
 refine wpIn_rangeFunc ?_
 intro fn hfn
 rw [hro]
 obtain ⟨W0, hW0⟩ : ∃ W0, w.alloc (.cells #[.slice none 0 0] 66) = W0 := ⟨_, rfl⟩
 have hs0 : W0.heap.size = w.heap.size + 1 := by rw [← hW0]; simp
 have hv0 : W0.heap[w.heap.size]? = some (.cells #[.slice none 0 0] 66 (0, 0)) := by rw [← hW0]; exact World.alloc_heap_new w _
 have hb0 : Below w.heap.size w W0 := by rw [← hW0]; exact (Below.refl _ w).alloc (Nat.le_refl _) _
 rw [hW0]
 obtain ⟨sv, hsv⟩ : ∃ sv, sv = Value.func (.func 330) #[] #[.pointer (some a)] := ⟨_, rfl⟩
 obtain ⟨W1, hW1⟩ : ∃ W1, (W0.alloc (.deferred (some []))).alloc (.loop (q2b fn (Value.func (.func 330) #[] #[.pointer (some a)]) w.heap.size W0.heap.size .ready none)) = W1 := ⟨_, rfl⟩
 have hold : ∀ k, k < W0.heap.size → W1.heap[k]? = W0.heap[k]? := fun k hk => by
  rw [← hW1]; exact (Below.heap_alloc _ _ k (by simp; omega)).trans (Below.heap_alloc _ _ k hk)
 have hb1 : Below w.heap.size w W1 := by rw [← hW1]; exact (hb0.alloc hb0.size _).alloc (by have := hb0.size; simp; omega) _
 have hs1 : W1.heap.size = W0.heap.size + 2 := by rw [← hW1]; simp
 have hM : z9d w fn (.func (.func 330) #[] #[.pointer (some a)]) w.heap.size (W0.heap.size + 1) W0.heap.size [] W1 :=
  ⟨⟨_, (hold w.heap.size (by omega)).trans hv0, ⟨rfl, .inl ⟨rfl, rfl⟩⟩, by simp⟩,
   by rw [← hW1]; have := World.alloc_heap_new (W0.alloc (.deferred (some []))) (.loop (q2b fn (.func (.func 330) #[] #[.pointer (some a)]) w.heap.size W0.heap.size .ready none)); rwa [World.size_alloc] at this,
   by rw [← hW1]; exact (Below.heap_alloc _ _ _ (by simp)).trans (World.alloc_heap_new W0 _), hb1⟩
 refine ⟨W0.heap.size + 1, [{ target := .collected W0.heap.size, args := #[] }], W1, { target := .fn (.func 330) #[.pointer (some a)], args := #[.func (.yield (W0.heap.size + 1)) #[] #[]] }, W1, 330,
  #[.func (.yield (W0.heap.size + 1)) #[] #[], .pointer (some a)], W1, ?_, ?_, ?_, ?_, fun _ => h1, ?_⟩
 · rw [← hW1]; exact run_enterLoop_outer _ _ _ _ _
 · simp [resolve, go_sem]
 · intro f' hf'; simp [Target.leads] at hf'; subst hf'; exact h330
 · simp [invoke, go_sem, enters_of Tryz.func330 (by kernel_rfl) rfl]
 · refine (z98 F (n - 1) h330 hro (by omega) (W0.heap.size + 1) w.heap.size a A cap zs w (z9d w fn (.func (.func 330) #[] #[.pointer (some a)]) w.heap.size (W0.heap.size + 1) W0.heap.size)
    (fun pre W hJ => hJ.below) hB hc hz hA
    (fun pre x W hJ hl => q83 F (n - 1 - 1) w fn hfn _ w.heap.size (W0.heap.size + 1) W0.heap.size (by omega) (by omega) (by omega) (Nat.le_refl _) (by omega) zs.length (by unfold maxLen; omega) (by omega) pre x W hJ hl) W1 hM).mono ?_
   rintro e W2 ⟨⟨v0, rfl⟩, h2⟩
   obtain ⟨v, hv, hrow, hnil⟩ := h2.box
   have hend := run_endLoop (P := Tryz.prog) h2.L (by simp [q2b])
   obtain ⟨W3, hW3⟩ : ∃ W3, W2.putObj (W0.heap.size + 1) (.loop { q2b fn (.func (.func 330) #[] #[.pointer (some a)]) w.heap.size W0.heap.size .ready none with state := .exhausted }) = W3 := ⟨_, rfl⟩
   rw [hW3] at hend
   have hg3 : W2.grownBy W3 (some (W0.heap.size + 1)) := by rw [← hW3]; exact qt _ _ _
   have hv3 : W3.heap[w.heap.size]? = some (.cells #[v] 66 (0, 0)) := by rw [← hW3]; exact (World.putObj_heap_other (by omega)).trans hv
   have hK3 : W3.heap[W0.heap.size]? = some (.deferred (some [])) := by rw [← hW3]; exact (World.putObj_heap_other (by omega)).trans h2.K
   have hrow3 := hrow.kept hg3 (z08 hrow h2.L (fun cur e => by cases e))
   have hb3 : Below w.heap.size w W3 := h2.below.grown hg3 h2.below.size (fun k e => by cases e; omega)
   obtain ⟨hc3, hf3⟩ := q0k hv3
   clear hW3
   refine ⟨none, W3, hend, ?_⟩
   gi_wp2
   rw [← hs0]
   refine ⟨by simp, .inl ⟨_, _, rfl, run_takeDeferred hK3, ?_⟩⟩
   exact ⟨_, results_tmp rfl _ _ _, v, rfl, hrow3.kept (qt _ _ _) (z08 hrow3 hK3 (fun cur e => by cases e)), hb3.grown (qt _ _ _) hb3.size (fun k e => by cases e; omega)⟩
set_option maxHeartbeats 1000000 in
theorem y5g (F : Fence) (n : Nat) (h8 : F.fn 329) (h11 : F.fn 334) (h330 : F.fn 330) (hro : F.round = none) (hn : 4 ≤ n) (a : Addr) (A : Option Addr) (cap : Nat) (zs : List Int) (hz : zs.length ≤ 1048576) (w : World) (hB : a.block < w.heap.size)
 (hc : w.cell? a = some (.slice A zs.length cap)) (hA : (∃ b, A = some b ∧ ∀ j, j < zs.length → b.block < w.heap.size ∧ w.cell? (b.add j) = some (.int .i64 (zs[j]?.getD 0))) ∨ (A = none ∧ zs = [])) :
 CallsIn F n Tryz.prog 329 #[.func (.func 330) #[] #[.pointer (some a)]] w fun e w' => ∃ (v : Value), e = .returned v ∧ w'.ownsRow w.heap.size 2 1 v zs.length (zs.map (Value.int .i64)) ∧ Below w.heap.size w w' := by
 have h1 : 1 ≤ n := by omega
 refine callsIn_of_wp Tryz.func329 rfl h8 ?_ hro
 simp only [Tryz.ntmps329, List.size_toArray, List.length_cons, List.length_nil, Nat.reduceAdd, Nat.reduceSub, Array.replicate_succ, Array.replicate_zero, List.push_toArray, List.append_toArray, List.nil_append, List.cons_append]
 gi_wp2_with (gi_at_call 334; refine (z3u F (n - 1) h11 h330 hro (by omega) a A cap zs hz _ hB hc hA).mono ?_; rintro e w' ⟨v, rfl, hrow, hb⟩)
 go_ret
 exact ⟨v, rfl, hrow, hb⟩
theorem z9r {w : World} {N : Nat → Prop} {u v : Value} (h : Rep w N (.s v) u) : u = v := by cases h; rfl
theorem z3m {W : World} {base base' : Nat} {e : TypeId} {size : Nat} {v : Value} {k : Nat} {xs : List Value} (h : W.ownsRow base e size v k xs) (hb : base' ≤ base) : W.ownsRow base' e size v k xs := by
 refine ⟨h.1, ?_⟩
 rcases h.2 with hn | ⟨g, cap, cur, hv, hbg, rest⟩
 · exact .inl hn
 · exact .inr ⟨g, cap, cur, hv, Nat.le_trans hb hbg, rest⟩
theorem q5g (us : List Int) (hu : us.length ≤ 1048576) : PC Tryz.prog 329 [.one (.f 330 [.p [.l (ints us)]])] (.one (.own false [.l 1 (ints us)])) := by
 refine ⟨by kernel_rfl, fun N w vals hargs => ?_⟩
 obtain ⟨hsz, hr⟩ := hargs
 obtain ⟨v0, rfl⟩ : ∃ v0, vals = #[v0] := by
  match vals, hsz with
  | ⟨[v0]⟩, _ => exact ⟨v0, rfl⟩
 have h0 : Rep w N (.f 330 [.p [.l (ints us)]]) v0 := hr 0 _ _ rfl rfl
 obtain ⟨a, A, cap, rfl, hB, hc, hA⟩ : ∃ (a : Addr) (A : Option Addr) (cap : Nat), v0 = .func (.func 330) #[] #[.pointer (some a)] ∧ a.block < w.heap.size ∧ w.cell? a = some (.slice A us.length cap) ∧
  ((∃ b, A = some b ∧ ∀ j, j < us.length → b.block < w.heap.size ∧ w.cell? (b.add j) = some (.int .i64 (us[j]?.getD 0))) ∨ (A = none ∧ us = [])) := by
  cases h0 with
  | f _ _ vs hs hv =>
    obtain ⟨u0, rfl⟩ : ∃ u0, vs = #[u0] := by
     match vs, hs with
     | ⟨[u0]⟩, _ => exact ⟨u0, rfl⟩
    have h1 : Rep w N (.p [.l (ints us)]) u0 := hv 0 _ _ rfl rfl
    cases h1 with
    | p _ a u hm hq =>
      have h2 := hm 0 (by simp)
      have h3 : Rep w N (.l (ints us)) (u 0) := hq 0 _ rfl
      have ha0 : a.add 0 = a := by obtain ⟨g, o, sp⟩ := a; unfold Addr.add; cases sp <;> simp
      rw [ha0] at h2
      have hlt : a.block < w.heap.size := World.block_lt_of_cell? w _ h2.2
      generalize u 0 = x at h2 h3
      generalize hrr : ints us = rr at h3
      cases h3 with
      | l sz _ A cap ux hz hcap hn hmm hrx =>
        have hlen : rr.length = us.length := by rw [← hrr]; simp
        refine ⟨a, A, cap, rfl, hlt, by rw [h2.2, hlen], ?_⟩
        cases A with
        | none =>
          have := hn rfl
          rw [this] at hlen
          exact .inr ⟨rfl, List.eq_nil_of_length_eq_zero hlen.symm⟩
        | some b =>
          refine .inl ⟨b, rfl, fun j hj => ?_⟩
          have hrow : rr[j]? = some [i64 us[j]] := by rw [← hrr]; simp [ints, hj]
          have hs1 : sz = 1 := (hz _ (List.mem_of_getElem? hrow)).symm
          subst hs1
          obtain ⟨b', hb', _, hcell⟩ := hmm j 0 (by omega) (by omega)
          cases hb'
          have hx := z9r (hrx j 0 _ _ hrow rfl)
          rw [hx, Nat.mul_one, Nat.add_zero] at hcell
          have hbl := World.block_lt_of_cell? w _ hcell
          rw [z04] at hbl
          exact ⟨hbl, by rw [hcell]; simp [hj]⟩
 refine (callsIn_wide.1 (y5g Fence.wide 4 trivial trivial trivial rfl (Nat.le_refl _) a A cap us hu w hB hc hA)).mono ?_
 rintro e w' ⟨v, rfl, hrow, hb⟩
 refine ⟨v, fun x => w.heap.size ≤ x ∧ x < w'.heap.size, rfl, zo.y7e hb, ⟨#[v], fun k x => k = 0 ∧ w.heap.size ≤ x ∧ x < w'.heap.size, rfl, rfl, fun k x hx => hx.2, fun k k' x hx hx' => by rw [hx.1, hx'.1], fun k c u hc hu' => ?_⟩, fun x hx => hx⟩
 cases k with
 | succ k => simp at hc
 | zero =>
   cases hc
   cases hu'
   refine ⟨1, fun _ => rfl, .inr ⟨2, us.map (Value.int .i64), fun j _ => .int .i64 (us[j]?.getD 0), fun _ _ _ => False, ?_, fun g hg => ⟨rfl, hrow.lt g hg⟩, fun row hrow => ?_, fun _ _ _ h => h.elim, fun _ _ _ _ _ h => h.elim, fun j k hj hk => ?_, fun j k row c hj hk => ?_⟩⟩
   · have := z3m hrow (Nat.zero_le _)
     simpa [ints] using this
   · simp [ints] at hrow
     obtain ⟨_, _, rfl⟩ := hrow; rfl
   · have hj : j < us.length := by simpa [ints] using hj
     have : k = 0 := by omega
     subst this
     simp [hj]
   · have hjl : j < us.length := by have := (List.getElem?_eq_some_iff.1 hj).1; simpa [ints] using this
     have : row = [i64 us[j]] := by simp [ints, hjl] at hj; exact hj.symm
     subst this
     cases k with
     | succ k => simp at hk
     | zero =>
       cases hk
       simp only [hjl, getElem?_pos, Option.getD_some]
       exact .s _ _ rfl
set_option maxHeartbeats 1000000 in
theorem q6y (A : Option Addr) (len cap : Nat) (w : World) :
 CallsIn Fence.wide 1 Tryz.prog 310 #[.slice A len cap] w fun e w' => e = .returned (.func (.func 330) #[] #[.pointer (some ⟨w.heap.size, 0, none⟩)]) ∧ w' = w.alloc (.cells #[.slice A len cap] 66) := by
 refine callsIn_of_wp Tryz.func310 rfl trivial ?_ rfl
 simp only [Tryz.ntmps310, List.size_toArray, List.length_cons, List.length_nil, Nat.reduceAdd, Nat.reduceSub, Array.replicate_succ, Array.replicate_zero, List.push_toArray, List.append_toArray, List.nil_append, List.cons_append]
 gi_wp2
 go_ret
 exact ⟨rfl, rfl⟩
theorem z6z (rows : List (List Cell)) : PC Tryz.prog 310 [.one (.l rows)] (.one (.bor false [.f 330 [.p [.l rows]]])) := by
 refine ⟨by kernel_rfl, fun N w vals hargs => ?_⟩
 obtain ⟨hsz, hr⟩ := hargs
 obtain ⟨v0, rfl⟩ : ∃ v0, vals = #[v0] := by
  match vals, hsz with
  | ⟨[v0]⟩, _ => exact ⟨v0, rfl⟩
 have h0 : Rep w N (.l rows) v0 := hr 0 _ _ rfl rfl
 obtain ⟨A, len, cap, rfl⟩ : ∃ A len cap, v0 = .slice A len cap := by cases h0; exact ⟨_, _, _, rfl⟩
 refine (callsIn_wide.1 (q6y A len cap w)).mono ?_
 rintro e w' ⟨rfl, rfl⟩
 refine ⟨_, fun _ => False, rfl, zo.alloc w _ _, ⟨#[_], rfl, rfl, fun k c u hc hu => ?_⟩, fun x hx => hx.elim⟩
 cases k with
 | succ k => simp at hc
 | zero =>
   cases hc
   cases hu
   refine .f _ _ _ rfl (fun k c v hc hv => ?_)
   cases k with
   | succ k => simp at hc
   | zero =>
     cases hc
     cases hv
     refine .p _ _ (fun _ => .slice A len cap) (fun k hk => ⟨⟨.inr (Nat.le_refl _), fun h => h⟩, ?_⟩) (fun k c hc => ?_)
     · have : k = 0 := by simpa using hk
       subst this
       rw [add_plain]
       exact (q0k (World.alloc_heap_new w _)).1
     · cases k with
       | succ k => simp at hc
       | zero =>
         cases hc
         exact Rep.move h0 (fun x hx hN => ⟨⟨.inl hN, fun h => h⟩, Below.heap_alloc w _ x hx⟩)
end Go.Proofs.YthljegacamgnnaaGreat
end
section
namespace Go.Proofs.YthljegacamgnnaaGreat
open Go Go.Sx
set_option maxRecDepth 20000
set_option maxHeartbeats 4000000
theorem zh (n lo hi : Int) : PC Tryz.prog 56 [.one (i64 n), .one (i64 lo), .one (i64 hi)] (rB (within n lo hi)) := by
 refine PC.begin Tryz.func56 rfl (by kernel_rfl) ?_
 refine xb rfl (fun b0 => ?_) (fun b0 => ?_)
 refine xj (k := 3) rfl ?_
 refine xr rfl (z6 rfl ⟨⟨rfl, ?_, trivial⟩, z1 rfl⟩)
 rotate_left
 refine xj (k := 3) rfl ?_
 refine xr rfl (z6 rfl ⟨⟨rfl, ?_, trivial⟩, z1 rfl⟩)
 rotate_left
 all_goals (refine vb ?_; (simp_all [within] <;> omega))
theorem qj (n lo hi : Int) : PC Tryz.prog 123 [.one (i64 n), .one (i64 lo), .one (i64 hi)] (rB (within n lo hi)) := by
 refine PC.begin Tryz.func123 rfl (by kernel_rfl) ?_
 refine xb rfl (fun b0 => ?_) (fun b0 => ?_)
 refine xj (k := 3) rfl ?_
 refine xr rfl (z6 rfl ⟨⟨rfl, ?_, trivial⟩, z1 rfl⟩)
 rotate_left
 refine xj (k := 3) rfl ?_
 refine xr rfl (z6 rfl ⟨⟨rfl, ?_, trivial⟩, z1 rfl⟩)
 rotate_left
 all_goals (refine vb ?_; (simp_all [within] <;> omega))
theorem z1u (n : Int) : PC Tryz.prog 258 [.one (i64 n)] (rB (within n 0 2)) := by
 refine PC.begin Tryz.func258 rfl (by kernel_rfl) ?_
 refine z2 rfl (qj _ _ _) rfl ⟨trivial, trivial, trivial, trivial⟩ ?_
 refine xr rfl (z6 rfl ⟨⟨rfl, rfl, trivial⟩, z1 rfl⟩)
theorem q5l (n : Int) : PC Tryz.prog 65 [.one (i64 n)] (rB (within n 0 2)) := by
 refine PC.begin Tryz.func65 rfl (by kernel_rfl) ?_
 refine z2 rfl (qj _ _ _) rfl ⟨trivial, trivial, trivial, trivial⟩ ?_
 refine xr rfl (z6 rfl ⟨⟨rfl, rfl, trivial⟩, z1 rfl⟩)
theorem q3i (n : Int) : PC Tryz.prog 251 [.one (i64 n)] (rB (within n 1 1000000000)) := by
 refine PC.begin Tryz.func251 rfl (by kernel_rfl) ?_
 refine z2 rfl (qj _ _ _) rfl ⟨trivial, trivial, trivial, trivial⟩ ?_
 refine xr rfl (z6 rfl ⟨⟨rfl, rfl, trivial⟩, z1 rfl⟩)
theorem z3j (n : Int) : PC Tryz.prog 238 [.one (i64 n)] (rB (within n 1 1000000000)) := by
 refine PC.begin Tryz.func238 rfl (by kernel_rfl) ?_
 refine z2 rfl (zh _ _ _) rfl ⟨trivial, trivial, trivial, trivial⟩ ?_
 refine xr rfl (z6 rfl ⟨⟨rfl, rfl, trivial⟩, z1 rfl⟩)
theorem q1t (a b : Int) : PC Tryz.prog 89 [.one (i64 a), .one (i64 b)] (rB (within a 0 5 && within b 0 2)) := by
 refine PC.begin Tryz.func89 rfl (by kernel_rfl) ?_
 refine z2 rfl (qj _ _ _) rfl ⟨trivial, trivial, trivial, trivial⟩ ?_
 refine xb rfl (fun b0 => ?_) (fun b0 => ?_)
 refine xj (k := 1) rfl ?_
 refine z2 rfl (q5l _) rfl ⟨trivial, trivial⟩ ?_
 refine xj (k := 1) rfl ?_
 refine xr rfl (z6 rfl ⟨⟨rfl, ?_, trivial⟩, z1 rfl⟩)
 rotate_left
 refine xj (k := 2) rfl ?_
 refine xr rfl (z6 rfl ⟨⟨rfl, ?_, trivial⟩, z1 rfl⟩)
 rotate_left
 all_goals (refine vb ?_; simp_all)
theorem z57 (a b : Int) : PC Tryz.prog 222 [.one (i64 a), .one (i64 b)] (rB (within a 0 5 && within b 0 2)) := by
 refine PC.begin Tryz.func222 rfl (by kernel_rfl) ?_
 refine z2 rfl (zh _ _ _) rfl ⟨trivial, trivial, trivial, trivial⟩ ?_
 refine xb rfl (fun b0 => ?_) (fun b0 => ?_)
 refine xj (k := 1) rfl ?_
 refine z2 rfl (zh _ _ _) rfl ⟨trivial, trivial, trivial, trivial⟩ ?_
 refine xj (k := 1) rfl ?_
 refine xr rfl (z6 rfl ⟨⟨rfl, ?_, trivial⟩, z1 rfl⟩)
 rotate_left
 refine xj (k := 2) rfl ?_
 refine xr rfl (z6 rfl ⟨⟨rfl, ?_, trivial⟩, z1 rfl⟩)
 rotate_left
 all_goals (refine vb ?_; simp_all)
theorem q48 (l : Leg) : PC Tryz.prog 239 [.agg l.cs] (rI l.fault) := by
 refine PC.begin Tryz.func239 rfl (by kernel_rfl) ?_
 refine z2 rfl (zh _ _ _) rfl ⟨trivial, trivial, trivial, trivial⟩ ?_
 refine xb rfl (fun b0 => ?_) (fun b0 => ?_)
 refine xj (k := 15) rfl ?_
 refine xr rfl (z6 rfl ⟨⟨rfl, ?_, trivial⟩, z1 rfl⟩)
 rotate_left
 refine xj (k := 2) rfl ?_
 refine z2 rfl (zh _ _ _) rfl ⟨trivial, trivial, trivial, trivial⟩ ?_
 refine xj (k := 2) rfl ?_
 refine xb rfl (fun b1 => ?_) (fun b1 => ?_)
 refine xj (k := 10) rfl ?_
 refine xr rfl (z6 rfl ⟨⟨rfl, ?_, trivial⟩, z1 rfl⟩)
 rotate_left
 refine xj (k := 2) rfl ?_
 refine z2 rfl (zh _ _ _) rfl ⟨trivial, trivial, trivial, trivial⟩ ?_
 refine xj (k := 2) rfl ?_
 refine xb rfl (fun b2 => ?_) (fun b2 => ?_)
 refine xj (k := 5) rfl ?_
 refine xr rfl (z6 rfl ⟨⟨rfl, ?_, trivial⟩, z1 rfl⟩)
 rotate_left
 refine xj (k := 2) rfl ?_
 refine z2 rfl (zh _ _ _) rfl ⟨trivial, trivial, trivial, trivial⟩ ?_
 refine xj (k := 2) rfl ?_
 refine xb rfl (fun b3 => ?_) (fun b3 => ?_)
 refine xr rfl (z6 rfl ⟨⟨rfl, ?_, trivial⟩, z1 rfl⟩)
 rotate_left
 refine xb rfl (fun b4 => ?_) (fun b4 => ?_)
 refine xr rfl (z6 rfl ⟨⟨rfl, ?_, trivial⟩, z1 rfl⟩)
 rotate_left
 refine xr rfl (z6 rfl ⟨⟨rfl, ?_, trivial⟩, z1 rfl⟩)
 rotate_left
 all_goals (refine vi ?_; simp_all [Leg.fault, Leg.bad])
theorem z41 (l : Leg) : PC Tryz.prog 253 [.agg l.cs] (rI l.fault) := by
 refine PC.begin Tryz.func253 rfl (by kernel_rfl) ?_
 refine z2 rfl (z1u _) rfl ⟨trivial, trivial⟩ ?_
 refine xb rfl (fun b0 => ?_) (fun b0 => ?_)
 refine xj (k := 12) rfl ?_
 refine xr rfl (z6 rfl ⟨⟨rfl, ?_, trivial⟩, z1 rfl⟩)
 rotate_left
 refine xj (k := 4) rfl ?_
 refine z2 rfl (q1t _ _) rfl ⟨trivial, trivial, trivial⟩ ?_
 refine xj (k := 2) rfl ?_
 refine xb rfl (fun b1 => ?_) (fun b1 => ?_)
 refine xj (k := 5) rfl ?_
 refine xr rfl (z6 rfl ⟨⟨rfl, ?_, trivial⟩, z1 rfl⟩)
 rotate_left
 refine xj (k := 2) rfl ?_
 refine z2 rfl (qj _ _ _) rfl ⟨trivial, trivial, trivial, trivial⟩ ?_
 refine xj (k := 2) rfl ?_
 refine xb rfl (fun b2 => ?_) (fun b2 => ?_)
 refine xr rfl (z6 rfl ⟨⟨rfl, ?_, trivial⟩, z1 rfl⟩)
 rotate_left
 refine xb rfl (fun b3 => ?_) (fun b3 => ?_)
 refine xr rfl (z6 rfl ⟨⟨rfl, ?_, trivial⟩, z1 rfl⟩)
 rotate_left
 refine xr rfl (z6 rfl ⟨⟨rfl, ?_, trivial⟩, z1 rfl⟩)
 rotate_left
 all_goals (refine vi ?_; simp_all [Leg.fault, Leg.bad])
theorem q5s (rr : List (List Cell)) : PC Tryz.prog 252 [.one (.l rr)] (rI rr.length) := by
 refine PC.begin Tryz.func252 rfl (by kernel_rfl) ?_
 refine xr rfl (z6 rfl ⟨⟨rfl, rfl, trivial⟩, z1 rfl⟩)
theorem z21 (l m : Leg) : PC Tryz.prog 256 [.agg l.cs, .agg m.cs] (rB (l.same m)) := by
 refine PC.begin Tryz.func256 rfl (by kernel_rfl) ?_
 refine xb rfl (fun b0 => ?_) (fun b0 => ?_)
 refine xj (k := 5) rfl ?_
 refine xb rfl (fun b1 => ?_) (fun b1 => ?_)
 refine xj (k := 5) rfl ?_
 refine xr rfl (z6 rfl ⟨⟨rfl, ?_, trivial⟩, z1 rfl⟩)
 rotate_left
 refine xj (k := 5) rfl ?_
 refine xr rfl (z6 rfl ⟨⟨rfl, ?_, trivial⟩, z1 rfl⟩)
 rotate_left
 refine xj (k := 11) rfl ?_
 refine xr rfl (z6 rfl ⟨⟨rfl, ?_, trivial⟩, z1 rfl⟩)
 rotate_left
 all_goals (refine vb ?_; simp_all [Leg.same])
theorem y56 (n : Int) : PC Tryz.prog 321 [.one (i64 n)] (rB false) := by
 refine PC.begin Tryz.func321 rfl (by kernel_rfl) ?_
 refine xr rfl (z6 rfl ⟨⟨rfl, ?_, trivial⟩, z1 rfl⟩)
 all_goals (refine vb ?_; simp_all)
theorem zp (a b : Int) : PC Tryz.prog 285 [.one (i64 a), .one (i64 b)] (rI (z0a a b)) := by
 refine PC.begin Tryz.func285 rfl (by kernel_rfl) ?_
 refine z2 rfl (y56 _) rfl ⟨trivial, trivial⟩ ?_
 refine z2 rfl (y56 _) rfl ⟨trivial, trivial⟩ ?_
 refine xj (k := 2) rfl ?_
 refine xb rfl (fun b0 => ?_) (fun b0 => ?_)
 refine xr rfl (z6 rfl ⟨⟨rfl, ?_, trivial⟩, z1 rfl⟩)
 rotate_left
 refine xb rfl (fun b1 => ?_) (fun b1 => ?_)
 refine xr rfl (z6 rfl ⟨⟨rfl, ?_, trivial⟩, z1 rfl⟩)
 rotate_left
 refine xr rfl (z6 rfl ⟨⟨rfl, ?_, trivial⟩, z1 rfl⟩)
 rotate_left
 all_goals (refine vi ?_; simp_all [z0a] <;> omega)
theorem y7f (us : List Int) (hl : us.length ≤ 1048576) : PC Tryz.prog 286 [.one (.l (ints us))] (rI (orr us)) := by
 refine PC.begin Tryz.func286 rfl (by kernel_rfl) ?_
 have hn : (ints us).length = us.length := by simp
 refine zc rfl (ι := Nat) (fun i => i ≤ us.length ∧ ∀ j y, j < i → us[j]? = some y → y = 0) (fun i => ⟨[(8, sV (.int .i64 i)), (7, sV (.int .i64 (ints us).length)), (6, .one (.b (.l (ints us)))), (3, sV (.int .i64 0))], []⟩) (fun i => us.length - i) 0 ⟨Nat.zero_le _, fun j y hj => by omega⟩ ?_ ?_
 · exact ⟨⟨rfl, rfl, rfl, rfl, trivial⟩, trivial, rfl⟩
 · intro i ⟨hi, h0⟩ J hJ
   refine xb rfl (fun h => ?_) (fun h => ?_)
   · have h : i < us.length := by simpa using h
     obtain ⟨x, hx⟩ := gx h
     have hg := gm (fun n => [i64 n]) hx
     refine xs rfl (Int.natCast_nonneg _) ?_
     refine za rfl _ hg ?_
     refine xs rfl rfl ?_
     refine xb rfl (fun b0 => ?_) (fun b0 => ?_)
     refine xr rfl (z6 rfl ⟨⟨rfl, ?_, trivial⟩, z1 rfl⟩)
     rotate_left
     rotate_left
     · exact vi (z4s hx h0 (by simpa using b0)).symm
     · exact q9 rfl (hJ _ (i + 1) ⟨by omega, qc hx h0 (by simpa using b0)⟩ (by omega) ⟨⟨cwi (by omega) (by omega) (by omega), rfl, rfl, rfl, trivial⟩, trivial, rfl⟩)
   · have h : ¬ i < us.length := by simpa using h
     refine xr rfl (z6 rfl ⟨⟨rfl, ?_, trivial⟩, z1 rfl⟩)
     exact vi (q3l (qg (by omega) h0)).symm
theorem z1s (us : List Int) (hl : us.length ≤ 1048576) : PC Tryz.prog 128 [.one (.l (ints us))] (rI (orr us)) := by
 refine PC.begin Tryz.func128 rfl (by kernel_rfl) ?_
 have hn : (ints us).length = us.length := by simp
 refine zc rfl (ι := Nat) (fun i => i ≤ us.length ∧ ∀ j y, j < i → us[j]? = some y → y = 0) (fun i => ⟨[(7, sV (.int .i64 i)), (6, sV (.int .i64 (ints us).length)), (5, .one (.b (.l (ints us))))], []⟩) (fun i => us.length - i) 0 ⟨Nat.zero_le _, fun j y hj => by omega⟩ ?_ ?_
 · exact ⟨⟨rfl, rfl, rfl, trivial⟩, trivial, rfl⟩
 · intro i ⟨hi, h0⟩ J hJ
   refine xb rfl (fun h => ?_) (fun h => ?_)
   · have h : i < us.length := by simpa using h
     obtain ⟨x, hx⟩ := gx h
     have hg := gm (fun n => [i64 n]) hx
     refine xs rfl (Int.natCast_nonneg _) ?_
     refine za rfl _ hg ?_
     refine xs rfl rfl ?_
     refine xb rfl (fun b0 => ?_) (fun b0 => ?_)
     refine xr rfl (z6 rfl ⟨⟨rfl, ?_, trivial⟩, z1 rfl⟩)
     rotate_left
     rotate_left
     · exact vi (z4s hx h0 (by simpa using b0)).symm
     · exact q9 rfl (hJ _ (i + 1) ⟨by omega, qc hx h0 (by simpa using b0)⟩ (by omega) ⟨⟨cwi (by omega) (by omega) (by omega), rfl, rfl, trivial⟩, trivial, rfl⟩)
   · have h : ¬ i < us.length := by simpa using h
     refine xr rfl (z6 rfl ⟨⟨rfl, ?_, trivial⟩, z1 rfl⟩)
     exact vi (q3l (qg (by omega) h0)).symm
theorem y8n (us : List Bal) (a b : Int) (hl : us.length ≤ 1048576) : PC Tryz.prog 150 [.one (.l (us.map Bal.cs)), .one (i64 a), .one (i64 b)] (rI (hasB us a b)) := by
 refine PC.begin Tryz.func150 rfl (by kernel_rfl) ?_
 refine zc rfl (ι := Nat) (fun i => i ≤ us.length ∧ ∀ j y, j < i → us[j]? = some y → ¬ (y.a = a ∧ y.b = b)) (fun i => ⟨[(7, sV (.int .i64 i)), (0, .one (.b (.l (us.map Bal.cs)))), (1, sV (.int .i64 a)), (2, sV (.int .i64 b))], []⟩) (fun i => us.length - i) 0 ⟨Nat.zero_le _, fun j y hj => by omega⟩ ?_ ?_
 · exact ⟨⟨rfl, rfl, rfl, rfl, trivial⟩, trivial, rfl⟩
 · intro i ⟨hi, h0⟩ J hJ
   refine xb rfl (fun h => ?_) (fun h => ?_)
   · have h : i < us.length := by simpa using h
     obtain ⟨x, hx⟩ := gx h
     have hg := gm Bal.cs hx
     refine xs rfl (Int.natCast_nonneg _) ?_
     refine za rfl _ hg ?_
     refine xs rfl rfl ?_
     refine xb rfl (fun b0 => ?_) (fun b0 => ?_)
     refine xj (k := 2) rfl ?_
     refine xs rfl (Int.natCast_nonneg _) ?_
     refine za rfl _ hg ?_
     refine xs rfl rfl ?_
     refine xj (k := 5) rfl ?_
     refine xb rfl (fun b1 => ?_) (fun b1 => ?_)
     refine xs rfl (Int.natCast_nonneg _) ?_
     refine za rfl _ hg ?_
     refine xs rfl rfl ?_
     refine xr rfl (z6 rfl ⟨⟨rfl, ?_, trivial⟩, z1 rfl⟩)
     rotate_left
     rotate_left
     refine xj (k := 8) rfl ?_
     rotate_left
     · exact vi (q3g hx h0 (by simp_all)).symm
     · exact q9 rfl (hJ _ (i + 1) ⟨by omega, qc hx h0 (by simp_all)⟩ (by omega) ⟨⟨cwi (by omega) (by omega) (by omega), rfl, rfl, rfl, trivial⟩, trivial, rfl⟩)
     · exact q9 rfl (hJ _ (i + 1) ⟨by omega, qc hx h0 (by simp_all)⟩ (by omega) ⟨⟨cwi (by omega) (by omega) (by omega), rfl, rfl, rfl, trivial⟩, trivial, rfl⟩)
   · have h : ¬ i < us.length := by simpa using h
     refine xr rfl (z6 rfl ⟨⟨rfl, ?_, trivial⟩, z1 rfl⟩)
     exact vi (z2h (qg (by omega) h0)).symm
end Go.Proofs.YthljegacamgnnaaGreat
end
section
namespace Go.Proofs.YthljegacamgnnaaGreat
open Go Go.Sx
set_option maxRecDepth 20000
set_option maxHeartbeats 4000000
theorem y85 (us : List Mk) (f : Mk → Int) (fn : Nat) (t : Int) (hf : ∀ x ∈ us, PC Tryz.prog fn [.agg x.cs, .one (i64 t)] (rI (f x))) (hl : us.length ≤ 1048576) : PC Tryz.prog 283 [.one (.l (us.map Mk.cs)), .one (i64 t), .one (.f fn [])] (bsV f us) := by
 refine PC.begin Tryz.func283 rfl (by kernel_rfl) ?_
 have hn : (us.map Mk.cs).length = us.length := by simp
 refine zc rfl (ι := Nat × Nat) (fun x => x.1 ≤ x.2 ∧ x.2 ≤ us.length ∧ bsr (bsC f us) x.1 x.2 = bsP f us) (fun x => ⟨[(9, sV (.int .i64 x.1)), (10, sV (.int .i64 x.2)), (8, sV (.int .i64 (us.map Mk.cs).length)), (0, .one (.b (.l (us.map Mk.cs)))), (1, sV (.int .i64 t)), (2, .one (.b (.f fn [])))], []⟩) (fun x => x.2 - x.1) (0, us.length) ⟨Nat.zero_le _, Nat.le_refl _, rfl⟩ ?_ ?_
 · exact ⟨⟨rfl, ci (by simp), rfl, rfl, rfl, rfl, trivial⟩, trivial, rfl⟩
 · intro ⟨i, j⟩ ⟨hij, hj, he⟩ J hJ
   dsimp only at hij hj he ⊢
   refine xb rfl (fun h => ?_) (fun h => ?_)
   · have h : i < j := by simpa using h
     obtain ⟨x, hx⟩ := gx (xs := us) (i := (i + j) / 2) (by omega)
     have hg := z89 Mk.cs (i := i) (j := j) (by omega) (by omega) hx
     have hxm := List.mem_of_getElem? hx
     have hc := q27 (f := f) hx
     refine xs rfl (Int.natCast_nonneg _) ?_
     refine xs rfl (q88 (by omega) (by omega)) ?_
     refine za rfl _ hg ?_
     refine xs rfl rfl ?_
     refine z2 rfl (hf _ hxm) rfl ⟨⟨trivial, trivial, trivial⟩, trivial, trivial⟩ ?_
     refine xb rfl (fun b0 => ?_) (fun b0 => ?_)
     rotate_left
     rotate_left
     · refine q9 rfl (hJ _ ((i + j) / 2 + 1, j) ⟨by dsimp only; omega, hj, ?_⟩ (by dsimp only; omega) ⟨⟨?_, rfl, rfl, rfl, rfl, rfl, trivial⟩, trivial, rfl⟩)
       · rw [← he, z64 h (hc.trans b0)]
       · rw [half (by omega) (by omega)]; exact cwi (by omega) (by omega) (by omega)
     · refine q9 rfl (hJ _ (i, (i + j) / 2) ⟨by dsimp only; omega, by dsimp only; omega, ?_⟩ (by dsimp only; omega) ⟨⟨rfl, ci (half (by omega) (by omega)), rfl, rfl, rfl, rfl, trivial⟩, trivial, rfl⟩)
       rw [← he, q63 h (hc.trans b0)]
   · have h : ¬ i < j := by simpa using h
     rw [y4j h] at he
     by_cases hin : i < us.length
     · obtain ⟨x, hx⟩ := gx hin
       have hg := gm Mk.cs hx
       have hxm := List.mem_of_getElem? hx
       have hF := z28 he.symm hx
       refine xb rfl (fun b0 => ?_) (fun b0 => ?_)
       refine xj (k := 3) rfl ?_
       refine xs rfl (Int.natCast_nonneg _) ?_
       refine za rfl _ hg ?_
       refine xs rfl rfl ?_
       refine xj (k := 3) rfl ?_
       refine z2 rfl (hf _ hxm) rfl ⟨⟨trivial, trivial, trivial⟩, trivial, trivial⟩ ?_
       refine xj (k := 2) rfl ?_
       refine xr rfl (z6 rfl ⟨(by decide), ⟨⟨rfl, ?_, trivial⟩, ⟨rfl, ?_, trivial⟩, trivial⟩, z1 rfl⟩)
       rotate_left
       rotate_left
       refine xj (k := 8) rfl ?_
       refine xr rfl (z6 rfl ⟨(by decide), ⟨⟨rfl, ?_, trivial⟩, ⟨rfl, ?_, trivial⟩, trivial⟩, z1 rfl⟩)
       rotate_left
       rotate_left
       all_goals first | (exfalso; simp at b0; omega) | (refine vi ?_; rw [he]; done) | (refine vb ?_; rw [hF]; done)
     · have hF := q3b he.symm (by omega)
       refine xb rfl (fun b0 => ?_) (fun b0 => ?_)
       refine xj (k := 3) rfl ?_
       refine xs rfl (Int.natCast_nonneg _) ?_
       rotate_left
       refine xj (k := 8) rfl ?_
       refine xr rfl (z6 rfl ⟨(by decide), ⟨⟨rfl, ?_, trivial⟩, ⟨rfl, ?_, trivial⟩, trivial⟩, z1 rfl⟩)
       rotate_left
       rotate_left
       all_goals first | (exfalso; simp at b0; omega) | (refine vi ?_; rw [he]; done) | (refine vb ?_; rw [hF]; done)
theorem y74 (us : List Con) (f : Con → Int) (fn : Nat) (t : Int) (hf : ∀ x ∈ us, PC Tryz.prog fn [.agg x.cs, .one (i64 t)] (rI (f x))) (hl : us.length ≤ 1048576) : PC Tryz.prog 327 [.one (.l (us.map Con.cs)), .one (i64 t), .one (.f fn [])] (bsV f us) := by
 refine PC.begin Tryz.func327 rfl (by kernel_rfl) ?_
 have hn : (us.map Con.cs).length = us.length := by simp
 refine zc rfl (ι := Nat × Nat) (fun x => x.1 ≤ x.2 ∧ x.2 ≤ us.length ∧ bsr (bsC f us) x.1 x.2 = bsP f us) (fun x => ⟨[(9, sV (.int .i64 x.1)), (10, sV (.int .i64 x.2)), (8, sV (.int .i64 (us.map Con.cs).length)), (0, .one (.b (.l (us.map Con.cs)))), (1, sV (.int .i64 t)), (2, .one (.b (.f fn [])))], []⟩) (fun x => x.2 - x.1) (0, us.length) ⟨Nat.zero_le _, Nat.le_refl _, rfl⟩ ?_ ?_
 · exact ⟨⟨rfl, ci (by simp), rfl, rfl, rfl, rfl, trivial⟩, trivial, rfl⟩
 · intro ⟨i, j⟩ ⟨hij, hj, he⟩ J hJ
   dsimp only at hij hj he ⊢
   refine xb rfl (fun h => ?_) (fun h => ?_)
   · have h : i < j := by simpa using h
     obtain ⟨x, hx⟩ := gx (xs := us) (i := (i + j) / 2) (by omega)
     have hg := z89 Con.cs (i := i) (j := j) (by omega) (by omega) hx
     have hxm := List.mem_of_getElem? hx
     have hc := q27 (f := f) hx
     refine xs rfl (Int.natCast_nonneg _) ?_
     refine xs rfl (q88 (by omega) (by omega)) ?_
     refine za rfl _ hg ?_
     refine xs rfl rfl ?_
     refine z2 rfl (hf _ hxm) rfl ⟨⟨trivial, trivial, trivial⟩, trivial, trivial⟩ ?_
     refine xb rfl (fun b0 => ?_) (fun b0 => ?_)
     rotate_left
     rotate_left
     · refine q9 rfl (hJ _ ((i + j) / 2 + 1, j) ⟨by dsimp only; omega, hj, ?_⟩ (by dsimp only; omega) ⟨⟨?_, rfl, rfl, rfl, rfl, rfl, trivial⟩, trivial, rfl⟩)
       · rw [← he, z64 h (hc.trans b0)]
       · rw [half (by omega) (by omega)]; exact cwi (by omega) (by omega) (by omega)
     · refine q9 rfl (hJ _ (i, (i + j) / 2) ⟨by dsimp only; omega, by dsimp only; omega, ?_⟩ (by dsimp only; omega) ⟨⟨rfl, ci (half (by omega) (by omega)), rfl, rfl, rfl, rfl, trivial⟩, trivial, rfl⟩)
       rw [← he, q63 h (hc.trans b0)]
   · have h : ¬ i < j := by simpa using h
     rw [y4j h] at he
     by_cases hin : i < us.length
     · obtain ⟨x, hx⟩ := gx hin
       have hg := gm Con.cs hx
       have hxm := List.mem_of_getElem? hx
       have hF := z28 he.symm hx
       refine xb rfl (fun b0 => ?_) (fun b0 => ?_)
       refine xj (k := 3) rfl ?_
       refine xs rfl (Int.natCast_nonneg _) ?_
       refine za rfl _ hg ?_
       refine xs rfl rfl ?_
       refine xj (k := 3) rfl ?_
       refine z2 rfl (hf _ hxm) rfl ⟨⟨trivial, trivial, trivial⟩, trivial, trivial⟩ ?_
       refine xj (k := 2) rfl ?_
       refine xr rfl (z6 rfl ⟨(by decide), ⟨⟨rfl, ?_, trivial⟩, ⟨rfl, ?_, trivial⟩, trivial⟩, z1 rfl⟩)
       rotate_left
       rotate_left
       refine xj (k := 8) rfl ?_
       refine xr rfl (z6 rfl ⟨(by decide), ⟨⟨rfl, ?_, trivial⟩, ⟨rfl, ?_, trivial⟩, trivial⟩, z1 rfl⟩)
       rotate_left
       rotate_left
       all_goals first | (exfalso; simp at b0; omega) | (refine vi ?_; rw [he]; done) | (refine vb ?_; rw [hF]; done)
     · have hF := q3b he.symm (by omega)
       refine xb rfl (fun b0 => ?_) (fun b0 => ?_)
       refine xj (k := 3) rfl ?_
       refine xs rfl (Int.natCast_nonneg _) ?_
       rotate_left
       refine xj (k := 8) rfl ?_
       refine xr rfl (z6 rfl ⟨(by decide), ⟨⟨rfl, ?_, trivial⟩, ⟨rfl, ?_, trivial⟩, trivial⟩, z1 rfl⟩)
       rotate_left
       rotate_left
       all_goals first | (exfalso; simp at b0; omega) | (refine vi ?_; rw [he]; done) | (refine vb ?_; rw [hF]; done)
theorem z74 (us : List Bal) (f : Bal → Int) (fn : Nat) (t : Bal) (hf : ∀ x ∈ us, PC Tryz.prog fn [.agg x.cs, .agg t.cs] (rI (f x))) (hl : us.length ≤ 1048576) : PC Tryz.prog 336 [.one (.l (us.map Bal.cs)), .agg t.cs, .one (.f fn [])] (bsV f us) := by
 refine PC.begin Tryz.func336 rfl (by kernel_rfl) ?_
 have hn : (us.map Bal.cs).length = us.length := by simp
 refine zc rfl (ι := Nat × Nat) (fun x => x.1 ≤ x.2 ∧ x.2 ≤ us.length ∧ bsr (bsC f us) x.1 x.2 = bsP f us) (fun x => ⟨[(9, sV (.int .i64 x.1)), (10, sV (.int .i64 x.2)), (8, sV (.int .i64 (us.map Bal.cs).length)), (0, .one (.b (.l (us.map Bal.cs)))), (4, .one (.a 4 0)), (2, .one (.b (.f fn [])))], [(4, .var (t.cs.map .b))]⟩) (fun x => x.2 - x.1) (0, us.length) ⟨Nat.zero_le _, Nat.le_refl _, rfl⟩ ?_ ?_
 · exact ⟨⟨rfl, ci (by simp), rfl, rfl, ⟨rfl, rfl, rfl⟩, rfl, trivial⟩, ⟨lcr, trivial⟩, rfl⟩
 · intro ⟨i, j⟩ ⟨hij, hj, he⟩ J hJ
   dsimp only at hij hj he ⊢
   refine xb rfl (fun h => ?_) (fun h => ?_)
   · have h : i < j := by simpa using h
     obtain ⟨x, hx⟩ := gx (xs := us) (i := (i + j) / 2) (by omega)
     have hg := z89 Bal.cs (i := i) (j := j) (by omega) (by omega) hx
     have hxm := List.mem_of_getElem? hx
     have hc := q27 (f := f) hx
     refine xs rfl (Int.natCast_nonneg _) ?_
     refine zb rfl [] (.take 0 [] (.take 1 [] (.take 2 [] (.take 3 [] (.take 4 [6, 7] (.take 5 [6, 7] (.alt 6 (.take 7 [] .done) .nil))))))) (by kernel_rfl) ?_
     refine xs rfl (q88 (by omega) (by omega)) ?_
     refine za rfl _ hg ?_
     refine xs rfl rfl ?_
     refine z2 rfl (hf _ hxm) rfl ⟨⟨trivial, trivial, trivial, trivial⟩, ⟨trivial, trivial, trivial, trivial⟩, trivial⟩ ?_
     refine xb rfl (fun b0 => ?_) (fun b0 => ?_)
     rotate_left
     rotate_left
     · refine q9 rfl (hJ _ ((i + j) / 2 + 1, j) ⟨by dsimp only; omega, hj, ?_⟩ (by dsimp only; omega) ⟨⟨?_, rfl, rfl, rfl, ⟨rfl, rfl, rfl⟩, rfl, trivial⟩, ⟨lcr, trivial⟩, rfl⟩)
       · rw [← he, z64 h (hc.trans b0)]
       · rw [half (by omega) (by omega)]; exact cwi (by omega) (by omega) (by omega)
     · refine q9 rfl (hJ _ (i, (i + j) / 2) ⟨by dsimp only; omega, by dsimp only; omega, ?_⟩ (by dsimp only; omega) ⟨⟨rfl, ci (half (by omega) (by omega)), rfl, rfl, ⟨rfl, rfl, rfl⟩, rfl, trivial⟩, ⟨lcr, trivial⟩, rfl⟩)
       rw [← he, q63 h (hc.trans b0)]
   · have h : ¬ i < j := by simpa using h
     rw [y4j h] at he
     by_cases hin : i < us.length
     · obtain ⟨x, hx⟩ := gx hin
       have hg := gm Bal.cs hx
       have hxm := List.mem_of_getElem? hx
       have hF := z28 he.symm hx
       refine zb rfl [] (.take 0 [] (.take 1 [] (.take 2 [] (.take 3 [] (.take 4 [] (.take 5 [] (.take 6 [] (.take 7 [] (.take 8 [] (.take 9 [11, 12, 13, 14, 15] (.take 10 [11, 12, 13, 14, 15] (.alt 11 (.take 12 [] (.take 13 [] (.take 14 [] (.take 15 [] .done)))) .nil)))))))))))) (by kernel_rfl) ?_
       refine xb rfl (fun b0 => ?_) (fun b0 => ?_)
       refine xj (k := 3) rfl ?_
       refine xs rfl (Int.natCast_nonneg _) ?_
       refine za rfl _ hg ?_
       refine xs rfl rfl ?_
       refine xj (k := 3) rfl ?_
       refine z2 rfl (hf _ hxm) rfl ⟨⟨trivial, trivial, trivial, trivial⟩, ⟨trivial, trivial, trivial, trivial⟩, trivial⟩ ?_
       refine xj (k := 2) rfl ?_
       refine xr rfl (z6 rfl ⟨(by decide), ⟨⟨rfl, ?_, trivial⟩, ⟨rfl, ?_, trivial⟩, trivial⟩, z1 rfl⟩)
       rotate_left
       rotate_left
       refine xj (k := 8) rfl ?_
       refine xr rfl (z6 rfl ⟨(by decide), ⟨⟨rfl, ?_, trivial⟩, ⟨rfl, ?_, trivial⟩, trivial⟩, z1 rfl⟩)
       rotate_left
       rotate_left
       all_goals first | (exfalso; simp at b0; omega) | (refine vi ?_; rw [he]; done) | (refine vb ?_; rw [hF]; done)
     · have hF := q3b he.symm (by omega)
       refine zb rfl [] (.take 0 [] (.take 1 [] (.take 2 [] (.take 3 [] (.take 4 [] (.take 5 [] (.take 6 [] (.take 7 [] (.take 8 [] (.take 9 [11, 12, 13, 14, 15] (.take 10 [11, 12, 13, 14, 15] (.alt 11 (.take 12 [] (.take 13 [] (.take 14 [] (.take 15 [] .done)))) .nil)))))))))))) (by kernel_rfl) ?_
       refine xb rfl (fun b0 => ?_) (fun b0 => ?_)
       refine xj (k := 3) rfl ?_
       refine xs rfl (Int.natCast_nonneg _) ?_
       rotate_left
       refine xj (k := 8) rfl ?_
       refine xr rfl (z6 rfl ⟨(by decide), ⟨⟨rfl, ?_, trivial⟩, ⟨rfl, ?_, trivial⟩, trivial⟩, z1 rfl⟩)
       rotate_left
       rotate_left
       all_goals first | (exfalso; simp at b0; omega) | (refine vi ?_; rw [he]; done) | (refine vb ?_; rw [hF]; done)
theorem y8c (rr : List (List Cell)) (us : List Leg) (p : Leg → Bool) (fn : Nat) (c0 : Cell) (hr : rr = us.map Leg.cs) (hf : ∀ x ∈ us, PC Tryz.prog fn [.agg x.cs, .one c0] (rB (p x))) (hl : us.length ≤ 1048576) : PC Tryz.prog 306 [.one (.l rr), .one (.f fn [c0])] (rI (z0y p us)) := by
 refine PC.begin Tryz.func306 rfl (by kernel_rfl) ?_
 subst hr
 have hn : (us.map Leg.cs).length = us.length := by simp
 refine zc rfl (ι := Nat) (fun i => i ≤ us.length ∧ ∀ j y, j < i → us[j]? = some y → p y = false) (fun i => ⟨[(8, sV (.int .i64 i)), (7, sV (.int .i64 (us.map Leg.cs).length)), (0, .one (.b (.l (us.map Leg.cs)))), (1, .one (.b (.f fn [c0])))], []⟩) (fun i => us.length - i) 0 ⟨Nat.zero_le _, fun j y hj => by omega⟩ ?_ ?_
 · exact ⟨⟨rfl, rfl, rfl, rfl, trivial⟩, trivial, rfl⟩
 · intro i ⟨hi, h0⟩ J hJ
   refine xb rfl (fun h => ?_) (fun h => ?_)
   · have h : i < us.length := by simpa using h
     obtain ⟨x, hx⟩ := gx h
     have hg := gm Leg.cs hx
     have hxm := List.mem_of_getElem? hx
     refine xs rfl (Int.natCast_nonneg _) ?_
     refine za rfl _ hg ?_
     refine xs rfl rfl ?_
     refine z2 rfl (hf _ hxm) rfl ⟨⟨trivial, trivial, trivial, trivial, trivial⟩, trivial, trivial⟩ ?_
     refine xb rfl (fun b0 => ?_) (fun b0 => ?_)
     refine xr rfl (z6 rfl ⟨⟨rfl, ?_, trivial⟩, z1 rfl⟩)
     rotate_left
     rotate_left
     · exact vi (y00 hx h0 b0).symm
     · exact q9 rfl (hJ _ (i + 1) ⟨by omega, qc hx h0 b0⟩ (by omega) ⟨⟨cwi (by omega) (by omega) (by omega), rfl, rfl, rfl, trivial⟩, trivial, rfl⟩)
   · have h : ¬ i < us.length := by simpa using h
     refine xr rfl (z6 rfl ⟨⟨rfl, ?_, trivial⟩, z1 rfl⟩)
     exact vi (yv (qg (by omega) h0)).symm
theorem y4i (rr : List (List Cell)) (us : List Leg) (p : Leg → Bool) (fn : Nat) (c0 : Cell) (hr : rr = us.map Leg.cs) (hf : ∀ x ∈ us, PC Tryz.prog fn [.agg x.cs, .one c0] (rB (p x))) (hl : us.length ≤ 1048576) : PC Tryz.prog 254 [.one (.l rr), .one (.f fn [c0])] (rB (us.any p)) := by
 refine PC.begin Tryz.func254 rfl (by kernel_rfl) ?_
 have hi := y8c rr us p fn c0 hr hf hl
 refine z2 rfl (hi) rfl ⟨trivial, trivial, trivial⟩ ?_
 refine xr rfl (z6 rfl ⟨⟨rfl, ?_, trivial⟩, z1 rfl⟩)
 exact vb z09
theorem q8c (rr : List (List Cell)) (us : List Leg) (p : Leg → Bool) (fn : Nat) (c0 : Cell) (c1 : Cell) (hr : rr = us.map Leg.cs) (hf : ∀ x ∈ us, PC Tryz.prog fn [.agg x.cs, .one c0, .one c1] (rB (p x))) (hl : us.length ≤ 1048576) : PC Tryz.prog 306 [.one (.l rr), .one (.f fn [c0, c1])] (rI (z0y p us)) := by
 refine PC.begin Tryz.func306 rfl (by kernel_rfl) ?_
 subst hr
 have hn : (us.map Leg.cs).length = us.length := by simp
 refine zc rfl (ι := Nat) (fun i => i ≤ us.length ∧ ∀ j y, j < i → us[j]? = some y → p y = false) (fun i => ⟨[(8, sV (.int .i64 i)), (7, sV (.int .i64 (us.map Leg.cs).length)), (0, .one (.b (.l (us.map Leg.cs)))), (1, .one (.b (.f fn [c0, c1])))], []⟩) (fun i => us.length - i) 0 ⟨Nat.zero_le _, fun j y hj => by omega⟩ ?_ ?_
 · exact ⟨⟨rfl, rfl, rfl, rfl, trivial⟩, trivial, rfl⟩
 · intro i ⟨hi, h0⟩ J hJ
   refine xb rfl (fun h => ?_) (fun h => ?_)
   · have h : i < us.length := by simpa using h
     obtain ⟨x, hx⟩ := gx h
     have hg := gm Leg.cs hx
     have hxm := List.mem_of_getElem? hx
     refine xs rfl (Int.natCast_nonneg _) ?_
     refine za rfl _ hg ?_
     refine xs rfl rfl ?_
     refine z2 rfl (hf _ hxm) rfl ⟨⟨trivial, trivial, trivial, trivial, trivial⟩, trivial, trivial, trivial⟩ ?_
     refine xb rfl (fun b0 => ?_) (fun b0 => ?_)
     refine xr rfl (z6 rfl ⟨⟨rfl, ?_, trivial⟩, z1 rfl⟩)
     rotate_left
     rotate_left
     · exact vi (y00 hx h0 b0).symm
     · exact q9 rfl (hJ _ (i + 1) ⟨by omega, qc hx h0 b0⟩ (by omega) ⟨⟨cwi (by omega) (by omega) (by omega), rfl, rfl, rfl, trivial⟩, trivial, rfl⟩)
   · have h : ¬ i < us.length := by simpa using h
     refine xr rfl (z6 rfl ⟨⟨rfl, ?_, trivial⟩, z1 rfl⟩)
     exact vi (yv (qg (by omega) h0)).symm
theorem q82 (rr : List (List Cell)) (us : List Leg) (p : Leg → Bool) (fn : Nat) (c0 : Cell) (c1 : Cell) (hr : rr = us.map Leg.cs) (hf : ∀ x ∈ us, PC Tryz.prog fn [.agg x.cs, .one c0, .one c1] (rB (p x))) (hl : us.length ≤ 1048576) : PC Tryz.prog 254 [.one (.l rr), .one (.f fn [c0, c1])] (rB (us.any p)) := by
 refine PC.begin Tryz.func254 rfl (by kernel_rfl) ?_
 have hi := q8c rr us p fn c0 c1 hr hf hl
 refine z2 rfl (hi) rfl ⟨trivial, trivial, trivial⟩ ?_
 refine xr rfl (z6 rfl ⟨⟨rfl, ?_, trivial⟩, z1 rfl⟩)
 exact vb z09
theorem y8b (rr : List (List Cell)) (us : List Con) (p : Con → Bool) (fn : Nat) (c0 : Cell) (c1 : Cell) (hr : rr = us.map Con.cs) (hf : ∀ x ∈ us, PC Tryz.prog fn [.agg x.cs, .one c0, .one c1] (rB (p x))) (hl : us.length ≤ 1048576) : PC Tryz.prog 143 [.one (.l rr), .one (.f fn [c0, c1])] (rI (z0y p us)) := by
 refine PC.begin Tryz.func143 rfl (by kernel_rfl) ?_
 subst hr
 have hn : (us.map Con.cs).length = us.length := by simp
 refine zc rfl (ι := Nat) (fun i => i ≤ us.length ∧ ∀ j y, j < i → us[j]? = some y → p y = false) (fun i => ⟨[(8, sV (.int .i64 i)), (7, sV (.int .i64 (us.map Con.cs).length)), (0, .one (.b (.l (us.map Con.cs)))), (1, .one (.b (.f fn [c0, c1])))], []⟩) (fun i => us.length - i) 0 ⟨Nat.zero_le _, fun j y hj => by omega⟩ ?_ ?_
 · exact ⟨⟨rfl, rfl, rfl, rfl, trivial⟩, trivial, rfl⟩
 · intro i ⟨hi, h0⟩ J hJ
   refine xb rfl (fun h => ?_) (fun h => ?_)
   · have h : i < us.length := by simpa using h
     obtain ⟨x, hx⟩ := gx h
     have hg := gm Con.cs hx
     have hxm := List.mem_of_getElem? hx
     refine xs rfl (Int.natCast_nonneg _) ?_
     refine za rfl _ hg ?_
     refine xs rfl rfl ?_
     refine z2 rfl (hf _ hxm) rfl ⟨⟨trivial, trivial, trivial⟩, trivial, trivial, trivial⟩ ?_
     refine xb rfl (fun b0 => ?_) (fun b0 => ?_)
     refine xr rfl (z6 rfl ⟨⟨rfl, ?_, trivial⟩, z1 rfl⟩)
     rotate_left
     rotate_left
     · exact vi (y00 hx h0 b0).symm
     · exact q9 rfl (hJ _ (i + 1) ⟨by omega, qc hx h0 b0⟩ (by omega) ⟨⟨cwi (by omega) (by omega) (by omega), rfl, rfl, rfl, trivial⟩, trivial, rfl⟩)
   · have h : ¬ i < us.length := by simpa using h
     refine xr rfl (z6 rfl ⟨⟨rfl, ?_, trivial⟩, z1 rfl⟩)
     exact vi (yv (qg (by omega) h0)).symm
theorem z82 (rr : List (List Cell)) (us : List Con) (p : Con → Bool) (fn : Nat) (c0 : Cell) (c1 : Cell) (hr : rr = us.map Con.cs) (hf : ∀ x ∈ us, PC Tryz.prog fn [.agg x.cs, .one c0, .one c1] (rB (p x))) (hl : us.length ≤ 1048576) : PC Tryz.prog 311 [.one (.l rr), .one (.f fn [c0, c1])] (rB (us.any p)) := by
 refine PC.begin Tryz.func311 rfl (by kernel_rfl) ?_
 have hi := y8b rr us p fn c0 c1 hr hf hl
 refine z2 rfl (hi) rfl ⟨trivial, trivial, trivial⟩ ?_
 refine xr rfl (z6 rfl ⟨⟨rfl, ?_, trivial⟩, z1 rfl⟩)
 exact vb z09
end Go.Proofs.YthljegacamgnnaaGreat
end
section
namespace Go.Proofs.YthljegacamgnnaaGreat
open Go Go.Sx
set_option maxRecDepth 20000
set_option maxHeartbeats 4000000
theorem y0e (us : List Mk) (c : Int) (hl : us.length ≤ 1048576) : PC Tryz.prog 142 [.one (.l (us.map Mk.cs)), .one (i64 c)] (rI (z06 us c)) := by
 refine PC.begin Tryz.func142 rfl (by kernel_rfl) ?_
 refine zc rfl (ι := Nat) (fun i => i ≤ us.length ∧ ∀ j y, j < i → us[j]? = some y → ¬ y.c = c) (fun i => ⟨[(5, sV (.int .i64 i)), (0, .one (.b (.l (us.map Mk.cs)))), (1, sV (.int .i64 c))], []⟩) (fun i => us.length - i) 0 ⟨Nat.zero_le _, fun j y hj => by omega⟩ ?_ ?_
 · exact ⟨⟨rfl, rfl, rfl, trivial⟩, trivial, rfl⟩
 · intro i ⟨hi, h0⟩ J hJ
   refine xb rfl (fun h => ?_) (fun h => ?_)
   · have h : i < us.length := by simpa using h
     obtain ⟨x, hx⟩ := gx h
     have hg := gm Mk.cs hx
     refine xs rfl (Int.natCast_nonneg _) ?_
     refine za rfl _ hg ?_
     refine xs rfl rfl ?_
     refine xb rfl (fun b0 => ?_) (fun b0 => ?_)
     refine xs rfl (Int.natCast_nonneg _) ?_
     refine za rfl _ hg ?_
     refine xs rfl rfl ?_
     refine xr rfl (z6 rfl ⟨⟨rfl, ?_, trivial⟩, z1 rfl⟩)
     rotate_left
     rotate_left
     · exact vi (q0x hx h0 (by simpa using b0)).symm
     · exact q9 rfl (hJ _ (i + 1) ⟨by omega, qc hx h0 (by simpa using b0)⟩ (by omega) ⟨⟨cwi (by omega) (by omega) (by omega), rfl, rfl, trivial⟩, trivial, rfl⟩)
   · have h : ¬ i < us.length := by simpa using h
     refine xr rfl (z6 rfl ⟨⟨rfl, ?_, trivial⟩, z1 rfl⟩)
     exact vi (y16 (qg (by omega) h0)).symm
theorem z7i (us : List Bal) (hl : us.length ≤ 1048576) : PC Tryz.prog 148 [.one (.l (us.map Bal.cs))] (rI (yi us)) := by
 refine PC.begin Tryz.func148 rfl (by kernel_rfl) ?_
 refine xb rfl (fun hn => ?_) (fun hn => ?_)
 · have hn : 18 < us.length := by simp at hn; omega
   refine xr rfl (z6 rfl ⟨⟨rfl, ?_, trivial⟩, z1 rfl⟩)
   exact vi (by rw [yi, if_pos hn])
 have hn : ¬ 18 < us.length := by simp at hn; omega
 have hr : yi us = scan (y1w us) us.length := by rw [yi, if_neg hn]
 rw [hr]
 refine zc rfl (ι := Nat) (fun i => i ≤ us.length ∧ ∀ j, j < i → y1w us j = 0) (fun i => ⟨[(3, sV (.int .i64 i)), (0, .one (.b (.l (us.map Bal.cs))))], []⟩) (fun i => us.length - i) 0 ⟨Nat.zero_le _, fun j hj => by omega⟩ ?_ ?_
 · exact ⟨⟨rfl, rfl, trivial⟩, trivial, rfl⟩
 · intro i ⟨hi, h0⟩ J hJ
   refine xb rfl (fun h => ?_) (fun h => ?_)
   · have h : i < us.length := by simpa using h
     obtain ⟨x, hx⟩ := gx h
     have hg := gm Bal.cs hx
     rcases Nat.eq_zero_or_pos i with hz | hz
     · subst hz
       refine xs rfl (Int.natCast_nonneg _) ?_
       refine za rfl _ hg ?_
       refine xs rfl rfl ?_
       refine z2 rfl (z57 _ _) rfl ⟨trivial, trivial, trivial⟩ ?_
       refine xb rfl (fun b0 => ?_) (fun b0 => ?_)
       refine xj (k := 5) rfl ?_
       refine xr rfl (z6 rfl ⟨⟨rfl, ?_, trivial⟩, z1 rfl⟩)
       rotate_left
       refine xj (k := 2) rfl ?_
       refine z2 rfl (zh _ _ _) rfl ⟨trivial, trivial, trivial, trivial⟩ ?_
       refine xj (k := 2) rfl ?_
       refine xb rfl (fun b1 => ?_) (fun b1 => ?_)
       refine xr rfl (z6 rfl ⟨⟨rfl, ?_, trivial⟩, z1 rfl⟩)
       rotate_left
       refine zb rfl [] (.take 0 [] (.take 1 [] (.take 2 [] (.take 3 [] (.take 4 [5, 8, 23, 24] (.take 5 [] (.take 6 [] (.take 7 [8, 23, 24] (.take 8 [] (.take 9 [] (.take 10 [] (.take 11 [] (.take 12 [] (.take 13 [] (.take 14 [15, 22, 23, 24] (.take 15 [] (.take 16 [] (.take 17 [] (.take 18 [] (.take 19 [] (.take 20 [] (.take 21 [22, 23, 24] (.take 22 [] (.take 23 [] (.take 24 [] .done))))))))))))))))))))))))) (by kernel_rfl) ?_
       refine xj (k := 23) rfl ?_
       rotate_left
       all_goals (first | (refine vi (z7 h h0 ?_ (by first | decide | decide | simp_all)); clear hJ h0 hg; first | (simp_all [y1w, Bal.bad, ahead_zero]; done) | (have hxb : x.bad = false := (by simp_all [Bal.bad]); simp only [Bal.z0m hxb, Bal.z0m hpb] at *; simp_all [y1w, z8 hz hp]; done)) | (refine q9 rfl (hJ _ 1 ⟨by omega, q8 h0 ?_⟩ (by omega) ⟨⟨cwi (by omega) (by omega) (by omega), rfl, trivial⟩, trivial, rfl⟩); clear hJ h0 hg; first | (simp_all [y1w, Bal.bad, ahead_zero]; done) | (have hxb : x.bad = false := (by simp_all [Bal.bad]); simp only [Bal.z0m hxb, Bal.z0m hpb] at *; simp_all [y1w, z8 hz hp]; done)))
     · obtain ⟨p, hp⟩ := gx (xs := us) (i := i - 1) (by omega)
       have hgp := y0w Bal.cs hz (by omega) hp
       have hpb := q4i hp (h0 (i - 1) (by omega))
       refine xs rfl (Int.natCast_nonneg _) ?_
       refine za rfl _ hg ?_
       refine xs rfl rfl ?_
       refine z2 rfl (z57 _ _) rfl ⟨trivial, trivial, trivial⟩ ?_
       refine xb rfl (fun b0 => ?_) (fun b0 => ?_)
       refine xj (k := 5) rfl ?_
       refine xr rfl (z6 rfl ⟨⟨rfl, ?_, trivial⟩, z1 rfl⟩)
       rotate_left
       refine xj (k := 2) rfl ?_
       refine z2 rfl (zh _ _ _) rfl ⟨trivial, trivial, trivial, trivial⟩ ?_
       refine xj (k := 2) rfl ?_
       refine xb rfl (fun b1 => ?_) (fun b1 => ?_)
       refine xr rfl (z6 rfl ⟨⟨rfl, ?_, trivial⟩, z1 rfl⟩)
       rotate_left
       refine zb rfl [] (.take 0 [] (.take 1 [] (.take 2 [] (.take 3 [] (.take 4 [5, 8, 23, 24] (.take 5 [] (.take 6 [] (.take 7 [8, 23, 24] (.take 8 [] (.take 9 [] (.take 10 [] (.take 11 [] (.take 12 [] (.take 13 [] (.take 14 [15, 22, 23, 24] (.take 15 [] (.take 16 [] (.take 17 [] (.take 18 [] (.take 19 [] (.take 20 [] (.take 21 [22, 23, 24] (.take 22 [] (.take 23 [] (.take 24 [] .done))))))))))))))))))))))))) (by kernel_rfl) ?_
       refine xb rfl (fun b2 => ?_) (fun b2 => ?_)
       refine xj (k := 9) rfl ?_
       refine xs rfl (q0e hz (by omega)) ?_
       refine za rfl _ hgp ?_
       refine xs rfl rfl ?_
       refine xj (k := 7) rfl ?_
       refine xs rfl (q0e hz (by omega)) ?_
       refine za rfl _ hgp ?_
       refine xs rfl rfl ?_
       refine xj (k := 5) rfl ?_
       refine xb rfl (fun b3 => ?_) (fun b3 => ?_)
       refine xr rfl (z6 rfl ⟨⟨rfl, ?_, trivial⟩, z1 rfl⟩)
       rotate_left
       rotate_left
       refine xj (k := 22) rfl ?_
       rotate_left
       all_goals (first | (refine vi (z7 h h0 ?_ (by first | decide | decide | simp_all)); clear hJ h0 hg hgp; first | (simp_all [z8 hz hp, y1w, Bal.bad, ahead_zero]; done) | (have hxb : x.bad = false := (by simp_all [Bal.bad]); simp only [Bal.z0m hxb, Bal.z0m hpb] at *; simp_all [y1w, z8 hz hp]; done)) | (refine q9 rfl (hJ _ (i + 1) ⟨by omega, q8 h0 ?_⟩ (by omega) ⟨⟨cwi (by omega) (by omega) (by omega), rfl, trivial⟩, trivial, rfl⟩); clear hJ h0 hg hgp; first | (simp_all [z8 hz hp, y1w, Bal.bad, ahead_zero]; done) | (have hxb : x.bad = false := (by simp_all [Bal.bad]); simp only [Bal.z0m hxb, Bal.z0m hpb] at *; simp_all [y1w, z8 hz hp]; done)))
   · have h : ¬ i < us.length := by simpa using h
     have hz := qb (f := y1w us) (n := us.length) (fun j hj => h0 j (by omega))
     refine xr rfl (z6 rfl ⟨⟨rfl, ?_, trivial⟩, z1 rfl⟩)
     exact vi (hz.symm)
theorem z0c (p x : Bal) : PC Tryz.prog 224 [.agg p.cs, .agg x.cs] (rI (q04 p x)) := by
 refine PC.begin Tryz.func224 rfl (by kernel_rfl) ?_
 refine zb rfl [] (.take 0 [] (.take 1 [4, 9, 10, 11, 12] (.take 2 [] (.take 3 [4, 9, 10, 11, 12] (.take 5 [] (.take 6 [9, 10, 11, 12] (.take 7 [] (.take 8 [9, 10, 11, 12] (.alt 4 (.alt 9 (.alt 10 (.alt 11 (.take 12 [] .done) .nil) .nil) .nil) .nil))))))))) (by kernel_rfl) ?_
 refine z2 rfl (zp _ _) rfl ⟨trivial, trivial, trivial⟩ ?_
 refine z2 rfl (zp _ _) rfl ⟨trivial, trivial, trivial⟩ ?_
 refine xs rfl ⟨trivial, trivial, trivial⟩ ?_
 refine z2 rfl (y7f [_, _] (by simp)) rfl ⟨rfl, trivial⟩ ?_
 refine xr rfl (z6 rfl ⟨⟨rfl, rfl, trivial⟩, z1 rfl⟩)
theorem z7a (us : List Bal) (hl : us.length ≤ 1048576) : PC Tryz.prog 153 [.one (.l (us.map Bal.cs))] (rI (yi us)) := by
 refine PC.begin Tryz.func153 rfl (by kernel_rfl) ?_
 refine xb rfl (fun hn => ?_) (fun hn => ?_)
 · have hn : 18 < us.length := by simp at hn; omega
   refine xr rfl (z6 rfl ⟨⟨rfl, ?_, trivial⟩, z1 rfl⟩)
   exact vi (by rw [yi, if_pos hn])
 have hn : ¬ 18 < us.length := by simp at hn; omega
 have hr : yi us = scan (y1w us) us.length := by rw [yi, if_neg hn]
 rw [hr]
 have hle : (us.map Bal.cs).length = us.length := by simp
 refine zc rfl (ι := Nat) (fun i => i ≤ us.length ∧ ∀ j, j < i → y1w us j = 0) (fun i => ⟨[(10, sV (.int .i64 i)), (9, sV (.int .i64 (us.map Bal.cs).length)), (8, .one (.b (.l (us.map Bal.cs)))), (0, .one (.b (.l (us.map Bal.cs))))], []⟩) (fun i => us.length - i) 0 ⟨Nat.zero_le _, fun j hj => by omega⟩ ?_ ?_
 · exact ⟨⟨rfl, rfl, rfl, rfl, trivial⟩, trivial, rfl⟩
 · intro i ⟨hi, h0⟩ J hJ
   refine xb rfl (fun h => ?_) (fun h => ?_)
   · have h : i < us.length := by simpa using h
     obtain ⟨x, hx⟩ := gx h
     have hg := gm Bal.cs hx
     rcases Nat.eq_zero_or_pos i with hz | hz
     · subst hz
       refine xs rfl (Int.natCast_nonneg _) ?_
       refine za rfl _ hg ?_
       refine xs rfl rfl ?_
       refine z2 rfl (q1t _ _) rfl ⟨trivial, trivial, trivial⟩ ?_
       refine xb rfl (fun b0 => ?_) (fun b0 => ?_)
       refine xj (k := 5) rfl ?_
       refine xr rfl (z6 rfl ⟨⟨rfl, ?_, trivial⟩, z1 rfl⟩)
       rotate_left
       refine xj (k := 2) rfl ?_
       refine z2 rfl (qj _ _ _) rfl ⟨trivial, trivial, trivial, trivial⟩ ?_
       refine xj (k := 2) rfl ?_
       refine xb rfl (fun b1 => ?_) (fun b1 => ?_)
       refine xr rfl (z6 rfl ⟨⟨rfl, ?_, trivial⟩, z1 rfl⟩)
       rotate_left
       refine zb rfl [] (.take 0 [] (.take 1 [] (.take 2 [] (.take 3 [] (.take 4 [] (.take 5 [] (.take 6 [] (.take 7 [9, 10, 11, 12] (.take 8 [9, 10, 11, 12] (.alt 9 (.take 10 [] (.take 11 [] (.take 12 [] .done))) .nil)))))))))) (by kernel_rfl) ?_
       refine xj (k := 10) rfl ?_
       rotate_left
       all_goals (first | (refine vi (z7 h h0 ?_ (by first | decide | decide | simp_all)); clear hJ h0 hg; first | (simp_all [y1w, Bal.bad, ahead_zero]; done) | (have hxb : x.bad = false := (by simp_all [Bal.bad]); have hc := z1p hpb hxb; (simp_all [y1w, z8 hz hp] <;> omega))) | (refine q9 rfl (hJ _ 1 ⟨by omega, q8 h0 ?_⟩ (by omega) ⟨⟨cwi (by omega) (by omega) (by omega), rfl, rfl, rfl, trivial⟩, trivial, rfl⟩); clear hJ h0 hg; first | (simp_all [y1w, Bal.bad, ahead_zero]; done) | (have hxb : x.bad = false := (by simp_all [Bal.bad]); have hc := z1p hpb hxb; (simp_all [y1w, z8 hz hp] <;> omega))))
     · obtain ⟨p, hp⟩ := gx (xs := us) (i := i - 1) (by omega)
       have hgp := y0w Bal.cs hz (by omega) hp
       have hpb := q4i hp (h0 (i - 1) (by omega))
       refine xs rfl (Int.natCast_nonneg _) ?_
       refine za rfl _ hg ?_
       refine xs rfl rfl ?_
       refine z2 rfl (q1t _ _) rfl ⟨trivial, trivial, trivial⟩ ?_
       refine xb rfl (fun b0 => ?_) (fun b0 => ?_)
       refine xj (k := 5) rfl ?_
       refine xr rfl (z6 rfl ⟨⟨rfl, ?_, trivial⟩, z1 rfl⟩)
       rotate_left
       refine xj (k := 2) rfl ?_
       refine z2 rfl (qj _ _ _) rfl ⟨trivial, trivial, trivial, trivial⟩ ?_
       refine xj (k := 2) rfl ?_
       refine xb rfl (fun b1 => ?_) (fun b1 => ?_)
       refine xr rfl (z6 rfl ⟨⟨rfl, ?_, trivial⟩, z1 rfl⟩)
       rotate_left
       refine zb rfl [] (.take 0 [] (.take 1 [] (.take 2 [] (.take 3 [] (.take 4 [] (.take 5 [] (.take 6 [] (.take 7 [9, 10, 11, 12] (.take 8 [9, 10, 11, 12] (.alt 9 (.take 10 [] (.take 11 [] (.take 12 [] .done))) .nil)))))))))) (by kernel_rfl) ?_
       refine xb rfl (fun b2 => ?_) (fun b2 => ?_)
       refine xj (k := 3) rfl ?_
       refine xs rfl (q0e hz (by omega)) ?_
       refine za rfl _ hgp ?_
       refine xs rfl rfl ?_
       refine xj (k := 3) rfl ?_
       refine z2 rfl (z0c _ _) rfl ⟨⟨trivial, trivial, trivial, trivial⟩, ⟨trivial, trivial, trivial, trivial⟩, trivial⟩ ?_
       refine xj (k := 2) rfl ?_
       refine xb rfl (fun b3 => ?_) (fun b3 => ?_)
       refine xr rfl (z6 rfl ⟨⟨rfl, ?_, trivial⟩, z1 rfl⟩)
       rotate_left
       rotate_left
       refine xj (k := 9) rfl ?_
       rotate_left
       all_goals (first | (refine vi (z7 h h0 ?_ (by first | decide | decide | simp_all)); clear hJ h0 hg hgp; first | (simp_all [z8 hz hp, y1w, Bal.bad, ahead_zero]; done) | (have hxb : x.bad = false := (by simp_all [Bal.bad]); have hc := z1p hpb hxb; (simp_all [y1w, z8 hz hp] <;> omega))) | (refine q9 rfl (hJ _ (i + 1) ⟨by omega, q8 h0 ?_⟩ (by omega) ⟨⟨cwi (by omega) (by omega) (by omega), rfl, rfl, rfl, trivial⟩, trivial, rfl⟩); clear hJ h0 hg hgp; first | (simp_all [z8 hz hp, y1w, Bal.bad, ahead_zero]; done) | (have hxb : x.bad = false := (by simp_all [Bal.bad]); have hc := z1p hpb hxb; (simp_all [y1w, z8 hz hp] <;> omega))))
   · have h : ¬ i < us.length := by simpa using h
     have hz := qb (f := y1w us) (n := us.length) (fun j hj => h0 j (by omega))
     refine xr rfl (z6 rfl ⟨⟨rfl, ?_, trivial⟩, z1 rfl⟩)
     exact vi (hz.symm)
theorem z49 (us : List Mk) (hl : us.length ≤ 1048576) : PC Tryz.prog 241 [.one (.l (us.map Mk.cs))] (rI (ye us)) := by
 refine PC.begin Tryz.func241 rfl (by kernel_rfl) ?_
 refine zc rfl (ι := Nat) (fun i => i ≤ us.length ∧ ∀ j, j < i → y1m us j = 0) (fun i => ⟨[(3, sV (.int .i64 i)), (0, .one (.b (.l (us.map Mk.cs))))], []⟩) (fun i => us.length - i) 0 ⟨Nat.zero_le _, fun j hj => by omega⟩ ?_ ?_
 · exact ⟨⟨rfl, rfl, trivial⟩, trivial, rfl⟩
 · intro i ⟨hi, h0⟩ J hJ
   refine xb rfl (fun h => ?_) (fun h => ?_)
   · have h : i < us.length := by simpa using h
     obtain ⟨x, hx⟩ := gx h
     have hg := gm Mk.cs hx
     rcases Nat.eq_zero_or_pos i with hz | hz
     · subst hz
       refine xs rfl (Int.natCast_nonneg _) ?_
       refine za rfl _ hg ?_
       refine xs rfl rfl ?_
       refine z2 rfl (z3j _) rfl ⟨trivial, trivial⟩ ?_
       refine xb rfl (fun b0 => ?_) (fun b0 => ?_)
       refine xj (k := 8) rfl ?_
       refine xr rfl (z6 rfl ⟨⟨rfl, ?_, trivial⟩, z1 rfl⟩)
       rotate_left
       refine xj (k := 2) rfl ?_
       refine xs rfl (Int.natCast_nonneg _) ?_
       refine za rfl _ hg ?_
       refine xs rfl rfl ?_
       refine xj (k := 3) rfl ?_
       refine z2 rfl (zh _ _ _) rfl ⟨trivial, trivial, trivial, trivial⟩ ?_
       refine xj (k := 2) rfl ?_
       refine xb rfl (fun b1 => ?_) (fun b1 => ?_)
       refine xr rfl (z6 rfl ⟨⟨rfl, ?_, trivial⟩, z1 rfl⟩)
       rotate_left
       refine zb rfl [] (.take 0 [] (.take 1 [] (.take 2 [] (.take 3 [] (.take 4 [] (.take 5 [] (.take 6 [] (.take 7 [14, 15] (.take 8 [] (.take 9 [] (.take 10 [] (.take 11 [] (.take 12 [] (.take 13 [14, 15] (.take 14 [] (.take 15 [] .done)))))))))))))))) (by kernel_rfl) ?_
       refine xj (k := 14) rfl ?_
       rotate_left
       all_goals (first | (refine vi (z7 h h0 ?_ (by first | decide | decide | simp_all)); clear hJ h0 hg; simp_all [y1m, ahead_zero]) | (refine q9 rfl (hJ _ 1 ⟨by omega, q8 h0 ?_⟩ (by omega) ⟨⟨cwi (by omega) (by omega) (by omega), rfl, trivial⟩, trivial, rfl⟩); clear hJ h0 hg; simp_all [y1m, ahead_zero]))
     · obtain ⟨p, hp⟩ := gx (xs := us) (i := i - 1) (by omega)
       have hgp := y0w Mk.cs hz (by omega) hp
       refine xs rfl (Int.natCast_nonneg _) ?_
       refine za rfl _ hg ?_
       refine xs rfl rfl ?_
       refine z2 rfl (z3j _) rfl ⟨trivial, trivial⟩ ?_
       refine xb rfl (fun b0 => ?_) (fun b0 => ?_)
       refine xj (k := 8) rfl ?_
       refine xr rfl (z6 rfl ⟨⟨rfl, ?_, trivial⟩, z1 rfl⟩)
       rotate_left
       refine xj (k := 2) rfl ?_
       refine xs rfl (Int.natCast_nonneg _) ?_
       refine za rfl _ hg ?_
       refine xs rfl rfl ?_
       refine xj (k := 3) rfl ?_
       refine z2 rfl (zh _ _ _) rfl ⟨trivial, trivial, trivial, trivial⟩ ?_
       refine xj (k := 2) rfl ?_
       refine xb rfl (fun b1 => ?_) (fun b1 => ?_)
       refine xr rfl (z6 rfl ⟨⟨rfl, ?_, trivial⟩, z1 rfl⟩)
       rotate_left
       refine zb rfl [] (.take 0 [] (.take 1 [] (.take 2 [] (.take 3 [] (.take 4 [] (.take 5 [] (.take 6 [] (.take 7 [14, 15] (.take 8 [] (.take 9 [] (.take 10 [] (.take 11 [] (.take 12 [] (.take 13 [14, 15] (.take 14 [] (.take 15 [] .done)))))))))))))))) (by kernel_rfl) ?_
       refine xb rfl (fun b2 => ?_) (fun b2 => ?_)
       refine xj (k := 2) rfl ?_
       refine xs rfl (Int.natCast_nonneg _) ?_
       refine za rfl _ hg ?_
       refine xs rfl rfl ?_
       refine xj (k := 6) rfl ?_
       refine xs rfl (q0e hz (by omega)) ?_
       refine za rfl _ hgp ?_
       refine xs rfl rfl ?_
       refine xj (k := 4) rfl ?_
       refine xb rfl (fun b3 => ?_) (fun b3 => ?_)
       refine xr rfl (z6 rfl ⟨⟨rfl, ?_, trivial⟩, z1 rfl⟩)
       rotate_left
       rotate_left
       refine xj (k := 13) rfl ?_
       rotate_left
       all_goals (first | (refine vi (z7 h h0 ?_ (by first | decide | decide | simp_all)); clear hJ h0 hg hgp; simp_all [z8 hz hp, y1m, ahead_zero]) | (refine q9 rfl (hJ _ (i + 1) ⟨by omega, q8 h0 ?_⟩ (by omega) ⟨⟨cwi (by omega) (by omega) (by omega), rfl, trivial⟩, trivial, rfl⟩); clear hJ h0 hg hgp; simp_all [z8 hz hp, y1m, ahead_zero]))
   · have h : ¬ i < us.length := by simpa using h
     have hz := qb (f := y1m us) (n := us.length) (fun j hj => h0 j (by omega))
     refine xr rfl (z6 rfl ⟨⟨rfl, ?_, trivial⟩, z1 rfl⟩)
     exact vi (hz.symm)
theorem y41 (us : List Mk) (fn : Nat) (hf : ∀ v, PC Tryz.prog fn [.one (i64 v)] (rB (within v 1 2))) (hl : us.length ≤ 1048576) : PC Tryz.prog 259 [.one (.l (us.map Mk.cs)), .one (.f fn [])] (rI (ye us)) := by
 refine PC.begin Tryz.func259 rfl (by kernel_rfl) ?_
 have hle : (us.map Mk.cs).length = us.length := by simp
 refine zc rfl (ι := Nat) (fun i => i ≤ us.length ∧ ∀ j, j < i → y1m us j = 0) (fun i => ⟨[(9, sV (.int .i64 i)), (8, sV (.int .i64 (us.map Mk.cs).length)), (7, .one (.b (.l (us.map Mk.cs)))), (0, .one (.b (.l (us.map Mk.cs)))), (1, .one (.b (.f fn [])))], []⟩) (fun i => us.length - i) 0 ⟨Nat.zero_le _, fun j hj => by omega⟩ ?_ ?_
 · exact ⟨⟨rfl, rfl, rfl, rfl, rfl, trivial⟩, trivial, rfl⟩
 · intro i ⟨hi, h0⟩ J hJ
   refine xb rfl (fun h => ?_) (fun h => ?_)
   · have h : i < us.length := by simpa using h
     obtain ⟨x, hx⟩ := gx h
     have hg := gm Mk.cs hx
     rcases Nat.eq_zero_or_pos i with hz | hz
     · subst hz
       refine xs rfl (Int.natCast_nonneg _) ?_
       refine za rfl _ hg ?_
       refine xs rfl rfl ?_
       refine z2 rfl (q3i _) rfl ⟨trivial, trivial⟩ ?_
       refine xb rfl (fun b0 => ?_) (fun b0 => ?_)
       refine xj (k := 6) rfl ?_
       refine xr rfl (z6 rfl ⟨⟨rfl, ?_, trivial⟩, z1 rfl⟩)
       rotate_left
       refine xj (k := 3) rfl ?_
       refine z2 rfl (hf _) rfl ⟨trivial, trivial⟩ ?_
       refine xj (k := 2) rfl ?_
       refine xb rfl (fun b1 => ?_) (fun b1 => ?_)
       refine xr rfl (z6 rfl ⟨⟨rfl, ?_, trivial⟩, z1 rfl⟩)
       rotate_left
       refine zb rfl [] (.take 0 [] (.take 1 [] (.take 2 [] (.take 3 [] (.take 4 [] (.take 5 [] (.take 6 [] (.take 7 [] (.take 8 [11, 12, 13] (.take 9 [] (.take 10 [11, 12, 13] (.take 11 [] (.take 12 [] (.take 13 [] .done)))))))))))))) (by kernel_rfl) ?_
       refine xj (k := 11) rfl ?_
       rotate_left
       all_goals (first | (refine vi (z7 h h0 ?_ (by first | decide | decide | simp_all)); clear hJ h0 hg; simp_all [y1m, ahead_zero]) | (refine q9 rfl (hJ _ 1 ⟨by omega, q8 h0 ?_⟩ (by omega) ⟨⟨cwi (by omega) (by omega) (by omega), rfl, rfl, rfl, rfl, trivial⟩, trivial, rfl⟩); clear hJ h0 hg; simp_all [y1m, ahead_zero]))
     · obtain ⟨p, hp⟩ := gx (xs := us) (i := i - 1) (by omega)
       have hgp := y0w Mk.cs hz (by omega) hp
       refine xs rfl (Int.natCast_nonneg _) ?_
       refine za rfl _ hg ?_
       refine xs rfl rfl ?_
       refine z2 rfl (q3i _) rfl ⟨trivial, trivial⟩ ?_
       refine xb rfl (fun b0 => ?_) (fun b0 => ?_)
       refine xj (k := 6) rfl ?_
       refine xr rfl (z6 rfl ⟨⟨rfl, ?_, trivial⟩, z1 rfl⟩)
       rotate_left
       refine xj (k := 3) rfl ?_
       refine z2 rfl (hf _) rfl ⟨trivial, trivial⟩ ?_
       refine xj (k := 2) rfl ?_
       refine xb rfl (fun b1 => ?_) (fun b1 => ?_)
       refine xr rfl (z6 rfl ⟨⟨rfl, ?_, trivial⟩, z1 rfl⟩)
       rotate_left
       refine zb rfl [] (.take 0 [] (.take 1 [] (.take 2 [] (.take 3 [] (.take 4 [] (.take 5 [] (.take 6 [] (.take 7 [] (.take 8 [11, 12, 13] (.take 9 [] (.take 10 [11, 12, 13] (.take 11 [] (.take 12 [] (.take 13 [] .done)))))))))))))) (by kernel_rfl) ?_
       refine xb rfl (fun b2 => ?_) (fun b2 => ?_)
       refine xj (k := 3) rfl ?_
       refine xs rfl (q0e hz (by omega)) ?_
       refine za rfl _ hgp ?_
       refine xs rfl rfl ?_
       refine xj (k := 6) rfl ?_
       refine xb rfl (fun b3 => ?_) (fun b3 => ?_)
       refine xr rfl (z6 rfl ⟨⟨rfl, ?_, trivial⟩, z1 rfl⟩)
       rotate_left
       rotate_left
       refine xj (k := 10) rfl ?_
       rotate_left
       all_goals (first | (refine vi (z7 h h0 ?_ (by first | decide | decide | simp_all)); clear hJ h0 hg hgp; simp_all [z8 hz hp, y1m, ahead_zero]) | (refine q9 rfl (hJ _ (i + 1) ⟨by omega, q8 h0 ?_⟩ (by omega) ⟨⟨cwi (by omega) (by omega) (by omega), rfl, rfl, rfl, rfl, trivial⟩, trivial, rfl⟩); clear hJ h0 hg hgp; simp_all [z8 hz hp, y1m, ahead_zero]))
   · have h : ¬ i < us.length := by simpa using h
     have hz := qb (f := y1m us) (n := us.length) (fun j hj => h0 j (by omega))
     refine xr rfl (z6 rfl ⟨⟨rfl, ?_, trivial⟩, z1 rfl⟩)
     exact vi (hz.symm)
theorem q0f (v : Int) : PC Tryz.prog 260 [.one (i64 v)] (rB (within v 1 2)) := by
 refine PC.begin Tryz.func260 rfl (by kernel_rfl) ?_
 refine xb rfl (fun b0 => ?_) (fun b0 => ?_)
 refine xj (k := 2) rfl ?_
 refine xr rfl (z6 rfl ⟨⟨rfl, ?_, trivial⟩, z1 rfl⟩)
 rotate_left
 refine xj (k := 2) rfl ?_
 refine xr rfl (z6 rfl ⟨⟨rfl, ?_, trivial⟩, z1 rfl⟩)
 rotate_left
 all_goals (refine vb ?_; rw [Bool.eq_iff_iff]; (simp_all [within] <;> omega))
theorem q1y (v : Int) : PC Tryz.prog 261 [.one (i64 v)] (rB (within v 1 2)) := by
 refine PC.begin Tryz.func261 rfl (by kernel_rfl) ?_
 refine xb rfl (fun b0 => ?_) (fun b0 => ?_)
 refine xj (k := 2) rfl ?_
 refine xr rfl (z6 rfl ⟨⟨rfl, ?_, trivial⟩, z1 rfl⟩)
 rotate_left
 refine xj (k := 2) rfl ?_
 refine xr rfl (z6 rfl ⟨⟨rfl, ?_, trivial⟩, z1 rfl⟩)
 rotate_left
 all_goals (refine vb ?_; rw [Bool.eq_iff_iff]; (simp_all [within] <;> omega))
theorem q18 (c : Con) (s : Int) (hl : c.legs.length ≤ 1048576) : PC Tryz.prog 57 [.agg c.cs, .one (i64 s)] (.one (.own false [.l 4 ((zj c s).map Leg.cs)])) := by
 refine PC.begin Tryz.func57 rfl (by kernel_rfl) ?_
 refine xs rfl trivial ?_
 refine zc rfl (ι := Nat) (fun i => i ≤ c.legs.length) (fun i => ⟨[(6, sV (.int .i64 i)), (5, .one (.h 7 ((c.legs.take i).filter (fun l => l.s == s)).length)), (1, sV (.int .i64 s)), (2, .one (.a 2 0))], [(7, .arr true 4 0 (((c.legs.take i).filter (fun l => l.s == s)).map Leg.cs)), (2, .var (c.cs.map .b))]⟩) (fun i => c.legs.length - i) 0 (Nat.zero_le _) ?_ ?_
 · exact ⟨⟨rfl, ⟨rfl, rfl, rfl⟩, rfl, ⟨rfl, rfl, rfl⟩, trivial⟩, ⟨⟨rfl, .inl rfl, .inl rfl⟩, lcr, trivial⟩, rfl⟩
 · intro i hi J hJ
   refine xb rfl (fun h => ?_) (fun h => ?_)
   · have h : i < c.legs.length := by simpa using h
     obtain ⟨x, hx⟩ := gx h
     have hg := gm Leg.cs hx
     have hf := y0s (p := fun l : Leg => l.s == s) hx
     have hfl : ((c.legs.take i).filter (fun l => l.s == s)).length ≤ i := Nat.le_trans (List.length_filter_le _ _) (by simp; omega)
     refine xs rfl (by simp) ?_
     refine za rfl _ hg ?_
     refine xs rfl rfl ?_
     refine xb rfl (fun b0 => ?_) (fun b0 => ?_)
     refine xs rfl (by simp) ?_
     refine za rfl _ hg ?_
     refine xs rfl rfl ?_
     refine xs rfl ⟨trivial, trivial, trivial, trivial, trivial⟩ ?_
     refine xs rfl (by simp) ?_
     refine xs rfl rfl ?_
     refine xs rfl (.inl rfl) ?_
     refine xs rfl (by simp; omega) ?_
     refine xs rfl (by simp; omega) ?_
     rotate_left
     rotate_left
     · refine q9 rfl (hJ _ (i + 1) (by omega) (by omega) ⟨⟨cwi (by omega) (by omega) (by omega), ⟨rfl, ?_, rfl⟩, rfl, ⟨rfl, rfl, rfl⟩, trivial⟩, ⟨⟨?_, .inl rfl, .inl rfl⟩, lcr, trivial⟩, rfl⟩)
       · rw [hf, if_pos (by simpa using b0)]; simp
       · rw [hf, if_pos (by simpa using b0)]; simp
     · refine q9 rfl (hJ _ (i + 1) (by omega) (by omega) ⟨⟨cwi (by omega) (by omega) (by omega), ⟨rfl, ?_, rfl⟩, rfl, ⟨rfl, rfl, rfl⟩, trivial⟩, ⟨⟨?_, .inl rfl, .inl rfl⟩, lcr, trivial⟩, rfl⟩)
       · rw [hf, if_neg (by simpa using b0)]; simp
       · rw [hf, if_neg (by simpa using b0)]; simp
   · have h : ¬ i < c.legs.length := by simpa using h
     have e : i = c.legs.length := by omega
     subst e
     refine xr rfl (z6 rfl ⟨⟨rfl, ⟨?_, ?_, .inl rfl⟩, trivial⟩, z1 rfl⟩)
     rotate_left
     rotate_left
     all_goals first | (simp [zj]; done) | skip
theorem q0s (c : Con) (s : Int) (hl : c.legs.length ≤ 1048576) : PC Tryz.prog 66 [.agg c.cs, .one (i64 s)] (.one (.own false [.l 4 ((zj c s).map Leg.cs)])) := by
 refine PC.begin Tryz.func66 rfl (by kernel_rfl) ?_
 have hle : (c.legs.map Leg.cs).length = c.legs.length := by simp
 refine xs rfl trivial ?_
 refine zc rfl (ι := Nat) (fun i => i ≤ c.legs.length) (fun i => ⟨[(12, sV (.int .i64 i)), (5, .one (.h 8 ((c.legs.take i).filter (fun l => l.s == s)).length)), (1, sV (.int .i64 s)), (10, .one (.b (.l (c.legs.map Leg.cs)))), (11, sV (.int .i64 (c.legs.map Leg.cs).length))], [(8, .arr true 4 0 (((c.legs.take i).filter (fun l => l.s == s)).map Leg.cs))]⟩) (fun i => c.legs.length - i) 0 (Nat.zero_le _) ?_ ?_
 · exact ⟨⟨rfl, ⟨rfl, rfl, rfl⟩, rfl, rfl, rfl, trivial⟩, ⟨⟨rfl, .inl rfl, .inl rfl⟩, trivial⟩, rfl⟩
 · intro i hi J hJ
   refine xb rfl (fun h => ?_) (fun h => ?_)
   · have h : i < c.legs.length := by simpa using h
     obtain ⟨x, hx⟩ := gx h
     have hg := gm Leg.cs hx
     have hf := y0s (p := fun l : Leg => l.s == s) hx
     have hfl : ((c.legs.take i).filter (fun l => l.s == s)).length ≤ i := Nat.le_trans (List.length_filter_le _ _) (by simp; omega)
     refine xs rfl (by simp) ?_
     refine za rfl _ hg ?_
     refine xs rfl rfl ?_
     refine xb rfl (fun b0 => ?_) (fun b0 => ?_)
     refine xs rfl ⟨trivial, trivial, trivial, trivial, trivial⟩ ?_
     refine xs rfl (by simp) ?_
     refine xs rfl rfl ?_
     refine xs rfl (.inl rfl) ?_
     refine xs rfl (by simp; omega) ?_
     refine xs rfl (by simp; omega) ?_
     rotate_left
     rotate_left
     · refine q9 rfl (hJ _ (i + 1) (by omega) (by omega) ⟨⟨cwi (by omega) (by omega) (by omega), ⟨rfl, ?_, rfl⟩, rfl, rfl, rfl, trivial⟩, ⟨⟨?_, .inl rfl, .inl rfl⟩, trivial⟩, rfl⟩)
       · rw [hf, if_pos (by simpa using b0)]; simp
       · rw [hf, if_pos (by simpa using b0)]; simp
     · refine q9 rfl (hJ _ (i + 1) (by omega) (by omega) ⟨⟨cwi (by omega) (by omega) (by omega), ⟨rfl, ?_, rfl⟩, rfl, rfl, rfl, trivial⟩, ⟨⟨?_, .inl rfl, .inl rfl⟩, trivial⟩, rfl⟩)
       · rw [hf, if_neg (by simpa using b0)]; simp
       · rw [hf, if_neg (by simpa using b0)]; simp
   · have h : ¬ i < c.legs.length := by simpa using h
     have e : i = c.legs.length := by omega
     subst e
     refine xr rfl (z6 rfl ⟨⟨rfl, ⟨?_, ?_, .inl rfl⟩, trivial⟩, z1 rfl⟩)
     rotate_left
     rotate_left
     all_goals first | (simp [zj]; done) | skip
end Go.Proofs.YthljegacamgnnaaGreat
end
section
namespace Go.Proofs.YthljegacamgnnaaGreat
open Go Go.Sx
set_option maxRecDepth 20000
set_option maxHeartbeats 4000000
theorem q4h (us : List Bal) (a b : Int) (hl : us.length ≤ 1048576) : PC Tryz.prog 335 [.one (.l (us.map Bal.cs)), .one (i64 a), .one (i64 b)] (rI (y3s us a b)) := by
 refine PC.begin Tryz.func335 rfl (by kernel_rfl) ?_
 have hbs := fun fn hf => z74 us (fun x => q04 x ⟨a, b, 0⟩) fn ⟨a, b, 0⟩ hf hl
 cases hq : us[bsP (fun x => q04 x ⟨a, b, 0⟩) us]? with
 | none =>
   have hF : bsF (fun x => q04 x ⟨a, b, 0⟩) us = false := y7s hq
   refine z2 rfl (hbs _ (fun x _ => z0c x _)) rfl ⟨trivial, ⟨trivial, trivial, trivial, trivial⟩, (fun _ h => nomatch h), trivial⟩ ?_
   refine xb rfl (fun b0 => ?_) (fun b0 => ?_)
   refine xr rfl (z6 rfl ⟨⟨rfl, ?_, trivial⟩, z1 rfl⟩)
   rotate_left
   refine xs rfl (Int.natCast_nonneg _) ?_
   rotate_left
   all_goals first | (exfalso; rw [hF] at b0; cases b0; done) | exact vi (z4i hF)
 | some x =>
   have hg : (us.map Bal.cs)[((bsP (fun x => q04 x ⟨a, b, 0⟩) us : Nat) : Int).toNat]? = some x.cs := gm Bal.cs hq
   refine z2 rfl (hbs _ (fun x _ => z0c x _)) rfl ⟨trivial, ⟨trivial, trivial, trivial, trivial⟩, (fun _ h => nomatch h), trivial⟩ ?_
   refine xb rfl (fun b0 => ?_) (fun b0 => ?_)
   refine xr rfl (z6 rfl ⟨⟨rfl, ?_, trivial⟩, z1 rfl⟩)
   rotate_left
   refine xs rfl (Int.natCast_nonneg _) ?_
   refine za rfl _ hg ?_
   refine xs rfl rfl ?_
   refine xr rfl (z6 rfl ⟨⟨rfl, ?_, trivial⟩, z1 rfl⟩)
   rotate_left
   · exact vi (z4i (by simpa using b0))
   · exact vi (q52 (by simpa using b0) hq)
theorem q5n (us : List Bal) (l : Leg) (hl : us.length ≤ 1048576) (hb : -9000000000000000000 ≤ y3s us l.a l.b + l.v ∧ y3s us l.a l.b + l.v ≤ 9000000000000000000) : PC Tryz.prog 331 [.one (.l (us.map Bal.cs)), .agg l.cs] (rI (z7d us l)) := by
 refine PC.begin Tryz.func331 rfl (by kernel_rfl) ?_
 have hw : IntKind.i64.wrap (y3s us l.a l.b + l.v) = y3s us l.a l.b + l.v := wrap_i64 (by omega) (by omega)
 refine zb rfl [] (.take 0 [] (.take 1 [] (.take 2 [5, 8, 9] (.take 3 [] (.take 4 [5, 8, 9] (.take 6 [] (.take 7 [8, 9] (.alt 5 (.take 8 [] (.take 9 [] .done)) .nil)))))))) (by kernel_rfl) ?_
 refine z2 rfl (q4h _ _ _ (by omega)) rfl ⟨trivial, trivial, trivial, trivial⟩ ?_
 refine xb rfl (fun b0 => ?_) (fun b0 => ?_)
 refine xr rfl (z6 rfl ⟨⟨rfl, ?_, trivial⟩, z1 rfl⟩)
 rotate_left
 refine xb rfl (fun b1 => ?_) (fun b1 => ?_)
 refine xr rfl (z6 rfl ⟨⟨rfl, ?_, trivial⟩, z1 rfl⟩)
 rotate_left
 refine xr rfl (z6 rfl ⟨⟨rfl, ?_, trivial⟩, z1 rfl⟩)
 rotate_left
 all_goals (refine vi ?_; rw [hw] at *; simp_all [z7d]; try (repeat' split) <;> omega)
theorem z5t (us : List Bal) (ls : List Leg) (hl : us.length ≤ 1048576) (hl2 : ls.length ≤ 1048576) (hb : ∀ l ∈ ls, -9000000000000000000 ≤ hasB us l.a l.b + l.v ∧ hasB us l.a l.b + l.v ≤ 9000000000000000000) : PC Tryz.prog 303 [.one (.l (us.map Bal.cs)), .one (.l (ls.map Leg.cs))] (rI (q2w us ls)) := by
 refine PC.begin Tryz.func303 rfl (by kernel_rfl) ?_
 rw [q2w]
 refine zc rfl (ι := Nat) (fun i => i ≤ ls.length ∧ ∀ j, j < i → y5n us ls j = 0) (fun i => ⟨[(5, sV (.int .i64 i)), (0, .one (.b (.l (us.map Bal.cs)))), (1, .one (.b (.l (ls.map Leg.cs))))], []⟩) (fun i => ls.length - i) 0 ⟨Nat.zero_le _, fun j hj => by omega⟩ ?_ ?_
 · exact ⟨⟨rfl, rfl, rfl, trivial⟩, trivial, rfl⟩
 · intro i ⟨hi, h0⟩ J hJ
   refine xb rfl (fun h => ?_) (fun h => ?_)
   · have h : i < ls.length := by simpa using h
     obtain ⟨x, hx⟩ := gx h
     have hg := gm Leg.cs hx
     have hbx := hb x (List.mem_of_getElem? hx)
     have hw : IntKind.i64.wrap (hasB us x.a x.b + x.v) = hasB us x.a x.b + x.v := wrap_i64 (by omega) (by omega)
     refine zb rfl [] (.take 0 [] (.take 1 [] (.take 2 [] (.take 3 [] (.take 4 [] (.take 5 [11, 17, 18] (.take 6 [] (.take 7 [] (.take 8 [] (.take 9 [] (.take 10 [11, 17, 18] (.take 12 [] (.take 13 [] (.take 14 [] (.take 15 [] (.take 16 [17, 18] (.alt 11 (.take 17 [] (.take 18 [] .done)) .nil))))))))))))))))) (by kernel_rfl) ?_
     refine xs rfl (Int.natCast_nonneg _) ?_
     refine za rfl _ hg ?_
     refine xs rfl rfl ?_
     refine xs rfl (Int.natCast_nonneg _) ?_
     refine za rfl _ hg ?_
     refine xs rfl rfl ?_
     refine xs rfl (Int.natCast_nonneg _) ?_
     refine za rfl _ hg ?_
     refine xs rfl rfl ?_
     refine z2 rfl (y8n _ _ _ (by assumption)) rfl ⟨trivial, trivial, trivial, trivial⟩ ?_
     refine xb rfl (fun b0 => ?_) (fun b0 => ?_)
     refine xr rfl (z6 rfl ⟨⟨rfl, ?_, trivial⟩, z1 rfl⟩)
     rotate_left
     refine xb rfl (fun b1 => ?_) (fun b1 => ?_)
     refine xr rfl (z6 rfl ⟨⟨rfl, ?_, trivial⟩, z1 rfl⟩)
     rotate_left
     rotate_left
     all_goals (first | (refine vi (z7 h h0 ?_ (by first | decide | decide | simp_all)); clear hJ h0 hg; (simp only [hw] at *; simp_all [y5n, z9f]; try (repeat' split) <;> omega)) | (refine q9 rfl (hJ _ (i + 1) ⟨by omega, q8 h0 ?_⟩ (by omega) ⟨⟨cwi (by omega) (by omega) (by omega), rfl, rfl, trivial⟩, trivial, rfl⟩); clear hJ h0 hg; (simp only [hw] at *; simp_all [y5n, z9f]; try (repeat' split) <;> omega)))
   · have h : ¬ i < ls.length := by simpa using h
     have hz := qb (f := y5n us ls) (n := ls.length) (fun j hj => h0 j (by omega))
     refine xr rfl (z6 rfl ⟨⟨rfl, ?_, trivial⟩, z1 rfl⟩)
     exact vi (hz.symm)
theorem y5o (x : Mk) (c : Int) : PC Tryz.prog 284 [.agg x.cs, .one (i64 c)] (rI (z0a x.c c)) := by
 refine PC.begin Tryz.func284 rfl (by kernel_rfl) ?_
 refine z2 rfl (zp _ _) rfl ⟨trivial, trivial, trivial⟩ ?_
 refine xr rfl (z6 rfl ⟨⟨rfl, rfl, trivial⟩, z1 rfl⟩)
theorem q43 (us : List Mk) (c : Int) (hl : us.length ≤ 1048576) : PC Tryz.prog 221 [.one (.l (us.map Mk.cs)), .one (i64 c)] (bsV (fun x : Mk => z0a x.c c) us) := by
 refine PC.begin Tryz.func221 rfl (by kernel_rfl) ?_
 have hbs := fun fn hf => y85 us (fun x => z0a x.c c) fn c hf hl
 refine z2 rfl (hbs _ (fun x _ => y5o x c)) rfl ⟨trivial, trivial, (fun _ h => nomatch h), trivial⟩ ?_
 refine xr rfl (z6 rfl ⟨(by decide), ⟨⟨rfl, rfl, trivial⟩, ⟨rfl, rfl, trivial⟩, trivial⟩, z1 rfl⟩)
theorem q0b (us : List Mk) (c : Int) (hl : us.length ≤ 1048576) : PC Tryz.prog 146 [.one (.l (us.map Mk.cs)), .one (i64 c)] (rI (q1m us c)) := by
 refine PC.begin Tryz.func146 rfl (by kernel_rfl) ?_
 cases hq : us[bsP (fun x : Mk => z0a x.c c) us]? with
 | none =>
   have hF : bsF (fun x : Mk => z0a x.c c) us = false := y7s hq
   refine z2 rfl (q43 _ _ (by omega)) rfl ⟨trivial, trivial, trivial⟩ ?_
   refine xb rfl (fun b0 => ?_) (fun b0 => ?_)
   refine xr rfl (z6 rfl ⟨⟨rfl, ?_, trivial⟩, z1 rfl⟩)
   rotate_left
   refine xs rfl (Int.natCast_nonneg _) ?_
   rotate_left
   all_goals first | (exfalso; rw [hF] at b0; cases b0; done) | exact vi (y3k hF)
 | some x =>
   have hg : (us.map Mk.cs)[((bsP (fun x : Mk => z0a x.c c) us : Nat) : Int).toNat]? = some x.cs := gm Mk.cs hq
   refine z2 rfl (q43 _ _ (by omega)) rfl ⟨trivial, trivial, trivial⟩ ?_
   refine xb rfl (fun b0 => ?_) (fun b0 => ?_)
   refine xr rfl (z6 rfl ⟨⟨rfl, ?_, trivial⟩, z1 rfl⟩)
   rotate_left
   refine xs rfl (Int.natCast_nonneg _) ?_
   refine za rfl _ hg ?_
   refine xs rfl rfl ?_
   refine xr rfl (z6 rfl ⟨⟨rfl, ?_, trivial⟩, z1 rfl⟩)
   rotate_left
   · exact vi (y3k (by simpa using b0))
   · exact vi (y44 (by simpa using b0) hq)
theorem z5l (x : Con) (c : Int) : PC Tryz.prog 328 [.agg x.cs, .one (i64 c)] (rI (z0a x.id c)) := by
 refine PC.begin Tryz.func328 rfl (by kernel_rfl) ?_
 refine z2 rfl (zp _ _) rfl ⟨trivial, trivial, trivial⟩ ?_
 refine xr rfl (z6 rfl ⟨⟨rfl, rfl, trivial⟩, z1 rfl⟩)
theorem z6c (s : Shd) (c : Int) (hl : s.held.length ≤ 1048576) : PC Tryz.prog 307 [.agg s.cs, .one (i64 c)] (bsV (fun x : Con => z0a x.id c) s.held) := by
 refine PC.begin Tryz.func307 rfl (by kernel_rfl) ?_
 have hbs := fun fn hf => y74 s.held (fun x => z0a x.id c) fn c hf hl
 refine z2 rfl (hbs _ (fun x _ => z5l x c)) rfl ⟨trivial, trivial, (fun _ h => nomatch h), trivial⟩ ?_
 refine xr rfl (z6 rfl ⟨(by decide), ⟨⟨rfl, rfl, trivial⟩, ⟨rfl, rfl, trivial⟩, trivial⟩, z1 rfl⟩)
theorem y5s (s : Shd) (c : Int) (hl : s.held.length ≤ 1048576) : PC Tryz.prog 301 [.agg s.cs, .one (i64 c)] (rB (s.held.any (fun x : Con => x.id == c))) := by
 refine PC.begin Tryz.func301 rfl (by kernel_rfl) ?_
 refine zc rfl (ι := Nat) (fun i => i ≤ s.held.length ∧ ∀ j y, j < i → s.held[j]? = some y → (fun x : Con => x.id == c) y = false) (fun i => ⟨[(5, sV (.int .i64 i)), (1, sV (.int .i64 c)), (2, .one (.a 2 0))], [(2, .var (s.cs.map .b))]⟩) (fun i => s.held.length - i) 0 ⟨Nat.zero_le _, fun j y hj => by omega⟩ ?_ ?_
 · exact ⟨⟨rfl, rfl, ⟨rfl, rfl, rfl⟩, trivial⟩, ⟨lcr, trivial⟩, rfl⟩
 · intro i ⟨hi, h0⟩ J hJ
   refine xb rfl (fun h => ?_) (fun h => ?_)
   · have h : i < s.held.length := by simpa using h
     obtain ⟨x, hx⟩ := gx h
     have hg := gm Con.cs hx
     refine xs rfl (Int.natCast_nonneg _) ?_
     refine za rfl _ hg ?_
     refine xs rfl rfl ?_
     refine xb rfl (fun b0 => ?_) (fun b0 => ?_)
     refine xr rfl (z6 rfl ⟨⟨rfl, ?_, trivial⟩, z1 rfl⟩)
     rotate_left
     rotate_left
     all_goals first | exact vb (yo hx (by simp_all)) | exact q9 rfl (hJ _ (i + 1) ⟨by omega, qc hx h0 (by simp_all)⟩ (by omega) ⟨⟨cwi (by omega) (by omega) (by omega), rfl, ⟨rfl, rfl, rfl⟩, trivial⟩, ⟨lcr, trivial⟩, rfl⟩)
   · have h : ¬ i < s.held.length := by simpa using h
     refine xr rfl (z6 rfl ⟨⟨rfl, ?_, trivial⟩, z1 rfl⟩)
     exact vb (any_none (qg (by omega) h0))
theorem q6q (us ws : List Leg) (hl : us.length ≤ 1048576) (hl2 : ws.length ≤ 1048576) : PC Tryz.prog 232 [.one (.l (us.map Leg.cs)), .one (.l (ws.map Leg.cs))] (rB (z4g us ws)) := by
 refine PC.begin Tryz.func232 rfl (by kernel_rfl) ?_
 rw [z4g]
 refine zc rfl (ι := Nat) (fun i => i ≤ us.length ∧ ∀ j y, j < i → us[j]? = some y → (ws.any fun z => y.a == z.a && y.b == z.b) = false) (fun i => ⟨[(5, sV (.int .i64 i)), (0, .one (.b (.l (us.map Leg.cs)))), (1, .one (.b (.l (ws.map Leg.cs))))], []⟩) (fun i => us.length - i) 0 ⟨Nat.zero_le _, fun j y hj => by omega⟩ ?_ ?_
 · exact ⟨⟨rfl, rfl, rfl, trivial⟩, trivial, rfl⟩
 · intro i ⟨hi, h0⟩ J hJ
   refine xb rfl (fun h => ?_) (fun h => ?_)
   · have h : i < us.length := by simpa using h
     obtain ⟨x, hx⟩ := gx h
     have hg := gm Leg.cs hx
     refine zc rfl (ι := Nat) (fun k => k ≤ ws.length ∧ ∀ j y, j < k → ws[j]? = some y → (x.a == y.a && x.b == y.b) = false) (fun k => ⟨[(6, sV (.int .i64 k)), (5, sV (.int .i64 i)), (0, .one (.b (.l (us.map Leg.cs)))), (1, .one (.b (.l (ws.map Leg.cs))))], []⟩) (fun k => ws.length - k) 0 ⟨Nat.zero_le _, fun j y hj => by omega⟩ ?_ ?_
     · exact ⟨⟨rfl, rfl, rfl, rfl, trivial⟩, trivial, rfl⟩
     · intro k ⟨hk, h1⟩ J2 hJ2
       refine xb rfl (fun h' => ?_) (fun h' => ?_)
       · have h' : k < ws.length := by simpa using h'
         obtain ⟨y, hy⟩ := gx h'
         have hg2 := gm Leg.cs hy
         refine zb rfl [] (.take 0 [] (.take 1 [] (.take 2 [] (.take 3 [] (.take 4 [10, 11, 12, 13, 14, 15, 16, 17, 18, 19, 20, 21, 22, 23] (.take 5 [] (.take 6 [] (.take 7 [] (.take 8 [] (.take 9 [10, 11, 12, 13, 14, 15, 16, 17, 18, 19, 20, 21, 22, 23] (.take 10 [] (.take 11 [] (.take 12 [] (.take 13 [] (.take 14 [] (.take 15 [] (.take 16 [22, 23] (.take 17 [] (.take 18 [] (.take 19 [] (.take 20 [] (.take 21 [22, 23] (.take 22 [] (.take 23 [] .done)))))))))))))))))))))))) (by kernel_rfl) ?_
         refine xs rfl (Int.natCast_nonneg _) ?_
         refine za rfl _ hg ?_
         refine xs rfl rfl ?_
         refine xs rfl (Int.natCast_nonneg _) ?_
         refine za rfl _ hg2 ?_
         refine xs rfl rfl ?_
         refine xb rfl (fun b0 => ?_) (fun b0 => ?_)
         refine xj (k := 2) rfl ?_
         refine xs rfl (Int.natCast_nonneg _) ?_
         refine za rfl _ hg ?_
         refine xs rfl rfl ?_
         refine xj (k := 5) rfl ?_
         refine xs rfl (Int.natCast_nonneg _) ?_
         refine za rfl _ hg2 ?_
         refine xs rfl rfl ?_
         refine xj (k := 4) rfl ?_
         refine xb rfl (fun b1 => ?_) (fun b1 => ?_)
         refine xr rfl (z6 rfl ⟨⟨rfl, ?_, trivial⟩, z1 rfl⟩)
         rotate_left
         rotate_left
         refine xj (k := 12) rfl ?_
         rotate_left
         all_goals first | (refine vb (yo hx (yo hy ?_).symm); simp_all; done) | exact q9 rfl (hJ2 _ (k + 1) ⟨by omega, qc hy h1 (by simp_all)⟩ (by omega) ⟨⟨cwi (by omega) (by omega) (by omega), rfl, rfl, rfl, trivial⟩, trivial, rfl⟩)
       · have h' : ¬ k < ws.length := by simpa using h'
         skip
         exact q9 rfl (hJ _ (i + 1) ⟨by omega, qc hx h0 (any_none (qg (by omega) h1)).symm⟩ (by omega) ⟨⟨cwi (by omega) (by omega) (by omega), rfl, rfl, trivial⟩, trivial, rfl⟩)
   · have h : ¬ i < us.length := by simpa using h
     refine xr rfl (z6 rfl ⟨⟨rfl, ?_, trivial⟩, z1 rfl⟩)
     exact vb (any_none (qg (by omega) h0))
end Go.Proofs.YthljegacamgnnaaGreat
end
section
namespace Go.Proofs.YthljegacamgnnaaGreat
open Go Go.Sx
set_option maxRecDepth 20000
set_option maxHeartbeats 4000000
theorem z76 (x y : Leg) : PC Tryz.prog 255 [.agg x.cs, .one (.p y.cs)] (rB (x.same y)) := by
 refine PC.begin Tryz.func255 rfl (by kernel_rfl) ?_
 refine z2 rfl (z21 _ _) rfl ⟨⟨trivial, trivial, trivial, trivial, trivial⟩, ⟨trivial, trivial, trivial, trivial, trivial⟩, trivial⟩ ?_
 refine xr rfl (z6 rfl ⟨⟨rfl, rfl, trivial⟩, z1 rfl⟩)
theorem q3h (c : Con) (hl : c.legs.length ≤ 1048576) : PC Tryz.prog 200 [.agg c.cs] (rI (zk c)) := by
 refine PC.begin Tryz.func200 rfl (by kernel_rfl) ?_
 have hKd : Maps.Keyed Tryz.prog 2 := Maps.int_keyed Tryz.underlying2
 have hz : ∀ w, (zeroValue 2).run Tryz.prog w = .ok (.int .i64 0) w := fun w => by kernel_rfl
 have hsz : (Go.Sx.within (((c.legs.map Leg.cs).length : Nat) : Int) 2 8 = true) = (2 ≤ c.legs.length ∧ c.legs.length ≤ 8) := by rw [Go.Sx.within_iff, List.length_map]; apply propext; omega
 unfold zk
 refine z2 rfl (q3i _) rfl ⟨trivial, trivial⟩ ?_
 refine xb rfl (fun b0 => ?_) (fun b0 => ?_)
 refine xr rfl (z6 rfl ⟨⟨rfl, ?_, trivial⟩, z1 rfl⟩)
 rotate_left
 refine z2 rfl (q5s _) rfl ⟨trivial, trivial⟩ ?_
 refine z2 rfl (qj _ _ _) rfl ⟨trivial, trivial, trivial, trivial⟩ ?_
 refine xb rfl (fun b1 => ?_) (fun b1 => ?_)
 refine xr rfl (z6 rfl ⟨⟨rfl, ?_, trivial⟩, z1 rfl⟩)
 rotate_left
 rotate_left
 · refine vi ?_; simp_all
 · refine vi ?_
   have hid : Go.Sx.within c.id 1 1000000000 = true := by simpa using b0
   have hn : ¬ (2 ≤ c.legs.length ∧ c.legs.length ≤ 8) := by rw [← hsz]; simpa using b1
   rw [if_pos hid, if_neg hn]
 have hid : Go.Sx.within c.id 1 1000000000 = true := by simpa using b0
 have hn : 2 ≤ c.legs.length ∧ c.legs.length ≤ 8 := by rw [← hsz]; simpa using b1
 rw [if_pos hid, if_pos hn]
 clear b0 b1 hsz hid
 refine y9a rfl rfl rfl Tryz.underlying302 rfl ?_
 refine zc rfl (ι := Nat × DataW Unit) (fun p => p.1 ≤ c.legs.length ∧ (∀ j, j < p.1 → q2s c.legs j = 0) ∧ SM (c.legs.take p.1) p.2) (fun p => ⟨[(24, sV (.int .i64 p.1)), (1, .one (.a 1 0)), (3, .one (.mx 0 20)), (22, .one (.b (.l (c.legs.map Leg.cs)))), (23, sV (.int .i64 c.legs.length))], [(1, .var (c.cs.map .b)), (20, .mp 2 2 p.1 p.2 none)]⟩) (fun p => c.legs.length - p.1) (0, .map []) ⟨Nat.zero_le _, fun j hj => (by omega), q8v⟩ ?_ ?_
 · exact ⟨⟨rfl, ⟨rfl, rfl, rfl⟩, ⟨rfl, rfl, rfl⟩, rfl, (by rw [List.length_map]; rfl), trivial⟩, ⟨lcr, ⟨rfl, rfl, rfl, rfl, rfl⟩, trivial⟩, rfl⟩
 · intro ⟨i, D⟩ ⟨hi, h0, hS⟩ J hJ
   dsimp only at hi h0 hS hJ ⊢
   refine xb rfl (fun h => ?_) (fun h => ?_)
   · have h : i < c.legs.length := by simpa using h
     obtain ⟨x, hx⟩ := gx h
     have hg := gm Leg.cs hx
     have hd : ∀ y ∈ c.legs.take i, y.fault = 0 := z16 h0
     refine xs rfl (Int.natCast_nonneg _) ?_
     refine za rfl _ hg ?_
     refine xs rfl rfl ?_
     refine z2 rfl (z41 _) rfl ⟨⟨trivial, trivial, trivial, trivial, trivial⟩, trivial⟩ ?_
     refine xb rfl (fun b0 => ?_) (fun b0 => ?_)
     refine xr rfl (z6 rfl ⟨⟨rfl, ?_, trivial⟩, z1 rfl⟩)
     rotate_left
     refine xs rfl (.inl rfl) ?_
     refine xs rfl (Int.natCast_nonneg _) ?_
     refine xs rfl (Int.natCast_nonneg _) ?_
     refine xs rfl (by simp; omega) ?_
     refine z2 rfl (y4i _ (c.legs.take i) (fun y => y.same x) _ _ (by simp [List.map_take]) (fun y _ => z76 y x) (by rw [List.length_take]; omega)) rfl ⟨trivial, (List.forall_mem_cons.2 ⟨⟨trivial, trivial, trivial, trivial, trivial⟩, (fun _ h => nomatch h)⟩), trivial⟩ ?_
     refine xb rfl (fun b1 => ?_) (fun b1 => ?_)
     refine xr rfl (z6 rfl ⟨⟨rfl, ?_, trivial⟩, z1 rfl⟩)
     rotate_left
     rotate_left
     · refine vi ?_
       rw [q0m h0 (by simp_all [q2s]) h]; simp_all [q2s]
     · refine vi ?_
       rw [q0m h0 (by simp_all [q2s]) h]; simp_all [q2s]
     have hxf : x.fault = 0 := by simpa using b0
     have hok := Leg.q08 hxf
     have hkey : keyOf Tryz.prog 2 (.int .i64 x.b) = some (.int .i64 x.b) := Maps.keyOf_int_mk Tryz.underlying2 (wfi (by omega) (by omega))
     refine y9s rfl rfl rfl rfl Tryz.underlying302 Tryz.underlying2 hKd hz rfl rfl hkey (fun cc hat hwc => ?_)
     have hw := z5z hS hxf hd (by omega) hat
     have hb := y3p (c.legs.take i) x.b (fun y hy => (Leg.q08 (hd y hy)).2.2.2.1)
     have hsm := hok.2.2.2.1
     have hlen : (c.legs.take i).length ≤ 8 := by rw [List.length_take]; omega
     unfold Leg.small at hsm
     have hwf : (Lit.int .i64 (IntKind.i64.wrap (cc + x.v))).wf = true := by rw [hw.2]; exact wfi (by omega) (by omega)
     skip
     refine za6 rfl rfl rfl rfl rfl Tryz.underlying302 Tryz.underlying2 hKd (show i < maxLen by unfold maxLen; omega) rfl rfl hkey rfl hwf ?_
     skip
     exact q9 rfl (hJ _ (i + 1, _) ⟨by omega, q8 h0 (by simp_all [q2s]), q80 hS hx hxf hd (by omega) hat⟩ (by dsimp only; omega) ⟨⟨cwi (by omega) (by omega) (by omega), ⟨rfl, rfl, rfl⟩, ⟨rfl, rfl, rfl⟩, rfl, rfl, trivial⟩, ⟨lcr, ⟨rfl, rfl, rfl, rfl, rfl⟩, trivial⟩, rfl⟩)
   · have h : i = c.legs.length := by have : ¬ i < c.legs.length := by simpa using h
                                      omega
     have hd : ∀ y ∈ c.legs, y.fault = 0 := by have := z16 h0; rwa [h, List.take_length] at this
     have hz2 := qb (f := q2s c.legs) (n := c.legs.length) (fun j hj => h0 j (by omega))
     rw [h, List.take_length] at hS
     rw [hz2]
     skip
     refine z9b rfl rfl rfl rfl rfl rfl Tryz.underlying302 hKd ?_
     refine zc rfl (ι := (Lit → Bool) × Nat × Option (Value × Value)) (fun p => ∀ a : Int, p.1 (.int .i64 a) = false → q0w c.legs a = 0) (fun p => ⟨[(49, .one (.mx 1 49))], [(49, .mp 2 2 i D (some p))]⟩) (fun p => p.2.1) (Maps.has D, Maps.size D, none) (y80 hS) ?_ ?_
     · exact ⟨⟨⟨rfl, rfl, rfl⟩, trivial⟩, ⟨⟨rfl, rfl, rfl, rfl, rfl⟩, trivial⟩, rfl⟩
     · intro ⟨left, cnt, cur⟩ hL J2 hJ2
       dsimp only at hL hJ2 ⊢
       refine q9a rfl rfl rfl rfl rfl hKd Tryz.underlying2 Tryz.underlying2 (fun _ hall => ?_) (fun y cc cnt' hl hat hwc hlt => ?_)
       · skip
         refine xj (k := 1) rfl ?_
         refine xr rfl (z6 rfl ⟨⟨rfl, ?_, trivial⟩, z1 rfl⟩)
         exact vi (by rw [y5t (fun a => hL a (hall _))]; rfl)
       · have hy := z9j hS hat
         refine xj (k := 1) rfl ?_
         refine q99 rfl rfl rfl rfl rfl rfl rfl (fun vs h => (nomatch h)) (fun vs h => (nomatch h)) ?_
         refine xb rfl (fun b0 => ?_) (fun b0 => ?_)
         refine xr rfl (z6 rfl ⟨⟨rfl, ?_, trivial⟩, z1 rfl⟩)
         rotate_left
         rotate_left
         · exact vi (by rw [z2q hd (a := y) (by rw [hy]; simpa using b0)]; rfl)
         · exact q9 rfl (hJ2 _ (_, cnt', _) (y95 hL hy (by simpa using b0)) hlt ⟨⟨⟨rfl, rfl, rfl⟩, trivial⟩, ⟨⟨rfl, rfl, rfl, rfl, rfl⟩, trivial⟩, rfl⟩)
end Go.Proofs.YthljegacamgnnaaGreat
end
section
namespace Go.Proofs.YthljegacamgnnaaGreat
open Go Go.Sx
set_option maxRecDepth 20000
set_option maxHeartbeats 4000000
theorem z3n (c : Con) (hl : c.legs.length ≤ 1048576) : PC Tryz.prog 180 [.agg c.cs] (rI (zk c)) := by
 refine PC.begin Tryz.func180 rfl (by kernel_rfl) ?_
 have fin : ∀ n : Int, (Go.Sx.within c.id 1 1000000000 = true → (2 ≤ c.legs.length ∧ c.legs.length ≤ 8) → n = (if scan (q2s c.legs) c.legs.length ≠ 0 then scan (q2s c.legs) c.legs.length else if q1h c.legs then 1 else 0)) → (Go.Sx.within c.id 1 1000000000 = true) → (2 ≤ c.legs.length ∧ c.legs.length ≤ 8) → n = zk c := fun n h1 h2 h3 => by
  unfold zk; rw [if_pos h2, if_pos h3]; exact h1 h2 h3
 refine z2 rfl (z3j _) rfl ⟨trivial, trivial⟩ ?_
 refine xb rfl (fun b0 => ?_) (fun b0 => ?_)
 refine xr rfl (z6 rfl ⟨⟨rfl, ?_, trivial⟩, z1 rfl⟩)
 rotate_left
 refine xb rfl (fun b1 => ?_) (fun b1 => ?_)
 refine xj (k := 5) rfl ?_
 refine xr rfl (z6 rfl ⟨⟨rfl, ?_, trivial⟩, z1 rfl⟩)
 rotate_left
 refine xj (k := 4) rfl ?_
 refine xb rfl (fun b2 => ?_) (fun b2 => ?_)
 refine xr rfl (z6 rfl ⟨⟨rfl, ?_, trivial⟩, z1 rfl⟩)
 rotate_left
 refine xs rfl rfl ?_
 refine xs rfl (Int.natCast_nonneg _) ?_
 refine xs rfl (Int.natCast_nonneg _) ?_
 refine xs rfl (Int.natCast_nonneg _) ?_
 rotate_left
 · refine vi ?_; unfold zk; simp_all
 · refine vi ?_
   have hid : Go.Sx.within c.id 1 1000000000 = true := by simpa using b0
   unfold zk
   rw [if_pos hid, if_neg (by simp at b1; omega)]
 · refine vi ?_
   have hid : Go.Sx.within c.id 1 1000000000 = true := by simpa using b0
   unfold zk
   rw [if_pos hid, if_neg (by simp at b2; omega)]
 have hid : Go.Sx.within c.id 1 1000000000 = true := by simpa using b0
 have hn : 2 ≤ c.legs.length ∧ c.legs.length ≤ 8 := by
  simp at b1 b2; omega
 clear b0 b1 b2
 refine zc rfl (ι := Nat) (fun i => i ≤ c.legs.length ∧ ∀ j, j < i → q2s c.legs j = 0) (fun i => ⟨[(4, sV (.int .i64 i)), (1, .one (.a 1 0)), (3, .one (.h 24 3))], [(1, .var (c.cs.map .b)), (24, .arr true 1 0 (z48 (c.legs.take i)))]⟩) (fun i => c.legs.length - i) 0 ⟨Nat.zero_le _, fun j hj => (by omega)⟩ ?_ ?_
 · exact ⟨⟨rfl, ⟨rfl, rfl, rfl⟩, ⟨rfl, rfl, rfl⟩, trivial⟩, ⟨lcr, ⟨rfl, .inl rfl, .inl rfl⟩, trivial⟩, rfl⟩
 · intro i ⟨hi, h0⟩ J hJ
   have hd : ∀ y ∈ c.legs.take i, y.fault = 0 := z16 h0
   refine xb rfl (fun h => ?_) (fun h => ?_)
   · have h : i < c.legs.length := by simpa using h
     obtain ⟨x, hx⟩ := gx h
     have hg := gm Leg.cs hx
     refine xs rfl (Int.natCast_nonneg _) ?_
     refine za rfl _ hg ?_
     refine xs rfl rfl ?_
     refine z2 rfl (q48 _) rfl ⟨⟨trivial, trivial, trivial, trivial, trivial⟩, trivial⟩ ?_
     refine xb rfl (fun b0 => ?_) (fun b0 => ?_)
     refine xr rfl (z6 rfl ⟨⟨rfl, ?_, trivial⟩, z1 rfl⟩)
     rotate_left
     rotate_left
     · refine vi (fin _ (fun _ _ => ?_) hid hn)
       rw [q0m h0 (by simp_all [q2s]) h]; simp_all [q2s]
     have hxf : x.fault = 0 := by simpa using b0
     have hok := Leg.q08 hxf
     refine zc rfl (ι := Nat) (fun k => k ≤ i ∧ ∀ j y, j < k → c.legs[j]? = some y → y.same x = false) (fun k => ⟨[(7, sV (.int .i64 k)), (4, sV (.int .i64 i)), (1, .one (.a 1 0)), (3, .one (.h 24 3)), (5, .one (.a 5 0))], [(1, .var (c.cs.map .b)), (24, .arr true 1 0 (z48 (c.legs.take i))), (5, .var (x.cs.map .b))]⟩) (fun k => i - k) 0 ⟨Nat.zero_le _, fun j y hj => (by omega)⟩ ?_ ?_
     · exact ⟨⟨rfl, rfl, ⟨rfl, rfl, rfl⟩, ⟨rfl, rfl, rfl⟩, ⟨rfl, rfl, rfl⟩, trivial⟩, ⟨lcr, ⟨rfl, .inl rfl, .inl rfl⟩, ⟨rfl, rfl, rfl, rfl, trivial⟩, trivial⟩, rfl⟩
     · intro k ⟨hk, h1⟩ J2 hJ2
       refine xb rfl (fun h' => ?_) (fun h' => ?_)
       · have h' : k < i := by simpa using h'
         obtain ⟨y, hy⟩ := gx (xs := c.legs) (i := k) (by omega)
         have hg2 := gm Leg.cs hy
         have hyt : (c.legs.take i)[k]? = some y := by rw [List.getElem?_take, if_pos h', hy]
         refine xs rfl (Int.natCast_nonneg _) ?_
         refine za rfl _ hg2 ?_
         refine xs rfl rfl ?_
         refine xb rfl (fun b0 => ?_) (fun b0 => ?_)
         refine xj (k := 5) rfl ?_
         refine xb rfl (fun b1 => ?_) (fun b1 => ?_)
         refine xj (k := 5) rfl ?_
         refine xb rfl (fun b2 => ?_) (fun b2 => ?_)
         refine xr rfl (z6 rfl ⟨⟨rfl, ?_, trivial⟩, z1 rfl⟩)
         rotate_left
         rotate_left
         refine xj (k := 6) rfl ?_
         rotate_left
         refine xj (k := 12) rfl ?_
         rotate_left
         all_goals first | (refine vi (fin _ (fun _ _ => ?_) hid hn); have hsame : y.same x = true := (by simp_all [Leg.same]); have ha := (yo (p := fun y : Leg => y.same x) hyt hsame).symm; have hc7 : q2s c.legs i = 7 := (by simp only [q2s, hx, hxf]; rw [if_neg (by simp), if_pos ha]); rw [q0m h0 (by rw [hc7]; decide) h, hc7]; rfl) | exact q9 rfl (hJ2 _ (k + 1) ⟨by omega, qc hy h1 (by simp_all [Leg.same])⟩ (by omega) ⟨⟨cwi (by omega) (by omega) (by omega), rfl, ⟨rfl, rfl, rfl⟩, ⟨rfl, rfl, rfl⟩, ⟨rfl, rfl, rfl⟩, trivial⟩, ⟨lcr, ⟨rfl, .inl rfl, .inl rfl⟩, ⟨rfl, rfl, rfl, rfl, trivial⟩, trivial⟩, rfl⟩)
       · have h' : ¬ k < i := by simpa using h'
         have hnone := any_none (p := fun y : Leg => y.same x) (l := c.legs.take i) (fun j y hj => by
          rw [List.getElem?_take] at hj
          split at hj
          · exact h1 j y (by omega) hj
          · cases hj)
         have hc0 : q2s c.legs i = 0 := by
          simp only [q2s, hx, hxf]; rw [if_neg (by simp), if_neg (by rw [← hnone]; decide)]
         have hrow := y48 (l := c.legs.take i) (b := x.b) (by omega) (by omega)
         have hb0 : 0 ≤ x.b := by omega
         refine zb rfl [] (.take 0 [] (.take 1 [] (.take 2 [11, 12] (.take 3 [] (.take 4 [] (.take 5 [6, 7, 10, 11, 12] (.take 6 [] (.take 7 [10, 11, 12] (.take 8 [] (.take 9 [10, 11, 12] (.take 10 [] (.take 11 [] (.alt 12 .done .nil))))))))))))) (by kernel_rfl) ?_
         refine xs rfl rfl ?_
         refine xs rfl (hb0) ?_
         refine za rfl _ hrow ?_
         refine xs rfl rfl ?_
         refine xs rfl rfl ?_
         refine za rfl _ hrow ?_
         refine xs rfl rfl ?_
         refine xs rfl (hb0) ?_
         refine za rfl _ hrow ?_
         refine xs rfl rfl ?_
         refine xs rfl rfl ?_
         refine za rfl _ hrow ?_
         refine xs rfl (Nat.le_refl _) ?_
         refine xs rfl ⟨trivial, trivial⟩ ?_
         exact q9 rfl (hJ _ (i + 1) ⟨by omega, q8 h0 hc0⟩ (by omega) ⟨⟨cwi (by omega) (by omega) (by omega), ⟨rfl, rfl, rfl⟩, ⟨rfl, rfl, rfl⟩, trivial⟩, ⟨lcr, ⟨q5r hx (by omega) (by omega) hd hxf (by omega), .inl rfl, .inl rfl⟩, trivial⟩, rfl⟩)
   · have h : i = c.legs.length := by have : ¬ i < c.legs.length := by simpa using h
                                      omega
     have hz2 := qb (f := q2s c.legs) (n := c.legs.length) (fun j hj => h0 j (by omega))
     rw [h, List.take_length] at hd
     rw [h, List.take_length]
     skip
     refine zc rfl (ι := Nat) (fun k => k ≤ 3 ∧ ∀ j : Nat, j < k → q0w c.legs j = 0) (fun k => ⟨[(9, sV (.int .i64 k)), (3, .one (.h 24 3))], [(24, .arr true 1 0 (z48 c.legs))]⟩) (fun k => 3 - k) 0 ⟨by omega, fun j hj => (by omega)⟩ ?_ ?_
     · exact ⟨⟨rfl, ⟨rfl, rfl, rfl⟩, trivial⟩, ⟨⟨rfl, .inl rfl, .inl rfl⟩, trivial⟩, rfl⟩
     · intro k ⟨hk, h1⟩ J2 hJ2
       refine xb rfl (fun h' => ?_) (fun h' => ?_)
       · have h' : k < 3 := by simp at h'; omega
         have hrow : (z48 c.legs)[(k : Int).toNat]? = some [i64 (q0w c.legs k)] := y48 (by omega) (by omega)
         refine xs rfl rfl ?_
         refine xs rfl (Int.natCast_nonneg _) ?_
         refine za rfl _ hrow ?_
         refine xs rfl rfl ?_
         refine xs rfl rfl ?_
         refine za rfl _ hrow ?_
         refine xb rfl (fun b0 => ?_) (fun b0 => ?_)
         refine xr rfl (z6 rfl ⟨⟨rfl, ?_, trivial⟩, z1 rfl⟩)
         rotate_left
         rotate_left
         · refine vi (fin _ (fun _ _ => ?_) hid hn)
           rw [hz2, z2q hd (a := k) (by simpa using b0)]; rfl
         · exact q9 rfl (hJ2 _ (k + 1) ⟨by omega, fun j hj => by
            by_cases e : j = k
            · subst e; simpa using b0
            · exact h1 j (by omega)⟩ (by omega) ⟨⟨cwi (by omega) (by omega) (by omega), ⟨rfl, rfl, rfl⟩, trivial⟩, ⟨⟨rfl, .inl rfl, .inl rfl⟩, trivial⟩, rfl⟩)
       · have h' : k = 3 := by simp at h'; omega
         subst h'
         refine xr rfl (z6 rfl ⟨⟨rfl, ?_, trivial⟩, z1 rfl⟩)
         refine vi (fin _ (fun _ _ => ?_) hid hn)
         have a0 := h1 0 (by omega)
         have a1 := h1 1 (by omega)
         have a2 := h1 2 (by omega)
         rw [hz2]
         simp at a0 a1 a2
         simp [q1h, a0, a1, a2]
end Go.Proofs.YthljegacamgnnaaGreat
end
section
namespace Go.Proofs.YthljegacamgnnaaGreat
open Go Go.Sx
set_option maxRecDepth 20000
set_option maxHeartbeats 4000000
def z3t (s : Shd) : Prop := s.bals.length ≤ 1048576 ∧ s.votes.length ≤ 1048576 ∧ s.held.length ≤ 1048576 ∧ s.done.length ≤ 1048576 ∧ s.app.length ≤ 1048576 ∧ ∀ c ∈ s.held, c.legs.length ≤ 1048576
theorem q92 (rr : List (List Cell)) (us : List Mk) (p : Mk → Bool) (fn : Nat) (s : Shd) (hr : rr = us.map Mk.cs) (hf : ∀ x ∈ us, PC Tryz.prog fn [.agg s.cs, .agg x.cs] (rB (p x))) (hl : us.length ≤ 1048576) : PC Tryz.prog 266 [.one (.l rr), .one (.m fn true s.cs)] (rI (z0y p us)) := by
 refine PC.begin Tryz.func266 rfl (by kernel_rfl) ?_
 subst hr
 have hn : (us.map Mk.cs).length = us.length := by simp
 refine zc rfl (ι := Nat) (fun i => i ≤ us.length ∧ ∀ j y, j < i → us[j]? = some y → p y = false) (fun i => ⟨[(8, sV (.int .i64 i)), (7, sV (.int .i64 (us.map Mk.cs).length)), (0, .one (.b (.l (us.map Mk.cs)))), (1, .one (.b (.m fn true s.cs)))], []⟩) (fun i => us.length - i) 0 ⟨Nat.zero_le _, fun j y hj => by omega⟩ ?_ ?_
 · exact ⟨⟨rfl, rfl, rfl, rfl, trivial⟩, trivial, rfl⟩
 · intro i ⟨hi, h0⟩ J hJ
   refine xb rfl (fun h => ?_) (fun h => ?_)
   · have h : i < us.length := by simpa using h
     obtain ⟨x, hx⟩ := gx h
     have hg := gm Mk.cs hx
     have hxm := List.mem_of_getElem? hx
     refine xs rfl (Int.natCast_nonneg _) ?_
     refine za rfl _ hg ?_
     refine xs rfl rfl ?_
     refine z2 rfl (hf _ hxm) rfl ⟨⟨trivial, trivial, trivial, trivial, trivial, trivial, trivial⟩, ⟨trivial, trivial, trivial⟩, trivial⟩ ?_
     refine xb rfl (fun b0 => ?_) (fun b0 => ?_)
     refine xr rfl (z6 rfl ⟨⟨rfl, ?_, trivial⟩, z1 rfl⟩)
     rotate_left
     rotate_left
     · exact vi (y00 hx h0 b0).symm
     · exact q9 rfl (hJ _ (i + 1) ⟨by omega, qc hx h0 b0⟩ (by omega) ⟨⟨cwi (by omega) (by omega) (by omega), rfl, rfl, rfl, trivial⟩, trivial, rfl⟩)
   · have h : ¬ i < us.length := by simpa using h
     refine xr rfl (z6 rfl ⟨⟨rfl, ?_, trivial⟩, z1 rfl⟩)
     exact vi (yv (qg (by omega) h0)).symm
theorem y8y (rr : List (List Cell)) (us : List Mk) (p : Mk → Bool) (fn : Nat) (s : Shd) (hr : rr = us.map Mk.cs) (hf : ∀ x ∈ us, PC Tryz.prog fn [.agg s.cs, .agg x.cs] (rB (p x))) (hl : us.length ≤ 1048576) : PC Tryz.prog 205 [.one (.l rr), .one (.m fn true s.cs)] (rB (us.any p)) := by
 refine PC.begin Tryz.func205 rfl (by kernel_rfl) ?_
 have hi := q92 rr us p fn s hr hf hl
 refine z2 rfl (hi) rfl ⟨trivial, trivial, trivial⟩ ?_
 refine xr rfl (z6 rfl ⟨⟨rfl, ?_, trivial⟩, z1 rfl⟩)
 exact vb z09
theorem q40 (s : Shd) (ho : z3t s) : PC Tryz.prog 262 [.agg s.cs] (rI (ym q1m s)) := by
 refine PC.begin Tryz.func262 rfl (by kernel_rfl) ?_
 have ho' := ho
 obtain ⟨o1, o2, o3, o4, o5, o6⟩ := ho'
 rw [ym]
 refine zc rfl (ι := Nat) (fun i => i ≤ s.held.length ∧ ∀ j, j < i → z1a q1m s j = 0) (fun i => ⟨[(9, sV (.int .i64 i)), (1, .one (.a 1 0)), (7, .one (.b (.l (s.held.map Con.cs)))), (8, sV (.int .i64 (s.held.map Con.cs).length))], [(1, .var (s.cs.map .b))]⟩) (fun i => s.held.length - i) 0 ⟨Nat.zero_le _, fun j hj => by omega⟩ ?_ ?_
 · exact ⟨⟨rfl, ⟨rfl, rfl, rfl⟩, rfl, rfl, trivial⟩, ⟨lcr, trivial⟩, rfl⟩
 · intro i ⟨hi, h0⟩ J hJ
   refine xb rfl (fun h => ?_) (fun h => ?_)
   · have h : i < s.held.length := by simpa using h
     obtain ⟨x, hx⟩ := gx h
     have hg := gm Con.cs hx
     have hcl := o6 x (List.mem_of_getElem? hx)
     rcases Nat.eq_zero_or_pos i with hz | hz
     · subst hz
       refine xs rfl (Int.natCast_nonneg _) ?_
       refine za rfl _ hg ?_
       refine xs rfl rfl ?_
       refine z2 rfl (q3h _ (by assumption)) rfl ⟨⟨trivial, trivial, trivial⟩, trivial⟩ ?_
       refine xb rfl (fun b0 => ?_) (fun b0 => ?_)
       refine xr rfl (z6 rfl ⟨⟨rfl, ?_, trivial⟩, z1 rfl⟩)
       rotate_left
       refine zb rfl [] (.take 0 [] (.take 1 [] (.take 2 [] (.take 3 [] (.take 4 [7, 8, 9, 12, 13, 14, 15, 16, 17, 18, 19, 20, 21, 22, 23, 24, 25, 26, 27, 28, 29, 30, 31, 32, 33, 34, 35, 36, 37] (.take 5 [] (.take 6 [] (.take 7 [] (.take 8 [] (.take 9 [12, 13, 14, 15, 16, 17, 18, 19, 20, 21, 22, 23, 24, 25, 26, 27, 28, 29, 30, 31, 32, 33, 34, 35, 36, 37] (.take 10 [] (.take 11 [12, 13, 14, 15, 16, 17, 18, 19, 20, 21, 22, 23, 24, 25, 26, 27, 28, 29, 30, 31, 32, 33, 34, 35, 36, 37] (.take 12 [] (.take 13 [] (.take 14 [] (.take 15 [18, 19, 20, 21, 22, 23, 24, 25, 26, 27, 28, 29, 30, 31, 32, 33, 34, 35, 36, 37] (.take 16 [] (.take 17 [18, 19, 20, 21, 22, 23, 24, 25, 26, 27, 28, 29, 30, 31, 32, 33, 34, 35, 36, 37] (.alt 18 (.take 19 [] (.take 20 [] (.take 21 [] (.take 22 [] (.take 23 [] (.take 24 [27, 28, 29, 30, 31, 32, 33, 34, 35, 36, 37] (.take 25 [] (.take 26 [27, 28, 29, 30, 31, 32, 33, 34, 35, 36, 37] (.alt 27 (.take 28 [] (.take 29 [] (.take 30 [] (.take 31 [] (.take 32 [35, 36, 37] (.take 33 [] (.take 34 [35, 36, 37] (.alt 35 (.take 36 [] (.take 37 [] .done)) .nil)))))))) .nil))))))))) .nil))))))))))))))))))) (by kernel_rfl) ?_
       refine xj (k := 15) rfl ?_
       refine z2 rfl (q0s _ _ (by omega)) rfl ⟨⟨trivial, trivial, trivial⟩, trivial, trivial⟩ ?_
       refine xj (k := 3) rfl ?_
       refine xb rfl (fun b1 => ?_) (fun b1 => ?_)
       refine xj (k := 14) rfl ?_
       refine xr rfl (z6 rfl ⟨⟨rfl, ?_, trivial⟩, z1 rfl⟩)
       rotate_left
       refine xj (k := 4) rfl ?_
       refine z2 rfl (q0b _ _ (by omega)) rfl ⟨trivial, trivial, trivial⟩ ?_
       refine xj (k := 2) rfl ?_
       refine xb rfl (fun b2 => ?_) (fun b2 => ?_)
       refine xj (k := 7) rfl ?_
       refine xr rfl (z6 rfl ⟨⟨rfl, ?_, trivial⟩, z1 rfl⟩)
       rotate_left
       refine xj (k := 4) rfl ?_
       refine z2 rfl (q0b _ _ (by omega)) rfl ⟨trivial, trivial, trivial⟩ ?_
       refine xj (k := 2) rfl ?_
       refine xb rfl (fun b3 => ?_) (fun b3 => ?_)
       refine xr rfl (z6 rfl ⟨⟨rfl, ?_, trivial⟩, z1 rfl⟩)
       rotate_left
       rotate_left
       all_goals (first | (refine vi (z7 h h0 ?_ (by first | decide | decide | simp_all)); clear hJ h0 hg; simp_all [z1a, ahead_zero]) | (refine q9 rfl (hJ _ 1 ⟨by omega, q8 h0 ?_⟩ (by omega) ⟨⟨cwi (by omega) (by omega) (by omega), ⟨rfl, rfl, rfl⟩, rfl, rfl, trivial⟩, ⟨lcr, trivial⟩, rfl⟩); clear hJ h0 hg; simp_all [z1a, ahead_zero]))
     · obtain ⟨p, hp⟩ := gx (xs := s.held) (i := i - 1) (by omega)
       have hgp := y0w Con.cs hz (by omega) hp
       refine xs rfl (Int.natCast_nonneg _) ?_
       refine za rfl _ hg ?_
       refine xs rfl rfl ?_
       refine z2 rfl (q3h _ (by assumption)) rfl ⟨⟨trivial, trivial, trivial⟩, trivial⟩ ?_
       refine xb rfl (fun b0 => ?_) (fun b0 => ?_)
       refine xr rfl (z6 rfl ⟨⟨rfl, ?_, trivial⟩, z1 rfl⟩)
       rotate_left
       refine zb rfl [] (.take 0 [] (.take 1 [] (.take 2 [] (.take 3 [] (.take 4 [7, 8, 9, 12, 13, 14, 15, 16, 17, 18, 19, 20, 21, 22, 23, 24, 25, 26, 27, 28, 29, 30, 31, 32, 33, 34, 35, 36, 37] (.take 5 [] (.take 6 [] (.take 7 [] (.take 8 [] (.take 9 [12, 13, 14, 15, 16, 17, 18, 19, 20, 21, 22, 23, 24, 25, 26, 27, 28, 29, 30, 31, 32, 33, 34, 35, 36, 37] (.take 10 [] (.take 11 [12, 13, 14, 15, 16, 17, 18, 19, 20, 21, 22, 23, 24, 25, 26, 27, 28, 29, 30, 31, 32, 33, 34, 35, 36, 37] (.take 12 [] (.take 13 [] (.take 14 [] (.take 15 [18, 19, 20, 21, 22, 23, 24, 25, 26, 27, 28, 29, 30, 31, 32, 33, 34, 35, 36, 37] (.take 16 [] (.take 17 [18, 19, 20, 21, 22, 23, 24, 25, 26, 27, 28, 29, 30, 31, 32, 33, 34, 35, 36, 37] (.alt 18 (.take 19 [] (.take 20 [] (.take 21 [] (.take 22 [] (.take 23 [] (.take 24 [27, 28, 29, 30, 31, 32, 33, 34, 35, 36, 37] (.take 25 [] (.take 26 [27, 28, 29, 30, 31, 32, 33, 34, 35, 36, 37] (.alt 27 (.take 28 [] (.take 29 [] (.take 30 [] (.take 31 [] (.take 32 [35, 36, 37] (.take 33 [] (.take 34 [35, 36, 37] (.alt 35 (.take 36 [] (.take 37 [] .done)) .nil)))))))) .nil))))))))) .nil))))))))))))))))))) (by kernel_rfl) ?_
       refine xb rfl (fun b1 => ?_) (fun b1 => ?_)
       refine xj (k := 4) rfl ?_
       refine xs rfl (q0e hz (by omega)) ?_
       refine za rfl _ hgp ?_
       refine xs rfl rfl ?_
       refine xj (k := 6) rfl ?_
       refine xb rfl (fun b2 => ?_) (fun b2 => ?_)
       refine xj (k := 21) rfl ?_
       refine xr rfl (z6 rfl ⟨⟨rfl, ?_, trivial⟩, z1 rfl⟩)
       rotate_left
       refine xj (k := 3) rfl ?_
       refine z2 rfl (q0s _ _ (by omega)) rfl ⟨⟨trivial, trivial, trivial⟩, trivial, trivial⟩ ?_
       refine xj (k := 3) rfl ?_
       refine xb rfl (fun b3 => ?_) (fun b3 => ?_)
       refine xj (k := 14) rfl ?_
       refine xr rfl (z6 rfl ⟨⟨rfl, ?_, trivial⟩, z1 rfl⟩)
       rotate_left
       refine xj (k := 4) rfl ?_
       refine z2 rfl (q0b _ _ (by omega)) rfl ⟨trivial, trivial, trivial⟩ ?_
       refine xj (k := 2) rfl ?_
       refine xb rfl (fun b4 => ?_) (fun b4 => ?_)
       refine xj (k := 7) rfl ?_
       refine xr rfl (z6 rfl ⟨⟨rfl, ?_, trivial⟩, z1 rfl⟩)
       rotate_left
       refine xj (k := 4) rfl ?_
       refine z2 rfl (q0b _ _ (by omega)) rfl ⟨trivial, trivial, trivial⟩ ?_
       refine xj (k := 2) rfl ?_
       refine xb rfl (fun b5 => ?_) (fun b5 => ?_)
       refine xr rfl (z6 rfl ⟨⟨rfl, ?_, trivial⟩, z1 rfl⟩)
       rotate_left
       rotate_left
       refine xj (k := 14) rfl ?_
       refine z2 rfl (q0s _ _ (by omega)) rfl ⟨⟨trivial, trivial, trivial⟩, trivial, trivial⟩ ?_
       refine xj (k := 3) rfl ?_
       refine xb rfl (fun b2 => ?_) (fun b2 => ?_)
       refine xj (k := 14) rfl ?_
       refine xr rfl (z6 rfl ⟨⟨rfl, ?_, trivial⟩, z1 rfl⟩)
       rotate_left
       refine xj (k := 4) rfl ?_
       refine z2 rfl (q0b _ _ (by omega)) rfl ⟨trivial, trivial, trivial⟩ ?_
       refine xj (k := 2) rfl ?_
       refine xb rfl (fun b3 => ?_) (fun b3 => ?_)
       refine xj (k := 7) rfl ?_
       refine xr rfl (z6 rfl ⟨⟨rfl, ?_, trivial⟩, z1 rfl⟩)
       rotate_left
       refine xj (k := 4) rfl ?_
       refine z2 rfl (q0b _ _ (by omega)) rfl ⟨trivial, trivial, trivial⟩ ?_
       refine xj (k := 2) rfl ?_
       refine xb rfl (fun b4 => ?_) (fun b4 => ?_)
       refine xr rfl (z6 rfl ⟨⟨rfl, ?_, trivial⟩, z1 rfl⟩)
       rotate_left
       rotate_left
       all_goals (first | (refine vi (z7 h h0 ?_ (by first | decide | decide | simp_all)); clear hJ h0 hg hgp; simp_all [z8 hz hp, z1a, ahead_zero]) | (refine q9 rfl (hJ _ (i + 1) ⟨by omega, q8 h0 ?_⟩ (by omega) ⟨⟨cwi (by omega) (by omega) (by omega), ⟨rfl, rfl, rfl⟩, rfl, rfl, trivial⟩, ⟨lcr, trivial⟩, rfl⟩); clear hJ h0 hg hgp; simp_all [z8 hz hp, z1a, ahead_zero]))
   · have h : ¬ i < s.held.length := by simpa using h
     have hz := qb (f := z1a q1m s) (n := s.held.length) (fun j hj => h0 j (by omega))
     refine xr rfl (z6 rfl ⟨⟨rfl, ?_, trivial⟩, z1 rfl⟩)
     exact vi (hz.symm)
theorem q6e (s : Shd) (m : Mk) (ho : z3t s) : PC Tryz.prog 263 [.agg s.cs, .agg m.cs] (rB (z5q s m)) := by
 refine PC.begin Tryz.func263 rfl (by kernel_rfl) ?_
 have ho' := ho
 obtain ⟨o1, o2, o3, o4, o5, o6⟩ := ho'
 refine z2 rfl (z6c _ _ (by assumption)) rfl ⟨⟨trivial, trivial, trivial, trivial, trivial, trivial, trivial⟩, trivial, trivial⟩ ?_
 refine xb rfl (fun b0 => ?_) (fun b0 => ?_)
 refine xj (k := 2) rfl ?_
 refine xb rfl (fun b1 => ?_) (fun b1 => ?_)
 refine xj (k := 4) rfl ?_
 refine z2 rfl (q0b _ _ (by omega)) rfl ⟨trivial, trivial, trivial⟩ ?_
 refine xj (k := 2) rfl ?_
 refine xr rfl (z6 rfl ⟨⟨rfl, ?_, trivial⟩, z1 rfl⟩)
 rotate_left
 refine xj (k := 6) rfl ?_
 refine xr rfl (z6 rfl ⟨⟨rfl, ?_, trivial⟩, z1 rfl⟩)
 rotate_left
 refine xj (k := 9) rfl ?_
 refine xr rfl (z6 rfl ⟨⟨rfl, ?_, trivial⟩, z1 rfl⟩)
 rotate_left
 all_goals (refine vb ?_; simp_all [z5q])
theorem q6i (x y : Leg) : PC Tryz.prog 299 [.agg y.cs, .one (.p x.cs)] (rB (x.same y)) := by
 refine PC.begin Tryz.func299 rfl (by kernel_rfl) ?_
 refine z2 rfl (z21 _ _) rfl ⟨⟨trivial, trivial, trivial, trivial, trivial⟩, ⟨trivial, trivial, trivial, trivial, trivial⟩, trivial⟩ ?_
 refine xr rfl (z6 rfl ⟨⟨rfl, rfl, trivial⟩, z1 rfl⟩)
theorem q7d (s : Shd) (b : Con) (x : Leg) (hl : b.legs.length ≤ 1048576) : PC Tryz.prog 298 [.agg x.cs, .one (.p b.cs), .one (.p s.cs)] (rB ((zj b s.idx).any fun m => x.same m)) := by
 refine PC.begin Tryz.func298 rfl (by kernel_rfl) ?_
 have hlb : (zj b s.idx).length ≤ 1048576 := Nat.le_trans (List.length_filter_le _ _) (by omega)
 refine z2 rfl (q0s _ _ (by omega)) rfl ⟨⟨trivial, trivial, trivial⟩, trivial, trivial⟩ ?_
 refine z2 rfl (y4i _ (zj b s.idx) (fun m => x.same m) _ _ rfl (fun m _ => q6i x m) hlb) rfl ⟨rfl, (List.forall_mem_cons.2 ⟨⟨trivial, trivial, trivial, trivial, trivial⟩, (fun _ h => nomatch h)⟩), trivial⟩ ?_
 refine xr rfl (z6 rfl ⟨⟨rfl, rfl, trivial⟩, z1 rfl⟩)
theorem q4o (s : Shd) (a b : Con) (ha : a.legs.length ≤ 1048576) (hb : b.legs.length ≤ 1048576) : PC Tryz.prog 234 [.agg s.cs, .agg a.cs, .agg b.cs] (rB (q5o s a b)) := by
 refine PC.begin Tryz.func234 rfl (by kernel_rfl) ?_
 have hlb : (zj a s.idx).length ≤ 1048576 := Nat.le_trans (List.length_filter_le _ _) (by omega)
 refine z2 rfl (q0s _ _ (by omega)) rfl ⟨⟨trivial, trivial, trivial⟩, trivial, trivial⟩ ?_
 refine z2 rfl (q82 _ (zj a s.idx) (fun l => (zj b s.idx).any fun m => l.same m) _ _ _ rfl (fun l _ => q7d s b l hb) hlb) rfl ⟨rfl, (List.forall_mem_cons.2 ⟨⟨trivial, trivial, trivial⟩, (List.forall_mem_cons.2 ⟨⟨trivial, trivial, trivial, trivial, trivial, trivial, trivial⟩, (fun _ h => nomatch h)⟩)⟩), trivial⟩ ?_
 refine xr rfl (z6 rfl ⟨⟨rfl, rfl, trivial⟩, z1 rfl⟩)
theorem q4f (s : Shd) (a b : Con) (ha : a.legs.length ≤ 1048576) (hb : b.legs.length ≤ 1048576) : PC Tryz.prog 312 [.agg a.cs, .one (.p s.cs), .one (.p b.cs)] (rB (q5o s a b)) := by
 refine PC.begin Tryz.func312 rfl (by kernel_rfl) ?_
 refine z2 rfl (q4o _ _ _ (by omega) (by omega)) rfl ⟨⟨trivial, trivial, trivial, trivial, trivial, trivial, trivial⟩, ⟨trivial, trivial, trivial⟩, ⟨trivial, trivial, trivial⟩, trivial⟩ ?_
 refine xr rfl (z6 rfl ⟨⟨rfl, rfl, trivial⟩, z1 rfl⟩)
theorem z88 (s : Shd) (c : Con) (hl : s.bals.length ≤ 1048576) (hc : c.legs.length ≤ 1048576) (hb : ∀ l ∈ zj c s.idx, -9000000000000000000 ≤ y3s s.bals l.a l.b + l.v ∧ y3s s.bals l.a l.b + l.v ≤ 9000000000000000000) : PC Tryz.prog 313 [.agg s.cs, .agg c.cs] (rI (q1b s.bals (zj c s.idx))) := by
 refine PC.begin Tryz.func313 rfl (by kernel_rfl) ?_
 have hlb : (zj c s.idx).length ≤ 1048576 := Nat.le_trans (List.length_filter_le _ _) (by omega)
 rw [q1b]
 refine z2 rfl (q0s _ _ (by omega)) rfl ⟨⟨trivial, trivial, trivial⟩, trivial, trivial⟩ ?_
 refine zc rfl (ι := Nat) (fun i => i ≤ (zj c s.idx).length ∧ ∀ j, j < i → y33 s.bals (zj c s.idx) j = 0) (fun i => ⟨[(13, sV (.int .i64 i)), (2, .one (.a 2 0)), (11, .one (.h 1200000 ((zj c s.idx).map Leg.cs).length)), (12, sV (.int .i64 ((zj c s.idx).map Leg.cs).length))], [(2, .var (s.cs.map .b)), (1200000, .arr true 4 0 ((zj c s.idx).map Leg.cs))]⟩) (fun i => (zj c s.idx).length - i) 0 ⟨Nat.zero_le _, fun j hj => by omega⟩ ?_ ?_
 · exact ⟨⟨rfl, ⟨rfl, rfl, rfl⟩, ⟨rfl, rfl, rfl⟩, rfl, trivial⟩, ⟨lcr, ⟨rfl, .inl rfl, .inl rfl⟩, trivial⟩, rfl⟩
 · intro i ⟨hi, h0⟩ J hJ
   refine xb rfl (fun h => ?_) (fun h => ?_)
   · have h : i < (zj c s.idx).length := by simpa using h
     obtain ⟨x, hx⟩ := gx h
     have hg := gm Leg.cs hx
     have hbx := hb x (List.mem_of_getElem? hx)
     refine xs rfl rfl ?_
     refine xs rfl (Int.natCast_nonneg _) ?_
     refine za rfl _ hg ?_
     refine xs rfl rfl ?_
     refine xs rfl rfl ?_
     refine za rfl _ hg ?_
     refine z2 rfl (q5n _ _ (by omega) (by assumption)) rfl ⟨trivial, ⟨trivial, trivial, trivial, trivial, trivial⟩, trivial⟩ ?_
     refine xb rfl (fun b0 => ?_) (fun b0 => ?_)
     refine xr rfl (z6 rfl ⟨⟨rfl, ?_, trivial⟩, z1 rfl⟩)
     rotate_left
     rotate_left
     · exact vi (z7 h h0 (by simp_all [y33]) (by simpa using b0))
     · exact q9 rfl (hJ _ (i + 1) ⟨by omega, q8 h0 (by simp_all [y33])⟩ (by omega) ⟨⟨cwi (by omega) (by omega) (by omega), ⟨rfl, rfl, rfl⟩, ⟨rfl, rfl, rfl⟩, rfl, trivial⟩, ⟨lcr, ⟨rfl, .inl rfl, .inl rfl⟩, trivial⟩, rfl⟩)
   · have h : ¬ i < (zj c s.idx).length := by simpa using h
     have hz := qb (f := y33 s.bals (zj c s.idx)) (n := (zj c s.idx).length) (fun j hj => h0 j (by omega))
     refine xr rfl (z6 rfl ⟨⟨rfl, ?_, trivial⟩, z1 rfl⟩)
     exact vi hz.symm
theorem y2h (s : Shd) (ho : z3t s) (hb : ∀ c ∈ s.held, ∀ l ∈ zj c s.idx, -9000000000000000000 ≤ y3s s.bals l.a l.b + l.v ∧ y3s s.bals l.a l.b + l.v ≤ 9000000000000000000) : PC Tryz.prog 265 [.agg s.cs] (rI (q00 z1c q1b s)) := by
 refine PC.begin Tryz.func265 rfl (by kernel_rfl) ?_
 obtain ⟨o1, o2, o3, o4, o5, o6⟩ := ho
 unfold q00
 refine zc rfl (ι := Nat) (fun i => i ≤ s.held.length ∧ ∀ j, j < i → z1c s j = 0) (fun i => ⟨[(11, sV (.int .i64 i)), (1, .one (.a 1 0)), (9, .one (.b (.l (s.held.map Con.cs)))), (10, sV (.int .i64 (s.held.map Con.cs).length))], [(1, .var (s.cs.map .b))]⟩) (fun i => s.held.length - i) 0 ⟨Nat.zero_le _, fun j hj => by omega⟩ ?_ ?_
 · exact ⟨⟨rfl, ⟨rfl, rfl, rfl⟩, rfl, rfl, trivial⟩, ⟨lcr, trivial⟩, rfl⟩
 · intro i ⟨hi, h0⟩ J hJ
   refine xb rfl (fun h => ?_) (fun h => ?_)
   · have h : i < s.held.length := by simpa using h
     obtain ⟨x, hx⟩ := gx h
     have hg := gm Con.cs hx
     have hcl := o6 x (List.mem_of_getElem? hx)
     refine xs rfl (Int.natCast_nonneg _) ?_
     refine za rfl _ hg ?_
     refine xs rfl rfl ?_
     refine xs rfl (.inl rfl) ?_
     refine xs rfl (Int.natCast_nonneg _) ?_
     refine xs rfl (Int.natCast_nonneg _) ?_
     refine xs rfl (by simp; omega) ?_
     refine z2 rfl (z82 _ (s.held.take i) (fun own => q5o s own x) _ _ _ (by simp [List.map_take]) (fun own hown => q4f s own x (o6 own (List.mem_of_mem_take hown)) hcl) (by rw [List.length_take]; omega)) rfl ⟨trivial, (List.forall_mem_cons.2 ⟨⟨trivial, trivial, trivial, trivial, trivial, trivial, trivial⟩, (List.forall_mem_cons.2 ⟨⟨trivial, trivial, trivial⟩, (fun _ h => nomatch h)⟩)⟩), trivial⟩ ?_
     refine xb rfl (fun b0 => ?_) (fun b0 => ?_)
     refine xr rfl (z6 rfl ⟨⟨rfl, ?_, trivial⟩, z1 rfl⟩)
     rotate_left
     rotate_left
     · refine vi ?_
       have hc7 : z1c s i = 7 := by simp only [z1c, hx]; rw [if_pos b0]
       rw [q0m h0 (by rw [hc7]; decide) h, hc7]; rfl
     · exact q9 rfl (hJ _ (i + 1) ⟨by omega, q8 h0 (by simp only [z1c, hx]; rw [if_neg (by rw [b0]; decide)])⟩ (by omega) ⟨⟨cwi (by omega) (by omega) (by omega), ⟨rfl, rfl, rfl⟩, rfl, rfl, trivial⟩, ⟨lcr, trivial⟩, rfl⟩)
   · have h : ¬ i < s.held.length := by simpa using h
     have hz := qb (f := z1c s) (n := s.held.length) (fun j hj => h0 j (by omega))
     rw [hz]
     clear hJ h0
     refine zc rfl (ι := Nat) (fun i => i ≤ s.held.length ∧ ∀ j, j < i → y5k q1b s j = 0) (fun i => ⟨[(26, sV (.int .i64 i)), (1, .one (.a 1 0)), (24, .one (.b (.l (s.held.map Con.cs)))), (25, sV (.int .i64 (s.held.map Con.cs).length))], [(1, .var (s.cs.map .b))]⟩) (fun i => s.held.length - i) 0 ⟨Nat.zero_le _, fun j hj => by omega⟩ ?_ ?_
     · exact ⟨⟨rfl, ⟨rfl, rfl, rfl⟩, rfl, rfl, trivial⟩, ⟨lcr, trivial⟩, rfl⟩
     · intro i ⟨hi, h0⟩ J hJ
       refine xb rfl (fun h => ?_) (fun h => ?_)
       · have h : i < s.held.length := by simpa using h
         obtain ⟨x, hx⟩ := gx h
         have hg := gm Con.cs hx
         have hxm := List.mem_of_getElem? hx
         have hcl := o6 x hxm
         refine xs rfl (Int.natCast_nonneg _) ?_
         refine za rfl _ hg ?_
         refine xs rfl rfl ?_
         refine z2 rfl (z88 s x o1 hcl (hb x hxm)) rfl ⟨⟨trivial, trivial, trivial, trivial, trivial, trivial, trivial⟩, ⟨trivial, trivial, trivial⟩, trivial⟩ ?_
         refine xb rfl (fun b0 => ?_) (fun b0 => ?_)
         refine xr rfl (z6 rfl ⟨⟨rfl, ?_, trivial⟩, z1 rfl⟩)
         rotate_left
         rotate_left
         · exact vi (by rw [if_neg (by decide)]; exact z7 h h0 (by simp_all [y5k]) (by simpa using b0))
         · exact q9 rfl (hJ _ (i + 1) ⟨by omega, q8 h0 (by simp_all [y5k])⟩ (by omega) ⟨⟨cwi (by omega) (by omega) (by omega), ⟨rfl, rfl, rfl⟩, rfl, rfl, trivial⟩, ⟨lcr, trivial⟩, rfl⟩)
       · have h : ¬ i < s.held.length := by simpa using h
         have hz := qb (f := y5k q1b s) (n := s.held.length) (fun j hj => h0 j (by omega))
         refine xr rfl (z6 rfl ⟨⟨rfl, ?_, trivial⟩, z1 rfl⟩)
         exact vi (by rw [hz]; rfl)
end Go.Proofs.YthljegacamgnnaaGreat
end
section
namespace Go.Proofs.YthljegacamgnnaaGreat
open Go Go.Sx
set_option maxRecDepth 20000
set_option maxHeartbeats 4000000
theorem z5m (x : Int) (us : List Bal) (hl : us.length ≤ 1048576) : PC Tryz.prog 240 [.one (i64 x), .one (.l (us.map Bal.cs))] (rI (if within x 0 2 then yi us else 3)) := by
 refine PC.begin Tryz.func240 rfl (by kernel_rfl) ?_
 refine z2 rfl (zh _ _ _) rfl ⟨trivial, trivial, trivial, trivial⟩ ?_
 refine xb rfl (fun b0 => ?_) (fun b0 => ?_)
 refine xr rfl (z6 rfl ⟨⟨rfl, ?_, trivial⟩, z1 rfl⟩)
 rotate_left
 refine z2 rfl (z7i _ (by omega)) rfl ⟨trivial, trivial⟩ ?_
 refine xr rfl (z6 rfl ⟨⟨rfl, ?_, trivial⟩, z1 rfl⟩)
 rotate_left
 all_goals (refine vi ?_; simp_all)
theorem y2a (rr : List (List Cell)) (us : List Int) (c : Int) (hr : rr = ints us) (hl : us.length ≤ 1048576) : PC Tryz.prog 243 [.one (.l rr), .one (i64 c)] (rB (us.any fun y => y == c)) := by
 refine PC.begin Tryz.func243 rfl (by kernel_rfl) ?_
 subst hr
 refine zc rfl (ι := Nat) (fun i => i ≤ us.length ∧ ∀ j y, j < i → us[j]? = some y → (y == c) = false) (fun i => ⟨[(5, sV (.int .i64 i)), (0, .one (.b (.l (ints us)))), (1, sV (.int .i64 c))], []⟩) (fun i => us.length - i) 0 ⟨Nat.zero_le _, fun j y hj => by omega⟩ ?_ ?_
 · exact ⟨⟨rfl, rfl, rfl, trivial⟩, trivial, rfl⟩
 · intro i ⟨hi, h0⟩ J hJ
   refine xb rfl (fun h => ?_) (fun h => ?_)
   · have h : i < us.length := by simpa using h
     obtain ⟨x, hx⟩ := gx h
     have hg := gm (fun n => [i64 n]) hx
     refine xs rfl (Int.natCast_nonneg _) ?_
     refine za rfl _ hg ?_
     refine xs rfl rfl ?_
     refine xb rfl (fun b0 => ?_) (fun b0 => ?_)
     refine xr rfl (z6 rfl ⟨⟨rfl, ?_, trivial⟩, z1 rfl⟩)
     rotate_left
     rotate_left
     · exact vb (yo hx (by simpa using b0))
     · exact q9 rfl (hJ _ (i + 1) ⟨by omega, qc hx h0 (by simpa using b0)⟩ (by omega) ⟨⟨cwi (by omega) (by omega) (by omega), rfl, rfl, trivial⟩, trivial, rfl⟩)
   · have h : ¬ i < us.length := by simpa using h
     refine xr rfl (z6 rfl ⟨⟨rfl, ?_, trivial⟩, z1 rfl⟩)
     exact vb (any_none (qg (by omega) h0))
theorem z8n (s : Shd) (ho : z3t s) : PC Tryz.prog 302 [.agg s.cs] (rB (z53 s)) := by
 refine PC.begin Tryz.func302 rfl (by kernel_rfl) ?_
 obtain ⟨o1, o2, o3, o4, o5, o6⟩ := ho
 refine zc rfl (ι := Nat) (fun i => i ≤ s.done.length) (fun i => ⟨[(4, sV (.int .i64 i)), (3, sV (.int .i64 (q2u (s.done.take i)))), (1, .one (.a 1 0))], [(1, .var (s.cs.map .b))]⟩) (fun i => s.done.length - i) 0 (Nat.zero_le _) ?_ ?_
 · exact ⟨⟨rfl, rfl, ⟨rfl, rfl, rfl⟩, trivial⟩, ⟨lcr, trivial⟩, rfl⟩
 · intro i hi J hJ
   refine xb rfl (fun h => ?_) (fun h => ?_)
   · have h : i < s.done.length := by simpa using h
     obtain ⟨x, hx⟩ := gx h
     have hg := gm Mk.cs hx
     have hst := q5i hx
     have hle := z55 s.done i
     refine xs rfl (Int.natCast_nonneg _) ?_
     refine za rfl _ hg ?_
     refine xs rfl rfl ?_
     refine xb rfl (fun b0 => ?_) (fun b0 => ?_)
     rotate_left
     rotate_left
     · rw [if_pos (by simpa using b0)] at hst
       exact q9 rfl (hJ _ (i + 1) (by omega) (by omega) ⟨⟨cwi (by omega) (by omega) (by omega), (by rw [hst]; exact cwi (by omega) (by omega) (by omega)), ⟨rfl, rfl, rfl⟩, trivial⟩, ⟨lcr, trivial⟩, rfl⟩)
     · rw [if_neg (by simpa using b0)] at hst
       exact q9 rfl (hJ _ (i + 1) (by omega) (by omega) ⟨⟨cwi (by omega) (by omega) (by omega), (by rw [hst]; rfl), ⟨rfl, rfl, rfl⟩, trivial⟩, ⟨lcr, trivial⟩, rfl⟩)
   · have h : i = s.done.length := by have : ¬ i < s.done.length := by simpa using h
                                      omega
     rw [h, List.take_length]
     clear hJ
     refine zc rfl (ι := Nat) (fun i => i ≤ s.app.length ∧ ∀ j, j < i → q7r s j = 0) (fun i => ⟨[(5, sV (.int .i64 i)), (3, sV (.int .i64 (q2u s.done))), (1, .one (.a 1 0))], [(1, .var (s.cs.map .b))]⟩) (fun i => s.app.length - i) 0 ⟨Nat.zero_le _, fun j hj => by omega⟩ ?_ ?_
     · exact ⟨⟨rfl, rfl, ⟨rfl, rfl, rfl⟩, trivial⟩, ⟨lcr, trivial⟩, rfl⟩
     · intro i ⟨hi, h0⟩ J hJ
       refine xb rfl (fun h => ?_) (fun h => ?_)
       · have h : i < s.app.length := by simpa using h
         obtain ⟨x, hx⟩ := gx h
         have hg := gm (fun n => [i64 n]) hx
         refine zb rfl [] (.take 0 [] (.take 1 [7, 8, 9, 10, 11, 12, 13, 14, 15, 16, 17, 18, 19, 20] (.take 2 [] (.take 3 [5, 6, 7, 8, 9, 10, 11, 12, 13, 14, 15, 16, 17, 18, 19, 20] (.take 4 [] (.take 5 [] (.take 6 [7, 8, 9, 10, 11, 12, 13, 14, 15, 16, 17, 18, 19, 20] (.alt 7 (.take 8 [] (.take 9 [] (.take 10 [] (.take 11 [13, 19, 20] (.take 12 [] (.take 13 [] (.take 14 [] (.take 15 [17, 18, 19, 20] (.take 16 [] (.take 17 [] (.take 18 [19, 20] (.alt 19 (.take 20 [] .done) .nil)))))))))))) .nil)))))))) (by kernel_rfl) ?_
         refine xs rfl (Int.natCast_nonneg _) ?_
         refine za rfl _ hg ?_
         refine xs rfl rfl ?_
         refine z2 rfl (y0e _ _ (by assumption)) rfl ⟨trivial, trivial, trivial⟩ ?_
         refine xb rfl (fun b0 => ?_) (fun b0 => ?_)
         refine xj (k := 11) rfl ?_
         refine xr rfl (z6 rfl ⟨⟨rfl, ?_, trivial⟩, z1 rfl⟩)
         rotate_left
         refine xj (k := 3) rfl ?_
         refine xs rfl (.inl rfl) ?_
         refine xs rfl (Int.natCast_nonneg _) ?_
         refine xs rfl (Int.natCast_nonneg _) ?_
         refine xs rfl (by simp; omega) ?_
         refine xj (k := 4) rfl ?_
         refine xs rfl (Int.natCast_nonneg _) ?_
         refine za rfl _ hg ?_
         refine xs rfl rfl ?_
         refine xj (k := 2) rfl ?_
         refine z2 rfl (y2a _ (s.app.take i) x (by simp [ints, List.map_take]) (by rw [List.length_take]; omega)) rfl ⟨trivial, trivial, trivial⟩ ?_
         refine xj (k := 1) rfl ?_
         refine xb rfl (fun b1 => ?_) (fun b1 => ?_)
         refine xr rfl (z6 rfl ⟨⟨rfl, ?_, trivial⟩, z1 rfl⟩)
         rotate_left
         rotate_left
         all_goals first | (refine vb ?_; have hc1 : q7r s i = 1 := (by simp only [q7r, hx]; first | (rw [b0, b1]; rfl) | (rw [b0]; rfl)); have := q0m h0 (by rw [hc1]; decide) h; rw [hc1] at this; simp [z53, this]; done) | exact q9 rfl (hJ _ (i + 1) ⟨by omega, q8 h0 (by simp only [q7r, hx]; rw [b0, b1]; rfl)⟩ (by omega) ⟨⟨cwi (by omega) (by omega) (by omega), rfl, ⟨rfl, rfl, rfl⟩, trivial⟩, ⟨lcr, trivial⟩, rfl⟩)
       · have h : ¬ i < s.app.length := by simpa using h
         have hz := qb (f := q7r s) (n := s.app.length) (fun j hj => h0 j (by omega))
         refine xr rfl (z6 rfl ⟨⟨rfl, ?_, trivial⟩, z1 rfl⟩)
         exact vb (by simp only [z53, hz, ints, List.length_map]; rw [Bool.eq_iff_iff]; simp; omega)
end Go.Proofs.YthljegacamgnnaaGreat
end
section
namespace Go.Proofs.YthljegacamgnnaaGreat
open Go Go.Sx
set_option maxRecDepth 20000
set_option maxHeartbeats 4000000
theorem q7i (s : Shd) (ho : z3t s) (hB : yi s.bals = 0) : PC Tryz.prog 242 [.agg s.cs] (rI (z0n s)) := by
 refine PC.begin Tryz.func242 rfl (by kernel_rfl) ?_
 have ho' := ho
 obtain ⟨o1, o2, o3, o4, o5, o6⟩ := ho'
 refine zc rfl (ι := Nat) (fun i => i ≤ s.held.length ∧ ∀ j, j < i → z1a z06 s j = 0) (fun i => ⟨[(3, sV (.int .i64 i)), (1, .one (.a 1 0))], [(1, .var (s.cs.map .b))]⟩) (fun i => s.held.length - i) 0 ⟨Nat.zero_le _, fun j hj => by omega⟩ ?_ ?_
 · exact ⟨⟨rfl, ⟨rfl, rfl, rfl⟩, trivial⟩, ⟨lcr, trivial⟩, rfl⟩
 · intro i ⟨hi, h0⟩ J hJ
   refine xb rfl (fun h => ?_) (fun h => ?_)
   · have h : i < s.held.length := by simpa using h
     obtain ⟨x, hx⟩ := gx h
     have hg := gm Con.cs hx
     have hcl := o6 x (List.mem_of_getElem? hx)
     rcases Nat.eq_zero_or_pos i with hz | hz
     · subst hz
       refine xs rfl (Int.natCast_nonneg _) ?_
       refine za rfl _ hg ?_
       refine xs rfl rfl ?_
       refine z2 rfl (z3n _ (by assumption)) rfl ⟨⟨trivial, trivial, trivial⟩, trivial⟩ ?_
       refine xb rfl (fun b0 => ?_) (fun b0 => ?_)
       refine xr rfl (z6 rfl ⟨⟨rfl, ?_, trivial⟩, z1 rfl⟩)
       rotate_left
       refine zb rfl [] (.take 0 [] (.take 1 [] (.take 2 [] (.take 3 [] (.take 4 [12, 13, 14, 15, 16, 17, 18, 19, 20, 21, 22, 23, 24, 25, 26, 27, 28, 29, 30, 31, 32, 33, 34, 35, 36, 37] (.take 5 [] (.take 6 [9, 10, 11, 12, 13, 14, 15, 16, 17, 18, 19, 20, 21, 22, 23, 24, 25, 26, 27, 28, 29, 30, 31, 32, 33, 34, 35, 36, 37] (.take 7 [] (.take 8 [] (.take 9 [] (.take 10 [] (.take 11 [12, 13, 14, 15, 16, 17, 18, 19, 20, 21, 22, 23, 24, 25, 26, 27, 28, 29, 30, 31, 32, 33, 34, 35, 36, 37] (.take 12 [] (.take 13 [] (.take 14 [] (.take 15 [18, 19, 20, 21, 22, 23, 24, 25, 26, 27, 28, 29, 30, 31, 32, 33, 34, 35, 36, 37] (.take 16 [] (.take 17 [18, 19, 20, 21, 22, 23, 24, 25, 26, 27, 28, 29, 30, 31, 32, 33, 34, 35, 36, 37] (.alt 18 (.take 19 [] (.take 20 [] (.take 21 [] (.take 22 [] (.take 23 [] (.take 24 [27, 28, 29, 30, 31, 32, 33, 34, 35, 36, 37] (.take 25 [] (.take 26 [27, 28, 29, 30, 31, 32, 33, 34, 35, 36, 37] (.alt 27 (.take 28 [] (.take 29 [] (.take 30 [] (.take 31 [] (.take 32 [35, 36, 37] (.take 33 [] (.take 34 [35, 36, 37] (.alt 35 (.take 36 [] (.take 37 [] .done)) .nil)))))))) .nil))))))))) .nil))))))))))))))))))) (by kernel_rfl) ?_
       refine xj (k := 15) rfl ?_
       refine z2 rfl (q18 _ _ (by omega)) rfl ⟨⟨trivial, trivial, trivial⟩, trivial, trivial⟩ ?_
       refine xj (k := 3) rfl ?_
       refine xb rfl (fun b1 => ?_) (fun b1 => ?_)
       refine xj (k := 14) rfl ?_
       refine xr rfl (z6 rfl ⟨⟨rfl, ?_, trivial⟩, z1 rfl⟩)
       rotate_left
       refine xj (k := 4) rfl ?_
       refine z2 rfl (y0e _ _ (by assumption)) rfl ⟨trivial, trivial, trivial⟩ ?_
       refine xj (k := 2) rfl ?_
       refine xb rfl (fun b2 => ?_) (fun b2 => ?_)
       refine xj (k := 7) rfl ?_
       refine xr rfl (z6 rfl ⟨⟨rfl, ?_, trivial⟩, z1 rfl⟩)
       rotate_left
       refine xj (k := 4) rfl ?_
       refine z2 rfl (y0e _ _ (by assumption)) rfl ⟨trivial, trivial, trivial⟩ ?_
       refine xj (k := 2) rfl ?_
       refine xb rfl (fun b3 => ?_) (fun b3 => ?_)
       refine xr rfl (z6 rfl ⟨⟨rfl, ?_, trivial⟩, z1 rfl⟩)
       rotate_left
       rotate_left
       all_goals (first | (refine vi (z5b (z7 h h0 ?_ (by first | decide | simp_all)) (by first | decide | simp_all)); clear hJ h0 hg; simp_all [z1a, ahead_zero]; done) | (refine q9 rfl (hJ _ 1 ⟨by omega, q8 h0 ?_⟩ (by omega) ⟨⟨cwi (by omega) (by omega) (by omega), ⟨rfl, rfl, rfl⟩, trivial⟩, ⟨lcr, trivial⟩, rfl⟩); clear hJ h0 hg; simp_all [z1a, ahead_zero]))
     · obtain ⟨p, hp⟩ := gx (xs := s.held) (i := i - 1) (by omega)
       have hgp := y0w Con.cs hz (by omega) hp
       refine xs rfl (Int.natCast_nonneg _) ?_
       refine za rfl _ hg ?_
       refine xs rfl rfl ?_
       refine z2 rfl (z3n _ (by assumption)) rfl ⟨⟨trivial, trivial, trivial⟩, trivial⟩ ?_
       refine xb rfl (fun b0 => ?_) (fun b0 => ?_)
       refine xr rfl (z6 rfl ⟨⟨rfl, ?_, trivial⟩, z1 rfl⟩)
       rotate_left
       refine zb rfl [] (.take 0 [] (.take 1 [] (.take 2 [] (.take 3 [] (.take 4 [12, 13, 14, 15, 16, 17, 18, 19, 20, 21, 22, 23, 24, 25, 26, 27, 28, 29, 30, 31, 32, 33, 34, 35, 36, 37] (.take 5 [] (.take 6 [9, 10, 11, 12, 13, 14, 15, 16, 17, 18, 19, 20, 21, 22, 23, 24, 25, 26, 27, 28, 29, 30, 31, 32, 33, 34, 35, 36, 37] (.take 7 [] (.take 8 [] (.take 9 [] (.take 10 [] (.take 11 [12, 13, 14, 15, 16, 17, 18, 19, 20, 21, 22, 23, 24, 25, 26, 27, 28, 29, 30, 31, 32, 33, 34, 35, 36, 37] (.take 12 [] (.take 13 [] (.take 14 [] (.take 15 [18, 19, 20, 21, 22, 23, 24, 25, 26, 27, 28, 29, 30, 31, 32, 33, 34, 35, 36, 37] (.take 16 [] (.take 17 [18, 19, 20, 21, 22, 23, 24, 25, 26, 27, 28, 29, 30, 31, 32, 33, 34, 35, 36, 37] (.alt 18 (.take 19 [] (.take 20 [] (.take 21 [] (.take 22 [] (.take 23 [] (.take 24 [27, 28, 29, 30, 31, 32, 33, 34, 35, 36, 37] (.take 25 [] (.take 26 [27, 28, 29, 30, 31, 32, 33, 34, 35, 36, 37] (.alt 27 (.take 28 [] (.take 29 [] (.take 30 [] (.take 31 [] (.take 32 [35, 36, 37] (.take 33 [] (.take 34 [35, 36, 37] (.alt 35 (.take 36 [] (.take 37 [] .done)) .nil)))))))) .nil))))))))) .nil))))))))))))))))))) (by kernel_rfl) ?_
       refine xb rfl (fun b1 => ?_) (fun b1 => ?_)
       refine xj (k := 6) rfl ?_
       refine xs rfl (q0e hz (by omega)) ?_
       refine za rfl _ hgp ?_
       refine xs rfl rfl ?_
       refine xj (k := 4) rfl ?_
       refine xb rfl (fun b2 => ?_) (fun b2 => ?_)
       refine xj (k := 21) rfl ?_
       refine xr rfl (z6 rfl ⟨⟨rfl, ?_, trivial⟩, z1 rfl⟩)
       rotate_left
       refine xj (k := 3) rfl ?_
       refine z2 rfl (q18 _ _ (by omega)) rfl ⟨⟨trivial, trivial, trivial⟩, trivial, trivial⟩ ?_
       refine xj (k := 3) rfl ?_
       refine xb rfl (fun b3 => ?_) (fun b3 => ?_)
       refine xj (k := 14) rfl ?_
       refine xr rfl (z6 rfl ⟨⟨rfl, ?_, trivial⟩, z1 rfl⟩)
       rotate_left
       refine xj (k := 4) rfl ?_
       refine z2 rfl (y0e _ _ (by assumption)) rfl ⟨trivial, trivial, trivial⟩ ?_
       refine xj (k := 2) rfl ?_
       refine xb rfl (fun b4 => ?_) (fun b4 => ?_)
       refine xj (k := 7) rfl ?_
       refine xr rfl (z6 rfl ⟨⟨rfl, ?_, trivial⟩, z1 rfl⟩)
       rotate_left
       refine xj (k := 4) rfl ?_
       refine z2 rfl (y0e _ _ (by assumption)) rfl ⟨trivial, trivial, trivial⟩ ?_
       refine xj (k := 2) rfl ?_
       refine xb rfl (fun b5 => ?_) (fun b5 => ?_)
       refine xr rfl (z6 rfl ⟨⟨rfl, ?_, trivial⟩, z1 rfl⟩)
       rotate_left
       rotate_left
       refine xj (k := 14) rfl ?_
       refine z2 rfl (q18 _ _ (by omega)) rfl ⟨⟨trivial, trivial, trivial⟩, trivial, trivial⟩ ?_
       refine xj (k := 3) rfl ?_
       refine xb rfl (fun b2 => ?_) (fun b2 => ?_)
       refine xj (k := 14) rfl ?_
       refine xr rfl (z6 rfl ⟨⟨rfl, ?_, trivial⟩, z1 rfl⟩)
       rotate_left
       refine xj (k := 4) rfl ?_
       refine z2 rfl (y0e _ _ (by assumption)) rfl ⟨trivial, trivial, trivial⟩ ?_
       refine xj (k := 2) rfl ?_
       refine xb rfl (fun b3 => ?_) (fun b3 => ?_)
       refine xj (k := 7) rfl ?_
       refine xr rfl (z6 rfl ⟨⟨rfl, ?_, trivial⟩, z1 rfl⟩)
       rotate_left
       refine xj (k := 4) rfl ?_
       refine z2 rfl (y0e _ _ (by assumption)) rfl ⟨trivial, trivial, trivial⟩ ?_
       refine xj (k := 2) rfl ?_
       refine xb rfl (fun b4 => ?_) (fun b4 => ?_)
       refine xr rfl (z6 rfl ⟨⟨rfl, ?_, trivial⟩, z1 rfl⟩)
       rotate_left
       rotate_left
       all_goals (first | (refine vi (z5b (z7 h h0 ?_ (by first | decide | simp_all)) (by first | decide | simp_all)); clear hJ h0 hg hgp; simp_all [z1a, z8 hz hp]; done) | (refine q9 rfl (hJ _ (i + 1) ⟨by omega, q8 h0 ?_⟩ (by omega) ⟨⟨cwi (by omega) (by omega) (by omega), ⟨rfl, rfl, rfl⟩, trivial⟩, ⟨lcr, trivial⟩, rfl⟩); clear hJ h0 hg hgp; simp_all [z1a, z8 hz hp]))
   · have h : ¬ i < s.held.length := by simpa using h
     have hH : ym z06 s = 0 := qb (f := z1a z06 s) (n := s.held.length) (fun j hj => h0 j (by omega))
     have hcon := y3h hH
     clear hJ h0
     refine zc rfl (ι := Nat) (fun i => i ≤ s.votes.length ∧ ∀ j y, j < i → s.votes[j]? = some y → z2x s y = false) (fun i => ⟨[(6, sV (.int .i64 i)), (1, .one (.a 1 0))], [(1, .var (s.cs.map .b))]⟩) (fun i => s.votes.length - i) 0 ⟨Nat.zero_le _, fun j y hj => by omega⟩ ?_ ?_
     · exact ⟨⟨rfl, ⟨rfl, rfl, rfl⟩, trivial⟩, ⟨lcr, trivial⟩, rfl⟩
     · intro i ⟨hi, h0⟩ J hJ
       refine xb rfl (fun h => ?_) (fun h => ?_)
       · have h : i < s.votes.length := by simpa using h
         obtain ⟨x, hx⟩ := gx h
         have hg := gm Mk.cs hx
         refine xs rfl (Int.natCast_nonneg _) ?_
         refine za rfl _ hg ?_
         refine xs rfl rfl ?_
         refine xb rfl (fun b0 => ?_) (fun b0 => ?_)
         refine xj (k := 3) rfl ?_
         refine z2 rfl (y5s _ _ (by assumption)) rfl ⟨⟨trivial, trivial, trivial, trivial, trivial, trivial, trivial⟩, trivial, trivial⟩ ?_
         refine xj (k := 2) rfl ?_
         refine xb rfl (fun b1 => ?_) (fun b1 => ?_)
         refine xj (k := 4) rfl ?_
         refine z2 rfl (y0e _ _ (by assumption)) rfl ⟨trivial, trivial, trivial⟩ ?_
         refine xj (k := 2) rfl ?_
         refine xb rfl (fun b2 => ?_) (fun b2 => ?_)
         refine xr rfl (z6 rfl ⟨⟨rfl, ?_, trivial⟩, z1 rfl⟩)
         rotate_left
         rotate_left
         refine xj (k := 7) rfl ?_
         rotate_left
         refine xj (k := 13) rfl ?_
         rotate_left
         all_goals first | (refine vi (q7k hH (yo hx ?_)); clear hJ h0 hg; simp only [z2x, y3i]; generalize (s.held.any fun y => y.id == x.c) = q at *; simp_all; done) | (refine q9 rfl (hJ _ (i + 1) ⟨by omega, qc hx h0 ?_⟩ (by omega) ⟨⟨cwi (by omega) (by omega) (by omega), ⟨rfl, rfl, rfl⟩, trivial⟩, ⟨lcr, trivial⟩, rfl⟩); clear hJ h0 hg; simp only [z2x, y3i]; generalize (s.held.any fun y => y.id == x.c) = q at *; simp_all)
       · have h : ¬ i < s.votes.length := by simpa using h
         have hO := any_none (qg (by omega) h0)
         clear hJ h0
         refine z2 rfl (z8n _ (by assumption)) rfl ⟨⟨trivial, trivial, trivial, trivial, trivial, trivial, trivial⟩, trivial⟩ ?_
         refine xb rfl (fun b0 => ?_) (fun b0 => ?_)
         refine xr rfl (z6 rfl ⟨⟨rfl, ?_, trivial⟩, z1 rfl⟩)
         rotate_left
         rotate_left
         · exact vi (z7l hH hO (by simpa using b0))
         have hA : z53 s = true := by simpa using b0
         refine zc rfl (ι := Nat) (fun i => i ≤ s.held.length ∧ ∀ j, j < i → y10 s j = 0) (fun i => ⟨[(8, sV (.int .i64 i)), (1, .one (.a 1 0))], [(1, .var (s.cs.map .b))]⟩) (fun i => s.held.length - i) 0 ⟨Nat.zero_le _, fun j hj => by omega⟩ ?_ ?_
         · exact ⟨⟨rfl, ⟨rfl, rfl, rfl⟩, trivial⟩, ⟨lcr, trivial⟩, rfl⟩
         · intro i ⟨hi, h0⟩ J hJ
           refine xb rfl (fun h => ?_) (fun h => ?_)
           · have h : i < s.held.length := by simpa using h
             obtain ⟨x, hx⟩ := gx h
             have hg := gm Con.cs hx
             have hcl := o6 x (List.mem_of_getElem? hx)
             have hlx : (zj x s.idx).length ≤ 1048576 := Nat.le_trans (List.length_filter_le _ _) (by omega)
             refine zc rfl (ι := Nat) (fun k => k ≤ i ∧ ∀ j y, j < k → s.held[j]? = some y → z4g (zj x s.idx) (zj y s.idx) = false) (fun k => ⟨[(9, sV (.int .i64 k)), (8, sV (.int .i64 i)), (1, .one (.a 1 0))], [(1, .var (s.cs.map .b))]⟩) (fun k => i - k) 0 ⟨Nat.zero_le _, fun j y hj => by omega⟩ ?_ ?_
             · exact ⟨⟨rfl, rfl, ⟨rfl, rfl, rfl⟩, trivial⟩, ⟨lcr, trivial⟩, rfl⟩
             · intro k ⟨hk, h1⟩ J2 hJ2
               refine xb rfl (fun h' => ?_) (fun h' => ?_)
               · have h' : k < i := by simpa using h'
                 obtain ⟨y, hy⟩ := gx (xs := s.held) (i := k) (by omega)
                 have hg2 := gm Con.cs hy
                 have hcl2 := o6 y (List.mem_of_getElem? hy)
                 have hly : (zj y s.idx).length ≤ 1048576 := Nat.le_trans (List.length_filter_le _ _) (by omega)
                 have hyt : (s.held.take i)[k]? = some y := by rw [List.getElem?_take, if_pos h', hy]
                 refine zb rfl [] (.take 0 [] (.take 1 [3, 4, 7, 15, 16] (.take 2 [] (.take 3 [] (.take 4 [7, 15, 16] (.take 5 [] (.take 6 [7, 15, 16] (.take 8 [] (.take 9 [11, 12, 15, 16] (.take 10 [] (.take 11 [] (.take 12 [15, 16] (.take 13 [] (.take 14 [15, 16] (.alt 7 (.alt 15 (.alt 16 .done .nil) .nil) .nil))))))))))))))) (by kernel_rfl) ?_
                 refine xs rfl (Int.natCast_nonneg _) ?_
                 refine za rfl _ hg ?_
                 refine xs rfl rfl ?_
                 refine xs rfl (Int.natCast_nonneg _) ?_
                 refine za rfl _ hg2 ?_
                 refine xs rfl rfl ?_
                 refine z2 rfl (q18 _ _ (by omega)) rfl ⟨⟨trivial, trivial, trivial⟩, trivial, trivial⟩ ?_
                 refine z2 rfl (q18 _ _ (by omega)) rfl ⟨⟨trivial, trivial, trivial⟩, trivial, trivial⟩ ?_
                 refine z2 rfl (q6q _ _ (by assumption) (by assumption)) rfl ⟨rfl, rfl, trivial⟩ ?_
                 refine xb rfl (fun b0 => ?_) (fun b0 => ?_)
                 refine xr rfl (z6 rfl ⟨⟨rfl, ?_, trivial⟩, z1 rfl⟩)
                 rotate_left
                 rotate_left
                 · have ha := (yo (p := fun own : Con => z4g (zj x s.idx) (zj own s.idx)) hyt b0).symm
                   have hc7 : y10 s i = 7 := by simp only [y10, hx]; rw [if_pos ha]
                   exact vi (y3o hH hO hA (y5v (z7 h h0 hc7 (by decide)) (by decide)))
                 · exact q9 rfl (hJ2 _ (k + 1) ⟨by omega, qc hy h1 b0⟩ (by omega) ⟨⟨cwi (by omega) (by omega) (by omega), rfl, ⟨rfl, rfl, rfl⟩, trivial⟩, ⟨lcr, trivial⟩, rfl⟩)
               · have h' : ¬ k < i := by simpa using h'
                 have hnone := any_none (p := fun own : Con => z4g (zj x s.idx) (zj own s.idx)) (l := s.held.take i) (fun j y hj => by
                  rw [List.getElem?_take] at hj
                  split at hj
                  · exact h1 j y (by omega) hj
                  · cases hj)
                 have hc0 : y10 s i = 0 := by simp only [y10, hx]; rw [if_neg (by rw [← hnone]; decide)]
                 skip
                 exact q9 rfl (hJ _ (i + 1) ⟨by omega, q8 h0 hc0⟩ (by omega) ⟨⟨cwi (by omega) (by omega) (by omega), ⟨rfl, rfl, rfl⟩, trivial⟩, ⟨lcr, trivial⟩, rfl⟩)
           · have h : ¬ i < s.held.length := by simpa using h
             have hM := qb (f := y10 s) (n := s.held.length) (fun j hj => h0 j (by omega))
             clear hJ h0
             refine zc rfl (ι := Nat) (fun i => i ≤ s.held.length ∧ ∀ j, j < i → y5k q2w s j = 0) (fun i => ⟨[(10, sV (.int .i64 i)), (1, .one (.a 1 0))], [(1, .var (s.cs.map .b))]⟩) (fun i => s.held.length - i) 0 ⟨Nat.zero_le _, fun j hj => by omega⟩ ?_ ?_
             · exact ⟨⟨rfl, ⟨rfl, rfl, rfl⟩, trivial⟩, ⟨lcr, trivial⟩, rfl⟩
             · intro i ⟨hi, h0⟩ J hJ
               refine xb rfl (fun h => ?_) (fun h => ?_)
               · have h : i < s.held.length := by simpa using h
                 obtain ⟨x, hx⟩ := gx h
                 have hg := gm Con.cs hx
                 have hxm := List.mem_of_getElem? hx
                 have hcl := o6 x hxm
                 have hlx : (zj x s.idx).length ≤ 1048576 := Nat.le_trans (List.length_filter_le _ _) (by omega)
                 refine zb rfl [] (.take 0 [] (.take 1 [10, 11] (.take 2 [] (.take 3 [5, 6, 9, 10, 11] (.take 4 [] (.take 5 [] (.take 6 [9, 10, 11] (.take 7 [] (.take 8 [9, 10, 11] (.alt 9 (.alt 10 (.take 11 [] .done) .nil) .nil)))))))))) (by kernel_rfl) ?_
                 refine xs rfl (Int.natCast_nonneg _) ?_
                 refine za rfl _ hg ?_
                 refine xs rfl rfl ?_
                 refine z2 rfl (q18 _ _ (by omega)) rfl ⟨⟨trivial, trivial, trivial⟩, trivial, trivial⟩ ?_
                 refine z2 rfl (z5t s.bals (zj x s.idx) o1 hlx (y6c hB (hcon x hxm))) rfl ⟨trivial, rfl, trivial⟩ ?_
                 refine xb rfl (fun b0 => ?_) (fun b0 => ?_)
                 refine xr rfl (z6 rfl ⟨⟨rfl, ?_, trivial⟩, z1 rfl⟩)
                 rotate_left
                 rotate_left
                 · exact vi (y3o hH hO hA (y38 hM (z7 h h0 (by simp_all [y5k]) (by simpa using b0))))
                 · exact q9 rfl (hJ _ (i + 1) ⟨by omega, q8 h0 (by simp_all [y5k])⟩ (by omega) ⟨⟨cwi (by omega) (by omega) (by omega), ⟨rfl, rfl, rfl⟩, trivial⟩, ⟨lcr, trivial⟩, rfl⟩)
               · have h : ¬ i < s.held.length := by simpa using h
                 have hF := qb (f := y5k q2w s) (n := s.held.length) (fun j hj => h0 j (by omega))
                 refine xr rfl (z6 rfl ⟨⟨rfl, ?_, trivial⟩, z1 rfl⟩)
                 exact vi (y3o hH hO hA (y38 hM hF.symm))
theorem y6q (s : Shd) (ho : z3t s) : PC Tryz.prog 181 [.agg s.cs] (rI (yj s)) := by
 refine PC.begin Tryz.func181 rfl (by kernel_rfl) ?_
 have ho' := ho
 obtain ⟨o1, o2, o3, o4, o5, o6⟩ := ho'
 refine z2 rfl (z5m _ _ (by assumption)) rfl ⟨trivial, trivial, trivial⟩ ?_
 refine xb rfl (fun b0 => ?_) (fun b0 => ?_)
 refine xr rfl (z6 rfl ⟨⟨rfl, ?_, trivial⟩, z1 rfl⟩)
 rotate_left
 refine xb rfl (fun b1 => ?_) (fun b1 => ?_)
 refine xj (k := 15) rfl ?_
 refine xr rfl (z6 rfl ⟨⟨rfl, ?_, trivial⟩, z1 rfl⟩)
 rotate_left
 refine xj (k := 4) rfl ?_
 refine xb rfl (fun b2 => ?_) (fun b2 => ?_)
 refine xj (k := 10) rfl ?_
 refine xr rfl (z6 rfl ⟨⟨rfl, ?_, trivial⟩, z1 rfl⟩)
 rotate_left
 refine xj (k := 4) rfl ?_
 refine xb rfl (fun b3 => ?_) (fun b3 => ?_)
 refine xj (k := 5) rfl ?_
 refine xr rfl (z6 rfl ⟨⟨rfl, ?_, trivial⟩, z1 rfl⟩)
 rotate_left
 refine xj (k := 4) rfl ?_
 refine xb rfl (fun b4 => ?_) (fun b4 => ?_)
 refine xr rfl (z6 rfl ⟨⟨rfl, ?_, trivial⟩, z1 rfl⟩)
 rotate_left
 refine z2 rfl (z49 _ (by omega)) rfl ⟨trivial, trivial⟩ ?_
 refine xb rfl (fun b5 => ?_) (fun b5 => ?_)
 refine xr rfl (z6 rfl ⟨⟨rfl, ?_, trivial⟩, z1 rfl⟩)
 rotate_left
 refine z2 rfl (z49 _ (by omega)) rfl ⟨trivial, trivial⟩ ?_
 refine xb rfl (fun b6 => ?_) (fun b6 => ?_)
 refine xr rfl (z6 rfl ⟨⟨rfl, ?_, trivial⟩, z1 rfl⟩)
 rotate_left
 refine z2 rfl (q7i s ho (z7s b0).2) rfl ⟨⟨trivial, trivial, trivial, trivial, trivial, trivial, trivial⟩, trivial⟩ ?_
 refine xr rfl (z6 rfl ⟨⟨rfl, ?_, trivial⟩, z1 rfl⟩)
 rotate_left
 · exact vi (y4a b0)
 all_goals (have e : ∀ n : Nat, (100 < (n : Int)) = (100 < n) := fun n => by apply propext; omega)
 all_goals (have e' : ∀ n : Nat, ((n : Int) ≤ 100) = (n ≤ 100) := fun n => by apply propext; omega)
 all_goals (refine vi (q4a (z7s b0) ?_); clear b0; simp_all [many]; try (intros; exfalso; omega))
end Go.Proofs.YthljegacamgnnaaGreat
end
section
namespace Go.Proofs.YthljegacamgnnaaGreat
open Go Go.Sx
set_option maxRecDepth 20000
set_option maxHeartbeats 4000000
theorem z6t (us : List Int) (hu : us.length < 65536) : PC Tryz.prog 309 [.one (.f 330 [.p [.l (ints us)]])] (.one (.own false [.l 1 (ints (q0d us))])) := by
 refine PC.begin Tryz.func309 rfl (by kernel_rfl) ?_
 have hc := q5g us (by omega)
 have hq := q5b us (by omega)
 have hms : (ints us).length = (ints (q0d us)).length := by simp [ints, q0d]
 refine z2 rfl (hc) rfl ⟨trivial, trivial⟩ ?_
 refine q8p rfl (hq) ⟨⟨rfl, rfl, rfl, rfl⟩, trivial⟩ rfl ?_
 refine xr rfl (z6 rfl ⟨⟨rfl, ⟨?_, rfl, .inl rfl⟩, trivial⟩, z1 rfl⟩)
 exact hms
theorem y69 (us vs : List Int) (hx : us.length ≤ 1048576) : PC Tryz.prog 308 [.one (.l (ints us)), .one (.l (ints vs))] (rB (us == vs)) := by
 refine PC.begin Tryz.func308 rfl (by kernel_rfl) ?_
 have hle : (ints us).length = us.length := by simp
 have hle2 : (ints vs).length = vs.length := by simp
 refine xb rfl (fun h0 => ?_) (fun h0 => ?_)
 · have hne : ¬ us.length = vs.length := by simp at h0; omega
   refine xr rfl (z6 rfl ⟨⟨rfl, ?_, trivial⟩, z1 rfl⟩)
   all_goals (refine vb ?_; rw [eq_comm, beq_eq_false_iff_ne]; exact fun e => hne (by rw [e]))
 · have he : us.length = vs.length := by simp at h0; omega
   refine zc rfl (ι := Nat) (fun i => i ≤ us.length ∧ us.take i = vs.take i) (fun i => ⟨[(13, sV (.int .i64 i)), (12, sV (.int .i64 (ints us).length)), (0, .one (.b (.l (ints us)))), (1, .one (.b (.l (ints vs))))], []⟩) (fun i => us.length - i) 0 ⟨Nat.zero_le _, rfl⟩ ?_ ?_
   · exact ⟨⟨rfl, rfl, rfl, rfl, trivial⟩, trivial, rfl⟩
   · intro i ⟨hi, hq⟩ J hJ
     refine xb rfl (fun h => ?_) (fun h => ?_)
     · have h : i < us.length := by simpa using h
       obtain ⟨x, hx1⟩ := gx h
       obtain ⟨y, hy1⟩ := gx (xs := vs) (i := i) (by omega)
       have hg := gm (fun n => [i64 n]) hx1
       have hg2 := gm (fun n => [i64 n]) hy1
       refine zb rfl [] (.take 0 [] (.take 1 [] (.take 2 [] (.take 3 [8] (.take 4 [] (.take 5 [] (.take 6 [] (.take 7 [8] (.take 8 [] .done))))))))) (by kernel_rfl) ?_
       refine xs rfl (Int.natCast_nonneg _) ?_
       refine za rfl _ hg ?_
       refine xs rfl rfl ?_
       refine xs rfl (Int.natCast_nonneg _) ?_
       refine za rfl _ hg2 ?_
       refine xs rfl rfl ?_
       refine xb rfl (fun b0 => ?_) (fun b0 => ?_)
       refine xr rfl (z6 rfl ⟨⟨rfl, ?_, trivial⟩, z1 rfl⟩)
       rotate_left
       rotate_left
       · refine vb ?_; rw [eq_comm, beq_eq_false_iff_ne]; intro e; subst e; rw [hx1] at hy1; cases hy1; simp at b0
       · have e : x = y := by simpa using b0
         exact q9 rfl (hJ _ (i + 1) ⟨by omega, by rw [List.take_add_one, List.take_add_one, hx1, hy1, hq, e]⟩ (by omega) ⟨⟨cwi (by omega) (by omega) (by omega), rfl, rfl, rfl, trivial⟩, trivial, rfl⟩)
     · have h : i = us.length := by have : ¬ i < us.length := by simpa using h
                                    omega
       rw [h, List.take_length, he, List.take_length] at hq
       refine xr rfl (z6 rfl ⟨⟨rfl, ?_, trivial⟩, z1 rfl⟩)
       all_goals (refine vb ?_; rw [hq]; simp)
theorem y3u (s : Shd) (ho : z3t s) (ha : s.app.length < 65536) (hd : ye s.done = 0) : PC Tryz.prog 264 [.agg s.cs] (rB (z53 s)) := by
 refine PC.begin Tryz.func264 rfl (by kernel_rfl) ?_
 obtain ⟨o1, o2, o3, o4, o5, o6⟩ := ho
 rw [← y5f hd]
 have hle : (s.done.map Mk.cs).length = s.done.length := by simp
 have hms : (q0d s.app).length = s.app.length := (List.mergeSort_perm s.app _).length_eq
 have hv := z6z (ints s.app)
 have hso := z6t s.app ha
 have hq := y69 (q0d s.app) (dnI s.done) (by omega)
 refine xs rfl trivial ?_
 refine zc rfl (ι := Nat) (fun i => i ≤ s.done.length) (fun i => ⟨[(10, sV (.int .i64 i)), (3, .one (.h 6 (dnI (s.done.take i)).length)), (1, .one (.a 1 0)), (8, .one (.b (.l (s.done.map Mk.cs)))), (9, sV (.int .i64 (s.done.map Mk.cs).length))], [(6, .arr true 1 0 (ints (dnI (s.done.take i)))), (1, .var (s.cs.map .b))]⟩) (fun i => s.done.length - i) 0 (Nat.zero_le _) ?_ ?_
 · exact ⟨⟨rfl, ⟨rfl, rfl, rfl⟩, ⟨rfl, rfl, rfl⟩, rfl, rfl, trivial⟩, ⟨⟨rfl, .inl rfl, .inl rfl⟩, lcr, trivial⟩, rfl⟩
 · intro i hi J hJ
   refine xb rfl (fun h => ?_) (fun h => ?_)
   · have h : i < s.done.length := by simpa using h
     obtain ⟨x, hx⟩ := gx h
     have hg := gm Mk.cs hx
     have hf := z77 hx
     have hfl : (dnI (s.done.take i)).length ≤ i := by rw [y66]; exact z55 _ _
     refine xs rfl (by simp) ?_
     refine za rfl _ hg ?_
     refine xs rfl rfl ?_
     refine xb rfl (fun b0 => ?_) (fun b0 => ?_)
     refine xs rfl ⟨trivial, trivial⟩ ?_
     refine xs rfl (by simp) ?_
     refine xs rfl rfl ?_
     refine xs rfl (.inl rfl) ?_
     refine xs rfl (by simp; omega) ?_
     refine xs rfl (by simp; omega) ?_
     rotate_left
     rotate_left
     · rw [if_pos (by simpa using b0)] at hf
       exact q9 rfl (hJ _ (i + 1) (by omega) (by omega) ⟨⟨cwi (by omega) (by omega) (by omega), ⟨rfl, by rw [hf]; simp, rfl⟩, ⟨rfl, rfl, rfl⟩, rfl, rfl, trivial⟩, ⟨⟨by rw [hf]; simp, .inl rfl, .inl rfl⟩, lcr, trivial⟩, rfl⟩)
     · rw [if_neg (by simpa using b0)] at hf
       exact q9 rfl (hJ _ (i + 1) (by omega) (by omega) ⟨⟨cwi (by omega) (by omega) (by omega), ⟨rfl, by rw [hf], rfl⟩, ⟨rfl, rfl, rfl⟩, rfl, rfl, trivial⟩, ⟨⟨by rw [hf], .inl rfl, .inl rfl⟩, lcr, trivial⟩, rfl⟩)
   · have h : i = s.done.length := by have : ¬ i < s.done.length := by simpa using h
                                      omega
     subst h
     rw [List.take_length]
     have hdl : (ints (dnI s.done)).length = (dnI s.done).length := by simp
     refine z2 rfl (hv) rfl ⟨trivial, trivial⟩ ?_
     refine z2 rfl (hso) rfl ⟨trivial, trivial⟩ ?_
     refine z2 rfl hq rfl ⟨rfl, hdl.symm, trivial⟩ ?_
     exact xr rfl (z6 rfl ⟨⟨rfl, rfl, trivial⟩, z1 rfl⟩)
end Go.Proofs.YthljegacamgnnaaGreat
end
section
namespace Go.Proofs.YthljegacamgnnaaGreat
open Go Go.Sx
set_option maxRecDepth 20000
set_option maxHeartbeats 4000000
theorem q6r (s : Shd) (ho : z3t s) : PC Tryz.prog 202 [.agg s.cs] (rI (yj s)) := by
 rw [← z3o s]
 have hA : many s = false → ye s.done = 0 → PC Tryz.prog 264 [.agg s.cs] (rB (z53 s)) := fun h1 h2 => y3u s ho (by simp [many] at h1; omega) h2
 refine PC.begin Tryz.func202 rfl (by kernel_rfl) ?_
 have ho' := ho
 obtain ⟨o1, o2, o3, o4, o5, o6⟩ := ho'
 have hm := q8h s
 refine z2 rfl (z1u _) rfl ⟨trivial, trivial⟩ ?_
 refine xb rfl (fun b0 => ?_) (fun b0 => ?_)
 refine xr rfl (z6 rfl ⟨⟨rfl, ?_, trivial⟩, z1 rfl⟩)
 rotate_left
 refine z2 rfl (z7a _ (by omega)) rfl ⟨trivial, trivial⟩ ?_
 refine xb rfl (fun b1 => ?_) (fun b1 => ?_)
 refine xr rfl (z6 rfl ⟨⟨rfl, ?_, trivial⟩, z1 rfl⟩)
 rotate_left
 refine xb rfl (fun b2 => ?_) (fun b2 => ?_)
 refine xr rfl (z6 rfl ⟨⟨rfl, ?_, trivial⟩, z1 rfl⟩)
 rotate_left
 refine zb rfl [] (.take 0 [] (.take 1 [2, 5, 7, 8, 9, 10] (.take 3 [] (.take 4 [5, 7, 8, 9, 10] (.take 6 [7, 8, 9, 10] (.alt 2 (.alt 5 (.alt 7 (.alt 8 (.alt 9 (.take 10 [] .done) .nil) .nil) .nil) .nil) .nil)))))) (by kernel_rfl) ?_
 refine z2 rfl (y41 _ _ q0f o2) rfl ⟨trivial, (fun _ h => nomatch h), trivial⟩ ?_
 refine z2 rfl (y41 _ _ q1y o4) rfl ⟨trivial, (fun _ h => nomatch h), trivial⟩ ?_
 refine z2 rfl (q40 _ (by assumption)) rfl ⟨⟨trivial, trivial, trivial, trivial, trivial, trivial, trivial⟩, trivial⟩ ?_
 refine xs rfl ⟨trivial, trivial, trivial, trivial⟩ ?_
 refine z2 rfl (z1s [_, _, _] (by simp)) rfl ⟨rfl, trivial⟩ ?_
 refine xb rfl (fun b3 => ?_) (fun b3 => ?_)
 refine xr rfl (z6 rfl ⟨⟨rfl, ?_, trivial⟩, z1 rfl⟩)
 rotate_left
 refine z2 rfl (y8y _ s.votes (z5q s) _ s rfl (fun m _ => q6e s m ho) o2) rfl ⟨trivial, trivial, trivial⟩ ?_
 refine xb rfl (fun b4 => ?_) (fun b4 => ?_)
 refine xj (k := 4) rfl ?_
 refine xr rfl (z6 rfl ⟨⟨rfl, ?_, trivial⟩, z1 rfl⟩)
 rotate_left
 refine xj (k := 1) rfl ?_
 refine z2 rfl (hA (hm.symm.trans b2) (q9v b3).2.1) rfl ⟨⟨trivial, trivial, trivial, trivial, trivial, trivial, trivial⟩, trivial⟩ ?_
 refine xj (k := 2) rfl ?_
 refine xb rfl (fun b5 => ?_) (fun b5 => ?_)
 refine xr rfl (z6 rfl ⟨⟨rfl, ?_, trivial⟩, z1 rfl⟩)
 rotate_left
 refine z2 rfl (y2h s ho (fun c hc => y79 (by simpa using b1) (y3h (mk := q1m) (q9v b3).2.2 c hc))) rfl ⟨⟨trivial, trivial, trivial, trivial, trivial, trivial, trivial⟩, trivial⟩ ?_
 refine xr rfl (z6 rfl ⟨⟨rfl, ?_, trivial⟩, z1 rfl⟩)
 rotate_left
 all_goals (refine vi ?_; unfold z1h; simp_all)
end Go.Proofs.YthljegacamgnnaaGreat
end
section
namespace Go.Proofs.YthljegacamgnnaaGreat
open Go Go.Sx
set_option maxRecDepth 20000
set_option maxHeartbeats 4000000
theorem y01 (v : Int) : PC Tryz.prog 273 [.one (i64 v)] (rB (within v 0 1000)) := by
 refine PC.begin Tryz.func273 rfl (by kernel_rfl) ?_
 refine z2 rfl (qj _ _ _) rfl ⟨trivial, trivial, trivial, trivial⟩ ?_
 refine xr rfl (z6 rfl ⟨⟨rfl, rfl, trivial⟩, z1 rfl⟩)
theorem zv (v : Int) : PC Tryz.prog 186 [.one (i64 v)] (rB (within v 0 1000)) := by
 refine PC.begin Tryz.func186 rfl (by kernel_rfl) ?_
 refine z2 rfl (zh _ _ _) rfl ⟨trivial, trivial, trivial, trivial⟩ ?_
 refine xr rfl (z6 rfl ⟨⟨rfl, rfl, trivial⟩, z1 rfl⟩)
theorem q02 (v : Int) : PC Tryz.prog 187 [.one (i64 v)] (rB (within v 1 2)) := by
 refine PC.begin Tryz.func187 rfl (by kernel_rfl) ?_
 refine xb rfl (fun b0 => ?_) (fun b0 => ?_)
 refine xj (k := 2) rfl ?_
 refine xr rfl (z6 rfl ⟨⟨rfl, ?_, trivial⟩, z1 rfl⟩)
 rotate_left
 refine xj (k := 2) rfl ?_
 refine xr rfl (z6 rfl ⟨⟨rfl, ?_, trivial⟩, z1 rfl⟩)
 rotate_left
 all_goals (refine vb ?_; rw [Bool.eq_iff_iff]; (simp_all [within] <;> omega))
theorem q1l (x : Vt) : PC Tryz.prog 278 [.agg x.cs] (rB x.ok) := by
 refine PC.begin Tryz.func278 rfl (by kernel_rfl) ?_
 refine z2 rfl (y01 _) rfl ⟨trivial, trivial⟩ ?_
 refine xb rfl (fun b0 => ?_) (fun b0 => ?_)
 refine xj (k := 2) rfl ?_
 refine z2 rfl (q0f _) rfl ⟨trivial, trivial⟩ ?_
 refine xj (k := 1) rfl ?_
 refine xr rfl (z6 rfl ⟨⟨rfl, ?_, trivial⟩, z1 rfl⟩)
 rotate_left
 refine xj (k := 3) rfl ?_
 refine xr rfl (z6 rfl ⟨⟨rfl, ?_, trivial⟩, z1 rfl⟩)
 rotate_left
 all_goals (refine vb ?_; simp_all [Vt.ok])
theorem z1g (x : Vt) : PC Tryz.prog 191 [.agg x.cs] (rB x.ok) := by
 refine PC.begin Tryz.func191 rfl (by kernel_rfl) ?_
 refine z2 rfl (zv _) rfl ⟨trivial, trivial⟩ ?_
 refine xb rfl (fun b0 => ?_) (fun b0 => ?_)
 refine xj (k := 2) rfl ?_
 refine z2 rfl (q02 _) rfl ⟨trivial, trivial⟩ ?_
 refine xj (k := 1) rfl ?_
 refine xr rfl (z6 rfl ⟨⟨rfl, ?_, trivial⟩, z1 rfl⟩)
 rotate_left
 refine xj (k := 3) rfl ?_
 refine xr rfl (z6 rfl ⟨⟨rfl, ?_, trivial⟩, z1 rfl⟩)
 rotate_left
 all_goals (refine vb ?_; simp_all [Vt.ok])
theorem q1i {a b c d : Int} : z0x [.int .i64 a, .int .i64 b] [.int .i64 c, .int .i64 d] = (a == c && b == d) := by simp [z0x]
abbrev rVt (x : Vt) : Res := .one (.own true [.s (.int .i64 x.b), .s (.int .i64 x.v)])
theorem z2k : PC Tryz.prog 277 [] (rVt Vt.none) := by
 refine PC.begin Tryz.func277 rfl (by kernel_rfl) ?_
 refine xr rfl (z6 rfl ⟨⟨rfl, rfl, rfl, trivial⟩, z1 rfl⟩)
theorem z1m : PC Tryz.prog 190 [] (rVt Vt.none) := by
 refine PC.begin Tryz.func190 rfl (by kernel_rfl) ?_
 refine xr rfl (z6 rfl ⟨⟨rfl, rfl, rfl, trivial⟩, z1 rfl⟩)
theorem y91 {α β : Type} {us : List α} {x : α} (f : α → β) (h0 : 0 < us.length) (h : us.length ≤ 1048576) (hx : us[us.length - 1]? = some x) : (us.map f)[(IntKind.i64.wrap (((us.map f).length : Int) - 1)).toNat]? = some (f x) := by
 rw [List.length_map]; exact y0w f h0 (by omega) hx
theorem y98 {α β : Type} {us : List α} (f : α → β) (h0 : 0 < us.length) (h : us.length ≤ 1048576) : 0 ≤ IntKind.i64.wrap (((us.map f).length : Int) - 1) := by rw [List.length_map]; exact q0e h0 (by omega)
theorem z4o (us : List Vt) (hl : us.length ≤ 1048576) : PC Tryz.prog 315 [.one (.l (us.map Vt.cs))] (rVt (z2w us)) := by
 refine PC.begin Tryz.func315 rfl (by kernel_rfl) ?_
 by_cases h0 : us.length = 0
 · have e : us = [] := List.eq_nil_of_length_eq_zero h0
   have e2 : z2w us = Vt.none := by rw [e]; rfl
   rw [e2]
   refine xb rfl (fun b0 => ?_) (fun b0 => ?_)
   refine z2 rfl (z2k) rfl trivial ?_
   refine xr rfl (z6 rfl ⟨⟨rfl, rfl, rfl, trivial⟩, z1 rfl⟩)
   exact absurd b0 (by simp; omega)
   all_goals first | done | (exfalso; simp_all; done) | skip
 · obtain ⟨x, hx⟩ := gx (xs := us) (i := us.length - 1) (by omega)
   have e2 : z2w us = x := by unfold z2w; rw [hx]; rfl
   rw [e2]
   have hg := y91 Vt.cs (by omega) hl hx
   refine xb rfl (fun b0 => ?_) (fun b0 => ?_)
   exact absurd b0 (by simp [*])
   refine xs rfl (y98 Vt.cs (by omega) hl) ?_
   refine za rfl _ hg ?_
   refine xs rfl rfl ?_
   refine xr rfl (z6 rfl ⟨⟨rfl, rfl, rfl, trivial⟩, z1 rfl⟩)
   all_goals first | done | (exfalso; simp_all; done) | skip
theorem y6f (s : Slt) (hl : s.cast.length ≤ 1048576) : PC Tryz.prog 304 [.agg s.cs] (rVt (z2w s.cast)) := by
 refine PC.begin Tryz.func304 rfl (by kernel_rfl) ?_
 by_cases h0 : s.cast.length = 0
 · have e : s.cast = [] := List.eq_nil_of_length_eq_zero h0
   have e2 : z2w s.cast = Vt.none := by rw [e]; rfl
   rw [e2]
   refine xb rfl (fun b0 => ?_) (fun b0 => ?_)
   refine z2 rfl (z1m) rfl trivial ?_
   refine xr rfl (z6 rfl ⟨⟨rfl, rfl, rfl, trivial⟩, z1 rfl⟩)
   exact absurd b0 (by simp; omega)
   all_goals first | done | (exfalso; simp_all; done) | skip
 · obtain ⟨x, hx⟩ := gx (xs := s.cast) (i := s.cast.length - 1) (by omega)
   have e2 : z2w s.cast = x := by unfold z2w; rw [hx]; rfl
   rw [e2]
   have hg := y91 Vt.cs (by omega) hl hx
   refine xb rfl (fun b0 => ?_) (fun b0 => ?_)
   exact absurd b0 (by simp [*])
   refine xs rfl (y98 Vt.cs (by omega) hl) ?_
   refine za rfl _ hg ?_
   refine xs rfl rfl ?_
   refine xr rfl (z6 rfl ⟨⟨rfl, rfl, rfl, trivial⟩, z1 rfl⟩)
   all_goals first | done | (exfalso; simp_all; done) | skip
theorem y3v (us : List Vt) (hl : us.length ≤ 1048576) : PC Tryz.prog 314 [.one (.l (us.map Vt.cs))] (rI (scan (y0r us) us.length)) := by
 refine PC.begin Tryz.func314 rfl (by kernel_rfl) ?_
 have hle : (us.map Vt.cs).length = us.length := by simp
 refine zc rfl (ι := Nat) (fun i => i ≤ us.length ∧ ∀ j, j < i → y0r us j = 0) (fun i => ⟨[(7, sV (.int .i64 i)), (6, sV (.int .i64 (us.map Vt.cs).length)), (5, .one (.b (.l (us.map Vt.cs)))), (0, .one (.b (.l (us.map Vt.cs))))], []⟩) (fun i => us.length - i) 0 ⟨Nat.zero_le _, fun j hj => by omega⟩ ?_ ?_
 · exact ⟨⟨rfl, rfl, rfl, rfl, trivial⟩, trivial, rfl⟩
 · intro i ⟨hi, h0⟩ J hJ
   refine xb rfl (fun h => ?_) (fun h => ?_)
   · have h : i < us.length := by simpa using h
     obtain ⟨x, hx⟩ := gx h
     have hg := gm Vt.cs hx
     rcases Nat.eq_zero_or_pos i with hz | hz
     · subst hz
       refine xs rfl (Int.natCast_nonneg _) ?_
       refine za rfl _ hg ?_
       refine xs rfl rfl ?_
       refine z2 rfl (q1l _) rfl ⟨⟨trivial, trivial, trivial⟩, trivial⟩ ?_
       refine xb rfl (fun b0 => ?_) (fun b0 => ?_)
       refine xr rfl (z6 rfl ⟨⟨rfl, ?_, trivial⟩, z1 rfl⟩)
       rotate_left
       refine zb rfl [] (.take 0 [] (.take 1 [] (.take 2 [] (.take 3 [] (.take 4 [11, 12, 13, 14, 15, 16, 17, 18, 19, 20, 21, 22, 23, 24, 25, 26, 27, 28, 29, 30, 31, 32, 33, 34, 35] (.take 5 [] (.take 6 [] (.take 7 [] (.take 8 [] (.take 9 [] (.take 10 [11, 12, 13, 14, 15, 16, 17, 18, 19, 20, 21, 22, 23, 24, 25, 26, 27, 28, 29, 30, 31, 32, 33, 34, 35] (.take 11 [] (.take 12 [] (.take 13 [] (.take 14 [21, 22, 23, 24, 25, 26, 27, 28, 29, 30, 31, 32, 33, 34, 35] (.take 15 [] (.take 16 [] (.take 17 [] (.take 18 [] (.take 19 [] (.take 20 [21, 22, 23, 24, 25, 26, 27, 28, 29, 30, 31, 32, 33, 34, 35] (.take 21 [] (.take 22 [] (.take 23 [] (.take 24 [31, 32, 33, 34, 35] (.take 25 [] (.take 26 [] (.take 27 [] (.take 28 [] (.take 29 [] (.take 30 [31, 32, 33, 34, 35] (.take 31 [] (.take 32 [] (.take 33 [] (.take 34 [] (.take 35 [] .done)))))))))))))))))))))))))))))))))))) (by kernel_rfl) ?_
       refine xj (k := 13) rfl ?_
       rotate_left
       all_goals (first | (refine vi (z7 h h0 ?_ (by first | decide | decide | simp_all)); clear hJ h0 hg; simp_all [y0r, ahead_zero]; done) | (refine q9 rfl (hJ _ 1 ⟨by omega, q8 h0 ?_⟩ (by omega) ⟨⟨cwi (by omega) (by omega) (by omega), rfl, rfl, rfl, trivial⟩, trivial, rfl⟩); clear hJ h0 hg; simp_all [y0r, ahead_zero]; done) | skip)
     · obtain ⟨p, hp⟩ := gx (xs := us) (i := i - 1) (by omega)
       have hgp := y0w Vt.cs hz (by omega) hp
       refine xs rfl (Int.natCast_nonneg _) ?_
       refine za rfl _ hg ?_
       refine xs rfl rfl ?_
       refine z2 rfl (q1l _) rfl ⟨⟨trivial, trivial, trivial⟩, trivial⟩ ?_
       refine xb rfl (fun b0 => ?_) (fun b0 => ?_)
       refine xr rfl (z6 rfl ⟨⟨rfl, ?_, trivial⟩, z1 rfl⟩)
       rotate_left
       refine zb rfl [] (.take 0 [] (.take 1 [] (.take 2 [] (.take 3 [] (.take 4 [11, 12, 13, 14, 15, 16, 17, 18, 19, 20, 21, 22, 23, 24, 25, 26, 27, 28, 29, 30, 31, 32, 33, 34, 35] (.take 5 [] (.take 6 [] (.take 7 [] (.take 8 [] (.take 9 [] (.take 10 [11, 12, 13, 14, 15, 16, 17, 18, 19, 20, 21, 22, 23, 24, 25, 26, 27, 28, 29, 30, 31, 32, 33, 34, 35] (.take 11 [] (.take 12 [] (.take 13 [] (.take 14 [21, 22, 23, 24, 25, 26, 27, 28, 29, 30, 31, 32, 33, 34, 35] (.take 15 [] (.take 16 [] (.take 17 [] (.take 18 [] (.take 19 [] (.take 20 [21, 22, 23, 24, 25, 26, 27, 28, 29, 30, 31, 32, 33, 34, 35] (.take 21 [] (.take 22 [] (.take 23 [] (.take 24 [31, 32, 33, 34, 35] (.take 25 [] (.take 26 [] (.take 27 [] (.take 28 [] (.take 29 [] (.take 30 [31, 32, 33, 34, 35] (.take 31 [] (.take 32 [] (.take 33 [] (.take 34 [] (.take 35 [] .done)))))))))))))))))))))))))))))))))))) (by kernel_rfl) ?_
       refine xb rfl (fun b1 => ?_) (fun b1 => ?_)
       refine xj (k := 5) rfl ?_
       refine xs rfl (q0e hz (by omega)) ?_
       refine za rfl _ hgp ?_
       refine xs rfl rfl ?_
       refine xj (k := 4) rfl ?_
       refine xb rfl (fun b2 => ?_) (fun b2 => ?_)
       refine xj (k := 14) rfl ?_
       refine xr rfl (z6 rfl ⟨⟨rfl, ?_, trivial⟩, z1 rfl⟩)
       rotate_left
       refine xj (k := 5) rfl ?_
       refine xs rfl (q0e hz (by omega)) ?_
       refine za rfl _ hgp ?_
       refine xs rfl rfl ?_
       refine xj (k := 4) rfl ?_
       refine xb rfl (fun b3 => ?_) (fun b3 => ?_)
       refine xj (k := 5) rfl ?_
       refine xs rfl (q0e hz (by omega)) ?_
       refine za rfl _ hgp ?_
       refine xs rfl rfl ?_
       refine xj (k := 8) rfl ?_
       refine xb rfl (fun b4 => ?_) (fun b4 => ?_)
       refine xr rfl (z6 rfl ⟨⟨rfl, ?_, trivial⟩, z1 rfl⟩)
       rotate_left
       rotate_left
       refine xj (k := 14) rfl ?_
       rotate_left
       refine xj (k := 12) rfl ?_
       rotate_left
       all_goals (first | (refine vi (z7 h h0 ?_ (by first | decide | decide | simp_all)); clear hJ h0 hg hgp; simp_all [y0r, z8 hz hp]; done) | (refine q9 rfl (hJ _ (i + 1) ⟨by omega, q8 h0 ?_⟩ (by omega) ⟨⟨cwi (by omega) (by omega) (by omega), rfl, rfl, rfl, trivial⟩, trivial, rfl⟩); clear hJ h0 hg hgp; simp_all [y0r, z8 hz hp]; done) | skip)
   · have h : ¬ i < us.length := by simpa using h
     have hz := qb (f := y0r us) (n := us.length) (fun j hj => h0 j (by omega))
     clear hJ
     refine xr rfl (z6 rfl ⟨⟨rfl, ?_, trivial⟩, z1 rfl⟩)
     exact vi (hz.symm)
theorem z56 (s : Slt) (hl : s.cast.length ≤ 1048576) : PC Tryz.prog 268 [.agg s.cs] (rI s.fault) := by
 refine PC.begin Tryz.func268 rfl (by kernel_rfl) ?_
 have hle : (s.cast.map Vt.cs).length = s.cast.length := by simp
 refine z2 rfl (q3i _) rfl ⟨trivial, trivial⟩ ?_
 refine xb rfl (fun b0 => ?_) (fun b0 => ?_)
 refine xj (k := 10) rfl ?_
 refine xr rfl (z6 rfl ⟨⟨rfl, ?_, trivial⟩, z1 rfl⟩)
 rotate_left
 refine xj (k := 2) rfl ?_
 refine z2 rfl (z1u _) rfl ⟨trivial, trivial⟩ ?_
 refine xj (k := 2) rfl ?_
 refine xb rfl (fun b1 => ?_) (fun b1 => ?_)
 refine xj (k := 5) rfl ?_
 refine xr rfl (z6 rfl ⟨⟨rfl, ?_, trivial⟩, z1 rfl⟩)
 rotate_left
 refine xj (k := 2) rfl ?_
 refine z2 rfl (qj _ _ _) rfl ⟨trivial, trivial, trivial, trivial⟩ ?_
 refine xj (k := 2) rfl ?_
 refine xb rfl (fun b2 => ?_) (fun b2 => ?_)
 refine xr rfl (z6 rfl ⟨⟨rfl, ?_, trivial⟩, z1 rfl⟩)
 rotate_left
 refine xb rfl (fun b3 => ?_) (fun b3 => ?_)
 refine xr rfl (z6 rfl ⟨⟨rfl, ?_, trivial⟩, z1 rfl⟩)
 rotate_left
 refine z2 rfl (y3v _ hl) rfl ⟨trivial, trivial⟩ ?_
 refine xb rfl (fun b4 => ?_) (fun b4 => ?_)
 refine xr rfl (z6 rfl ⟨⟨rfl, ?_, trivial⟩, z1 rfl⟩)
 rotate_left
 refine zb rfl [] (.take 0 [] (.take 1 [5, 6, 7, 8, 9, 10, 11, 12, 13] (.take 2 [] (.take 3 [4, 5, 6, 7, 8, 9, 10, 11, 12, 13] (.alt 4 (.take 5 [] (.take 6 [] (.take 7 [] (.take 8 [] (.take 9 [12, 13] (.take 10 [] (.take 11 [12, 13] (.take 12 [] (.take 13 [] .done))))))))) .nil))))) (by kernel_rfl) ?_
 refine z2 rfl (z4o _ hl) rfl ⟨trivial, trivial⟩ ?_
 refine xb rfl (fun b5 => ?_) (fun b5 => ?_)
 refine xj (k := 7) rfl ?_
 refine xr rfl (z6 rfl ⟨⟨rfl, ?_, trivial⟩, z1 rfl⟩)
 rotate_left
 refine xj (k := 6) rfl ?_
 refine xb rfl (fun b6 => ?_) (fun b6 => ?_)
 refine xr rfl (z6 rfl ⟨⟨rfl, ?_, trivial⟩, z1 rfl⟩)
 rotate_left
 refine xr rfl (z6 rfl ⟨⟨rfl, ?_, trivial⟩, z1 rfl⟩)
 rotate_left
 all_goals ((refine vi ?_; unfold Slt.fault; simp only [hle] at *; simp_all [q1i]; first | done | omega | ((repeat' split) <;> first | rfl | omega | (simp_all; done) | (simp_all; omega))))
theorem y5a (s : Slt) (hl : s.cast.length ≤ 1048576) : PC Tryz.prog 244 [.agg s.cs] (rI s.fault) := by
 refine PC.begin Tryz.func244 rfl (by kernel_rfl) ?_
 have hle : (s.cast.map Vt.cs).length = s.cast.length := by simp
 refine z2 rfl (z3j _) rfl ⟨trivial, trivial⟩ ?_
 refine xb rfl (fun b0 => ?_) (fun b0 => ?_)
 refine xj (k := 10) rfl ?_
 refine xr rfl (z6 rfl ⟨⟨rfl, ?_, trivial⟩, z1 rfl⟩)
 rotate_left
 refine xj (k := 2) rfl ?_
 refine z2 rfl (zh _ _ _) rfl ⟨trivial, trivial, trivial, trivial⟩ ?_
 refine xj (k := 2) rfl ?_
 refine xb rfl (fun b1 => ?_) (fun b1 => ?_)
 refine xj (k := 5) rfl ?_
 refine xr rfl (z6 rfl ⟨⟨rfl, ?_, trivial⟩, z1 rfl⟩)
 rotate_left
 refine xj (k := 2) rfl ?_
 refine z2 rfl (zh _ _ _) rfl ⟨trivial, trivial, trivial, trivial⟩ ?_
 refine xj (k := 2) rfl ?_
 refine xb rfl (fun b2 => ?_) (fun b2 => ?_)
 refine xr rfl (z6 rfl ⟨⟨rfl, ?_, trivial⟩, z1 rfl⟩)
 rotate_left
 refine xb rfl (fun b3 => ?_) (fun b3 => ?_)
 refine xr rfl (z6 rfl ⟨⟨rfl, ?_, trivial⟩, z1 rfl⟩)
 rotate_left
 rotate_left
 all_goals first | ((refine vi ?_; unfold Slt.fault; simp only [hle] at *; simp_all [q1i]; first | done | omega | ((repeat' split) <;> first | rfl | omega | (simp_all; done) | (simp_all; omega))); done) | skip
 refine zc rfl (ι := Nat) (fun i => i ≤ s.cast.length ∧ ∀ j, j < i → y0r s.cast j = 0) (fun i => ⟨[(3, sV (.int .i64 i)), (1, .one (.a 1 0))], [(1, .var (s.cs.map .b))]⟩) (fun i => s.cast.length - i) 0 ⟨Nat.zero_le _, fun j hj => by omega⟩ ?_ ?_
 · exact ⟨⟨rfl, ⟨rfl, rfl, rfl⟩, trivial⟩, ⟨lcr, trivial⟩, rfl⟩
 · intro i ⟨hi, h0⟩ J hJ
   refine xb rfl (fun h => ?_) (fun h => ?_)
   · have h : i < s.cast.length := by simpa using h
     obtain ⟨x, hx⟩ := gx h
     have hg := gm Vt.cs hx
     rcases Nat.eq_zero_or_pos i with hz | hz
     · subst hz
       refine xs rfl (Int.natCast_nonneg _) ?_
       refine za rfl _ hg ?_
       refine xs rfl rfl ?_
       refine z2 rfl (zv _) rfl ⟨trivial, trivial⟩ ?_
       refine xb rfl (fun b0 => ?_) (fun b0 => ?_)
       refine xj (k := 5) rfl ?_
       refine xr rfl (z6 rfl ⟨⟨rfl, ?_, trivial⟩, z1 rfl⟩)
       rotate_left
       refine xj (k := 2) rfl ?_
       refine z2 rfl (q02 _) rfl ⟨trivial, trivial⟩ ?_
       refine xj (k := 2) rfl ?_
       refine xb rfl (fun b1 => ?_) (fun b1 => ?_)
       refine xr rfl (z6 rfl ⟨⟨rfl, ?_, trivial⟩, z1 rfl⟩)
       rotate_left
       refine zb rfl [] (.take 0 [] (.take 1 [] (.take 2 [] (.take 3 [] (.take 4 [12, 13, 14, 15, 16, 17, 18, 19, 20, 21, 22, 23, 24, 25, 26, 27, 28, 29, 30, 31, 32, 33, 34, 35, 36, 37] (.take 5 [] (.take 6 [9, 10, 11, 12, 13, 14, 15, 16, 17, 18, 19, 20, 21, 22, 23, 24, 25, 26, 27, 28, 29, 30, 31, 32, 33, 34, 35, 36, 37] (.take 7 [] (.take 8 [] (.take 9 [] (.take 10 [] (.take 11 [12, 13, 14, 15, 16, 17, 18, 19, 20, 21, 22, 23, 24, 25, 26, 27, 28, 29, 30, 31, 32, 33, 34, 35, 36, 37] (.take 12 [] (.take 13 [] (.take 14 [] (.take 15 [23, 24, 25, 26, 27, 28, 29, 30, 31, 32, 33, 34, 35, 36, 37] (.take 16 [] (.take 17 [20, 21, 22, 23, 24, 25, 26, 27, 28, 29, 30, 31, 32, 33, 34, 35, 36, 37] (.take 18 [] (.take 19 [] (.take 20 [] (.take 21 [] (.take 22 [23, 24, 25, 26, 27, 28, 29, 30, 31, 32, 33, 34, 35, 36, 37] (.take 23 [] (.take 24 [] (.take 25 [] (.take 26 [34, 35, 36, 37] (.take 27 [] (.take 28 [31, 32, 33, 34, 35, 36, 37] (.take 29 [] (.take 30 [] (.take 31 [] (.take 32 [] (.take 33 [34, 35, 36, 37] (.take 34 [] (.take 35 [] (.take 36 [] (.take 37 [] .done)))))))))))))))))))))))))))))))))))))) (by kernel_rfl) ?_
       refine xj (k := 14) rfl ?_
       rotate_left
       all_goals (first | (have hsc := z7 (c := 3) h h0 (by clear hJ h0 hg; simp_all [y0r, ahead_zero, Vt.ok]; done) (by decide); clear hJ h0 hg; (refine vi ?_; unfold Slt.fault; simp only [hle] at *; simp_all [q1i]; first | done | omega | ((repeat' split) <;> first | rfl | omega | (simp_all; done) | (simp_all; omega))); done) | (have hsc := z7 (c := 1) h h0 (by clear hJ h0 hg; simp_all [y0r, ahead_zero, Vt.ok]; done) (by decide); clear hJ h0 hg; (refine vi ?_; unfold Slt.fault; simp only [hle] at *; simp_all [q1i]; first | done | omega | ((repeat' split) <;> first | rfl | omega | (simp_all; done) | (simp_all; omega))); done) | (refine vi (z7 h h0 ?_ (by first | decide | decide | simp_all)); clear hJ h0 hg; simp_all [y0r, ahead_zero, Vt.ok]; done) | (refine q9 rfl (hJ _ 1 ⟨by omega, q8 h0 ?_⟩ (by omega) ⟨⟨cwi (by omega) (by omega) (by omega), ⟨rfl, rfl, rfl⟩, trivial⟩, ⟨lcr, trivial⟩, rfl⟩); clear hJ h0 hg; simp_all [y0r, ahead_zero, Vt.ok]; done) | skip)
     · obtain ⟨p, hp⟩ := gx (xs := s.cast) (i := i - 1) (by omega)
       have hgp := y0w Vt.cs hz (by omega) hp
       refine xs rfl (Int.natCast_nonneg _) ?_
       refine za rfl _ hg ?_
       refine xs rfl rfl ?_
       refine z2 rfl (zv _) rfl ⟨trivial, trivial⟩ ?_
       refine xb rfl (fun b0 => ?_) (fun b0 => ?_)
       refine xj (k := 5) rfl ?_
       refine xr rfl (z6 rfl ⟨⟨rfl, ?_, trivial⟩, z1 rfl⟩)
       rotate_left
       refine xj (k := 2) rfl ?_
       refine z2 rfl (q02 _) rfl ⟨trivial, trivial⟩ ?_
       refine xj (k := 2) rfl ?_
       refine xb rfl (fun b1 => ?_) (fun b1 => ?_)
       refine xr rfl (z6 rfl ⟨⟨rfl, ?_, trivial⟩, z1 rfl⟩)
       rotate_left
       refine zb rfl [] (.take 0 [] (.take 1 [] (.take 2 [] (.take 3 [] (.take 4 [12, 13, 14, 15, 16, 17, 18, 19, 20, 21, 22, 23, 24, 25, 26, 27, 28, 29, 30, 31, 32, 33, 34, 35, 36, 37] (.take 5 [] (.take 6 [9, 10, 11, 12, 13, 14, 15, 16, 17, 18, 19, 20, 21, 22, 23, 24, 25, 26, 27, 28, 29, 30, 31, 32, 33, 34, 35, 36, 37] (.take 7 [] (.take 8 [] (.take 9 [] (.take 10 [] (.take 11 [12, 13, 14, 15, 16, 17, 18, 19, 20, 21, 22, 23, 24, 25, 26, 27, 28, 29, 30, 31, 32, 33, 34, 35, 36, 37] (.take 12 [] (.take 13 [] (.take 14 [] (.take 15 [23, 24, 25, 26, 27, 28, 29, 30, 31, 32, 33, 34, 35, 36, 37] (.take 16 [] (.take 17 [20, 21, 22, 23, 24, 25, 26, 27, 28, 29, 30, 31, 32, 33, 34, 35, 36, 37] (.take 18 [] (.take 19 [] (.take 20 [] (.take 21 [] (.take 22 [23, 24, 25, 26, 27, 28, 29, 30, 31, 32, 33, 34, 35, 36, 37] (.take 23 [] (.take 24 [] (.take 25 [] (.take 26 [34, 35, 36, 37] (.take 27 [] (.take 28 [31, 32, 33, 34, 35, 36, 37] (.take 29 [] (.take 30 [] (.take 31 [] (.take 32 [] (.take 33 [34, 35, 36, 37] (.take 34 [] (.take 35 [] (.take 36 [] (.take 37 [] .done)))))))))))))))))))))))))))))))))))))) (by kernel_rfl) ?_
       refine xb rfl (fun b2 => ?_) (fun b2 => ?_)
       refine xj (k := 6) rfl ?_
       refine xs rfl (q0e hz (by omega)) ?_
       refine za rfl _ hgp ?_
       refine xs rfl rfl ?_
       refine xj (k := 4) rfl ?_
       refine xb rfl (fun b3 => ?_) (fun b3 => ?_)
       refine xj (k := 15) rfl ?_
       refine xr rfl (z6 rfl ⟨⟨rfl, ?_, trivial⟩, z1 rfl⟩)
       rotate_left
       refine xj (k := 6) rfl ?_
       refine xs rfl (q0e hz (by omega)) ?_
       refine za rfl _ hgp ?_
       refine xs rfl rfl ?_
       refine xj (k := 4) rfl ?_
       refine xb rfl (fun b4 => ?_) (fun b4 => ?_)
       refine xj (k := 6) rfl ?_
       refine xs rfl (q0e hz (by omega)) ?_
       refine za rfl _ hgp ?_
       refine xs rfl rfl ?_
       refine xj (k := 8) rfl ?_
       refine xb rfl (fun b5 => ?_) (fun b5 => ?_)
       refine xr rfl (z6 rfl ⟨⟨rfl, ?_, trivial⟩, z1 rfl⟩)
       rotate_left
       rotate_left
       refine xj (k := 15) rfl ?_
       rotate_left
       refine xj (k := 13) rfl ?_
       rotate_left
       all_goals (first | (have hsc := z7 (c := 3) h h0 (by clear hJ h0 hg hgp; simp_all [y0r, z8 hz hp, Vt.ok]; done) (by decide); clear hJ h0 hg; (refine vi ?_; unfold Slt.fault; simp only [hle] at *; simp_all [q1i]; first | done | omega | ((repeat' split) <;> first | rfl | omega | (simp_all; done) | (simp_all; omega))); done) | (have hsc := z7 (c := 1) h h0 (by clear hJ h0 hg hgp; simp_all [y0r, z8 hz hp, Vt.ok]; done) (by decide); clear hJ h0 hg; (refine vi ?_; unfold Slt.fault; simp only [hle] at *; simp_all [q1i]; first | done | omega | ((repeat' split) <;> first | rfl | omega | (simp_all; done) | (simp_all; omega))); done) | (refine vi (z7 h h0 ?_ (by first | decide | decide | simp_all)); clear hJ h0 hg hgp; simp_all [y0r, z8 hz hp, Vt.ok]; done) | (refine q9 rfl (hJ _ (i + 1) ⟨by omega, q8 h0 ?_⟩ (by omega) ⟨⟨cwi (by omega) (by omega) (by omega), ⟨rfl, rfl, rfl⟩, trivial⟩, ⟨lcr, trivial⟩, rfl⟩); clear hJ h0 hg hgp; simp_all [y0r, z8 hz hp, Vt.ok]; done) | skip)
   · have h : ¬ i < s.cast.length := by simpa using h
     have hz := qb (f := y0r s.cast) (n := s.cast.length) (fun j hj => h0 j (by omega))
     clear hJ
     refine zb rfl [] (.take 0 [] (.take 1 [4, 5, 6, 7, 8, 9, 10, 11, 12] (.take 2 [3, 4, 5, 6, 7, 8, 9, 10, 11, 12] (.alt 3 (.take 4 [] (.take 5 [] (.take 6 [] (.take 7 [] (.take 8 [11, 12] (.take 9 [] (.take 10 [11, 12] (.take 11 [] (.take 12 [] .done))))))))) .nil)))) (by kernel_rfl) ?_
     refine z2 rfl (y6f _ hl) rfl ⟨⟨trivial, trivial, trivial, trivial, trivial, trivial, trivial⟩, trivial⟩ ?_
     refine xb rfl (fun b0 => ?_) (fun b0 => ?_)
     refine xj (k := 7) rfl ?_
     refine xr rfl (z6 rfl ⟨⟨rfl, ?_, trivial⟩, z1 rfl⟩)
     rotate_left
     refine xj (k := 6) rfl ?_
     refine xb rfl (fun b1 => ?_) (fun b1 => ?_)
     refine xr rfl (z6 rfl ⟨⟨rfl, ?_, trivial⟩, z1 rfl⟩)
     rotate_left
     refine xr rfl (z6 rfl ⟨⟨rfl, ?_, trivial⟩, z1 rfl⟩)
     rotate_left
     all_goals ((refine vi ?_; unfold Slt.fault; simp only [hle] at *; simp_all [q1i]; first | done | omega | ((repeat' split) <;> first | rfl | omega | (simp_all; done) | (simp_all; omega))))
end Go.Proofs.YthljegacamgnnaaGreat
end
section
namespace Go.Proofs.YthljegacamgnnaaGreat
open Go Go.Sx
set_option maxRecDepth 20000
set_option maxHeartbeats 4000000
theorem z2d (a b : Slt) : PC Tryz.prog 269 [.agg a.cs, .agg b.cs] (rI (orr [z0a a.c b.c, z0a a.s b.s])) := by
 refine PC.begin Tryz.func269 rfl (by kernel_rfl) ?_
 refine zb rfl [] (.take 0 [] (.take 1 [4, 9, 10, 11, 12] (.take 2 [] (.take 3 [4, 9, 10, 11, 12] (.take 5 [] (.take 6 [9, 10, 11, 12] (.take 7 [] (.take 8 [9, 10, 11, 12] (.alt 4 (.alt 9 (.alt 10 (.alt 11 (.take 12 [] .done) .nil) .nil) .nil) .nil))))))))) (by kernel_rfl) ?_
 refine z2 rfl (zp _ _) rfl ⟨trivial, trivial, trivial⟩ ?_
 refine z2 rfl (zp _ _) rfl ⟨trivial, trivial, trivial⟩ ?_
 refine xs rfl ⟨trivial, trivial, trivial⟩ ?_
 refine z2 rfl (y7f [_, _] (by simp)) rfl ⟨rfl, trivial⟩ ?_
 refine xr rfl (z6 rfl ⟨⟨rfl, rfl, trivial⟩, z1 rfl⟩)
theorem z33 (a b : Slt) : PC Tryz.prog 245 [.agg a.cs, .agg b.cs] (rB (Slt.lt a b)) := by
 refine PC.begin Tryz.func245 rfl (by kernel_rfl) ?_
 refine xb rfl (fun b0 => ?_) (fun b0 => ?_)
 refine xr rfl (z6 rfl ⟨⟨rfl, ?_, trivial⟩, z1 rfl⟩)
 rotate_left
 refine xr rfl (z6 rfl ⟨⟨rfl, ?_, trivial⟩, z1 rfl⟩)
 rotate_left
 all_goals (refine vb ?_; simp_all [Slt.lt])
theorem q7t {p x : Slt} : 0 ≤ orr [z0a p.c x.c, z0a p.s x.s] ↔ Slt.lt p x = false := by
 unfold orr orr orr z0a Slt.lt
 repeat' split
 all_goals (simp; try omega)
theorem z8a (a : Acc) (ho : z5x a) : PC Tryz.prog 207 [.agg a.cs] (rI a.fault) := by
 refine PC.begin Tryz.func207 rfl (by kernel_rfl) ?_
 have hle : (a.slots.map Slt.cs).length = a.slots.length := by simp
 obtain ⟨ho1, ho2⟩ := ho
 refine xb rfl (fun b0 => ?_) (fun b0 => ?_)
 refine xr rfl (z6 rfl ⟨⟨rfl, ?_, trivial⟩, z1 rfl⟩)
 rotate_left
 rotate_left
 all_goals first | ((refine vi ?_; unfold Acc.fault; simp only [hle] at *; simp_all; first | done | omega | ((repeat' split) <;> first | rfl | omega | (simp_all; done) | (simp_all; omega))); done) | skip
 refine zc rfl (ι := Nat) (fun i => i ≤ a.slots.length ∧ ∀ j, j < i → y2u a.slots j = 0) (fun i => ⟨[(13, sV (.int .i64 i)), (12, sV (.int .i64 (a.slots.map Slt.cs).length)), (11, .one (.b (.l (a.slots.map Slt.cs)))), (1, .one (.a 1 0))], [(1, .var (a.cs.map .b))]⟩) (fun i => a.slots.length - i) 0 ⟨Nat.zero_le _, fun j hj => by omega⟩ ?_ ?_
 · exact ⟨⟨rfl, rfl, rfl, ⟨rfl, rfl, rfl⟩, trivial⟩, ⟨lcr, trivial⟩, rfl⟩
 · intro i ⟨hi, h0⟩ J hJ
   refine xb rfl (fun h => ?_) (fun h => ?_)
   · have h : i < a.slots.length := by simpa using h
     obtain ⟨x, hx⟩ := gx h
     have hg := gm Slt.cs hx
     have hxc := ho2 x (List.mem_of_getElem? hx)
     rcases Nat.eq_zero_or_pos i with hz | hz
     · subst hz
       refine xs rfl (Int.natCast_nonneg _) ?_
       refine za rfl _ hg ?_
       refine xs rfl rfl ?_
       refine z2 rfl (z56 _ (by assumption)) rfl ⟨⟨trivial, trivial, trivial, trivial, trivial, trivial, trivial⟩, trivial⟩ ?_
       refine xb rfl (fun b0 => ?_) (fun b0 => ?_)
       refine xr rfl (z6 rfl ⟨⟨rfl, ?_, trivial⟩, z1 rfl⟩)
       rotate_left
       refine zb rfl [] (.take 0 [] (.take 1 [] (.take 2 [] (.take 3 [] (.take 4 [7, 8, 10, 11, 12] (.take 5 [] (.take 6 [] (.take 7 [] (.take 8 [10, 11, 12] (.take 9 [10, 11, 12] (.alt 10 (.take 11 [] (.take 12 [] .done)) .nil))))))))))) (by kernel_rfl) ?_
       refine xj (k := 11) rfl ?_
       rotate_left
       all_goals (first | (have hsc := z7 (c := 1) h h0 (by clear hJ h0 hg; simp_all [y2u, ahead_zero, q7t]; done) (by decide); clear hJ h0 hg; (refine vi ?_; unfold Acc.fault; simp only [hle] at *; simp_all; first | done | omega | ((repeat' split) <;> first | rfl | omega | (simp_all; done) | (simp_all; omega))); done) | (have hsc := z7 (c := x.fault) h h0 (by clear hJ h0 hg; simp_all [y2u, ahead_zero, q7t]; done) (by clear hJ h0; simp_all); clear hJ h0 hg; (refine vi ?_; unfold Acc.fault; simp only [hle] at *; simp_all; first | done | omega | ((repeat' split) <;> first | rfl | omega | (simp_all; done) | (simp_all; omega))); done) | (refine vi (z7 h h0 ?_ (by first | decide | decide | simp_all)); clear hJ h0 hg; simp_all [y2u, ahead_zero, q7t]; done) | (refine q9 rfl (hJ _ 1 ⟨by omega, q8 h0 ?_⟩ (by omega) ⟨⟨cwi (by omega) (by omega) (by omega), rfl, rfl, ⟨rfl, rfl, rfl⟩, trivial⟩, ⟨lcr, trivial⟩, rfl⟩); clear hJ h0 hg; simp_all [y2u, ahead_zero, q7t]; done) | skip)
     · obtain ⟨p, hp⟩ := gx (xs := a.slots) (i := i - 1) (by omega)
       have hgp := y0w Slt.cs hz (by omega) hp
       refine xs rfl (Int.natCast_nonneg _) ?_
       refine za rfl _ hg ?_
       refine xs rfl rfl ?_
       refine z2 rfl (z56 _ (by assumption)) rfl ⟨⟨trivial, trivial, trivial, trivial, trivial, trivial, trivial⟩, trivial⟩ ?_
       refine xb rfl (fun b0 => ?_) (fun b0 => ?_)
       refine xr rfl (z6 rfl ⟨⟨rfl, ?_, trivial⟩, z1 rfl⟩)
       rotate_left
       refine zb rfl [] (.take 0 [] (.take 1 [] (.take 2 [] (.take 3 [] (.take 4 [7, 8, 10, 11, 12] (.take 5 [] (.take 6 [] (.take 7 [] (.take 8 [10, 11, 12] (.take 9 [10, 11, 12] (.alt 10 (.take 11 [] (.take 12 [] .done)) .nil))))))))))) (by kernel_rfl) ?_
       refine xb rfl (fun b1 => ?_) (fun b1 => ?_)
       refine xj (k := 4) rfl ?_
       refine xs rfl (q0e hz (by omega)) ?_
       refine za rfl _ hgp ?_
       refine xs rfl rfl ?_
       refine xj (k := 3) rfl ?_
       refine z2 rfl (z2d _ _) rfl ⟨⟨trivial, trivial, trivial, trivial, trivial, trivial, trivial⟩, ⟨trivial, trivial, trivial, trivial, trivial, trivial, trivial⟩, trivial⟩ ?_
       refine xj (k := 2) rfl ?_
       refine xb rfl (fun b2 => ?_) (fun b2 => ?_)
       refine xr rfl (z6 rfl ⟨⟨rfl, ?_, trivial⟩, z1 rfl⟩)
       rotate_left
       rotate_left
       refine xj (k := 10) rfl ?_
       rotate_left
       all_goals (first | (have hsc := z7 (c := 1) h h0 (by clear hJ h0 hg hgp; simp_all [y2u, z8 hz hp, q7t]; done) (by decide); clear hJ h0 hg; (refine vi ?_; unfold Acc.fault; simp only [hle] at *; simp_all; first | done | omega | ((repeat' split) <;> first | rfl | omega | (simp_all; done) | (simp_all; omega))); done) | (have hsc := z7 (c := x.fault) h h0 (by clear hJ h0 hg hgp; simp_all [y2u, z8 hz hp, q7t]; done) (by clear hJ h0; simp_all); clear hJ h0 hg; (refine vi ?_; unfold Acc.fault; simp only [hle] at *; simp_all; first | done | omega | ((repeat' split) <;> first | rfl | omega | (simp_all; done) | (simp_all; omega))); done) | (refine vi (z7 h h0 ?_ (by first | decide | decide | simp_all)); clear hJ h0 hg hgp; simp_all [y2u, z8 hz hp, q7t]; done) | (refine q9 rfl (hJ _ (i + 1) ⟨by omega, q8 h0 ?_⟩ (by omega) ⟨⟨cwi (by omega) (by omega) (by omega), rfl, rfl, ⟨rfl, rfl, rfl⟩, trivial⟩, ⟨lcr, trivial⟩, rfl⟩); clear hJ h0 hg hgp; simp_all [y2u, z8 hz hp, q7t]; done) | skip)
   · have h : ¬ i < a.slots.length := by simpa using h
     have hz := qb (f := y2u a.slots) (n := a.slots.length) (fun j hj => h0 j (by omega))
     clear hJ
     refine xr rfl (z6 rfl ⟨⟨rfl, ?_, trivial⟩, z1 rfl⟩)
     all_goals ((refine vi ?_; unfold Acc.fault; simp only [hle] at *; simp_all; first | done | omega | ((repeat' split) <;> first | rfl | omega | (simp_all; done) | (simp_all; omega))))
theorem q8m (a : Acc) (ho : z5x a) : PC Tryz.prog 184 [.agg a.cs] (rI a.fault) := by
 refine PC.begin Tryz.func184 rfl (by kernel_rfl) ?_
 have hle : (a.slots.map Slt.cs).length = a.slots.length := by simp
 obtain ⟨ho1, ho2⟩ := ho
 refine xb rfl (fun b0 => ?_) (fun b0 => ?_)
 refine xr rfl (z6 rfl ⟨⟨rfl, ?_, trivial⟩, z1 rfl⟩)
 rotate_left
 rotate_left
 all_goals first | ((refine vi ?_; unfold Acc.fault; simp only [hle] at *; simp_all; first | done | omega | ((repeat' split) <;> first | rfl | omega | (simp_all; done) | (simp_all; omega))); done) | skip
 refine zc rfl (ι := Nat) (fun i => i ≤ a.slots.length ∧ ∀ j, j < i → y2u a.slots j = 0) (fun i => ⟨[(3, sV (.int .i64 i)), (1, .one (.a 1 0))], [(1, .var (a.cs.map .b))]⟩) (fun i => a.slots.length - i) 0 ⟨Nat.zero_le _, fun j hj => by omega⟩ ?_ ?_
 · exact ⟨⟨rfl, ⟨rfl, rfl, rfl⟩, trivial⟩, ⟨lcr, trivial⟩, rfl⟩
 · intro i ⟨hi, h0⟩ J hJ
   refine xb rfl (fun h => ?_) (fun h => ?_)
   · have h : i < a.slots.length := by simpa using h
     obtain ⟨x, hx⟩ := gx h
     have hg := gm Slt.cs hx
     have hxc := ho2 x (List.mem_of_getElem? hx)
     rcases Nat.eq_zero_or_pos i with hz | hz
     · subst hz
       refine xs rfl (Int.natCast_nonneg _) ?_
       refine za rfl _ hg ?_
       refine xs rfl rfl ?_
       refine z2 rfl (y5a _ (by assumption)) rfl ⟨⟨trivial, trivial, trivial, trivial, trivial, trivial, trivial⟩, trivial⟩ ?_
       refine xb rfl (fun b0 => ?_) (fun b0 => ?_)
       refine xr rfl (z6 rfl ⟨⟨rfl, ?_, trivial⟩, z1 rfl⟩)
       rotate_left
       refine zb rfl [] (.take 0 [] (.take 1 [] (.take 2 [] (.take 3 [] (.take 4 [7, 8, 14, 15, 16] (.take 5 [] (.take 6 [] (.take 7 [] (.take 8 [14, 15, 16] (.take 9 [] (.take 10 [12, 13, 14, 15, 16] (.take 11 [] (.take 12 [] (.take 13 [14, 15, 16] (.alt 14 (.take 15 [] (.take 16 [] .done)) .nil))))))))))))))) (by kernel_rfl) ?_
       refine xj (k := 15) rfl ?_
       rotate_left
       all_goals (first | (have hsc := z7 (c := 1) h h0 (by clear hJ h0 hg; simp_all [y2u, ahead_zero]; done) (by decide); clear hJ h0 hg; (refine vi ?_; unfold Acc.fault; simp only [hle] at *; simp_all; first | done | omega | ((repeat' split) <;> first | rfl | omega | (simp_all; done) | (simp_all; omega))); done) | (have hsc := z7 (c := x.fault) h h0 (by clear hJ h0 hg; simp_all [y2u, ahead_zero]; done) (by clear hJ h0; simp_all); clear hJ h0 hg; (refine vi ?_; unfold Acc.fault; simp only [hle] at *; simp_all; first | done | omega | ((repeat' split) <;> first | rfl | omega | (simp_all; done) | (simp_all; omega))); done) | (refine vi (z7 h h0 ?_ (by first | decide | decide | simp_all)); clear hJ h0 hg; simp_all [y2u, ahead_zero]; done) | (refine q9 rfl (hJ _ 1 ⟨by omega, q8 h0 ?_⟩ (by omega) ⟨⟨cwi (by omega) (by omega) (by omega), ⟨rfl, rfl, rfl⟩, trivial⟩, ⟨lcr, trivial⟩, rfl⟩); clear hJ h0 hg; simp_all [y2u, ahead_zero]; done) | skip)
     · obtain ⟨p, hp⟩ := gx (xs := a.slots) (i := i - 1) (by omega)
       have hgp := y0w Slt.cs hz (by omega) hp
       refine xs rfl (Int.natCast_nonneg _) ?_
       refine za rfl _ hg ?_
       refine xs rfl rfl ?_
       refine z2 rfl (y5a _ (by assumption)) rfl ⟨⟨trivial, trivial, trivial, trivial, trivial, trivial, trivial⟩, trivial⟩ ?_
       refine xb rfl (fun b0 => ?_) (fun b0 => ?_)
       refine xr rfl (z6 rfl ⟨⟨rfl, ?_, trivial⟩, z1 rfl⟩)
       rotate_left
       refine zb rfl [] (.take 0 [] (.take 1 [] (.take 2 [] (.take 3 [] (.take 4 [7, 8, 14, 15, 16] (.take 5 [] (.take 6 [] (.take 7 [] (.take 8 [14, 15, 16] (.take 9 [] (.take 10 [12, 13, 14, 15, 16] (.take 11 [] (.take 12 [] (.take 13 [14, 15, 16] (.alt 14 (.take 15 [] (.take 16 [] .done)) .nil))))))))))))))) (by kernel_rfl) ?_
       refine xb rfl (fun b1 => ?_) (fun b1 => ?_)
       refine xj (k := 4) rfl ?_
       refine xs rfl (q0e hz (by omega)) ?_
       refine za rfl _ hgp ?_
       refine xs rfl rfl ?_
       refine xj (k := 5) rfl ?_
       refine xs rfl (Int.natCast_nonneg _) ?_
       refine za rfl _ hg ?_
       refine xs rfl rfl ?_
       refine xj (k := 2) rfl ?_
       refine z2 rfl (z33 _ _) rfl ⟨⟨trivial, trivial, trivial, trivial, trivial, trivial, trivial⟩, ⟨trivial, trivial, trivial, trivial, trivial, trivial, trivial⟩, trivial⟩ ?_
       refine xj (k := 2) rfl ?_
       refine xb rfl (fun b2 => ?_) (fun b2 => ?_)
       refine xr rfl (z6 rfl ⟨⟨rfl, ?_, trivial⟩, z1 rfl⟩)
       rotate_left
       rotate_left
       refine xj (k := 14) rfl ?_
       rotate_left
       all_goals (first | (have hsc := z7 (c := 1) h h0 (by clear hJ h0 hg hgp; simp_all [y2u, z8 hz hp]; done) (by decide); clear hJ h0 hg; (refine vi ?_; unfold Acc.fault; simp only [hle] at *; simp_all; first | done | omega | ((repeat' split) <;> first | rfl | omega | (simp_all; done) | (simp_all; omega))); done) | (have hsc := z7 (c := x.fault) h h0 (by clear hJ h0 hg hgp; simp_all [y2u, z8 hz hp]; done) (by clear hJ h0; simp_all); clear hJ h0 hg; (refine vi ?_; unfold Acc.fault; simp only [hle] at *; simp_all; first | done | omega | ((repeat' split) <;> first | rfl | omega | (simp_all; done) | (simp_all; omega))); done) | (refine vi (z7 h h0 ?_ (by first | decide | decide | simp_all)); clear hJ h0 hg hgp; simp_all [y2u, z8 hz hp]; done) | (refine q9 rfl (hJ _ (i + 1) ⟨by omega, q8 h0 ?_⟩ (by omega) ⟨⟨cwi (by omega) (by omega) (by omega), ⟨rfl, rfl, rfl⟩, trivial⟩, ⟨lcr, trivial⟩, rfl⟩); clear hJ h0 hg hgp; simp_all [y2u, z8 hz hp]; done) | skip)
   · have h : ¬ i < a.slots.length := by simpa using h
     have hz := qb (f := y2u a.slots) (n := a.slots.length) (fun j hj => h0 j (by omega))
     clear hJ
     refine xr rfl (z6 rfl ⟨⟨rfl, ?_, trivial⟩, z1 rfl⟩)
     all_goals ((refine vi ?_; unfold Acc.fault; simp only [hle] at *; simp_all; first | done | omega | ((repeat' split) <;> first | rfl | omega | (simp_all; done) | (simp_all; omega))))
end Go.Proofs.YthljegacamgnnaaGreat
end
