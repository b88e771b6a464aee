/- WHAT IS PROVED: parts of the proof of fnExactSubmitContract_holds: a frame for walks, what each Go function that it reaches answers, and plain lemmas; no condition beyond those that each theorem names. -/
import Derived.Test.YtjdiongbbijdpaaGreatCSb4
import Derived.WalkKit
import Derived.OrdersHeld
import Derived.DeepKeys
import Derived.Maps.RangeWalk
import Derived.Maps.OwnOps
import Derived.WideKeyEntry
import Derived.Orders
import Derived.Deep.Slices
import Derived.ChangeArms
import Derived.WideShapes
import Derived.Sort.AssemblyPlain
import Derived.Lib.SlicesCompact
import Derived.Test.YtjdiongbbijdpaaGreatProg
import Derived.Shelf.SortG.Plain
import Derived.Shelf.SortG.SortNone
import Derived.Shelf.SlicesG.CompactI
import Derived.Lib.OwnBridge
import Derived.RangeFuncGives
import Derived.RangeFuncBox
import Derived.RangeFuncLeaves
import Derived.Shelf.Abstract
import Derived.Maps.AppendAt
import Derived.OwnWalkIn
import Derived.TacticsInMore
import Derived.LoopNIn
import Derived.LoopIn
set_option linter.unusedVariables false
set_option linter.unusedSimpArgs false
section
namespace Go.Proofs.YtjdiongbbijdpaaGreat
open Go Go.Sx
abbrev tZb : AC := .b (.s (.int .i64 0))
abbrev tZc : Cell := .s (.int .i64 0)
abbrev tF (k : Nat) : Option Nat × Option (Bool × Nat × Nat) := (some k, some (false, k, 1))
abbrev tS : Option (Bool × Nat) := some (false, 1)
abbrev tNi : Option AV := some (.one .nil)
abbrev tEf : TI := ⟨(some (false, 1)), none, none, false, false, true, none, (some (.one (.b (.s .nilFunc)))), none, none, [], none⟩
abbrev tSl (n b : Nat) (r : List Cell) : TI := ⟨tS, some n, some (n, b), false, false, true, none, tNi, none, some r, [], none⟩
abbrev tSt (n : Nat) (z : List AC) (f : List (Option Nat × Option (Bool × Nat × Nat))) (c : Option (List CK)) : TI := ⟨some (true, n), none, none, false, false, true, none, some (.agg z), some z, none, f, c⟩
def tab : TT := (.node 169 (tSt 3 [tZb, .nil, .nil] [tF 0, tF 1, tF 2] none)
 (.node 63 (tSt 8 [tZb, tZb, .nil, .nil, .nil, .nil, .nil, .nil] [tF 0, tF 1, tF 2, ((some 3), (some (true, 3, 5)))] none)
 (.node 29 (tSl 4 32 [tZc, tZc, tZc, tZc])
 (.node 22 ⟨tS, (some 2), (some (2, 32)), false, false, true, none, tNi, none, (some [tZc, .l []]), [], none⟩
 (.node 5 ⟨tS, none, none, false, false, true, (some .u8), (some (.one (.b (.s (.int .u8 0))))), none, none, [], none⟩
 (.node 3 ⟨tS, none, none, false, false, true, (some .i64), (some (.one (tZb))), none, none, [], none⟩
 (.node 2 ⟨tS, none, none, false, false, true, (some .i64), (some (.one (tZb))), none, none, [], none⟩
 .leaf .leaf) (.node 4 ⟨tS, none, none, false, true, true, none, (some (.one (.b (.s (.bool false))))), none, none, [], none⟩
 .leaf .leaf)) (.node 9 ⟨tS, none, none, true, false, true, none, (some (.one (.b (.s (.string ByteArray.empty))))), none, none, [], none⟩
 (.node 7 (tSt 4 [tZb, tZb, .b (.s (.bool false)), .b (.s (.int .u8 0))] [tF 0, tF 1, tF 2, tF 3] (some [.i .i64, .i .i64, .b, .i .u8]))
 .leaf .leaf) .leaf)) (.node 25 ⟨tS, (some 3), (some (3, 56)), false, false, true, none, tNi, none, (some [tZc, .l [], .l []]), [], none⟩
 (.node 24 ⟨tS, (some 1), (some (1, 24)), false, false, true, none, tNi, none, (some [.l []]), [], none⟩
 (.node 23 ⟨tS, (some 6), (some (6, 128)), false, false, true, none, tNi, none, (some [tZc, .l [], .l [], .l [], .l [], .l []]), [], none⟩
 .leaf .leaf) .leaf) (.node 28 (tSt 5 [.nil, .nil, .nil, .nil, .nil] [tF 0, tF 1, tF 2, tF 3, tF 4] none)
 (.node 26 (tSl 9 72 [tZc, tZc, tZc, tZc, tZc, tZc, tZc, tZc, tZc])
 .leaf .leaf) .leaf))) (.node 40 (tSt 5 [.nil, .nil, .nil, .nil, .nil] [tF 0, tF 1, tF 2, tF 3, tF 4] none)
 (.node 36 ⟨tS, (some 1), (some (1, 24)), false, false, true, none, tNi, none, (some [.l []]), [], none⟩
 (.node 34 ⟨tS, (some 2), (some (2, 32)), false, false, true, none, tNi, none, (some [tZc, .l []]), [], none⟩
 (.node 31 (tSt 2 [tZb, .nil] [tF 0, tF 1] none)
 .leaf .leaf) (.node 35 ⟨tS, (some 6), (some (6, 128)), false, false, true, none, tNi, none, (some [tZc, .l [], .l [], .l [], .l [], .l []]), [], none⟩
 .leaf .leaf)) (.node 38 (tSl 9 72 [tZc, tZc, tZc, tZc, tZc, tZc, tZc, tZc, tZc])
 (.node 37 ⟨tS, (some 3), (some (3, 56)), false, false, true, none, tNi, none, (some [tZc, .l [], .l []]), [], none⟩
 .leaf .leaf) .leaf)) (.node 47 (tSt 2 [tZb, .nil] [tF 0, tF 1] none)
 (.node 45 (tSl 4 32 [tZc, tZc, tZc, tZc])
 (.node 42 (tSt 6 [tZb, .nil, .nil, .nil, .nil, .nil] [tF 0, ((some 1), (some (true, 1, 5)))] none)
 .leaf .leaf) .leaf) (.node 61 ⟨tS, (some 3), (some (3, 40)), false, false, true, none, tNi, none, (some [tZc, tZc, .l []]), [], none⟩
 (.node 58 ⟨tS, (some 3), (some (3, 40)), false, false, true, none, tNi, none, (some [tZc, tZc, .l []]), [], none⟩
 .leaf .leaf) .leaf)))) (.node 146 (tSt 6 [tZb, .nil, .nil, .nil, .nil, .nil] [tF 0, tF 1, tF 2, tF 3, tF 4, tF 5] none)
 (.node 122 (tSt 3 [tZb, tZb, .nil] [tF 0, tF 1, tF 2] none)
 (.node 96 (tSt 9 [tZb, tZb, tZb, tZb, tZb, tZb, tZb, tZb, tZb] [tF 0, tF 1, tF 2, tF 3, tF 4, tF 5, tF 6, ((some 7), (some (true, 7, 2)))] (some [.i .i64, .i .i64, .i .i64, .i .i64, .i .i64, .i .i64, .i .i64, .i .i64, .i .i64]))
 (.node 90 ⟨tS, none, none, false, false, true, none, (some (.one (.b (.s (.pointer none))))), none, none, [], none⟩
 (.node 86 (tSl 1 8 [tZc])
 .leaf .leaf) (.node 94 (tSt 2 [tZb, tZb] [tF 0, tF 1] (some [.i .i64, .i .i64]))
 .leaf .leaf)) (.node 119 (tSt 3 [tZb, tZb, .nil] [tF 0, tF 1, tF 2] none)
 (.node 103 tEf
 .leaf .leaf) .leaf)) (.node 133 (tSt 2 [tZb, tZb] [tF 0, tF 1] (some [.i .i64, .i .i64]))
 (.node 128 (tSt 4 [tZb, tZb, tZb, tZb] [tF 0, tF 1, tF 2, tF 3] (some [.i .i64, .i .i64, .i .i64, .i .i64]))
 (.node 126 (tSt 4 [tZb, tZb, tZb, tZb] [tF 0, tF 1, tF 2, tF 3] (some [.i .i64, .i .i64, .i .i64, .i .i64]))
 .leaf .leaf) .leaf) (.node 144 (tSl 2 16 [tZc, tZc])
 (.node 143 (tSl 3 24 [tZc, tZc, tZc])
 .leaf .leaf) .leaf))) (.node 157 tEf
 (.node 152 ⟨tS, (some 6), (some (6, 80)), false, false, true, none, tNi, none, (some [tZc, tZc, tZc, tZc, .l [], .l []]), [], none⟩
 (.node 150 (tSt 1 [.nil] [tF 0] none)
 (.node 148 ⟨tS, (some 6), (some (6, 64)), false, false, true, none, tNi, none, (some [tZc, tZc, tZc, tZc, tZc, .l []]), [], none⟩
 .leaf .leaf) .leaf) (.node 155 (tSt 3 [tZb, .nil, .nil] [tF 0, tF 1, tF 2] none)
 (.node 153 (tSl 5 40 [tZc, tZc, tZc, tZc, tZc])
 .leaf .leaf) .leaf)) (.node 164 (tSt 6 [tZb, .nil, .nil, .nil, .nil, .nil] [tF 0, tF 1, tF 2, tF 3, tF 4, tF 5] none)
 (.node 162 (tSl 2 16 [tZc, tZc])
 (.node 161 (tSl 3 24 [tZc, tZc, tZc])
 .leaf .leaf) .leaf) (.node 167 (tSl 5 40 [tZc, tZc, tZc, tZc, tZc])
 (.node 166 ⟨tS, (some 6), (some (6, 80)), false, false, true, none, tNi, none, (some [tZc, tZc, tZc, tZc, .l [], .l []]), [], none⟩
 .leaf .leaf) .leaf))))) (.node 291 tEf
 (.node 222 tEf
 (.node 197 ⟨tS, none, none, false, false, true, none, (some (.one (.b (.s (.pointer none))))), none, none, [], none⟩
 (.node 180 (tSt 9 [tZb, tZb, tZb, tZb, tZb, tZb, tZb, tZb, tZb] [tF 0, tF 1, tF 2, tF 3, tF 4, tF 5, tF 6, ((some 7), (some (true, 7, 2)))] (some [.i .i64, .i .i64, .i .i64, .i .i64, .i .i64, .i .i64, .i .i64, .i .i64, .i .i64]))
 (.node 174 (tSt 1 [.nil] [tF 0] none)
 (.node 172 ⟨tS, (some 6), (some (6, 64)), false, false, true, none, tNi, none, (some [tZc, tZc, tZc, tZc, tZc, .l []]), [], none⟩
 .leaf .leaf) (.node 178 (tSt 2 [tZb, tZb] [tF 0, tF 1] (some [.i .i64, .i .i64]))
 .leaf .leaf)) (.node 186 tEf
 (.node 183 tEf
 .leaf .leaf) .leaf)) (.node 215 tEf
 (.node 202 (tSt 6 [tZb, tZb, tZb, tZb, .nil, .nil] [tF 0, tF 1, tF 2, tF 3, tF 4, tF 5] none)
 (.node 200 (tSl 2 16 [tZc, tZc])
 .leaf .leaf) .leaf) (.node 220 tEf
 (.node 217 tEf
 .leaf .leaf) .leaf))) (.node 257 tEf
 (.node 240 (tSt 5 [tZb, tZb, tZb, tZb, tZb] [tF 0, tF 1, tF 2, tF 3, tF 4] (some [.i .i64, .i .i64, .i .i64, .i .i64, .i .i64]))
 (.node 232 (tSt 8 [tZb, tZb, tZb, .nil, .nil, .nil, .nil, .nil] [tF 0, tF 1, ((some 2), (some (true, 2, 6)))] none)
 (.node 228 (tSt 4 [tZb, tZb, tZb, .nil] [tF 0, ((some 1), (some (true, 1, 2))), ((some 3), (some (true, 3, 1)))] none)
 .leaf .leaf) .leaf) (.node 252 (tSt 6 [tZb, tZb, tZb, tZb, tZb, .nil] [tF 0, tF 1, tF 2, ((some 3), (some (true, 3, 2))), tF 5] none)
 (.node 250 (tSt 2 [tZb, tZb] [tF 0, tF 1] (some [.i .i64, .i .i64]))
 .leaf .leaf) .leaf)) (.node 275 ⟨tS, none, none, false, false, true, (some .u64), (some (.one (.b (.s (.int .u64 0))))), none, none, [], none⟩
 (.node 269 tEf
 (.node 267 ⟨tS, none, none, false, false, true, none, (some (.one (.b (.s (.map none))))), none, none, [], none⟩
 .leaf .leaf) .leaf) (.node 288 ⟨tS, none, none, false, false, true, none, (some (.one (.b (.s (.map none))))), none, none, [], none⟩
 (.node 284 (tSt 3 [tZb, tZb, tZb] [tF 0, tF 1, tF 2] (some [.i .i64, .i .i64, .i .i64]))
 .leaf .leaf) .leaf)))) (.node 353 ⟨tS, none, none, false, false, true, (some .i64), (some (.one (tZb))), none, none, [], none⟩
 (.node 333 (tSl 2 16 [tZc, tZc])
 (.node 314 tEf
 (.node 298 tEf
 (.node 295 tEf
 .leaf .leaf) (.node 312 (tSt 9 [tZb, tZb, tZb, tZb, tZb, tZb, tZb, tZb, .nil] [tF 0, ((some 1), (some (true, 1, 2))), ((some 3), (some (true, 3, 6)))] none)
 .leaf .leaf)) (.node 328 tEf
 (.node 323 tEf
 .leaf .leaf) .leaf)) (.node 344 (tSt 3 [tZb, tZb, tZb] [tF 0, tF 1, tF 2] (some [.i .i64, .i .i64, .i .i64]))
 (.node 338 (tSt 6 [tZb, tZb, tZb, tZb, .nil, .nil] [tF 0, tF 1, tF 2, tF 3, tF 4, tF 5] none)
 (.node 335 (tSt 6 [tZb, tZb, tZb, tZb, tZb, .nil] [tF 0, tF 1, tF 2, ((some 3), (some (true, 3, 2))), tF 5] none)
 .leaf .leaf) .leaf) (.node 350 (tSt 5 [tZb, tZb, tZb, tZb, tZb] [tF 0, tF 1, tF 2, tF 3, tF 4] (some [.i .i64, .i .i64, .i .i64, .i .i64, .i .i64]))
 (.node 346 (tSt 2 [tZb, tZb] [tF 0, tF 1] (some [.i .i64, .i .i64]))
 .leaf .leaf) .leaf))) (.node 406 ⟨tS, none, none, false, false, true, (some .u64), (some (.one (.b (.s (.int .u64 0))))), none, none, [], none⟩
 (.node 373 tEf
 (.node 362 ⟨tS, none, none, false, false, true, (some .u64), (some (.one (.b (.s (.int .u64 0))))), none, none, [], none⟩
 (.node 360 ⟨tS, none, none, false, false, true, (some .u32), (some (.one (.b (.s (.int .u32 0))))), none, none, [], none⟩
 .leaf .leaf) .leaf) (.node 395 tEf
 (.node 392 tEf
 .leaf .leaf) .leaf)) (.node 421 tEf
 (.node 418 (tSl 1 8 [tZc])
 (.node 410 ⟨tS, none, none, false, false, true, none, (some (.one (.b (.s (.pointer none))))), none, none, [], none⟩
 .leaf .leaf) .leaf) (.node 442 ⟨tS, none, none, false, false, true, none, (some (.one (.b (.s (.pointer none))))), none, none, [], none⟩
 (.node 438 tEf
 .leaf .leaf) .leaf))))))
theorem zbk : tab = tab.map Tryz.prog := by kernel_rfl
instance : yo Tryz.prog := ⟨tab, zbk, by kernel_rfl⟩
end Go.Proofs.YtjdiongbbijdpaaGreat
end
section
namespace Go.Proofs.YtjdiongbbijdpaaGreat
open Go Go.Sx
set_option maxRecDepth 20000
abbrev qs : Sh := (.i .i64 (.i .i64 (.i .i64 (.i .i64 .nil))))
theorem z1z {N : Nat} {row : List Cell} (h : WT N qs row) : ∃ (x0 : Int) (x1 : Int) (x2 : Int) (x3 : Int), row = [.s (.int .i64 x0), .s (.int .i64 x1), .s (.int .i64 x2), .s (.int .i64 x3)] := by
 obtain ⟨x0, _, rfl, g0⟩ := h.yy; obtain ⟨x1, _, rfl, g1⟩ := g0.yy; obtain ⟨x2, _, rfl, g2⟩ := g1.yy; obtain ⟨x3, _, rfl, g3⟩ := g2.yy; obtain rfl := g3.q00; exact ⟨x0, x1, x2, x3, Y⟩
abbrev q7 : Sh := (.i .i64 (.l qs .nil))
theorem yu {N : Nat} {row : List Cell} (h : WT N q7 row) : ∃ (x0 : Int) (x1 : List (List Cell)), row = [.s (.int .i64 x0), .l x1] ∧ WR N qs x1 := by
 obtain ⟨x0, _, rfl, g0⟩ := h.yy; obtain ⟨x1, _, rfl, h1, g1⟩ := g0.z1h; obtain rfl := g1.q00; exact ⟨x0, x1, Y, h1⟩
abbrev qd : Sh := (.i .i64 (.i .i64 (.i .i64 .nil)))
theorem y09 {N : Nat} {row : List Cell} (h : WT N qd row) : ∃ (x0 : Int) (x1 : Int) (x2 : Int), row = [.s (.int .i64 x0), .s (.int .i64 x1), .s (.int .i64 x2)] := by
 obtain ⟨x0, _, rfl, g0⟩ := h.yy; obtain ⟨x1, _, rfl, g1⟩ := g0.yy; obtain ⟨x2, _, rfl, g2⟩ := g1.yy; obtain rfl := g2.q00; exact ⟨x0, x1, x2, Y⟩
abbrev zh : Sh := (.i .i64 (.i .i64 .nil))
theorem z19 {N : Nat} {row : List Cell} (h : WT N zh row) : ∃ (x0 : Int) (x1 : Int), row = [.s (.int .i64 x0), .s (.int .i64 x1)] := by
 obtain ⟨x0, _, rfl, g0⟩ := h.yy; obtain ⟨x1, _, rfl, g1⟩ := g0.yy; obtain rfl := g1.q00; exact ⟨x0, x1, Y⟩
abbrev zb : Sh := (.i .i64 (.l qd (.l zh (.l q7 (.l zh (.l (.i .i64 .nil) .nil))))))
theorem y0r {N : Nat} {row : List Cell} (h : WT N zb row) : ∃ (x0 : Int) (x1 : List (List Cell)) (x2 : List (List Cell)) (x3 : List (List Cell)) (x4 : List (List Cell)) (x5 : List (List Cell)), row = [.s (.int .i64 x0), .l x1, .l x2, .l x3, .l x4, .l x5] ∧ WR N qd x1 ∧ WR N zh x2 ∧ WR N q7 x3 ∧ WR N zh x4 ∧ WR N (.i .i64 .nil) x5 := by
 obtain ⟨x0, _, rfl, g0⟩ := h.yy; obtain ⟨x1, _, rfl, h1, g1⟩ := g0.z1h; obtain ⟨x2, _, rfl, h2, g2⟩ := g1.z1h; obtain ⟨x3, _, rfl, h3, g3⟩ := g2.z1h; obtain ⟨x4, _, rfl, h4, g4⟩ := g3.z1h; obtain ⟨x5, _, rfl, h5, g5⟩ := g4.z1h; obtain rfl := g5.q00; exact ⟨x0, x1, x2, x3, x4, x5, Y, h1, h2, h3, h4, h5⟩
abbrev yl : Sh := (.i .i64 (.i .i64 .nil))
theorem q19 {N : Nat} {row : List Cell} (h : WT N yl row) : ∃ (x0 : Int) (x1 : Int), row = [.s (.int .i64 x0), .s (.int .i64 x1)] := by
 obtain ⟨x0, _, rfl, g0⟩ := h.yy; obtain ⟨x1, _, rfl, g1⟩ := g0.yy; obtain rfl := g1.q00; exact ⟨x0, x1, Y⟩
abbrev zk : Sh := (.i .i64 (.i .i64 (.i .i64 (.i .i64 (.i .i64 (.l yl .nil))))))
theorem y19 {N : Nat} {row : List Cell} (h : WT N zk row) : ∃ (x0 : Int) (x1 : Int) (x2 : Int) (x3 : Int) (x4 : Int) (x5 : List (List Cell)), row = [.s (.int .i64 x0), .s (.int .i64 x1), .s (.int .i64 x2), .s (.int .i64 x3), .s (.int .i64 x4), .l x5] ∧ WR N yl x5 := by
 obtain ⟨x0, _, rfl, g0⟩ := h.yy; obtain ⟨x1, _, rfl, g1⟩ := g0.yy; obtain ⟨x2, _, rfl, g2⟩ := g1.yy; obtain ⟨x3, _, rfl, g3⟩ := g2.yy; obtain ⟨x4, _, rfl, g4⟩ := g3.yy; obtain ⟨x5, _, rfl, h5, g5⟩ := g4.z1h; obtain rfl := g5.q00; exact ⟨x0, x1, x2, x3, x4, x5, Y, h5⟩
abbrev z8 : Sh := (.l zk .nil)
theorem y04 {N : Nat} {row : List Cell} (h : WT N z8 row) : ∃ (x0 : List (List Cell)), row = [.l x0] ∧ WR N zk x0 := by
 obtain ⟨x0, _, rfl, h0, g0⟩ := h.z1h; obtain rfl := g0.q00; exact ⟨x0, Y, h0⟩
abbrev qp : Sh := (.i .i64 (.i .i64 (.i .i64 (.i .i64 (.l (.i .i64 .nil) (.l yl .nil))))))
theorem y1z {N : Nat} {row : List Cell} (h : WT N qp row) : ∃ (x0 : Int) (x1 : Int) (x2 : Int) (x3 : Int) (x4 : List (List Cell)) (x5 : List (List Cell)), row = [.s (.int .i64 x0), .s (.int .i64 x1), .s (.int .i64 x2), .s (.int .i64 x3), .l x4, .l x5] ∧ WR N (.i .i64 .nil) x4 ∧ WR N yl x5 := by
 obtain ⟨x0, _, rfl, g0⟩ := h.yy; obtain ⟨x1, _, rfl, g1⟩ := g0.yy; obtain ⟨x2, _, rfl, g2⟩ := g1.yy; obtain ⟨x3, _, rfl, g3⟩ := g2.yy; obtain ⟨x4, _, rfl, h4, g4⟩ := g3.z1h; obtain ⟨x5, _, rfl, h5, g5⟩ := g4.z1h; obtain rfl := g5.q00; exact ⟨x0, x1, x2, x3, x4, x5, Y, h4, h5⟩
abbrev zn : Sh := (.i .i64 (.i .i64 (.i .i64 (.i .i64 (.i .i64 .nil)))))
theorem z0r {N : Nat} {row : List Cell} (h : WT N zn row) : ∃ (x0 : Int) (x1 : Int) (x2 : Int) (x3 : Int) (x4 : Int), row = [.s (.int .i64 x0), .s (.int .i64 x1), .s (.int .i64 x2), .s (.int .i64 x3), .s (.int .i64 x4)] := by
 obtain ⟨x0, _, rfl, g0⟩ := h.yy; obtain ⟨x1, _, rfl, g1⟩ := g0.yy; obtain ⟨x2, _, rfl, g2⟩ := g1.yy; obtain ⟨x3, _, rfl, g3⟩ := g2.yy; obtain ⟨x4, _, rfl, g4⟩ := g3.yy; obtain rfl := g4.q00; exact ⟨x0, x1, x2, x3, x4, Y⟩
abbrev qa : Sh := (.i .i64 (.l qp (.l zn .nil)))
theorem q0f {N : Nat} {row : List Cell} (h : WT N qa row) : ∃ (x0 : Int) (x1 : List (List Cell)) (x2 : List (List Cell)), row = [.s (.int .i64 x0), .l x1, .l x2] ∧ WR N qp x1 ∧ WR N zn x2 := by
 obtain ⟨x0, _, rfl, g0⟩ := h.yy; obtain ⟨x1, _, rfl, h1, g1⟩ := g0.z1h; obtain ⟨x2, _, rfl, h2, g2⟩ := g1.z1h; obtain rfl := g2.q00; exact ⟨x0, x1, x2, Y, h1, h2⟩
abbrev qb : Sh := (.i .i64 (.i .i64 (.i .i64 (.i .i64 (.i .i64 (.i .i64 (.i .i64 (.i .i64 (.i .i64 .nil)))))))))
theorem q09 {N : Nat} {row : List Cell} (h : WT N qb row) : ∃ (x0 : Int) (x1 : Int) (x2 : Int) (x3 : Int) (x4 : Int) (x5 : Int) (x6 : Int) (x7 : Int) (x8 : Int), row = [.s (.int .i64 x0), .s (.int .i64 x1), .s (.int .i64 x2), .s (.int .i64 x3), .s (.int .i64 x4), .s (.int .i64 x5), .s (.int .i64 x6), .s (.int .i64 x7), .s (.int .i64 x8)] := by
 obtain ⟨x0, _, rfl, g0⟩ := h.yy; obtain ⟨x1, _, rfl, g1⟩ := g0.yy; obtain ⟨x2, _, rfl, g2⟩ := g1.yy; obtain ⟨x3, _, rfl, g3⟩ := g2.yy; obtain ⟨x4, _, rfl, g4⟩ := g3.yy; obtain ⟨x5, _, rfl, g5⟩ := g4.yy; obtain ⟨x6, _, rfl, g6⟩ := g5.yy; obtain ⟨x7, _, rfl, g7⟩ := g6.yy; obtain ⟨x8, _, rfl, g8⟩ := g7.yy; obtain rfl := g8.q00; exact ⟨x0, x1, x2, x3, x4, x5, x6, x7, x8, Y⟩
abbrev ze : Sh := (.l q7 (.l zb (.l z8 (.l qa (.l qb .nil)))))
theorem q04 {N : Nat} {row : List Cell} (h : WT N ze row) : ∃ (x0 : List (List Cell)) (x1 : List (List Cell)) (x2 : List (List Cell)) (x3 : List (List Cell)) (x4 : List (List Cell)), row = [.l x0, .l x1, .l x2, .l x3, .l x4] ∧ WR N q7 x0 ∧ WR N zb x1 ∧ WR N z8 x2 ∧ WR N qa x3 ∧ WR N qb x4 := by
 obtain ⟨x0, _, rfl, h0, g0⟩ := h.z1h; obtain ⟨x1, _, rfl, h1, g1⟩ := g0.z1h; obtain ⟨x2, _, rfl, h2, g2⟩ := g1.z1h; obtain ⟨x3, _, rfl, h3, g3⟩ := g2.z1h; obtain ⟨x4, _, rfl, h4, g4⟩ := g3.z1h; obtain rfl := g4.q00; exact ⟨x0, x1, x2, x3, x4, Y, h0, h1, h2, h3, h4⟩
end Go.Proofs.YtjdiongbbijdpaaGreat
end
section
namespace Go.Proofs.YtjdiongbbijdpaaGreat
open Go Go.Sx
set_option maxRecDepth 20000
set_option maxHeartbeats 4000000
open Go.Proofs Go.Shelf Go.RowKit Go.Lib
def zck : Ren := ⟨fun n => bif Nat.beq n 53 then 239 else bif Nat.beq n 59 then 411 else bif Nat.beq n 63 then 335 else bif Nat.beq n 64 then 237 else bif Nat.beq n 68 then 238 else bif Nat.beq n 70 then 405 else bif Nat.beq n 71 then 406 else bif Nat.beq n 72 then 407 else bif Nat.beq n 73 then 408 else bif Nat.beq n 74 then 409 else bif Nat.beq n 75 then 410 else bif Nat.beq n 76 then 412 else bif Nat.beq n 77 then 413 else bif Nat.beq n 78 then 333 else bif Nat.beq n 79 then 334 else bif Nat.beq n 88 then 450 else bif Nat.beq n 89 then 401 else bif Nat.beq n 90 then 402 else bif Nat.beq n 91 then 451 else bif Nat.beq n 92 then 452 else bif Nat.beq n 96 then 465 else 0, fun t => bif Nat.beq t 3 then 3 else bif Nat.beq t 4 then 4 else bif Nat.beq t 5 then 5 else bif Nat.beq t 9 then 9 else bif Nat.beq t 22 then 86 else bif Nat.beq t 23 then 2 else bif Nat.beq t 44 then 130 else bif Nat.beq t 51 then 275 else bif Nat.beq t 60 then 353 else bif Nat.beq t 61 then 354 else bif Nat.beq t 67 then 360 else bif Nat.beq t 69 then 362 else bif Nat.beq t 75 then 406 else bif Nat.beq t 79 then 410 else bif Nat.beq t 83 then 442 else bif Nat.beq t 84 then 443 else 0, fun x => x⟩
theorem qaj : SlLaysN.n53 Tryz.prog zck where
 mixed := by kernel_rfl
 f53 := ⟨ "slices.Sort[[]int64,int64]", by decide, by kernel_rfl⟩
 f59 := ⟨ "cmp.Less[int64]", by decide, by kernel_rfl⟩
 f63 := ⟨ "slices.pdqsortOrdered[int64]", by decide, by kernel_rfl⟩
 f64 := by kernel_rfl
 f68 := ⟨ "cmp.isNaN[int64]", by decide, by kernel_rfl⟩
 f70 := ⟨ "slices.insertionSortOrdered[int64]", by decide, by kernel_rfl⟩
 f71 := ⟨ "slices.heapSortOrdered[int64]", by decide, by kernel_rfl⟩
 f72 := ⟨ "slices.breakPatternsOrdered[int64]", by decide, by kernel_rfl⟩
 f73 := ⟨ "slices.choosePivotOrdered[int64]", by decide, by kernel_rfl⟩
 f74 := ⟨ "slices.reverseRangeOrdered[int64]", by decide, by kernel_rfl⟩
 f75 := ⟨ "slices.partialInsertionSortOrdered[int64]", by decide, by kernel_rfl⟩
 f76 := ⟨ "slices.partitionEqualOrdered[int64]", by decide, by kernel_rfl⟩
 f77 := ⟨ "slices.partitionOrdered[int64]", by decide, by kernel_rfl⟩
 f78 := by kernel_rfl
 f79 := by kernel_rfl
 f88 := ⟨ "slices.siftDownOrdered[int64]", by decide, by kernel_rfl⟩
 f89 := by kernel_rfl
 f90 := by kernel_rfl
 f91 := ⟨ "slices.medianAdjacentOrdered[int64]", by decide, by kernel_rfl⟩
 f92 := ⟨ "slices.medianOrdered[int64]", by decide, by kernel_rfl⟩
 f96 := ⟨ "slices.order2Ordered[int64]", by decide, by kernel_rfl⟩
 t0 := Tryz.underlying0
 a0 := Tryz.isAgg0
 z0 := Tryz.sizeOf0
 v0 := Tryz.zeroValue0
 t3 := Tryz.underlying3
 a3 := Tryz.isAgg3
 z3 := Tryz.sizeOf3
 v3 := Tryz.zeroValue3
 t4 := Tryz.underlying4
 a4 := Tryz.isAgg4
 z4 := Tryz.sizeOf4
 v4 := Tryz.zeroValue4
 t5 := Tryz.underlying5
 a5 := Tryz.isAgg5
 z5 := Tryz.sizeOf5
 v5 := Tryz.zeroValue5
 t9 := Tryz.underlying9
 a9 := Tryz.isAgg9
 z9 := Tryz.sizeOf9
 v9 := Tryz.zeroValue9
 t22 := Tryz.underlying86
 a22 := Tryz.isAgg86
 z22 := Tryz.sizeOf86
 v22 := Tryz.zeroValue86
 t23 := Tryz.underlying2
 a23 := Tryz.isAgg2
 z23 := Tryz.sizeOf2
 v23 := Tryz.zeroValue2
 t44 := Tryz.underlying130
 a44 := Tryz.isAgg130
 z44 := Tryz.sizeOf130
 v44 := Tryz.zeroValue130
 t51 := Tryz.underlying275
 a51 := Tryz.isAgg275
 z51 := Tryz.sizeOf275
 v51 := Tryz.zeroValue275
 t60 := Tryz.underlying353
 a60 := Tryz.isAgg353
 z60 := Tryz.sizeOf353
 v60 := Tryz.zeroValue353
 t61 := Tryz.underlying354
 a61 := Tryz.isAgg354
 z61 := Tryz.sizeOf354
 v61 := Tryz.zeroValue354
 t67 := Tryz.underlying360
 a67 := Tryz.isAgg360
 z67 := Tryz.sizeOf360
 v67 := Tryz.zeroValue360
 t69 := Tryz.underlying362
 a69 := Tryz.isAgg362
 z69 := Tryz.sizeOf362
 v69 := Tryz.zeroValue362
 t75 := Tryz.underlying406
 a75 := Tryz.isAgg406
 z75 := Tryz.sizeOf406
 v75 := Tryz.zeroValue406
 t79 := Tryz.underlying410
 a79 := Tryz.isAgg410
 z79 := Tryz.sizeOf410
 v79 := Tryz.zeroValue410
 t83 := Tryz.underlying442
 a83 := Tryz.isAgg442
 z83 := Tryz.sizeOf442
 v83 := Tryz.zeroValue442
 t84 := Tryz.underlying443
 a84 := Tryz.isAgg443
 z84 := Tryz.sizeOf443
 v84 := Tryz.zeroValue443
theorem qbg {w : World} {S : Nat → Prop} {u v : Value} (h : Go.Sx.Own w S (.s v) u) : u = v := by cases h; rfl
theorem y5h {w : World} {N S : Nat → Prop} {us : List Int} {v : Value} (h : z0e w (CN w N true) S 1 (ints us) v) : (us = [] ∧ ∃ A, v = .slice A 0 0) ∨ ∃ e, w.ownsRow 0 e 1 v us.length (us.map (Value.int .i64)) ∧ ∀ g, v.ownBlock = some g → S g := by
 rcases h with ⟨hn, A, rfl⟩ | ⟨e, xs, u, F, h⟩
 · exact .inl ⟨by simpa [ints] using hn, A, Y⟩
 · refine .inr ⟨e, ?_, h.hS⟩
   have ho := h.ho; have hl : (ints us).length = us.length := by simp [ints]
   rw [hl] at ho; have hxl : xs.length = us.length := by have := ho.1; omega
   have hx : xs = us.map (Value.int .i64) := by
    refine List.ext_getElem (by simp [hxl]) fun j h1 h2 => ?_
    have hj : j < us.length := by omega
    have h3 := h.hu j 0 (by omega) (by omega); have h4 := qbg (h.hr j 0 [i64 us[j]] _ (by simp [ints, hj]) rfl); rw [Nat.mul_one, Nat.add_zero, h4] at h3; rw [List.getElem?_eq_getElem h1] at h3
    simpa using h3
   rw [hx] at ho; exact ho
theorem y6r {w : World} {S : Nat → Prop} {us : List Int} {v : Value} {e : TypeId} (h : w.ownsRow 0 e 1 v us.length (us.map (Value.int .i64))) (hS : ∀ g, v.ownBlock = some g → S g) : z0e w (Go.Sx.Own w) S 1 (ints us) v := by
 refine .inr ⟨e, us.map (Value.int .i64), fun j _ => .int .i64 (us[j]?.getD 0), fun _ _ _ => False, by simpa [ints] using h, hS, fun row hrow => ?_, fun _ _ _ h => h.elim, fun _ _ _ _ _ h => h.elim, fun j k hj hk => ?_, fun j k row c hj hk => ?_⟩
 · simp [ints] at hrow
   obtain ⟨_, _, rfl⟩ := hrow; rfl
 · have hj : j < us.length := by simpa [ints] using hj
   have : k = 0 := by omega
   subst this; simp [hj]
 · have hjl : j < us.length := by have := (List.getElem?_eq_some_iff.1 hj).1; simpa [ints] using this
   have : row = [i64 us[j]] := by simp [ints, hjl] at hj; exact hj.symm
   subst this
   cases k with
   | succ k => simp at hk
   | zero =>
     cases hk; simp only [hjl, getElem?_pos, Option.getD_some]; exact .s _ _ Y
theorem q9k (N : Nat → Prop) (S : Nat → Prop) (us : List Int) (w : World) (v0 : Value) (hu : us.length ≤ 1048576) (hS : ∀ x, S x → x < w.heap.size) (h0 : z0e w (CN w N true) S 1 (ints us) v0) :
 Calls Tryz.prog 239 #[v0] w fun e w' => e = .returned (.tuple #[]) ∧ zt w w' S ∧ ∃ R : Nat → Prop, z0e w' (Go.Sx.Own w') R 1 (ints (z0o us)) v0 ∧ ∀ x, R x → S x ∧ x < w'.heap.size := by
 have hm0 : z0o ([] : List Int) = [] := by simp [z0o]
 rcases y5h h0 with ⟨rfl, A, rfl⟩ | ⟨e, ho, hSo⟩
 · refine (AnyG.slices_Sort_int_none qaj A 0 w).mono ?_
   rintro e w' ⟨rfl, rfl⟩
   rw [hm0]; exact ⟨Y, zt.refl _ _, fun _ => False, .inl ⟨Y, A, Y⟩, fun x hx => hx.elim⟩
 · by_cases hn : v0 = .slice none 0 0
   · have hl : us.length = 0 := by
      rcases ho.2 with ⟨_, h⟩ | ⟨g, cap, cur, h, _⟩
      · exact h
      · rw [hn] at h; cases h
     have : us = [] := List.eq_nil_of_length_eq_zero hl; subst this; subst hn; refine (AnyG.slices_Sort_int_none qaj none 0 w).mono ?_
     rintro e w' ⟨rfl, rfl⟩
     rw [hm0]; exact ⟨Y, zt.refl _ _, fun _ => False, .inl ⟨Y, none, Y⟩, fun x hx => hx.elim⟩
   · obtain ⟨g, cap, rfl, hb, hg, hc1, hc2, hzl, hH⟩ := holds_of_ownsRow ho hn
     refine (AnyG.slices_Sort_int qaj g 0 cap us w hH hg (by omega)).mono ?_
     rintro e' w' ⟨rfl, q, os, rfl⟩
     have hml : (z0o us).length = us.length := (List.mergeSort_perm us _).length_eq; have hgS := hSo g rfl; have hp := ownsRow_putRow (q := q) (k := us.length) (ys := z0o us) ho hml (Nat.le_refl _); rw [List.take_of_length_le (by omega), ← hml] at hp; have hsz : (Sort.putRow (Value.int .i64) (Sort.ahead w q) g 0 (z0o us).toArray).heap.size = w.heap.size := by simp [Sort.putRow, Sort.mapBlock, Sort.ahead]
     refine ⟨Y, ⟨Y, Y, Y, by rw [Sort.size_grow]; exact Nat.le_trans (Nat.le_of_eq hsz.symm) (Nat.le_add_right _ _), fun k hk hnk => ?_⟩, fun x => x = g, ?_, fun x hx => ?_⟩
     · rw [Sort.heap_grow_old _ _ (by rw [show (us.mergeSort fun x y => decide (x ≤ y)) = z0o us from rfl, hsz]; exact hk)]
       simp [Sort.putRow, Sort.mapBlock, Sort.ahead, Array.getElem?_modify, show g ≠ k from fun h => hnk (h ▸ hgS)]
     · rw [← hml]
       refine y6r (e := e) (q0c hp fun g' h => ?_) (fun g' h => by cases h; rfl); cases h; exact Sort.heap_grow_old _ _ (by rw [show (us.mergeSort fun x y => decide (x ≤ y)) = z0o us from rfl, hsz]; exact hg)
     · subst hx
       exact ⟨hgS, by rw [Sort.size_grow]; exact Nat.lt_of_lt_of_le (by rw [show (us.mergeSort fun x y => decide (x ≤ y)) = z0o us from rfl, hsz]; exact hg) (Nat.le_add_right _ _)⟩
theorem z6t (us : List Int) (hu : us.length ≤ 1048576) : PG Tryz.prog 239 [.one (.giv true 1 (ints us))] (.tup []) [(0, ints (z0o us))] := by
 refine ⟨by kernel_rfl, fun N S w vals hS hSd hsh hc => ?_⟩
 obtain ⟨v0, rfl⟩ : ∃ v0, vals = #[v0] := by
  match vals, hsh with
  | ⟨[v0]⟩, _ => exact ⟨v0, rfl⟩
 obtain ⟨sz, hz, h0⟩ := hc 0 _ v0 rfl rfl; obtain rfl := hz (by decide); refine (q9k N (S 0) us w v0 hu (fun x hx => (hS 0 x hx).1) h0).mono ?_
 rintro e w' ⟨rfl, hk, R, hsl, hv⟩
 refine ⟨_, fun _ => False, fun t x => t = 0 ∧ R x, Y, hk.mono fun _ _ h => ⟨0, h⟩, ⟨#[], fun _ _ => False, Y, Y, fun _ _ h => h, fun _ _ _ h => h.elim, fun i rc u h => by simp at h⟩, fun x hx => hx.elim, fun t x hx => ⟨.inr ⟨0, (hv x hx.2).1⟩, (hv x hx.2).2⟩, fun t t' x h h' => by rw [h.1, h'.1], fun t rows' hb full sz rows u hg hu => ?_⟩
 cases t with
 | succ t => cases hb
 | zero =>
   cases hb; cases hg; cases hu; refine ⟨by simp [z0o], fun i row row' h1 h2 => ?_, 1, fun _ => Y, z0e.imp hsl (fun _ h => ⟨Y, h⟩) (fun _ _ _ => Y) (fun _ _ _ _ h => h)⟩; simp [ints] at h1 h2; obtain ⟨_, _, rfl⟩ := h1; obtain ⟨_, _, rfl⟩ := h2; rfl
end Go.Proofs.YtjdiongbbijdpaaGreat
end
section
namespace Go.Proofs.YtjdiongbbijdpaaGreat
open Go Go.Sx
set_option maxRecDepth 20000
set_option maxHeartbeats 4000000
open Go.RowKit Go.Maps Go.Shelf
theorem q7j {α : Type} (f : Nat → α) (k : Nat) : (List.range (k + 1)).map f = (List.range k).map f ++ [f k] := by simp [List.range_succ]
theorem z8u (zs : List Int) : (List.range zs.length).map (fun j => zs[j]?.getD 0) = zs := by
 apply List.ext_getElem
 · simp
 · intro i h1 h2
   simp [h2]
set_option maxRecDepth 100000 in
set_option maxHeartbeats 2000000 in
theorem q9n (F : Fence) (n : Nat) (h330 : F.fn 455) (hro : F.round = none) (hn : 1 ≤ n) (l n0 : Nat) (a b : Addr) (cap : Nat) (zs : List Int) (W0 : World) (J : List Int → World → Prop)
 (hJ : ∀ pre W, J pre W → Below n0 W0 W) (hB : a.block < n0) (hc : W0.cell? a = some (.slice (some b) zs.length cap)) (hz : zs.length ≤ 1048576)
 (hA : ∀ j, j < zs.length → b.block < n0 ∧ W0.cell? (b.add j) = some (.int .i64 (zs[j]?.getD 0)))
 (hY : ∀ pre x W, J pre W → pre.length < zs.length → YieldAt F (n - 1) Tryz.prog l #[.int .i64 x] W fun e W' => e = .returned (.bool true) ∧ J (pre ++ [x]) W')
 (W : World) (h0 : J [] W) :
 CallsIn F n Tryz.prog 455 #[.func (.yield l) #[] #[], .pointer (some a)] W fun e W' => (∃ v, e = .returned v) ∧ J zs W' := by
 refine callsIn_of_wp Tryz.func455 Y h330 ?_ hro; simp only [Tryz.ntmps455, List.size_toArray, List.length_cons, List.length_nil, Nat.reduceAdd, Nat.reduceSub, Array.replicate_succ, Array.replicate_zero, List.push_toArray, List.append_toArray, List.nil_append, List.cons_append]; have hca : W.cell? a = some (.slice (some b) zs.length cap) := ((hJ _ _ h0).cell (p := a) hB).trans hc
 gi_wp2
 gi_loopw [7] (fun i wr => ∃ k : Nat, k ≤ zs.length ∧ i = .int .i64 k ∧ J ((List.range k).map (fun j => zs[j]?.getD 0)) wr)
  (fun i _ => zs.length - (intOf i).toNat)
 case atStart => exact ⟨0, Nat.zero_le _, rfl, h0⟩
 case round =>
  obtain ⟨k, hk, rfl, hJs⟩ := hrel; have hcx : k < zs.length → wr.cell? (b.add k) = some (.int .i64 (zs[k]?.getD 0)) := fun h => ((hJ _ _ hJs).cell (p := b.add k) (by rw [q0b]; exact (hA k h).1)).trans (hA k h).2
  by_cases hlt : k < zs.length
  · obtain ⟨fn, tmps, assign, body, hy, hR⟩ := hY _ (zs[k]?.getD 0) wr hJs (by simpa using hlt)
    have hcx' := hcx hlt; have hup := q7j (fun j => zs[j]?.getD 0) k; clear hcx; generalize zs[k]?.getD 0 = x at hy hR hcx' hup
    gi_wp2
    refine hR.mono ?_
    rintro e W3 ⟨rfl, hJ3⟩
    gi_wp2
    go_roundw
    case rel => exact ⟨k + 1, by omega, by simp, by rw [hup]; exact hJ3⟩
    case measure => simp [intOf]; omega
  · obtain rfl : k = zs.length := by omega
    gi_wp2
    go_end0
    exact ⟨⟨_, Y⟩, by rw [z8u] at hJs; exact hJs⟩
set_option maxRecDepth 100000 in
set_option maxHeartbeats 2000000 in
theorem y9n (F : Fence) (n : Nat) (h330 : F.fn 455) (hro : F.round = none) (l : Nat) (a : Addr) (cap : Nat) (J : List Int → World → Prop)
 (W : World) (hca : W.cell? a = some (.slice none 0 cap)) (h0 : J [] W) :
 CallsIn F n Tryz.prog 455 #[.func (.yield l) #[] #[], .pointer (some a)] W fun e W' => (∃ v, e = .returned v) ∧ J [] W' := by
 refine callsIn_of_wp Tryz.func455 Y h330 ?_ hro; simp only [Tryz.ntmps455, List.size_toArray, List.length_cons, List.length_nil, Nat.reduceAdd, Nat.reduceSub, Array.replicate_succ, Array.replicate_zero, List.push_toArray, List.append_toArray, List.nil_append, List.cons_append]
 gi_wp2
 gi_loopw [7] (fun i wr => i = .int .i64 0 ∧ J [] wr) (fun _ _ => 0)
 case atStart => exact ⟨rfl, h0⟩
 case round =>
  obtain ⟨rfl, hJs⟩ := hrel
  gi_wp2
  go_end0
  exact ⟨⟨_, Y⟩, hJs⟩
theorem ybk (F : Fence) (n : Nat) (h330 : F.fn 455) (hro : F.round = none) (hn : 1 ≤ n) (l n0 : Nat) (a : Addr) (A : Option Addr) (cap : Nat) (zs : List Int) (W0 : World) (J : List Int → World → Prop)
 (hJ : ∀ pre W, J pre W → Below n0 W0 W) (hB : a.block < n0) (hc : W0.cell? a = some (.slice A zs.length cap)) (hz : zs.length ≤ 1048576)
 (hA : (∃ b, A = some b ∧ ∀ j, j < zs.length → b.block < n0 ∧ W0.cell? (b.add j) = some (.int .i64 (zs[j]?.getD 0))) ∨ (A = none ∧ zs = []))
 (hY : ∀ pre x W, J pre W → pre.length < zs.length → YieldAt F (n - 1) Tryz.prog l #[.int .i64 x] W fun e W' => e = .returned (.bool true) ∧ J (pre ++ [x]) W')
 (W : World) (h0 : J [] W) :
 CallsIn F n Tryz.prog 455 #[.func (.yield l) #[] #[], .pointer (some a)] W fun e W' => (∃ v, e = .returned v) ∧ J zs W' := by
 rcases hA with ⟨b, rfl, hA⟩ | ⟨rfl, rfl⟩
 · exact q9n F n h330 hro hn l n0 a b cap zs W0 J hJ hB hc hz hA hY W h0
 · exact y9n F n h330 hro l a cap J W (((hJ _ _ h0).cell (p := a) hB).trans hc) h0
def y4b : Code := Code.region 2 #[{ dst := some 5, op := Op.assign (Operand.tmp 7), type := 2, pos := "iter.go:51", after := #[], guard := none }] false
def y7p : Code := Code.block 1 (Code.region 3 #[{ dst := some 8, op := Op.load 86 (Operand.tmp 2), type := 86, pos := "iter.go:52", after := #[], guard := none }, { dst := some 9, op := Op.move (Operand.tmp 5), type := 2, pos := "iter.go:52", after := #[], guard := none }, { dst := some 10, op := Op.buildSlice 86 1 #[(0, Operand.tmp 9)], type := 86, pos := "iter.go:52", after := #[{ on := 1, ground := Ground.data }], guard := none }, { dst := some 11, op := Op.call { callee := Callee.builtin Builtin.append, args := #[Operand.tmp 8, Operand.tmp 10], argTypes := #[86, 86] }, type := 86, pos := "iter.go:52", after := #[{ on := 0, ground := Ground.data }, { on := 2, ground := Ground.data }], guard := none }, { dst := none, op := Op.store 86 (Operand.tmp 2) (Operand.tmp 11), type := 0, pos := "iter.go:52", after := #[{ on := 3, ground := Ground.data }, { on := 3, ground := Ground.chain }, { on := 0, ground := Ground.phase }, { on := 1, ground := Ground.phase }, { on := 2, ground := Ground.phase }, { on := 3, ground := Ground.phase }], guard := none }] false)
def z33 (fn : FuncId) (sv : Value) (Bs D : Nat) (st : LoopState) (pend : Option Code) : Loop :=
 { state := st, pending := pend, fn, tmps := #[.slice none 0 0, sv, .pointer (some ⟨Bs, 0, none⟩), undef, .slice none 0 0, undef, sv, undef, undef, undef, undef, undef, undef], params := #[7], assign := y4b, body := y7p, defers := D }
structure ybp (w0 : World) (fn : FuncId) (sv : Value) (Bs l D : Nat) (ss : List Int) (W : World) : Prop where
 box : ∃ v, W.heap[Bs]? = some (.cells #[v] 86 (0, 0)) ∧ W.ownsRow w0.heap.size 2 1 v ss.length (ss.map (Value.int .i64)) ∧ (v = .slice none 0 0 ↔ ss = [])
 L : W.heap[l]? = some (.loop (z33 fn sv Bs D .ready none))
 K : W.heap[D]? = some (.deferred (some []))
 below : Below w0.heap.size w0 W
theorem y00 (W : World) (l : Nat) (o : Obj) : W.grownBy (W.putObj l o) (some l) :=
 ⟨rfl, rfl, rfl, by simp, fun k _ hk => World.putObj_heap_other (fun e => hk (by rw [e]))⟩
theorem q2u (W : World) (b : Nat) (v : Value) : W.grownBy (W.setCell ⟨b, 0, none⟩ v) (some b) :=
 ⟨rfl, rfl, rfl, (KeepsWalks.setCell W _ v).size, fun k _ hk => Below.heap_setCell _ _ _ k (fun e => hk (by rw [e]))⟩
theorem q0h {W : World} {base : Nat} {e : TypeId} {size : Nat} {v : Value} {k : Nat} {xs : List Value} (h : W.ownsRow base e size v k xs) {j : Nat} {o : Obj} (hj : W.heap[j]? = some o) (hno : ∀ cur, o ≠ .cells cur e (0, 0)) :
 v.ownBlock = none ∨ v.ownBlock ≠ some j := by
 rcases h.2 with ⟨rfl, _⟩ | ⟨g, cap, cur, rfl, _, hgb, _⟩
 · exact .inl Y
 · refine .inr fun e' => ?_
   have : g = j := by simpa [Value.ownBlock] using e'
   subst this; rw [hgb] at hj; cases hj; exact hno cur Y
theorem y0w {W : World} {B : Nat} {v : Value} {t : TypeId} (h : W.heap[B]? = some (.cells #[v] t (0, 0))) : W.cell? ⟨B, 0, none⟩ = some v ∧ W.frozen? ⟨B, 0, none⟩ = false := by
 constructor <;> simp [World.cell?, World.frozen?, h]
theorem z2i {W : World} {B : Nat} {v : Value} {t : TypeId} (v' : Value) (h : W.heap[B]? = some (.cells #[v] t (0, 0))) : (W.setCell ⟨B, 0, none⟩ v').heap[B]? = some (.cells #[v'] t (0, 0)) := by
 obtain ⟨hlt, hk⟩ := Array.getElem?_eq_some_iff.1 h; show (W.heap.modify B _)[B]? = _; rw [Array.getElem?_eq_getElem (by rw [Array.size_modify]; exact hlt), Array.getElem_modify_self, hk]; rfl
theorem zb9 : (Tryz.prog.info? 2).map (fun i => (i.zero, i.size, i.bytes)) = some (some (.int .i64 0), 1, 8) := by kernel_rfl
set_option maxRecDepth 100000 in
set_option maxHeartbeats 2000000 in
theorem ya6 (F : Fence) (m : Nat) (w0 : World) (fn : FuncId) (hfn : F.fn fn) (sv : Value) (Bs l D : Nat) (hBl : Bs ≠ l) (hDl : D ≠ l) (hDB : D ≠ Bs) (h0B : w0.heap.size ≤ Bs) (h0l : w0.heap.size ≤ l)
 (N : Nat) (hN : N ≤ maxLen) (hNb : N * 8 ≤ 140737488355328) (ss : List Int) (x : Int) (W : World) (h : ybp w0 fn sv Bs l D ss W) (hlen : ss.length < N) :
 YieldAt F m Tryz.prog l #[.int .i64 x] W fun e W' => e = .returned (.bool true) ∧ ybp w0 fn sv Bs l D (ss ++ [x]) W' := by
 obtain ⟨i0, hi, hz0, hz1, hz2⟩ := info_parts zb9; obtain ⟨v, hv, hrow, _⟩ := h.box; refine ⟨fn, #[.slice none 0 0, sv, .pointer (some ⟨Bs, 0, none⟩), undef, .slice none 0 0, undef, sv, .int .i64 x, undef, undef, undef, undef, undef], y4b, y7p, by simpa [z33] using run_yield (P := Tryz.prog) (args := #[.int .i64 x]) h.L rfl, roundIn_of_wpIn hfn ?_⟩; have hl : l < W.heap.size := (Array.getElem?_eq_some_iff.1 h.L).1; have hbr := run_beginRound (P := Tryz.prog) h.L rfl; obtain ⟨W2, hW2⟩ : ∃ W2, W.putObj l (.loop { z33 fn sv Bs D .ready none with state := .busy }) = W2 := ⟨_, rfl⟩
 rw [hW2] at hbr; have hg2 : W.grownBy W2 (some l) := by rw [← hW2]; exact y00 _ _ _
 have hv2 : W2.heap[Bs]? = some (.cells #[v] 86 (0, 0)) := by rw [← hW2]; exact (World.putObj_heap_other hBl).trans hv
 have hK2 : W2.heap[D]? = some (.deferred (some [])) := by rw [← hW2]; exact (World.putObj_heap_other hDl).trans h.K
 have hL2 : W2.heap[l]? = some (.loop { z33 fn sv Bs D .ready none with state := .busy }) := by rw [← hW2]; exact World.putObj_heap_same hl
 have hrow2 : W2.ownsRow w0.heap.size 2 1 v ss.length (ss.map (Value.int .i64)) := hrow.kept hg2 (q0h hrow h.L (fun cur e => by cases e)); have hb2 : Below w0.heap.size w0 W2 := h.below.grown hg2 h.below.size (fun k e => by cases e; exact h0l); obtain ⟨hc2, hf2⟩ := y0w hv2; have hBlt : Bs < W2.heap.size := (Array.getElem?_eq_some_iff.1 hv2).1; have hl2 : l < W2.heap.size := (Array.getElem?_eq_some_iff.1 hL2).1; have hDlt : D < W2.heap.size := (Array.getElem?_eq_some_iff.1 hK2).1
 have ne_of : ∀ {j : Nat} {o : Obj}, W2.heap[j]? = some o → (∀ cur, o ≠ .cells cur 2 (0, 0)) → some j ≠ v.ownBlock := fun hj hno => by
  rcases q0h hrow2 hj hno with e | e
  · rw [e]; simp
  · exact fun e' => e e'.symm
 clear hW2; unfold y4b
 gi_wp2_with (rw [Oper.semAt_eq _ _ _ (fun c h => by cases h)]; go_simp; try go_bits)
 unfold y7p
 gi_wp2_with (first
  | (gi_at_builtin; refine wpListIn_append_own _ Y _ _ 86 Y w0.heap.size 2 i0 (.int .i64 0) 1 8 Tryz.underlying86 hi hz0 hz1 hz2 Y (by decide) _ _ _ Y (hrow2.alloc _) ⟨W2.heap.size, 0, none⟩ 1 1 [.int .i64 x] Y Y (cell_one_new _ _ _) (by simp [Value.oneCell']) (by omega) (by omega) (by have := hb2.size; simp; omega) ?_; intro v' w3 hown' hg3 hnil3
     have hv3 : w3.heap[Bs]? = some (.cells #[v] 86 (0, 0)) := (hg3.block Bs (by simp; omega) (ne_of hv2 (fun cur e => by cases e))).trans ((Below.heap_alloc _ _ Bs hBlt).trans hv2); obtain ⟨hc3, hf3⟩ := y0w hv3
     obtain ⟨g', cap', cur', rfl, hbase', hgb', hr1, hr2, hr3, hr4⟩ : ∃ g' cap' cur', v' = .slice (some ⟨g', 0, none⟩) (ss.length + 1) cap' ∧ w0.heap.size ≤ g' ∧ w3.heap[g']? = some (.cells cur' 2 (0, 0)) ∧ ss.length + 1 ≤ cap' ∧ cap' ≤ maxLen ∧ cur'.size = cap' * 1 ∧ cur'.toList.take ((ss.length + 1) * 1) = ss.map (Value.int .i64) ++ [.int .i64 x] := by
      rcases hown'.2 with ⟨_, h0⟩ | h'
      · exact absurd h0 (by omega)
      · exact h'
     go_frame)
  | (rw [Oper.semAt_eq _ _ _ (fun c h => by cases h)]; go_simp; try go_bits))
 have hg3' : (W2.alloc (.cells #[.int .i64 x] 2)).grownBy w3 v.ownBlock := hg3; have hL3 : w3.heap[l]? = some (.loop { z33 fn sv Bs D .ready none with state := .busy }) := (hg3'.block l (by simp; omega) (ne_of hL2 (fun cur e => by cases e))).trans ((Below.heap_alloc _ _ l hl2).trans hL2); have hK3 : w3.heap[D]? = some (.deferred (some [])) := (hg3'.block D (by simp; omega) (ne_of hK2 (fun cur e => by cases e))).trans ((Below.heap_alloc _ _ D hDlt).trans hK2); obtain ⟨w4, hw4⟩ : ∃ w4, w3.setCell ⟨Bs, 0, none⟩ (.slice (some ⟨g', 0, none⟩) (ss.length + 1) cap') = w4 := ⟨_, rfl⟩
 rw [hw4]; have hg4 : w3.grownBy w4 (some Bs) := by rw [← hw4]; exact q2u _ _ _
 have hv4 : w4.heap[Bs]? = some (.cells #[.slice (some ⟨g', 0, none⟩) (ss.length + 1) cap'] 86 (0, 0)) := by rw [← hw4]; exact z2i _ hv3
 have hL4 : w4.heap[l]? = some (.loop { z33 fn sv Bs D .ready none with state := .busy }) := (hg4.block l (Array.getElem?_eq_some_iff.1 hL3).1 (fun e => hBl (by cases e; rfl))).trans hL3; have hK4 : w4.heap[D]? = some (.deferred (some [])) := (hg4.block D (Array.getElem?_eq_some_iff.1 hK3).1 (fun e => hDB (by cases e; rfl))).trans hK3; have hrow4 := hown'.kept hg4 (q0h hown' hv3 (fun cur e => by cases e)); have hl4 : l < w4.heap.size := (Array.getElem?_eq_some_iff.1 hL4).1; have hb3 : Below w0.heap.size w0 w3 := (hb2.alloc hb2.size _).grown hg3' (by have := hb2.size; simp; omega) (fun k e => (hrow2.lt k e).1); have hb4 : Below w0.heap.size w0 w4 := hb3.grown hg4 hb3.size (fun k e => by cases e; exact h0B); clear hw4; refine ⟨_, _, run_endRound none hL4, Y, ⟨⟨_, (World.putObj_heap_other hBl).trans hv4, ?_, by simp⟩, World.putObj_heap_same hl4, (World.putObj_heap_other hDl).trans hK4, hb4.grown (y00 _ _ _) hb4.size (fun k e => by cases e; exact h0l)⟩⟩; have := hrow4.kept (y00 w4 l (.loop { { z33 fn sv Bs D .ready none with state := .busy } with state := if (none : Option Code).isNone then .ready else .done, pending := none })) (q0h hrow4 hL4 (fun cur e => by cases e))
 simpa using this
set_option maxRecDepth 100000 in
set_option maxHeartbeats 2000000 in
theorem y4w (F : Fence) (n : Nat) (h11 : F.fn 466) (h330 : F.fn 455) (hro : F.round = none) (hn : 3 ≤ n) (a : Addr) (A : Option Addr) (cap : Nat) (zs : List Int) (hz : zs.length ≤ 1048576) (w : World) (hB : a.block < w.heap.size)
 (hc : w.cell? a = some (.slice A zs.length cap)) (hA : (∃ b, A = some b ∧ ∀ j, j < zs.length → b.block < w.heap.size ∧ w.cell? (b.add j) = some (.int .i64 (zs[j]?.getD 0))) ∨ (A = none ∧ zs = [])) :
 CallsIn F n Tryz.prog 466 #[.slice none 0 0, .func (.func 455) #[] #[.pointer (some a)]] w fun e w' => ∃ (v : Value), e = .returned v ∧ w'.ownsRow w.heap.size 2 1 v zs.length (zs.map (Value.int .i64)) ∧ Below w.heap.size w w' := by
 have h1 : 1 ≤ n := by omega
 refine callsIn_of_wp_marks Tryz.func466 Y h11 ?_ hro; simp only [Tryz.ntmps466, List.size_toArray, List.length_cons, List.length_nil, Nat.reduceAdd, Nat.reduceSub, Array.replicate_succ, Array.replicate_zero, List.push_toArray, List.append_toArray, List.nil_append, List.cons_append]
 gi_wp2
 refine wpIn_rangeFunc ?_; intro fn hfn; rw [hro]; obtain ⟨W0, hW0⟩ : ∃ W0, w.alloc (.cells #[.slice none 0 0] 86) = W0 := ⟨_, rfl⟩
 have hs0 : W0.heap.size = w.heap.size + 1 := by rw [← hW0]; simp
 have hv0 : W0.heap[w.heap.size]? = some (.cells #[.slice none 0 0] 86 (0, 0)) := by rw [← hW0]; exact World.alloc_heap_new w _
 have hb0 : Below w.heap.size w W0 := by rw [← hW0]; exact (Below.refl _ w).alloc (Nat.le_refl _) _
 rw [hW0]; obtain ⟨sv, hsv⟩ : ∃ sv, sv = Value.func (.func 455) #[] #[.pointer (some a)] := ⟨_, rfl⟩
 obtain ⟨W1, hW1⟩ : ∃ W1, (W0.alloc (.deferred (some []))).alloc (.loop (z33 fn (Value.func (.func 455) #[] #[.pointer (some a)]) w.heap.size W0.heap.size .ready none)) = W1 := ⟨_, rfl⟩
 have hold : ∀ k, k < W0.heap.size → W1.heap[k]? = W0.heap[k]? := fun k hk => by
  rw [← hW1]; exact (Below.heap_alloc _ _ k (by simp; omega)).trans (Below.heap_alloc _ _ k hk)
 have hb1 : Below w.heap.size w W1 := by rw [← hW1]; exact (hb0.alloc hb0.size _).alloc (by have := hb0.size; simp; omega) _
 have hs1 : W1.heap.size = W0.heap.size + 2 := by rw [← hW1]; simp
 have hM : ybp w fn (.func (.func 455) #[] #[.pointer (some a)]) w.heap.size (W0.heap.size + 1) W0.heap.size [] W1 :=
  ⟨⟨_, (hold w.heap.size (by omega)).trans hv0, ⟨rfl, .inl ⟨rfl, rfl⟩⟩, by simp⟩,
   by rw [← hW1]; have := World.alloc_heap_new (W0.alloc (.deferred (some []))) (.loop (z33 fn (.func (.func 455) #[] #[.pointer (some a)]) w.heap.size W0.heap.size .ready none)); rwa [World.size_alloc] at this,
   by rw [← hW1]; exact (Below.heap_alloc _ _ _ (by simp)).trans (World.alloc_heap_new W0 _), hb1⟩
 refine ⟨W0.heap.size + 1, [{ target := .collected W0.heap.size, args := #[] }], W1, { target := .fn (.func 455) #[.pointer (some a)], args := #[.func (.yield (W0.heap.size + 1)) #[] #[]] }, W1, 455,
  #[.func (.yield (W0.heap.size + 1)) #[] #[], .pointer (some a)], W1, ?_, ?_, ?_, ?_, fun _ => h1, ?_⟩
 · rw [← hW1]; exact run_enterLoop_outer _ _ _ _ _
 · simp [resolve, go_sem]
 · intro f' hf'; simp [Target.leads] at hf'; subst hf'; exact h330
 · simp [invoke, go_sem, enters_of Tryz.func455 (by kernel_rfl) rfl]
 · refine (ybk F (n - 1) h330 hro (by omega) (W0.heap.size + 1) w.heap.size a A cap zs w (ybp w fn (.func (.func 455) #[] #[.pointer (some a)]) w.heap.size (W0.heap.size + 1) W0.heap.size)
    (fun pre W hJ => hJ.below) hB hc hz hA
    (fun pre x W hJ hl => ya6 F (n - 1 - 1) w fn hfn _ w.heap.size (W0.heap.size + 1) W0.heap.size (by omega) (by omega) (by omega) (Nat.le_refl _) (by omega) zs.length (by unfold maxLen; omega) (by omega) pre x W hJ hl) W1 hM).mono ?_
   rintro e W2 ⟨⟨v0, rfl⟩, h2⟩
   obtain ⟨v, hv, hrow, hnil⟩ := h2.box; have hend := run_endLoop (P := Tryz.prog) h2.L (by simp [z33]); obtain ⟨W3, hW3⟩ : ∃ W3, W2.putObj (W0.heap.size + 1) (.loop { z33 fn (.func (.func 455) #[] #[.pointer (some a)]) w.heap.size W0.heap.size .ready none with state := .exhausted }) = W3 := ⟨_, rfl⟩
   rw [hW3] at hend; have hg3 : W2.grownBy W3 (some (W0.heap.size + 1)) := by rw [← hW3]; exact y00 _ _ _
   have hv3 : W3.heap[w.heap.size]? = some (.cells #[v] 86 (0, 0)) := by rw [← hW3]; exact (World.putObj_heap_other (by omega)).trans hv
   have hK3 : W3.heap[W0.heap.size]? = some (.deferred (some [])) := by rw [← hW3]; exact (World.putObj_heap_other (by omega)).trans h2.K
   have hrow3 := hrow.kept hg3 (q0h hrow h2.L (fun cur e => by cases e)); have hb3 : Below w.heap.size w W3 := h2.below.grown hg3 h2.below.size (fun k e => by cases e; omega); obtain ⟨hc3, hf3⟩ := y0w hv3; clear hW3; refine ⟨none, W3, hend, ?_⟩
   gi_wp2
   rw [← hs0]; refine ⟨by simp, .inl ⟨_, _, Y, run_takeDeferred hK3, ?_⟩⟩; exact ⟨_, results_tmp Y _ _ _, v, Y, hrow3.kept (y00 _ _ _) (q0h hrow3 hK3 (fun cur e => by cases e)), hb3.grown (y00 _ _ _) hb3.size (fun k e => by cases e; omega)⟩
set_option maxHeartbeats 1000000 in
theorem z6z (F : Fence) (n : Nat) (h8 : F.fn 454) (h11 : F.fn 466) (h330 : F.fn 455) (hro : F.round = none) (hn : 4 ≤ n) (a : Addr) (A : Option Addr) (cap : Nat) (zs : List Int) (hz : zs.length ≤ 1048576) (w : World) (hB : a.block < w.heap.size)
 (hc : w.cell? a = some (.slice A zs.length cap)) (hA : (∃ b, A = some b ∧ ∀ j, j < zs.length → b.block < w.heap.size ∧ w.cell? (b.add j) = some (.int .i64 (zs[j]?.getD 0))) ∨ (A = none ∧ zs = [])) :
 CallsIn F n Tryz.prog 454 #[.func (.func 455) #[] #[.pointer (some a)]] w fun e w' => ∃ (v : Value), e = .returned v ∧ w'.ownsRow w.heap.size 2 1 v zs.length (zs.map (Value.int .i64)) ∧ Below w.heap.size w w' := by
 have h1 : 1 ≤ n := by omega
 refine callsIn_of_wp Tryz.func454 Y h8 ?_ hro; simp only [Tryz.ntmps454, List.size_toArray, List.length_cons, List.length_nil, Nat.reduceAdd, Nat.reduceSub, Array.replicate_succ, Array.replicate_zero, List.push_toArray, List.append_toArray, List.nil_append, List.cons_append]
 gi_wp2_with (gi_at_call 466; refine (y4w F (n - 1) h11 h330 hro (by omega) a A cap zs hz _ hB hc hA).mono ?_; rintro e w' ⟨v, rfl, hrow, hb⟩)
 go_ret
 exact ⟨v, Y, hrow, hb⟩
theorem zc5 {w : World} {N : Nat → Prop} {u v : Value} (h : Rep w N (.s v) u) : u = v := by cases h; rfl
theorem z4p {W : World} {base base' : Nat} {e : TypeId} {size : Nat} {v : Value} {k : Nat} {xs : List Value} (h : W.ownsRow base e size v k xs) (hb : base' ≤ base) : W.ownsRow base' e size v k xs := by
 refine ⟨h.1, ?_⟩; rcases h.2 with hn | ⟨g, cap, cur, hv, hbg, rest⟩
 · exact .inl hn
 · exact .inr ⟨g, cap, cur, hv, Nat.le_trans hb hbg, rest⟩
theorem y6z (us : List Int) (hu : us.length ≤ 1048576) : PC Tryz.prog 454 [.one (.f 455 [.p [.l (ints us)]])] (.one (.own false [.l 1 (ints us)])) := by
 refine ⟨by kernel_rfl, fun N w vals hargs => ?_⟩; obtain ⟨hsz, hr⟩ := hargs
 obtain ⟨v0, rfl⟩ : ∃ v0, vals = #[v0] := by
  match vals, hsz with
  | ⟨[v0]⟩, _ => exact ⟨v0, rfl⟩
 have h0 : Rep w N (.f 455 [.p [.l (ints us)]]) v0 := hr 0 _ _ rfl rfl
 obtain ⟨a, A, cap, rfl, hB, hc, hA⟩ : ∃ (a : Addr) (A : Option Addr) (cap : Nat), v0 = .func (.func 455) #[] #[.pointer (some a)] ∧ a.block < w.heap.size ∧ w.cell? a = some (.slice A us.length cap) ∧
  ((∃ b, A = some b ∧ ∀ j, j < us.length → b.block < w.heap.size ∧ w.cell? (b.add j) = some (.int .i64 (us[j]?.getD 0))) ∨ (A = none ∧ us = [])) := by
  cases h0 with
  | f _ _ vs hs hv =>
    obtain ⟨u0, rfl⟩ : ∃ u0, vs = #[u0] := by
     match vs, hs with
     | ⟨[u0]⟩, _ => exact ⟨u0, rfl⟩
    have h1 : Rep w N (.p [.l (ints us)]) u0 := hv 0 _ _ rfl rfl
    cases h1 with
    | p _ a u hm hq =>
      have h2 := hm 0 (by simp); have h3 : Rep w N (.l (ints us)) (u 0) := hq 0 _ rfl; have ha0 : a.add 0 = a := by obtain ⟨g, o, sp⟩ := a; unfold Addr.add; cases sp <;> simp
      rw [ha0] at h2; have hlt : a.block < w.heap.size := World.block_lt_of_cell? w _ h2.2; generalize u 0 = x at h2 h3; generalize hrr : ints us = rr at h3
      cases h3 with
      | l sz _ A cap ux hz hcap hn hmm hrx =>
        have hlen : rr.length = us.length := by rw [← hrr]; simp
        refine ⟨a, A, cap, Y, hlt, by rw [h2.2, hlen], ?_⟩
        cases A with
        | none =>
          have := hn rfl; rw [this] at hlen; exact .inr ⟨Y, List.eq_nil_of_length_eq_zero hlen.symm⟩
        | some b =>
          refine .inl ⟨b, Y, fun j hj => ?_⟩; have hrow : rr[j]? = some [i64 us[j]] := by rw [← hrr]; simp [ints, hj]
          have hs1 : sz = 1 := (hz _ (List.mem_of_getElem? hrow)).symm; subst hs1; obtain ⟨b', hb', _, hcell⟩ := hmm j 0 (by omega) (by omega); cases hb'; have hx := zc5 (hrx j 0 _ _ hrow rfl); rw [hx, Nat.mul_one, Nat.add_zero] at hcell; have hbl := World.block_lt_of_cell? w _ hcell; rw [q0b] at hbl; exact ⟨hbl, by rw [hcell]; simp [hj]⟩
 refine (callsIn_wide.1 (z6z Fence.wide 4 trivial trivial trivial Y (Nat.le_refl _) a A cap us hu w hB hc hA)).mono ?_
 rintro e w' ⟨v, rfl, hrow, hb⟩
 refine ⟨v, fun x => w.heap.size ≤ x ∧ x < w'.heap.size, Y, zt.q9b hb, ⟨#[v], fun k x => k = 0 ∧ w.heap.size ≤ x ∧ x < w'.heap.size, Y, Y, fun k x hx => hx.2, fun k k' x hx hx' => by rw [hx.1, hx'.1], fun k c u hc hu' => ?_⟩, fun x hx => hx⟩
 cases k with
 | succ k => simp at hc
 | zero =>
   cases hc; cases hu'; refine ⟨1, fun _ => Y, .inr ⟨2, us.map (Value.int .i64), fun j _ => .int .i64 (us[j]?.getD 0), fun _ _ _ => False, ?_, fun g hg => ⟨Y, hrow.lt g hg⟩, fun row hrow => ?_, fun _ _ _ h => h.elim, fun _ _ _ _ _ h => h.elim, fun j k hj hk => ?_, fun j k row c hj hk => ?_⟩⟩
   · have := z4p hrow (Nat.zero_le _)
     simpa [ints] using this
   · simp [ints] at hrow
     obtain ⟨_, _, rfl⟩ := hrow; rfl
   · have hj : j < us.length := by simpa [ints] using hj
     have : k = 0 := by omega
     subst this; simp [hj]
   · have hjl : j < us.length := by have := (List.getElem?_eq_some_iff.1 hj).1; simpa [ints] using this
     have : row = [i64 us[j]] := by simp [ints, hjl] at hj; exact hj.symm
     subst this
     cases k with
     | succ k => simp at hk
     | zero =>
       cases hk; simp only [hjl, getElem?_pos, Option.getD_some]; exact .s _ _ Y
set_option maxHeartbeats 1000000 in
theorem y8u (A : Option Addr) (len cap : Nat) (w : World) :
 CallsIn Fence.wide 1 Tryz.prog 418 #[.slice A len cap] w fun e w' => e = .returned (.func (.func 455) #[] #[.pointer (some ⟨w.heap.size, 0, none⟩)]) ∧ w' = w.alloc (.cells #[.slice A len cap] 86) := by
 refine callsIn_of_wp Tryz.func418 Y trivial ?_ Y; simp only [Tryz.ntmps418, List.size_toArray, List.length_cons, List.length_nil, Nat.reduceAdd, Nat.reduceSub, Array.replicate_succ, Array.replicate_zero, List.push_toArray, List.append_toArray, List.nil_append, List.cons_append]
 gi_wp2
 go_ret
 exact ⟨Y, Y⟩
theorem q8u (rows : List (List Cell)) : PC Tryz.prog 418 [.one (.l rows)] (.one (.bor false [.f 455 [.p [.l rows]]])) := by
 refine ⟨by kernel_rfl, fun N w vals hargs => ?_⟩; obtain ⟨hsz, hr⟩ := hargs
 obtain ⟨v0, rfl⟩ : ∃ v0, vals = #[v0] := by
  match vals, hsz with
  | ⟨[v0]⟩, _ => exact ⟨v0, rfl⟩
 have h0 : Rep w N (.l rows) v0 := hr 0 _ _ rfl rfl; obtain ⟨A, len, cap, rfl⟩ : ∃ A len cap, v0 = .slice A len cap := by cases h0; exact ⟨_, _, _, Y⟩
 refine (callsIn_wide.1 (y8u A len cap w)).mono ?_
 rintro e w' ⟨rfl, rfl⟩
 refine ⟨_, fun _ => False, Y, zt.alloc w _ _, ⟨#[_], Y, Y, fun k c u hc hu => ?_⟩, fun x hx => hx.elim⟩
 cases k with
 | succ k => simp at hc
 | zero =>
   cases hc; cases hu; refine .f _ _ _ Y (fun k c v hc hv => ?_)
   cases k with
   | succ k => simp at hc
   | zero =>
     cases hc; cases hv; refine .p _ _ (fun _ => .slice A len cap) (fun k hk => ⟨⟨.inr (Nat.le_refl _), fun h => h⟩, ?_⟩) (fun k c hc => ?_)
     · have : k = 0 := by simpa using hk
       subst this; rw [add_plain]; exact (y0w (World.alloc_heap_new w _)).1
     · cases k with
       | succ k => simp at hc
       | zero =>
         cases hc; exact Rep.move h0 (fun x hx hN => ⟨⟨.inl hN, fun h => h⟩, Below.heap_alloc w _ x hx⟩)
end Go.Proofs.YtjdiongbbijdpaaGreat
end
section
namespace Go.Proofs.YtjdiongbbijdpaaGreat
open Go Go.Sx
set_option maxRecDepth 20000
set_option maxHeartbeats 4000000
theorem zl (n lo hi : Int) : PC Tryz.prog 77 [.one (i64 n), .one (i64 lo), .one (i64 hi)] (rB (within n lo hi)) := by
 refine PC.begin Tryz.func77 Y (by kernel_rfl) ?_; refine xb Y ?_ ?_ <;> intro b0
 refine xj (k := 3) Y ?_; refine xv Y Y Y ?_; rotate_left; refine xj (k := 3) Y ?_; refine xv Y Y Y ?_; rotate_left; all_goals (refine vb ?_; (simp_all [within] <;> omega))
theorem qo (n lo hi : Int) : PC Tryz.prog 93 [.one (i64 n), .one (i64 lo), .one (i64 hi)] (rB (within n lo hi)) := by
 refine PC.begin Tryz.func93 Y (by kernel_rfl) ?_; refine xb Y ?_ ?_ <;> intro b0
 refine xj (k := 3) Y ?_; refine xv Y Y Y ?_; rotate_left; refine xj (k := 3) Y ?_; refine xv Y Y Y ?_; rotate_left; all_goals (refine vb ?_; (simp_all [within] <;> omega))
theorem q2j (n : Int) : PC Tryz.prog 322 [.one (i64 n)] (rB (within n 0 2)) := by
 refine PC.begin Tryz.func322 Y (by kernel_rfl) ?_; refine z7 Y (qo _ _ _) Y tv4 ?_; refine xr Y (zm Y ⟨⟨Y, Y, trivial⟩, z6 Y⟩)
theorem y75 (n : Int) : PC Tryz.prog 399 [.one (i64 n)] (rB (within n 0 2)) := by
 refine PC.begin Tryz.func399 Y (by kernel_rfl) ?_; refine z7 Y (qo _ _ _) Y tv4 ?_; refine xr Y (zm Y ⟨⟨Y, Y, trivial⟩, z6 Y⟩)
theorem z4k (n : Int) : PC Tryz.prog 224 [.one (i64 n)] (rB (within n 1 1000000000)) := by
 refine PC.begin Tryz.func224 Y (by kernel_rfl) ?_; refine z7 Y (qo _ _ _) Y tv4 ?_; refine xr Y (zm Y ⟨⟨Y, Y, trivial⟩, z6 Y⟩)
theorem y4k (n : Int) : PC Tryz.prog 118 [.one (i64 n)] (rB (within n 1 1000000000)) := by
 refine PC.begin Tryz.func118 Y (by kernel_rfl) ?_; refine z7 Y (zl _ _ _) Y tv4 ?_; refine xr Y (zm Y ⟨⟨Y, Y, trivial⟩, z6 Y⟩)
theorem y2j (a b : Int) : PC Tryz.prog 323 [.one (i64 a), .one (i64 b)] (rB (within a 0 5 && within b 0 2)) := by
 refine PC.begin Tryz.func323 Y (by kernel_rfl) ?_; refine z7 Y (qo _ _ _) Y tv4 ?_; refine xb Y ?_ ?_ <;> intro b0
 refine xj (k := 1) Y (z7 Y (y75 _) Y ⟨trivial, trivial⟩ (xj (k := 1) Y ?_)); refine xv Y Y Y ?_; rotate_left; refine xj (k := 2) Y ?_; refine xv Y Y Y ?_; rotate_left; all_goals (refine vb ?_; simp_all)
theorem y6n (a b : Int) : PC Tryz.prog 448 [.one (i64 a), .one (i64 b)] (rB (within a 0 5 && within b 0 2)) := by
 refine PC.begin Tryz.func448 Y (by kernel_rfl) ?_; refine z7 Y (zl _ _ _) Y tv4 ?_; refine xb Y ?_ ?_ <;> intro b0
 refine xj (k := 1) Y (z7 Y (zl _ _ _) Y tv4 (xj (k := 1) Y ?_)); refine xv Y Y Y ?_; rotate_left; refine xj (k := 2) Y ?_; refine xv Y Y Y ?_; rotate_left; all_goals (refine vb ?_; simp_all)
theorem q5f (l : Leg) : PC Tryz.prog 119 [.agg l.cs] (rI l.fault) := by
 refine PC.begin Tryz.func119 Y (by kernel_rfl) ?_; refine z7 Y (zl _ _ _) Y tv4 ?_; refine xb Y ?_ ?_ <;> intro b0
 refine xj (k := 15) Y ?_; refine xv Y Y Y ?_; rotate_left; refine xj (k := 2) Y (z7 Y (zl _ _ _) Y tv4 (xj (k := 2) Y ?_)); refine xb Y ?_ ?_ <;> intro b1
 refine xj (k := 10) Y ?_; refine xv Y Y Y ?_; rotate_left; refine xj (k := 2) Y (z7 Y (zl _ _ _) Y tv4 (xj (k := 2) Y ?_)); refine xb Y ?_ ?_ <;> intro b2
 refine xj (k := 5) Y ?_; refine xv Y Y Y ?_; rotate_left; refine xj (k := 2) Y (z7 Y (zl _ _ _) Y tv4 (xj (k := 2) Y ?_)); refine xb Y ?_ ?_ <;> intro b3
 refine xv Y Y Y ?_; rotate_left; refine xb Y ?_ ?_ <;> intro b4
 refine xv Y Y Y ?_; rotate_left; refine xv Y Y Y ?_; rotate_left; all_goals (refine vi ?_; simp_all [Leg.fault, Leg.bad])
theorem q56 (l : Leg) : PC Tryz.prog 226 [.agg l.cs] (rI l.fault) := by
 refine PC.begin Tryz.func226 Y (by kernel_rfl) ?_; refine z7 Y (q2j _) Y ⟨trivial, trivial⟩ ?_; refine xb Y ?_ ?_ <;> intro b0
 refine xj (k := 12) Y ?_; refine xv Y Y Y ?_; rotate_left; refine xj (k := 4) Y (z7 Y (y2j _ _) Y tv3 (xj (k := 2) Y ?_)); refine xb Y ?_ ?_ <;> intro b1
 refine xj (k := 5) Y ?_; refine xv Y Y Y ?_; rotate_left; refine xj (k := 2) Y (z7 Y (qo _ _ _) Y tv4 (xj (k := 2) Y ?_)); refine xb Y ?_ ?_ <;> intro b2
 refine xv Y Y Y ?_; rotate_left; refine xb Y ?_ ?_ <;> intro b3
 refine xv Y Y Y ?_; rotate_left; refine xv Y Y Y ?_; rotate_left; all_goals (refine vi ?_; simp_all [Leg.fault, Leg.bad])
theorem z7g (rr : List (List Cell)) : PC Tryz.prog 225 [.one (.l rr)] (rI rr.length) := by
 refine PC.begin Tryz.func225 Y (by kernel_rfl) ?_; refine xr Y (zm Y ⟨⟨Y, Y, trivial⟩, z6 Y⟩)
theorem z2t (l m : Leg) : PC Tryz.prog 229 [.agg l.cs, .agg m.cs] (rB (l.same m)) := by
 refine PC.begin Tryz.func229 Y (by kernel_rfl) ?_; refine xb Y ?_ ?_ <;> intro b0
 refine xj (k := 5) Y ?_; refine xb Y ?_ ?_ <;> intro b1
 refine xj (k := 5) Y ?_; refine xv Y Y Y ?_; rotate_left; refine xj (k := 5) Y ?_; refine xv Y Y Y ?_; rotate_left; refine xj (k := 11) Y ?_; refine xv Y Y Y ?_; rotate_left; all_goals (refine vb ?_; simp_all [Leg.same])
theorem q6m (n : Int) : PC Tryz.prog 238 [.one (i64 n)] (rB false) := by
 refine PC.begin Tryz.func238 Y (by kernel_rfl) ?_; refine xv Y Y Y ?_; all_goals (refine vb ?_; simp_all)
theorem zw (a b : Int) : PC Tryz.prog 135 [.one (i64 a), .one (i64 b)] (rI (z0c a b)) := by
 refine PC.begin Tryz.func135 Y (by kernel_rfl) ?_; refine z7 Y (q6m _) Y ⟨trivial, trivial⟩ (z7 Y (q6m _) Y ⟨trivial, trivial⟩ (xj (k := 2) Y ?_)); refine xb Y ?_ ?_ <;> intro b0
 refine xv Y Y Y ?_; rotate_left; refine xb Y ?_ ?_ <;> intro b1
 refine xv Y Y Y ?_; rotate_left; refine xv Y Y Y ?_; rotate_left; all_goals (refine vi ?_; simp_all [z0c] <;> omega)
theorem q9c (us : List Int) (hl : us.length ≤ 1048576) : PC Tryz.prog 342 [.one (.l (ints us))] (rI (orr us)) := by
 refine PC.begin Tryz.func342 Y (by kernel_rfl) ?_; have hn : (ints us).length = us.length := by simp
 refine qc Y (ι := Nat) (fun i => i ≤ us.length ∧ ∀ j y, j < i → us[j]? = some y → y = 0) (fun i => ⟨[(8, sV (.int .i64 i)), (7, sV (.int .i64 (ints us).length)), (6, .one (.b (.l (ints us)))), (3, sV (.int .i64 0))], []⟩) (fun i => us.length - i) 0 ⟨Nat.zero_le _, fun j y hj => by omega⟩ ?_ ?_
 · exact ⟨⟨Y, Y, Y, Y, trivial⟩, trivial, Y⟩
 · intro i ⟨hi, h0⟩ J hJ
   refine xb Y ?_ ?_ <;> intro h
   · have h : i < us.length := by simpa using h
     obtain ⟨x, hx⟩ := gx h; have hg := gm (fun n => [i64 n]) hx; refine xs Y (nn_ _) (y9 Y _ hg (xs Y Y ?_)); refine xb Y ?_ ?_ <;> intro b0
     refine xv Y Y Y ?_; rotate_left; rotate_left
     · exact vi (y64 hx h0 (by simpa using b0)).symm
     · exact q9 Y (hJ _ (i + 1) ⟨by omega, qg hx h0 (by simpa using b0)⟩ (by omega) ⟨⟨cwi (by omega) (by omega) (by omega), Y, Y, Y, trivial⟩, trivial, Y⟩)
   · have h : ¬ i < us.length := by simpa using h
     refine xv Y Y Y ?_; exact vi (q4o (yk (by omega) h0)).symm
theorem z2h (us : List Int) (hl : us.length ≤ 1048576) : PC Tryz.prog 88 [.one (.l (ints us))] (rI (orr us)) := by
 refine PC.begin Tryz.func88 Y (by kernel_rfl) ?_; have hn : (ints us).length = us.length := by simp
 refine qc Y (ι := Nat) (fun i => i ≤ us.length ∧ ∀ j y, j < i → us[j]? = some y → y = 0) (fun i => ⟨[(7, sV (.int .i64 i)), (6, sV (.int .i64 (ints us).length)), (5, .one (.b (.l (ints us))))], []⟩) (fun i => us.length - i) 0 ⟨Nat.zero_le _, fun j y hj => by omega⟩ ?_ ?_
 · exact ⟨⟨Y, Y, Y, trivial⟩, trivial, Y⟩
 · intro i ⟨hi, h0⟩ J hJ
   refine xb Y ?_ ?_ <;> intro h
   · have h : i < us.length := by simpa using h
     obtain ⟨x, hx⟩ := gx h; have hg := gm (fun n => [i64 n]) hx; refine xs Y (nn_ _) (y9 Y _ hg (xs Y Y ?_)); refine xb Y ?_ ?_ <;> intro b0
     refine xv Y Y Y ?_; rotate_left; rotate_left
     · exact vi (y64 hx h0 (by simpa using b0)).symm
     · exact q9 Y (hJ _ (i + 1) ⟨by omega, qg hx h0 (by simpa using b0)⟩ (by omega) ⟨⟨cwi (by omega) (by omega) (by omega), Y, Y, trivial⟩, trivial, Y⟩)
   · have h : ¬ i < us.length := by simpa using h
     refine xv Y Y Y ?_; exact vi (q4o (yk (by omega) h0)).symm
theorem zaq (us : List Bal) (a b : Int) (hl : us.length ≤ 1048576) : PC Tryz.prog 432 [.one (.l (us.map Bal.cs)), .one (i64 a), .one (i64 b)] (rI (hasB us a b)) := by
 refine PC.begin Tryz.func432 Y (by kernel_rfl) ?_; refine qc Y (ι := Nat) (fun i => i ≤ us.length ∧ ∀ j y, j < i → us[j]? = some y → ¬ (y.a = a ∧ y.b = b)) (fun i => ⟨[(7, sV (.int .i64 i)), (0, .one (.b (.l (us.map Bal.cs)))), (1, sV (.int .i64 a)), (2, sV (.int .i64 b))], []⟩) (fun i => us.length - i) 0 ⟨Nat.zero_le _, fun j y hj => by omega⟩ ?_ ?_
 · exact ⟨⟨Y, Y, Y, Y, trivial⟩, trivial, Y⟩
 · intro i ⟨hi, h0⟩ J hJ
   refine xb Y ?_ ?_ <;> intro h
   · have h : i < us.length := by simpa using h
     obtain ⟨x, hx⟩ := gx h; have hg := gm Bal.cs hx; refine xs Y (nn_ _) (y9 Y _ hg (xs Y Y ?_)); refine xb Y ?_ ?_ <;> intro b0
     refine xj (k := 2) Y (xs Y (nn_ _) (y9 Y _ hg (xs Y Y (xj (k := 5) Y ?_)))); refine xb Y ?_ ?_ <;> intro b1
     refine xs Y (nn_ _) (y9 Y _ hg (xs Y Y ?_)); refine xv Y Y Y ?_; rotate_left; rotate_left; refine xj (k := 8) Y ?_; rotate_left
     · exact vi (y4h hx h0 (by simp_all)).symm
     · exact q9 Y (hJ _ (i + 1) ⟨by omega, qg hx h0 (by simp_all)⟩ (by omega) ⟨⟨cwi (by omega) (by omega) (by omega), Y, Y, Y, trivial⟩, trivial, Y⟩)
     · exact q9 Y (hJ _ (i + 1) ⟨by omega, qg hx h0 (by simp_all)⟩ (by omega) ⟨⟨cwi (by omega) (by omega) (by omega), Y, Y, Y, trivial⟩, trivial, Y⟩)
   · have h : ¬ i < us.length := by simpa using h
     refine xv Y Y Y ?_; exact vi (z3b (yk (by omega) h0)).symm
theorem qa7 (us : List Mk) (f : Mk → Int) (fn : Nat) (t : Int) (hf : ∀ x ∈ us, PC Tryz.prog fn [.agg x.cs, .one (i64 t)] (rI (f x))) (hl : us.length ≤ 1048576) : PC Tryz.prog 440 [.one (.l (us.map Mk.cs)), .one (i64 t), .one (.f fn [])] (bsV f us) := by
 refine PC.begin Tryz.func440 Y (by kernel_rfl) ?_; have hn : (us.map Mk.cs).length = us.length := by simp
 refine qc Y (ι := Nat × Nat) (fun x => x.1 ≤ x.2 ∧ x.2 ≤ us.length ∧ bsr (bsC f us) x.1 x.2 = bsP f us) (fun x => ⟨[(9, sV (.int .i64 x.1)), (10, sV (.int .i64 x.2)), (8, sV (.int .i64 (us.map Mk.cs).length)), (0, .one (.b (.l (us.map Mk.cs)))), (1, sV (.int .i64 t)), (2, .one (.b (.f fn [])))], []⟩) (fun x => x.2 - x.1) (0, us.length) ⟨Nat.zero_le _, Nat.le_refl _, Y⟩ ?_ ?_
 · exact ⟨⟨Y, ci (by simp), Y, Y, Y, Y, trivial⟩, trivial, Y⟩
 · intro ⟨i, j⟩ ⟨hij, hj, he⟩ J hJ
   dsimp only at hij hj he ⊢; refine xb Y ?_ ?_ <;> intro h
   · have h : i < j := by simpa using h
     obtain ⟨x, hx⟩ := gx (xs := us) (i := (i + j) / 2) (by omega); have hg := yac Mk.cs (i := i) (j := j) (by omega) (by omega) hx; have hxm := List.mem_of_getElem? hx; have hc := q2x (f := f) hx; refine xs Y (nn_ _) (xs Y (zac (by omega) (by omega)) (y9 Y _ hg (xs Y Y (z7 Y (hf _ hxm) Y ⟨tv3, trivial, trivial⟩ ?_)))); refine xb Y (fun b0 => ?_) (fun b0 => ?_); rotate_left; rotate_left
     · refine q9 Y (hJ _ ((i + j) / 2 + 1, j) ⟨by dsimp only; omega, hj, ?_⟩ (by dsimp only; omega) ⟨⟨?_, Y, Y, Y, Y, Y, trivial⟩, trivial, Y⟩)
       · rw [← he, y7s h (hc.trans b0)]
       · rw [half (by omega) (by omega)]; exact cwi (by omega) (by omega) (by omega)
     · refine q9 Y (hJ _ (i, (i + j) / 2) ⟨by dsimp only; omega, by dsimp only; omega, ?_⟩ (by dsimp only; omega) ⟨⟨Y, ci (half (by omega) (by omega)), Y, Y, Y, Y, trivial⟩, trivial, Y⟩)
       rw [← he, z7s h (hc.trans b0)]
   · have h : ¬ i < j := by simpa using h
     rw [y5q h] at he; by_cases hin : i < us.length
     · obtain ⟨x, hx⟩ := gx hin
       have hg := gm Mk.cs hx; have hxm := List.mem_of_getElem? hx; have hF := z2y he.symm hx; refine xb Y ?_ ?_ <;> intro b0
       refine xj (k := 3) Y (xs Y (nn_ _) (y9 Y _ hg (xs Y Y (xj (k := 3) Y (z7 Y (hf _ hxm) Y ⟨tv3, trivial, trivial⟩ (xj (k := 2) Y ?_)))))); refine xr Y (zm Y ⟨(by decide), ⟨⟨Y, ?_, trivial⟩, ⟨Y, ?_, trivial⟩, trivial⟩, z6 Y⟩); rotate_left; rotate_left; refine xj (k := 8) Y ?_; refine xr Y (zm Y ⟨(by decide), ⟨⟨Y, ?_, trivial⟩, ⟨Y, ?_, trivial⟩, trivial⟩, z6 Y⟩); rotate_left; rotate_left; all_goals first | (exfalso; simp at b0; omega) | (refine vi ?_; rw [he]; done) | (refine vb ?_; rw [hF]; done)
     · have hF := y4c he.symm (by omega)
       refine xb Y ?_ ?_ <;> intro b0
       refine xj (k := 3) Y ?_; refine xs Y (nn_ _) ?_; rotate_left; refine xj (k := 8) Y ?_; refine xr Y (zm Y ⟨(by decide), ⟨⟨Y, ?_, trivial⟩, ⟨Y, ?_, trivial⟩, trivial⟩, z6 Y⟩); rotate_left; rotate_left; all_goals first | (exfalso; simp at b0; omega) | (refine vi ?_; rw [he]; done) | (refine vb ?_; rw [hF]; done)
theorem q90 (us : List Con) (f : Con → Int) (fn : Nat) (t : Int) (hf : ∀ x ∈ us, PC Tryz.prog fn [.agg x.cs, .one (i64 t)] (rI (f x))) (hl : us.length ≤ 1048576) : PC Tryz.prog 380 [.one (.l (us.map Con.cs)), .one (i64 t), .one (.f fn [])] (bsV f us) := by
 refine PC.begin Tryz.func380 Y (by kernel_rfl) ?_; have hn : (us.map Con.cs).length = us.length := by simp
 refine qc Y (ι := Nat × Nat) (fun x => x.1 ≤ x.2 ∧ x.2 ≤ us.length ∧ bsr (bsC f us) x.1 x.2 = bsP f us) (fun x => ⟨[(9, sV (.int .i64 x.1)), (10, sV (.int .i64 x.2)), (8, sV (.int .i64 (us.map Con.cs).length)), (0, .one (.b (.l (us.map Con.cs)))), (1, sV (.int .i64 t)), (2, .one (.b (.f fn [])))], []⟩) (fun x => x.2 - x.1) (0, us.length) ⟨Nat.zero_le _, Nat.le_refl _, Y⟩ ?_ ?_
 · exact ⟨⟨Y, ci (by simp), Y, Y, Y, Y, trivial⟩, trivial, Y⟩
 · intro ⟨i, j⟩ ⟨hij, hj, he⟩ J hJ
   dsimp only at hij hj he ⊢; refine xb Y ?_ ?_ <;> intro h
   · have h : i < j := by simpa using h
     obtain ⟨x, hx⟩ := gx (xs := us) (i := (i + j) / 2) (by omega); have hg := yac Con.cs (i := i) (j := j) (by omega) (by omega) hx; have hxm := List.mem_of_getElem? hx; have hc := q2x (f := f) hx; refine xs Y (nn_ _) (xs Y (zac (by omega) (by omega)) (y9 Y _ hg (xs Y Y (z7 Y (hf _ hxm) Y ⟨tv3, trivial, trivial⟩ ?_)))); refine xb Y (fun b0 => ?_) (fun b0 => ?_); rotate_left; rotate_left
     · refine q9 Y (hJ _ ((i + j) / 2 + 1, j) ⟨by dsimp only; omega, hj, ?_⟩ (by dsimp only; omega) ⟨⟨?_, Y, Y, Y, Y, Y, trivial⟩, trivial, Y⟩)
       · rw [← he, y7s h (hc.trans b0)]
       · rw [half (by omega) (by omega)]; exact cwi (by omega) (by omega) (by omega)
     · refine q9 Y (hJ _ (i, (i + j) / 2) ⟨by dsimp only; omega, by dsimp only; omega, ?_⟩ (by dsimp only; omega) ⟨⟨Y, ci (half (by omega) (by omega)), Y, Y, Y, Y, trivial⟩, trivial, Y⟩)
       rw [← he, z7s h (hc.trans b0)]
   · have h : ¬ i < j := by simpa using h
     rw [y5q h] at he; by_cases hin : i < us.length
     · obtain ⟨x, hx⟩ := gx hin
       have hg := gm Con.cs hx; have hxm := List.mem_of_getElem? hx; have hF := z2y he.symm hx; refine xb Y ?_ ?_ <;> intro b0
       refine xj (k := 3) Y (xs Y (nn_ _) (y9 Y _ hg (xs Y Y (xj (k := 3) Y (z7 Y (hf _ hxm) Y ⟨tv3, trivial, trivial⟩ (xj (k := 2) Y ?_)))))); refine xr Y (zm Y ⟨(by decide), ⟨⟨Y, ?_, trivial⟩, ⟨Y, ?_, trivial⟩, trivial⟩, z6 Y⟩); rotate_left; rotate_left; refine xj (k := 8) Y ?_; refine xr Y (zm Y ⟨(by decide), ⟨⟨Y, ?_, trivial⟩, ⟨Y, ?_, trivial⟩, trivial⟩, z6 Y⟩); rotate_left; rotate_left; all_goals first | (exfalso; simp at b0; omega) | (refine vi ?_; rw [he]; done) | (refine vb ?_; rw [hF]; done)
     · have hF := y4c he.symm (by omega)
       refine xb Y ?_ ?_ <;> intro b0
       refine xj (k := 3) Y ?_; refine xs Y (nn_ _) ?_; rotate_left; refine xj (k := 8) Y ?_; refine xr Y (zm Y ⟨(by decide), ⟨⟨Y, ?_, trivial⟩, ⟨Y, ?_, trivial⟩, trivial⟩, z6 Y⟩); rotate_left; rotate_left; all_goals first | (exfalso; simp at b0; omega) | (refine vi ?_; rw [he]; done) | (refine vb ?_; rw [hF]; done)
theorem y90 (us : List Bal) (f : Bal → Int) (fn : Nat) (t : Bal) (hf : ∀ x ∈ us, PC Tryz.prog fn [.agg x.cs, .agg t.cs] (rI (f x))) (hl : us.length ≤ 1048576) : PC Tryz.prog 383 [.one (.l (us.map Bal.cs)), .agg t.cs, .one (.f fn [])] (bsV f us) := by
 refine PC.begin Tryz.func383 Y (by kernel_rfl) ?_; have hn : (us.map Bal.cs).length = us.length := by simp
 refine qc Y (ι := Nat × Nat) (fun x => x.1 ≤ x.2 ∧ x.2 ≤ us.length ∧ bsr (bsC f us) x.1 x.2 = bsP f us) (fun x => ⟨[(9, sV (.int .i64 x.1)), (10, sV (.int .i64 x.2)), (8, sV (.int .i64 (us.map Bal.cs).length)), (0, .one (.b (.l (us.map Bal.cs)))), (4, .one (.a 4 0)), (2, .one (.b (.f fn [])))], [(4, .var (t.cs.map .b))]⟩) (fun x => x.2 - x.1) (0, us.length) ⟨Nat.zero_le _, Nat.le_refl _, Y⟩ ?_ ?_
 · exact ⟨⟨Y, ci (by simp), Y, Y, I, Y, trivial⟩, ⟨lcr, trivial⟩, Y⟩
 · intro ⟨i, j⟩ ⟨hij, hj, he⟩ J hJ
   dsimp only at hij hj he ⊢; refine xb Y ?_ ?_ <;> intro h
   · have h : i < j := by simpa using h
     obtain ⟨x, hx⟩ := gx (xs := us) (i := (i + j) / 2) (by omega); have hg := yac Bal.cs (i := i) (j := j) (by omega) (by omega) hx; have hxm := List.mem_of_getElem? hx; have hc := q2x (f := f) hx; refine xs Y (nn_ _) (yb Y [] (Tk (Rg 0 4) (.take 4 [6, 7] (.take 5 [6, 7] (.alt 6 (.take 7 [] .done) .nil)))) (by kernel_rfl) (xs Y (zac (by omega) (by omega)) (y9 Y _ hg (xs Y Y (z7 Y (hf _ hxm) Y ⟨tv4, tv4, trivial⟩ ?_))))); refine xb Y (fun b0 => ?_) (fun b0 => ?_); rotate_left; rotate_left
     · refine q9 Y (hJ _ ((i + j) / 2 + 1, j) ⟨by dsimp only; omega, hj, ?_⟩ (by dsimp only; omega) ⟨⟨?_, Y, Y, Y, I, Y, trivial⟩, ⟨lcr, trivial⟩, Y⟩)
       · rw [← he, y7s h (hc.trans b0)]
       · rw [half (by omega) (by omega)]; exact cwi (by omega) (by omega) (by omega)
     · refine q9 Y (hJ _ (i, (i + j) / 2) ⟨by dsimp only; omega, by dsimp only; omega, ?_⟩ (by dsimp only; omega) ⟨⟨Y, ci (half (by omega) (by omega)), Y, Y, I, Y, trivial⟩, ⟨lcr, trivial⟩, Y⟩)
       rw [← he, z7s h (hc.trans b0)]
   · have h : ¬ i < j := by simpa using h
     rw [y5q h] at he; by_cases hin : i < us.length
     · obtain ⟨x, hx⟩ := gx hin
       have hg := gm Bal.cs hx; have hxm := List.mem_of_getElem? hx; have hF := z2y he.symm hx; refine yb Y [] (Tk (Rg 0 9) (.take 9 (Rg 11 5) (.take 10 (Rg 11 5) (.alt 11 (Tk (Rg 12 4) .done) .nil)))) (by kernel_rfl) ?_; refine xb Y ?_ ?_ <;> intro b0
       refine xj (k := 3) Y (xs Y (nn_ _) (y9 Y _ hg (xs Y Y (xj (k := 3) Y (z7 Y (hf _ hxm) Y ⟨tv4, tv4, trivial⟩ (xj (k := 2) Y ?_)))))); refine xr Y (zm Y ⟨(by decide), ⟨⟨Y, ?_, trivial⟩, ⟨Y, ?_, trivial⟩, trivial⟩, z6 Y⟩); rotate_left; rotate_left; refine xj (k := 8) Y ?_; refine xr Y (zm Y ⟨(by decide), ⟨⟨Y, ?_, trivial⟩, ⟨Y, ?_, trivial⟩, trivial⟩, z6 Y⟩); rotate_left; rotate_left; all_goals first | (exfalso; simp at b0; omega) | (refine vi ?_; rw [he]; done) | (refine vb ?_; rw [hF]; done)
     · have hF := y4c he.symm (by omega)
       refine yb Y [] (Tk (Rg 0 9) (.take 9 (Rg 11 5) (.take 10 (Rg 11 5) (.alt 11 (Tk (Rg 12 4) .done) .nil)))) (by kernel_rfl) ?_; refine xb Y ?_ ?_ <;> intro b0
       refine xj (k := 3) Y ?_; refine xs Y (nn_ _) ?_; rotate_left; refine xj (k := 8) Y ?_; refine xr Y (zm Y ⟨(by decide), ⟨⟨Y, ?_, trivial⟩, ⟨Y, ?_, trivial⟩, trivial⟩, z6 Y⟩); rotate_left; rotate_left; all_goals first | (exfalso; simp at b0; omega) | (refine vi ?_; rw [he]; done) | (refine vb ?_; rw [hF]; done)
theorem qaf (rr : List (List Cell)) (us : List Leg) (p : Leg → Bool) (fn : Nat) (c0 : Cell) (hr : rr = us.map Leg.cs) (hf : ∀ x ∈ us, PC Tryz.prog fn [.agg x.cs, .one c0] (rB (p x))) (hl : us.length ≤ 1048576) : PC Tryz.prog 324 [.one (.l rr), .one (.f fn [c0])] (rI (q1g p us)) := by
 refine PC.begin Tryz.func324 Y (by kernel_rfl) ?_; subst hr; have hn : (us.map Leg.cs).length = us.length := by simp
 refine qc Y (ι := Nat) (fun i => i ≤ us.length ∧ ∀ j y, j < i → us[j]? = some y → p y = false) (fun i => ⟨[(8, sV (.int .i64 i)), (7, sV (.int .i64 (us.map Leg.cs).length)), (0, .one (.b (.l (us.map Leg.cs)))), (1, .one (.b (.f fn [c0])))], []⟩) (fun i => us.length - i) 0 ⟨Nat.zero_le _, fun j y hj => by omega⟩ ?_ ?_
 · exact ⟨⟨Y, Y, Y, Y, trivial⟩, trivial, Y⟩
 · intro i ⟨hi, h0⟩ J hJ
   refine xb Y ?_ ?_ <;> intro h
   · have h : i < us.length := by simpa using h
     obtain ⟨x, hx⟩ := gx h; have hg := gm Leg.cs hx; have hxm := List.mem_of_getElem? hx; refine xs Y (nn_ _) (y9 Y _ hg (xs Y Y (z7 Y (hf _ hxm) Y ⟨tv5, trivial, trivial⟩ ?_))); refine xb Y ?_ ?_ <;> intro b0
     refine xv Y Y Y ?_; rotate_left; rotate_left
     · exact vi (y08 hx h0 b0).symm
     · exact q9 Y (hJ _ (i + 1) ⟨by omega, qg hx h0 b0⟩ (by omega) ⟨⟨cwi (by omega) (by omega) (by omega), Y, Y, Y, trivial⟩, trivial, Y⟩)
   · have h : ¬ i < us.length := by simpa using h
     refine xv Y Y Y ?_; exact vi (z03 (yk (by omega) h0)).symm
theorem q5o (rr : List (List Cell)) (us : List Leg) (p : Leg → Bool) (fn : Nat) (c0 : Cell) (hr : rr = us.map Leg.cs) (hf : ∀ x ∈ us, PC Tryz.prog fn [.agg x.cs, .one c0] (rB (p x))) (hl : us.length ≤ 1048576) : PC Tryz.prog 227 [.one (.l rr), .one (.f fn [c0])] (rB (us.any p)) := by
 refine PC.begin Tryz.func227 Y (by kernel_rfl) ?_; have hi := qaf rr us p fn c0 hr hf hl; refine z7 Y (hi) Y tv3 (xv Y Y Y ?_); exact vb q0i
theorem zag (rr : List (List Cell)) (us : List Leg) (p : Leg → Bool) (fn : Nat) (c0 : Cell) (c1 : Cell) (hr : rr = us.map Leg.cs) (hf : ∀ x ∈ us, PC Tryz.prog fn [.agg x.cs, .one c0, .one c1] (rB (p x))) (hl : us.length ≤ 1048576) : PC Tryz.prog 324 [.one (.l rr), .one (.f fn [c0, c1])] (rI (q1g p us)) := by
 refine PC.begin Tryz.func324 Y (by kernel_rfl) ?_; subst hr; have hn : (us.map Leg.cs).length = us.length := by simp
 refine qc Y (ι := Nat) (fun i => i ≤ us.length ∧ ∀ j y, j < i → us[j]? = some y → p y = false) (fun i => ⟨[(8, sV (.int .i64 i)), (7, sV (.int .i64 (us.map Leg.cs).length)), (0, .one (.b (.l (us.map Leg.cs)))), (1, .one (.b (.f fn [c0, c1])))], []⟩) (fun i => us.length - i) 0 ⟨Nat.zero_le _, fun j y hj => by omega⟩ ?_ ?_
 · exact ⟨⟨Y, Y, Y, Y, trivial⟩, trivial, Y⟩
 · intro i ⟨hi, h0⟩ J hJ
   refine xb Y ?_ ?_ <;> intro h
   · have h : i < us.length := by simpa using h
     obtain ⟨x, hx⟩ := gx h; have hg := gm Leg.cs hx; have hxm := List.mem_of_getElem? hx; refine xs Y (nn_ _) (y9 Y _ hg (xs Y Y (z7 Y (hf _ hxm) Y ⟨tv5, trivial, trivial, trivial⟩ ?_))); refine xb Y ?_ ?_ <;> intro b0
     refine xv Y Y Y ?_; rotate_left; rotate_left
     · exact vi (y08 hx h0 b0).symm
     · exact q9 Y (hJ _ (i + 1) ⟨by omega, qg hx h0 b0⟩ (by omega) ⟨⟨cwi (by omega) (by omega) (by omega), Y, Y, Y, trivial⟩, trivial, Y⟩)
   · have h : ¬ i < us.length := by simpa using h
     refine xv Y Y Y ?_; exact vi (z03 (yk (by omega) h0)).symm
theorem qa5 (rr : List (List Cell)) (us : List Leg) (p : Leg → Bool) (fn : Nat) (c0 : Cell) (c1 : Cell) (hr : rr = us.map Leg.cs) (hf : ∀ x ∈ us, PC Tryz.prog fn [.agg x.cs, .one c0, .one c1] (rB (p x))) (hl : us.length ≤ 1048576) : PC Tryz.prog 227 [.one (.l rr), .one (.f fn [c0, c1])] (rB (us.any p)) := by
 refine PC.begin Tryz.func227 Y (by kernel_rfl) ?_; have hi := zag rr us p fn c0 c1 hr hf hl; refine z7 Y (hi) Y tv3 (xv Y Y Y ?_); exact vb q0i
theorem qae (rr : List (List Cell)) (us : List Con) (p : Con → Bool) (fn : Nat) (c0 : Cell) (c1 : Cell) (hr : rr = us.map Con.cs) (hf : ∀ x ∈ us, PC Tryz.prog fn [.agg x.cs, .one c0, .one c1] (rB (p x))) (hl : us.length ≤ 1048576) : PC Tryz.prog 230 [.one (.l rr), .one (.f fn [c0, c1])] (rI (q1g p us)) := by
 refine PC.begin Tryz.func230 Y (by kernel_rfl) ?_; subst hr; have hn : (us.map Con.cs).length = us.length := by simp
 refine qc Y (ι := Nat) (fun i => i ≤ us.length ∧ ∀ j y, j < i → us[j]? = some y → p y = false) (fun i => ⟨[(8, sV (.int .i64 i)), (7, sV (.int .i64 (us.map Con.cs).length)), (0, .one (.b (.l (us.map Con.cs)))), (1, .one (.b (.f fn [c0, c1])))], []⟩) (fun i => us.length - i) 0 ⟨Nat.zero_le _, fun j y hj => by omega⟩ ?_ ?_
 · exact ⟨⟨Y, Y, Y, Y, trivial⟩, trivial, Y⟩
 · intro i ⟨hi, h0⟩ J hJ
   refine xb Y ?_ ?_ <;> intro h
   · have h : i < us.length := by simpa using h
     obtain ⟨x, hx⟩ := gx h; have hg := gm Con.cs hx; have hxm := List.mem_of_getElem? hx; refine xs Y (nn_ _) (y9 Y _ hg (xs Y Y (z7 Y (hf _ hxm) Y ⟨tv3, trivial, trivial, trivial⟩ ?_))); refine xb Y ?_ ?_ <;> intro b0
     refine xv Y Y Y ?_; rotate_left; rotate_left
     · exact vi (y08 hx h0 b0).symm
     · exact q9 Y (hJ _ (i + 1) ⟨by omega, qg hx h0 b0⟩ (by omega) ⟨⟨cwi (by omega) (by omega) (by omega), Y, Y, Y, trivial⟩, trivial, Y⟩)
   · have h : ¬ i < us.length := by simpa using h
     refine xv Y Y Y ?_; exact vi (z03 (yk (by omega) h0)).symm
theorem za5 (rr : List (List Cell)) (us : List Con) (p : Con → Bool) (fn : Nat) (c0 : Cell) (c1 : Cell) (hr : rr = us.map Con.cs) (hf : ∀ x ∈ us, PC Tryz.prog fn [.agg x.cs, .one c0, .one c1] (rB (p x))) (hl : us.length ≤ 1048576) : PC Tryz.prog 419 [.one (.l rr), .one (.f fn [c0, c1])] (rB (us.any p)) := by
 refine PC.begin Tryz.func419 Y (by kernel_rfl) ?_; have hi := qae rr us p fn c0 c1 hr hf hl; refine z7 Y (hi) Y tv3 (xv Y Y Y ?_); exact vb q0i
theorem q0y (us : List Mk) (c : Int) (hl : us.length ≤ 1048576) : PC Tryz.prog 308 [.one (.l (us.map Mk.cs)), .one (i64 c)] (rI (q0n us c)) := by
 refine PC.begin Tryz.func308 Y (by kernel_rfl) ?_; refine qc Y (ι := Nat) (fun i => i ≤ us.length ∧ ∀ j y, j < i → us[j]? = some y → ¬ y.c = c) (fun i => ⟨[(5, sV (.int .i64 i)), (0, .one (.b (.l (us.map Mk.cs)))), (1, sV (.int .i64 c))], []⟩) (fun i => us.length - i) 0 ⟨Nat.zero_le _, fun j y hj => by omega⟩ ?_ ?_
 · exact ⟨⟨Y, Y, Y, trivial⟩, trivial, Y⟩
 · intro i ⟨hi, h0⟩ J hJ
   refine xb Y ?_ ?_ <;> intro h
   · have h : i < us.length := by simpa using h
     obtain ⟨x, hx⟩ := gx h; have hg := gm Mk.cs hx; refine xs Y (nn_ _) (y9 Y _ hg (xs Y Y ?_)); refine xb Y ?_ ?_ <;> intro b0
     refine xs Y (nn_ _) (y9 Y _ hg (xs Y Y ?_)); refine xv Y Y Y ?_; rotate_left; rotate_left
     · exact vi (z1g hx h0 (by simpa using b0)).symm
     · exact q9 Y (hJ _ (i + 1) ⟨by omega, qg hx h0 (by simpa using b0)⟩ (by omega) ⟨⟨cwi (by omega) (by omega) (by omega), Y, Y, trivial⟩, trivial, Y⟩)
   · have h : ¬ i < us.length := by simpa using h
     refine xv Y Y Y ?_; exact vi (q1n (yk (by omega) h0)).symm
theorem y9g (us : List Bal) (hl : us.length ≤ 1048576) : PC Tryz.prog 393 [.one (.l (us.map Bal.cs))] (rI (qm us)) := by
 refine PC.begin Tryz.func393 Y (by kernel_rfl) ?_; refine xb Y ?_ ?_ <;> intro hn
 · have hn : 18 < us.length := by simp at hn; omega
   refine xv Y Y Y ?_; exact vi (by rw [qm, if_pos hn])
 have hn : ¬ 18 < us.length := by simp at hn; omega
 have hr : qm us = scan (y2m us) us.length := by rw [qm, if_neg hn]
 rw [hr]; refine qc Y (ι := Nat) (fun i => i ≤ us.length ∧ ∀ j, j < i → y2m us j = 0) (fun i => ⟨[(3, sV (.int .i64 i)), (0, .one (.b (.l (us.map Bal.cs))))], []⟩) (fun i => us.length - i) 0 ⟨Nat.zero_le _, fun j hj => by omega⟩ ?_ ?_
 · exact ⟨⟨Y, Y, trivial⟩, trivial, Y⟩
 · intro i ⟨hi, h0⟩ J hJ
   refine xb Y ?_ ?_ <;> intro h
   · have h : i < us.length := by simpa using h
     obtain ⟨x, hx⟩ := gx h; have hg := gm Bal.cs hx; rcases Nat.eq_zero_or_pos i with hz | hz
     · subst hz
       refine xs Y (nn_ _) (y9 Y _ hg (xs Y Y (z7 Y (y6n _ _) Y tv3 ?_))); refine xb Y ?_ ?_ <;> intro b0
       refine xj (k := 5) Y ?_; refine xv Y Y Y ?_; rotate_left; refine xj (k := 2) Y (z7 Y (zl _ _ _) Y tv4 (xj (k := 2) Y ?_)); refine xb Y ?_ ?_ <;> intro b1
       refine xv Y Y Y ?_; rotate_left; refine yb Y [] (Tk (Rg 0 4) (.take 4 [5, 8, 23, 24] (Tk [5, 6] (.take 7 [8, 23, 24] (Tk (Rg 8 6) (.take 14 [15, 22, 23, 24] (Tk (Rg 15 6) (.take 21 (Rg 22 3) (Tk [22, 23, 24] .done))))))))) (by kernel_rfl) ?_; refine xj (k := 23) Y ?_; rotate_left; all_goals (first | (refine vi (q8 h h0 ?_ (by first | decide | decide | simp_all)); clear hJ h0 hg; first | (simp_all [y2m, Bal.bad, ahead_zero]; done) | (have hxb : x.bad = false := (by simp_all [Bal.bad]); simp only [Bal.z0y hxb, Bal.z0y hpb] at *; simp_all [y2m, ya hz hp]; done)) | (refine q9 Y (hJ _ 1 ⟨by omega, zc h0 ?_⟩ (by omega) ⟨⟨cwi (by omega) (by omega) (by omega), Y, trivial⟩, trivial, Y⟩); clear hJ h0 hg; first | (simp_all [y2m, Bal.bad, ahead_zero]; done) | (have hxb : x.bad = false := (by simp_all [Bal.bad]); simp only [Bal.z0y hxb, Bal.z0y hpb] at *; simp_all [y2m, ya hz hp]; done)))
     · obtain ⟨p, hp⟩ := gx (xs := us) (i := i - 1) (by omega)
       have hgp := z1e Bal.cs hz (by omega) hp; have hpb := y5p hp (h0 (i - 1) (by omega)); refine xs Y (nn_ _) (y9 Y _ hg (xs Y Y (z7 Y (y6n _ _) Y tv3 ?_))); refine xb Y ?_ ?_ <;> intro b0
       refine xj (k := 5) Y ?_; refine xv Y Y Y ?_; rotate_left; refine xj (k := 2) Y (z7 Y (zl _ _ _) Y tv4 (xj (k := 2) Y ?_)); refine xb Y ?_ ?_ <;> intro b1
       refine xv Y Y Y ?_; rotate_left; refine yb Y [] (Tk (Rg 0 4) (.take 4 [5, 8, 23, 24] (Tk [5, 6] (.take 7 [8, 23, 24] (Tk (Rg 8 6) (.take 14 [15, 22, 23, 24] (Tk (Rg 15 6) (.take 21 (Rg 22 3) (Tk [22, 23, 24] .done))))))))) (by kernel_rfl) ?_; refine xb Y ?_ ?_ <;> intro b2
       refine xj (k := 9) Y (xs Y (q0o hz (by omega)) (y9 Y _ hgp (xs Y Y (xj (k := 7) Y (xs Y (q0o hz (by omega)) (y9 Y _ hgp (xs Y Y (xj (k := 5) Y ?_)))))))); refine xb Y ?_ ?_ <;> intro b3
       refine xv Y Y Y ?_; rotate_left; rotate_left; refine xj (k := 22) Y ?_; rotate_left; all_goals (first | (refine vi (q8 h h0 ?_ (by first | decide | decide | simp_all)); clear hJ h0 hg hgp; first | (simp_all [ya hz hp, y2m, Bal.bad, ahead_zero]; done) | (have hxb : x.bad = false := (by simp_all [Bal.bad]); simp only [Bal.z0y hxb, Bal.z0y hpb] at *; simp_all [y2m, ya hz hp]; done)) | (refine q9 Y (hJ _ (i + 1) ⟨by omega, zc h0 ?_⟩ (by omega) ⟨⟨cwi (by omega) (by omega) (by omega), Y, trivial⟩, trivial, Y⟩); clear hJ h0 hg hgp; first | (simp_all [ya hz hp, y2m, Bal.bad, ahead_zero]; done) | (have hxb : x.bad = false := (by simp_all [Bal.bad]); simp only [Bal.z0y hxb, Bal.z0y hpb] at *; simp_all [y2m, ya hz hp]; done)))
   · have h : ¬ i < us.length := by simpa using h
     have hz := zg (f := y2m us) (n := us.length) (fun j hj => h0 j (by omega)); refine xv Y Y Y ?_; exact vi (hz.symm)
theorem q0k (p x : Bal) : PC Tryz.prog 384 [.agg p.cs, .agg x.cs] (rI (z0d p x)) := by
 refine PC.begin Tryz.func384 Y (by kernel_rfl) ?_; refine yb Y [] (.take 0 [] (.take 1 [4, 9, 10, 11, 12] (.take 2 [] (.take 3 [4, 9, 10, 11, 12] (.take 5 [] (.take 6 (Rg 9 4) (.take 7 [] (.take 8 (Rg 9 4) (.alt 4 (.alt 9 (.alt 10 (.alt 11 (.take 12 [] .done) .nil) .nil) .nil) .nil))))))))) (by kernel_rfl) (z7 Y (zw _ _) Y tv3 (z7 Y (zw _ _) Y tv3 (xs Y tv3 (z7 Y (q9c [_, _] (by simp)) Y ⟨Y, trivial⟩ ?_)))); refine xr Y (zm Y ⟨⟨Y, Y, trivial⟩, z6 Y⟩)
theorem y96 (us : List Bal) (hl : us.length ≤ 1048576) : PC Tryz.prog 345 [.one (.l (us.map Bal.cs))] (rI (qm us)) := by
 refine PC.begin Tryz.func345 Y (by kernel_rfl) ?_; refine xb Y ?_ ?_ <;> intro hn
 · have hn : 18 < us.length := by simp at hn; omega
   refine xv Y Y Y ?_; exact vi (by rw [qm, if_pos hn])
 have hn : ¬ 18 < us.length := by simp at hn; omega
 have hr : qm us = scan (y2m us) us.length := by rw [qm, if_neg hn]
 rw [hr]; have hle : (us.map Bal.cs).length = us.length := by simp
 refine qc Y (ι := Nat) (fun i => i ≤ us.length ∧ ∀ j, j < i → y2m us j = 0) (fun i => ⟨[(10, sV (.int .i64 i)), (9, sV (.int .i64 (us.map Bal.cs).length)), (8, .one (.b (.l (us.map Bal.cs)))), (0, .one (.b (.l (us.map Bal.cs))))], []⟩) (fun i => us.length - i) 0 ⟨Nat.zero_le _, fun j hj => by omega⟩ ?_ ?_
 · exact ⟨⟨Y, Y, Y, Y, trivial⟩, trivial, Y⟩
 · intro i ⟨hi, h0⟩ J hJ
   refine xb Y ?_ ?_ <;> intro h
   · have h : i < us.length := by simpa using h
     obtain ⟨x, hx⟩ := gx h; have hg := gm Bal.cs hx; rcases Nat.eq_zero_or_pos i with hz | hz
     · subst hz
       refine xs Y (nn_ _) (y9 Y _ hg (xs Y Y (z7 Y (y2j _ _) Y tv3 ?_))); refine xb Y ?_ ?_ <;> intro b0
       refine xj (k := 5) Y ?_; refine xv Y Y Y ?_; rotate_left; refine xj (k := 2) Y (z7 Y (qo _ _ _) Y tv4 (xj (k := 2) Y ?_)); refine xb Y ?_ ?_ <;> intro b1
       refine xv Y Y Y ?_; rotate_left; refine yb Y [] (Tk (Rg 0 7) (.take 7 (Rg 9 4) (.take 8 (Rg 9 4) (.alt 9 (Tk [10, 11, 12] .done) .nil)))) (by kernel_rfl) ?_; refine xj (k := 10) Y ?_; rotate_left; all_goals (first | (refine vi (q8 h h0 ?_ (by first | decide | decide | simp_all)); clear hJ h0 hg; first | (simp_all [y2m, Bal.bad, ahead_zero]; done) | (have hxb : x.bad = false := (by simp_all [Bal.bad]); have hc := y2c hpb hxb; (simp_all [y2m, ya hz hp] <;> omega))) | (refine q9 Y (hJ _ 1 ⟨by omega, zc h0 ?_⟩ (by omega) ⟨⟨cwi (by omega) (by omega) (by omega), Y, Y, Y, trivial⟩, trivial, Y⟩); clear hJ h0 hg; first | (simp_all [y2m, Bal.bad, ahead_zero]; done) | (have hxb : x.bad = false := (by simp_all [Bal.bad]); have hc := y2c hpb hxb; (simp_all [y2m, ya hz hp] <;> omega))))
     · obtain ⟨p, hp⟩ := gx (xs := us) (i := i - 1) (by omega)
       have hgp := z1e Bal.cs hz (by omega) hp; have hpb := y5p hp (h0 (i - 1) (by omega)); refine xs Y (nn_ _) (y9 Y _ hg (xs Y Y (z7 Y (y2j _ _) Y tv3 ?_))); refine xb Y ?_ ?_ <;> intro b0
       refine xj (k := 5) Y ?_; refine xv Y Y Y ?_; rotate_left; refine xj (k := 2) Y (z7 Y (qo _ _ _) Y tv4 (xj (k := 2) Y ?_)); refine xb Y ?_ ?_ <;> intro b1
       refine xv Y Y Y ?_; rotate_left; refine yb Y [] (Tk (Rg 0 7) (.take 7 (Rg 9 4) (.take 8 (Rg 9 4) (.alt 9 (Tk [10, 11, 12] .done) .nil)))) (by kernel_rfl) ?_; refine xb Y ?_ ?_ <;> intro b2
       refine xj (k := 3) Y (xs Y (q0o hz (by omega)) (y9 Y _ hgp (xs Y Y (xj (k := 3) Y (z7 Y (q0k _ _) Y ⟨tv4, tv4, trivial⟩ (xj (k := 2) Y ?_)))))); refine xb Y ?_ ?_ <;> intro b3
       refine xv Y Y Y ?_; rotate_left; rotate_left; refine xj (k := 9) Y ?_; rotate_left; all_goals (first | (refine vi (q8 h h0 ?_ (by first | decide | decide | simp_all)); clear hJ h0 hg hgp; first | (simp_all [ya hz hp, y2m, Bal.bad, ahead_zero]; done) | (have hxb : x.bad = false := (by simp_all [Bal.bad]); have hc := y2c hpb hxb; (simp_all [y2m, ya hz hp] <;> omega))) | (refine q9 Y (hJ _ (i + 1) ⟨by omega, zc h0 ?_⟩ (by omega) ⟨⟨cwi (by omega) (by omega) (by omega), Y, Y, Y, trivial⟩, trivial, Y⟩); clear hJ h0 hg hgp; first | (simp_all [ya hz hp, y2m, Bal.bad, ahead_zero]; done) | (have hxb : x.bad = false := (by simp_all [Bal.bad]); have hc := y2c hpb hxb; (simp_all [y2m, ya hz hp] <;> omega))))
   · have h : ¬ i < us.length := by simpa using h
     have hz := zg (f := y2m us) (n := us.length) (fun j hj => h0 j (by omega)); refine xv Y Y Y ?_; exact vi (hz.symm)
theorem z5g (us : List Mk) (hl : us.length ≤ 1048576) : PC Tryz.prog 312 [.one (.l (us.map Mk.cs))] (rI (qi us)) := by
 refine PC.begin Tryz.func312 Y (by kernel_rfl) ?_; refine qc Y (ι := Nat) (fun i => i ≤ us.length ∧ ∀ j, j < i → z2a us j = 0) (fun i => ⟨[(3, sV (.int .i64 i)), (0, .one (.b (.l (us.map Mk.cs))))], []⟩) (fun i => us.length - i) 0 ⟨Nat.zero_le _, fun j hj => by omega⟩ ?_ ?_
 · exact ⟨⟨Y, Y, trivial⟩, trivial, Y⟩
 · intro i ⟨hi, h0⟩ J hJ
   refine xb Y ?_ ?_ <;> intro h
   · have h : i < us.length := by simpa using h
     obtain ⟨x, hx⟩ := gx h; have hg := gm Mk.cs hx; rcases Nat.eq_zero_or_pos i with hz | hz
     · subst hz
       refine xs Y (nn_ _) (y9 Y _ hg (xs Y Y (z7 Y (y4k _) Y ⟨trivial, trivial⟩ ?_))); refine xb Y ?_ ?_ <;> intro b0
       refine xj (k := 8) Y ?_; refine xv Y Y Y ?_; rotate_left; refine xj (k := 2) Y (xs Y (nn_ _) (y9 Y _ hg (xs Y Y (xj (k := 3) Y (z7 Y (zl _ _ _) Y tv4 (xj (k := 2) Y ?_)))))); refine xb Y ?_ ?_ <;> intro b1
       refine xv Y Y Y ?_; rotate_left; refine yb Y [] (Tk (Rg 0 7) (.take 7 [14, 15] (Tk (Rg 8 5) (.take 13 [14, 15] (Tk [14, 15] .done))))) (by kernel_rfl) ?_; refine xj (k := 14) Y ?_; rotate_left; all_goals (first | (refine vi (q8 h h0 ?_ (by first | decide | decide | simp_all)); clear hJ h0 hg; simp_all [z2a, ahead_zero]) | (refine q9 Y (hJ _ 1 ⟨by omega, zc h0 ?_⟩ (by omega) ⟨⟨cwi (by omega) (by omega) (by omega), Y, trivial⟩, trivial, Y⟩); clear hJ h0 hg; simp_all [z2a, ahead_zero]))
     · obtain ⟨p, hp⟩ := gx (xs := us) (i := i - 1) (by omega)
       have hgp := z1e Mk.cs hz (by omega) hp; refine xs Y (nn_ _) (y9 Y _ hg (xs Y Y (z7 Y (y4k _) Y ⟨trivial, trivial⟩ ?_))); refine xb Y ?_ ?_ <;> intro b0
       refine xj (k := 8) Y ?_; refine xv Y Y Y ?_; rotate_left; refine xj (k := 2) Y (xs Y (nn_ _) (y9 Y _ hg (xs Y Y (xj (k := 3) Y (z7 Y (zl _ _ _) Y tv4 (xj (k := 2) Y ?_)))))); refine xb Y ?_ ?_ <;> intro b1
       refine xv Y Y Y ?_; rotate_left; refine yb Y [] (Tk (Rg 0 7) (.take 7 [14, 15] (Tk (Rg 8 5) (.take 13 [14, 15] (Tk [14, 15] .done))))) (by kernel_rfl) ?_; refine xb Y ?_ ?_ <;> intro b2
       refine xj (k := 2) Y (xs Y (nn_ _) (y9 Y _ hg (xs Y Y (xj (k := 6) Y (xs Y (q0o hz (by omega)) (y9 Y _ hgp (xs Y Y (xj (k := 4) Y ?_)))))))); refine xb Y ?_ ?_ <;> intro b3
       refine xv Y Y Y ?_; rotate_left; rotate_left; refine xj (k := 13) Y ?_; rotate_left; all_goals (first | (refine vi (q8 h h0 ?_ (by first | decide | decide | simp_all)); clear hJ h0 hg hgp; simp_all [ya hz hp, z2a, ahead_zero]) | (refine q9 Y (hJ _ (i + 1) ⟨by omega, zc h0 ?_⟩ (by omega) ⟨⟨cwi (by omega) (by omega) (by omega), Y, trivial⟩, trivial, Y⟩); clear hJ h0 hg hgp; simp_all [ya hz hp, z2a, ahead_zero]))
   · have h : ¬ i < us.length := by simpa using h
     have hz := zg (f := z2a us) (n := us.length) (fun j hj => h0 j (by omega)); refine xv Y Y Y ?_; exact vi (hz.symm)
theorem z57 (us : List Mk) (fn : Nat) (hf : ∀ v, PC Tryz.prog fn [.one (i64 v)] (rB (within v 1 2))) (hl : us.length ≤ 1048576) : PC Tryz.prog 346 [.one (.l (us.map Mk.cs)), .one (.f fn [])] (rI (qi us)) := by
 refine PC.begin Tryz.func346 Y (by kernel_rfl) ?_; have hle : (us.map Mk.cs).length = us.length := by simp
 refine qc Y (ι := Nat) (fun i => i ≤ us.length ∧ ∀ j, j < i → z2a us j = 0) (fun i => ⟨[(9, sV (.int .i64 i)), (8, sV (.int .i64 (us.map Mk.cs).length)), (7, .one (.b (.l (us.map Mk.cs)))), (0, .one (.b (.l (us.map Mk.cs)))), (1, .one (.b (.f fn [])))], []⟩) (fun i => us.length - i) 0 ⟨Nat.zero_le _, fun j hj => by omega⟩ ?_ ?_
 · exact ⟨⟨Y, Y, Y, Y, Y, trivial⟩, trivial, Y⟩
 · intro i ⟨hi, h0⟩ J hJ
   refine xb Y ?_ ?_ <;> intro h
   · have h : i < us.length := by simpa using h
     obtain ⟨x, hx⟩ := gx h; have hg := gm Mk.cs hx; rcases Nat.eq_zero_or_pos i with hz | hz
     · subst hz
       refine xs Y (nn_ _) (y9 Y _ hg (xs Y Y (z7 Y (z4k _) Y ⟨trivial, trivial⟩ ?_))); refine xb Y ?_ ?_ <;> intro b0
       refine xj (k := 6) Y ?_; refine xv Y Y Y ?_; rotate_left; refine xj (k := 3) Y (z7 Y (hf _) Y ⟨trivial, trivial⟩ (xj (k := 2) Y ?_)); refine xb Y ?_ ?_ <;> intro b1
       refine xv Y Y Y ?_; rotate_left; refine yb Y [] (Tk (Rg 0 8) (.take 8 (Rg 11 3) (.take 9 [] (.take 10 (Rg 11 3) (Tk [11, 12, 13] .done))))) (by kernel_rfl) ?_; refine xj (k := 11) Y ?_; rotate_left; all_goals (first | (refine vi (q8 h h0 ?_ (by first | decide | decide | simp_all)); clear hJ h0 hg; simp_all [z2a, ahead_zero]) | (refine q9 Y (hJ _ 1 ⟨by omega, zc h0 ?_⟩ (by omega) ⟨⟨cwi (by omega) (by omega) (by omega), Y, Y, Y, Y, trivial⟩, trivial, Y⟩); clear hJ h0 hg; simp_all [z2a, ahead_zero]))
     · obtain ⟨p, hp⟩ := gx (xs := us) (i := i - 1) (by omega)
       have hgp := z1e Mk.cs hz (by omega) hp; refine xs Y (nn_ _) (y9 Y _ hg (xs Y Y (z7 Y (z4k _) Y ⟨trivial, trivial⟩ ?_))); refine xb Y ?_ ?_ <;> intro b0
       refine xj (k := 6) Y ?_; refine xv Y Y Y ?_; rotate_left; refine xj (k := 3) Y (z7 Y (hf _) Y ⟨trivial, trivial⟩ (xj (k := 2) Y ?_)); refine xb Y ?_ ?_ <;> intro b1
       refine xv Y Y Y ?_; rotate_left; refine yb Y [] (Tk (Rg 0 8) (.take 8 (Rg 11 3) (.take 9 [] (.take 10 (Rg 11 3) (Tk [11, 12, 13] .done))))) (by kernel_rfl) ?_; refine xb Y ?_ ?_ <;> intro b2
       refine xj (k := 3) Y (xs Y (q0o hz (by omega)) (y9 Y _ hgp (xs Y Y (xj (k := 6) Y ?_)))); refine xb Y ?_ ?_ <;> intro b3
       refine xv Y Y Y ?_; rotate_left; rotate_left; refine xj (k := 10) Y ?_; rotate_left; all_goals (first | (refine vi (q8 h h0 ?_ (by first | decide | decide | simp_all)); clear hJ h0 hg hgp; simp_all [ya hz hp, z2a, ahead_zero]) | (refine q9 Y (hJ _ (i + 1) ⟨by omega, zc h0 ?_⟩ (by omega) ⟨⟨cwi (by omega) (by omega) (by omega), Y, Y, Y, Y, trivial⟩, trivial, Y⟩); clear hJ h0 hg hgp; simp_all [ya hz hp, z2a, ahead_zero]))
   · have h : ¬ i < us.length := by simpa using h
     have hz := zg (f := z2a us) (n := us.length) (fun j hj => h0 j (by omega)); refine xv Y Y Y ?_; exact vi (hz.symm)
theorem y0p (v : Int) : PC Tryz.prog 347 [.one (i64 v)] (rB (within v 1 2)) := by
 refine PC.begin Tryz.func347 Y (by kernel_rfl) ?_; refine xb Y ?_ ?_ <;> intro b0
 refine xj (k := 2) Y ?_; refine xv Y Y Y ?_; rotate_left; refine xj (k := 2) Y ?_; refine xv Y Y Y ?_; rotate_left; all_goals (refine vb ?_; rw [Bool.eq_iff_iff]; (simp_all [within] <;> omega))
theorem q2q (v : Int) : PC Tryz.prog 290 [.one (i64 v)] (rB (within v 1 2)) := by
 refine PC.begin Tryz.func290 Y (by kernel_rfl) ?_; refine xb Y ?_ ?_ <;> intro b0
 refine xj (k := 2) Y ?_; refine xv Y Y Y ?_; rotate_left; refine xj (k := 2) Y ?_; refine xv Y Y Y ?_; rotate_left; all_goals (refine vb ?_; rw [Bool.eq_iff_iff]; (simp_all [within] <;> omega))
theorem z1q (c : Con) (s : Int) (hl : c.legs.length ≤ 1048576) : PC Tryz.prog 371 [.agg c.cs, .one (i64 s)] (.one (.own false [.l 4 ((zo c s).map Leg.cs)])) := by
 refine PC.begin Tryz.func371 Y (by kernel_rfl) ?_; refine xs Y trivial ?_; refine qc Y (ι := Nat) (fun i => i ≤ c.legs.length) (fun i => ⟨[(6, sV (.int .i64 i)), (5, .one (.h 7 ((c.legs.take i).filter (fun l => l.s == s)).length)), (1, sV (.int .i64 s)), (2, .one (.a 2 0))], [(7, .arr true 4 0 (((c.legs.take i).filter (fun l => l.s == s)).map Leg.cs)), (2, .var (c.cs.map .b))]⟩) (fun i => c.legs.length - i) 0 (Nat.zero_le _) ?_ ?_
 · exact ⟨⟨Y, I, Y, I, trivial⟩, ⟨U, lcr, trivial⟩, Y⟩
 · intro i hi J hJ
   refine xb Y ?_ ?_ <;> intro h
   · have h : i < c.legs.length := by simpa using h
     obtain ⟨x, hx⟩ := gx h; have hg := gm Leg.cs hx; have hf := y16 (p := fun l : Leg => l.s == s) hx; have hfl : ((c.legs.take i).filter (fun l => l.s == s)).length ≤ i := Nat.le_trans (List.length_filter_le _ _) (by simp; omega); refine xs Y (by simp) (y9 Y _ hg (xs Y Y ?_)); refine xb Y ?_ ?_ <;> intro b0
     refine xs Y (by simp) (y9 Y _ hg (xs Y Y (xs Y tv5 (xs Y (by simp) (xs Y Y (xs Y (.inl Y) (xs Y (by simp; omega) ?_))))))); refine xs Y (by simp; omega) ?_; rotate_left; rotate_left
     · refine q9 Y (hJ _ (i + 1) (by omega) (by omega) ⟨⟨cwi (by omega) (by omega) (by omega), ⟨Y, ?_, Y⟩, Y, I, trivial⟩, ⟨⟨?_, .inl Y, .inl Y⟩, lcr, trivial⟩, Y⟩)
       · rw [hf, if_pos (by simpa using b0)]; simp
       · rw [hf, if_pos (by simpa using b0)]; simp
     · refine q9 Y (hJ _ (i + 1) (by omega) (by omega) ⟨⟨cwi (by omega) (by omega) (by omega), ⟨Y, ?_, Y⟩, Y, I, trivial⟩, ⟨⟨?_, .inl Y, .inl Y⟩, lcr, trivial⟩, Y⟩)
       · rw [hf, if_neg (by simpa using b0)]; simp
       · rw [hf, if_neg (by simpa using b0)]; simp
   · have h : ¬ i < c.legs.length := by simpa using h
     have e : i = c.legs.length := by omega
     subst e; refine xr Y (zm Y ⟨⟨Y, ⟨?_, ?_, .inl Y⟩, trivial⟩, z6 Y⟩); rotate_left; rotate_left; all_goals first | (simp [zo]; done) | skip
theorem z18 (c : Con) (s : Int) (hl : c.legs.length ≤ 1048576) : PC Tryz.prog 294 [.agg c.cs, .one (i64 s)] (.one (.own false [.l 4 ((zo c s).map Leg.cs)])) := by
 refine PC.begin Tryz.func294 Y (by kernel_rfl) ?_; have hle : (c.legs.map Leg.cs).length = c.legs.length := by simp
 refine xs Y trivial ?_; refine qc Y (ι := Nat) (fun i => i ≤ c.legs.length) (fun i => ⟨[(12, sV (.int .i64 i)), (5, .one (.h 8 ((c.legs.take i).filter (fun l => l.s == s)).length)), (1, sV (.int .i64 s)), (10, .one (.b (.l (c.legs.map Leg.cs)))), (11, sV (.int .i64 (c.legs.map Leg.cs).length))], [(8, .arr true 4 0 (((c.legs.take i).filter (fun l => l.s == s)).map Leg.cs))]⟩) (fun i => c.legs.length - i) 0 (Nat.zero_le _) ?_ ?_
 · exact ⟨⟨Y, I, Y, Y, Y, trivial⟩, ⟨U, trivial⟩, Y⟩
 · intro i hi J hJ
   refine xb Y ?_ ?_ <;> intro h
   · have h : i < c.legs.length := by simpa using h
     obtain ⟨x, hx⟩ := gx h; have hg := gm Leg.cs hx; have hf := y16 (p := fun l : Leg => l.s == s) hx; have hfl : ((c.legs.take i).filter (fun l => l.s == s)).length ≤ i := Nat.le_trans (List.length_filter_le _ _) (by simp; omega); refine xs Y (by simp) (y9 Y _ hg (xs Y Y ?_)); refine xb Y ?_ ?_ <;> intro b0
     refine xs Y tv5 (xs Y (by simp) (xs Y Y (xs Y (.inl Y) (xs Y (by simp; omega) ?_)))); refine xs Y (by simp; omega) ?_; rotate_left; rotate_left
     · refine q9 Y (hJ _ (i + 1) (by omega) (by omega) ⟨⟨cwi (by omega) (by omega) (by omega), ⟨Y, ?_, Y⟩, Y, Y, Y, trivial⟩, ⟨⟨?_, .inl Y, .inl Y⟩, trivial⟩, Y⟩)
       · rw [hf, if_pos (by simpa using b0)]; simp
       · rw [hf, if_pos (by simpa using b0)]; simp
     · refine q9 Y (hJ _ (i + 1) (by omega) (by omega) ⟨⟨cwi (by omega) (by omega) (by omega), ⟨Y, ?_, Y⟩, Y, Y, Y, trivial⟩, ⟨⟨?_, .inl Y, .inl Y⟩, trivial⟩, Y⟩)
       · rw [hf, if_neg (by simpa using b0)]; simp
       · rw [hf, if_neg (by simpa using b0)]; simp
   · have h : ¬ i < c.legs.length := by simpa using h
     have e : i = c.legs.length := by omega
     subst e; refine xr Y (zm Y ⟨⟨Y, ⟨?_, ?_, .inl Y⟩, trivial⟩, z6 Y⟩); rotate_left; rotate_left; all_goals first | (simp [zo]; done) | skip
theorem z5o (us : List Bal) (a b : Int) (hl : us.length ≤ 1048576) : PC Tryz.prog 467 [.one (.l (us.map Bal.cs)), .one (i64 a), .one (i64 b)] (rI (y4u us a b)) := by
 refine PC.begin Tryz.func467 Y (by kernel_rfl) ?_; have hbs := fun fn hf => y90 us (fun x => z0d x ⟨a, b, 0⟩) fn ⟨a, b, 0⟩ hf hl
 cases hq : us[bsP (fun x => z0d x ⟨a, b, 0⟩) us]? with
 | none =>
   have hF : bsF (fun x => z0d x ⟨a, b, 0⟩) us = false := z9t hq; refine z7 rfl (hbs _ (fun x _ => q0k x _)) rfl ⟨trivial, tv4, (fun _ h => nomatch h), trivial⟩ ?_; refine xb Y ?_ ?_ <;> intro b0
   refine xv Y Y Y ?_; rotate_left; refine xs Y (nn_ _) ?_; rotate_left; all_goals first | (exfalso; rw [hF] at b0; cases b0; done) | exact vi (y5o hF)
 | some x =>
   have hg : (us.map Bal.cs)[((bsP (fun x => z0d x ⟨a, b, 0⟩) us : Nat) : Int).toNat]? = some x.cs := gm Bal.cs hq; refine z7 rfl (hbs _ (fun x _ => q0k x _)) rfl ⟨trivial, tv4, (fun _ h => nomatch h), trivial⟩ ?_; refine xb Y ?_ ?_ <;> intro b0
   refine xv Y Y Y ?_; rotate_left; refine xs Y (nn_ _) (y9 Y _ hg (xs Y Y ?_)); refine xv Y Y Y ?_; rotate_left
   · exact vi (y5o (by simpa using b0))
   · exact vi (y6g (by simpa using b0) hq)
theorem y78 (us : List Bal) (l : Leg) (hl : us.length ≤ 1048576) (hb : -9000000000000000000 ≤ y4u us l.a l.b + l.v ∧ y4u us l.a l.b + l.v ≤ 9000000000000000000) : PC Tryz.prog 458 [.one (.l (us.map Bal.cs)), .agg l.cs] (rI (q99 us l)) := by
 refine PC.begin Tryz.func458 Y (by kernel_rfl) ?_; have hw : IntKind.i64.wrap (y4u us l.a l.b + l.v) = y4u us l.a l.b + l.v := wrap_i64 (by omega) (by omega); refine yb Y [] (Tk [0, 1] (.take 2 [5, 8, 9] (.take 3 [] (.take 4 [5, 8, 9] (.take 6 [] (.take 7 [8, 9] (.alt 5 (Tk [8, 9] .done) .nil))))))) (by kernel_rfl) (z7 Y (z5o _ _ _ (by omega)) Y tv4 ?_); refine xb Y ?_ ?_ <;> intro b0
 refine xv Y Y Y ?_; rotate_left; refine xb Y ?_ ?_ <;> intro b1
 refine xv Y Y Y ?_; rotate_left; refine xv Y Y Y ?_; rotate_left; all_goals (refine vi ?_; rw [hw] at *; simp_all [q99]; try (repeat' split) <;> omega)
theorem y7g (us : List Bal) (ls : List Leg) (hl : us.length ≤ 1048576) (hl2 : ls.length ≤ 1048576) (hb : ∀ l ∈ ls, -9000000000000000000 ≤ hasB us l.a l.b + l.v ∧ hasB us l.a l.b + l.v ≤ 9000000000000000000) : PC Tryz.prog 396 [.one (.l (us.map Bal.cs)), .one (.l (ls.map Leg.cs))] (rI (z3v us ls)) := by
 refine PC.begin Tryz.func396 Y (by kernel_rfl) ?_; rw [z3v]; refine qc Y (ι := Nat) (fun i => i ≤ ls.length ∧ ∀ j, j < i → z78 us ls j = 0) (fun i => ⟨[(5, sV (.int .i64 i)), (0, .one (.b (.l (us.map Bal.cs)))), (1, .one (.b (.l (ls.map Leg.cs))))], []⟩) (fun i => ls.length - i) 0 ⟨Nat.zero_le _, fun j hj => by omega⟩ ?_ ?_
 · exact ⟨⟨Y, Y, Y, trivial⟩, trivial, Y⟩
 · intro i ⟨hi, h0⟩ J hJ
   refine xb Y ?_ ?_ <;> intro h
   · have h : i < ls.length := by simpa using h
     obtain ⟨x, hx⟩ := gx h; have hg := gm Leg.cs hx; have hbx := hb x (List.mem_of_getElem? hx); have hw : IntKind.i64.wrap (hasB us x.a x.b + x.v) = hasB us x.a x.b + x.v := wrap_i64 (by omega) (by omega); refine yb Y [] (Tk (Rg 0 5) (.take 5 [11, 17, 18] (Tk (Rg 6 4) (.take 10 [11, 17, 18] (Tk (Rg 12 4) (.take 16 [17, 18] (.alt 11 (Tk [17, 18] .done) .nil))))))) (by kernel_rfl) (xs Y (nn_ _) (y9 Y _ hg (xs Y Y (xs Y (nn_ _) (y9 Y _ hg (xs Y Y (xs Y (nn_ _) (y9 Y _ hg (xs Y Y ?_))))))))); refine z7 Y (zaq _ _ _ (by assumption)) Y tv4 ?_; refine xb Y ?_ ?_ <;> intro b0
     refine xv Y Y Y ?_; rotate_left; refine xb Y ?_ ?_ <;> intro b1
     refine xv Y Y Y ?_; rotate_left; rotate_left; all_goals (first | (refine vi (q8 h h0 ?_ (by first | decide | decide | simp_all)); clear hJ h0 hg; (simp only [hw] at *; simp_all [z78, ybr]; try (repeat' split) <;> omega)) | (refine q9 Y (hJ _ (i + 1) ⟨by omega, zc h0 ?_⟩ (by omega) ⟨⟨cwi (by omega) (by omega) (by omega), Y, Y, trivial⟩, trivial, Y⟩); clear hJ h0 hg; (simp only [hw] at *; simp_all [z78, ybr]; try (repeat' split) <;> omega)))
   · have h : ¬ i < ls.length := by simpa using h
     have hz := zg (f := z78 us ls) (n := ls.length) (fun j hj => h0 j (by omega)); refine xv Y Y Y ?_; exact vi (hz.symm)
theorem q79 (x : Mk) (c : Int) : PC Tryz.prog 441 [.agg x.cs, .one (i64 c)] (rI (z0c x.c c)) := by
 refine PC.begin Tryz.func441 Y (by kernel_rfl) ?_; refine z7 Y (zw _ _) Y tv3 ?_; refine xr Y (zm Y ⟨⟨Y, Y, trivial⟩, z6 Y⟩)
theorem y5a (us : List Mk) (c : Int) (hl : us.length ≤ 1048576) : PC Tryz.prog 379 [.one (.l (us.map Mk.cs)), .one (i64 c)] (bsV (fun x : Mk => z0c x.c c) us) := by
 refine PC.begin Tryz.func379 Y (by kernel_rfl) ?_; have hbs := fun fn hf => qa7 us (fun x => z0c x.c c) fn c hf hl
 refine z7 rfl (hbs _ (fun x _ => q79 x c)) rfl ⟨trivial, trivial, (fun _ h => nomatch h), trivial⟩ ?_; refine xr Y (zm Y ⟨(by decide), ⟨⟨Y, Y, trivial⟩, ⟨Y, Y, trivial⟩, trivial⟩, z6 Y⟩)
theorem q0r (us : List Mk) (c : Int) (hl : us.length ≤ 1048576) : PC Tryz.prog 291 [.one (.l (us.map Mk.cs)), .one (i64 c)] (rI (y2a us c)) := by
 refine PC.begin Tryz.func291 Y (by kernel_rfl) ?_
 cases hq : us[bsP (fun x : Mk => z0c x.c c) us]? with
 | none =>
   have hF : bsF (fun x : Mk => z0c x.c c) us = false := z9t hq; refine z7 Y (y5a _ _ (by omega)) Y tv3 ?_; refine xb Y ?_ ?_ <;> intro b0
   refine xv Y Y Y ?_; rotate_left; refine xs Y (nn_ _) ?_; rotate_left; all_goals first | (exfalso; rw [hF] at b0; cases b0; done) | exact vi (y4m hF)
 | some x =>
   have hg : (us.map Mk.cs)[((bsP (fun x : Mk => z0c x.c c) us : Nat) : Int).toNat]? = some x.cs := gm Mk.cs hq; refine z7 Y (y5a _ _ (by omega)) Y tv3 ?_; refine xb Y ?_ ?_ <;> intro b0
   refine xv Y Y Y ?_; rotate_left; refine xs Y (nn_ _) (y9 Y _ hg (xs Y Y ?_)); refine xv Y Y Y ?_; rotate_left
   · exact vi (y4m (by simpa using b0))
   · exact vi (q5a (by simpa using b0) hq)
theorem z74 (x : Con) (c : Int) : PC Tryz.prog 381 [.agg x.cs, .one (i64 c)] (rI (z0c x.id c)) := by
 refine PC.begin Tryz.func381 Y (by kernel_rfl) ?_; refine z7 Y (zw _ _) Y tv3 ?_; refine xr Y (zm Y ⟨⟨Y, Y, trivial⟩, z6 Y⟩)
theorem y82 (s : Shd) (c : Int) (hl : s.held.length ≤ 1048576) : PC Tryz.prog 292 [.agg s.cs, .one (i64 c)] (bsV (fun x : Con => z0c x.id c) s.held) := by
 refine PC.begin Tryz.func292 Y (by kernel_rfl) ?_; have hbs := fun fn hf => q90 s.held (fun x => z0c x.id c) fn c hf hl
 refine z7 rfl (hbs _ (fun x _ => z74 x c)) rfl ⟨trivial, trivial, (fun _ h => nomatch h), trivial⟩ ?_; refine xr Y (zm Y ⟨(by decide), ⟨⟨Y, Y, trivial⟩, ⟨Y, Y, trivial⟩, trivial⟩, z6 Y⟩)
theorem z7f (s : Shd) (c : Int) (hl : s.held.length ≤ 1048576) : PC Tryz.prog 369 [.agg s.cs, .one (i64 c)] (rB (s.held.any (fun x : Con => x.id == c))) := by
 refine PC.begin Tryz.func369 Y (by kernel_rfl) ?_; refine qc Y (ι := Nat) (fun i => i ≤ s.held.length ∧ ∀ j y, j < i → s.held[j]? = some y → (fun x : Con => x.id == c) y = false) (fun i => ⟨[(5, sV (.int .i64 i)), (1, sV (.int .i64 c)), (2, .one (.a 2 0))], [(2, .var (s.cs.map .b))]⟩) (fun i => s.held.length - i) 0 ⟨Nat.zero_le _, fun j y hj => by omega⟩ ?_ ?_
 · exact ⟨⟨Y, Y, I, trivial⟩, ⟨lcr, trivial⟩, Y⟩
 · intro i ⟨hi, h0⟩ J hJ
   refine xb Y ?_ ?_ <;> intro h
   · have h : i < s.held.length := by simpa using h
     obtain ⟨x, hx⟩ := gx h; have hg := gm Con.cs hx; refine xs Y (nn_ _) (y9 Y _ hg (xs Y Y ?_)); refine xb Y ?_ ?_ <;> intro b0
     refine xv Y Y Y ?_; rotate_left; rotate_left; all_goals first | exact vb (zv hx (by simp_all)) | exact q9 Y (hJ _ (i + 1) ⟨by omega, qg hx h0 (by simp_all)⟩ (by omega) ⟨⟨cwi (by omega) (by omega) (by omega), Y, I, trivial⟩, ⟨lcr, trivial⟩, Y⟩)
   · have h : ¬ i < s.held.length := by simpa using h
     refine xv Y Y Y ?_; exact vb (any_none (yk (by omega) h0))
theorem y8l (us ws : List Leg) (hl : us.length ≤ 1048576) (hl2 : ws.length ≤ 1048576) : PC Tryz.prog 395 [.one (.l (us.map Leg.cs)), .one (.l (ws.map Leg.cs))] (rB (z5m us ws)) := by
 refine PC.begin Tryz.func395 Y (by kernel_rfl) ?_; rw [z5m]; refine qc Y (ι := Nat) (fun i => i ≤ us.length ∧ ∀ j y, j < i → us[j]? = some y → (ws.any fun z => y.a == z.a && y.b == z.b) = false) (fun i => ⟨[(5, sV (.int .i64 i)), (0, .one (.b (.l (us.map Leg.cs)))), (1, .one (.b (.l (ws.map Leg.cs))))], []⟩) (fun i => us.length - i) 0 ⟨Nat.zero_le _, fun j y hj => by omega⟩ ?_ ?_
 · exact ⟨⟨Y, Y, Y, trivial⟩, trivial, Y⟩
 · intro i ⟨hi, h0⟩ J hJ
   refine xb Y ?_ ?_ <;> intro h
   · have h : i < us.length := by simpa using h
     obtain ⟨x, hx⟩ := gx h; have hg := gm Leg.cs hx; refine qc Y (ι := Nat) (fun k => k ≤ ws.length ∧ ∀ j y, j < k → ws[j]? = some y → (x.a == y.a && x.b == y.b) = false) (fun k => ⟨[(6, sV (.int .i64 k)), (5, sV (.int .i64 i)), (0, .one (.b (.l (us.map Leg.cs)))), (1, .one (.b (.l (ws.map Leg.cs))))], []⟩) (fun k => ws.length - k) 0 ⟨Nat.zero_le _, fun j y hj => by omega⟩ ?_ ?_
     · exact ⟨⟨Y, Y, Y, Y, trivial⟩, trivial, Y⟩
     · intro k ⟨hk, h1⟩ J2 hJ2
       refine xb Y (fun h' => ?_) (fun h' => ?_)
       · have h' : k < ws.length := by simpa using h'
         obtain ⟨y, hy⟩ := gx h'; have hg2 := gm Leg.cs hy; refine yb Y [] (Tk (Rg 0 4) (.take 4 (Rg 10 14) (Tk (Rg 5 4) (.take 9 (Rg 10 14) (Tk (Rg 10 6) (.take 16 [22, 23] (Tk (Rg 17 4) (.take 21 [22, 23] (Tk [22, 23] .done))))))))) (by kernel_rfl) (xs Y (nn_ _) (y9 Y _ hg (xs Y Y (xs Y (nn_ _) (y9 Y _ hg2 (xs Y Y ?_)))))); refine xb Y ?_ ?_ <;> intro b0
         refine xj (k := 2) Y (xs Y (nn_ _) (y9 Y _ hg (xs Y Y (xj (k := 5) Y (xs Y (nn_ _) (y9 Y _ hg2 (xs Y Y (xj (k := 4) Y ?_)))))))); refine xb Y ?_ ?_ <;> intro b1
         refine xv Y Y Y ?_; rotate_left; rotate_left; refine xj (k := 12) Y ?_; rotate_left; all_goals first | (refine vb (zv hx (zv hy ?_).symm); simp_all; done) | exact q9 Y (hJ2 _ (k + 1) ⟨by omega, qg hy h1 (by simp_all)⟩ (by omega) ⟨⟨cwi (by omega) (by omega) (by omega), Y, Y, Y, trivial⟩, trivial, Y⟩)
       · have h' : ¬ k < ws.length := by simpa using h'
         skip; exact q9 Y (hJ _ (i + 1) ⟨by omega, qg hx h0 (any_none (yk (by omega) h1)).symm⟩ (by omega) ⟨⟨cwi (by omega) (by omega) (by omega), Y, Y, trivial⟩, trivial, Y⟩)
   · have h : ¬ i < us.length := by simpa using h
     refine xv Y Y Y ?_; exact vb (any_none (yk (by omega) h0))
theorem y92 (x y : Leg) : PC Tryz.prog 228 [.agg x.cs, .one (.p y.cs)] (rB (x.same y)) := by
 refine PC.begin Tryz.func228 Y (by kernel_rfl) ?_; refine z7 Y (z2t _ _) Y ⟨tv5, tv5, trivial⟩ ?_; refine xr Y (zm Y ⟨⟨Y, Y, trivial⟩, z6 Y⟩)
theorem z0l (c : Con) (hl : c.legs.length ≤ 1048576) : PC Tryz.prog 128 [.agg c.cs] (rI (yi c)) := by
 refine PC.begin Tryz.func128 Y (by kernel_rfl) ?_; have hKd : Maps.Keyed Tryz.prog 2 := Maps.int_keyed Tryz.underlying2; have hz : ∀ w, (zeroValue 2).run Tryz.prog w = .ok (.int .i64 0) w := fun w => by kernel_rfl
 have hsz : (Go.Sx.within (((c.legs.map Leg.cs).length : Nat) : Int) 2 8 = true) = (2 ≤ c.legs.length ∧ c.legs.length ≤ 8) := by rw [Go.Sx.within_iff, List.length_map]; apply propext; omega
 unfold yi; refine z7 Y (z4k _) Y ⟨trivial, trivial⟩ ?_; refine xb Y ?_ ?_ <;> intro b0
 refine xv Y Y Y ?_; rotate_left; refine z7 Y (z7g _) Y ⟨trivial, trivial⟩ (z7 Y (qo _ _ _) Y tv4 ?_); refine xb Y ?_ ?_ <;> intro b1
 refine xv Y Y Y ?_; rotate_left; rotate_left
 · refine vi ?_; simp_all
 · refine vi ?_
   have hid : Go.Sx.within c.id 1 1000000000 = true := by simpa using b0
   have hn : ¬ (2 ≤ c.legs.length ∧ c.legs.length ≤ 8) := by rw [← hsz]; simpa using b1
   rw [if_pos hid, if_neg hn]
 have hid : Go.Sx.within c.id 1 1000000000 = true := by simpa using b0
 have hn : 2 ≤ c.legs.length ∧ c.legs.length ≤ 8 := by rw [← hsz]; simpa using b1
 rw [if_pos hid, if_pos hn]; clear b0 b1 hsz hid; refine qbm Y Y Y Tryz.underlying267 Y ?_; refine qc Y (ι := Nat × DataW Unit) (fun p => p.1 ≤ c.legs.length ∧ (∀ j, j < p.1 → y3q c.legs j = 0) ∧ SM (c.legs.take p.1) p.2) (fun p => ⟨[(24, sV (.int .i64 p.1)), (1, .one (.a 1 0)), (3, .one (.mx 0 20)), (22, .one (.b (.l (c.legs.map Leg.cs)))), (23, sV (.int .i64 c.legs.length))], [(1, .var (c.cs.map .b)), (20, .mp 2 2 p.1 p.2 none)]⟩) (fun p => c.legs.length - p.1) (0, .map []) ⟨Nat.zero_le _, fun j hj => (by omega), qb2⟩ ?_ ?_
 · exact ⟨⟨Y, I, I, Y, (by rw [List.length_map]; rfl), trivial⟩, ⟨lcr, ⟨Y, Y, Y, Y, Y⟩, trivial⟩, Y⟩
 · intro ⟨i, D⟩ ⟨hi, h0, hS⟩ J hJ
   dsimp only at hi h0 hS hJ ⊢; refine xb Y ?_ ?_ <;> intro h
   · have h : i < c.legs.length := by simpa using h
     obtain ⟨x, hx⟩ := gx h; have hg := gm Leg.cs hx; have hd : ∀ y ∈ c.legs.take i, y.fault = 0 := y1n h0
     refine xs Y (nn_ _) (y9 Y _ hg (xs Y Y (z7 Y (q56 _) Y ⟨tv5, trivial⟩ ?_))); refine xb Y ?_ ?_ <;> intro b0
     refine xv Y Y Y ?_; rotate_left; refine xs rfl (.inl rfl) (xs rfl (nn_ _) (xs rfl (nn_ _) (xs rfl (by simp; omega) (z7 rfl (q5o _ (c.legs.take i) (fun y => y.same x) _ _ (by simp [List.map_take]) (fun y _ => y92 y x) (by rw [List.length_take]; omega)) rfl ⟨trivial, (List.forall_mem_cons.2 ⟨tv5, (fun _ h => nomatch h)⟩), trivial⟩ ?_)))); refine xb Y ?_ ?_ <;> intro b1
     refine xv Y Y Y ?_; rotate_left; rotate_left
     · refine vi ?_
       rw [z0z h0 (by simp_all [y3q]) h]; simp_all [y3q]
     · refine vi ?_
       rw [z0z h0 (by simp_all [y3q]) h]; simp_all [y3q]
     have hxf : x.fault = 0 := by simpa using b0
     have hok := Leg.y0i hxf; have hkey : keyOf Tryz.prog 2 (.int .i64 x.b) = some (.int .i64 x.b) := Maps.keyOf_int_mk Tryz.underlying2 (wfi (by omega) (by omega)); refine qc6 Y Y Y Y Tryz.underlying267 Tryz.underlying2 hKd hz Y Y hkey (fun cc hat hwc => ?_); have hw := z7n hS hxf hd (by omega) hat; have hb := z4s (c.legs.take i) x.b (fun y hy => (Leg.y0i (hd y hy)).2.2.2.1); have hsm := hok.2.2.2.1; have hlen : (c.legs.take i).length ≤ 8 := by rw [List.length_take]; omega
     unfold Leg.small at hsm; have hwf : (Lit.int .i64 (IntKind.i64.wrap (cc + x.v))).wf = true := by rw [hw.2]; exact wfi (by omega) (by omega)
     skip; refine yck Y Y Y Y Y Tryz.underlying267 Tryz.underlying2 hKd (show i < maxLen by unfold maxLen; omega) Y Y hkey Y hwf ?_; skip; exact q9 Y (hJ _ (i + 1, _) ⟨by omega, zc h0 (by simp_all [y3q]), ya3 hS hx hxf hd (by omega) hat⟩ (by dsimp only; omega) ⟨⟨cwi (by omega) (by omega) (by omega), I, I, Y, Y, trivial⟩, ⟨lcr, ⟨Y, Y, Y, Y, Y⟩, trivial⟩, Y⟩)
   · have h : i = c.legs.length := by have : ¬ i < c.legs.length := (by simpa using h); omega
     have hd : ∀ y ∈ c.legs, y.fault = 0 := by have := y1n h0; rwa [h, List.take_length] at this
     have hz2 := zg (f := y3q c.legs) (n := c.legs.length) (fun j hj => h0 j (by omega)); rw [h, List.take_length] at hS; rw [hz2]; skip; refine ybn Y Y Y Y Y Y Tryz.underlying267 hKd ?_; refine qc Y (ι := (Lit → Bool) × Nat × Option (Value × Value)) (fun p => ∀ a : Int, p.1 (.int .i64 a) = false → y1e c.legs a = 0) (fun p => ⟨[(49, .one (.mx 1 49))], [(49, .mp 2 2 i D (some p))]⟩) (fun p => p.2.1) (Maps.has D, Maps.size D, none) (za3 hS) ?_ ?_
     · exact ⟨⟨I, trivial⟩, ⟨⟨Y, Y, Y, Y, Y⟩, trivial⟩, Y⟩
     · intro ⟨left, cnt, cur⟩ hL J2 hJ2
       dsimp only at hL hJ2 ⊢; refine zbn Y Y Y Y Y hKd Tryz.underlying2 Tryz.underlying2 (fun _ hall => ?_) (fun y cc cnt' hl hat hwc hlt => ?_)
       · skip
         refine xj (k := 1) Y (xv Y Y Y ?_); exact vi (by rw [z7h (fun a => hL a (hall _))]; rfl)
       · have hy := zbv hS hat
         refine xj (k := 1) rfl (ybm rfl rfl rfl rfl rfl rfl rfl (fun vs h => (nomatch h)) (fun vs h => (nomatch h)) ?_); refine xb Y ?_ ?_ <;> intro b0
         refine xv Y Y Y ?_; rotate_left; rotate_left
         · exact vi (by rw [q3n hd (a := y) (by rw [hy]; simpa using b0)]; rfl)
         · exact q9 Y (hJ2 _ (_, cnt', _) (ybf hL hy (by simpa using b0)) hlt ⟨⟨I, trivial⟩, ⟨⟨Y, Y, Y, Y, Y⟩, trivial⟩, Y⟩)
theorem z0t (c : Con) (hl : c.legs.length ≤ 1048576) : PC Tryz.prog 50 [.agg c.cs] (rI (yi c)) := by
 refine PC.begin Tryz.func50 Y (by kernel_rfl) ?_
 have fin : ∀ n : Int, (Go.Sx.within c.id 1 1000000000 = true → (2 ≤ c.legs.length ∧ c.legs.length ≤ 8) → n = (if scan (y3q c.legs) c.legs.length ≠ 0 then scan (y3q c.legs) c.legs.length else if y22 c.legs then 1 else 0)) → (Go.Sx.within c.id 1 1000000000 = true) → (2 ≤ c.legs.length ∧ c.legs.length ≤ 8) → n = yi c := fun n h1 h2 h3 => by
  unfold yi; rw [if_pos h2, if_pos h3]; exact h1 h2 h3
 refine z7 Y (y4k _) Y ⟨trivial, trivial⟩ ?_; refine xb Y ?_ ?_ <;> intro b0
 refine xv Y Y Y ?_; rotate_left; refine xb Y ?_ ?_ <;> intro b1
 refine xj (k := 5) Y ?_; refine xv Y Y Y ?_; rotate_left; refine xj (k := 4) Y ?_; refine xb Y ?_ ?_ <;> intro b2
 refine xv Y Y Y ?_; rotate_left; refine xs Y Y (xs Y (nn_ _) (xs Y (nn_ _) ?_)); refine xs Y (nn_ _) ?_; rotate_left
 · refine vi ?_; unfold yi; simp_all
 · refine vi ?_
   have hid : Go.Sx.within c.id 1 1000000000 = true := by simpa using b0
   unfold yi; rw [if_pos hid, if_neg (by simp at b1; omega)]
 · refine vi ?_
   have hid : Go.Sx.within c.id 1 1000000000 = true := by simpa using b0
   unfold yi; rw [if_pos hid, if_neg (by simp at b2; omega)]
 have hid : Go.Sx.within c.id 1 1000000000 = true := by simpa using b0
 have hn : 2 ≤ c.legs.length ∧ c.legs.length ≤ 8 := by
  simp at b1 b2; omega
 clear b0 b1 b2; refine qc Y (ι := Nat) (fun i => i ≤ c.legs.length ∧ ∀ j, j < i → y3q c.legs j = 0) (fun i => ⟨[(4, sV (.int .i64 i)), (1, .one (.a 1 0)), (3, .one (.h 24 3))], [(1, .var (c.cs.map .b)), (24, .arr true 1 0 (z5f (c.legs.take i)))]⟩) (fun i => c.legs.length - i) 0 ⟨Nat.zero_le _, fun j hj => (by omega)⟩ ?_ ?_
 · exact ⟨⟨Y, I, I, trivial⟩, ⟨lcr, U, trivial⟩, Y⟩
 · intro i ⟨hi, h0⟩ J hJ
   have hd : ∀ y ∈ c.legs.take i, y.fault = 0 := y1n h0
   refine xb Y ?_ ?_ <;> intro h
   · have h : i < c.legs.length := by simpa using h
     obtain ⟨x, hx⟩ := gx h; have hg := gm Leg.cs hx; refine xs Y (nn_ _) (y9 Y _ hg (xs Y Y (z7 Y (q5f _) Y ⟨tv5, trivial⟩ ?_))); refine xb Y ?_ ?_ <;> intro b0
     refine xv Y Y Y ?_; rotate_left; rotate_left
     · refine vi (fin _ (fun _ _ => ?_) hid hn)
       rw [z0z h0 (by simp_all [y3q]) h]; simp_all [y3q]
     have hxf : x.fault = 0 := by simpa using b0
     have hok := Leg.y0i hxf; refine qc Y (ι := Nat) (fun k => k ≤ i ∧ ∀ j y, j < k → c.legs[j]? = some y → y.same x = false) (fun k => ⟨[(7, sV (.int .i64 k)), (4, sV (.int .i64 i)), (1, .one (.a 1 0)), (3, .one (.h 24 3)), (5, .one (.a 5 0))], [(1, .var (c.cs.map .b)), (24, .arr true 1 0 (z5f (c.legs.take i))), (5, .var (x.cs.map .b))]⟩) (fun k => i - k) 0 ⟨Nat.zero_le _, fun j y hj => (by omega)⟩ ?_ ?_
     · exact ⟨⟨Y, Y, I, I, I, trivial⟩, ⟨lcr, U, ⟨Y, Y, Y, Y, trivial⟩, trivial⟩, Y⟩
     · intro k ⟨hk, h1⟩ J2 hJ2
       refine xb Y (fun h' => ?_) (fun h' => ?_)
       · have h' : k < i := by simpa using h'
         obtain ⟨y, hy⟩ := gx (xs := c.legs) (i := k) (by omega); have hg2 := gm Leg.cs hy; have hyt : (c.legs.take i)[k]? = some y := by rw [List.getElem?_take, if_pos h', hy]
         refine xs Y (nn_ _) (y9 Y _ hg2 (xs Y Y ?_)); refine xb Y ?_ ?_ <;> intro b0
         refine xj (k := 5) Y ?_; refine xb Y ?_ ?_ <;> intro b1
         refine xj (k := 5) Y ?_; refine xb Y ?_ ?_ <;> intro b2
         refine xv Y Y Y ?_; rotate_left; rotate_left; refine xj (k := 6) Y ?_; rotate_left; refine xj (k := 12) Y ?_; rotate_left; all_goals first | (refine vi (fin _ (fun _ _ => ?_) hid hn); have hsame : y.same x = true := (by simp_all [Leg.same]); have ha := (zv (p := fun y : Leg => y.same x) hyt hsame).symm; have hc7 : y3q c.legs i = 7 := (by simp only [y3q, hx, hxf]; rw [if_neg (by simp), if_pos ha]); rw [z0z h0 (by rw [hc7]; decide) h, hc7]; rfl) | exact q9 Y (hJ2 _ (k + 1) ⟨by omega, qg hy h1 (by simp_all [Leg.same])⟩ (by omega) ⟨⟨cwi (by omega) (by omega) (by omega), Y, I, I, I, trivial⟩, ⟨lcr, U, ⟨Y, Y, Y, Y, trivial⟩, trivial⟩, Y⟩)
       · have h' : ¬ k < i := by simpa using h'
         have hnone := any_none (p := fun y : Leg => y.same x) (l := c.legs.take i) (fun j y hj => by
          rw [List.getElem?_take] at hj; split at hj
          · exact h1 j y (by omega) hj
          · cases hj)
         have hc0 : y3q c.legs i = 0 := by
          simp only [y3q, hx, hxf]; rw [if_neg (by simp), if_neg (by rw [← hnone]; decide)]
         have hrow := y5f (l := c.legs.take i) (b := x.b) (by omega) (by omega); have hb0 : 0 ≤ x.b := by omega
         refine yb Y [] (Tk [0, 1] (.take 2 [11, 12] (Tk [3, 4] (.take 5 [6, 7, 10, 11, 12] (.take 6 [] (.take 7 (Rg 10 3) (.take 8 [] (.take 9 (Rg 10 3) (Tk [10, 11] (.alt 12 .done .nil)))))))))) (by kernel_rfl) (xs Y Y (xs Y (hb0) (y9 Y _ hrow (xs Y Y (xs Y Y (y9 Y _ hrow (xs Y Y (xs Y (hb0) (y9 Y _ hrow ?_))))))))); refine xs Y Y (xs Y Y (y9 Y _ hrow (xs Y (Nat.le_refl _) (xs Y ⟨trivial, trivial⟩ ?_)))); exact q9 Y (hJ _ (i + 1) ⟨by omega, zc h0 hc0⟩ (by omega) ⟨⟨cwi (by omega) (by omega) (by omega), I, I, trivial⟩, ⟨lcr, ⟨y7e hx (by omega) (by omega) hd hxf (by omega), .inl Y, .inl Y⟩, trivial⟩, Y⟩)
   · have h : i = c.legs.length := by have : ¬ i < c.legs.length := (by simpa using h); omega
     have hz2 := zg (f := y3q c.legs) (n := c.legs.length) (fun j hj => h0 j (by omega)); rw [h, List.take_length] at hd; rw [h, List.take_length]; skip; refine qc Y (ι := Nat) (fun k => k ≤ 3 ∧ ∀ j : Nat, j < k → y1e c.legs j = 0) (fun k => ⟨[(9, sV (.int .i64 k)), (3, .one (.h 24 3))], [(24, .arr true 1 0 (z5f c.legs))]⟩) (fun k => 3 - k) 0 ⟨by omega, fun j hj => (by omega)⟩ ?_ ?_
     · exact ⟨⟨Y, I, trivial⟩, ⟨U, trivial⟩, Y⟩
     · intro k ⟨hk, h1⟩ J2 hJ2
       refine xb Y (fun h' => ?_) (fun h' => ?_)
       · have h' : k < 3 := by simp at h'; omega
         have hrow : (z5f c.legs)[(k : Int).toNat]? = some [i64 (y1e c.legs k)] := y5f (by omega) (by omega); refine xs Y Y (xs Y (nn_ _) (y9 Y _ hrow (xs Y Y (xs Y Y (y9 Y _ hrow ?_))))); refine xb Y ?_ ?_ <;> intro b0
         refine xv Y Y Y ?_; rotate_left; rotate_left
         · refine vi (fin _ (fun _ _ => ?_) hid hn)
           rw [hz2, q3n hd (a := k) (by simpa using b0)]; rfl
         · exact q9 Y (hJ2 _ (k + 1) ⟨by omega, fun j hj => by
            by_cases e : j = k
            · subst e; simpa using b0
            · exact h1 j (by omega)⟩ (by omega) ⟨⟨cwi (by omega) (by omega) (by omega), ⟨rfl, rfl, rfl⟩, trivial⟩, ⟨⟨rfl, .inl rfl, .inl rfl⟩, trivial⟩, rfl⟩)
       · have h' : k = 3 := by simp at h'; omega
         subst h'; refine xv Y Y Y ?_; refine vi (fin _ (fun _ _ => ?_) hid hn); have a0 := h1 0 (by omega); have a1 := h1 1 (by omega); have a2 := h1 2 (by omega); rw [hz2]; simp at a0 a1 a2; simp [y22, a0, a1, a2]
def y4v (s : Shd) : Prop := s.bals.length ≤ 1048576 ∧ s.votes.length ≤ 1048576 ∧ s.held.length ≤ 1048576 ∧ s.done.length ≤ 1048576 ∧ s.app.length ≤ 1048576 ∧ ∀ c ∈ s.held, c.legs.length ≤ 1048576
theorem ybb (rr : List (List Cell)) (us : List Mk) (p : Mk → Bool) (fn : Nat) (s : Shd) (hr : rr = us.map Mk.cs) (hf : ∀ x ∈ us, PC Tryz.prog fn [.agg s.cs, .agg x.cs] (rB (p x))) (hl : us.length ≤ 1048576) : PC Tryz.prog 352 [.one (.l rr), .one (.m fn true s.cs)] (rI (q1g p us)) := by
 refine PC.begin Tryz.func352 Y (by kernel_rfl) ?_; subst hr; have hn : (us.map Mk.cs).length = us.length := by simp
 refine qc Y (ι := Nat) (fun i => i ≤ us.length ∧ ∀ j y, j < i → us[j]? = some y → p y = false) (fun i => ⟨[(8, sV (.int .i64 i)), (7, sV (.int .i64 (us.map Mk.cs).length)), (0, .one (.b (.l (us.map Mk.cs)))), (1, .one (.b (.m fn true s.cs)))], []⟩) (fun i => us.length - i) 0 ⟨Nat.zero_le _, fun j y hj => by omega⟩ ?_ ?_
 · exact ⟨⟨Y, Y, Y, Y, trivial⟩, trivial, Y⟩
 · intro i ⟨hi, h0⟩ J hJ
   refine xb Y ?_ ?_ <;> intro h
   · have h : i < us.length := by simpa using h
     obtain ⟨x, hx⟩ := gx h; have hg := gm Mk.cs hx; have hxm := List.mem_of_getElem? hx; refine xs Y (nn_ _) (y9 Y _ hg (xs Y Y (z7 Y (hf _ hxm) Y ⟨tv7, tv3, trivial⟩ ?_))); refine xb Y ?_ ?_ <;> intro b0
     refine xv Y Y Y ?_; rotate_left; rotate_left
     · exact vi (y08 hx h0 b0).symm
     · exact q9 Y (hJ _ (i + 1) ⟨by omega, qg hx h0 b0⟩ (by omega) ⟨⟨cwi (by omega) (by omega) (by omega), Y, Y, Y, trivial⟩, trivial, Y⟩)
   · have h : ¬ i < us.length := by simpa using h
     refine xv Y Y Y ?_; exact vi (z03 (yk (by omega) h0)).symm
theorem yb5 (rr : List (List Cell)) (us : List Mk) (p : Mk → Bool) (fn : Nat) (s : Shd) (hr : rr = us.map Mk.cs) (hf : ∀ x ∈ us, PC Tryz.prog fn [.agg s.cs, .agg x.cs] (rB (p x))) (hl : us.length ≤ 1048576) : PC Tryz.prog 266 [.one (.l rr), .one (.m fn true s.cs)] (rB (us.any p)) := by
 refine PC.begin Tryz.func266 Y (by kernel_rfl) ?_; have hi := ybb rr us p fn s hr hf hl; refine z7 Y (hi) Y tv3 (xv Y Y Y ?_); exact vb q0i
theorem z56 (s : Shd) (ho : y4v s) : PC Tryz.prog 348 [.agg s.cs] (rI (qr y2a s)) := by
 refine PC.begin Tryz.func348 Y (by kernel_rfl) ?_; have ho' := ho; obtain ⟨o1, o2, o3, o4, o5, o6⟩ := ho'; rw [qr]; refine qc Y (ι := Nat) (fun i => i ≤ s.held.length ∧ ∀ j, j < i → z1s y2a s j = 0) (fun i => ⟨[(9, sV (.int .i64 i)), (1, .one (.a 1 0)), (7, .one (.b (.l (s.held.map Con.cs)))), (8, sV (.int .i64 (s.held.map Con.cs).length))], [(1, .var (s.cs.map .b))]⟩) (fun i => s.held.length - i) 0 ⟨Nat.zero_le _, fun j hj => by omega⟩ ?_ ?_
 · exact ⟨⟨Y, I, Y, Y, trivial⟩, ⟨lcr, trivial⟩, Y⟩
 · intro i ⟨hi, h0⟩ J hJ
   refine xb Y ?_ ?_ <;> intro h
   · have h : i < s.held.length := by simpa using h
     obtain ⟨x, hx⟩ := gx h; have hg := gm Con.cs hx; have hcl := o6 x (List.mem_of_getElem? hx); rcases Nat.eq_zero_or_pos i with hz | hz
     · subst hz
       refine xs Y (nn_ _) (y9 Y _ hg (xs Y Y (z7 Y (z0l _ (by assumption)) Y ⟨tv3, trivial⟩ ?_))); refine xb Y ?_ ?_ <;> intro b0
       refine xv Y Y Y ?_; rotate_left; refine yb Y [] (Tk (Rg 0 4) (.take 4 (Rg 7 3 ++ Rg 12 26) (Tk (Rg 5 4) (.take 9 (Rg 12 26) (.take 10 [] (.take 11 (Rg 12 26) (Tk [12, 13, 14] (.take 15 (Rg 18 20) (.take 16 [] (.take 17 (Rg 18 20) (.alt 18 (Tk (Rg 19 5) (.take 24 (Rg 27 11) (.take 25 [] (.take 26 (Rg 27 11) (.alt 27 (Tk (Rg 28 4) (.take 32 (Rg 35 3) (.take 33 [] (.take 34 (Rg 35 3) (.alt 35 (Tk [36, 37] .done) .nil))))) .nil))))) .nil))))))))))) (by kernel_rfl) (xj (k := 15) Y (z7 Y (z18 _ _ (by omega)) Y ⟨tv3, trivial, trivial⟩ (xj (k := 3) Y ?_))); refine xb Y ?_ ?_ <;> intro b1
       refine xj (k := 14) Y ?_; refine xv Y Y Y ?_; rotate_left; refine xj (k := 4) Y (z7 Y (q0r _ _ (by omega)) Y tv3 (xj (k := 2) Y ?_)); refine xb Y ?_ ?_ <;> intro b2
       refine xj (k := 7) Y ?_; refine xv Y Y Y ?_; rotate_left; refine xj (k := 4) Y (z7 Y (q0r _ _ (by omega)) Y tv3 (xj (k := 2) Y ?_)); refine xb Y ?_ ?_ <;> intro b3
       refine xv Y Y Y ?_; rotate_left; rotate_left; all_goals (first | (refine vi (q8 h h0 ?_ (by first | decide | decide | simp_all)); clear hJ h0 hg; simp_all [z1s, ahead_zero]) | (refine q9 Y (hJ _ 1 ⟨by omega, zc h0 ?_⟩ (by omega) ⟨⟨cwi (by omega) (by omega) (by omega), I, Y, Y, trivial⟩, ⟨lcr, trivial⟩, Y⟩); clear hJ h0 hg; simp_all [z1s, ahead_zero]))
     · obtain ⟨p, hp⟩ := gx (xs := s.held) (i := i - 1) (by omega)
       have hgp := z1e Con.cs hz (by omega) hp; refine xs Y (nn_ _) (y9 Y _ hg (xs Y Y (z7 Y (z0l _ (by assumption)) Y ⟨tv3, trivial⟩ ?_))); refine xb Y ?_ ?_ <;> intro b0
       refine xv Y Y Y ?_; rotate_left; refine yb Y [] (Tk (Rg 0 4) (.take 4 (Rg 7 3 ++ Rg 12 26) (Tk (Rg 5 4) (.take 9 (Rg 12 26) (.take 10 [] (.take 11 (Rg 12 26) (Tk [12, 13, 14] (.take 15 (Rg 18 20) (.take 16 [] (.take 17 (Rg 18 20) (.alt 18 (Tk (Rg 19 5) (.take 24 (Rg 27 11) (.take 25 [] (.take 26 (Rg 27 11) (.alt 27 (Tk (Rg 28 4) (.take 32 (Rg 35 3) (.take 33 [] (.take 34 (Rg 35 3) (.alt 35 (Tk [36, 37] .done) .nil))))) .nil))))) .nil))))))))))) (by kernel_rfl) ?_; refine xb Y ?_ ?_ <;> intro b1
       refine xj (k := 4) Y (xs Y (q0o hz (by omega)) (y9 Y _ hgp (xs Y Y (xj (k := 6) Y ?_)))); refine xb Y ?_ ?_ <;> intro b2
       refine xj (k := 21) Y ?_; refine xv Y Y Y ?_; rotate_left; refine xj (k := 3) Y (z7 Y (z18 _ _ (by omega)) Y ⟨tv3, trivial, trivial⟩ (xj (k := 3) Y ?_)); refine xb Y ?_ ?_ <;> intro b3
       refine xj (k := 14) Y ?_; refine xv Y Y Y ?_; rotate_left; refine xj (k := 4) Y (z7 Y (q0r _ _ (by omega)) Y tv3 (xj (k := 2) Y ?_)); refine xb Y ?_ ?_ <;> intro b4
       refine xj (k := 7) Y ?_; refine xv Y Y Y ?_; rotate_left; refine xj (k := 4) Y (z7 Y (q0r _ _ (by omega)) Y tv3 (xj (k := 2) Y ?_)); refine xb Y ?_ ?_ <;> intro b5
       refine xv Y Y Y ?_; rotate_left; rotate_left; refine xj (k := 14) Y (z7 Y (z18 _ _ (by omega)) Y ⟨tv3, trivial, trivial⟩ (xj (k := 3) Y ?_)); refine xb Y ?_ ?_ <;> intro b2
       refine xj (k := 14) Y ?_; refine xv Y Y Y ?_; rotate_left; refine xj (k := 4) Y (z7 Y (q0r _ _ (by omega)) Y tv3 (xj (k := 2) Y ?_)); refine xb Y ?_ ?_ <;> intro b3
       refine xj (k := 7) Y ?_; refine xv Y Y Y ?_; rotate_left; refine xj (k := 4) Y (z7 Y (q0r _ _ (by omega)) Y tv3 (xj (k := 2) Y ?_)); refine xb Y ?_ ?_ <;> intro b4
       refine xv Y Y Y ?_; rotate_left; rotate_left; all_goals (first | (refine vi (q8 h h0 ?_ (by first | decide | decide | simp_all)); clear hJ h0 hg hgp; simp_all [ya hz hp, z1s, ahead_zero]) | (refine q9 Y (hJ _ (i + 1) ⟨by omega, zc h0 ?_⟩ (by omega) ⟨⟨cwi (by omega) (by omega) (by omega), I, Y, Y, trivial⟩, ⟨lcr, trivial⟩, Y⟩); clear hJ h0 hg hgp; simp_all [ya hz hp, z1s, ahead_zero]))
   · have h : ¬ i < s.held.length := by simpa using h
     have hz := zg (f := z1s y2a s) (n := s.held.length) (fun j hj => h0 j (by omega)); refine xv Y Y Y ?_; exact vi (hz.symm)
theorem z86 (s : Shd) (m : Mk) (ho : y4v s) : PC Tryz.prog 349 [.agg s.cs, .agg m.cs] (rB (q7b s m)) := by
 refine PC.begin Tryz.func349 Y (by kernel_rfl) ?_; have ho' := ho; obtain ⟨o1, o2, o3, o4, o5, o6⟩ := ho'; refine z7 Y (y82 _ _ (by assumption)) Y ⟨tv7, trivial, trivial⟩ ?_; refine xb Y ?_ ?_ <;> intro b0
 refine xj (k := 2) Y ?_; refine xb Y ?_ ?_ <;> intro b1
 refine xj (k := 4) Y (z7 Y (q0r _ _ (by omega)) Y tv3 (xj (k := 2) Y ?_)); refine xv Y Y Y ?_; rotate_left; refine xj (k := 6) Y ?_; refine xv Y Y Y ?_; rotate_left; refine xj (k := 9) Y ?_; refine xv Y Y Y ?_; rotate_left; all_goals (refine vb ?_; simp_all [q7b])
theorem z8c (x y : Leg) : PC Tryz.prog 457 [.agg y.cs, .one (.p x.cs)] (rB (x.same y)) := by
 refine PC.begin Tryz.func457 Y (by kernel_rfl) ?_; refine z7 Y (z2t _ _) Y ⟨tv5, tv5, trivial⟩ ?_; refine xr Y (zm Y ⟨⟨Y, Y, trivial⟩, z6 Y⟩)
theorem q9a (s : Shd) (b : Con) (x : Leg) (hl : b.legs.length ≤ 1048576) : PC Tryz.prog 456 [.agg x.cs, .one (.p b.cs), .one (.p s.cs)] (rB ((zo b s.idx).any fun m => x.same m)) := by
 refine PC.begin Tryz.func456 Y (by kernel_rfl) ?_; have hlb : (zo b s.idx).length ≤ 1048576 := Nat.le_trans (List.length_filter_le _ _) (by omega); refine z7 rfl (z18 _ _ (by omega)) rfl ⟨tv3, trivial, trivial⟩ (z7 rfl (q5o _ (zo b s.idx) (fun m => x.same m) _ _ rfl (fun m _ => z8c x m) hlb) rfl ⟨rfl, (List.forall_mem_cons.2 ⟨tv5, (fun _ h => nomatch h)⟩), trivial⟩ ?_); refine xr Y (zm Y ⟨⟨Y, Y, trivial⟩, z6 Y⟩)
theorem z5z (s : Shd) (a b : Con) (ha : a.legs.length ≤ 1048576) (hb : b.legs.length ≤ 1048576) : PC Tryz.prog 421 [.agg s.cs, .agg a.cs, .agg b.cs] (rB (z7a s a b)) := by
 refine PC.begin Tryz.func421 Y (by kernel_rfl) ?_; have hlb : (zo a s.idx).length ≤ 1048576 := Nat.le_trans (List.length_filter_le _ _) (by omega); refine z7 rfl (z18 _ _ (by omega)) rfl ⟨tv3, trivial, trivial⟩ (z7 rfl (qa5 _ (zo a s.idx) (fun l => (zo b s.idx).any fun m => l.same m) _ _ _ rfl (fun l _ => q9a s b l hb) hlb) rfl ⟨rfl, (List.forall_mem_cons.2 ⟨tv3, (List.forall_mem_cons.2 ⟨tv7, (fun _ h => nomatch h)⟩)⟩), trivial⟩ ?_); refine xr Y (zm Y ⟨⟨Y, Y, trivial⟩, z6 Y⟩)
theorem q5l (s : Shd) (a b : Con) (ha : a.legs.length ≤ 1048576) (hb : b.legs.length ≤ 1048576) : PC Tryz.prog 420 [.agg a.cs, .one (.p s.cs), .one (.p b.cs)] (rB (z7a s a b)) := by
 refine PC.begin Tryz.func420 Y (by kernel_rfl) ?_; refine z7 Y (z5z _ _ _ (by omega) (by omega)) Y ⟨tv7, tv3, tv3, trivial⟩ ?_; refine xr Y (zm Y ⟨⟨Y, Y, trivial⟩, z6 Y⟩)
theorem qaa (s : Shd) (c : Con) (hl : s.bals.length ≤ 1048576) (hc : c.legs.length ≤ 1048576) (hb : ∀ l ∈ zo c s.idx, -9000000000000000000 ≤ y4u s.bals l.a l.b + l.v ∧ y4u s.bals l.a l.b + l.v ≤ 9000000000000000000) : PC Tryz.prog 422 [.agg s.cs, .agg c.cs] (rI (q1u s.bals (zo c s.idx))) := by
 refine PC.begin Tryz.func422 Y (by kernel_rfl) ?_; have hlb : (zo c s.idx).length ≤ 1048576 := Nat.le_trans (List.length_filter_le _ _) (by omega); rw [q1u]; refine z7 Y (z18 _ _ (by omega)) Y ⟨tv3, trivial, trivial⟩ ?_; refine qc Y (ι := Nat) (fun i => i ≤ (zo c s.idx).length ∧ ∀ j, j < i → y42 s.bals (zo c s.idx) j = 0) (fun i => ⟨[(13, sV (.int .i64 i)), (2, .one (.a 2 0)), (11, .one (.h 1200000 ((zo c s.idx).map Leg.cs).length)), (12, sV (.int .i64 ((zo c s.idx).map Leg.cs).length))], [(2, .var (s.cs.map .b)), (1200000, .arr true 4 0 ((zo c s.idx).map Leg.cs))]⟩) (fun i => (zo c s.idx).length - i) 0 ⟨Nat.zero_le _, fun j hj => by omega⟩ ?_ ?_
 · exact ⟨⟨Y, I, I, Y, trivial⟩, ⟨lcr, U, trivial⟩, Y⟩
 · intro i ⟨hi, h0⟩ J hJ
   refine xb Y ?_ ?_ <;> intro h
   · have h : i < (zo c s.idx).length := by simpa using h
     obtain ⟨x, hx⟩ := gx h; have hg := gm Leg.cs hx; have hbx := hb x (List.mem_of_getElem? hx); refine xs Y Y (xs Y (nn_ _) (y9 Y _ hg (xs Y Y (xs Y Y (y9 Y _ hg (z7 Y (y78 _ _ (by omega) (by assumption)) Y ⟨trivial, tv5, trivial⟩ ?_)))))); refine xb Y ?_ ?_ <;> intro b0
     refine xv Y Y Y ?_; rotate_left; rotate_left
     · exact vi (q8 h h0 (by simp_all [y42]) (by simpa using b0))
     · exact q9 Y (hJ _ (i + 1) ⟨by omega, zc h0 (by simp_all [y42])⟩ (by omega) ⟨⟨cwi (by omega) (by omega) (by omega), I, I, Y, trivial⟩, ⟨lcr, U, trivial⟩, Y⟩)
   · have h : ¬ i < (zo c s.idx).length := by simpa using h
     have hz := zg (f := y42 s.bals (zo c s.idx)) (n := (zo c s.idx).length) (fun j hj => h0 j (by omega)); refine xv Y Y Y ?_; exact vi hz.symm
theorem z3c (s : Shd) (ho : y4v s) (hb : ∀ c ∈ s.held, ∀ l ∈ zo c s.idx, -9000000000000000000 ≤ y4u s.bals l.a l.b + l.v ∧ y4u s.bals l.a l.b + l.v ≤ 9000000000000000000) : PC Tryz.prog 351 [.agg s.cs] (rI (q08 y1v q1u s)) := by
 refine PC.begin Tryz.func351 Y (by kernel_rfl) ?_; obtain ⟨o1, o2, o3, o4, o5, o6⟩ := ho; unfold q08; refine qc Y (ι := Nat) (fun i => i ≤ s.held.length ∧ ∀ j, j < i → y1v s j = 0) (fun i => ⟨[(11, sV (.int .i64 i)), (1, .one (.a 1 0)), (9, .one (.b (.l (s.held.map Con.cs)))), (10, sV (.int .i64 (s.held.map Con.cs).length))], [(1, .var (s.cs.map .b))]⟩) (fun i => s.held.length - i) 0 ⟨Nat.zero_le _, fun j hj => by omega⟩ ?_ ?_
 · exact ⟨⟨Y, I, Y, Y, trivial⟩, ⟨lcr, trivial⟩, Y⟩
 · intro i ⟨hi, h0⟩ J hJ
   refine xb Y ?_ ?_ <;> intro h
   · have h : i < s.held.length := by simpa using h
     obtain ⟨x, hx⟩ := gx h; have hg := gm Con.cs hx; have hcl := o6 x (List.mem_of_getElem? hx); refine xs rfl (nn_ _) (y9 rfl _ hg (xs rfl rfl (xs rfl (.inl rfl) (xs rfl (nn_ _) (xs rfl (nn_ _) (xs rfl (by simp; omega) (z7 rfl (za5 _ (s.held.take i) (fun own => z7a s own x) _ _ _ (by simp [List.map_take]) (fun own hown => q5l s own x (o6 own (List.mem_of_mem_take hown)) hcl) (by rw [List.length_take]; omega)) rfl ⟨trivial, (List.forall_mem_cons.2 ⟨tv7, (List.forall_mem_cons.2 ⟨tv3, (fun _ h => nomatch h)⟩)⟩), trivial⟩ ?_))))))); refine xb Y ?_ ?_ <;> intro b0
     refine xv Y Y Y ?_; rotate_left; rotate_left
     · refine vi ?_
       have hc7 : y1v s i = 7 := by simp only [y1v, hx]; rw [if_pos b0]
       rw [z0z h0 (by rw [hc7]; decide) h, hc7]; rfl
     · exact q9 Y (hJ _ (i + 1) ⟨by omega, zc h0 (by simp only [y1v, hx]; rw [if_neg (by rw [b0]; decide)])⟩ (by omega) ⟨⟨cwi (by omega) (by omega) (by omega), I, Y, Y, trivial⟩, ⟨lcr, trivial⟩, Y⟩)
   · have h : ¬ i < s.held.length := by simpa using h
     have hz := zg (f := y1v s) (n := s.held.length) (fun j hj => h0 j (by omega)); rw [hz]; clear hJ h0; refine qc Y (ι := Nat) (fun i => i ≤ s.held.length ∧ ∀ j, j < i → y73 q1u s j = 0) (fun i => ⟨[(26, sV (.int .i64 i)), (1, .one (.a 1 0)), (24, .one (.b (.l (s.held.map Con.cs)))), (25, sV (.int .i64 (s.held.map Con.cs).length))], [(1, .var (s.cs.map .b))]⟩) (fun i => s.held.length - i) 0 ⟨Nat.zero_le _, fun j hj => by omega⟩ ?_ ?_
     · exact ⟨⟨Y, I, Y, Y, trivial⟩, ⟨lcr, trivial⟩, Y⟩
     · intro i ⟨hi, h0⟩ J hJ
       refine xb Y ?_ ?_ <;> intro h
       · have h : i < s.held.length := by simpa using h
         obtain ⟨x, hx⟩ := gx h; have hg := gm Con.cs hx; have hxm := List.mem_of_getElem? hx; have hcl := o6 x hxm; refine xs Y (nn_ _) (y9 Y _ hg (xs Y Y (z7 Y (qaa s x o1 hcl (hb x hxm)) Y ⟨tv7, tv3, trivial⟩ ?_))); refine xb Y ?_ ?_ <;> intro b0
         refine xv Y Y Y ?_; rotate_left; rotate_left
         · exact vi (by rw [if_neg (by decide)]; exact q8 h h0 (by simp_all [y73]) (by simpa using b0))
         · exact q9 Y (hJ _ (i + 1) ⟨by omega, zc h0 (by simp_all [y73])⟩ (by omega) ⟨⟨cwi (by omega) (by omega) (by omega), I, Y, Y, trivial⟩, ⟨lcr, trivial⟩, Y⟩)
       · have h : ¬ i < s.held.length := by simpa using h
         have hz := zg (f := y73 q1u s) (n := s.held.length) (fun j hj => h0 j (by omega)); refine xv Y Y Y ?_; exact vi (by rw [hz]; rfl)
theorem q75 (x : Int) (us : List Bal) (hl : us.length ≤ 1048576) : PC Tryz.prog 311 [.one (i64 x), .one (.l (us.map Bal.cs))] (rI (if within x 0 2 then qm us else 3)) := by
 refine PC.begin Tryz.func311 Y (by kernel_rfl) ?_; refine z7 Y (zl _ _ _) Y tv4 ?_; refine xb Y ?_ ?_ <;> intro b0
 refine xv Y Y Y ?_; rotate_left; refine z7 Y (y9g _ (by omega)) Y ⟨trivial, trivial⟩ ?_; refine xv Y Y Y ?_; rotate_left; all_goals (refine vi ?_; simp_all)
theorem z31 (rr : List (List Cell)) (us : List Int) (c : Int) (hr : rr = ints us) (hl : us.length ≤ 1048576) : PC Tryz.prog 314 [.one (.l rr), .one (i64 c)] (rB (us.any fun y => y == c)) := by
 refine PC.begin Tryz.func314 Y (by kernel_rfl) ?_; subst hr; refine qc Y (ι := Nat) (fun i => i ≤ us.length ∧ ∀ j y, j < i → us[j]? = some y → (y == c) = false) (fun i => ⟨[(5, sV (.int .i64 i)), (0, .one (.b (.l (ints us)))), (1, sV (.int .i64 c))], []⟩) (fun i => us.length - i) 0 ⟨Nat.zero_le _, fun j y hj => by omega⟩ ?_ ?_
 · exact ⟨⟨Y, Y, Y, trivial⟩, trivial, Y⟩
 · intro i ⟨hi, h0⟩ J hJ
   refine xb Y ?_ ?_ <;> intro h
   · have h : i < us.length := by simpa using h
     obtain ⟨x, hx⟩ := gx h; have hg := gm (fun n => [i64 n]) hx; refine xs Y (nn_ _) (y9 Y _ hg (xs Y Y ?_)); refine xb Y ?_ ?_ <;> intro b0
     refine xv Y Y Y ?_; rotate_left; rotate_left
     · exact vb (zv hx (by simpa using b0))
     · exact q9 Y (hJ _ (i + 1) ⟨by omega, qg hx h0 (by simpa using b0)⟩ (by omega) ⟨⟨cwi (by omega) (by omega) (by omega), Y, Y, trivial⟩, trivial, Y⟩)
   · have h : ¬ i < us.length := by simpa using h
     refine xv Y Y Y ?_; exact vb (any_none (yk (by omega) h0))
theorem yap (s : Shd) (ho : y4v s) : PC Tryz.prog 394 [.agg s.cs] (rB (z6h s)) := by
 refine PC.begin Tryz.func394 Y (by kernel_rfl) ?_; obtain ⟨o1, o2, o3, o4, o5, o6⟩ := ho; refine qc Y (ι := Nat) (fun i => i ≤ s.done.length) (fun i => ⟨[(4, sV (.int .i64 i)), (3, sV (.int .i64 (y3s (s.done.take i)))), (1, .one (.a 1 0))], [(1, .var (s.cs.map .b))]⟩) (fun i => s.done.length - i) 0 (Nat.zero_le _) ?_ ?_
 · exact ⟨⟨Y, Y, I, trivial⟩, ⟨lcr, trivial⟩, Y⟩
 · intro i hi J hJ
   refine xb Y ?_ ?_ <;> intro h
   · have h : i < s.done.length := by simpa using h
     obtain ⟨x, hx⟩ := gx h; have hg := gm Mk.cs hx; have hst := q71 hx; have hle := z6k s.done i; refine xs Y (nn_ _) (y9 Y _ hg (xs Y Y ?_)); refine xb Y (fun b0 => ?_) (fun b0 => ?_); rotate_left; rotate_left
     · rw [if_pos (by simpa using b0)] at hst
       exact q9 Y (hJ _ (i + 1) (by omega) (by omega) ⟨⟨cwi (by omega) (by omega) (by omega), (by rw [hst]; exact cwi (by omega) (by omega) (by omega)), I, trivial⟩, ⟨lcr, trivial⟩, Y⟩)
     · rw [if_neg (by simpa using b0)] at hst
       exact q9 Y (hJ _ (i + 1) (by omega) (by omega) ⟨⟨cwi (by omega) (by omega) (by omega), (by rw [hst]; rfl), I, trivial⟩, ⟨lcr, trivial⟩, Y⟩)
   · have h : i = s.done.length := by have : ¬ i < s.done.length := (by simpa using h); omega
     rw [h, List.take_length]; clear hJ; refine qc Y (ι := Nat) (fun i => i ≤ s.app.length ∧ ∀ j, j < i → q9r s j = 0) (fun i => ⟨[(5, sV (.int .i64 i)), (3, sV (.int .i64 (y3s s.done))), (1, .one (.a 1 0))], [(1, .var (s.cs.map .b))]⟩) (fun i => s.app.length - i) 0 ⟨Nat.zero_le _, fun j hj => by omega⟩ ?_ ?_
     · exact ⟨⟨Y, Y, I, trivial⟩, ⟨lcr, trivial⟩, Y⟩
     · intro i ⟨hi, h0⟩ J hJ
       refine xb Y ?_ ?_ <;> intro h
       · have h : i < s.app.length := by simpa using h
         obtain ⟨x, hx⟩ := gx h; have hg := gm (fun n => [i64 n]) hx; refine yb Y [] (.take 0 [] (.take 1 (Rg 7 14) (.take 2 [] (.take 3 (Rg 5 16) (Tk [4, 5] (.take 6 (Rg 7 14) (.alt 7 (Tk [8, 9, 10] (.take 11 [13, 19, 20] (Tk [12, 13, 14] (.take 15 (Rg 17 4) (Tk [16, 17] (.take 18 [19, 20] (.alt 19 (.take 20 [] .done) .nil))))))) .nil))))))) (by kernel_rfl) (xs Y (nn_ _) (y9 Y _ hg (xs Y Y (z7 Y (q0y _ _ (by assumption)) Y tv3 ?_)))); refine xb Y ?_ ?_ <;> intro b0
         refine xj (k := 11) Y ?_; refine xv Y Y Y ?_; rotate_left; refine xj (k := 3) Y (xs Y (.inl Y) (xs Y (nn_ _) (xs Y (nn_ _) (xs Y (by simp; omega) (xj (k := 4) Y (xs Y (nn_ _) (y9 Y _ hg (xs Y Y (xj (k := 2) Y ?_))))))))); refine z7 Y (z31 _ (s.app.take i) x (by simp [ints, List.map_take]) (by rw [List.length_take]; omega)) Y tv3 (xj (k := 1) Y ?_); refine xb Y ?_ ?_ <;> intro b1
         refine xv Y Y Y ?_; rotate_left; rotate_left; all_goals first | (refine vb ?_; have hc1 : q9r s i = 1 := (by simp only [q9r, hx]; first | (rw [b0, b1]; rfl) | (rw [b0]; rfl)); have := z0z h0 (by rw [hc1]; decide) h; rw [hc1] at this; simp [z6h, this]; done) | exact q9 Y (hJ _ (i + 1) ⟨by omega, zc h0 (by simp only [q9r, hx]; rw [b0, b1]; rfl)⟩ (by omega) ⟨⟨cwi (by omega) (by omega) (by omega), Y, I, trivial⟩, ⟨lcr, trivial⟩, Y⟩)
       · have h : ¬ i < s.app.length := by simpa using h
         have hz := zg (f := q9r s) (n := s.app.length) (fun j hj => h0 j (by omega)); refine xv Y Y Y ?_; exact vb (by simp only [z6h, hz, ints, List.length_map]; rw [Bool.eq_iff_iff]; simp; omega)
theorem z9h (s : Shd) (ho : y4v s) (hB : qm s.bals = 0) : PC Tryz.prog 313 [.agg s.cs] (rI (q14 s)) := by
 refine PC.begin Tryz.func313 Y (by kernel_rfl) ?_; have ho' := ho; obtain ⟨o1, o2, o3, o4, o5, o6⟩ := ho'; refine qc Y (ι := Nat) (fun i => i ≤ s.held.length ∧ ∀ j, j < i → z1s q0n s j = 0) (fun i => ⟨[(3, sV (.int .i64 i)), (1, .one (.a 1 0))], [(1, .var (s.cs.map .b))]⟩) (fun i => s.held.length - i) 0 ⟨Nat.zero_le _, fun j hj => by omega⟩ ?_ ?_
 · exact ⟨⟨Y, I, trivial⟩, ⟨lcr, trivial⟩, Y⟩
 · intro i ⟨hi, h0⟩ J hJ
   refine xb Y ?_ ?_ <;> intro h
   · have h : i < s.held.length := by simpa using h
     obtain ⟨x, hx⟩ := gx h; have hg := gm Con.cs hx; have hcl := o6 x (List.mem_of_getElem? hx); rcases Nat.eq_zero_or_pos i with hz | hz
     · subst hz
       refine xs Y (nn_ _) (y9 Y _ hg (xs Y Y (z7 Y (z0t _ (by assumption)) Y ⟨tv3, trivial⟩ ?_))); refine xb Y ?_ ?_ <;> intro b0
       refine xv Y Y Y ?_; rotate_left; refine yb Y [] (Tk (Rg 0 4) (.take 4 (Rg 12 26) (.take 5 [] (.take 6 (Rg 9 29) (Tk (Rg 7 4) (.take 11 (Rg 12 26) (Tk [12, 13, 14] (.take 15 (Rg 18 20) (.take 16 [] (.take 17 (Rg 18 20) (.alt 18 (Tk (Rg 19 5) (.take 24 (Rg 27 11) (.take 25 [] (.take 26 (Rg 27 11) (.alt 27 (Tk (Rg 28 4) (.take 32 (Rg 35 3) (.take 33 [] (.take 34 (Rg 35 3) (.alt 35 (Tk [36, 37] .done) .nil))))) .nil))))) .nil))))))))))) (by kernel_rfl) (xj (k := 15) Y (z7 Y (z1q _ _ (by omega)) Y ⟨tv3, trivial, trivial⟩ (xj (k := 3) Y ?_))); refine xb Y ?_ ?_ <;> intro b1
       refine xj (k := 14) Y ?_; refine xv Y Y Y ?_; rotate_left; refine xj (k := 4) Y (z7 Y (q0y _ _ (by assumption)) Y tv3 (xj (k := 2) Y ?_)); refine xb Y ?_ ?_ <;> intro b2
       refine xj (k := 7) Y ?_; refine xv Y Y Y ?_; rotate_left; refine xj (k := 4) Y (z7 Y (q0y _ _ (by assumption)) Y tv3 (xj (k := 2) Y ?_)); refine xb Y ?_ ?_ <;> intro b3
       refine xv Y Y Y ?_; rotate_left; rotate_left; all_goals (first | (refine vi (y6s (q8 h h0 ?_ (by first | decide | simp_all)) (by first | decide | simp_all)); clear hJ h0 hg; simp_all [z1s, ahead_zero]; done) | (refine q9 Y (hJ _ 1 ⟨by omega, zc h0 ?_⟩ (by omega) ⟨⟨cwi (by omega) (by omega) (by omega), I, trivial⟩, ⟨lcr, trivial⟩, Y⟩); clear hJ h0 hg; simp_all [z1s, ahead_zero]))
     · obtain ⟨p, hp⟩ := gx (xs := s.held) (i := i - 1) (by omega)
       have hgp := z1e Con.cs hz (by omega) hp; refine xs Y (nn_ _) (y9 Y _ hg (xs Y Y (z7 Y (z0t _ (by assumption)) Y ⟨tv3, trivial⟩ ?_))); refine xb Y ?_ ?_ <;> intro b0
       refine xv Y Y Y ?_; rotate_left; refine yb Y [] (Tk (Rg 0 4) (.take 4 (Rg 12 26) (.take 5 [] (.take 6 (Rg 9 29) (Tk (Rg 7 4) (.take 11 (Rg 12 26) (Tk [12, 13, 14] (.take 15 (Rg 18 20) (.take 16 [] (.take 17 (Rg 18 20) (.alt 18 (Tk (Rg 19 5) (.take 24 (Rg 27 11) (.take 25 [] (.take 26 (Rg 27 11) (.alt 27 (Tk (Rg 28 4) (.take 32 (Rg 35 3) (.take 33 [] (.take 34 (Rg 35 3) (.alt 35 (Tk [36, 37] .done) .nil))))) .nil))))) .nil))))))))))) (by kernel_rfl) ?_; refine xb Y ?_ ?_ <;> intro b1
       refine xj (k := 6) Y (xs Y (q0o hz (by omega)) (y9 Y _ hgp (xs Y Y (xj (k := 4) Y ?_)))); refine xb Y ?_ ?_ <;> intro b2
       refine xj (k := 21) Y ?_; refine xv Y Y Y ?_; rotate_left; refine xj (k := 3) Y (z7 Y (z1q _ _ (by omega)) Y ⟨tv3, trivial, trivial⟩ (xj (k := 3) Y ?_)); refine xb Y ?_ ?_ <;> intro b3
       refine xj (k := 14) Y ?_; refine xv Y Y Y ?_; rotate_left; refine xj (k := 4) Y (z7 Y (q0y _ _ (by assumption)) Y tv3 (xj (k := 2) Y ?_)); refine xb Y ?_ ?_ <;> intro b4
       refine xj (k := 7) Y ?_; refine xv Y Y Y ?_; rotate_left; refine xj (k := 4) Y (z7 Y (q0y _ _ (by assumption)) Y tv3 (xj (k := 2) Y ?_)); refine xb Y ?_ ?_ <;> intro b5
       refine xv Y Y Y ?_; rotate_left; rotate_left; refine xj (k := 14) Y (z7 Y (z1q _ _ (by omega)) Y ⟨tv3, trivial, trivial⟩ (xj (k := 3) Y ?_)); refine xb Y ?_ ?_ <;> intro b2
       refine xj (k := 14) Y ?_; refine xv Y Y Y ?_; rotate_left; refine xj (k := 4) Y (z7 Y (q0y _ _ (by assumption)) Y tv3 (xj (k := 2) Y ?_)); refine xb Y ?_ ?_ <;> intro b3
       refine xj (k := 7) Y ?_; refine xv Y Y Y ?_; rotate_left; refine xj (k := 4) Y (z7 Y (q0y _ _ (by assumption)) Y tv3 (xj (k := 2) Y ?_)); refine xb Y ?_ ?_ <;> intro b4
       refine xv Y Y Y ?_; rotate_left; rotate_left; all_goals (first | (refine vi (y6s (q8 h h0 ?_ (by first | decide | simp_all)) (by first | decide | simp_all)); clear hJ h0 hg hgp; simp_all [z1s, ya hz hp]; done) | (refine q9 Y (hJ _ (i + 1) ⟨by omega, zc h0 ?_⟩ (by omega) ⟨⟨cwi (by omega) (by omega) (by omega), I, trivial⟩, ⟨lcr, trivial⟩, Y⟩); clear hJ h0 hg hgp; simp_all [z1s, ya hz hp]))
   · have h : ¬ i < s.held.length := by simpa using h
     have hH : qr q0n s = 0 := zg (f := z1s q0n s) (n := s.held.length) (fun j hj => h0 j (by omega)); have hcon := q4i hH; clear hJ h0; refine qc Y (ι := Nat) (fun i => i ≤ s.votes.length ∧ ∀ j y, j < i → s.votes[j]? = some y → z3w s y = false) (fun i => ⟨[(6, sV (.int .i64 i)), (1, .one (.a 1 0))], [(1, .var (s.cs.map .b))]⟩) (fun i => s.votes.length - i) 0 ⟨Nat.zero_le _, fun j y hj => by omega⟩ ?_ ?_
     · exact ⟨⟨Y, I, trivial⟩, ⟨lcr, trivial⟩, Y⟩
     · intro i ⟨hi, h0⟩ J hJ
       refine xb Y ?_ ?_ <;> intro h
       · have h : i < s.votes.length := by simpa using h
         obtain ⟨x, hx⟩ := gx h; have hg := gm Mk.cs hx; refine xs Y (nn_ _) (y9 Y _ hg (xs Y Y ?_)); refine xb Y ?_ ?_ <;> intro b0
         refine xj (k := 3) Y (z7 Y (z7f _ _ (by assumption)) Y ⟨tv7, trivial, trivial⟩ (xj (k := 2) Y ?_)); refine xb Y ?_ ?_ <;> intro b1
         refine xj (k := 4) Y (z7 Y (q0y _ _ (by assumption)) Y tv3 (xj (k := 2) Y ?_)); refine xb Y ?_ ?_ <;> intro b2
         refine xv Y Y Y ?_; rotate_left; rotate_left; refine xj (k := 7) Y ?_; rotate_left; refine xj (k := 13) Y ?_; rotate_left; all_goals first | (refine vi (q9i hH (zv hx ?_)); clear hJ h0 hg; simp only [z3w, q4j]; generalize (s.held.any fun y => y.id == x.c) = q at *; simp_all; done) | (refine q9 Y (hJ _ (i + 1) ⟨by omega, qg hx h0 ?_⟩ (by omega) ⟨⟨cwi (by omega) (by omega) (by omega), I, trivial⟩, ⟨lcr, trivial⟩, Y⟩); clear hJ h0 hg; simp only [z3w, q4j]; generalize (s.held.any fun y => y.id == x.c) = q at *; simp_all)
       · have h : ¬ i < s.votes.length := by simpa using h
         have hO := any_none (yk (by omega) h0); clear hJ h0; refine z7 Y (yap _ (by assumption)) Y ⟨tv7, trivial⟩ ?_; refine xb Y ?_ ?_ <;> intro b0
         refine xv Y Y Y ?_; rotate_left; rotate_left
         · exact vi (z9j hH hO (by simpa using b0))
         have hA : z6h s = true := by simpa using b0
         refine qc Y (ι := Nat) (fun i => i ≤ s.held.length ∧ ∀ j, j < i → z1i s j = 0) (fun i => ⟨[(8, sV (.int .i64 i)), (1, .one (.a 1 0))], [(1, .var (s.cs.map .b))]⟩) (fun i => s.held.length - i) 0 ⟨Nat.zero_le _, fun j hj => by omega⟩ ?_ ?_
         · exact ⟨⟨Y, I, trivial⟩, ⟨lcr, trivial⟩, Y⟩
         · intro i ⟨hi, h0⟩ J hJ
           refine xb Y ?_ ?_ <;> intro h
           · have h : i < s.held.length := by simpa using h
             obtain ⟨x, hx⟩ := gx h; have hg := gm Con.cs hx; have hcl := o6 x (List.mem_of_getElem? hx); have hlx : (zo x s.idx).length ≤ 1048576 := Nat.le_trans (List.length_filter_le _ _) (by omega); refine qc Y (ι := Nat) (fun k => k ≤ i ∧ ∀ j y, j < k → s.held[j]? = some y → z5m (zo x s.idx) (zo y s.idx) = false) (fun k => ⟨[(9, sV (.int .i64 k)), (8, sV (.int .i64 i)), (1, .one (.a 1 0))], [(1, .var (s.cs.map .b))]⟩) (fun k => i - k) 0 ⟨Nat.zero_le _, fun j y hj => by omega⟩ ?_ ?_
             · exact ⟨⟨Y, Y, I, trivial⟩, ⟨lcr, trivial⟩, Y⟩
             · intro k ⟨hk, h1⟩ J2 hJ2
               refine xb Y (fun h' => ?_) (fun h' => ?_)
               · have h' : k < i := by simpa using h'
                 obtain ⟨y, hy⟩ := gx (xs := s.held) (i := k) (by omega); have hg2 := gm Con.cs hy; have hcl2 := o6 y (List.mem_of_getElem? hy); have hly : (zo y s.idx).length ≤ 1048576 := Nat.le_trans (List.length_filter_le _ _) (by omega); have hyt : (s.held.take i)[k]? = some y := by rw [List.getElem?_take, if_pos h', hy]
                 refine yb Y [] (.take 0 [] (.take 1 [3, 4, 7, 15, 16] (Tk [2, 3] (.take 4 [7, 15, 16] (.take 5 [] (.take 6 [7, 15, 16] (.take 8 [] (.take 9 [11, 12, 15, 16] (Tk [10, 11] (.take 12 [15, 16] (.take 13 [] (.take 14 [15, 16] (.alt 7 (.alt 15 (.alt 16 .done .nil) .nil) .nil))))))))))))) (by kernel_rfl) (xs Y (nn_ _) (y9 Y _ hg (xs Y Y (xs Y (nn_ _) (y9 Y _ hg2 (xs Y Y (z7 Y (z1q _ _ (by omega)) Y ⟨tv3, trivial, trivial⟩ (z7 Y (z1q _ _ (by omega)) Y ⟨tv3, trivial, trivial⟩ (z7 Y (y8l _ _ (by assumption) (by assumption)) Y ⟨Y, Y, trivial⟩ ?_))))))))); refine xb Y ?_ ?_ <;> intro b0
                 refine xv Y Y Y ?_; rotate_left; rotate_left
                 · have ha := (zv (p := fun own : Con => z5m (zo x s.idx) (zo own s.idx)) hyt b0).symm
                   have hc7 : z1i s i = 7 := by simp only [z1i, hx]; rw [if_pos ha]
                   exact vi (z4r hH hO hA (z7j (q8 h h0 hc7 (by decide)) (by decide)))
                 · exact q9 Y (hJ2 _ (k + 1) ⟨by omega, qg hy h1 b0⟩ (by omega) ⟨⟨cwi (by omega) (by omega) (by omega), Y, I, trivial⟩, ⟨lcr, trivial⟩, Y⟩)
               · have h' : ¬ k < i := by simpa using h'
                 have hnone := any_none (p := fun own : Con => z5m (zo x s.idx) (zo own s.idx)) (l := s.held.take i) (fun j y hj => by
                  rw [List.getElem?_take] at hj; split at hj
                  · exact h1 j y (by omega) hj
                  · cases hj)
                 have hc0 : z1i s i = 0 := by simp only [z1i, hx]; rw [if_neg (by rw [← hnone]; decide)]
                 skip; exact q9 Y (hJ _ (i + 1) ⟨by omega, zc h0 hc0⟩ (by omega) ⟨⟨cwi (by omega) (by omega) (by omega), I, trivial⟩, ⟨lcr, trivial⟩, Y⟩)
           · have h : ¬ i < s.held.length := by simpa using h
             have hM := zg (f := z1i s) (n := s.held.length) (fun j hj => h0 j (by omega)); clear hJ h0; refine qc Y (ι := Nat) (fun i => i ≤ s.held.length ∧ ∀ j, j < i → y73 z3v s j = 0) (fun i => ⟨[(10, sV (.int .i64 i)), (1, .one (.a 1 0))], [(1, .var (s.cs.map .b))]⟩) (fun i => s.held.length - i) 0 ⟨Nat.zero_le _, fun j hj => by omega⟩ ?_ ?_
             · exact ⟨⟨Y, I, trivial⟩, ⟨lcr, trivial⟩, Y⟩
             · intro i ⟨hi, h0⟩ J hJ
               refine xb Y ?_ ?_ <;> intro h
               · have h : i < s.held.length := by simpa using h
                 obtain ⟨x, hx⟩ := gx h; have hg := gm Con.cs hx; have hxm := List.mem_of_getElem? hx; have hcl := o6 x hxm; have hlx : (zo x s.idx).length ≤ 1048576 := Nat.le_trans (List.length_filter_le _ _) (by omega); refine yb Y [] (.take 0 [] (.take 1 [10, 11] (.take 2 [] (.take 3 [5, 6, 9, 10, 11] (Tk [4, 5] (.take 6 (Rg 9 3) (.take 7 [] (.take 8 (Rg 9 3) (.alt 9 (.alt 10 (.take 11 [] .done) .nil) .nil))))))))) (by kernel_rfl) (xs Y (nn_ _) (y9 Y _ hg (xs Y Y (z7 Y (z1q _ _ (by omega)) Y ⟨tv3, trivial, trivial⟩ (z7 Y (y7g s.bals (zo x s.idx) o1 hlx (q82 hB (hcon x hxm))) Y ⟨trivial, Y, trivial⟩ ?_))))); refine xb Y ?_ ?_ <;> intro b0
                 refine xv Y Y Y ?_; rotate_left; rotate_left
                 · exact vi (z4r hH hO hA (y48 hM (q8 h h0 (by simp_all [y73]) (by simpa using b0))))
                 · exact q9 Y (hJ _ (i + 1) ⟨by omega, zc h0 (by simp_all [y73])⟩ (by omega) ⟨⟨cwi (by omega) (by omega) (by omega), I, trivial⟩, ⟨lcr, trivial⟩, Y⟩)
               · have h : ¬ i < s.held.length := by simpa using h
                 have hF := zg (f := y73 z3v s) (n := s.held.length) (fun j hj => h0 j (by omega)); refine xv Y Y Y ?_; exact vi (z4r hH hO hA (y48 hM hF.symm))
theorem z8l (s : Shd) (ho : y4v s) : PC Tryz.prog 206 [.agg s.cs] (rI (zq s)) := by
 refine PC.begin Tryz.func206 Y (by kernel_rfl) ?_; have ho' := ho; obtain ⟨o1, o2, o3, o4, o5, o6⟩ := ho'; refine z7 Y (q75 _ _ (by assumption)) Y tv3 ?_; refine xb Y ?_ ?_ <;> intro b0
 refine xv Y Y Y ?_; rotate_left; refine xb Y ?_ ?_ <;> intro b1
 refine xj (k := 15) Y ?_; refine xv Y Y Y ?_; rotate_left; refine xj (k := 4) Y ?_; refine xb Y ?_ ?_ <;> intro b2
 refine xj (k := 10) Y ?_; refine xv Y Y Y ?_; rotate_left; refine xj (k := 4) Y ?_; refine xb Y ?_ ?_ <;> intro b3
 refine xj (k := 5) Y ?_; refine xv Y Y Y ?_; rotate_left; refine xj (k := 4) Y ?_; refine xb Y ?_ ?_ <;> intro b4
 refine xv Y Y Y ?_; rotate_left; refine z7 Y (z5g _ (by omega)) Y ⟨trivial, trivial⟩ ?_; refine xb Y ?_ ?_ <;> intro b5
 refine xv Y Y Y ?_; rotate_left; refine z7 Y (z5g _ (by omega)) Y ⟨trivial, trivial⟩ ?_; refine xb Y ?_ ?_ <;> intro b6
 refine xv Y Y Y ?_; rotate_left; refine z7 Y (z9h s ho (q9s b0).2) Y ⟨tv7, trivial⟩ ?_; refine xv Y Y Y ?_; rotate_left
 · exact vi (q5g b0)
 all_goals (have e : ∀ n : Nat, (100 < (n : Int)) = (100 < n) := fun n => by apply propext; omega)
 all_goals (have e' : ∀ n : Nat, ((n : Int) ≤ 100) = (n ≤ 100) := fun n => by apply propext; omega)
 all_goals (refine vi (z5h (q9s b0) ?_); clear b0; simp_all [many]; try (intros; exfalso; omega))
theorem z8o (us : List Int) (hu : us.length < 65536) : PC Tryz.prog 417 [.one (.f 455 [.p [.l (ints us)]])] (.one (.own false [.l 1 (ints (z0o us))])) := by
 refine PC.begin Tryz.func417 Y (by kernel_rfl) ?_; have hc := y6z us (by omega); have hq := z6t us (by omega); have hms : (ints us).length = (ints (z0o us)).length := by simp [ints, z0o]
 refine z7 Y (hc) Y ⟨trivial, trivial⟩ (z0k Y (hq) ⟨⟨Y, Y, Y, Y⟩, trivial⟩ Y ?_); refine xr Y (zm Y ⟨⟨Y, ⟨?_, Y, .inl Y⟩, trivial⟩, z6 Y⟩); exact hms
theorem q7x (us vs : List Int) (hx : us.length ≤ 1048576) : PC Tryz.prog 416 [.one (.l (ints us)), .one (.l (ints vs))] (rB (us == vs)) := by
 refine PC.begin Tryz.func416 Y (by kernel_rfl) ?_; have hle : (ints us).length = us.length := by simp
 have hle2 : (ints vs).length = vs.length := by simp
 refine xb Y ?_ ?_ <;> intro h0
 · have hne : ¬ us.length = vs.length := by simp at h0; omega
   refine xv Y Y Y ?_; all_goals (refine vb ?_; rw [eq_comm, beq_eq_false_iff_ne]; exact fun e => hne (by rw [e]))
 · have he : us.length = vs.length := by simp at h0; omega
   refine qc Y (ι := Nat) (fun i => i ≤ us.length ∧ us.take i = vs.take i) (fun i => ⟨[(13, sV (.int .i64 i)), (12, sV (.int .i64 (ints us).length)), (0, .one (.b (.l (ints us)))), (1, .one (.b (.l (ints vs))))], []⟩) (fun i => us.length - i) 0 ⟨Nat.zero_le _, Y⟩ ?_ ?_
   · exact ⟨⟨Y, Y, Y, Y, trivial⟩, trivial, Y⟩
   · intro i ⟨hi, hq⟩ J hJ
     refine xb Y ?_ ?_ <;> intro h
     · have h : i < us.length := by simpa using h
       obtain ⟨x, hx1⟩ := gx h; obtain ⟨y, hy1⟩ := gx (xs := vs) (i := i) (by omega); have hg := gm (fun n => [i64 n]) hx1; have hg2 := gm (fun n => [i64 n]) hy1; refine yb Y [] (Tk [0, 1, 2] (.take 3 [8] (Tk [4, 5, 6] (.take 7 [8] (.take 8 [] .done))))) (by kernel_rfl) (xs Y (nn_ _) (y9 Y _ hg (xs Y Y (xs Y (nn_ _) (y9 Y _ hg2 (xs Y Y ?_)))))); refine xb Y ?_ ?_ <;> intro b0
       refine xv Y Y Y ?_; rotate_left; rotate_left
       · refine vb ?_; rw [eq_comm, beq_eq_false_iff_ne]; intro e; subst e; rw [hx1] at hy1; cases hy1; simp at b0
       · have e : x = y := by simpa using b0
         exact q9 Y (hJ _ (i + 1) ⟨by omega, by rw [List.take_add_one, List.take_add_one, hx1, hy1, hq, e]⟩ (by omega) ⟨⟨cwi (by omega) (by omega) (by omega), Y, Y, Y, trivial⟩, trivial, Y⟩)
     · have h : i = us.length := by have : ¬ i < us.length := (by simpa using h); omega
       rw [h, List.take_length, he, List.take_length] at hq; refine xv Y Y Y ?_; all_goals (refine vb ?_; rw [hq]; simp)
theorem q4w (s : Shd) (ho : y4v s) (ha : s.app.length < 65536) (hd : qi s.done = 0) : PC Tryz.prog 350 [.agg s.cs] (rB (z6h s)) := by
 refine PC.begin Tryz.func350 Y (by kernel_rfl) ?_; obtain ⟨o1, o2, o3, o4, o5, o6⟩ := ho; rw [← y6x hd]; have hle : (s.done.map Mk.cs).length = s.done.length := by simp
 have hms : (z0o s.app).length = s.app.length := (List.mergeSort_perm s.app _).length_eq; have hv := q8u (ints s.app); have hso := z8o s.app ha; have hq := q7x (z0o s.app) (dnI s.done) (by omega); refine xs Y trivial ?_; refine qc Y (ι := Nat) (fun i => i ≤ s.done.length) (fun i => ⟨[(10, sV (.int .i64 i)), (3, .one (.h 6 (dnI (s.done.take i)).length)), (1, .one (.a 1 0)), (8, .one (.b (.l (s.done.map Mk.cs)))), (9, sV (.int .i64 (s.done.map Mk.cs).length))], [(6, .arr true 1 0 (ints (dnI (s.done.take i)))), (1, .var (s.cs.map .b))]⟩) (fun i => s.done.length - i) 0 (Nat.zero_le _) ?_ ?_
 · exact ⟨⟨Y, I, I, Y, Y, trivial⟩, ⟨U, lcr, trivial⟩, Y⟩
 · intro i hi J hJ
   refine xb Y ?_ ?_ <;> intro h
   · have h : i < s.done.length := by simpa using h
     obtain ⟨x, hx⟩ := gx h; have hg := gm Mk.cs hx; have hf := y93 hx; have hfl : (dnI (s.done.take i)).length ≤ i := by rw [q7v]; exact z6k _ _
     refine xs Y (by simp) (y9 Y _ hg (xs Y Y ?_)); refine xb Y ?_ ?_ <;> intro b0
     refine xs Y ⟨trivial, trivial⟩ (xs Y (by simp) (xs Y Y (xs Y (.inl Y) (xs Y (by simp; omega) ?_)))); refine xs Y (by simp; omega) ?_; rotate_left; rotate_left
     · rw [if_pos (by simpa using b0)] at hf
       exact q9 Y (hJ _ (i + 1) (by omega) (by omega) ⟨⟨cwi (by omega) (by omega) (by omega), ⟨Y, by rw [hf]; simp, Y⟩, I, Y, Y, trivial⟩, ⟨⟨by rw [hf]; simp, .inl Y, .inl Y⟩, lcr, trivial⟩, Y⟩)
     · rw [if_neg (by simpa using b0)] at hf
       exact q9 Y (hJ _ (i + 1) (by omega) (by omega) ⟨⟨cwi (by omega) (by omega) (by omega), ⟨Y, by rw [hf], Y⟩, I, Y, Y, trivial⟩, ⟨⟨by rw [hf], .inl Y, .inl Y⟩, lcr, trivial⟩, Y⟩)
   · have h : i = s.done.length := by have : ¬ i < s.done.length := (by simpa using h); omega
     subst h; rw [List.take_length]; have hdl : (ints (dnI s.done)).length = (dnI s.done).length := by simp
     refine z7 Y (hv) Y ⟨trivial, trivial⟩ (z7 Y (hso) Y ⟨trivial, trivial⟩ (z7 Y hq Y ⟨Y, hdl.symm, trivial⟩ ?_)); exact xr Y (zm Y ⟨⟨Y, Y, trivial⟩, z6 Y⟩)
theorem q8m (s : Shd) (ho : y4v s) : PC Tryz.prog 263 [.agg s.cs] (rI (zq s)) := by
 rw [← q4q s]; have hA : many s = false → qi s.done = 0 → PC Tryz.prog 350 [.agg s.cs] (rB (z6h s)) := fun h1 h2 => q4w s ho (by simp [many] at h1; omega) h2
 refine PC.begin Tryz.func263 Y (by kernel_rfl) ?_; have ho' := ho; obtain ⟨o1, o2, o3, o4, o5, o6⟩ := ho'; have hm := zal s; refine z7 Y (q2j _) Y ⟨trivial, trivial⟩ ?_; refine xb Y ?_ ?_ <;> intro b0
 refine xv Y Y Y ?_; rotate_left; refine z7 Y (y96 _ (by omega)) Y ⟨trivial, trivial⟩ ?_; refine xb Y ?_ ?_ <;> intro b1
 refine xv Y Y Y ?_; rotate_left; refine xb Y ?_ ?_ <;> intro b2
 refine xv Y Y Y ?_; rotate_left; refine yb rfl [] (.take 0 [] (.take 1 [2, 5, 7, 8, 9, 10] (.take 3 [] (.take 4 [5, 7, 8, 9, 10] (.take 6 (Rg 7 4) (.alt 2 (.alt 5 (.alt 7 (.alt 8 (.alt 9 (.take 10 [] .done) .nil) .nil) .nil) .nil) .nil)))))) (by kernel_rfl) (z7 rfl (z57 _ _ y0p o2) rfl ⟨trivial, (fun _ h => nomatch h), trivial⟩ (z7 rfl (z57 _ _ q2q o4) rfl ⟨trivial, (fun _ h => nomatch h), trivial⟩ (z7 rfl (z56 _ (by assumption)) rfl ⟨tv7, trivial⟩ (xs rfl tv4 (z7 rfl (z2h [_, _, _] (by simp)) rfl ⟨rfl, trivial⟩ ?_))))); refine xb Y ?_ ?_ <;> intro b3
 refine xv Y Y Y ?_; rotate_left; refine z7 Y (yb5 _ s.votes (q7b s) _ s Y (fun m _ => z86 s m ho) o2) Y tv3 ?_; refine xb Y ?_ ?_ <;> intro b4
 refine xj (k := 4) Y ?_; refine xv Y Y Y ?_; rotate_left; refine xj (k := 1) Y (z7 Y (hA (hm.symm.trans b2) (zca b3).2.1) Y ⟨tv7, trivial⟩ (xj (k := 2) Y ?_)); refine xb Y ?_ ?_ <;> intro b5
 refine xv Y Y Y ?_; rotate_left; refine z7 Y (z3c s ho (fun c hc => q95 (by simpa using b1) (q4i (mk := y2a) (zca b3).2.2 c hc))) Y ⟨tv7, trivial⟩ ?_; refine xv Y Y Y ?_; rotate_left; all_goals (refine vi ?_; unfold y21; simp_all)
theorem z0a (v : Int) : PC Tryz.prog 357 [.one (i64 v)] (rB (within v 0 1000)) := by
 refine PC.begin Tryz.func357 Y (by kernel_rfl) ?_; refine z7 Y (qo _ _ _) Y tv4 ?_; refine xr Y (zm Y ⟨⟨Y, Y, trivial⟩, z6 Y⟩)
theorem z02 (v : Int) : PC Tryz.prog 210 [.one (i64 v)] (rB (within v 0 1000)) := by
 refine PC.begin Tryz.func210 Y (by kernel_rfl) ?_; refine z7 Y (zl _ _ _) Y tv4 ?_; refine xr Y (zm Y ⟨⟨Y, Y, trivial⟩, z6 Y⟩)
theorem z0b (v : Int) : PC Tryz.prog 211 [.one (i64 v)] (rB (within v 1 2)) := by
 refine PC.begin Tryz.func211 Y (by kernel_rfl) ?_; refine xb Y ?_ ?_ <;> intro b0
 refine xj (k := 2) Y ?_; refine xv Y Y Y ?_; rotate_left; refine xj (k := 2) Y ?_; refine xv Y Y Y ?_; rotate_left; all_goals (refine vb ?_; rw [Bool.eq_iff_iff]; (simp_all [within] <;> omega))
theorem z29 (x : Vt) : PC Tryz.prog 360 [.agg x.cs] (rB x.ok) := by
 refine PC.begin Tryz.func360 Y (by kernel_rfl) ?_; refine z7 Y (z0a _) Y ⟨trivial, trivial⟩ ?_; refine xb Y ?_ ?_ <;> intro b0
 refine xj (k := 2) Y (z7 Y (y0p _) Y ⟨trivial, trivial⟩ (xj (k := 1) Y ?_)); refine xv Y Y Y ?_; rotate_left; refine xj (k := 3) Y ?_; refine xv Y Y Y ?_; rotate_left; all_goals (refine vb ?_; simp_all [Vt.ok])
theorem q1z (x : Vt) : PC Tryz.prog 215 [.agg x.cs] (rB x.ok) := by
 refine PC.begin Tryz.func215 Y (by kernel_rfl) ?_; refine z7 Y (z02 _) Y ⟨trivial, trivial⟩ ?_; refine xb Y ?_ ?_ <;> intro b0
 refine xj (k := 2) Y (z7 Y (z0b _) Y ⟨trivial, trivial⟩ (xj (k := 1) Y ?_)); refine xv Y Y Y ?_; rotate_left; refine xj (k := 3) Y ?_; refine xv Y Y Y ?_; rotate_left; all_goals (refine vb ?_; simp_all [Vt.ok])
theorem z27 {a b c d : Int} : q1f [.int .i64 a, .int .i64 b] [.int .i64 c, .int .i64 d] = (a == c && b == d) := by simp [q1f]
abbrev rVt (x : Vt) : Res := .one (.own true [.s (.int .i64 x.b), .s (.int .i64 x.v)])
theorem y3f : PC Tryz.prog 359 [] (rVt Vt.none) := by
 refine PC.begin Tryz.func359 Y (by kernel_rfl) ?_; refine xr Y (zm Y ⟨⟨Y, Y, Y, trivial⟩, z6 Y⟩)
theorem y29 : PC Tryz.prog 214 [] (rVt Vt.none) := by
 refine PC.begin Tryz.func214 Y (by kernel_rfl) ?_; refine xr Y (zm Y ⟨⟨Y, Y, Y, trivial⟩, z6 Y⟩)
theorem qb9 {α β : Type} {us : List α} {x : α} (f : α → β) (h0 : 0 < us.length) (h : us.length ≤ 1048576) (hx : us[us.length - 1]? = some x) : (us.map f)[(IntKind.i64.wrap (((us.map f).length : Int) - 1)).toNat]? = some (f x) := by
 rw [List.length_map]; exact z1e f h0 (by omega) hx
theorem qbk {α β : Type} {us : List α} (f : α → β) (h0 : 0 < us.length) (h : us.length ≤ 1048576) : 0 ≤ IntKind.i64.wrap (((us.map f).length : Int) - 1) := by rw [List.length_map]; exact q0o h0 (by omega)
theorem z5y (us : List Vt) (hl : us.length ≤ 1048576) : PC Tryz.prog 424 [.one (.l (us.map Vt.cs))] (rVt (y3u us)) := by
 refine PC.begin Tryz.func424 Y (by kernel_rfl) ?_; by_cases h0 : us.length = 0
 · have e : us = [] := List.eq_nil_of_length_eq_zero h0
   have e2 : y3u us = Vt.none := by rw [e]; rfl
   rw [e2]; refine xb Y ?_ ?_ <;> intro b0
   refine z7 Y (y3f) Y trivial ?_; refine xr Y (zm Y ⟨⟨Y, Y, Y, trivial⟩, z6 Y⟩); exact absurd b0 (by simp; omega); all_goals first | done | (exfalso; simp_all; done) | skip
 · obtain ⟨x, hx⟩ := gx (xs := us) (i := us.length - 1) (by omega)
   have e2 : y3u us = x := by unfold y3u; rw [hx]; rfl
   rw [e2]; have hg := qb9 Vt.cs (by omega) hl hx; refine xb Y ?_ ?_ <;> intro b0
   exact absurd b0 (by simp [*]); refine xs Y (qbk Vt.cs (by omega) hl) (y9 Y _ hg (xs Y Y ?_)); refine xr Y (zm Y ⟨⟨Y, Y, Y, trivial⟩, z6 Y⟩); all_goals first | done | (exfalso; simp_all; done) | skip
theorem y87 (s : Slt) (hl : s.cast.length ≤ 1048576) : PC Tryz.prog 397 [.agg s.cs] (rVt (y3u s.cast)) := by
 refine PC.begin Tryz.func397 Y (by kernel_rfl) ?_; by_cases h0 : s.cast.length = 0
 · have e : s.cast = [] := List.eq_nil_of_length_eq_zero h0
   have e2 : y3u s.cast = Vt.none := by rw [e]; rfl
   rw [e2]; refine xb Y ?_ ?_ <;> intro b0
   refine z7 Y (y29) Y trivial ?_; refine xr Y (zm Y ⟨⟨Y, Y, Y, trivial⟩, z6 Y⟩); exact absurd b0 (by simp; omega); all_goals first | done | (exfalso; simp_all; done) | skip
 · obtain ⟨x, hx⟩ := gx (xs := s.cast) (i := s.cast.length - 1) (by omega)
   have e2 : y3u s.cast = x := by unfold y3u; rw [hx]; rfl
   rw [e2]; have hg := qb9 Vt.cs (by omega) hl hx; refine xb Y ?_ ?_ <;> intro b0
   exact absurd b0 (by simp [*]); refine xs Y (qbk Vt.cs (by omega) hl) (y9 Y _ hg (xs Y Y ?_)); refine xr Y (zm Y ⟨⟨Y, Y, Y, trivial⟩, z6 Y⟩); all_goals first | done | (exfalso; simp_all; done) | skip
theorem y4y (us : List Vt) (hl : us.length ≤ 1048576) : PC Tryz.prog 423 [.one (.l (us.map Vt.cs))] (rI (scan (y15 us) us.length)) := by
 refine PC.begin Tryz.func423 Y (by kernel_rfl) ?_; have hle : (us.map Vt.cs).length = us.length := by simp
 refine qc Y (ι := Nat) (fun i => i ≤ us.length ∧ ∀ j, j < i → y15 us j = 0) (fun i => ⟨[(7, sV (.int .i64 i)), (6, sV (.int .i64 (us.map Vt.cs).length)), (5, .one (.b (.l (us.map Vt.cs)))), (0, .one (.b (.l (us.map Vt.cs))))], []⟩) (fun i => us.length - i) 0 ⟨Nat.zero_le _, fun j hj => by omega⟩ ?_ ?_
 · exact ⟨⟨Y, Y, Y, Y, trivial⟩, trivial, Y⟩
 · intro i ⟨hi, h0⟩ J hJ
   refine xb Y ?_ ?_ <;> intro h
   · have h : i < us.length := by simpa using h
     obtain ⟨x, hx⟩ := gx h; have hg := gm Vt.cs hx; rcases Nat.eq_zero_or_pos i with hz | hz
     · subst hz
       refine xs Y (nn_ _) (y9 Y _ hg (xs Y Y (z7 Y (z29 _) Y ⟨tv3, trivial⟩ ?_))); refine xb Y ?_ ?_ <;> intro b0
       refine xv Y Y Y ?_; rotate_left; refine yb Y [] (Tk (Rg 0 4) (.take 4 (Rg 11 25) (Tk (Rg 5 5) (.take 10 (Rg 11 25) (Tk [11, 12, 13] (.take 14 (Rg 21 15) (Tk (Rg 15 5) (.take 20 (Rg 21 15) (Tk [21, 22, 23] (.take 24 (Rg 31 5) (Tk (Rg 25 5) (.take 30 (Rg 31 5) (Tk (Rg 31 5) .done))))))))))))) (by kernel_rfl) ?_; refine xj (k := 13) Y ?_; rotate_left; all_goals (first | (refine vi (q8 h h0 ?_ (by first | decide | decide | simp_all)); clear hJ h0 hg; simp_all [y15, ahead_zero]; done) | (refine q9 Y (hJ _ 1 ⟨by omega, zc h0 ?_⟩ (by omega) ⟨⟨cwi (by omega) (by omega) (by omega), Y, Y, Y, trivial⟩, trivial, Y⟩); clear hJ h0 hg; simp_all [y15, ahead_zero]; done) | skip)
     · obtain ⟨p, hp⟩ := gx (xs := us) (i := i - 1) (by omega)
       have hgp := z1e Vt.cs hz (by omega) hp; refine xs Y (nn_ _) (y9 Y _ hg (xs Y Y (z7 Y (z29 _) Y ⟨tv3, trivial⟩ ?_))); refine xb Y ?_ ?_ <;> intro b0
       refine xv Y Y Y ?_; rotate_left; refine yb Y [] (Tk (Rg 0 4) (.take 4 (Rg 11 25) (Tk (Rg 5 5) (.take 10 (Rg 11 25) (Tk [11, 12, 13] (.take 14 (Rg 21 15) (Tk (Rg 15 5) (.take 20 (Rg 21 15) (Tk [21, 22, 23] (.take 24 (Rg 31 5) (Tk (Rg 25 5) (.take 30 (Rg 31 5) (Tk (Rg 31 5) .done))))))))))))) (by kernel_rfl) ?_; refine xb Y ?_ ?_ <;> intro b1
       refine xj (k := 5) Y (xs Y (q0o hz (by omega)) (y9 Y _ hgp (xs Y Y (xj (k := 4) Y ?_)))); refine xb Y ?_ ?_ <;> intro b2
       refine xj (k := 14) Y ?_; refine xv Y Y Y ?_; rotate_left; refine xj (k := 5) Y (xs Y (q0o hz (by omega)) (y9 Y _ hgp (xs Y Y (xj (k := 4) Y ?_)))); refine xb Y ?_ ?_ <;> intro b3
       refine xj (k := 5) Y (xs Y (q0o hz (by omega)) (y9 Y _ hgp (xs Y Y (xj (k := 8) Y ?_)))); refine xb Y ?_ ?_ <;> intro b4
       refine xv Y Y Y ?_; rotate_left; rotate_left; refine xj (k := 14) Y ?_; rotate_left; refine xj (k := 12) Y ?_; rotate_left; all_goals (first | (refine vi (q8 h h0 ?_ (by first | decide | decide | simp_all)); clear hJ h0 hg hgp; simp_all [y15, ya hz hp]; done) | (refine q9 Y (hJ _ (i + 1) ⟨by omega, zc h0 ?_⟩ (by omega) ⟨⟨cwi (by omega) (by omega) (by omega), Y, Y, Y, trivial⟩, trivial, Y⟩); clear hJ h0 hg hgp; simp_all [y15, ya hz hp]; done) | skip)
   · have h : ¬ i < us.length := by simpa using h
     have hz := zg (f := y15 us) (n := us.length) (fun j hj => h0 j (by omega)); clear hJ; refine xv Y Y Y ?_; exact vi (hz.symm)
theorem y6m (s : Slt) (hl : s.cast.length ≤ 1048576) : PC Tryz.prog 353 [.agg s.cs] (rI s.fault) := by
 refine PC.begin Tryz.func353 Y (by kernel_rfl) ?_; have hle : (s.cast.map Vt.cs).length = s.cast.length := by simp
 refine z7 Y (z4k _) Y ⟨trivial, trivial⟩ ?_; refine xb Y ?_ ?_ <;> intro b0
 refine xj (k := 10) Y ?_; refine xv Y Y Y ?_; rotate_left; refine xj (k := 2) Y (z7 Y (q2j _) Y ⟨trivial, trivial⟩ (xj (k := 2) Y ?_)); refine xb Y ?_ ?_ <;> intro b1
 refine xj (k := 5) Y ?_; refine xv Y Y Y ?_; rotate_left; refine xj (k := 2) Y (z7 Y (qo _ _ _) Y tv4 (xj (k := 2) Y ?_)); refine xb Y ?_ ?_ <;> intro b2
 refine xv Y Y Y ?_; rotate_left; refine xb Y ?_ ?_ <;> intro b3
 refine xv Y Y Y ?_; rotate_left; refine z7 Y (y4y _ hl) Y ⟨trivial, trivial⟩ ?_; refine xb Y ?_ ?_ <;> intro b4
 refine xv Y Y Y ?_; rotate_left; refine yb Y [] (.take 0 [] (.take 1 (Rg 5 9) (.take 2 [] (.take 3 (Rg 4 10) (.alt 4 (Tk (Rg 5 4) (.take 9 [12, 13] (.take 10 [] (.take 11 [12, 13] (Tk [12, 13] .done))))) .nil))))) (by kernel_rfl) (z7 Y (z5y _ hl) Y ⟨trivial, trivial⟩ ?_); refine xb Y ?_ ?_ <;> intro b5
 refine xj (k := 7) Y ?_; refine xv Y Y Y ?_; rotate_left; refine xj (k := 6) Y ?_; refine xb Y ?_ ?_ <;> intro b6
 refine xv Y Y Y ?_; rotate_left; refine xv Y Y Y ?_; rotate_left; all_goals ((refine vi ?_; unfold Slt.fault; simp only [hle] at *; simp_all [z27]; first | done | omega | ((repeat' split) <;> first | rfl | omega | (simp_all; done) | (simp_all; omega))))
theorem q6r (s : Slt) (hl : s.cast.length ≤ 1048576) : PC Tryz.prog 315 [.agg s.cs] (rI s.fault) := by
 refine PC.begin Tryz.func315 Y (by kernel_rfl) ?_; have hle : (s.cast.map Vt.cs).length = s.cast.length := by simp
 refine z7 Y (y4k _) Y ⟨trivial, trivial⟩ ?_; refine xb Y ?_ ?_ <;> intro b0
 refine xj (k := 10) Y ?_; refine xv Y Y Y ?_; rotate_left; refine xj (k := 2) Y (z7 Y (zl _ _ _) Y tv4 (xj (k := 2) Y ?_)); refine xb Y ?_ ?_ <;> intro b1
 refine xj (k := 5) Y ?_; refine xv Y Y Y ?_; rotate_left; refine xj (k := 2) Y (z7 Y (zl _ _ _) Y tv4 (xj (k := 2) Y ?_)); refine xb Y ?_ ?_ <;> intro b2
 refine xv Y Y Y ?_; rotate_left; refine xb Y ?_ ?_ <;> intro b3
 refine xv Y Y Y ?_; rotate_left; rotate_left; all_goals first | ((refine vi ?_; unfold Slt.fault; simp only [hle] at *; simp_all [z27]; first | done | omega | ((repeat' split) <;> first | rfl | omega | (simp_all; done) | (simp_all; omega))); done) | skip
 refine qc Y (ι := Nat) (fun i => i ≤ s.cast.length ∧ ∀ j, j < i → y15 s.cast j = 0) (fun i => ⟨[(3, sV (.int .i64 i)), (1, .one (.a 1 0))], [(1, .var (s.cs.map .b))]⟩) (fun i => s.cast.length - i) 0 ⟨Nat.zero_le _, fun j hj => by omega⟩ ?_ ?_
 · exact ⟨⟨Y, I, trivial⟩, ⟨lcr, trivial⟩, Y⟩
 · intro i ⟨hi, h0⟩ J hJ
   refine xb Y ?_ ?_ <;> intro h
   · have h : i < s.cast.length := by simpa using h
     obtain ⟨x, hx⟩ := gx h; have hg := gm Vt.cs hx; rcases Nat.eq_zero_or_pos i with hz | hz
     · subst hz
       refine xs Y (nn_ _) (y9 Y _ hg (xs Y Y (z7 Y (z02 _) Y ⟨trivial, trivial⟩ ?_))); refine xb Y ?_ ?_ <;> intro b0
       refine xj (k := 5) Y ?_; refine xv Y Y Y ?_; rotate_left; refine xj (k := 2) Y (z7 Y (z0b _) Y ⟨trivial, trivial⟩ (xj (k := 2) Y ?_)); refine xb Y ?_ ?_ <;> intro b1
       refine xv Y Y Y ?_; rotate_left; refine yb Y [] (Tk (Rg 0 4) (.take 4 (Rg 12 26) (.take 5 [] (.take 6 (Rg 9 29) (Tk (Rg 7 4) (.take 11 (Rg 12 26) (Tk [12, 13, 14] (.take 15 (Rg 23 15) (.take 16 [] (.take 17 (Rg 20 18) (Tk (Rg 18 4) (.take 22 (Rg 23 15) (Tk [23, 24, 25] (.take 26 (Rg 34 4) (.take 27 [] (.take 28 (Rg 31 7) (Tk (Rg 29 4) (.take 33 (Rg 34 4) (Tk (Rg 34 4) .done))))))))))))))))))) (by kernel_rfl) ?_; refine xj (k := 14) Y ?_; rotate_left; all_goals (first | (have hsc := q8 (c := 3) h h0 (by clear hJ h0 hg; simp_all [y15, ahead_zero, Vt.ok]; done) (by decide); clear hJ h0 hg; (refine vi ?_; unfold Slt.fault; simp only [hle] at *; simp_all [z27]; first | done | omega | ((repeat' split) <;> first | rfl | omega | (simp_all; done) | (simp_all; omega))); done) | (have hsc := q8 (c := 1) h h0 (by clear hJ h0 hg; simp_all [y15, ahead_zero, Vt.ok]; done) (by decide); clear hJ h0 hg; (refine vi ?_; unfold Slt.fault; simp only [hle] at *; simp_all [z27]; first | done | omega | ((repeat' split) <;> first | rfl | omega | (simp_all; done) | (simp_all; omega))); done) | (refine vi (q8 h h0 ?_ (by first | decide | decide | simp_all)); clear hJ h0 hg; simp_all [y15, ahead_zero, Vt.ok]; done) | (refine q9 Y (hJ _ 1 ⟨by omega, zc h0 ?_⟩ (by omega) ⟨⟨cwi (by omega) (by omega) (by omega), I, trivial⟩, ⟨lcr, trivial⟩, Y⟩); clear hJ h0 hg; simp_all [y15, ahead_zero, Vt.ok]; done) | skip)
     · obtain ⟨p, hp⟩ := gx (xs := s.cast) (i := i - 1) (by omega)
       have hgp := z1e Vt.cs hz (by omega) hp; refine xs Y (nn_ _) (y9 Y _ hg (xs Y Y (z7 Y (z02 _) Y ⟨trivial, trivial⟩ ?_))); refine xb Y ?_ ?_ <;> intro b0
       refine xj (k := 5) Y ?_; refine xv Y Y Y ?_; rotate_left; refine xj (k := 2) Y (z7 Y (z0b _) Y ⟨trivial, trivial⟩ (xj (k := 2) Y ?_)); refine xb Y ?_ ?_ <;> intro b1
       refine xv Y Y Y ?_; rotate_left; refine yb Y [] (Tk (Rg 0 4) (.take 4 (Rg 12 26) (.take 5 [] (.take 6 (Rg 9 29) (Tk (Rg 7 4) (.take 11 (Rg 12 26) (Tk [12, 13, 14] (.take 15 (Rg 23 15) (.take 16 [] (.take 17 (Rg 20 18) (Tk (Rg 18 4) (.take 22 (Rg 23 15) (Tk [23, 24, 25] (.take 26 (Rg 34 4) (.take 27 [] (.take 28 (Rg 31 7) (Tk (Rg 29 4) (.take 33 (Rg 34 4) (Tk (Rg 34 4) .done))))))))))))))))))) (by kernel_rfl) ?_; refine xb Y ?_ ?_ <;> intro b2
       refine xj (k := 6) Y (xs Y (q0o hz (by omega)) (y9 Y _ hgp (xs Y Y (xj (k := 4) Y ?_)))); refine xb Y ?_ ?_ <;> intro b3
       refine xj (k := 15) Y ?_; refine xv Y Y Y ?_; rotate_left; refine xj (k := 6) Y (xs Y (q0o hz (by omega)) (y9 Y _ hgp (xs Y Y (xj (k := 4) Y ?_)))); refine xb Y ?_ ?_ <;> intro b4
       refine xj (k := 6) Y (xs Y (q0o hz (by omega)) (y9 Y _ hgp (xs Y Y (xj (k := 8) Y ?_)))); refine xb Y ?_ ?_ <;> intro b5
       refine xv Y Y Y ?_; rotate_left; rotate_left; refine xj (k := 15) Y ?_; rotate_left; refine xj (k := 13) Y ?_; rotate_left; all_goals (first | (have hsc := q8 (c := 3) h h0 (by clear hJ h0 hg hgp; simp_all [y15, ya hz hp, Vt.ok]; done) (by decide); clear hJ h0 hg; (refine vi ?_; unfold Slt.fault; simp only [hle] at *; simp_all [z27]; first | done | omega | ((repeat' split) <;> first | rfl | omega | (simp_all; done) | (simp_all; omega))); done) | (have hsc := q8 (c := 1) h h0 (by clear hJ h0 hg hgp; simp_all [y15, ya hz hp, Vt.ok]; done) (by decide); clear hJ h0 hg; (refine vi ?_; unfold Slt.fault; simp only [hle] at *; simp_all [z27]; first | done | omega | ((repeat' split) <;> first | rfl | omega | (simp_all; done) | (simp_all; omega))); done) | (refine vi (q8 h h0 ?_ (by first | decide | decide | simp_all)); clear hJ h0 hg hgp; simp_all [y15, ya hz hp, Vt.ok]; done) | (refine q9 Y (hJ _ (i + 1) ⟨by omega, zc h0 ?_⟩ (by omega) ⟨⟨cwi (by omega) (by omega) (by omega), I, trivial⟩, ⟨lcr, trivial⟩, Y⟩); clear hJ h0 hg hgp; simp_all [y15, ya hz hp, Vt.ok]; done) | skip)
   · have h : ¬ i < s.cast.length := by simpa using h
     have hz := zg (f := y15 s.cast) (n := s.cast.length) (fun j hj => h0 j (by omega)); clear hJ; refine yb Y [] (.take 0 [] (.take 1 (Rg 4 9) (.take 2 (Rg 3 10) (.alt 3 (Tk (Rg 4 4) (.take 8 [11, 12] (.take 9 [] (.take 10 [11, 12] (Tk [11, 12] .done))))) .nil)))) (by kernel_rfl) (z7 Y (y87 _ hl) Y ⟨tv7, trivial⟩ ?_); refine xb Y ?_ ?_ <;> intro b0
     refine xj (k := 7) Y ?_; refine xv Y Y Y ?_; rotate_left; refine xj (k := 6) Y ?_; refine xb Y ?_ ?_ <;> intro b1
     refine xv Y Y Y ?_; rotate_left; refine xv Y Y Y ?_; rotate_left; all_goals ((refine vi ?_; unfold Slt.fault; simp only [hle] at *; simp_all [z27]; first | done | omega | ((repeat' split) <;> first | rfl | omega | (simp_all; done) | (simp_all; omega))))
theorem q35 (a b : Slt) : PC Tryz.prog 354 [.agg a.cs, .agg b.cs] (rI (orr [z0c a.c b.c, z0c a.s b.s])) := by
 refine PC.begin Tryz.func354 Y (by kernel_rfl) ?_; refine yb Y [] (.take 0 [] (.take 1 [4, 9, 10, 11, 12] (.take 2 [] (.take 3 [4, 9, 10, 11, 12] (.take 5 [] (.take 6 (Rg 9 4) (.take 7 [] (.take 8 (Rg 9 4) (.alt 4 (.alt 9 (.alt 10 (.alt 11 (.take 12 [] .done) .nil) .nil) .nil) .nil))))))))) (by kernel_rfl) (z7 Y (zw _ _) Y tv3 (z7 Y (zw _ _) Y tv3 (xs Y tv3 (z7 Y (q9c [_, _] (by simp)) Y ⟨Y, trivial⟩ ?_)))); refine xr Y (zm Y ⟨⟨Y, Y, trivial⟩, z6 Y⟩)
theorem z42 (a b : Slt) : PC Tryz.prog 255 [.agg a.cs, .agg b.cs] (rB (Slt.lt a b)) := by
 refine PC.begin Tryz.func255 Y (by kernel_rfl) ?_; refine xb Y ?_ ?_ <;> intro b0
 refine xv Y Y Y ?_; rotate_left; refine xv Y Y Y ?_; rotate_left; all_goals (refine vb ?_; simp_all [Slt.lt])
theorem q9u {p x : Slt} : 0 ≤ orr [z0c p.c x.c, z0c p.s x.s] ↔ Slt.lt p x = false := by
 unfold orr orr orr z0c Slt.lt
 repeat' split
 all_goals (simp; try omega)
theorem yad (a : Acc) (ho : q49 a) : PC Tryz.prog 267 [.agg a.cs] (rI a.fault) := by
 refine PC.begin Tryz.func267 Y (by kernel_rfl) ?_; have hle : (a.slots.map Slt.cs).length = a.slots.length := by simp
 obtain ⟨ho1, ho2⟩ := ho; refine xb Y ?_ ?_ <;> intro b0
 refine xv Y Y Y ?_; rotate_left; rotate_left; all_goals first | ((refine vi ?_; unfold Acc.fault; simp only [hle] at *; simp_all; first | done | omega | ((repeat' split) <;> first | rfl | omega | (simp_all; done) | (simp_all; omega))); done) | skip
 refine qc Y (ι := Nat) (fun i => i ≤ a.slots.length ∧ ∀ j, j < i → z3s a.slots j = 0) (fun i => ⟨[(13, sV (.int .i64 i)), (12, sV (.int .i64 (a.slots.map Slt.cs).length)), (11, .one (.b (.l (a.slots.map Slt.cs)))), (1, .one (.a 1 0))], [(1, .var (a.cs.map .b))]⟩) (fun i => a.slots.length - i) 0 ⟨Nat.zero_le _, fun j hj => by omega⟩ ?_ ?_
 · exact ⟨⟨Y, Y, Y, I, trivial⟩, ⟨lcr, trivial⟩, Y⟩
 · intro i ⟨hi, h0⟩ J hJ
   refine xb Y ?_ ?_ <;> intro h
   · have h : i < a.slots.length := by simpa using h
     obtain ⟨x, hx⟩ := gx h; have hg := gm Slt.cs hx; have hxc := ho2 x (List.mem_of_getElem? hx); rcases Nat.eq_zero_or_pos i with hz | hz
     · subst hz
       refine xs Y (nn_ _) (y9 Y _ hg (xs Y Y (z7 Y (y6m _ (by assumption)) Y ⟨tv7, trivial⟩ ?_))); refine xb Y ?_ ?_ <;> intro b0
       refine xv Y Y Y ?_; rotate_left; refine yb Y [] (Tk (Rg 0 4) (.take 4 [7, 8, 10, 11, 12] (Tk [5, 6, 7] (.take 8 (Rg 10 3) (.take 9 (Rg 10 3) (.alt 10 (Tk [11, 12] .done) .nil)))))) (by kernel_rfl) ?_; refine xj (k := 11) Y ?_; rotate_left; all_goals (first | (have hsc := q8 (c := 1) h h0 (by clear hJ h0 hg; simp_all [z3s, ahead_zero, q9u]; done) (by decide); clear hJ h0 hg; (refine vi ?_; unfold Acc.fault; simp only [hle] at *; simp_all; first | done | omega | ((repeat' split) <;> first | rfl | omega | (simp_all; done) | (simp_all; omega))); done) | (have hsc := q8 (c := x.fault) h h0 (by clear hJ h0 hg; simp_all [z3s, ahead_zero, q9u]; done) (by clear hJ h0; simp_all); clear hJ h0 hg; (refine vi ?_; unfold Acc.fault; simp only [hle] at *; simp_all; first | done | omega | ((repeat' split) <;> first | rfl | omega | (simp_all; done) | (simp_all; omega))); done) | (refine vi (q8 h h0 ?_ (by first | decide | decide | simp_all)); clear hJ h0 hg; simp_all [z3s, ahead_zero, q9u]; done) | (refine q9 Y (hJ _ 1 ⟨by omega, zc h0 ?_⟩ (by omega) ⟨⟨cwi (by omega) (by omega) (by omega), Y, Y, I, trivial⟩, ⟨lcr, trivial⟩, Y⟩); clear hJ h0 hg; simp_all [z3s, ahead_zero, q9u]; done) | skip)
     · obtain ⟨p, hp⟩ := gx (xs := a.slots) (i := i - 1) (by omega)
       have hgp := z1e Slt.cs hz (by omega) hp; refine xs Y (nn_ _) (y9 Y _ hg (xs Y Y (z7 Y (y6m _ (by assumption)) Y ⟨tv7, trivial⟩ ?_))); refine xb Y ?_ ?_ <;> intro b0
       refine xv Y Y Y ?_; rotate_left; refine yb Y [] (Tk (Rg 0 4) (.take 4 [7, 8, 10, 11, 12] (Tk [5, 6, 7] (.take 8 (Rg 10 3) (.take 9 (Rg 10 3) (.alt 10 (Tk [11, 12] .done) .nil)))))) (by kernel_rfl) ?_; refine xb Y ?_ ?_ <;> intro b1
       refine xj (k := 4) Y (xs Y (q0o hz (by omega)) (y9 Y _ hgp (xs Y Y (xj (k := 3) Y (z7 Y (q35 _ _) Y ⟨tv7, tv7, trivial⟩ (xj (k := 2) Y ?_)))))); refine xb Y ?_ ?_ <;> intro b2
       refine xv Y Y Y ?_; rotate_left; rotate_left; refine xj (k := 10) Y ?_; rotate_left; all_goals (first | (have hsc := q8 (c := 1) h h0 (by clear hJ h0 hg hgp; simp_all [z3s, ya hz hp, q9u]; done) (by decide); clear hJ h0 hg; (refine vi ?_; unfold Acc.fault; simp only [hle] at *; simp_all; first | done | omega | ((repeat' split) <;> first | rfl | omega | (simp_all; done) | (simp_all; omega))); done) | (have hsc := q8 (c := x.fault) h h0 (by clear hJ h0 hg hgp; simp_all [z3s, ya hz hp, q9u]; done) (by clear hJ h0; simp_all); clear hJ h0 hg; (refine vi ?_; unfold Acc.fault; simp only [hle] at *; simp_all; first | done | omega | ((repeat' split) <;> first | rfl | omega | (simp_all; done) | (simp_all; omega))); done) | (refine vi (q8 h h0 ?_ (by first | decide | decide | simp_all)); clear hJ h0 hg hgp; simp_all [z3s, ya hz hp, q9u]; done) | (refine q9 Y (hJ _ (i + 1) ⟨by omega, zc h0 ?_⟩ (by omega) ⟨⟨cwi (by omega) (by omega) (by omega), Y, Y, I, trivial⟩, ⟨lcr, trivial⟩, Y⟩); clear hJ h0 hg hgp; simp_all [z3s, ya hz hp, q9u]; done) | skip)
   · have h : ¬ i < a.slots.length := by simpa using h
     have hz := zg (f := z3s a.slots) (n := a.slots.length) (fun j hj => h0 j (by omega)); clear hJ; refine xv Y Y Y ?_; all_goals ((refine vi ?_; unfold Acc.fault; simp only [hle] at *; simp_all; first | done | omega | ((repeat' split) <;> first | rfl | omega | (simp_all; done) | (simp_all; omega))))
theorem zap (a : Acc) (ho : q49 a) : PC Tryz.prog 208 [.agg a.cs] (rI a.fault) := by
 refine PC.begin Tryz.func208 Y (by kernel_rfl) ?_; have hle : (a.slots.map Slt.cs).length = a.slots.length := by simp
 obtain ⟨ho1, ho2⟩ := ho; refine xb Y ?_ ?_ <;> intro b0
 refine xv Y Y Y ?_; rotate_left; rotate_left; all_goals first | ((refine vi ?_; unfold Acc.fault; simp only [hle] at *; simp_all; first | done | omega | ((repeat' split) <;> first | rfl | omega | (simp_all; done) | (simp_all; omega))); done) | skip
 refine qc Y (ι := Nat) (fun i => i ≤ a.slots.length ∧ ∀ j, j < i → z3s a.slots j = 0) (fun i => ⟨[(3, sV (.int .i64 i)), (1, .one (.a 1 0))], [(1, .var (a.cs.map .b))]⟩) (fun i => a.slots.length - i) 0 ⟨Nat.zero_le _, fun j hj => by omega⟩ ?_ ?_
 · exact ⟨⟨Y, I, trivial⟩, ⟨lcr, trivial⟩, Y⟩
 · intro i ⟨hi, h0⟩ J hJ
   refine xb Y ?_ ?_ <;> intro h
   · have h : i < a.slots.length := by simpa using h
     obtain ⟨x, hx⟩ := gx h; have hg := gm Slt.cs hx; have hxc := ho2 x (List.mem_of_getElem? hx); rcases Nat.eq_zero_or_pos i with hz | hz
     · subst hz
       refine xs Y (nn_ _) (y9 Y _ hg (xs Y Y (z7 Y (q6r _ (by assumption)) Y ⟨tv7, trivial⟩ ?_))); refine xb Y ?_ ?_ <;> intro b0
       refine xv Y Y Y ?_; rotate_left; refine yb Y [] (Tk (Rg 0 4) (.take 4 [7, 8, 14, 15, 16] (Tk [5, 6, 7] (.take 8 (Rg 14 3) (.take 9 [] (.take 10 (Rg 12 5) (Tk [11, 12] (.take 13 (Rg 14 3) (.alt 14 (Tk [15, 16] .done) .nil))))))))) (by kernel_rfl) ?_; refine xj (k := 15) Y ?_; rotate_left; all_goals (first | (have hsc := q8 (c := 1) h h0 (by clear hJ h0 hg; simp_all [z3s, ahead_zero]; done) (by decide); clear hJ h0 hg; (refine vi ?_; unfold Acc.fault; simp only [hle] at *; simp_all; first | done | omega | ((repeat' split) <;> first | rfl | omega | (simp_all; done) | (simp_all; omega))); done) | (have hsc := q8 (c := x.fault) h h0 (by clear hJ h0 hg; simp_all [z3s, ahead_zero]; done) (by clear hJ h0; simp_all); clear hJ h0 hg; (refine vi ?_; unfold Acc.fault; simp only [hle] at *; simp_all; first | done | omega | ((repeat' split) <;> first | rfl | omega | (simp_all; done) | (simp_all; omega))); done) | (refine vi (q8 h h0 ?_ (by first | decide | decide | simp_all)); clear hJ h0 hg; simp_all [z3s, ahead_zero]; done) | (refine q9 Y (hJ _ 1 ⟨by omega, zc h0 ?_⟩ (by omega) ⟨⟨cwi (by omega) (by omega) (by omega), I, trivial⟩, ⟨lcr, trivial⟩, Y⟩); clear hJ h0 hg; simp_all [z3s, ahead_zero]; done) | skip)
     · obtain ⟨p, hp⟩ := gx (xs := a.slots) (i := i - 1) (by omega)
       have hgp := z1e Slt.cs hz (by omega) hp; refine xs Y (nn_ _) (y9 Y _ hg (xs Y Y (z7 Y (q6r _ (by assumption)) Y ⟨tv7, trivial⟩ ?_))); refine xb Y ?_ ?_ <;> intro b0
       refine xv Y Y Y ?_; rotate_left; refine yb Y [] (Tk (Rg 0 4) (.take 4 [7, 8, 14, 15, 16] (Tk [5, 6, 7] (.take 8 (Rg 14 3) (.take 9 [] (.take 10 (Rg 12 5) (Tk [11, 12] (.take 13 (Rg 14 3) (.alt 14 (Tk [15, 16] .done) .nil))))))))) (by kernel_rfl) ?_; refine xb Y ?_ ?_ <;> intro b1
       refine xj (k := 4) Y (xs Y (q0o hz (by omega)) (y9 Y _ hgp (xs Y Y (xj (k := 5) Y (xs Y (nn_ _) (y9 Y _ hg (xs Y Y (xj (k := 2) Y (z7 Y (z42 _ _) Y ⟨tv7, tv7, trivial⟩ ?_))))))))); refine xj (k := 2) Y ?_; refine xb Y ?_ ?_ <;> intro b2
       refine xv Y Y Y ?_; rotate_left; rotate_left; refine xj (k := 14) Y ?_; rotate_left; all_goals (first | (have hsc := q8 (c := 1) h h0 (by clear hJ h0 hg hgp; simp_all [z3s, ya hz hp]; done) (by decide); clear hJ h0 hg; (refine vi ?_; unfold Acc.fault; simp only [hle] at *; simp_all; first | done | omega | ((repeat' split) <;> first | rfl | omega | (simp_all; done) | (simp_all; omega))); done) | (have hsc := q8 (c := x.fault) h h0 (by clear hJ h0 hg hgp; simp_all [z3s, ya hz hp]; done) (by clear hJ h0; simp_all); clear hJ h0 hg; (refine vi ?_; unfold Acc.fault; simp only [hle] at *; simp_all; first | done | omega | ((repeat' split) <;> first | rfl | omega | (simp_all; done) | (simp_all; omega))); done) | (refine vi (q8 h h0 ?_ (by first | decide | decide | simp_all)); clear hJ h0 hg hgp; simp_all [z3s, ya hz hp]; done) | (refine q9 Y (hJ _ (i + 1) ⟨by omega, zc h0 ?_⟩ (by omega) ⟨⟨cwi (by omega) (by omega) (by omega), I, trivial⟩, ⟨lcr, trivial⟩, Y⟩); clear hJ h0 hg hgp; simp_all [z3s, ya hz hp]; done) | skip)
   · have h : ¬ i < a.slots.length := by simpa using h
     have hz := zg (f := z3s a.slots) (n := a.slots.length) (fun j hj => h0 j (by omega)); clear hJ; refine xv Y Y Y ?_; all_goals ((refine vi ?_; unfold Acc.fault; simp only [hle] at *; simp_all; first | done | omega | ((repeat' split) <;> first | rfl | omega | (simp_all; done) | (simp_all; omega))))
theorem q5w (rr : List (List Cell)) (us : List Con) (p : Con → Bool) (fn : Nat) (c0 : Cell) (hr : rr = us.map Con.cs) (hf : ∀ x ∈ us, PC Tryz.prog fn [.agg x.cs, .one c0] (rB (p x))) (hl : us.length ≤ 1048576) : PC Tryz.prog 230 [.one (.l rr), .one (.f fn [c0])] (rI (q1g p us)) := by
 refine PC.begin Tryz.func230 Y (by kernel_rfl) ?_; subst hr; have hn : (us.map Con.cs).length = us.length := by simp
 refine qc Y (ι := Nat) (fun i => i ≤ us.length ∧ ∀ j y, j < i → us[j]? = some y → p y = false) (fun i => ⟨[(8, sV (.int .i64 i)), (7, sV (.int .i64 (us.map Con.cs).length)), (0, .one (.b (.l (us.map Con.cs)))), (1, .one (.b (.f fn [c0])))], []⟩) (fun i => us.length - i) 0 ⟨Nat.zero_le _, fun j y hj => by omega⟩ ?_ ?_
 · exact ⟨⟨Y, Y, Y, Y, trivial⟩, trivial, Y⟩
 · intro i ⟨hi, h0⟩ J hJ
   refine xb Y ?_ ?_ <;> intro h
   · have h : i < us.length := by simpa using h
     obtain ⟨x, hx⟩ := gx h; have hg := gm Con.cs hx; have hxm := List.mem_of_getElem? hx; refine xs Y (nn_ _) (y9 Y _ hg (xs Y Y (z7 Y (hf _ hxm) Y ⟨tv3, trivial, trivial⟩ ?_))); refine xb Y ?_ ?_ <;> intro b0
     refine xv Y Y Y ?_; rotate_left; rotate_left
     · exact vi (y08 hx h0 b0).symm
     · exact q9 Y (hJ _ (i + 1) ⟨by omega, qg hx h0 b0⟩ (by omega) ⟨⟨cwi (by omega) (by omega) (by omega), Y, Y, Y, trivial⟩, trivial, Y⟩)
   · have h : ¬ i < us.length := by simpa using h
     refine xv Y Y Y ?_; exact vi (z03 (yk (by omega) h0)).symm
theorem q0p (c : Clu) (id : Int) (hl : c.cons.length ≤ 1048576) : PC Tryz.prog 53 [.one (.p c.cs), .one (i64 id)] (rI (q1g (fun x : Con => x.id == id) c.cons)) := by
 refine PC.begin Tryz.func53 Y (by kernel_rfl) ?_; refine qc Y (ι := Nat) (fun i => i ≤ c.cons.length ∧ ∀ j y, j < i → c.cons[j]? = some y → (y.id == id) = false) (fun i => ⟨[(5, sV (.int .i64 i)), (0, .one (.b (.p c.cs))), (1, sV (.int .i64 id))], []⟩) (fun i => c.cons.length - i) 0 ⟨Nat.zero_le _, fun j y hj => by omega⟩ ?_ ?_
 · exact ⟨⟨Y, Y, Y, trivial⟩, trivial, Y⟩
 · intro i ⟨hi, h0⟩ J hJ
   refine xb Y ?_ ?_ <;> intro h
   · have h : i < c.cons.length := by simpa using h
     obtain ⟨x, hx⟩ := gx h; have hg := gm Con.cs hx; refine xs Y (nn_ _) (y9 Y _ hg (xs Y Y ?_)); refine xb Y ?_ ?_ <;> intro b0
     refine xv Y Y Y ?_; rotate_left; rotate_left
     · exact vi (y08 hx h0 b0).symm
     · exact q9 Y (hJ _ (i + 1) ⟨by omega, qg hx h0 b0⟩ (by omega) ⟨⟨cwi (by omega) (by omega) (by omega), Y, Y, trivial⟩, trivial, Y⟩)
   · have h : ¬ i < c.cons.length := by simpa using h
     refine xv Y Y Y ?_; exact vi (z03 (p := fun x : Con => x.id == id) (yk (by omega) h0)).symm
theorem y0l (l : List Int) (a b : Nat) : ∀ row ∈ ((ints l).take b).drop a, row.length = 1 := fun row h => by
 have h := List.mem_of_mem_take (List.mem_of_mem_drop h); simp [ints] at h; obtain ⟨_, _, rfl⟩ := h; rfl
theorem q0l (l : List Int) (a b : Nat) : qt (((ints l).take b).drop a) := fun row h => by
 have h := List.mem_of_mem_take (List.mem_of_mem_drop h); simp [ints] at h; obtain ⟨x, _, rfl⟩ := h; intro c hc; exact ⟨_, by simpa using hc⟩
abbrev zcj (l : List Int) (v : Int) : Bool → Res
 | true => .one (.bor false [.l (ints l)])
 | false => .one (.own false [.l 1 (ints (y3w l v))])
theorem z6n (l : List Int) (v : Int) (b : Bool) (hb : l.contains v = b) (hl : l.length ≤ 1048576) (hs : l.Pairwise (· < ·)) : PC Tryz.prog 120 [.one (.l (ints l)), .one (i64 v)] (zcj l v b) := by
 refine PC.begin Tryz.func120 Y (by kernel_rfl) ?_; have hn : (ints l).length = l.length := by simp
 refine qc Y (ι := Nat) (fun i => i ≤ l.length ∧ ∀ j y, j < i → l[j]? = some y → y < v) (fun i => ⟨[(5, sV (.int .i64 i)), (0, .one (.b (.l (ints l)))), (1, sV (.int .i64 v))], []⟩) (fun i => l.length - i) 0 ⟨Nat.zero_le _, fun j y hj => by omega⟩ ?_ ?_
 · exact ⟨⟨Y, Y, Y, trivial⟩, trivial, Y⟩
 · intro i ⟨hi, h0⟩ J hJ
   refine xb Y ?_ ?_ <;> intro h
   · have h : i < l.length := by simpa using h
     obtain ⟨x, hx⟩ := gx h; have hg := gm (fun n => [i64 n]) hx; by_cases h1 : x < v
     · skip
       refine xj (k := 2) Y (xs Y (nn_ _) (y9 Y _ hg (xs Y Y (xj (k := 4) Y ?_)))); refine xb Y (fun b0 => ?_) (fun b0 => ?_); rotate_left; exact absurd b0 (by simp; omega)
       all_goals first
        | exact q9 Y (hJ _ (i + 1) ⟨by omega, qg hx h0 (by simpa using b0)⟩ (by omega) ⟨⟨cwi (by omega) (by omega) (by omega), Y, Y, trivial⟩, trivial, Y⟩)
        | (exfalso; simp at b0; omega)
     · have hnx : ∀ y, l[i]? = some y → ¬ y < v := fun y hy => by rw [hx] at hy; cases hy; exact h1
       by_cases h2 : x = v
       · have hbt : b = true := by rw [← hb, q1x hs h0 hnx, hx, h2]; simp
         subst hbt; refine xj (k := 2) Y (xs Y (nn_ _) (y9 Y _ hg (xs Y Y (xj (k := 4) Y ?_)))); refine xb Y ?_ ?_ <;> intro b0
         exact absurd b0 (by simp; omega); refine xb Y ?_ ?_ <;> intro b1
         refine xj (k := 2) Y (xs Y (nn_ _) (y9 Y _ hg (xs Y Y (xj (k := 4) Y ?_)))); refine xb Y ?_ ?_ <;> intro b2
         refine xr Y (zm Y ⟨⟨Y, Y, trivial⟩, z6 Y⟩); exact absurd b2 (by simp; omega); exact absurd b1 (by simp; omega)
         all_goals first
          | (exfalso; simp at b0; omega)
          | (exfalso; simp at b1; omega)
          | (exfalso; simp at b2; omega)
       · have hbt : b = false := by rw [← hb, q1x hs h0 hnx, hx]; simpa using h2
         have hp := q64 (v := v) (Nat.le_of_lt h) h0 hnx; rw [hx, if_neg (by simpa using h2)] at hp; subst hbt; refine xj (k := 2) Y (xs Y (nn_ _) (y9 Y _ hg (xs Y Y (xj (k := 4) Y ?_)))); refine xb Y ?_ ?_ <;> intro b0
         exact absurd b0 (by simp; omega); refine xb Y ?_ ?_ <;> intro b1
         refine xj (k := 2) Y (xs Y (nn_ _) (y9 Y _ hg (xs Y Y (xj (k := 4) Y ?_)))); refine xb Y ?_ ?_ <;> intro b2
         exact absurd b2 (by simp; omega); refine yb Y [] (Tk [1, 2, 3, 5, 8, 9, 10] (.alt 0 (.alt 4 (.alt 6 (.alt 7 (.alt 11 (.take 12 [] .done) .nil) .nil) .nil) (.alt 6 (.alt 4 (.alt 7 (.alt 11 (.take 12 [] .done) .nil) .nil) .nil) .nil)) (.alt 6 (.alt 0 (.alt 4 (.alt 7 (.alt 11 (.take 12 [] .done) .nil) .nil) .nil) .nil) .nil))) (by kernel_rfl) (xs Y (.inl Y) (xs Y (nn_ _) (xs Y (nn_ _) (xs Y (by simp; omega) (xs Y (by simp) (xs Y (nn_ _) (xs Y (by simp; omega) (xs Y (by simp) ?_)))))))); refine yr Y ?_ ?_; refine xs Y trivial ?_; refine yr Y ?_ ?_; refine xs Y Y (xs Y (y0l _ _ _) (xs Y (fun _ => q0l _ _ _) (xs Y (by simp; omega) (xs Y (by simp; omega) (xs Y ⟨trivial, trivial⟩ (xs Y (by simp) (xs Y Y (xs Y (.inl Y) (xs Y (by simp; omega) ?_))))))))); refine xs Y (by simp; omega) (xs Y (by simp) (xs Y (y0l _ _ _) (xs Y (fun _ => q0l _ _ _) (xs Y (by simp; omega) (xs Y (by simp; omega) ?_))))); refine xr Y (zm Y ⟨⟨Y, ⟨?_, ?_, .inl Y⟩, trivial⟩, z6 Y⟩); rotate_left; rotate_left; refine xs Y ⟨trivial, trivial⟩ (xs Y Y (xs Y (y0l _ _ _) (xs Y (fun _ => q0l _ _ _) (xs Y (by simp; omega) (xs Y (by simp; omega) (xs Y (by simp) (xs Y Y (xs Y (.inl Y) (xs Y (by simp; omega) ?_))))))))); refine xs Y (by simp; omega) (xs Y (by simp) (xs Y (y0l _ _ _) (xs Y (fun _ => q0l _ _ _) (xs Y (by simp; omega) (xs Y (by simp; omega) ?_))))); refine xr Y (zm Y ⟨⟨Y, ⟨?_, ?_, .inl Y⟩, trivial⟩, z6 Y⟩); rotate_left; rotate_left; refine xs Y ⟨trivial, trivial⟩ (xs Y trivial (xs Y Y (xs Y (y0l _ _ _) (xs Y (fun _ => q0l _ _ _) (xs Y (by simp; omega) (xs Y (by simp; omega) (xs Y (by simp) (xs Y Y (xs Y (.inl Y) ?_))))))))); refine xs Y (by simp; omega) (xs Y (by simp; omega) (xs Y (by simp) (xs Y (y0l _ _ _) (xs Y (fun _ => q0l _ _ _) (xs Y (by simp; omega) (xs Y (by simp; omega) ?_)))))); refine xr Y (zm Y ⟨⟨Y, ⟨?_, ?_, .inl Y⟩, trivial⟩, z6 Y⟩); rotate_left; rotate_left; exact absurd b1 (by simp; omega)
         all_goals first
          | (exfalso; simp at b0; omega)
          | (exfalso; simp at b1; omega)
          | (exfalso; simp at b2; omega)
          | exact List.length_append.symm
          | (rw [hp]; simp [ints, List.map_take, List.map_drop, List.take_of_length_le]; done)
   · have h : i = l.length := by have : ¬ i < l.length := (by simpa using h); omega
     subst h; have hc := q1x hs h0 (fun x hx => by rw [List.getElem?_eq_none (Nat.le_refl _)] at hx; cases hx); rw [List.getElem?_eq_none (Nat.le_refl _)] at hc; have hbf : b = false := by rw [← hb, hc]; rfl
     subst hbf; have hp := q64 (v := v) (Nat.le_refl _) h0 (fun x hx => by rw [List.getElem?_eq_none (Nat.le_refl _)] at hx; cases hx); rw [List.getElem?_eq_none (Nat.le_refl _), if_neg (by simp)] at hp; refine xj (k := 7) Y ?_; refine xb Y ?_ ?_ <;> intro b0
     exact absurd b0 (by simp [*]); refine xj (k := 7) Y (yb Y [] (Tk [1, 2, 3, 5, 8, 9, 10] (.alt 0 (.alt 4 (.alt 6 (.alt 7 (.alt 11 (.take 12 [] .done) .nil) .nil) .nil) (.alt 6 (.alt 4 (.alt 7 (.alt 11 (.take 12 [] .done) .nil) .nil) .nil) .nil)) (.alt 6 (.alt 0 (.alt 4 (.alt 7 (.alt 11 (.take 12 [] .done) .nil) .nil) .nil) .nil) .nil))) (by kernel_rfl) (xs Y (.inl Y) (xs Y (nn_ _) (xs Y (nn_ _) (xs Y (by simp) (xs Y (by simp) (xs Y (nn_ _) (xs Y (by simp) (xs Y (by simp) ?_))))))))); refine yr Y ?_ ?_; refine xs Y trivial ?_; refine yr Y ?_ ?_; refine xs Y Y (xs Y (y0l _ _ _) (xs Y (fun _ => q0l _ _ _) (xs Y (by simp; omega) (xs Y (by simp; omega) (xs Y ⟨trivial, trivial⟩ (xs Y (by simp) (xs Y Y (xs Y (.inl Y) (xs Y (by simp; omega) ?_))))))))); refine xs Y (by simp; omega) (xs Y (by simp) (xs Y (y0l _ _ _) (xs Y (fun _ => q0l _ _ _) (xs Y (by simp; omega) (xs Y (by simp; omega) ?_))))); refine xr Y (zm Y ⟨⟨Y, ⟨?_, ?_, .inl Y⟩, trivial⟩, z6 Y⟩); rotate_left; rotate_left; refine xs Y ⟨trivial, trivial⟩ (xs Y Y (xs Y (y0l _ _ _) (xs Y (fun _ => q0l _ _ _) (xs Y (by simp; omega) (xs Y (by simp; omega) (xs Y (by simp) (xs Y Y (xs Y (.inl Y) (xs Y (by simp; omega) ?_))))))))); refine xs Y (by simp; omega) (xs Y (by simp) (xs Y (y0l _ _ _) (xs Y (fun _ => q0l _ _ _) (xs Y (by simp; omega) (xs Y (by simp; omega) ?_))))); refine xr Y (zm Y ⟨⟨Y, ⟨?_, ?_, .inl Y⟩, trivial⟩, z6 Y⟩); rotate_left; rotate_left; refine xs Y ⟨trivial, trivial⟩ (xs Y trivial (xs Y Y (xs Y (y0l _ _ _) (xs Y (fun _ => q0l _ _ _) (xs Y (by simp; omega) (xs Y (by simp; omega) (xs Y (by simp) (xs Y Y (xs Y (.inl Y) ?_))))))))); refine xs Y (by simp; omega) (xs Y (by simp; omega) (xs Y (by simp) (xs Y (y0l _ _ _) (xs Y (fun _ => q0l _ _ _) (xs Y (by simp; omega) (xs Y (by simp; omega) ?_)))))); refine xr Y (zm Y ⟨⟨Y, ⟨?_, ?_, .inl Y⟩, trivial⟩, z6 Y⟩); rotate_left; rotate_left
     all_goals first
      | exact List.length_append.symm
      | (rw [hp]; simp [ints, List.map_take, List.map_drop, List.take_of_length_le]; done)
theorem z1a (x : Con) (hl : x.legs.length ≤ 1048576) : PC Tryz.prog 51 [.agg x.cs] (.one (.bor false [.l (ints (shF x.legs))])) := by
 refine PC.begin Tryz.func51 Y (by kernel_rfl) ?_; refine xs Y trivial ?_; refine qc Y (ι := Nat) (fun i => i ≤ x.legs.length) (fun i => ⟨[(4, sV (.int .i64 i)), (3, .one (.b (.l (ints (shF (x.legs.take i)))))), (1, .one (.a 1 0))], [(1, .var (x.cs.map .b))]⟩) (fun i => x.legs.length - i) 0 (Nat.zero_le _) ?_ ?_
 · exact ⟨⟨Y, I, I, trivial⟩, ⟨lcr, trivial⟩, Y⟩
 · intro i hi J hJ
   refine xb Y ?_ ?_ <;> intro h
   · have h : i < x.legs.length := by simpa using h
     obtain ⟨y, hy⟩ := gx h; have hg := gm Leg.cs hy; have hst := z6s hy; have hlen := y1m x.legs i
     cases hb : (shF (x.legs.take i)).contains y.s with
     | true =>
       have hp := z6n _ _ true hb (by omega) (y5g _)
       have he : y3w (shF (x.legs.take i)) y.s = shF (x.legs.take i) := by
        have := y6q (y5g (x.legs.take i)) hb; exact this
       rw [he] at hst; refine xs Y (nn_ _) (y9 Y _ hg (xs Y Y (z7 Y (hp) Y tv3 ?_))); exact q9 Y (hJ _ (i + 1) (by omega) (by omega) ⟨⟨cwi (by omega) (by omega) (by omega), (by rw [hst]; rfl), I, trivial⟩, ⟨lcr, trivial⟩, Y⟩)
     | false =>
       have hp := z6n _ _ false hb (by omega) (y5g _); refine xs Y (nn_ _) (y9 Y _ hg (xs Y Y (z7 Y (hp) Y tv3 ?_))); exact q9 Y (hJ _ (i + 1) (by omega) (by omega) ⟨⟨cwi (by omega) (by omega) (by omega), ⟨Y, Y, (by rw [hst])⟩, I, trivial⟩, ⟨lcr, trivial⟩, Y⟩)
   · have h : i = x.legs.length := by have : ¬ i < x.legs.length := (by simpa using h); omega
     subst h; rw [List.take_length]; refine xr Y (zm Y ⟨⟨Y, Y, trivial⟩, z6 Y⟩)
theorem qy (c : Clu) (ho : zz c) (id s : Int) : PC Tryz.prog 207 [.one (.p c.cs), .one (i64 id), .one (i64 s)] (rB (q17 c.cons id s)) := by
 refine PC.begin Tryz.func207 Y (by kernel_rfl) ?_; have hf := q0p c id ho.1.1
 cases h : y07 c.cons id with
 | none =>
   rw [q18 h] at hf; have e : q17 c.cons id s = false := by unfold q17; rw [h]
   rw [e]; refine z7 Y (hf) Y tv3 (xj (k := 11) Y ?_); refine xr Y (zm Y ⟨⟨Y, Y, trivial⟩, z6 Y⟩)
 | some x =>
   obtain ⟨i, hi, hx⟩ := y18 h; rw [hi] at hf; have hg := gm Con.cs hx; have hxl := ho.1.2 x (List.mem_of_getElem? hx); have e : q17 c.cons id s = (shF x.legs).any (fun y => y == s) := by unfold q17; rw [h, zas]
   rw [e]; refine z7 Y (hf) Y tv3 (xj (k := 6) Y (xs Y (nn_ _) (y9 Y _ hg (xs Y Y (xj (k := 2) Y (z7 Y (z1a x hxl) Y ⟨tv3, trivial⟩ (xj (k := 2) Y (z7 Y (z31 _ (shF x.legs) s Y (by have := y1m x.legs x.legs.length; rw [List.take_length] at this; omega)) Y tv3 (xj (k := 1) Y ?_))))))))); refine xr Y (zm Y ⟨⟨Y, Y, trivial⟩, z6 Y⟩)
   all_goals first
    | (exfalso; simp at b0; omega)
    | skip
theorem z1f (x : Con) (id : Int) : PC Tryz.prog 231 [.agg x.cs, .one (.p [i64 id])] (rB (x.id == id)) := by
 refine PC.begin Tryz.func231 Y (by kernel_rfl) ?_; refine xr Y (zm Y ⟨⟨Y, Y, trivial⟩, z6 Y⟩)
theorem q0w (c : Clu) (ho : zz c) (id : Int) (h : y07 c.cons id = none) : PC Tryz.prog 129 [.one (.p c.cs), .one (i64 id)] (.tup [.bor true [i64 0, .l []], .own false [.s (.bool false)]]) := by
 refine PC.begin Tryz.func129 Y (by kernel_rfl) ?_; have hi := q5w _ c.cons (fun x => x.id == id) 231 (.p [i64 id]) rfl (fun x _ => z1f x id) ho.1.1; rw [q18 h] at hi; refine z7 rfl (hi) rfl ⟨trivial, (List.forall_mem_cons.2 ⟨⟨trivial, trivial⟩, (fun _ h => nomatch h)⟩), trivial⟩ (xj (k := 1) rfl ?_); refine xr Y (zm Y ⟨(by decide), ⟨⟨Y, Y, Y, trivial⟩, ⟨Y, Y, trivial⟩, trivial⟩, z6 Y⟩)
theorem z0x (c : Clu) (ho : zz c) (id : Int) (x : Con) (h : y07 c.cons id = some x) : PC Tryz.prog 129 [.one (.p c.cs), .one (i64 id)] (.tup [.bor true x.cs, .own false [.s (.bool true)]]) := by
 refine PC.begin Tryz.func129 Y (by kernel_rfl) ?_; have hi := q5w _ c.cons (fun x => x.id == id) 231 (.p [i64 id]) rfl (fun x _ => z1f x id) ho.1.1; obtain ⟨i, hi0, hx⟩ := y18 h; rw [hi0] at hi; have hg := gm Con.cs hx; refine z7 rfl (hi) rfl ⟨trivial, (List.forall_mem_cons.2 ⟨⟨trivial, trivial⟩, (fun _ h => nomatch h)⟩), trivial⟩ (xj (k := 1) rfl (xs rfl (nn_ _) (y9 rfl _ hg (xs rfl rfl ?_)))); refine xr Y (zm Y ⟨(by decide), ⟨⟨Y, Y, Y, trivial⟩, ⟨Y, Y, trivial⟩, trivial⟩, z6 Y⟩)
 all_goals first
  | (exfalso; simp at b0; omega)
  | skip
theorem q1b (c : Clu) (ho : zz c) (id s : Int) : PC Tryz.prog 265 [.one (.p c.cs), .one (i64 id), .one (i64 s)] (rB (q17 c.cons id s)) := by
 refine PC.begin Tryz.func265 Y (by kernel_rfl) ?_
 cases h : y07 c.cons id with
 | none =>
   have e : q17 c.cons id s = false := by unfold q17; rw [h]
   rw [e]; refine z7 Y (q0w c ho id h) Y tv3 (xj (k := 6) Y ?_); refine xr Y (zm Y ⟨⟨Y, Y, trivial⟩, z6 Y⟩)
 | some x =>
   obtain ⟨i, hi, hx⟩ := y18 h; have hxl := ho.1.2 x (List.mem_of_getElem? hx); have e : q17 c.cons id s = decide (0 < (zo x s).length) := by unfold q17; rw [h, q78]
   rw [e]; refine z7 Y (z0x c ho id x h) Y tv3 (xj (k := 3) Y (z7 Y (z18 _ _ (by omega)) Y ⟨tv3, trivial, trivial⟩ (xj (k := 3) Y (xv Y Y Y ?_)))); all_goals (refine vb ?_; simp)
theorem y2t (rr : List (List Cell)) : PC Tryz.prog 166 [.one (.l rr)] (rI rr.length) := by
 refine PC.begin Tryz.func166 Y (by kernel_rfl) ?_; refine xr Y (zm Y ⟨⟨Y, Y, trivial⟩, z6 Y⟩)
theorem q1m (rr : List (List Cell)) : PC Tryz.prog 167 [.one (.l rr)] (rI rr.length) := by
 refine PC.begin Tryz.func167 Y (by kernel_rfl) ?_; refine xr Y (zm Y ⟨⟨Y, Y, trivial⟩, z6 Y⟩)
theorem q4r (rr : List (List Cell)) : PC Tryz.prog 256 [.one (.l rr)] (rI rr.length) := by
 refine PC.begin Tryz.func256 Y (by kernel_rfl) ?_; refine xr Y (zm Y ⟨⟨Y, Y, trivial⟩, z6 Y⟩)
theorem z2j (rows : List (List Cell)) (n : Int) (hl : rows.length ≤ 1048576) : PC Tryz.prog 233 [.one (i64 n), .one (.l rows)] (rB (within n 0 ((rows.length : Int) - 1))) := by
 refine PC.begin Tryz.func233 Y (by kernel_rfl) ?_; have hw : IntKind.i64.wrap ((rows.length : Int) - 1) = (rows.length : Int) - 1 := wrap_i64 (by omega) (by omega); refine z7 Y (y2t _) Y ⟨trivial, trivial⟩ (z7 Y (qo _ _ _) Y tv4 (xv Y Y Y ?_)); all_goals (refine vb ?_; rw [hw])
theorem z0g (rows : List (List Cell)) (n : Int) (hl : rows.length ≤ 1048576) : PC Tryz.prog 358 [.one (i64 n), .one (.l rows)] (rB (within n 0 ((rows.length : Int) - 1))) := by
 refine PC.begin Tryz.func358 Y (by kernel_rfl) ?_; have hw : IntKind.i64.wrap ((rows.length : Int) - 1) = (rows.length : Int) - 1 := wrap_i64 (by omega) (by omega); refine z7 Y (q1m _) Y ⟨trivial, trivial⟩ (z7 Y (qo _ _ _) Y tv4 (xv Y Y Y ?_)); all_goals (refine vb ?_; rw [hw])
theorem q2i (rows : List (List Cell)) (n : Int) (hl : rows.length ≤ 1048576) : PC Tryz.prog 157 [.one (i64 n), .one (.l rows)] (rB (within n 0 ((rows.length : Int) - 1))) := by
 refine PC.begin Tryz.func157 Y (by kernel_rfl) ?_; have hw : IntKind.i64.wrap ((rows.length : Int) - 1) = (rows.length : Int) - 1 := wrap_i64 (by omega) (by omega); refine z7 Y (q4r _) Y ⟨trivial, trivial⟩ (z7 Y (qo _ _ _) Y tv4 (xv Y Y Y ?_)); all_goals (refine vb ?_; rw [hw])
end Go.Proofs.YtjdiongbbijdpaaGreat
end
