/- WHAT IS PROVED: parts of the proof of fnExactOpenSession_holds: a frame for walks, what each Go function that it reaches answers, and plain lemmas; no condition beyond those that each theorem names. -/
import Derived.Test.YtlkjdcpcbnfbbaaCOs4
import Derived.WalkKit
import Derived.OrdersHeld
import Derived.DeepKeys
import Derived.Maps.RangeWalk
import Derived.Maps.OwnOps
import Derived.WideKeyEntry
import Derived.Deep.Slices
import Derived.ChangeArms
import Derived.WideShapes
import Derived.Test.YtlkjdcpcbnfbbaaProg
import Derived.Shelf.SlicesG.Delete
import Derived.Lib.OwnBridge
import Derived.Shelf.Spec.SlicesInsertGrow
set_option linter.unusedVariables false
set_option linter.unusedSimpArgs false
section
namespace Go.Proofs.Ytlkjdcpcbnfbbaa
open Go Go.Sx
abbrev tZb : AC := .b (.s (.int .i64 0))
abbrev tZc : Cell := .s (.int .i64 0)
abbrev tF (k : Nat) : Option Nat × Option (Bool × Nat × Nat) := (some k, some (false, k, 1))
abbrev tS : Option (Bool × Nat) := some (false, 1)
abbrev tNi : Option AV := some (.one .nil)
abbrev tEf : TI := ⟨(some (false, 1)), none, none, false, false, true, none, (some (.one (.b (.s .nilFunc)))), none, none, [], none⟩
abbrev tSl (n b : Nat) (r : List Cell) : TI := ⟨tS, some n, some (n, b), false, false, true, none, tNi, none, some r, [], none⟩
abbrev tSt (n : Nat) (z : List AC) (f : List (Option Nat × Option (Bool × Nat × Nat))) (c : Option (List CK)) : TI := ⟨some (true, n), none, none, false, false, true, none, some (.agg z), some z, none, f, c⟩
def tab : TT := (.node 89 (tSt 3 [tZb, tZb, .nil] [tF 0, tF 1, tF 2] none)
 (.node 33 (tSt 8 [tZb, tZb, .nil, .nil, .nil, .nil, .nil, .nil] [tF 0, tF 1, tF 2, ((some 3), (some (true, 3, 5)))] none)
 (.node 24 ⟨tS, (some 3), (some (3, 40)), false, false, true, none, tNi, none, (some [tZc, tZc, .l []]), [], none⟩
 (.node 5 ⟨tS, none, none, false, false, true, (some .u8), (some (.one (.b (.s (.int .u8 0))))), none, none, [], none⟩
 (.node 3 ⟨tS, none, none, false, false, true, (some .i64), (some (.one (tZb))), none, none, [], none⟩
 (.node 2 ⟨tS, none, none, false, false, true, (some .i64), (some (.one (tZb))), none, none, [], none⟩
 .leaf .leaf) (.node 4 ⟨tS, none, none, false, true, true, none, (some (.one (.b (.s (.bool false))))), none, none, [], none⟩
 .leaf .leaf)) (.node 22 ⟨tS, (some 3), (some (3, 40)), false, false, true, none, tNi, none, (some [tZc, tZc, .l []]), [], none⟩
 (.node 9 ⟨tS, none, none, true, false, true, none, (some (.one (.b (.s (.string ByteArray.empty))))), none, none, [], none⟩
 .leaf .leaf) .leaf)) (.node 28 ⟨tS, (some 3), (some (3, 56)), false, false, true, none, tNi, none, (some [tZc, .l [], .l []]), [], none⟩
 (.node 26 ⟨tS, (some 6), (some (6, 128)), false, false, true, none, tNi, none, (some [tZc, .l [], .l [], .l [], .l [], .l []]), [], none⟩
 (.node 25 ⟨tS, (some 2), (some (2, 32)), false, false, true, none, tNi, none, (some [tZc, .l []]), [], none⟩
 .leaf .leaf) (.node 27 ⟨tS, (some 1), (some (1, 24)), false, false, true, none, tNi, none, (some [.l []]), [], none⟩
 .leaf .leaf)) (.node 31 (tSt 5 [.nil, .nil, .nil, .nil, .nil] [tF 0, tF 1, tF 2, tF 3, tF 4] none)
 (.node 29 (tSl 9 72 [tZc, tZc, tZc, tZc, tZc, tZc, tZc, tZc, tZc])
 .leaf .leaf) .leaf))) (.node 52 (tSl 3 24 [tZc, tZc, tZc])
 (.node 46 (tSt 4 [tZb, .nil, .nil, .nil] [tF 0, tF 1, ((some 2), (some (true, 2, 2)))] none)
 (.node 42 (tSl 1 1 [.s (.int .u8 0)])
 (.node 41 (tSl 3 24 [tZc, tZc, tZc])
 .leaf .leaf) (.node 44 (tSt 2 [.nil, .nil] [tF 0, tF 1] none)
 .leaf .leaf)) (.node 50 (tSt 2 [tZb, .nil] [tF 0, tF 1] none)
 (.node 48 ⟨tS, (some 4), (some (4, 48)), false, false, true, none, tNi, none, (some [.s (.bool false), tZc, .l [], tZc]), [], none⟩
 .leaf .leaf) .leaf)) (.node 65 (tSt 3 [tZb, tZb, .nil] [tF 0, tF 1, tF 2] none)
 (.node 55 (tSt 4 [tZb, .nil, .nil, .nil] [tF 0, tF 1, ((some 2), (some (true, 2, 2)))] none)
 (.node 53 (tSt 2 [.nil, .nil] [tF 0, tF 1] none)
 .leaf .leaf) (.node 63 (tSl 1 8 [tZc])
 .leaf .leaf)) (.node 87 ⟨tS, (some 1), (some (1, 24)), false, false, true, none, tNi, none, (some [.l []]), [], none⟩
 (.node 70 (tSt 3 [tZb, tZb, .nil] [tF 0, tF 1, tF 2] none)
 .leaf .leaf) .leaf)))) (.node 157 ⟨tS, (some 6), (some (6, 80)), false, false, true, none, tNi, none, (some [tZc, tZc, tZc, tZc, .l [], .l []]), [], none⟩
 (.node 134 (tSt 3 [tZb, tZb, .nil] [tF 0, ((some 1), (some (true, 1, 2)))] none)
 (.node 109 tEf
 (.node 93 (tSt 2 [tZb, .nil] [tF 0, tF 1] none)
 (.node 91 (tSl 4 32 [tZc, tZc, tZc, tZc])
 .leaf .leaf) (.node 95 (tSt 4 [.b (.s (.bool false)), tZb, .nil, tZb] [tF 0, ((some 1), (some (true, 1, 2))), tF 3] none)
 .leaf .leaf)) (.node 129 (tSt 3 [tZb, tZb, tZb] [tF 0, tF 1, tF 2] (some [.i .i64, .i .i64, .i .i64]))
 (.node 127 (tSt 3 [tZb, tZb, tZb] [tF 0, tF 1, tF 2] (some [.i .i64, .i .i64, .i .i64]))
 .leaf .leaf) .leaf)) (.node 151 (tSt 6 [tZb, .nil, .nil, .nil, .nil, .nil] [tF 0, tF 1, tF 2, tF 3, tF 4, tF 5] none)
 (.node 146 ⟨tS, none, none, false, false, true, (some .u64), (some (.one (.b (.s (.int .u64 0))))), none, none, [], none⟩
 (.node 137 (tSt 2 [tZb, tZb] [tF 0, tF 1] (some [.i .i64, .i .i64]))
 .leaf .leaf) (.node 149 (tSl 2 16 [tZc, tZc])
 .leaf .leaf)) (.node 155 (tSt 1 [.nil] [tF 0] none)
 (.node 153 ⟨tS, (some 6), (some (6, 64)), false, false, true, none, tNi, none, (some [tZc, tZc, tZc, tZc, tZc, .l []]), [], none⟩
 .leaf .leaf) .leaf))) (.node 189 (tSt 2 [tZb, tZb] [tF 0, tF 1] (some [.i .i64, .i .i64]))
 (.node 165 (tSt 9 [tZb, tZb, tZb, tZb, tZb, tZb, tZb, tZb, tZb] [tF 0, tF 1, tF 2, tF 3, tF 4, tF 5, tF 6, ((some 7), (some (true, 7, 2)))] (some [.i .i64, .i .i64, .i .i64, .i .i64, .i .i64, .i .i64, .i .i64, .i .i64, .i .i64]))
 (.node 160 (tSt 3 [tZb, .nil, .nil] [tF 0, tF 1, tF 2] none)
 (.node 158 (tSl 5 40 [tZc, tZc, tZc, tZc, tZc])
 .leaf .leaf) (.node 163 (tSt 2 [tZb, tZb] [tF 0, tF 1] (some [.i .i64, .i .i64]))
 .leaf .leaf)) (.node 179 ⟨tS, none, none, false, false, true, (some .u64), (some (.one (.b (.s (.int .u64 0))))), none, none, [], none⟩
 (.node 176 (tSt 4 [tZb, tZb, tZb, tZb] [tF 0, tF 1, tF 2, tF 3] (some [.i .i64, .i .i64, .i .i64, .i .i64]))
 .leaf .leaf) .leaf)) (.node 197 (tSt 5 [tZb, tZb, tZb, tZb, tZb] [tF 0, tF 1, tF 2, tF 3, tF 4] (some [.i .i64, .i .i64, .i .i64, .i .i64, .i .i64]))
 (.node 192 (tSt 6 [tZb, tZb, tZb, tZb, tZb, .nil] [tF 0, tF 1, tF 2, ((some 3), (some (true, 3, 2))), tF 5] none)
 (.node 190 (tSl 2 16 [tZc, tZc])
 .leaf .leaf) (.node 195 (tSt 6 [tZb, tZb, tZb, tZb, .nil, .nil] [tF 0, tF 1, tF 2, tF 3, tF 4, tF 5] none)
 .leaf .leaf)) (.node 203 tEf
 (.node 199 ⟨tS, none, none, false, false, true, none, (some (.one (.b (.s (.map none))))), none, none, [], none⟩
 .leaf .leaf) .leaf)))))
theorem tab_ok : tab = tab.map Try.prog := by kernel_rfl
instance : Tabled Try.prog := ⟨tab, tab_ok, by kernel_rfl⟩
end Go.Proofs.Ytlkjdcpcbnfbbaa
end
section
namespace Go.Proofs.Ytlkjdcpcbnfbbaa
open Go Go.Sx
set_option maxRecDepth 20000
abbrev sh_Leg : Sh := (.i .i64 (.i .i64 (.i .i64 (.i .i64 .nil))))
theorem inv_Leg {N : Nat} {row : List Cell} (h : WT N sh_Leg row) : ∃ (x0 : Int) (x1 : Int) (x2 : Int) (x3 : Int), row = [.s (.int .i64 x0), .s (.int .i64 x1), .s (.int .i64 x2), .s (.int .i64 x3)] := by
  obtain ⟨x0, _, rfl, g0⟩ := h.inv_i
  obtain ⟨x1, _, rfl, g1⟩ := g0.inv_i
  obtain ⟨x2, _, rfl, g2⟩ := g1.inv_i
  obtain ⟨x3, _, rfl, g3⟩ := g2.inv_i
  obtain rfl := g3.inv_nil
  exact ⟨x0, x1, x2, x3, rfl⟩
abbrev sh_Contract : Sh := (.i .i64 (.l sh_Leg .nil))
theorem inv_Contract {N : Nat} {row : List Cell} (h : WT N sh_Contract row) : ∃ (x0 : Int) (x1 : List (List Cell)), row = [.s (.int .i64 x0), .l x1] ∧ WR N sh_Leg x1 := by
  obtain ⟨x0, _, rfl, g0⟩ := h.inv_i
  obtain ⟨x1, _, rfl, h1, g1⟩ := g0.inv_l
  obtain rfl := g1.inv_nil
  exact ⟨x0, x1, rfl, h1⟩
abbrev sh_Balance : Sh := (.i .i64 (.i .i64 (.i .i64 .nil)))
theorem inv_Balance {N : Nat} {row : List Cell} (h : WT N sh_Balance row) : ∃ (x0 : Int) (x1 : Int) (x2 : Int), row = [.s (.int .i64 x0), .s (.int .i64 x1), .s (.int .i64 x2)] := by
  obtain ⟨x0, _, rfl, g0⟩ := h.inv_i
  obtain ⟨x1, _, rfl, g1⟩ := g0.inv_i
  obtain ⟨x2, _, rfl, g2⟩ := g1.inv_i
  obtain rfl := g2.inv_nil
  exact ⟨x0, x1, x2, rfl⟩
abbrev sh_Mark : Sh := (.i .i64 (.i .i64 .nil))
theorem inv_Mark {N : Nat} {row : List Cell} (h : WT N sh_Mark row) : ∃ (x0 : Int) (x1 : Int), row = [.s (.int .i64 x0), .s (.int .i64 x1)] := by
  obtain ⟨x0, _, rfl, g0⟩ := h.inv_i
  obtain ⟨x1, _, rfl, g1⟩ := g0.inv_i
  obtain rfl := g1.inv_nil
  exact ⟨x0, x1, rfl⟩
abbrev sh_Shard : Sh := (.i .i64 (.l sh_Balance (.l sh_Mark (.l sh_Contract (.l sh_Mark (.l (.i .i64 .nil) .nil))))))
theorem inv_Shard {N : Nat} {row : List Cell} (h : WT N sh_Shard row) : ∃ (x0 : Int) (x1 : List (List Cell)) (x2 : List (List Cell)) (x3 : List (List Cell)) (x4 : List (List Cell)) (x5 : List (List Cell)), row = [.s (.int .i64 x0), .l x1, .l x2, .l x3, .l x4, .l x5] ∧ WR N sh_Balance x1 ∧ WR N sh_Mark x2 ∧ WR N sh_Contract x3 ∧ WR N sh_Mark x4 ∧ WR N (.i .i64 .nil) x5 := by
  obtain ⟨x0, _, rfl, g0⟩ := h.inv_i
  obtain ⟨x1, _, rfl, h1, g1⟩ := g0.inv_l
  obtain ⟨x2, _, rfl, h2, g2⟩ := g1.inv_l
  obtain ⟨x3, _, rfl, h3, g3⟩ := g2.inv_l
  obtain ⟨x4, _, rfl, h4, g4⟩ := g3.inv_l
  obtain ⟨x5, _, rfl, h5, g5⟩ := g4.inv_l
  obtain rfl := g5.inv_nil
  exact ⟨x0, x1, x2, x3, x4, x5, rfl, h1, h2, h3, h4, h5⟩
abbrev sh_Vote : Sh := (.i .i64 (.i .i64 .nil))
theorem inv_Vote {N : Nat} {row : List Cell} (h : WT N sh_Vote row) : ∃ (x0 : Int) (x1 : Int), row = [.s (.int .i64 x0), .s (.int .i64 x1)] := by
  obtain ⟨x0, _, rfl, g0⟩ := h.inv_i
  obtain ⟨x1, _, rfl, g1⟩ := g0.inv_i
  obtain rfl := g1.inv_nil
  exact ⟨x0, x1, rfl⟩
abbrev sh_Slot : Sh := (.i .i64 (.i .i64 (.i .i64 (.i .i64 (.i .i64 (.l sh_Vote .nil))))))
theorem inv_Slot {N : Nat} {row : List Cell} (h : WT N sh_Slot row) : ∃ (x0 : Int) (x1 : Int) (x2 : Int) (x3 : Int) (x4 : Int) (x5 : List (List Cell)), row = [.s (.int .i64 x0), .s (.int .i64 x1), .s (.int .i64 x2), .s (.int .i64 x3), .s (.int .i64 x4), .l x5] ∧ WR N sh_Vote x5 := by
  obtain ⟨x0, _, rfl, g0⟩ := h.inv_i
  obtain ⟨x1, _, rfl, g1⟩ := g0.inv_i
  obtain ⟨x2, _, rfl, g2⟩ := g1.inv_i
  obtain ⟨x3, _, rfl, g3⟩ := g2.inv_i
  obtain ⟨x4, _, rfl, g4⟩ := g3.inv_i
  obtain ⟨x5, _, rfl, h5, g5⟩ := g4.inv_l
  obtain rfl := g5.inv_nil
  exact ⟨x0, x1, x2, x3, x4, x5, rfl, h5⟩
abbrev sh_Acceptor : Sh := (.l sh_Slot .nil)
theorem inv_Acceptor {N : Nat} {row : List Cell} (h : WT N sh_Acceptor row) : ∃ (x0 : List (List Cell)), row = [.l x0] ∧ WR N sh_Slot x0 := by
  obtain ⟨x0, _, rfl, h0, g0⟩ := h.inv_l
  obtain rfl := g0.inv_nil
  exact ⟨x0, rfl, h0⟩
abbrev sh_Try : Sh := (.i .i64 (.i .i64 (.i .i64 (.i .i64 (.l (.i .i64 .nil) (.l sh_Vote .nil))))))
theorem inv_Try {N : Nat} {row : List Cell} (h : WT N sh_Try row) : ∃ (x0 : Int) (x1 : Int) (x2 : Int) (x3 : Int) (x4 : List (List Cell)) (x5 : List (List Cell)), row = [.s (.int .i64 x0), .s (.int .i64 x1), .s (.int .i64 x2), .s (.int .i64 x3), .l x4, .l x5] ∧ WR N (.i .i64 .nil) x4 ∧ WR N sh_Vote x5 := by
  obtain ⟨x0, _, rfl, g0⟩ := h.inv_i
  obtain ⟨x1, _, rfl, g1⟩ := g0.inv_i
  obtain ⟨x2, _, rfl, g2⟩ := g1.inv_i
  obtain ⟨x3, _, rfl, g3⟩ := g2.inv_i
  obtain ⟨x4, _, rfl, h4, g4⟩ := g3.inv_l
  obtain ⟨x5, _, rfl, h5, g5⟩ := g4.inv_l
  obtain rfl := g5.inv_nil
  exact ⟨x0, x1, x2, x3, x4, x5, rfl, h4, h5⟩
abbrev sh_Heard : Sh := (.i .i64 (.i .i64 (.i .i64 (.i .i64 (.i .i64 .nil)))))
theorem inv_Heard {N : Nat} {row : List Cell} (h : WT N sh_Heard row) : ∃ (x0 : Int) (x1 : Int) (x2 : Int) (x3 : Int) (x4 : Int), row = [.s (.int .i64 x0), .s (.int .i64 x1), .s (.int .i64 x2), .s (.int .i64 x3), .s (.int .i64 x4)] := by
  obtain ⟨x0, _, rfl, g0⟩ := h.inv_i
  obtain ⟨x1, _, rfl, g1⟩ := g0.inv_i
  obtain ⟨x2, _, rfl, g2⟩ := g1.inv_i
  obtain ⟨x3, _, rfl, g3⟩ := g2.inv_i
  obtain ⟨x4, _, rfl, g4⟩ := g3.inv_i
  obtain rfl := g4.inv_nil
  exact ⟨x0, x1, x2, x3, x4, rfl⟩
abbrev sh_Leader : Sh := (.i .i64 (.l sh_Try (.l sh_Heard .nil)))
theorem inv_Leader {N : Nat} {row : List Cell} (h : WT N sh_Leader row) : ∃ (x0 : Int) (x1 : List (List Cell)) (x2 : List (List Cell)), row = [.s (.int .i64 x0), .l x1, .l x2] ∧ WR N sh_Try x1 ∧ WR N sh_Heard x2 := by
  obtain ⟨x0, _, rfl, g0⟩ := h.inv_i
  obtain ⟨x1, _, rfl, h1, g1⟩ := g0.inv_l
  obtain ⟨x2, _, rfl, h2, g2⟩ := g1.inv_l
  obtain rfl := g2.inv_nil
  exact ⟨x0, x1, x2, rfl, h1, h2⟩
abbrev sh_Message : Sh := (.i .i64 (.i .i64 (.i .i64 (.i .i64 (.i .i64 (.i .i64 (.i .i64 (.i .i64 (.i .i64 .nil)))))))))
theorem inv_Message {N : Nat} {row : List Cell} (h : WT N sh_Message row) : ∃ (x0 : Int) (x1 : Int) (x2 : Int) (x3 : Int) (x4 : Int) (x5 : Int) (x6 : Int) (x7 : Int) (x8 : Int), row = [.s (.int .i64 x0), .s (.int .i64 x1), .s (.int .i64 x2), .s (.int .i64 x3), .s (.int .i64 x4), .s (.int .i64 x5), .s (.int .i64 x6), .s (.int .i64 x7), .s (.int .i64 x8)] := by
  obtain ⟨x0, _, rfl, g0⟩ := h.inv_i
  obtain ⟨x1, _, rfl, g1⟩ := g0.inv_i
  obtain ⟨x2, _, rfl, g2⟩ := g1.inv_i
  obtain ⟨x3, _, rfl, g3⟩ := g2.inv_i
  obtain ⟨x4, _, rfl, g4⟩ := g3.inv_i
  obtain ⟨x5, _, rfl, g5⟩ := g4.inv_i
  obtain ⟨x6, _, rfl, g6⟩ := g5.inv_i
  obtain ⟨x7, _, rfl, g7⟩ := g6.inv_i
  obtain ⟨x8, _, rfl, g8⟩ := g7.inv_i
  obtain rfl := g8.inv_nil
  exact ⟨x0, x1, x2, x3, x4, x5, x6, x7, x8, rfl⟩
abbrev sh_Cluster : Sh := (.l sh_Contract (.l sh_Shard (.l sh_Acceptor (.l sh_Leader (.l sh_Message .nil)))))
abbrev sh_Session : Sh := (.i .i64 (.i .i64 (.l (.i .i64 .nil) .nil)))
theorem inv_Session {N : Nat} {row : List Cell} (h : WT N sh_Session row) : ∃ (x0 : Int) (x1 : Int) (x2 : List (List Cell)), row = [.s (.int .i64 x0), .s (.int .i64 x1), .l x2] ∧ WR N (.i .i64 .nil) x2 := by
  obtain ⟨x0, _, rfl, g0⟩ := h.inv_i
  obtain ⟨x1, _, rfl, g1⟩ := g0.inv_i
  obtain ⟨x2, _, rfl, h2, g2⟩ := g1.inv_l
  obtain rfl := g2.inv_nil
  exact ⟨x0, x1, x2, rfl, h2⟩
end Go.Proofs.Ytlkjdcpcbnfbbaa
end
section
namespace Go.Proofs.Ytlkjdcpcbnfbbaa
open Go Go.Sx
set_option maxRecDepth 20000
set_option maxHeartbeats 4000000
theorem sc_ints (us : List Int) : scalarRows (ints us) := fun row hr => by
  simp only [ints, List.mem_map] at hr
  obtain ⟨x, _, rfl⟩ := hr
  intro c hc
  exact ⟨_, by simpa using hc⟩
theorem cloneInt_pc (us : List Int) (hl : us.length ≤ 1048576) : PC Try.prog 60 [.one (.l (ints us))] (.one (.own false [.l 1 (ints us)])) := by
  refine PC.begin Try.func60 rfl (by kernel_rfl) ?_
  have hsc := sc_ints us
  refine xany rfl (fun b0 b0' => ?_)
  refine xb rfl (fun b1 => ?_) (fun b1 => ?_)
  refine xr rfl (xret rfl ⟨⟨rfl, ?_, trivial⟩, nodB_nodup rfl⟩)
  rotate_left
  refine xs rfl trivial ?_
  refine xs rfl rfl ?_
  refine xs rfl (by simp) ?_
  refine xs rfl (fun _ => hsc) ?_
  refine xs rfl (by simp; omega) ?_
  refine xs rfl (by simp; omega) ?_
  refine xr rfl (xret rfl ⟨⟨rfl, ⟨?_, rfl, .inl rfl⟩, trivial⟩, nodB_nodup rfl⟩)
  rotate_left
  · exact b0' b1
  · simp
end Go.Proofs.Ytlkjdcpcbnfbbaa
end
section
namespace Go.Proofs.Ytlkjdcpcbnfbbaa
open Go Go.Sx
set_option maxRecDepth 20000
set_option maxHeartbeats 4000000
theorem tk {α : Type} (f : α → List Cell) {us : List α} {i : Nat} {x : α} (hx : us[i]? = some x) : (us.take (i + 1)).map f = (us.take i).map f ++ [f x] := by
  rw [List.take_add_one, hx]; simp
end Go.Proofs.Ytlkjdcpcbnfbbaa
end
section
namespace Go.Proofs.Ytlkjdcpcbnfbbaa
open Go Go.Sx
set_option maxRecDepth 20000
set_option maxHeartbeats 4000000
theorem l1In_pc (n lo hi : Int) : PC Try.prog 25 [.one (i64 n), .one (i64 lo), .one (i64 hi)] (rB (within n lo hi)) := by
  refine PC.begin Try.func25 rfl (by kernel_rfl) ?_
  refine xb rfl (fun b0 => ?_) (fun b0 => ?_)
  refine xj (k := 3) rfl ?_
  refine xr rfl (xret rfl ⟨⟨rfl, ?_, trivial⟩, nodB_nodup rfl⟩)
  rotate_left
  refine xj (k := 3) rfl ?_
  refine xr rfl (xret rfl ⟨⟨rfl, ?_, trivial⟩, nodB_nodup rfl⟩)
  rotate_left
  all_goals (refine vb ?_; (simp_all [within] <;> omega))
theorem within_pc (n lo hi : Int) : PC Try.prog 58 [.one (i64 n), .one (i64 lo), .one (i64 hi)] (rB (within n lo hi)) := by
  refine PC.begin Try.func58 rfl (by kernel_rfl) ?_
  refine xb rfl (fun b0 => ?_) (fun b0 => ?_)
  refine xj (k := 3) rfl ?_
  refine xr rfl (xret rfl ⟨⟨rfl, ?_, trivial⟩, nodB_nodup rfl⟩)
  rotate_left
  refine xj (k := 3) rfl ?_
  refine xr rfl (xret rfl ⟨⟨rfl, ?_, trivial⟩, nodB_nodup rfl⟩)
  rotate_left
  all_goals (refine vb ?_; (simp_all [within] <;> omega))
theorem isNaN_pc (n : Int) : PC Try.prog 104 [.one (i64 n)] (rB false) := by
  refine PC.begin Try.func104 rfl (by kernel_rfl) ?_
  refine xr rfl (xret rfl ⟨⟨rfl, ?_, trivial⟩, nodB_nodup rfl⟩)
  all_goals (refine vb ?_; simp_all)
theorem compare_pc (a b : Int) : PC Try.prog 63 [.one (i64 a), .one (i64 b)] (rI (cmp3 a b)) := by
  refine PC.begin Try.func63 rfl (by kernel_rfl) ?_
  refine xcall rfl (isNaN_pc _) rfl ⟨trivial, trivial⟩ ?_
  refine xcall rfl (isNaN_pc _) rfl ⟨trivial, trivial⟩ ?_
  refine xj (k := 2) rfl ?_
  refine xb rfl (fun b0 => ?_) (fun b0 => ?_)
  refine xr rfl (xret rfl ⟨⟨rfl, ?_, trivial⟩, nodB_nodup rfl⟩)
  rotate_left
  refine xb rfl (fun b1 => ?_) (fun b1 => ?_)
  refine xr rfl (xret rfl ⟨⟨rfl, ?_, trivial⟩, nodB_nodup rfl⟩)
  rotate_left
  refine xr rfl (xret rfl ⟨⟨rfl, ?_, trivial⟩, nodB_nodup rfl⟩)
  rotate_left
  all_goals (refine vi ?_; simp_all [cmp3] <;> omega)
end Go.Proofs.Ytlkjdcpcbnfbbaa
end
section
namespace Go.Proofs.Ytlkjdcpcbnfbbaa
open Go Go.Sx
set_option maxRecDepth 20000
set_option maxHeartbeats 4000000
theorem bsSes_pc (us : List Ses) (f : Ses → Int) (fn : Nat) (t : Int) (hf : ∀ x ∈ us, PC Try.prog fn [.agg x.cs, .one (i64 t)] (rI (f x))) (hl : us.length ≤ 1048576) : PC Try.prog 61 [.one (.l (us.map Ses.cs)), .one (i64 t), .one (.f fn [])] (bsV f us) := by
  refine PC.begin Try.func61 rfl (by kernel_rfl) ?_
  have hn : (us.map Ses.cs).length = us.length := by simp
  refine xloop rfl (ι := Nat × Nat) (fun x => x.1 ≤ x.2 ∧ x.2 ≤ us.length ∧ bsr (bsC f us) x.1 x.2 = bsP f us) (fun x => ⟨[(9, sV (.int .i64 x.1)), (10, sV (.int .i64 x.2)), (8, sV (.int .i64 (us.map Ses.cs).length)), (0, .one (.b (.l (us.map Ses.cs)))), (1, sV (.int .i64 t)), (2, .one (.b (.f fn [])))], []⟩) (fun x => x.2 - x.1) (0, us.length) ⟨Nat.zero_le _, Nat.le_refl _, rfl⟩ ?_ ?_
  · exact ⟨⟨rfl, ci (by simp), rfl, rfl, rfl, rfl, trivial⟩, trivial, rfl⟩
  · intro ⟨i, j⟩ ⟨hij, hj, he⟩ J hJ
    dsimp only at hij hj he ⊢
    refine xb rfl (fun h => ?_) (fun h => ?_)
    · have h : i < j := by simpa using h
      obtain ⟨x, hx⟩ := gx (xs := us) (i := (i + j) / 2) (by omega)
      have hg := halfg Ses.cs (i := i) (j := j) (by omega) (by omega) hx
      have hxm := List.mem_of_getElem? hx
      have hc := bsC_some (f := f) hx
      refine xs rfl (Int.natCast_nonneg _) ?_
      refine xs rfl (half0 (by omega) (by omega)) ?_
      refine xrow rfl _ hg ?_
      refine xs rfl rfl ?_
      refine xcall rfl (hf _ hxm) rfl ⟨⟨trivial, trivial, trivial, trivial⟩, trivial, trivial⟩ ?_
      refine xb rfl (fun b0 => ?_) (fun b0 => ?_)
      rotate_left
      rotate_left
      · refine xcont rfl (hJ _ ((i + j) / 2 + 1, j) ⟨by dsimp only; omega, hj, ?_⟩ (by dsimp only; omega) ⟨⟨?_, rfl, rfl, rfl, rfl, rfl, trivial⟩, trivial, rfl⟩)
        · rw [← he, bsr_lo h (hc.trans b0)]
        · rw [half (by omega) (by omega)]; exact cwi (by omega) (by omega) (by omega)
      · refine xcont rfl (hJ _ (i, (i + j) / 2) ⟨by dsimp only; omega, by dsimp only; omega, ?_⟩ (by dsimp only; omega) ⟨⟨rfl, ci (half (by omega) (by omega)), rfl, rfl, rfl, rfl, trivial⟩, trivial, rfl⟩)
        rw [← he, bsr_hi h (hc.trans b0)]
    · have h : ¬ i < j := by simpa using h
      rw [bsr_end h] at he
      by_cases hin : i < us.length
      · obtain ⟨x, hx⟩ := gx hin
        have hg := gm Ses.cs hx
        have hxm := List.mem_of_getElem? hx
        have hF := bsF_some he.symm hx
        refine xb rfl (fun b0 => ?_) (fun b0 => ?_)
        refine xj (k := 3) rfl ?_
        refine xs rfl (Int.natCast_nonneg _) ?_
        refine xrow rfl _ hg ?_
        refine xs rfl rfl ?_
        refine xj (k := 3) rfl ?_
        refine xcall rfl (hf _ hxm) rfl ⟨⟨trivial, trivial, trivial, trivial⟩, trivial, trivial⟩ ?_
        refine xj (k := 2) rfl ?_
        refine xr rfl (xret rfl ⟨(by decide), ⟨⟨rfl, ?_, trivial⟩, ⟨rfl, ?_, trivial⟩, trivial⟩, nodB_nodup rfl⟩)
        rotate_left
        rotate_left
        refine xj (k := 8) rfl ?_
        refine xr rfl (xret rfl ⟨(by decide), ⟨⟨rfl, ?_, trivial⟩, ⟨rfl, ?_, trivial⟩, trivial⟩, nodB_nodup rfl⟩)
        rotate_left
        rotate_left
        all_goals first | (exfalso; simp at b0; omega) | (refine vi ?_; rw [he]; done) | (refine vb ?_; rw [hF]; done)
      · have hF := bsF_none he.symm (by omega)
        refine xb rfl (fun b0 => ?_) (fun b0 => ?_)
        refine xj (k := 3) rfl ?_
        refine xs rfl (Int.natCast_nonneg _) ?_
        rotate_left
        refine xj (k := 8) rfl ?_
        refine xr rfl (xret rfl ⟨(by decide), ⟨⟨rfl, ?_, trivial⟩, ⟨rfl, ?_, trivial⟩, trivial⟩, nodB_nodup rfl⟩)
        rotate_left
        rotate_left
        all_goals first | (exfalso; simp at b0; omega) | (refine vi ?_; rw [he]; done) | (refine vb ?_; rw [hF]; done)
theorem sessionAt1_pc (x : Ses) (c : Int) : PC Try.prog 62 [.agg x.cs, .one (i64 c)] (rI (cmp3 x.cl c)) := by
  refine PC.begin Try.func62 rfl (by kernel_rfl) ?_
  refine xcall rfl (compare_pc _ _) rfl ⟨trivial, trivial, trivial⟩ ?_
  refine xr rfl (xret rfl ⟨⟨rfl, rfl, trivial⟩, nodB_nodup rfl⟩)
theorem sessionAt_pc (us : List Ses) (c : Int) (hl : us.length ≤ 1048576) : PC Try.prog 32 [.one (.l (us.map Ses.cs)), .one (i64 c)] (bsV (fun x : Ses => cmp3 x.cl c) us) := by
  refine PC.begin Try.func32 rfl (by kernel_rfl) ?_
  have hbs := fun fn hf => bsSes_pc us (fun x => cmp3 x.cl c) fn c hf hl
  refine xcall rfl (hbs _ (fun x _ => sessionAt1_pc x c)) rfl ⟨trivial, trivial, (fun _ h => nomatch h), trivial⟩ ?_
  refine xr rfl (xret rfl ⟨(by decide), ⟨⟨rfl, rfl, trivial⟩, ⟨rfl, rfl, trivial⟩, trivial⟩, nodB_nodup rfl⟩)
theorem isClient_pc (n : Int) : PC Try.prog 30 [.one (i64 n)] (rB (within n 1 999)) := by
  refine PC.begin Try.func30 rfl (by kernel_rfl) ?_
  refine xcall rfl (within_pc _ _ _) rfl ⟨trivial, trivial, trivial, trivial⟩ ?_
  refine xr rfl (xret rfl ⟨⟨rfl, rfl, trivial⟩, nodB_nodup rfl⟩)
theorem sSes_pc (ss : List Ses) (hl : ss.length ≤ 1048576) (hs : ∀ x ∈ ss, x.sent.length ≤ 1048576) : PC Try.prog 24 [.one (.l (ss.map Ses.cs))] (rI (sesFault ss)) := by
  refine PC.begin Try.func24 rfl (by kernel_rfl) ?_
  have hle : (ss.map Ses.cs).length = ss.length := by simp
  unfold sesFault
  by_cases hm : 10 < ss.length
  · rw [if_pos hm]
    refine xb rfl (fun b0 => ?_) (fun b0 => ?_)
    refine xr rfl (xret rfl ⟨⟨rfl, rfl, trivial⟩, nodB_nodup rfl⟩)
    exact absurd b0 (by simp; omega)
    all_goals first | (exfalso; simp at b0; omega) | skip
  · rw [if_neg hm]
    refine xb rfl (fun b0 => ?_) (fun b0 => ?_)
    exact absurd b0 (by simp; omega)
    all_goals first | (exfalso; simp at b0; omega) | skip
    refine xloop rfl (ι := Nat) (fun i => i ≤ ss.length ∧ ∀ j, j < i → sesF ss j = 0) (fun i => ⟨[(3, sV (.int .i64 i)), (0, .one (.b (.l (ss.map Ses.cs))))], []⟩) (fun i => ss.length - i) 0 ⟨Nat.zero_le _, fun j hj => by omega⟩ ?_ ?_
    · exact ⟨⟨rfl, rfl, trivial⟩, trivial, rfl⟩
    · intro i ⟨hi, h0⟩ J hJ
      refine xb rfl (fun h => ?_) (fun h => ?_)
      · have h : i < ss.length := by simpa using h
        obtain ⟨x, hx⟩ := gx h
        have hg := gm Ses.cs hx
        have hxs := hs x (List.mem_of_getElem? hx)
        by_cases hr : (within x.cl 1 999 && within x.nx 1 1000) = true
        · have hF : sesF ss i = if Go.Sx.ahead (fun p x : Ses => decide (p.cl < x.cl)) ss i x && sentB x then 0 else 1 := by unfold sesF; rw [hx]; simp only [hr]; rfl
          have hr2 : 1 ≤ x.nx ∧ x.nx ≤ 1000 := by simp [within] at hr; omega
          have hwn : IntKind.i64.wrap (x.nx - 1) = x.nx - 1 := wrap_i64 (by omega) (by omega)
          simp only [Bool.and_eq_true] at hr
          rcases Nat.eq_zero_or_pos i with hz | hz
          · subst hz
            rw [ahead_zero] at hF
            refine xs rfl (Int.natCast_nonneg _) ?_
            refine xrow rfl _ hg ?_
            refine xs rfl rfl ?_
            refine xcall rfl (l1In_pc _ _ _) rfl ⟨trivial, trivial, trivial, trivial⟩ ?_
            refine xb rfl (fun b0 => ?_) (fun b0 => ?_)
            exact absurd b0 (by simp [*])
            refine xj (k := 2) rfl ?_
            refine xcall rfl (l1In_pc _ _ _) rfl ⟨trivial, trivial, trivial, trivial⟩ ?_
            refine xj (k := 2) rfl ?_
            refine xb rfl (fun b1 => ?_) (fun b1 => ?_)
            exact absurd b1 (by simp [*])
            refine xdraw rfl [] (.take 0 [] (.take 1 [] (.take 2 [] (.take 3 [] (.take 4 [11, 12, 13, 14, 15, 16, 17, 18, 19, 20, 21] (.take 5 [] (.take 6 [] (.take 7 [] (.take 8 [] (.take 9 [] (.take 10 [11, 12, 13, 14, 15, 16, 17, 18, 19, 20, 21] (.take 11 [] (.take 12 [] (.take 13 [] (.take 14 [] (.take 15 [16, 20, 21] (.take 16 [] (.take 17 [] (.take 18 [19, 20, 21] (.take 19 [] (.take 20 [] (.take 21 [] .done)))))))))))))))))))))) (by kernel_rfl) ?_
            refine xj (k := 18) rfl ?_
            refine xb rfl (fun b2 => ?_) (fun b2 => ?_)
            refine xr rfl (xret rfl ⟨⟨rfl, ?_, trivial⟩, nodB_nodup rfl⟩)
            rotate_left
            rotate_left
            all_goals first
              | (exfalso; simp_all; done)
              | (refine vi (scan_hit' (c := 1) h h0 ?_ (by decide)); rw [hF, sentB]; simp_all; done)
              | skip
            have hlen : (x.sent.length : Int) = x.nx - 1 := by simp_all
            refine xloop rfl (ι := Nat) (fun k => k ≤ x.sent.length ∧ ∀ (j : Nat) (n : Int), j < k → x.sent[j]? = some n → n = (j : Int) + 1) (fun k => ⟨[(5, sV (.int .i64 k)), (4, .one (.a 4 0)), (3, sV (.int .i64 (0 : Nat))), (0, .one (.b (.l (ss.map Ses.cs))))], [(4, .var (x.cs.map .b))]⟩) (fun k => x.sent.length - k) 0 ⟨Nat.zero_le _, fun j n hj => by omega⟩ ?_ ?_
            · exact ⟨⟨rfl, ⟨rfl, rfl, rfl⟩, rfl, rfl, trivial⟩, ⟨⟨rfl, rfl, rfl, trivial⟩, trivial⟩, rfl⟩
            · intro k ⟨hk, hk0⟩ J2 hJ2
              by_cases hkl : k < x.sent.length
              · obtain ⟨n, hn⟩ := gx hkl
                have hgn : (ints x.sent)[k]? = some [i64 n] := by simp [ints, hn]
                have hwk : IntKind.i64.wrap ((k : Int) + 1) = (k : Int) + 1 := wrap_i64 (by omega) (by omega)
                refine xb rfl (fun b0 => ?_) (fun b0 => ?_)
                refine xs rfl (Int.natCast_nonneg _) ?_
                refine xrow rfl _ hgn ?_
                refine xs rfl rfl ?_
                refine xb rfl (fun b1 => ?_) (fun b1 => ?_)
                refine xr rfl (xret rfl ⟨⟨rfl, ?_, trivial⟩, nodB_nodup rfl⟩)
                rotate_left
                rotate_left
                exact absurd b0 (by simp; omega)
                all_goals first
                  | (exfalso; simp [ints] at b0; omega)
                  | (refine vi (scan_hit' (c := 1) h h0 ?_ (by decide)); rw [hF, sentB, sentL_no hn (by rw [hwk] at b1; simpa using b1)]; simp; done)
                  | exact xcont rfl (hJ2 _ (k + 1) ⟨by omega, fun j m hj hm => by
                      by_cases e : j = k
                      · subst e; rw [hn] at hm; cases hm; rw [hwk] at b1; simpa using b1
                      · exact hk0 j m (by omega) hm⟩ (by omega) ⟨⟨cwi (by omega) (by omega) (by omega), ⟨rfl, rfl, rfl⟩, rfl, rfl, trivial⟩, ⟨⟨rfl, rfl, rfl, trivial⟩, trivial⟩, rfl⟩)
                  | skip
              · have e : k = x.sent.length := by omega
                subst e
                refine xb rfl (fun b0 => ?_) (fun b0 => ?_)
                exact absurd b0 (by simp [*])
                all_goals first
                  | (exfalso; simp [ints] at b0; done)
                  | exact xcont rfl (hJ _ 1 ⟨by omega, scan_step h0 (by rw [hF, sentB, sentL_yes hk0]; simp [hlen])⟩ (by omega) ⟨⟨cwi (by omega) (by omega) (by omega), rfl, trivial⟩, trivial, rfl⟩)
                  | skip
          · obtain ⟨p, hp⟩ := gx (xs := ss) (i := i - 1) (by omega)
            have hgp := gprev Ses.cs hz (by omega) hp
            rw [ahead_pos hz hp] at hF
            refine xs rfl (Int.natCast_nonneg _) ?_
            refine xrow rfl _ hg ?_
            refine xs rfl rfl ?_
            refine xcall rfl (l1In_pc _ _ _) rfl ⟨trivial, trivial, trivial, trivial⟩ ?_
            refine xb rfl (fun b0 => ?_) (fun b0 => ?_)
            exact absurd b0 (by simp [*])
            refine xj (k := 2) rfl ?_
            refine xcall rfl (l1In_pc _ _ _) rfl ⟨trivial, trivial, trivial, trivial⟩ ?_
            refine xj (k := 2) rfl ?_
            refine xb rfl (fun b1 => ?_) (fun b1 => ?_)
            exact absurd b1 (by simp [*])
            refine xdraw rfl [] (.take 0 [] (.take 1 [] (.take 2 [] (.take 3 [] (.take 4 [11, 12, 13, 14, 15, 16, 17, 18, 19, 20, 21] (.take 5 [] (.take 6 [] (.take 7 [] (.take 8 [] (.take 9 [] (.take 10 [11, 12, 13, 14, 15, 16, 17, 18, 19, 20, 21] (.take 11 [] (.take 12 [] (.take 13 [] (.take 14 [] (.take 15 [16, 20, 21] (.take 16 [] (.take 17 [] (.take 18 [19, 20, 21] (.take 19 [] (.take 20 [] (.take 21 [] .done)))))))))))))))))))))) (by kernel_rfl) ?_
            refine xb rfl (fun b2 => ?_) (fun b2 => ?_)
            refine xj (k := 5) rfl ?_
            refine xs rfl (wprev hz (by omega)) ?_
            refine xrow rfl _ hgp ?_
            refine xs rfl rfl ?_
            refine xj (k := 4) rfl ?_
            refine xb rfl (fun b3 => ?_) (fun b3 => ?_)
            refine xj (k := 8) rfl ?_
            refine xr rfl (xret rfl ⟨⟨rfl, ?_, trivial⟩, nodB_nodup rfl⟩)
            rotate_left
            refine xj (k := 7) rfl ?_
            refine xb rfl (fun b4 => ?_) (fun b4 => ?_)
            refine xr rfl (xret rfl ⟨⟨rfl, ?_, trivial⟩, nodB_nodup rfl⟩)
            rotate_left
            rotate_left
            exact absurd b2 (by simp; omega)
            all_goals first
              | (exfalso; simp_all; done)
              | (refine vi (scan_hit' (c := 1) h h0 ?_ (by decide)); rw [hF, sentB]; simp_all; done)
              | (refine vi (scan_hit' (c := 1) h h0 ?_ (by decide)); rw [hF, sentB]; simp_all; omega)
              | skip
            have hlen : (x.sent.length : Int) = x.nx - 1 := by simp_all
            have hA : decide (p.cl < x.cl) = true := by simp_all
            refine xloop rfl (ι := Nat) (fun k => k ≤ x.sent.length ∧ ∀ (j : Nat) (n : Int), j < k → x.sent[j]? = some n → n = (j : Int) + 1) (fun k => ⟨[(5, sV (.int .i64 k)), (4, .one (.a 4 0)), (3, sV (.int .i64 i)), (0, .one (.b (.l (ss.map Ses.cs))))], [(4, .var (x.cs.map .b))]⟩) (fun k => x.sent.length - k) 0 ⟨Nat.zero_le _, fun j n hj => by omega⟩ ?_ ?_
            · exact ⟨⟨rfl, ⟨rfl, rfl, rfl⟩, rfl, rfl, trivial⟩, ⟨⟨rfl, rfl, rfl, trivial⟩, trivial⟩, rfl⟩
            · intro k ⟨hk, hk0⟩ J2 hJ2
              by_cases hkl : k < x.sent.length
              · obtain ⟨n, hn⟩ := gx hkl
                have hgn : (ints x.sent)[k]? = some [i64 n] := by simp [ints, hn]
                have hwk : IntKind.i64.wrap ((k : Int) + 1) = (k : Int) + 1 := wrap_i64 (by omega) (by omega)
                refine xb rfl (fun b0 => ?_) (fun b0 => ?_)
                refine xs rfl (Int.natCast_nonneg _) ?_
                refine xrow rfl _ hgn ?_
                refine xs rfl rfl ?_
                refine xb rfl (fun b1 => ?_) (fun b1 => ?_)
                refine xr rfl (xret rfl ⟨⟨rfl, ?_, trivial⟩, nodB_nodup rfl⟩)
                rotate_left
                rotate_left
                exact absurd b0 (by simp; omega)
                all_goals first
                  | (exfalso; simp [ints] at b0; omega)
                  | (refine vi (scan_hit' (c := 1) h h0 ?_ (by decide)); rw [hF, sentB, sentL_no hn (by rw [hwk] at b1; simpa using b1)]; simp; done)
                  | exact xcont rfl (hJ2 _ (k + 1) ⟨by omega, fun j m hj hm => by
                      by_cases e : j = k
                      · subst e; rw [hn] at hm; cases hm; rw [hwk] at b1; simpa using b1
                      · exact hk0 j m (by omega) hm⟩ (by omega) ⟨⟨cwi (by omega) (by omega) (by omega), ⟨rfl, rfl, rfl⟩, rfl, rfl, trivial⟩, ⟨⟨rfl, rfl, rfl, trivial⟩, trivial⟩, rfl⟩)
                  | skip
              · have e : k = x.sent.length := by omega
                subst e
                refine xb rfl (fun b0 => ?_) (fun b0 => ?_)
                exact absurd b0 (by simp [*])
                all_goals first
                  | (exfalso; simp [ints] at b0; done)
                  | exact xcont rfl (hJ _ (i + 1) ⟨by omega, scan_step h0 (by rw [hF, sentB, sentL_yes hk0, hA]; simp [hlen])⟩ (by omega) ⟨⟨cwi (by omega) (by omega) (by omega), rfl, trivial⟩, trivial, rfl⟩)
                  | skip
        · have hF : sesF ss i = 3 := by unfold sesF; rw [hx]; simp only [hr]; rfl
          refine xs rfl (Int.natCast_nonneg _) ?_
          refine xrow rfl _ hg ?_
          refine xs rfl rfl ?_
          refine xcall rfl (l1In_pc _ _ _) rfl ⟨trivial, trivial, trivial, trivial⟩ ?_
          refine xb rfl (fun b0 => ?_) (fun b0 => ?_)
          refine xj (k := 5) rfl ?_
          refine xr rfl (xret rfl ⟨⟨rfl, ?_, trivial⟩, nodB_nodup rfl⟩)
          rotate_left
          refine xj (k := 2) rfl ?_
          refine xcall rfl (l1In_pc _ _ _) rfl ⟨trivial, trivial, trivial, trivial⟩ ?_
          refine xj (k := 2) rfl ?_
          refine xb rfl (fun b1 => ?_) (fun b1 => ?_)
          refine xr rfl (xret rfl ⟨⟨rfl, ?_, trivial⟩, nodB_nodup rfl⟩)
          rotate_left
          refine xdraw rfl [] (.take 0 [] (.take 1 [] (.take 2 [] (.take 3 [] (.take 4 [11, 12, 13, 14, 15, 16, 17, 18, 19, 20, 21] (.take 5 [] (.take 6 [] (.take 7 [] (.take 8 [] (.take 9 [] (.take 10 [11, 12, 13, 14, 15, 16, 17, 18, 19, 20, 21] (.take 11 [] (.take 12 [] (.take 13 [] (.take 14 [] (.take 15 [16, 20, 21] (.take 16 [] (.take 17 [] (.take 18 [19, 20, 21] (.take 19 [] (.take 20 [] (.take 21 [] .done)))))))))))))))))))))) (by kernel_rfl) ?_
          refine xb rfl (fun b2 => ?_) (fun b2 => ?_)
          refine xj (k := 5) rfl ?_
          refine xs rfl ?_ ?_
          rotate_left
          rotate_left
          refine xj (k := 17) rfl ?_
          refine xb rfl (fun b3 => ?_) (fun b3 => ?_)
          refine xr rfl (xret rfl ⟨⟨rfl, ?_, trivial⟩, nodB_nodup rfl⟩)
          rotate_left
          rotate_left
          all_goals first
            | (refine vi (scan_hit' h h0 hF (by decide)); done)
            | (exfalso; simp_all; done)
            | skip
      · have h : ¬ i < ss.length := by simpa using h
        have hz := scan_zero (f := sesF ss) (n := ss.length) (fun j hj => h0 j (by omega))
        refine xr rfl (xret rfl ⟨⟨rfl, ?_, trivial⟩, nodB_nodup rfl⟩)
        exact vi (hz.symm)
theorem sizeInt_pc2 (rr : List (List Cell)) : PC Try.prog 103 [.one (.l rr)] (rI rr.length) := by
  refine PC.begin Try.func103 rfl (by kernel_rfl) ?_
  refine xr rfl (xret rfl ⟨⟨rfl, rfl, trivial⟩, nodB_nodup rfl⟩)
theorem sentOk_pc (x : Ses) (hl : x.sent.length ≤ 1048576) (hn : 1 ≤ x.nx ∧ x.nx ≤ 1000) : PC Try.prog 59 [.agg x.cs] (rB (sentB x)) := by
  refine PC.begin Try.func59 rfl (by kernel_rfl) ?_
  have hle : (ints x.sent).length = x.sent.length := by simp
  have hwn : IntKind.i64.wrap (x.nx - 1) = x.nx - 1 := wrap_i64 (by omega) (by omega)
  refine xloop rfl (ι := Nat) (fun k => k ≤ x.sent.length ∧ ∀ (j : Nat) (n : Int), j < k → x.sent[j]? = some n → n = (j : Int) + 1) (fun k => ⟨[(8, sV (.int .i64 k)), (7, sV (.int .i64 (ints x.sent).length)), (6, .one (.b (.l (ints x.sent)))), (1, .one (.a 1 0))], [(1, .var (x.cs.map .b))]⟩) (fun k => x.sent.length - k) 0 ⟨Nat.zero_le _, fun j n hj => by omega⟩ ?_ ?_
  · exact ⟨⟨rfl, rfl, rfl, ⟨rfl, rfl, rfl⟩, trivial⟩, ⟨lcr, trivial⟩, rfl⟩
  · intro k ⟨hk, hk0⟩ J hJ
    refine xb rfl (fun h => ?_) (fun h => ?_)
    · have h : k < x.sent.length := by simpa [ints] using h
      obtain ⟨n, hn⟩ := gx h
      have hg : (ints x.sent)[k]? = some [i64 n] := by simp [ints, hn]
      have hwk : IntKind.i64.wrap ((k : Int) + 1) = (k : Int) + 1 := wrap_i64 (by omega) (by omega)
      refine xs rfl (Int.natCast_nonneg _) ?_
      refine xrow rfl _ hg ?_
      refine xs rfl rfl ?_
      refine xb rfl (fun b0 => ?_) (fun b0 => ?_)
      refine xr rfl (xret rfl ⟨⟨rfl, ?_, trivial⟩, nodB_nodup rfl⟩)
      rotate_left
      rotate_left
      all_goals first
        | (refine vb ?_; rw [sentB, sentL_no hn (by rw [hwk] at b0; simpa using b0)]; rfl)
        | exact xcont rfl (hJ _ (k + 1) ⟨by omega, fun j m hj hm => by
            by_cases e : j = k
            · subst e; rw [hn] at hm; cases hm; rw [hwk] at b0; simpa using b0
            · exact hk0 j m (by omega) hm⟩ (by omega) ⟨⟨cwi (by omega) (by omega) (by omega), rfl, rfl, ⟨rfl, rfl, rfl⟩, trivial⟩, ⟨lcr, trivial⟩, rfl⟩)
        | skip
    · have h : k = x.sent.length := by have : ¬ k < x.sent.length := by simpa [ints] using h
                                       omega
      subst h
      refine xdraw rfl [] (.take 0 [] (.take 1 [2, 6, 7] (.take 3 [] (.take 4 [5, 6, 7] (.take 5 [] (.alt 2 (.take 6 [] (.take 7 [] .done)) .nil)))))) (by kernel_rfl) ?_
      refine xcall rfl (sizeInt_pc2 _) rfl ⟨trivial, trivial⟩ ?_
      refine xr rfl (xret rfl ⟨⟨rfl, ?_, trivial⟩, nodB_nodup rfl⟩)
      all_goals first
        | (refine vb ?_; rw [sentB, sentL_yes hk0, hwn, hle]; rfl)
        | skip
theorem iSes_pc (ss : List Ses) (hl : ss.length ≤ 1048576) (hs : ∀ x ∈ ss, x.sent.length ≤ 1048576) : PC Try.prog 29 [.one (.l (ss.map Ses.cs))] (rI (sesFault ss)) := by
  refine PC.begin Try.func29 rfl (by kernel_rfl) ?_
  have hle : (ss.map Ses.cs).length = ss.length := by simp
  unfold sesFault
  by_cases hm : 10 < ss.length
  · rw [if_pos hm]
    refine xb rfl (fun b0 => ?_) (fun b0 => ?_)
    refine xr rfl (xret rfl ⟨⟨rfl, rfl, trivial⟩, nodB_nodup rfl⟩)
    exact absurd b0 (by simp; omega)
    all_goals first | (exfalso; simp at b0; omega) | skip
  · rw [if_neg hm]
    refine xb rfl (fun b0 => ?_) (fun b0 => ?_)
    exact absurd b0 (by simp; omega)
    all_goals first | (exfalso; simp at b0; omega) | skip
    refine xloop rfl (ι := Nat) (fun i => i ≤ ss.length ∧ ∀ j, j < i → sesF ss j = 0) (fun i => ⟨[(10, sV (.int .i64 i)), (9, sV (.int .i64 (ss.map Ses.cs).length)), (8, .one (.b (.l (ss.map Ses.cs)))), (0, .one (.b (.l (ss.map Ses.cs))))], []⟩) (fun i => ss.length - i) 0 ⟨Nat.zero_le _, fun j hj => by omega⟩ ?_ ?_
    · exact ⟨⟨rfl, rfl, rfl, rfl, trivial⟩, trivial, rfl⟩
    · intro i ⟨hi, h0⟩ J hJ
      refine xb rfl (fun h => ?_) (fun h => ?_)
      · have h : i < ss.length := by simpa using h
        obtain ⟨x, hx⟩ := gx h
        have hg := gm Ses.cs hx
        have hxs := hs x (List.mem_of_getElem? hx)
        by_cases hr : (within x.cl 1 999 && within x.nx 1 1000) = true
        · have hF : sesF ss i = if Go.Sx.ahead (fun p x : Ses => decide (p.cl < x.cl)) ss i x && sentB x then 0 else 1 := by unfold sesF; rw [hx]; simp only [hr]; rfl
          have hr2 : 1 ≤ x.nx ∧ x.nx ≤ 1000 := by simp [within] at hr; omega
          have hSo := sentOk_pc x hxs hr2
          simp only [Bool.and_eq_true] at hr
          rcases Nat.eq_zero_or_pos i with hz | hz
          · subst hz
            rw [ahead_zero] at hF
            refine xs rfl (Int.natCast_nonneg _) ?_
            refine xrow rfl _ hg ?_
            refine xs rfl rfl ?_
            refine xcall rfl (isClient_pc _) rfl ⟨trivial, trivial⟩ ?_
            refine xb rfl (fun b0 => ?_) (fun b0 => ?_)
            exact absurd b0 (by simp [*])
            refine xj (k := 2) rfl ?_
            refine xcall rfl (within_pc _ _ _) rfl ⟨trivial, trivial, trivial, trivial⟩ ?_
            refine xj (k := 2) rfl ?_
            refine xb rfl (fun b1 => ?_) (fun b1 => ?_)
            exact absurd b1 (by simp [*])
            refine xdraw rfl [] (.take 0 [] (.take 1 [] (.take 2 [] (.take 3 [] (.take 4 [] (.take 5 [] (.take 6 [] (.take 7 [] (.take 8 [11, 12, 13, 14, 15, 16, 17, 18] (.take 9 [] (.take 10 [11, 12, 13, 14, 15, 16, 17, 18] (.take 11 [] (.take 12 [] (.take 13 [] (.take 14 [15, 16, 17, 18] (.alt 15 (.take 16 [] (.take 17 [] (.take 18 [] .done))) .nil)))))))))))))))) (by kernel_rfl) ?_
            refine xj (k := 12) rfl ?_
            refine xcall rfl (hSo) rfl ⟨⟨trivial, trivial, trivial, trivial⟩, trivial⟩ ?_
            refine xj (k := 2) rfl ?_
            refine xb rfl (fun b2 => ?_) (fun b2 => ?_)
            refine xr rfl (xret rfl ⟨⟨rfl, ?_, trivial⟩, nodB_nodup rfl⟩)
            rotate_left
            rotate_left
            all_goals first
              | (exfalso; simp_all; done)
              | (refine vi (scan_hit' (c := 1) h h0 ?_ (by decide)); rw [hF]; simp_all; done)
              | exact xcont rfl (hJ _ 1 ⟨by omega, scan_step h0 (by rw [hF]; simp_all)⟩ (by omega) ⟨⟨cwi (by omega) (by omega) (by omega), rfl, rfl, rfl, trivial⟩, trivial, rfl⟩)
              | skip
          · obtain ⟨p, hp⟩ := gx (xs := ss) (i := i - 1) (by omega)
            have hgp := gprev Ses.cs hz (by omega) hp
            rw [ahead_pos hz hp] at hF
            refine xs rfl (Int.natCast_nonneg _) ?_
            refine xrow rfl _ hg ?_
            refine xs rfl rfl ?_
            refine xcall rfl (isClient_pc _) rfl ⟨trivial, trivial⟩ ?_
            refine xb rfl (fun b0 => ?_) (fun b0 => ?_)
            exact absurd b0 (by simp [*])
            refine xj (k := 2) rfl ?_
            refine xcall rfl (within_pc _ _ _) rfl ⟨trivial, trivial, trivial, trivial⟩ ?_
            refine xj (k := 2) rfl ?_
            refine xb rfl (fun b1 => ?_) (fun b1 => ?_)
            exact absurd b1 (by simp [*])
            refine xdraw rfl [] (.take 0 [] (.take 1 [] (.take 2 [] (.take 3 [] (.take 4 [] (.take 5 [] (.take 6 [] (.take 7 [] (.take 8 [11, 12, 13, 14, 15, 16, 17, 18] (.take 9 [] (.take 10 [11, 12, 13, 14, 15, 16, 17, 18] (.take 11 [] (.take 12 [] (.take 13 [] (.take 14 [15, 16, 17, 18] (.alt 15 (.take 16 [] (.take 17 [] (.take 18 [] .done))) .nil)))))))))))))))) (by kernel_rfl) ?_
            refine xb rfl (fun b2 => ?_) (fun b2 => ?_)
            refine xj (k := 3) rfl ?_
            refine xs rfl (wprev hz (by omega)) ?_
            refine xrow rfl _ hgp ?_
            refine xs rfl rfl ?_
            refine xj (k := 6) rfl ?_
            refine xb rfl (fun b3 => ?_) (fun b3 => ?_)
            refine xj (k := 4) rfl ?_
            refine xr rfl (xret rfl ⟨⟨rfl, ?_, trivial⟩, nodB_nodup rfl⟩)
            rotate_left
            refine xj (k := 1) rfl ?_
            refine xcall rfl (hSo) rfl ⟨⟨trivial, trivial, trivial, trivial⟩, trivial⟩ ?_
            refine xj (k := 2) rfl ?_
            refine xb rfl (fun b4 => ?_) (fun b4 => ?_)
            refine xr rfl (xret rfl ⟨⟨rfl, ?_, trivial⟩, nodB_nodup rfl⟩)
            rotate_left
            rotate_left
            exact absurd b2 (by simp; omega)
            all_goals first
              | (exfalso; simp_all; done)
              | (refine vi (scan_hit' (c := 1) h h0 ?_ (by decide)); rw [hF]; simp_all; done)
              | (refine vi (scan_hit' (c := 1) h h0 ?_ (by decide)); rw [hF]; simp_all; omega)
              | exact xcont rfl (hJ _ (i + 1) ⟨by omega, scan_step h0 (by rw [hF]; simp_all)⟩ (by omega) ⟨⟨cwi (by omega) (by omega) (by omega), rfl, rfl, rfl, trivial⟩, trivial, rfl⟩)
              | skip
        · have hF : sesF ss i = 3 := by unfold sesF; rw [hx]; simp only [hr]; rfl
          refine xs rfl (Int.natCast_nonneg _) ?_
          refine xrow rfl _ hg ?_
          refine xs rfl rfl ?_
          refine xcall rfl (isClient_pc _) rfl ⟨trivial, trivial⟩ ?_
          refine xb rfl (fun b0 => ?_) (fun b0 => ?_)
          refine xj (k := 5) rfl ?_
          refine xr rfl (xret rfl ⟨⟨rfl, ?_, trivial⟩, nodB_nodup rfl⟩)
          rotate_left
          refine xj (k := 2) rfl ?_
          refine xcall rfl (within_pc _ _ _) rfl ⟨trivial, trivial, trivial, trivial⟩ ?_
          refine xj (k := 2) rfl ?_
          refine xb rfl (fun b1 => ?_) (fun b1 => ?_)
          refine xr rfl (xret rfl ⟨⟨rfl, ?_, trivial⟩, nodB_nodup rfl⟩)
          rotate_left
          refine xdraw rfl [] (.take 0 [] (.take 1 [] (.take 2 [] (.take 3 [] (.take 4 [] (.take 5 [] (.take 6 [] (.take 7 [] (.take 8 [11, 12, 13, 14, 15, 16, 17, 18] (.take 9 [] (.take 10 [11, 12, 13, 14, 15, 16, 17, 18] (.take 11 [] (.take 12 [] (.take 13 [] (.take 14 [15, 16, 17, 18] (.alt 15 (.take 16 [] (.take 17 [] (.take 18 [] .done))) .nil)))))))))))))))) (by kernel_rfl) ?_
          refine xb rfl (fun b2 => ?_) (fun b2 => ?_)
          refine xj (k := 3) rfl ?_
          refine xs rfl ?_ ?_
          rotate_left
          rotate_left
          refine xj (k := 11) rfl ?_
          rotate_left
          all_goals first
            | (refine vi (scan_hit' h h0 hF (by decide)); done)
            | (exfalso; simp_all; done)
            | skip
      · have h : ¬ i < ss.length := by simpa using h
        have hz := scan_zero (f := sesF ss) (n := ss.length) (fun j hj => h0 j (by omega))
        refine xr rfl (xret rfl ⟨⟨rfl, ?_, trivial⟩, nodB_nodup rfl⟩)
        exact vi (hz.symm)
end Go.Proofs.Ytlkjdcpcbnfbbaa
end
section
namespace Go.Proofs.Ytlkjdcpcbnfbbaa
open Go Go.Sx
set_option maxRecDepth 20000
set_option maxHeartbeats 4000000
abbrev rSes (a : Int × List Ses) : Res := .one (.own true [.s (.int .i64 a.1), .s (.int .i64 0), .l 3 (a.2.map Ses.cs), .l 2 [], .l 6 [], .l 1 [], .l 3 [], .l 9 []])
abbrev rSesB (a : Int × List Ses) : Res := .one (.bor true [i64 a.1, i64 0, .l (a.2.map Ses.cs), .l [], .l [], .l [], .l [], .l []])
theorem copySessions_pc (us : List Ses) (hl : us.length ≤ 1048576) (hb : ∀ x ∈ us, x.sent.length ≤ 1048576) : PC Try.prog 31 [.one (.l (us.map Ses.cs))] (.one (.own false [.l 3 (us.map Ses.cs)])) := by
  refine PC.begin Try.func31 rfl (by kernel_rfl) ?_
  refine xs rfl trivial ?_
  refine xloop rfl (ι := Nat) (fun i => i ≤ us.length) (fun i => ⟨[(9, sV (.int .i64 i)), (8, sV (.int .i64 (us.map Ses.cs).length)), (7, .one (.b (.l (us.map Ses.cs)))), (3, .one (.h 6 ((us.take i).map Ses.cs).length))], [(6, .arr true 3 0 ((us.take i).map Ses.cs))]⟩) (fun i => us.length - i) 0 (Nat.zero_le _) ?_ ?_
  · exact ⟨⟨rfl, rfl, rfl, ⟨rfl, rfl, rfl⟩, trivial⟩, ⟨⟨rfl, .inl rfl, .inl rfl⟩, trivial⟩, rfl⟩
  · intro i hi J hJ
    refine xb rfl (fun h => ?_) (fun h => ?_)
    · have h : i < us.length := by simpa using h
      obtain ⟨x, hx⟩ := gx h
      have hg := gm Ses.cs hx
      have hc := cloneInt_pc x.sent (hb x (List.mem_of_getElem? hx))
      have hst := tk Ses.cs hx
      refine xs rfl (by simp) ?_
      refine xrow rfl _ hg ?_
      refine xs rfl rfl ?_
      refine xcall rfl (hc) rfl ⟨trivial, trivial⟩ ?_
      refine xs rfl ⟨trivial, trivial, ⟨rfl, rfl⟩, trivial⟩ ?_
      refine xs rfl rfl ?_
      refine xs rfl rfl ?_
      refine xs rfl (.inl rfl) ?_
      refine xs rfl (by simp; omega) ?_
      refine xs rfl (by simp; omega) ?_
      exact xcont rfl (hJ _ (i + 1) (by omega) (by omega) ⟨⟨cwi (by omega) (by omega) (by omega), rfl, rfl, ⟨rfl, by rw [hst]; exact List.length_append.symm, rfl⟩, trivial⟩, ⟨⟨hst.symm, .inl rfl, .inl rfl⟩, trivial⟩, rfl⟩)
    · have h : i = us.length := by have : ¬ i < us.length := by simpa using h
                                   omega
      subst h
      rw [List.take_length]
      refine xr rfl (xret rfl ⟨⟨rfl, ⟨rfl, rfl, .inl rfl⟩, trivial⟩, nodB_nodup rfl⟩)
theorem l15Copy_pc (us : List Ses) (hl : us.length ≤ 1048576) (hb : ∀ x ∈ us, x.sent.length ≤ 1048576) : PC Try.prog 26 [.one (.l (us.map Ses.cs))] (.one (.own false [.l 3 (us.map Ses.cs)])) := by
  refine PC.begin Try.func26 rfl (by kernel_rfl) ?_
  refine xs rfl trivial ?_
  refine xloop rfl (ι := Nat) (fun i => i ≤ us.length) (fun i => ⟨[(4, sV (.int .i64 i)), (0, .one (.b (.l (us.map Ses.cs)))), (3, .one (.h 6 ((us.take i).map Ses.cs).length))], [(6, .arr true 3 0 ((us.take i).map Ses.cs))]⟩) (fun i => us.length - i) 0 (Nat.zero_le _) ?_ ?_
  · exact ⟨⟨rfl, rfl, ⟨rfl, rfl, rfl⟩, trivial⟩, ⟨⟨rfl, .inl rfl, .inl rfl⟩, trivial⟩, rfl⟩
  · intro i hi J hJ
    refine xb rfl (fun h => ?_) (fun h => ?_)
    · have h : i < us.length := by simpa using h
      obtain ⟨x, hx⟩ := gx h
      have hg := gm Ses.cs hx
      have hxl := hb x (List.mem_of_getElem? hx)
      have h1 := sc_ints x.sent
      have hst := tk Ses.cs hx
      refine xs rfl (Int.natCast_nonneg _) ?_
      refine xrow rfl _ hg ?_
      refine xs rfl rfl ?_
      refine xs rfl trivial ?_
      refine xs rfl rfl ?_
      refine xs rfl (by simp) ?_
      refine xs rfl (fun _ => h1) ?_
      refine xs rfl (by simp; omega) ?_
      refine xs rfl (by simp; omega) ?_
      refine xs rfl (⟨trivial, trivial, ⟨rfl, List.length_append.symm⟩, trivial⟩) ?_
      refine xs rfl rfl ?_
      refine xs rfl rfl ?_
      refine xs rfl (.inl rfl) ?_
      refine xs rfl (by simp; omega) ?_
      refine xs rfl (by simp; omega) ?_
      all_goals exact xcont rfl (hJ _ (i + 1) (by omega) (by omega) ⟨⟨cwi (by omega) (by omega) (by omega), rfl, ⟨rfl, by rw [hst]; exact List.length_append.symm, rfl⟩, trivial⟩, ⟨⟨hst.symm, .inl rfl, .inl rfl⟩, trivial⟩, rfl⟩)
    · have h : i = us.length := by have : ¬ i < us.length := by simpa using h
                                   omega
      subst h
      rw [List.take_length]
      refine xr rfl (xret rfl ⟨⟨rfl, ⟨rfl, rfl, .inl rfl⟩, trivial⟩, nodB_nodup rfl⟩)
theorem sSesFind_pc (ss : List Ses) (cl : Int) (hl : ss.length ≤ 1048576) : PC Try.prog 27 [.one (.l (ss.map Ses.cs)), .one (i64 cl)] (rI (idxP (fun s : Ses => s.cl == cl) ss)) := by
  refine PC.begin Try.func27 rfl (by kernel_rfl) ?_
  refine xloop rfl (ι := Nat) (fun i => i ≤ ss.length ∧ ∀ j y, j < i → ss[j]? = some y → (y.cl == cl) = false) (fun i => ⟨[(5, sV (.int .i64 i)), (0, .one (.b (.l (ss.map Ses.cs)))), (1, sV (.int .i64 cl))], []⟩) (fun i => ss.length - i) 0 ⟨Nat.zero_le _, fun j y hj => by omega⟩ ?_ ?_
  · exact ⟨⟨rfl, rfl, rfl, trivial⟩, trivial, rfl⟩
  · intro i ⟨hi, h0⟩ J hJ
    refine xb rfl (fun h => ?_) (fun h => ?_)
    · have h : i < ss.length := by simpa using h
      obtain ⟨x, hx⟩ := gx h
      have hg := gm Ses.cs hx
      refine xs rfl (Int.natCast_nonneg _) ?_
      refine xrow rfl _ hg ?_
      refine xs rfl rfl ?_
      refine xb rfl (fun b0 => ?_) (fun b0 => ?_)
      refine xr rfl (xret rfl ⟨⟨rfl, ?_, trivial⟩, nodB_nodup rfl⟩)
      rotate_left
      rotate_left
      · exact vi (idxP_hit hx h0 b0).symm
      · exact xcont rfl (hJ _ (i + 1) ⟨by omega, miss_step hx h0 b0⟩ (by omega) ⟨⟨cwi (by omega) (by omega) (by omega), rfl, rfl, trivial⟩, trivial, rfl⟩)
    · have h : ¬ i < ss.length := by simpa using h
      refine xr rfl (xret rfl ⟨⟨rfl, ?_, trivial⟩, nodB_nodup rfl⟩)
      exact vi (idxP_none (miss_all (by omega) h0)).symm
end Go.Proofs.Ytlkjdcpcbnfbbaa
end
section
namespace Go.Proofs.Ytlkjdcpcbnfbbaa
open Go Go.Sx
set_option maxRecDepth 20000
set_option maxHeartbeats 4000000
open Go.Proofs Go.Shelf Go.RowKit Go.Lib Go.Sort
theorem copyK_row {P : Program} (w : World) (dT sT ty elem : TypeId) (g o dLen dCap : Nat) (a : Addr) (sLen sCap : Nat) (cur : Array Value) (t : TypeId) (cs : List Value) (sz m : Nat)
    (hu : P.underlying dT = some (.slice elem)) (hs : (P.info? elem).map (·.size) = some sz)
    (hg : w.heap[g]? = some (.cells cur t (0, 0))) (hm : Nat.min sLen dLen = m) (hn : cs.length = m * sz)
    (hsrc : ∀ j v, cs[j]? = some v → w.cell? (a.add j) = some v) (hfit : o + cs.length ≤ cur.size) (h1 : ∀ v ∈ cs, v.oneCell' = true) :
    (Builtin.copy_ #[dT, sT] ty #[.slice (some ⟨g, o, none⟩) dLen dCap, .slice (some a) sLen sCap]).run P w =
      .ok (goInt m) (w.setRow g (cur.toList.take o ++ cs ++ cur.toList.drop (o + cs.length)).toArray) := by
  have hl := run_loadCells_list (P := P) w a cs hsrc
  have hst := run_storeCells_at P g o t cs 0 cur w hg (by simpa using hfit) h1
  cases hq : P.info? elem with
  | none => simp [hq] at hs
  | some i =>
    have hi : i.size = sz := by simpa [hq] using hs
    simp [Builtin.copy_, run_underlying hu, Builtin.lenOf, Builtin.firstCells, sizeOf, typeInfo, hq, hi, hm, ← hn, hl, hst]
theorem ins_mid {cur xs e : List Value} {n i k : Nat} (hi : i ≤ n) (hx : cur.take (n * k) = xs) (hxl : xs.length = n * k) (he : e.length = k) (hc : (n + 1) * k ≤ cur.length) :
    (((cur.take ((i + 1) * k) ++ xs.drop (i * k) ++ cur.drop ((i + 1) * k + (xs.drop (i * k)).length)).take (i * k) ++ e ++ (cur.take ((i + 1) * k) ++ xs.drop (i * k) ++ cur.drop ((i + 1) * k + (xs.drop (i * k)).length)).drop (i * k + e.length))).take ((n + 1) * k) = xs.take (i * k) ++ e ++ xs.drop (i * k) := by
  have a1 : i * k ≤ n * k := Nat.mul_le_mul_right _ hi
  have a2 : (i + 1) * k = i * k + k := by rw [Nat.add_mul, Nat.one_mul]
  have a3 : (n + 1) * k = n * k + k := by rw [Nat.add_mul, Nat.one_mul]
  have hdl : (xs.drop (i * k)).length = n * k - i * k := by rw [List.length_drop, hxl]
  generalize i * k = p at *
  generalize n * k = q at *
  rw [a2, a3, he]
  rw [a3] at hc
  have hl1 : (cur.take (p + k)).length = p + k := by rw [List.length_take]; omega
  have h1 : (cur.take (p + k) ++ xs.drop p ++ cur.drop (p + k + (xs.drop p).length)).take p = xs.take p := by
    rw [List.append_assoc, List.take_append_of_le_length (by omega), List.take_take, ← hx, List.take_take]
    congr 1; omega
  have h2 : (cur.take (p + k) ++ xs.drop p ++ cur.drop (p + k + (xs.drop p).length)).drop (p + k) = xs.drop p ++ cur.drop (p + k + (xs.drop p).length) := by
    rw [List.append_assoc, List.drop_left' hl1]
  rw [h1, h2, ← List.append_assoc, List.take_left' (by rw [List.length_append, List.length_append, List.length_take, hdl, he]; omega)]
theorem ownsRow_at {w : World} {g cap n k : Nat} {e : TypeId} {cur : Array Value} {ys : List Value} (hg : w.heap[g]? = some (.cells cur e (0, 0))) (hn : n ≤ cap) (hm : cap ≤ maxLen) (hs : cur.size = cap * k) (ht : cur.toList.take (n * k) = ys) (hl : ys.length = n * k) :
    w.ownsRow 0 e k (.slice (some ⟨g, 0, none⟩) n cap) n ys := ⟨hl, .inr ⟨g, cap, cur, rfl, Nat.zero_le _, hg, hn, hm, hs, ht⟩⟩
theorem rowcell {w : World} {g : Nat} {e : TypeId} {cur : Array Value} (hg : w.heap[g]? = some (.cells cur e (0, 0))) (j : Nat) : w.cell? ⟨g, j, none⟩ = cur[j]? := by
  simp [World.cell?, hg]
theorem rowfrz {w : World} {g : Nat} {e : TypeId} {cur : Array Value} (hg : w.heap[g]? = some (.cells cur e (0, 0))) (j : Nat) : w.frozen? ⟨g, j, none⟩ = false := by
  simp [World.frozen?, hg]
theorem insV_end (base : Option Addr) (n c g2 c2 : Nat) (v' : Value) (w w' : World) (hnc : n ≤ c) (hc63 : c ≤ 9223372036854775807) (h2 : 1 ≤ c2) (hb : base = none → n = 0 ∧ c = 0)
    (hrun : ∀ ty, (Builtin.append_ #[24, 24] ty #[.slice base n c, .slice (some ⟨g2, 0, none⟩) 1 c2]).run Try.prog w = .ok v' w') :
    Calls Try.prog 33 #[.slice base n c, .int .i64 n, .slice (some ⟨g2, 0, none⟩) 1 c2] w fun e w'' => e = .returned v' ∧ w'' = w' := by
  have mixed : Try.prog.follows .mixedOrders = true := by kernel_rfl
  have t3 := Try.underlying3
  have a3 := Try.isAgg3
  have z3 := Try.sizeOf3
  have v3 := Try.zeroValue3
  have t4 := Try.underlying4
  have a4 := Try.isAgg4
  have z4 := Try.sizeOf4
  have v4 := Try.zeroValue4
  have t22 := Try.underlying24
  have a22 := Try.isAgg24
  have z22 := Try.sizeOf24
  have v22 := Try.zeroValue24
  have zE := Try.sizeOf70
  cases base with
  | none =>
    obtain ⟨rfl, rfl⟩ := hb rfl
    refine calls_of_wp Try.func33 rfl ?_
    simp only [Try.ntmps33, List.size_toArray, List.length_cons, List.length_nil, Nat.reduceAdd, Nat.reduceSub, Array.replicate_succ, Array.replicate_zero, List.push_toArray, List.append_toArray, List.nil_append, List.cons_append]
    go_wp2_with (at_builtin; refine Lib.wpList_append_run _ rfl _ _ _ _ rfl _ _ rfl rfl _ _ (hrun _) ?_)
    go_ret
    exact ⟨rfl, rfl⟩
  | some a =>
    obtain ⟨ab, ao, asp⟩ := a
    refine calls_of_wp Try.func33 rfl ?_
    simp only [Try.ntmps33, List.size_toArray, List.length_cons, List.length_nil, Nat.reduceAdd, Nat.reduceSub, Array.replicate_succ, Array.replicate_zero, List.push_toArray, List.append_toArray, List.nil_append, List.cons_append]
    go_wp2_with (at_builtin; refine Lib.wpList_append_run _ rfl _ _ _ _ rfl _ _ rfl rfl _ _ (hrun _) ?_)
    all_goals (go_ret; exact ⟨rfl, rfl⟩)
theorem insV_shift (g n c i g2 c2 : Nat) (xs : List Value) (ys : List Value) (hy : ys.length = 3) (hy1 : ∀ v ∈ ys, v.oneCell' = true) (w : World) (cur cur2 : Array Value) (eA eB : TypeId) (hi : i < n) (hroom : n + 1 ≤ c) (hc63 : c ≤ 9223372036854775807) (hne : g2 ≠ g) (hxl : xs.length = n * 3)
    (hg : w.heap[g]? = some (.cells cur eA (0, 0))) (hcs : cur.size = c * 3) (htk : cur.toList.take (n * 3) = xs) (hg2 : w.heap[g2]? = some (.cells cur2 eB (0, 0))) (h2 : 3 ≤ cur2.size) (htk2 : cur2.toList.take 3 = ys) (h1c : ∀ v ∈ xs, v.oneCell' = true) :
    Calls Try.prog 33 #[.slice (some ⟨g, 0, none⟩) n c, .int .i64 i, .slice (some ⟨g2, 0, none⟩) 1 c2] w fun e w' => e = .returned (.slice (some ⟨g, 0, none⟩) (n + 1) c) ∧ ∃ F : Array Value, F.size = cur.size ∧ F.toList.take ((n + 1) * 3) = xs.take (i * 3) ++ ys ++ xs.drop (i * 3) ∧ w' = w.drew.setRow g F := by
  have mixed : Try.prog.follows .mixedOrders = true := by kernel_rfl
  have t3 := Try.underlying3
  have a3 := Try.isAgg3
  have z3 := Try.sizeOf3
  have v3 := Try.zeroValue3
  have t4 := Try.underlying4
  have a4 := Try.isAgg4
  have z4 := Try.sizeOf4
  have v4 := Try.zeroValue4
  have t22 := Try.underlying24
  have a22 := Try.isAgg24
  have z22 := Try.sizeOf24
  have v22 := Try.zeroValue24
  have zE := Try.sizeOf70
  have hsz : (Try.prog.info? 70).map (fun i => i.size) = some 3 := by kernel_rfl
  have hov : ∀ lb cb, (callFunc 64 #[.slice (some ⟨g2, 0, none⟩) 1 c2, .slice (some ⟨g, (i + 1) * 3, none⟩) lb cb]).run Try.prog w = .ok (.value (.bool false)) w := fun lb cb => by
    rw [run_callFunc_extern Try.func64 (by kernel_rfl) (by kernel_rfl) (by kernel_rfl) (e := Extern.SlicesOverlaps.overlaps #[24, 24] #[4]) (by kernel_rfl),
      Lib.run_overlaps_apart w 24 4 70 t22 3 zE ⟨g2, 0, none⟩ ⟨g, (i + 1) * 3, none⟩ 1 c2 lb cb hne eB eA cur2.size cur.size (by simp [World.shape?, hg2]) (by simp [World.shape?, hg]) (by omega) (rowfrz hg2 0) (rowfrz hg2 _)]
    rfl
  have a1 : i * 3 ≤ n * 3 := Nat.mul_le_mul_right _ (by omega)
  have hdl : (xs.drop (i * 3)).length = (n - i) * 3 := by rw [List.length_drop, hxl, Nat.sub_mul]
  have hcx : ∀ j v, xs[j]? = some v → cur[j]? = some v := fun j v h => by
    rw [← htk, List.getElem?_take] at h
    split at h
    · rwa [Array.getElem?_toList] at h
    · cases h
  have hw1 : IntKind.i64.wrap ((i : Int) + 1) = (i : Int) + 1 := wrap_i64 (by omega) (by omega)
  have hw2 : IntKind.i64.wrap ((n : Int) + 1) = (n : Int) + 1 := wrap_i64 (by omega) (by omega)
  have hz2 : ¬ ((i : Int) = (n : Int)) := by omega
  have hz3 : ¬ ((c : Int) < (n : Int) + 1) := by omega
  have hb1 : (0 : Int) ≤ (i : Int) + 1 := by omega
  have hin : i ≤ n := by omega
  have htn : ((i : Int) + 1).toNat = i + 1 := by omega
  have htn2 : ((n : Int) + 1).toNat = n + 1 := by omega
  have hb2 : ¬ (c = i + 1) := by omega
  have hb3 : (i : Int) ≤ (n : Int) + 1 := by omega
  have hb4 : ¬ (c = i) := by omega
  obtain ⟨F1, hF1⟩ : ∃ F1, F1 = (cur.toList.take ((i + 1) * 3) ++ xs.drop (i * 3) ++ cur.toList.drop ((i + 1) * 3 + (xs.drop (i * 3)).length)).toArray := ⟨_, rfl⟩
  have hcp1 : ∀ ty dc sc, (Builtin.copy_ #[24, 24] ty #[.slice (some ⟨g, (i + 1) * 3, none⟩) (n - i) dc, .slice (some ⟨g, i * 3, none⟩) (n + 1 - i) sc]).run Try.prog w.drew = .ok (goInt ((n - i : Nat) : Int)) (w.drew.setRow g F1) := fun ty dc sc => by
    rw [hF1]
    exact copyK_row w.drew _ _ ty 70 g ((i + 1) * 3) (n - i) dc ⟨g, i * 3, none⟩ (n + 1 - i) sc cur eA (xs.drop (i * 3)) 3 (n - i) t22 hsz hg (by simp only [Nat.min_def]; split <;> omega) hdl
      (fun j v hj => by
        rw [Addr.add_lit]
        show w.cell? _ = _
        rw [rowcell hg]
        rw [List.getElem?_drop] at hj
        exact hcx _ v hj) (by rw [hdl, hcs, Nat.sub_mul]; omega) (fun v hv => h1c v (List.mem_of_mem_drop hv))
  have hF1s : F1.size = cur.size := by
    rw [hF1]
    simp only [List.size_toArray, List.length_append, List.length_take, List.length_drop, Array.length_toList]
    rw [hxl, hcs]; omega
  obtain ⟨F2, hF2⟩ : ∃ F2, F2 = (F1.toList.take (i * 3) ++ ys ++ F1.toList.drop (i * 3 + (ys).length)).toArray := ⟨_, rfl⟩
  have hF2s : F2.size = cur.size := by
    rw [hF2]
    simp only [List.size_toArray, List.length_append, List.length_take, List.length_drop, Array.length_toList, hy]
    rw [hF1s, hcs]; omega
  have hcp2 : ∀ (W : World), W.heap = (w.drew.setRow g F1).heap → ∀ ty dc, (Builtin.copy_ #[24, 24] ty #[.slice (some ⟨g, i * 3, none⟩) (n + 1 - i) dc, .slice (some ⟨g2, 0, none⟩) 1 c2]).run Try.prog W = .ok (goInt 1) (W.setRow g F2) := fun W hW ty dc => by
    have hWg : W.heap[g]? = some (.cells F1 eA (0, 0)) := by rw [hW]; exact setRow_heap _ g cur _ eA _ hg
    have hWg2 : W.heap[g2]? = some (.cells cur2 eB (0, 0)) := by rw [hW, setRow_other _ g g2 _ hne]; exact hg2
    rw [hF2]
    exact copyK_row W _ _ ty 70 g (i * 3) (n + 1 - i) dc ⟨g2, 0, none⟩ 1 c2 F1 eA (ys) 3 1 t22 hsz hWg (by simp only [Nat.min_def]; split <;> omega) hy
      (fun j v hj => by
        rw [Addr.add_lit, rowcell hWg2]
        rw [← htk2, List.getElem?_take] at hj
        split at hj
        · rw [Nat.zero_add]; rwa [Array.getElem?_toList] at hj
        · cases hj) (by rw [hy, hF1s, hcs]; omega) hy1
  have hfin : F2.toList.take ((n + 1) * 3) = xs.take (i * 3) ++ ys ++ xs.drop (i * 3) := by
    rw [hF2, hF1]
    exact ins_mid (k := 3) (n := n) (i := i) (by omega) htk hxl hy (by rw [Array.length_toList, hcs]; exact Nat.mul_le_mul_right _ hroom)
  have Z : Aside (F2.size = cur.size ∧ F2.toList.take ((n + 1) * 3) = xs.take (i * 3) ++ ys ++ xs.drop (i * 3)) := ⟨hF2s, hfin⟩
  have hwE : ∀ W : World, (w.drew.setRow g F1).heap = (w.drew.setRow g F1).heap := fun _ => rfl
  clear hfin hF2s hF1s hF2 hF1 hcx hdl a1 htk htk2 h1c hcs hsz hxl
  refine calls_of_wp Try.func33 rfl ?_
  simp only [Try.ntmps33, List.size_toArray, List.length_cons, List.length_nil, Nat.reduceAdd, Nat.reduceSub, Array.replicate_succ, Array.replicate_zero, List.push_toArray, List.append_toArray, List.nil_append, List.cons_append]
  go_wp2_with (simp only [hov])
  go_region_law_o (refine step_copy_runI rfl _ _ 24 24 rfl _ _ (by simp [Act.eval, Act.put]) (by simp [Act.eval, Act.put]) (hcp1 _ _ _) ?_)
  go_wp2_with (at_builtin; refine wpList_copy_runI _ rfl _ _ 24 24 rfl _ _ rfl rfl (hcp2 _ rfl _ _) ?_)
  go_ret
  exact ⟨rfl, F2, Z.out.1, Z.out.2, by rw [setRow_setRow]⟩
theorem ins_new {row xs e : List Value} {n i k : Nat} (hi : i ≤ n) (hx : row.take (i * k) = xs.take (i * k)) (hxl : xs.length = n * k) (he : e.length = k) (hc : (n + 1) * k ≤ row.length) :
    (((row.take (i * k) ++ e ++ row.drop (i * k + e.length)).take ((i + 1) * k) ++ xs.drop (i * k) ++ (row.take (i * k) ++ e ++ row.drop (i * k + e.length)).drop ((i + 1) * k + (xs.drop (i * k)).length))).take ((n + 1) * k) = xs.take (i * k) ++ e ++ xs.drop (i * k) := by
  have a1 : i * k ≤ n * k := Nat.mul_le_mul_right _ hi
  have a2 : (i + 1) * k = i * k + k := by rw [Nat.add_mul, Nat.one_mul]
  have a3 : (n + 1) * k = n * k + k := by rw [Nat.add_mul, Nat.one_mul]
  have hdl : (xs.drop (i * k)).length = n * k - i * k := by rw [List.length_drop, hxl]
  rw [hx]
  generalize i * k = p at *
  generalize n * k = q at *
  rw [a2, a3]
  rw [a3] at hc
  have hl1 : (xs.take p ++ e).length = p + k := by rw [List.length_append, List.length_take, he]; omega
  rw [List.take_left' hl1]
  have hl2 : (xs.take p ++ e ++ xs.drop p).length = q + k := by rw [List.length_append, hl1, hdl]; omega
  rw [List.take_left' hl2]
theorem insV_grow (g n c i g2 c2 : Nat) (xs : List Value) (ys : List Value) (hy : ys.length = 3) (hy1 : ∀ v ∈ ys, v.oneCell' = true) (w : World) (cur cur2 : Array Value) (eA eB : TypeId) (hi : i < n) (hnc : n ≤ c) (hroom : c < n + 1) (hn : n ≤ 1048576) (hxl : xs.length = n * 3)
    (hg : w.heap[g]? = some (.cells cur eA (0, 0))) (hcs : cur.size = c * 3) (htk : cur.toList.take (n * 3) = xs) (hg2 : w.heap[g2]? = some (.cells cur2 eB (0, 0))) (h2 : 3 ≤ cur2.size) (htk2 : cur2.toList.take 3 = ys) (h1c : ∀ v ∈ xs, v.oneCell' = true) :
    Calls Try.prog 33 #[.slice (some ⟨g, 0, none⟩) n c, .int .i64 i, .slice (some ⟨g2, 0, none⟩) 1 c2] w fun e w' => ∃ (G : Nat) (F : Array Value), n + 1 ≤ G ∧ G ≤ maxLen ∧ e = .returned (.slice (some ⟨w.heap.size, 0, none⟩) (n + 1) G) ∧ F.size = G * 3 ∧ F.toList.take ((n + 1) * 3) = xs.take (i * 3) ++ ys ++ xs.drop (i * 3) ∧ ∃ R : Array Value, w' = ((w.drew.alloc (.cells R 70)).setRow w.heap.size F).drew := by
  have mixed : Try.prog.follows .mixedOrders = true := by kernel_rfl
  have t3 := Try.underlying3
  have a3 := Try.isAgg3
  have z3 := Try.sizeOf3
  have v3 := Try.zeroValue3
  have t4 := Try.underlying4
  have a4 := Try.isAgg4
  have z4 := Try.sizeOf4
  have v4 := Try.zeroValue4
  have t22 := Try.underlying24
  have a22 := Try.isAgg24
  have z22 := Try.sizeOf24
  have v22 := Try.zeroValue24
  have zE := Try.sizeOf70
  have hsz : (Try.prog.info? 70).map (fun i => i.size) = some 3 := by kernel_rfl
  obtain ⟨i0, hi0, hzs, hzz, hzb⟩ : ∃ i0, Try.prog.info? 70 = some i0 ∧ i0.size = 3 ∧ i0.zero = some (.agg #[.int .i64 0, .int .i64 0, .slice none 0 0]) ∧ i0.bytes = 40 := by
    have h : (Try.prog.info? 70).map (fun i => (i.size, i.zero, i.bytes)) = some (3, some (.agg #[.int .i64 0, .int .i64 0, .slice none 0 0]), 40) := by kernel_rfl
    cases h1 : Try.prog.info? 70 with
    | none => rw [h1] at h; cases h
    | some i0 =>
      rw [h1] at h
      simp only [Option.map_some, Option.some.injEq, Prod.mk.injEq] at h
      exact ⟨i0, rfl, h.1, h.2.1, h.2.2⟩
  have a1 : i * 3 ≤ n * 3 := Nat.mul_le_mul_right _ (by omega)
  have hdl : (xs.drop (i * 3)).length = (n - i) * 3 := by rw [List.length_drop, hxl, Nat.sub_mul]
  have hcx : ∀ j v, xs[j]? = some v → cur[j]? = some v := fun j v h => by
    rw [← htk, List.getElem?_take] at h
    split at h
    · rwa [Array.getElem?_toList] at h
    · cases h
  have hlg : g < w.heap.size := by
    rcases Nat.lt_or_ge g w.heap.size with h | h
    · exact h
    · rw [Array.getElem?_eq_none h] at hg; cases hg
  have hlg2 : g2 < w.heap.size := by
    rcases Nat.lt_or_ge g2 w.heap.size with h | h
    · exact h
    · rw [Array.getElem?_eq_none h] at hg2; cases hg2
  have hold : (Builtin.firstCells i0.size i (.slice (some ⟨g, 0, none⟩) i c)).run Try.prog w.drew = .ok (xs.take (i * 3)).toArray w.drew := by
    rw [hzs]
    exact run_firstCells_some w.drew 3 i ⟨g, 0, none⟩ i c (xs.take (i * 3)) (by rw [List.length_take, hxl]; omega) (fun j v hj => by
      rw [Addr.add_lit]
      show w.cell? _ = _
      rw [rowcell hg, Nat.zero_add]
      rw [List.getElem?_take] at hj
      split at hj
      · exact hcx j v hj
      · cases hj)
  obtain ⟨G, hG⟩ : ∃ G, G = grownCap w (n + 1) c 70 := ⟨_, rfl⟩
  obtain ⟨ROW, hROW⟩ : ∃ ROW : Array Value, ROW = (xs.take (i * 3)).toArray ++ Builtin.zeroCells (Value.agg #[.int .i64 0, .int .i64 0, .slice none 0 0]).cells (n + 1 - i) ++ Builtin.zeroCells (Value.agg #[.int .i64 0, .int .i64 0, .slice none 0 0]).cells (G - (n + 1)) := ⟨_, rfl⟩
  have hGn : n + 1 ≤ G := by rw [hG]; exact grownCap_ge w _ _ _
  have hGm : G ≤ maxLen := by rw [hG]; exact grownCap_le_maxLen w _ _ _ (by unfold maxLen; omega)
  have hrz : ∀ ty, (Builtin.append_ #[24, 3] ty #[.slice (some ⟨g, 0, none⟩) i c, .int .i64 ((n : Int) + 1 - (i : Int))]).run Try.prog w =
      .ok (.slice (some ⟨w.heap.size, 0, none⟩) (n + 1) G) (w.drew.alloc (.cells ROW 70)) := fun ty => by
    have hik : i + (n + 1 - i) = n + 1 := by omega
    have h := Lib.run_append_grow_zeros w 24 3 ty 70 i0 _ .i64 .i64 t22 t3 hi0 hzz (some ⟨g, 0, none⟩) i c (xs.take (i * 3)) hold (n + 1 - i) (by omega) (by omega) (by omega) (by omega) (by rw [hzb]; omega) (by rw [hzb, hik]; exact growslice_fits hroom (by omega))
    rw [hik, ← hG, ← hROW] at h
    rw [show (n : Int) + 1 - (i : Int) = ((n + 1 - i : Nat) : Int) by omega]
    exact h
  have hRs : ROW.size = G * 3 := by
    rw [hROW]
    simp only [Array.size_append, List.size_toArray, size_zeroCells, List.length_take, hxl, Value.cells]
    show min (i * 3) (n * 3) + (n + 1 - i) * 3 + (G - (n + 1)) * 3 = _
    rw [Nat.sub_mul, Nat.sub_mul]
    omega
  have hRt : ROW.toList.take (i * 3) = xs.take (i * 3) := by
    rw [hROW]
    simp only [Array.toList_append]
    rw [List.append_assoc, List.take_left' (by rw [List.length_take, hxl]; omega)]
  obtain ⟨W1, hW1⟩ : ∃ W1, W1 = w.drew.alloc (.cells ROW 70) := ⟨_, rfl⟩
  have hN : W1.heap[w.heap.size]? = some (.cells ROW 70 (0, 0)) := by rw [hW1]; exact heap_alloc_new w.drew _
  have hO : ∀ k, k < w.heap.size → W1.heap[k]? = w.heap[k]? := fun k hk => by rw [hW1]; exact heap_alloc_old w.drew _ hk
  obtain ⟨F1, hF1⟩ : ∃ F1, F1 = (ROW.toList.take (i * 3) ++ ys ++ ROW.toList.drop (i * 3 + (ys).length)).toArray := ⟨_, rfl⟩
  have g3 : (n + 1) * 3 ≤ G * 3 := Nat.mul_le_mul_right _ hGn
  have hF1s : F1.size = G * 3 := by
    rw [hF1]
    simp only [List.size_toArray, List.length_append, List.length_take, List.length_drop, Array.length_toList, hy, hRs]
    omega
  obtain ⟨F2, hF2⟩ : ∃ F2, F2 = (F1.toList.take ((i + 1) * 3) ++ xs.drop (i * 3) ++ F1.toList.drop ((i + 1) * 3 + (xs.drop (i * 3)).length)).toArray := ⟨_, rfl⟩
  have hF2s : F2.size = G * 3 := by
    rw [hF2]
    simp only [List.size_toArray, List.length_append, List.length_take, List.length_drop, Array.length_toList, hF1s, hxl]
    omega
  have hfin : F2.toList.take ((n + 1) * 3) = xs.take (i * 3) ++ ys ++ xs.drop (i * 3) := by
    rw [hF2, hF1]
    exact ins_new (k := 3) (n := n) (i := i) (by omega) hRt hxl hy (by rw [Array.length_toList, hRs]; exact g3)
  have hcpA : ∀ (W : World), W.heap = W1.heap → ∀ ty dc, (Builtin.copy_ #[24, 24] ty #[.slice (some ⟨w.heap.size, i * 3, none⟩) (n + 1 - i) dc, .slice (some ⟨g2, 0, none⟩) 1 c2]).run Try.prog W = .ok (goInt 1) (W.setRow w.heap.size F1) := fun W hW ty dc => by
    rw [hF1]
    exact copyK_row W _ _ ty 70 w.heap.size (i * 3) (n + 1 - i) dc ⟨g2, 0, none⟩ 1 c2 ROW _ (ys) 3 1 t22 hsz (by rw [hW]; exact hN) (by simp only [Nat.min_def]; split <;> omega) hy
      (fun j v hj => by
        rw [Addr.add_lit, rowcell (show W.heap[g2]? = some (.cells cur2 eB (0, 0)) by rw [hW, hO g2 hlg2]; exact hg2), Nat.zero_add]
        rw [← htk2, List.getElem?_take] at hj
        split at hj
        · rwa [Array.getElem?_toList] at hj
        · cases hj) (by rw [hy, hRs]; omega) hy1
  have hcpB : ∀ (W : World), W.heap = (W1.setRow w.heap.size F1).heap → ∀ ty dc sc, (Builtin.copy_ #[24, 24] ty #[.slice (some ⟨w.heap.size, (i + 1) * 3, none⟩) (n - i) dc, .slice (some ⟨g, i * 3, none⟩) (n - i) sc]).run Try.prog W = .ok (goInt ((n - i : Nat) : Int)) (W.setRow w.heap.size F2) := fun W hW ty dc sc => by
    rw [hF2]
    exact copyK_row W _ _ ty 70 w.heap.size ((i + 1) * 3) (n - i) dc ⟨g, i * 3, none⟩ (n - i) sc F1 _ (xs.drop (i * 3)) 3 (n - i) t22 hsz (by rw [hW]; exact setRow_heap _ _ _ _ _ _ hN) (by simp only [Nat.min_def]; split <;> omega) hdl
      (fun j v hj => by
        rw [Addr.add_lit, rowcell (show W.heap[g]? = some (.cells cur eA (0, 0)) by rw [hW, setRow_other _ _ _ _ (by omega), hO g hlg]; exact hg)]
        rw [List.getElem?_drop] at hj
        exact hcx _ v hj) (by rw [hdl, hF1s, Nat.sub_mul]; omega) (fun v hv => h1c v (List.mem_of_mem_drop hv))
  have hE : (W1.setRow w.heap.size F1).drew.heap = (W1.setRow w.heap.size F1).heap := rfl
  have hG63 : G ≤ 9223372036854775807 := hGm
  have hGi : ¬ (G = i) := by omega
  have hGim : ¬ (G = i + 1) := by omega
  have hci : ¬ (c = i) := by omega
  have hw1 : IntKind.i64.wrap ((i : Int) + 1) = (i : Int) + 1 := wrap_i64 (by omega) (by omega)
  have hw2 : IntKind.i64.wrap ((n : Int) + 1) = (n : Int) + 1 := wrap_i64 (by omega) (by omega)
  have hw3 : IntKind.i64.wrap ((n : Int) + 1 - (i : Int)) = (n : Int) + 1 - (i : Int) := wrap_i64 (by omega) (by omega)
  have hz2 : ¬ ((i : Int) = (n : Int)) := by omega
  have hz3 : (c : Int) < (n : Int) + 1 := by omega
  have hb1 : (0 : Int) ≤ (i : Int) + 1 := by omega
  have hin : i ≤ n := by omega
  have hic : i ≤ c := by omega
  have htn : ((i : Int) + 1).toNat = i + 1 := by omega
  have hb3 : (i : Int) ≤ (n : Int) := by omega
  have Z : Aside (F2.size = G * 3 ∧ F2.toList.take ((n + 1) * 3) = xs.take (i * 3) ++ ys ++ xs.drop (i * 3) ∧ n + 1 ≤ G ∧ G ≤ maxLen) := ⟨hF2s, hfin, hGn, hGm⟩
  have Y : Aside (W1 = w.drew.alloc (.cells ROW 70)) := hW1
  rw [← hW1] at hrz
  clear hfin hF2s hF1s hF2 hF1 hcx hdl a1 htk htk2 h1c hcs hsz hxl g3 hO hN hRt hRs hROW hG hold hW1 hGm
  refine calls_of_wp Try.func33 rfl ?_
  simp only [Try.ntmps33, List.size_toArray, List.length_cons, List.length_nil, Nat.reduceAdd, Nat.reduceSub, Array.replicate_succ, Array.replicate_zero, List.push_toArray, List.append_toArray, List.nil_append, List.cons_append]
  go_wp2_with (first
    | (at_builtin; refine Lib.wpList_append_run _ rfl _ _ _ _ rfl _ _ rfl rfl _ _ (hrz _) ?_)
    | (at_builtin; refine wpList_copy_runI _ rfl _ _ 24 24 rfl _ _ rfl rfl (hcpA _ rfl _ _) ?_))
  go_region_law_o (refine step_copy_runI rfl _ _ 24 24 rfl (.slice (some ⟨w.heap.size, (i + 1) * 3, none⟩) (n - i) (G - (i + 1))) (.slice (some ⟨g, i * 3, none⟩) (n - i) (c - i)) (by simp [Act.eval, Act.put]) (by simp [Act.eval, Act.put]) (hcpB _ hE _ _ _) ?_)
  go_wp2
  go_ret
  obtain ⟨z1, z2, z3, z4⟩ := Z.out
  refine ⟨G, F2, z3, z4, rfl, z1, z2, ROW, ?_⟩
  rw [← Y.out]
  show ((W1.setRow w.heap.size F1).setRow w.heap.size F2).drew = (W1.setRow w.heap.size F2).drew
  rw [setRow_setRow]
theorem appK_room {P : Program} (w : World) (t ty e e' : TypeId) (i : TypeInfo) (ht : P.underlying t = some (.slice e)) (hi : P.info? e = some i)
    (g sLen sCap : Nat) (cur : Array Value) (hg : w.heap[g]? = some (.cells cur e' (0, 0)))
    (a : Addr) (m c : Nat) (news : List Value) (hl : news.length = m * i.size) (hnews : ∀ j u, news[j]? = some u → w.cell? (a.add j) = some u) (h1 : ∀ u ∈ news, u.oneCell' = true)
    (hroom : sLen + m ≤ sCap) (hfit : sLen * i.size + news.length ≤ cur.size) :
    (Builtin.append_ #[t, t] ty #[.slice (some ⟨g, 0, none⟩) sLen sCap, .slice (some a) m c]).run P w =
      .ok (.slice (some ⟨g, 0, none⟩) (sLen + m) sCap) (w.setRow g (cur.toList.take (sLen * i.size) ++ news ++ cur.toList.drop (sLen * i.size + news.length)).toArray) := by
  have hf := run_firstCells_some (P := P) w i.size m a m c news hl hnews
  have hst := run_storeCells_at P g (sLen * i.size) e' news 0 cur w hg (by simpa using hfit) h1
  simp only [Nat.add_zero] at hst
  simp [Builtin.append_, run_underlying ht, sizeOf, typeInfo, hi, Builtin.lenOf, hroom, hf, Addr.add_lit, hst]
theorem insV_run (n i : Nat) (xs ys : List Value) (w : World) (v0 v2 : Value) (e e2 : TypeId) (hi : i ≤ n) (hn : n ≤ 1048576) (h0 : w.ownsRow 0 e 3 v0 n xs ∨ (n = 0 ∧ xs = [] ∧ ∃ A, v0 = .slice A 0 0)) (ho2 : w.ownsRow 0 e2 3 v2 1 ys)
    (h1c : ∀ v ∈ xs, v.oneCell' = true) (hy1 : ∀ v ∈ ys, v.oneCell' = true) (b0 : Option Nat) (hb : b0 = v0.ownBlock ∨ (n = 0 ∧ xs = [] ∧ ∃ A, v0 = .slice A 0 0)) (hne : ∀ g, v2.ownBlock = some g → b0 ≠ some g) :
    Calls Try.prog 33 #[v0, .int .i64 i, v2] w fun e w' => ∃ (v' : Value) (e' : TypeId) (g' : Nat), e = .returned v' ∧ w'.ownsRow 0 e' 3 v' (n + 1) (xs.take (i * 3) ++ ys ++ xs.drop (i * 3)) ∧ v'.ownBlock = some g' ∧ (b0 = some g' ∨ w.heap.size ≤ g') ∧ g' < w'.heap.size ∧ Keep w w' (fun x => b0 = some x ∧ x < w.heap.size) := by
  obtain ⟨g2, c2, cur2, rfl, hg2, hc2, hs2, ht2⟩ : ∃ g2 c2 cur2, v2 = .slice (some ⟨g2, 0, none⟩) 1 c2 ∧ w.heap[g2]? = some (.cells cur2 e2 (0, 0)) ∧ 1 ≤ c2 ∧ cur2.size = c2 * 3 ∧ cur2.toList.take 3 = ys := by
    rcases ho2.2 with ⟨_, h⟩ | ⟨g2, c2, cur2, h, _, h3, h4, _, h5, h6⟩
    · cases h
    · exact ⟨g2, c2, cur2, h, h3, h4, h5, by simpa using h6⟩
  have hy : ys.length = 3 := by have := ho2.1; omega
  have h32 : 3 ≤ cur2.size := by omega
  obtain ⟨i0, hi0, hzs, hzz, hzb⟩ : ∃ i0, Try.prog.info? 70 = some i0 ∧ i0.size = 3 ∧ i0.zero = some (.agg #[.int .i64 0, .int .i64 0, .slice none 0 0]) ∧ i0.bytes = 40 := by
    have h : (Try.prog.info? 70).map (fun i => (i.size, i.zero, i.bytes)) = some (3, some (.agg #[.int .i64 0, .int .i64 0, .slice none 0 0]), 40) := by kernel_rfl
    cases h1 : Try.prog.info? 70 with
    | none => rw [h1] at h; cases h
    | some i0 =>
      rw [h1] at h
      simp only [Option.map_some, Option.some.injEq, Prod.mk.injEq] at h
      exact ⟨i0, rfl, h.1, h.2.1, h.2.2⟩
  have hnews : ∀ j u, ys[j]? = some u → w.cell? ((⟨g2, 0, none⟩ : Addr).add j) = some u := fun j u hj => by
    rw [Addr.add_lit, rowcell hg2, Nat.zero_add]
    rw [← ht2, List.getElem?_take] at hj
    split at hj
    · rwa [Array.getElem?_toList] at hj
    · cases hj
  have hml : (1048576 : Nat) + 1 ≤ maxLen := by unfold maxLen; omega
  have hsrc : Src Try.prog i0.size 24 (.slice (some ⟨g2, 0, none⟩) 1 c2) 1 ys w := by
    rw [hzs]
    exact Src.ofSlice w Try.underlying24 ⟨g2, 0, none⟩ 1 c2 ys (by rw [hy]) hnews hy1
  have hgrow : ∀ (A : Option Addr) (c : Nat), n ≤ c → c < n + 1 → c ≤ 9223372036854775807 → (A = none → n = 0 ∧ c = 0) → xs.length = n * 3 → (Builtin.firstCells i0.size n (.slice A n c)).run Try.prog w.drew = .ok xs.toArray w.drew →
      Calls Try.prog 33 #[.slice A n c, .int .i64 n, .slice (some ⟨g2, 0, none⟩) 1 c2] w fun e w' => ∃ (v' : Value) (e' : TypeId) (g' : Nat), e = .returned v' ∧ w'.ownsRow 0 e' 3 v' (n + 1) (xs ++ ys) ∧ v'.ownBlock = some g' ∧ w.heap.size ≤ g' ∧ g' < w'.heap.size ∧ Keep w w' (fun _ => False) := fun A c hnc hroom hc63 hA hxl hold => by
    have hrun := fun ty => run_append_grow_src w 24 24 ty 70 i0 _ Try.underlying24 hi0 hzz A n c xs hold _ 1 ys hsrc (by omega) (by omega) (by rw [hzb]; exact growslice_fits (by omega) (by omega))
    refine (insV_end A n c g2 c2 _ w _ hnc hc63 hc2 hA hrun).mono ?_
    rintro e w' ⟨rfl, rfl⟩
    have hge := grownCap_ge w (n + 1) c 70
    have hcm := grownCap_le_maxLen w (n + 1) c 70 (by omega)
    generalize grownCap w (n + 1) c 70 = G at hge hcm ⊢
    refine ⟨_, 70, w.heap.size, rfl, ownsRow_at (heap_alloc_new w.drew _) hge hcm ?_ ?_ ?_, rfl, Nat.le_refl _, by simp [World.alloc], ⟨rfl, rfl, rfl, by simp [World.alloc], fun k hk _ => heap_alloc_old w.drew _ hk⟩⟩
    · simp only [Array.size_append, List.size_toArray, size_zeroCells, List.length_append, hxl, hy, Value.cells]
      show n * 3 + 3 + (G - (n + 1)) * 3 = G * 3
      omega
    · simp only [Array.toList_append]
      exact List.take_left' (by simp only [List.length_append, hxl, hy]; omega)
    · rw [List.length_append, hxl, hy]; omega
  have hempty : ∀ A : Option Addr, n = 0 → xs = [] → v0 = .slice A 0 0 → Calls Try.prog 33 #[v0, .int .i64 i, .slice (some ⟨g2, 0, none⟩) 1 c2] w fun e w' => ∃ (v' : Value) (e' : TypeId) (g' : Nat), e = .returned v' ∧ w'.ownsRow 0 e' 3 v' (n + 1) (xs.take (i * 3) ++ ys ++ xs.drop (i * 3)) ∧ v'.ownBlock = some g' ∧ (b0 = some g' ∨ w.heap.size ≤ g') ∧ g' < w'.heap.size ∧ Keep w w' (fun x => b0 = some x ∧ x < w.heap.size) := fun A hn0 hx0 hv => by
    subst hn0; subst hx0; subst hv
    obtain rfl : i = 0 := by omega
    have hold : (Builtin.firstCells i0.size 0 (.slice A 0 0)).run Try.prog w.drew = .ok ([] : List Value).toArray w.drew := by
      cases A with
      | none => exact run_firstCells_none w.drew i0.size 0 0 0
      | some a => exact run_firstCells_some w.drew i0.size 0 a 0 0 [] (by simp) (fun j v hj => by simp at hj)
    refine (hgrow A 0 (by omega) (by omega) (by omega) (fun _ => ⟨rfl, rfl⟩) rfl hold).mono ?_
    rintro e w' ⟨v', e', g', rfl, h1, h2, h3, h4, h5⟩
    exact ⟨v', e', g', rfl, by simpa using h1, h2, .inr h3, h4, h5.mono fun _ _ h => h.elim⟩
  rcases h0 with ho | ⟨hn0, hx0, A, hv⟩
  case inr => exact hempty A hn0 hx0 hv
  have hxl : xs.length = n * 3 := ho.1
  rcases ho.2 with ⟨hv, hn0⟩ | ⟨g, c, cur, rfl, _, hg, hnc, hcm, hcs, htk⟩
  · exact hempty none hn0 (List.eq_nil_of_length_eq_zero (by rw [hxl, hn0])) hv
  rcases hb with rfl | ⟨hn0, hx0, A, hv⟩
  case inr => exact hempty A hn0 hx0 hv
  have hne : g2 ≠ g := fun h => hne g2 rfl (by rw [h]; rfl)
  have hlg : g < w.heap.size := by
    rcases Nat.lt_or_ge g w.heap.size with h | h
    · exact h
    · rw [Array.getElem?_eq_none h] at hg; cases hg
  have hcx : ∀ j v, xs[j]? = some v → cur[j]? = some v := fun j v h => by
    rw [← htk, List.getElem?_take] at h
    split at h
    · rwa [Array.getElem?_toList] at h
    · cases h
  have hc63 : c ≤ 9223372036854775807 := hcm
  by_cases hin : i = n
  · subst hin
    have hts : xs.take (i * 3) ++ ys ++ xs.drop (i * 3) = xs ++ ys := by rw [List.take_of_length_le (by omega), List.drop_of_length_le (by omega), List.append_nil]
    rw [hts]
    by_cases hroom : i + 1 ≤ c
    · have hfit : i * i0.size + ys.length ≤ cur.size := by rw [hzs, hy, hcs]; omega
      have hrun := fun ty => appK_room w 24 ty 70 e i0 Try.underlying24 hi0 g i c cur hg ⟨g2, 0, none⟩ 1 c2 ys (by rw [hzs, hy]) hnews hy1 hroom hfit
      refine (insV_end (some ⟨g, 0, none⟩) i c g2 c2 _ w _ hnc hc63 hc2 (fun h => by cases h) hrun).mono ?_
      rintro e' w' ⟨rfl, rfl⟩
      refine ⟨_, e, g, rfl, ownsRow_at (setRow_heap w g cur _ e _ hg) hroom hcm ?_ ?_ ?_, rfl, .inl rfl, by simpa using hlg, ⟨rfl, rfl, rfl, by simp, fun k hk hnk => setRow_other w g k _ (fun h => hnk ⟨by rw [h]; rfl, hk⟩)⟩⟩
      · simp only [List.size_toArray, List.length_append, List.length_take, List.length_drop, Array.length_toList, hzs, hy, hcs]
        omega
      · rw [hzs, htk]
        exact List.take_left' (by rw [List.length_append, hxl, hy]; omega)
      · rw [List.length_append, hxl, hy]; omega
    · have hold : (Builtin.firstCells i0.size i (.slice (some ⟨g, 0, none⟩) i c)).run Try.prog w.drew = .ok xs.toArray w.drew := by
        rw [hzs]
        exact run_firstCells_some w.drew 3 i ⟨g, 0, none⟩ i c _ hxl (fun j v hj => by
          rw [Addr.add_lit]
          show w.cell? _ = _
          rw [rowcell hg, Nat.zero_add]
          exact hcx j v hj)
      refine (hgrow (some ⟨g, 0, none⟩) c hnc (by omega) hc63 (fun h => by cases h) hxl hold).mono ?_
      rintro e' w' ⟨v', e', g', rfl, h1, h2, h3, h4, h5⟩
      exact ⟨v', e', g', rfl, h1, h2, .inr h3, h4, h5.mono fun _ _ h => h.elim⟩
  · have hil : i < n := by omega
    by_cases hroom : n + 1 ≤ c
    · refine (insV_shift g n c i g2 c2 xs ys hy hy1 w cur cur2 e e2 hil hroom hc63 hne hxl hg hcs htk hg2 h32 ht2 h1c).mono ?_
      rintro e' w' ⟨rfl, F, hFs, hFt, rfl⟩
      exact ⟨_, e, g, rfl, ownsRow_at (setRow_heap w.drew g cur _ e _ hg) hroom hcm (hFs.trans hcs) hFt (by simp only [List.length_append, List.length_take, List.length_drop, hxl, hy]; omega), rfl, .inl rfl, by simpa using hlg, ⟨rfl, rfl, rfl, by simp, fun k hk hnk => setRow_other w.drew g k _ (fun h => hnk ⟨by rw [h]; rfl, hk⟩)⟩⟩
    · refine (insV_grow g n c i g2 c2 xs ys hy hy1 w cur cur2 e e2 hil hnc (by omega) hn hxl hg hcs htk hg2 h32 ht2 h1c).mono ?_
      rintro e' w' ⟨G, F, hge, hcm, rfl, hFs, hFt, R, rfl⟩
      exact ⟨_, _, w.heap.size, rfl, ownsRow_at (setRow_heap _ _ _ _ _ _ (heap_alloc_new w.drew _)) hge hcm hFs hFt (by simp only [List.length_append, List.length_take, List.length_drop, hxl, hy]; omega), rfl, .inr (Nat.le_refl _), by simp [World.alloc], ⟨rfl, rfl, rfl, by simp [World.alloc], fun k hk _ => (setRow_other _ w.heap.size k _ (by omega)).trans (heap_alloc_old w.drew _ hk)⟩⟩
theorem slab_ins {w w' : World} {S S2 : Nat → Prop} {sz i n : Nat} {rows : List (List Cell)} {row : List Cell} {v' : Value} {e' : TypeId} {xs ys : List Value} {u u2 : Nat → Nat → Value} {F F2 : Nat → Nat → Nat → Prop} (hn : rows.length = n) (hi : i ≤ n)
    (hz : ∀ r ∈ rows, r.length = sz) (hz2 : row.length = sz) (hxl : xs.length = n * sz) (hyl : ys.length = sz) (hd : ∀ x, S x → ¬ S2 x)
    (hF : ∀ j k x, F j k x → S x ∧ v'.ownBlock ≠ some x ∧ w'.heap[x]? = w.heap[x]?) (hF2 : ∀ j k x, F2 j k x → S2 x ∧ v'.ownBlock ≠ some x ∧ w'.heap[x]? = w.heap[x]?)
    (hdF : ∀ j k j' k' x, F j k x → F j' k' x → j = j' ∧ k = k') (hdF2 : ∀ j k j' k' x, F2 j k x → F2 j' k' x → j = j' ∧ k = k')
    (hu : ∀ j k, j < n → k < sz → xs[j * sz + k]? = some (u j k)) (hu2 : ∀ k, k < sz → ys[k]? = some (u2 0 k))
    (hr : ∀ j k r c, rows[j]? = some r → r[k]? = some c → Go.Sx.Own w (F j k) c (u j k)) (hr2 : ∀ k c, row[k]? = some c → Go.Sx.Own w (F2 0 k) c (u2 0 k))
    (ho : w'.ownsRow 0 e' sz v' (n + 1) (xs.take (i * sz) ++ ys ++ xs.drop (i * sz))) :
    Slab w' (Go.Sx.Own w') (fun x => v'.ownBlock = some x ∨ (∃ j k, F j k x) ∨ ∃ k, F2 0 k x) sz (rows.take i ++ [row] ++ rows.drop i) v' := by
  have hlt : (rows.take i).length = i := by rw [List.length_take]; omega
  have hlen : (rows.take i ++ [row] ++ rows.drop i).length = n + 1 := by simp only [List.length_append, List.length_take, List.length_drop, List.length_cons, List.length_nil]; omega
  have hget : ∀ j, (rows.take i ++ [row] ++ rows.drop i)[j]? = if j < i then rows[j]? else if j = i then some row else rows[j - 1]? := fun j => by
    by_cases h1 : j < i
    · rw [if_pos h1, List.append_assoc, List.getElem?_append_left (by omega), List.getElem?_take, if_pos h1]
    · rw [if_neg h1]
      by_cases h2 : j = i
      · subst h2
        rw [if_pos rfl, List.append_assoc, List.getElem?_append_right (by omega), hlt, Nat.sub_self]; rfl
      · rw [if_neg h2, List.getElem?_append_right (by simp only [List.length_append, hlt, List.length_cons, List.length_nil]; omega), List.getElem?_drop]
        congr 1
        simp only [List.length_append, hlt, List.length_cons, List.length_nil]; omega
  have hmv : ∀ {G : Nat → Prop} {c : Cell} {v : Value}, Go.Sx.Own w G c v → (∀ x, G x → w'.heap[x]? = w.heap[x]?) → Go.Sx.Own w' G c v := fun h hx => h.frame hx
  refine .inr ⟨e', _, fun j k => if j < i then u j k else if j = i then u2 0 k else u (j - 1) k, fun j k => if j < i then F j k else if j = i then F2 0 k else F (j - 1) k, ⟨by rw [hlen]; exact ho, fun g hg => .inl hg, fun r hr' => ?_, fun j k x hx => ?_, fun j k j' k' x hx hx' => ?_, fun j k hj hk => ?_, fun j k r c h1 h2 => ?_⟩⟩
  · simp only [List.mem_append, List.mem_singleton] at hr'
    rcases hr' with (h | h) | h
    · exact hz r (List.mem_of_mem_take h)
    · rw [h]; exact hz2
    · exact hz r (List.mem_of_mem_drop h)
  · split at hx
    · exact ⟨.inr (.inl ⟨j, k, hx⟩), fun h => (hF j k x hx).2.1 h.symm⟩
    · split at hx
      · exact ⟨.inr (.inr ⟨k, hx⟩), fun h => (hF2 0 k x hx).2.1 h.symm⟩
      · exact ⟨.inr (.inl ⟨j - 1, k, hx⟩), fun h => (hF (j - 1) k x hx).2.1 h.symm⟩
  · have key : ∀ (a b : Nat), F a b x → ∀ b', F2 0 b' x → False := fun a b h b' h' => hd x (hF a b x h).1 (hF2 0 b' x h').1
    split at hx <;> split at hx'
    · exact hdF _ _ _ _ x hx hx'
    · split at hx'
      · exact (key _ _ hx _ hx').elim
      · have := hdF _ _ _ _ x hx hx'; omega
    · split at hx
      · exact (key _ _ hx' _ hx).elim
      · have := hdF _ _ _ _ x hx hx'; omega
    · split at hx <;> split at hx'
      · have := hdF2 _ _ _ _ x hx hx'; omega
      · exact (key _ _ hx' _ hx).elim
      · exact (key _ _ hx _ hx').elim
      · have := hdF _ _ _ _ x hx hx'; omega
  · rw [hlen] at hj
    have hlx : (xs.take (i * sz)).length = i * sz := by rw [List.length_take, hxl]; exact Nat.min_eq_left (Nat.mul_le_mul_right _ hi)
    by_cases h1 : j < i
    · rw [if_pos h1]
      have hjk := idx_lt h1 hk
      rw [List.append_assoc, List.getElem?_append_left (by omega), List.getElem?_take, if_pos hjk]
      exact hu j k (by omega) hk
    · rw [if_neg h1]
      by_cases h2 : j = i
      · subst h2
        rw [if_pos rfl, List.append_assoc, List.getElem?_append_right (by omega), hlx, List.getElem?_append_left (by omega)]
        rw [show j * sz + k - j * sz = k by omega]
        exact hu2 k hk
      · rw [if_neg h2]
        have e1 : j * sz = (j - 1) * sz + sz := by
          obtain ⟨m, rfl⟩ : ∃ m, j = m + 1 := ⟨j - 1, by omega⟩
          rw [Nat.add_mul, Nat.one_mul]; rfl
        have e2 : i * sz ≤ (j - 1) * sz := Nat.mul_le_mul_right _ (by omega)
        rw [List.getElem?_append_right (by rw [List.length_append, hlx, hyl]; omega), List.getElem?_drop]
        rw [show i * sz + (j * sz + k - (xs.take (i * sz) ++ ys).length) = (j - 1) * sz + k by rw [List.length_append, hlx, hyl]; omega]
        exact hu (j - 1) k (by omega) hk
  · rw [hget] at h1
    split at h1
    · rename_i h3; rw [if_pos h3, if_pos h3]; exact hmv (hr j k r c h1 h2) fun x hx => (hF j k x hx).2.2
    · rename_i h3
      rw [if_neg h3, if_neg h3]
      split at h1
      · rename_i h4; cases h1; rw [if_pos h4, if_pos h4]; exact hmv (hr2 k c h2) fun x hx => (hF2 0 k x hx).2.2
      · rename_i h4; rw [if_neg h4, if_neg h4]; exact hmv (hr (j - 1) k r c h1 h2) fun x hx => (hF (j - 1) k x hx).2.2
theorem insS_pg (us : List Ses) (x : Ses) (i : Nat) (hi : i ≤ us.length) (hu : us.length ≤ 1048576) : PG Try.prog 33 [.one (.giv true 3 (us.map Ses.cs)), .one (.bor (i64 i)), .one (.giv true 3 ([x].map Ses.cs))] (.one (.own false [.l 3 ((us.take i ++ [x] ++ us.drop i).map Ses.cs)])) [] := by
  refine ⟨by kernel_rfl, fun N S w vals hS hSd hsh hc => ?_⟩
  obtain ⟨v0, v1, v2, rfl⟩ : ∃ v0 v1 v2, vals = #[v0, v1, v2] := by
    match vals, hsh with
    | ⟨[v0, v1, v2]⟩, _ => exact ⟨v0, v1, v2, rfl⟩
  obtain ⟨sz, hz, h0⟩ := hc 0 _ v0 rfl rfl
  obtain rfl := hz (by decide)
  have h1 : Rep w N (i64 i) v1 := hc 1 _ v1 rfl rfl
  obtain ⟨sz, hz, h2⟩ := hc 2 _ v2 rfl rfl
  obtain rfl := hz (by decide)
  obtain rfl : v1 = .int .i64 i := by cases h1; rfl
  have hS0 : ∀ y, S 0 y → y < w.heap.size := fun y hy => (hS 0 y hy).1
  have hS2 : ∀ y, S 2 y → y < w.heap.size := fun y hy => (hS 2 y hy).1
  have hd : ∀ y, S 0 y → ¬ S 2 y := fun y h h' => by have := hSd 0 2 y h h'; omega
  have hm : (us.take i ++ [x] ++ us.drop i).map Ses.cs = (us.map Ses.cs).take i ++ [x.cs] ++ (us.map Ses.cs).drop i := by simp
  rw [hm]
  have hul : (us.map Ses.cs).length = us.length := List.length_map ..
  rcases h2 with ⟨h, _⟩ | ⟨e2, ys, u2, F2, a2⟩
  · cases h
  have one2 : ∀ v ∈ ys, v.oneCell' = true := fun v hv => by
    obtain ⟨k, hk⟩ := List.mem_iff_getElem?.1 hv
    have hkl : k < 3 := by have := (List.getElem?_eq_some_iff.1 hk).1; have := a2.ho.1; simp at this; omega
    have h3 := a2.hu 0 k (by simp) hkl
    rw [Nat.zero_mul, Nat.zero_add, hk] at h3
    cases h3
    obtain ⟨c, hc'⟩ := gx (xs := x.cs) (i := k) (by simpa using hkl)
    exact (a2.hr 0 k x.cs c rfl hc').one
  obtain ⟨xs, u, F, e, hown, hxl, hF, hdF, hus, hrs, hb0⟩ : ∃ (xs : List Value) (u : Nat → Nat → Value) (F : Nat → Nat → Nat → Prop) (e : TypeId), (w.ownsRow 0 e 3 v0 us.length xs ∨ (us.length = 0 ∧ xs = [] ∧ ∃ A, v0 = .slice A 0 0)) ∧ xs.length = us.length * 3 ∧
      (∀ j k y, F j k y → S 0 y ∧ some y ≠ v0.ownBlock) ∧ (∀ j k j' k' y, F j k y → F j' k' y → j = j' ∧ k = k') ∧ (∀ j k, j < us.length → k < 3 → xs[j * 3 + k]? = some (u j k)) ∧ (∀ j k r c, (us.map Ses.cs)[j]? = some r → r[k]? = some c → Go.Sx.Own w (F j k) c (u j k)) ∧ ((∀ g, v0.ownBlock = some g → S 0 g) ∨ (us.length = 0 ∧ ∃ A, v0 = .slice A 0 0)) := by
    rcases h0 with ⟨h, A, rfl⟩ | ⟨e, xs, u, F, a⟩
    · have hl0 : us.length = 0 := by rw [← hul, h]; rfl
      exact ⟨[], fun _ _ => undef, fun _ _ _ => False, 0, .inr ⟨hl0, rfl, A, rfl⟩, by rw [hl0]; rfl, fun _ _ _ h => h.elim, fun _ _ _ _ _ h => h.elim, fun j k hj => by omega, fun j k r c h1 => by rw [h] at h1; simp at h1, .inr ⟨hl0, A, rfl⟩⟩
    · have hl := a.ho.1
      rw [hul] at hl
      exact ⟨xs, u, F, e, .inl (by have := a.ho; rwa [hul] at this), hl, a.hF, a.hd, fun j k hj hk => a.hu j k (by omega) hk, a.hr, .inl a.hS⟩
  have one0 : ∀ v ∈ xs, v.oneCell' = true := fun v hv => by
    obtain ⟨m, hk⟩ := List.mem_iff_getElem?.1 hv
    have hml := (List.getElem?_eq_some_iff.1 hk).1
    have h3 := hus (m / 3) (m % 3) (by omega) (by omega)
    rw [show m / 3 * 3 + m % 3 = m by omega, hk] at h3
    cases h3
    obtain ⟨r, hr⟩ := gx (xs := us) (i := m / 3) (by omega)
    obtain ⟨c, hc'⟩ := gx (xs := r.cs) (i := m % 3) (by simp; omega)
    exact (hrs (m / 3) (m % 3) r.cs c (gm Ses.cs hr) hc').one
  have hg2 : ∀ g, v2.ownBlock = some g → S 2 g := a2.hS
  obtain ⟨b0, hbx, hbS, hbF⟩ : ∃ b0 : Option Nat, (b0 = v0.ownBlock ∨ (us.length = 0 ∧ xs = [] ∧ ∃ A, v0 = .slice A 0 0)) ∧ (∀ g, b0 = some g → S 0 g) ∧ ∀ j k y, F j k y → b0 ≠ some y := by
    rcases hb0 with h | ⟨hl0, A, hv⟩
    · exact ⟨v0.ownBlock, .inl rfl, h, fun j k y hy h' => (hF j k y hy).2 h'.symm⟩
    · exact ⟨none, .inr ⟨hl0, List.eq_nil_of_length_eq_zero (by rw [hxl, hl0]), A, hv⟩, nofun, nofun⟩
  refine (insV_run us.length i xs ys w v0 v2 e e2 hi hu hown (by simpa using a2.ho) one0 one2 b0 hbx (fun g h h' => hd g (hbS g h') (hg2 g h))).mono ?_
  rintro e w' ⟨v', e', g', rfl, hrow, hvb, hgb, hgl, hk⟩
  have hfr : ∀ y, y < w.heap.size → b0 ≠ some y → w'.heap[y]? = w.heap[y]? := fun y hy h => hk.block y hy fun h' => h h'.1
  have hoF : ∀ j k y, F j k y → S 0 y ∧ v'.ownBlock ≠ some y ∧ w'.heap[y]? = w.heap[y]? := fun j k y hy => by
    obtain ⟨q1, q2⟩ := hF j k y hy
    exact ⟨q1, fun h => by
      rw [hvb] at h; cases h
      rcases hgb with h | h
      · exact hbF _ _ _ hy h
      · have := hS0 _ q1; omega, hfr y (hS0 y q1) (hbF _ _ _ hy)⟩
  have hoF2 : ∀ j k y, F2 j k y → S 2 y ∧ v'.ownBlock ≠ some y ∧ w'.heap[y]? = w.heap[y]? := fun j k y hy => by
    obtain ⟨q1, q2⟩ := a2.hF j k y hy
    exact ⟨q1, fun h => by
      rw [hvb] at h; cases h
      rcases hgb with h | h
      · exact hd _ (hbS _ h) q1
      · have := hS2 _ q1; omega, hfr y (hS2 y q1) (fun h => hd _ (hbS _ h) q1)⟩
  have hsl := slab_ins (w := w) (w' := w') (S := S 0) (S2 := S 2) (sz := 3) (i := i) (rows := us.map Ses.cs) (row := x.cs) (v' := v') hul hi (fun r hr => by obtain ⟨y, _, rfl⟩ := List.mem_map.1 hr; rfl) rfl hxl (by have := a2.ho.1; simpa using this) hd hoF hoF2 hdF a2.hd hus (fun k hk => by have := a2.hu 0 k (by simp) hk; rwa [Nat.zero_mul, Nat.zero_add] at this) hrs (fun k c hc' => a2.hr 0 k x.cs c rfl hc') hrow
  have hR : ∀ y, (v'.ownBlock = some y ∨ (∃ j k, F j k y) ∨ ∃ k, F2 0 k y) → (w.heap.size ≤ y ∨ S 0 y ∨ S 2 y) ∧ y < w'.heap.size := fun y hy => by
    rcases hy with hy | ⟨j, k, hy⟩ | ⟨k, hy⟩
    · rw [hvb] at hy; cases hy
      exact ⟨hgb.elim (fun h => .inr (.inl (hbS _ h))) .inl, hgl⟩
    · exact ⟨.inr (.inl (hoF j k y hy).1), Nat.lt_of_lt_of_le (hS0 y (hoF j k y hy).1) hk.size⟩
    · exact ⟨.inr (.inr (hoF2 0 k y hy).1), Nat.lt_of_lt_of_le (hS2 y (hoF2 0 k y hy).1) hk.size⟩
  refine ⟨v', fun y => v'.ownBlock = some y ∨ (∃ j k, F j k y) ∨ ∃ k, F2 0 k y, fun _ _ => False, rfl, hk.mono fun y _ h => ⟨0, hbS y h.1⟩, ⟨#[v'], fun k y => k = 0 ∧ (v'.ownBlock = some y ∨ (∃ j k, F j k y) ∨ ∃ k, F2 0 k y), rfl, rfl, fun k y hy => hy.2, fun k k' y hy hy' => by rw [hy.1, hy'.1], fun k c u hc hu => ?_⟩, fun y hy => ⟨(hR y hy).1.elim .inl fun h => h.elim (fun h => .inr ⟨0, h⟩) fun h => .inr ⟨2, h⟩, (hR y hy).2, fun _ h => h⟩, fun _ _ h => h.elim, fun _ _ _ h => h.elim, fun t rows' hb => by cases hb⟩
  cases k with
  | succ k => simp at hc
  | zero =>
    cases hc
    cases hu
    exact ⟨3, fun _ => rfl, Slab.imp hsl (fun _ h => ⟨rfl, h⟩) (fun _ _ _ => rfl) (fun _ _ _ _ h => h)⟩
end Go.Proofs.Ytlkjdcpcbnfbbaa
end
section
namespace Go.Proofs.Ytlkjdcpcbnfbbaa
open Go Go.Sx
set_option maxRecDepth 20000
set_option maxHeartbeats 4000000
theorem iOpen_pc (ss : List Ses) (hl : ss.length ≤ 1048576) (hs : ∀ x ∈ ss, x.sent.length ≤ 1048576) (cl : Int) : PC Try.prog 8 [.one (.l (ss.map Ses.cs)), .one (i64 cl)] (rSes (openR ss cl)) := by
  refine PC.begin Try.func8 rfl (by kernel_rfl) ?_
  have hF := iSes_pc ss hl hs
  have hw := isClient_pc cl
  by_cases h1 : sesFault ss = 0
  case neg =>
    have e : openR ss cl = (sesFault ss, []) := by unfold openR; rw [if_pos h1]
    rw [e]
    refine xcall rfl (hF) rfl ⟨trivial, trivial⟩ ?_
    refine xb rfl (fun b0 => ?_) (fun b0 => ?_)
    refine xr rfl (xret rfl ⟨⟨rfl, rfl, rfl, rfl, rfl, rfl, rfl, rfl, rfl, trivial⟩, nodB_nodup rfl⟩)
    exact absurd b0 (by simp; omega)
    all_goals first | (exfalso; simp_all; done) | (refine vi ?_; simp_all; done) | skip
  have n1 : ¬ sesFault ss ≠ 0 := fun h => h h1
  cases h2 : within cl 1 999 with
  | false =>
    have e : openR ss cl = (3, []) := by unfold openR; rw [if_neg n1, if_pos h2]
    rw [e]
    refine xcall rfl (hF) rfl ⟨trivial, trivial⟩ ?_
    refine xb rfl (fun b0 => ?_) (fun b0 => ?_)
    exact absurd b0 (by simp; omega)
    refine xcall rfl (hw) rfl ⟨trivial, trivial⟩ ?_
    refine xb rfl (fun b1 => ?_) (fun b1 => ?_)
    refine xr rfl (xret rfl ⟨⟨rfl, rfl, rfl, rfl, rfl, rfl, rfl, rfl, rfl, trivial⟩, nodB_nodup rfl⟩)
    exact absurd b1 (by simp; omega)
    all_goals first | (exfalso; simp_all; done) | (refine vi ?_; simp_all; done) | skip
  | true =>
    have n2 : ¬ within cl 1 999 = false := by rw [h2]; decide
    have hA := sessionAt_pc ss cl hl
    have hC := copySessions_pc ss hl hs
    obtain ⟨hle, hok, hch⟩ := ses_ok h1
    have hst := strict_of_key (key := Ses.cl) hch cl
    have hB := bsP_low hst
    cases hq : (ss.find? fun s => s.cl == cl).isSome with
    | true =>
      have e : openR ss cl = (0, ss) := by unfold openR; rw [if_neg n1, if_neg n2, if_pos hq]
      rw [e]
      have hBF : bsF (fun x : Ses => cmp3 x.cl cl) ss = true := by
        obtain ⟨s, hs'⟩ := Option.isSome_iff_exists.1 hq
        obtain ⟨hsm, hcl⟩ := ses_find hs'
        obtain ⟨i, hi⟩ := List.mem_iff_getElem?.1 hsm
        exact (bs_found hst hi (cmp3_eq.2 hcl)).2
      refine xcall rfl (hF) rfl ⟨trivial, trivial⟩ ?_
      refine xb rfl (fun b0 => ?_) (fun b0 => ?_)
      exact absurd b0 (by simp; omega)
      refine xcall rfl (hw) rfl ⟨trivial, trivial⟩ ?_
      refine xb rfl (fun b1 => ?_) (fun b1 => ?_)
      exact absurd b1 (by simp; omega)
      refine xcall rfl (hC) rfl ⟨trivial, trivial⟩ ?_
      refine xcall rfl (hA) rfl ⟨rfl, trivial, trivial⟩ ?_
      refine xb rfl (fun b2 => ?_) (fun b2 => ?_)
      refine xr rfl (xret rfl ⟨⟨rfl, rfl, rfl, ⟨rfl, rfl, .inl rfl⟩, rfl, rfl, rfl, rfl, rfl, trivial⟩, nodB_nodup rfl⟩)
      exact absurd b2 (by simp; omega)
      all_goals first | (exfalso; simp_all; done) | (refine vi ?_; simp_all; done) | skip
    | false =>
      have hBF : bsF (fun x : Ses => cmp3 x.cl cl) ss = false := bs_none fun i x hx h0 => ses_no hq i x hx (cmp3_eq.1 h0)
      by_cases h3 : ss.length = 10
      · have e : openR ss cl = (2, []) := by unfold openR; rw [if_neg n1, if_neg n2, hq, if_neg (by decide), if_pos h3]
        rw [e]
        refine xcall rfl (hF) rfl ⟨trivial, trivial⟩ ?_
        refine xb rfl (fun b0 => ?_) (fun b0 => ?_)
        exact absurd b0 (by simp; omega)
        refine xcall rfl (hw) rfl ⟨trivial, trivial⟩ ?_
        refine xb rfl (fun b1 => ?_) (fun b1 => ?_)
        exact absurd b1 (by simp; omega)
        refine xcall rfl (hC) rfl ⟨trivial, trivial⟩ ?_
        refine xcall rfl (hA) rfl ⟨rfl, trivial, trivial⟩ ?_
        refine xb rfl (fun b2 => ?_) (fun b2 => ?_)
        exact absurd b2 (by simp; omega)
        refine xb rfl (fun b3 => ?_) (fun b3 => ?_)
        refine xr rfl (xret rfl ⟨⟨rfl, rfl, rfl, rfl, rfl, rfl, rfl, rfl, rfl, trivial⟩, nodB_nodup rfl⟩)
        exact absurd b3 (by simp; omega)
        all_goals first | (exfalso; simp_all; done) | (refine vi ?_; simp_all; done) | skip
      · have e : openR ss cl = (0, putS1 cl ss) := by unfold openR; rw [if_neg n1, if_neg n2, hq, if_neg (by decide), if_neg h3]
        rw [e]
        have hI := insS_pg ss ⟨cl, 1, []⟩ (lowS cl ss) (lowS_le cl ss) hl
        rw [← hB] at hI
        refine xcall rfl (hF) rfl ⟨trivial, trivial⟩ ?_
        refine xb rfl (fun b0 => ?_) (fun b0 => ?_)
        exact absurd b0 (by simp; omega)
        refine xcall rfl (hw) rfl ⟨trivial, trivial⟩ ?_
        refine xb rfl (fun b1 => ?_) (fun b1 => ?_)
        exact absurd b1 (by simp; omega)
        refine xcall rfl (hC) rfl ⟨trivial, trivial⟩ ?_
        refine xcall rfl (hA) rfl ⟨rfl, trivial, trivial⟩ ?_
        refine xb rfl (fun b2 => ?_) (fun b2 => ?_)
        exact absurd b2 (by simp; omega)
        refine xb rfl (fun b3 => ?_) (fun b3 => ?_)
        exact absurd b3 (by simp; omega)
        refine xs rfl ⟨trivial, trivial, trivial, trivial⟩ ?_
        refine xgive rfl (hI) ⟨⟨rfl, rfl, rfl, rfl⟩, rfl, ⟨rfl, rfl, rfl, rfl⟩, trivial⟩ rfl ?_
        refine xr rfl (xret rfl ⟨⟨rfl, rfl, rfl, ⟨rfl, ?_, .inl rfl⟩, rfl, rfl, rfl, rfl, rfl, trivial⟩, nodB_nodup rfl⟩)
        all_goals first | (rw [hB]; rfl) | (exfalso; simp_all; done) | (refine vi ?_; simp_all; done) | skip
end Go.Proofs.Ytlkjdcpcbnfbbaa
end
section
namespace Go.Proofs.Ytlkjdcpcbnfbbaa
open Go Go.Sx
set_option maxRecDepth 20000
set_option maxHeartbeats 4000000
theorem l15CopyB_pc (us : List Ses) (hl : us.length ≤ 1048576) (hb : ∀ x ∈ us, x.sent.length ≤ 1048576) : PC Try.prog 26 [.one (.l (us.map Ses.cs))] (.one (.bor false [.l (us.map Ses.cs)])) := PC.lend (l15Copy_pc us hl hb)
theorem sOpen_pc (ss : List Ses) (hl : ss.length ≤ 1048576) (hs : ∀ x ∈ ss, x.sent.length ≤ 1048576) (cl : Int) : PC Try.prog 6 [.one (.l (ss.map Ses.cs)), .one (i64 cl)] (rSesB (openR ss cl)) := by
  refine PC.begin Try.func6 rfl (by kernel_rfl) ?_
  have hF := sSes_pc ss hl hs
  have hw := l1In_pc cl 1 999
  have hD := sSesFind_pc ss cl hl
  have hC := l15CopyB_pc ss hl hs
  by_cases h1 : sesFault ss = 0
  case neg =>
    have e : openR ss cl = (sesFault ss, []) := by unfold openR; rw [if_pos h1]
    rw [e]
    refine xcall rfl (hF) rfl ⟨trivial, trivial⟩ ?_
    refine xb rfl (fun b0 => ?_) (fun b0 => ?_)
    refine xr rfl (xret rfl ⟨⟨rfl, rfl, rfl, rfl, rfl, rfl, rfl, rfl, rfl, trivial⟩, nodB_nodup rfl⟩)
    exact absurd b0 (by simp; omega)
    all_goals first | (exfalso; simp_all; done) | (refine vi ?_; simp_all; done) | skip
  have n1 : ¬ sesFault ss ≠ 0 := fun h => h h1
  cases h2 : within cl 1 999 with
  | false =>
    have e : openR ss cl = (3, []) := by unfold openR; rw [if_neg n1, if_pos h2]
    rw [e]
    rw [h2] at hw
    refine xcall rfl (hF) rfl ⟨trivial, trivial⟩ ?_
    refine xb rfl (fun b0 => ?_) (fun b0 => ?_)
    exact absurd b0 (by simp; omega)
    refine xcall rfl (l1In_pc _ _ _) rfl ⟨trivial, trivial, trivial, trivial⟩ ?_
    refine xb rfl (fun b1 => ?_) (fun b1 => ?_)
    refine xr rfl (xret rfl ⟨⟨rfl, rfl, rfl, rfl, rfl, rfl, rfl, rfl, rfl, trivial⟩, nodB_nodup rfl⟩)
    exact absurd b1 (by simp; omega)
    all_goals first | (exfalso; simp_all; done) | (refine vi ?_; simp_all; done) | skip
  | true =>
    have n2 : ¬ within cl 1 999 = false := by rw [h2]; decide
    rw [h2] at hw
    obtain ⟨hle, hok, hch⟩ := ses_ok h1
    cases hq : ss.find? fun s => s.cl == cl with
    | some s =>
      have e : openR ss cl = (0, ss) := by unfold openR; rw [if_neg n1, if_neg n2, hq]; rfl
      rw [e]
      obtain ⟨i, hi0, _⟩ := idxP_at hq
      rw [hi0] at hD
      refine xcall rfl (hF) rfl ⟨trivial, trivial⟩ ?_
      refine xb rfl (fun b0 => ?_) (fun b0 => ?_)
      exact absurd b0 (by simp; omega)
      refine xcall rfl (l1In_pc _ _ _) rfl ⟨trivial, trivial, trivial, trivial⟩ ?_
      refine xb rfl (fun b1 => ?_) (fun b1 => ?_)
      exact absurd b1 (by simp; omega)
      refine xcall rfl (hC) rfl ⟨trivial, trivial⟩ ?_
      refine xcall rfl (hD) rfl ⟨trivial, trivial, trivial⟩ ?_
      refine xj (k := 1) rfl ?_
      refine xr rfl (xret rfl ⟨⟨rfl, rfl, rfl, rfl, rfl, rfl, rfl, rfl, rfl, trivial⟩, nodB_nodup rfl⟩)
      all_goals first | (exfalso; simp_all; done) | (exfalso; simp_all; omega) | (refine vi ?_; simp_all; done) | skip
    | none =>
      rw [idxP_no hq] at hD
      by_cases h3 : ss.length = 10
      · have e : openR ss cl = (2, []) := by unfold openR; rw [if_neg n1, if_neg n2, hq, if_neg (by decide), if_pos h3]
        rw [e]
        refine xcall rfl (hF) rfl ⟨trivial, trivial⟩ ?_
        refine xb rfl (fun b0 => ?_) (fun b0 => ?_)
        exact absurd b0 (by simp; omega)
        refine xcall rfl (l1In_pc _ _ _) rfl ⟨trivial, trivial, trivial, trivial⟩ ?_
        refine xb rfl (fun b1 => ?_) (fun b1 => ?_)
        exact absurd b1 (by simp; omega)
        refine xcall rfl (hC) rfl ⟨trivial, trivial⟩ ?_
        refine xcall rfl (hD) rfl ⟨trivial, trivial, trivial⟩ ?_
        refine xj (k := 1) rfl ?_
        refine xb rfl (fun b2 => ?_) (fun b2 => ?_)
        refine xr rfl (xret rfl ⟨⟨rfl, rfl, rfl, rfl, rfl, rfl, rfl, rfl, rfl, trivial⟩, nodB_nodup rfl⟩)
        exact absurd b2 (by simp; omega)
        all_goals first | (exfalso; simp_all; done) | (exfalso; simp_all; omega) | (refine vi ?_; simp_all; done) | skip
      · have e : openR ss cl = (0, putS1 cl ss) := by unfold openR; rw [if_neg n1, if_neg n2, hq, if_neg (by decide), if_neg h3]
        rw [e]
        refine xcall rfl (hF) rfl ⟨trivial, trivial⟩ ?_
        refine xb rfl (fun b0 => ?_) (fun b0 => ?_)
        exact absurd b0 (by simp; omega)
        refine xcall rfl (l1In_pc _ _ _) rfl ⟨trivial, trivial, trivial, trivial⟩ ?_
        refine xb rfl (fun b1 => ?_) (fun b1 => ?_)
        exact absurd b1 (by simp; omega)
        refine xcall rfl (hC) rfl ⟨trivial, trivial⟩ ?_
        refine xcall rfl (hD) rfl ⟨trivial, trivial, trivial⟩ ?_
        refine xj (k := 1) rfl ?_
        refine xb rfl (fun b2 => ?_) (fun b2 => ?_)
        exact absurd b2 (by simp; omega)
        all_goals first | (exfalso; simp_all; done) | (exfalso; simp_all; omega) | skip
        refine xcut (n := 1) rfl (ι := Unit) (fun _ => True) (fun _ => ⟨[(7, sV (.int .i64 ((0 : Nat) : Int))), (6, .one (.b (.l (ss.map Ses.cs)))), (1, sV (.int .i64 cl)), (4, .one (.a 4 0))], [(4, .var [.b (i64 0), .b (i64 0), .nil, .nil, .nil, .nil, .nil, .nil])]⟩) ?_ ?_
        · intro K hK
          exact xcont rfl (hK _ () trivial ⟨⟨rfl, rfl, rfl, ⟨rfl, rfl, rfl⟩, trivial⟩, ⟨⟨rfl, rfl, trivial, trivial, trivial, trivial, trivial, trivial, trivial⟩, trivial⟩, rfl⟩)
        intro _ _
        refine xcut (n := 0) rfl (ι := Unit) (fun _ => True) (fun _ => ⟨[(7, sV (.int .i64 ((lowS cl ss : Nat) : Int))), (6, .one (.b (.l (ss.map Ses.cs)))), (1, sV (.int .i64 cl)), (4, .one (.a 4 0))], [(4, .var [.b (i64 0), .b (i64 0), .nil, .nil, .nil, .nil, .nil, .nil])]⟩) ?_ ?_
        · intro K hK
          refine xloop rfl (ι := Nat) (fun i => i ≤ ss.length ∧ ∀ (j : Nat) (y : Ses), j < i → ss[j]? = some y → y.cl < cl) (fun i => ⟨[(7, sV (.int .i64 (i : Nat))), (6, .one (.b (.l (ss.map Ses.cs)))), (1, sV (.int .i64 cl)), (4, .one (.a 4 0))], [(4, .var [.b (i64 0), .b (i64 0), .nil, .nil, .nil, .nil, .nil, .nil])]⟩) (fun i => ss.length - i) 0 ⟨Nat.zero_le _, fun j y hj => by omega⟩ ?_ ?_
          · exact ⟨⟨rfl, rfl, rfl, ⟨rfl, rfl, rfl⟩, trivial⟩, ⟨⟨rfl, rfl, trivial, trivial, trivial, trivial, trivial, trivial, trivial⟩, trivial⟩, rfl⟩
          · intro i ⟨hi, h0⟩ J hJ
            rcases Nat.lt_or_ge i ss.length with hlt | hge
            · obtain ⟨y, hy⟩ := gx hlt
              have hg := gm Ses.cs hy
              refine xb rfl (fun b0 => ?_) (fun b0 => ?_)
              refine xj (k := 2) rfl ?_
              refine xs rfl (Int.natCast_nonneg _) ?_
              refine xrow rfl _ hg ?_
              refine xs rfl rfl ?_
              refine xj (k := 5) rfl ?_
              refine xb rfl (fun b1 => ?_) (fun b1 => ?_)
              rotate_left
              rotate_left
              exact absurd b0 (by simp; omega)
              · have h2' : y.cl < cl := by simpa using b1
                exact xcont rfl (hJ _ (i + 1) ⟨by omega, fun j z hj hz => by
                  rcases Nat.lt_or_ge j i with h5 | h5
                  · exact h0 j z h5 hz
                  · have : j = i := by omega
                    subst this
                    rw [hy] at hz; cases hz; exact h2'⟩ (by omega) ⟨⟨cwi (by omega) (by omega) (by omega), rfl, rfl, ⟨rfl, rfl, rfl⟩, trivial⟩, ⟨⟨rfl, rfl, trivial, trivial, trivial, trivial, trivial, trivial, trivial⟩, trivial⟩, rfl⟩)
              · have h2' : cl ≤ y.cl := by simpa using b1
                have hle' : lowS cl ss = i := lowS_eq h0 hi (.inr ⟨y, hy, h2'⟩)
                rw [hle'] at hK
                exact xcont rfl (hK _ () trivial ⟨⟨rfl, rfl, rfl, ⟨rfl, rfl, rfl⟩, trivial⟩, ⟨⟨rfl, rfl, trivial, trivial, trivial, trivial, trivial, trivial, trivial⟩, trivial⟩, rfl⟩)
            · have hie : i = ss.length := by omega
              have hle' : lowS cl ss = i := lowS_eq h0 hi (.inl hie)
              rw [hle'] at hK
              refine xb rfl (fun b0 => ?_) (fun b0 => ?_)
              exact absurd b0 (by simp; omega)
              refine xj (k := 8) rfl ?_
              all_goals first | (exfalso; simp_all; done) | (exfalso; simp_all; omega) | skip
              all_goals exact xcont rfl (hK _ () trivial ⟨⟨rfl, rfl, rfl, ⟨rfl, rfl, rfl⟩, trivial⟩, ⟨⟨rfl, rfl, trivial, trivial, trivial, trivial, trivial, trivial, trivial⟩, trivial⟩, rfl⟩)
        intro _ _
        have hk := lowS_le cl ss
        have hrow : ∀ row ∈ ss.map Ses.cs, row.length = 3 := fun row hr => by
          obtain ⟨y, _, rfl⟩ := List.mem_map.1 hr
          rfl
        have hput : (ss.map Ses.cs).take (lowS cl ss) ++ [(⟨cl, 1, []⟩ : Ses).cs] ++ (ss.map Ses.cs).drop (lowS cl ss) = (putS1 cl ss).map Ses.cs := by simp [putS1, List.map_take, List.map_drop]
        have htk : (ss.map Ses.cs).take ss.length = ss.map Ses.cs := List.take_of_length_le (by simp)
        have hfl : flatRows [[.s (.int .i64 cl), .s (.int .i64 1), .l []]] := fun row hr c hc => by
          rw [List.mem_singleton.1 hr] at hc
          simp only [List.mem_cons, List.not_mem_nil, or_false] at hc
          rcases hc with rfl | rfl | rfl
          · exact .inl ⟨_, rfl⟩
          · exact .inl ⟨_, rfl⟩
          · exact .inr rfl
        have hpl : ((putS1 cl ss).map Ses.cs).length = ss.length + 1 := by simp [putS1_len]
        refine xcut (n := 0) rfl (ι := Unit) (fun _ => True) (fun _ => ⟨[(6, .one (.b (.l ((putS1 cl ss).map Ses.cs)))), (4, .one (.a 4 0))], [(4, .var [.b (i64 0), .b (i64 0), .nil, .nil, .nil, .nil, .nil, .nil])]⟩) ?_ ?_
        · intro K hK
          refine xdraw rfl [] (.take 1 [] (.take 2 [] (.take 3 [] (.take 5 [] (.take 6 [] (.take 9 [] (.take 10 [] (.take 11 [] (.alt 0 (.alt 4 (.alt 7 (.alt 8 (.alt 12 (.take 13 [] .done) .nil) .nil) .nil) (.alt 7 (.alt 4 (.alt 8 (.alt 12 (.take 13 [] .done) .nil) .nil) .nil) .nil)) (.alt 7 (.alt 0 (.alt 4 (.alt 8 (.alt 12 (.take 13 [] .done) .nil) .nil) .nil) .nil) .nil)))))))))) (by kernel_rfl) ?_
          refine xs rfl (.inl rfl) ?_
          refine xs rfl (by simp; done) ?_
          refine xs rfl (by simp; done) ?_
          refine xs rfl (by simp; omega) ?_
          refine xs rfl (.inr hrow) ?_
          refine xs rfl (by simp; done) ?_
          refine xs rfl (by simp; omega) ?_
          refine xs rfl (by simp; done) ?_
          refine xboth rfl ?_ ?_
          refine xs rfl trivial ?_
          refine xboth rfl ?_ ?_
          refine xs rfl rfl ?_
          refine xs rfl (fun row hr => hrow row (List.mem_of_mem_take (List.mem_of_mem_drop hr))) ?_
          refine xs rfl (by simp; omega) ?_
          refine xs rfl (by simp; omega) ?_
          refine xs rfl ⟨trivial, trivial, trivial, trivial⟩ ?_
          refine xs rfl (by simp; done) ?_
          refine xs rfl rfl ?_
          refine xs rfl (hfl) ?_
          refine xs rfl (by simp; omega) ?_
          refine xs rfl (by simp; omega) ?_
          refine xs rfl (by simp; done) ?_
          refine xs rfl (fun row hr => hrow row (List.mem_of_mem_take (List.mem_of_mem_drop hr))) ?_
          refine xs rfl (fun h : false = true => nomatch h) ?_
          refine xs rfl (by simp; omega) ?_
          refine xs rfl (by simp; omega) ?_
          rotate_left
          refine xs rfl ⟨trivial, trivial, trivial, trivial⟩ ?_
          refine xs rfl rfl ?_
          refine xs rfl (fun row hr => hrow row (List.mem_of_mem_take (List.mem_of_mem_drop hr))) ?_
          refine xs rfl (by simp; omega) ?_
          refine xs rfl (by simp; omega) ?_
          refine xs rfl (by simp; done) ?_
          refine xs rfl rfl ?_
          refine xs rfl (hfl) ?_
          refine xs rfl (by simp; omega) ?_
          refine xs rfl (by simp; omega) ?_
          refine xs rfl (by simp; done) ?_
          refine xs rfl (fun row hr => hrow row (List.mem_of_mem_take (List.mem_of_mem_drop hr))) ?_
          refine xs rfl (fun h : false = true => nomatch h) ?_
          refine xs rfl (by simp; omega) ?_
          refine xs rfl (by simp; omega) ?_
          rotate_left
          refine xs rfl ⟨trivial, trivial, trivial, trivial⟩ ?_
          refine xs rfl trivial ?_
          refine xs rfl rfl ?_
          refine xs rfl (fun row hr => hrow row (List.mem_of_mem_take (List.mem_of_mem_drop hr))) ?_
          refine xs rfl (by simp; omega) ?_
          refine xs rfl (by simp; omega) ?_
          refine xs rfl (by simp; done) ?_
          refine xs rfl rfl ?_
          refine xs rfl (hfl) ?_
          refine xs rfl (by simp; omega) ?_
          refine xs rfl (by simp; omega) ?_
          refine xs rfl (by simp; done) ?_
          refine xs rfl (fun row hr => hrow row (List.mem_of_mem_take (List.mem_of_mem_drop hr))) ?_
          refine xs rfl (fun h : false = true => nomatch h) ?_
          refine xs rfl (by simp; omega) ?_
          refine xs rfl (by simp; omega) ?_
          rotate_left
          all_goals exact xcont rfl (hK _ () trivial ⟨⟨⟨rfl, by simp; omega, by rw [← hput]; simp [htk]⟩, ⟨rfl, rfl, rfl⟩, trivial⟩, ⟨⟨rfl, rfl, trivial, trivial, trivial, trivial, trivial, trivial, trivial⟩, trivial⟩, rfl⟩)
        intro _ _
        refine xr rfl (xret rfl ⟨⟨rfl, rfl, rfl, rfl, rfl, rfl, rfl, rfl, rfl, trivial⟩, nodB_nodup rfl⟩)
        all_goals skip
end Go.Proofs.Ytlkjdcpcbnfbbaa
end
section
namespace Go.Proofs.Ytlkjdcpcbnfbbaa
open Go Go.Sx
set_option maxRecDepth 20000
theorem eqLeg_pc (x0 : Int) (x1 : Int) (x2 : Int) (x3 : Int) (y0 : Int) (y1 : Int) (y2 : Int) (y3 : Int)   : PC Try.prog 150 [.agg [.s (.int .i64 x0), .s (.int .i64 x1), .s (.int .i64 x2), .s (.int .i64 x3)], .agg [.s (.int .i64 y0), .s (.int .i64 y1), .s (.int .i64 y2), .s (.int .i64 y3)]] (rB (dE (α := List Cell) [.s (.int .i64 x0), .s (.int .i64 x1), .s (.int .i64 x2), .s (.int .i64 x3)] [.s (.int .i64 y0), .s (.int .i64 y1), .s (.int .i64 y2), .s (.int .i64 y3)])) := by
  refine PC.begin Try.func150 rfl (by kernel_rfl) ?_
  refine xb rfl (fun h => ?_) (fun e0 => ?_)
  · exact xr rfl (xret rfl ⟨⟨rfl, dE_no (fun e => by simp only [List.cons.injEq, Cell.s.injEq, Value.int.injEq, Value.bool.injEq, Value.string.injEq] at e; simp [e] at h), trivial⟩, nodB_nodup rfl⟩)
  have e0 : x0 = y0 := by simpa using e0
  refine xb rfl (fun h => ?_) (fun e1 => ?_)
  · exact xr rfl (xret rfl ⟨⟨rfl, dE_no (fun e => by simp only [List.cons.injEq, Cell.s.injEq, Value.int.injEq, Value.bool.injEq, Value.string.injEq] at e; simp [e] at h), trivial⟩, nodB_nodup rfl⟩)
  have e1 : x1 = y1 := by simpa using e1
  refine xb rfl (fun h => ?_) (fun e2 => ?_)
  · exact xr rfl (xret rfl ⟨⟨rfl, dE_no (fun e => by simp only [List.cons.injEq, Cell.s.injEq, Value.int.injEq, Value.bool.injEq, Value.string.injEq] at e; simp [e] at h), trivial⟩, nodB_nodup rfl⟩)
  have e2 : x2 = y2 := by simpa using e2
  refine xb rfl (fun h => ?_) (fun e3 => ?_)
  · exact xr rfl (xret rfl ⟨⟨rfl, dE_no (fun e => by simp only [List.cons.injEq, Cell.s.injEq, Value.int.injEq, Value.bool.injEq, Value.string.injEq] at e; simp [e] at h), trivial⟩, nodB_nodup rfl⟩)
  have e3 : x3 = y3 := by simpa using e3
  exact xr rfl (xret rfl ⟨⟨rfl, dE_yes (by simp [e0, e1, e2, e3]), trivial⟩, nodB_nodup rfl⟩)
theorem eqLegS_pc (p q : List (List Cell)) (hp : WR 9000000000000000000 sh_Leg p) (hq : WR 9000000000000000000 sh_Leg q) : PC Try.prog 133 [.one (.l p), .one (.l q)] (rB (dE p q)) := by
  refine PC.begin Try.func133 rfl (by kernel_rfl) ?_
  have hpl := hp.1
  have hql := hq.1
  refine xb rfl (fun h => ?_) (fun h => ?_)
  · exact xr rfl (xret rfl ⟨⟨rfl, dE_no (fun e => by subst e; simp at h), trivial⟩, nodB_nodup rfl⟩)
  have hl : p.length = q.length := by simpa [Int.ofNat_inj] using h
  refine xloop rfl (ι := Nat) (fun i => i ≤ p.length ∧ p.take i = q.take i) (fun i => ⟨[(5, sV (.int .i64 i)), (0, .one (.b (.l p))), (1, .one (.b (.l q)))], []⟩) (fun i => p.length - i) 0 ⟨Nat.zero_le _, rfl⟩ ?_ ?_
  · repeat' (first | exact trivial | exact rfl | exact Or.inl rfl | refine And.intro ?_ ?_)
  · intro i ⟨hi, he⟩ J hJ
    refine xb rfl (fun h => ?_) (fun h => ?_)
    · have h : i < p.length := by simpa using h
      obtain ⟨row, hg⟩ : ∃ row, p[i]? = some row := ⟨_, List.getElem?_eq_getElem h⟩
      obtain ⟨row', hg'⟩ : ∃ row, q[i]? = some row := ⟨_, List.getElem?_eq_getElem (by omega)⟩
      obtain ⟨x0, x1, x2, x3, rfl⟩ := inv_Leg (hp.2 row (List.mem_of_getElem? hg))
      obtain ⟨y0, y1, y2, y3, rfl⟩ := inv_Leg (hq.2 row' (List.mem_of_getElem? hg'))
      refine xdraw rfl [] (.take 0 [] (.take 1 [] (.take 2 [] (.take 3 [8, 9] (.take 4 [] (.take 5 [] (.take 6 [] (.take 7 [8, 9] (.alt 8 (.take 9 [] .done) .nil))))))))) (by kernel_rfl) ?_
      refine xs rfl (Int.natCast_nonneg _) (xrow rfl _ hg (xs rfl rfl ?_))
      refine xs rfl (Int.natCast_nonneg _) (xrow rfl _ hg' (xs rfl rfl ?_))
      refine xcall rfl (eqLeg_pc _ _ _ _ _ _ _ _) rfl ⟨⟨trivial, trivial, trivial, trivial, trivial⟩, ⟨trivial, trivial, trivial, trivial, trivial⟩, trivial⟩ ?_
      refine xb rfl (fun hb => ?_) (fun hb => ?_)
      · exact xr rfl (xret rfl ⟨⟨rfl, dE_no (fun e => by subst e; rw [hg] at hg'; cases hg'; exact nE_ne hb rfl), trivial⟩, nodB_nodup rfl⟩)
      · have hb := nE_eq hb
        refine xcont rfl (hJ _ (i + 1) ⟨by omega, take_succ_eq he hg (hg'.trans (by rw [hb]))⟩ (by omega) ?_)
        repeat' (first | exact trivial | exact rfl | exact Or.inl rfl | exact cwi (by omega) (by omega) (by omega) | refine And.intro ?_ ?_)
    · have h : ¬ i < p.length := by simpa using h
      exact xr rfl (xret rfl ⟨⟨rfl, dE_yes (by rw [show i = p.length by omega, List.take_length] at he; rw [he, hl, List.take_length]), trivial⟩, nodB_nodup rfl⟩)
theorem eqContract_pc (x0 : Int) (x1 : List (List Cell)) (y0 : Int) (y1 : List (List Cell)) (h1 : WR 9000000000000000000 sh_Leg x1) (k1 : WR 9000000000000000000 sh_Leg y1) : PC Try.prog 106 [.agg [.s (.int .i64 x0), .l x1], .agg [.s (.int .i64 y0), .l y1]] (rB (dE (α := List Cell) [.s (.int .i64 x0), .l x1] [.s (.int .i64 y0), .l y1])) := by
  refine PC.begin Try.func106 rfl (by kernel_rfl) ?_
  refine xb rfl (fun h => ?_) (fun e0 => ?_)
  · exact xr rfl (xret rfl ⟨⟨rfl, dE_no (fun e => by simp only [List.cons.injEq, Cell.s.injEq, Value.int.injEq, Value.bool.injEq, Value.string.injEq] at e; simp [e] at h), trivial⟩, nodB_nodup rfl⟩)
  have e0 : x0 = y0 := by simpa using e0
  refine xcall rfl (eqLegS_pc _ _ h1 k1) rfl ⟨trivial, trivial, trivial⟩ ?_
  refine xb rfl (fun h => ?_) (fun e1 => ?_)
  · exact xr rfl (xret rfl ⟨⟨rfl, dE_no (fun e => nE_ne h (by simp only [List.cons.injEq, Cell.l.injEq] at e ⊢; simp only [e]; try trivial)), trivial⟩, nodB_nodup rfl⟩)
  have e1 := nE_eq e1
  exact xr rfl (xret rfl ⟨⟨rfl, dE_yes (by simp [e0, e1]), trivial⟩, nodB_nodup rfl⟩)
theorem eqContractS_pc (p q : List (List Cell)) (hp : WR 9000000000000000000 sh_Contract p) (hq : WR 9000000000000000000 sh_Contract q) : PC Try.prog 66 [.one (.l p), .one (.l q)] (rB (dE p q)) := by
  refine PC.begin Try.func66 rfl (by kernel_rfl) ?_
  have hpl := hp.1
  have hql := hq.1
  refine xb rfl (fun h => ?_) (fun h => ?_)
  · exact xr rfl (xret rfl ⟨⟨rfl, dE_no (fun e => by subst e; simp at h), trivial⟩, nodB_nodup rfl⟩)
  have hl : p.length = q.length := by simpa [Int.ofNat_inj] using h
  refine xloop rfl (ι := Nat) (fun i => i ≤ p.length ∧ p.take i = q.take i) (fun i => ⟨[(5, sV (.int .i64 i)), (0, .one (.b (.l p))), (1, .one (.b (.l q)))], []⟩) (fun i => p.length - i) 0 ⟨Nat.zero_le _, rfl⟩ ?_ ?_
  · repeat' (first | exact trivial | exact rfl | exact Or.inl rfl | refine And.intro ?_ ?_)
  · intro i ⟨hi, he⟩ J hJ
    refine xb rfl (fun h => ?_) (fun h => ?_)
    · have h : i < p.length := by simpa using h
      obtain ⟨row, hg⟩ : ∃ row, p[i]? = some row := ⟨_, List.getElem?_eq_getElem h⟩
      obtain ⟨row', hg'⟩ : ∃ row, q[i]? = some row := ⟨_, List.getElem?_eq_getElem (by omega)⟩
      obtain ⟨x0, x1, rfl, h1⟩ := inv_Contract (hp.2 row (List.mem_of_getElem? hg))
      obtain ⟨y0, y1, rfl, k1⟩ := inv_Contract (hq.2 row' (List.mem_of_getElem? hg'))
      refine xdraw rfl [] (.take 0 [] (.take 1 [] (.take 2 [] (.take 3 [8, 9] (.take 4 [] (.take 5 [] (.take 6 [] (.take 7 [8, 9] (.alt 8 (.take 9 [] .done) .nil))))))))) (by kernel_rfl) ?_
      refine xs rfl (Int.natCast_nonneg _) (xrow rfl _ hg (xs rfl rfl ?_))
      refine xs rfl (Int.natCast_nonneg _) (xrow rfl _ hg' (xs rfl rfl ?_))
      refine xcall rfl (eqContract_pc _ _ _ _ h1 k1) rfl ⟨⟨trivial, trivial, trivial⟩, ⟨trivial, trivial, trivial⟩, trivial⟩ ?_
      refine xb rfl (fun hb => ?_) (fun hb => ?_)
      · exact xr rfl (xret rfl ⟨⟨rfl, dE_no (fun e => by subst e; rw [hg] at hg'; cases hg'; exact nE_ne hb rfl), trivial⟩, nodB_nodup rfl⟩)
      · have hb := nE_eq hb
        refine xcont rfl (hJ _ (i + 1) ⟨by omega, take_succ_eq he hg (hg'.trans (by rw [hb]))⟩ (by omega) ?_)
        repeat' (first | exact trivial | exact rfl | exact Or.inl rfl | exact cwi (by omega) (by omega) (by omega) | refine And.intro ?_ ?_)
    · have h : ¬ i < p.length := by simpa using h
      exact xr rfl (xret rfl ⟨⟨rfl, dE_yes (by rw [show i = p.length by omega, List.take_length] at he; rw [he, hl, List.take_length]), trivial⟩, nodB_nodup rfl⟩)
theorem eqBalance_pc (x0 : Int) (x1 : Int) (x2 : Int) (y0 : Int) (y1 : Int) (y2 : Int)   : PC Try.prog 98 [.agg [.s (.int .i64 x0), .s (.int .i64 x1), .s (.int .i64 x2)], .agg [.s (.int .i64 y0), .s (.int .i64 y1), .s (.int .i64 y2)]] (rB (dE (α := List Cell) [.s (.int .i64 x0), .s (.int .i64 x1), .s (.int .i64 x2)] [.s (.int .i64 y0), .s (.int .i64 y1), .s (.int .i64 y2)])) := by
  refine PC.begin Try.func98 rfl (by kernel_rfl) ?_
  refine xb rfl (fun h => ?_) (fun e0 => ?_)
  · exact xr rfl (xret rfl ⟨⟨rfl, dE_no (fun e => by simp only [List.cons.injEq, Cell.s.injEq, Value.int.injEq, Value.bool.injEq, Value.string.injEq] at e; simp [e] at h), trivial⟩, nodB_nodup rfl⟩)
  have e0 : x0 = y0 := by simpa using e0
  refine xb rfl (fun h => ?_) (fun e1 => ?_)
  · exact xr rfl (xret rfl ⟨⟨rfl, dE_no (fun e => by simp only [List.cons.injEq, Cell.s.injEq, Value.int.injEq, Value.bool.injEq, Value.string.injEq] at e; simp [e] at h), trivial⟩, nodB_nodup rfl⟩)
  have e1 : x1 = y1 := by simpa using e1
  refine xb rfl (fun h => ?_) (fun e2 => ?_)
  · exact xr rfl (xret rfl ⟨⟨rfl, dE_no (fun e => by simp only [List.cons.injEq, Cell.s.injEq, Value.int.injEq, Value.bool.injEq, Value.string.injEq] at e; simp [e] at h), trivial⟩, nodB_nodup rfl⟩)
  have e2 : x2 = y2 := by simpa using e2
  exact xr rfl (xret rfl ⟨⟨rfl, dE_yes (by simp [e0, e1, e2]), trivial⟩, nodB_nodup rfl⟩)
theorem eqBalanceS_pc (p q : List (List Cell)) (hp : WR 9000000000000000000 sh_Balance p) (hq : WR 9000000000000000000 sh_Balance q) : PC Try.prog 50 [.one (.l p), .one (.l q)] (rB (dE p q)) := by
  refine PC.begin Try.func50 rfl (by kernel_rfl) ?_
  have hpl := hp.1
  have hql := hq.1
  refine xb rfl (fun h => ?_) (fun h => ?_)
  · exact xr rfl (xret rfl ⟨⟨rfl, dE_no (fun e => by subst e; simp at h), trivial⟩, nodB_nodup rfl⟩)
  have hl : p.length = q.length := by simpa [Int.ofNat_inj] using h
  refine xloop rfl (ι := Nat) (fun i => i ≤ p.length ∧ p.take i = q.take i) (fun i => ⟨[(5, sV (.int .i64 i)), (0, .one (.b (.l p))), (1, .one (.b (.l q)))], []⟩) (fun i => p.length - i) 0 ⟨Nat.zero_le _, rfl⟩ ?_ ?_
  · repeat' (first | exact trivial | exact rfl | exact Or.inl rfl | refine And.intro ?_ ?_)
  · intro i ⟨hi, he⟩ J hJ
    refine xb rfl (fun h => ?_) (fun h => ?_)
    · have h : i < p.length := by simpa using h
      obtain ⟨row, hg⟩ : ∃ row, p[i]? = some row := ⟨_, List.getElem?_eq_getElem h⟩
      obtain ⟨row', hg'⟩ : ∃ row, q[i]? = some row := ⟨_, List.getElem?_eq_getElem (by omega)⟩
      obtain ⟨x0, x1, x2, rfl⟩ := inv_Balance (hp.2 row (List.mem_of_getElem? hg))
      obtain ⟨y0, y1, y2, rfl⟩ := inv_Balance (hq.2 row' (List.mem_of_getElem? hg'))
      refine xdraw rfl [] (.take 0 [] (.take 1 [] (.take 2 [] (.take 3 [8, 9] (.take 4 [] (.take 5 [] (.take 6 [] (.take 7 [8, 9] (.alt 8 (.take 9 [] .done) .nil))))))))) (by kernel_rfl) ?_
      refine xs rfl (Int.natCast_nonneg _) (xrow rfl _ hg (xs rfl rfl ?_))
      refine xs rfl (Int.natCast_nonneg _) (xrow rfl _ hg' (xs rfl rfl ?_))
      refine xcall rfl (eqBalance_pc _ _ _ _ _ _) rfl ⟨⟨trivial, trivial, trivial, trivial⟩, ⟨trivial, trivial, trivial, trivial⟩, trivial⟩ ?_
      refine xb rfl (fun hb => ?_) (fun hb => ?_)
      · exact xr rfl (xret rfl ⟨⟨rfl, dE_no (fun e => by subst e; rw [hg] at hg'; cases hg'; exact nE_ne hb rfl), trivial⟩, nodB_nodup rfl⟩)
      · have hb := nE_eq hb
        refine xcont rfl (hJ _ (i + 1) ⟨by omega, take_succ_eq he hg (hg'.trans (by rw [hb]))⟩ (by omega) ?_)
        repeat' (first | exact trivial | exact rfl | exact Or.inl rfl | exact cwi (by omega) (by omega) (by omega) | refine And.intro ?_ ?_)
    · have h : ¬ i < p.length := by simpa using h
      exact xr rfl (xret rfl ⟨⟨rfl, dE_yes (by rw [show i = p.length by omega, List.take_length] at he; rw [he, hl, List.take_length]), trivial⟩, nodB_nodup rfl⟩)
theorem eqMark_pc (x0 : Int) (x1 : Int) (y0 : Int) (y1 : Int)   : PC Try.prog 151 [.agg [.s (.int .i64 x0), .s (.int .i64 x1)], .agg [.s (.int .i64 y0), .s (.int .i64 y1)]] (rB (dE (α := List Cell) [.s (.int .i64 x0), .s (.int .i64 x1)] [.s (.int .i64 y0), .s (.int .i64 y1)])) := by
  refine PC.begin Try.func151 rfl (by kernel_rfl) ?_
  refine xb rfl (fun h => ?_) (fun e0 => ?_)
  · exact xr rfl (xret rfl ⟨⟨rfl, dE_no (fun e => by simp only [List.cons.injEq, Cell.s.injEq, Value.int.injEq, Value.bool.injEq, Value.string.injEq] at e; simp [e] at h), trivial⟩, nodB_nodup rfl⟩)
  have e0 : x0 = y0 := by simpa using e0
  refine xb rfl (fun h => ?_) (fun e1 => ?_)
  · exact xr rfl (xret rfl ⟨⟨rfl, dE_no (fun e => by simp only [List.cons.injEq, Cell.s.injEq, Value.int.injEq, Value.bool.injEq, Value.string.injEq] at e; simp [e] at h), trivial⟩, nodB_nodup rfl⟩)
  have e1 : x1 = y1 := by simpa using e1
  exact xr rfl (xret rfl ⟨⟨rfl, dE_yes (by simp [e0, e1]), trivial⟩, nodB_nodup rfl⟩)
theorem eqMarkS_pc (p q : List (List Cell)) (hp : WR 9000000000000000000 sh_Mark p) (hq : WR 9000000000000000000 sh_Mark q) : PC Try.prog 134 [.one (.l p), .one (.l q)] (rB (dE p q)) := by
  refine PC.begin Try.func134 rfl (by kernel_rfl) ?_
  have hpl := hp.1
  have hql := hq.1
  refine xb rfl (fun h => ?_) (fun h => ?_)
  · exact xr rfl (xret rfl ⟨⟨rfl, dE_no (fun e => by subst e; simp at h), trivial⟩, nodB_nodup rfl⟩)
  have hl : p.length = q.length := by simpa [Int.ofNat_inj] using h
  refine xloop rfl (ι := Nat) (fun i => i ≤ p.length ∧ p.take i = q.take i) (fun i => ⟨[(5, sV (.int .i64 i)), (0, .one (.b (.l p))), (1, .one (.b (.l q)))], []⟩) (fun i => p.length - i) 0 ⟨Nat.zero_le _, rfl⟩ ?_ ?_
  · repeat' (first | exact trivial | exact rfl | exact Or.inl rfl | refine And.intro ?_ ?_)
  · intro i ⟨hi, he⟩ J hJ
    refine xb rfl (fun h => ?_) (fun h => ?_)
    · have h : i < p.length := by simpa using h
      obtain ⟨row, hg⟩ : ∃ row, p[i]? = some row := ⟨_, List.getElem?_eq_getElem h⟩
      obtain ⟨row', hg'⟩ : ∃ row, q[i]? = some row := ⟨_, List.getElem?_eq_getElem (by omega)⟩
      obtain ⟨x0, x1, rfl⟩ := inv_Mark (hp.2 row (List.mem_of_getElem? hg))
      obtain ⟨y0, y1, rfl⟩ := inv_Mark (hq.2 row' (List.mem_of_getElem? hg'))
      refine xdraw rfl [] (.take 0 [] (.take 1 [] (.take 2 [] (.take 3 [8, 9] (.take 4 [] (.take 5 [] (.take 6 [] (.take 7 [8, 9] (.alt 8 (.take 9 [] .done) .nil))))))))) (by kernel_rfl) ?_
      refine xs rfl (Int.natCast_nonneg _) (xrow rfl _ hg (xs rfl rfl ?_))
      refine xs rfl (Int.natCast_nonneg _) (xrow rfl _ hg' (xs rfl rfl ?_))
      refine xcall rfl (eqMark_pc _ _ _ _) rfl ⟨⟨trivial, trivial, trivial⟩, ⟨trivial, trivial, trivial⟩, trivial⟩ ?_
      refine xb rfl (fun hb => ?_) (fun hb => ?_)
      · exact xr rfl (xret rfl ⟨⟨rfl, dE_no (fun e => by subst e; rw [hg] at hg'; cases hg'; exact nE_ne hb rfl), trivial⟩, nodB_nodup rfl⟩)
      · have hb := nE_eq hb
        refine xcont rfl (hJ _ (i + 1) ⟨by omega, take_succ_eq he hg (hg'.trans (by rw [hb]))⟩ (by omega) ?_)
        repeat' (first | exact trivial | exact rfl | exact Or.inl rfl | exact cwi (by omega) (by omega) (by omega) | refine And.intro ?_ ?_)
    · have h : ¬ i < p.length := by simpa using h
      exact xr rfl (xret rfl ⟨⟨rfl, dE_yes (by rw [show i = p.length by omega, List.take_length] at he; rw [he, hl, List.take_length]), trivial⟩, nodB_nodup rfl⟩)
theorem eqInt64S_pc (p q : List (List Cell)) (hp : WR 9000000000000000000 (.i .i64 .nil) p) (hq : WR 9000000000000000000 (.i .i64 .nil) q) : PC Try.prog 71 [.one (.l p), .one (.l q)] (rB (dE p q)) := by
  refine PC.begin Try.func71 rfl (by kernel_rfl) ?_
  have hpl := hp.1
  have hql := hq.1
  refine xb rfl (fun h => ?_) (fun h => ?_)
  · exact xr rfl (xret rfl ⟨⟨rfl, dE_no (fun e => by subst e; simp at h), trivial⟩, nodB_nodup rfl⟩)
  have hl : p.length = q.length := by simpa [Int.ofNat_inj] using h
  refine xloop rfl (ι := Nat) (fun i => i ≤ p.length ∧ p.take i = q.take i) (fun i => ⟨[(5, sV (.int .i64 i)), (0, .one (.b (.l p))), (1, .one (.b (.l q)))], []⟩) (fun i => p.length - i) 0 ⟨Nat.zero_le _, rfl⟩ ?_ ?_
  · repeat' (first | exact trivial | exact rfl | exact Or.inl rfl | refine And.intro ?_ ?_)
  · intro i ⟨hi, he⟩ J hJ
    refine xb rfl (fun h => ?_) (fun h => ?_)
    · have h : i < p.length := by simpa using h
      obtain ⟨row, hg⟩ : ∃ row, p[i]? = some row := ⟨_, List.getElem?_eq_getElem h⟩
      obtain ⟨row', hg'⟩ : ∃ row, q[i]? = some row := ⟨_, List.getElem?_eq_getElem (by omega)⟩
      obtain ⟨x0, _, rfl, hnil⟩ := ((hp.2 row (List.mem_of_getElem? hg))).inv_i; obtain rfl := hnil.inv_nil
      obtain ⟨y0, _, rfl, knil⟩ := ((hq.2 row' (List.mem_of_getElem? hg'))).inv_i; obtain rfl := knil.inv_nil
      refine xdraw rfl [] (.take 0 [] (.take 1 [] (.take 2 [] (.take 3 [8] (.take 4 [] (.take 5 [] (.take 6 [] (.take 7 [8] (.take 8 [] .done))))))))) (by kernel_rfl) ?_
      refine xs rfl (Int.natCast_nonneg _) (xrow rfl _ hg (xs rfl rfl ?_))
      refine xs rfl (Int.natCast_nonneg _) (xrow rfl _ hg' (xs rfl rfl ?_))
      refine xb rfl (fun hb => ?_) (fun hb => ?_)
      · exact xr rfl (xret rfl ⟨⟨rfl, dE_no (fun e => by subst e; rw [hg] at hg'; cases hg'; simp at hb), trivial⟩, nodB_nodup rfl⟩)
      · have hb : x0 = y0 := by simpa using hb
        refine xcont rfl (hJ _ (i + 1) ⟨by omega, take_succ_eq he hg (hg'.trans (by rw [hb]))⟩ (by omega) ?_)
        repeat' (first | exact trivial | exact rfl | exact Or.inl rfl | exact cwi (by omega) (by omega) (by omega) | refine And.intro ?_ ?_)
    · have h : ¬ i < p.length := by simpa using h
      exact xr rfl (xret rfl ⟨⟨rfl, dE_yes (by rw [show i = p.length by omega, List.take_length] at he; rw [he, hl, List.take_length]), trivial⟩, nodB_nodup rfl⟩)
theorem eqShard_pc (x0 : Int) (x1 : List (List Cell)) (x2 : List (List Cell)) (x3 : List (List Cell)) (x4 : List (List Cell)) (x5 : List (List Cell)) (y0 : Int) (y1 : List (List Cell)) (y2 : List (List Cell)) (y3 : List (List Cell)) (y4 : List (List Cell)) (y5 : List (List Cell)) (h1 : WR 9000000000000000000 sh_Balance x1) (h2 : WR 9000000000000000000 sh_Mark x2) (h3 : WR 9000000000000000000 sh_Contract x3) (h4 : WR 9000000000000000000 sh_Mark x4) (h5 : WR 9000000000000000000 (.i .i64 .nil) x5) (k1 : WR 9000000000000000000 sh_Balance y1) (k2 : WR 9000000000000000000 sh_Mark y2) (k3 : WR 9000000000000000000 sh_Contract y3) (k4 : WR 9000000000000000000 sh_Mark y4) (k5 : WR 9000000000000000000 (.i .i64 .nil) y5) : PC Try.prog 107 [.agg [.s (.int .i64 x0), .l x1, .l x2, .l x3, .l x4, .l x5], .agg [.s (.int .i64 y0), .l y1, .l y2, .l y3, .l y4, .l y5]] (rB (dE (α := List Cell) [.s (.int .i64 x0), .l x1, .l x2, .l x3, .l x4, .l x5] [.s (.int .i64 y0), .l y1, .l y2, .l y3, .l y4, .l y5])) := by
  refine PC.begin Try.func107 rfl (by kernel_rfl) ?_
  refine xb rfl (fun h => ?_) (fun e0 => ?_)
  · exact xr rfl (xret rfl ⟨⟨rfl, dE_no (fun e => by simp only [List.cons.injEq, Cell.s.injEq, Value.int.injEq, Value.bool.injEq, Value.string.injEq] at e; simp [e] at h), trivial⟩, nodB_nodup rfl⟩)
  have e0 : x0 = y0 := by simpa using e0
  refine xcall rfl (eqBalanceS_pc _ _ h1 k1) rfl ⟨trivial, trivial, trivial⟩ ?_
  refine xb rfl (fun h => ?_) (fun e1 => ?_)
  · exact xr rfl (xret rfl ⟨⟨rfl, dE_no (fun e => nE_ne h (by simp only [List.cons.injEq, Cell.l.injEq] at e ⊢; simp only [e]; try trivial)), trivial⟩, nodB_nodup rfl⟩)
  have e1 := nE_eq e1
  refine xcall rfl (eqMarkS_pc _ _ h2 k2) rfl ⟨trivial, trivial, trivial⟩ ?_
  refine xb rfl (fun h => ?_) (fun e2 => ?_)
  · exact xr rfl (xret rfl ⟨⟨rfl, dE_no (fun e => nE_ne h (by simp only [List.cons.injEq, Cell.l.injEq] at e ⊢; simp only [e]; try trivial)), trivial⟩, nodB_nodup rfl⟩)
  have e2 := nE_eq e2
  refine xcall rfl (eqContractS_pc _ _ h3 k3) rfl ⟨trivial, trivial, trivial⟩ ?_
  refine xb rfl (fun h => ?_) (fun e3 => ?_)
  · exact xr rfl (xret rfl ⟨⟨rfl, dE_no (fun e => nE_ne h (by simp only [List.cons.injEq, Cell.l.injEq] at e ⊢; simp only [e]; try trivial)), trivial⟩, nodB_nodup rfl⟩)
  have e3 := nE_eq e3
  refine xcall rfl (eqMarkS_pc _ _ h4 k4) rfl ⟨trivial, trivial, trivial⟩ ?_
  refine xb rfl (fun h => ?_) (fun e4 => ?_)
  · exact xr rfl (xret rfl ⟨⟨rfl, dE_no (fun e => nE_ne h (by simp only [List.cons.injEq, Cell.l.injEq] at e ⊢; simp only [e]; try trivial)), trivial⟩, nodB_nodup rfl⟩)
  have e4 := nE_eq e4
  refine xcall rfl (eqInt64S_pc _ _ h5 k5) rfl ⟨trivial, trivial, trivial⟩ ?_
  refine xb rfl (fun h => ?_) (fun e5 => ?_)
  · exact xr rfl (xret rfl ⟨⟨rfl, dE_no (fun e => nE_ne h (by simp only [List.cons.injEq, Cell.l.injEq] at e ⊢; simp only [e]; try trivial)), trivial⟩, nodB_nodup rfl⟩)
  have e5 := nE_eq e5
  exact xr rfl (xret rfl ⟨⟨rfl, dE_yes (by simp [e0, e1, e2, e3, e4, e5]), trivial⟩, nodB_nodup rfl⟩)
theorem eqShardS_pc (p q : List (List Cell)) (hp : WR 9000000000000000000 sh_Shard p) (hq : WR 9000000000000000000 sh_Shard q) : PC Try.prog 67 [.one (.l p), .one (.l q)] (rB (dE p q)) := by
  refine PC.begin Try.func67 rfl (by kernel_rfl) ?_
  have hpl := hp.1
  have hql := hq.1
  refine xb rfl (fun h => ?_) (fun h => ?_)
  · exact xr rfl (xret rfl ⟨⟨rfl, dE_no (fun e => by subst e; simp at h), trivial⟩, nodB_nodup rfl⟩)
  have hl : p.length = q.length := by simpa [Int.ofNat_inj] using h
  refine xloop rfl (ι := Nat) (fun i => i ≤ p.length ∧ p.take i = q.take i) (fun i => ⟨[(5, sV (.int .i64 i)), (0, .one (.b (.l p))), (1, .one (.b (.l q)))], []⟩) (fun i => p.length - i) 0 ⟨Nat.zero_le _, rfl⟩ ?_ ?_
  · repeat' (first | exact trivial | exact rfl | exact Or.inl rfl | refine And.intro ?_ ?_)
  · intro i ⟨hi, he⟩ J hJ
    refine xb rfl (fun h => ?_) (fun h => ?_)
    · have h : i < p.length := by simpa using h
      obtain ⟨row, hg⟩ : ∃ row, p[i]? = some row := ⟨_, List.getElem?_eq_getElem h⟩
      obtain ⟨row', hg'⟩ : ∃ row, q[i]? = some row := ⟨_, List.getElem?_eq_getElem (by omega)⟩
      obtain ⟨x0, x1, x2, x3, x4, x5, rfl, h1, h2, h3, h4, h5⟩ := inv_Shard (hp.2 row (List.mem_of_getElem? hg))
      obtain ⟨y0, y1, y2, y3, y4, y5, rfl, k1, k2, k3, k4, k5⟩ := inv_Shard (hq.2 row' (List.mem_of_getElem? hg'))
      refine xdraw rfl [] (.take 0 [] (.take 1 [] (.take 2 [] (.take 3 [8, 9] (.take 4 [] (.take 5 [] (.take 6 [] (.take 7 [8, 9] (.alt 8 (.take 9 [] .done) .nil))))))))) (by kernel_rfl) ?_
      refine xs rfl (Int.natCast_nonneg _) (xrow rfl _ hg (xs rfl rfl ?_))
      refine xs rfl (Int.natCast_nonneg _) (xrow rfl _ hg' (xs rfl rfl ?_))
      refine xcall rfl (eqShard_pc _ _ _ _ _ _ _ _ _ _ _ _ h1 h2 h3 h4 h5 k1 k2 k3 k4 k5) rfl ⟨⟨trivial, trivial, trivial, trivial, trivial, trivial, trivial⟩, ⟨trivial, trivial, trivial, trivial, trivial, trivial, trivial⟩, trivial⟩ ?_
      refine xb rfl (fun hb => ?_) (fun hb => ?_)
      · exact xr rfl (xret rfl ⟨⟨rfl, dE_no (fun e => by subst e; rw [hg] at hg'; cases hg'; exact nE_ne hb rfl), trivial⟩, nodB_nodup rfl⟩)
      · have hb := nE_eq hb
        refine xcont rfl (hJ _ (i + 1) ⟨by omega, take_succ_eq he hg (hg'.trans (by rw [hb]))⟩ (by omega) ?_)
        repeat' (first | exact trivial | exact rfl | exact Or.inl rfl | exact cwi (by omega) (by omega) (by omega) | refine And.intro ?_ ?_)
    · have h : ¬ i < p.length := by simpa using h
      exact xr rfl (xret rfl ⟨⟨rfl, dE_yes (by rw [show i = p.length by omega, List.take_length] at he; rw [he, hl, List.take_length]), trivial⟩, nodB_nodup rfl⟩)
theorem eqVote_pc (x0 : Int) (x1 : Int) (y0 : Int) (y1 : Int)   : PC Try.prog 138 [.agg [.s (.int .i64 x0), .s (.int .i64 x1)], .agg [.s (.int .i64 y0), .s (.int .i64 y1)]] (rB (dE (α := List Cell) [.s (.int .i64 x0), .s (.int .i64 x1)] [.s (.int .i64 y0), .s (.int .i64 y1)])) := by
  refine PC.begin Try.func138 rfl (by kernel_rfl) ?_
  refine xb rfl (fun h => ?_) (fun e0 => ?_)
  · exact xr rfl (xret rfl ⟨⟨rfl, dE_no (fun e => by simp only [List.cons.injEq, Cell.s.injEq, Value.int.injEq, Value.bool.injEq, Value.string.injEq] at e; simp [e] at h), trivial⟩, nodB_nodup rfl⟩)
  have e0 : x0 = y0 := by simpa using e0
  refine xb rfl (fun h => ?_) (fun e1 => ?_)
  · exact xr rfl (xret rfl ⟨⟨rfl, dE_no (fun e => by simp only [List.cons.injEq, Cell.s.injEq, Value.int.injEq, Value.bool.injEq, Value.string.injEq] at e; simp [e] at h), trivial⟩, nodB_nodup rfl⟩)
  have e1 : x1 = y1 := by simpa using e1
  exact xr rfl (xret rfl ⟨⟨rfl, dE_yes (by simp [e0, e1]), trivial⟩, nodB_nodup rfl⟩)
theorem eqVoteS_pc (p q : List (List Cell)) (hp : WR 9000000000000000000 sh_Vote p) (hq : WR 9000000000000000000 sh_Vote q) : PC Try.prog 159 [.one (.l p), .one (.l q)] (rB (dE p q)) := by
  refine PC.begin Try.func159 rfl (by kernel_rfl) ?_
  have hpl := hp.1
  have hql := hq.1
  refine xb rfl (fun h => ?_) (fun h => ?_)
  · exact xr rfl (xret rfl ⟨⟨rfl, dE_no (fun e => by subst e; simp at h), trivial⟩, nodB_nodup rfl⟩)
  have hl : p.length = q.length := by simpa [Int.ofNat_inj] using h
  refine xloop rfl (ι := Nat) (fun i => i ≤ p.length ∧ p.take i = q.take i) (fun i => ⟨[(5, sV (.int .i64 i)), (0, .one (.b (.l p))), (1, .one (.b (.l q)))], []⟩) (fun i => p.length - i) 0 ⟨Nat.zero_le _, rfl⟩ ?_ ?_
  · repeat' (first | exact trivial | exact rfl | exact Or.inl rfl | refine And.intro ?_ ?_)
  · intro i ⟨hi, he⟩ J hJ
    refine xb rfl (fun h => ?_) (fun h => ?_)
    · have h : i < p.length := by simpa using h
      obtain ⟨row, hg⟩ : ∃ row, p[i]? = some row := ⟨_, List.getElem?_eq_getElem h⟩
      obtain ⟨row', hg'⟩ : ∃ row, q[i]? = some row := ⟨_, List.getElem?_eq_getElem (by omega)⟩
      obtain ⟨x0, x1, rfl⟩ := inv_Vote (hp.2 row (List.mem_of_getElem? hg))
      obtain ⟨y0, y1, rfl⟩ := inv_Vote (hq.2 row' (List.mem_of_getElem? hg'))
      refine xdraw rfl [] (.take 0 [] (.take 1 [] (.take 2 [] (.take 3 [8, 9] (.take 4 [] (.take 5 [] (.take 6 [] (.take 7 [8, 9] (.alt 8 (.take 9 [] .done) .nil))))))))) (by kernel_rfl) ?_
      refine xs rfl (Int.natCast_nonneg _) (xrow rfl _ hg (xs rfl rfl ?_))
      refine xs rfl (Int.natCast_nonneg _) (xrow rfl _ hg' (xs rfl rfl ?_))
      refine xcall rfl (eqVote_pc _ _ _ _) rfl ⟨⟨trivial, trivial, trivial⟩, ⟨trivial, trivial, trivial⟩, trivial⟩ ?_
      refine xb rfl (fun hb => ?_) (fun hb => ?_)
      · exact xr rfl (xret rfl ⟨⟨rfl, dE_no (fun e => by subst e; rw [hg] at hg'; cases hg'; exact nE_ne hb rfl), trivial⟩, nodB_nodup rfl⟩)
      · have hb := nE_eq hb
        refine xcont rfl (hJ _ (i + 1) ⟨by omega, take_succ_eq he hg (hg'.trans (by rw [hb]))⟩ (by omega) ?_)
        repeat' (first | exact trivial | exact rfl | exact Or.inl rfl | exact cwi (by omega) (by omega) (by omega) | refine And.intro ?_ ?_)
    · have h : ¬ i < p.length := by simpa using h
      exact xr rfl (xret rfl ⟨⟨rfl, dE_yes (by rw [show i = p.length by omega, List.take_length] at he; rw [he, hl, List.take_length]), trivial⟩, nodB_nodup rfl⟩)
theorem eqSlot_pc (x0 : Int) (x1 : Int) (x2 : Int) (x3 : Int) (x4 : Int) (x5 : List (List Cell)) (y0 : Int) (y1 : Int) (y2 : Int) (y3 : Int) (y4 : Int) (y5 : List (List Cell)) (h5 : WR 9000000000000000000 sh_Vote x5) (k5 : WR 9000000000000000000 sh_Vote y5) : PC Try.prog 152 [.agg [.s (.int .i64 x0), .s (.int .i64 x1), .s (.int .i64 x2), .s (.int .i64 x3), .s (.int .i64 x4), .l x5], .agg [.s (.int .i64 y0), .s (.int .i64 y1), .s (.int .i64 y2), .s (.int .i64 y3), .s (.int .i64 y4), .l y5]] (rB (dE (α := List Cell) [.s (.int .i64 x0), .s (.int .i64 x1), .s (.int .i64 x2), .s (.int .i64 x3), .s (.int .i64 x4), .l x5] [.s (.int .i64 y0), .s (.int .i64 y1), .s (.int .i64 y2), .s (.int .i64 y3), .s (.int .i64 y4), .l y5])) := by
  refine PC.begin Try.func152 rfl (by kernel_rfl) ?_
  refine xb rfl (fun h => ?_) (fun e0 => ?_)
  · exact xr rfl (xret rfl ⟨⟨rfl, dE_no (fun e => by simp only [List.cons.injEq, Cell.s.injEq, Value.int.injEq, Value.bool.injEq, Value.string.injEq] at e; simp [e] at h), trivial⟩, nodB_nodup rfl⟩)
  have e0 : x0 = y0 := by simpa using e0
  refine xb rfl (fun h => ?_) (fun e1 => ?_)
  · exact xr rfl (xret rfl ⟨⟨rfl, dE_no (fun e => by simp only [List.cons.injEq, Cell.s.injEq, Value.int.injEq, Value.bool.injEq, Value.string.injEq] at e; simp [e] at h), trivial⟩, nodB_nodup rfl⟩)
  have e1 : x1 = y1 := by simpa using e1
  refine xb rfl (fun h => ?_) (fun e2 => ?_)
  · exact xr rfl (xret rfl ⟨⟨rfl, dE_no (fun e => by simp only [List.cons.injEq, Cell.s.injEq, Value.int.injEq, Value.bool.injEq, Value.string.injEq] at e; simp [e] at h), trivial⟩, nodB_nodup rfl⟩)
  have e2 : x2 = y2 := by simpa using e2
  refine xcall rfl (eqVote_pc _ _ _ _) rfl ⟨⟨trivial, trivial, trivial⟩, ⟨trivial, trivial, trivial⟩, trivial⟩ ?_
  refine xb rfl (fun h => ?_) (fun e3 => ?_)
  · exact xr rfl (xret rfl ⟨⟨rfl, dE_no (fun e => nE_ne h (by simp only [List.cons.injEq, Cell.l.injEq] at e ⊢; simp only [e]; try trivial)), trivial⟩, nodB_nodup rfl⟩)
  have e3 := nE_eq e3
  simp only [List.cons.injEq, Cell.s.injEq, Cell.l.injEq, Value.int.injEq, Value.bool.injEq, and_true, true_and] at e3
  refine xcall rfl (eqVoteS_pc _ _ h5 k5) rfl ⟨trivial, trivial, trivial⟩ ?_
  refine xb rfl (fun h => ?_) (fun e5 => ?_)
  · exact xr rfl (xret rfl ⟨⟨rfl, dE_no (fun e => nE_ne h (by simp only [List.cons.injEq, Cell.l.injEq] at e ⊢; simp only [e]; try trivial)), trivial⟩, nodB_nodup rfl⟩)
  have e5 := nE_eq e5
  exact xr rfl (xret rfl ⟨⟨rfl, dE_yes (by simp [e0, e1, e2, e3, e5]), trivial⟩, nodB_nodup rfl⟩)
theorem eqSlotS_pc (p q : List (List Cell)) (hp : WR 9000000000000000000 sh_Slot p) (hq : WR 9000000000000000000 sh_Slot q) : PC Try.prog 135 [.one (.l p), .one (.l q)] (rB (dE p q)) := by
  refine PC.begin Try.func135 rfl (by kernel_rfl) ?_
  have hpl := hp.1
  have hql := hq.1
  refine xb rfl (fun h => ?_) (fun h => ?_)
  · exact xr rfl (xret rfl ⟨⟨rfl, dE_no (fun e => by subst e; simp at h), trivial⟩, nodB_nodup rfl⟩)
  have hl : p.length = q.length := by simpa [Int.ofNat_inj] using h
  refine xloop rfl (ι := Nat) (fun i => i ≤ p.length ∧ p.take i = q.take i) (fun i => ⟨[(5, sV (.int .i64 i)), (0, .one (.b (.l p))), (1, .one (.b (.l q)))], []⟩) (fun i => p.length - i) 0 ⟨Nat.zero_le _, rfl⟩ ?_ ?_
  · repeat' (first | exact trivial | exact rfl | exact Or.inl rfl | refine And.intro ?_ ?_)
  · intro i ⟨hi, he⟩ J hJ
    refine xb rfl (fun h => ?_) (fun h => ?_)
    · have h : i < p.length := by simpa using h
      obtain ⟨row, hg⟩ : ∃ row, p[i]? = some row := ⟨_, List.getElem?_eq_getElem h⟩
      obtain ⟨row', hg'⟩ : ∃ row, q[i]? = some row := ⟨_, List.getElem?_eq_getElem (by omega)⟩
      obtain ⟨x0, x1, x2, x3, x4, x5, rfl, h5⟩ := inv_Slot (hp.2 row (List.mem_of_getElem? hg))
      obtain ⟨y0, y1, y2, y3, y4, y5, rfl, k5⟩ := inv_Slot (hq.2 row' (List.mem_of_getElem? hg'))
      refine xdraw rfl [] (.take 0 [] (.take 1 [] (.take 2 [] (.take 3 [8, 9] (.take 4 [] (.take 5 [] (.take 6 [] (.take 7 [8, 9] (.alt 8 (.take 9 [] .done) .nil))))))))) (by kernel_rfl) ?_
      refine xs rfl (Int.natCast_nonneg _) (xrow rfl _ hg (xs rfl rfl ?_))
      refine xs rfl (Int.natCast_nonneg _) (xrow rfl _ hg' (xs rfl rfl ?_))
      refine xcall rfl (eqSlot_pc _ _ _ _ _ _ _ _ _ _ _ _ h5 k5) rfl ⟨⟨trivial, trivial, trivial, trivial, trivial, trivial, trivial⟩, ⟨trivial, trivial, trivial, trivial, trivial, trivial, trivial⟩, trivial⟩ ?_
      refine xb rfl (fun hb => ?_) (fun hb => ?_)
      · exact xr rfl (xret rfl ⟨⟨rfl, dE_no (fun e => by subst e; rw [hg] at hg'; cases hg'; exact nE_ne hb rfl), trivial⟩, nodB_nodup rfl⟩)
      · have hb := nE_eq hb
        refine xcont rfl (hJ _ (i + 1) ⟨by omega, take_succ_eq he hg (hg'.trans (by rw [hb]))⟩ (by omega) ?_)
        repeat' (first | exact trivial | exact rfl | exact Or.inl rfl | exact cwi (by omega) (by omega) (by omega) | refine And.intro ?_ ?_)
    · have h : ¬ i < p.length := by simpa using h
      exact xr rfl (xret rfl ⟨⟨rfl, dE_yes (by rw [show i = p.length by omega, List.take_length] at he; rw [he, hl, List.take_length]), trivial⟩, nodB_nodup rfl⟩)
theorem eqAcceptor_pc (x0 : List (List Cell)) (y0 : List (List Cell)) (h0 : WR 9000000000000000000 sh_Slot x0) (k0 : WR 9000000000000000000 sh_Slot y0) : PC Try.prog 108 [.agg [.l x0], .agg [.l y0]] (rB (dE (α := List Cell) [.l x0] [.l y0])) := by
  refine PC.begin Try.func108 rfl (by kernel_rfl) ?_
  refine xcall rfl (eqSlotS_pc _ _ h0 k0) rfl ⟨trivial, trivial, trivial⟩ ?_
  refine xb rfl (fun h => ?_) (fun e0 => ?_)
  · exact xr rfl (xret rfl ⟨⟨rfl, dE_no (fun e => nE_ne h (by simp only [List.cons.injEq, Cell.l.injEq] at e ⊢; simp only [e]; try trivial)), trivial⟩, nodB_nodup rfl⟩)
  have e0 := nE_eq e0
  exact xr rfl (xret rfl ⟨⟨rfl, dE_yes (by simp [e0]), trivial⟩, nodB_nodup rfl⟩)
theorem eqAcceptorS_pc (p q : List (List Cell)) (hp : WR 9000000000000000000 sh_Acceptor p) (hq : WR 9000000000000000000 sh_Acceptor q) : PC Try.prog 68 [.one (.l p), .one (.l q)] (rB (dE p q)) := by
  refine PC.begin Try.func68 rfl (by kernel_rfl) ?_
  have hpl := hp.1
  have hql := hq.1
  refine xb rfl (fun h => ?_) (fun h => ?_)
  · exact xr rfl (xret rfl ⟨⟨rfl, dE_no (fun e => by subst e; simp at h), trivial⟩, nodB_nodup rfl⟩)
  have hl : p.length = q.length := by simpa [Int.ofNat_inj] using h
  refine xloop rfl (ι := Nat) (fun i => i ≤ p.length ∧ p.take i = q.take i) (fun i => ⟨[(5, sV (.int .i64 i)), (0, .one (.b (.l p))), (1, .one (.b (.l q)))], []⟩) (fun i => p.length - i) 0 ⟨Nat.zero_le _, rfl⟩ ?_ ?_
  · repeat' (first | exact trivial | exact rfl | exact Or.inl rfl | refine And.intro ?_ ?_)
  · intro i ⟨hi, he⟩ J hJ
    refine xb rfl (fun h => ?_) (fun h => ?_)
    · have h : i < p.length := by simpa using h
      obtain ⟨row, hg⟩ : ∃ row, p[i]? = some row := ⟨_, List.getElem?_eq_getElem h⟩
      obtain ⟨row', hg'⟩ : ∃ row, q[i]? = some row := ⟨_, List.getElem?_eq_getElem (by omega)⟩
      obtain ⟨x0, rfl, h0⟩ := inv_Acceptor (hp.2 row (List.mem_of_getElem? hg))
      obtain ⟨y0, rfl, k0⟩ := inv_Acceptor (hq.2 row' (List.mem_of_getElem? hg'))
      refine xdraw rfl [] (.take 0 [] (.take 1 [] (.take 2 [] (.take 3 [8, 9] (.take 4 [] (.take 5 [] (.take 6 [] (.take 7 [8, 9] (.alt 8 (.take 9 [] .done) .nil))))))))) (by kernel_rfl) ?_
      refine xs rfl (Int.natCast_nonneg _) (xrow rfl _ hg (xs rfl rfl ?_))
      refine xs rfl (Int.natCast_nonneg _) (xrow rfl _ hg' (xs rfl rfl ?_))
      refine xcall rfl (eqAcceptor_pc _ _ h0 k0) rfl ⟨⟨trivial, trivial⟩, ⟨trivial, trivial⟩, trivial⟩ ?_
      refine xb rfl (fun hb => ?_) (fun hb => ?_)
      · exact xr rfl (xret rfl ⟨⟨rfl, dE_no (fun e => by subst e; rw [hg] at hg'; cases hg'; exact nE_ne hb rfl), trivial⟩, nodB_nodup rfl⟩)
      · have hb := nE_eq hb
        refine xcont rfl (hJ _ (i + 1) ⟨by omega, take_succ_eq he hg (hg'.trans (by rw [hb]))⟩ (by omega) ?_)
        repeat' (first | exact trivial | exact rfl | exact Or.inl rfl | exact cwi (by omega) (by omega) (by omega) | refine And.intro ?_ ?_)
    · have h : ¬ i < p.length := by simpa using h
      exact xr rfl (xret rfl ⟨⟨rfl, dE_yes (by rw [show i = p.length by omega, List.take_length] at he; rw [he, hl, List.take_length]), trivial⟩, nodB_nodup rfl⟩)
theorem eqTry_pc (x0 : Int) (x1 : Int) (x2 : Int) (x3 : Int) (x4 : List (List Cell)) (x5 : List (List Cell)) (y0 : Int) (y1 : Int) (y2 : Int) (y3 : Int) (y4 : List (List Cell)) (y5 : List (List Cell)) (h4 : WR 9000000000000000000 (.i .i64 .nil) x4) (h5 : WR 9000000000000000000 sh_Vote x5) (k4 : WR 9000000000000000000 (.i .i64 .nil) y4) (k5 : WR 9000000000000000000 sh_Vote y5) : PC Try.prog 153 [.agg [.s (.int .i64 x0), .s (.int .i64 x1), .s (.int .i64 x2), .s (.int .i64 x3), .l x4, .l x5], .agg [.s (.int .i64 y0), .s (.int .i64 y1), .s (.int .i64 y2), .s (.int .i64 y3), .l y4, .l y5]] (rB (dE (α := List Cell) [.s (.int .i64 x0), .s (.int .i64 x1), .s (.int .i64 x2), .s (.int .i64 x3), .l x4, .l x5] [.s (.int .i64 y0), .s (.int .i64 y1), .s (.int .i64 y2), .s (.int .i64 y3), .l y4, .l y5])) := by
  refine PC.begin Try.func153 rfl (by kernel_rfl) ?_
  refine xb rfl (fun h => ?_) (fun e0 => ?_)
  · exact xr rfl (xret rfl ⟨⟨rfl, dE_no (fun e => by simp only [List.cons.injEq, Cell.s.injEq, Value.int.injEq, Value.bool.injEq, Value.string.injEq] at e; simp [e] at h), trivial⟩, nodB_nodup rfl⟩)
  have e0 : x0 = y0 := by simpa using e0
  refine xb rfl (fun h => ?_) (fun e1 => ?_)
  · exact xr rfl (xret rfl ⟨⟨rfl, dE_no (fun e => by simp only [List.cons.injEq, Cell.s.injEq, Value.int.injEq, Value.bool.injEq, Value.string.injEq] at e; simp [e] at h), trivial⟩, nodB_nodup rfl⟩)
  have e1 : x1 = y1 := by simpa using e1
  refine xb rfl (fun h => ?_) (fun e2 => ?_)
  · exact xr rfl (xret rfl ⟨⟨rfl, dE_no (fun e => by simp only [List.cons.injEq, Cell.s.injEq, Value.int.injEq, Value.bool.injEq, Value.string.injEq] at e; simp [e] at h), trivial⟩, nodB_nodup rfl⟩)
  have e2 : x2 = y2 := by simpa using e2
  refine xb rfl (fun h => ?_) (fun e3 => ?_)
  · exact xr rfl (xret rfl ⟨⟨rfl, dE_no (fun e => by simp only [List.cons.injEq, Cell.s.injEq, Value.int.injEq, Value.bool.injEq, Value.string.injEq] at e; simp [e] at h), trivial⟩, nodB_nodup rfl⟩)
  have e3 : x3 = y3 := by simpa using e3
  refine xcall rfl (eqInt64S_pc _ _ h4 k4) rfl ⟨trivial, trivial, trivial⟩ ?_
  refine xb rfl (fun h => ?_) (fun e4 => ?_)
  · exact xr rfl (xret rfl ⟨⟨rfl, dE_no (fun e => nE_ne h (by simp only [List.cons.injEq, Cell.l.injEq] at e ⊢; simp only [e]; try trivial)), trivial⟩, nodB_nodup rfl⟩)
  have e4 := nE_eq e4
  refine xcall rfl (eqVoteS_pc _ _ h5 k5) rfl ⟨trivial, trivial, trivial⟩ ?_
  refine xb rfl (fun h => ?_) (fun e5 => ?_)
  · exact xr rfl (xret rfl ⟨⟨rfl, dE_no (fun e => nE_ne h (by simp only [List.cons.injEq, Cell.l.injEq] at e ⊢; simp only [e]; try trivial)), trivial⟩, nodB_nodup rfl⟩)
  have e5 := nE_eq e5
  exact xr rfl (xret rfl ⟨⟨rfl, dE_yes (by simp [e0, e1, e2, e3, e4, e5]), trivial⟩, nodB_nodup rfl⟩)
theorem eqTryS_pc (p q : List (List Cell)) (hp : WR 9000000000000000000 sh_Try p) (hq : WR 9000000000000000000 sh_Try q) : PC Try.prog 136 [.one (.l p), .one (.l q)] (rB (dE p q)) := by
  refine PC.begin Try.func136 rfl (by kernel_rfl) ?_
  have hpl := hp.1
  have hql := hq.1
  refine xb rfl (fun h => ?_) (fun h => ?_)
  · exact xr rfl (xret rfl ⟨⟨rfl, dE_no (fun e => by subst e; simp at h), trivial⟩, nodB_nodup rfl⟩)
  have hl : p.length = q.length := by simpa [Int.ofNat_inj] using h
  refine xloop rfl (ι := Nat) (fun i => i ≤ p.length ∧ p.take i = q.take i) (fun i => ⟨[(5, sV (.int .i64 i)), (0, .one (.b (.l p))), (1, .one (.b (.l q)))], []⟩) (fun i => p.length - i) 0 ⟨Nat.zero_le _, rfl⟩ ?_ ?_
  · repeat' (first | exact trivial | exact rfl | exact Or.inl rfl | refine And.intro ?_ ?_)
  · intro i ⟨hi, he⟩ J hJ
    refine xb rfl (fun h => ?_) (fun h => ?_)
    · have h : i < p.length := by simpa using h
      obtain ⟨row, hg⟩ : ∃ row, p[i]? = some row := ⟨_, List.getElem?_eq_getElem h⟩
      obtain ⟨row', hg'⟩ : ∃ row, q[i]? = some row := ⟨_, List.getElem?_eq_getElem (by omega)⟩
      obtain ⟨x0, x1, x2, x3, x4, x5, rfl, h4, h5⟩ := inv_Try (hp.2 row (List.mem_of_getElem? hg))
      obtain ⟨y0, y1, y2, y3, y4, y5, rfl, k4, k5⟩ := inv_Try (hq.2 row' (List.mem_of_getElem? hg'))
      refine xdraw rfl [] (.take 0 [] (.take 1 [] (.take 2 [] (.take 3 [8, 9] (.take 4 [] (.take 5 [] (.take 6 [] (.take 7 [8, 9] (.alt 8 (.take 9 [] .done) .nil))))))))) (by kernel_rfl) ?_
      refine xs rfl (Int.natCast_nonneg _) (xrow rfl _ hg (xs rfl rfl ?_))
      refine xs rfl (Int.natCast_nonneg _) (xrow rfl _ hg' (xs rfl rfl ?_))
      refine xcall rfl (eqTry_pc _ _ _ _ _ _ _ _ _ _ _ _ h4 h5 k4 k5) rfl ⟨⟨trivial, trivial, trivial, trivial, trivial, trivial, trivial⟩, ⟨trivial, trivial, trivial, trivial, trivial, trivial, trivial⟩, trivial⟩ ?_
      refine xb rfl (fun hb => ?_) (fun hb => ?_)
      · exact xr rfl (xret rfl ⟨⟨rfl, dE_no (fun e => by subst e; rw [hg] at hg'; cases hg'; exact nE_ne hb rfl), trivial⟩, nodB_nodup rfl⟩)
      · have hb := nE_eq hb
        refine xcont rfl (hJ _ (i + 1) ⟨by omega, take_succ_eq he hg (hg'.trans (by rw [hb]))⟩ (by omega) ?_)
        repeat' (first | exact trivial | exact rfl | exact Or.inl rfl | exact cwi (by omega) (by omega) (by omega) | refine And.intro ?_ ?_)
    · have h : ¬ i < p.length := by simpa using h
      exact xr rfl (xret rfl ⟨⟨rfl, dE_yes (by rw [show i = p.length by omega, List.take_length] at he; rw [he, hl, List.take_length]), trivial⟩, nodB_nodup rfl⟩)
theorem eqHeard_pc (x0 : Int) (x1 : Int) (x2 : Int) (x3 : Int) (x4 : Int) (y0 : Int) (y1 : Int) (y2 : Int) (y3 : Int) (y4 : Int)   : PC Try.prog 154 [.agg [.s (.int .i64 x0), .s (.int .i64 x1), .s (.int .i64 x2), .s (.int .i64 x3), .s (.int .i64 x4)], .agg [.s (.int .i64 y0), .s (.int .i64 y1), .s (.int .i64 y2), .s (.int .i64 y3), .s (.int .i64 y4)]] (rB (dE (α := List Cell) [.s (.int .i64 x0), .s (.int .i64 x1), .s (.int .i64 x2), .s (.int .i64 x3), .s (.int .i64 x4)] [.s (.int .i64 y0), .s (.int .i64 y1), .s (.int .i64 y2), .s (.int .i64 y3), .s (.int .i64 y4)])) := by
  refine PC.begin Try.func154 rfl (by kernel_rfl) ?_
  refine xb rfl (fun h => ?_) (fun e0 => ?_)
  · exact xr rfl (xret rfl ⟨⟨rfl, dE_no (fun e => by simp only [List.cons.injEq, Cell.s.injEq, Value.int.injEq, Value.bool.injEq, Value.string.injEq] at e; simp [e] at h), trivial⟩, nodB_nodup rfl⟩)
  have e0 : x0 = y0 := by simpa using e0
  refine xb rfl (fun h => ?_) (fun e1 => ?_)
  · exact xr rfl (xret rfl ⟨⟨rfl, dE_no (fun e => by simp only [List.cons.injEq, Cell.s.injEq, Value.int.injEq, Value.bool.injEq, Value.string.injEq] at e; simp [e] at h), trivial⟩, nodB_nodup rfl⟩)
  have e1 : x1 = y1 := by simpa using e1
  refine xb rfl (fun h => ?_) (fun e2 => ?_)
  · exact xr rfl (xret rfl ⟨⟨rfl, dE_no (fun e => by simp only [List.cons.injEq, Cell.s.injEq, Value.int.injEq, Value.bool.injEq, Value.string.injEq] at e; simp [e] at h), trivial⟩, nodB_nodup rfl⟩)
  have e2 : x2 = y2 := by simpa using e2
  refine xb rfl (fun h => ?_) (fun e3 => ?_)
  · exact xr rfl (xret rfl ⟨⟨rfl, dE_no (fun e => by simp only [List.cons.injEq, Cell.s.injEq, Value.int.injEq, Value.bool.injEq, Value.string.injEq] at e; simp [e] at h), trivial⟩, nodB_nodup rfl⟩)
  have e3 : x3 = y3 := by simpa using e3
  refine xb rfl (fun h => ?_) (fun e4 => ?_)
  · exact xr rfl (xret rfl ⟨⟨rfl, dE_no (fun e => by simp only [List.cons.injEq, Cell.s.injEq, Value.int.injEq, Value.bool.injEq, Value.string.injEq] at e; simp [e] at h), trivial⟩, nodB_nodup rfl⟩)
  have e4 : x4 = y4 := by simpa using e4
  exact xr rfl (xret rfl ⟨⟨rfl, dE_yes (by simp [e0, e1, e2, e3, e4]), trivial⟩, nodB_nodup rfl⟩)
theorem eqHeardS_pc (p q : List (List Cell)) (hp : WR 9000000000000000000 sh_Heard p) (hq : WR 9000000000000000000 sh_Heard q) : PC Try.prog 137 [.one (.l p), .one (.l q)] (rB (dE p q)) := by
  refine PC.begin Try.func137 rfl (by kernel_rfl) ?_
  have hpl := hp.1
  have hql := hq.1
  refine xb rfl (fun h => ?_) (fun h => ?_)
  · exact xr rfl (xret rfl ⟨⟨rfl, dE_no (fun e => by subst e; simp at h), trivial⟩, nodB_nodup rfl⟩)
  have hl : p.length = q.length := by simpa [Int.ofNat_inj] using h
  refine xloop rfl (ι := Nat) (fun i => i ≤ p.length ∧ p.take i = q.take i) (fun i => ⟨[(5, sV (.int .i64 i)), (0, .one (.b (.l p))), (1, .one (.b (.l q)))], []⟩) (fun i => p.length - i) 0 ⟨Nat.zero_le _, rfl⟩ ?_ ?_
  · repeat' (first | exact trivial | exact rfl | exact Or.inl rfl | refine And.intro ?_ ?_)
  · intro i ⟨hi, he⟩ J hJ
    refine xb rfl (fun h => ?_) (fun h => ?_)
    · have h : i < p.length := by simpa using h
      obtain ⟨row, hg⟩ : ∃ row, p[i]? = some row := ⟨_, List.getElem?_eq_getElem h⟩
      obtain ⟨row', hg'⟩ : ∃ row, q[i]? = some row := ⟨_, List.getElem?_eq_getElem (by omega)⟩
      obtain ⟨x0, x1, x2, x3, x4, rfl⟩ := inv_Heard (hp.2 row (List.mem_of_getElem? hg))
      obtain ⟨y0, y1, y2, y3, y4, rfl⟩ := inv_Heard (hq.2 row' (List.mem_of_getElem? hg'))
      refine xdraw rfl [] (.take 0 [] (.take 1 [] (.take 2 [] (.take 3 [8, 9] (.take 4 [] (.take 5 [] (.take 6 [] (.take 7 [8, 9] (.alt 8 (.take 9 [] .done) .nil))))))))) (by kernel_rfl) ?_
      refine xs rfl (Int.natCast_nonneg _) (xrow rfl _ hg (xs rfl rfl ?_))
      refine xs rfl (Int.natCast_nonneg _) (xrow rfl _ hg' (xs rfl rfl ?_))
      refine xcall rfl (eqHeard_pc _ _ _ _ _ _ _ _ _ _) rfl ⟨⟨trivial, trivial, trivial, trivial, trivial, trivial⟩, ⟨trivial, trivial, trivial, trivial, trivial, trivial⟩, trivial⟩ ?_
      refine xb rfl (fun hb => ?_) (fun hb => ?_)
      · exact xr rfl (xret rfl ⟨⟨rfl, dE_no (fun e => by subst e; rw [hg] at hg'; cases hg'; exact nE_ne hb rfl), trivial⟩, nodB_nodup rfl⟩)
      · have hb := nE_eq hb
        refine xcont rfl (hJ _ (i + 1) ⟨by omega, take_succ_eq he hg (hg'.trans (by rw [hb]))⟩ (by omega) ?_)
        repeat' (first | exact trivial | exact rfl | exact Or.inl rfl | exact cwi (by omega) (by omega) (by omega) | refine And.intro ?_ ?_)
    · have h : ¬ i < p.length := by simpa using h
      exact xr rfl (xret rfl ⟨⟨rfl, dE_yes (by rw [show i = p.length by omega, List.take_length] at he; rw [he, hl, List.take_length]), trivial⟩, nodB_nodup rfl⟩)
theorem eqLeader_pc (x0 : Int) (x1 : List (List Cell)) (x2 : List (List Cell)) (y0 : Int) (y1 : List (List Cell)) (y2 : List (List Cell)) (h1 : WR 9000000000000000000 sh_Try x1) (h2 : WR 9000000000000000000 sh_Heard x2) (k1 : WR 9000000000000000000 sh_Try y1) (k2 : WR 9000000000000000000 sh_Heard y2) : PC Try.prog 109 [.agg [.s (.int .i64 x0), .l x1, .l x2], .agg [.s (.int .i64 y0), .l y1, .l y2]] (rB (dE (α := List Cell) [.s (.int .i64 x0), .l x1, .l x2] [.s (.int .i64 y0), .l y1, .l y2])) := by
  refine PC.begin Try.func109 rfl (by kernel_rfl) ?_
  refine xb rfl (fun h => ?_) (fun e0 => ?_)
  · exact xr rfl (xret rfl ⟨⟨rfl, dE_no (fun e => by simp only [List.cons.injEq, Cell.s.injEq, Value.int.injEq, Value.bool.injEq, Value.string.injEq] at e; simp [e] at h), trivial⟩, nodB_nodup rfl⟩)
  have e0 : x0 = y0 := by simpa using e0
  refine xcall rfl (eqTryS_pc _ _ h1 k1) rfl ⟨trivial, trivial, trivial⟩ ?_
  refine xb rfl (fun h => ?_) (fun e1 => ?_)
  · exact xr rfl (xret rfl ⟨⟨rfl, dE_no (fun e => nE_ne h (by simp only [List.cons.injEq, Cell.l.injEq] at e ⊢; simp only [e]; try trivial)), trivial⟩, nodB_nodup rfl⟩)
  have e1 := nE_eq e1
  refine xcall rfl (eqHeardS_pc _ _ h2 k2) rfl ⟨trivial, trivial, trivial⟩ ?_
  refine xb rfl (fun h => ?_) (fun e2 => ?_)
  · exact xr rfl (xret rfl ⟨⟨rfl, dE_no (fun e => nE_ne h (by simp only [List.cons.injEq, Cell.l.injEq] at e ⊢; simp only [e]; try trivial)), trivial⟩, nodB_nodup rfl⟩)
  have e2 := nE_eq e2
  exact xr rfl (xret rfl ⟨⟨rfl, dE_yes (by simp [e0, e1, e2]), trivial⟩, nodB_nodup rfl⟩)
theorem eqLeaderS_pc (p q : List (List Cell)) (hp : WR 9000000000000000000 sh_Leader p) (hq : WR 9000000000000000000 sh_Leader q) : PC Try.prog 69 [.one (.l p), .one (.l q)] (rB (dE p q)) := by
  refine PC.begin Try.func69 rfl (by kernel_rfl) ?_
  have hpl := hp.1
  have hql := hq.1
  refine xb rfl (fun h => ?_) (fun h => ?_)
  · exact xr rfl (xret rfl ⟨⟨rfl, dE_no (fun e => by subst e; simp at h), trivial⟩, nodB_nodup rfl⟩)
  have hl : p.length = q.length := by simpa [Int.ofNat_inj] using h
  refine xloop rfl (ι := Nat) (fun i => i ≤ p.length ∧ p.take i = q.take i) (fun i => ⟨[(5, sV (.int .i64 i)), (0, .one (.b (.l p))), (1, .one (.b (.l q)))], []⟩) (fun i => p.length - i) 0 ⟨Nat.zero_le _, rfl⟩ ?_ ?_
  · repeat' (first | exact trivial | exact rfl | exact Or.inl rfl | refine And.intro ?_ ?_)
  · intro i ⟨hi, he⟩ J hJ
    refine xb rfl (fun h => ?_) (fun h => ?_)
    · have h : i < p.length := by simpa using h
      obtain ⟨row, hg⟩ : ∃ row, p[i]? = some row := ⟨_, List.getElem?_eq_getElem h⟩
      obtain ⟨row', hg'⟩ : ∃ row, q[i]? = some row := ⟨_, List.getElem?_eq_getElem (by omega)⟩
      obtain ⟨x0, x1, x2, rfl, h1, h2⟩ := inv_Leader (hp.2 row (List.mem_of_getElem? hg))
      obtain ⟨y0, y1, y2, rfl, k1, k2⟩ := inv_Leader (hq.2 row' (List.mem_of_getElem? hg'))
      refine xdraw rfl [] (.take 0 [] (.take 1 [] (.take 2 [] (.take 3 [8, 9] (.take 4 [] (.take 5 [] (.take 6 [] (.take 7 [8, 9] (.alt 8 (.take 9 [] .done) .nil))))))))) (by kernel_rfl) ?_
      refine xs rfl (Int.natCast_nonneg _) (xrow rfl _ hg (xs rfl rfl ?_))
      refine xs rfl (Int.natCast_nonneg _) (xrow rfl _ hg' (xs rfl rfl ?_))
      refine xcall rfl (eqLeader_pc _ _ _ _ _ _ h1 h2 k1 k2) rfl ⟨⟨trivial, trivial, trivial, trivial⟩, ⟨trivial, trivial, trivial, trivial⟩, trivial⟩ ?_
      refine xb rfl (fun hb => ?_) (fun hb => ?_)
      · exact xr rfl (xret rfl ⟨⟨rfl, dE_no (fun e => by subst e; rw [hg] at hg'; cases hg'; exact nE_ne hb rfl), trivial⟩, nodB_nodup rfl⟩)
      · have hb := nE_eq hb
        refine xcont rfl (hJ _ (i + 1) ⟨by omega, take_succ_eq he hg (hg'.trans (by rw [hb]))⟩ (by omega) ?_)
        repeat' (first | exact trivial | exact rfl | exact Or.inl rfl | exact cwi (by omega) (by omega) (by omega) | refine And.intro ?_ ?_)
    · have h : ¬ i < p.length := by simpa using h
      exact xr rfl (xret rfl ⟨⟨rfl, dE_yes (by rw [show i = p.length by omega, List.take_length] at he; rw [he, hl, List.take_length]), trivial⟩, nodB_nodup rfl⟩)
theorem eqMessage_pc (x0 : Int) (x1 : Int) (x2 : Int) (x3 : Int) (x4 : Int) (x5 : Int) (x6 : Int) (x7 : Int) (x8 : Int) (y0 : Int) (y1 : Int) (y2 : Int) (y3 : Int) (y4 : Int) (y5 : Int) (y6 : Int) (y7 : Int) (y8 : Int)   : PC Try.prog 110 [.agg [.s (.int .i64 x0), .s (.int .i64 x1), .s (.int .i64 x2), .s (.int .i64 x3), .s (.int .i64 x4), .s (.int .i64 x5), .s (.int .i64 x6), .s (.int .i64 x7), .s (.int .i64 x8)], .agg [.s (.int .i64 y0), .s (.int .i64 y1), .s (.int .i64 y2), .s (.int .i64 y3), .s (.int .i64 y4), .s (.int .i64 y5), .s (.int .i64 y6), .s (.int .i64 y7), .s (.int .i64 y8)]] (rB (dE (α := List Cell) [.s (.int .i64 x0), .s (.int .i64 x1), .s (.int .i64 x2), .s (.int .i64 x3), .s (.int .i64 x4), .s (.int .i64 x5), .s (.int .i64 x6), .s (.int .i64 x7), .s (.int .i64 x8)] [.s (.int .i64 y0), .s (.int .i64 y1), .s (.int .i64 y2), .s (.int .i64 y3), .s (.int .i64 y4), .s (.int .i64 y5), .s (.int .i64 y6), .s (.int .i64 y7), .s (.int .i64 y8)])) := by
  refine PC.begin Try.func110 rfl (by kernel_rfl) ?_
  refine xb rfl (fun h => ?_) (fun e0 => ?_)
  · exact xr rfl (xret rfl ⟨⟨rfl, dE_no (fun e => by simp only [List.cons.injEq, Cell.s.injEq, Value.int.injEq, Value.bool.injEq, Value.string.injEq] at e; simp [e] at h), trivial⟩, nodB_nodup rfl⟩)
  have e0 : x0 = y0 := by simpa using e0
  refine xb rfl (fun h => ?_) (fun e1 => ?_)
  · exact xr rfl (xret rfl ⟨⟨rfl, dE_no (fun e => by simp only [List.cons.injEq, Cell.s.injEq, Value.int.injEq, Value.bool.injEq, Value.string.injEq] at e; simp [e] at h), trivial⟩, nodB_nodup rfl⟩)
  have e1 : x1 = y1 := by simpa using e1
  refine xb rfl (fun h => ?_) (fun e2 => ?_)
  · exact xr rfl (xret rfl ⟨⟨rfl, dE_no (fun e => by simp only [List.cons.injEq, Cell.s.injEq, Value.int.injEq, Value.bool.injEq, Value.string.injEq] at e; simp [e] at h), trivial⟩, nodB_nodup rfl⟩)
  have e2 : x2 = y2 := by simpa using e2
  refine xb rfl (fun h => ?_) (fun e3 => ?_)
  · exact xr rfl (xret rfl ⟨⟨rfl, dE_no (fun e => by simp only [List.cons.injEq, Cell.s.injEq, Value.int.injEq, Value.bool.injEq, Value.string.injEq] at e; simp [e] at h), trivial⟩, nodB_nodup rfl⟩)
  have e3 : x3 = y3 := by simpa using e3
  refine xb rfl (fun h => ?_) (fun e4 => ?_)
  · exact xr rfl (xret rfl ⟨⟨rfl, dE_no (fun e => by simp only [List.cons.injEq, Cell.s.injEq, Value.int.injEq, Value.bool.injEq, Value.string.injEq] at e; simp [e] at h), trivial⟩, nodB_nodup rfl⟩)
  have e4 : x4 = y4 := by simpa using e4
  refine xb rfl (fun h => ?_) (fun e5 => ?_)
  · exact xr rfl (xret rfl ⟨⟨rfl, dE_no (fun e => by simp only [List.cons.injEq, Cell.s.injEq, Value.int.injEq, Value.bool.injEq, Value.string.injEq] at e; simp [e] at h), trivial⟩, nodB_nodup rfl⟩)
  have e5 : x5 = y5 := by simpa using e5
  refine xb rfl (fun h => ?_) (fun e6 => ?_)
  · exact xr rfl (xret rfl ⟨⟨rfl, dE_no (fun e => by simp only [List.cons.injEq, Cell.s.injEq, Value.int.injEq, Value.bool.injEq, Value.string.injEq] at e; simp [e] at h), trivial⟩, nodB_nodup rfl⟩)
  have e6 : x6 = y6 := by simpa using e6
  refine xcall rfl (eqVote_pc _ _ _ _) rfl ⟨⟨trivial, trivial, trivial⟩, ⟨trivial, trivial, trivial⟩, trivial⟩ ?_
  refine xb rfl (fun h => ?_) (fun e7 => ?_)
  · exact xr rfl (xret rfl ⟨⟨rfl, dE_no (fun e => nE_ne h (by simp only [List.cons.injEq, Cell.l.injEq] at e ⊢; simp only [e]; try trivial)), trivial⟩, nodB_nodup rfl⟩)
  have e7 := nE_eq e7
  simp only [List.cons.injEq, Cell.s.injEq, Cell.l.injEq, Value.int.injEq, Value.bool.injEq, and_true, true_and] at e7
  exact xr rfl (xret rfl ⟨⟨rfl, dE_yes (by simp [e0, e1, e2, e3, e4, e5, e6, e7]), trivial⟩, nodB_nodup rfl⟩)
theorem eqMessageS_pc (p q : List (List Cell)) (hp : WR 9000000000000000000 sh_Message p) (hq : WR 9000000000000000000 sh_Message q) : PC Try.prog 70 [.one (.l p), .one (.l q)] (rB (dE p q)) := by
  refine PC.begin Try.func70 rfl (by kernel_rfl) ?_
  have hpl := hp.1
  have hql := hq.1
  refine xb rfl (fun h => ?_) (fun h => ?_)
  · exact xr rfl (xret rfl ⟨⟨rfl, dE_no (fun e => by subst e; simp at h), trivial⟩, nodB_nodup rfl⟩)
  have hl : p.length = q.length := by simpa [Int.ofNat_inj] using h
  refine xloop rfl (ι := Nat) (fun i => i ≤ p.length ∧ p.take i = q.take i) (fun i => ⟨[(5, sV (.int .i64 i)), (0, .one (.b (.l p))), (1, .one (.b (.l q)))], []⟩) (fun i => p.length - i) 0 ⟨Nat.zero_le _, rfl⟩ ?_ ?_
  · repeat' (first | exact trivial | exact rfl | exact Or.inl rfl | refine And.intro ?_ ?_)
  · intro i ⟨hi, he⟩ J hJ
    refine xb rfl (fun h => ?_) (fun h => ?_)
    · have h : i < p.length := by simpa using h
      obtain ⟨row, hg⟩ : ∃ row, p[i]? = some row := ⟨_, List.getElem?_eq_getElem h⟩
      obtain ⟨row', hg'⟩ : ∃ row, q[i]? = some row := ⟨_, List.getElem?_eq_getElem (by omega)⟩
      obtain ⟨x0, x1, x2, x3, x4, x5, x6, x7, x8, rfl⟩ := inv_Message (hp.2 row (List.mem_of_getElem? hg))
      obtain ⟨y0, y1, y2, y3, y4, y5, y6, y7, y8, rfl⟩ := inv_Message (hq.2 row' (List.mem_of_getElem? hg'))
      refine xdraw rfl [] (.take 0 [] (.take 1 [] (.take 2 [] (.take 3 [8, 9] (.take 4 [] (.take 5 [] (.take 6 [] (.take 7 [8, 9] (.alt 8 (.take 9 [] .done) .nil))))))))) (by kernel_rfl) ?_
      refine xs rfl (Int.natCast_nonneg _) (xrow rfl _ hg (xs rfl rfl ?_))
      refine xs rfl (Int.natCast_nonneg _) (xrow rfl _ hg' (xs rfl rfl ?_))
      refine xcall rfl (eqMessage_pc _ _ _ _ _ _ _ _ _ _ _ _ _ _ _ _ _ _) rfl ⟨⟨trivial, trivial, trivial, trivial, trivial, trivial, trivial, trivial, trivial, trivial⟩, ⟨trivial, trivial, trivial, trivial, trivial, trivial, trivial, trivial, trivial, trivial⟩, trivial⟩ ?_
      refine xb rfl (fun hb => ?_) (fun hb => ?_)
      · exact xr rfl (xret rfl ⟨⟨rfl, dE_no (fun e => by subst e; rw [hg] at hg'; cases hg'; exact nE_ne hb rfl), trivial⟩, nodB_nodup rfl⟩)
      · have hb := nE_eq hb
        refine xcont rfl (hJ _ (i + 1) ⟨by omega, take_succ_eq he hg (hg'.trans (by rw [hb]))⟩ (by omega) ?_)
        repeat' (first | exact trivial | exact rfl | exact Or.inl rfl | exact cwi (by omega) (by omega) (by omega) | refine And.intro ?_ ?_)
    · have h : ¬ i < p.length := by simpa using h
      exact xr rfl (xret rfl ⟨⟨rfl, dE_yes (by rw [show i = p.length by omega, List.take_length] at he; rw [he, hl, List.take_length]), trivial⟩, nodB_nodup rfl⟩)
theorem eqCluster_pc (x0 : List (List Cell)) (x1 : List (List Cell)) (x2 : List (List Cell)) (x3 : List (List Cell)) (x4 : List (List Cell)) (y0 : List (List Cell)) (y1 : List (List Cell)) (y2 : List (List Cell)) (y3 : List (List Cell)) (y4 : List (List Cell)) (h0 : WR 9000000000000000000 sh_Contract x0) (h1 : WR 9000000000000000000 sh_Shard x1) (h2 : WR 9000000000000000000 sh_Acceptor x2) (h3 : WR 9000000000000000000 sh_Leader x3) (h4 : WR 9000000000000000000 sh_Message x4) (k0 : WR 9000000000000000000 sh_Contract y0) (k1 : WR 9000000000000000000 sh_Shard y1) (k2 : WR 9000000000000000000 sh_Acceptor y2) (k3 : WR 9000000000000000000 sh_Leader y3) (k4 : WR 9000000000000000000 sh_Message y4) : PC Try.prog 34 [.agg [.l x0, .l x1, .l x2, .l x3, .l x4], .agg [.l y0, .l y1, .l y2, .l y3, .l y4]] (rB (dE (α := List Cell) [.l x0, .l x1, .l x2, .l x3, .l x4] [.l y0, .l y1, .l y2, .l y3, .l y4])) := by
  refine PC.begin Try.func34 rfl (by kernel_rfl) ?_
  refine xcall rfl (eqContractS_pc _ _ h0 k0) rfl ⟨trivial, trivial, trivial⟩ ?_
  refine xb rfl (fun h => ?_) (fun e0 => ?_)
  · exact xr rfl (xret rfl ⟨⟨rfl, dE_no (fun e => nE_ne h (by simp only [List.cons.injEq, Cell.l.injEq] at e ⊢; simp only [e]; try trivial)), trivial⟩, nodB_nodup rfl⟩)
  have e0 := nE_eq e0
  refine xcall rfl (eqShardS_pc _ _ h1 k1) rfl ⟨trivial, trivial, trivial⟩ ?_
  refine xb rfl (fun h => ?_) (fun e1 => ?_)
  · exact xr rfl (xret rfl ⟨⟨rfl, dE_no (fun e => nE_ne h (by simp only [List.cons.injEq, Cell.l.injEq] at e ⊢; simp only [e]; try trivial)), trivial⟩, nodB_nodup rfl⟩)
  have e1 := nE_eq e1
  refine xcall rfl (eqAcceptorS_pc _ _ h2 k2) rfl ⟨trivial, trivial, trivial⟩ ?_
  refine xb rfl (fun h => ?_) (fun e2 => ?_)
  · exact xr rfl (xret rfl ⟨⟨rfl, dE_no (fun e => nE_ne h (by simp only [List.cons.injEq, Cell.l.injEq] at e ⊢; simp only [e]; try trivial)), trivial⟩, nodB_nodup rfl⟩)
  have e2 := nE_eq e2
  refine xcall rfl (eqLeaderS_pc _ _ h3 k3) rfl ⟨trivial, trivial, trivial⟩ ?_
  refine xb rfl (fun h => ?_) (fun e3 => ?_)
  · exact xr rfl (xret rfl ⟨⟨rfl, dE_no (fun e => nE_ne h (by simp only [List.cons.injEq, Cell.l.injEq] at e ⊢; simp only [e]; try trivial)), trivial⟩, nodB_nodup rfl⟩)
  have e3 := nE_eq e3
  refine xcall rfl (eqMessageS_pc _ _ h4 k4) rfl ⟨trivial, trivial, trivial⟩ ?_
  refine xb rfl (fun h => ?_) (fun e4 => ?_)
  · exact xr rfl (xret rfl ⟨⟨rfl, dE_no (fun e => nE_ne h (by simp only [List.cons.injEq, Cell.l.injEq] at e ⊢; simp only [e]; try trivial)), trivial⟩, nodB_nodup rfl⟩)
  have e4 := nE_eq e4
  exact xr rfl (xret rfl ⟨⟨rfl, dE_yes (by simp [e0, e1, e2, e3, e4]), trivial⟩, nodB_nodup rfl⟩)
end Go.Proofs.Ytlkjdcpcbnfbbaa
end
section
namespace Go.Proofs.Ytlkjdcpcbnfbbaa
open Go Go.Sx
set_option maxRecDepth 20000
set_option maxHeartbeats 4000000
theorem markLegS_pg (z : Nat) (rr : List (List Cell)) (k : Int) (hw : WR 9000000000000000000 sh_Leg rr) : PG Try.prog 101 [.one (.giv true z rr), .one (.bor (i64 k))] (rI (mkR (mk sh_Leg) rr k).2) [(0, (mkR (mk sh_Leg) rr k).1)] := by
  refine PG.begin Try.func101 rfl (by kernel_rfl) ?_
  have hlen := hw.1
  refine xloop rfl (ι := Nat) (fun i => i ≤ rr.length) (fun i => ⟨[(5, sV (.int .i64 i)), (1, sV (.int .i64 (mdk (mk sh_Leg) rr k i))), (0, .one (.h 1000000000 rr.length))], [(1000000000, .arr true z 0 (md (mk sh_Leg) rr k i))]⟩) (fun i => rr.length - i) 0 (Nat.zero_le _) ?_ ?_
  · exact ⟨⟨rfl, congrArg (fun n => Cell.s (.int .i64 n)) mdk_zero.symm, ⟨rfl, rfl, rfl⟩, trivial⟩, ⟨⟨md_zero.symm, .inl rfl, .inl rfl⟩, trivial⟩, rfl⟩
  · intro i hi J hJ
    refine xb rfl (fun h => ?_) (fun h => ?_)
    · have h : i < rr.length := by simpa using h
      obtain ⟨row, hg⟩ : ∃ row, rr[i]? = some row := ⟨_, List.getElem?_eq_getElem h⟩
      obtain ⟨x0, x1, x2, x3, rfl⟩ := inv_Leg (hw.2 row (List.mem_of_getElem? hg))
      have hl := md_len (f := (mk sh_Leg)) (k := k) hi
      have hg0 := md_get (f := (mk sh_Leg)) (k := k) hg
      have hlt : i < (md (mk sh_Leg) rr k i).length := by omega
      refine xs rfl (hl).symm (xs rfl (Int.natCast_nonneg _) (xrow rfl _ hg0 (xs rfl rfl (xs rfl (hl).symm (xrow rfl _ hg0 (xs rfl (by show 0 + 1 ≤ 4; omega) (xs rfl ⟨trivial, trivial⟩ ?_)))))))
      refine xs rfl (lset (hl)).symm (xs rfl (Int.natCast_nonneg _) (xrow rfl _ (gset (hl) h) (xs rfl rfl (xs rfl (lset (hl)).symm (xrow rfl _ (gset (hl) h) (xs rfl (by show 1 + 1 ≤ 4; omega) (xs rfl ⟨trivial, trivial⟩ ?_)))))))
      refine xs rfl (lset (lset (hl))).symm (xs rfl (Int.natCast_nonneg _) (xrow rfl _ (gset (lset (hl)) h) (xs rfl rfl (xs rfl (lset (lset (hl))).symm (xrow rfl _ (gset (lset (hl)) h) (xs rfl (by show 2 + 1 ≤ 4; omega) (xs rfl ⟨trivial, trivial⟩ ?_)))))))
      refine xs rfl (lset (lset (lset (hl)))).symm (xs rfl (Int.natCast_nonneg _) (xrow rfl _ (gset (lset (lset (hl))) h) (xs rfl rfl (xs rfl (lset (lset (lset (hl)))).symm (xrow rfl _ (gset (lset (lset (hl))) h) (xs rfl (by show 3 + 1 ≤ 4; omega) (xs rfl ⟨trivial, trivial⟩ ?_)))))))
      refine xcont rfl (hJ _ (i + 1) (by omega) (by omega) ?_)
      refine ⟨⟨cwi (by omega) (by omega) (by omega), ?_, ⟨rfl, rfl, rfl⟩, trivial⟩, ⟨⟨?_, .inl rfl, .inl rfl⟩, trivial⟩, rfl⟩
      · rw [mdk_succ hg]; rfl
      · refine Eq.trans ?_ (md_set hg)
        try simp only [Int.toNat_natCast, setRow_eq hg0, ssr hlt, List.set_set]
        rfl
    · have h : ¬ i < rr.length := by simpa using h
      have : i = rr.length := by omega
      subst this
      exact xr rfl (xretG rfl ⟨⟨rfl, congrArg (Value.int .i64) mdk_all, trivial⟩, nodB_nodup rfl⟩ ⟨⟨rfl, rfl, md_all, mkR_len _ _ _, mkR_rows hw⟩, trivial⟩)
theorem markContractS_pg (z : Nat) (rr : List (List Cell)) (k : Int) (hw : WR 9000000000000000000 sh_Contract rr) : PG Try.prog 72 [.one (.giv true z rr), .one (.bor (i64 k))] (rI (mkR (mk sh_Contract) rr k).2) [(0, (mkR (mk sh_Contract) rr k).1)] := by
  refine PG.begin Try.func72 rfl (by kernel_rfl) ?_
  have hlen := hw.1
  refine xloop rfl (ι := Nat) (fun i => i ≤ rr.length) (fun i => ⟨[(5, sV (.int .i64 i)), (1, sV (.int .i64 (mdk (mk sh_Contract) rr k i))), (0, .one (.h 1000000000 rr.length))], [(1000000000, .arr true z 0 (md (mk sh_Contract) rr k i))]⟩) (fun i => rr.length - i) 0 (Nat.zero_le _) ?_ ?_
  · exact ⟨⟨rfl, congrArg (fun n => Cell.s (.int .i64 n)) mdk_zero.symm, ⟨rfl, rfl, rfl⟩, trivial⟩, ⟨⟨md_zero.symm, .inl rfl, .inl rfl⟩, trivial⟩, rfl⟩
  · intro i hi J hJ
    refine xb rfl (fun h => ?_) (fun h => ?_)
    · have h : i < rr.length := by simpa using h
      obtain ⟨row, hg⟩ : ∃ row, rr[i]? = some row := ⟨_, List.getElem?_eq_getElem h⟩
      obtain ⟨x0, x1, rfl, h1⟩ := inv_Contract (hw.2 row (List.mem_of_getElem? hg))
      have hl := md_len (f := (mk sh_Contract)) (k := k) hi
      have hg0 := md_get (f := (mk sh_Contract)) (k := k) hg
      have hlt : i < (md (mk sh_Contract) rr k i).length := by omega
      refine xs rfl (hl).symm (xs rfl (Int.natCast_nonneg _) (xrow rfl _ hg0 (xs rfl rfl (xs rfl (hl).symm (xrow rfl _ hg0 (xs rfl (by show 0 + 1 ≤ 2; omega) (xs rfl ⟨trivial, trivial⟩ ?_)))))))
      refine xs rfl (lset (hl)).symm (xs rfl (Int.natCast_nonneg _) (xrow rfl _ (gset (hl) h) (xs rfl rfl (xs rfl (lset (hl)).symm (xrow rfl _ (gset (hl) h) ?_)))))
      refine xgive rfl (markLegS_pg 0 _ _ h1) ⟨⟨rfl, rfl, rfl, _, (gset (hl) h), rfl⟩, rfl, trivial⟩ rfl ?_
      refine xcont rfl (hJ _ (i + 1) (by omega) (by omega) ?_)
      refine ⟨⟨cwi (by omega) (by omega) (by omega), ?_, ⟨rfl, rfl, rfl⟩, trivial⟩, ⟨⟨?_, .inl rfl, .inl rfl⟩, trivial⟩, rfl⟩
      · rw [mdk_succ hg]; rfl
      · refine Eq.trans ?_ (md_set hg)
        try simp only [Int.toNat_natCast, setRow_eq hg0, ssr hlt, List.set_set]
        rfl
    · have h : ¬ i < rr.length := by simpa using h
      have : i = rr.length := by omega
      subst this
      exact xr rfl (xretG rfl ⟨⟨rfl, congrArg (Value.int .i64) mdk_all, trivial⟩, nodB_nodup rfl⟩ ⟨⟨rfl, rfl, md_all, mkR_len _ _ _, mkR_rows hw⟩, trivial⟩)
theorem markBalanceS_pg (z : Nat) (rr : List (List Cell)) (k : Int) (hw : WR 9000000000000000000 sh_Balance rr) : PG Try.prog 52 [.one (.giv true z rr), .one (.bor (i64 k))] (rI (mkR (mk sh_Balance) rr k).2) [(0, (mkR (mk sh_Balance) rr k).1)] := by
  refine PG.begin Try.func52 rfl (by kernel_rfl) ?_
  have hlen := hw.1
  refine xloop rfl (ι := Nat) (fun i => i ≤ rr.length) (fun i => ⟨[(5, sV (.int .i64 i)), (1, sV (.int .i64 (mdk (mk sh_Balance) rr k i))), (0, .one (.h 1000000000 rr.length))], [(1000000000, .arr true z 0 (md (mk sh_Balance) rr k i))]⟩) (fun i => rr.length - i) 0 (Nat.zero_le _) ?_ ?_
  · exact ⟨⟨rfl, congrArg (fun n => Cell.s (.int .i64 n)) mdk_zero.symm, ⟨rfl, rfl, rfl⟩, trivial⟩, ⟨⟨md_zero.symm, .inl rfl, .inl rfl⟩, trivial⟩, rfl⟩
  · intro i hi J hJ
    refine xb rfl (fun h => ?_) (fun h => ?_)
    · have h : i < rr.length := by simpa using h
      obtain ⟨row, hg⟩ : ∃ row, rr[i]? = some row := ⟨_, List.getElem?_eq_getElem h⟩
      obtain ⟨x0, x1, x2, rfl⟩ := inv_Balance (hw.2 row (List.mem_of_getElem? hg))
      have hl := md_len (f := (mk sh_Balance)) (k := k) hi
      have hg0 := md_get (f := (mk sh_Balance)) (k := k) hg
      have hlt : i < (md (mk sh_Balance) rr k i).length := by omega
      refine xs rfl (hl).symm (xs rfl (Int.natCast_nonneg _) (xrow rfl _ hg0 (xs rfl rfl (xs rfl (hl).symm (xrow rfl _ hg0 (xs rfl (by show 0 + 1 ≤ 3; omega) (xs rfl ⟨trivial, trivial⟩ ?_)))))))
      refine xs rfl (lset (hl)).symm (xs rfl (Int.natCast_nonneg _) (xrow rfl _ (gset (hl) h) (xs rfl rfl (xs rfl (lset (hl)).symm (xrow rfl _ (gset (hl) h) (xs rfl (by show 1 + 1 ≤ 3; omega) (xs rfl ⟨trivial, trivial⟩ ?_)))))))
      refine xs rfl (lset (lset (hl))).symm (xs rfl (Int.natCast_nonneg _) (xrow rfl _ (gset (lset (hl)) h) (xs rfl rfl (xs rfl (lset (lset (hl))).symm (xrow rfl _ (gset (lset (hl)) h) (xs rfl (by show 2 + 1 ≤ 3; omega) (xs rfl ⟨trivial, trivial⟩ ?_)))))))
      refine xcont rfl (hJ _ (i + 1) (by omega) (by omega) ?_)
      refine ⟨⟨cwi (by omega) (by omega) (by omega), ?_, ⟨rfl, rfl, rfl⟩, trivial⟩, ⟨⟨?_, .inl rfl, .inl rfl⟩, trivial⟩, rfl⟩
      · rw [mdk_succ hg]; rfl
      · refine Eq.trans ?_ (md_set hg)
        try simp only [Int.toNat_natCast, setRow_eq hg0, ssr hlt, List.set_set]
        rfl
    · have h : ¬ i < rr.length := by simpa using h
      have : i = rr.length := by omega
      subst this
      exact xr rfl (xretG rfl ⟨⟨rfl, congrArg (Value.int .i64) mdk_all, trivial⟩, nodB_nodup rfl⟩ ⟨⟨rfl, rfl, md_all, mkR_len _ _ _, mkR_rows hw⟩, trivial⟩)
theorem markMarkS_pg (z : Nat) (rr : List (List Cell)) (k : Int) (hw : WR 9000000000000000000 sh_Mark rr) : PG Try.prog 111 [.one (.giv true z rr), .one (.bor (i64 k))] (rI (mkR (mk sh_Mark) rr k).2) [(0, (mkR (mk sh_Mark) rr k).1)] := by
  refine PG.begin Try.func111 rfl (by kernel_rfl) ?_
  have hlen := hw.1
  refine xloop rfl (ι := Nat) (fun i => i ≤ rr.length) (fun i => ⟨[(5, sV (.int .i64 i)), (1, sV (.int .i64 (mdk (mk sh_Mark) rr k i))), (0, .one (.h 1000000000 rr.length))], [(1000000000, .arr true z 0 (md (mk sh_Mark) rr k i))]⟩) (fun i => rr.length - i) 0 (Nat.zero_le _) ?_ ?_
  · exact ⟨⟨rfl, congrArg (fun n => Cell.s (.int .i64 n)) mdk_zero.symm, ⟨rfl, rfl, rfl⟩, trivial⟩, ⟨⟨md_zero.symm, .inl rfl, .inl rfl⟩, trivial⟩, rfl⟩
  · intro i hi J hJ
    refine xb rfl (fun h => ?_) (fun h => ?_)
    · have h : i < rr.length := by simpa using h
      obtain ⟨row, hg⟩ : ∃ row, rr[i]? = some row := ⟨_, List.getElem?_eq_getElem h⟩
      obtain ⟨x0, x1, rfl⟩ := inv_Mark (hw.2 row (List.mem_of_getElem? hg))
      have hl := md_len (f := (mk sh_Mark)) (k := k) hi
      have hg0 := md_get (f := (mk sh_Mark)) (k := k) hg
      have hlt : i < (md (mk sh_Mark) rr k i).length := by omega
      refine xs rfl (hl).symm (xs rfl (Int.natCast_nonneg _) (xrow rfl _ hg0 (xs rfl rfl (xs rfl (hl).symm (xrow rfl _ hg0 (xs rfl (by show 0 + 1 ≤ 2; omega) (xs rfl ⟨trivial, trivial⟩ ?_)))))))
      refine xs rfl (lset (hl)).symm (xs rfl (Int.natCast_nonneg _) (xrow rfl _ (gset (hl) h) (xs rfl rfl (xs rfl (lset (hl)).symm (xrow rfl _ (gset (hl) h) (xs rfl (by show 1 + 1 ≤ 2; omega) (xs rfl ⟨trivial, trivial⟩ ?_)))))))
      refine xcont rfl (hJ _ (i + 1) (by omega) (by omega) ?_)
      refine ⟨⟨cwi (by omega) (by omega) (by omega), ?_, ⟨rfl, rfl, rfl⟩, trivial⟩, ⟨⟨?_, .inl rfl, .inl rfl⟩, trivial⟩, rfl⟩
      · rw [mdk_succ hg]; rfl
      · refine Eq.trans ?_ (md_set hg)
        try simp only [Int.toNat_natCast, setRow_eq hg0, ssr hlt, List.set_set]
        rfl
    · have h : ¬ i < rr.length := by simpa using h
      have : i = rr.length := by omega
      subst this
      exact xr rfl (xretG rfl ⟨⟨rfl, congrArg (Value.int .i64) mdk_all, trivial⟩, nodB_nodup rfl⟩ ⟨⟨rfl, rfl, md_all, mkR_len _ _ _, mkR_rows hw⟩, trivial⟩)
theorem markInt64S_pg (z : Nat) (rr : List (List Cell)) (k : Int) (hw : WR 9000000000000000000 (.i .i64 .nil) rr) : PG Try.prog 36 [.one (.giv true z rr), .one (.bor (i64 k))] (rI (mkR (mk (.i .i64 .nil)) rr k).2) [(0, (mkR (mk (.i .i64 .nil)) rr k).1)] := by
  refine PG.begin Try.func36 rfl (by kernel_rfl) ?_
  have hlen := hw.1
  refine xloop rfl (ι := Nat) (fun i => i ≤ rr.length) (fun i => ⟨[(5, sV (.int .i64 i)), (1, sV (.int .i64 (mdk (mk (.i .i64 .nil)) rr k i))), (0, .one (.h 1000000000 rr.length))], [(1000000000, .arr true z 0 (md (mk (.i .i64 .nil)) rr k i))]⟩) (fun i => rr.length - i) 0 (Nat.zero_le _) ?_ ?_
  · exact ⟨⟨rfl, congrArg (fun n => Cell.s (.int .i64 n)) mdk_zero.symm, ⟨rfl, rfl, rfl⟩, trivial⟩, ⟨⟨md_zero.symm, .inl rfl, .inl rfl⟩, trivial⟩, rfl⟩
  · intro i hi J hJ
    refine xb rfl (fun h => ?_) (fun h => ?_)
    · have h : i < rr.length := by simpa using h
      obtain ⟨row, hg⟩ : ∃ row, rr[i]? = some row := ⟨_, List.getElem?_eq_getElem h⟩
      obtain ⟨x0, _, rfl, hnil⟩ := ((hw.2 row (List.mem_of_getElem? hg))).inv_i; obtain rfl := hnil.inv_nil
      have hl := md_len (f := (mk (.i .i64 .nil))) (k := k) hi
      have hg0 := md_get (f := (mk (.i .i64 .nil))) (k := k) hg
      have hlt : i < (md (mk (.i .i64 .nil)) rr k i).length := by omega
      refine xs rfl (hl).symm (xs rfl (Int.natCast_nonneg _) (xrow rfl _ hg0 (xs rfl rfl (xs rfl (hl).symm (xrow rfl _ hg0 (xs rfl (by show 0 + 1 ≤ 1; omega) (xs rfl ⟨trivial, trivial⟩ ?_)))))))
      refine xcont rfl (hJ _ (i + 1) (by omega) (by omega) ?_)
      refine ⟨⟨cwi (by omega) (by omega) (by omega), ?_, ⟨rfl, rfl, rfl⟩, trivial⟩, ⟨⟨?_, .inl rfl, .inl rfl⟩, trivial⟩, rfl⟩
      · rw [mdk_succ hg]; rfl
      · refine Eq.trans ?_ (md_set hg)
        try simp only [Int.toNat_natCast, setRow_eq hg0, ssr hlt, List.set_set]
        rfl
    · have h : ¬ i < rr.length := by simpa using h
      have : i = rr.length := by omega
      subst this
      exact xr rfl (xretG rfl ⟨⟨rfl, congrArg (Value.int .i64) mdk_all, trivial⟩, nodB_nodup rfl⟩ ⟨⟨rfl, rfl, md_all, mkR_len _ _ _, mkR_rows hw⟩, trivial⟩)
theorem markShardS_pg (z : Nat) (rr : List (List Cell)) (k : Int) (hw : WR 9000000000000000000 sh_Shard rr) : PG Try.prog 73 [.one (.giv true z rr), .one (.bor (i64 k))] (rI (mkR (mk sh_Shard) rr k).2) [(0, (mkR (mk sh_Shard) rr k).1)] := by
  refine PG.begin Try.func73 rfl (by kernel_rfl) ?_
  have hlen := hw.1
  refine xloop rfl (ι := Nat) (fun i => i ≤ rr.length) (fun i => ⟨[(5, sV (.int .i64 i)), (1, sV (.int .i64 (mdk (mk sh_Shard) rr k i))), (0, .one (.h 1000000000 rr.length))], [(1000000000, .arr true z 0 (md (mk sh_Shard) rr k i))]⟩) (fun i => rr.length - i) 0 (Nat.zero_le _) ?_ ?_
  · exact ⟨⟨rfl, congrArg (fun n => Cell.s (.int .i64 n)) mdk_zero.symm, ⟨rfl, rfl, rfl⟩, trivial⟩, ⟨⟨md_zero.symm, .inl rfl, .inl rfl⟩, trivial⟩, rfl⟩
  · intro i hi J hJ
    refine xb rfl (fun h => ?_) (fun h => ?_)
    · have h : i < rr.length := by simpa using h
      obtain ⟨row, hg⟩ : ∃ row, rr[i]? = some row := ⟨_, List.getElem?_eq_getElem h⟩
      obtain ⟨x0, x1, x2, x3, x4, x5, rfl, h1, h2, h3, h4, h5⟩ := inv_Shard (hw.2 row (List.mem_of_getElem? hg))
      have hl := md_len (f := (mk sh_Shard)) (k := k) hi
      have hg0 := md_get (f := (mk sh_Shard)) (k := k) hg
      have hlt : i < (md (mk sh_Shard) rr k i).length := by omega
      refine xs rfl (hl).symm (xs rfl (Int.natCast_nonneg _) (xrow rfl _ hg0 (xs rfl rfl (xs rfl (hl).symm (xrow rfl _ hg0 (xs rfl (by show 0 + 1 ≤ 6; omega) (xs rfl ⟨trivial, trivial⟩ ?_)))))))
      refine xs rfl (lset (hl)).symm (xs rfl (Int.natCast_nonneg _) (xrow rfl _ (gset (hl) h) (xs rfl rfl (xs rfl (lset (hl)).symm (xrow rfl _ (gset (hl) h) ?_)))))
      refine xgive rfl (markBalanceS_pg 0 _ _ h1) ⟨⟨rfl, rfl, rfl, _, (gset (hl) h), rfl⟩, rfl, trivial⟩ rfl ?_
      refine xs rfl (lsr (lset (hl))).symm (xs rfl (Int.natCast_nonneg _) (xrow rfl _ (setRow_get (gset (hl) h)) (xs rfl rfl (xs rfl (lsr (lset (hl))).symm (xrow rfl _ (setRow_get (gset (hl) h)) ?_)))))
      refine xgive rfl (markMarkS_pg 0 _ _ h2) ⟨⟨rfl, rfl, rfl, _, (setRow_get (gset (hl) h)), rfl⟩, rfl, trivial⟩ rfl ?_
      refine xs rfl (lsr (lsr (lset (hl)))).symm (xs rfl (Int.natCast_nonneg _) (xrow rfl _ (setRow_get (setRow_get (gset (hl) h))) (xs rfl rfl (xs rfl (lsr (lsr (lset (hl)))).symm (xrow rfl _ (setRow_get (setRow_get (gset (hl) h))) ?_)))))
      refine xgive rfl (markContractS_pg 0 _ _ h3) ⟨⟨rfl, rfl, rfl, _, (setRow_get (setRow_get (gset (hl) h))), rfl⟩, rfl, trivial⟩ rfl ?_
      refine xs rfl (lsr (lsr (lsr (lset (hl))))).symm (xs rfl (Int.natCast_nonneg _) (xrow rfl _ (setRow_get (setRow_get (setRow_get (gset (hl) h)))) (xs rfl rfl (xs rfl (lsr (lsr (lsr (lset (hl))))).symm (xrow rfl _ (setRow_get (setRow_get (setRow_get (gset (hl) h)))) ?_)))))
      refine xgive rfl (markMarkS_pg 0 _ _ h4) ⟨⟨rfl, rfl, rfl, _, (setRow_get (setRow_get (setRow_get (gset (hl) h)))), rfl⟩, rfl, trivial⟩ rfl ?_
      refine xs rfl (lsr (lsr (lsr (lsr (lset (hl)))))).symm (xs rfl (Int.natCast_nonneg _) (xrow rfl _ (setRow_get (setRow_get (setRow_get (setRow_get (gset (hl) h))))) (xs rfl rfl (xs rfl (lsr (lsr (lsr (lsr (lset (hl)))))).symm (xrow rfl _ (setRow_get (setRow_get (setRow_get (setRow_get (gset (hl) h))))) ?_)))))
      refine xgive rfl (markInt64S_pg 0 _ _ h5) ⟨⟨rfl, rfl, rfl, _, (setRow_get (setRow_get (setRow_get (setRow_get (gset (hl) h))))), rfl⟩, rfl, trivial⟩ rfl ?_
      refine xcont rfl (hJ _ (i + 1) (by omega) (by omega) ?_)
      refine ⟨⟨cwi (by omega) (by omega) (by omega), ?_, ⟨rfl, rfl, rfl⟩, trivial⟩, ⟨⟨?_, .inl rfl, .inl rfl⟩, trivial⟩, rfl⟩
      · rw [mdk_succ hg]; rfl
      · refine Eq.trans ?_ (md_set hg)
        try simp only [Int.toNat_natCast, setRow_eq hg0, ssr hlt, List.set_set]
        rfl
    · have h : ¬ i < rr.length := by simpa using h
      have : i = rr.length := by omega
      subst this
      exact xr rfl (xretG rfl ⟨⟨rfl, congrArg (Value.int .i64) mdk_all, trivial⟩, nodB_nodup rfl⟩ ⟨⟨rfl, rfl, md_all, mkR_len _ _ _, mkR_rows hw⟩, trivial⟩)
theorem markVoteS_pg (z : Nat) (rr : List (List Cell)) (k : Int) (hw : WR 9000000000000000000 sh_Vote rr) : PG Try.prog 139 [.one (.giv true z rr), .one (.bor (i64 k))] (rI (mkR (mk sh_Vote) rr k).2) [(0, (mkR (mk sh_Vote) rr k).1)] := by
  refine PG.begin Try.func139 rfl (by kernel_rfl) ?_
  have hlen := hw.1
  refine xloop rfl (ι := Nat) (fun i => i ≤ rr.length) (fun i => ⟨[(5, sV (.int .i64 i)), (1, sV (.int .i64 (mdk (mk sh_Vote) rr k i))), (0, .one (.h 1000000000 rr.length))], [(1000000000, .arr true z 0 (md (mk sh_Vote) rr k i))]⟩) (fun i => rr.length - i) 0 (Nat.zero_le _) ?_ ?_
  · exact ⟨⟨rfl, congrArg (fun n => Cell.s (.int .i64 n)) mdk_zero.symm, ⟨rfl, rfl, rfl⟩, trivial⟩, ⟨⟨md_zero.symm, .inl rfl, .inl rfl⟩, trivial⟩, rfl⟩
  · intro i hi J hJ
    refine xb rfl (fun h => ?_) (fun h => ?_)
    · have h : i < rr.length := by simpa using h
      obtain ⟨row, hg⟩ : ∃ row, rr[i]? = some row := ⟨_, List.getElem?_eq_getElem h⟩
      obtain ⟨x0, x1, rfl⟩ := inv_Vote (hw.2 row (List.mem_of_getElem? hg))
      have hl := md_len (f := (mk sh_Vote)) (k := k) hi
      have hg0 := md_get (f := (mk sh_Vote)) (k := k) hg
      have hlt : i < (md (mk sh_Vote) rr k i).length := by omega
      refine xs rfl (hl).symm (xs rfl (Int.natCast_nonneg _) (xrow rfl _ hg0 (xs rfl rfl (xs rfl (hl).symm (xrow rfl _ hg0 (xs rfl (by show 0 + 1 ≤ 2; omega) (xs rfl ⟨trivial, trivial⟩ ?_)))))))
      refine xs rfl (lset (hl)).symm (xs rfl (Int.natCast_nonneg _) (xrow rfl _ (gset (hl) h) (xs rfl rfl (xs rfl (lset (hl)).symm (xrow rfl _ (gset (hl) h) (xs rfl (by show 1 + 1 ≤ 2; omega) (xs rfl ⟨trivial, trivial⟩ ?_)))))))
      refine xcont rfl (hJ _ (i + 1) (by omega) (by omega) ?_)
      refine ⟨⟨cwi (by omega) (by omega) (by omega), ?_, ⟨rfl, rfl, rfl⟩, trivial⟩, ⟨⟨?_, .inl rfl, .inl rfl⟩, trivial⟩, rfl⟩
      · rw [mdk_succ hg]; rfl
      · refine Eq.trans ?_ (md_set hg)
        try simp only [Int.toNat_natCast, setRow_eq hg0, ssr hlt, List.set_set]
        rfl
    · have h : ¬ i < rr.length := by simpa using h
      have : i = rr.length := by omega
      subst this
      exact xr rfl (xretG rfl ⟨⟨rfl, congrArg (Value.int .i64) mdk_all, trivial⟩, nodB_nodup rfl⟩ ⟨⟨rfl, rfl, md_all, mkR_len _ _ _, mkR_rows hw⟩, trivial⟩)
theorem markSlotS_pg (z : Nat) (rr : List (List Cell)) (k : Int) (hw : WR 9000000000000000000 sh_Slot rr) : PG Try.prog 112 [.one (.giv true z rr), .one (.bor (i64 k))] (rI (mkR (mk sh_Slot) rr k).2) [(0, (mkR (mk sh_Slot) rr k).1)] := by
  refine PG.begin Try.func112 rfl (by kernel_rfl) ?_
  have hlen := hw.1
  refine xloop rfl (ι := Nat) (fun i => i ≤ rr.length) (fun i => ⟨[(5, sV (.int .i64 i)), (1, sV (.int .i64 (mdk (mk sh_Slot) rr k i))), (0, .one (.h 1000000000 rr.length))], [(1000000000, .arr true z 0 (md (mk sh_Slot) rr k i))]⟩) (fun i => rr.length - i) 0 (Nat.zero_le _) ?_ ?_
  · exact ⟨⟨rfl, congrArg (fun n => Cell.s (.int .i64 n)) mdk_zero.symm, ⟨rfl, rfl, rfl⟩, trivial⟩, ⟨⟨md_zero.symm, .inl rfl, .inl rfl⟩, trivial⟩, rfl⟩
  · intro i hi J hJ
    refine xb rfl (fun h => ?_) (fun h => ?_)
    · have h : i < rr.length := by simpa using h
      obtain ⟨row, hg⟩ : ∃ row, rr[i]? = some row := ⟨_, List.getElem?_eq_getElem h⟩
      obtain ⟨x0, x1, x2, x3, x4, x5, rfl, h5⟩ := inv_Slot (hw.2 row (List.mem_of_getElem? hg))
      have hl := md_len (f := (mk sh_Slot)) (k := k) hi
      have hg0 := md_get (f := (mk sh_Slot)) (k := k) hg
      have hlt : i < (md (mk sh_Slot) rr k i).length := by omega
      refine xs rfl (hl).symm (xs rfl (Int.natCast_nonneg _) (xrow rfl _ hg0 (xs rfl rfl (xs rfl (hl).symm (xrow rfl _ hg0 (xs rfl (by show 0 + 1 ≤ 6; omega) (xs rfl ⟨trivial, trivial⟩ ?_)))))))
      refine xs rfl (lset (hl)).symm (xs rfl (Int.natCast_nonneg _) (xrow rfl _ (gset (hl) h) (xs rfl rfl (xs rfl (lset (hl)).symm (xrow rfl _ (gset (hl) h) (xs rfl (by show 1 + 1 ≤ 6; omega) (xs rfl ⟨trivial, trivial⟩ ?_)))))))
      refine xs rfl (lset (lset (hl))).symm (xs rfl (Int.natCast_nonneg _) (xrow rfl _ (gset (lset (hl)) h) (xs rfl rfl (xs rfl (lset (lset (hl))).symm (xrow rfl _ (gset (lset (hl)) h) (xs rfl (by show 2 + 1 ≤ 6; omega) (xs rfl ⟨trivial, trivial⟩ ?_)))))))
      refine xs rfl (lset (lset (lset (hl)))).symm (xs rfl (Int.natCast_nonneg _) (xrow rfl _ (gset (lset (lset (hl))) h) (xs rfl rfl (xs rfl (lset (lset (lset (hl)))).symm (xrow rfl _ (gset (lset (lset (hl))) h) (xs rfl (by show 3 + 1 ≤ 6; omega) (xs rfl ⟨trivial, trivial⟩ ?_)))))))
      refine xs rfl (lset (lset (lset (lset (hl))))).symm (xs rfl (Int.natCast_nonneg _) (xrow rfl _ (gset (lset (lset (lset (hl)))) h) (xs rfl rfl (xs rfl (lset (lset (lset (lset (hl))))).symm (xrow rfl _ (gset (lset (lset (lset (hl)))) h) (xs rfl (by show 4 + 1 ≤ 6; omega) (xs rfl ⟨trivial, trivial⟩ ?_)))))))
      refine xs rfl (lset (lset (lset (lset (lset (hl)))))).symm (xs rfl (Int.natCast_nonneg _) (xrow rfl _ (gset (lset (lset (lset (lset (hl))))) h) (xs rfl rfl (xs rfl (lset (lset (lset (lset (lset (hl)))))).symm (xrow rfl _ (gset (lset (lset (lset (lset (hl))))) h) ?_)))))
      refine xgive rfl (markVoteS_pg 0 _ _ h5) ⟨⟨rfl, rfl, rfl, _, (gset (lset (lset (lset (lset (hl))))) h), rfl⟩, rfl, trivial⟩ rfl ?_
      refine xcont rfl (hJ _ (i + 1) (by omega) (by omega) ?_)
      refine ⟨⟨cwi (by omega) (by omega) (by omega), ?_, ⟨rfl, rfl, rfl⟩, trivial⟩, ⟨⟨?_, .inl rfl, .inl rfl⟩, trivial⟩, rfl⟩
      · rw [mdk_succ hg]; rfl
      · refine Eq.trans ?_ (md_set hg)
        try simp only [Int.toNat_natCast, setRow_eq hg0, ssr hlt, List.set_set]
        rfl
    · have h : ¬ i < rr.length := by simpa using h
      have : i = rr.length := by omega
      subst this
      exact xr rfl (xretG rfl ⟨⟨rfl, congrArg (Value.int .i64) mdk_all, trivial⟩, nodB_nodup rfl⟩ ⟨⟨rfl, rfl, md_all, mkR_len _ _ _, mkR_rows hw⟩, trivial⟩)
theorem markAcceptorS_pg (z : Nat) (rr : List (List Cell)) (k : Int) (hw : WR 9000000000000000000 sh_Acceptor rr) : PG Try.prog 74 [.one (.giv true z rr), .one (.bor (i64 k))] (rI (mkR (mk sh_Acceptor) rr k).2) [(0, (mkR (mk sh_Acceptor) rr k).1)] := by
  refine PG.begin Try.func74 rfl (by kernel_rfl) ?_
  have hlen := hw.1
  refine xloop rfl (ι := Nat) (fun i => i ≤ rr.length) (fun i => ⟨[(5, sV (.int .i64 i)), (1, sV (.int .i64 (mdk (mk sh_Acceptor) rr k i))), (0, .one (.h 1000000000 rr.length))], [(1000000000, .arr true z 0 (md (mk sh_Acceptor) rr k i))]⟩) (fun i => rr.length - i) 0 (Nat.zero_le _) ?_ ?_
  · exact ⟨⟨rfl, congrArg (fun n => Cell.s (.int .i64 n)) mdk_zero.symm, ⟨rfl, rfl, rfl⟩, trivial⟩, ⟨⟨md_zero.symm, .inl rfl, .inl rfl⟩, trivial⟩, rfl⟩
  · intro i hi J hJ
    refine xb rfl (fun h => ?_) (fun h => ?_)
    · have h : i < rr.length := by simpa using h
      obtain ⟨row, hg⟩ : ∃ row, rr[i]? = some row := ⟨_, List.getElem?_eq_getElem h⟩
      obtain ⟨x0, rfl, h0⟩ := inv_Acceptor (hw.2 row (List.mem_of_getElem? hg))
      have hl := md_len (f := (mk sh_Acceptor)) (k := k) hi
      have hg0 := md_get (f := (mk sh_Acceptor)) (k := k) hg
      have hlt : i < (md (mk sh_Acceptor) rr k i).length := by omega
      refine xs rfl (hl).symm (xs rfl (Int.natCast_nonneg _) (xrow rfl _ hg0 (xs rfl rfl (xs rfl (hl).symm (xrow rfl _ hg0 ?_)))))
      refine xgive rfl (markSlotS_pg 0 _ _ h0) ⟨⟨rfl, rfl, rfl, _, hg0, rfl⟩, rfl, trivial⟩ rfl ?_
      refine xcont rfl (hJ _ (i + 1) (by omega) (by omega) ?_)
      refine ⟨⟨cwi (by omega) (by omega) (by omega), ?_, ⟨rfl, rfl, rfl⟩, trivial⟩, ⟨⟨?_, .inl rfl, .inl rfl⟩, trivial⟩, rfl⟩
      · rw [mdk_succ hg]; rfl
      · refine Eq.trans ?_ (md_set hg)
        try simp only [Int.toNat_natCast, setRow_eq hg0, ssr hlt, List.set_set]
        rfl
    · have h : ¬ i < rr.length := by simpa using h
      have : i = rr.length := by omega
      subst this
      exact xr rfl (xretG rfl ⟨⟨rfl, congrArg (Value.int .i64) mdk_all, trivial⟩, nodB_nodup rfl⟩ ⟨⟨rfl, rfl, md_all, mkR_len _ _ _, mkR_rows hw⟩, trivial⟩)
theorem markTryS_pg (z : Nat) (rr : List (List Cell)) (k : Int) (hw : WR 9000000000000000000 sh_Try rr) : PG Try.prog 113 [.one (.giv true z rr), .one (.bor (i64 k))] (rI (mkR (mk sh_Try) rr k).2) [(0, (mkR (mk sh_Try) rr k).1)] := by
  refine PG.begin Try.func113 rfl (by kernel_rfl) ?_
  have hlen := hw.1
  refine xloop rfl (ι := Nat) (fun i => i ≤ rr.length) (fun i => ⟨[(5, sV (.int .i64 i)), (1, sV (.int .i64 (mdk (mk sh_Try) rr k i))), (0, .one (.h 1000000000 rr.length))], [(1000000000, .arr true z 0 (md (mk sh_Try) rr k i))]⟩) (fun i => rr.length - i) 0 (Nat.zero_le _) ?_ ?_
  · exact ⟨⟨rfl, congrArg (fun n => Cell.s (.int .i64 n)) mdk_zero.symm, ⟨rfl, rfl, rfl⟩, trivial⟩, ⟨⟨md_zero.symm, .inl rfl, .inl rfl⟩, trivial⟩, rfl⟩
  · intro i hi J hJ
    refine xb rfl (fun h => ?_) (fun h => ?_)
    · have h : i < rr.length := by simpa using h
      obtain ⟨row, hg⟩ : ∃ row, rr[i]? = some row := ⟨_, List.getElem?_eq_getElem h⟩
      obtain ⟨x0, x1, x2, x3, x4, x5, rfl, h4, h5⟩ := inv_Try (hw.2 row (List.mem_of_getElem? hg))
      have hl := md_len (f := (mk sh_Try)) (k := k) hi
      have hg0 := md_get (f := (mk sh_Try)) (k := k) hg
      have hlt : i < (md (mk sh_Try) rr k i).length := by omega
      refine xs rfl (hl).symm (xs rfl (Int.natCast_nonneg _) (xrow rfl _ hg0 (xs rfl rfl (xs rfl (hl).symm (xrow rfl _ hg0 (xs rfl (by show 0 + 1 ≤ 6; omega) (xs rfl ⟨trivial, trivial⟩ ?_)))))))
      refine xs rfl (lset (hl)).symm (xs rfl (Int.natCast_nonneg _) (xrow rfl _ (gset (hl) h) (xs rfl rfl (xs rfl (lset (hl)).symm (xrow rfl _ (gset (hl) h) (xs rfl (by show 1 + 1 ≤ 6; omega) (xs rfl ⟨trivial, trivial⟩ ?_)))))))
      refine xs rfl (lset (lset (hl))).symm (xs rfl (Int.natCast_nonneg _) (xrow rfl _ (gset (lset (hl)) h) (xs rfl rfl (xs rfl (lset (lset (hl))).symm (xrow rfl _ (gset (lset (hl)) h) (xs rfl (by show 2 + 1 ≤ 6; omega) (xs rfl ⟨trivial, trivial⟩ ?_)))))))
      refine xs rfl (lset (lset (lset (hl)))).symm (xs rfl (Int.natCast_nonneg _) (xrow rfl _ (gset (lset (lset (hl))) h) (xs rfl rfl (xs rfl (lset (lset (lset (hl)))).symm (xrow rfl _ (gset (lset (lset (hl))) h) (xs rfl (by show 3 + 1 ≤ 6; omega) (xs rfl ⟨trivial, trivial⟩ ?_)))))))
      refine xs rfl (lset (lset (lset (lset (hl))))).symm (xs rfl (Int.natCast_nonneg _) (xrow rfl _ (gset (lset (lset (lset (hl)))) h) (xs rfl rfl (xs rfl (lset (lset (lset (lset (hl))))).symm (xrow rfl _ (gset (lset (lset (lset (hl)))) h) ?_)))))
      refine xgive rfl (markInt64S_pg 0 _ _ h4) ⟨⟨rfl, rfl, rfl, _, (gset (lset (lset (lset (hl)))) h), rfl⟩, rfl, trivial⟩ rfl ?_
      refine xs rfl (lsr (lset (lset (lset (lset (hl)))))).symm (xs rfl (Int.natCast_nonneg _) (xrow rfl _ (setRow_get (gset (lset (lset (lset (hl)))) h)) (xs rfl rfl (xs rfl (lsr (lset (lset (lset (lset (hl)))))).symm (xrow rfl _ (setRow_get (gset (lset (lset (lset (hl)))) h)) ?_)))))
      refine xgive rfl (markVoteS_pg 0 _ _ h5) ⟨⟨rfl, rfl, rfl, _, (setRow_get (gset (lset (lset (lset (hl)))) h)), rfl⟩, rfl, trivial⟩ rfl ?_
      refine xcont rfl (hJ _ (i + 1) (by omega) (by omega) ?_)
      refine ⟨⟨cwi (by omega) (by omega) (by omega), ?_, ⟨rfl, rfl, rfl⟩, trivial⟩, ⟨⟨?_, .inl rfl, .inl rfl⟩, trivial⟩, rfl⟩
      · rw [mdk_succ hg]; rfl
      · refine Eq.trans ?_ (md_set hg)
        try simp only [Int.toNat_natCast, setRow_eq hg0, ssr hlt, List.set_set]
        rfl
    · have h : ¬ i < rr.length := by simpa using h
      have : i = rr.length := by omega
      subst this
      exact xr rfl (xretG rfl ⟨⟨rfl, congrArg (Value.int .i64) mdk_all, trivial⟩, nodB_nodup rfl⟩ ⟨⟨rfl, rfl, md_all, mkR_len _ _ _, mkR_rows hw⟩, trivial⟩)
theorem markHeardS_pg (z : Nat) (rr : List (List Cell)) (k : Int) (hw : WR 9000000000000000000 sh_Heard rr) : PG Try.prog 114 [.one (.giv true z rr), .one (.bor (i64 k))] (rI (mkR (mk sh_Heard) rr k).2) [(0, (mkR (mk sh_Heard) rr k).1)] := by
  refine PG.begin Try.func114 rfl (by kernel_rfl) ?_
  have hlen := hw.1
  refine xloop rfl (ι := Nat) (fun i => i ≤ rr.length) (fun i => ⟨[(5, sV (.int .i64 i)), (1, sV (.int .i64 (mdk (mk sh_Heard) rr k i))), (0, .one (.h 1000000000 rr.length))], [(1000000000, .arr true z 0 (md (mk sh_Heard) rr k i))]⟩) (fun i => rr.length - i) 0 (Nat.zero_le _) ?_ ?_
  · exact ⟨⟨rfl, congrArg (fun n => Cell.s (.int .i64 n)) mdk_zero.symm, ⟨rfl, rfl, rfl⟩, trivial⟩, ⟨⟨md_zero.symm, .inl rfl, .inl rfl⟩, trivial⟩, rfl⟩
  · intro i hi J hJ
    refine xb rfl (fun h => ?_) (fun h => ?_)
    · have h : i < rr.length := by simpa using h
      obtain ⟨row, hg⟩ : ∃ row, rr[i]? = some row := ⟨_, List.getElem?_eq_getElem h⟩
      obtain ⟨x0, x1, x2, x3, x4, rfl⟩ := inv_Heard (hw.2 row (List.mem_of_getElem? hg))
      have hl := md_len (f := (mk sh_Heard)) (k := k) hi
      have hg0 := md_get (f := (mk sh_Heard)) (k := k) hg
      have hlt : i < (md (mk sh_Heard) rr k i).length := by omega
      refine xs rfl (hl).symm (xs rfl (Int.natCast_nonneg _) (xrow rfl _ hg0 (xs rfl rfl (xs rfl (hl).symm (xrow rfl _ hg0 (xs rfl (by show 0 + 1 ≤ 5; omega) (xs rfl ⟨trivial, trivial⟩ ?_)))))))
      refine xs rfl (lset (hl)).symm (xs rfl (Int.natCast_nonneg _) (xrow rfl _ (gset (hl) h) (xs rfl rfl (xs rfl (lset (hl)).symm (xrow rfl _ (gset (hl) h) (xs rfl (by show 1 + 1 ≤ 5; omega) (xs rfl ⟨trivial, trivial⟩ ?_)))))))
      refine xs rfl (lset (lset (hl))).symm (xs rfl (Int.natCast_nonneg _) (xrow rfl _ (gset (lset (hl)) h) (xs rfl rfl (xs rfl (lset (lset (hl))).symm (xrow rfl _ (gset (lset (hl)) h) (xs rfl (by show 2 + 1 ≤ 5; omega) (xs rfl ⟨trivial, trivial⟩ ?_)))))))
      refine xs rfl (lset (lset (lset (hl)))).symm (xs rfl (Int.natCast_nonneg _) (xrow rfl _ (gset (lset (lset (hl))) h) (xs rfl rfl (xs rfl (lset (lset (lset (hl)))).symm (xrow rfl _ (gset (lset (lset (hl))) h) (xs rfl (by show 3 + 1 ≤ 5; omega) (xs rfl ⟨trivial, trivial⟩ ?_)))))))
      refine xs rfl (lset (lset (lset (lset (hl))))).symm (xs rfl (Int.natCast_nonneg _) (xrow rfl _ (gset (lset (lset (lset (hl)))) h) (xs rfl rfl (xs rfl (lset (lset (lset (lset (hl))))).symm (xrow rfl _ (gset (lset (lset (lset (hl)))) h) (xs rfl (by show 4 + 1 ≤ 5; omega) (xs rfl ⟨trivial, trivial⟩ ?_)))))))
      refine xcont rfl (hJ _ (i + 1) (by omega) (by omega) ?_)
      refine ⟨⟨cwi (by omega) (by omega) (by omega), ?_, ⟨rfl, rfl, rfl⟩, trivial⟩, ⟨⟨?_, .inl rfl, .inl rfl⟩, trivial⟩, rfl⟩
      · rw [mdk_succ hg]; rfl
      · refine Eq.trans ?_ (md_set hg)
        try simp only [Int.toNat_natCast, setRow_eq hg0, ssr hlt, List.set_set]
        rfl
    · have h : ¬ i < rr.length := by simpa using h
      have : i = rr.length := by omega
      subst this
      exact xr rfl (xretG rfl ⟨⟨rfl, congrArg (Value.int .i64) mdk_all, trivial⟩, nodB_nodup rfl⟩ ⟨⟨rfl, rfl, md_all, mkR_len _ _ _, mkR_rows hw⟩, trivial⟩)
theorem markLeaderS_pg (z : Nat) (rr : List (List Cell)) (k : Int) (hw : WR 9000000000000000000 sh_Leader rr) : PG Try.prog 75 [.one (.giv true z rr), .one (.bor (i64 k))] (rI (mkR (mk sh_Leader) rr k).2) [(0, (mkR (mk sh_Leader) rr k).1)] := by
  refine PG.begin Try.func75 rfl (by kernel_rfl) ?_
  have hlen := hw.1
  refine xloop rfl (ι := Nat) (fun i => i ≤ rr.length) (fun i => ⟨[(5, sV (.int .i64 i)), (1, sV (.int .i64 (mdk (mk sh_Leader) rr k i))), (0, .one (.h 1000000000 rr.length))], [(1000000000, .arr true z 0 (md (mk sh_Leader) rr k i))]⟩) (fun i => rr.length - i) 0 (Nat.zero_le _) ?_ ?_
  · exact ⟨⟨rfl, congrArg (fun n => Cell.s (.int .i64 n)) mdk_zero.symm, ⟨rfl, rfl, rfl⟩, trivial⟩, ⟨⟨md_zero.symm, .inl rfl, .inl rfl⟩, trivial⟩, rfl⟩
  · intro i hi J hJ
    refine xb rfl (fun h => ?_) (fun h => ?_)
    · have h : i < rr.length := by simpa using h
      obtain ⟨row, hg⟩ : ∃ row, rr[i]? = some row := ⟨_, List.getElem?_eq_getElem h⟩
      obtain ⟨x0, x1, x2, rfl, h1, h2⟩ := inv_Leader (hw.2 row (List.mem_of_getElem? hg))
      have hl := md_len (f := (mk sh_Leader)) (k := k) hi
      have hg0 := md_get (f := (mk sh_Leader)) (k := k) hg
      have hlt : i < (md (mk sh_Leader) rr k i).length := by omega
      refine xs rfl (hl).symm (xs rfl (Int.natCast_nonneg _) (xrow rfl _ hg0 (xs rfl rfl (xs rfl (hl).symm (xrow rfl _ hg0 (xs rfl (by show 0 + 1 ≤ 3; omega) (xs rfl ⟨trivial, trivial⟩ ?_)))))))
      refine xs rfl (lset (hl)).symm (xs rfl (Int.natCast_nonneg _) (xrow rfl _ (gset (hl) h) (xs rfl rfl (xs rfl (lset (hl)).symm (xrow rfl _ (gset (hl) h) ?_)))))
      refine xgive rfl (markTryS_pg 0 _ _ h1) ⟨⟨rfl, rfl, rfl, _, (gset (hl) h), rfl⟩, rfl, trivial⟩ rfl ?_
      refine xs rfl (lsr (lset (hl))).symm (xs rfl (Int.natCast_nonneg _) (xrow rfl _ (setRow_get (gset (hl) h)) (xs rfl rfl (xs rfl (lsr (lset (hl))).symm (xrow rfl _ (setRow_get (gset (hl) h)) ?_)))))
      refine xgive rfl (markHeardS_pg 0 _ _ h2) ⟨⟨rfl, rfl, rfl, _, (setRow_get (gset (hl) h)), rfl⟩, rfl, trivial⟩ rfl ?_
      refine xcont rfl (hJ _ (i + 1) (by omega) (by omega) ?_)
      refine ⟨⟨cwi (by omega) (by omega) (by omega), ?_, ⟨rfl, rfl, rfl⟩, trivial⟩, ⟨⟨?_, .inl rfl, .inl rfl⟩, trivial⟩, rfl⟩
      · rw [mdk_succ hg]; rfl
      · refine Eq.trans ?_ (md_set hg)
        try simp only [Int.toNat_natCast, setRow_eq hg0, ssr hlt, List.set_set]
        rfl
    · have h : ¬ i < rr.length := by simpa using h
      have : i = rr.length := by omega
      subst this
      exact xr rfl (xretG rfl ⟨⟨rfl, congrArg (Value.int .i64) mdk_all, trivial⟩, nodB_nodup rfl⟩ ⟨⟨rfl, rfl, md_all, mkR_len _ _ _, mkR_rows hw⟩, trivial⟩)
theorem markMessageS_pg (z : Nat) (rr : List (List Cell)) (k : Int) (hw : WR 9000000000000000000 sh_Message rr) : PG Try.prog 76 [.one (.giv true z rr), .one (.bor (i64 k))] (rI (mkR (mk sh_Message) rr k).2) [(0, (mkR (mk sh_Message) rr k).1)] := by
  refine PG.begin Try.func76 rfl (by kernel_rfl) ?_
  have hlen := hw.1
  refine xloop rfl (ι := Nat) (fun i => i ≤ rr.length) (fun i => ⟨[(5, sV (.int .i64 i)), (1, sV (.int .i64 (mdk (mk sh_Message) rr k i))), (0, .one (.h 1000000000 rr.length))], [(1000000000, .arr true z 0 (md (mk sh_Message) rr k i))]⟩) (fun i => rr.length - i) 0 (Nat.zero_le _) ?_ ?_
  · exact ⟨⟨rfl, congrArg (fun n => Cell.s (.int .i64 n)) mdk_zero.symm, ⟨rfl, rfl, rfl⟩, trivial⟩, ⟨⟨md_zero.symm, .inl rfl, .inl rfl⟩, trivial⟩, rfl⟩
  · intro i hi J hJ
    refine xb rfl (fun h => ?_) (fun h => ?_)
    · have h : i < rr.length := by simpa using h
      obtain ⟨row, hg⟩ : ∃ row, rr[i]? = some row := ⟨_, List.getElem?_eq_getElem h⟩
      obtain ⟨x0, x1, x2, x3, x4, x5, x6, x7, x8, rfl⟩ := inv_Message (hw.2 row (List.mem_of_getElem? hg))
      have hl := md_len (f := (mk sh_Message)) (k := k) hi
      have hg0 := md_get (f := (mk sh_Message)) (k := k) hg
      have hlt : i < (md (mk sh_Message) rr k i).length := by omega
      refine xs rfl (hl).symm (xs rfl (Int.natCast_nonneg _) (xrow rfl _ hg0 (xs rfl rfl (xs rfl (hl).symm (xrow rfl _ hg0 (xs rfl (by show 0 + 1 ≤ 9; omega) (xs rfl ⟨trivial, trivial⟩ ?_)))))))
      refine xs rfl (lset (hl)).symm (xs rfl (Int.natCast_nonneg _) (xrow rfl _ (gset (hl) h) (xs rfl rfl (xs rfl (lset (hl)).symm (xrow rfl _ (gset (hl) h) (xs rfl (by show 1 + 1 ≤ 9; omega) (xs rfl ⟨trivial, trivial⟩ ?_)))))))
      refine xs rfl (lset (lset (hl))).symm (xs rfl (Int.natCast_nonneg _) (xrow rfl _ (gset (lset (hl)) h) (xs rfl rfl (xs rfl (lset (lset (hl))).symm (xrow rfl _ (gset (lset (hl)) h) (xs rfl (by show 2 + 1 ≤ 9; omega) (xs rfl ⟨trivial, trivial⟩ ?_)))))))
      refine xs rfl (lset (lset (lset (hl)))).symm (xs rfl (Int.natCast_nonneg _) (xrow rfl _ (gset (lset (lset (hl))) h) (xs rfl rfl (xs rfl (lset (lset (lset (hl)))).symm (xrow rfl _ (gset (lset (lset (hl))) h) (xs rfl (by show 3 + 1 ≤ 9; omega) (xs rfl ⟨trivial, trivial⟩ ?_)))))))
      refine xs rfl (lset (lset (lset (lset (hl))))).symm (xs rfl (Int.natCast_nonneg _) (xrow rfl _ (gset (lset (lset (lset (hl)))) h) (xs rfl rfl (xs rfl (lset (lset (lset (lset (hl))))).symm (xrow rfl _ (gset (lset (lset (lset (hl)))) h) (xs rfl (by show 4 + 1 ≤ 9; omega) (xs rfl ⟨trivial, trivial⟩ ?_)))))))
      refine xs rfl (lset (lset (lset (lset (lset (hl)))))).symm (xs rfl (Int.natCast_nonneg _) (xrow rfl _ (gset (lset (lset (lset (lset (hl))))) h) (xs rfl rfl (xs rfl (lset (lset (lset (lset (lset (hl)))))).symm (xrow rfl _ (gset (lset (lset (lset (lset (hl))))) h) (xs rfl (by show 5 + 1 ≤ 9; omega) (xs rfl ⟨trivial, trivial⟩ ?_)))))))
      refine xs rfl (lset (lset (lset (lset (lset (lset (hl))))))).symm (xs rfl (Int.natCast_nonneg _) (xrow rfl _ (gset (lset (lset (lset (lset (lset (hl)))))) h) (xs rfl rfl (xs rfl (lset (lset (lset (lset (lset (lset (hl))))))).symm (xrow rfl _ (gset (lset (lset (lset (lset (lset (hl)))))) h) (xs rfl (by show 6 + 1 ≤ 9; omega) (xs rfl ⟨trivial, trivial⟩ ?_)))))))
      refine xs rfl (lset (lset (lset (lset (lset (lset (lset (hl)))))))).symm (xs rfl (Int.natCast_nonneg _) (xrow rfl _ (gset (lset (lset (lset (lset (lset (lset (hl))))))) h) (xs rfl rfl (xs rfl (lset (lset (lset (lset (lset (lset (lset (hl)))))))).symm (xrow rfl _ (gset (lset (lset (lset (lset (lset (lset (hl))))))) h) (xs rfl (by show 7 + 1 ≤ 9; omega) (xs rfl ⟨trivial, trivial⟩ ?_)))))))
      refine xs rfl (lset (lset (lset (lset (lset (lset (lset (lset (hl))))))))).symm (xs rfl (Int.natCast_nonneg _) (xrow rfl _ (gset (lset (lset (lset (lset (lset (lset (lset (hl)))))))) h) (xs rfl rfl (xs rfl (lset (lset (lset (lset (lset (lset (lset (lset (hl))))))))).symm (xrow rfl _ (gset (lset (lset (lset (lset (lset (lset (lset (hl)))))))) h) (xs rfl (by show 8 + 1 ≤ 9; omega) (xs rfl ⟨trivial, trivial⟩ ?_)))))))
      refine xcont rfl (hJ _ (i + 1) (by omega) (by omega) ?_)
      refine ⟨⟨cwi (by omega) (by omega) (by omega), ?_, ⟨rfl, rfl, rfl⟩, trivial⟩, ⟨⟨?_, .inl rfl, .inl rfl⟩, trivial⟩, rfl⟩
      · rw [mdk_succ hg]; rfl
      · refine Eq.trans ?_ (md_set hg)
        try simp only [Int.toNat_natCast, setRow_eq hg0, ssr hlt, List.set_set]
        rfl
    · have h : ¬ i < rr.length := by simpa using h
      have : i = rr.length := by omega
      subst this
      exact xr rfl (xretG rfl ⟨⟨rfl, congrArg (Value.int .i64) mdk_all, trivial⟩, nodB_nodup rfl⟩ ⟨⟨rfl, rfl, md_all, mkR_len _ _ _, mkR_rows hw⟩, trivial⟩)
theorem markCluster_pg (z0 z1 z2 z3 z4 : Nat) (x0 : List (List Cell)) (x1 : List (List Cell)) (x2 : List (List Cell)) (x3 : List (List Cell)) (x4 : List (List Cell)) (k : Int) (k0 : Int) (k1 : Int) (k2 : Int) (k3 : Int) (k4 : Int) (h0 : WR 9000000000000000000 sh_Contract x0) (h1 : WR 9000000000000000000 sh_Shard x1) (h2 : WR 9000000000000000000 sh_Acceptor x2) (h3 : WR 9000000000000000000 sh_Leader x3) (h4 : WR 9000000000000000000 sh_Message x4) (e0 : (mkR (mk sh_Contract) x0 k).2 = k0) (e1 : (mkR (mk sh_Shard) x1 k0).2 = k1) (e2 : (mkR (mk sh_Acceptor) x2 k1).2 = k2) (e3 : (mkR (mk sh_Leader) x3 k2).2 = k3) (e4 : (mkR (mk sh_Message) x4 k3).2 = k4) : PG Try.prog 37 [.agg [.giv true z0 x0, .giv true z1 x1, .giv true z2 x2, .giv true z3 x3, .giv true z4 x4], .one (.bor (i64 k))] (rI k4) [(0, (mkR (mk sh_Contract) x0 k).1), (1, (mkR (mk sh_Shard) x1 k0).1), (2, (mkR (mk sh_Acceptor) x2 k1).1), (3, (mkR (mk sh_Leader) x3 k2).1), (4, (mkR (mk sh_Message) x4 k3).1)] := by
  refine PG.begin Try.func37 rfl (by kernel_rfl) ?_
  refine xgive rfl (markContractS_pg z0 x0 k h0) ⟨⟨rfl, rfl, rfl, rfl⟩, rfl, trivial⟩ rfl ?_
  rw [e0]
  refine xgive rfl (markShardS_pg z1 x1 k0 h1) ⟨⟨rfl, rfl, rfl, rfl⟩, rfl, trivial⟩ rfl ?_
  rw [e1]
  refine xgive rfl (markAcceptorS_pg z2 x2 k1 h2) ⟨⟨rfl, rfl, rfl, rfl⟩, rfl, trivial⟩ rfl ?_
  rw [e2]
  refine xgive rfl (markLeaderS_pg z3 x3 k2 h3) ⟨⟨rfl, rfl, rfl, rfl⟩, rfl, trivial⟩ rfl ?_
  rw [e3]
  refine xgive rfl (markMessageS_pg z4 x4 k3 h4) ⟨⟨rfl, rfl, rfl, rfl⟩, rfl, trivial⟩ rfl ?_
  rw [e4]
  exact xr rfl (xretG rfl ⟨⟨rfl, rfl, trivial⟩, nodB_nodup rfl⟩ ⟨⟨rfl, rfl, rfl, mkR_len _ _ _, mkR_rows h0⟩, ⟨rfl, rfl, rfl, mkR_len _ _ _, mkR_rows h1⟩, ⟨rfl, rfl, rfl, mkR_len _ _ _, mkR_rows h2⟩, ⟨rfl, rfl, rfl, mkR_len _ _ _, mkR_rows h3⟩, ⟨rfl, rfl, rfl, mkR_len _ _ _, mkR_rows h4⟩, trivial⟩)
end Go.Proofs.Ytlkjdcpcbnfbbaa
end
section
namespace Go.Proofs.Ytlkjdcpcbnfbbaa
open Go Go.Sx
set_option maxRecDepth 20000
set_option maxHeartbeats 4000000
theorem heldInt64S_pc (rr : List (List Cell)) (k : Int) (hw : WR 9000000000000000000 (.i .i64 .nil) rr) : PC Try.prog 77 [.one (.l rr), .one (i64 k)] (rI (ng (hdR (hd (.i .i64 .nil)) rr k))) := by
  refine PC.begin Try.func77 rfl (by kernel_rfl) ?_
  have hlen := hw.1
  refine xloop rfl (ι := Nat × Int) (fun x => x.1 ≤ rr.length ∧ hdR (hd (.i .i64 .nil)) (rr.take x.1) k = some x.2) (fun x => ⟨[(5, sV (.int .i64 x.1)), (1, sV (.int .i64 x.2)), (0, .one (.b (.l rr)))], []⟩) (fun x => rr.length - x.1) (0, k) ⟨Nat.zero_le _, rfl⟩ ?_ ?_
  · exact ⟨⟨rfl, rfl, rfl, trivial⟩, trivial, rfl⟩
  · intro ⟨i, v⟩ ⟨hi, hv⟩ J hJ
    dsimp only at hi hv ⊢
    refine xb rfl (fun h => ?_) (fun h => ?_)
    · have h : i < rr.length := by simpa using h
      obtain ⟨row, hg⟩ : ∃ row, rr[i]? = some row := ⟨_, List.getElem?_eq_getElem h⟩
      obtain ⟨x0, _, rfl, hnil⟩ := ((hw.2 row (List.mem_of_getElem? hg))).inv_i; obtain rfl := hnil.inv_nil
      have hst := hdR_step hg hv
      refine xs rfl (Int.natCast_nonneg _) (xrow rfl _ hg (xs rfl rfl ?_))
      refine xb rfl (fun hb => ?_) (fun hb => ?_)
      · have hb : ¬ x0 = mkv .i64 (v) := by simpa [mkv, nx] using hb
        exact xr rfl (xret rfl ⟨⟨rfl, congrArg (Value.int .i64) (ng_none (hdR_none (i := i + 1) (hst.trans (by simp only [hd, if_neg hb])))).symm, trivial⟩, nodB_nodup rfl⟩)
      have hb0 : x0 = mkv .i64 (v) := by simpa [mkv, nx] using hb
      clear hb
      refine xcont rfl (hJ _ (i + 1, nx (v)) ⟨by dsimp only; omega, hst.trans (by simp only [hd, if_pos hb0])⟩ (by dsimp only; omega) ?_)
      exact ⟨⟨cwi (by omega) (by omega) (by omega), rfl, rfl, trivial⟩, trivial, rfl⟩
    · have h : ¬ i < rr.length := by simpa using h
      have : i = rr.length := by omega
      subst this
      rw [List.take_length] at hv
      exact xr rfl (xret rfl ⟨⟨rfl, congrArg (Value.int .i64) (by rw [hv]; rfl), trivial⟩, nodB_nodup rfl⟩)
end Go.Proofs.Ytlkjdcpcbnfbbaa
end
section
namespace Go.Proofs.Ytlkjdcpcbnfbbaa
open Go Go.Sx
set_option maxRecDepth 20000
set_option maxHeartbeats 4000000
theorem heldBalanceS_pc (rr : List (List Cell)) (k : Int) (hw : WR 9000000000000000000 sh_Balance rr) : PC Try.prog 115 [.one (.l rr), .one (i64 k)] (rI (ng (hdR (hd sh_Balance) rr k))) := by
  refine PC.begin Try.func115 rfl (by kernel_rfl) ?_
  have hlen := hw.1
  refine xloop rfl (ι := Nat × Int) (fun x => x.1 ≤ rr.length ∧ hdR (hd sh_Balance) (rr.take x.1) k = some x.2) (fun x => ⟨[(5, sV (.int .i64 x.1)), (1, sV (.int .i64 x.2)), (0, .one (.b (.l rr)))], []⟩) (fun x => rr.length - x.1) (0, k) ⟨Nat.zero_le _, rfl⟩ ?_ ?_
  · exact ⟨⟨rfl, rfl, rfl, trivial⟩, trivial, rfl⟩
  · intro ⟨i, v⟩ ⟨hi, hv⟩ J hJ
    dsimp only at hi hv ⊢
    refine xb rfl (fun h => ?_) (fun h => ?_)
    · have h : i < rr.length := by simpa using h
      obtain ⟨row, hg⟩ : ∃ row, rr[i]? = some row := ⟨_, List.getElem?_eq_getElem h⟩
      obtain ⟨x0, x1, x2, rfl⟩ := inv_Balance (hw.2 row (List.mem_of_getElem? hg))
      have hst := hdR_step hg hv
      refine xs rfl (Int.natCast_nonneg _) (xrow rfl _ hg (xs rfl rfl ?_))
      refine xb rfl (fun hb => ?_) (fun hb => ?_)
      · have hb : ¬ x0 = mkv .i64 (v) := by simpa [mkv, nx] using hb
        exact xr rfl (xret rfl ⟨⟨rfl, congrArg (Value.int .i64) (ng_none (hdR_none (i := i + 1) (hst.trans (by simp only [hd, if_neg hb])))).symm, trivial⟩, nodB_nodup rfl⟩)
      have hb0 : x0 = mkv .i64 (v) := by simpa [mkv, nx] using hb
      clear hb
      refine xs rfl (Int.natCast_nonneg _) (xrow rfl _ hg (xs rfl rfl ?_))
      refine xb rfl (fun hb => ?_) (fun hb => ?_)
      · have hb : ¬ x1 = mkv .i64 (nx (v)) := by simpa [mkv, nx] using hb
        exact xr rfl (xret rfl ⟨⟨rfl, congrArg (Value.int .i64) (ng_none (hdR_none (i := i + 1) (hst.trans (by simp only [hd, if_neg hb, if_pos hb0])))).symm, trivial⟩, nodB_nodup rfl⟩)
      have hb1 : x1 = mkv .i64 (nx (v)) := by simpa [mkv, nx] using hb
      clear hb
      refine xs rfl (Int.natCast_nonneg _) (xrow rfl _ hg (xs rfl rfl ?_))
      refine xb rfl (fun hb => ?_) (fun hb => ?_)
      · have hb : ¬ x2 = mkv .i64 (nx (nx (v))) := by simpa [mkv, nx] using hb
        exact xr rfl (xret rfl ⟨⟨rfl, congrArg (Value.int .i64) (ng_none (hdR_none (i := i + 1) (hst.trans (by simp only [hd, if_neg hb, if_pos hb0, if_pos hb1])))).symm, trivial⟩, nodB_nodup rfl⟩)
      have hb2 : x2 = mkv .i64 (nx (nx (v))) := by simpa [mkv, nx] using hb
      clear hb
      refine xcont rfl (hJ _ (i + 1, nx (nx (nx (v)))) ⟨by dsimp only; omega, hst.trans (by simp only [hd, if_pos hb0, if_pos hb1, if_pos hb2])⟩ (by dsimp only; omega) ?_)
      exact ⟨⟨cwi (by omega) (by omega) (by omega), rfl, rfl, trivial⟩, trivial, rfl⟩
    · have h : ¬ i < rr.length := by simpa using h
      have : i = rr.length := by omega
      subst this
      rw [List.take_length] at hv
      exact xr rfl (xret rfl ⟨⟨rfl, congrArg (Value.int .i64) (by rw [hv]; rfl), trivial⟩, nodB_nodup rfl⟩)
end Go.Proofs.Ytlkjdcpcbnfbbaa
end
section
namespace Go.Proofs.Ytlkjdcpcbnfbbaa
open Go Go.Sx
set_option maxRecDepth 20000
set_option maxHeartbeats 4000000
theorem heldLegS_pc (rr : List (List Cell)) (k : Int) (hw : WR 9000000000000000000 sh_Leg rr) : PC Try.prog 102 [.one (.l rr), .one (i64 k)] (rI (ng (hdR (hd sh_Leg) rr k))) := by
  refine PC.begin Try.func102 rfl (by kernel_rfl) ?_
  have hlen := hw.1
  refine xloop rfl (ι := Nat × Int) (fun x => x.1 ≤ rr.length ∧ hdR (hd sh_Leg) (rr.take x.1) k = some x.2) (fun x => ⟨[(5, sV (.int .i64 x.1)), (1, sV (.int .i64 x.2)), (0, .one (.b (.l rr)))], []⟩) (fun x => rr.length - x.1) (0, k) ⟨Nat.zero_le _, rfl⟩ ?_ ?_
  · exact ⟨⟨rfl, rfl, rfl, trivial⟩, trivial, rfl⟩
  · intro ⟨i, v⟩ ⟨hi, hv⟩ J hJ
    dsimp only at hi hv ⊢
    refine xb rfl (fun h => ?_) (fun h => ?_)
    · have h : i < rr.length := by simpa using h
      obtain ⟨row, hg⟩ : ∃ row, rr[i]? = some row := ⟨_, List.getElem?_eq_getElem h⟩
      obtain ⟨x0, x1, x2, x3, rfl⟩ := inv_Leg (hw.2 row (List.mem_of_getElem? hg))
      have hst := hdR_step hg hv
      refine xs rfl (Int.natCast_nonneg _) (xrow rfl _ hg (xs rfl rfl ?_))
      refine xb rfl (fun hb => ?_) (fun hb => ?_)
      · have hb : ¬ x0 = mkv .i64 (v) := by simpa [mkv, nx] using hb
        exact xr rfl (xret rfl ⟨⟨rfl, congrArg (Value.int .i64) (ng_none (hdR_none (i := i + 1) (hst.trans (by simp only [hd, if_neg hb])))).symm, trivial⟩, nodB_nodup rfl⟩)
      have hb0 : x0 = mkv .i64 (v) := by simpa [mkv, nx] using hb
      clear hb
      refine xs rfl (Int.natCast_nonneg _) (xrow rfl _ hg (xs rfl rfl ?_))
      refine xb rfl (fun hb => ?_) (fun hb => ?_)
      · have hb : ¬ x1 = mkv .i64 (nx (v)) := by simpa [mkv, nx] using hb
        exact xr rfl (xret rfl ⟨⟨rfl, congrArg (Value.int .i64) (ng_none (hdR_none (i := i + 1) (hst.trans (by simp only [hd, if_neg hb, if_pos hb0])))).symm, trivial⟩, nodB_nodup rfl⟩)
      have hb1 : x1 = mkv .i64 (nx (v)) := by simpa [mkv, nx] using hb
      clear hb
      refine xs rfl (Int.natCast_nonneg _) (xrow rfl _ hg (xs rfl rfl ?_))
      refine xb rfl (fun hb => ?_) (fun hb => ?_)
      · have hb : ¬ x2 = mkv .i64 (nx (nx (v))) := by simpa [mkv, nx] using hb
        exact xr rfl (xret rfl ⟨⟨rfl, congrArg (Value.int .i64) (ng_none (hdR_none (i := i + 1) (hst.trans (by simp only [hd, if_neg hb, if_pos hb0, if_pos hb1])))).symm, trivial⟩, nodB_nodup rfl⟩)
      have hb2 : x2 = mkv .i64 (nx (nx (v))) := by simpa [mkv, nx] using hb
      clear hb
      refine xs rfl (Int.natCast_nonneg _) (xrow rfl _ hg (xs rfl rfl ?_))
      refine xb rfl (fun hb => ?_) (fun hb => ?_)
      · have hb : ¬ x3 = mkv .i64 (nx (nx (nx (v)))) := by simpa [mkv, nx] using hb
        exact xr rfl (xret rfl ⟨⟨rfl, congrArg (Value.int .i64) (ng_none (hdR_none (i := i + 1) (hst.trans (by simp only [hd, if_neg hb, if_pos hb0, if_pos hb1, if_pos hb2])))).symm, trivial⟩, nodB_nodup rfl⟩)
      have hb3 : x3 = mkv .i64 (nx (nx (nx (v)))) := by simpa [mkv, nx] using hb
      clear hb
      refine xcont rfl (hJ _ (i + 1, nx (nx (nx (nx (v))))) ⟨by dsimp only; omega, hst.trans (by simp only [hd, if_pos hb0, if_pos hb1, if_pos hb2, if_pos hb3])⟩ (by dsimp only; omega) ?_)
      exact ⟨⟨cwi (by omega) (by omega) (by omega), rfl, rfl, trivial⟩, trivial, rfl⟩
    · have h : ¬ i < rr.length := by simpa using h
      have : i = rr.length := by omega
      subst this
      rw [List.take_length] at hv
      exact xr rfl (xret rfl ⟨⟨rfl, congrArg (Value.int .i64) (by rw [hv]; rfl), trivial⟩, nodB_nodup rfl⟩)
theorem heldContractS_pc (rr : List (List Cell)) (k : Int) (hw : WR 9000000000000000000 sh_Contract rr) : PC Try.prog 78 [.one (.l rr), .one (i64 k)] (rI (ng (hdR (hd sh_Contract) rr k))) := by
  refine PC.begin Try.func78 rfl (by kernel_rfl) ?_
  have hlen := hw.1
  refine xloop rfl (ι := Nat × Int) (fun x => x.1 ≤ rr.length ∧ hdR (hd sh_Contract) (rr.take x.1) k = some x.2) (fun x => ⟨[(5, sV (.int .i64 x.1)), (1, sV (.int .i64 x.2)), (0, .one (.b (.l rr)))], []⟩) (fun x => rr.length - x.1) (0, k) ⟨Nat.zero_le _, rfl⟩ ?_ ?_
  · exact ⟨⟨rfl, rfl, rfl, trivial⟩, trivial, rfl⟩
  · intro ⟨i, v⟩ ⟨hi, hv⟩ J hJ
    dsimp only at hi hv ⊢
    refine xb rfl (fun h => ?_) (fun h => ?_)
    · have h : i < rr.length := by simpa using h
      obtain ⟨row, hg⟩ : ∃ row, rr[i]? = some row := ⟨_, List.getElem?_eq_getElem h⟩
      obtain ⟨x0, x1, rfl, h1⟩ := inv_Contract (hw.2 row (List.mem_of_getElem? hg))
      have hst := hdR_step hg hv
      refine xs rfl (Int.natCast_nonneg _) (xrow rfl _ hg (xs rfl rfl ?_))
      refine xb rfl (fun hb => ?_) (fun hb => ?_)
      · have hb : ¬ x0 = mkv .i64 (v) := by simpa [mkv, nx] using hb
        exact xr rfl (xret rfl ⟨⟨rfl, congrArg (Value.int .i64) (ng_none (hdR_none (i := i + 1) (hst.trans (by simp only [hd, if_neg hb])))).symm, trivial⟩, nodB_nodup rfl⟩)
      have hb0 : x0 = mkv .i64 (v) := by simpa [mkv, nx] using hb
      clear hb
      refine xs rfl (Int.natCast_nonneg _) (xrow rfl _ hg (xs rfl rfl ?_))
      refine xcall rfl (heldLegS_pc x1 (nx (v)) h1) rfl ⟨trivial, trivial, trivial⟩ ?_
      generalize hk1 : ng (hdR (hd sh_Leg) x1 (nx (v))) = k1
      refine xb rfl (fun hb => ?_) (fun hb => ?_)
      · have hb : k1 < 0 := by simpa using hb
        exact xr rfl (xret rfl ⟨⟨rfl, congrArg (Value.int .i64) (ng_none (hdR_none (i := i + 1) (hst.trans (by simp only [hd, if_pos hb0, hk1, ps_no hb]; rfl)))).symm, trivial⟩, nodB_nodup rfl⟩)
      have hb1 : ¬ k1 < 0 := by simpa using hb
      clear hb
      refine xcont rfl (hJ _ (i + 1, k1) ⟨by dsimp only; omega, hst.trans (by simp only [hd, if_pos hb0, hk1, ps_ok hb1, Option.bind_some])⟩ (by dsimp only; omega) ?_)
      exact ⟨⟨cwi (by omega) (by omega) (by omega), rfl, rfl, trivial⟩, trivial, rfl⟩
    · have h : ¬ i < rr.length := by simpa using h
      have : i = rr.length := by omega
      subst this
      rw [List.take_length] at hv
      exact xr rfl (xret rfl ⟨⟨rfl, congrArg (Value.int .i64) (by rw [hv]; rfl), trivial⟩, nodB_nodup rfl⟩)
theorem heldMarkS_pc (rr : List (List Cell)) (k : Int) (hw : WR 9000000000000000000 sh_Mark rr) : PC Try.prog 116 [.one (.l rr), .one (i64 k)] (rI (ng (hdR (hd sh_Mark) rr k))) := by
  refine PC.begin Try.func116 rfl (by kernel_rfl) ?_
  have hlen := hw.1
  refine xloop rfl (ι := Nat × Int) (fun x => x.1 ≤ rr.length ∧ hdR (hd sh_Mark) (rr.take x.1) k = some x.2) (fun x => ⟨[(5, sV (.int .i64 x.1)), (1, sV (.int .i64 x.2)), (0, .one (.b (.l rr)))], []⟩) (fun x => rr.length - x.1) (0, k) ⟨Nat.zero_le _, rfl⟩ ?_ ?_
  · exact ⟨⟨rfl, rfl, rfl, trivial⟩, trivial, rfl⟩
  · intro ⟨i, v⟩ ⟨hi, hv⟩ J hJ
    dsimp only at hi hv ⊢
    refine xb rfl (fun h => ?_) (fun h => ?_)
    · have h : i < rr.length := by simpa using h
      obtain ⟨row, hg⟩ : ∃ row, rr[i]? = some row := ⟨_, List.getElem?_eq_getElem h⟩
      obtain ⟨x0, x1, rfl⟩ := inv_Mark (hw.2 row (List.mem_of_getElem? hg))
      have hst := hdR_step hg hv
      refine xs rfl (Int.natCast_nonneg _) (xrow rfl _ hg (xs rfl rfl ?_))
      refine xb rfl (fun hb => ?_) (fun hb => ?_)
      · have hb : ¬ x0 = mkv .i64 (v) := by simpa [mkv, nx] using hb
        exact xr rfl (xret rfl ⟨⟨rfl, congrArg (Value.int .i64) (ng_none (hdR_none (i := i + 1) (hst.trans (by simp only [hd, if_neg hb])))).symm, trivial⟩, nodB_nodup rfl⟩)
      have hb0 : x0 = mkv .i64 (v) := by simpa [mkv, nx] using hb
      clear hb
      refine xs rfl (Int.natCast_nonneg _) (xrow rfl _ hg (xs rfl rfl ?_))
      refine xb rfl (fun hb => ?_) (fun hb => ?_)
      · have hb : ¬ x1 = mkv .i64 (nx (v)) := by simpa [mkv, nx] using hb
        exact xr rfl (xret rfl ⟨⟨rfl, congrArg (Value.int .i64) (ng_none (hdR_none (i := i + 1) (hst.trans (by simp only [hd, if_neg hb, if_pos hb0])))).symm, trivial⟩, nodB_nodup rfl⟩)
      have hb1 : x1 = mkv .i64 (nx (v)) := by simpa [mkv, nx] using hb
      clear hb
      refine xcont rfl (hJ _ (i + 1, nx (nx (v))) ⟨by dsimp only; omega, hst.trans (by simp only [hd, if_pos hb0, if_pos hb1])⟩ (by dsimp only; omega) ?_)
      exact ⟨⟨cwi (by omega) (by omega) (by omega), rfl, rfl, trivial⟩, trivial, rfl⟩
    · have h : ¬ i < rr.length := by simpa using h
      have : i = rr.length := by omega
      subst this
      rw [List.take_length] at hv
      exact xr rfl (xret rfl ⟨⟨rfl, congrArg (Value.int .i64) (by rw [hv]; rfl), trivial⟩, nodB_nodup rfl⟩)
theorem heldShardS_pc (rr : List (List Cell)) (k : Int) (hw : WR 9000000000000000000 sh_Shard rr) : PC Try.prog 79 [.one (.l rr), .one (i64 k)] (rI (ng (hdR (hd sh_Shard) rr k))) := by
  refine PC.begin Try.func79 rfl (by kernel_rfl) ?_
  have hlen := hw.1
  refine xloop rfl (ι := Nat × Int) (fun x => x.1 ≤ rr.length ∧ hdR (hd sh_Shard) (rr.take x.1) k = some x.2) (fun x => ⟨[(5, sV (.int .i64 x.1)), (1, sV (.int .i64 x.2)), (0, .one (.b (.l rr)))], []⟩) (fun x => rr.length - x.1) (0, k) ⟨Nat.zero_le _, rfl⟩ ?_ ?_
  · exact ⟨⟨rfl, rfl, rfl, trivial⟩, trivial, rfl⟩
  · intro ⟨i, v⟩ ⟨hi, hv⟩ J hJ
    dsimp only at hi hv ⊢
    refine xb rfl (fun h => ?_) (fun h => ?_)
    · have h : i < rr.length := by simpa using h
      obtain ⟨row, hg⟩ : ∃ row, rr[i]? = some row := ⟨_, List.getElem?_eq_getElem h⟩
      obtain ⟨x0, x1, x2, x3, x4, x5, rfl, h1, h2, h3, h4, h5⟩ := inv_Shard (hw.2 row (List.mem_of_getElem? hg))
      have hst := hdR_step hg hv
      refine xs rfl (Int.natCast_nonneg _) (xrow rfl _ hg (xs rfl rfl ?_))
      refine xb rfl (fun hb => ?_) (fun hb => ?_)
      · have hb : ¬ x0 = mkv .i64 (v) := by simpa [mkv, nx] using hb
        exact xr rfl (xret rfl ⟨⟨rfl, congrArg (Value.int .i64) (ng_none (hdR_none (i := i + 1) (hst.trans (by simp only [hd, if_neg hb])))).symm, trivial⟩, nodB_nodup rfl⟩)
      have hb0 : x0 = mkv .i64 (v) := by simpa [mkv, nx] using hb
      clear hb
      refine xs rfl (Int.natCast_nonneg _) (xrow rfl _ hg (xs rfl rfl ?_))
      refine xcall rfl (heldBalanceS_pc x1 (nx (v)) h1) rfl ⟨trivial, trivial, trivial⟩ ?_
      generalize hk1 : ng (hdR (hd sh_Balance) x1 (nx (v))) = k1
      refine xb rfl (fun hb => ?_) (fun hb => ?_)
      · have hb : k1 < 0 := by simpa using hb
        exact xr rfl (xret rfl ⟨⟨rfl, congrArg (Value.int .i64) (ng_none (hdR_none (i := i + 1) (hst.trans (by simp only [hd, if_pos hb0, hk1, ps_no hb]; rfl)))).symm, trivial⟩, nodB_nodup rfl⟩)
      have hb1 : ¬ k1 < 0 := by simpa using hb
      clear hb
      refine xs rfl (Int.natCast_nonneg _) (xrow rfl _ hg (xs rfl rfl ?_))
      refine xcall rfl (heldMarkS_pc x2 (k1) h2) rfl ⟨trivial, trivial, trivial⟩ ?_
      generalize hk2 : ng (hdR (hd sh_Mark) x2 (k1)) = k2
      refine xb rfl (fun hb => ?_) (fun hb => ?_)
      · have hb : k2 < 0 := by simpa using hb
        exact xr rfl (xret rfl ⟨⟨rfl, congrArg (Value.int .i64) (ng_none (hdR_none (i := i + 1) (hst.trans (by simp only [hd, if_pos hb0, hk1, ps_ok hb1, Option.bind_some, hk2, ps_no hb]; rfl)))).symm, trivial⟩, nodB_nodup rfl⟩)
      have hb2 : ¬ k2 < 0 := by simpa using hb
      clear hb
      refine xs rfl (Int.natCast_nonneg _) (xrow rfl _ hg (xs rfl rfl ?_))
      refine xcall rfl (heldContractS_pc x3 (k2) h3) rfl ⟨trivial, trivial, trivial⟩ ?_
      generalize hk3 : ng (hdR (hd sh_Contract) x3 (k2)) = k3
      refine xb rfl (fun hb => ?_) (fun hb => ?_)
      · have hb : k3 < 0 := by simpa using hb
        exact xr rfl (xret rfl ⟨⟨rfl, congrArg (Value.int .i64) (ng_none (hdR_none (i := i + 1) (hst.trans (by simp only [hd, if_pos hb0, hk1, ps_ok hb1, Option.bind_some, hk2, ps_ok hb2, Option.bind_some, hk3, ps_no hb]; rfl)))).symm, trivial⟩, nodB_nodup rfl⟩)
      have hb3 : ¬ k3 < 0 := by simpa using hb
      clear hb
      refine xs rfl (Int.natCast_nonneg _) (xrow rfl _ hg (xs rfl rfl ?_))
      refine xcall rfl (heldMarkS_pc x4 (k3) h4) rfl ⟨trivial, trivial, trivial⟩ ?_
      generalize hk4 : ng (hdR (hd sh_Mark) x4 (k3)) = k4
      refine xb rfl (fun hb => ?_) (fun hb => ?_)
      · have hb : k4 < 0 := by simpa using hb
        exact xr rfl (xret rfl ⟨⟨rfl, congrArg (Value.int .i64) (ng_none (hdR_none (i := i + 1) (hst.trans (by simp only [hd, if_pos hb0, hk1, ps_ok hb1, Option.bind_some, hk2, ps_ok hb2, Option.bind_some, hk3, ps_ok hb3, Option.bind_some, hk4, ps_no hb]; rfl)))).symm, trivial⟩, nodB_nodup rfl⟩)
      have hb4 : ¬ k4 < 0 := by simpa using hb
      clear hb
      refine xs rfl (Int.natCast_nonneg _) (xrow rfl _ hg (xs rfl rfl ?_))
      refine xcall rfl (heldInt64S_pc x5 (k4) h5) rfl ⟨trivial, trivial, trivial⟩ ?_
      generalize hk5 : ng (hdR (hd (.i .i64 .nil)) x5 (k4)) = k5
      refine xb rfl (fun hb => ?_) (fun hb => ?_)
      · have hb : k5 < 0 := by simpa using hb
        exact xr rfl (xret rfl ⟨⟨rfl, congrArg (Value.int .i64) (ng_none (hdR_none (i := i + 1) (hst.trans (by simp only [hd, if_pos hb0, hk1, ps_ok hb1, Option.bind_some, hk2, ps_ok hb2, Option.bind_some, hk3, ps_ok hb3, Option.bind_some, hk4, ps_ok hb4, Option.bind_some, hk5, ps_no hb]; rfl)))).symm, trivial⟩, nodB_nodup rfl⟩)
      have hb5 : ¬ k5 < 0 := by simpa using hb
      clear hb
      refine xcont rfl (hJ _ (i + 1, k5) ⟨by dsimp only; omega, hst.trans (by simp only [hd, if_pos hb0, hk1, ps_ok hb1, Option.bind_some, hk2, ps_ok hb2, Option.bind_some, hk3, ps_ok hb3, Option.bind_some, hk4, ps_ok hb4, Option.bind_some, hk5, ps_ok hb5, Option.bind_some])⟩ (by dsimp only; omega) ?_)
      exact ⟨⟨cwi (by omega) (by omega) (by omega), rfl, rfl, trivial⟩, trivial, rfl⟩
    · have h : ¬ i < rr.length := by simpa using h
      have : i = rr.length := by omega
      subst this
      rw [List.take_length] at hv
      exact xr rfl (xret rfl ⟨⟨rfl, congrArg (Value.int .i64) (by rw [hv]; rfl), trivial⟩, nodB_nodup rfl⟩)
theorem heldVoteS_pc (rr : List (List Cell)) (k : Int) (hw : WR 9000000000000000000 sh_Vote rr) : PC Try.prog 140 [.one (.l rr), .one (i64 k)] (rI (ng (hdR (hd sh_Vote) rr k))) := by
  refine PC.begin Try.func140 rfl (by kernel_rfl) ?_
  have hlen := hw.1
  refine xloop rfl (ι := Nat × Int) (fun x => x.1 ≤ rr.length ∧ hdR (hd sh_Vote) (rr.take x.1) k = some x.2) (fun x => ⟨[(5, sV (.int .i64 x.1)), (1, sV (.int .i64 x.2)), (0, .one (.b (.l rr)))], []⟩) (fun x => rr.length - x.1) (0, k) ⟨Nat.zero_le _, rfl⟩ ?_ ?_
  · exact ⟨⟨rfl, rfl, rfl, trivial⟩, trivial, rfl⟩
  · intro ⟨i, v⟩ ⟨hi, hv⟩ J hJ
    dsimp only at hi hv ⊢
    refine xb rfl (fun h => ?_) (fun h => ?_)
    · have h : i < rr.length := by simpa using h
      obtain ⟨row, hg⟩ : ∃ row, rr[i]? = some row := ⟨_, List.getElem?_eq_getElem h⟩
      obtain ⟨x0, x1, rfl⟩ := inv_Vote (hw.2 row (List.mem_of_getElem? hg))
      have hst := hdR_step hg hv
      refine xs rfl (Int.natCast_nonneg _) (xrow rfl _ hg (xs rfl rfl ?_))
      refine xb rfl (fun hb => ?_) (fun hb => ?_)
      · have hb : ¬ x0 = mkv .i64 (v) := by simpa [mkv, nx] using hb
        exact xr rfl (xret rfl ⟨⟨rfl, congrArg (Value.int .i64) (ng_none (hdR_none (i := i + 1) (hst.trans (by simp only [hd, if_neg hb])))).symm, trivial⟩, nodB_nodup rfl⟩)
      have hb0 : x0 = mkv .i64 (v) := by simpa [mkv, nx] using hb
      clear hb
      refine xs rfl (Int.natCast_nonneg _) (xrow rfl _ hg (xs rfl rfl ?_))
      refine xb rfl (fun hb => ?_) (fun hb => ?_)
      · have hb : ¬ x1 = mkv .i64 (nx (v)) := by simpa [mkv, nx] using hb
        exact xr rfl (xret rfl ⟨⟨rfl, congrArg (Value.int .i64) (ng_none (hdR_none (i := i + 1) (hst.trans (by simp only [hd, if_neg hb, if_pos hb0])))).symm, trivial⟩, nodB_nodup rfl⟩)
      have hb1 : x1 = mkv .i64 (nx (v)) := by simpa [mkv, nx] using hb
      clear hb
      refine xcont rfl (hJ _ (i + 1, nx (nx (v))) ⟨by dsimp only; omega, hst.trans (by simp only [hd, if_pos hb0, if_pos hb1])⟩ (by dsimp only; omega) ?_)
      exact ⟨⟨cwi (by omega) (by omega) (by omega), rfl, rfl, trivial⟩, trivial, rfl⟩
    · have h : ¬ i < rr.length := by simpa using h
      have : i = rr.length := by omega
      subst this
      rw [List.take_length] at hv
      exact xr rfl (xret rfl ⟨⟨rfl, congrArg (Value.int .i64) (by rw [hv]; rfl), trivial⟩, nodB_nodup rfl⟩)
theorem heldSlotS_pc (rr : List (List Cell)) (k : Int) (hw : WR 9000000000000000000 sh_Slot rr) : PC Try.prog 117 [.one (.l rr), .one (i64 k)] (rI (ng (hdR (hd sh_Slot) rr k))) := by
  refine PC.begin Try.func117 rfl (by kernel_rfl) ?_
  have hlen := hw.1
  refine xloop rfl (ι := Nat × Int) (fun x => x.1 ≤ rr.length ∧ hdR (hd sh_Slot) (rr.take x.1) k = some x.2) (fun x => ⟨[(5, sV (.int .i64 x.1)), (1, sV (.int .i64 x.2)), (0, .one (.b (.l rr)))], []⟩) (fun x => rr.length - x.1) (0, k) ⟨Nat.zero_le _, rfl⟩ ?_ ?_
  · exact ⟨⟨rfl, rfl, rfl, trivial⟩, trivial, rfl⟩
  · intro ⟨i, v⟩ ⟨hi, hv⟩ J hJ
    dsimp only at hi hv ⊢
    refine xb rfl (fun h => ?_) (fun h => ?_)
    · have h : i < rr.length := by simpa using h
      obtain ⟨row, hg⟩ : ∃ row, rr[i]? = some row := ⟨_, List.getElem?_eq_getElem h⟩
      obtain ⟨x0, x1, x2, x3, x4, x5, rfl, h5⟩ := inv_Slot (hw.2 row (List.mem_of_getElem? hg))
      have hst := hdR_step hg hv
      refine xs rfl (Int.natCast_nonneg _) (xrow rfl _ hg (xs rfl rfl ?_))
      refine xb rfl (fun hb => ?_) (fun hb => ?_)
      · have hb : ¬ x0 = mkv .i64 (v) := by simpa [mkv, nx] using hb
        exact xr rfl (xret rfl ⟨⟨rfl, congrArg (Value.int .i64) (ng_none (hdR_none (i := i + 1) (hst.trans (by simp only [hd, if_neg hb])))).symm, trivial⟩, nodB_nodup rfl⟩)
      have hb0 : x0 = mkv .i64 (v) := by simpa [mkv, nx] using hb
      clear hb
      refine xs rfl (Int.natCast_nonneg _) (xrow rfl _ hg (xs rfl rfl ?_))
      refine xb rfl (fun hb => ?_) (fun hb => ?_)
      · have hb : ¬ x1 = mkv .i64 (nx (v)) := by simpa [mkv, nx] using hb
        exact xr rfl (xret rfl ⟨⟨rfl, congrArg (Value.int .i64) (ng_none (hdR_none (i := i + 1) (hst.trans (by simp only [hd, if_neg hb, if_pos hb0])))).symm, trivial⟩, nodB_nodup rfl⟩)
      have hb1 : x1 = mkv .i64 (nx (v)) := by simpa [mkv, nx] using hb
      clear hb
      refine xs rfl (Int.natCast_nonneg _) (xrow rfl _ hg (xs rfl rfl ?_))
      refine xb rfl (fun hb => ?_) (fun hb => ?_)
      · have hb : ¬ x2 = mkv .i64 (nx (nx (v))) := by simpa [mkv, nx] using hb
        exact xr rfl (xret rfl ⟨⟨rfl, congrArg (Value.int .i64) (ng_none (hdR_none (i := i + 1) (hst.trans (by simp only [hd, if_neg hb, if_pos hb0, if_pos hb1])))).symm, trivial⟩, nodB_nodup rfl⟩)
      have hb2 : x2 = mkv .i64 (nx (nx (v))) := by simpa [mkv, nx] using hb
      clear hb
      refine xs rfl (Int.natCast_nonneg _) (xrow rfl _ hg (xs rfl rfl ?_))
      refine xb rfl (fun hb => ?_) (fun hb => ?_)
      · have hb : ¬ x3 = mkv .i64 (nx (nx (nx (v)))) := by simpa [mkv, nx] using hb
        exact xr rfl (xret rfl ⟨⟨rfl, congrArg (Value.int .i64) (ng_none (hdR_none (i := i + 1) (hst.trans (by simp only [hd, if_neg hb, if_pos hb0, if_pos hb1, if_pos hb2])))).symm, trivial⟩, nodB_nodup rfl⟩)
      have hb3 : x3 = mkv .i64 (nx (nx (nx (v)))) := by simpa [mkv, nx] using hb
      clear hb
      refine xs rfl (Int.natCast_nonneg _) (xrow rfl _ hg (xs rfl rfl ?_))
      refine xb rfl (fun hb => ?_) (fun hb => ?_)
      · have hb : ¬ x4 = mkv .i64 (nx (nx (nx (nx (v))))) := by simpa [mkv, nx] using hb
        exact xr rfl (xret rfl ⟨⟨rfl, congrArg (Value.int .i64) (ng_none (hdR_none (i := i + 1) (hst.trans (by simp only [hd, if_neg hb, if_pos hb0, if_pos hb1, if_pos hb2, if_pos hb3])))).symm, trivial⟩, nodB_nodup rfl⟩)
      have hb4 : x4 = mkv .i64 (nx (nx (nx (nx (v))))) := by simpa [mkv, nx] using hb
      clear hb
      refine xs rfl (Int.natCast_nonneg _) (xrow rfl _ hg (xs rfl rfl ?_))
      refine xcall rfl (heldVoteS_pc x5 (nx (nx (nx (nx (nx (v)))))) h5) rfl ⟨trivial, trivial, trivial⟩ ?_
      generalize hk5 : ng (hdR (hd sh_Vote) x5 (nx (nx (nx (nx (nx (v))))))) = k5
      refine xb rfl (fun hb => ?_) (fun hb => ?_)
      · have hb : k5 < 0 := by simpa using hb
        exact xr rfl (xret rfl ⟨⟨rfl, congrArg (Value.int .i64) (ng_none (hdR_none (i := i + 1) (hst.trans (by simp only [hd, if_pos hb0, if_pos hb1, if_pos hb2, if_pos hb3, if_pos hb4, hk5, ps_no hb]; rfl)))).symm, trivial⟩, nodB_nodup rfl⟩)
      have hb5 : ¬ k5 < 0 := by simpa using hb
      clear hb
      refine xcont rfl (hJ _ (i + 1, k5) ⟨by dsimp only; omega, hst.trans (by simp only [hd, if_pos hb0, if_pos hb1, if_pos hb2, if_pos hb3, if_pos hb4, hk5, ps_ok hb5, Option.bind_some])⟩ (by dsimp only; omega) ?_)
      exact ⟨⟨cwi (by omega) (by omega) (by omega), rfl, rfl, trivial⟩, trivial, rfl⟩
    · have h : ¬ i < rr.length := by simpa using h
      have : i = rr.length := by omega
      subst this
      rw [List.take_length] at hv
      exact xr rfl (xret rfl ⟨⟨rfl, congrArg (Value.int .i64) (by rw [hv]; rfl), trivial⟩, nodB_nodup rfl⟩)
theorem heldAcceptorS_pc (rr : List (List Cell)) (k : Int) (hw : WR 9000000000000000000 sh_Acceptor rr) : PC Try.prog 80 [.one (.l rr), .one (i64 k)] (rI (ng (hdR (hd sh_Acceptor) rr k))) := by
  refine PC.begin Try.func80 rfl (by kernel_rfl) ?_
  have hlen := hw.1
  refine xloop rfl (ι := Nat × Int) (fun x => x.1 ≤ rr.length ∧ hdR (hd sh_Acceptor) (rr.take x.1) k = some x.2) (fun x => ⟨[(5, sV (.int .i64 x.1)), (1, sV (.int .i64 x.2)), (0, .one (.b (.l rr)))], []⟩) (fun x => rr.length - x.1) (0, k) ⟨Nat.zero_le _, rfl⟩ ?_ ?_
  · exact ⟨⟨rfl, rfl, rfl, trivial⟩, trivial, rfl⟩
  · intro ⟨i, v⟩ ⟨hi, hv⟩ J hJ
    dsimp only at hi hv ⊢
    refine xb rfl (fun h => ?_) (fun h => ?_)
    · have h : i < rr.length := by simpa using h
      obtain ⟨row, hg⟩ : ∃ row, rr[i]? = some row := ⟨_, List.getElem?_eq_getElem h⟩
      obtain ⟨x0, rfl, h0⟩ := inv_Acceptor (hw.2 row (List.mem_of_getElem? hg))
      have hst := hdR_step hg hv
      refine xs rfl (Int.natCast_nonneg _) (xrow rfl _ hg (xs rfl rfl ?_))
      refine xcall rfl (heldSlotS_pc x0 (v) h0) rfl ⟨trivial, trivial, trivial⟩ ?_
      generalize hk0 : ng (hdR (hd sh_Slot) x0 (v)) = k0
      refine xb rfl (fun hb => ?_) (fun hb => ?_)
      · have hb : k0 < 0 := by simpa using hb
        exact xr rfl (xret rfl ⟨⟨rfl, congrArg (Value.int .i64) (ng_none (hdR_none (i := i + 1) (hst.trans (by simp only [hd, hk0, ps_no hb]; rfl)))).symm, trivial⟩, nodB_nodup rfl⟩)
      have hb0 : ¬ k0 < 0 := by simpa using hb
      clear hb
      refine xcont rfl (hJ _ (i + 1, k0) ⟨by dsimp only; omega, hst.trans (by simp only [hd, hk0, ps_ok hb0, Option.bind_some])⟩ (by dsimp only; omega) ?_)
      exact ⟨⟨cwi (by omega) (by omega) (by omega), rfl, rfl, trivial⟩, trivial, rfl⟩
    · have h : ¬ i < rr.length := by simpa using h
      have : i = rr.length := by omega
      subst this
      rw [List.take_length] at hv
      exact xr rfl (xret rfl ⟨⟨rfl, congrArg (Value.int .i64) (by rw [hv]; rfl), trivial⟩, nodB_nodup rfl⟩)
theorem heldTryS_pc (rr : List (List Cell)) (k : Int) (hw : WR 9000000000000000000 sh_Try rr) : PC Try.prog 118 [.one (.l rr), .one (i64 k)] (rI (ng (hdR (hd sh_Try) rr k))) := by
  refine PC.begin Try.func118 rfl (by kernel_rfl) ?_
  have hlen := hw.1
  refine xloop rfl (ι := Nat × Int) (fun x => x.1 ≤ rr.length ∧ hdR (hd sh_Try) (rr.take x.1) k = some x.2) (fun x => ⟨[(5, sV (.int .i64 x.1)), (1, sV (.int .i64 x.2)), (0, .one (.b (.l rr)))], []⟩) (fun x => rr.length - x.1) (0, k) ⟨Nat.zero_le _, rfl⟩ ?_ ?_
  · exact ⟨⟨rfl, rfl, rfl, trivial⟩, trivial, rfl⟩
  · intro ⟨i, v⟩ ⟨hi, hv⟩ J hJ
    dsimp only at hi hv ⊢
    refine xb rfl (fun h => ?_) (fun h => ?_)
    · have h : i < rr.length := by simpa using h
      obtain ⟨row, hg⟩ : ∃ row, rr[i]? = some row := ⟨_, List.getElem?_eq_getElem h⟩
      obtain ⟨x0, x1, x2, x3, x4, x5, rfl, h4, h5⟩ := inv_Try (hw.2 row (List.mem_of_getElem? hg))
      have hst := hdR_step hg hv
      refine xs rfl (Int.natCast_nonneg _) (xrow rfl _ hg (xs rfl rfl ?_))
      refine xb rfl (fun hb => ?_) (fun hb => ?_)
      · have hb : ¬ x0 = mkv .i64 (v) := by simpa [mkv, nx] using hb
        exact xr rfl (xret rfl ⟨⟨rfl, congrArg (Value.int .i64) (ng_none (hdR_none (i := i + 1) (hst.trans (by simp only [hd, if_neg hb])))).symm, trivial⟩, nodB_nodup rfl⟩)
      have hb0 : x0 = mkv .i64 (v) := by simpa [mkv, nx] using hb
      clear hb
      refine xs rfl (Int.natCast_nonneg _) (xrow rfl _ hg (xs rfl rfl ?_))
      refine xb rfl (fun hb => ?_) (fun hb => ?_)
      · have hb : ¬ x1 = mkv .i64 (nx (v)) := by simpa [mkv, nx] using hb
        exact xr rfl (xret rfl ⟨⟨rfl, congrArg (Value.int .i64) (ng_none (hdR_none (i := i + 1) (hst.trans (by simp only [hd, if_neg hb, if_pos hb0])))).symm, trivial⟩, nodB_nodup rfl⟩)
      have hb1 : x1 = mkv .i64 (nx (v)) := by simpa [mkv, nx] using hb
      clear hb
      refine xs rfl (Int.natCast_nonneg _) (xrow rfl _ hg (xs rfl rfl ?_))
      refine xb rfl (fun hb => ?_) (fun hb => ?_)
      · have hb : ¬ x2 = mkv .i64 (nx (nx (v))) := by simpa [mkv, nx] using hb
        exact xr rfl (xret rfl ⟨⟨rfl, congrArg (Value.int .i64) (ng_none (hdR_none (i := i + 1) (hst.trans (by simp only [hd, if_neg hb, if_pos hb0, if_pos hb1])))).symm, trivial⟩, nodB_nodup rfl⟩)
      have hb2 : x2 = mkv .i64 (nx (nx (v))) := by simpa [mkv, nx] using hb
      clear hb
      refine xs rfl (Int.natCast_nonneg _) (xrow rfl _ hg (xs rfl rfl ?_))
      refine xb rfl (fun hb => ?_) (fun hb => ?_)
      · have hb : ¬ x3 = mkv .i64 (nx (nx (nx (v)))) := by simpa [mkv, nx] using hb
        exact xr rfl (xret rfl ⟨⟨rfl, congrArg (Value.int .i64) (ng_none (hdR_none (i := i + 1) (hst.trans (by simp only [hd, if_neg hb, if_pos hb0, if_pos hb1, if_pos hb2])))).symm, trivial⟩, nodB_nodup rfl⟩)
      have hb3 : x3 = mkv .i64 (nx (nx (nx (v)))) := by simpa [mkv, nx] using hb
      clear hb
      refine xs rfl (Int.natCast_nonneg _) (xrow rfl _ hg (xs rfl rfl ?_))
      refine xcall rfl (heldInt64S_pc x4 (nx (nx (nx (nx (v))))) h4) rfl ⟨trivial, trivial, trivial⟩ ?_
      generalize hk4 : ng (hdR (hd (.i .i64 .nil)) x4 (nx (nx (nx (nx (v)))))) = k4
      refine xb rfl (fun hb => ?_) (fun hb => ?_)
      · have hb : k4 < 0 := by simpa using hb
        exact xr rfl (xret rfl ⟨⟨rfl, congrArg (Value.int .i64) (ng_none (hdR_none (i := i + 1) (hst.trans (by simp only [hd, if_pos hb0, if_pos hb1, if_pos hb2, if_pos hb3, hk4, ps_no hb]; rfl)))).symm, trivial⟩, nodB_nodup rfl⟩)
      have hb4 : ¬ k4 < 0 := by simpa using hb
      clear hb
      refine xs rfl (Int.natCast_nonneg _) (xrow rfl _ hg (xs rfl rfl ?_))
      refine xcall rfl (heldVoteS_pc x5 (k4) h5) rfl ⟨trivial, trivial, trivial⟩ ?_
      generalize hk5 : ng (hdR (hd sh_Vote) x5 (k4)) = k5
      refine xb rfl (fun hb => ?_) (fun hb => ?_)
      · have hb : k5 < 0 := by simpa using hb
        exact xr rfl (xret rfl ⟨⟨rfl, congrArg (Value.int .i64) (ng_none (hdR_none (i := i + 1) (hst.trans (by simp only [hd, if_pos hb0, if_pos hb1, if_pos hb2, if_pos hb3, hk4, ps_ok hb4, Option.bind_some, hk5, ps_no hb]; rfl)))).symm, trivial⟩, nodB_nodup rfl⟩)
      have hb5 : ¬ k5 < 0 := by simpa using hb
      clear hb
      refine xcont rfl (hJ _ (i + 1, k5) ⟨by dsimp only; omega, hst.trans (by simp only [hd, if_pos hb0, if_pos hb1, if_pos hb2, if_pos hb3, hk4, ps_ok hb4, Option.bind_some, hk5, ps_ok hb5, Option.bind_some])⟩ (by dsimp only; omega) ?_)
      exact ⟨⟨cwi (by omega) (by omega) (by omega), rfl, rfl, trivial⟩, trivial, rfl⟩
    · have h : ¬ i < rr.length := by simpa using h
      have : i = rr.length := by omega
      subst this
      rw [List.take_length] at hv
      exact xr rfl (xret rfl ⟨⟨rfl, congrArg (Value.int .i64) (by rw [hv]; rfl), trivial⟩, nodB_nodup rfl⟩)
theorem heldHeardS_pc (rr : List (List Cell)) (k : Int) (hw : WR 9000000000000000000 sh_Heard rr) : PC Try.prog 119 [.one (.l rr), .one (i64 k)] (rI (ng (hdR (hd sh_Heard) rr k))) := by
  refine PC.begin Try.func119 rfl (by kernel_rfl) ?_
  have hlen := hw.1
  refine xloop rfl (ι := Nat × Int) (fun x => x.1 ≤ rr.length ∧ hdR (hd sh_Heard) (rr.take x.1) k = some x.2) (fun x => ⟨[(5, sV (.int .i64 x.1)), (1, sV (.int .i64 x.2)), (0, .one (.b (.l rr)))], []⟩) (fun x => rr.length - x.1) (0, k) ⟨Nat.zero_le _, rfl⟩ ?_ ?_
  · exact ⟨⟨rfl, rfl, rfl, trivial⟩, trivial, rfl⟩
  · intro ⟨i, v⟩ ⟨hi, hv⟩ J hJ
    dsimp only at hi hv ⊢
    refine xb rfl (fun h => ?_) (fun h => ?_)
    · have h : i < rr.length := by simpa using h
      obtain ⟨row, hg⟩ : ∃ row, rr[i]? = some row := ⟨_, List.getElem?_eq_getElem h⟩
      obtain ⟨x0, x1, x2, x3, x4, rfl⟩ := inv_Heard (hw.2 row (List.mem_of_getElem? hg))
      have hst := hdR_step hg hv
      refine xs rfl (Int.natCast_nonneg _) (xrow rfl _ hg (xs rfl rfl ?_))
      refine xb rfl (fun hb => ?_) (fun hb => ?_)
      · have hb : ¬ x0 = mkv .i64 (v) := by simpa [mkv, nx] using hb
        exact xr rfl (xret rfl ⟨⟨rfl, congrArg (Value.int .i64) (ng_none (hdR_none (i := i + 1) (hst.trans (by simp only [hd, if_neg hb])))).symm, trivial⟩, nodB_nodup rfl⟩)
      have hb0 : x0 = mkv .i64 (v) := by simpa [mkv, nx] using hb
      clear hb
      refine xs rfl (Int.natCast_nonneg _) (xrow rfl _ hg (xs rfl rfl ?_))
      refine xb rfl (fun hb => ?_) (fun hb => ?_)
      · have hb : ¬ x1 = mkv .i64 (nx (v)) := by simpa [mkv, nx] using hb
        exact xr rfl (xret rfl ⟨⟨rfl, congrArg (Value.int .i64) (ng_none (hdR_none (i := i + 1) (hst.trans (by simp only [hd, if_neg hb, if_pos hb0])))).symm, trivial⟩, nodB_nodup rfl⟩)
      have hb1 : x1 = mkv .i64 (nx (v)) := by simpa [mkv, nx] using hb
      clear hb
      refine xs rfl (Int.natCast_nonneg _) (xrow rfl _ hg (xs rfl rfl ?_))
      refine xb rfl (fun hb => ?_) (fun hb => ?_)
      · have hb : ¬ x2 = mkv .i64 (nx (nx (v))) := by simpa [mkv, nx] using hb
        exact xr rfl (xret rfl ⟨⟨rfl, congrArg (Value.int .i64) (ng_none (hdR_none (i := i + 1) (hst.trans (by simp only [hd, if_neg hb, if_pos hb0, if_pos hb1])))).symm, trivial⟩, nodB_nodup rfl⟩)
      have hb2 : x2 = mkv .i64 (nx (nx (v))) := by simpa [mkv, nx] using hb
      clear hb
      refine xs rfl (Int.natCast_nonneg _) (xrow rfl _ hg (xs rfl rfl ?_))
      refine xb rfl (fun hb => ?_) (fun hb => ?_)
      · have hb : ¬ x3 = mkv .i64 (nx (nx (nx (v)))) := by simpa [mkv, nx] using hb
        exact xr rfl (xret rfl ⟨⟨rfl, congrArg (Value.int .i64) (ng_none (hdR_none (i := i + 1) (hst.trans (by simp only [hd, if_neg hb, if_pos hb0, if_pos hb1, if_pos hb2])))).symm, trivial⟩, nodB_nodup rfl⟩)
      have hb3 : x3 = mkv .i64 (nx (nx (nx (v)))) := by simpa [mkv, nx] using hb
      clear hb
      refine xs rfl (Int.natCast_nonneg _) (xrow rfl _ hg (xs rfl rfl ?_))
      refine xb rfl (fun hb => ?_) (fun hb => ?_)
      · have hb : ¬ x4 = mkv .i64 (nx (nx (nx (nx (v))))) := by simpa [mkv, nx] using hb
        exact xr rfl (xret rfl ⟨⟨rfl, congrArg (Value.int .i64) (ng_none (hdR_none (i := i + 1) (hst.trans (by simp only [hd, if_neg hb, if_pos hb0, if_pos hb1, if_pos hb2, if_pos hb3])))).symm, trivial⟩, nodB_nodup rfl⟩)
      have hb4 : x4 = mkv .i64 (nx (nx (nx (nx (v))))) := by simpa [mkv, nx] using hb
      clear hb
      refine xcont rfl (hJ _ (i + 1, nx (nx (nx (nx (nx (v)))))) ⟨by dsimp only; omega, hst.trans (by simp only [hd, if_pos hb0, if_pos hb1, if_pos hb2, if_pos hb3, if_pos hb4])⟩ (by dsimp only; omega) ?_)
      exact ⟨⟨cwi (by omega) (by omega) (by omega), rfl, rfl, trivial⟩, trivial, rfl⟩
    · have h : ¬ i < rr.length := by simpa using h
      have : i = rr.length := by omega
      subst this
      rw [List.take_length] at hv
      exact xr rfl (xret rfl ⟨⟨rfl, congrArg (Value.int .i64) (by rw [hv]; rfl), trivial⟩, nodB_nodup rfl⟩)
theorem heldLeaderS_pc (rr : List (List Cell)) (k : Int) (hw : WR 9000000000000000000 sh_Leader rr) : PC Try.prog 81 [.one (.l rr), .one (i64 k)] (rI (ng (hdR (hd sh_Leader) rr k))) := by
  refine PC.begin Try.func81 rfl (by kernel_rfl) ?_
  have hlen := hw.1
  refine xloop rfl (ι := Nat × Int) (fun x => x.1 ≤ rr.length ∧ hdR (hd sh_Leader) (rr.take x.1) k = some x.2) (fun x => ⟨[(5, sV (.int .i64 x.1)), (1, sV (.int .i64 x.2)), (0, .one (.b (.l rr)))], []⟩) (fun x => rr.length - x.1) (0, k) ⟨Nat.zero_le _, rfl⟩ ?_ ?_
  · exact ⟨⟨rfl, rfl, rfl, trivial⟩, trivial, rfl⟩
  · intro ⟨i, v⟩ ⟨hi, hv⟩ J hJ
    dsimp only at hi hv ⊢
    refine xb rfl (fun h => ?_) (fun h => ?_)
    · have h : i < rr.length := by simpa using h
      obtain ⟨row, hg⟩ : ∃ row, rr[i]? = some row := ⟨_, List.getElem?_eq_getElem h⟩
      obtain ⟨x0, x1, x2, rfl, h1, h2⟩ := inv_Leader (hw.2 row (List.mem_of_getElem? hg))
      have hst := hdR_step hg hv
      refine xs rfl (Int.natCast_nonneg _) (xrow rfl _ hg (xs rfl rfl ?_))
      refine xb rfl (fun hb => ?_) (fun hb => ?_)
      · have hb : ¬ x0 = mkv .i64 (v) := by simpa [mkv, nx] using hb
        exact xr rfl (xret rfl ⟨⟨rfl, congrArg (Value.int .i64) (ng_none (hdR_none (i := i + 1) (hst.trans (by simp only [hd, if_neg hb])))).symm, trivial⟩, nodB_nodup rfl⟩)
      have hb0 : x0 = mkv .i64 (v) := by simpa [mkv, nx] using hb
      clear hb
      refine xs rfl (Int.natCast_nonneg _) (xrow rfl _ hg (xs rfl rfl ?_))
      refine xcall rfl (heldTryS_pc x1 (nx (v)) h1) rfl ⟨trivial, trivial, trivial⟩ ?_
      generalize hk1 : ng (hdR (hd sh_Try) x1 (nx (v))) = k1
      refine xb rfl (fun hb => ?_) (fun hb => ?_)
      · have hb : k1 < 0 := by simpa using hb
        exact xr rfl (xret rfl ⟨⟨rfl, congrArg (Value.int .i64) (ng_none (hdR_none (i := i + 1) (hst.trans (by simp only [hd, if_pos hb0, hk1, ps_no hb]; rfl)))).symm, trivial⟩, nodB_nodup rfl⟩)
      have hb1 : ¬ k1 < 0 := by simpa using hb
      clear hb
      refine xs rfl (Int.natCast_nonneg _) (xrow rfl _ hg (xs rfl rfl ?_))
      refine xcall rfl (heldHeardS_pc x2 (k1) h2) rfl ⟨trivial, trivial, trivial⟩ ?_
      generalize hk2 : ng (hdR (hd sh_Heard) x2 (k1)) = k2
      refine xb rfl (fun hb => ?_) (fun hb => ?_)
      · have hb : k2 < 0 := by simpa using hb
        exact xr rfl (xret rfl ⟨⟨rfl, congrArg (Value.int .i64) (ng_none (hdR_none (i := i + 1) (hst.trans (by simp only [hd, if_pos hb0, hk1, ps_ok hb1, Option.bind_some, hk2, ps_no hb]; rfl)))).symm, trivial⟩, nodB_nodup rfl⟩)
      have hb2 : ¬ k2 < 0 := by simpa using hb
      clear hb
      refine xcont rfl (hJ _ (i + 1, k2) ⟨by dsimp only; omega, hst.trans (by simp only [hd, if_pos hb0, hk1, ps_ok hb1, Option.bind_some, hk2, ps_ok hb2, Option.bind_some])⟩ (by dsimp only; omega) ?_)
      exact ⟨⟨cwi (by omega) (by omega) (by omega), rfl, rfl, trivial⟩, trivial, rfl⟩
    · have h : ¬ i < rr.length := by simpa using h
      have : i = rr.length := by omega
      subst this
      rw [List.take_length] at hv
      exact xr rfl (xret rfl ⟨⟨rfl, congrArg (Value.int .i64) (by rw [hv]; rfl), trivial⟩, nodB_nodup rfl⟩)
theorem heldMessageS_pc (rr : List (List Cell)) (k : Int) (hw : WR 9000000000000000000 sh_Message rr) : PC Try.prog 82 [.one (.l rr), .one (i64 k)] (rI (ng (hdR (hd sh_Message) rr k))) := by
  refine PC.begin Try.func82 rfl (by kernel_rfl) ?_
  have hlen := hw.1
  refine xloop rfl (ι := Nat × Int) (fun x => x.1 ≤ rr.length ∧ hdR (hd sh_Message) (rr.take x.1) k = some x.2) (fun x => ⟨[(5, sV (.int .i64 x.1)), (1, sV (.int .i64 x.2)), (0, .one (.b (.l rr)))], []⟩) (fun x => rr.length - x.1) (0, k) ⟨Nat.zero_le _, rfl⟩ ?_ ?_
  · exact ⟨⟨rfl, rfl, rfl, trivial⟩, trivial, rfl⟩
  · intro ⟨i, v⟩ ⟨hi, hv⟩ J hJ
    dsimp only at hi hv ⊢
    refine xb rfl (fun h => ?_) (fun h => ?_)
    · have h : i < rr.length := by simpa using h
      obtain ⟨row, hg⟩ : ∃ row, rr[i]? = some row := ⟨_, List.getElem?_eq_getElem h⟩
      obtain ⟨x0, x1, x2, x3, x4, x5, x6, x7, x8, rfl⟩ := inv_Message (hw.2 row (List.mem_of_getElem? hg))
      have hst := hdR_step hg hv
      refine xs rfl (Int.natCast_nonneg _) (xrow rfl _ hg (xs rfl rfl ?_))
      refine xb rfl (fun hb => ?_) (fun hb => ?_)
      · have hb : ¬ x0 = mkv .i64 (v) := by simpa [mkv, nx] using hb
        exact xr rfl (xret rfl ⟨⟨rfl, congrArg (Value.int .i64) (ng_none (hdR_none (i := i + 1) (hst.trans (by simp only [hd, if_neg hb])))).symm, trivial⟩, nodB_nodup rfl⟩)
      have hb0 : x0 = mkv .i64 (v) := by simpa [mkv, nx] using hb
      clear hb
      refine xs rfl (Int.natCast_nonneg _) (xrow rfl _ hg (xs rfl rfl ?_))
      refine xb rfl (fun hb => ?_) (fun hb => ?_)
      · have hb : ¬ x1 = mkv .i64 (nx (v)) := by simpa [mkv, nx] using hb
        exact xr rfl (xret rfl ⟨⟨rfl, congrArg (Value.int .i64) (ng_none (hdR_none (i := i + 1) (hst.trans (by simp only [hd, if_neg hb, if_pos hb0])))).symm, trivial⟩, nodB_nodup rfl⟩)
      have hb1 : x1 = mkv .i64 (nx (v)) := by simpa [mkv, nx] using hb
      clear hb
      refine xs rfl (Int.natCast_nonneg _) (xrow rfl _ hg (xs rfl rfl ?_))
      refine xb rfl (fun hb => ?_) (fun hb => ?_)
      · have hb : ¬ x2 = mkv .i64 (nx (nx (v))) := by simpa [mkv, nx] using hb
        exact xr rfl (xret rfl ⟨⟨rfl, congrArg (Value.int .i64) (ng_none (hdR_none (i := i + 1) (hst.trans (by simp only [hd, if_neg hb, if_pos hb0, if_pos hb1])))).symm, trivial⟩, nodB_nodup rfl⟩)
      have hb2 : x2 = mkv .i64 (nx (nx (v))) := by simpa [mkv, nx] using hb
      clear hb
      refine xs rfl (Int.natCast_nonneg _) (xrow rfl _ hg (xs rfl rfl ?_))
      refine xb rfl (fun hb => ?_) (fun hb => ?_)
      · have hb : ¬ x3 = mkv .i64 (nx (nx (nx (v)))) := by simpa [mkv, nx] using hb
        exact xr rfl (xret rfl ⟨⟨rfl, congrArg (Value.int .i64) (ng_none (hdR_none (i := i + 1) (hst.trans (by simp only [hd, if_neg hb, if_pos hb0, if_pos hb1, if_pos hb2])))).symm, trivial⟩, nodB_nodup rfl⟩)
      have hb3 : x3 = mkv .i64 (nx (nx (nx (v)))) := by simpa [mkv, nx] using hb
      clear hb
      refine xs rfl (Int.natCast_nonneg _) (xrow rfl _ hg (xs rfl rfl ?_))
      refine xb rfl (fun hb => ?_) (fun hb => ?_)
      · have hb : ¬ x4 = mkv .i64 (nx (nx (nx (nx (v))))) := by simpa [mkv, nx] using hb
        exact xr rfl (xret rfl ⟨⟨rfl, congrArg (Value.int .i64) (ng_none (hdR_none (i := i + 1) (hst.trans (by simp only [hd, if_neg hb, if_pos hb0, if_pos hb1, if_pos hb2, if_pos hb3])))).symm, trivial⟩, nodB_nodup rfl⟩)
      have hb4 : x4 = mkv .i64 (nx (nx (nx (nx (v))))) := by simpa [mkv, nx] using hb
      clear hb
      refine xs rfl (Int.natCast_nonneg _) (xrow rfl _ hg (xs rfl rfl ?_))
      refine xb rfl (fun hb => ?_) (fun hb => ?_)
      · have hb : ¬ x5 = mkv .i64 (nx (nx (nx (nx (nx (v)))))) := by simpa [mkv, nx] using hb
        exact xr rfl (xret rfl ⟨⟨rfl, congrArg (Value.int .i64) (ng_none (hdR_none (i := i + 1) (hst.trans (by simp only [hd, if_neg hb, if_pos hb0, if_pos hb1, if_pos hb2, if_pos hb3, if_pos hb4])))).symm, trivial⟩, nodB_nodup rfl⟩)
      have hb5 : x5 = mkv .i64 (nx (nx (nx (nx (nx (v)))))) := by simpa [mkv, nx] using hb
      clear hb
      refine xs rfl (Int.natCast_nonneg _) (xrow rfl _ hg (xs rfl rfl ?_))
      refine xb rfl (fun hb => ?_) (fun hb => ?_)
      · have hb : ¬ x6 = mkv .i64 (nx (nx (nx (nx (nx (nx (v))))))) := by simpa [mkv, nx] using hb
        exact xr rfl (xret rfl ⟨⟨rfl, congrArg (Value.int .i64) (ng_none (hdR_none (i := i + 1) (hst.trans (by simp only [hd, if_neg hb, if_pos hb0, if_pos hb1, if_pos hb2, if_pos hb3, if_pos hb4, if_pos hb5])))).symm, trivial⟩, nodB_nodup rfl⟩)
      have hb6 : x6 = mkv .i64 (nx (nx (nx (nx (nx (nx (v))))))) := by simpa [mkv, nx] using hb
      clear hb
      refine xs rfl (Int.natCast_nonneg _) (xrow rfl _ hg (xs rfl rfl ?_))
      refine xb rfl (fun hb => ?_) (fun hb => ?_)
      · have hb : ¬ x7 = mkv .i64 (nx (nx (nx (nx (nx (nx (nx (v)))))))) := by simpa [mkv, nx] using hb
        exact xr rfl (xret rfl ⟨⟨rfl, congrArg (Value.int .i64) (ng_none (hdR_none (i := i + 1) (hst.trans (by simp only [hd, if_neg hb, if_pos hb0, if_pos hb1, if_pos hb2, if_pos hb3, if_pos hb4, if_pos hb5, if_pos hb6])))).symm, trivial⟩, nodB_nodup rfl⟩)
      have hb7 : x7 = mkv .i64 (nx (nx (nx (nx (nx (nx (nx (v)))))))) := by simpa [mkv, nx] using hb
      clear hb
      refine xs rfl (Int.natCast_nonneg _) (xrow rfl _ hg (xs rfl rfl ?_))
      refine xb rfl (fun hb => ?_) (fun hb => ?_)
      · have hb : ¬ x8 = mkv .i64 (nx (nx (nx (nx (nx (nx (nx (nx (v))))))))) := by simpa [mkv, nx] using hb
        exact xr rfl (xret rfl ⟨⟨rfl, congrArg (Value.int .i64) (ng_none (hdR_none (i := i + 1) (hst.trans (by simp only [hd, if_neg hb, if_pos hb0, if_pos hb1, if_pos hb2, if_pos hb3, if_pos hb4, if_pos hb5, if_pos hb6, if_pos hb7])))).symm, trivial⟩, nodB_nodup rfl⟩)
      have hb8 : x8 = mkv .i64 (nx (nx (nx (nx (nx (nx (nx (nx (v))))))))) := by simpa [mkv, nx] using hb
      clear hb
      refine xcont rfl (hJ _ (i + 1, nx (nx (nx (nx (nx (nx (nx (nx (nx (v)))))))))) ⟨by dsimp only; omega, hst.trans (by simp only [hd, if_pos hb0, if_pos hb1, if_pos hb2, if_pos hb3, if_pos hb4, if_pos hb5, if_pos hb6, if_pos hb7, if_pos hb8])⟩ (by dsimp only; omega) ?_)
      exact ⟨⟨cwi (by omega) (by omega) (by omega), rfl, rfl, trivial⟩, trivial, rfl⟩
    · have h : ¬ i < rr.length := by simpa using h
      have : i = rr.length := by omega
      subst this
      rw [List.take_length] at hv
      exact xr rfl (xret rfl ⟨⟨rfl, congrArg (Value.int .i64) (by rw [hv]; rfl), trivial⟩, nodB_nodup rfl⟩)
theorem heldCluster_pc (x0 : List (List Cell)) (x1 : List (List Cell)) (x2 : List (List Cell)) (x3 : List (List Cell)) (x4 : List (List Cell)) (k : Int) (h0 : WR 9000000000000000000 sh_Contract x0) (h1 : WR 9000000000000000000 sh_Shard x1) (h2 : WR 9000000000000000000 sh_Acceptor x2) (h3 : WR 9000000000000000000 sh_Leader x3) (h4 : WR 9000000000000000000 sh_Message x4) (hk : 0 ≤ k) : PC Try.prog 39 [.agg [.l x0, .l x1, .l x2, .l x3, .l x4], .one (i64 k)] (rI (ng (ht sh_Cluster [.l x0, .l x1, .l x2, .l x3, .l x4] k))) := by
  refine PC.begin Try.func39 rfl (by kernel_rfl) ?_
  have e : ht sh_Cluster [.l x0, .l x1, .l x2, .l x3, .l x4] k = ((ps (ng (hdR (hd sh_Contract) x0 k))).bind fun v1 => (ps (ng (hdR (hd sh_Shard) x1 v1))).bind fun v2 => (ps (ng (hdR (hd sh_Acceptor) x2 v2))).bind fun v3 => (ps (ng (hdR (hd sh_Leader) x3 v3))).bind fun v4 => (ps (ng (hdR (hd sh_Message) x4 v4))).bind fun v5 => some v5) := by simp only [ht, Option.bind_assoc, Option.bind_some]
  rw [e]
  refine xcall rfl (heldContractS_pc x0 k h0) rfl ⟨trivial, trivial, trivial⟩ ?_
  generalize hk0 : ng (hdR (hd sh_Contract) x0 (k)) = k0
  refine xb rfl (fun hb => ?_) (fun hb => ?_)
  · have hb : k0 < 0 := by simpa using hb
    exact xr rfl (xret rfl ⟨⟨rfl, congrArg (Value.int .i64) (ng_none (by simp only [hk0, ps_no hb]; rfl)).symm, trivial⟩, nodB_nodup rfl⟩)
  have hb0 : ¬ k0 < 0 := by simpa using hb
  have hp0 : 0 ≤ k0 := by omega
  clear hb
  refine xcall rfl (heldShardS_pc x1 k0 h1) rfl ⟨trivial, trivial, trivial⟩ ?_
  generalize hk1 : ng (hdR (hd sh_Shard) x1 (k0)) = k1
  refine xb rfl (fun hb => ?_) (fun hb => ?_)
  · have hb : k1 < 0 := by simpa using hb
    exact xr rfl (xret rfl ⟨⟨rfl, congrArg (Value.int .i64) (ng_none (by simp only [hk0, ps_ok hb0, Option.bind_some, hk1, ps_no hb]; rfl)).symm, trivial⟩, nodB_nodup rfl⟩)
  have hb1 : ¬ k1 < 0 := by simpa using hb
  have hp1 : 0 ≤ k1 := by omega
  clear hb
  refine xcall rfl (heldAcceptorS_pc x2 k1 h2) rfl ⟨trivial, trivial, trivial⟩ ?_
  generalize hk2 : ng (hdR (hd sh_Acceptor) x2 (k1)) = k2
  refine xb rfl (fun hb => ?_) (fun hb => ?_)
  · have hb : k2 < 0 := by simpa using hb
    exact xr rfl (xret rfl ⟨⟨rfl, congrArg (Value.int .i64) (ng_none (by simp only [hk0, ps_ok hb0, Option.bind_some, hk1, ps_ok hb1, Option.bind_some, hk2, ps_no hb]; rfl)).symm, trivial⟩, nodB_nodup rfl⟩)
  have hb2 : ¬ k2 < 0 := by simpa using hb
  have hp2 : 0 ≤ k2 := by omega
  clear hb
  refine xcall rfl (heldLeaderS_pc x3 k2 h3) rfl ⟨trivial, trivial, trivial⟩ ?_
  generalize hk3 : ng (hdR (hd sh_Leader) x3 (k2)) = k3
  refine xb rfl (fun hb => ?_) (fun hb => ?_)
  · have hb : k3 < 0 := by simpa using hb
    exact xr rfl (xret rfl ⟨⟨rfl, congrArg (Value.int .i64) (ng_none (by simp only [hk0, ps_ok hb0, Option.bind_some, hk1, ps_ok hb1, Option.bind_some, hk2, ps_ok hb2, Option.bind_some, hk3, ps_no hb]; rfl)).symm, trivial⟩, nodB_nodup rfl⟩)
  have hb3 : ¬ k3 < 0 := by simpa using hb
  have hp3 : 0 ≤ k3 := by omega
  clear hb
  refine xcall rfl (heldMessageS_pc x4 k3 h4) rfl ⟨trivial, trivial, trivial⟩ ?_
  generalize hk4 : ng (hdR (hd sh_Message) x4 (k3)) = k4
  refine xb rfl (fun hb => ?_) (fun hb => ?_)
  · have hb : k4 < 0 := by simpa using hb
    exact xr rfl (xret rfl ⟨⟨rfl, congrArg (Value.int .i64) (ng_none (by simp only [hk0, ps_ok hb0, Option.bind_some, hk1, ps_ok hb1, Option.bind_some, hk2, ps_ok hb2, Option.bind_some, hk3, ps_ok hb3, Option.bind_some, hk4, ps_no hb]; rfl)).symm, trivial⟩, nodB_nodup rfl⟩)
  have hb4 : ¬ k4 < 0 := by simpa using hb
  have hp4 : 0 ≤ k4 := by omega
  clear hb
  exact xr rfl (xret rfl ⟨⟨rfl, congrArg (Value.int .i64) (by simp only [hk0, ps_ok hb0, Option.bind_some, hk1, ps_ok hb1, Option.bind_some, hk2, ps_ok hb2, Option.bind_some, hk3, ps_ok hb3, Option.bind_some, hk4, ps_ok hb4, Option.bind_some]; rfl), trivial⟩, nodB_nodup rfl⟩)
end Go.Proofs.Ytlkjdcpcbnfbbaa
end
section
namespace Go.Proofs.Ytlkjdcpcbnfbbaa
open Go Go.Sx
set_option maxRecDepth 20000
theorem toBalance_pc (x0 : Int) (x1 : Int) (x2 : Int)  : PC Try.prog 87 [.agg [.s (.int .i64 x0), .s (.int .i64 x1), .s (.int .i64 x2)]] (.one (.own true [.s (.int .i64 x0), .s (.int .i64 x1), .s (.int .i64 x2)])) := by
  refine PC.begin Try.func87 rfl (by kernel_rfl) ?_
  exact xr rfl (xret rfl ⟨⟨rfl, rfl, rfl, rfl, trivial⟩, nodB_nodup rfl⟩)
theorem toBalanceS_pc (rr : List (List Cell)) (hw : WR 1048576 sh_Balance rr) : PC Try.prog 44 [.one (.l rr)] (.one (.own false [.l 3 rr])) := by
  refine PC.begin Try.func44 rfl (by kernel_rfl) ?_
  have hlen := hw.1
  refine xs rfl rfl (xs rfl (Int.natCast_nonneg _) (xs rfl (by omega) (xs rfl (by omega) ?_)))
  refine xloop rfl (ι := Nat) (fun i => i ≤ rr.length) (fun i => ⟨[(4, sV (.int .i64 i)), (3, .one (.h 7 rr.length)), (0, .one (.b (.l rr)))], [(7, .arr true 3 0 (rr.take i ++ List.replicate (rr.length - i) [.s (.int .i64 0), .s (.int .i64 0), .s (.int .i64 0)]))]⟩) (fun i => rr.length - i) 0 (Nat.zero_le _) ?_ ?_
  · repeat' (first | exact trivial | exact rfl | exact Or.inl rfl | refine And.intro ?_ ?_)
  · intro i hi J hJ
    refine xb rfl (fun h => ?_) (fun h => ?_)
    · have h : i < rr.length := by simpa using h
      obtain ⟨row, hg⟩ : ∃ row, rr[i]? = some row := ⟨_, List.getElem?_eq_getElem h⟩
      obtain ⟨x0, x1, x2, rfl⟩ := inv_Balance (hw.2 row (List.mem_of_getElem? hg))
      refine xs rfl (Int.natCast_nonneg _) (xrow rfl _ hg (xs rfl rfl ?_))
      refine xcall rfl (toBalance_pc _ _ _) rfl ⟨⟨trivial, trivial, trivial, trivial⟩, trivial⟩ ?_
      refine xs rfl (len_fill _ _ _ _ (by omega) rfl).symm (xs rfl (Int.natCast_nonneg _) (xrow rfl [.s (.int .i64 0), .s (.int .i64 0), .s (.int .i64 0)] (get_fill _ _ _ _ (by omega) rfl) (xs rfl rfl ?_)))
      refine xs rfl (len_fill _ _ _ _ (by omega) rfl).symm (xrow rfl [.s (.int .i64 0), .s (.int .i64 0), .s (.int .i64 0)] (get_fill _ _ _ _ (by omega) rfl) (xs rfl (by decide) (xs rfl ⟨trivial, trivial, trivial, trivial⟩ ?_)))
      refine xcont rfl (hJ _ (i + 1) (by omega) (by omega) ?_)
      repeat' (first | exact trivial | exact rfl | exact Or.inl rfl | exact cwi (by omega) (by omega) (by omega) | refine And.intro ?_ ?_)
      exact set_fill _ _ _ _ _ hg rfl
    · have h : ¬ i < rr.length := by simpa using h
      have : i = rr.length := by omega
      subst this
      refine xr rfl (xret rfl ⟨⟨rfl, ⟨(len_fill _ _ _ _ (by omega) rfl).symm, all_fill _ _ _ rfl, Or.inl rfl⟩, trivial⟩, nodB_nodup rfl⟩)
theorem toInt64S_pc (rr : List (List Cell)) (hw : WR 1048576 (.i .i64 .nil) rr) : PC Try.prog 57 [.one (.l rr)] (.one (.own false [.l 1 rr])) := by
  refine PC.begin Try.func57 rfl (by kernel_rfl) ?_
  have hlen := hw.1
  refine xs rfl rfl (xs rfl (Int.natCast_nonneg _) (xs rfl (by omega) (xs rfl (by omega) ?_)))
  refine xloop rfl (ι := Nat) (fun i => i ≤ rr.length) (fun i => ⟨[(4, sV (.int .i64 i)), (3, .one (.h 7 rr.length)), (0, .one (.b (.l rr)))], [(7, .arr true 1 0 (rr.take i ++ List.replicate (rr.length - i) [.s (.int .i64 0)]))]⟩) (fun i => rr.length - i) 0 (Nat.zero_le _) ?_ ?_
  · repeat' (first | exact trivial | exact rfl | exact Or.inl rfl | refine And.intro ?_ ?_)
  · intro i hi J hJ
    refine xb rfl (fun h => ?_) (fun h => ?_)
    · have h : i < rr.length := by simpa using h
      obtain ⟨row, hg⟩ : ∃ row, rr[i]? = some row := ⟨_, List.getElem?_eq_getElem h⟩
      obtain ⟨x0, _, rfl, hnil⟩ := ((hw.2 row (List.mem_of_getElem? hg))).inv_i; obtain rfl := hnil.inv_nil
      refine xs rfl (Int.natCast_nonneg _) (xrow rfl _ hg (xs rfl rfl ?_))
      refine xs rfl (len_fill _ _ _ _ (by omega) rfl).symm (xs rfl (Int.natCast_nonneg _) (xrow rfl [.s (.int .i64 0)] (get_fill _ _ _ _ (by omega) rfl) (xs rfl rfl ?_)))
      refine xs rfl (len_fill _ _ _ _ (by omega) rfl).symm (xrow rfl [.s (.int .i64 0)] (get_fill _ _ _ _ (by omega) rfl) (xs rfl (by decide) (xs rfl ⟨trivial, trivial⟩ ?_)))
      refine xcont rfl (hJ _ (i + 1) (by omega) (by omega) ?_)
      repeat' (first | exact trivial | exact rfl | exact Or.inl rfl | exact cwi (by omega) (by omega) (by omega) | refine And.intro ?_ ?_)
      exact set_fill _ _ _ _ _ hg rfl
    · have h : ¬ i < rr.length := by simpa using h
      have : i = rr.length := by omega
      subst this
      refine xr rfl (xret rfl ⟨⟨rfl, ⟨(len_fill _ _ _ _ (by omega) rfl).symm, all_fill _ _ _ rfl, Or.inl rfl⟩, trivial⟩, nodB_nodup rfl⟩)
end Go.Proofs.Ytlkjdcpcbnfbbaa
end
section
namespace Go.Proofs.Ytlkjdcpcbnfbbaa
open Go Go.Sx
set_option maxRecDepth 20000
theorem szBalanceS_pc (rr : List (List Cell)) (b : Int) (hw : WR 9223372036854775807 sh_Balance rr) (p0 : 0 ≤ b) (p1 : b ≤ 1048576) : PC Try.prog 40 [.one (.l rr), .one (.s (.int .i64 b))] (rI (szn b (totR sh_Balance rr))) := by
  refine PC.begin Try.func40 rfl (by kernel_rfl) ?_
  have hlen := hw.1
  have w1 : IntKind.i64.wrap (b - rr.length) = b - rr.length := wrap_i64 (by omega) (by omega)
  rw [totR_leaf (fun row hr => by obtain ⟨x0, x1, x2, rfl⟩ := inv_Balance hr; rfl) hw]
  refine xb rfl (fun h => ?_) (fun h => ?_)
  · simp only [w1, decide_eq_true_eq] at h
    exact xr rfl (xret rfl ⟨⟨rfl, (by show Value.int _ _ = Value.int _ _; rw [szn, if_pos h]), trivial⟩, nodB_nodup rfl⟩)
  · simp only [w1, decide_eq_false_iff_not] at h
    exact xr rfl (xret rfl ⟨⟨rfl, (by show Value.int .i64 (IntKind.i64.wrap (b - rr.length)) = Value.int _ _; rw [szn, if_neg h, w1]), trivial⟩, nodB_nodup rfl⟩)
theorem szInt64S_pc (rr : List (List Cell)) (b : Int) (hw : WR 9223372036854775807 (.i .i64 .nil) rr) (p0 : 0 ≤ b) (p1 : b ≤ 1048576) : PC Try.prog 56 [.one (.l rr), .one (.s (.int .i64 b))] (rI (szn b (totR (.i .i64 .nil) rr))) := by
  refine PC.begin Try.func56 rfl (by kernel_rfl) ?_
  have hlen := hw.1
  have w1 : IntKind.i64.wrap (b - rr.length) = b - rr.length := wrap_i64 (by omega) (by omega)
  rw [totR_leaf (fun row hr => by obtain ⟨x0, _, rfl, hnil⟩ := (hr).inv_i; obtain rfl := hnil.inv_nil; rfl) hw]
  refine xb rfl (fun h => ?_) (fun h => ?_)
  · simp only [w1, decide_eq_true_eq] at h
    exact xr rfl (xret rfl ⟨⟨rfl, (by show Value.int _ _ = Value.int _ _; rw [szn, if_pos h]), trivial⟩, nodB_nodup rfl⟩)
  · simp only [w1, decide_eq_false_iff_not] at h
    exact xr rfl (xret rfl ⟨⟨rfl, (by show Value.int .i64 (IntKind.i64.wrap (b - rr.length)) = Value.int _ _; rw [szn, if_neg h, w1]), trivial⟩, nodB_nodup rfl⟩)
end Go.Proofs.Ytlkjdcpcbnfbbaa
end
section
namespace Go.Proofs.Ytlkjdcpcbnfbbaa
open Go Go.Sx
set_option maxRecDepth 20000
set_option maxHeartbeats 4000000
theorem toSession_pc (x0 : Int) (x1 : Int) (x2 : List (List Cell)) (h2 : WR 1048576 (.i .i64 .nil) x2) : PC Try.prog 28 [.agg [.s (.int .i64 x0), .s (.int .i64 x1), .l x2]] (.one (.own true [.s (.int .i64 x0), .s (.int .i64 x1), .l 1 x2])) := by
  refine PC.begin Try.func28 rfl (by kernel_rfl) ?_
  refine xcall rfl (toInt64S_pc _ h2) rfl ⟨trivial, trivial⟩ ?_
  exact xr rfl (xret rfl ⟨⟨rfl, rfl, rfl, ⟨rfl, rfl, .inl rfl⟩, trivial⟩, nodB_nodup rfl⟩)
theorem toSessionS_pc (rr : List (List Cell)) (hw : WR 1048576 sh_Session rr) : PC Try.prog 7 [.one (.l rr)] (.one (.own false [.l 3 rr])) := by
  refine PC.begin Try.func7 rfl (by kernel_rfl) ?_
  have hlen := hw.1
  refine xs rfl rfl (xs rfl (Int.natCast_nonneg _) (xs rfl (by omega) (xs rfl (by omega) ?_)))
  refine xloop rfl (ι := Nat) (fun i => i ≤ rr.length) (fun i => ⟨[(4, sV (.int .i64 i)), (3, .one (.h 7 rr.length)), (0, .one (.b (.l rr)))], [(7, .arr true 3 0 (rr.take i ++ List.replicate (rr.length - i) [.s (.int .i64 0), .s (.int .i64 0), .l []]))]⟩) (fun i => rr.length - i) 0 (Nat.zero_le _) ?_ ?_
  · repeat' (first | exact trivial | exact rfl | exact Or.inl rfl | refine And.intro ?_ ?_)
  · intro i hi J hJ
    refine xb rfl (fun h => ?_) (fun h => ?_)
    · have h : i < rr.length := by simpa using h
      obtain ⟨row, hg⟩ : ∃ row, rr[i]? = some row := ⟨_, List.getElem?_eq_getElem h⟩
      obtain ⟨x0, x1, x2, rfl, h2⟩ := inv_Session (hw.2 row (List.mem_of_getElem? hg))
      refine xs rfl (Int.natCast_nonneg _) (xrow rfl _ hg (xs rfl rfl ?_))
      refine xcall rfl (toSession_pc _ _ _ h2) rfl ⟨⟨trivial, trivial, trivial, trivial⟩, trivial⟩ ?_
      refine xs rfl (len_fill _ _ _ _ (by omega) rfl).symm (xs rfl (Int.natCast_nonneg _) (xrow rfl [.s (.int .i64 0), .s (.int .i64 0), .l []] (get_fill _ _ _ _ (by omega) rfl) (xs rfl rfl ?_)))
      refine xs rfl (len_fill _ _ _ _ (by omega) rfl).symm (xrow rfl [.s (.int .i64 0), .s (.int .i64 0), .l []] (get_fill _ _ _ _ (by omega) rfl) (xs rfl (by decide) (xs rfl ⟨trivial, trivial, ⟨rfl, rfl⟩, trivial⟩ ?_)))
      refine xcont rfl (hJ _ (i + 1) (by omega) (by omega) ?_)
      repeat' (first | exact trivial | exact rfl | exact Or.inl rfl | exact cwi (by omega) (by omega) (by omega) | refine And.intro ?_ ?_)
      exact set_fill _ _ _ _ _ hg rfl
    · have h : ¬ i < rr.length := by simpa using h
      have : i = rr.length := by omega
      subst this
      refine xr rfl (xret rfl ⟨⟨rfl, ⟨(len_fill _ _ _ _ (by omega) rfl).symm, all_fill _ _ _ rfl, Or.inl rfl⟩, trivial⟩, nodB_nodup rfl⟩)
theorem szSession_pc (x0 : Int) (x1 : Int) (x2 : List (List Cell)) (b : Int) (h2 : WR 9223372036854775807 (.i .i64 .nil) x2) (hb0 : 0 ≤ b) (hb1 : b ≤ 1048576) : PC Try.prog 23 [.agg [.s (.int .i64 x0), .s (.int .i64 x1), .l x2], .one (.s (.int .i64 b))] (rI (szn b (tot sh_Session [.s (.int .i64 x0), .s (.int .i64 x1), .l x2]))) := by
  refine PC.begin Try.func23 rfl (by kernel_rfl) ?_
  have ht : tot sh_Session [.s (.int .i64 x0), .s (.int .i64 x1), .l x2] = totR (.i .i64 .nil) x2 := by simp only [tot, totR] <;> omega
  refine xcall rfl (szInt64S_pc x2 b h2 hb0 hb1) rfl ⟨trivial, trivial, trivial⟩ ?_
  refine xb rfl (fun h => ?_) (fun e0 => ?_)
  · have h : szn b (totR (.i .i64 .nil) x2) < 0 := by simpa using h
    exact xr rfl (xret rfl ⟨⟨rfl, (by show Value.int _ _ = Value.int _ _; congr 1; rw [ht]; unfold szn at *; split at h <;> rw [if_pos] <;> omega), trivial⟩, nodB_nodup rfl⟩)
  have e0 : 0 ≤ szn b (totR (.i .i64 .nil) x2) := by simpa using e0
  exact xr rfl (xret rfl ⟨⟨rfl, (by show Value.int _ _ = Value.int _ _; rw [ht]), trivial⟩, nodB_nodup rfl⟩)
theorem szSessionS_pc (rr : List (List Cell)) (b : Int) (hw : WR 9223372036854775807 sh_Session rr) (p0 : 0 ≤ b) (p1 : b ≤ 1048576) : PC Try.prog 5 [.one (.l rr), .one (.s (.int .i64 b))] (rI (szn b (totR sh_Session rr))) := by
  refine PC.begin Try.func5 rfl (by kernel_rfl) ?_
  have hlen := hw.1
  have w1 : IntKind.i64.wrap (b - rr.length) = b - rr.length := wrap_i64 (by omega) (by omega)
  refine xb rfl (fun h => ?_) (fun h => ?_)
  · simp only [w1, decide_eq_true_eq] at h
    exact xr rfl (xret rfl ⟨⟨rfl, (by show Value.int _ _ = Value.int _ _; unfold szn totR; rw [if_pos (by omega)]), trivial⟩, nodB_nodup rfl⟩)
  simp only [w1, decide_eq_false_iff_not] at h
  have hs : szn b rr.length = b - rr.length := by unfold szn; rw [if_neg h]
  refine xloop rfl (ι := Nat) (fun i => i ≤ rr.length ∧ 0 ≤ szn b (rr.length + cntR (tot sh_Session) (rr.take i))) (fun i => ⟨[(5, sV (.int .i64 i)), (1, sV (.int .i64 (szn b (rr.length + cntR (tot sh_Session) (rr.take i))))), (0, .one (.b (.l rr)))], []⟩) (fun i => rr.length - i) 0 ⟨Nat.zero_le _, by simp only [List.take_zero, cntR, Nat.add_zero, hs]; omega⟩ ?_ ?_
  · refine ⟨⟨rfl, ?_, rfl, trivial⟩, trivial, rfl⟩
    show Cell.s (.int .i64 (IntKind.i64.wrap (b - rr.length))) = Cell.s (.int .i64 (szn b (rr.length + 0)))
    rw [w1, Nat.add_zero, hs]
  · intro i ⟨hi, hb⟩ J hJ
    refine xb rfl (fun h => ?_) (fun h => ?_)
    · have h : i < rr.length := by simpa using h
      obtain ⟨row, hg⟩ : ∃ row, rr[i]? = some row := ⟨_, List.getElem?_eq_getElem h⟩
      have hc := cntR_step (f := tot sh_Session) hg
      have hc2 := cntR_split (tot sh_Session) rr (i + 1)
      obtain ⟨x0, x1, x2, rfl, h2⟩ := inv_Session (hw.2 row (List.mem_of_getElem? hg))
      refine xs rfl (Int.natCast_nonneg _) (xrow rfl _ hg (xs rfl rfl ?_))
      refine xcall rfl (szSession_pc _ _ _ _ h2 hb (szn_le p1 p0)) rfl ⟨⟨trivial, trivial, trivial, trivial⟩, trivial, trivial⟩ ?_
      refine xb rfl (fun hn => ?_) (fun hn => ?_)
      · have hn : szn (szn b (rr.length + cntR (tot sh_Session) (rr.take i))) (tot sh_Session [.s (.int .i64 x0), .s (.int .i64 x1), .l x2]) < 0 := by simpa using hn
        rw [szn_add hb] at hn
        exact xr rfl (xret rfl ⟨⟨rfl, (by show Value.int _ _ = Value.int _ _; congr 1; unfold szn totR at *; split at hn <;> rw [if_pos] <;> omega), trivial⟩, nodB_nodup rfl⟩)
      · have hn : ¬ szn (szn b (rr.length + cntR (tot sh_Session) (rr.take i))) (tot sh_Session [.s (.int .i64 x0), .s (.int .i64 x1), .l x2]) < 0 := by simpa using hn
        have he := szn_add (n := tot sh_Session [.s (.int .i64 x0), .s (.int .i64 x1), .l x2]) hb
        rw [he] at hn
        rw [Nat.add_assoc, ← hc] at he hn
        refine xcont rfl (hJ _ (i + 1) ⟨by omega, by omega⟩ (by omega) ?_)
        refine ⟨⟨cwi (by omega) (by omega) (by omega), ?_, rfl, trivial⟩, trivial, rfl⟩
        exact congrArg (fun n => Cell.s (.int .i64 n)) he
    · have h : ¬ i < rr.length := by simpa using h
      have : i = rr.length := by omega
      subst this
      exact xr rfl (xret rfl ⟨⟨rfl, (by show Value.int _ _ = Value.int _ _; rw [List.take_length]; rfl), trivial⟩, nodB_nodup rfl⟩)
theorem eqSession_pc (x0 : Int) (x1 : Int) (x2 : List (List Cell)) (y0 : Int) (y1 : Int) (y2 : List (List Cell)) (h2 : WR 9000000000000000000 (.i .i64 .nil) x2) (k2 : WR 9000000000000000000 (.i .i64 .nil) y2) : PC Try.prog 35 [.agg [.s (.int .i64 x0), .s (.int .i64 x1), .l x2], .agg [.s (.int .i64 y0), .s (.int .i64 y1), .l y2]] (rB (dE (α := List Cell) [.s (.int .i64 x0), .s (.int .i64 x1), .l x2] [.s (.int .i64 y0), .s (.int .i64 y1), .l y2])) := by
  refine PC.begin Try.func35 rfl (by kernel_rfl) ?_
  refine xb rfl (fun h => ?_) (fun e0 => ?_)
  · exact xr rfl (xret rfl ⟨⟨rfl, dE_no (fun e => by simp only [List.cons.injEq, Cell.s.injEq, Value.int.injEq, Value.bool.injEq, Value.string.injEq] at e; simp [e] at h), trivial⟩, nodB_nodup rfl⟩)
  have e0 : x0 = y0 := by simpa using e0
  refine xb rfl (fun h => ?_) (fun e1 => ?_)
  · exact xr rfl (xret rfl ⟨⟨rfl, dE_no (fun e => by simp only [List.cons.injEq, Cell.s.injEq, Value.int.injEq, Value.bool.injEq, Value.string.injEq] at e; simp [e] at h), trivial⟩, nodB_nodup rfl⟩)
  have e1 : x1 = y1 := by simpa using e1
  refine xcall rfl (eqInt64S_pc _ _ h2 k2) rfl ⟨trivial, trivial, trivial⟩ ?_
  refine xb rfl (fun h => ?_) (fun e2 => ?_)
  · exact xr rfl (xret rfl ⟨⟨rfl, dE_no (fun e => nE_ne h (by simp only [List.cons.injEq, Cell.l.injEq] at e ⊢; simp only [e]; try trivial)), trivial⟩, nodB_nodup rfl⟩)
  have e2 := nE_eq e2
  exact xr rfl (xret rfl ⟨⟨rfl, dE_yes (by simp [e0, e1, e2]), trivial⟩, nodB_nodup rfl⟩)
theorem eqSessionS_pc (p q : List (List Cell)) (hp : WR 9000000000000000000 sh_Session p) (hq : WR 9000000000000000000 sh_Session q) : PC Try.prog 10 [.one (.l p), .one (.l q)] (rB (dE p q)) := by
  refine PC.begin Try.func10 rfl (by kernel_rfl) ?_
  have hpl := hp.1
  have hql := hq.1
  refine xb rfl (fun h => ?_) (fun h => ?_)
  · exact xr rfl (xret rfl ⟨⟨rfl, dE_no (fun e => by subst e; simp at h), trivial⟩, nodB_nodup rfl⟩)
  have hl : p.length = q.length := by simpa [Int.ofNat_inj] using h
  refine xloop rfl (ι := Nat) (fun i => i ≤ p.length ∧ p.take i = q.take i) (fun i => ⟨[(5, sV (.int .i64 i)), (0, .one (.b (.l p))), (1, .one (.b (.l q)))], []⟩) (fun i => p.length - i) 0 ⟨Nat.zero_le _, rfl⟩ ?_ ?_
  · repeat' (first | exact trivial | exact rfl | exact Or.inl rfl | refine And.intro ?_ ?_)
  · intro i ⟨hi, he⟩ J hJ
    refine xb rfl (fun h => ?_) (fun h => ?_)
    · have h : i < p.length := by simpa using h
      obtain ⟨row, hg⟩ : ∃ row, p[i]? = some row := ⟨_, List.getElem?_eq_getElem h⟩
      obtain ⟨row', hg'⟩ : ∃ row, q[i]? = some row := ⟨_, List.getElem?_eq_getElem (by omega)⟩
      obtain ⟨x0, x1, x2, rfl, h2⟩ := inv_Session (hp.2 row (List.mem_of_getElem? hg))
      obtain ⟨y0, y1, y2, rfl, k2⟩ := inv_Session (hq.2 row' (List.mem_of_getElem? hg'))
      refine xdraw rfl [] (.take 0 [] (.take 1 [] (.take 2 [] (.take 3 [8, 9] (.take 4 [] (.take 5 [] (.take 6 [] (.take 7 [8, 9] (.alt 8 (.take 9 [] .done) .nil))))))))) (by kernel_rfl) ?_
      refine xs rfl (Int.natCast_nonneg _) (xrow rfl _ hg (xs rfl rfl ?_))
      refine xs rfl (Int.natCast_nonneg _) (xrow rfl _ hg' (xs rfl rfl ?_))
      refine xcall rfl (eqSession_pc _ _ _ _ _ _ h2 k2) rfl ⟨⟨trivial, trivial, trivial, trivial⟩, ⟨trivial, trivial, trivial, trivial⟩, trivial⟩ ?_
      refine xb rfl (fun hb => ?_) (fun hb => ?_)
      · exact xr rfl (xret rfl ⟨⟨rfl, dE_no (fun e => by subst e; rw [hg] at hg'; cases hg'; exact nE_ne hb rfl), trivial⟩, nodB_nodup rfl⟩)
      · have hb := nE_eq hb
        refine xcont rfl (hJ _ (i + 1) ⟨by omega, take_succ_eq he hg (hg'.trans (by rw [hb]))⟩ (by omega) ?_)
        repeat' (first | exact trivial | exact rfl | exact Or.inl rfl | exact cwi (by omega) (by omega) (by omega) | refine And.intro ?_ ?_)
    · have h : ¬ i < p.length := by simpa using h
      exact xr rfl (xret rfl ⟨⟨rfl, dE_yes (by rw [show i = p.length by omega, List.take_length] at he; rw [he, hl, List.take_length]), trivial⟩, nodB_nodup rfl⟩)
theorem markSessionS_pg (z : Nat) (rr : List (List Cell)) (k : Int) (hw : WR 9000000000000000000 sh_Session rr) : PG Try.prog 11 [.one (.giv true z rr), .one (.bor (i64 k))] (rI (mkR (mk sh_Session) rr k).2) [(0, (mkR (mk sh_Session) rr k).1)] := by
  refine PG.begin Try.func11 rfl (by kernel_rfl) ?_
  have hlen := hw.1
  refine xloop rfl (ι := Nat) (fun i => i ≤ rr.length) (fun i => ⟨[(5, sV (.int .i64 i)), (1, sV (.int .i64 (mdk (mk sh_Session) rr k i))), (0, .one (.h 1000000000 rr.length))], [(1000000000, .arr true z 0 (md (mk sh_Session) rr k i))]⟩) (fun i => rr.length - i) 0 (Nat.zero_le _) ?_ ?_
  · exact ⟨⟨rfl, congrArg (fun n => Cell.s (.int .i64 n)) mdk_zero.symm, ⟨rfl, rfl, rfl⟩, trivial⟩, ⟨⟨md_zero.symm, .inl rfl, .inl rfl⟩, trivial⟩, rfl⟩
  · intro i hi J hJ
    refine xb rfl (fun h => ?_) (fun h => ?_)
    · have h : i < rr.length := by simpa using h
      obtain ⟨row, hg⟩ : ∃ row, rr[i]? = some row := ⟨_, List.getElem?_eq_getElem h⟩
      obtain ⟨x0, x1, x2, rfl, h2⟩ := inv_Session (hw.2 row (List.mem_of_getElem? hg))
      have hl := md_len (f := (mk sh_Session)) (k := k) hi
      have hg0 := md_get (f := (mk sh_Session)) (k := k) hg
      have hlt : i < (md (mk sh_Session) rr k i).length := by omega
      refine xs rfl (hl).symm (xs rfl (Int.natCast_nonneg _) (xrow rfl _ hg0 (xs rfl rfl (xs rfl (hl).symm (xrow rfl _ hg0 (xs rfl (by show 0 + 1 ≤ 3; omega) (xs rfl ⟨trivial, trivial⟩ ?_)))))))
      refine xs rfl (lset (hl)).symm (xs rfl (Int.natCast_nonneg _) (xrow rfl _ (gset (hl) h) (xs rfl rfl (xs rfl (lset (hl)).symm (xrow rfl _ (gset (hl) h) (xs rfl (by show 1 + 1 ≤ 3; omega) (xs rfl ⟨trivial, trivial⟩ ?_)))))))
      refine xs rfl (lset (lset (hl))).symm (xs rfl (Int.natCast_nonneg _) (xrow rfl _ (gset (lset (hl)) h) (xs rfl rfl (xs rfl (lset (lset (hl))).symm (xrow rfl _ (gset (lset (hl)) h) ?_)))))
      refine xgive rfl (markInt64S_pg 0 _ _ h2) ⟨⟨rfl, rfl, rfl, _, (gset (lset (hl)) h), rfl⟩, rfl, trivial⟩ rfl ?_
      refine xcont rfl (hJ _ (i + 1) (by omega) (by omega) ?_)
      refine ⟨⟨cwi (by omega) (by omega) (by omega), ?_, ⟨rfl, rfl, rfl⟩, trivial⟩, ⟨⟨?_, .inl rfl, .inl rfl⟩, trivial⟩, rfl⟩
      · rw [mdk_succ hg]; rfl
      · refine Eq.trans ?_ (md_set hg)
        try simp only [Int.toNat_natCast, setRow_eq hg0, ssr hlt, List.set_set]
        rfl
    · have h : ¬ i < rr.length := by simpa using h
      have : i = rr.length := by omega
      subst this
      exact xr rfl (xretG rfl ⟨⟨rfl, congrArg (Value.int .i64) mdk_all, trivial⟩, nodB_nodup rfl⟩ ⟨⟨rfl, rfl, md_all, mkR_len _ _ _, mkR_rows hw⟩, trivial⟩)
end Go.Proofs.Ytlkjdcpcbnfbbaa
end
