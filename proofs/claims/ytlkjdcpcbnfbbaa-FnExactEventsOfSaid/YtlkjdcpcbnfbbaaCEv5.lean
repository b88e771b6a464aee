/- WHAT IS PROVED: FnExactEventsOf, for every argument of its parameters' types that can be read as data: the call returns true and its arguments read as before. No condition. -/
import Derived.Test.YtlkjdcpcbnfbbaaCEv4
import Derived.WalkKit
import Derived.OrdersHeld
import Derived.DeepKeys
import Derived.Maps.RangeWalk
import Derived.Maps.OwnOps
import Derived.WideKeyEntry
import Derived.Deep.Slices
import Derived.ChangeArms
import Derived.WideShapes
import Derived.Test.YtlkjdcpcbnfbbaaProg
import Derived.Laws.BytesArg
import Derived.Lib.Bytes
import Derived.Lib.AppendZerosOnto
import Derived.Shelf.Spec.SlicesInsertGrow
import Derived.Test.YtlkjdcpcbnfbbaaRows
import Derived.ProofKit
import Derived.OpenShut
import Derived.ShutString
import Derived.ChangeOld
import Derived.Below
import Derived.SizedLaws
set_option linter.unusedVariables false
set_option linter.unusedSimpArgs false
section
namespace Go.Proofs.Ytlkjdcpcbnfbbaa
open Go Go.Sx
abbrev tZb : AC := .b (.s (.int .i64 0))
abbrev tZc : Cell := .s (.int .i64 0)
abbrev tF (k : Nat) : Option Nat × Option (Bool × Nat × Nat) := (some k, some (false, k, 1))
abbrev tS : Option (Bool × Nat) := some (false, 1)
abbrev tNi : Option AV := some (.one .nil)
abbrev tEf : TI := ⟨(some (false, 1)), none, none, false, false, true, none, (some (.one (.b (.s .nilFunc)))), none, none, [], none⟩
abbrev tSl (n b : Nat) (r : List Cell) : TI := ⟨tS, some n, some (n, b), false, false, true, none, tNi, none, some r, [], none⟩
abbrev tSt (n : Nat) (z : List AC) (f : List (Option Nat × Option (Bool × Nat × Nat))) (c : Option (List CK)) : TI := ⟨some (true, n), none, none, false, false, true, none, some (.agg z), some z, none, f, c⟩
def tab : TT := (.node 89 (tSt 3 [tZb, tZb, .nil] [tF 0, tF 1, tF 2] none)
 (.node 33 (tSt 8 [tZb, tZb, .nil, .nil, .nil, .nil, .nil, .nil] [tF 0, tF 1, tF 2, ((some 3), (some (true, 3, 5)))] none)
 (.node 24 ⟨tS, (some 3), (some (3, 40)), false, false, true, none, tNi, none, (some [tZc, tZc, .l []]), [], none⟩
 (.node 5 ⟨tS, none, none, false, false, true, (some .u8), (some (.one (.b (.s (.int .u8 0))))), none, none, [], none⟩
 (.node 3 ⟨tS, none, none, false, false, true, (some .i64), (some (.one (tZb))), none, none, [], none⟩
 (.node 2 ⟨tS, none, none, false, false, true, (some .i64), (some (.one (tZb))), none, none, [], none⟩
 .leaf .leaf) (.node 4 ⟨tS, none, none, false, true, true, none, (some (.one (.b (.s (.bool false))))), none, none, [], none⟩
 .leaf .leaf)) (.node 22 ⟨tS, (some 3), (some (3, 40)), false, false, true, none, tNi, none, (some [tZc, tZc, .l []]), [], none⟩
 (.node 9 ⟨tS, none, none, true, false, true, none, (some (.one (.b (.s (.string ByteArray.empty))))), none, none, [], none⟩
 .leaf .leaf) .leaf)) (.node 28 ⟨tS, (some 3), (some (3, 56)), false, false, true, none, tNi, none, (some [tZc, .l [], .l []]), [], none⟩
 (.node 26 ⟨tS, (some 6), (some (6, 128)), false, false, true, none, tNi, none, (some [tZc, .l [], .l [], .l [], .l [], .l []]), [], none⟩
 (.node 25 ⟨tS, (some 2), (some (2, 32)), false, false, true, none, tNi, none, (some [tZc, .l []]), [], none⟩
 .leaf .leaf) (.node 27 ⟨tS, (some 1), (some (1, 24)), false, false, true, none, tNi, none, (some [.l []]), [], none⟩
 .leaf .leaf)) (.node 31 (tSt 5 [.nil, .nil, .nil, .nil, .nil] [tF 0, tF 1, tF 2, tF 3, tF 4] none)
 (.node 29 (tSl 9 72 [tZc, tZc, tZc, tZc, tZc, tZc, tZc, tZc, tZc])
 .leaf .leaf) .leaf))) (.node 52 (tSl 3 24 [tZc, tZc, tZc])
 (.node 46 (tSt 4 [tZb, .nil, .nil, .nil] [tF 0, tF 1, ((some 2), (some (true, 2, 2)))] none)
 (.node 42 (tSl 1 1 [.s (.int .u8 0)])
 (.node 41 (tSl 3 24 [tZc, tZc, tZc])
 .leaf .leaf) (.node 44 (tSt 2 [.nil, .nil] [tF 0, tF 1] none)
 .leaf .leaf)) (.node 50 (tSt 2 [tZb, .nil] [tF 0, tF 1] none)
 (.node 48 ⟨tS, (some 4), (some (4, 48)), false, false, true, none, tNi, none, (some [.s (.bool false), tZc, .l [], tZc]), [], none⟩
 .leaf .leaf) .leaf)) (.node 65 (tSt 3 [tZb, tZb, .nil] [tF 0, tF 1, tF 2] none)
 (.node 55 (tSt 4 [tZb, .nil, .nil, .nil] [tF 0, tF 1, ((some 2), (some (true, 2, 2)))] none)
 (.node 53 (tSt 2 [.nil, .nil] [tF 0, tF 1] none)
 .leaf .leaf) (.node 63 (tSl 1 8 [tZc])
 .leaf .leaf)) (.node 87 ⟨tS, (some 1), (some (1, 24)), false, false, true, none, tNi, none, (some [.l []]), [], none⟩
 (.node 70 (tSt 3 [tZb, tZb, .nil] [tF 0, tF 1, tF 2] none)
 .leaf .leaf) .leaf)))) (.node 157 ⟨tS, (some 6), (some (6, 80)), false, false, true, none, tNi, none, (some [tZc, tZc, tZc, tZc, .l [], .l []]), [], none⟩
 (.node 134 (tSt 3 [tZb, tZb, .nil] [tF 0, ((some 1), (some (true, 1, 2)))] none)
 (.node 109 tEf
 (.node 93 (tSt 2 [tZb, .nil] [tF 0, tF 1] none)
 (.node 91 (tSl 4 32 [tZc, tZc, tZc, tZc])
 .leaf .leaf) (.node 95 (tSt 4 [.b (.s (.bool false)), tZb, .nil, tZb] [tF 0, ((some 1), (some (true, 1, 2))), tF 3] none)
 .leaf .leaf)) (.node 129 (tSt 3 [tZb, tZb, tZb] [tF 0, tF 1, tF 2] (some [.i .i64, .i .i64, .i .i64]))
 (.node 127 (tSt 3 [tZb, tZb, tZb] [tF 0, tF 1, tF 2] (some [.i .i64, .i .i64, .i .i64]))
 .leaf .leaf) .leaf)) (.node 151 (tSt 6 [tZb, .nil, .nil, .nil, .nil, .nil] [tF 0, tF 1, tF 2, tF 3, tF 4, tF 5] none)
 (.node 146 ⟨tS, none, none, false, false, true, (some .u64), (some (.one (.b (.s (.int .u64 0))))), none, none, [], none⟩
 (.node 137 (tSt 2 [tZb, tZb] [tF 0, tF 1] (some [.i .i64, .i .i64]))
 .leaf .leaf) (.node 149 (tSl 2 16 [tZc, tZc])
 .leaf .leaf)) (.node 155 (tSt 1 [.nil] [tF 0] none)
 (.node 153 ⟨tS, (some 6), (some (6, 64)), false, false, true, none, tNi, none, (some [tZc, tZc, tZc, tZc, tZc, .l []]), [], none⟩
 .leaf .leaf) .leaf))) (.node 189 (tSt 2 [tZb, tZb] [tF 0, tF 1] (some [.i .i64, .i .i64]))
 (.node 165 (tSt 9 [tZb, tZb, tZb, tZb, tZb, tZb, tZb, tZb, tZb] [tF 0, tF 1, tF 2, tF 3, tF 4, tF 5, tF 6, ((some 7), (some (true, 7, 2)))] (some [.i .i64, .i .i64, .i .i64, .i .i64, .i .i64, .i .i64, .i .i64, .i .i64, .i .i64]))
 (.node 160 (tSt 3 [tZb, .nil, .nil] [tF 0, tF 1, tF 2] none)
 (.node 158 (tSl 5 40 [tZc, tZc, tZc, tZc, tZc])
 .leaf .leaf) (.node 163 (tSt 2 [tZb, tZb] [tF 0, tF 1] (some [.i .i64, .i .i64]))
 .leaf .leaf)) (.node 179 ⟨tS, none, none, false, false, true, (some .u64), (some (.one (.b (.s (.int .u64 0))))), none, none, [], none⟩
 (.node 176 (tSt 4 [tZb, tZb, tZb, tZb] [tF 0, tF 1, tF 2, tF 3] (some [.i .i64, .i .i64, .i .i64, .i .i64]))
 .leaf .leaf) .leaf)) (.node 197 (tSt 5 [tZb, tZb, tZb, tZb, tZb] [tF 0, tF 1, tF 2, tF 3, tF 4] (some [.i .i64, .i .i64, .i .i64, .i .i64, .i .i64]))
 (.node 192 (tSt 6 [tZb, tZb, tZb, tZb, tZb, .nil] [tF 0, tF 1, tF 2, ((some 3), (some (true, 3, 2))), tF 5] none)
 (.node 190 (tSl 2 16 [tZc, tZc])
 .leaf .leaf) (.node 195 (tSt 6 [tZb, tZb, tZb, tZb, .nil, .nil] [tF 0, tF 1, tF 2, tF 3, tF 4, tF 5] none)
 .leaf .leaf)) (.node 203 tEf
 (.node 199 ⟨tS, none, none, false, false, true, none, (some (.one (.b (.s (.map none))))), none, none, [], none⟩
 .leaf .leaf) .leaf)))))
theorem tab_ok : tab = tab.map Try.prog := by kernel_rfl
instance : Tabled Try.prog := ⟨tab, tab_ok, by kernel_rfl⟩
end Go.Proofs.Ytlkjdcpcbnfbbaa
end
section
namespace Go.Proofs.Ytlkjdcpcbnfbbaa
open Go Go.Sx
set_option maxRecDepth 20000
abbrev sh_Leg : Sh := (.i .i64 (.i .i64 (.i .i64 (.i .i64 .nil))))
theorem inv_Leg {N : Nat} {row : List Cell} (h : WT N sh_Leg row) : ∃ (x0 : Int) (x1 : Int) (x2 : Int) (x3 : Int), row = [.s (.int .i64 x0), .s (.int .i64 x1), .s (.int .i64 x2), .s (.int .i64 x3)] := by
  obtain ⟨x0, _, rfl, g0⟩ := h.inv_i
  obtain ⟨x1, _, rfl, g1⟩ := g0.inv_i
  obtain ⟨x2, _, rfl, g2⟩ := g1.inv_i
  obtain ⟨x3, _, rfl, g3⟩ := g2.inv_i
  obtain rfl := g3.inv_nil
  exact ⟨x0, x1, x2, x3, rfl⟩
abbrev sh_Balance : Sh := (.i .i64 (.i .i64 (.i .i64 .nil)))
theorem inv_Balance {N : Nat} {row : List Cell} (h : WT N sh_Balance row) : ∃ (x0 : Int) (x1 : Int) (x2 : Int), row = [.s (.int .i64 x0), .s (.int .i64 x1), .s (.int .i64 x2)] := by
  obtain ⟨x0, _, rfl, g0⟩ := h.inv_i
  obtain ⟨x1, _, rfl, g1⟩ := g0.inv_i
  obtain ⟨x2, _, rfl, g2⟩ := g1.inv_i
  obtain rfl := g2.inv_nil
  exact ⟨x0, x1, x2, rfl⟩
abbrev sh_Log : Sh := (.l (.i .u8 .nil) (.l (.i .u8 .nil) .nil))
abbrev sh_Journal : Sh := (.i .i64 (.l sh_Balance (.l (.i .u8 .nil) (.l (.i .u8 .nil) .nil))))
theorem inv_Journal {N : Nat} {row : List Cell} (h : WT N sh_Journal row) : ∃ (x0 : Int) (x1 : List (List Cell)) (x2 : List (List Cell)) (x3 : List (List Cell)), row = [.s (.int .i64 x0), .l x1, .l x2, .l x3] ∧ WR N sh_Balance x1 ∧ WR N (.i .u8 .nil) x2 ∧ WR N (.i .u8 .nil) x3 := by
  obtain ⟨x0, _, rfl, g0⟩ := h.inv_i
  obtain ⟨x1, _, rfl, h1, g1⟩ := g0.inv_l
  obtain ⟨x2, _, rfl, h2, g2⟩ := g1.inv_l
  obtain ⟨x3, _, rfl, h3, g3⟩ := g2.inv_l
  obtain rfl := g3.inv_nil
  exact ⟨x0, x1, x2, x3, rfl, h1, h2, h3⟩
abbrev sh_Event : Sh := (.b (.i .i64 (.l sh_Leg (.i .i64 .nil))))
theorem inv_Event {N : Nat} {row : List Cell} (h : WT N sh_Event row) : ∃ (x0 : Bool) (x1 : Int) (x2 : List (List Cell)) (x3 : Int), row = [.s (.bool x0), .s (.int .i64 x1), .l x2, .s (.int .i64 x3)] ∧ WR N sh_Leg x2 := by
  obtain ⟨x0, _, rfl, g0⟩ := h.inv_b
  obtain ⟨x1, _, rfl, g1⟩ := g0.inv_i
  obtain ⟨x2, _, rfl, h2, g2⟩ := g1.inv_l
  obtain ⟨x3, _, rfl, g3⟩ := g2.inv_i
  obtain rfl := g3.inv_nil
  exact ⟨x0, x1, x2, x3, rfl, h2⟩
abbrev sh_EventsResult : Sh := (.i .i64 (.l sh_Event .nil))
end Go.Proofs.Ytlkjdcpcbnfbbaa
end
section
namespace Go.Proofs.Ytlkjdcpcbnfbbaa
open Go Go.Sx
set_option maxRecDepth 20000
set_option maxHeartbeats 4000000
theorem l1In_pc (n lo hi : Int) : PC Try.prog 25 [.one (i64 n), .one (i64 lo), .one (i64 hi)] (rB (within n lo hi)) := by
  refine PC.begin Try.func25 rfl (by kernel_rfl) ?_
  refine xb rfl (fun b0 => ?_) (fun b0 => ?_)
  refine xj (k := 3) rfl ?_
  refine xr rfl (xret rfl ⟨⟨rfl, ?_, trivial⟩, nodB_nodup rfl⟩)
  rotate_left
  refine xj (k := 3) rfl ?_
  refine xr rfl (xret rfl ⟨⟨rfl, ?_, trivial⟩, nodB_nodup rfl⟩)
  rotate_left
  all_goals (refine vb ?_; (simp_all [within] <;> omega))
theorem within_pc (n lo hi : Int) : PC Try.prog 58 [.one (i64 n), .one (i64 lo), .one (i64 hi)] (rB (within n lo hi)) := by
  refine PC.begin Try.func58 rfl (by kernel_rfl) ?_
  refine xb rfl (fun b0 => ?_) (fun b0 => ?_)
  refine xj (k := 3) rfl ?_
  refine xr rfl (xret rfl ⟨⟨rfl, ?_, trivial⟩, nodB_nodup rfl⟩)
  rotate_left
  refine xj (k := 3) rfl ?_
  refine xr rfl (xret rfl ⟨⟨rfl, ?_, trivial⟩, nodB_nodup rfl⟩)
  rotate_left
  all_goals (refine vb ?_; (simp_all [within] <;> omega))
theorem isShard_pc (n : Int) : PC Try.prog 156 [.one (i64 n)] (rB (within n 0 2)) := by
  refine PC.begin Try.func156 rfl (by kernel_rfl) ?_
  refine xcall rfl (within_pc _ _ _) rfl ⟨trivial, trivial, trivial, trivial⟩ ?_
  refine xr rfl (xret rfl ⟨⟨rfl, rfl, trivial⟩, nodB_nodup rfl⟩)
theorem isAsset_pc (n : Int) : PC Try.prog 160 [.one (i64 n)] (rB (within n 0 2)) := by
  refine PC.begin Try.func160 rfl (by kernel_rfl) ?_
  refine xcall rfl (within_pc _ _ _) rfl ⟨trivial, trivial, trivial, trivial⟩ ?_
  refine xr rfl (xret rfl ⟨⟨rfl, rfl, trivial⟩, nodB_nodup rfl⟩)
theorem isId_pc (n : Int) : PC Try.prog 129 [.one (i64 n)] (rB (within n 1 1000000000)) := by
  refine PC.begin Try.func129 rfl (by kernel_rfl) ?_
  refine xcall rfl (within_pc _ _ _) rfl ⟨trivial, trivial, trivial, trivial⟩ ?_
  refine xr rfl (xret rfl ⟨⟨rfl, rfl, trivial⟩, nodB_nodup rfl⟩)
theorem l1Id_pc (n : Int) : PC Try.prog 142 [.one (i64 n)] (rB (within n 1 1000000000)) := by
  refine PC.begin Try.func142 rfl (by kernel_rfl) ?_
  refine xcall rfl (l1In_pc _ _ _) rfl ⟨trivial, trivial, trivial, trivial⟩ ?_
  refine xr rfl (xret rfl ⟨⟨rfl, rfl, trivial⟩, nodB_nodup rfl⟩)
theorem isPlace_pc (a b : Int) : PC Try.prog 157 [.one (i64 a), .one (i64 b)] (rB (within a 0 5 && within b 0 2)) := by
  refine PC.begin Try.func157 rfl (by kernel_rfl) ?_
  refine xcall rfl (within_pc _ _ _) rfl ⟨trivial, trivial, trivial, trivial⟩ ?_
  refine xb rfl (fun b0 => ?_) (fun b0 => ?_)
  refine xj (k := 1) rfl ?_
  refine xcall rfl (isAsset_pc _) rfl ⟨trivial, trivial⟩ ?_
  refine xj (k := 1) rfl ?_
  refine xr rfl (xret rfl ⟨⟨rfl, ?_, trivial⟩, nodB_nodup rfl⟩)
  rotate_left
  refine xj (k := 2) rfl ?_
  refine xr rfl (xret rfl ⟨⟨rfl, ?_, trivial⟩, nodB_nodup rfl⟩)
  rotate_left
  all_goals (refine vb ?_; simp_all)
theorem sLegFault_pc (l : Leg) : PC Try.prog 155 [.agg l.cs] (rI l.fault) := by
  refine PC.begin Try.func155 rfl (by kernel_rfl) ?_
  refine xcall rfl (l1In_pc _ _ _) rfl ⟨trivial, trivial, trivial, trivial⟩ ?_
  refine xb rfl (fun b0 => ?_) (fun b0 => ?_)
  refine xj (k := 15) rfl ?_
  refine xr rfl (xret rfl ⟨⟨rfl, ?_, trivial⟩, nodB_nodup rfl⟩)
  rotate_left
  refine xj (k := 2) rfl ?_
  refine xcall rfl (l1In_pc _ _ _) rfl ⟨trivial, trivial, trivial, trivial⟩ ?_
  refine xj (k := 2) rfl ?_
  refine xb rfl (fun b1 => ?_) (fun b1 => ?_)
  refine xj (k := 10) rfl ?_
  refine xr rfl (xret rfl ⟨⟨rfl, ?_, trivial⟩, nodB_nodup rfl⟩)
  rotate_left
  refine xj (k := 2) rfl ?_
  refine xcall rfl (l1In_pc _ _ _) rfl ⟨trivial, trivial, trivial, trivial⟩ ?_
  refine xj (k := 2) rfl ?_
  refine xb rfl (fun b2 => ?_) (fun b2 => ?_)
  refine xj (k := 5) rfl ?_
  refine xr rfl (xret rfl ⟨⟨rfl, ?_, trivial⟩, nodB_nodup rfl⟩)
  rotate_left
  refine xj (k := 2) rfl ?_
  refine xcall rfl (l1In_pc _ _ _) rfl ⟨trivial, trivial, trivial, trivial⟩ ?_
  refine xj (k := 2) rfl ?_
  refine xb rfl (fun b3 => ?_) (fun b3 => ?_)
  refine xr rfl (xret rfl ⟨⟨rfl, ?_, trivial⟩, nodB_nodup rfl⟩)
  rotate_left
  refine xb rfl (fun b4 => ?_) (fun b4 => ?_)
  refine xr rfl (xret rfl ⟨⟨rfl, ?_, trivial⟩, nodB_nodup rfl⟩)
  rotate_left
  refine xr rfl (xret rfl ⟨⟨rfl, ?_, trivial⟩, nodB_nodup rfl⟩)
  rotate_left
  all_goals (refine vi ?_; simp_all [Leg.fault, Leg.bad])
theorem iLegFault_pc (l : Leg) : PC Try.prog 146 [.agg l.cs] (rI l.fault) := by
  refine PC.begin Try.func146 rfl (by kernel_rfl) ?_
  refine xcall rfl (isShard_pc _) rfl ⟨trivial, trivial⟩ ?_
  refine xb rfl (fun b0 => ?_) (fun b0 => ?_)
  refine xj (k := 12) rfl ?_
  refine xr rfl (xret rfl ⟨⟨rfl, ?_, trivial⟩, nodB_nodup rfl⟩)
  rotate_left
  refine xj (k := 4) rfl ?_
  refine xcall rfl (isPlace_pc _ _) rfl ⟨trivial, trivial, trivial⟩ ?_
  refine xj (k := 2) rfl ?_
  refine xb rfl (fun b1 => ?_) (fun b1 => ?_)
  refine xj (k := 5) rfl ?_
  refine xr rfl (xret rfl ⟨⟨rfl, ?_, trivial⟩, nodB_nodup rfl⟩)
  rotate_left
  refine xj (k := 2) rfl ?_
  refine xcall rfl (within_pc _ _ _) rfl ⟨trivial, trivial, trivial, trivial⟩ ?_
  refine xj (k := 2) rfl ?_
  refine xb rfl (fun b2 => ?_) (fun b2 => ?_)
  refine xr rfl (xret rfl ⟨⟨rfl, ?_, trivial⟩, nodB_nodup rfl⟩)
  rotate_left
  refine xb rfl (fun b3 => ?_) (fun b3 => ?_)
  refine xr rfl (xret rfl ⟨⟨rfl, ?_, trivial⟩, nodB_nodup rfl⟩)
  rotate_left
  refine xr rfl (xret rfl ⟨⟨rfl, ?_, trivial⟩, nodB_nodup rfl⟩)
  rotate_left
  all_goals (refine vi ?_; simp_all [Leg.fault, Leg.bad])
theorem sizeLeg_pc (rr : List (List Cell)) : PC Try.prog 145 [.one (.l rr)] (rI rr.length) := by
  refine PC.begin Try.func145 rfl (by kernel_rfl) ?_
  refine xr rfl (xret rfl ⟨⟨rfl, rfl, trivial⟩, nodB_nodup rfl⟩)
theorem samePlace_pc (l m : Leg) : PC Try.prog 149 [.agg l.cs, .agg m.cs] (rB (l.same m)) := by
  refine PC.begin Try.func149 rfl (by kernel_rfl) ?_
  refine xb rfl (fun b0 => ?_) (fun b0 => ?_)
  refine xj (k := 5) rfl ?_
  refine xb rfl (fun b1 => ?_) (fun b1 => ?_)
  refine xj (k := 5) rfl ?_
  refine xr rfl (xret rfl ⟨⟨rfl, ?_, trivial⟩, nodB_nodup rfl⟩)
  rotate_left
  refine xj (k := 5) rfl ?_
  refine xr rfl (xret rfl ⟨⟨rfl, ?_, trivial⟩, nodB_nodup rfl⟩)
  rotate_left
  refine xj (k := 11) rfl ?_
  refine xr rfl (xret rfl ⟨⟨rfl, ?_, trivial⟩, nodB_nodup rfl⟩)
  rotate_left
  all_goals (refine vb ?_; simp_all [Leg.same])
end Go.Proofs.Ytlkjdcpcbnfbbaa
end
section
namespace Go.Proofs.Ytlkjdcpcbnfbbaa
open Go Go.Sx
set_option maxRecDepth 20000
set_option maxHeartbeats 4000000
theorem idxLeg1 (rr : List (List Cell)) (us : List Leg) (p : Leg → Bool) (fn : Nat) (c0 : Cell) (hr : rr = us.map Leg.cs) (hf : ∀ x ∈ us, PC Try.prog fn [.agg x.cs, .one c0] (rB (p x))) (hl : us.length ≤ 1048576) : PC Try.prog 158 [.one (.l rr), .one (.f fn [c0])] (rI (idxP p us)) := by
  refine PC.begin Try.func158 rfl (by kernel_rfl) ?_
  subst hr
  have hn : (us.map Leg.cs).length = us.length := by simp
  refine xloop rfl (ι := Nat) (fun i => i ≤ us.length ∧ ∀ j y, j < i → us[j]? = some y → p y = false) (fun i => ⟨[(8, sV (.int .i64 i)), (7, sV (.int .i64 (us.map Leg.cs).length)), (0, .one (.b (.l (us.map Leg.cs)))), (1, .one (.b (.f fn [c0])))], []⟩) (fun i => us.length - i) 0 ⟨Nat.zero_le _, fun j y hj => by omega⟩ ?_ ?_
  · exact ⟨⟨rfl, rfl, rfl, rfl, trivial⟩, trivial, rfl⟩
  · intro i ⟨hi, h0⟩ J hJ
    refine xb rfl (fun h => ?_) (fun h => ?_)
    · have h : i < us.length := by simpa using h
      obtain ⟨x, hx⟩ := gx h
      have hg := gm Leg.cs hx
      have hxm := List.mem_of_getElem? hx
      refine xs rfl (Int.natCast_nonneg _) ?_
      refine xrow rfl _ hg ?_
      refine xs rfl rfl ?_
      refine xcall rfl (hf _ hxm) rfl ⟨⟨trivial, trivial, trivial, trivial, trivial⟩, trivial, trivial⟩ ?_
      refine xb rfl (fun b0 => ?_) (fun b0 => ?_)
      refine xr rfl (xret rfl ⟨⟨rfl, ?_, trivial⟩, nodB_nodup rfl⟩)
      rotate_left
      rotate_left
      · exact vi (idxP_hit hx h0 b0).symm
      · exact xcont rfl (hJ _ (i + 1) ⟨by omega, miss_step hx h0 b0⟩ (by omega) ⟨⟨cwi (by omega) (by omega) (by omega), rfl, rfl, rfl, trivial⟩, trivial, rfl⟩)
    · have h : ¬ i < us.length := by simpa using h
      refine xr rfl (xret rfl ⟨⟨rfl, ?_, trivial⟩, nodB_nodup rfl⟩)
      exact vi (idxP_none (miss_all (by omega) h0)).symm
theorem anyLeg1 (rr : List (List Cell)) (us : List Leg) (p : Leg → Bool) (fn : Nat) (c0 : Cell) (hr : rr = us.map Leg.cs) (hf : ∀ x ∈ us, PC Try.prog fn [.agg x.cs, .one c0] (rB (p x))) (hl : us.length ≤ 1048576) : PC Try.prog 147 [.one (.l rr), .one (.f fn [c0])] (rB (us.any p)) := by
  refine PC.begin Try.func147 rfl (by kernel_rfl) ?_
  have hi := idxLeg1 rr us p fn c0 hr hf hl
  refine xcall rfl (hi) rfl ⟨trivial, trivial, trivial⟩ ?_
  refine xr rfl (xret rfl ⟨⟨rfl, ?_, trivial⟩, nodB_nodup rfl⟩)
  exact vb idxP_any
end Go.Proofs.Ytlkjdcpcbnfbbaa
end
section
namespace Go.Proofs.Ytlkjdcpcbnfbbaa
open Go Go.Sx
set_option maxRecDepth 20000
set_option maxHeartbeats 4000000
theorem isOutcome_pc (v : Int) : PC Try.prog 130 [.one (i64 v)] (rB (within v 1 2)) := by
  refine PC.begin Try.func130 rfl (by kernel_rfl) ?_
  refine xb rfl (fun b0 => ?_) (fun b0 => ?_)
  refine xj (k := 2) rfl ?_
  refine xr rfl (xret rfl ⟨⟨rfl, ?_, trivial⟩, nodB_nodup rfl⟩)
  rotate_left
  refine xj (k := 2) rfl ?_
  refine xr rfl (xret rfl ⟨⟨rfl, ?_, trivial⟩, nodB_nodup rfl⟩)
  rotate_left
  all_goals (refine vb ?_; rw [Bool.eq_iff_iff]; (simp_all [within] <;> omega))
end Go.Proofs.Ytlkjdcpcbnfbbaa
end
section
namespace Go.Proofs.Ytlkjdcpcbnfbbaa
open Go Go.Sx
set_option maxRecDepth 20000
set_option maxHeartbeats 4000000
theorem conCl_pc (x y : Leg) : PC Try.prog 148 [.agg x.cs, .one (.p y.cs)] (rB (x.same y)) := by
  refine PC.begin Try.func148 rfl (by kernel_rfl) ?_
  refine xcall rfl (samePlace_pc _ _) rfl ⟨⟨trivial, trivial, trivial, trivial, trivial⟩, ⟨trivial, trivial, trivial, trivial, trivial⟩, trivial⟩ ?_
  refine xr rfl (xret rfl ⟨⟨rfl, rfl, trivial⟩, nodB_nodup rfl⟩)
theorem iCon_pc (c : Con) (hl : c.legs.length ≤ 1048576) : PC Try.prog 127 [.agg c.cs] (rI (conFault c)) := by
  refine PC.begin Try.func127 rfl (by kernel_rfl) ?_
  have hKd : Maps.Keyed Try.prog 2 := Maps.int_keyed Try.underlying2
  have hz : ∀ w, (zeroValue 2).run Try.prog w = .ok (.int .i64 0) w := fun w => by kernel_rfl
  have hsz : (Go.Sx.within (((c.legs.map Leg.cs).length : Nat) : Int) 2 8 = true) = (2 ≤ c.legs.length ∧ c.legs.length ≤ 8) := by rw [Go.Sx.within_iff, List.length_map]; apply propext; omega
  unfold conFault
  refine xcall rfl (isId_pc _) rfl ⟨trivial, trivial⟩ ?_
  refine xb rfl (fun b0 => ?_) (fun b0 => ?_)
  refine xr rfl (xret rfl ⟨⟨rfl, ?_, trivial⟩, nodB_nodup rfl⟩)
  rotate_left
  refine xcall rfl (sizeLeg_pc _) rfl ⟨trivial, trivial⟩ ?_
  refine xcall rfl (within_pc _ _ _) rfl ⟨trivial, trivial, trivial, trivial⟩ ?_
  refine xb rfl (fun b1 => ?_) (fun b1 => ?_)
  refine xr rfl (xret rfl ⟨⟨rfl, ?_, trivial⟩, nodB_nodup rfl⟩)
  rotate_left
  rotate_left
  · refine vi ?_; simp_all
  · refine vi ?_
    have hid : Go.Sx.within c.id 1 1000000000 = true := by simpa using b0
    have hn : ¬ (2 ≤ c.legs.length ∧ c.legs.length ≤ 8) := by rw [← hsz]; simpa using b1
    rw [if_pos hid, if_neg hn]
  have hid : Go.Sx.within c.id 1 1000000000 = true := by simpa using b0
  have hn : 2 ≤ c.legs.length ∧ c.legs.length ≤ 8 := by rw [← hsz]; simpa using b1
  rw [if_pos hid, if_pos hn]
  clear b0 b1 hsz hid
  refine xmkmap rfl rfl rfl Try.underlying199 rfl ?_
  refine xloop rfl (ι := Nat × DataW Unit) (fun p => p.1 ≤ c.legs.length ∧ (∀ j, j < p.1 → conF c.legs j = 0) ∧ SM (c.legs.take p.1) p.2) (fun p => ⟨[(24, sV (.int .i64 p.1)), (1, .one (.a 1 0)), (3, .one (.mx 0 20)), (22, .one (.b (.l (c.legs.map Leg.cs)))), (23, sV (.int .i64 c.legs.length))], [(1, .var (c.cs.map .b)), (20, .mp 2 2 p.1 p.2 none)]⟩) (fun p => c.legs.length - p.1) (0, .map []) ⟨Nat.zero_le _, fun j hj => (by omega), SM_nil⟩ ?_ ?_
  · exact ⟨⟨rfl, ⟨rfl, rfl, rfl⟩, ⟨rfl, rfl, rfl⟩, rfl, (by rw [List.length_map]; rfl), trivial⟩, ⟨lcr, ⟨rfl, rfl, rfl, rfl, rfl⟩, trivial⟩, rfl⟩
  · intro ⟨i, D⟩ ⟨hi, h0, hS⟩ J hJ
    dsimp only at hi h0 hS hJ ⊢
    refine xb rfl (fun h => ?_) (fun h => ?_)
    · have h : i < c.legs.length := by simpa using h
      obtain ⟨x, hx⟩ := gx h
      have hg := gm Leg.cs hx
      have hd : ∀ y ∈ c.legs.take i, y.fault = 0 := conF_small h0
      refine xs rfl (Int.natCast_nonneg _) ?_
      refine xrow rfl _ hg ?_
      refine xs rfl rfl ?_
      refine xcall rfl (iLegFault_pc _) rfl ⟨⟨trivial, trivial, trivial, trivial, trivial⟩, trivial⟩ ?_
      refine xb rfl (fun b0 => ?_) (fun b0 => ?_)
      refine xr rfl (xret rfl ⟨⟨rfl, ?_, trivial⟩, nodB_nodup rfl⟩)
      rotate_left
      refine xs rfl (.inl rfl) ?_
      refine xs rfl (Int.natCast_nonneg _) ?_
      refine xs rfl (Int.natCast_nonneg _) ?_
      refine xs rfl (by simp; omega) ?_
      refine xcall rfl (anyLeg1 _ (c.legs.take i) (fun y => y.same x) _ _ (by simp [List.map_take]) (fun y _ => conCl_pc y x) (by rw [List.length_take]; omega)) rfl ⟨trivial, (List.forall_mem_cons.2 ⟨⟨trivial, trivial, trivial, trivial, trivial⟩, (fun _ h => nomatch h)⟩), trivial⟩ ?_
      refine xb rfl (fun b1 => ?_) (fun b1 => ?_)
      refine xr rfl (xret rfl ⟨⟨rfl, ?_, trivial⟩, nodB_nodup rfl⟩)
      rotate_left
      rotate_left
      · refine vi ?_
        rw [scan_hit h0 (by simp_all [conF]) h]; simp_all [conF]
      · refine vi ?_
        rw [scan_hit h0 (by simp_all [conF]) h]; simp_all [conF]
      have hxf : x.fault = 0 := by simpa using b0
      have hok := Leg.fault_ok hxf
      have hkey : keyOf Try.prog 2 (.int .i64 x.b) = some (.int .i64 x.b) := Maps.keyOf_int_mk Try.underlying2 (wfi (by omega) (by omega))
      refine xlook rfl rfl rfl rfl Try.underlying199 Try.underlying2 hKd hz rfl rfl hkey (fun cc hat hwc => ?_)
      have hw := SM_wrap hS hxf hd (by omega) hat
      have hb := sumA_bd (c.legs.take i) x.b (fun y hy => (Leg.fault_ok (hd y hy)).2.2.2.1)
      have hsm := hok.2.2.2.1
      have hlen : (c.legs.take i).length ≤ 8 := by rw [List.length_take]; omega
      unfold Leg.small at hsm
      have hwf : (Lit.int .i64 (IntKind.i64.wrap (cc + x.v))).wf = true := by rw [hw.2]; exact wfi (by omega) (by omega)
      skip
      refine xupd rfl rfl rfl rfl rfl Try.underlying199 Try.underlying2 hKd (show i < maxLen by unfold maxLen; omega) rfl rfl hkey rfl hwf ?_
      skip
      exact xcont rfl (hJ _ (i + 1, _) ⟨by omega, scan_step h0 (by simp_all [conF]), SM_step hS hx hxf hd (by omega) hat⟩ (by dsimp only; omega) ⟨⟨cwi (by omega) (by omega) (by omega), ⟨rfl, rfl, rfl⟩, ⟨rfl, rfl, rfl⟩, rfl, rfl, trivial⟩, ⟨lcr, ⟨rfl, rfl, rfl, rfl, rfl⟩, trivial⟩, rfl⟩)
    · have h : i = c.legs.length := by have : ¬ i < c.legs.length := by simpa using h
                                       omega
      have hd : ∀ y ∈ c.legs, y.fault = 0 := by have := conF_small h0; rwa [h, List.take_length] at this
      have hz2 := scan_zero (f := conF c.legs) (n := c.legs.length) (fun j hj => h0 j (by omega))
      rw [h, List.take_length] at hS
      rw [hz2]
      skip
      refine xrange rfl rfl rfl rfl rfl rfl Try.underlying199 hKd ?_
      refine xloop rfl (ι := (Lit → Bool) × Nat × Option (Value × Value)) (fun p => ∀ a : Int, p.1 (.int .i64 a) = false → sumA c.legs a = 0) (fun p => ⟨[(49, .one (.mx 1 49))], [(49, .mp 2 2 i D (some p))]⟩) (fun p => p.2.1) (Maps.has D, Maps.size D, none) (SM_left hS) ?_ ?_
      · exact ⟨⟨⟨rfl, rfl, rfl⟩, trivial⟩, ⟨⟨rfl, rfl, rfl, rfl, rfl⟩, trivial⟩, rfl⟩
      · intro ⟨left, cnt, cur⟩ hL J2 hJ2
        dsimp only at hL hJ2 ⊢
        refine xnexti rfl rfl rfl rfl rfl hKd Try.underlying2 Try.underlying2 (fun _ hall => ?_) (fun y cc cnt' hl hat hwc hlt => ?_)
        · skip
          refine xj (k := 1) rfl ?_
          refine xr rfl (xret rfl ⟨⟨rfl, ?_, trivial⟩, nodB_nodup rfl⟩)
          exact vi (by rw [sumsBad_no (fun a => hL a (hall _))]; rfl)
        · have hy := SM_at hS hat
          refine xj (k := 1) rfl ?_
          refine xentry rfl rfl rfl rfl rfl rfl rfl (fun vs h => (nomatch h)) (fun vs h => (nomatch h)) ?_
          refine xb rfl (fun b0 => ?_) (fun b0 => ?_)
          refine xr rfl (xret rfl ⟨⟨rfl, ?_, trivial⟩, nodB_nodup rfl⟩)
          rotate_left
          rotate_left
          · exact vi (by rw [sumsBad_yes hd (a := y) (by rw [hy]; simpa using b0)]; rfl)
          · exact xcont rfl (hJ2 _ (_, cnt', _) (nextOk hL hy (by simpa using b0)) hlt ⟨⟨⟨rfl, rfl, rfl⟩, trivial⟩, ⟨⟨rfl, rfl, rfl, rfl, rfl⟩, trivial⟩, rfl⟩)
end Go.Proofs.Ytlkjdcpcbnfbbaa
end
section
namespace Go.Proofs.Ytlkjdcpcbnfbbaa
open Go Go.Sx
set_option maxRecDepth 20000
set_option maxHeartbeats 4000000
theorem sCon_pc (c : Con) (hl : c.legs.length ≤ 1048576) : PC Try.prog 141 [.agg c.cs] (rI (conFault c)) := by
  refine PC.begin Try.func141 rfl (by kernel_rfl) ?_
  have fin : ∀ n : Int, (Go.Sx.within c.id 1 1000000000 = true → (2 ≤ c.legs.length ∧ c.legs.length ≤ 8) → n = (if scan (conF c.legs) c.legs.length ≠ 0 then scan (conF c.legs) c.legs.length else if sumsBad c.legs then 1 else 0)) → (Go.Sx.within c.id 1 1000000000 = true) → (2 ≤ c.legs.length ∧ c.legs.length ≤ 8) → n = conFault c := fun n h1 h2 h3 => by
    unfold conFault; rw [if_pos h2, if_pos h3]; exact h1 h2 h3
  refine xcall rfl (l1Id_pc _) rfl ⟨trivial, trivial⟩ ?_
  refine xb rfl (fun b0 => ?_) (fun b0 => ?_)
  refine xr rfl (xret rfl ⟨⟨rfl, ?_, trivial⟩, nodB_nodup rfl⟩)
  rotate_left
  refine xb rfl (fun b1 => ?_) (fun b1 => ?_)
  refine xj (k := 5) rfl ?_
  refine xr rfl (xret rfl ⟨⟨rfl, ?_, trivial⟩, nodB_nodup rfl⟩)
  rotate_left
  refine xj (k := 4) rfl ?_
  refine xb rfl (fun b2 => ?_) (fun b2 => ?_)
  refine xr rfl (xret rfl ⟨⟨rfl, ?_, trivial⟩, nodB_nodup rfl⟩)
  rotate_left
  refine xs rfl rfl ?_
  refine xs rfl (Int.natCast_nonneg _) ?_
  refine xs rfl (Int.natCast_nonneg _) ?_
  refine xs rfl (Int.natCast_nonneg _) ?_
  rotate_left
  · refine vi ?_; unfold conFault; simp_all
  · refine vi ?_
    have hid : Go.Sx.within c.id 1 1000000000 = true := by simpa using b0
    unfold conFault
    rw [if_pos hid, if_neg (by simp at b1; omega)]
  · refine vi ?_
    have hid : Go.Sx.within c.id 1 1000000000 = true := by simpa using b0
    unfold conFault
    rw [if_pos hid, if_neg (by simp at b2; omega)]
  have hid : Go.Sx.within c.id 1 1000000000 = true := by simpa using b0
  have hn : 2 ≤ c.legs.length ∧ c.legs.length ≤ 8 := by
    simp at b1 b2; omega
  clear b0 b1 b2
  refine xloop rfl (ι := Nat) (fun i => i ≤ c.legs.length ∧ ∀ j, j < i → conF c.legs j = 0) (fun i => ⟨[(4, sV (.int .i64 i)), (1, .one (.a 1 0)), (3, .one (.h 24 3))], [(1, .var (c.cs.map .b)), (24, .arr true 1 0 (rows3 (c.legs.take i)))]⟩) (fun i => c.legs.length - i) 0 ⟨Nat.zero_le _, fun j hj => (by omega)⟩ ?_ ?_
  · exact ⟨⟨rfl, ⟨rfl, rfl, rfl⟩, ⟨rfl, rfl, rfl⟩, trivial⟩, ⟨lcr, ⟨rfl, .inl rfl, .inl rfl⟩, trivial⟩, rfl⟩
  · intro i ⟨hi, h0⟩ J hJ
    have hd : ∀ y ∈ c.legs.take i, y.fault = 0 := conF_small h0
    refine xb rfl (fun h => ?_) (fun h => ?_)
    · have h : i < c.legs.length := by simpa using h
      obtain ⟨x, hx⟩ := gx h
      have hg := gm Leg.cs hx
      refine xs rfl (Int.natCast_nonneg _) ?_
      refine xrow rfl _ hg ?_
      refine xs rfl rfl ?_
      refine xcall rfl (sLegFault_pc _) rfl ⟨⟨trivial, trivial, trivial, trivial, trivial⟩, trivial⟩ ?_
      refine xb rfl (fun b0 => ?_) (fun b0 => ?_)
      refine xr rfl (xret rfl ⟨⟨rfl, ?_, trivial⟩, nodB_nodup rfl⟩)
      rotate_left
      rotate_left
      · refine vi (fin _ (fun _ _ => ?_) hid hn)
        rw [scan_hit h0 (by simp_all [conF]) h]; simp_all [conF]
      have hxf : x.fault = 0 := by simpa using b0
      have hok := Leg.fault_ok hxf
      refine xloop rfl (ι := Nat) (fun k => k ≤ i ∧ ∀ j y, j < k → c.legs[j]? = some y → y.same x = false) (fun k => ⟨[(7, sV (.int .i64 k)), (4, sV (.int .i64 i)), (1, .one (.a 1 0)), (3, .one (.h 24 3)), (5, .one (.a 5 0))], [(1, .var (c.cs.map .b)), (24, .arr true 1 0 (rows3 (c.legs.take i))), (5, .var (x.cs.map .b))]⟩) (fun k => i - k) 0 ⟨Nat.zero_le _, fun j y hj => (by omega)⟩ ?_ ?_
      · exact ⟨⟨rfl, rfl, ⟨rfl, rfl, rfl⟩, ⟨rfl, rfl, rfl⟩, ⟨rfl, rfl, rfl⟩, trivial⟩, ⟨lcr, ⟨rfl, .inl rfl, .inl rfl⟩, ⟨rfl, rfl, rfl, rfl, trivial⟩, trivial⟩, rfl⟩
      · intro k ⟨hk, h1⟩ J2 hJ2
        refine xb rfl (fun h' => ?_) (fun h' => ?_)
        · have h' : k < i := by simpa using h'
          obtain ⟨y, hy⟩ := gx (xs := c.legs) (i := k) (by omega)
          have hg2 := gm Leg.cs hy
          have hyt : (c.legs.take i)[k]? = some y := by rw [List.getElem?_take, if_pos h', hy]
          refine xs rfl (Int.natCast_nonneg _) ?_
          refine xrow rfl _ hg2 ?_
          refine xs rfl rfl ?_
          refine xb rfl (fun b0 => ?_) (fun b0 => ?_)
          refine xj (k := 5) rfl ?_
          refine xb rfl (fun b1 => ?_) (fun b1 => ?_)
          refine xj (k := 5) rfl ?_
          refine xb rfl (fun b2 => ?_) (fun b2 => ?_)
          refine xr rfl (xret rfl ⟨⟨rfl, ?_, trivial⟩, nodB_nodup rfl⟩)
          rotate_left
          rotate_left
          refine xj (k := 6) rfl ?_
          rotate_left
          refine xj (k := 12) rfl ?_
          rotate_left
          all_goals first | (refine vi (fin _ (fun _ _ => ?_) hid hn); have hsame : y.same x = true := (by simp_all [Leg.same]); have ha := (any_hit (p := fun y : Leg => y.same x) hyt hsame).symm; have hc7 : conF c.legs i = 7 := (by simp only [conF, hx, hxf]; rw [if_neg (by simp), if_pos ha]); rw [scan_hit h0 (by rw [hc7]; decide) h, hc7]; rfl) | exact xcont rfl (hJ2 _ (k + 1) ⟨by omega, miss_step hy h1 (by simp_all [Leg.same])⟩ (by omega) ⟨⟨cwi (by omega) (by omega) (by omega), rfl, ⟨rfl, rfl, rfl⟩, ⟨rfl, rfl, rfl⟩, ⟨rfl, rfl, rfl⟩, trivial⟩, ⟨lcr, ⟨rfl, .inl rfl, .inl rfl⟩, ⟨rfl, rfl, rfl, rfl, trivial⟩, trivial⟩, rfl⟩)
        · have h' : ¬ k < i := by simpa using h'
          have hnone := any_none (p := fun y : Leg => y.same x) (l := c.legs.take i) (fun j y hj => by
            rw [List.getElem?_take] at hj
            split at hj
            · exact h1 j y (by omega) hj
            · cases hj)
          have hc0 : conF c.legs i = 0 := by
            simp only [conF, hx, hxf]; rw [if_neg (by simp), if_neg (by rw [← hnone]; decide)]
          have hrow := rows3_get (l := c.legs.take i) (b := x.b) (by omega) (by omega)
          have hb0 : 0 ≤ x.b := by omega
          refine xdraw rfl [] (.take 0 [] (.take 1 [] (.take 2 [11, 12] (.take 3 [] (.take 4 [] (.take 5 [6, 7, 10, 11, 12] (.take 6 [] (.take 7 [10, 11, 12] (.take 8 [] (.take 9 [10, 11, 12] (.take 10 [] (.take 11 [] (.alt 12 .done .nil))))))))))))) (by kernel_rfl) ?_
          refine xs rfl rfl ?_
          refine xs rfl (hb0) ?_
          refine xrow rfl _ hrow ?_
          refine xs rfl rfl ?_
          refine xs rfl rfl ?_
          refine xrow rfl _ hrow ?_
          refine xs rfl rfl ?_
          refine xs rfl (hb0) ?_
          refine xrow rfl _ hrow ?_
          refine xs rfl rfl ?_
          refine xs rfl rfl ?_
          refine xrow rfl _ hrow ?_
          refine xs rfl (Nat.le_refl _) ?_
          refine xs rfl ⟨trivial, trivial⟩ ?_
          exact xcont rfl (hJ _ (i + 1) ⟨by omega, scan_step h0 hc0⟩ (by omega) ⟨⟨cwi (by omega) (by omega) (by omega), ⟨rfl, rfl, rfl⟩, ⟨rfl, rfl, rfl⟩, trivial⟩, ⟨lcr, ⟨rows3_step hx (by omega) (by omega) hd hxf (by omega), .inl rfl, .inl rfl⟩, trivial⟩, rfl⟩)
    · have h : i = c.legs.length := by have : ¬ i < c.legs.length := by simpa using h
                                       omega
      have hz2 := scan_zero (f := conF c.legs) (n := c.legs.length) (fun j hj => h0 j (by omega))
      rw [h, List.take_length] at hd
      rw [h, List.take_length]
      skip
      refine xloop rfl (ι := Nat) (fun k => k ≤ 3 ∧ ∀ j : Nat, j < k → sumA c.legs j = 0) (fun k => ⟨[(9, sV (.int .i64 k)), (3, .one (.h 24 3))], [(24, .arr true 1 0 (rows3 c.legs))]⟩) (fun k => 3 - k) 0 ⟨by omega, fun j hj => (by omega)⟩ ?_ ?_
      · exact ⟨⟨rfl, ⟨rfl, rfl, rfl⟩, trivial⟩, ⟨⟨rfl, .inl rfl, .inl rfl⟩, trivial⟩, rfl⟩
      · intro k ⟨hk, h1⟩ J2 hJ2
        refine xb rfl (fun h' => ?_) (fun h' => ?_)
        · have h' : k < 3 := by simp at h'; omega
          have hrow : (rows3 c.legs)[(k : Int).toNat]? = some [i64 (sumA c.legs k)] := rows3_get (by omega) (by omega)
          refine xs rfl rfl ?_
          refine xs rfl (Int.natCast_nonneg _) ?_
          refine xrow rfl _ hrow ?_
          refine xs rfl rfl ?_
          refine xs rfl rfl ?_
          refine xrow rfl _ hrow ?_
          refine xb rfl (fun b0 => ?_) (fun b0 => ?_)
          refine xr rfl (xret rfl ⟨⟨rfl, ?_, trivial⟩, nodB_nodup rfl⟩)
          rotate_left
          rotate_left
          · refine vi (fin _ (fun _ _ => ?_) hid hn)
            rw [hz2, sumsBad_yes hd (a := k) (by simpa using b0)]; rfl
          · exact xcont rfl (hJ2 _ (k + 1) ⟨by omega, fun j hj => by
              by_cases e : j = k
              · subst e; simpa using b0
              · exact h1 j (by omega)⟩ (by omega) ⟨⟨cwi (by omega) (by omega) (by omega), ⟨rfl, rfl, rfl⟩, trivial⟩, ⟨⟨rfl, .inl rfl, .inl rfl⟩, trivial⟩, rfl⟩)
        · have h' : k = 3 := by simp at h'; omega
          subst h'
          refine xr rfl (xret rfl ⟨⟨rfl, ?_, trivial⟩, nodB_nodup rfl⟩)
          refine vi (fin _ (fun _ _ => ?_) hid hn)
          have a0 := h1 0 (by omega)
          have a1 := h1 1 (by omega)
          have a2 := h1 2 (by omega)
          rw [hz2]
          simp at a0 a1 a2
          simp [sumsBad, a0, a1, a2]
end Go.Proofs.Ytlkjdcpcbnfbbaa
end
section
namespace Go.Proofs.Ytlkjdcpcbnfbbaa
open Go Go.Sx
set_option maxRecDepth 20000
set_option maxHeartbeats 4000000
theorem sizeByte_pc (rr : List (List Cell)) : PC Try.prog 48 [.one (.l rr)] (rI rr.length) := by
  refine PC.begin Try.func48 rfl (by kernel_rfl) ?_
  refine xr rfl (xret rfl ⟨⟨rfl, rfl, trivial⟩, nodB_nodup rfl⟩)
theorem iLogF_pc (sy lo : List Int) (h1 : sy.length ≤ 1048576) (h2 : lo.length ≤ 1048576) : PC Try.prog 89 [.agg [.l (bts sy), .l (bts lo)]] (rI (if 6000 < sy.length + lo.length then 2 else 0)) := by
  refine PC.begin Try.func89 rfl (by kernel_rfl) ?_
  have hw : IntKind.i64.wrap (((bts sy).length : Int) + ((bts lo).length : Int)) = (sy.length : Int) + lo.length := by rw [List.length_map, List.length_map]; exact wrap_i64 (by omega) (by omega)
  refine xb rfl (fun b0 => ?_) (fun b0 => ?_)
  refine xr rfl (xret rfl ⟨⟨rfl, ?_, trivial⟩, nodB_nodup rfl⟩)
  rotate_left
  refine xr rfl (xret rfl ⟨⟨rfl, ?_, trivial⟩, nodB_nodup rfl⟩)
  rotate_left
  all_goals (refine vi ?_; rw [hw] at b0; first | (rw [if_pos (by simpa using b0)]; done) | (rw [if_neg (by simpa using b0)]; done) | (rw [if_pos (by simp at b0; omega)]; done) | (rw [if_neg (by simp at b0; omega)]; done))
theorem sLogF_pc (sy lo : List Int) (h1 : sy.length ≤ 1048576) (h2 : lo.length ≤ 1048576) : PC Try.prog 42 [.agg [.l (bts sy), .l (bts lo)]] (rI (if 6000 < sy.length + lo.length then 2 else 0)) := by
  refine PC.begin Try.func42 rfl (by kernel_rfl) ?_
  have hw : IntKind.i64.wrap (((bts sy).length : Int) + ((bts lo).length : Int)) = (sy.length : Int) + lo.length := by rw [List.length_map, List.length_map]; exact wrap_i64 (by omega) (by omega)
  refine xb rfl (fun b0 => ?_) (fun b0 => ?_)
  refine xr rfl (xret rfl ⟨⟨rfl, ?_, trivial⟩, nodB_nodup rfl⟩)
  rotate_left
  refine xr rfl (xret rfl ⟨⟨rfl, ?_, trivial⟩, nodB_nodup rfl⟩)
  rotate_left
  all_goals (refine vi ?_; rw [hw] at b0; first | (rw [if_pos (by simp at b0; omega)]; done) | (rw [if_neg (by simp at b0; omega)]; done))
theorem chk_step {bs : List Int} {i : Nat} {b : Int} (h : bs[i]? = some b) : chk (bs.take (i + 1)) = chkS (chk (bs.take i)) b := by
  unfold chk
  rw [List.take_add_one, h, List.foldl_append]; rfl
theorem chk_wrap {h b : Int} (h0 : 0 ≤ h ∧ h < 65521) (hb : 0 ≤ b ∧ b ≤ 255) : (IntKind.i64.wrap (IntKind.i64.wrap (IntKind.i64.wrap (h * 257) + IntKind.i64.wrap b) + 1)).tmod 65521 = chkS h b := by
  have e1 : IntKind.i64.wrap (h * 257) = h * 257 := wrap_i64 (by omega) (by omega)
  have e2 : IntKind.i64.wrap b = b := wrap_i64 (by omega) (by omega)
  have e3 : IntKind.i64.wrap (h * 257 + b) = h * 257 + b := wrap_i64 (by omega) (by omega)
  have e4 : IntKind.i64.wrap (h * 257 + b + 1) = h * 257 + b + 1 := wrap_i64 (by omega) (by omega)
  rw [e1, e2, e3, e4, Int.tmod_eq_emod_of_nonneg (by omega)]; rfl
theorem gb {bs : List Int} {i : Nat} {b : Int} (h : bs[i]? = some b) : (bts bs)[i]? = some [.s (.int .u8 b)] := by simp [bts, h]
theorem iChk_pc (bs : List Int) (hb : BOk bs) (hl : bs.length ≤ 1048576) : PC Try.prog 144 [.one (.l (bts bs))] (rI (chk bs)) := by
  refine PC.begin Try.func144 rfl (by kernel_rfl) ?_
  refine xloop rfl (ι := Nat) (fun i => i ≤ bs.length) (fun i => ⟨[(8, sV (.int .i64 i)), (7, sV (.int .i64 (bts bs).length)), (6, .one (.b (.l (bts bs)))), (3, sV (.int .i64 (chk (bs.take i))))], []⟩) (fun i => bs.length - i) 0 (Nat.zero_le _) ?_ ?_
  · exact ⟨⟨rfl, rfl, rfl, rfl, trivial⟩, trivial, rfl⟩
  · intro i hi J hJ
    refine xb rfl (fun h => ?_) (fun h => ?_)
    · have h : i < bs.length := by simpa using h
      obtain ⟨b, hx⟩ := gx h
      have hg := gb hx
      have hw := chk_wrap (chk_ok (bs.take i)) (hb b (List.mem_of_getElem? hx))
      rw [← chk_step hx] at hw
      refine xs rfl (Int.natCast_nonneg _) ?_
      refine xrow rfl _ hg ?_
      refine xs rfl rfl ?_
      refine xs rfl ((by decide)) ?_
      exact xcont rfl (hJ _ (i + 1) (by omega) (by omega) ⟨⟨cwi (by omega) (by omega) (by omega), rfl, rfl, congrArg (fun n => Cell.s (.int .i64 n)) hw, trivial⟩, trivial, rfl⟩)
    · have h : i = bs.length := by have : ¬ i < bs.length := by simpa using h
                                   omega
      subst h
      rw [List.take_length]
      refine xr rfl (xret rfl ⟨⟨rfl, rfl, trivial⟩, nodB_nodup rfl⟩)
theorem sChk_pc (bs : List Int) (hb : BOk bs) (hl : bs.length ≤ 1048576) : PC Try.prog 120 [.one (.l (bts bs))] (rI (chk bs)) := by
  refine PC.begin Try.func120 rfl (by kernel_rfl) ?_
  refine xloop rfl (ι := Nat) (fun i => i ≤ bs.length) (fun i => ⟨[(4, sV (.int .i64 i)), (0, .one (.b (.l (bts bs)))), (3, sV (.int .i64 (chk (bs.take i))))], []⟩) (fun i => bs.length - i) 0 (Nat.zero_le _) ?_ ?_
  · exact ⟨⟨rfl, rfl, rfl, trivial⟩, trivial, rfl⟩
  · intro i hi J hJ
    refine xb rfl (fun h => ?_) (fun h => ?_)
    · have h : i < bs.length := by simpa using h
      obtain ⟨b, hx⟩ := gx h
      have hg := gb hx
      have hw := chk_wrap (chk_ok (bs.take i)) (hb b (List.mem_of_getElem? hx))
      rw [← chk_step hx] at hw
      refine xs rfl (Int.natCast_nonneg _) ?_
      refine xrow rfl _ hg ?_
      refine xs rfl rfl ?_
      refine xs rfl ((by decide)) ?_
      exact xcont rfl (hJ _ (i + 1) (by omega) (by omega) ⟨⟨cwi (by omega) (by omega) (by omega), rfl, congrArg (fun n => Cell.s (.int .i64 n)) hw, trivial⟩, trivial, rfl⟩)
    · have h : i = bs.length := by have : ¬ i < bs.length := by simpa using h
                                   omega
      subst h
      rw [List.take_length]
      refine xr rfl (xret rfl ⟨⟨rfl, rfl, trivial⟩, nodB_nodup rfl⟩)
theorem un_step {bs : List Int} {i : Nat} {b : Int} (h : bs[i]? = some b) : (bs.take (i + 1)).foldl unB 0 = unB ((bs.take i).foldl unB 0) b := by
  rw [List.take_add_one, h, List.foldl_append]; rfl
theorem iUnN_pc (bs : List Int) (hl : bs.length = 8) : PC Try.prog 93 [.one (.l (bts bs))] (.one (.own true [.s (.int .i64 0), .s (.int .i64 (unN bs))])) := by
  refine PC.begin Try.func93 rfl (by kernel_rfl) ?_
  have hbl : (bts bs).length = 8 := by rw [List.length_map, hl]
  refine xb rfl (fun b0 => ?_) (fun b0 => ?_)
  exact absurd b0 (by simp; omega)
  refine xloop rfl (ι := Nat) (fun i => i ≤ bs.length) (fun i => ⟨[(12, sV (.int .i64 i)), (11, sV (.int .i64 (bts bs).length)), (10, .one (.b (.l (bts bs)))), (3, sV (.int .u64 ((bs.take i).foldl unB 0))), (2, .one (.a 2 0))], [(2, .var [.b (i64 0), .b (i64 0)])]⟩) (fun i => bs.length - i) 0 (Nat.zero_le _) ?_ ?_
  · exact ⟨⟨rfl, rfl, rfl, rfl, ⟨rfl, rfl, rfl⟩, trivial⟩, ⟨⟨rfl, rfl, trivial⟩, trivial⟩, rfl⟩
  · intro i hi J hJ
    refine xb rfl (fun h => ?_) (fun h => ?_)
    · have h : i < bs.length := by simpa using h
      obtain ⟨b, hx⟩ := gx h
      have hg := gb hx
      have hst := un_step hx
      refine xs rfl (Int.natCast_nonneg _) ?_
      refine xrow rfl _ hg ?_
      refine xs rfl rfl ?_
      refine xs rfl (by decide) ?_
      exact xcont rfl (hJ _ (i + 1) (by omega) (by omega) ⟨⟨cwi (by omega) (by omega) (by omega), rfl, rfl, congrArg (fun n => Cell.s (.int .u64 n)) hst.symm, ⟨rfl, rfl, rfl⟩, trivial⟩, ⟨⟨rfl, rfl, trivial⟩, trivial⟩, rfl⟩)
    · have h : i = bs.length := by have : ¬ i < bs.length := by simpa using h
                                   omega
      subst h
      rw [List.take_length]
      refine xr rfl (xret rfl ⟨⟨rfl, rfl, rfl, trivial⟩, nodB_nodup rfl⟩)
theorem sUnN_pc (bs : List Int) (hl : bs.length = 8) : PC Try.prog 122 [.one (.l (bts bs))] (rI (unN bs)) := by
  refine PC.begin Try.func122 rfl (by kernel_rfl) ?_
  refine xloop rfl (ι := Nat) (fun i => i ≤ 8) (fun i => ⟨[(4, sV (.int .i64 i)), (0, .one (.b (.l (bts bs)))), (3, sV (.int .u64 ((bs.take i).foldl unB 0)))], []⟩) (fun i => 8 - i) 0 (Nat.zero_le _) ?_ ?_
  · exact ⟨⟨rfl, rfl, rfl, trivial⟩, trivial, rfl⟩
  · intro i hi J hJ
    refine xb rfl (fun h => ?_) (fun h => ?_)
    · have h : i < 8 := by simp at h; omega
      obtain ⟨b, hx⟩ := gx (xs := bs) (i := i) (by omega)
      have hg := gb hx
      have hst := un_step hx
      refine xs rfl (Int.natCast_nonneg _) ?_
      refine xrow rfl _ hg ?_
      refine xs rfl rfl ?_
      exact xcont rfl (hJ _ (i + 1) (by omega) (by omega) ⟨⟨cwi (by omega) (by omega) (by omega), rfl, congrArg (fun n => Cell.s (.int .u64 n)) hst.symm, trivial⟩, trivial, rfl⟩)
    · have h : i = 8 := by simp at h; omega
      subst h
      rw [List.take_of_length_le (by omega)]
      refine xr rfl (xret rfl ⟨⟨rfl, rfl, trivial⟩, nodB_nodup rfl⟩)
end Go.Proofs.Ytlkjdcpcbnfbbaa
end
section
namespace Go.Proofs.Ytlkjdcpcbnfbbaa
open Go Go.Sx
set_option maxRecDepth 20000
set_option maxHeartbeats 4000000
theorem packN_at (n : Int) (i : Nat) (h : i < 8) : (bts (packN n))[i]? = some [Cell.s (.int .u8 (IntKind.u8.wrap (n.fdiv (2 ^ min (IntKind.i64.wrap (56 - IntKind.i64.wrap (8 * (i : Int)))).toNat IntKind.i64.bits))))] := by
  have e : min (IntKind.i64.wrap (56 - IntKind.i64.wrap (8 * (i : Int)))).toNat IntKind.i64.bits = 56 - 8 * i := by
    rw [wrap_i64 (n := 8 * (i : Int)) (by omega) (by omega), wrap_i64 (by omega) (by omega)]
    show min _ 64 = _
    omega
  rw [e]
  have f : ∀ k : Nat, (2 : Int) ^ k = ((2 ^ k : Nat) : Int) := fun k => by rw [Int.natCast_pow]; rfl
  rw [f, Int.fdiv_eq_ediv_of_nonneg _ (Int.natCast_nonneg _)]
  rcases (by omega : i = 0 ∨ i = 1 ∨ i = 2 ∨ i = 3 ∨ i = 4 ∨ i = 5 ∨ i = 6 ∨ i = 7) with rfl | rfl | rfl | rfl | rfl | rfl | rfl | rfl
  all_goals try rfl
  show some [Cell.s (.int .u8 (byt n))] = some [Cell.s (.int .u8 (byt (n / ((2 ^ 0 : Nat) : Int))))]
  rw [show ((2 ^ 0 : Nat) : Int) = 1 from rfl, Int.ediv_one]
theorem packN_pc (n : Int) : PC Try.prog 131 [.one (i64 n)] (.one (.own false [.l 1 (bts (packN n))])) := by
  refine PC.begin Try.func131 rfl (by kernel_rfl) ?_
  refine xs rfl (by decide) (xs rfl (by decide) (xs rfl (by decide) (xs rfl (by decide) ?_)))
  refine xloop rfl (ι := Nat) (fun i => i ≤ 8) (fun i => ⟨[(8, sV (.int .i64 i)), (7, sV (.int .i64 8)), (3, .one (.h 5 8)), (0, sV (.int .i64 n))], [(5, .arr true 1 0 ((bts (packN n)).take i ++ List.replicate (8 - i) [.s (.int .u8 0)]))]⟩) (fun i => 8 - i) 0 (Nat.zero_le _) ?_ ?_
  · exact ⟨⟨rfl, rfl, ⟨rfl, rfl, rfl⟩, rfl, trivial⟩, ⟨⟨rfl, .inl rfl, .inl rfl⟩, trivial⟩, rfl⟩
  · intro i hi J hJ
    have hl8 : (bts (packN n)).length = 8 := rfl
    have hlf := len_fill (bts (packN n)) [Cell.s (.int .u8 0)] i 8 (by omega) rfl
    refine xb rfl (fun h => ?_) (fun h => ?_)
    · have h : i < 8 := by simp at h; omega
      have hw1 : IntKind.i64.wrap (8 * (i : Int)) = 8 * i := wrap_i64 (by omega) (by omega)
      have hw2 : IntKind.i64.wrap (56 - 8 * (i : Int)) = 56 - 8 * i := wrap_i64 (by omega) (by omega)
      have hg := get_fill (bts (packN n)) [Cell.s (.int .u8 0)] i 8 (by omega) rfl
      refine xs rfl (show 0 ≤ IntKind.i64.wrap (56 - IntKind.i64.wrap (8 * (i : Int))) by rw [hw1, hw2]; omega) ?_
      refine xs rfl (hlf.symm) ?_
      refine xs rfl (Int.natCast_nonneg _) ?_
      refine xrow rfl _ hg ?_
      refine xs rfl rfl ?_
      refine xs rfl (hlf.symm) ?_
      refine xrow rfl _ hg ?_
      refine xs rfl (by decide) ?_
      refine xs rfl ⟨trivial, trivial⟩ ?_
      refine xcont rfl (hJ _ (i + 1) (by omega) (by omega) ⟨⟨cwi (by omega) (by omega) (by omega), rfl, ⟨rfl, rfl, rfl⟩, rfl, trivial⟩, ⟨⟨?_, .inl rfl, .inl rfl⟩, trivial⟩, rfl⟩)
      exact set_fill _ _ _ i 8 (packN_at n i h) rfl
    · have h : i = 8 := by simp at h; omega
      subst h
      refine xr rfl (xret rfl ⟨⟨rfl, ⟨rfl, rfl, .inl rfl⟩, trivial⟩, nodB_nodup rfl⟩)
theorem pair_pc (n : Int) : PC Try.prog 143 [.one (i64 n)] (.one (.own false [.l 1 (bts [byt (n / 256), byt n])])) := by
  refine PC.begin Try.func143 rfl (by kernel_rfl) ?_
  refine xs rfl (Int.natCast_nonneg _) ?_
  refine xs rfl ⟨trivial, trivial, trivial⟩ ?_
  refine xr rfl (xret rfl ⟨⟨rfl, ⟨rfl, ?_, .inl rfl⟩, trivial⟩, nodB_nodup rfl⟩)
  rw [Int.fdiv_eq_ediv_of_nonneg _ (by decide)]; rfl
theorem wi12 (v : Int) : (v == 1 || v == 2) = within v 1 2 := by
  unfold within
  rw [Bool.eq_iff_iff]; simp; omega
theorem iEvF_pc (e : Evt) (hl : e.con.legs.length ≤ 1048576) : PC Try.prog 94 [.agg e.cs] (rI (evFault e)) := by
  refine PC.begin Try.func94 rfl (by kernel_rfl) ?_
  refine xb rfl (fun b0 => ?_) (fun b0 => ?_)
  refine xcall rfl (iCon_pc _ (by assumption)) rfl ⟨⟨trivial, trivial, trivial⟩, trivial⟩ ?_
  refine xb rfl (fun b1 => ?_) (fun b1 => ?_)
  refine xr rfl (xret rfl ⟨⟨rfl, ?_, trivial⟩, nodB_nodup rfl⟩)
  rotate_left
  refine xb rfl (fun b2 => ?_) (fun b2 => ?_)
  refine xr rfl (xret rfl ⟨⟨rfl, ?_, trivial⟩, nodB_nodup rfl⟩)
  rotate_left
  refine xr rfl (xret rfl ⟨⟨rfl, ?_, trivial⟩, nodB_nodup rfl⟩)
  rotate_left
  refine xcall rfl (isId_pc _) rfl ⟨trivial, trivial⟩ ?_
  refine xb rfl (fun b1 => ?_) (fun b1 => ?_)
  refine xj (k := 5) rfl ?_
  refine xr rfl (xret rfl ⟨⟨rfl, ?_, trivial⟩, nodB_nodup rfl⟩)
  rotate_left
  refine xj (k := 2) rfl ?_
  refine xcall rfl (isOutcome_pc _) rfl ⟨trivial, trivial⟩ ?_
  refine xj (k := 2) rfl ?_
  refine xb rfl (fun b2 => ?_) (fun b2 => ?_)
  refine xr rfl (xret rfl ⟨⟨rfl, ?_, trivial⟩, nodB_nodup rfl⟩)
  rotate_left
  refine xb rfl (fun b3 => ?_) (fun b3 => ?_)
  refine xr rfl (xret rfl ⟨⟨rfl, ?_, trivial⟩, nodB_nodup rfl⟩)
  rotate_left
  refine xr rfl (xret rfl ⟨⟨rfl, ?_, trivial⟩, nodB_nodup rfl⟩)
  rotate_left
  all_goals (refine vi ?_; unfold evFault; rw [wi12]; simp_all; done)
theorem sEvF_pc (e : Evt) (hl : e.con.legs.length ≤ 1048576) : PC Try.prog 123 [.agg e.cs] (rI (evFault e)) := by
  refine PC.begin Try.func123 rfl (by kernel_rfl) ?_
  refine xb rfl (fun b0 => ?_) (fun b0 => ?_)
  refine xcall rfl (sCon_pc _ (by assumption)) rfl ⟨⟨trivial, trivial, trivial⟩, trivial⟩ ?_
  refine xb rfl (fun b1 => ?_) (fun b1 => ?_)
  refine xr rfl (xret rfl ⟨⟨rfl, ?_, trivial⟩, nodB_nodup rfl⟩)
  rotate_left
  refine xb rfl (fun b2 => ?_) (fun b2 => ?_)
  refine xr rfl (xret rfl ⟨⟨rfl, ?_, trivial⟩, nodB_nodup rfl⟩)
  rotate_left
  refine xr rfl (xret rfl ⟨⟨rfl, ?_, trivial⟩, nodB_nodup rfl⟩)
  rotate_left
  refine xcall rfl (l1Id_pc _) rfl ⟨trivial, trivial⟩ ?_
  refine xb rfl (fun b1 => ?_) (fun b1 => ?_)
  refine xj (k := 5) rfl ?_
  refine xr rfl (xret rfl ⟨⟨rfl, ?_, trivial⟩, nodB_nodup rfl⟩)
  rotate_left
  refine xj (k := 2) rfl ?_
  refine xcall rfl (l1In_pc _ _ _) rfl ⟨trivial, trivial, trivial, trivial⟩ ?_
  refine xj (k := 2) rfl ?_
  refine xb rfl (fun b2 => ?_) (fun b2 => ?_)
  refine xr rfl (xret rfl ⟨⟨rfl, ?_, trivial⟩, nodB_nodup rfl⟩)
  rotate_left
  refine xb rfl (fun b3 => ?_) (fun b3 => ?_)
  refine xr rfl (xret rfl ⟨⟨rfl, ?_, trivial⟩, nodB_nodup rfl⟩)
  rotate_left
  refine xr rfl (xret rfl ⟨⟨rfl, ?_, trivial⟩, nodB_nodup rfl⟩)
  rotate_left
  all_goals (refine vi ?_; unfold evFault; rw [wi12]; simp_all; done)
theorem sc_bts (bs : List Int) : scalarRows (bts bs) := by
  intro r hr
  obtain ⟨b, _, rfl⟩ := List.mem_map.1 hr
  intro c hc
  simp only [List.mem_singleton] at hc
  exact ⟨_, hc⟩
theorem clone_pc (bs : List Int) (hl : bs.length ≤ 1048576) : PC Try.prog 125 [.one (.l (bts bs))] (.one (.own false [.l 1 (bts bs)])) := by
  refine PC.begin Try.func125 rfl (by kernel_rfl) ?_
  have hsc := sc_bts bs
  refine xany rfl (fun b0 b0' => ?_)
  refine xb rfl (fun b1 => ?_) (fun b1 => ?_)
  refine xr rfl (xret rfl ⟨⟨rfl, ?_, trivial⟩, nodB_nodup rfl⟩)
  rotate_left
  refine xs rfl trivial ?_
  refine xs rfl rfl ?_
  refine xs rfl (by simp) ?_
  refine xs rfl (fun _ => hsc) ?_
  refine xs rfl (by simp; omega) ?_
  refine xs rfl (by simp; omega) ?_
  refine xr rfl (xret rfl ⟨⟨rfl, ⟨?_, rfl, .inl rfl⟩, trivial⟩, nodB_nodup rfl⟩)
  rotate_left
  · exact b0' b1
  · simp
theorem pC_step {bs : List Int} {c : Con} {i : Nat} {l : Leg} (h : c.legs[i]? = some l) (hb : bs = packN c.id ++ (c.legs.take i).flatMap packL) : packN c.id ++ (c.legs.take (i + 1)).flatMap packL = (bs ++ [byt l.s, byt l.a, byt l.b]) ++ packN l.v := by
  rw [List.take_add_one, h, List.flatMap_append, hb]
  simp [packL]
theorem fmL_len (ls : List Leg) : (ls.flatMap packL).length = 11 * ls.length := by
  induction ls with
  | nil => rfl
  | cons l ls ih => rw [List.flatMap_cons, List.length_append, ih, packL_len, List.length_cons]; omega
theorem packC_pc (c : Con) (hl : c.legs.length ≤ 1000000) : PC Try.prog 128 [.agg c.cs] (.one (.own false [.l 1 (bts (packC c))])) := by
  refine PC.begin Try.func128 rfl (by kernel_rfl) ?_
  refine xcall rfl (packN_pc c.id) rfl ⟨trivial, trivial⟩ ?_
  refine xloop rfl (ι := Nat) (fun i => i ≤ c.legs.length) (fun i => ⟨[(12, sV (.int .i64 i)), (11, sV (.int .i64 (c.legs.map Leg.cs).length)), (10, .one (.b (.l (c.legs.map Leg.cs)))), (3, .one (.h 900000 (bts (packN c.id ++ (c.legs.take i).flatMap packL)).length))], [(900000, .arr true 1 0 (bts (packN c.id ++ (c.legs.take i).flatMap packL)))]⟩) (fun i => c.legs.length - i) 0 (Nat.zero_le _) ?_ ?_
  · exact ⟨⟨rfl, rfl, rfl, ⟨rfl, by simp, rfl⟩, trivial⟩, ⟨⟨by simp, .inl rfl, .inl rfl⟩, trivial⟩, rfl⟩
  · intro i hi J hJ
    refine xb rfl (fun h => ?_) (fun h => ?_)
    · have h : i < c.legs.length := by simpa using h
      obtain ⟨l, hx⟩ := gx h
      have hg := gm Leg.cs hx
      have hc := packN_pc l.v
      have hBl := fmL_len (c.legs.take i)
      rw [List.length_take, Nat.min_eq_left hi] at hBl
      have hst := fun B h => pC_step (bs := B) hx h
      have hnl : (bts (packN l.v)).length = 8 := rfl
      have hBL : (packN c.id ++ (c.legs.take i).flatMap packL).length = 8 + 11 * i := by rw [List.length_append, hBl]; rfl
      generalize hB : packN c.id ++ (c.legs.take i).flatMap packL = B at hBL ⊢
      refine xs rfl (Int.natCast_nonneg _) ?_
      refine xrow rfl _ hg ?_
      refine xs rfl rfl ?_
      refine xs rfl ⟨trivial, trivial, trivial, trivial⟩ ?_
      refine xs rfl rfl ?_
      refine xs rfl rfl ?_
      refine xs rfl (.inl rfl) ?_
      refine xs rfl (by simp [packN_len]; omega) ?_
      refine xs rfl (by simp [packN_len]; omega) ?_
      refine xcall rfl (hc) rfl ⟨trivial, trivial⟩ ?_
      refine xs rfl (List.length_append.symm) ?_
      refine xs rfl rfl ?_
      refine xs rfl (.inl rfl) ?_
      refine xs rfl (by simp [packN_len]; omega) ?_
      refine xs rfl (by simp [packN_len]; omega) ?_
      have h2 : bts (packN c.id ++ (c.legs.take (i + 1)).flatMap packL) = (bts B ++ [[.s (.int .u8 (IntKind.u8.wrap l.s))], [.s (.int .u8 (IntKind.u8.wrap l.a))], [.s (.int .u8 (IntKind.u8.wrap l.b))]]) ++ bts (packN l.v) := by
        rw [hst B hB.symm]; simp only [bts, List.map_append]; rfl
      refine xcont rfl (hJ _ (i + 1) (by omega) (by omega) ⟨⟨cwi (by omega) (by omega) (by omega), rfl, rfl, ⟨rfl, by rw [h2]; exact List.length_append.symm, rfl⟩, trivial⟩, ⟨⟨h2.symm, .inl rfl, .inl rfl⟩, trivial⟩, rfl⟩)
    · have h : i = c.legs.length := by have : ¬ i < c.legs.length := by simpa using h
                                       omega
      subst h
      rw [List.take_length]
      refine xr rfl (xret rfl ⟨⟨rfl, ⟨rfl, rfl, .inl rfl⟩, trivial⟩, nodB_nodup rfl⟩)
theorem packE_pc (e : Evt) (hl : e.con.legs.length ≤ 1000000) : PC Try.prog 96 [.agg e.cs] (.one (.own false [.l 1 (bts (packE e))])) := by
  refine PC.begin Try.func96 rfl (by kernel_rfl) ?_
  have h0 := packN_pc e.con.id
  have h1 := packC_pc e.con hl
  have hl1 : (packC e.con).length ≤ 11000008 := by unfold packC; rw [List.length_append, fmL_len, packN_len]; omega
  refine xb rfl (fun b0 => ?_) (fun b0 => ?_)
  refine xs rfl ⟨trivial, trivial⟩ ?_
  refine xcall rfl (h1) rfl ⟨⟨trivial, trivial, trivial⟩, trivial⟩ ?_
  refine xs rfl rfl ?_
  refine xs rfl rfl ?_
  refine xs rfl (.inl rfl) ?_
  refine xs rfl (by simp [packN_len]; omega) ?_
  refine xs rfl (by simp [packN_len]; omega) ?_
  refine xr rfl (xret rfl ⟨⟨rfl, ⟨?_, ?_, .inl rfl⟩, trivial⟩, nodB_nodup rfl⟩)
  rotate_left
  rotate_left
  refine xs rfl ⟨trivial, trivial⟩ ?_
  refine xcall rfl (h0) rfl ⟨trivial, trivial⟩ ?_
  refine xs rfl rfl ?_
  refine xs rfl rfl ?_
  refine xs rfl (.inl rfl) ?_
  refine xs rfl (by simp [packN_len]) ?_
  refine xs rfl (by simp [packN_len]) ?_
  refine xs rfl ⟨trivial, trivial⟩ ?_
  refine xs rfl rfl ?_
  refine xs rfl rfl ?_
  refine xs rfl (.inl rfl) ?_
  refine xs rfl (by simp [packN_len]) ?_
  refine xs rfl (by simp [packN_len]) ?_
  refine xr rfl (xret rfl ⟨⟨rfl, ⟨rfl, ?_, .inl rfl⟩, trivial⟩, nodB_nodup rfl⟩)
  rotate_left
  all_goals first | exact List.length_append.symm | (unfold packE; first | (rw [if_pos b0]; done) | (rw [if_pos b0]; rfl) | (rw [if_neg (by simp [b0])]; simp only [bts, List.map_append, List.map_cons, List.map_nil]; rfl))
end Go.Proofs.Ytlkjdcpcbnfbbaa
end
section
namespace Go.Proofs.Ytlkjdcpcbnfbbaa
open Go Go.Sx
set_option maxRecDepth 20000
set_option maxHeartbeats 4000000
open Go.Proofs Go.RowKit Go.Lib
theorem rep_inv_s {w : World} {N : Nat → Prop} {x v : Value} (h : Rep w N (.s x) v) : v = x := by cases h; rfl
theorem conv_bytes {w : World} {N : Nat → Prop} {v : Value} {bs : List Int} (h : Rep w N (.l (bts bs)) v) : (convert 42 9 v).run Try.prog w = .ok (.string (strOfNums bs)) w := by
  have hl : (bts bs).length = bs.length := by simp
  generalize hr : bts bs = rows at h hl
  cases h with
  | l sz _ A cap u hz hc hn hm hrr =>
    subst hr
    rw [run_convert_bytes_string w _ _ _ A _ _ Try.underlying42 Try.underlying5 Try.underlying9]
    cases A with
    | none =>
      obtain rfl : bs = [] := by simpa using hn rfl
      rfl
    | some a =>
      rw [run_bytesToString w a _ cap bs, foldl_push_bytes]
      · simp [strOfNums, ByteArray.empty, ByteArray.emptyWithCapacity]; rfl
      · have := run_loadCells_list (P := Try.prog) w a (bs.map (Value.int .u8)) (fun j v hj => by
          rw [List.getElem?_map] at hj
          cases hb : bs[j]? with
          | none => rw [hb] at hj; cases hj
          | some b =>
            rw [hb] at hj
            simp only [Option.map_some, Option.some.injEq] at hj
            subst hj
            have hj' : j < bs.length := (List.getElem?_eq_some_iff.1 hb).1
            obtain rfl : 1 = sz := hz [.s (.int .u8 b)] (List.mem_of_getElem? (gb hb))
            obtain ⟨a', ha, _, hcell⟩ := hm j 0 (by rw [hl]; exact hj') (by omega)
            cases ha
            have hrep := hrr j 0 _ _ (gb hb) rfl
            rw [Nat.mul_one, Nat.add_zero] at hcell
            rw [hcell]
            rw [rep_inv_s hrep])
        rw [hl]
        simpa using this
theorem str_inj {bs cs : List Int} (hb : BOk bs) (hc : BOk cs) (h1 : bs.map (fun n => UInt8.ofNat n.toNat) = cs.map (fun n => UInt8.ofNat n.toNat)) : bs = cs := by
  induction bs generalizing cs with
  | nil => cases cs with
    | nil => rfl
    | cons => simp at h1
  | cons b bs ih => cases cs with
    | nil => simp at h1
    | cons c cs =>
      simp only [List.map_cons, List.cons.injEq] at h1
      have h2 := hb b (by simp)
      have h3 := hc c (by simp)
      have h4 := congrArg UInt8.toNat h1.1
      simp only [UInt8.toNat_ofNat'] at h4
      rw [Nat.mod_eq_of_lt (by omega), Nat.mod_eq_of_lt (by omega)] at h4
      rw [show b = c by omega, ih (fun x hx => hb x (by simp [hx])) (fun x hx => hc x (by simp [hx])) h1.2]
theorem bEq_pc (bs cs : List Int) (hb : BOk bs) (hc : BOk cs) : PC Try.prog 95 [.one (.l (bts bs)), .one (.l (bts cs))] (rB (decide (bs = cs))) := by
  refine ⟨rfl, fun N w vals h => ?_⟩
  obtain ⟨hs, ha⟩ := h
  obtain ⟨v0, v1, rfl⟩ : ∃ v0 v1, vals = #[v0, v1] := by
    rcases vals with ⟨l⟩
    match l, hs with
    | [a, b], _ => exact ⟨a, b, rfl⟩
  have g0 := conv_bytes (ha 0 _ v0 rfl rfl)
  have g1 := conv_bytes (ha 1 _ v1 rfl rfl)
  have mixed : Try.prog.follows .mixedOrders = true := by kernel_rfl
  have t4 := Try.underlying4
  have t9 := Try.underlying9
  have t37 := Try.underlying42
  have a4 := Try.isAgg4
  have a9 := Try.isAgg9
  have a37 := Try.isAgg42
  refine calls_of_wp Try.func95 rfl ?_
  simp only [Try.ntmps95, List.size_toArray, List.length_cons, List.length_nil, Nat.reduceAdd, Nat.reduceSub, Array.replicate_succ, Array.replicate_zero, List.push_toArray, List.append_toArray, List.nil_append, List.cons_append]
  go_wp2
  go_ret
  refine ⟨_, fun _ => False, rfl, Keep.refl _ _, ⟨#[.bool (decide (bs = cs))], fun _ _ => False, ?_, rfl, fun _ _ h => h.elim, fun _ _ _ h => h.elim, fun k c u hc hu => ?_⟩, fun x h => h.elim⟩
  · show #[_] = #[_]
    have : ((strOfNums bs).toList == (strOfNums cs).toList) = decide (bs = cs) := by
      rw [Bool.eq_iff_iff, beq_iff_eq, decide_eq_true_eq]
      rw [Lib.strOfNums_toList, Lib.strOfNums_toList]
      exact ⟨str_inj hb hc, fun h => by rw [h]⟩
    rw [← this]; rfl
  · match k, hc, hu with
    | 0, hc, hu => cases hc; cases hu; exact ⟨rfl, rfl⟩
end Go.Proofs.Ytlkjdcpcbnfbbaa
end
section
namespace Go.Proofs.Ytlkjdcpcbnfbbaa
open Go Go.Sx
set_option maxRecDepth 20000
set_option maxHeartbeats 4000000
def cUn (bs : List Int) : Con := if unCk bs = true then unC bs else ⟨0, []⟩
theorem sub_bts (bs : List Int) (i j : Nat) : ((bts bs).take j).drop i = bts ((bs.take j).drop i) := by simp [bts, List.map_take, List.map_drop]
theorem lenC_of {n : Nat} (h : lenC n = true) : ∃ k, n = 8 + 11 * k ∧ (n - 8) / 11 = k ∧ k ≤ 8 := by
  simp only [lenC, Bool.and_eq_true, decide_eq_true_eq] at h
  exact ⟨(n - 8) / 11, by omega, rfl, by omega⟩
theorem unLs_len (bs : List Int) (n : Nat) : (unLs bs n).length = n := by simp [unLs]
theorem unLs_step (bs : List Int) (n : Nat) : unLs bs (n + 1) = unLs bs n ++ [unL bs (8 + 11 * n)] := by unfold unLs; rw [List.range_succ, List.map_append]; rfl
theorem len_tm {m : Nat} (h : m ≤ 1048576) (h8 : 8 ≤ m) : (IntKind.i64.wrap ((m : Int) - 8)).tmod 11 = (((m - 8) % 11 : Nat) : Int) := by
  rw [wrap_i64 (by omega) (by omega), Int.tmod_eq_emod_of_nonneg (by omega)]; omega
theorem lenC_no {m : Nat} (h : ¬ lenC m = true) (hl : m ≤ 1048576) (b0 : decide ((m : Int) < 8) = false) (b1 : ((IntKind.i64.wrap ((m : Int) - 8)).tmod 11 != 0) = false) (b2 : decide ((m : Int) > 96) = false) : False := by
  simp only [decide_eq_false_iff_not, bne_eq_false_iff_eq] at b0 b1 b2
  rw [len_tm hl (by omega)] at b1
  apply h
  simp only [lenC, Bool.and_eq_true, decide_eq_true_eq]
  omega
theorem iUnC_pc (bs : List Int) (hb : BOk bs) (hl : bs.length ≤ 1048576) : PC Try.prog 92 [.one (.l (bts bs))] (.one (.own true [.s (.int .i64 (if unCk bs = true then 0 else 5)), .s (.int .i64 (cUn bs).id), .l 4 ((cUn bs).legs.map Leg.cs)])) := by
  have hL : (bts bs).length = bs.length := List.length_map ..
  by_cases hc : lenC bs.length = true
  · obtain ⟨n, hn, hd, hn8⟩ := lenC_of hc
    have hU : unC bs = ⟨unN (bs.take 8), unLs bs n⟩ := by unfold unC; rw [hd]
    have hck : unCk bs = (conFault (unC bs) == 0) := by unfold unCk; rw [hc, Bool.true_and]
    have hpk := pack_unC hb hc
    have hcl : PC Try.prog 127 [.agg (unC bs).cs] (rI (conFault (unC bs))) := iCon_pc _ (by rw [hU, unLs_len]; omega)
    have hcp : PC Try.prog 128 [.agg (unC bs).cs] (.one (.own false [.l 1 (bts bs)])) := by have := packC_pc (unC bs) (by rw [hU, unLs_len]; omega); rw [hpk] at this; exact this
    have hbe : PC Try.prog 95 [.one (.l (bts bs)), .one (.l (bts bs))] (rB true) := by have := bEq_pc bs bs hb hb; rw [decide_eq_true rfl] at this; exact this
    have htm := len_tm hl (by omega)
    rw [show (bs.length - 8) % 11 = 0 by omega] at htm
    have h8 : PC Try.prog 93 [.one (.l (List.drop ((none : Option Int).getD 0).toNat (List.take ((some 8).getD ((bts bs).length : Int)).toNat (bts bs))))] (.one (.own true [.s (.int .i64 0), .s (.int .i64 (unN (bs.take 8)))])) := by
      have := iUnN_pc (bs.take 8) (by rw [List.length_take]; omega)
      rw [bts, List.map_take] at this; exact this
    refine PC.begin Try.func92 rfl (by kernel_rfl) ?_
    refine xb rfl (fun b0 => ?_) (fun b0 => ?_)
    refine xj (k := 10) rfl ?_
    refine xr rfl (xret rfl ⟨⟨rfl, ?_, ?_, ?_, trivial⟩, nodB_nodup rfl⟩)
    rotate_left
    rotate_left
    rotate_left
    refine xj (k := 3) rfl ?_
    refine xs rfl ((by decide)) ?_
    refine xj (k := 2) rfl ?_
    refine xb rfl (fun b1 => ?_) (fun b1 => ?_)
    refine xj (k := 4) rfl ?_
    refine xr rfl (xret rfl ⟨⟨rfl, ?_, ?_, ?_, trivial⟩, nodB_nodup rfl⟩)
    rotate_left
    rotate_left
    rotate_left
    refine xj (k := 3) rfl ?_
    refine xb rfl (fun b2 => ?_) (fun b2 => ?_)
    refine xr rfl (xret rfl ⟨⟨rfl, ?_, ?_, ?_, trivial⟩, nodB_nodup rfl⟩)
    rotate_left
    rotate_left
    rotate_left
    refine xs rfl (.inl rfl) ?_
    refine xs rfl (Int.natCast_nonneg _) ?_
    refine xs rfl (Int.natCast_nonneg _) ?_
    refine xs rfl (by simp; omega) ?_
    refine xcall rfl (h8) rfl ⟨trivial, trivial⟩ ?_
    rotate_left
    all_goals try (exfalso; first | (simp at b0; omega) | (simp at b2; omega) | (rw [hL, htm] at b1; simp at b1; done))
    refine xloop rfl (ι := Nat) (fun i => i ≤ n) (fun i => ⟨[(4, sV (.int .i64 ((8 + 11 * i : Nat) : Int))), (3, .one (.a 3 0)), (2, .one (.a 2 0)), (0, .one (.b (.l (bts bs))))], [(3, .var [.b (i64 (unN (bs.take 8))), .h 63 ((unLs bs i).map Leg.cs).length]), (63, .arr true 4 0 ((unLs bs i).map Leg.cs)), (2, .var [.b (i64 0), .b (i64 0), .nil])]⟩) (fun i => n - i) 0 (Nat.zero_le _) ?_ ?_
    · exact ⟨⟨rfl, ⟨rfl, rfl, rfl⟩, ⟨rfl, rfl, rfl⟩, rfl, trivial⟩, ⟨⟨rfl, ⟨rfl, rfl, rfl⟩, trivial⟩, rfl, ⟨rfl, rfl, trivial, trivial⟩, trivial⟩, rfl⟩
    · intro i hi J hJ
      refine xb rfl (fun h => ?_) (fun h => ?_)
      · have h : i < n := by simp at h; omega
        have w1 : IntKind.i64.wrap (((8 + 11 * i : Nat) : Int) + 1) = ((8 + 11 * i + 1 : Nat) : Int) := wrap_i64 (by omega) (by omega)
        have w2 : IntKind.i64.wrap (((8 + 11 * i : Nat) : Int) + 2) = ((8 + 11 * i + 2 : Nat) : Int) := wrap_i64 (by omega) (by omega)
        have w3 : IntKind.i64.wrap (((8 + 11 * i : Nat) : Int) + 3) = ((8 + 11 * i + 3 : Nat) : Int) := wrap_i64 (by omega) (by omega)
        have w11 : IntKind.i64.wrap (((8 + 11 * i : Nat) : Int) + 11) = ((8 + 11 * i + 11 : Nat) : Int) := wrap_i64 (by omega) (by omega)
        obtain ⟨a, ha⟩ := gx (xs := bs) (i := 8 + 11 * i) (by omega)
        obtain ⟨b, hb1⟩ := gx (xs := bs) (i := 8 + 11 * i + 1) (by omega)
        obtain ⟨c, hc1⟩ := gx (xs := bs) (i := 8 + 11 * i + 2) (by omega)
        have oa := hb a (List.mem_of_getElem? ha)
        have ob := hb b (List.mem_of_getElem? hb1)
        have oc := hb c (List.mem_of_getElem? hc1)
        have ea : bs.getD (8 + 11 * i) 0 = a := by simp [List.getD, ha]
        have eb : bs.getD (8 + 11 * i + 1) 0 = b := by simp [List.getD, hb1]
        have ec : bs.getD (8 + 11 * i + 2) 0 = c := by simp [List.getD, hc1]
        have ga := gb ha
        have gb1 : (bts bs)[(IntKind.i64.wrap (((8 + 11 * i : Nat) : Int) + 1)).toNat]? = some [.s (.int .u8 b)] := by rw [w1, Int.toNat_natCast]; exact gb hb1
        have gc1 : (bts bs)[(IntKind.i64.wrap (((8 + 11 * i : Nat) : Int) + 2)).toNat]? = some [.s (.int .u8 c)] := by rw [w2, Int.toNat_natCast]; exact gb hc1
        have hv : PC Try.prog 93 [.one (.l (List.drop ((some (IntKind.i64.wrap (((8 + 11 * i : Nat) : Int) + 3))).getD 0).toNat (List.take ((some (IntKind.i64.wrap (((8 + 11 * i : Nat) : Int) + 11))).getD ((bts bs).length : Int)).toNat (bts bs))))] (.one (.own true [.s (.int .i64 0), .s (.int .i64 (unL bs (8 + 11 * i)).v)])) := by
          have := iUnN_pc ((bs.drop (8 + 11 * i + 3)).take 8) (by rw [List.length_take, List.length_drop]; omega)
          simp only [Option.getD_some]
          rw [w3, w11, Int.toNat_natCast, Int.toNat_natCast, sub_bts, List.drop_take, show 8 + 11 * i + 11 - (8 + 11 * i + 3) = 8 by omega]
          exact this
        refine xs rfl (.inr (by simp)) ?_
        refine xs rfl (by simp only [Option.getD_some]; rw [w3]; omega) ?_
        refine xs rfl (by simp only [Option.getD_some]; rw [w3]; omega) ?_
        refine xs rfl (by simp only [Option.getD_some]; rw [w11, hL]; omega) ?_
        refine xcall rfl (hv) rfl ⟨trivial, trivial⟩ ?_
        refine xdraw rfl [] (.take 0 [] (.take 1 [22, 23, 24] (.take 2 [] (.take 3 [] (.take 4 [] (.take 5 [6, 20, 21, 22, 23, 24] (.take 6 [] (.take 7 [] (.take 8 [] (.take 9 [] (.take 10 [] (.take 11 [12, 20, 21, 22, 23, 24] (.take 12 [] (.take 13 [] (.take 14 [] (.take 15 [] (.take 16 [] (.take 17 [18, 20, 21, 22, 23, 24] (.take 18 [] (.take 19 [] (.take 20 [] (.alt 21 (.alt 22 (.take 23 [] (.alt 24 .done .nil)) .nil) .nil)))))))))))))))))))))) (by kernel_rfl) ?_
        refine xs rfl (by omega) ?_
        refine xrow rfl _ ga ?_
        refine xs rfl rfl ?_
        refine xs rfl (by rw [w1]; omega) ?_
        refine xrow rfl _ gb1 ?_
        refine xs rfl rfl ?_
        refine xs rfl (by rw [w2]; omega) ?_
        refine xrow rfl _ gc1 ?_
        refine xs rfl rfl ?_
        refine xs rfl ⟨trivial, trivial, trivial, trivial, trivial⟩ ?_
        refine xs rfl rfl ?_
        refine xs rfl rfl ?_
        refine xs rfl (.inl rfl) ?_
        refine xs rfl (by simp [unLs_len]; omega) ?_
        refine xs rfl (by simp [unLs_len]; omega) ?_
        have h2 : (unLs bs (i + 1)).map Leg.cs = (unLs bs i).map Leg.cs ++ [[i64 (IntKind.i64.wrap a), i64 (IntKind.i64.wrap b), i64 (IntKind.i64.wrap c), i64 (unL bs (8 + 11 * i)).v]] := by
          rw [unLs_step, List.map_append, wrap_i64 (n := a) (by omega) (by omega), wrap_i64 (n := b) (by omega) (by omega), wrap_i64 (n := c) (by omega) (by omega), ← ea, ← eb, ← ec]; rfl
        have h3 : ((8 + 11 * i + 11 : Nat) : Int) = ((8 + 11 * (i + 1) : Nat) : Int) := by omega
        exact xcont rfl (hJ _ (i + 1) (by omega) (by omega) ⟨⟨congrArg (fun n => Cell.s (.int .i64 n)) (w11.trans h3), ⟨rfl, rfl, rfl⟩, ⟨rfl, rfl, rfl⟩, rfl, trivial⟩, ⟨⟨rfl, ⟨rfl, by rw [h2]; exact List.length_append.symm, rfl⟩, trivial⟩, ⟨h2.symm, .inl rfl, .inl rfl⟩, ⟨rfl, rfl, trivial, trivial⟩, trivial⟩, rfl⟩)
      · have h : i = n := by simp at h; omega
        subst h
        have hcl' : PC Try.prog 127 [.agg [i64 (unN (bs.take 8)), .l ((unLs bs i).map Leg.cs)]] (rI (conFault (unC bs))) := by rw [hU] at hcl ⊢; exact hcl
        have hcp' : PC Try.prog 128 [.agg [i64 (unN (bs.take 8)), .l ((unLs bs i).map Leg.cs)]] (.one (.own false [.l 1 (bts bs)])) := by rw [hU] at hcp; exact hcp
        have hkf : (conFault (unC bs) != 0) = true → unCk bs = false := fun h => by rw [hck]; simpa using h
        have hkt : (conFault (unC bs) != 0) = false → unCk bs = true := fun h => by rw [hck]; simpa using h
        refine xcall rfl (hcl') rfl ⟨⟨trivial, rfl, trivial⟩, trivial⟩ ?_
        refine xb rfl (fun b0 => ?_) (fun b0 => ?_)
        refine xj (k := 6) rfl ?_
        refine xr rfl (xret rfl ⟨⟨rfl, ?_, ?_, ?_, trivial⟩, nodB_nodup rfl⟩)
        rotate_left
        rotate_left
        rotate_left
        refine xj (k := 1) rfl ?_
        refine xcall rfl (hcp') rfl ⟨⟨trivial, rfl, trivial⟩, trivial⟩ ?_
        refine xj (k := 2) rfl ?_
        refine xcall rfl (hbe) rfl ⟨rfl, trivial, trivial⟩ ?_
        refine xj (k := 3) rfl ?_
        refine xr rfl (xret rfl ⟨⟨rfl, ?_, ?_, ⟨rfl, ?_, .inl rfl⟩, trivial⟩, nodB_nodup rfl⟩)
        rotate_left
        rotate_left
        rotate_left
        · exact vi (by rw [hkf b0]; rfl)
        · exact vi (by unfold cUn; rw [hkf b0]; rfl)
        · exact (by unfold cUn; rw [hkf b0]; rfl : (cUn bs).legs.map Leg.cs = [])
        · exact vi (by rw [hkt b0]; rfl)
        · exact vi (by unfold cUn; rw [hkt b0, if_pos rfl, hU])
        · unfold cUn; rw [hkt b0, if_pos rfl, hU]
  · have hk : unCk bs = false := by unfold unCk; rw [Bool.eq_false_iff.2 hc, Bool.false_and]
    have e : cUn bs = ⟨0, []⟩ := by unfold cUn; rw [hk]; rfl
    rw [e, hk]
    refine PC.begin Try.func92 rfl (by kernel_rfl) ?_
    refine xb rfl (fun b0 => ?_) (fun b0 => ?_)
    refine xj (k := 10) rfl ?_
    refine xr rfl (xret rfl ⟨⟨rfl, rfl, rfl, rfl, trivial⟩, nodB_nodup rfl⟩)
    refine xj (k := 3) rfl ?_
    refine xs rfl ((by decide)) ?_
    refine xj (k := 2) rfl ?_
    refine xb rfl (fun b1 => ?_) (fun b1 => ?_)
    refine xj (k := 4) rfl ?_
    refine xr rfl (xret rfl ⟨⟨rfl, rfl, rfl, rfl, trivial⟩, nodB_nodup rfl⟩)
    refine xj (k := 3) rfl ?_
    refine xb rfl (fun b2 => ?_) (fun b2 => ?_)
    refine xr rfl (xret rfl ⟨⟨rfl, rfl, rfl, rfl, trivial⟩, nodB_nodup rfl⟩)
    refine xs rfl (.inl rfl) ?_
    refine xs rfl (Int.natCast_nonneg _) ?_
    refine xs rfl (Int.natCast_nonneg _) ?_
    refine xs rfl ?_ ?_
    rotate_left
    rotate_left
    all_goals (rw [hL] at b0 b1 b2; exact (lenC_no hc hl b0 b1 b2).elim)
def cUnS (bs : List Int) : Con := if lenC bs.length = true then unC bs else ⟨0, []⟩
theorem sUnC_pc (bs : List Int) (hb : BOk bs) (hl : bs.length ≤ 1048576) : PC Try.prog 121 [.one (.l (bts bs))] (.tup [.own true [.s (.int .i64 (cUnS bs).id), .l 4 ((cUnS bs).legs.map Leg.cs)], .own false [.s (.bool (unCk bs))]]) := by
  have hL : (bts bs).length = bs.length := List.length_map ..
  by_cases hc : lenC bs.length = true
  · obtain ⟨n, hn, hd, hn8⟩ := lenC_of hc
    have hU : unC bs = ⟨unN (bs.take 8), unLs bs n⟩ := by unfold unC; rw [hd]
    have hck : unCk bs = (conFault (unC bs) == 0) := by unfold unCk; rw [hc, Bool.true_and]
    have hS : cUnS bs = unC bs := by unfold cUnS; rw [if_pos hc]
    rw [hS, hck, hU]
    rw [← hU]
    have hcl : PC Try.prog 141 [.agg (unC bs).cs] (rI (conFault (unC bs))) := sCon_pc _ (by rw [hU, unLs_len]; omega)
    have htm := len_tm hl (by omega)
    rw [show (bs.length - 8) % 11 = 0 by omega] at htm
    have h8 : PC Try.prog 122 [.one (.l (List.drop ((none : Option Int).getD 0).toNat (List.take ((some 8).getD ((bts bs).length : Int)).toNat (bts bs))))] (rI (unN (bs.take 8))) := by
      have := sUnN_pc (bs.take 8) (by rw [List.length_take]; omega)
      rw [bts, List.map_take] at this; exact this
    refine PC.begin Try.func121 rfl (by kernel_rfl) ?_
    refine xb rfl (fun b0 => ?_) (fun b0 => ?_)
    refine xj (k := 10) rfl ?_
    refine xr rfl (xret rfl ⟨(by decide), ⟨⟨rfl, ?_, ?_, trivial⟩, ⟨rfl, ?_, trivial⟩, trivial⟩, nodB_nodup rfl⟩)
    rotate_left
    rotate_left
    rotate_left
    refine xj (k := 3) rfl ?_
    refine xs rfl ((by decide)) ?_
    refine xj (k := 2) rfl ?_
    refine xb rfl (fun b1 => ?_) (fun b1 => ?_)
    refine xj (k := 4) rfl ?_
    refine xr rfl (xret rfl ⟨(by decide), ⟨⟨rfl, ?_, ?_, trivial⟩, ⟨rfl, ?_, trivial⟩, trivial⟩, nodB_nodup rfl⟩)
    rotate_left
    rotate_left
    rotate_left
    refine xj (k := 3) rfl ?_
    refine xb rfl (fun b2 => ?_) (fun b2 => ?_)
    refine xr rfl (xret rfl ⟨(by decide), ⟨⟨rfl, ?_, ?_, trivial⟩, ⟨rfl, ?_, trivial⟩, trivial⟩, nodB_nodup rfl⟩)
    rotate_left
    rotate_left
    rotate_left
    refine xs rfl (.inl rfl) ?_
    refine xs rfl (Int.natCast_nonneg _) ?_
    refine xs rfl (Int.natCast_nonneg _) ?_
    refine xs rfl (by simp; omega) ?_
    refine xcall rfl (h8) rfl ⟨trivial, trivial⟩ ?_
    rotate_left
    all_goals try (exfalso; first | (simp at b0; omega) | (simp at b2; omega) | (rw [hL, htm] at b1; simp at b1; done))
    refine xloop rfl (ι := Nat) (fun i => i ≤ n) (fun i => ⟨[(5, sV (.int .i64 ((8 + 11 * i : Nat) : Int))), (4, .one (.a 4 0)), (2, .one (.a 2 0)), (0, .one (.b (.l (bts bs))))], [(4, .var [.b (i64 (unN (bs.take 8))), .h 61 ((unLs bs i).map Leg.cs).length]), (61, .arr true 4 0 ((unLs bs i).map Leg.cs)), (2, .var [.b (i64 0), .nil])]⟩) (fun i => n - i) 0 (Nat.zero_le _) ?_ ?_
    · exact ⟨⟨rfl, ⟨rfl, rfl, rfl⟩, ⟨rfl, rfl, rfl⟩, rfl, trivial⟩, ⟨⟨rfl, ⟨rfl, rfl, rfl⟩, trivial⟩, rfl, ⟨rfl, trivial, trivial⟩, trivial⟩, rfl⟩
    · intro i hi J hJ
      refine xb rfl (fun h => ?_) (fun h => ?_)
      · have h : i < n := by simp at h; omega
        have w1 : IntKind.i64.wrap (((8 + 11 * i : Nat) : Int) + 1) = ((8 + 11 * i + 1 : Nat) : Int) := wrap_i64 (by omega) (by omega)
        have w2 : IntKind.i64.wrap (((8 + 11 * i : Nat) : Int) + 2) = ((8 + 11 * i + 2 : Nat) : Int) := wrap_i64 (by omega) (by omega)
        have w3 : IntKind.i64.wrap (((8 + 11 * i : Nat) : Int) + 3) = ((8 + 11 * i + 3 : Nat) : Int) := wrap_i64 (by omega) (by omega)
        have w11 : IntKind.i64.wrap (((8 + 11 * i : Nat) : Int) + 11) = ((8 + 11 * i + 11 : Nat) : Int) := wrap_i64 (by omega) (by omega)
        obtain ⟨a, ha⟩ := gx (xs := bs) (i := 8 + 11 * i) (by omega)
        obtain ⟨b, hb1⟩ := gx (xs := bs) (i := 8 + 11 * i + 1) (by omega)
        obtain ⟨c, hc1⟩ := gx (xs := bs) (i := 8 + 11 * i + 2) (by omega)
        have oa := hb a (List.mem_of_getElem? ha)
        have ob := hb b (List.mem_of_getElem? hb1)
        have oc := hb c (List.mem_of_getElem? hc1)
        have ea : bs.getD (8 + 11 * i) 0 = a := by simp [List.getD, ha]
        have eb : bs.getD (8 + 11 * i + 1) 0 = b := by simp [List.getD, hb1]
        have ec : bs.getD (8 + 11 * i + 2) 0 = c := by simp [List.getD, hc1]
        have ga := gb ha
        have gb1 : (bts bs)[(IntKind.i64.wrap (((8 + 11 * i : Nat) : Int) + 1)).toNat]? = some [.s (.int .u8 b)] := by rw [w1, Int.toNat_natCast]; exact gb hb1
        have gc1 : (bts bs)[(IntKind.i64.wrap (((8 + 11 * i : Nat) : Int) + 2)).toNat]? = some [.s (.int .u8 c)] := by rw [w2, Int.toNat_natCast]; exact gb hc1
        have hv : PC Try.prog 122 [.one (.l (List.drop ((some (IntKind.i64.wrap (((8 + 11 * i : Nat) : Int) + 3))).getD 0).toNat (List.take ((some (IntKind.i64.wrap (((8 + 11 * i : Nat) : Int) + 11))).getD ((bts bs).length : Int)).toNat (bts bs))))] (rI (unL bs (8 + 11 * i)).v) := by
          have := sUnN_pc ((bs.drop (8 + 11 * i + 3)).take 8) (by rw [List.length_take, List.length_drop]; omega)
          simp only [Option.getD_some]
          rw [w3, w11, Int.toNat_natCast, Int.toNat_natCast, sub_bts, List.drop_take, show 8 + 11 * i + 11 - (8 + 11 * i + 3) = 8 by omega]
          exact this
        refine xdraw rfl [] (.take 0 [] (.take 1 [28, 29, 30] (.take 2 [] (.take 3 [] (.take 4 [] (.take 5 [6, 26, 27, 28, 29, 30] (.take 6 [] (.take 7 [] (.take 8 [] (.take 9 [] (.take 10 [] (.take 11 [12, 26, 27, 28, 29, 30] (.take 12 [] (.take 13 [] (.take 14 [] (.take 15 [] (.take 16 [] (.take 17 [18, 26, 27, 28, 29, 30] (.take 18 [] (.take 19 [] (.take 20 [] (.take 21 [] (.take 22 [] (.take 23 [] (.take 24 [] (.alt 25 (.take 26 [] (.alt 27 (.alt 28 (.take 29 [] (.alt 30 .done .nil)) .nil) .nil)) .nil)))))))))))))))))))))))))) (by kernel_rfl) ?_
        refine xs rfl (by omega) ?_
        refine xrow rfl _ ga ?_
        refine xs rfl rfl ?_
        refine xs rfl (by rw [w1]; omega) ?_
        refine xrow rfl _ gb1 ?_
        refine xs rfl rfl ?_
        refine xs rfl (by rw [w2]; omega) ?_
        refine xrow rfl _ gc1 ?_
        refine xs rfl rfl ?_
        refine xs rfl (.inr (by simp)) ?_
        refine xs rfl (by simp only [Option.getD_some]; rw [w3]; omega) ?_
        refine xs rfl (by simp only [Option.getD_some]; rw [w3]; omega) ?_
        refine xs rfl (by simp only [Option.getD_some]; rw [w11, hL]; omega) ?_
        refine xcall rfl (hv) rfl ⟨trivial, trivial⟩ ?_
        refine xs rfl ⟨trivial, trivial, trivial, trivial, trivial⟩ ?_
        refine xs rfl rfl ?_
        refine xs rfl rfl ?_
        refine xs rfl (.inl rfl) ?_
        refine xs rfl (by simp [unLs_len]; omega) ?_
        refine xs rfl (by simp [unLs_len]; omega) ?_
        have h2 : (unLs bs (i + 1)).map Leg.cs = (unLs bs i).map Leg.cs ++ [[i64 (IntKind.i64.wrap a), i64 (IntKind.i64.wrap b), i64 (IntKind.i64.wrap c), i64 (unL bs (8 + 11 * i)).v]] := by
          rw [unLs_step, List.map_append, wrap_i64 (n := a) (by omega) (by omega), wrap_i64 (n := b) (by omega) (by omega), wrap_i64 (n := c) (by omega) (by omega), ← ea, ← eb, ← ec]; rfl
        have h3 : ((8 + 11 * i + 11 : Nat) : Int) = ((8 + 11 * (i + 1) : Nat) : Int) := by omega
        exact xcont rfl (hJ _ (i + 1) (by omega) (by omega) ⟨⟨congrArg (fun n => Cell.s (.int .i64 n)) (w11.trans h3), ⟨rfl, rfl, rfl⟩, ⟨rfl, rfl, rfl⟩, rfl, trivial⟩, ⟨⟨rfl, ⟨rfl, by rw [h2]; exact List.length_append.symm, rfl⟩, trivial⟩, ⟨h2.symm, .inl rfl, .inl rfl⟩, ⟨rfl, trivial, trivial⟩, trivial⟩, rfl⟩)
      · have h : i = n := by simp at h; omega
        subst h
        have hcl' : PC Try.prog 141 [.agg [i64 (unN (bs.take 8)), .l ((unLs bs i).map Leg.cs)]] (rI (conFault (unC bs))) := by rw [hU] at hcl ⊢; exact hcl
        refine xdraw rfl [] (.take 0 [4, 5] (.take 1 [2, 3, 4, 5] (.alt 2 (.take 3 [] (.alt 4 (.take 5 [] .done) .nil)) .nil))) (by kernel_rfl) ?_
        refine xcall rfl (hcl') rfl ⟨⟨trivial, rfl, trivial⟩, trivial⟩ ?_
        refine xr rfl (xret rfl ⟨(by decide), ⟨⟨rfl, rfl, ⟨rfl, ?_, .inl rfl⟩, trivial⟩, ⟨rfl, rfl, trivial⟩, trivial⟩, nodB_nodup rfl⟩)
        rw [hU]
  · have hk : unCk bs = false := by unfold unCk; rw [Bool.eq_false_iff.2 hc, Bool.false_and]
    have e : cUnS bs = ⟨0, []⟩ := by unfold cUnS; rw [if_neg hc]
    rw [e, hk]
    refine PC.begin Try.func121 rfl (by kernel_rfl) ?_
    refine xb rfl (fun b0 => ?_) (fun b0 => ?_)
    refine xj (k := 10) rfl ?_
    refine xr rfl (xret rfl ⟨(by decide), ⟨⟨rfl, rfl, rfl, trivial⟩, ⟨rfl, rfl, trivial⟩, trivial⟩, nodB_nodup rfl⟩)
    refine xj (k := 3) rfl ?_
    refine xs rfl ((by decide)) ?_
    refine xj (k := 2) rfl ?_
    refine xb rfl (fun b1 => ?_) (fun b1 => ?_)
    refine xj (k := 4) rfl ?_
    refine xr rfl (xret rfl ⟨(by decide), ⟨⟨rfl, rfl, rfl, trivial⟩, ⟨rfl, rfl, trivial⟩, trivial⟩, nodB_nodup rfl⟩)
    refine xj (k := 3) rfl ?_
    refine xb rfl (fun b2 => ?_) (fun b2 => ?_)
    refine xr rfl (xret rfl ⟨(by decide), ⟨⟨rfl, rfl, rfl, trivial⟩, ⟨rfl, rfl, trivial⟩, trivial⟩, nodB_nodup rfl⟩)
    refine xs rfl (.inl rfl) ?_
    refine xs rfl (Int.natCast_nonneg _) ?_
    refine xs rfl (Int.natCast_nonneg _) ?_
    refine xs rfl ?_ ?_
    rotate_left
    rotate_left
    all_goals (rw [hL] at b0 b1 b2; exact (lenC_no hc hl b0 b1 b2).elim)
end Go.Proofs.Ytlkjdcpcbnfbbaa
end
section
namespace Go.Proofs.Ytlkjdcpcbnfbbaa
open Go Go.Sx
set_option maxRecDepth 20000
set_option maxHeartbeats 4000000
theorem head_len {bs : List Int} {n : Int} (h : headIs bs n = true) : 0 < bs.length := by rw [head_cons h]; simp
theorem head_at {bs : List Int} {n : Int} (h : headIs bs n = true) : (bts bs)[0]? = some [.s (.int .u8 n)] := by
  unfold headIs at h
  exact gb (by simpa using h)
theorem packE_ok (e : Evt) : BOk (packE e) := by
  have hl : ∀ l : Leg, BOk (packL l) := fun l b hb => by
    rcases List.mem_append.1 hb with h | h
    · simp only [List.mem_cons, List.not_mem_nil, or_false] at h
      rcases h with rfl | rfl | rfl <;> exact byt_ok _
    · exact packN_ok _ b h
  have hc : BOk (packC e.con) := fun b hb => by
    rcases List.mem_append.1 hb with h | h
    · exact packN_ok _ b h
    · obtain ⟨l, _, h⟩ := List.mem_flatMap.1 h
      exact hl l b h
  unfold packE
  split
  · intro b hb
    rcases List.mem_cons.1 hb with rfl | h
    · omega
    · exact hc b h
  · intro b hb
    rcases List.mem_append.1 hb with h | h
    · rcases List.mem_cons.1 h with rfl | h
      · omega
      · exact packN_ok _ b h
    · rw [List.mem_singleton.1 h]; exact byt_ok _
theorem unLs_le (bs : List Int) : (cUn bs).legs.length ≤ 8 := by
  unfold cUn
  split
  · rename_i h
    unfold unCk at h
    simp only [Bool.and_eq_true] at h
    obtain ⟨k, h1, h2, h3⟩ := lenC_of h.1
    unfold unC
    rw [unLs_len]; omega
  · exact Nat.zero_le _
theorem unE_le (bs : List Int) : (unE bs).con.legs.length ≤ 8 := by
  unfold unE
  split
  · exact unLs_le _
  · split <;> exact Nat.zero_le _
theorem unE_calls (bs : List Int) (hb : BOk bs) : PC Try.prog 94 [.agg (unE bs).cs] (rI (evFault (unE bs))) ∧ PC Try.prog 96 [.agg (unE bs).cs] (.one (.own false [.l 1 (bts (packE (unE bs)))])) ∧ PC Try.prog 95 [.one (.l (bts (packE (unE bs)))), .one (.l (bts bs))] (rB (decide (packE (unE bs) = bs))) :=
  have h := unE_le bs
  ⟨iEvF_pc _ (by omega), packE_pc _ (by omega), bEq_pc _ _ (packE_ok _) hb⟩
theorem unE_end {bs : List Int} (hb : BOk bs) (h : (evFault (unE bs) == 0) = true) : decide (packE (unE bs) = bs) = okE bs := by
  rw [okE_fault] at h
  rw [h, okE_pack hb h]; simp
theorem unE_end' {bs : List Int} (h : (evFault (unE bs) == 0) = false) : false = okE bs := by rw [okE_fault] at h; exact h.symm
theorem iUnE_pc (bs : List Int) (hb : BOk bs) (hl : bs.length ≤ 1048576) : PC Try.prog 47 [.one (.l (bts bs))] (.tup [.own true [.s (.bool (unE bs).vote), .s (.int .i64 (unE bs).con.id), .l 4 ((unE bs).con.legs.map Leg.cs), .s (.int .i64 (unE bs).out)], .own false [.s (.bool (okE bs))]]) := by
  have hL : (bts bs).length = bs.length := List.length_map ..
  obtain ⟨hev, hpe, hbe⟩ := unE_calls bs hb
  by_cases h1 : headIs bs 1 = true
  · have hE : unE bs = ⟨true, cUn (bs.drop 1), 0⟩ := by unfold unE; rw [if_pos h1]; rfl
    have hg := head_at h1
    have hn := head_len h1
    have hu : PC Try.prog 92 [.one (.l (List.drop ((some (1 : Int)).getD 0).toNat (List.take ((none : Option Int).getD ((bts bs).length : Int)).toNat (bts bs))))] (.one (.own true [.s (.int .i64 (if unCk (bs.drop 1) = true then 0 else 5)), .s (.int .i64 (cUn (bs.drop 1)).id), .l 4 ((cUn (bs.drop 1)).legs.map Leg.cs)])) := by
      have := iUnC_pc (bs.drop 1) (hb.drop 1) (by rw [List.length_drop]; omega)
      rw [show ((some (1 : Int)).getD 0).toNat = 1 from rfl, show ((none : Option Int).getD ((bts bs).length : Int)).toNat = (bts bs).length from rfl, sub_bts, hL, List.take_length]; exact this
    have he := fun h => unE_end hb h
    have he' := fun h => unE_end' (bs := bs) h
    rw [hE] at hev hpe hbe he he' ⊢
    refine PC.begin Try.func47 rfl (by kernel_rfl) ?_
    refine xb rfl (fun b0 => ?_) (fun b0 => ?_)
    refine xj (k := 1) rfl ?_
    refine xs rfl (Int.le_refl _) ?_
    refine xrow rfl _ hg ?_
    refine xs rfl rfl ?_
    refine xj (k := 4) rfl ?_
    refine xs rfl (.inr (by simp)) ?_
    refine xs rfl (Int.natCast_nonneg _) ?_
    refine xs rfl (show (1 : Int) ≤ ((bts bs).length : Int) by omega) ?_
    refine xs rfl (Int.le_refl _) ?_
    refine xcall rfl (hu) rfl ⟨trivial, trivial⟩ ?_
    refine xdraw rfl [] (.take 0 [10, 11] (.take 1 [2, 3, 4, 5, 6, 7, 8, 9, 10, 11] (.alt 2 (.take 3 [] (.take 4 [] (.take 5 [6, 8, 9, 10, 11] (.take 7 [] (.alt 6 (.alt 8 (.take 9 [] (.alt 10 (.take 11 [] .done) .nil)) .nil) .nil))))) .nil))) (by kernel_rfl) ?_
    refine xcall rfl (hev) rfl ⟨⟨trivial, trivial, rfl, trivial, trivial⟩, trivial⟩ ?_
    refine xb rfl (fun b1 => ?_) (fun b1 => ?_)
    refine xj (k := 2) rfl ?_
    refine xcall rfl (hpe) rfl ⟨⟨trivial, trivial, rfl, trivial, trivial⟩, trivial⟩ ?_
    refine xj (k := 1) rfl ?_
    refine xcall rfl (hbe) rfl ⟨rfl, trivial, trivial⟩ ?_
    refine xj (k := 1) rfl ?_
    refine xr rfl (xret rfl ⟨(by decide), ⟨⟨rfl, rfl, rfl, ⟨rfl, rfl, .inl rfl⟩, rfl, trivial⟩, ⟨rfl, ?_, trivial⟩, trivial⟩, nodB_nodup rfl⟩)
    rotate_left
    refine xj (k := 4) rfl ?_
    refine xr rfl (xret rfl ⟨(by decide), ⟨⟨rfl, rfl, rfl, ⟨rfl, rfl, .inl rfl⟩, rfl, trivial⟩, ⟨rfl, ?_, trivial⟩, trivial⟩, nodB_nodup rfl⟩)
    rotate_left
    exact absurd b0 (by simp [*])
    all_goals first | exact vb (he (by assumption)) | exact vb (he' (by assumption))
  · by_cases h2 : bs.length = 10 ∧ headIs bs 2 = true
    · obtain ⟨h2, h3⟩ := h2
      have hE : unE bs = ⟨false, ⟨unN ((bs.drop 1).take 8), []⟩, bs.getD 9 0⟩ := by unfold unE; rw [if_neg h1, if_pos ⟨h2, h3⟩]
      have hg := head_at h3
      obtain ⟨b, hx⟩ := gx (xs := bs) (i := 9) (by omega)
      have hg9 := gb hx
      have e9 : bs.getD 9 0 = b := by simp [List.getD, hx]
      have ob := hb b (List.mem_of_getElem? hx)
      have wb : IntKind.i64.wrap b = b := wrap_i64 (by omega) (by omega)
      have hu : PC Try.prog 93 [.one (.l (List.drop ((some (1 : Int)).getD 0).toNat (List.take ((some (9 : Int)).getD ((bts bs).length : Int)).toNat (bts bs))))] (.one (.own true [.s (.int .i64 0), .s (.int .i64 (unN ((bs.drop 1).take 8)))])) := by
        have := iUnN_pc ((bs.drop 1).take 8) (by rw [List.length_take, List.length_drop]; omega)
        rw [show ((some (1 : Int)).getD 0).toNat = 1 from rfl, show ((some (9 : Int)).getD ((bts bs).length : Int)).toNat = 9 from rfl, sub_bts, List.drop_take]; exact this
      have he := fun h => unE_end hb h
      have he' := fun h => unE_end' (bs := bs) h
      rw [hE, e9, ← wb] at hev hpe hbe he he' ⊢
      refine PC.begin Try.func47 rfl (by kernel_rfl) ?_
      refine xb rfl (fun b0 => ?_) (fun b0 => ?_)
      refine xj (k := 1) rfl ?_
      refine xs rfl (Int.natCast_nonneg _) ?_
      refine xrow rfl _ hg ?_
      refine xs rfl rfl ?_
      refine xj (k := 4) rfl ?_
      refine xb rfl (fun b1 => ?_) (fun b1 => ?_)
      refine xj (k := 1) rfl ?_
      refine xs rfl (Int.natCast_nonneg _) ?_
      refine xrow rfl _ hg ?_
      refine xs rfl rfl ?_
      refine xj (k := 4) rfl ?_
      refine xdraw rfl [] (.take 0 [] (.take 1 [] (.take 5 [] (.take 6 [] (.take 7 [8, 9, 10] (.take 8 [] (.alt 2 (.take 3 [] (.take 4 [] (.take 9 [] (.alt 10 .done .nil)))) .nil))))))) (by kernel_rfl) ?_
      refine xs rfl (.inr (by simp)) ?_
      refine xs rfl (Int.natCast_nonneg _) ?_
      refine xs rfl (Int.natCast_nonneg _) ?_
      refine xs rfl (show (9 : Int) ≤ ((bts bs).length : Int) by omega) ?_
      refine xs rfl (Int.natCast_nonneg _) ?_
      refine xrow rfl _ hg9 ?_
      refine xs rfl rfl ?_
      refine xcall rfl (hu) rfl ⟨trivial, trivial⟩ ?_
      refine xdraw rfl [] (.take 0 [10, 11] (.take 1 [2, 3, 4, 5, 6, 7, 8, 9, 10, 11] (.alt 2 (.take 3 [] (.take 4 [] (.take 5 [6, 8, 9, 10, 11] (.take 7 [] (.alt 6 (.alt 8 (.take 9 [] (.alt 10 (.take 11 [] .done) .nil)) .nil) .nil))))) .nil))) (by kernel_rfl) ?_
      refine xcall rfl (hev) rfl ⟨⟨trivial, trivial, trivial, trivial, trivial⟩, trivial⟩ ?_
      refine xb rfl (fun b2 => ?_) (fun b2 => ?_)
      refine xj (k := 2) rfl ?_
      refine xcall rfl (hpe) rfl ⟨⟨trivial, trivial, trivial, trivial, trivial⟩, trivial⟩ ?_
      refine xj (k := 1) rfl ?_
      refine xcall rfl (hbe) rfl ⟨rfl, trivial, trivial⟩ ?_
      refine xj (k := 1) rfl ?_
      refine xr rfl (xret rfl ⟨(by decide), ⟨⟨rfl, rfl, rfl, rfl, rfl, trivial⟩, ⟨rfl, ?_, trivial⟩, trivial⟩, nodB_nodup rfl⟩)
      rotate_left
      refine xj (k := 4) rfl ?_
      refine xr rfl (xret rfl ⟨(by decide), ⟨⟨rfl, rfl, rfl, rfl, rfl, trivial⟩, ⟨rfl, ?_, trivial⟩, trivial⟩, nodB_nodup rfl⟩)
      rotate_left
      exact absurd b1 (by simp; omega)
      exact absurd b0 (by simp [*])
      all_goals first | exact vb (he (by assumption)) | exact vb (he' (by assumption))
    · have hE : unE bs = evt0 := by unfold unE; rw [if_neg h1, if_neg h2]
      have he := fun h => unE_end hb h
      have he' := fun h => unE_end' (bs := bs) h
      rw [hE] at hev hpe hbe he he' ⊢
      clear hE hl
      cases bs with
      | nil =>
        refine PC.begin Try.func47 rfl (by kernel_rfl) ?_
        refine xj (k := 12) rfl ?_
        refine xdraw rfl [] (.take 0 [10, 11] (.take 1 [2, 3, 4, 5, 6, 7, 8, 9, 10, 11] (.alt 2 (.take 3 [] (.take 4 [] (.take 5 [6, 8, 9, 10, 11] (.take 7 [] (.alt 6 (.alt 8 (.take 9 [] (.alt 10 (.take 11 [] .done) .nil)) .nil) .nil))))) .nil))) (by kernel_rfl) ?_
        refine xcall rfl (hev) rfl ⟨⟨trivial, trivial, trivial, trivial, trivial⟩, trivial⟩ ?_
        refine xj (k := 5) rfl ?_
        refine xr rfl (xret rfl ⟨(by decide), ⟨⟨rfl, rfl, rfl, rfl, rfl, trivial⟩, ⟨rfl, rfl, trivial⟩, trivial⟩, nodB_nodup rfl⟩)
        all_goals first | exact vb (he (by assumption)) | exact vb (he' (by assumption))
      | cons x r =>
        have hg : (bts (x :: r))[0]? = some [.s (.int .u8 x)] := rfl
        have hx1 : ¬ x = 1 := by simpa [headIs] using h1
        have hx2 : r.length + 1 = 10 → ¬ x = 2 := by simpa [headIs] using h2
        refine PC.begin Try.func47 rfl (by kernel_rfl) ?_
        refine xb rfl (fun b0 => ?_) (fun b0 => ?_)
        refine xj (k := 1) rfl ?_
        refine xs rfl (Int.natCast_nonneg _) ?_
        refine xrow rfl _ hg ?_
        refine xs rfl rfl ?_
        refine xj (k := 3) rfl ?_
        refine xb rfl (fun b1 => ?_) (fun b1 => ?_)
        exact absurd b1 (by simp; omega)
        refine xb rfl (fun b2 => ?_) (fun b2 => ?_)
        refine xj (k := 1) rfl ?_
        refine xs rfl (Int.natCast_nonneg _) ?_
        refine xrow rfl _ hg ?_
        refine xs rfl rfl ?_
        refine xj (k := 3) rfl ?_
        refine xb rfl (fun b3 => ?_) (fun b3 => ?_)
        refine xdraw rfl [] (.take 0 [] (.take 1 [] (.take 5 [] (.take 6 [] (.take 7 [8, 9, 10] (.take 8 [] (.alt 2 (.take 3 [] (.take 4 [] (.take 9 [] (.alt 10 .done .nil)))) .nil))))))) (by kernel_rfl) ?_
        refine xs rfl ?_ ?_
        rotate_left
        refine xs rfl (Int.natCast_nonneg _) ?_
        refine xs rfl (Int.natCast_nonneg _) ?_
        refine xs rfl ?_ ?_
        rotate_left
        refine xs rfl (Int.natCast_nonneg _) ?_
        rotate_left
        refine xdraw rfl [] (.take 0 [10, 11] (.take 1 [2, 3, 4, 5, 6, 7, 8, 9, 10, 11] (.alt 2 (.take 3 [] (.take 4 [] (.take 5 [6, 8, 9, 10, 11] (.take 7 [] (.alt 6 (.alt 8 (.take 9 [] (.alt 10 (.take 11 [] .done) .nil)) .nil) .nil))))) .nil))) (by kernel_rfl) ?_
        refine xcall rfl (hev) rfl ⟨⟨trivial, trivial, trivial, trivial, trivial⟩, trivial⟩ ?_
        refine xj (k := 5) rfl ?_
        refine xr rfl (xret rfl ⟨(by decide), ⟨⟨rfl, rfl, rfl, rfl, rfl, trivial⟩, ⟨rfl, ?_, trivial⟩, trivial⟩, nodB_nodup rfl⟩)
        rotate_left
        refine xj (k := 5) rfl ?_
        refine xdraw rfl [] (.take 0 [10, 11] (.take 1 [2, 3, 4, 5, 6, 7, 8, 9, 10, 11] (.alt 2 (.take 3 [] (.take 4 [] (.take 5 [6, 8, 9, 10, 11] (.take 7 [] (.alt 6 (.alt 8 (.take 9 [] (.alt 10 (.take 11 [] .done) .nil)) .nil) .nil))))) .nil))) (by kernel_rfl) ?_
        refine xcall rfl (hev) rfl ⟨⟨trivial, trivial, trivial, trivial, trivial⟩, trivial⟩ ?_
        refine xj (k := 5) rfl ?_
        refine xr rfl (xret rfl ⟨(by decide), ⟨⟨rfl, rfl, rfl, rfl, rfl, trivial⟩, ⟨rfl, ?_, trivial⟩, trivial⟩, nodB_nodup rfl⟩)
        rotate_left
        exact absurd b0 (by simp [*])
        all_goals first | exact vb (he (by assumption)) | exact vb (he' (by assumption)) | exact vb (he' (by decide)) | exact (hx2 (by simp at b2; omega) (by simpa using b3)).elim
theorem sUnE_pc (bs : List Int) (hb : BOk bs) (hl : bs.length ≤ 1048576) : PC Try.prog 86 [.one (.l (bts bs))] (.tup [.own true [.s (.bool (unES bs).vote), .s (.int .i64 (unES bs).con.id), .l 4 ((unES bs).con.legs.map Leg.cs), .s (.int .i64 (unES bs).out)], .own false [.s (.bool (okE bs))]]) := by
  have hL : (bts bs).length = bs.length := List.length_map ..
  by_cases h1 : headIs bs 1 = true
  · have hE : unES bs = ⟨true, cUnS (bs.drop 1), 0⟩ := by unfold unES; rw [if_pos h1]; rfl
    have hO : okE bs = unCk (bs.drop 1) := by unfold okE; rw [if_pos h1]
    have hg := head_at h1
    have hn := head_len h1
    have hne : bs ≠ [] := by intro h; subst h; simp at hn
    have hu : PC Try.prog 121 [.one (.l (List.drop ((some (1 : Int)).getD 0).toNat (List.take ((none : Option Int).getD ((bts bs).length : Int)).toNat (bts bs))))] (.tup [.own true [.s (.int .i64 (cUnS (bs.drop 1)).id), .l 4 ((cUnS (bs.drop 1)).legs.map Leg.cs)], .own false [.s (.bool (unCk (bs.drop 1)))]]) := by
      have := sUnC_pc (bs.drop 1) (hb.drop 1) (by rw [List.length_drop]; omega)
      rw [show ((some (1 : Int)).getD 0).toNat = 1 from rfl, show ((none : Option Int).getD ((bts bs).length : Int)).toNat = (bts bs).length from rfl, sub_bts, hL, List.take_length]; exact this
    rw [hE, hO]
    refine PC.begin Try.func86 rfl (by kernel_rfl) ?_
    refine xb rfl (fun b0 => ?_) (fun b0 => ?_)
    exact absurd b0 (by simp; omega)
    refine xs rfl (Int.le_refl _) ?_
    refine xrow rfl _ hg ?_
    refine xs rfl rfl ?_
    refine xj (k := 1) rfl ?_
    refine xs rfl (.inr (by simp)) ?_
    refine xs rfl (Int.natCast_nonneg _) ?_
    refine xs rfl (show (1 : Int) ≤ ((bts bs).length : Int) by omega) ?_
    refine xs rfl (Int.le_refl _) ?_
    refine xcall rfl (hu) rfl ⟨trivial, trivial⟩ ?_
    refine xr rfl (xret rfl ⟨(by decide), ⟨⟨rfl, rfl, rfl, ⟨rfl, rfl, .inl rfl⟩, rfl, trivial⟩, ⟨rfl, rfl, trivial⟩, trivial⟩, nodB_nodup rfl⟩)
  · by_cases h2 : bs.length = 10 ∧ headIs bs 2 = true
    · obtain ⟨h2, h3⟩ := h2
      have hE : unES bs = ⟨false, ⟨unN ((bs.drop 1).take 8), []⟩, bs.getD 9 0⟩ := by unfold unES; rw [if_neg h1, if_pos ⟨h2, h3⟩]
      have hE' : unE bs = unES bs := (okE_faultS h1).symm
      have hO : okE bs = (evFault (unES bs) == 0) := by rw [← hE', okE_fault]
      have hg := head_at h3
      have hne : bs ≠ [] := by intro h; subst h; simp at h2
      obtain ⟨b, hx⟩ := gx (xs := bs) (i := 9) (by omega)
      have hg9 := gb hx
      have e9 : bs.getD 9 0 = b := by simp [List.getD, hx]
      have ob := hb b (List.mem_of_getElem? hx)
      have wb : IntKind.i64.wrap b = b := wrap_i64 (by omega) (by omega)
      have hu : PC Try.prog 122 [.one (.l (List.drop ((some (1 : Int)).getD 0).toNat (List.take ((some (9 : Int)).getD ((bts bs).length : Int)).toNat (bts bs))))] (rI (unN ((bs.drop 1).take 8))) := by
        have := sUnN_pc ((bs.drop 1).take 8) (by rw [List.length_take, List.length_drop]; omega)
        rw [show ((some (1 : Int)).getD 0).toNat = 1 from rfl, show ((some (9 : Int)).getD ((bts bs).length : Int)).toNat = 9 from rfl, sub_bts, List.drop_take]; exact this
      have hev := sEvF_pc (unES bs) (by rw [hE]; exact Nat.zero_le _)
      rw [hO, hE, e9, ← wb]
      rw [hE, e9, ← wb] at hev
      refine PC.begin Try.func86 rfl (by kernel_rfl) ?_
      refine xb rfl (fun b0 => ?_) (fun b0 => ?_)
      exact absurd b0 (by simp; omega)
      refine xs rfl (Int.natCast_nonneg _) ?_
      refine xrow rfl _ hg ?_
      refine xs rfl rfl ?_
      refine xj (k := 1) rfl ?_
      refine xs rfl (Int.natCast_nonneg _) ?_
      refine xrow rfl _ hg ?_
      refine xs rfl rfl ?_
      refine xj (k := 4) rfl ?_
      refine xb rfl (fun b1 => ?_) (fun b1 => ?_)
      exact absurd b1 (by simp; omega)
      refine xs rfl (.inr (by simp)) ?_
      refine xs rfl (Int.natCast_nonneg _) ?_
      refine xs rfl (Int.natCast_nonneg _) ?_
      refine xs rfl (show (9 : Int) ≤ ((bts bs).length : Int) by omega) ?_
      refine xcall rfl (hu) rfl ⟨trivial, trivial⟩ ?_
      refine xs rfl (Int.natCast_nonneg _) ?_
      refine xrow rfl _ hg9 ?_
      refine xs rfl rfl ?_
      refine xdraw rfl [] (.take 0 [4, 5] (.take 1 [2, 3, 4, 5] (.alt 2 (.take 3 [] (.alt 4 (.take 5 [] .done) .nil)) .nil))) (by kernel_rfl) ?_
      refine xcall rfl (hev) rfl ⟨⟨trivial, trivial, trivial, trivial, trivial⟩, trivial⟩ ?_
      refine xr rfl (xret rfl ⟨(by decide), ⟨⟨rfl, rfl, rfl, rfl, rfl, trivial⟩, ⟨rfl, rfl, trivial⟩, trivial⟩, nodB_nodup rfl⟩)
    · have hE : unES bs = evt0 := by unfold unES; rw [if_neg h1, if_neg h2]
      have hO : okE bs = false := by
        rw [← okE_fault]
        have : unE bs = evt0 := by unfold unE; rw [if_neg h1, if_neg h2]
        rw [this]; simpa using evt0_fault
      rw [hE, hO]
      clear hE hO hl
      cases bs with
      | nil =>
        refine PC.begin Try.func86 rfl (by kernel_rfl) ?_
        refine xj (k := 1) rfl ?_
        refine xr rfl (xret rfl ⟨(by decide), ⟨⟨rfl, rfl, rfl, rfl, rfl, trivial⟩, ⟨rfl, rfl, trivial⟩, trivial⟩, nodB_nodup rfl⟩)
      | cons x r =>
        have hg : (bts (x :: r))[0]? = some [.s (.int .u8 x)] := rfl
        have hx1 : ¬ x = 1 := by simpa [headIs] using h1
        have hx2 : r.length + 1 = 10 → ¬ x = 2 := by simpa [headIs] using h2
        refine PC.begin Try.func86 rfl (by kernel_rfl) ?_
        refine xj (k := 1) rfl ?_
        refine xs rfl (Int.natCast_nonneg _) ?_
        refine xrow rfl _ hg ?_
        refine xs rfl rfl ?_
        refine xb rfl (fun b0 => ?_) (fun b0 => ?_)
        exact absurd b0 (by simp; omega)
        refine xs rfl (Int.natCast_nonneg _) ?_
        refine xrow rfl _ hg ?_
        refine xs rfl rfl ?_
        refine xb rfl (fun b1 => ?_) (fun b1 => ?_)
        refine xj (k := 4) rfl ?_
        refine xr rfl (xret rfl ⟨(by decide), ⟨⟨rfl, rfl, rfl, rfl, rfl, trivial⟩, ⟨rfl, rfl, trivial⟩, trivial⟩, nodB_nodup rfl⟩)
        refine xj (k := 3) rfl ?_
        refine xb rfl (fun b2 => ?_) (fun b2 => ?_)
        refine xr rfl (xret rfl ⟨(by decide), ⟨⟨rfl, rfl, rfl, rfl, rfl, trivial⟩, ⟨rfl, rfl, trivial⟩, trivial⟩, nodB_nodup rfl⟩)
        refine xs rfl ?_ ?_
        rotate_left
        refine xs rfl (Int.natCast_nonneg _) ?_
        refine xs rfl (Int.natCast_nonneg _) ?_
        refine xs rfl ?_ ?_
        rotate_left
        rotate_left
        all_goals exact (hx2 (by simp at b2; omega) (by simpa using b1)).elim
end Go.Proofs.Ytlkjdcpcbnfbbaa
end
section
namespace Go.Proofs.Ytlkjdcpcbnfbbaa
open Go Go.Sx
set_option maxRecDepth 20000
set_option maxHeartbeats 4000000
open Go.Proofs Go.RowKit Go.Lib
theorem growB_n (n : Nat) (hn : n ≤ 1048576) (av : AV) : PCn Try.prog 126 [.one .nil, av] [.one (.l []), .one (i64 n)] (.one (.own false [.l 1 []])) := by
  refine ⟨rfl, fun N w vals h hnil => ?_⟩
  obtain ⟨hs, ha⟩ := h
  obtain ⟨v0, v1, rfl⟩ : ∃ v0 v1, vals = #[v0, v1] := by
    rcases vals with ⟨l⟩
    match l, hs with
    | [a, b], _ => exact ⟨a, b, rfl⟩
  obtain rfl := hnil 0 v0 rfl rfl
  obtain rfl := rep_inv_s (ha 1 _ v1 rfl rfl)
  clear hs ha hnil
  have mixed : Try.prog.follows .mixedOrders = true := by kernel_rfl
  have t3 := Try.underlying3
  have t22 := Try.underlying42
  have t0 := Try.underlying4
  obtain ⟨i0, hi0, hzz, hzs, hzb⟩ : ∃ i0, Try.prog.info? 5 = some i0 ∧ i0.zero = some (.int .u8 0) ∧ i0.size = 1 ∧ i0.bytes = 1 := ⟨_, rfl, rfl, rfl, rfl⟩
  by_cases h0 : n = 0
  · subst h0
    refine calls_of_wp Try.func126 rfl ?_
    simp only [Try.ntmps126, List.size_toArray, List.length_cons, List.length_nil, Nat.reduceAdd, Nat.reduceSub, Array.replicate_succ, Array.replicate_zero, List.push_toArray, List.append_toArray, List.nil_append, List.cons_append]
    go_wp2
    go_ret
    refine ⟨_, fun _ => False, rfl, Keep.refl _ _, ⟨#[.slice none 0 0], fun _ _ => False, rfl, rfl, fun _ _ h => h, fun _ _ _ h => h.elim, fun k c u hc hu => ?_⟩, fun x h => h.elim⟩
    match k, hc, hu with
    | 0, hc, hu => cases hc; cases hu; exact ⟨1, fun _ => rfl, .inl ⟨rfl, none, rfl⟩⟩
  · have hp : ¬ ((n : Int) < 0) := by omega
    have hq : (0 : Int) < n := by omega
    have e1 : wrap64 (n : Int) = n := by unfold wrap64; omega
    obtain ⟨G, hG⟩ : ∃ G, G = grownCap w n 0 5 := ⟨_, rfl⟩
    have hGn : n ≤ G := by rw [hG]; exact grownCap_ge w _ _ _
    have hGm : G ≤ maxLen := by rw [hG]; exact grownCap_le_maxLen w _ _ _ (by unfold maxLen; omega)
    have hrz : ∀ ty, (Builtin.append_ #[42, 3] ty #[.slice none 0 0, .int .i64 (n : Int)]).run Try.prog w =
        .ok (.slice (some ⟨w.heap.size, 0, none⟩) n G) (w.drew.alloc (.cells (#[] ++ Builtin.zeroCells (Value.int .u8 0).cells n ++ Builtin.zeroCells (Value.int .u8 0).cells (G - n)) 5)) := fun ty => by
      have h := Lib.run_append_grow_zeros w 42 3 ty 5 i0 _ .i64 .i64 t22 t3 hi0 hzz none 0 0 [] (run_firstCells_none w.drew i0.size 0 0 0) n (by omega) (by omega) (by omega) (by omega) (by rw [hzb]; omega) (by rw [hzb, Nat.zero_add]; exact growslice_fits (by omega) (by omega))
      rw [Nat.zero_add, ← hG] at h
      exact h
    refine calls_of_wp Try.func126 rfl ?_
    simp only [Try.ntmps126, List.size_toArray, List.length_cons, List.length_nil, Nat.reduceAdd, Nat.reduceSub, Array.replicate_succ, Array.replicate_zero, List.push_toArray, List.append_toArray, List.nil_append, List.cons_append]
    go_wp2_with (at_builtin; refine Lib.wpList_append_run _ rfl _ _ _ _ rfl _ _ rfl rfl _ _ (hrz _) ?_)
    go_ret
    rw [hG] at hGm hGn
    refine ⟨_, rfl, (Keep.alloc w _ _).trans (Keep.drew _ _) (fun _ _ h => h), fun x => x = w.heap.size, ⟨#[.slice (some ⟨w.heap.size, 0, none⟩) 0 (grownCap w n 0 5)], fun k x => k = 0 ∧ x = w.heap.size, rfl, rfl, fun _ _ h => h.2, fun k k' x h h' => h.1.trans h'.1.symm, fun k c u hc hu => ?_⟩, fun x h => ?_⟩
    · match k, hc, hu with
      | 0, hc, hu =>
        cases hc; cases hu
        refine ⟨1, fun _ => rfl, .inr ⟨5, [], fun _ _ => undef, fun _ _ _ => False, ?_, fun g hg => by cases hg; exact ⟨rfl, rfl⟩, fun _ h => by simp at h, fun _ _ _ h => h.elim, fun _ _ _ _ _ h => h.elim, fun j k h => by simp at h, fun j k row c h => by simp at h⟩⟩
        exact World.ownsRow_made w _ _ (Nat.zero_le _) hGm (by simp only [Array.size_append, size_zeroCells]; simp; omega)
    · subst h
      exact ⟨Nat.le_refl _, by show _ < (w.alloc _).heap.size; rw [World.size_alloc]; omega⟩
end Go.Proofs.Ytlkjdcpcbnfbbaa
end
section
namespace Go.Proofs.Ytlkjdcpcbnfbbaa
open Go Go.Sx
set_option maxRecDepth 20000
set_option maxHeartbeats 4000000
abbrev brow (b : List Int) : List Cell := [.l (bts b)]
theorem flat_le (ls : List (List Int)) (k : Nat) : (ls.take k).flatten.length ≤ ls.flatten.length := by
  conv => rhs; rw [← List.take_append_drop k ls, List.flatten_append, List.length_append]
  omega
theorem flat_step {ls : List (List Int)} {k : Nat} {x : List Int} (h : ls[k]? = some x) : (ls.take (k + 1)).flatten = (ls.take k).flatten ++ x := by
  rw [List.take_add_one, h, List.flatten_append]; simp
theorem concat_pc (ls : List (List Int)) (h1 : ls.flatten.length ≤ 1048576) (h2 : ls.length ≤ 1048576) : PC Try.prog 91 [.one (.l (ls.map brow))] (.one (.own false [.l 1 (bts ls.flatten)])) := by
  refine PC.begin Try.func91 rfl (by kernel_rfl) ?_
  refine xloop rfl (ι := Nat) (fun i => i ≤ ls.length) (fun i => ⟨[(11, sV (.int .i64 i)), (10, sV (.int .i64 (ls.map brow).length)), (9, .one (.b (.l (ls.map brow)))), (3, sV (.int .i64 ((ls.take i).flatten.length))), (0, .one (.b (.l (ls.map brow))))], []⟩) (fun i => ls.length - i) 0 (Nat.zero_le _) ?_ ?_
  · exact ⟨⟨rfl, rfl, rfl, rfl, rfl, trivial⟩, trivial, rfl⟩
  · intro i hi J hJ
    refine xb rfl (fun h => ?_) (fun h => ?_)
    · have h : i < ls.length := by simpa using h
      obtain ⟨x, hx⟩ := gx h
      have hg := gm brow hx
      have hfl := flat_le ls (i + 1)
      have hst : (ls.take (i + 1)).flatten.length = (ls.take i).flatten.length + x.length := by rw [flat_step hx, List.length_append]
      have hw : IntKind.i64.wrap (((ls.take i).flatten.length : Int) + ((bts x).length : Int)) = ((ls.take (i + 1)).flatten.length : Int) := by rw [List.length_map, hst]; exact (wrap_i64 (by omega) (by omega)).trans (by omega)
      refine xs rfl (Int.natCast_nonneg _) ?_
      refine xrow rfl _ hg ?_
      refine xs rfl rfl ?_
      refine xb rfl (fun b0 => ?_) (fun b0 => ?_)
      rotate_left
      rotate_left
      · exact absurd b0 (by rw [hw]; simp)
      · rotate_left
        exact xcont rfl (hJ _ (i + 1) (by omega) (by omega) ⟨⟨cwi (by omega) (by omega) (by omega), rfl, rfl, congrArg (fun n => Cell.s (.int .i64 n)) hw, rfl, trivial⟩, trivial, rfl⟩)
    · have h : i = ls.length := by have : ¬ i < ls.length := by simpa using h
                                   omega
      subst h
      rw [List.take_length]
      refine xcallN rfl (growB_n _ h1 _) rfl ⟨trivial, trivial, trivial⟩ ?_
      refine xloop rfl (ι := Nat) (fun i => i ≤ ls.length) (fun i => ⟨[(27, sV (.int .i64 i)), (26, sV (.int .i64 (ls.map brow).length)), (25, .one (.b (.l (ls.map brow)))), (6, .one (.h 2500000 (bts (ls.take i).flatten).length))], [(2500000, .arr true 1 0 (bts (ls.take i).flatten))]⟩) (fun i => ls.length - i) 0 (Nat.zero_le _) ?_ ?_
      · exact ⟨⟨rfl, rfl, rfl, ⟨rfl, rfl, rfl⟩, trivial⟩, ⟨⟨rfl, .inl rfl, .inl rfl⟩, trivial⟩, rfl⟩
      · intro i hi J hJ
        refine xb rfl (fun h => ?_) (fun h => ?_)
        · have h : i < ls.length := by simpa using h
          obtain ⟨x, hx⟩ := gx h
          have hg := gm brow hx
          have hsc := sc_bts x
          have hfl := flat_le ls (i + 1)
          have hst : (ls.take (i + 1)).flatten.length = (ls.take i).flatten.length + x.length := by rw [flat_step hx, List.length_append]
          have hsl : (bts (ls.take i).flatten).length + (bts x).length ≤ 1048576 := by rw [List.length_map, List.length_map]; omega
          refine xs rfl (by simp) ?_
          refine xrow rfl _ hg ?_
          refine xs rfl rfl ?_
          refine xs rfl rfl ?_
          refine xs rfl (by simp) ?_
          refine xs rfl (fun _ => hsc) ?_
          refine xs rfl (by omega) ?_
          refine xs rfl (by omega) ?_
          have hs2 : bts (ls.take (i + 1)).flatten = bts (ls.take i).flatten ++ bts x := by rw [flat_step hx]; simp [bts]
          exact xcont rfl (hJ _ (i + 1) (by omega) (by omega) ⟨⟨cwi (by omega) (by omega) (by omega), rfl, rfl, ⟨rfl, by rw [hs2]; exact List.length_append.symm, rfl⟩, trivial⟩, ⟨⟨hs2.symm, .inl rfl, .inl rfl⟩, trivial⟩, rfl⟩)
        · have h : i = ls.length := by have : ¬ i < ls.length := by simpa using h
                                       omega
          subst h
          rw [List.take_length]
          refine xr rfl (xret rfl ⟨⟨rfl, ⟨rfl, rfl, .inl rfl⟩, trivial⟩, nodB_nodup rfl⟩)
def recOk (bs : List Int) : Bool := decide (4 ≤ bs.length) && (decide (1 ≤ many bs) && (decide (many bs ≤ 500) && decide (4 + many bs ≤ bs.length)))
def unfD (bs : List Int) : List Int := if recOk bs = true then (bs.drop 4).take (many bs).toNat else []
theorem pairB {a b c : Int} (ha : 0 ≤ a ∧ a ≤ 255) (hb : 0 ≤ b ∧ b ≤ 255) (hc : 0 ≤ c ∧ c < 65521) : ([a, b] = [byt (c / 256), byt c]) ↔ a * 256 + b = c := by
  simp only [List.cons.injEq, and_true, byt, wrap_u8]
  omega
theorem rec1_no {bs : List Int} (h : ¬ recOk bs = true) : rec1 bs = none := by
  unfold rec1
  split
  · rfl
  · split
    · rfl
    · rename_i h1 h2
      exact (h (by simp [recOk]; omega)).elim
theorem rec1_ok {bs : List Int} (h : recOk bs = true) : rec1 bs = if bs.getD 2 0 * 256 + bs.getD 3 0 = chk ((bs.drop 4).take (many bs).toNat) then some (many bs).toNat else none := by
  simp only [recOk, Bool.and_eq_true, decide_eq_true_eq] at h
  unfold rec1
  rw [if_neg (by omega), if_neg (by omega)]
abbrev mM (a b : Int) : Int := IntKind.i64.wrap (IntKind.i64.wrap (IntKind.i64.wrap a * 2 ^ min (Int.toNat 8) IntKind.i64.bits) + IntKind.i64.wrap b)
abbrev mW (a b : Int) : Int := IntKind.i64.wrap (4 + mM a b)
theorem iUnf_pc (bs : List Int) (hb : BOk bs) (hl : bs.length ≤ 1048576) : PC Try.prog 124 [.one (.l (bts bs))] (.tup [.bor false [.l (bts (unfD bs))], .own false [.s (.bool (rec1 bs).isSome)]]) := by
  have hL : (bts bs).length = bs.length := List.length_map ..
  by_cases h4 : bs.length < 4
  · have hno : ¬ recOk bs = true := by simp [recOk]; omega
    have e1 : unfD bs = [] := by unfold unfD; rw [if_neg hno]
    rw [e1, rec1_no hno]
    refine PC.begin Try.func124 rfl (by kernel_rfl) ?_
    refine xb rfl (fun b0 => ?_) (fun b0 => ?_)
    refine xr rfl (xret rfl ⟨(by decide), ⟨⟨rfl, rfl, trivial⟩, ⟨rfl, rfl, trivial⟩, trivial⟩, nodB_nodup rfl⟩)
    exact absurd b0 (by simp; omega)
  · obtain ⟨a, b, c, d, r, rfl⟩ : ∃ a b c d r, bs = a :: b :: c :: d :: r := by
      match bs, h4 with
      | a :: b :: c :: d :: r, _ => exact ⟨a, b, c, d, r, rfl⟩
      | [], h => simp at h
      | [_], h => simp at h
      | [_, _], h => simp at h
      | [_, _, _], h => simp at h
    have oa := hb a (by simp)
    have ob := hb b (by simp)
    have oc := hb c (by simp)
    have od := hb d (by simp)
    have hm : many (a :: b :: c :: d :: r) = a * 256 + b := rfl
    have ga : (bts (a :: b :: c :: d :: r))[0]? = some [.s (.int .u8 a)] := rfl
    have gb1 : (bts (a :: b :: c :: d :: r))[1]? = some [.s (.int .u8 b)] := rfl
    have hM : mM a b = many (a :: b :: c :: d :: r) := by
      unfold mM; rw [show (2 : Int) ^ min (Int.toNat 8) IntKind.i64.bits = 256 from rfl, wrap_i64 (n := a) (by omega) (by omega), wrap_i64 (n := b) (by omega) (by omega), wrap_i64 (n := a * 256) (by omega) (by omega), wrap_i64 (by omega) (by omega)]; rfl
    have hW : mW a b = 4 + many (a :: b :: c :: d :: r) := by
      unfold mW; rw [hM, hm]; exact wrap_i64 (by omega) (by omega)
    have hck := iChk_pc ((((a :: b :: c :: d :: r).drop 4)).take (many (a :: b :: c :: d :: r)).toNat) ((hb.drop 4).take _) (by rw [List.length_take, List.length_drop]; omega)
    have hbe := bEq_pc [c, d] [byt (chk (((a :: b :: c :: d :: r).drop 4).take (many (a :: b :: c :: d :: r)).toNat) / 256), byt (chk (((a :: b :: c :: d :: r).drop 4).take (many (a :: b :: c :: d :: r)).toNat))] (fun x hx => hb x (by simp at hx ⊢; rcases hx with rfl | rfl <;> simp)) (fun x hx => by simp at hx; rcases hx with rfl | rfl <;> exact byt_ok _)
    have hpr := pair_pc (chk (((a :: b :: c :: d :: r).drop 4).take (many (a :: b :: c :: d :: r)).toNat))
    by_cases hok : recOk (a :: b :: c :: d :: r) = true
    · have e1 : unfD (a :: b :: c :: d :: r) = ((a :: b :: c :: d :: r).drop 4).take (many (a :: b :: c :: d :: r)).toNat := by unfold unfD; rw [if_pos hok]
      have e2 : (rec1 (a :: b :: c :: d :: r)).isSome = decide ([c, d] = [byt (chk (((a :: b :: c :: d :: r).drop 4).take (many (a :: b :: c :: d :: r)).toNat) / 256), byt (chk (((a :: b :: c :: d :: r).drop 4).take (many (a :: b :: c :: d :: r)).toNat))]) := by
        rw [rec1_ok hok]
        show (if c * 256 + d = _ then _ else _ : Option Nat).isSome = _
        by_cases hp : c * 256 + d = chk (((a :: b :: c :: d :: r).drop 4).take (many (a :: b :: c :: d :: r)).toNat)
        · rw [if_pos hp, decide_eq_true ((pairB oc od (chk_ok _)).2 hp)]; rfl
        · rw [if_neg hp, decide_eq_false (fun h => hp ((pairB oc od (chk_ok _)).1 h))]; rfl
      rw [e1, e2]
      simp only [recOk, Bool.and_eq_true, decide_eq_true_eq] at hok
      generalize hBS : a :: b :: c :: d :: r = bs at *
      have hcd : (bs.take 4).drop 2 = [c, d] := by rw [← hBS]; rfl
      have hwi : within (mM a b) 1 500 = true := by unfold within; simp; omega
      have hlt : decide (((bts bs).length : Int) < mW a b) = false := by rw [hW, hL]; simp; omega
      have hD : List.drop ((some (4 : Int)).getD 0).toNat (List.take ((some (mW a b)).getD ((bts bs).length : Int)).toNat (bts bs)) = bts ((bs.drop 4).take (many bs).toNat) := by
        show List.drop 4 (List.take (mW a b).toNat (bts bs)) = _
        rw [sub_bts, List.drop_take, show (mW a b).toNat - 4 = (many bs).toNat by omega]
      have hE : List.drop ((some (2 : Int)).getD 0).toNat (List.take ((some (4 : Int)).getD ((bts bs).length : Int)).toNat (bts bs)) = bts [c, d] := by
        show List.drop 2 (List.take 4 (bts bs)) = _
        rw [sub_bts, hcd]
      rw [← hD] at hck ⊢
      rw [← hE] at hbe
      have hle : mW a b ≤ ((bts bs).length : Int) := by rw [hL]; omega
      refine PC.begin Try.func124 rfl (by kernel_rfl) ?_
      refine xb rfl (fun b0 => ?_) (fun b0 => ?_)
      exact absurd b0 (by simp; omega)
      refine xdraw rfl [] (.take 0 [] (.take 1 [] (.take 2 [3, 4, 9, 10] (.take 3 [] (.take 4 [] (.take 5 [] (.take 6 [] (.take 7 [8, 9, 10] (.take 8 [] (.take 9 [] (.take 10 [] .done))))))))))) (by kernel_rfl) ?_
      refine xs rfl (Int.natCast_nonneg _) ?_
      refine xrow rfl _ ga ?_
      refine xs rfl rfl ?_
      refine xs rfl (Int.natCast_nonneg _) ?_
      refine xs rfl (Int.natCast_nonneg _) ?_
      refine xrow rfl _ gb1 ?_
      refine xs rfl rfl ?_
      refine xcall rfl (within_pc _ _ _) rfl ⟨trivial, trivial, trivial, trivial⟩ ?_
      refine xb rfl (fun b1 => ?_) (fun b1 => ?_)
      refine xj (k := 6) rfl ?_
      refine xr rfl (xret rfl ⟨(by decide), ⟨⟨rfl, ?_, trivial⟩, ⟨rfl, ?_, trivial⟩, trivial⟩, nodB_nodup rfl⟩)
      rotate_left
      rotate_left
      refine xj (k := 5) rfl ?_
      refine xb rfl (fun b2 => ?_) (fun b2 => ?_)
      refine xr rfl (xret rfl ⟨(by decide), ⟨⟨rfl, ?_, trivial⟩, ⟨rfl, ?_, trivial⟩, trivial⟩, nodB_nodup rfl⟩)
      rotate_left
      rotate_left
      refine xs rfl (.inr (by simp)) ?_
      refine xs rfl (Int.natCast_nonneg _) ?_
      refine xs rfl (show (4 : Int) ≤ mW a b by omega) ?_
      refine xs rfl (hle) ?_
      refine xdraw rfl [] (.take 0 [] (.take 1 [] (.take 2 [] (.take 3 [] (.alt 4 (.alt 5 (.alt 6 (.take 7 [] (.take 8 [] .done)) .nil) .nil) .nil))))) (by kernel_rfl) ?_
      refine xs rfl (.inr (by simp)) ?_
      refine xs rfl (Int.natCast_nonneg _) ?_
      refine xs rfl (Int.natCast_nonneg _) ?_
      refine xs rfl (show (4 : Int) ≤ ((bts bs).length : Int) by omega) ?_
      refine xcall rfl (hck) rfl ⟨trivial, trivial⟩ ?_
      refine xcall rfl (hpr) rfl ⟨trivial, trivial⟩ ?_
      refine xcall rfl (hbe) rfl ⟨trivial, rfl, trivial⟩ ?_
      refine xr rfl (xret rfl ⟨(by decide), ⟨⟨rfl, rfl, trivial⟩, ⟨rfl, rfl, trivial⟩, trivial⟩, nodB_nodup rfl⟩)
      all_goals (exfalso; first | (change (!within (mM a b) 1 500) = true at b1; rw [hwi] at b1; cases b1) | (change decide (_ < mW a b) = true at b2; rw [hlt] at b2; cases b2))
    · have e1 : unfD (a :: b :: c :: d :: r) = [] := by unfold unfD; rw [if_neg hok]
      rw [e1, rec1_no hok]
      have hno : ∀ (b1 : (!within (mM a b) 1 500) = false) (b2 : decide (((bts (a :: b :: c :: d :: r)).length : Int) < mW a b) = false), False := by
        intro b1 b2
        rw [hW, hL] at b2
        rw [hM] at b1
        unfold within at b1
        apply hok
        simp only [Bool.not_eq_false', Bool.and_eq_true, decide_eq_true_eq] at b1
        simp only [decide_eq_false_iff_not] at b2
        simp only [recOk, Bool.and_eq_true, decide_eq_true_eq]
        omega
      generalize a :: b :: c :: d :: r = bs at *
      refine PC.begin Try.func124 rfl (by kernel_rfl) ?_
      refine xb rfl (fun b0 => ?_) (fun b0 => ?_)
      exact absurd b0 (by simp; omega)
      refine xdraw rfl [] (.take 0 [] (.take 1 [] (.take 2 [3, 4, 9, 10] (.take 3 [] (.take 4 [] (.take 5 [] (.take 6 [] (.take 7 [8, 9, 10] (.take 8 [] (.take 9 [] (.take 10 [] .done))))))))))) (by kernel_rfl) ?_
      refine xs rfl (Int.natCast_nonneg _) ?_
      refine xrow rfl _ ga ?_
      refine xs rfl rfl ?_
      refine xs rfl (Int.natCast_nonneg _) ?_
      refine xs rfl (Int.natCast_nonneg _) ?_
      refine xrow rfl _ gb1 ?_
      refine xs rfl rfl ?_
      refine xcall rfl (within_pc _ _ _) rfl ⟨trivial, trivial, trivial, trivial⟩ ?_
      refine xb rfl (fun b1 => ?_) (fun b1 => ?_)
      refine xj (k := 6) rfl ?_
      refine xr rfl (xret rfl ⟨(by decide), ⟨⟨rfl, rfl, trivial⟩, ⟨rfl, rfl, trivial⟩, trivial⟩, nodB_nodup rfl⟩)
      refine xj (k := 5) rfl ?_
      refine xb rfl (fun b2 => ?_) (fun b2 => ?_)
      refine xr rfl (xret rfl ⟨(by decide), ⟨⟨rfl, rfl, trivial⟩, ⟨rfl, rfl, trivial⟩, trivial⟩, nodB_nodup rfl⟩)
      refine xs rfl ?_ ?_
      rotate_left
      refine xs rfl (Int.natCast_nonneg _) ?_
      refine xs rfl ?_ ?_
      rotate_left
      refine xs rfl ?_ ?_
      rotate_left
      refine xdraw rfl [] (.take 0 [] (.take 1 [] (.take 2 [] (.take 3 [] (.alt 4 (.alt 5 (.alt 6 (.take 7 [] (.take 8 [] .done)) .nil) .nil) .nil))))) (by kernel_rfl) ?_
      refine xs rfl ?_ ?_
      rotate_left
      refine xs rfl (Int.natCast_nonneg _) ?_
      refine xs rfl (Int.natCast_nonneg _) ?_
      refine xs rfl ?_ ?_
      rotate_left
      rotate_left
      all_goals exact (hno b1 b2).elim
end Go.Proofs.Ytlkjdcpcbnfbbaa
end
section
namespace Go.Proofs.Ytlkjdcpcbnfbbaa
open Go Go.Sx
set_option maxRecDepth 20000
set_option maxHeartbeats 4000000
theorem rec1_unf {bs : List Int} {n : Nat} (h : rec1 bs = some n) : unfD bs = (bs.drop 4).take n ∧ 4 + n ≤ bs.length ∧ 1 ≤ n ∧ n ≤ 500 := by
  have hl := rec1_le h
  refine ⟨?_, hl⟩
  by_cases hk : recOk bs = true
  · have e := rec1_ok hk
    rw [h] at e
    unfold unfD
    rw [if_pos hk]
    split at e
    · cases e; rfl
    · cases e
  · rw [rec1_no hk] at h; cases h
theorem drop_len (bs : List Int) (t : Nat) : (List.drop ((some (t : Int)).getD 0).toNat (List.take ((none : Option Int).getD ((bts bs).length : Int)).toNat (bts bs))) = bts (bs.drop t) := by
  show List.drop t (List.take (bts bs).length (bts bs)) = _
  rw [List.take_length, bts, ← List.map_drop]
theorem iUnfA_pc (bs : List Int) (hb : BOk bs) (hl : bs.length ≤ 6000) : PC Try.prog 90 [.one (.l (bts bs))] (.one (.own true [.s (.int .i64 0), .s (.int .i64 (recs bs).2), .l 1 ((recs bs).1.map brow)])) := by
  have hL : (bts bs).length = bs.length := List.length_map ..
  refine PC.begin Try.func90 rfl (by kernel_rfl) ?_
  refine xb rfl (fun h => ?_) (fun _ => ?_)
  · exact absurd h (by rw [hL]; simp; omega)
  refine xloop rfl (ι := Nat × List (List Int)) (fun z => recs bs = (z.2 ++ (recs (bs.drop z.1)).1, z.1 + (recs (bs.drop z.1)).2) ∧ z.1 ≤ bs.length ∧ z.2.length ≤ z.1) (fun z => ⟨[(3, .one (.a 3 0)), (2, .one (.a 2 0)), (0, .one (.b (.l (bts bs))))], [(3, .var [.b (i64 0), .b (i64 z.1), .h 27 (z.2.map brow).length]), (27, .arr true 1 0 (z.2.map brow)), (2, .var [.b (i64 0), .b (i64 0), .nil])]⟩) (fun z => bs.length - z.1) (0, []) ⟨by simp, Nat.zero_le _, Nat.le_refl _⟩ ?_ ?_
  · exact ⟨⟨⟨rfl, rfl, rfl⟩, ⟨rfl, rfl, rfl⟩, rfl, trivial⟩, ⟨⟨rfl, rfl, ⟨rfl, rfl, rfl⟩, trivial⟩, rfl, ⟨rfl, rfl, trivial, trivial⟩, trivial⟩, rfl⟩
  · rintro ⟨t, rs⟩ ⟨h0, ht, hr⟩ J hJ
    dsimp only at h0 ht hr
    have hun := iUnf_pc (bs.drop t) (hb.drop t) (by rw [List.length_drop]; omega)
    rw [← drop_len bs t] at hun
    have hle : (t : Int) ≤ ((bts bs).length : Int) := by rw [hL]; omega
    cases h1 : rec1 (bs.drop t) with
    | none =>
      rw [recs_none h1, List.append_nil, Nat.add_zero] at h0
      rw [h1] at hun
      rw [h0]
      refine xs rfl (.inr (by simp)) ?_
      refine xs rfl (Int.natCast_nonneg _) ?_
      refine xs rfl (hle) ?_
      refine xs rfl (Int.le_refl _) ?_
      refine xcall rfl (hun) rfl ⟨trivial, trivial⟩ ?_
      refine xj (k := 1) rfl ?_
      refine xr rfl (xret rfl ⟨⟨rfl, rfl, rfl, ⟨rfl, rfl, .inl rfl⟩, trivial⟩, nodB_nodup rfl⟩)
    | some n =>
      obtain ⟨hu, h4, h5, h6⟩ := rec1_unf h1
      rw [recs_some h1] at h0
      rw [h1] at hun
      have hdl : (unfD (bs.drop t)).length = n := by rw [hu, List.length_take, List.length_drop]; omega
      have hcl := clone_pc (unfD (bs.drop t)) (by omega)
      have hsz := sizeByte_pc (bts (unfD (bs.drop t)))
      refine xs rfl (.inr (by simp)) ?_
      refine xs rfl (Int.natCast_nonneg _) ?_
      refine xs rfl (hle) ?_
      refine xs rfl (Int.le_refl _) ?_
      refine xcall rfl (hun) rfl ⟨trivial, trivial⟩ ?_
      refine xj (k := 1) rfl ?_
      refine xdraw rfl [] (.take 0 [] (.take 1 [5, 6, 7] (.take 2 [] (.alt 3 (.alt 4 (.alt 5 (.take 6 [] (.alt 7 .done .nil)) .nil) .nil) .nil)))) (by kernel_rfl) ?_
      refine xcall rfl (hcl) rfl ⟨trivial, trivial⟩ ?_
      refine xs rfl ⟨⟨rfl, rfl⟩, trivial⟩ ?_
      refine xs rfl rfl ?_
      refine xs rfl rfl ?_
      refine xs rfl (.inl rfl) ?_
      refine xs rfl (by simp; omega) ?_
      refine xs rfl (by simp; omega) ?_
      refine xdraw rfl [] (.take 0 [] (.take 1 [5, 6, 7] (.take 2 [] (.alt 3 (.take 4 [] (.take 5 [] (.take 6 [] (.alt 7 .done .nil)))) .nil)))) (by kernel_rfl) ?_
      refine xcall rfl (hsz) rfl ⟨trivial, trivial⟩ ?_
      have hw : IntKind.i64.wrap ((t : Int) + IntKind.i64.wrap (4 + ((bts (unfD (bs.drop t))).length : Int))) = ((t + (4 + n) : Nat) : Int) := by
        rw [List.length_map, hdl, wrap_i64 (n := 4 + (n : Int)) (by omega) (by omega)]; exact (wrap_i64 (by omega) (by omega)).trans (by omega)
      rw [List.length_drop] at h4
      have h2 : (rs ++ [unfD (bs.drop t)]).map brow = rs.map brow ++ [[.l (bts (unfD (bs.drop t)))]] := by rw [List.map_append]; rfl
      refine xcont rfl (hJ _ (t + (4 + n), rs ++ [unfD (bs.drop t)]) ⟨?_, by dsimp only; omega, by dsimp only; rw [List.length_append, List.length_singleton]; omega⟩ (by dsimp only; omega) ⟨⟨⟨rfl, rfl, rfl⟩, ⟨rfl, rfl, rfl⟩, rfl, trivial⟩, ⟨⟨rfl, congrArg (fun n => Cell.s (.int .i64 n)) hw, ⟨rfl, by rw [h2]; exact List.length_append.symm, rfl⟩, trivial⟩, ⟨h2.symm, .inl rfl, .inl rfl⟩, ⟨rfl, rfl, trivial, trivial⟩, trivial⟩, rfl⟩)
      dsimp only
      rw [h0, ← hu, show List.drop (4 + n) (List.drop t bs) = List.drop (t + (4 + n)) bs from List.drop_drop ..]
      refine Prod.ext ?_ ?_
      · dsimp only; rw [List.append_assoc]; rfl
      · dsimp only; omega
theorem readLog_pc (sy lo : List Int) (hs : BOk sy) (ho : BOk lo) (h1 : sy.length ≤ 1048576) (h2 : lo.length ≤ 1048576) : PC Try.prog 46 [.agg [.l (bts sy), .l (bts lo)]] (.one (.own true (if 6000 < sy.length + lo.length then [.s (.int .i64 2), .s (.int .i64 0), .l 1 []] else [.s (.int .i64 0), .s (.int .i64 (recs (sy ++ lo)).2), .l 1 ((recs (sy ++ lo)).1.map brow)]))) := by
  have hF := iLogF_pc sy lo h1 h2
  by_cases hc : 6000 < sy.length + lo.length
  · rw [if_pos hc] at hF ⊢
    refine PC.begin Try.func46 rfl (by kernel_rfl) ?_
    refine xcall rfl (hF) rfl ⟨⟨trivial, trivial, trivial⟩, trivial⟩ ?_
    refine xj (k := 1) rfl ?_
    refine xr rfl (xret rfl ⟨⟨rfl, rfl, rfl, rfl, trivial⟩, nodB_nodup rfl⟩)
    skip
  · rw [if_neg hc] at hF ⊢
    have hC := concat_pc [sy, lo] (by simp; omega) (by simp)
    rw [show [sy, lo].flatten = sy ++ lo by simp] at hC
    have hU := iUnfA_pc (sy ++ lo) (fun b hb => (List.mem_append.1 hb).elim (hs b) (ho b)) (by rw [List.length_append]; omega)
    refine PC.begin Try.func46 rfl (by kernel_rfl) ?_
    refine xcall rfl (hF) rfl ⟨⟨trivial, trivial, trivial⟩, trivial⟩ ?_
    refine xj (k := 1) rfl ?_
    refine xs rfl ⟨rfl, rfl, trivial⟩ ?_
    refine xcall rfl (hC) rfl ⟨rfl, trivial⟩ ?_
    refine xcall rfl (hU) rfl ⟨rfl, trivial⟩ ?_
    refine xr rfl (xret rfl ⟨⟨rfl, rfl, rfl, ⟨rfl, rfl, .inl rfl⟩, trivial⟩, nodB_nodup rfl⟩)
    skip
end Go.Proofs.Ytlkjdcpcbnfbbaa
end
section
namespace Go.Proofs.Ytlkjdcpcbnfbbaa
open Go Go.Sx
set_option maxRecDepth 20000
set_option maxHeartbeats 4000000
theorem sync_pc (sy lo : List Int) (h1 : sy.length ≤ 1048576) (h2 : lo.length ≤ 1048576) : PC Try.prog 85 [.agg [.l (bts sy), .l (bts lo)]] (.one (.own true [.l 1 (bts (sy ++ lo)), .l 1 []])) := by
  have hsc := sc_bts sy
  have hsc2 := sc_bts lo
  have hlo : (bts lo).length = lo.length := List.length_map ..
  have hsy : (bts sy).length = sy.length := List.length_map ..
  refine PC.begin Try.func85 rfl (by kernel_rfl) ?_
  refine xdraw rfl [] (.take 1 [] (.take 2 [3, 6, 7, 8] (.take 4 [] (.alt 0 (.alt 3 (.take 5 [6, 7, 8] (.alt 6 (.take 7 [] (.alt 8 .done .nil)) .nil)) (.alt 5 (.alt 3 (.alt 6 (.take 7 [] (.alt 8 .done .nil)) .nil) .nil) .nil)) (.alt 5 (.alt 0 (.alt 3 (.alt 6 (.take 7 [] (.alt 8 .done .nil)) .nil) .nil) .nil) .nil))))) (by kernel_rfl) ?_
  refine xboth rfl ?_ ?_
  refine xs rfl trivial ?_
  refine xboth rfl ?_ ?_
  refine xs rfl rfl ?_
  refine xs rfl (by simp) ?_
  refine xs rfl (fun _ => hsc) ?_
  refine xs rfl (by simp; omega) ?_
  refine xs rfl (by simp; omega) ?_
  refine xs rfl (by simp) ?_
  refine xs rfl (by simp) ?_
  refine xs rfl (fun _ => hsc2) ?_
  refine xs rfl (by simp; omega) ?_
  refine xs rfl (by simp; omega) ?_
  refine xr rfl (xret rfl ⟨⟨rfl, ⟨?_, ?_, .inl rfl⟩, rfl, trivial⟩, nodB_nodup rfl⟩)
  rotate_left
  rotate_left
  refine xs rfl rfl ?_
  refine xs rfl (by simp) ?_
  refine xs rfl (fun _ => hsc) ?_
  refine xs rfl (by simp; omega) ?_
  refine xs rfl (by simp; omega) ?_
  refine xs rfl (by simp) ?_
  refine xs rfl (by simp) ?_
  refine xs rfl (fun _ => hsc2) ?_
  refine xs rfl (by simp; omega) ?_
  refine xs rfl (by simp; omega) ?_
  refine xr rfl (xret rfl ⟨⟨rfl, ⟨?_, ?_, .inl rfl⟩, rfl, trivial⟩, nodB_nodup rfl⟩)
  rotate_left
  rotate_left
  refine xs rfl trivial ?_
  refine xs rfl rfl ?_
  refine xs rfl (by simp) ?_
  refine xs rfl (fun _ => hsc) ?_
  refine xs rfl (by simp; omega) ?_
  refine xs rfl (by simp; omega) ?_
  refine xs rfl (by simp) ?_
  refine xs rfl (by simp) ?_
  refine xs rfl (fun _ => hsc2) ?_
  refine xs rfl (by simp; omega) ?_
  refine xs rfl (by simp; omega) ?_
  refine xr rfl (xret rfl ⟨⟨rfl, ⟨?_, ?_, .inl rfl⟩, rfl, trivial⟩, nodB_nodup rfl⟩)
  rotate_left
  rotate_left
  all_goals first | exact List.length_append.symm | (simp [bts]; done)
abbrev sM (a b : Int) : Int := IntKind.i64.wrap (IntKind.i64.wrap (IntKind.i64.wrap a * 256) + IntKind.i64.wrap b)
theorem sM_eq {a b : Int} (ha : 0 ≤ a ∧ a ≤ 255) (hb : 0 ≤ b ∧ b ≤ 255) : sM a b = a * 256 + b := by
  unfold sM
  rw [wrap_i64 (n := a) (by omega) (by omega), wrap_i64 (n := b) (by omega) (by omega), wrap_i64 (n := a * 256) (by omega) (by omega), wrap_i64 (by omega) (by omega)]
theorem sRecs_pc (bs : List Int) (hb : BOk bs) (hl : bs.length ≤ 3000000) : PC Try.prog 84 [.one (.l (bts bs))] (.tup [.own false [.l 1 ((recs bs).1.map brow)], .own false [.s (.int .i64 (recs bs).2)]]) := by
  have hL : (bts bs).length = bs.length := List.length_map ..
  refine PC.begin Try.func84 rfl (by kernel_rfl) ?_
  refine xs rfl trivial ?_
  refine xloop rfl (ι := Nat × List (List Int)) (fun z => recs bs = (z.2 ++ (recs (bs.drop z.1)).1, z.1 + (recs (bs.drop z.1)).2) ∧ z.1 ≤ bs.length ∧ z.2.length ≤ z.1) (fun z => ⟨[(5, sV (.int .i64 z.1)), (4, .one (.h 8 (z.2.map brow).length)), (0, .one (.b (.l (bts bs))))], [(8, .arr true 1 0 (z.2.map brow))]⟩) (fun z => bs.length - z.1) (0, []) ⟨by simp, Nat.zero_le _, Nat.le_refl _⟩ ?_ ?_
  · exact ⟨⟨rfl, ⟨rfl, rfl, rfl⟩, rfl, trivial⟩, ⟨⟨rfl, .inl rfl, .inl rfl⟩, trivial⟩, rfl⟩
  · rintro ⟨t, rs⟩ ⟨h0, ht, hr⟩ J hJ
    dsimp only at h0 ht hr
    have w4 : IntKind.i64.wrap ((t : Int) + 4) = ((t + 4 : Nat) : Int) := wrap_i64 (by omega) (by omega)
    have hdl : (bs.drop t).length = bs.length - t := List.length_drop ..
    refine xb rfl (fun h => ?_) (fun h => ?_)
    · have h : t + 4 < bs.length := by rw [hL] at h; dsimp only at h; rw [w4] at h; simp at h; omega
      obtain ⟨a, ha⟩ := gx (xs := bs) (i := t) (by omega)
      obtain ⟨b, hb1⟩ := gx (xs := bs) (i := t + 1) (by omega)
      obtain ⟨c, hc1⟩ := gx (xs := bs) (i := t + 2) (by omega)
      obtain ⟨e, he1⟩ := gx (xs := bs) (i := t + 3) (by omega)
      have oa := hb a (List.mem_of_getElem? ha)
      have ob := hb b (List.mem_of_getElem? hb1)
      have oc := hb c (List.mem_of_getElem? hc1)
      have oe := hb e (List.mem_of_getElem? he1)
      have w1 : IntKind.i64.wrap ((t : Int) + 1) = ((t + 1 : Nat) : Int) := wrap_i64 (by omega) (by omega)
      have w2 : IntKind.i64.wrap ((t : Int) + 2) = ((t + 2 : Nat) : Int) := wrap_i64 (by omega) (by omega)
      have w3 : IntKind.i64.wrap ((t : Int) + 3) = ((t + 3 : Nat) : Int) := wrap_i64 (by omega) (by omega)
      have ga := gb ha
      have gb1 : (bts bs)[(IntKind.i64.wrap ((t : Int) + 1)).toNat]? = some [.s (.int .u8 b)] := by rw [w1, Int.toNat_natCast]; exact gb hb1
      have gc1 : (bts bs)[(IntKind.i64.wrap ((t : Int) + 2)).toNat]? = some [.s (.int .u8 c)] := by rw [w2, Int.toNat_natCast]; exact gb hc1
      have ge1 : (bts bs)[(IntKind.i64.wrap ((t : Int) + 3)).toNat]? = some [.s (.int .u8 e)] := by rw [w3, Int.toNat_natCast]; exact gb he1
      have hm : many (bs.drop t) = a * 256 + b := by simp [many, List.getD, ha, hb1]
      have hC : sM c e = (bs.drop t).getD 2 0 * 256 + (bs.drop t).getD 3 0 := by
        rw [sM_eq oc oe]; simp [List.getD, hc1, he1]
      have hM : sM a b = many (bs.drop t) := by rw [sM_eq oa ob, hm]
      have hW : IntKind.i64.wrap (IntKind.i64.wrap ((t : Int) + 4) + sM a b) = t + 4 + many (bs.drop t) := by
        rw [w4, hM, hm]; exact (wrap_i64 (by omega) (by omega)).trans (by omega)
      generalize hd : bs.drop t = d at *
      have hbd : BOk d := by rw [← hd]; exact hb.drop t
      by_cases hok : recOk d = true
      · have hr1 := rec1_ok hok
        rw [← hC] at hr1
        simp only [recOk, Bool.and_eq_true, decide_eq_true_eq] at hok
        have t0 : decide (IntKind.i64.wrap (IntKind.i64.wrap (IntKind.i64.wrap a * 256) + IntKind.i64.wrap b) < 1) = false := by show decide (sM a b < 1) = false; rw [hM]; simp; omega
        have t1 : decide (IntKind.i64.wrap (IntKind.i64.wrap (IntKind.i64.wrap a * 256) + IntKind.i64.wrap b) > 500) = false := by show decide (sM a b > 500) = false; rw [hM]; simp; omega
        have t2 : decide (IntKind.i64.wrap (IntKind.i64.wrap ((t : Int) + 4) + IntKind.i64.wrap (IntKind.i64.wrap (IntKind.i64.wrap a * 256) + IntKind.i64.wrap b)) > ((bts bs).length : Int)) = false := by show decide (IntKind.i64.wrap (IntKind.i64.wrap ((t : Int) + 4) + sM a b) > ((bts bs).length : Int)) = false; rw [hW, hL]; simp; omega
        have hD : List.drop ((some (IntKind.i64.wrap ((t : Int) + 4))).getD 0).toNat (List.take ((some (IntKind.i64.wrap (IntKind.i64.wrap ((t : Int) + 4) + sM a b))).getD ((bts bs).length : Int)).toNat (bts bs)) = bts ((d.drop 4).take (many d).toNat) := by
          show List.drop (IntKind.i64.wrap ((t : Int) + 4)).toNat (List.take (IntKind.i64.wrap (IntKind.i64.wrap ((t : Int) + 4) + sM a b)).toNat (bts bs)) = _
          rw [hW, w4, Int.toNat_natCast, sub_bts, ← hd, List.drop_drop, List.drop_take, hd, show ((t : Int) + 4 + many d).toNat - (t + 4) = (many d).toNat by omega]
        have hck := sChk_pc ((d.drop 4).take (many d).toNat) ((hbd.drop 4).take _) (by rw [List.length_take, List.length_drop]; omega)
        have le0 : 0 ≤ IntKind.i64.wrap ((t : Int) + 4) := by rw [w4]; omega
        have le1 : IntKind.i64.wrap ((t : Int) + 4) ≤ IntKind.i64.wrap (IntKind.i64.wrap ((t : Int) + 4) + sM a b) := by rw [hW, w4]; omega
        have le2 : IntKind.i64.wrap (IntKind.i64.wrap ((t : Int) + 4) + sM a b) ≤ ((bts bs).length : Int) := by rw [hW, hL]; omega
        have hrow : ∀ row ∈ bts ((d.drop 4).take (many d).toNat), row.length = 1 := by intro row hr; obtain ⟨x, _, rfl⟩ := List.mem_map.1 hr; rfl
        have hsc := sc_bts ((d.drop 4).take (many d).toNat)
        rw [← hD] at hck hsc hrow
        by_cases hp : sM c e = chk ((d.drop 4).take (many d).toNat)
        · rw [if_pos hp] at hr1
          have hu := rec1_unf hr1
          rw [recs_some hr1] at h0
          have t3 : (chk ((d.drop 4).take (many d).toNat) != sM c e) = false := by rw [hp]; simp
          refine xdraw rfl [] (.take 0 [] (.take 1 [] (.take 2 [] (.take 3 [4, 5, 12, 13] (.take 4 [] (.take 5 [] (.take 6 [] (.take 7 [] (.take 8 [] (.take 9 [] (.take 10 [11, 12, 13] (.take 11 [] (.take 12 [] (.take 13 [] .done)))))))))))))) (by kernel_rfl) ?_
          refine xs rfl (Int.natCast_nonneg _) ?_
          refine xrow rfl _ ga ?_
          refine xs rfl rfl ?_
          refine xs rfl (by rw [w1]; omega) ?_
          refine xrow rfl _ gb1 ?_
          refine xs rfl rfl ?_
          refine xb rfl (fun b0 => ?_) (fun b0 => ?_)
          refine xj (k := 11) rfl ?_
          refine xr rfl (xret rfl ⟨(by decide), ⟨⟨rfl, ⟨rfl, ?_, .inl rfl⟩, trivial⟩, ⟨rfl, ?_, trivial⟩, trivial⟩, nodB_nodup rfl⟩)
          rotate_left
          rotate_left
          refine xj (k := 2) rfl ?_
          refine xb rfl (fun b1 => ?_) (fun b1 => ?_)
          refine xj (k := 8) rfl ?_
          refine xr rfl (xret rfl ⟨(by decide), ⟨⟨rfl, ⟨rfl, ?_, .inl rfl⟩, trivial⟩, ⟨rfl, ?_, trivial⟩, trivial⟩, nodB_nodup rfl⟩)
          rotate_left
          rotate_left
          refine xj (k := 7) rfl ?_
          refine xb rfl (fun b2 => ?_) (fun b2 => ?_)
          refine xr rfl (xret rfl ⟨(by decide), ⟨⟨rfl, ⟨rfl, ?_, .inl rfl⟩, trivial⟩, ⟨rfl, ?_, trivial⟩, trivial⟩, nodB_nodup rfl⟩)
          rotate_left
          rotate_left
          refine xs rfl (.inr (by simp)) ?_
          refine xs rfl (le0) ?_
          refine xs rfl (le1) ?_
          refine xs rfl (le2) ?_
          refine xdraw rfl [] (.take 0 [] (.take 2 [] (.take 3 [] (.take 4 [] (.take 5 [] (.take 6 [7, 8, 15, 16] (.take 7 [] (.take 8 [] (.take 9 [] (.take 10 [] (.take 11 [] (.take 12 [] (.take 13 [14, 15, 16] (.take 14 [] (.take 15 [] (.alt 1 (.take 16 [] .done) .nil)))))))))))))))) (by kernel_rfl) ?_
          refine xs rfl (by rw [w2]; omega) ?_
          refine xrow rfl _ gc1 ?_
          refine xs rfl rfl ?_
          refine xs rfl (by rw [w3]; omega) ?_
          refine xrow rfl _ ge1 ?_
          refine xs rfl rfl ?_
          refine xcall rfl (hck) rfl ⟨trivial, trivial⟩ ?_
          refine xb rfl (fun b3 => ?_) (fun b3 => ?_)
          refine xr rfl (xret rfl ⟨(by decide), ⟨⟨rfl, ⟨rfl, ?_, .inl rfl⟩, trivial⟩, ⟨rfl, ?_, trivial⟩, trivial⟩, nodB_nodup rfl⟩)
          rotate_left
          rotate_left
          refine xs rfl trivial ?_
          refine xs rfl rfl ?_
          refine xs rfl (hrow) ?_
          refine xs rfl (fun _ => hsc) ?_
          refine xs rfl (by rw [hD]; simp; omega) ?_
          refine xs rfl (by rw [hD]; simp; omega) ?_
          refine xs rfl (⟨⟨rfl, List.length_append.symm⟩, trivial⟩) ?_
          refine xs rfl rfl ?_
          refine xs rfl rfl ?_
          refine xs rfl (.inl rfl) ?_
          refine xs rfl (by rw [hD]; simp; omega) ?_
          refine xs rfl (by rw [hD]; simp; omega) ?_
          rotate_left
          all_goals first | exact absurd (t0.symm.trans b0) (by decide) | exact absurd (t1.symm.trans b1) (by decide) | exact absurd (t2.symm.trans b2) (by decide) | exact absurd (t3.symm.trans b3) (by decide) | skip
          obtain ⟨hu1, hu2, hu3, hu4⟩ := hu
          have hw : IntKind.i64.wrap (IntKind.i64.wrap ((t : Int) + 4) + sM a b) = ((t + (4 + (many d).toNat) : Nat) : Int) := by rw [hW]; omega
          have h2 : (rs ++ [(d.drop 4).take (many d).toNat]).map brow = rs.map brow ++ [[.l ([] ++ List.drop ((some (IntKind.i64.wrap ((t : Int) + 4))).getD 0).toNat (List.take ((some (IntKind.i64.wrap (IntKind.i64.wrap ((t : Int) + 4) + sM a b))).getD ((bts bs).length : Int)).toNat (bts bs)))]] := by rw [List.map_append, List.nil_append, hD]; rfl
          refine xcont rfl (hJ _ (t + (4 + (many d).toNat), rs ++ [(d.drop 4).take (many d).toNat]) ⟨?_, by dsimp only; omega, by dsimp only; rw [List.length_append, List.length_singleton]; omega⟩ (by dsimp only; omega) ⟨⟨congrArg (fun n => Cell.s (.int .i64 n)) hw, ⟨rfl, by rw [h2]; exact List.length_append.symm, rfl⟩, rfl, trivial⟩, ⟨⟨h2.symm, .inl rfl, .inl rfl⟩, trivial⟩, rfl⟩)
          dsimp only
          rw [h0, show List.drop (4 + (many d).toNat) d = List.drop (t + (4 + (many d).toNat)) bs by rw [← hd, List.drop_drop]]
          refine Prod.ext ?_ ?_
          · dsimp only; rw [List.append_assoc]; rfl
          · dsimp only; omega
        · rw [if_neg hp] at hr1
          have t3 : (chk ((d.drop 4).take (many d).toNat) != sM c e) = true := by simpa using fun h => hp h.symm
          rw [recs_none hr1, List.append_nil, Nat.add_zero] at h0
          rw [h0]
          refine xdraw rfl [] (.take 0 [] (.take 1 [] (.take 2 [] (.take 3 [4, 5, 12, 13] (.take 4 [] (.take 5 [] (.take 6 [] (.take 7 [] (.take 8 [] (.take 9 [] (.take 10 [11, 12, 13] (.take 11 [] (.take 12 [] (.take 13 [] .done)))))))))))))) (by kernel_rfl) ?_
          refine xs rfl (Int.natCast_nonneg _) ?_
          refine xrow rfl _ ga ?_
          refine xs rfl rfl ?_
          refine xs rfl (by rw [w1]; omega) ?_
          refine xrow rfl _ gb1 ?_
          refine xs rfl rfl ?_
          refine xb rfl (fun b0 => ?_) (fun b0 => ?_)
          refine xj (k := 11) rfl ?_
          refine xr rfl (xret rfl ⟨(by decide), ⟨⟨rfl, ⟨rfl, rfl, .inl rfl⟩, trivial⟩, ⟨rfl, rfl, trivial⟩, trivial⟩, nodB_nodup rfl⟩)
          refine xj (k := 2) rfl ?_
          refine xb rfl (fun b1 => ?_) (fun b1 => ?_)
          refine xj (k := 8) rfl ?_
          refine xr rfl (xret rfl ⟨(by decide), ⟨⟨rfl, ⟨rfl, rfl, .inl rfl⟩, trivial⟩, ⟨rfl, rfl, trivial⟩, trivial⟩, nodB_nodup rfl⟩)
          refine xj (k := 7) rfl ?_
          refine xb rfl (fun b2 => ?_) (fun b2 => ?_)
          refine xr rfl (xret rfl ⟨(by decide), ⟨⟨rfl, ⟨rfl, rfl, .inl rfl⟩, trivial⟩, ⟨rfl, rfl, trivial⟩, trivial⟩, nodB_nodup rfl⟩)
          refine xs rfl (.inr (by simp)) ?_
          refine xs rfl (le0) ?_
          refine xs rfl (le1) ?_
          refine xs rfl (le2) ?_
          refine xdraw rfl [] (.take 0 [] (.take 2 [] (.take 3 [] (.take 4 [] (.take 5 [] (.take 6 [7, 8, 15, 16] (.take 7 [] (.take 8 [] (.take 9 [] (.take 10 [] (.take 11 [] (.take 12 [] (.take 13 [14, 15, 16] (.take 14 [] (.take 15 [] (.alt 1 (.take 16 [] .done) .nil)))))))))))))))) (by kernel_rfl) ?_
          refine xs rfl (by rw [w2]; omega) ?_
          refine xrow rfl _ gc1 ?_
          refine xs rfl rfl ?_
          refine xs rfl (by rw [w3]; omega) ?_
          refine xrow rfl _ ge1 ?_
          refine xs rfl rfl ?_
          refine xcall rfl (hck) rfl ⟨trivial, trivial⟩ ?_
          refine xb rfl (fun b3 => ?_) (fun b3 => ?_)
          refine xr rfl (xret rfl ⟨(by decide), ⟨⟨rfl, ⟨rfl, rfl, .inl rfl⟩, trivial⟩, ⟨rfl, rfl, trivial⟩, trivial⟩, nodB_nodup rfl⟩)
          refine xs rfl trivial ?_
          refine xs rfl rfl ?_
          refine xs rfl (by omega) ?_
          refine xs rfl ?_ ?_
          rotate_left
          refine xs rfl ?_ ?_
          rotate_left
          refine xs rfl ?_ ?_
          rotate_left
          refine xs rfl ?_ ?_
          rotate_left
          refine xs rfl rfl ?_
          refine xs rfl rfl ?_
          refine xs rfl (.inl rfl) ?_
          refine xs rfl ?_ ?_
          rotate_left
          refine xs rfl ?_ ?_
          rotate_left
          rotate_left
          all_goals first | exact absurd (t0.symm.trans b0) (by decide) | exact absurd (t1.symm.trans b1) (by decide) | exact absurd (t2.symm.trans b2) (by decide) | exact absurd (t3.symm.trans b3) (by decide)
      · have hno : ∀ (b0 : decide (sM a b < 1) = false) (b1 : decide (sM a b > 500) = false) (b2 : decide (IntKind.i64.wrap (IntKind.i64.wrap ((t : Int) + 4) + sM a b) > ((bts bs).length : Int)) = false), False := by
          intro b0 b1 b2
          rw [hM] at b0 b1
          rw [hW, hL] at b2
          simp only [decide_eq_false_iff_not] at b0 b1 b2
          apply hok
          simp only [recOk, Bool.and_eq_true, decide_eq_true_eq]
          omega
        rw [recs_none (rec1_no hok), List.append_nil, Nat.add_zero] at h0
        rw [h0]
        refine xdraw rfl [] (.take 0 [] (.take 1 [] (.take 2 [] (.take 3 [4, 5, 12, 13] (.take 4 [] (.take 5 [] (.take 6 [] (.take 7 [] (.take 8 [] (.take 9 [] (.take 10 [11, 12, 13] (.take 11 [] (.take 12 [] (.take 13 [] .done)))))))))))))) (by kernel_rfl) ?_
        refine xs rfl (Int.natCast_nonneg _) ?_
        refine xrow rfl _ ga ?_
        refine xs rfl rfl ?_
        refine xs rfl (by rw [w1]; omega) ?_
        refine xrow rfl _ gb1 ?_
        refine xs rfl rfl ?_
        refine xb rfl (fun b0 => ?_) (fun b0 => ?_)
        refine xj (k := 11) rfl ?_
        refine xr rfl (xret rfl ⟨(by decide), ⟨⟨rfl, ⟨rfl, rfl, .inl rfl⟩, trivial⟩, ⟨rfl, rfl, trivial⟩, trivial⟩, nodB_nodup rfl⟩)
        refine xj (k := 2) rfl ?_
        refine xb rfl (fun b1 => ?_) (fun b1 => ?_)
        refine xj (k := 8) rfl ?_
        refine xr rfl (xret rfl ⟨(by decide), ⟨⟨rfl, ⟨rfl, rfl, .inl rfl⟩, trivial⟩, ⟨rfl, rfl, trivial⟩, trivial⟩, nodB_nodup rfl⟩)
        refine xj (k := 7) rfl ?_
        refine xb rfl (fun b2 => ?_) (fun b2 => ?_)
        refine xr rfl (xret rfl ⟨(by decide), ⟨⟨rfl, ⟨rfl, rfl, .inl rfl⟩, trivial⟩, ⟨rfl, rfl, trivial⟩, trivial⟩, nodB_nodup rfl⟩)
        refine xs rfl ?_ ?_
        rotate_left
        refine xs rfl ?_ ?_
        rotate_left
        refine xs rfl ?_ ?_
        rotate_left
        refine xs rfl ?_ ?_
        rotate_left
        refine xdraw rfl [] (.take 0 [] (.take 2 [] (.take 3 [] (.take 4 [] (.take 5 [] (.take 6 [7, 8, 15, 16] (.take 7 [] (.take 8 [] (.take 9 [] (.take 10 [] (.take 11 [] (.take 12 [] (.take 13 [14, 15, 16] (.take 14 [] (.take 15 [] (.alt 1 (.take 16 [] .done) .nil)))))))))))))))) (by kernel_rfl) ?_
        refine xs rfl (by rw [w2]; omega) ?_
        refine xrow rfl _ gc1 ?_
        refine xs rfl rfl ?_
        refine xs rfl (by rw [w3]; omega) ?_
        refine xrow rfl _ ge1 ?_
        refine xs rfl rfl ?_
        rotate_left
        all_goals exact (hno b0 b1 b2).elim
    · have h : ¬ t + 4 < bs.length := by rw [hL] at h; dsimp only at h; rw [w4] at h; simp at h; omega
      have hno : ¬ recOk (bs.drop t) = true := by simp only [recOk, Bool.and_eq_true, decide_eq_true_eq]; omega
      rw [recs_none (rec1_no hno), List.append_nil, Nat.add_zero] at h0
      rw [h0]
      refine xr rfl (xret rfl ⟨(by decide), ⟨⟨rfl, ⟨rfl, rfl, .inl rfl⟩, trivial⟩, ⟨rfl, rfl, trivial⟩, trivial⟩, nodB_nodup rfl⟩)
      skip
end Go.Proofs.Ytlkjdcpcbnfbbaa
end
section
namespace Go.Proofs.Ytlkjdcpcbnfbbaa
open Go Go.Sx
set_option maxRecDepth 20000
set_option maxHeartbeats 4000000
abbrev rEv (a : Int × List Evt) : Res := .one (.own true [.s (.int .i64 a.1), .l 4 (a.2.map Evt.cs)])
theorem ev_bad {sy lo : List Int} (h : ¬ 6000 < sy.length + lo.length) {i : Nat} {x : List Int} (hx : (recs (sy ++ lo)).1[i]? = some x) (ho : okE x = false) : eventsR sy lo = (5, []) := by
  unfold eventsR
  rw [if_neg h, if_pos]
  rw [List.all_eq_false]
  exact ⟨x, List.mem_of_getElem? hx, by rw [ho]; simp⟩
theorem ev_good {sy lo : List Int} (h : ¬ 6000 < sy.length + lo.length) (ho : ∀ i x, i < (recs (sy ++ lo)).1.length → (recs (sy ++ lo)).1[i]? = some x → okE x = true) : eventsR sy lo = if (recs (sy ++ lo)).2 ≠ sy.length + lo.length then (5, []) else if 60 < (recs (sy ++ lo)).1.length then (2, []) else (0, (recs (sy ++ lo)).1.map unE) := by
  unfold eventsR
  rw [if_neg h, if_neg]
  rw [Bool.not_eq_false, List.all_eq_true]
  intro x hx
  obtain ⟨i, hi, rfl⟩ := List.getElem_of_mem hx
  exact ho i _ hi (List.getElem?_eq_getElem hi)
theorem iEvs_pc (v : Int) (bals : List (List Cell)) (sy lo : List Int) (hs : BOk sy) (ho : BOk lo) (h1 : sy.length ≤ 1048576) (h2 : lo.length ≤ 1048576) : PC Try.prog 17 [.agg [i64 v, .l bals, .l (bts sy), .l (bts lo)]] (rEv (eventsR sy lo)) := by
  have hR := (readLog_pc sy lo hs ho h1 h2)
  have hLs : (bts sy).length = sy.length := List.length_map ..
  have hLo : (bts lo).length = lo.length := List.length_map ..
  by_cases h6 : 6000 < sy.length + lo.length
  · have hE : eventsR sy lo = (2, []) := by unfold eventsR; rw [if_pos h6]
    rw [if_pos h6] at hR
    rw [hE]
    have hR := hR.lend
    refine PC.begin Try.func17 rfl (by kernel_rfl) ?_
    refine xcall rfl (hR) rfl ⟨⟨trivial, trivial, trivial⟩, trivial⟩ ?_
    refine xj (k := 1) rfl ?_
    refine xr rfl (xret rfl ⟨⟨rfl, rfl, rfl, trivial⟩, nodB_nodup rfl⟩)
  · rw [if_neg h6] at hR
    have hR := hR.lend
    have hrl := recs_le _ (sy ++ lo) (Nat.le_refl _)
    have hev := fun (i : Nat) (x : List Int) => ev_bad (sy := sy) (lo := lo) h6 (i := i) (x := x)
    have heg := ev_good (sy := sy) (lo := lo) h6
    have hbs : BOk (sy ++ lo) := fun b hb => (List.mem_append.1 hb).elim (hs b) (ho b)
    rw [List.length_append] at hrl
    generalize recs (sy ++ lo) = q at *
    obtain ⟨rs, tk⟩ := q
    dsimp only at *
    obtain ⟨r1, r2, r3⟩ := hrl
    refine PC.begin Try.func17 rfl (by kernel_rfl) ?_
    refine xcall rfl (hR) rfl ⟨⟨trivial, trivial, trivial⟩, trivial⟩ ?_
    refine xj (k := 1) rfl ?_
    refine xloop rfl (ι := Nat) (fun i => i ≤ rs.length ∧ ∀ j x, j < i → rs[j]? = some x → okE x = true) (fun i => ⟨[(22, sV (.int .i64 i)), (21, sV (.int .i64 (rs.map brow).length)), (20, .one (.b (.l (rs.map brow)))), (4, .one (.a 4 0)), (3, .one (.a 3 0)), (2, .one (.a 2 0)), (1, .one (.a 1 0))], [(4, .var [.b (i64 0), .h 38 (((rs.take i).map unE).map Evt.cs).length]), (38, .arr true 4 0 (((rs.take i).map unE).map Evt.cs)), (3, .var [.b (i64 0), .b (i64 tk), .b (.l (rs.map brow))]), (2, .var [.b (i64 0), .nil]), (1, .var [.b (i64 v), .b (.l bals), .b (.l (bts sy)), .b (.l (bts lo))])]⟩) (fun i => rs.length - i) 0 ⟨Nat.zero_le _, fun j x hj => by omega⟩ ?_ ?_
    · exact ⟨⟨rfl, rfl, rfl, ⟨rfl, rfl, rfl⟩, ⟨rfl, rfl, rfl⟩, ⟨rfl, rfl, rfl⟩, ⟨rfl, rfl, rfl⟩, trivial⟩, ⟨⟨rfl, ⟨rfl, rfl, rfl⟩, trivial⟩, rfl, ⟨rfl, rfl, rfl, trivial⟩, ⟨rfl, trivial, trivial⟩, ⟨rfl, rfl, rfl, rfl, trivial⟩, trivial⟩, rfl⟩
    · intro i ⟨hi, hg0⟩ J hJ
      refine xb rfl (fun h => ?_) (fun h => ?_)
      · have h : i < rs.length := by simpa using h
        obtain ⟨x, hx⟩ := gx h
        have hg := gm brow hx
        obtain ⟨x1, x2⟩ := r3 x (List.mem_of_getElem? hx)
        have hu := iUnE_pc x (x2 hbs) (by omega)
        cases hk : okE x with
        | false =>
          rw [hev i x hx hk]
          rw [hk] at hu
          refine xs rfl (Int.natCast_nonneg _) ?_
          refine xrow rfl _ hg ?_
          refine xs rfl rfl ?_
          refine xcall rfl (hu) rfl ⟨trivial, trivial⟩ ?_
          refine xj (k := 1) rfl ?_
          refine xr rfl (xret rfl ⟨⟨rfl, rfl, rfl, trivial⟩, nodB_nodup rfl⟩)
        | true =>
          rw [hk] at hu
          refine xs rfl (by simp) ?_
          refine xrow rfl _ hg ?_
          refine xs rfl rfl ?_
          refine xcall rfl (hu) rfl ⟨trivial, trivial⟩ ?_
          refine xj (k := 1) rfl ?_
          refine xs rfl ⟨trivial, trivial, ⟨rfl, rfl⟩, trivial, trivial⟩ ?_
          refine xs rfl rfl ?_
          refine xs rfl rfl ?_
          refine xs rfl (.inl rfl) ?_
          refine xs rfl (by simp; omega) ?_
          refine xs rfl (by simp; omega) ?_
          have h2 : ((rs.take (i + 1)).map unE).map Evt.cs = ((rs.take i).map unE).map Evt.cs ++ [(unE x).cs] := by rw [List.take_add_one, hx]; simp
          exact xcont rfl (hJ _ (i + 1) ⟨by omega, fun j y hj hy => by
            rcases Nat.lt_succ_iff_lt_or_eq.1 hj with h' | h'
            · exact hg0 j y h' hy
            · subst h'; rw [hx] at hy; cases hy; exact hk⟩ (by omega) ⟨⟨cwi (by omega) (by omega) (by omega), rfl, rfl, ⟨rfl, rfl, rfl⟩, ⟨rfl, rfl, rfl⟩, ⟨rfl, rfl, rfl⟩, ⟨rfl, rfl, rfl⟩, trivial⟩, ⟨⟨rfl, ⟨rfl, by rw [h2]; exact List.length_append.symm, rfl⟩, trivial⟩, ⟨h2.symm, .inl rfl, .inl rfl⟩, ⟨rfl, rfl, rfl, trivial⟩, ⟨rfl, trivial, trivial⟩, ⟨rfl, rfl, rfl, rfl, trivial⟩, trivial⟩, rfl⟩)
      · have h : i = rs.length := by have : ¬ i < rs.length := by simpa using h
                                     omega
        subst h
        rw [heg hg0, List.take_length]
        have z1 := sizeByte_pc (bts sy)
        have z2 := sizeByte_pc (bts lo)
        have hwl : IntKind.i64.wrap (((bts sy).length : Int) + ((bts lo).length : Int)) = ((sy.length + lo.length : Nat) : Int) := by rw [hLs, hLo]; exact (wrap_i64 (by omega) (by omega)).trans (by omega)
        have hml : ((rs.map unE).map Evt.cs).length = rs.length := by simp
        by_cases hq : tk = sy.length + lo.length
        · have t0 : ((tk : Int) != IntKind.i64.wrap (((bts sy).length : Int) + ((bts lo).length : Int))) = false := by rw [hwl, hq]; simp
          rw [if_neg (by omega)]
          by_cases h60 : 60 < rs.length
          · have t1 : decide ((((rs.map unE).map Evt.cs).length : Int) > 60) = true := by rw [hml]; simp; omega
            rw [if_pos h60]
            refine xdraw rfl [] (.take 0 [] (.take 1 [11, 12] (.take 2 [] (.take 3 [] (.take 4 [5, 9, 10, 11, 12] (.take 6 [] (.take 7 [] (.take 8 [9, 10, 11, 12] (.alt 5 (.alt 9 (.take 10 [] (.take 11 [] (.take 12 [] .done))) .nil) .nil))))))))) (by kernel_rfl) ?_
            refine xcall rfl (z1) rfl ⟨trivial, trivial⟩ ?_
            refine xcall rfl (z2) rfl ⟨trivial, trivial⟩ ?_
            refine xb rfl (fun b0 => ?_) (fun b0 => ?_)
            refine xr rfl (xret rfl ⟨⟨rfl, ?_, rfl, trivial⟩, nodB_nodup rfl⟩)
            rotate_left
            refine xb rfl (fun b1 => ?_) (fun b1 => ?_)
            refine xr rfl (xret rfl ⟨⟨rfl, rfl, rfl, trivial⟩, nodB_nodup rfl⟩)
            refine xr rfl (xret rfl ⟨⟨rfl, ?_, ⟨rfl, ?_, .inl rfl⟩, trivial⟩, nodB_nodup rfl⟩)
            rotate_left
            rotate_left
            all_goals first | exact absurd (t0.symm.trans b0) (by decide) | exact absurd (t1.symm.trans b1) (by decide)
          · have t1 : decide ((((rs.map unE).map Evt.cs).length : Int) > 60) = false := by rw [hml]; simp; omega
            rw [if_neg h60]
            refine xdraw rfl [] (.take 0 [] (.take 1 [11, 12] (.take 2 [] (.take 3 [] (.take 4 [5, 9, 10, 11, 12] (.take 6 [] (.take 7 [] (.take 8 [9, 10, 11, 12] (.alt 5 (.alt 9 (.take 10 [] (.take 11 [] (.take 12 [] .done))) .nil) .nil))))))))) (by kernel_rfl) ?_
            refine xcall rfl (z1) rfl ⟨trivial, trivial⟩ ?_
            refine xcall rfl (z2) rfl ⟨trivial, trivial⟩ ?_
            refine xb rfl (fun b0 => ?_) (fun b0 => ?_)
            refine xr rfl (xret rfl ⟨⟨rfl, ?_, ?_, trivial⟩, nodB_nodup rfl⟩)
            rotate_left
            rotate_left
            refine xb rfl (fun b1 => ?_) (fun b1 => ?_)
            refine xr rfl (xret rfl ⟨⟨rfl, ?_, ?_, trivial⟩, nodB_nodup rfl⟩)
            rotate_left
            rotate_left
            refine xr rfl (xret rfl ⟨⟨rfl, rfl, ⟨rfl, rfl, .inl rfl⟩, trivial⟩, nodB_nodup rfl⟩)
            all_goals first | exact absurd (t0.symm.trans b0) (by decide) | exact absurd (t1.symm.trans b1) (by decide)
        · have t0 : ((tk : Int) != IntKind.i64.wrap (((bts sy).length : Int) + ((bts lo).length : Int))) = true := by rw [hwl]; simp; omega
          rw [if_pos hq]
          refine xdraw rfl [] (.take 0 [] (.take 1 [11, 12] (.take 2 [] (.take 3 [] (.take 4 [5, 9, 10, 11, 12] (.take 6 [] (.take 7 [] (.take 8 [9, 10, 11, 12] (.alt 5 (.alt 9 (.take 10 [] (.take 11 [] (.take 12 [] .done))) .nil) .nil))))))))) (by kernel_rfl) ?_
          refine xcall rfl (z1) rfl ⟨trivial, trivial⟩ ?_
          refine xcall rfl (z2) rfl ⟨trivial, trivial⟩ ?_
          refine xb rfl (fun b0 => ?_) (fun b0 => ?_)
          refine xr rfl (xret rfl ⟨⟨rfl, rfl, rfl, trivial⟩, nodB_nodup rfl⟩)
          refine xb rfl (fun b1 => ?_) (fun b1 => ?_)
          refine xr rfl (xret rfl ⟨⟨rfl, ?_, rfl, trivial⟩, nodB_nodup rfl⟩)
          rotate_left
          refine xr rfl (xret rfl ⟨⟨rfl, ?_, ⟨rfl, ?_, .inl rfl⟩, trivial⟩, nodB_nodup rfl⟩)
          rotate_left
          rotate_left
          all_goals exact absurd (t0.symm.trans b0) (by decide)
end Go.Proofs.Ytlkjdcpcbnfbbaa
end
section
namespace Go.Proofs.Ytlkjdcpcbnfbbaa
open Go Go.Sx
set_option maxRecDepth 20000
set_option maxHeartbeats 4000000
theorem pc_lendT {P : Program} {f : Nat} {args : List SV} {cs ds : List OC} (h : PC P f args (.tup [.own false cs, .own false ds])) : PC P f args (.tup [.bor false (cs.map ocCell), .own false ds]) := by
  refine ⟨h.1, fun N w vals ha => (h.2 N w vals ha).mono ?_⟩
  rintro e w' ⟨v, S, rfl, hk, ⟨arr, G, h1, h2, h3, h4, h5⟩, hS⟩
  refine ⟨v, G 1, rfl, hk, ⟨arr, fun i x => i = 1 ∧ G 1 x, h1, h2, fun i x h => h.2, fun i i' x h h' => h.1.trans h'.1.symm, fun i rc u hc hu => ?_⟩, fun x hx => hS x (h3 1 x hx)⟩
  match i, hc with
  | 0, hc =>
    cases hc
    obtain ⟨arr', F, a1, a2, a3, a4, a5⟩ := h5 0 _ u rfl hu
    refine ⟨arr', a1, by simp [a2], fun k c u' hc hu' => ?_⟩
    rw [List.getElem?_map] at hc
    cases ho : cs[k]? with
    | none => rw [ho] at hc; cases hc
    | some oc =>
      rw [ho] at hc
      cases hc
      have h6 := a5 k oc u' ho hu'
      cases oc with
      | s x => obtain ⟨rfl, h7⟩ := h6; exact .s _ h7
      | l sz rows =>
        obtain ⟨sz', _, h7⟩ := h6
        exact (own_slab.2 ⟨sz', h7⟩).rep fun x hx => ⟨.inr (hS x (h3 0 x (a3 k x hx))).1, fun h => by have := h4 0 1 x (a3 k x hx) h; omega⟩
  | 1, hc =>
    cases hc
    have := h5 1 _ u rfl hu
    have e : ((fun (i : Nat) (x : Nat) => i = 1 ∧ G 1 x) 1) = G 1 := funext fun x => by simp
    rw [e]
    exact this
def evsR (sy lo : List Int) : List Evt × Int :=
  if (recs (sy ++ lo)).1.all okE = false then ([], 5) else if (recs (sy ++ lo)).2 < sy.length + lo.length then ([], 5) else if 60 < (recs (sy ++ lo)).1.length then ([], 2) else ((recs (sy ++ lo)).1.map unE, 0)
theorem sEvs_pc (sy lo : List Int) (hs : BOk sy) (ho : BOk lo) (h1 : sy.length ≤ 1048576) (h2 : lo.length ≤ 1048576) : PC Try.prog 43 [.agg [.l (bts sy), .l (bts lo)]] (.tup [.own false [.l 4 ((evsR sy lo).1.map Evt.cs)], .own false [.s (.int .i64 (evsR sy lo).2)]]) := by
  have hLs : (bts sy).length = sy.length := List.length_map ..
  have hLo : (bts lo).length = lo.length := List.length_map ..
  have hbs : BOk (sy ++ lo) := fun b hb => (List.mem_append.1 hb).elim (hs b) (ho b)
  have hS := (sync_pc sy lo h1 h2).lend
  have hR := pc_lendT (sRecs_pc (sy ++ lo) hbs (by rw [List.length_append]; omega))
  have hrl := recs_le _ (sy ++ lo) (Nat.le_refl _)
  rw [List.length_append] at hrl
  unfold evsR
  generalize recs (sy ++ lo) = q at *
  obtain ⟨rs, tk⟩ := q
  dsimp only at *
  obtain ⟨r1, r2, r3⟩ := hrl
  refine PC.begin Try.func43 rfl (by kernel_rfl) ?_
  refine xcall rfl (hS) rfl ⟨⟨trivial, trivial, trivial⟩, trivial⟩ ?_
  refine xcall rfl (hR) rfl ⟨trivial, trivial⟩ ?_
  refine xs rfl trivial ?_
  refine xloop rfl (ι := Nat) (fun i => i ≤ rs.length ∧ ∀ j x, j < i → rs[j]? = some x → okE x = true) (fun i => ⟨[(7, sV (.int .i64 i)), (6, .one (.h 17 (((rs.take i).map unE).map Evt.cs).length)), (5, sV (.int .i64 tk)), (4, .one (.b (.l (rs.map brow)))), (1, .one (.a 1 0))], [(17, .arr true 4 0 (((rs.take i).map unE).map Evt.cs)), (1, .var [.b (.l (bts sy)), .b (.l (bts lo))])]⟩) (fun i => rs.length - i) 0 ⟨Nat.zero_le _, fun j x hj => by omega⟩ ?_ ?_
  · exact ⟨⟨rfl, ⟨rfl, rfl, rfl⟩, rfl, rfl, ⟨rfl, rfl, rfl⟩, trivial⟩, ⟨⟨rfl, .inl rfl, .inl rfl⟩, ⟨rfl, rfl, trivial⟩, trivial⟩, rfl⟩
  · intro i ⟨hi, hg0⟩ J hJ
    refine xb rfl (fun h => ?_) (fun h => ?_)
    · have h : i < rs.length := by simpa using h
      obtain ⟨x, hx⟩ := gx h
      have hg := gm brow hx
      obtain ⟨x1, x2⟩ := r3 x (List.mem_of_getElem? hx)
      have hu := sUnE_pc x (x2 hbs) (by omega)
      cases hk : okE x with
      | false =>
        have hall : rs.all okE = false := by rw [List.all_eq_false]; exact ⟨x, List.mem_of_getElem? hx, by rw [hk]; simp⟩
        rw [if_pos hall]
        rw [hk] at hu
        refine xs rfl (Int.natCast_nonneg _) ?_
        refine xrow rfl _ hg ?_
        refine xs rfl rfl ?_
        refine xcall rfl (hu) rfl ⟨trivial, trivial⟩ ?_
        refine xj (k := 1) rfl ?_
        refine xr rfl (xret rfl ⟨(by decide), ⟨⟨rfl, rfl, trivial⟩, ⟨rfl, rfl, trivial⟩, trivial⟩, nodB_nodup rfl⟩)
      | true =>
        rw [hk, okE_eq hk] at hu
        refine xs rfl (Int.natCast_nonneg _) ?_
        refine xrow rfl _ hg ?_
        refine xs rfl rfl ?_
        refine xcall rfl (hu) rfl ⟨trivial, trivial⟩ ?_
        refine xj (k := 1) rfl ?_
        refine xs rfl ⟨trivial, trivial, ⟨rfl, rfl⟩, trivial, trivial⟩ ?_
        refine xs rfl rfl ?_
        refine xs rfl rfl ?_
        refine xs rfl (.inl rfl) ?_
        refine xs rfl (by simp; omega) ?_
        refine xs rfl (by simp; omega) ?_
        have h2 : ((rs.take (i + 1)).map unE).map Evt.cs = ((rs.take i).map unE).map Evt.cs ++ [(unE x).cs] := by rw [List.take_add_one, hx]; simp
        exact xcont rfl (hJ _ (i + 1) ⟨by omega, fun j y hj hy => by
          rcases Nat.lt_succ_iff_lt_or_eq.1 hj with h' | h'
          · exact hg0 j y h' hy
          · subst h'; rw [hx] at hy; cases hy; exact hk⟩ (by omega) ⟨⟨cwi (by omega) (by omega) (by omega), ⟨rfl, by rw [h2]; exact List.length_append.symm, rfl⟩, rfl, rfl, ⟨rfl, rfl, rfl⟩, trivial⟩, ⟨⟨h2.symm, .inl rfl, .inl rfl⟩, ⟨rfl, rfl, trivial⟩, trivial⟩, rfl⟩)
    · have h : i = rs.length := by have : ¬ i < rs.length := by simpa using h
                                   omega
      subst h
      have hall : ¬ rs.all okE = false := by
        rw [Bool.not_eq_false, List.all_eq_true]
        intro x hx
        obtain ⟨i, hi, rfl⟩ := List.getElem_of_mem hx
        exact hg0 i _ hi (List.getElem?_eq_getElem hi)
      rw [if_neg hall, List.take_length]
      have hwl : IntKind.i64.wrap (((bts sy).length : Int) + ((bts lo).length : Int)) = ((sy.length + lo.length : Nat) : Int) := by rw [hLs, hLo]; exact (wrap_i64 (by omega) (by omega)).trans (by omega)
      have hml : ((rs.map unE).map Evt.cs).length = rs.length := by simp
      by_cases hq : tk < sy.length + lo.length
      · have t0 : decide ((tk : Int) < IntKind.i64.wrap (((bts sy).length : Int) + ((bts lo).length : Int))) = true := by rw [hwl]; simp; omega
        rw [if_pos hq]
        refine xb rfl (fun b0 => ?_) (fun b0 => ?_)
        refine xr rfl (xret rfl ⟨(by decide), ⟨⟨rfl, rfl, trivial⟩, ⟨rfl, rfl, trivial⟩, trivial⟩, nodB_nodup rfl⟩)
        refine xb rfl (fun b1 => ?_) (fun b1 => ?_)
        refine xr rfl (xret rfl ⟨(by decide), ⟨⟨rfl, rfl, trivial⟩, ⟨rfl, ?_, trivial⟩, trivial⟩, nodB_nodup rfl⟩)
        rotate_left
        refine xr rfl (xret rfl ⟨(by decide), ⟨⟨rfl, ⟨rfl, ?_, .inl rfl⟩, trivial⟩, ⟨rfl, ?_, trivial⟩, trivial⟩, nodB_nodup rfl⟩)
        rotate_left
        rotate_left
        all_goals exact absurd (t0.symm.trans b0) (by decide)
      · have t0 : decide ((tk : Int) < IntKind.i64.wrap (((bts sy).length : Int) + ((bts lo).length : Int))) = false := by rw [hwl]; simp; omega
        rw [if_neg hq]
        by_cases h60 : 60 < rs.length
        · have t1 : decide ((((rs.map unE).map Evt.cs).length : Int) > 60) = true := by rw [hml]; simp; omega
          rw [if_pos h60]
          refine xb rfl (fun b0 => ?_) (fun b0 => ?_)
          refine xr rfl (xret rfl ⟨(by decide), ⟨⟨rfl, rfl, trivial⟩, ⟨rfl, ?_, trivial⟩, trivial⟩, nodB_nodup rfl⟩)
          rotate_left
          refine xb rfl (fun b1 => ?_) (fun b1 => ?_)
          refine xr rfl (xret rfl ⟨(by decide), ⟨⟨rfl, rfl, trivial⟩, ⟨rfl, rfl, trivial⟩, trivial⟩, nodB_nodup rfl⟩)
          refine xr rfl (xret rfl ⟨(by decide), ⟨⟨rfl, ⟨rfl, ?_, .inl rfl⟩, trivial⟩, ⟨rfl, ?_, trivial⟩, trivial⟩, nodB_nodup rfl⟩)
          rotate_left
          rotate_left
          all_goals first | exact absurd (t0.symm.trans b0) (by decide) | exact absurd (t1.symm.trans b1) (by decide)
        · have t1 : decide ((((rs.map unE).map Evt.cs).length : Int) > 60) = false := by rw [hml]; simp; omega
          rw [if_neg h60]
          refine xb rfl (fun b0 => ?_) (fun b0 => ?_)
          refine xr rfl (xret rfl ⟨(by decide), ⟨⟨rfl, ?_, trivial⟩, ⟨rfl, ?_, trivial⟩, trivial⟩, nodB_nodup rfl⟩)
          rotate_left
          rotate_left
          refine xb rfl (fun b1 => ?_) (fun b1 => ?_)
          refine xr rfl (xret rfl ⟨(by decide), ⟨⟨rfl, ?_, trivial⟩, ⟨rfl, ?_, trivial⟩, trivial⟩, nodB_nodup rfl⟩)
          rotate_left
          rotate_left
          refine xr rfl (xret rfl ⟨(by decide), ⟨⟨rfl, ⟨rfl, rfl, .inl rfl⟩, trivial⟩, ⟨rfl, rfl, trivial⟩, trivial⟩, nodB_nodup rfl⟩)
          all_goals first | exact absurd (t0.symm.trans b0) (by decide) | exact absurd (t1.symm.trans b1) (by decide)
theorem evsR_eq {sy lo : List Int} (h : ¬ 6000 < sy.length + lo.length) : ((evsR sy lo).2, (evsR sy lo).1) = eventsR sy lo := by
  have hrl := (recs_le _ (sy ++ lo) (Nat.le_refl _)).1
  rw [List.length_append] at hrl
  unfold evsR eventsR
  rw [if_neg h]
  by_cases h1 : (recs (sy ++ lo)).1.all okE = false
  · rw [if_pos h1, if_pos h1]
  · rw [if_neg h1, if_neg h1]
    by_cases h2 : (recs (sy ++ lo)).2 < sy.length + lo.length
    · rw [if_pos h2, if_pos (show (recs (sy ++ lo)).2 ≠ sy.length + lo.length by omega)]
    · rw [if_neg h2, if_neg (show ¬ (recs (sy ++ lo)).2 ≠ sy.length + lo.length by omega)]
      by_cases h3 : 60 < (recs (sy ++ lo)).1.length
      · rw [if_pos h3, if_pos h3]
      · rw [if_neg h3, if_neg h3]
theorem sEv_pc (v : Int) (bals : List (List Cell)) (sy lo : List Int) (hs : BOk sy) (ho : BOk lo) (h1 : sy.length ≤ 1048576) (h2 : lo.length ≤ 1048576) : PC Try.prog 15 [.agg [i64 v, .l bals, .l (bts sy), .l (bts lo)]] (rEv (eventsR sy lo)) := by
  have hF := sLogF_pc sy lo h1 h2
  have hE := sEvs_pc sy lo hs ho h1 h2
  by_cases h6 : 6000 < sy.length + lo.length
  · have e : eventsR sy lo = (2, []) := by unfold eventsR; rw [if_pos h6]
    rw [if_pos h6] at hF
    rw [e]
    refine PC.begin Try.func15 rfl (by kernel_rfl) ?_
    refine xcall rfl (hF) rfl ⟨⟨trivial, trivial, trivial⟩, trivial⟩ ?_
    refine xj (k := 1) rfl ?_
    refine xr rfl (xret rfl ⟨⟨rfl, rfl, rfl, trivial⟩, nodB_nodup rfl⟩)
  · rw [if_neg h6] at hF
    rw [← evsR_eq h6]
    refine PC.begin Try.func15 rfl (by kernel_rfl) ?_
    refine xcall rfl (hF) rfl ⟨⟨trivial, trivial, trivial⟩, trivial⟩ ?_
    refine xj (k := 1) rfl ?_
    refine xcall rfl (hE) rfl ⟨⟨trivial, trivial, trivial⟩, trivial⟩ ?_
    refine xr rfl (xret rfl ⟨⟨rfl, rfl, ⟨rfl, rfl, .inl rfl⟩, trivial⟩, nodB_nodup rfl⟩)
end Go.Proofs.Ytlkjdcpcbnfbbaa
end
section
namespace Go.Proofs.Ytlkjdcpcbnfbbaa
open Go Go.Sx
set_option maxRecDepth 20000
theorem eqLeg_pc (x0 : Int) (x1 : Int) (x2 : Int) (x3 : Int) (y0 : Int) (y1 : Int) (y2 : Int) (y3 : Int)   : PC Try.prog 150 [.agg [.s (.int .i64 x0), .s (.int .i64 x1), .s (.int .i64 x2), .s (.int .i64 x3)], .agg [.s (.int .i64 y0), .s (.int .i64 y1), .s (.int .i64 y2), .s (.int .i64 y3)]] (rB (dE (α := List Cell) [.s (.int .i64 x0), .s (.int .i64 x1), .s (.int .i64 x2), .s (.int .i64 x3)] [.s (.int .i64 y0), .s (.int .i64 y1), .s (.int .i64 y2), .s (.int .i64 y3)])) := by
  refine PC.begin Try.func150 rfl (by kernel_rfl) ?_
  refine xb rfl (fun h => ?_) (fun e0 => ?_)
  · exact xr rfl (xret rfl ⟨⟨rfl, dE_no (fun e => by simp only [List.cons.injEq, Cell.s.injEq, Value.int.injEq, Value.bool.injEq, Value.string.injEq] at e; simp [e] at h), trivial⟩, nodB_nodup rfl⟩)
  have e0 : x0 = y0 := by simpa using e0
  refine xb rfl (fun h => ?_) (fun e1 => ?_)
  · exact xr rfl (xret rfl ⟨⟨rfl, dE_no (fun e => by simp only [List.cons.injEq, Cell.s.injEq, Value.int.injEq, Value.bool.injEq, Value.string.injEq] at e; simp [e] at h), trivial⟩, nodB_nodup rfl⟩)
  have e1 : x1 = y1 := by simpa using e1
  refine xb rfl (fun h => ?_) (fun e2 => ?_)
  · exact xr rfl (xret rfl ⟨⟨rfl, dE_no (fun e => by simp only [List.cons.injEq, Cell.s.injEq, Value.int.injEq, Value.bool.injEq, Value.string.injEq] at e; simp [e] at h), trivial⟩, nodB_nodup rfl⟩)
  have e2 : x2 = y2 := by simpa using e2
  refine xb rfl (fun h => ?_) (fun e3 => ?_)
  · exact xr rfl (xret rfl ⟨⟨rfl, dE_no (fun e => by simp only [List.cons.injEq, Cell.s.injEq, Value.int.injEq, Value.bool.injEq, Value.string.injEq] at e; simp [e] at h), trivial⟩, nodB_nodup rfl⟩)
  have e3 : x3 = y3 := by simpa using e3
  exact xr rfl (xret rfl ⟨⟨rfl, dE_yes (by simp [e0, e1, e2, e3]), trivial⟩, nodB_nodup rfl⟩)
theorem eqLegS_pc (p q : List (List Cell)) (hp : WR 9000000000000000000 sh_Leg p) (hq : WR 9000000000000000000 sh_Leg q) : PC Try.prog 133 [.one (.l p), .one (.l q)] (rB (dE p q)) := by
  refine PC.begin Try.func133 rfl (by kernel_rfl) ?_
  have hpl := hp.1
  have hql := hq.1
  refine xb rfl (fun h => ?_) (fun h => ?_)
  · exact xr rfl (xret rfl ⟨⟨rfl, dE_no (fun e => by subst e; simp at h), trivial⟩, nodB_nodup rfl⟩)
  have hl : p.length = q.length := by simpa [Int.ofNat_inj] using h
  refine xloop rfl (ι := Nat) (fun i => i ≤ p.length ∧ p.take i = q.take i) (fun i => ⟨[(5, sV (.int .i64 i)), (0, .one (.b (.l p))), (1, .one (.b (.l q)))], []⟩) (fun i => p.length - i) 0 ⟨Nat.zero_le _, rfl⟩ ?_ ?_
  · repeat' (first | exact trivial | exact rfl | exact Or.inl rfl | refine And.intro ?_ ?_)
  · intro i ⟨hi, he⟩ J hJ
    refine xb rfl (fun h => ?_) (fun h => ?_)
    · have h : i < p.length := by simpa using h
      obtain ⟨row, hg⟩ : ∃ row, p[i]? = some row := ⟨_, List.getElem?_eq_getElem h⟩
      obtain ⟨row', hg'⟩ : ∃ row, q[i]? = some row := ⟨_, List.getElem?_eq_getElem (by omega)⟩
      obtain ⟨x0, x1, x2, x3, rfl⟩ := inv_Leg (hp.2 row (List.mem_of_getElem? hg))
      obtain ⟨y0, y1, y2, y3, rfl⟩ := inv_Leg (hq.2 row' (List.mem_of_getElem? hg'))
      refine xdraw rfl [] (.take 0 [] (.take 1 [] (.take 2 [] (.take 3 [8, 9] (.take 4 [] (.take 5 [] (.take 6 [] (.take 7 [8, 9] (.alt 8 (.take 9 [] .done) .nil))))))))) (by kernel_rfl) ?_
      refine xs rfl (Int.natCast_nonneg _) (xrow rfl _ hg (xs rfl rfl ?_))
      refine xs rfl (Int.natCast_nonneg _) (xrow rfl _ hg' (xs rfl rfl ?_))
      refine xcall rfl (eqLeg_pc _ _ _ _ _ _ _ _) rfl ⟨⟨trivial, trivial, trivial, trivial, trivial⟩, ⟨trivial, trivial, trivial, trivial, trivial⟩, trivial⟩ ?_
      refine xb rfl (fun hb => ?_) (fun hb => ?_)
      · exact xr rfl (xret rfl ⟨⟨rfl, dE_no (fun e => by subst e; rw [hg] at hg'; cases hg'; exact nE_ne hb rfl), trivial⟩, nodB_nodup rfl⟩)
      · have hb := nE_eq hb
        refine xcont rfl (hJ _ (i + 1) ⟨by omega, take_succ_eq he hg (hg'.trans (by rw [hb]))⟩ (by omega) ?_)
        repeat' (first | exact trivial | exact rfl | exact Or.inl rfl | exact cwi (by omega) (by omega) (by omega) | refine And.intro ?_ ?_)
    · have h : ¬ i < p.length := by simpa using h
      exact xr rfl (xret rfl ⟨⟨rfl, dE_yes (by rw [show i = p.length by omega, List.take_length] at he; rw [he, hl, List.take_length]), trivial⟩, nodB_nodup rfl⟩)
theorem eqContract_pc (x0 : Int) (x1 : List (List Cell)) (y0 : Int) (y1 : List (List Cell)) (h1 : WR 9000000000000000000 sh_Leg x1) (k1 : WR 9000000000000000000 sh_Leg y1) : PC Try.prog 106 [.agg [.s (.int .i64 x0), .l x1], .agg [.s (.int .i64 y0), .l y1]] (rB (dE (α := List Cell) [.s (.int .i64 x0), .l x1] [.s (.int .i64 y0), .l y1])) := by
  refine PC.begin Try.func106 rfl (by kernel_rfl) ?_
  refine xb rfl (fun h => ?_) (fun e0 => ?_)
  · exact xr rfl (xret rfl ⟨⟨rfl, dE_no (fun e => by simp only [List.cons.injEq, Cell.s.injEq, Value.int.injEq, Value.bool.injEq, Value.string.injEq] at e; simp [e] at h), trivial⟩, nodB_nodup rfl⟩)
  have e0 : x0 = y0 := by simpa using e0
  refine xcall rfl (eqLegS_pc _ _ h1 k1) rfl ⟨trivial, trivial, trivial⟩ ?_
  refine xb rfl (fun h => ?_) (fun e1 => ?_)
  · exact xr rfl (xret rfl ⟨⟨rfl, dE_no (fun e => nE_ne h (by simp only [List.cons.injEq, Cell.l.injEq] at e ⊢; simp only [e]; try trivial)), trivial⟩, nodB_nodup rfl⟩)
  have e1 := nE_eq e1
  exact xr rfl (xret rfl ⟨⟨rfl, dE_yes (by simp [e0, e1]), trivial⟩, nodB_nodup rfl⟩)
theorem eqBalance_pc (x0 : Int) (x1 : Int) (x2 : Int) (y0 : Int) (y1 : Int) (y2 : Int)   : PC Try.prog 98 [.agg [.s (.int .i64 x0), .s (.int .i64 x1), .s (.int .i64 x2)], .agg [.s (.int .i64 y0), .s (.int .i64 y1), .s (.int .i64 y2)]] (rB (dE (α := List Cell) [.s (.int .i64 x0), .s (.int .i64 x1), .s (.int .i64 x2)] [.s (.int .i64 y0), .s (.int .i64 y1), .s (.int .i64 y2)])) := by
  refine PC.begin Try.func98 rfl (by kernel_rfl) ?_
  refine xb rfl (fun h => ?_) (fun e0 => ?_)
  · exact xr rfl (xret rfl ⟨⟨rfl, dE_no (fun e => by simp only [List.cons.injEq, Cell.s.injEq, Value.int.injEq, Value.bool.injEq, Value.string.injEq] at e; simp [e] at h), trivial⟩, nodB_nodup rfl⟩)
  have e0 : x0 = y0 := by simpa using e0
  refine xb rfl (fun h => ?_) (fun e1 => ?_)
  · exact xr rfl (xret rfl ⟨⟨rfl, dE_no (fun e => by simp only [List.cons.injEq, Cell.s.injEq, Value.int.injEq, Value.bool.injEq, Value.string.injEq] at e; simp [e] at h), trivial⟩, nodB_nodup rfl⟩)
  have e1 : x1 = y1 := by simpa using e1
  refine xb rfl (fun h => ?_) (fun e2 => ?_)
  · exact xr rfl (xret rfl ⟨⟨rfl, dE_no (fun e => by simp only [List.cons.injEq, Cell.s.injEq, Value.int.injEq, Value.bool.injEq, Value.string.injEq] at e; simp [e] at h), trivial⟩, nodB_nodup rfl⟩)
  have e2 : x2 = y2 := by simpa using e2
  exact xr rfl (xret rfl ⟨⟨rfl, dE_yes (by simp [e0, e1, e2]), trivial⟩, nodB_nodup rfl⟩)
theorem eqBalanceS_pc (p q : List (List Cell)) (hp : WR 9000000000000000000 sh_Balance p) (hq : WR 9000000000000000000 sh_Balance q) : PC Try.prog 50 [.one (.l p), .one (.l q)] (rB (dE p q)) := by
  refine PC.begin Try.func50 rfl (by kernel_rfl) ?_
  have hpl := hp.1
  have hql := hq.1
  refine xb rfl (fun h => ?_) (fun h => ?_)
  · exact xr rfl (xret rfl ⟨⟨rfl, dE_no (fun e => by subst e; simp at h), trivial⟩, nodB_nodup rfl⟩)
  have hl : p.length = q.length := by simpa [Int.ofNat_inj] using h
  refine xloop rfl (ι := Nat) (fun i => i ≤ p.length ∧ p.take i = q.take i) (fun i => ⟨[(5, sV (.int .i64 i)), (0, .one (.b (.l p))), (1, .one (.b (.l q)))], []⟩) (fun i => p.length - i) 0 ⟨Nat.zero_le _, rfl⟩ ?_ ?_
  · repeat' (first | exact trivial | exact rfl | exact Or.inl rfl | refine And.intro ?_ ?_)
  · intro i ⟨hi, he⟩ J hJ
    refine xb rfl (fun h => ?_) (fun h => ?_)
    · have h : i < p.length := by simpa using h
      obtain ⟨row, hg⟩ : ∃ row, p[i]? = some row := ⟨_, List.getElem?_eq_getElem h⟩
      obtain ⟨row', hg'⟩ : ∃ row, q[i]? = some row := ⟨_, List.getElem?_eq_getElem (by omega)⟩
      obtain ⟨x0, x1, x2, rfl⟩ := inv_Balance (hp.2 row (List.mem_of_getElem? hg))
      obtain ⟨y0, y1, y2, rfl⟩ := inv_Balance (hq.2 row' (List.mem_of_getElem? hg'))
      refine xdraw rfl [] (.take 0 [] (.take 1 [] (.take 2 [] (.take 3 [8, 9] (.take 4 [] (.take 5 [] (.take 6 [] (.take 7 [8, 9] (.alt 8 (.take 9 [] .done) .nil))))))))) (by kernel_rfl) ?_
      refine xs rfl (Int.natCast_nonneg _) (xrow rfl _ hg (xs rfl rfl ?_))
      refine xs rfl (Int.natCast_nonneg _) (xrow rfl _ hg' (xs rfl rfl ?_))
      refine xcall rfl (eqBalance_pc _ _ _ _ _ _) rfl ⟨⟨trivial, trivial, trivial, trivial⟩, ⟨trivial, trivial, trivial, trivial⟩, trivial⟩ ?_
      refine xb rfl (fun hb => ?_) (fun hb => ?_)
      · exact xr rfl (xret rfl ⟨⟨rfl, dE_no (fun e => by subst e; rw [hg] at hg'; cases hg'; exact nE_ne hb rfl), trivial⟩, nodB_nodup rfl⟩)
      · have hb := nE_eq hb
        refine xcont rfl (hJ _ (i + 1) ⟨by omega, take_succ_eq he hg (hg'.trans (by rw [hb]))⟩ (by omega) ?_)
        repeat' (first | exact trivial | exact rfl | exact Or.inl rfl | exact cwi (by omega) (by omega) (by omega) | refine And.intro ?_ ?_)
    · have h : ¬ i < p.length := by simpa using h
      exact xr rfl (xret rfl ⟨⟨rfl, dE_yes (by rw [show i = p.length by omega, List.take_length] at he; rw [he, hl, List.take_length]), trivial⟩, nodB_nodup rfl⟩)
end Go.Proofs.Ytlkjdcpcbnfbbaa
end
section
namespace Go.Proofs.Ytlkjdcpcbnfbbaa
open Go Go.Sx
set_option maxRecDepth 20000
set_option maxHeartbeats 4000000
theorem markLegS_pg (z : Nat) (rr : List (List Cell)) (k : Int) (hw : WR 9000000000000000000 sh_Leg rr) : PG Try.prog 101 [.one (.giv true z rr), .one (.bor (i64 k))] (rI (mkR (mk sh_Leg) rr k).2) [(0, (mkR (mk sh_Leg) rr k).1)] := by
  refine PG.begin Try.func101 rfl (by kernel_rfl) ?_
  have hlen := hw.1
  refine xloop rfl (ι := Nat) (fun i => i ≤ rr.length) (fun i => ⟨[(5, sV (.int .i64 i)), (1, sV (.int .i64 (mdk (mk sh_Leg) rr k i))), (0, .one (.h 1000000000 rr.length))], [(1000000000, .arr true z 0 (md (mk sh_Leg) rr k i))]⟩) (fun i => rr.length - i) 0 (Nat.zero_le _) ?_ ?_
  · exact ⟨⟨rfl, congrArg (fun n => Cell.s (.int .i64 n)) mdk_zero.symm, ⟨rfl, rfl, rfl⟩, trivial⟩, ⟨⟨md_zero.symm, .inl rfl, .inl rfl⟩, trivial⟩, rfl⟩
  · intro i hi J hJ
    refine xb rfl (fun h => ?_) (fun h => ?_)
    · have h : i < rr.length := by simpa using h
      obtain ⟨row, hg⟩ : ∃ row, rr[i]? = some row := ⟨_, List.getElem?_eq_getElem h⟩
      obtain ⟨x0, x1, x2, x3, rfl⟩ := inv_Leg (hw.2 row (List.mem_of_getElem? hg))
      have hl := md_len (f := (mk sh_Leg)) (k := k) hi
      have hg0 := md_get (f := (mk sh_Leg)) (k := k) hg
      have hlt : i < (md (mk sh_Leg) rr k i).length := by omega
      refine xs rfl (hl).symm (xs rfl (Int.natCast_nonneg _) (xrow rfl _ hg0 (xs rfl rfl (xs rfl (hl).symm (xrow rfl _ hg0 (xs rfl (by show 0 + 1 ≤ 4; omega) (xs rfl ⟨trivial, trivial⟩ ?_)))))))
      refine xs rfl (lset (hl)).symm (xs rfl (Int.natCast_nonneg _) (xrow rfl _ (gset (hl) h) (xs rfl rfl (xs rfl (lset (hl)).symm (xrow rfl _ (gset (hl) h) (xs rfl (by show 1 + 1 ≤ 4; omega) (xs rfl ⟨trivial, trivial⟩ ?_)))))))
      refine xs rfl (lset (lset (hl))).symm (xs rfl (Int.natCast_nonneg _) (xrow rfl _ (gset (lset (hl)) h) (xs rfl rfl (xs rfl (lset (lset (hl))).symm (xrow rfl _ (gset (lset (hl)) h) (xs rfl (by show 2 + 1 ≤ 4; omega) (xs rfl ⟨trivial, trivial⟩ ?_)))))))
      refine xs rfl (lset (lset (lset (hl)))).symm (xs rfl (Int.natCast_nonneg _) (xrow rfl _ (gset (lset (lset (hl))) h) (xs rfl rfl (xs rfl (lset (lset (lset (hl)))).symm (xrow rfl _ (gset (lset (lset (hl))) h) (xs rfl (by show 3 + 1 ≤ 4; omega) (xs rfl ⟨trivial, trivial⟩ ?_)))))))
      refine xcont rfl (hJ _ (i + 1) (by omega) (by omega) ?_)
      refine ⟨⟨cwi (by omega) (by omega) (by omega), ?_, ⟨rfl, rfl, rfl⟩, trivial⟩, ⟨⟨?_, .inl rfl, .inl rfl⟩, trivial⟩, rfl⟩
      · rw [mdk_succ hg]; rfl
      · refine Eq.trans ?_ (md_set hg)
        try simp only [Int.toNat_natCast, setRow_eq hg0, ssr hlt, List.set_set]
        rfl
    · have h : ¬ i < rr.length := by simpa using h
      have : i = rr.length := by omega
      subst this
      exact xr rfl (xretG rfl ⟨⟨rfl, congrArg (Value.int .i64) mdk_all, trivial⟩, nodB_nodup rfl⟩ ⟨⟨rfl, rfl, md_all, mkR_len _ _ _, mkR_rows hw⟩, trivial⟩)
theorem markBalanceS_pg (z : Nat) (rr : List (List Cell)) (k : Int) (hw : WR 9000000000000000000 sh_Balance rr) : PG Try.prog 52 [.one (.giv true z rr), .one (.bor (i64 k))] (rI (mkR (mk sh_Balance) rr k).2) [(0, (mkR (mk sh_Balance) rr k).1)] := by
  refine PG.begin Try.func52 rfl (by kernel_rfl) ?_
  have hlen := hw.1
  refine xloop rfl (ι := Nat) (fun i => i ≤ rr.length) (fun i => ⟨[(5, sV (.int .i64 i)), (1, sV (.int .i64 (mdk (mk sh_Balance) rr k i))), (0, .one (.h 1000000000 rr.length))], [(1000000000, .arr true z 0 (md (mk sh_Balance) rr k i))]⟩) (fun i => rr.length - i) 0 (Nat.zero_le _) ?_ ?_
  · exact ⟨⟨rfl, congrArg (fun n => Cell.s (.int .i64 n)) mdk_zero.symm, ⟨rfl, rfl, rfl⟩, trivial⟩, ⟨⟨md_zero.symm, .inl rfl, .inl rfl⟩, trivial⟩, rfl⟩
  · intro i hi J hJ
    refine xb rfl (fun h => ?_) (fun h => ?_)
    · have h : i < rr.length := by simpa using h
      obtain ⟨row, hg⟩ : ∃ row, rr[i]? = some row := ⟨_, List.getElem?_eq_getElem h⟩
      obtain ⟨x0, x1, x2, rfl⟩ := inv_Balance (hw.2 row (List.mem_of_getElem? hg))
      have hl := md_len (f := (mk sh_Balance)) (k := k) hi
      have hg0 := md_get (f := (mk sh_Balance)) (k := k) hg
      have hlt : i < (md (mk sh_Balance) rr k i).length := by omega
      refine xs rfl (hl).symm (xs rfl (Int.natCast_nonneg _) (xrow rfl _ hg0 (xs rfl rfl (xs rfl (hl).symm (xrow rfl _ hg0 (xs rfl (by show 0 + 1 ≤ 3; omega) (xs rfl ⟨trivial, trivial⟩ ?_)))))))
      refine xs rfl (lset (hl)).symm (xs rfl (Int.natCast_nonneg _) (xrow rfl _ (gset (hl) h) (xs rfl rfl (xs rfl (lset (hl)).symm (xrow rfl _ (gset (hl) h) (xs rfl (by show 1 + 1 ≤ 3; omega) (xs rfl ⟨trivial, trivial⟩ ?_)))))))
      refine xs rfl (lset (lset (hl))).symm (xs rfl (Int.natCast_nonneg _) (xrow rfl _ (gset (lset (hl)) h) (xs rfl rfl (xs rfl (lset (lset (hl))).symm (xrow rfl _ (gset (lset (hl)) h) (xs rfl (by show 2 + 1 ≤ 3; omega) (xs rfl ⟨trivial, trivial⟩ ?_)))))))
      refine xcont rfl (hJ _ (i + 1) (by omega) (by omega) ?_)
      refine ⟨⟨cwi (by omega) (by omega) (by omega), ?_, ⟨rfl, rfl, rfl⟩, trivial⟩, ⟨⟨?_, .inl rfl, .inl rfl⟩, trivial⟩, rfl⟩
      · rw [mdk_succ hg]; rfl
      · refine Eq.trans ?_ (md_set hg)
        try simp only [Int.toNat_natCast, setRow_eq hg0, ssr hlt, List.set_set]
        rfl
    · have h : ¬ i < rr.length := by simpa using h
      have : i = rr.length := by omega
      subst this
      exact xr rfl (xretG rfl ⟨⟨rfl, congrArg (Value.int .i64) mdk_all, trivial⟩, nodB_nodup rfl⟩ ⟨⟨rfl, rfl, md_all, mkR_len _ _ _, mkR_rows hw⟩, trivial⟩)
end Go.Proofs.Ytlkjdcpcbnfbbaa
end
section
namespace Go.Proofs.Ytlkjdcpcbnfbbaa
open Go Go.Sx
set_option maxRecDepth 20000
set_option maxHeartbeats 4000000
theorem heldLegS_pc (rr : List (List Cell)) (k : Int) (hw : WR 9000000000000000000 sh_Leg rr) : PC Try.prog 102 [.one (.l rr), .one (i64 k)] (rI (ng (hdR (hd sh_Leg) rr k))) := by
  refine PC.begin Try.func102 rfl (by kernel_rfl) ?_
  have hlen := hw.1
  refine xloop rfl (ι := Nat × Int) (fun x => x.1 ≤ rr.length ∧ hdR (hd sh_Leg) (rr.take x.1) k = some x.2) (fun x => ⟨[(5, sV (.int .i64 x.1)), (1, sV (.int .i64 x.2)), (0, .one (.b (.l rr)))], []⟩) (fun x => rr.length - x.1) (0, k) ⟨Nat.zero_le _, rfl⟩ ?_ ?_
  · exact ⟨⟨rfl, rfl, rfl, trivial⟩, trivial, rfl⟩
  · intro ⟨i, v⟩ ⟨hi, hv⟩ J hJ
    dsimp only at hi hv ⊢
    refine xb rfl (fun h => ?_) (fun h => ?_)
    · have h : i < rr.length := by simpa using h
      obtain ⟨row, hg⟩ : ∃ row, rr[i]? = some row := ⟨_, List.getElem?_eq_getElem h⟩
      obtain ⟨x0, x1, x2, x3, rfl⟩ := inv_Leg (hw.2 row (List.mem_of_getElem? hg))
      have hst := hdR_step hg hv
      refine xs rfl (Int.natCast_nonneg _) (xrow rfl _ hg (xs rfl rfl ?_))
      refine xb rfl (fun hb => ?_) (fun hb => ?_)
      · have hb : ¬ x0 = mkv .i64 (v) := by simpa [mkv, nx] using hb
        exact xr rfl (xret rfl ⟨⟨rfl, congrArg (Value.int .i64) (ng_none (hdR_none (i := i + 1) (hst.trans (by simp only [hd, if_neg hb])))).symm, trivial⟩, nodB_nodup rfl⟩)
      have hb0 : x0 = mkv .i64 (v) := by simpa [mkv, nx] using hb
      clear hb
      refine xs rfl (Int.natCast_nonneg _) (xrow rfl _ hg (xs rfl rfl ?_))
      refine xb rfl (fun hb => ?_) (fun hb => ?_)
      · have hb : ¬ x1 = mkv .i64 (nx (v)) := by simpa [mkv, nx] using hb
        exact xr rfl (xret rfl ⟨⟨rfl, congrArg (Value.int .i64) (ng_none (hdR_none (i := i + 1) (hst.trans (by simp only [hd, if_neg hb, if_pos hb0])))).symm, trivial⟩, nodB_nodup rfl⟩)
      have hb1 : x1 = mkv .i64 (nx (v)) := by simpa [mkv, nx] using hb
      clear hb
      refine xs rfl (Int.natCast_nonneg _) (xrow rfl _ hg (xs rfl rfl ?_))
      refine xb rfl (fun hb => ?_) (fun hb => ?_)
      · have hb : ¬ x2 = mkv .i64 (nx (nx (v))) := by simpa [mkv, nx] using hb
        exact xr rfl (xret rfl ⟨⟨rfl, congrArg (Value.int .i64) (ng_none (hdR_none (i := i + 1) (hst.trans (by simp only [hd, if_neg hb, if_pos hb0, if_pos hb1])))).symm, trivial⟩, nodB_nodup rfl⟩)
      have hb2 : x2 = mkv .i64 (nx (nx (v))) := by simpa [mkv, nx] using hb
      clear hb
      refine xs rfl (Int.natCast_nonneg _) (xrow rfl _ hg (xs rfl rfl ?_))
      refine xb rfl (fun hb => ?_) (fun hb => ?_)
      · have hb : ¬ x3 = mkv .i64 (nx (nx (nx (v)))) := by simpa [mkv, nx] using hb
        exact xr rfl (xret rfl ⟨⟨rfl, congrArg (Value.int .i64) (ng_none (hdR_none (i := i + 1) (hst.trans (by simp only [hd, if_neg hb, if_pos hb0, if_pos hb1, if_pos hb2])))).symm, trivial⟩, nodB_nodup rfl⟩)
      have hb3 : x3 = mkv .i64 (nx (nx (nx (v)))) := by simpa [mkv, nx] using hb
      clear hb
      refine xcont rfl (hJ _ (i + 1, nx (nx (nx (nx (v))))) ⟨by dsimp only; omega, hst.trans (by simp only [hd, if_pos hb0, if_pos hb1, if_pos hb2, if_pos hb3])⟩ (by dsimp only; omega) ?_)
      exact ⟨⟨cwi (by omega) (by omega) (by omega), rfl, rfl, trivial⟩, trivial, rfl⟩
    · have h : ¬ i < rr.length := by simpa using h
      have : i = rr.length := by omega
      subst this
      rw [List.take_length] at hv
      exact xr rfl (xret rfl ⟨⟨rfl, congrArg (Value.int .i64) (by rw [hv]; rfl), trivial⟩, nodB_nodup rfl⟩)
end Go.Proofs.Ytlkjdcpcbnfbbaa
end
section
namespace Go.Proofs.Ytlkjdcpcbnfbbaa
open Go Go.Sx
set_option maxRecDepth 20000
theorem toBalance_pc (x0 : Int) (x1 : Int) (x2 : Int)  : PC Try.prog 87 [.agg [.s (.int .i64 x0), .s (.int .i64 x1), .s (.int .i64 x2)]] (.one (.own true [.s (.int .i64 x0), .s (.int .i64 x1), .s (.int .i64 x2)])) := by
  refine PC.begin Try.func87 rfl (by kernel_rfl) ?_
  exact xr rfl (xret rfl ⟨⟨rfl, rfl, rfl, rfl, trivial⟩, nodB_nodup rfl⟩)
theorem toBalanceS_pc (rr : List (List Cell)) (hw : WR 1048576 sh_Balance rr) : PC Try.prog 44 [.one (.l rr)] (.one (.own false [.l 3 rr])) := by
  refine PC.begin Try.func44 rfl (by kernel_rfl) ?_
  have hlen := hw.1
  refine xs rfl rfl (xs rfl (Int.natCast_nonneg _) (xs rfl (by omega) (xs rfl (by omega) ?_)))
  refine xloop rfl (ι := Nat) (fun i => i ≤ rr.length) (fun i => ⟨[(4, sV (.int .i64 i)), (3, .one (.h 7 rr.length)), (0, .one (.b (.l rr)))], [(7, .arr true 3 0 (rr.take i ++ List.replicate (rr.length - i) [.s (.int .i64 0), .s (.int .i64 0), .s (.int .i64 0)]))]⟩) (fun i => rr.length - i) 0 (Nat.zero_le _) ?_ ?_
  · repeat' (first | exact trivial | exact rfl | exact Or.inl rfl | refine And.intro ?_ ?_)
  · intro i hi J hJ
    refine xb rfl (fun h => ?_) (fun h => ?_)
    · have h : i < rr.length := by simpa using h
      obtain ⟨row, hg⟩ : ∃ row, rr[i]? = some row := ⟨_, List.getElem?_eq_getElem h⟩
      obtain ⟨x0, x1, x2, rfl⟩ := inv_Balance (hw.2 row (List.mem_of_getElem? hg))
      refine xs rfl (Int.natCast_nonneg _) (xrow rfl _ hg (xs rfl rfl ?_))
      refine xcall rfl (toBalance_pc _ _ _) rfl ⟨⟨trivial, trivial, trivial, trivial⟩, trivial⟩ ?_
      refine xs rfl (len_fill _ _ _ _ (by omega) rfl).symm (xs rfl (Int.natCast_nonneg _) (xrow rfl [.s (.int .i64 0), .s (.int .i64 0), .s (.int .i64 0)] (get_fill _ _ _ _ (by omega) rfl) (xs rfl rfl ?_)))
      refine xs rfl (len_fill _ _ _ _ (by omega) rfl).symm (xrow rfl [.s (.int .i64 0), .s (.int .i64 0), .s (.int .i64 0)] (get_fill _ _ _ _ (by omega) rfl) (xs rfl (by decide) (xs rfl ⟨trivial, trivial, trivial, trivial⟩ ?_)))
      refine xcont rfl (hJ _ (i + 1) (by omega) (by omega) ?_)
      repeat' (first | exact trivial | exact rfl | exact Or.inl rfl | exact cwi (by omega) (by omega) (by omega) | refine And.intro ?_ ?_)
      exact set_fill _ _ _ _ _ hg rfl
    · have h : ¬ i < rr.length := by simpa using h
      have : i = rr.length := by omega
      subst this
      refine xr rfl (xret rfl ⟨⟨rfl, ⟨(len_fill _ _ _ _ (by omega) rfl).symm, all_fill _ _ _ rfl, Or.inl rfl⟩, trivial⟩, nodB_nodup rfl⟩)
end Go.Proofs.Ytlkjdcpcbnfbbaa
end
section
namespace Go.Proofs.Ytlkjdcpcbnfbbaa
open Go Go.Sx
set_option maxRecDepth 20000
theorem szBalanceS_pc (rr : List (List Cell)) (b : Int) (hw : WR 9223372036854775807 sh_Balance rr) (p0 : 0 ≤ b) (p1 : b ≤ 1048576) : PC Try.prog 40 [.one (.l rr), .one (.s (.int .i64 b))] (rI (szn b (totR sh_Balance rr))) := by
  refine PC.begin Try.func40 rfl (by kernel_rfl) ?_
  have hlen := hw.1
  have w1 : IntKind.i64.wrap (b - rr.length) = b - rr.length := wrap_i64 (by omega) (by omega)
  rw [totR_leaf (fun row hr => by obtain ⟨x0, x1, x2, rfl⟩ := inv_Balance hr; rfl) hw]
  refine xb rfl (fun h => ?_) (fun h => ?_)
  · simp only [w1, decide_eq_true_eq] at h
    exact xr rfl (xret rfl ⟨⟨rfl, (by show Value.int _ _ = Value.int _ _; rw [szn, if_pos h]), trivial⟩, nodB_nodup rfl⟩)
  · simp only [w1, decide_eq_false_iff_not] at h
    exact xr rfl (xret rfl ⟨⟨rfl, (by show Value.int .i64 (IntKind.i64.wrap (b - rr.length)) = Value.int _ _; rw [szn, if_neg h, w1]), trivial⟩, nodB_nodup rfl⟩)
end Go.Proofs.Ytlkjdcpcbnfbbaa
end
section
namespace Go.Proofs.Ytlkjdcpcbnfbbaa
open Go Go.Sx
set_option maxRecDepth 20000
set_option maxHeartbeats 4000000
theorem toByteS_pc (rr : List (List Cell)) (hw : WR 1048576 (.i .u8 .nil) rr) : PC Try.prog 88 [.one (.l rr)] (.one (.own false [.l 1 rr])) := by
  refine PC.begin Try.func88 rfl (by kernel_rfl) ?_
  have hlen := hw.1
  refine xs rfl rfl (xs rfl (Int.natCast_nonneg _) (xs rfl (by omega) (xs rfl (by omega) ?_)))
  refine xloop rfl (ι := Nat) (fun i => i ≤ rr.length) (fun i => ⟨[(4, sV (.int .i64 i)), (3, .one (.h 7 rr.length)), (0, .one (.b (.l rr)))], [(7, .arr true 1 0 (rr.take i ++ List.replicate (rr.length - i) [.s (.int .u8 0)]))]⟩) (fun i => rr.length - i) 0 (Nat.zero_le _) ?_ ?_
  · repeat' (first | exact trivial | exact rfl | exact Or.inl rfl | refine And.intro ?_ ?_)
  · intro i hi J hJ
    refine xb rfl (fun h => ?_) (fun h => ?_)
    · have h : i < rr.length := by simpa using h
      obtain ⟨row, hg⟩ : ∃ row, rr[i]? = some row := ⟨_, List.getElem?_eq_getElem h⟩
      obtain ⟨x0, _, rfl, hnil⟩ := ((hw.2 row (List.mem_of_getElem? hg))).inv_i; obtain rfl := hnil.inv_nil
      refine xs rfl (Int.natCast_nonneg _) (xrow rfl _ hg (xs rfl rfl ?_))
      refine xs rfl (len_fill _ _ _ _ (by omega) rfl).symm (xs rfl (Int.natCast_nonneg _) (xrow rfl [.s (.int .u8 0)] (get_fill _ _ _ _ (by omega) rfl) (xs rfl rfl ?_)))
      refine xs rfl (len_fill _ _ _ _ (by omega) rfl).symm (xrow rfl [.s (.int .u8 0)] (get_fill _ _ _ _ (by omega) rfl) (xs rfl (by decide) (xs rfl ⟨trivial, trivial⟩ ?_)))
      refine xcont rfl (hJ _ (i + 1) (by omega) (by omega) ?_)
      repeat' (first | exact trivial | exact rfl | exact Or.inl rfl | exact cwi (by omega) (by omega) (by omega) | refine And.intro ?_ ?_)
      exact set_fill _ _ _ _ _ hg rfl
    · have h : ¬ i < rr.length := by simpa using h
      have : i = rr.length := by omega
      subst this
      refine xr rfl (xret rfl ⟨⟨rfl, ⟨(len_fill _ _ _ _ (by omega) rfl).symm, all_fill _ _ _ rfl, Or.inl rfl⟩, trivial⟩, nodB_nodup rfl⟩)
theorem toLog_pc (x0 : List (List Cell)) (x1 : List (List Cell)) (h0 : WR 1048576 (.i .u8 .nil) x0) (h1 : WR 1048576 (.i .u8 .nil) x1) : PC Try.prog 45 [.agg [.l x0, .l x1]] (.one (.own true [.l 1 x0, .l 1 x1])) := by
  refine PC.begin Try.func45 rfl (by kernel_rfl) ?_
  refine xcall rfl (toByteS_pc _ h0) rfl ⟨trivial, trivial⟩ ?_
  refine xcall rfl (toByteS_pc _ h1) rfl ⟨trivial, trivial⟩ ?_
  exact xr rfl (xret rfl ⟨⟨rfl, ⟨rfl, rfl, .inl rfl⟩, ⟨rfl, rfl, .inl rfl⟩, trivial⟩, nodB_nodup rfl⟩)
theorem toJournal_pc (x0 : Int) (x1 : List (List Cell)) (x2 : List (List Cell)) (x3 : List (List Cell)) (h1 : WR 1048576 sh_Balance x1) (h2 : WR 1048576 (.i .u8 .nil) x2) (h3 : WR 1048576 (.i .u8 .nil) x3) : PC Try.prog 16 [.agg [.s (.int .i64 x0), .l x1, .l x2, .l x3]] (.one (.own true [.s (.int .i64 x0), .l 3 x1, .l 1 x2, .l 1 x3])) := by
  refine PC.begin Try.func16 rfl (by kernel_rfl) ?_
  refine xcall rfl (toBalanceS_pc _ h1) rfl ⟨trivial, trivial⟩ ?_
  refine xcall rfl (toLog_pc _ _ h2 h3) rfl ⟨⟨trivial, trivial, trivial⟩, trivial⟩ ?_
  exact xr rfl (xret rfl ⟨⟨rfl, rfl, ⟨rfl, rfl, .inl rfl⟩, ⟨rfl, rfl, .inl rfl⟩, ⟨rfl, rfl, .inl rfl⟩, trivial⟩, nodB_nodup rfl⟩)
theorem szByteS_pc (rr : List (List Cell)) (b : Int) (hw : WR 9223372036854775807 (.i .u8 .nil) rr) (p0 : 0 ≤ b) (p1 : b ≤ 1048576) : PC Try.prog 83 [.one (.l rr), .one (.s (.int .i64 b))] (rI (szn b (totR (.i .u8 .nil) rr))) := by
  refine PC.begin Try.func83 rfl (by kernel_rfl) ?_
  have hlen := hw.1
  have w1 : IntKind.i64.wrap (b - rr.length) = b - rr.length := wrap_i64 (by omega) (by omega)
  rw [totR_leaf (fun row hr => by obtain ⟨x0, _, rfl, hnil⟩ := (hr).inv_i; obtain rfl := hnil.inv_nil; rfl) hw]
  refine xb rfl (fun h => ?_) (fun h => ?_)
  · simp only [w1, decide_eq_true_eq] at h
    exact xr rfl (xret rfl ⟨⟨rfl, (by show Value.int _ _ = Value.int _ _; rw [szn, if_pos h]), trivial⟩, nodB_nodup rfl⟩)
  · simp only [w1, decide_eq_false_iff_not] at h
    exact xr rfl (xret rfl ⟨⟨rfl, (by show Value.int .i64 (IntKind.i64.wrap (b - rr.length)) = Value.int _ _; rw [szn, if_neg h, w1]), trivial⟩, nodB_nodup rfl⟩)
theorem szLog_pc (x0 : List (List Cell)) (x1 : List (List Cell)) (b : Int) (h0 : WR 9223372036854775807 (.i .u8 .nil) x0) (h1 : WR 9223372036854775807 (.i .u8 .nil) x1) (hb0 : 0 ≤ b) (hb1 : b ≤ 1048576) : PC Try.prog 41 [.agg [.l x0, .l x1], .one (.s (.int .i64 b))] (rI (szn b (tot sh_Log [.l x0, .l x1]))) := by
  refine PC.begin Try.func41 rfl (by kernel_rfl) ?_
  have ht : tot sh_Log [.l x0, .l x1] = totR (.i .u8 .nil) x0 + totR (.i .u8 .nil) x1 := by simp only [tot, totR] <;> omega
  refine xcall rfl (szByteS_pc x0 b h0 hb0 hb1) rfl ⟨trivial, trivial, trivial⟩ ?_
  refine xb rfl (fun h => ?_) (fun e0 => ?_)
  · have h : szn b (totR (.i .u8 .nil) x0) < 0 := by simpa using h
    exact xr rfl (xret rfl ⟨⟨rfl, (by show Value.int _ _ = Value.int _ _; congr 1; rw [ht]; unfold szn at *; split at h <;> rw [if_pos] <;> omega), trivial⟩, nodB_nodup rfl⟩)
  have e0 : 0 ≤ szn b (totR (.i .u8 .nil) x0) := by simpa using e0
  refine xcall rfl (szByteS_pc x1 (szn b (totR (.i .u8 .nil) x0)) h1 e0 (szn_le hb1 hb0)) rfl ⟨trivial, trivial, trivial⟩ ?_
  refine xb rfl (fun h => ?_) (fun e1 => ?_)
  · have h : szn (szn b (totR (.i .u8 .nil) x0)) (totR (.i .u8 .nil) x1) < 0 := by simpa using h
    rw [szn_add e0] at h
    exact xr rfl (xret rfl ⟨⟨rfl, (by show Value.int _ _ = Value.int _ _; congr 1; rw [ht]; unfold szn at *; split at h <;> rw [if_pos] <;> omega), trivial⟩, nodB_nodup rfl⟩)
  have e1 : 0 ≤ szn b (totR (.i .u8 .nil) x0 + totR (.i .u8 .nil) x1) := by rw [← szn_add e0]; simpa using e1
  rw [szn_add e0]
  exact xr rfl (xret rfl ⟨⟨rfl, (by show Value.int _ _ = Value.int _ _; rw [ht]), trivial⟩, nodB_nodup rfl⟩)
theorem szJournal_pc (x0 : Int) (x1 : List (List Cell)) (x2 : List (List Cell)) (x3 : List (List Cell)) (b : Int) (h1 : WR 9223372036854775807 sh_Balance x1) (h2 : WR 9223372036854775807 (.i .u8 .nil) x2) (h3 : WR 9223372036854775807 (.i .u8 .nil) x3) (hb0 : 0 ≤ b) (hb1 : b ≤ 1048576) : PC Try.prog 14 [.agg [.s (.int .i64 x0), .l x1, .l x2, .l x3], .one (.s (.int .i64 b))] (rI (szn b (tot sh_Journal [.s (.int .i64 x0), .l x1, .l x2, .l x3]))) := by
  refine PC.begin Try.func14 rfl (by kernel_rfl) ?_
  have ht : tot sh_Journal [.s (.int .i64 x0), .l x1, .l x2, .l x3] = totR sh_Balance x1 + tot sh_Log [.l x2, .l x3] := by simp only [tot, totR] <;> omega
  refine xcall rfl (szBalanceS_pc x1 b h1 hb0 hb1) rfl ⟨trivial, trivial, trivial⟩ ?_
  refine xb rfl (fun h => ?_) (fun e0 => ?_)
  · have h : szn b (totR sh_Balance x1) < 0 := by simpa using h
    exact xr rfl (xret rfl ⟨⟨rfl, (by show Value.int _ _ = Value.int _ _; congr 1; rw [ht]; unfold szn at *; split at h <;> rw [if_pos] <;> omega), trivial⟩, nodB_nodup rfl⟩)
  have e0 : 0 ≤ szn b (totR sh_Balance x1) := by simpa using e0
  refine xcall rfl (szLog_pc x2 x3 (szn b (totR sh_Balance x1)) h2 h3 e0 (szn_le hb1 hb0)) rfl ⟨⟨trivial, trivial, trivial⟩, trivial, trivial⟩ ?_
  refine xb rfl (fun h => ?_) (fun e1 => ?_)
  · have h : szn (szn b (totR sh_Balance x1)) (tot sh_Log [.l x2, .l x3]) < 0 := by simpa using h
    rw [szn_add e0] at h
    exact xr rfl (xret rfl ⟨⟨rfl, (by show Value.int _ _ = Value.int _ _; congr 1; rw [ht]; unfold szn at *; split at h <;> rw [if_pos] <;> omega), trivial⟩, nodB_nodup rfl⟩)
  have e1 : 0 ≤ szn b (totR sh_Balance x1 + tot sh_Log [.l x2, .l x3]) := by rw [← szn_add e0]; simpa using e1
  rw [szn_add e0]
  exact xr rfl (xret rfl ⟨⟨rfl, (by show Value.int _ _ = Value.int _ _; rw [ht]), trivial⟩, nodB_nodup rfl⟩)
theorem eqByteS_pc (p q : List (List Cell)) (hp : WR 9000000000000000000 (.i .u8 .nil) p) (hq : WR 9000000000000000000 (.i .u8 .nil) q) : PC Try.prog 99 [.one (.l p), .one (.l q)] (rB (dE p q)) := by
  refine PC.begin Try.func99 rfl (by kernel_rfl) ?_
  have hpl := hp.1
  have hql := hq.1
  refine xb rfl (fun h => ?_) (fun h => ?_)
  · exact xr rfl (xret rfl ⟨⟨rfl, dE_no (fun e => by subst e; simp at h), trivial⟩, nodB_nodup rfl⟩)
  have hl : p.length = q.length := by simpa [Int.ofNat_inj] using h
  refine xloop rfl (ι := Nat) (fun i => i ≤ p.length ∧ p.take i = q.take i) (fun i => ⟨[(5, sV (.int .i64 i)), (0, .one (.b (.l p))), (1, .one (.b (.l q)))], []⟩) (fun i => p.length - i) 0 ⟨Nat.zero_le _, rfl⟩ ?_ ?_
  · repeat' (first | exact trivial | exact rfl | exact Or.inl rfl | refine And.intro ?_ ?_)
  · intro i ⟨hi, he⟩ J hJ
    refine xb rfl (fun h => ?_) (fun h => ?_)
    · have h : i < p.length := by simpa using h
      obtain ⟨row, hg⟩ : ∃ row, p[i]? = some row := ⟨_, List.getElem?_eq_getElem h⟩
      obtain ⟨row', hg'⟩ : ∃ row, q[i]? = some row := ⟨_, List.getElem?_eq_getElem (by omega)⟩
      obtain ⟨x0, _, rfl, hnil⟩ := ((hp.2 row (List.mem_of_getElem? hg))).inv_i; obtain rfl := hnil.inv_nil
      obtain ⟨y0, _, rfl, knil⟩ := ((hq.2 row' (List.mem_of_getElem? hg'))).inv_i; obtain rfl := knil.inv_nil
      refine xdraw rfl [] (.take 0 [] (.take 1 [] (.take 2 [] (.take 3 [8] (.take 4 [] (.take 5 [] (.take 6 [] (.take 7 [8] (.take 8 [] .done))))))))) (by kernel_rfl) ?_
      refine xs rfl (Int.natCast_nonneg _) (xrow rfl _ hg (xs rfl rfl ?_))
      refine xs rfl (Int.natCast_nonneg _) (xrow rfl _ hg' (xs rfl rfl ?_))
      refine xb rfl (fun hb => ?_) (fun hb => ?_)
      · exact xr rfl (xret rfl ⟨⟨rfl, dE_no (fun e => by subst e; rw [hg] at hg'; cases hg'; simp at hb), trivial⟩, nodB_nodup rfl⟩)
      · have hb : x0 = y0 := by simpa using hb
        refine xcont rfl (hJ _ (i + 1) ⟨by omega, take_succ_eq he hg (hg'.trans (by rw [hb]))⟩ (by omega) ?_)
        repeat' (first | exact trivial | exact rfl | exact Or.inl rfl | exact cwi (by omega) (by omega) (by omega) | refine And.intro ?_ ?_)
    · have h : ¬ i < p.length := by simpa using h
      exact xr rfl (xret rfl ⟨⟨rfl, dE_yes (by rw [show i = p.length by omega, List.take_length] at he; rw [he, hl, List.take_length]), trivial⟩, nodB_nodup rfl⟩)
theorem eqLog_pc (x0 : List (List Cell)) (x1 : List (List Cell)) (y0 : List (List Cell)) (y1 : List (List Cell)) (h0 : WR 9000000000000000000 (.i .u8 .nil) x0) (h1 : WR 9000000000000000000 (.i .u8 .nil) x1) (k0 : WR 9000000000000000000 (.i .u8 .nil) y0) (k1 : WR 9000000000000000000 (.i .u8 .nil) y1) : PC Try.prog 51 [.agg [.l x0, .l x1], .agg [.l y0, .l y1]] (rB (dE (α := List Cell) [.l x0, .l x1] [.l y0, .l y1])) := by
  refine PC.begin Try.func51 rfl (by kernel_rfl) ?_
  refine xcall rfl (eqByteS_pc _ _ h0 k0) rfl ⟨trivial, trivial, trivial⟩ ?_
  refine xb rfl (fun h => ?_) (fun e0 => ?_)
  · exact xr rfl (xret rfl ⟨⟨rfl, dE_no (fun e => nE_ne h (by simp only [List.cons.injEq, Cell.l.injEq] at e ⊢; simp only [e]; try trivial)), trivial⟩, nodB_nodup rfl⟩)
  have e0 := nE_eq e0
  refine xcall rfl (eqByteS_pc _ _ h1 k1) rfl ⟨trivial, trivial, trivial⟩ ?_
  refine xb rfl (fun h => ?_) (fun e1 => ?_)
  · exact xr rfl (xret rfl ⟨⟨rfl, dE_no (fun e => nE_ne h (by simp only [List.cons.injEq, Cell.l.injEq] at e ⊢; simp only [e]; try trivial)), trivial⟩, nodB_nodup rfl⟩)
  have e1 := nE_eq e1
  exact xr rfl (xret rfl ⟨⟨rfl, dE_yes (by simp [e0, e1]), trivial⟩, nodB_nodup rfl⟩)
theorem eqJournal_pc (x0 : Int) (x1 : List (List Cell)) (x2 : List (List Cell)) (x3 : List (List Cell)) (y0 : Int) (y1 : List (List Cell)) (y2 : List (List Cell)) (y3 : List (List Cell)) (h1 : WR 9000000000000000000 sh_Balance x1) (h2 : WR 9000000000000000000 (.i .u8 .nil) x2) (h3 : WR 9000000000000000000 (.i .u8 .nil) x3) (k1 : WR 9000000000000000000 sh_Balance y1) (k2 : WR 9000000000000000000 (.i .u8 .nil) y2) (k3 : WR 9000000000000000000 (.i .u8 .nil) y3) : PC Try.prog 19 [.agg [.s (.int .i64 x0), .l x1, .l x2, .l x3], .agg [.s (.int .i64 y0), .l y1, .l y2, .l y3]] (rB (dE (α := List Cell) [.s (.int .i64 x0), .l x1, .l x2, .l x3] [.s (.int .i64 y0), .l y1, .l y2, .l y3])) := by
  refine PC.begin Try.func19 rfl (by kernel_rfl) ?_
  refine xb rfl (fun h => ?_) (fun e0 => ?_)
  · exact xr rfl (xret rfl ⟨⟨rfl, dE_no (fun e => by simp only [List.cons.injEq, Cell.s.injEq, Value.int.injEq, Value.bool.injEq, Value.string.injEq] at e; simp [e] at h), trivial⟩, nodB_nodup rfl⟩)
  have e0 : x0 = y0 := by simpa using e0
  refine xcall rfl (eqBalanceS_pc _ _ h1 k1) rfl ⟨trivial, trivial, trivial⟩ ?_
  refine xb rfl (fun h => ?_) (fun e1 => ?_)
  · exact xr rfl (xret rfl ⟨⟨rfl, dE_no (fun e => nE_ne h (by simp only [List.cons.injEq, Cell.l.injEq] at e ⊢; simp only [e]; try trivial)), trivial⟩, nodB_nodup rfl⟩)
  have e1 := nE_eq e1
  refine xcall rfl (eqLog_pc _ _ _ _ h2 h3 k2 k3) rfl ⟨⟨trivial, trivial, trivial⟩, ⟨trivial, trivial, trivial⟩, trivial⟩ ?_
  refine xb rfl (fun h => ?_) (fun e2 => ?_)
  · exact xr rfl (xret rfl ⟨⟨rfl, dE_no (fun e => nE_ne h (by simp only [List.cons.injEq, Cell.l.injEq] at e ⊢; simp only [e]; try trivial)), trivial⟩, nodB_nodup rfl⟩)
  have e2 := nE_eq e2
  simp only [List.cons.injEq, Cell.s.injEq, Cell.l.injEq, Value.int.injEq, Value.bool.injEq, and_true, true_and] at e2
  exact xr rfl (xret rfl ⟨⟨rfl, dE_yes (by simp [e0, e1, e2]), trivial⟩, nodB_nodup rfl⟩)
theorem markByteS_pg (z : Nat) (rr : List (List Cell)) (k : Int) (hw : WR 9000000000000000000 (.i .u8 .nil) rr) : PG Try.prog 100 [.one (.giv true z rr), .one (.bor (i64 k))] (rI (mkR (mk (.i .u8 .nil)) rr k).2) [(0, (mkR (mk (.i .u8 .nil)) rr k).1)] := by
  refine PG.begin Try.func100 rfl (by kernel_rfl) ?_
  have hlen := hw.1
  refine xloop rfl (ι := Nat) (fun i => i ≤ rr.length) (fun i => ⟨[(5, sV (.int .i64 i)), (1, sV (.int .i64 (mdk (mk (.i .u8 .nil)) rr k i))), (0, .one (.h 1000000000 rr.length))], [(1000000000, .arr true z 0 (md (mk (.i .u8 .nil)) rr k i))]⟩) (fun i => rr.length - i) 0 (Nat.zero_le _) ?_ ?_
  · exact ⟨⟨rfl, congrArg (fun n => Cell.s (.int .i64 n)) mdk_zero.symm, ⟨rfl, rfl, rfl⟩, trivial⟩, ⟨⟨md_zero.symm, .inl rfl, .inl rfl⟩, trivial⟩, rfl⟩
  · intro i hi J hJ
    refine xb rfl (fun h => ?_) (fun h => ?_)
    · have h : i < rr.length := by simpa using h
      obtain ⟨row, hg⟩ : ∃ row, rr[i]? = some row := ⟨_, List.getElem?_eq_getElem h⟩
      obtain ⟨x0, _, rfl, hnil⟩ := ((hw.2 row (List.mem_of_getElem? hg))).inv_i; obtain rfl := hnil.inv_nil
      have hl := md_len (f := (mk (.i .u8 .nil))) (k := k) hi
      have hg0 := md_get (f := (mk (.i .u8 .nil))) (k := k) hg
      have hlt : i < (md (mk (.i .u8 .nil)) rr k i).length := by omega
      refine xs rfl (hl).symm (xs rfl (Int.natCast_nonneg _) (xrow rfl _ hg0 (xs rfl rfl (xs rfl (hl).symm (xrow rfl _ hg0 (xs rfl (by show 0 + 1 ≤ 1; omega) (xs rfl ⟨trivial, trivial⟩ ?_)))))))
      refine xcont rfl (hJ _ (i + 1) (by omega) (by omega) ?_)
      refine ⟨⟨cwi (by omega) (by omega) (by omega), ?_, ⟨rfl, rfl, rfl⟩, trivial⟩, ⟨⟨?_, .inl rfl, .inl rfl⟩, trivial⟩, rfl⟩
      · rw [mdk_succ hg]; rfl
      · refine Eq.trans ?_ (md_set hg)
        try simp only [Int.toNat_natCast, setRow_eq hg0, ssr hlt, List.set_set]
        rfl
    · have h : ¬ i < rr.length := by simpa using h
      have : i = rr.length := by omega
      subst this
      exact xr rfl (xretG rfl ⟨⟨rfl, congrArg (Value.int .i64) mdk_all, trivial⟩, nodB_nodup rfl⟩ ⟨⟨rfl, rfl, md_all, mkR_len _ _ _, mkR_rows hw⟩, trivial⟩)
theorem markLog_pg (z0 z1 : Nat) (x0 : List (List Cell)) (x1 : List (List Cell)) (k : Int) (k0 : Int) (k1 : Int) (h0 : WR 9000000000000000000 (.i .u8 .nil) x0) (h1 : WR 9000000000000000000 (.i .u8 .nil) x1) (e0 : (mkR (mk (.i .u8 .nil)) x0 k).2 = k0) (e1 : (mkR (mk (.i .u8 .nil)) x1 k0).2 = k1) : PG Try.prog 53 [.agg [.giv true z0 x0, .giv true z1 x1], .one (.bor (i64 k))] (rI k1) [(0, (mkR (mk (.i .u8 .nil)) x0 k).1), (1, (mkR (mk (.i .u8 .nil)) x1 k0).1)] := by
  refine PG.begin Try.func53 rfl (by kernel_rfl) ?_
  refine xgive rfl (markByteS_pg z0 x0 k h0) ⟨⟨rfl, rfl, rfl, rfl⟩, rfl, trivial⟩ rfl ?_
  rw [e0]
  refine xgive rfl (markByteS_pg z1 x1 k0 h1) ⟨⟨rfl, rfl, rfl, rfl⟩, rfl, trivial⟩ rfl ?_
  rw [e1]
  exact xr rfl (xretG rfl ⟨⟨rfl, rfl, trivial⟩, nodB_nodup rfl⟩ ⟨⟨rfl, rfl, rfl, mkR_len _ _ _, mkR_rows h0⟩, ⟨rfl, rfl, rfl, mkR_len _ _ _, mkR_rows h1⟩, trivial⟩)
theorem markJournal_pg (z1 z2 z3 : Nat) (x0 : Int) (x1 : List (List Cell)) (x2 : List (List Cell)) (x3 : List (List Cell)) (k : Int) (k1 : Int) (k2 : Int) (k3 : Int) (h1 : WR 9000000000000000000 sh_Balance x1) (h2 : WR 9000000000000000000 (.i .u8 .nil) x2) (h3 : WR 9000000000000000000 (.i .u8 .nil) x3) (e1 : (mkR (mk sh_Balance) x1 k).2 = k1) (e2 : (mkR (mk (.i .u8 .nil)) x2 k1).2 = k2) (e3 : (mkR (mk (.i .u8 .nil)) x3 k2).2 = k3) : PG Try.prog 20 [.agg [.bor (.s (.int .i64 x0)), .giv true z1 x1, .giv true z2 x2, .giv true z3 x3], .one (.bor (i64 k))] (rI k3) [(1, (mkR (mk sh_Balance) x1 k).1), (2, (mkR (mk (.i .u8 .nil)) x2 k1).1), (3, (mkR (mk (.i .u8 .nil)) x3 k2).1)] := by
  refine PG.begin Try.func20 rfl (by kernel_rfl) ?_
  refine xgive rfl (markBalanceS_pg z1 x1 k h1) ⟨⟨rfl, rfl, rfl, rfl⟩, rfl, trivial⟩ rfl ?_
  rw [e1]
  refine xgive rfl (markLog_pg z2 z3 x2 x3 k1 k2 k3 h2 h3 e2 e3) ⟨⟨⟨rfl, rfl, rfl, rfl⟩, ⟨rfl, rfl, rfl, rfl⟩, trivial⟩, rfl, trivial⟩ rfl ?_
  exact xr rfl (xretG rfl ⟨⟨rfl, rfl, trivial⟩, nodB_nodup rfl⟩ ⟨⟨rfl, rfl, rfl, mkR_len _ _ _, mkR_rows h1⟩, ⟨rfl, rfl, rfl, mkR_len _ _ _, mkR_rows h2⟩, ⟨rfl, rfl, rfl, mkR_len _ _ _, mkR_rows h3⟩, trivial⟩)
theorem eqEvent_pc (x0 : Bool) (x1 : Int) (x2 : List (List Cell)) (x3 : Int) (y0 : Bool) (y1 : Int) (y2 : List (List Cell)) (y3 : Int) (h2 : WR 9000000000000000000 sh_Leg x2) (k2 : WR 9000000000000000000 sh_Leg y2) : PC Try.prog 97 [.agg [.s (.bool x0), .s (.int .i64 x1), .l x2, .s (.int .i64 x3)], .agg [.s (.bool y0), .s (.int .i64 y1), .l y2, .s (.int .i64 y3)]] (rB (dE (α := List Cell) [.s (.bool x0), .s (.int .i64 x1), .l x2, .s (.int .i64 x3)] [.s (.bool y0), .s (.int .i64 y1), .l y2, .s (.int .i64 y3)])) := by
  refine PC.begin Try.func97 rfl (by kernel_rfl) ?_
  refine xb rfl (fun h => ?_) (fun e0 => ?_)
  · exact xr rfl (xret rfl ⟨⟨rfl, dE_no (fun e => by simp only [List.cons.injEq, Cell.s.injEq, Value.int.injEq, Value.bool.injEq, Value.string.injEq] at e; simp [e] at h), trivial⟩, nodB_nodup rfl⟩)
  have e0 : x0 = y0 := by simpa using e0
  refine xcall rfl (eqContract_pc _ _ _ _ h2 k2) rfl ⟨⟨trivial, trivial, trivial⟩, ⟨trivial, trivial, trivial⟩, trivial⟩ ?_
  refine xb rfl (fun h => ?_) (fun e1 => ?_)
  · exact xr rfl (xret rfl ⟨⟨rfl, dE_no (fun e => nE_ne h (by simp only [List.cons.injEq, Cell.l.injEq] at e ⊢; simp only [e]; try trivial)), trivial⟩, nodB_nodup rfl⟩)
  have e1 := nE_eq e1
  simp only [List.cons.injEq, Cell.s.injEq, Cell.l.injEq, Value.int.injEq, Value.bool.injEq, and_true, true_and] at e1
  refine xb rfl (fun h => ?_) (fun e3 => ?_)
  · exact xr rfl (xret rfl ⟨⟨rfl, dE_no (fun e => by simp only [List.cons.injEq, Cell.s.injEq, Value.int.injEq, Value.bool.injEq, Value.string.injEq] at e; simp [e] at h), trivial⟩, nodB_nodup rfl⟩)
  have e3 : x3 = y3 := by simpa using e3
  exact xr rfl (xret rfl ⟨⟨rfl, dE_yes (by simp [e0, e1, e3]), trivial⟩, nodB_nodup rfl⟩)
theorem eqEventS_pc (p q : List (List Cell)) (hp : WR 9000000000000000000 sh_Event p) (hq : WR 9000000000000000000 sh_Event q) : PC Try.prog 49 [.one (.l p), .one (.l q)] (rB (dE p q)) := by
  refine PC.begin Try.func49 rfl (by kernel_rfl) ?_
  have hpl := hp.1
  have hql := hq.1
  refine xb rfl (fun h => ?_) (fun h => ?_)
  · exact xr rfl (xret rfl ⟨⟨rfl, dE_no (fun e => by subst e; simp at h), trivial⟩, nodB_nodup rfl⟩)
  have hl : p.length = q.length := by simpa [Int.ofNat_inj] using h
  refine xloop rfl (ι := Nat) (fun i => i ≤ p.length ∧ p.take i = q.take i) (fun i => ⟨[(5, sV (.int .i64 i)), (0, .one (.b (.l p))), (1, .one (.b (.l q)))], []⟩) (fun i => p.length - i) 0 ⟨Nat.zero_le _, rfl⟩ ?_ ?_
  · repeat' (first | exact trivial | exact rfl | exact Or.inl rfl | refine And.intro ?_ ?_)
  · intro i ⟨hi, he⟩ J hJ
    refine xb rfl (fun h => ?_) (fun h => ?_)
    · have h : i < p.length := by simpa using h
      obtain ⟨row, hg⟩ : ∃ row, p[i]? = some row := ⟨_, List.getElem?_eq_getElem h⟩
      obtain ⟨row', hg'⟩ : ∃ row, q[i]? = some row := ⟨_, List.getElem?_eq_getElem (by omega)⟩
      obtain ⟨x0, x1, x2, x3, rfl, h2⟩ := inv_Event (hp.2 row (List.mem_of_getElem? hg))
      obtain ⟨y0, y1, y2, y3, rfl, k2⟩ := inv_Event (hq.2 row' (List.mem_of_getElem? hg'))
      refine xdraw rfl [] (.take 0 [] (.take 1 [] (.take 2 [] (.take 3 [8, 9] (.take 4 [] (.take 5 [] (.take 6 [] (.take 7 [8, 9] (.alt 8 (.take 9 [] .done) .nil))))))))) (by kernel_rfl) ?_
      refine xs rfl (Int.natCast_nonneg _) (xrow rfl _ hg (xs rfl rfl ?_))
      refine xs rfl (Int.natCast_nonneg _) (xrow rfl _ hg' (xs rfl rfl ?_))
      refine xcall rfl (eqEvent_pc _ _ _ _ _ _ _ _ h2 k2) rfl ⟨⟨trivial, trivial, trivial, trivial, trivial⟩, ⟨trivial, trivial, trivial, trivial, trivial⟩, trivial⟩ ?_
      refine xb rfl (fun hb => ?_) (fun hb => ?_)
      · exact xr rfl (xret rfl ⟨⟨rfl, dE_no (fun e => by subst e; rw [hg] at hg'; cases hg'; exact nE_ne hb rfl), trivial⟩, nodB_nodup rfl⟩)
      · have hb := nE_eq hb
        refine xcont rfl (hJ _ (i + 1) ⟨by omega, take_succ_eq he hg (hg'.trans (by rw [hb]))⟩ (by omega) ?_)
        repeat' (first | exact trivial | exact rfl | exact Or.inl rfl | exact cwi (by omega) (by omega) (by omega) | refine And.intro ?_ ?_)
    · have h : ¬ i < p.length := by simpa using h
      exact xr rfl (xret rfl ⟨⟨rfl, dE_yes (by rw [show i = p.length by omega, List.take_length] at he; rw [he, hl, List.take_length]), trivial⟩, nodB_nodup rfl⟩)
theorem eqEventsResult_pc (x0 : Int) (x1 : List (List Cell)) (y0 : Int) (y1 : List (List Cell)) (h1 : WR 9000000000000000000 sh_Event x1) (k1 : WR 9000000000000000000 sh_Event y1) : PC Try.prog 18 [.agg [.s (.int .i64 x0), .l x1], .agg [.s (.int .i64 y0), .l y1]] (rB (dE (α := List Cell) [.s (.int .i64 x0), .l x1] [.s (.int .i64 y0), .l y1])) := by
  refine PC.begin Try.func18 rfl (by kernel_rfl) ?_
  refine xb rfl (fun h => ?_) (fun e0 => ?_)
  · exact xr rfl (xret rfl ⟨⟨rfl, dE_no (fun e => by simp only [List.cons.injEq, Cell.s.injEq, Value.int.injEq, Value.bool.injEq, Value.string.injEq] at e; simp [e] at h), trivial⟩, nodB_nodup rfl⟩)
  have e0 : x0 = y0 := by simpa using e0
  refine xcall rfl (eqEventS_pc _ _ h1 k1) rfl ⟨trivial, trivial, trivial⟩ ?_
  refine xb rfl (fun h => ?_) (fun e1 => ?_)
  · exact xr rfl (xret rfl ⟨⟨rfl, dE_no (fun e => nE_ne h (by simp only [List.cons.injEq, Cell.l.injEq] at e ⊢; simp only [e]; try trivial)), trivial⟩, nodB_nodup rfl⟩)
  have e1 := nE_eq e1
  exact xr rfl (xret rfl ⟨⟨rfl, dE_yes (by simp [e0, e1]), trivial⟩, nodB_nodup rfl⟩)
theorem markEventS_pg (z : Nat) (rr : List (List Cell)) (k : Int) (hw : WR 9000000000000000000 sh_Event rr) : PG Try.prog 54 [.one (.giv true z rr), .one (.bor (i64 k))] (rI (mkR (mk sh_Event) rr k).2) [(0, (mkR (mk sh_Event) rr k).1)] := by
  refine PG.begin Try.func54 rfl (by kernel_rfl) ?_
  have hlen := hw.1
  refine xloop rfl (ι := Nat) (fun i => i ≤ rr.length) (fun i => ⟨[(5, sV (.int .i64 i)), (1, sV (.int .i64 (mdk (mk sh_Event) rr k i))), (0, .one (.h 1000000000 rr.length))], [(1000000000, .arr true z 0 (md (mk sh_Event) rr k i))]⟩) (fun i => rr.length - i) 0 (Nat.zero_le _) ?_ ?_
  · exact ⟨⟨rfl, congrArg (fun n => Cell.s (.int .i64 n)) mdk_zero.symm, ⟨rfl, rfl, rfl⟩, trivial⟩, ⟨⟨md_zero.symm, .inl rfl, .inl rfl⟩, trivial⟩, rfl⟩
  · intro i hi J hJ
    refine xb rfl (fun h => ?_) (fun h => ?_)
    · have h : i < rr.length := by simpa using h
      obtain ⟨row, hg⟩ : ∃ row, rr[i]? = some row := ⟨_, List.getElem?_eq_getElem h⟩
      obtain ⟨x0, x1, x2, x3, rfl, h2⟩ := inv_Event (hw.2 row (List.mem_of_getElem? hg))
      have hl := md_len (f := (mk sh_Event)) (k := k) hi
      have hg0 := md_get (f := (mk sh_Event)) (k := k) hg
      have hlt : i < (md (mk sh_Event) rr k i).length := by omega
      refine xs rfl (by decide) (xs rfl (hl).symm (xs rfl (Int.natCast_nonneg _) (xrow rfl _ hg0 (xs rfl rfl (xs rfl (hl).symm (xrow rfl _ hg0 (xs rfl (by show 0 + 1 ≤ 4; omega) (xs rfl ⟨trivial, trivial⟩ ?_))))))))
      refine xs rfl (lset (hl)).symm (xs rfl (Int.natCast_nonneg _) (xrow rfl _ (gset (hl) h) (xs rfl rfl (xs rfl (lset (hl)).symm (xrow rfl _ (gset (hl) h) (xs rfl (by show 1 + 1 ≤ 4; omega) (xs rfl ⟨trivial, trivial⟩ ?_)))))))
      refine xs rfl (lset (lset (hl))).symm (xs rfl (Int.natCast_nonneg _) (xrow rfl _ (gset (lset (hl)) h) (xs rfl rfl (xs rfl (lset (lset (hl))).symm (xrow rfl _ (gset (lset (hl)) h) ?_)))))
      refine xgive rfl (markLegS_pg 0 _ _ h2) ⟨⟨rfl, rfl, rfl, _, (gset (lset (hl)) h), rfl⟩, rfl, trivial⟩ rfl ?_
      refine xs rfl (lsr (lset (lset (hl)))).symm (xs rfl (Int.natCast_nonneg _) (xrow rfl _ (setRow_get (gset (lset (hl)) h)) (xs rfl rfl (xs rfl (lsr (lset (lset (hl)))).symm (xrow rfl _ (setRow_get (gset (lset (hl)) h)) (xs rfl (by show 3 + 1 ≤ 4; omega) (xs rfl ⟨trivial, trivial⟩ ?_)))))))
      refine xcont rfl (hJ _ (i + 1) (by omega) (by omega) ?_)
      refine ⟨⟨cwi (by omega) (by omega) (by omega), ?_, ⟨rfl, rfl, rfl⟩, trivial⟩, ⟨⟨?_, .inl rfl, .inl rfl⟩, trivial⟩, rfl⟩
      · rw [mdk_succ hg]; rfl
      · refine Eq.trans ?_ (md_set hg)
        try simp only [Int.toNat_natCast, setRow_eq hg0, ssr hlt, List.set_set]
        rfl
    · have h : ¬ i < rr.length := by simpa using h
      have : i = rr.length := by omega
      subst this
      exact xr rfl (xretG rfl ⟨⟨rfl, congrArg (Value.int .i64) mdk_all, trivial⟩, nodB_nodup rfl⟩ ⟨⟨rfl, rfl, md_all, mkR_len _ _ _, mkR_rows hw⟩, trivial⟩)
theorem markEventsResult_pg (z1 : Nat) (x0 : Int) (x1 : List (List Cell)) (k : Int) (k1 : Int) (h1 : WR 9000000000000000000 sh_Event x1) (e1 : (mkR (mk sh_Event) x1 k).2 = k1) : PG Try.prog 21 [.agg [.bor (.s (.int .i64 x0)), .giv true z1 x1], .one (.bor (i64 k))] (rI k1) [(1, (mkR (mk sh_Event) x1 k).1)] := by
  refine PG.begin Try.func21 rfl (by kernel_rfl) ?_
  refine xgive rfl (markEventS_pg z1 x1 k h1) ⟨⟨rfl, rfl, rfl, rfl⟩, rfl, trivial⟩ rfl ?_
  rw [e1]
  exact xr rfl (xretG rfl ⟨⟨rfl, rfl, trivial⟩, nodB_nodup rfl⟩ ⟨⟨rfl, rfl, rfl, mkR_len _ _ _, mkR_rows h1⟩, trivial⟩)
theorem heldEventS_pc (rr : List (List Cell)) (k : Int) (hw : WR 9000000000000000000 sh_Event rr) : PC Try.prog 55 [.one (.l rr), .one (i64 k)] (rI (ng (hdR (hd sh_Event) rr k))) := by
  refine PC.begin Try.func55 rfl (by kernel_rfl) ?_
  have hlen := hw.1
  refine xloop rfl (ι := Nat × Int) (fun x => x.1 ≤ rr.length ∧ hdR (hd sh_Event) (rr.take x.1) k = some x.2) (fun x => ⟨[(5, sV (.int .i64 x.1)), (1, sV (.int .i64 x.2)), (0, .one (.b (.l rr)))], []⟩) (fun x => rr.length - x.1) (0, k) ⟨Nat.zero_le _, rfl⟩ ?_ ?_
  · exact ⟨⟨rfl, rfl, rfl, trivial⟩, trivial, rfl⟩
  · intro ⟨i, v⟩ ⟨hi, hv⟩ J hJ
    dsimp only at hi hv ⊢
    refine xb rfl (fun h => ?_) (fun h => ?_)
    · have h : i < rr.length := by simpa using h
      obtain ⟨row, hg⟩ : ∃ row, rr[i]? = some row := ⟨_, List.getElem?_eq_getElem h⟩
      obtain ⟨x0, x1, x2, x3, rfl, h2⟩ := inv_Event (hw.2 row (List.mem_of_getElem? hg))
      have hst := hdR_step hg hv
      refine xs rfl (Int.natCast_nonneg _) (xrow rfl _ hg (xs rfl rfl (xs rfl (by decide) ?_)))
      refine xb rfl (fun hb => ?_) (fun hb => ?_)
      · have hb : ¬ x0 = ((v).tmod 3 == 0) := by simpa [mkv, nx] using hb
        exact xr rfl (xret rfl ⟨⟨rfl, congrArg (Value.int .i64) (ng_none (hdR_none (i := i + 1) (hst.trans (by simp only [hd, if_neg hb])))).symm, trivial⟩, nodB_nodup rfl⟩)
      have hb0 : x0 = ((v).tmod 3 == 0) := by simpa [mkv, nx] using hb
      clear hb
      refine xs rfl (Int.natCast_nonneg _) (xrow rfl _ hg (xs rfl rfl ?_))
      refine xb rfl (fun hb => ?_) (fun hb => ?_)
      · have hb : ¬ x1 = mkv .i64 (nx (v)) := by simpa [mkv, nx] using hb
        exact xr rfl (xret rfl ⟨⟨rfl, congrArg (Value.int .i64) (ng_none (hdR_none (i := i + 1) (hst.trans (by simp only [hd, if_neg hb, if_pos hb0])))).symm, trivial⟩, nodB_nodup rfl⟩)
      have hb1 : x1 = mkv .i64 (nx (v)) := by simpa [mkv, nx] using hb
      clear hb
      refine xs rfl (Int.natCast_nonneg _) (xrow rfl _ hg (xs rfl rfl ?_))
      refine xcall rfl (heldLegS_pc x2 (nx (nx (v))) h2) rfl ⟨trivial, trivial, trivial⟩ ?_
      generalize hk2 : ng (hdR (hd sh_Leg) x2 (nx (nx (v)))) = k2
      refine xb rfl (fun hb => ?_) (fun hb => ?_)
      · have hb : k2 < 0 := by simpa using hb
        exact xr rfl (xret rfl ⟨⟨rfl, congrArg (Value.int .i64) (ng_none (hdR_none (i := i + 1) (hst.trans (by simp only [hd, if_pos hb0, if_pos hb1, hk2, ps_no hb]; rfl)))).symm, trivial⟩, nodB_nodup rfl⟩)
      have hb2 : ¬ k2 < 0 := by simpa using hb
      clear hb
      refine xs rfl (Int.natCast_nonneg _) (xrow rfl _ hg (xs rfl rfl ?_))
      refine xb rfl (fun hb => ?_) (fun hb => ?_)
      · have hb : ¬ x3 = mkv .i64 (k2) := by simpa [mkv, nx] using hb
        exact xr rfl (xret rfl ⟨⟨rfl, congrArg (Value.int .i64) (ng_none (hdR_none (i := i + 1) (hst.trans (by simp only [hd, if_neg hb, if_pos hb0, if_pos hb1, hk2, ps_ok hb2, Option.bind_some])))).symm, trivial⟩, nodB_nodup rfl⟩)
      have hb3 : x3 = mkv .i64 (k2) := by simpa [mkv, nx] using hb
      clear hb
      refine xcont rfl (hJ _ (i + 1, nx (k2)) ⟨by dsimp only; omega, hst.trans (by simp only [hd, if_pos hb0, if_pos hb1, hk2, ps_ok hb2, Option.bind_some, if_pos hb3])⟩ (by dsimp only; omega) ?_)
      exact ⟨⟨cwi (by omega) (by omega) (by omega), rfl, rfl, trivial⟩, trivial, rfl⟩
    · have h : ¬ i < rr.length := by simpa using h
      have : i = rr.length := by omega
      subst this
      rw [List.take_length] at hv
      exact xr rfl (xret rfl ⟨⟨rfl, congrArg (Value.int .i64) (by rw [hv]; rfl), trivial⟩, nodB_nodup rfl⟩)
theorem heldEventsResult_pc (x0 : Int) (x1 : List (List Cell)) (k : Int) (h1 : WR 9000000000000000000 sh_Event x1) (hk : 0 ≤ k) : PC Try.prog 22 [.agg [.s (.int .i64 x0), .l x1], .one (i64 k)] (rI (ng (ht sh_EventsResult [.s (.int .i64 x0), .l x1] k))) := by
  refine PC.begin Try.func22 rfl (by kernel_rfl) ?_
  have e : ht sh_EventsResult [.s (.int .i64 x0), .l x1] k = ((ps (ng (hdR (hd sh_Event) x1 k))).bind fun v1 => some v1) := by simp only [ht, Option.bind_assoc, Option.bind_some]
  rw [e]
  refine xcall rfl (heldEventS_pc x1 k h1) rfl ⟨trivial, trivial, trivial⟩ ?_
  generalize hk1 : ng (hdR (hd sh_Event) x1 (k)) = k1
  refine xb rfl (fun hb => ?_) (fun hb => ?_)
  · have hb : k1 < 0 := by simpa using hb
    exact xr rfl (xret rfl ⟨⟨rfl, congrArg (Value.int .i64) (ng_none (by simp only [hk1, ps_no hb]; rfl)).symm, trivial⟩, nodB_nodup rfl⟩)
  have hb1 : ¬ k1 < 0 := by simpa using hb
  have hp1 : 0 ≤ k1 := by omega
  clear hb
  exact xr rfl (xret rfl ⟨⟨rfl, congrArg (Value.int .i64) (by simp only [hk1, ps_ok hb1, Option.bind_some]; rfl), trivial⟩, nodB_nodup rfl⟩)
end Go.Proofs.Ytlkjdcpcbnfbbaa
end
section
namespace Go.Proofs.Ytlkjdcpcbnfbbaa
open Go Go.Sx
set_option maxRecDepth 20000
set_option maxHeartbeats 4000000
theorem cntR_of {f : List Cell → Nat} {row : List Cell} : ∀ {rows : List (List Cell)}, row ∈ rows → f row ≤ cntR f rows
  | r :: rows, h => by
    rw [cntR]
    rcases List.mem_cons.1 h with rfl | h
    · omega
    · have := cntR_of (f := f) h; omega
theorem wt_tot {N M : Nat} {e : Sh} {cs : List Cell} (hw : WT N e cs) : tot e cs ≤ M → WT M e cs := by
  induction hw with
  | nil => exact fun _ => .nil
  | i n _ ih => exact fun h => .i n (ih h)
  | b x _ ih => exact fun h => .b x (ih h)
  | @l e' r' cs' rows h1 h2 h3 ih1 ih2 =>
    intro h
    simp only [tot] at h
    exact .l rows (by omega) (fun row hr => ih1 row hr (by have := cntR_of (f := tot e') hr; omega)) (ih2 (by omega))
theorem bts_of {N : Nat} : ∀ {rows : List (List Cell)}, (∀ row ∈ rows, WB N (.i .u8 .nil) row) → ∃ bs : List Int, rows = bts bs ∧ BOk bs
  | [], _ => ⟨[], rfl, fun _ h => by cases h⟩
  | row :: rows, h => by
    obtain ⟨n, hn, ok⟩ := (h row List.mem_cons_self).bytes
    obtain ⟨bs, hb, hk⟩ := bts_of (rows := rows) fun r hr => h r (List.mem_cons_of_mem _ hr)
    exact ⟨n :: bs, by rw [hn, hb]; rfl, fun b hb => by
      rcases List.mem_cons.1 hb with rfl | hb
      · exact ok
      · exact hk b hb⟩
abbrev jcs (x0 : Int) (x1 : List (List Cell)) (sy lo : List Int) : List Cell := [i64 x0, .l x1, .l (bts sy), .l (bts lo)]
theorem jou_in (x0 : Int) (x1 : List (List Cell)) (sy lo : List Int) (hw : WT 9223372036854775807 sh_Journal (jcs x0 x1 sy lo)) :
    PC Try.prog 14 [.agg (jcs x0 x1 sy lo), .one (i64 1048576)] (rI (-1)) ∨ (sy.length ≤ 1048576 ∧ lo.length ≤ 1048576 ∧ (∃ n : Nat, PC Try.prog 14 [.agg (jcs x0 x1 sy lo), .one (i64 1048576)] (rI n)) ∧
      PC Try.prog 16 [.agg (jcs x0 x1 sy lo)] (.one (.own true [.s (.int .i64 x0), .l 3 x1, .l 1 (bts sy), .l 1 (bts lo)])) ∧ PC Try.prog 19 [.agg (jcs x0 x1 sy lo), .agg (jcs x0 x1 sy lo)] (rB true) ∧
      ∃ (k : Int) (r1 r2 r3 : List (List Cell)), 0 ≤ k ∧ PG Try.prog 20 [.agg [.bor (i64 x0), .giv true 3 x1, .giv true 1 (bts sy), .giv true 1 (bts lo)], .one (.bor (i64 1))] (rI k) [(1, r1), (2, r2), (3, r3)]) := by
  obtain ⟨y0, y1, y2, y3, e, w1, w2, w3⟩ := inv_Journal hw
  cases e
  have hsz := szJournal_pc x0 x1 (bts sy) (bts lo) 1048576 w1 w2 w3 (by omega) (by omega)
  by_cases ht : tot sh_Journal (jcs x0 x1 sy lo) ≤ 1048576
  · right
    have hs : szn 1048576 (tot sh_Journal (jcs x0 x1 sy lo)) = ((1048576 - tot sh_Journal (jcs x0 x1 sy lo) : Nat) : Int) := by
      unfold szn; rw [if_neg (by omega)]; omega
    rw [hs] at hsz
    have hwt := wt_tot hw ht
    obtain ⟨z0, z1, z2, z3, e, v1, v2, v3⟩ := inv_Journal hwt
    cases e
    have up : ∀ {e : Sh} {r : List (List Cell)}, WR 1048576 e r → WR 9000000000000000000 e r := fun h => h.mono (by omega)
    have heq := eqJournal_pc x0 x1 (bts sy) (bts lo) x0 x1 (bts sy) (bts lo) (up v1) (up v2) (up v3) (up v1) (up v2) (up v3)
    rw [show dE (α := List Cell) [.s (.int .i64 x0), .l x1, .l (bts sy), .l (bts lo)] [.s (.int .i64 x0), .l x1, .l (bts sy), .l (bts lo)] = true from (Value.bool.inj (dE_yes rfl)).symm] at heq
    have hc := cnt_le hwt
    rw [show wid sh_Journal = 1 from rfl, show mwid sh_Journal = 5 from rfl] at hc
    have hcs : cnt sh_Journal (jcs x0 x1 sy lo) = 1 + (cntR (cnt sh_Balance) x1 + (cntR (cnt (.i .u8 .nil)) (bts sy) + cntR (cnt (.i .u8 .nil)) (bts lo))) := by simp only [cnt]; omega
    have hM := fun {e : Sh} {rows : List (List Cell)} (h : WR 1048576 e rows) => mkR_held (f := mk e) (g := hd e) (c := cnt e) (rows := rows) (fun row hr k h1 h2 => mk_held (h.2 row hr) k h1 h2)
    have m1 := (hM v1 1 (by omega) (by omega)).2
    have m2 := (hM v2 (1 + cntR (cnt sh_Balance) x1) (by omega) (by omega)).2
    have m3 := (hM v3 (1 + cntR (cnt sh_Balance) x1 + cntR (cnt (.i .u8 .nil)) (bts sy)) (by omega) (by omega)).2
    have l2 := v2.1
    have l3 := v3.1
    rw [List.length_map] at l2 l3
    exact ⟨l2, l3, ⟨_, hsz⟩, toJournal_pc x0 x1 _ _ v1 v2 v3, heq, _, _, _, _, by omega, markJournal_pg 3 1 1 x0 x1 (bts sy) (bts lo) 1 _ _ _ (up v1) (up v2) (up v3) m1 m2 m3⟩
  · left
    have hs : szn 1048576 (tot sh_Journal (jcs x0 x1 sy lo)) = -1 := by
      unfold szn; rw [if_pos (by omega)]
    rw [hs] at hsz
    exact hsz
theorem legs0 (ls : List Leg) : cntR (tot sh_Leg) (ls.map Leg.cs) = 0 := by
  induction ls with
  | nil => rfl
  | cons l ls ih => rw [List.map_cons, cntR, ih]; rfl
theorem evs_tot (ls : List Evt) (h : ∀ e ∈ ls, e.con.legs.length ≤ 8) : cntR (tot sh_Event) (ls.map Evt.cs) ≤ 8 * ls.length := by
  induction ls with
  | nil => simp [cntR]
  | cons e ls ih =>
    have h1 := h e List.mem_cons_self
    have h2 := ih fun x hx => h x (List.mem_cons_of_mem _ hx)
    have h3 : tot sh_Event e.cs = e.con.legs.length := by
      simp only [Evt.cs, tot, legs0, List.length_map]; omega
    rw [List.map_cons, cntR, h3, List.length_cons]; omega
theorem evs_wr (ls : List Evt) (hl : ls.length ≤ 60) (h : ∀ e ∈ ls, e.con.legs.length ≤ 8) : WR 9000000000000000000 sh_Event (ls.map Evt.cs) := by
  refine ⟨by rw [List.length_map]; omega, fun row hr => ?_⟩
  obtain ⟨e, he, rfl⟩ := List.mem_map.1 hr
  have := h e he
  refine .b _ (.i _ (.l _ (by rw [List.length_map]; omega) (fun row hr => ?_) (.i _ .nil)))
  obtain ⟨l, _, rfl⟩ := List.mem_map.1 hr
  exact .i _ (.i _ (.i _ (.i _ .nil)))
theorem evs_ok (sy lo : List Int) : (eventsR sy lo).2.length ≤ 60 ∧ ∀ e ∈ (eventsR sy lo).2, e.con.legs.length ≤ 8 := by
  have hn : ([] : List Evt).length ≤ 60 ∧ ∀ e ∈ ([] : List Evt), e.con.legs.length ≤ 8 := ⟨Nat.zero_le _, fun _ h => by cases h⟩
  unfold eventsR
  repeat' split
  · exact hn
  · exact hn
  · exact hn
  · exact hn
  · refine ⟨by dsimp only; rw [List.length_map]; omega, fun e he => ?_⟩
    obtain ⟨x, _, rfl⟩ := List.mem_map.1 he
    exact unE_le x
theorem lawEo_pc (c0 : List Cell) (w0 : WB 9223372036854775807 sh_Journal c0) : PC Try.prog 4 [.agg c0] (rB true) := by
  have hw := w0.wt
  obtain ⟨x0, _, rfl, _, w1⟩ := w0.inv_i
  obtain ⟨x1, _, rfl, _, w2⟩ := w1.inv_l
  obtain ⟨x2, _, rfl, b2, w3⟩ := w2.inv_l
  obtain ⟨x3, _, rfl, b3, w4⟩ := w3.inv_l
  cases w4
  obtain ⟨sy, rfl, hs⟩ := bts_of b2
  obtain ⟨lo, rfl, ho⟩ := bts_of b3
  rcases jou_in x0 x1 sy lo hw with hgz | ⟨l2, l3, ⟨m, hgz⟩, hgto, hgeq, k, r1, r2, r3, hk, hm1⟩
  · refine PC.begin Try.func4 rfl (by kernel_rfl) ?_
    refine xcall rfl (hgz) rfl ⟨⟨trivial, trivial, trivial, trivial, trivial⟩, trivial, trivial⟩ ?_
    refine xj (k := 1) rfl ?_
    refine xr rfl (xret rfl ⟨⟨rfl, rfl, trivial⟩, nodB_nodup rfl⟩)
  · have hI := iEvs_pc x0 x1 sy lo hs ho l2 l3
    have hS := sEv_pc x0 x1 sy lo hs ho l2 l3
    obtain ⟨e1, e2⟩ := evs_ok sy lo
    unfold rEv at hI hS
    generalize (eventsR sy lo).1 = code at hI hS
    generalize (eventsR sy lo).2 = ls at hI hS e1 e2
    have hwr := evs_wr ls e1 e2
    have hc := mark_cnt hwr
    have ht := evs_tot ls e2
    have hlen : (ls.map Evt.cs).length = ls.length := List.length_map ..
    obtain ⟨q0, hq⟩ := mark_one hwr (by rw [show wid sh_Event = 3 from rfl, show mwid sh_Event = 4 from rfl] at hc; omega)
    have hr := eqEventsResult_pc code (ls.map Evt.cs) code (ls.map Evt.cs) hwr hwr
    rw [show dE (α := List Cell) [.s (.int .i64 code), .l (ls.map Evt.cs)] [.s (.int .i64 code), .l (ls.map Evt.cs)] = true from (Value.bool.inj (dE_yes rfl)).symm] at hr
    have hmr := markEventsResult_pg 4 code (ls.map Evt.cs) 1 _ hwr rfl
    have hhd := heldEventsResult_pc code (mkR (mk sh_Event) (ls.map Evt.cs) 1).1 1 (mkR_WR hwr 1) (by omega)
    rw [show sh_EventsResult = .i .i64 (.l sh_Event .nil) from rfl, hq .i64 (.s (.int .i64 code))] at hhd
    have hrl := mkR_len (mk sh_Event) (ls.map Evt.cs) 1
    generalize (mkR (mk sh_Event) (ls.map Evt.cs) 1).2 = q at *
    generalize (mkR (mk sh_Event) (ls.map Evt.cs) 1).1 = rr at *
    refine PC.begin Try.func4 rfl (by kernel_rfl) ?_
    refine xcall rfl (hgz) rfl ⟨⟨trivial, trivial, trivial, trivial, trivial⟩, trivial, trivial⟩ ?_
    refine xj (k := 1) rfl ?_
    refine xcall rfl (hgto) rfl ⟨⟨trivial, trivial, trivial, trivial, trivial⟩, trivial⟩ ?_
    refine xcall rfl (hS) rfl ⟨⟨trivial, rfl, rfl, rfl, trivial⟩, trivial⟩ ?_
    refine xcall rfl (hgto) rfl ⟨⟨trivial, trivial, trivial, trivial, trivial⟩, trivial⟩ ?_
    refine xcall rfl (hI) rfl ⟨⟨trivial, rfl, rfl, rfl, trivial⟩, trivial⟩ ?_
    refine xcall rfl (hr) rfl ⟨⟨trivial, rfl, trivial⟩, ⟨trivial, rfl, trivial⟩, trivial⟩ ?_
    refine xj (k := 1) rfl ?_
    refine xdraw rfl [] (.take 0 [3, 4] (.take 1 [2, 3, 4] (.alt 2 (.alt 3 (.take 4 [] .done) .nil) .nil))) (by kernel_rfl) ?_
    refine xcall rfl (hgto) rfl ⟨⟨trivial, trivial, trivial, trivial, trivial⟩, trivial⟩ ?_
    refine xcall rfl (hgeq) rfl ⟨⟨trivial, rfl, rfl, rfl, trivial⟩, ⟨trivial, rfl, rfl, rfl, trivial⟩, trivial⟩ ?_
    refine xj (k := 1) rfl ?_
    refine xgive rfl (hm1) ⟨⟨rfl, ⟨rfl, rfl, rfl, rfl⟩, ⟨rfl, rfl, rfl, rfl⟩, ⟨rfl, rfl, rfl, rfl⟩, trivial⟩, rfl, trivial⟩ rfl ?_
    refine xb rfl (fun b0 => ?_) (fun b0 => ?_)
    exact absurd b0 (by simp; omega)
    refine xj (k := 2) rfl ?_
    refine xcall rfl (hr) rfl ⟨⟨trivial, rfl, trivial⟩, ⟨trivial, rfl, trivial⟩, trivial⟩ ?_
    refine xj (k := 3) rfl ?_
    refine xgive rfl (hmr) ⟨⟨rfl, ⟨rfl, rfl, rfl, rfl⟩, trivial⟩, rfl, trivial⟩ rfl ?_
    refine xcall rfl hhd rfl ⟨⟨trivial, hrl.symm, trivial⟩, trivial, trivial⟩ ?_
    refine xb rfl (fun b0 => ?_) (fun b0 => ?_)
    exact absurd b0 (by simp; omega)
    refine xb rfl (fun b1 => ?_) (fun b1 => ?_)
    exact absurd b1 (by simp [*])
    refine xcall rfl (hgto) rfl ⟨⟨trivial, trivial, trivial, trivial, trivial⟩, trivial⟩ ?_
    refine xcall rfl (hI) rfl ⟨⟨trivial, rfl, rfl, rfl, trivial⟩, trivial⟩ ?_
    refine xcall rfl (hr) rfl ⟨⟨trivial, rfl, trivial⟩, ⟨trivial, rfl, trivial⟩, trivial⟩ ?_
    refine xj (k := 1) rfl ?_
    refine xcall rfl hhd rfl ⟨⟨trivial, hrl.symm, trivial⟩, trivial, trivial⟩ ?_
    refine xb rfl (fun b0 => ?_) (fun b0 => ?_)
    exact absurd b0 (by simp; omega)
    refine xb rfl (fun b1 => ?_) (fun b1 => ?_)
    exact absurd b1 (by simp [*])
    refine xr rfl (xret rfl ⟨⟨rfl, rfl, trivial⟩, nodB_nodup rfl⟩)
end Go.Proofs.Ytlkjdcpcbnfbbaa
end
section
namespace Go.Proofs.Ytlkjdcpcbnfbbaa.fnExactEventsOf
open Go.ChangeShapes Go.WideShapes Go.ChangeAt Go.RowKit
set_option maxRecDepth 100000 in
set_option maxHeartbeats 40000000 in
theorem closed : joinedFacts Try.pinned.checked.prog 4 Try.f4 Rows.fnExactEventsOfSpec Rows.fnExactEventsOfRow = true := by
  unfold joinedFacts
  simp only [Bool.and_eq_true]
  repeat' refine And.intro ?_ ?_
  all_goals as_aux_lemma => kernel_rfl
end Go.Proofs.Ytlkjdcpcbnfbbaa.fnExactEventsOf
end
section
namespace Go.Proofs.Ytlkjdcpcbnfbbaa.fnExactEventsOf
open Go.ChangeShapes Go.WideShapes Go.ChangeAt Go.RowKit Go.Sx
open Go.ChangeMaps (open_string shut_string)
theorem own : ownKnob Try.prog.godebug = none := by kernel_rfl
theorem laidOut : laidOutB Try.prog = true := by kernel_rfl
theorem q2 : OB Try.prog 2 (.i .i64 .nil) := ob_int Try.underlying2 (by kernel_rfl)
theorem q129 : OB Try.prog 129 sh_Balance := ob_struct Try.underlying129 (by kernel_rfl) (.cons (by kernel_rfl) (.cons (by kernel_rfl) (.cons (by kernel_rfl) (.nil _)))) (obf_cons q2 (obf_cons q2 (obf_one q2) rfl rfl) rfl rfl)
theorem q41 : OB Try.prog 41 (.l sh_Balance .nil) := ob_slice Try.underlying41 (by kernel_rfl) q129
theorem q5 : OB Try.prog 5 (.i .u8 .nil) := ob_int Try.underlying5 (by kernel_rfl)
theorem q42 : OB Try.prog 42 (.l (.i .u8 .nil) .nil) := ob_slice Try.underlying42 (by kernel_rfl) q5
theorem q44 : OB Try.prog 44 sh_Log := ob_struct Try.underlying44 (by kernel_rfl) (.cons (by kernel_rfl) (.cons (by kernel_rfl) (.nil _))) (obf_cons q42 (obf_one q42) rfl rfl)
theorem q46 : OB Try.prog 46 sh_Journal := ob_struct Try.underlying46 (by kernel_rfl) (.cons (by kernel_rfl) (.cons (by kernel_rfl) (.cons (by kernel_rfl) (.nil _)))) (obf_cons q2 (obf_cons q41 (obf_one q44) rfl rfl) rfl rfl)
set_option maxRecDepth 100000 in
theorem lifted (os : Os) (started : os.Started) (H : Type) (enc : TypeId × Value → H) :
    ReturnsInHanded {} Try.checked os 4 .any (Rows.fnExactEventsOfSpec.pre6 enc Try.prog Try.f4 Rows.fnExactEventsOfRow.domain false) (Rows.fnExactEventsOfSpec.post enc Try.prog Try.f4 false true false false) := by
  refine returnsInHanded_of_change_sized (C := Try.checked) own started (by kernel_rfl) Try.func4
    (ChangeSpec.witness6 (enc := enc) (C := Try.checked) false ⟨#[], #[.agg #[.int .i64 0, .slice none 0 0, .slice none 0 0, .slice none 0 0]], []⟩ 8 (by kernel_rfl) (by kernel_rfl) (by kernel_rfl) (by kernel_rfl)) ?_
  intro W base args ds gs before hval0 hW _ _ _
  have hval : ∀ (j : Nat) t v, Try.f4.params[j]? = some t → args[j]? = some v → Value.okWide Try.prog W .any base t v := hval0
  have hW' := hW
  obtain ⟨p, q, hA0, hV, rfl, hfz, hnd⟩ := hW
  have hA : DataW.TrodAll enc Try.prog W 0 (fun _ => true) true Try.f4.params.toList args.toList ds p := hA0
  rw [Try.params4] at hA hval
  obtain ⟨v0, vs0, d0, ds0, p0, q0, hargs, rfl, rfl, h0, r0⟩ := trodAll_cons hA
  obtain ⟨rfl, rfl, rfl⟩ := trodAll_nil r0
  obtain rfl : args = #[v0] := by cases args; simp_all
  obtain ⟨rfl, rfl⟩ := trodVars_none hV
  have k0 := h0
  have lt0 : ∀ x ∈ p0, x.block < W.heap.size := by obtain ⟨m, hm⟩ := k0; exact DataW.trod_lt m _ _ _ hm
  obtain ⟨c0, R0, w0⟩ := arg_sb Try.underlying46 q46 (hval 0 46 v0 rfl rfl) h0
  clear hA0 hval0
  refine (PC.law (lawEo_pc c0 w0) (ArgsR.one R0)).mono fun e W' ⟨he, bel⟩ => ?_
  subst he
  exact ⟨_, rfl, _, _, _, [], _, [], hW', trodAll_mk1 (shut_bool Try.underlying4 _), (trodAll_cons_mk (Below.trod laidOut (by kernel_rfl) (of_decide_eq_true (by kernel_rfl)) k0 bel lt0) trodAll_mk0), rfl, bel.frame _, fun h => by cases h⟩
theorem over : Rows.fnExactEventsOfRow.holds Try.pinned (OpenSpec.ofChange Rows.fnExactEventsOfSpec) :=
  OpenClaim.holds_of_wide 4 Try.f4 rfl rfl rfl rfl rfl rfl rfl ⟨rfl, rfl, rfl, rfl, rfl⟩ rfl rfl rfl rfl rfl (by as_aux_lemma => kernel_rfl) Try.func4 closed
    (by as_aux_lemma => exact of_decide_eq_true (by kernel_rfl)) (by as_aux_lemma => unfold Func.isWrapper; first | (rw [if_pos (by decide +kernel)]; kernel_rfl) | (rw [if_neg (by decide +kernel)]; exact ⟨rfl, rfl⟩))
    (fun os started H enc _ => lifted os started H enc)
theorem proved : Rows.FnExactEventsOfSaid := over
end Go.Proofs.Ytlkjdcpcbnfbbaa.fnExactEventsOf
namespace Go.Proofs.Ytlkjdcpcbnfbbaa
theorem fnExactEventsOf_holds : Rows.FnExactEventsOfSaid := fnExactEventsOf.proved
end Go.Proofs.Ytlkjdcpcbnfbbaa
end
