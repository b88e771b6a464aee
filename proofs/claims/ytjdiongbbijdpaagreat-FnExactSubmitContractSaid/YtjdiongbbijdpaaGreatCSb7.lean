/- WHAT IS PROVED: parts of the proof of fnExactSubmitContract_holds: a frame for walks, what each Go function that it reaches answers, and plain lemmas; no condition beyond those that each theorem names. -/
import Derived.Test.YtjdiongbbijdpaaGreatCSb6
import Derived.WalkKit
import Derived.OrdersHeld
import Derived.DeepKeys
import Derived.Maps.RangeWalk
import Derived.Maps.OwnOps
import Derived.WideKeyEntry
import Derived.Orders
import Derived.Deep.Slices
import Derived.ChangeArms
import Derived.WideShapes
import Derived.Sort.AssemblyPlain
import Derived.Lib.SlicesCompact
import Derived.Test.YtjdiongbbijdpaaGreatProg
import Derived.Shelf.SortG.Plain
import Derived.Shelf.SortG.SortNone
import Derived.Shelf.SlicesG.CompactI
import Derived.Lib.OwnBridge
import Derived.RangeFuncGives
import Derived.RangeFuncBox
import Derived.RangeFuncLeaves
import Derived.Shelf.Abstract
import Derived.Maps.AppendAt
import Derived.OwnWalkIn
import Derived.TacticsInMore
import Derived.LoopNIn
import Derived.LoopIn
import Derived.Shelf.SlicesG.Delete
import Derived.Shelf.SlicesQ.Reverse
import Derived.Shelf.SlicesE.Kit
import Derived.Shelf.SlSortCmp.NoneTotal
import Derived.Shelf.SlSortCmp.WholeK
set_option linter.unusedVariables false
set_option linter.unusedSimpArgs false
section
namespace Go.Proofs.YtjdiongbbijdpaaGreat
open Go Go.Sx
set_option maxRecDepth 20000
theorem y8q (rr : List (List Cell)) (b : Int) (hw : WR 9223372036854775807 qs rr) (p0 : 0 ≤ b) (p1 : b ≤ 1048576) : PC Tryz.prog 25 [.one (.l rr), .one (.s (.int .i64 b))] (rI (szn b (yn qs rr))) := by
 refine PC.begin Tryz.func25 Y (by kernel_rfl) ?_; have hlen := hw.1; have w1 : IntKind.i64.wrap (b - rr.length) = b - rr.length := wrap_i64 (by omega) (by omega); rw [z0u (fun row hr => by obtain ⟨x0, x1, x2, x3, rfl⟩ := z1z hr; rfl) hw]; refine xb Y ?_ ?_ <;> intro h
 · simp only [w1, decide_eq_true_eq] at h
   exact xv Y Y Y (by show Value.int _ _ = Value.int _ _; rw [szn, if_pos h])
 · simp only [w1, decide_eq_false_iff_not] at h
   exact xv Y Y Y (by show Value.int .i64 (IntKind.i64.wrap (b - rr.length)) = Value.int _ _; rw [szn, if_neg h, w1])
theorem q2e (x0 : Int) (x1 : List (List Cell)) (b : Int) (h1 : WR 9223372036854775807 qs x1) (hb0 : 0 ≤ b) (hb1 : b ≤ 1048576) : PC Tryz.prog 10 [.agg [.s (.int .i64 x0), .l x1], .one (.s (.int .i64 b))] (rI (szn b (tot q7 [.s (.int .i64 x0), .l x1]))) := by
 refine PC.begin Tryz.func10 Y (by kernel_rfl) ?_; have ht : tot q7 [.s (.int .i64 x0), .l x1] = yn qs x1 := by simp only [tot, yn] <;> omega
 refine z7 Y (y8q x1 b h1 hb0 hb1) Y tv3 ?_; refine xb Y (fun h => ?_) (fun e0 => ?_)
 · have h : szn b (yn qs x1) < 0 := by simpa using h
   exact xv Y Y Y (by show Value.int _ _ = Value.int _ _; congr 1; rw [ht]; unfold szn at *; split at h <;> rw [if_pos] <;> omega)
 have e0 : 0 ≤ szn b (yn qs x1) := by simpa using e0
 exact xv Y Y Y (by show Value.int _ _ = Value.int _ _; rw [ht])
theorem z1w (rr : List (List Cell)) (b : Int) (hw : WR 9223372036854775807 q7 rr) (p0 : 0 ≤ b) (p1 : b ≤ 1048576) : PC Tryz.prog 43 [.one (.l rr), .one (.s (.int .i64 b))] (rI (szn b (yn q7 rr))) := by
 refine PC.begin Tryz.func43 Y (by kernel_rfl) ?_; have hlen := hw.1; have w1 : IntKind.i64.wrap (b - rr.length) = b - rr.length := wrap_i64 (by omega) (by omega); refine xb Y ?_ ?_ <;> intro h
 · simp only [w1, decide_eq_true_eq] at h
   exact xv Y Y Y (by show Value.int _ _ = Value.int _ _; unfold szn yn; rw [if_pos (by omega)])
 simp only [w1, decide_eq_false_iff_not] at h; have hs : szn b rr.length = b - rr.length := by unfold szn; rw [if_neg h]
 refine qc Y (ι := Nat) (fun i => i ≤ rr.length ∧ 0 ≤ szn b (rr.length + qz (tot q7) (rr.take i))) (fun i => ⟨[(5, sV (.int .i64 i)), (1, sV (.int .i64 (szn b (rr.length + qz (tot q7) (rr.take i))))), (0, .one (.b (.l rr)))], []⟩) (fun i => rr.length - i) 0 ⟨Nat.zero_le _, by simp only [List.take_zero, qz, Nat.add_zero, hs]; omega⟩ ?_ ?_
 · refine ⟨⟨Y, ?_, Y, trivial⟩, trivial, Y⟩
   show Cell.s (.int .i64 (IntKind.i64.wrap (b - rr.length))) = Cell.s (.int .i64 (szn b (rr.length + 0))); rw [w1, Nat.add_zero, hs]
 · intro i ⟨hi, hb⟩ J hJ
   refine xb Y ?_ ?_ <;> intro h
   · have h : i < rr.length := by simpa using h
     obtain ⟨row, hg⟩ := gx h; have hc := z11 (f := tot q7) hg; have hc2 := q0e (tot q7) rr (i + 1); obtain ⟨x0, x1, rfl, h1⟩ := yu (hw.2 row (List.mem_of_getElem? hg)); refine xs Y (nn_ _) (y9 Y _ hg (xs Y Y ?_)); refine z7 Y (q2e _ _ _ h1 hb (y0m p1 p0)) Y ⟨tv3, trivial, trivial⟩ ?_; refine xb Y ?_ ?_ <;> intro hn
     · have hn : szn (szn b (rr.length + qz (tot q7) (rr.take i))) (tot q7 [.s (.int .i64 x0), .l x1]) < 0 := by simpa using hn
       rw [yj hb] at hn; exact xv Y Y Y (by show Value.int _ _ = Value.int _ _; congr 1; unfold szn yn at *; split at hn <;> rw [if_pos] <;> omega)
     · have hn : ¬ szn (szn b (rr.length + qz (tot q7) (rr.take i))) (tot q7 [.s (.int .i64 x0), .l x1]) < 0 := by simpa using hn
       have he := yj (n := tot q7 [.s (.int .i64 x0), .l x1]) hb; rw [he] at hn; rw [Nat.add_assoc, ← hc] at he hn; refine q9 Y (hJ _ (i + 1) ⟨by omega, by omega⟩ (by omega) ?_); refine ⟨⟨cwi (by omega) (by omega) (by omega), ?_, Y, trivial⟩, trivial, Y⟩; exact congrArg (fun n => Cell.s (.int .i64 n)) he
   · have h : ¬ i < rr.length := by simpa using h
     have : i = rr.length := by omega
     subst this; exact xv Y Y Y (by show Value.int _ _ = Value.int _ _; rw [List.take_length]; rfl)
theorem q4s (rr : List (List Cell)) (b : Int) (hw : WR 9223372036854775807 qd rr) (p0 : 0 ≤ b) (p1 : b ≤ 1048576) : PC Tryz.prog 201 [.one (.l rr), .one (.s (.int .i64 b))] (rI (szn b (yn qd rr))) := by
 refine PC.begin Tryz.func201 Y (by kernel_rfl) ?_; have hlen := hw.1; have w1 : IntKind.i64.wrap (b - rr.length) = b - rr.length := wrap_i64 (by omega) (by omega); rw [z0u (fun row hr => by obtain ⟨x0, x1, x2, rfl⟩ := y09 hr; rfl) hw]; refine xb Y ?_ ?_ <;> intro h
 · simp only [w1, decide_eq_true_eq] at h
   exact xv Y Y Y (by show Value.int _ _ = Value.int _ _; rw [szn, if_pos h])
 · simp only [w1, decide_eq_false_iff_not] at h
   exact xv Y Y Y (by show Value.int .i64 (IntKind.i64.wrap (b - rr.length)) = Value.int _ _; rw [szn, if_neg h, w1])
theorem z47 (rr : List (List Cell)) (b : Int) (hw : WR 9223372036854775807 zh rr) (p0 : 0 ≤ b) (p1 : b ≤ 1048576) : PC Tryz.prog 202 [.one (.l rr), .one (.s (.int .i64 b))] (rI (szn b (yn zh rr))) := by
 refine PC.begin Tryz.func202 Y (by kernel_rfl) ?_; have hlen := hw.1; have w1 : IntKind.i64.wrap (b - rr.length) = b - rr.length := wrap_i64 (by omega) (by omega); rw [z0u (fun row hr => by obtain ⟨x0, x1, rfl⟩ := z19 hr; rfl) hw]; refine xb Y ?_ ?_ <;> intro h
 · simp only [w1, decide_eq_true_eq] at h
   exact xv Y Y Y (by show Value.int _ _ = Value.int _ _; rw [szn, if_pos h])
 · simp only [w1, decide_eq_false_iff_not] at h
   exact xv Y Y Y (by show Value.int .i64 (IntKind.i64.wrap (b - rr.length)) = Value.int _ _; rw [szn, if_neg h, w1])
theorem z3o (rr : List (List Cell)) (b : Int) (hw : WR 9223372036854775807 (.i .i64 .nil) rr) (p0 : 0 ≤ b) (p1 : b ≤ 1048576) : PC Tryz.prog 162 [.one (.l rr), .one (.s (.int .i64 b))] (rI (szn b (yn (.i .i64 .nil) rr))) := by
 refine PC.begin Tryz.func162 Y (by kernel_rfl) ?_; have hlen := hw.1; have w1 : IntKind.i64.wrap (b - rr.length) = b - rr.length := wrap_i64 (by omega) (by omega); rw [z0u (fun row hr => by obtain ⟨x0, _, rfl, hnil⟩ := (hr).yy; obtain rfl := hnil.q00; rfl) hw]; refine xb Y ?_ ?_ <;> intro h
 · simp only [w1, decide_eq_true_eq] at h
   exact xv Y Y Y (by show Value.int _ _ = Value.int _ _; rw [szn, if_pos h])
 · simp only [w1, decide_eq_false_iff_not] at h
   exact xv Y Y Y (by show Value.int .i64 (IntKind.i64.wrap (b - rr.length)) = Value.int _ _; rw [szn, if_neg h, w1])
theorem y7h (x0 : Int) (x1 : List (List Cell)) (x2 : List (List Cell)) (x3 : List (List Cell)) (x4 : List (List Cell)) (x5 : List (List Cell)) (b : Int) (h1 : WR 9223372036854775807 qd x1) (h2 : WR 9223372036854775807 zh x2) (h3 : WR 9223372036854775807 q7 x3) (h4 : WR 9223372036854775807 zh x4) (h5 : WR 9223372036854775807 (.i .i64 .nil) x5) (hb0 : 0 ≤ b) (hb1 : b ≤ 1048576) : PC Tryz.prog 110 [.agg [.s (.int .i64 x0), .l x1, .l x2, .l x3, .l x4, .l x5], .one (.s (.int .i64 b))] (rI (szn b (tot zb [.s (.int .i64 x0), .l x1, .l x2, .l x3, .l x4, .l x5]))) := by
 refine PC.begin Tryz.func110 Y (by kernel_rfl) ?_; have ht : tot zb [.s (.int .i64 x0), .l x1, .l x2, .l x3, .l x4, .l x5] = yn qd x1 + yn zh x2 + yn q7 x3 + yn zh x4 + yn (.i .i64 .nil) x5 := by simp only [tot, yn] <;> omega
 refine z7 Y (q4s x1 b h1 hb0 hb1) Y tv3 ?_; refine xb Y (fun h => ?_) (fun e0 => ?_)
 · have h : szn b (yn qd x1) < 0 := by simpa using h
   exact xv Y Y Y (by show Value.int _ _ = Value.int _ _; congr 1; rw [ht]; unfold szn at *; split at h <;> rw [if_pos] <;> omega)
 have e0 : 0 ≤ szn b (yn qd x1) := by simpa using e0
 refine z7 Y (z47 x2 (szn b (yn qd x1)) h2 e0 (y0m hb1 hb0)) Y tv3 ?_; refine xb Y (fun h => ?_) (fun e1 => ?_)
 · have h : szn (szn b (yn qd x1)) (yn zh x2) < 0 := by simpa using h
   rw [yj e0] at h; exact xv Y Y Y (by show Value.int _ _ = Value.int _ _; congr 1; rw [ht]; unfold szn at *; split at h <;> rw [if_pos] <;> omega)
 have e1 : 0 ≤ szn b (yn qd x1 + yn zh x2) := by rw [← yj e0]; simpa using e1
 rw [yj e0]; refine z7 Y (z1w x3 (szn b (yn qd x1 + yn zh x2)) h3 e1 (y0m hb1 hb0)) Y tv3 ?_; refine xb Y (fun h => ?_) (fun e2 => ?_)
 · have h : szn (szn b (yn qd x1 + yn zh x2)) (yn q7 x3) < 0 := by simpa using h
   rw [yj e1] at h; exact xv Y Y Y (by show Value.int _ _ = Value.int _ _; congr 1; rw [ht]; unfold szn at *; split at h <;> rw [if_pos] <;> omega)
 have e2 : 0 ≤ szn b (yn qd x1 + yn zh x2 + yn q7 x3) := by rw [← yj e1]; simpa using e2
 rw [yj e1]; refine z7 Y (z47 x4 (szn b (yn qd x1 + yn zh x2 + yn q7 x3)) h4 e2 (y0m hb1 hb0)) Y tv3 ?_; refine xb Y (fun h => ?_) (fun e3 => ?_)
 · have h : szn (szn b (yn qd x1 + yn zh x2 + yn q7 x3)) (yn zh x4) < 0 := by simpa using h
   rw [yj e2] at h; exact xv Y Y Y (by show Value.int _ _ = Value.int _ _; congr 1; rw [ht]; unfold szn at *; split at h <;> rw [if_pos] <;> omega)
 have e3 : 0 ≤ szn b (yn qd x1 + yn zh x2 + yn q7 x3 + yn zh x4) := by rw [← yj e2]; simpa using e3
 rw [yj e2]; refine z7 Y (z3o x5 (szn b (yn qd x1 + yn zh x2 + yn q7 x3 + yn zh x4)) h5 e3 (y0m hb1 hb0)) Y tv3 ?_; refine xb Y (fun h => ?_) (fun e4 => ?_)
 · have h : szn (szn b (yn qd x1 + yn zh x2 + yn q7 x3 + yn zh x4)) (yn (.i .i64 .nil) x5) < 0 := by simpa using h
   rw [yj e3] at h; exact xv Y Y Y (by show Value.int _ _ = Value.int _ _; congr 1; rw [ht]; unfold szn at *; split at h <;> rw [if_pos] <;> omega)
 have e4 : 0 ≤ szn b (yn qd x1 + yn zh x2 + yn q7 x3 + yn zh x4 + yn (.i .i64 .nil) x5) := by rw [← yj e3]; simpa using e4
 rw [yj e3]; exact xv Y Y Y (by show Value.int _ _ = Value.int _ _; rw [ht])
theorem y6b (rr : List (List Cell)) (b : Int) (hw : WR 9223372036854775807 zb rr) (p0 : 0 ≤ b) (p1 : b ≤ 1048576) : PC Tryz.prog 44 [.one (.l rr), .one (.s (.int .i64 b))] (rI (szn b (yn zb rr))) := by
 refine PC.begin Tryz.func44 Y (by kernel_rfl) ?_; have hlen := hw.1; have w1 : IntKind.i64.wrap (b - rr.length) = b - rr.length := wrap_i64 (by omega) (by omega); refine xb Y ?_ ?_ <;> intro h
 · simp only [w1, decide_eq_true_eq] at h
   exact xv Y Y Y (by show Value.int _ _ = Value.int _ _; unfold szn yn; rw [if_pos (by omega)])
 simp only [w1, decide_eq_false_iff_not] at h; have hs : szn b rr.length = b - rr.length := by unfold szn; rw [if_neg h]
 refine qc Y (ι := Nat) (fun i => i ≤ rr.length ∧ 0 ≤ szn b (rr.length + qz (tot zb) (rr.take i))) (fun i => ⟨[(5, sV (.int .i64 i)), (1, sV (.int .i64 (szn b (rr.length + qz (tot zb) (rr.take i))))), (0, .one (.b (.l rr)))], []⟩) (fun i => rr.length - i) 0 ⟨Nat.zero_le _, by simp only [List.take_zero, qz, Nat.add_zero, hs]; omega⟩ ?_ ?_
 · refine ⟨⟨Y, ?_, Y, trivial⟩, trivial, Y⟩
   show Cell.s (.int .i64 (IntKind.i64.wrap (b - rr.length))) = Cell.s (.int .i64 (szn b (rr.length + 0))); rw [w1, Nat.add_zero, hs]
 · intro i ⟨hi, hb⟩ J hJ
   refine xb Y ?_ ?_ <;> intro h
   · have h : i < rr.length := by simpa using h
     obtain ⟨row, hg⟩ := gx h; have hc := z11 (f := tot zb) hg; have hc2 := q0e (tot zb) rr (i + 1); obtain ⟨x0, x1, x2, x3, x4, x5, rfl, h1, h2, h3, h4, h5⟩ := y0r (hw.2 row (List.mem_of_getElem? hg)); refine xs Y (nn_ _) (y9 Y _ hg (xs Y Y ?_)); refine z7 Y (y7h _ _ _ _ _ _ _ h1 h2 h3 h4 h5 hb (y0m p1 p0)) Y ⟨tv7, trivial, trivial⟩ ?_; refine xb Y ?_ ?_ <;> intro hn
     · have hn : szn (szn b (rr.length + qz (tot zb) (rr.take i))) (tot zb [.s (.int .i64 x0), .l x1, .l x2, .l x3, .l x4, .l x5]) < 0 := by simpa using hn
       rw [yj hb] at hn; exact xv Y Y Y (by show Value.int _ _ = Value.int _ _; congr 1; unfold szn yn at *; split at hn <;> rw [if_pos] <;> omega)
     · have hn : ¬ szn (szn b (rr.length + qz (tot zb) (rr.take i))) (tot zb [.s (.int .i64 x0), .l x1, .l x2, .l x3, .l x4, .l x5]) < 0 := by simpa using hn
       have he := yj (n := tot zb [.s (.int .i64 x0), .l x1, .l x2, .l x3, .l x4, .l x5]) hb; rw [he] at hn; rw [Nat.add_assoc, ← hc] at he hn; refine q9 Y (hJ _ (i + 1) ⟨by omega, by omega⟩ (by omega) ?_); refine ⟨⟨cwi (by omega) (by omega) (by omega), ?_, Y, trivial⟩, trivial, Y⟩; exact congrArg (fun n => Cell.s (.int .i64 n)) he
   · have h : ¬ i < rr.length := by simpa using h
     have : i = rr.length := by omega
     subst this; exact xv Y Y Y (by show Value.int _ _ = Value.int _ _; rw [List.take_length]; rfl)
theorem y47 (rr : List (List Cell)) (b : Int) (hw : WR 9223372036854775807 yl rr) (p0 : 0 ≤ b) (p1 : b ≤ 1048576) : PC Tryz.prog 392 [.one (.l rr), .one (.s (.int .i64 b))] (rI (szn b (yn yl rr))) := by
 refine PC.begin Tryz.func392 Y (by kernel_rfl) ?_; have hlen := hw.1; have w1 : IntKind.i64.wrap (b - rr.length) = b - rr.length := wrap_i64 (by omega) (by omega); rw [z0u (fun row hr => by obtain ⟨x0, x1, rfl⟩ := q19 hr; rfl) hw]; refine xb Y ?_ ?_ <;> intro h
 · simp only [w1, decide_eq_true_eq] at h
   exact xv Y Y Y (by show Value.int _ _ = Value.int _ _; rw [szn, if_pos h])
 · simp only [w1, decide_eq_false_iff_not] at h
   exact xv Y Y Y (by show Value.int .i64 (IntKind.i64.wrap (b - rr.length)) = Value.int _ _; rw [szn, if_neg h, w1])
theorem q8q (x0 : Int) (x1 : Int) (x2 : Int) (x3 : Int) (x4 : Int) (x5 : List (List Cell)) (b : Int) (h5 : WR 9223372036854775807 yl x5) (hb0 : 0 ≤ b) (hb1 : b ≤ 1048576) : PC Tryz.prog 309 [.agg [.s (.int .i64 x0), .s (.int .i64 x1), .s (.int .i64 x2), .s (.int .i64 x3), .s (.int .i64 x4), .l x5], .one (.s (.int .i64 b))] (rI (szn b (tot zk [.s (.int .i64 x0), .s (.int .i64 x1), .s (.int .i64 x2), .s (.int .i64 x3), .s (.int .i64 x4), .l x5]))) := by
 refine PC.begin Tryz.func309 Y (by kernel_rfl) ?_; have ht : tot zk [.s (.int .i64 x0), .s (.int .i64 x1), .s (.int .i64 x2), .s (.int .i64 x3), .s (.int .i64 x4), .l x5] = yn yl x5 := by simp only [tot, yn] <;> omega
 refine z7 Y (y47 x5 b h5 hb0 hb1) Y tv3 ?_; refine xb Y (fun h => ?_) (fun e0 => ?_)
 · have h : szn b (yn yl x5) < 0 := by simpa using h
   exact xv Y Y Y (by show Value.int _ _ = Value.int _ _; congr 1; rw [ht]; unfold szn at *; split at h <;> rw [if_pos] <;> omega)
 have e0 : 0 ≤ szn b (yn yl x5) := by simpa using e0
 exact xv Y Y Y (by show Value.int _ _ = Value.int _ _; rw [ht])
theorem q7h (rr : List (List Cell)) (b : Int) (hw : WR 9223372036854775807 zk rr) (p0 : 0 ≤ b) (p1 : b ≤ 1048576) : PC Tryz.prog 203 [.one (.l rr), .one (.s (.int .i64 b))] (rI (szn b (yn zk rr))) := by
 refine PC.begin Tryz.func203 Y (by kernel_rfl) ?_; have hlen := hw.1; have w1 : IntKind.i64.wrap (b - rr.length) = b - rr.length := wrap_i64 (by omega) (by omega); refine xb Y ?_ ?_ <;> intro h
 · simp only [w1, decide_eq_true_eq] at h
   exact xv Y Y Y (by show Value.int _ _ = Value.int _ _; unfold szn yn; rw [if_pos (by omega)])
 simp only [w1, decide_eq_false_iff_not] at h; have hs : szn b rr.length = b - rr.length := by unfold szn; rw [if_neg h]
 refine qc Y (ι := Nat) (fun i => i ≤ rr.length ∧ 0 ≤ szn b (rr.length + qz (tot zk) (rr.take i))) (fun i => ⟨[(5, sV (.int .i64 i)), (1, sV (.int .i64 (szn b (rr.length + qz (tot zk) (rr.take i))))), (0, .one (.b (.l rr)))], []⟩) (fun i => rr.length - i) 0 ⟨Nat.zero_le _, by simp only [List.take_zero, qz, Nat.add_zero, hs]; omega⟩ ?_ ?_
 · refine ⟨⟨Y, ?_, Y, trivial⟩, trivial, Y⟩
   show Cell.s (.int .i64 (IntKind.i64.wrap (b - rr.length))) = Cell.s (.int .i64 (szn b (rr.length + 0))); rw [w1, Nat.add_zero, hs]
 · intro i ⟨hi, hb⟩ J hJ
   refine xb Y ?_ ?_ <;> intro h
   · have h : i < rr.length := by simpa using h
     obtain ⟨row, hg⟩ := gx h; have hc := z11 (f := tot zk) hg; have hc2 := q0e (tot zk) rr (i + 1); obtain ⟨x0, x1, x2, x3, x4, x5, rfl, h5⟩ := y19 (hw.2 row (List.mem_of_getElem? hg)); refine xs Y (nn_ _) (y9 Y _ hg (xs Y Y ?_)); refine z7 Y (q8q _ _ _ _ _ _ _ h5 hb (y0m p1 p0)) Y ⟨tv7, trivial, trivial⟩ ?_; refine xb Y ?_ ?_ <;> intro hn
     · have hn : szn (szn b (rr.length + qz (tot zk) (rr.take i))) (tot zk [.s (.int .i64 x0), .s (.int .i64 x1), .s (.int .i64 x2), .s (.int .i64 x3), .s (.int .i64 x4), .l x5]) < 0 := by simpa using hn
       rw [yj hb] at hn; exact xv Y Y Y (by show Value.int _ _ = Value.int _ _; congr 1; unfold szn yn at *; split at hn <;> rw [if_pos] <;> omega)
     · have hn : ¬ szn (szn b (rr.length + qz (tot zk) (rr.take i))) (tot zk [.s (.int .i64 x0), .s (.int .i64 x1), .s (.int .i64 x2), .s (.int .i64 x3), .s (.int .i64 x4), .l x5]) < 0 := by simpa using hn
       have he := yj (n := tot zk [.s (.int .i64 x0), .s (.int .i64 x1), .s (.int .i64 x2), .s (.int .i64 x3), .s (.int .i64 x4), .l x5]) hb; rw [he] at hn; rw [Nat.add_assoc, ← hc] at he hn; refine q9 Y (hJ _ (i + 1) ⟨by omega, by omega⟩ (by omega) ?_); refine ⟨⟨cwi (by omega) (by omega) (by omega), ?_, Y, trivial⟩, trivial, Y⟩; exact congrArg (fun n => Cell.s (.int .i64 n)) he
   · have h : ¬ i < rr.length := by simpa using h
     have : i = rr.length := by omega
     subst this; exact xv Y Y Y (by show Value.int _ _ = Value.int _ _; rw [List.take_length]; rfl)
theorem y4s (x0 : List (List Cell)) (b : Int) (h0 : WR 9223372036854775807 zk x0) (hb0 : 0 ≤ b) (hb1 : b ≤ 1048576) : PC Tryz.prog 111 [.agg [.l x0], .one (.s (.int .i64 b))] (rI (szn b (tot z8 [.l x0]))) := by
 refine PC.begin Tryz.func111 Y (by kernel_rfl) ?_; have ht : tot z8 [.l x0] = yn zk x0 := by simp only [tot, yn] <;> omega
 refine z7 Y (q7h x0 b h0 hb0 hb1) Y tv3 ?_; refine xb Y (fun h => ?_) (fun e0 => ?_)
 · have h : szn b (yn zk x0) < 0 := by simpa using h
   exact xv Y Y Y (by show Value.int _ _ = Value.int _ _; congr 1; rw [ht]; unfold szn at *; split at h <;> rw [if_pos] <;> omega)
 have e0 : 0 ≤ szn b (yn zk x0) := by simpa using e0
 exact xv Y Y Y (by show Value.int _ _ = Value.int _ _; rw [ht])
theorem z3y (rr : List (List Cell)) (b : Int) (hw : WR 9223372036854775807 z8 rr) (p0 : 0 ≤ b) (p1 : b ≤ 1048576) : PC Tryz.prog 45 [.one (.l rr), .one (.s (.int .i64 b))] (rI (szn b (yn z8 rr))) := by
 refine PC.begin Tryz.func45 Y (by kernel_rfl) ?_; have hlen := hw.1; have w1 : IntKind.i64.wrap (b - rr.length) = b - rr.length := wrap_i64 (by omega) (by omega); refine xb Y ?_ ?_ <;> intro h
 · simp only [w1, decide_eq_true_eq] at h
   exact xv Y Y Y (by show Value.int _ _ = Value.int _ _; unfold szn yn; rw [if_pos (by omega)])
 simp only [w1, decide_eq_false_iff_not] at h; have hs : szn b rr.length = b - rr.length := by unfold szn; rw [if_neg h]
 refine qc Y (ι := Nat) (fun i => i ≤ rr.length ∧ 0 ≤ szn b (rr.length + qz (tot z8) (rr.take i))) (fun i => ⟨[(5, sV (.int .i64 i)), (1, sV (.int .i64 (szn b (rr.length + qz (tot z8) (rr.take i))))), (0, .one (.b (.l rr)))], []⟩) (fun i => rr.length - i) 0 ⟨Nat.zero_le _, by simp only [List.take_zero, qz, Nat.add_zero, hs]; omega⟩ ?_ ?_
 · refine ⟨⟨Y, ?_, Y, trivial⟩, trivial, Y⟩
   show Cell.s (.int .i64 (IntKind.i64.wrap (b - rr.length))) = Cell.s (.int .i64 (szn b (rr.length + 0))); rw [w1, Nat.add_zero, hs]
 · intro i ⟨hi, hb⟩ J hJ
   refine xb Y ?_ ?_ <;> intro h
   · have h : i < rr.length := by simpa using h
     obtain ⟨row, hg⟩ := gx h; have hc := z11 (f := tot z8) hg; have hc2 := q0e (tot z8) rr (i + 1); obtain ⟨x0, rfl, h0⟩ := y04 (hw.2 row (List.mem_of_getElem? hg)); refine xs Y (nn_ _) (y9 Y _ hg (xs Y Y ?_)); refine z7 Y (y4s _ _ h0 hb (y0m p1 p0)) Y ⟨⟨trivial, trivial⟩, trivial, trivial⟩ ?_; refine xb Y ?_ ?_ <;> intro hn
     · have hn : szn (szn b (rr.length + qz (tot z8) (rr.take i))) (tot z8 [.l x0]) < 0 := by simpa using hn
       rw [yj hb] at hn; exact xv Y Y Y (by show Value.int _ _ = Value.int _ _; congr 1; unfold szn yn at *; split at hn <;> rw [if_pos] <;> omega)
     · have hn : ¬ szn (szn b (rr.length + qz (tot z8) (rr.take i))) (tot z8 [.l x0]) < 0 := by simpa using hn
       have he := yj (n := tot z8 [.l x0]) hb; rw [he] at hn; rw [Nat.add_assoc, ← hc] at he hn; refine q9 Y (hJ _ (i + 1) ⟨by omega, by omega⟩ (by omega) ?_); refine ⟨⟨cwi (by omega) (by omega) (by omega), ?_, Y, trivial⟩, trivial, Y⟩; exact congrArg (fun n => Cell.s (.int .i64 n)) he
   · have h : ¬ i < rr.length := by simpa using h
     have : i = rr.length := by omega
     subst this; exact xv Y Y Y (by show Value.int _ _ = Value.int _ _; rw [List.take_length]; rfl)
theorem z9m (x0 : Int) (x1 : Int) (x2 : Int) (x3 : Int) (x4 : List (List Cell)) (x5 : List (List Cell)) (b : Int) (h4 : WR 9223372036854775807 (.i .i64 .nil) x4) (h5 : WR 9223372036854775807 yl x5) (hb0 : 0 ≤ b) (hb1 : b ≤ 1048576) : PC Tryz.prog 310 [.agg [.s (.int .i64 x0), .s (.int .i64 x1), .s (.int .i64 x2), .s (.int .i64 x3), .l x4, .l x5], .one (.s (.int .i64 b))] (rI (szn b (tot qp [.s (.int .i64 x0), .s (.int .i64 x1), .s (.int .i64 x2), .s (.int .i64 x3), .l x4, .l x5]))) := by
 refine PC.begin Tryz.func310 Y (by kernel_rfl) ?_; have ht : tot qp [.s (.int .i64 x0), .s (.int .i64 x1), .s (.int .i64 x2), .s (.int .i64 x3), .l x4, .l x5] = yn (.i .i64 .nil) x4 + yn yl x5 := by simp only [tot, yn] <;> omega
 refine z7 Y (z3o x4 b h4 hb0 hb1) Y tv3 ?_; refine xb Y (fun h => ?_) (fun e0 => ?_)
 · have h : szn b (yn (.i .i64 .nil) x4) < 0 := by simpa using h
   exact xv Y Y Y (by show Value.int _ _ = Value.int _ _; congr 1; rw [ht]; unfold szn at *; split at h <;> rw [if_pos] <;> omega)
 have e0 : 0 ≤ szn b (yn (.i .i64 .nil) x4) := by simpa using e0
 refine z7 Y (y47 x5 (szn b (yn (.i .i64 .nil) x4)) h5 e0 (y0m hb1 hb0)) Y tv3 ?_; refine xb Y (fun h => ?_) (fun e1 => ?_)
 · have h : szn (szn b (yn (.i .i64 .nil) x4)) (yn yl x5) < 0 := by simpa using h
   rw [yj e0] at h; exact xv Y Y Y (by show Value.int _ _ = Value.int _ _; congr 1; rw [ht]; unfold szn at *; split at h <;> rw [if_pos] <;> omega)
 have e1 : 0 ≤ szn b (yn (.i .i64 .nil) x4 + yn yl x5) := by rw [← yj e0]; simpa using e1
 rw [yj e0]; exact xv Y Y Y (by show Value.int _ _ = Value.int _ _; rw [ht])
theorem z8r (rr : List (List Cell)) (b : Int) (hw : WR 9223372036854775807 qp rr) (p0 : 0 ≤ b) (p1 : b ≤ 1048576) : PC Tryz.prog 204 [.one (.l rr), .one (.s (.int .i64 b))] (rI (szn b (yn qp rr))) := by
 refine PC.begin Tryz.func204 Y (by kernel_rfl) ?_; have hlen := hw.1; have w1 : IntKind.i64.wrap (b - rr.length) = b - rr.length := wrap_i64 (by omega) (by omega); refine xb Y ?_ ?_ <;> intro h
 · simp only [w1, decide_eq_true_eq] at h
   exact xv Y Y Y (by show Value.int _ _ = Value.int _ _; unfold szn yn; rw [if_pos (by omega)])
 simp only [w1, decide_eq_false_iff_not] at h; have hs : szn b rr.length = b - rr.length := by unfold szn; rw [if_neg h]
 refine qc Y (ι := Nat) (fun i => i ≤ rr.length ∧ 0 ≤ szn b (rr.length + qz (tot qp) (rr.take i))) (fun i => ⟨[(5, sV (.int .i64 i)), (1, sV (.int .i64 (szn b (rr.length + qz (tot qp) (rr.take i))))), (0, .one (.b (.l rr)))], []⟩) (fun i => rr.length - i) 0 ⟨Nat.zero_le _, by simp only [List.take_zero, qz, Nat.add_zero, hs]; omega⟩ ?_ ?_
 · refine ⟨⟨Y, ?_, Y, trivial⟩, trivial, Y⟩
   show Cell.s (.int .i64 (IntKind.i64.wrap (b - rr.length))) = Cell.s (.int .i64 (szn b (rr.length + 0))); rw [w1, Nat.add_zero, hs]
 · intro i ⟨hi, hb⟩ J hJ
   refine xb Y ?_ ?_ <;> intro h
   · have h : i < rr.length := by simpa using h
     obtain ⟨row, hg⟩ := gx h; have hc := z11 (f := tot qp) hg; have hc2 := q0e (tot qp) rr (i + 1); obtain ⟨x0, x1, x2, x3, x4, x5, rfl, h4, h5⟩ := y1z (hw.2 row (List.mem_of_getElem? hg)); refine xs Y (nn_ _) (y9 Y _ hg (xs Y Y ?_)); refine z7 Y (z9m _ _ _ _ _ _ _ h4 h5 hb (y0m p1 p0)) Y ⟨tv7, trivial, trivial⟩ ?_; refine xb Y ?_ ?_ <;> intro hn
     · have hn : szn (szn b (rr.length + qz (tot qp) (rr.take i))) (tot qp [.s (.int .i64 x0), .s (.int .i64 x1), .s (.int .i64 x2), .s (.int .i64 x3), .l x4, .l x5]) < 0 := by simpa using hn
       rw [yj hb] at hn; exact xv Y Y Y (by show Value.int _ _ = Value.int _ _; congr 1; unfold szn yn at *; split at hn <;> rw [if_pos] <;> omega)
     · have hn : ¬ szn (szn b (rr.length + qz (tot qp) (rr.take i))) (tot qp [.s (.int .i64 x0), .s (.int .i64 x1), .s (.int .i64 x2), .s (.int .i64 x3), .l x4, .l x5]) < 0 := by simpa using hn
       have he := yj (n := tot qp [.s (.int .i64 x0), .s (.int .i64 x1), .s (.int .i64 x2), .s (.int .i64 x3), .l x4, .l x5]) hb; rw [he] at hn; rw [Nat.add_assoc, ← hc] at he hn; refine q9 Y (hJ _ (i + 1) ⟨by omega, by omega⟩ (by omega) ?_); refine ⟨⟨cwi (by omega) (by omega) (by omega), ?_, Y, trivial⟩, trivial, Y⟩; exact congrArg (fun n => Cell.s (.int .i64 n)) he
   · have h : ¬ i < rr.length := by simpa using h
     have : i = rr.length := by omega
     subst this; exact xv Y Y Y (by show Value.int _ _ = Value.int _ _; rw [List.take_length]; rfl)
theorem q6a (rr : List (List Cell)) (b : Int) (hw : WR 9223372036854775807 zn rr) (p0 : 0 ≤ b) (p1 : b ≤ 1048576) : PC Tryz.prog 205 [.one (.l rr), .one (.s (.int .i64 b))] (rI (szn b (yn zn rr))) := by
 refine PC.begin Tryz.func205 Y (by kernel_rfl) ?_; have hlen := hw.1; have w1 : IntKind.i64.wrap (b - rr.length) = b - rr.length := wrap_i64 (by omega) (by omega); rw [z0u (fun row hr => by obtain ⟨x0, x1, x2, x3, x4, rfl⟩ := z0r hr; rfl) hw]; refine xb Y ?_ ?_ <;> intro h
 · simp only [w1, decide_eq_true_eq] at h
   exact xv Y Y Y (by show Value.int _ _ = Value.int _ _; rw [szn, if_pos h])
 · simp only [w1, decide_eq_false_iff_not] at h
   exact xv Y Y Y (by show Value.int .i64 (IntKind.i64.wrap (b - rr.length)) = Value.int _ _; rw [szn, if_neg h, w1])
theorem z6b (x0 : Int) (x1 : List (List Cell)) (x2 : List (List Cell)) (b : Int) (h1 : WR 9223372036854775807 qp x1) (h2 : WR 9223372036854775807 zn x2) (hb0 : 0 ≤ b) (hb1 : b ≤ 1048576) : PC Tryz.prog 112 [.agg [.s (.int .i64 x0), .l x1, .l x2], .one (.s (.int .i64 b))] (rI (szn b (tot qa [.s (.int .i64 x0), .l x1, .l x2]))) := by
 refine PC.begin Tryz.func112 Y (by kernel_rfl) ?_; have ht : tot qa [.s (.int .i64 x0), .l x1, .l x2] = yn qp x1 + yn zn x2 := by simp only [tot, yn] <;> omega
 refine z7 Y (z8r x1 b h1 hb0 hb1) Y tv3 ?_; refine xb Y (fun h => ?_) (fun e0 => ?_)
 · have h : szn b (yn qp x1) < 0 := by simpa using h
   exact xv Y Y Y (by show Value.int _ _ = Value.int _ _; congr 1; rw [ht]; unfold szn at *; split at h <;> rw [if_pos] <;> omega)
 have e0 : 0 ≤ szn b (yn qp x1) := by simpa using e0
 refine z7 Y (q6a x2 (szn b (yn qp x1)) h2 e0 (y0m hb1 hb0)) Y tv3 ?_; refine xb Y (fun h => ?_) (fun e1 => ?_)
 · have h : szn (szn b (yn qp x1)) (yn zn x2) < 0 := by simpa using h
   rw [yj e0] at h; exact xv Y Y Y (by show Value.int _ _ = Value.int _ _; congr 1; rw [ht]; unfold szn at *; split at h <;> rw [if_pos] <;> omega)
 have e1 : 0 ≤ szn b (yn qp x1 + yn zn x2) := by rw [← yj e0]; simpa using e1
 rw [yj e0]; exact xv Y Y Y (by show Value.int _ _ = Value.int _ _; rw [ht])
theorem z5k (rr : List (List Cell)) (b : Int) (hw : WR 9223372036854775807 qa rr) (p0 : 0 ≤ b) (p1 : b ≤ 1048576) : PC Tryz.prog 46 [.one (.l rr), .one (.s (.int .i64 b))] (rI (szn b (yn qa rr))) := by
 refine PC.begin Tryz.func46 Y (by kernel_rfl) ?_; have hlen := hw.1; have w1 : IntKind.i64.wrap (b - rr.length) = b - rr.length := wrap_i64 (by omega) (by omega); refine xb Y ?_ ?_ <;> intro h
 · simp only [w1, decide_eq_true_eq] at h
   exact xv Y Y Y (by show Value.int _ _ = Value.int _ _; unfold szn yn; rw [if_pos (by omega)])
 simp only [w1, decide_eq_false_iff_not] at h; have hs : szn b rr.length = b - rr.length := by unfold szn; rw [if_neg h]
 refine qc Y (ι := Nat) (fun i => i ≤ rr.length ∧ 0 ≤ szn b (rr.length + qz (tot qa) (rr.take i))) (fun i => ⟨[(5, sV (.int .i64 i)), (1, sV (.int .i64 (szn b (rr.length + qz (tot qa) (rr.take i))))), (0, .one (.b (.l rr)))], []⟩) (fun i => rr.length - i) 0 ⟨Nat.zero_le _, by simp only [List.take_zero, qz, Nat.add_zero, hs]; omega⟩ ?_ ?_
 · refine ⟨⟨Y, ?_, Y, trivial⟩, trivial, Y⟩
   show Cell.s (.int .i64 (IntKind.i64.wrap (b - rr.length))) = Cell.s (.int .i64 (szn b (rr.length + 0))); rw [w1, Nat.add_zero, hs]
 · intro i ⟨hi, hb⟩ J hJ
   refine xb Y ?_ ?_ <;> intro h
   · have h : i < rr.length := by simpa using h
     obtain ⟨row, hg⟩ := gx h; have hc := z11 (f := tot qa) hg; have hc2 := q0e (tot qa) rr (i + 1); obtain ⟨x0, x1, x2, rfl, h1, h2⟩ := q0f (hw.2 row (List.mem_of_getElem? hg)); refine xs Y (nn_ _) (y9 Y _ hg (xs Y Y ?_)); refine z7 Y (z6b _ _ _ _ h1 h2 hb (y0m p1 p0)) Y ⟨tv4, trivial, trivial⟩ ?_; refine xb Y ?_ ?_ <;> intro hn
     · have hn : szn (szn b (rr.length + qz (tot qa) (rr.take i))) (tot qa [.s (.int .i64 x0), .l x1, .l x2]) < 0 := by simpa using hn
       rw [yj hb] at hn; exact xv Y Y Y (by show Value.int _ _ = Value.int _ _; congr 1; unfold szn yn at *; split at hn <;> rw [if_pos] <;> omega)
     · have hn : ¬ szn (szn b (rr.length + qz (tot qa) (rr.take i))) (tot qa [.s (.int .i64 x0), .l x1, .l x2]) < 0 := by simpa using hn
       have he := yj (n := tot qa [.s (.int .i64 x0), .l x1, .l x2]) hb; rw [he] at hn; rw [Nat.add_assoc, ← hc] at he hn; refine q9 Y (hJ _ (i + 1) ⟨by omega, by omega⟩ (by omega) ?_); refine ⟨⟨cwi (by omega) (by omega) (by omega), ?_, Y, trivial⟩, trivial, Y⟩; exact congrArg (fun n => Cell.s (.int .i64 n)) he
   · have h : ¬ i < rr.length := by simpa using h
     have : i = rr.length := by omega
     subst this; exact xv Y Y Y (by show Value.int _ _ = Value.int _ _; rw [List.take_length]; rfl)
theorem z4t (rr : List (List Cell)) (b : Int) (hw : WR 9223372036854775807 qb rr) (p0 : 0 ≤ b) (p1 : b ≤ 1048576) : PC Tryz.prog 47 [.one (.l rr), .one (.s (.int .i64 b))] (rI (szn b (yn qb rr))) := by
 refine PC.begin Tryz.func47 Y (by kernel_rfl) ?_; have hlen := hw.1; have w1 : IntKind.i64.wrap (b - rr.length) = b - rr.length := wrap_i64 (by omega) (by omega); rw [z0u (fun row hr => by obtain ⟨x0, x1, x2, x3, x4, x5, x6, x7, x8, rfl⟩ := q09 hr; rfl) hw]; refine xb Y ?_ ?_ <;> intro h
 · simp only [w1, decide_eq_true_eq] at h
   exact xv Y Y Y (by show Value.int _ _ = Value.int _ _; rw [szn, if_pos h])
 · simp only [w1, decide_eq_false_iff_not] at h
   exact xv Y Y Y (by show Value.int .i64 (IntKind.i64.wrap (b - rr.length)) = Value.int _ _; rw [szn, if_neg h, w1])
theorem q5j (x0 : List (List Cell)) (x1 : List (List Cell)) (x2 : List (List Cell)) (x3 : List (List Cell)) (x4 : List (List Cell)) (b : Int) (h0 : WR 9223372036854775807 q7 x0) (h1 : WR 9223372036854775807 zb x1) (h2 : WR 9223372036854775807 z8 x2) (h3 : WR 9223372036854775807 qa x3) (h4 : WR 9223372036854775807 qb x4) (hb0 : 0 ≤ b) (hb1 : b ≤ 1048576) : PC Tryz.prog 9 [.agg [.l x0, .l x1, .l x2, .l x3, .l x4], .one (.s (.int .i64 b))] (rI (szn b (tot ze [.l x0, .l x1, .l x2, .l x3, .l x4]))) := by
 refine PC.begin Tryz.func9 Y (by kernel_rfl) ?_; have ht : tot ze [.l x0, .l x1, .l x2, .l x3, .l x4] = yn q7 x0 + yn zb x1 + yn z8 x2 + yn qa x3 + yn qb x4 := by simp only [tot, yn] <;> omega
 refine z7 Y (z1w x0 b h0 hb0 hb1) Y tv3 ?_; refine xb Y (fun h => ?_) (fun e0 => ?_)
 · have h : szn b (yn q7 x0) < 0 := by simpa using h
   exact xv Y Y Y (by show Value.int _ _ = Value.int _ _; congr 1; rw [ht]; unfold szn at *; split at h <;> rw [if_pos] <;> omega)
 have e0 : 0 ≤ szn b (yn q7 x0) := by simpa using e0
 refine z7 Y (y6b x1 (szn b (yn q7 x0)) h1 e0 (y0m hb1 hb0)) Y tv3 ?_; refine xb Y (fun h => ?_) (fun e1 => ?_)
 · have h : szn (szn b (yn q7 x0)) (yn zb x1) < 0 := by simpa using h
   rw [yj e0] at h; exact xv Y Y Y (by show Value.int _ _ = Value.int _ _; congr 1; rw [ht]; unfold szn at *; split at h <;> rw [if_pos] <;> omega)
 have e1 : 0 ≤ szn b (yn q7 x0 + yn zb x1) := by rw [← yj e0]; simpa using e1
 rw [yj e0]; refine z7 Y (z3y x2 (szn b (yn q7 x0 + yn zb x1)) h2 e1 (y0m hb1 hb0)) Y tv3 ?_; refine xb Y (fun h => ?_) (fun e2 => ?_)
 · have h : szn (szn b (yn q7 x0 + yn zb x1)) (yn z8 x2) < 0 := by simpa using h
   rw [yj e1] at h; exact xv Y Y Y (by show Value.int _ _ = Value.int _ _; congr 1; rw [ht]; unfold szn at *; split at h <;> rw [if_pos] <;> omega)
 have e2 : 0 ≤ szn b (yn q7 x0 + yn zb x1 + yn z8 x2) := by rw [← yj e1]; simpa using e2
 rw [yj e1]; refine z7 Y (z5k x3 (szn b (yn q7 x0 + yn zb x1 + yn z8 x2)) h3 e2 (y0m hb1 hb0)) Y tv3 ?_; refine xb Y (fun h => ?_) (fun e3 => ?_)
 · have h : szn (szn b (yn q7 x0 + yn zb x1 + yn z8 x2)) (yn qa x3) < 0 := by simpa using h
   rw [yj e2] at h; exact xv Y Y Y (by show Value.int _ _ = Value.int _ _; congr 1; rw [ht]; unfold szn at *; split at h <;> rw [if_pos] <;> omega)
 have e3 : 0 ≤ szn b (yn q7 x0 + yn zb x1 + yn z8 x2 + yn qa x3) := by rw [← yj e2]; simpa using e3
 rw [yj e2]; refine z7 Y (z4t x4 (szn b (yn q7 x0 + yn zb x1 + yn z8 x2 + yn qa x3)) h4 e3 (y0m hb1 hb0)) Y tv3 ?_; refine xb Y (fun h => ?_) (fun e4 => ?_)
 · have h : szn (szn b (yn q7 x0 + yn zb x1 + yn z8 x2 + yn qa x3)) (yn qb x4) < 0 := by simpa using h
   rw [yj e3] at h; exact xv Y Y Y (by show Value.int _ _ = Value.int _ _; congr 1; rw [ht]; unfold szn at *; split at h <;> rw [if_pos] <;> omega)
 have e4 : 0 ≤ szn b (yn q7 x0 + yn zb x1 + yn z8 x2 + yn qa x3 + yn qb x4) := by rw [← yj e3]; simpa using e4
 rw [yj e3]; exact xv Y Y Y (by show Value.int _ _ = Value.int _ _; rw [ht])
theorem y9m (x0 : Int) (x1 : Int) (x2 : Int) (x3 : Int)  : PC Tryz.prog 87 [.agg [.s (.int .i64 x0), .s (.int .i64 x1), .s (.int .i64 x2), .s (.int .i64 x3)]] (.one (.own true [.s (.int .i64 x0), .s (.int .i64 x1), .s (.int .i64 x2), .s (.int .i64 x3)])) := by
 refine PC.begin Tryz.func87 Y (by kernel_rfl) ?_; exact xr Y (zm Y ⟨⟨Y, Y, Y, Y, Y, trivial⟩, z6 Y⟩)
theorem q8r (rr : List (List Cell)) (hw : WR 1048576 qs rr) : PC Tryz.prog 28 [.one (.l rr)] (.one (.own false [.l 4 rr])) := by
 refine PC.begin Tryz.func28 Y (by kernel_rfl) ?_; have hlen := hw.1; refine xs Y Y (xs Y (nn_ _) (xs Y (by omega) (xs Y (by omega) ?_))); refine qc Y (ι := Nat) (fun i => i ≤ rr.length) (fun i => ⟨[(4, sV (.int .i64 i)), (3, .one (.h 7 rr.length)), (0, .one (.b (.l rr)))], [(7, .arr true 4 0 (rr.take i ++ List.replicate (rr.length - i) [.s (.int .i64 0), .s (.int .i64 0), .s (.int .i64 0), .s (.int .i64 0)]))]⟩) (fun i => rr.length - i) 0 (Nat.zero_le _) ?_ ?_
 · repeat' (first | exact trivial | exact Y | exact Or.inl Y | refine And.intro ?_ ?_)
 · intro i hi J hJ
   refine xb Y ?_ ?_ <;> intro h
   · have h : i < rr.length := by simpa using h
     obtain ⟨row, hg⟩ := gx h; obtain ⟨x0, x1, x2, x3, rfl⟩ := z1z (hw.2 row (List.mem_of_getElem? hg)); refine xs Y (nn_ _) (y9 Y _ hg (xs Y Y ?_)); refine z7 Y (y9m _ _ _ _) Y ⟨tv5, trivial⟩ ?_; refine xs Y (yh _ _ _ _ (by omega) Y).symm (xs Y (nn_ _) (y9 Y [.s (.int .i64 0), .s (.int .i64 0), .s (.int .i64 0), .s (.int .i64 0)] (yp _ _ _ _ (by omega) Y) (xs Y Y ?_))); refine xs Y (yh _ _ _ _ (by omega) Y).symm (y9 Y [.s (.int .i64 0), .s (.int .i64 0), .s (.int .i64 0), .s (.int .i64 0)] (yp _ _ _ _ (by omega) Y) (xs Y (by decide) (xs Y tv5 ?_))); refine q9 Y (hJ _ (i + 1) (by omega) (by omega) ?_)
     repeat' (first | exact trivial | exact Y | exact Or.inl Y | exact cwi (by omega) (by omega) (by omega) | refine And.intro ?_ ?_)
     exact z07 _ _ _ _ _ hg Y
   · have h : ¬ i < rr.length := by simpa using h
     have : i = rr.length := by omega
     subst this; refine xr Y (zm Y ⟨⟨Y, ⟨(yh _ _ _ _ (by omega) Y).symm, y05 _ _ _ Y, Or.inl Y⟩, trivial⟩, z6 Y⟩)
theorem z2f (x0 : Int) (x1 : List (List Cell)) (h1 : WR 1048576 qs x1) : PC Tryz.prog 13 [.agg [.s (.int .i64 x0), .l x1]] (.one (.own true [.s (.int .i64 x0), .l 4 x1])) := by
 refine PC.begin Tryz.func13 Y (by kernel_rfl) ?_; refine z7 Y (q8r _ h1) Y ⟨trivial, trivial⟩ ?_; exact xr Y (zm Y ⟨⟨Y, Y, ⟨Y, Y, .inl Y⟩, trivial⟩, z6 Y⟩)
theorem y1w (rr : List (List Cell)) (hw : WR 1048576 q7 rr) : PC Tryz.prog 58 [.one (.l rr)] (.one (.own false [.l 2 rr])) := by
 refine PC.begin Tryz.func58 Y (by kernel_rfl) ?_; have hlen := hw.1; refine xs Y Y (xs Y (nn_ _) (xs Y (by omega) (xs Y (by omega) ?_))); refine qc Y (ι := Nat) (fun i => i ≤ rr.length) (fun i => ⟨[(4, sV (.int .i64 i)), (3, .one (.h 7 rr.length)), (0, .one (.b (.l rr)))], [(7, .arr true 2 0 (rr.take i ++ List.replicate (rr.length - i) [.s (.int .i64 0), .l []]))]⟩) (fun i => rr.length - i) 0 (Nat.zero_le _) ?_ ?_
 · repeat' (first | exact trivial | exact Y | exact Or.inl Y | refine And.intro ?_ ?_)
 · intro i hi J hJ
   refine xb Y ?_ ?_ <;> intro h
   · have h : i < rr.length := by simpa using h
     obtain ⟨row, hg⟩ := gx h; obtain ⟨x0, x1, rfl, h1⟩ := yu (hw.2 row (List.mem_of_getElem? hg)); refine xs Y (nn_ _) (y9 Y _ hg (xs Y Y ?_)); refine z7 Y (z2f _ _ h1) Y ⟨tv3, trivial⟩ ?_; refine xs Y (yh _ _ _ _ (by omega) Y).symm (xs Y (nn_ _) (y9 Y [.s (.int .i64 0), .l []] (yp _ _ _ _ (by omega) Y) (xs Y Y ?_))); refine xs Y (yh _ _ _ _ (by omega) Y).symm (y9 Y [.s (.int .i64 0), .l []] (yp _ _ _ _ (by omega) Y) (xs Y (by decide) (xs Y ⟨trivial, ⟨Y, Y⟩, trivial⟩ ?_))); refine q9 Y (hJ _ (i + 1) (by omega) (by omega) ?_)
     repeat' (first | exact trivial | exact Y | exact Or.inl Y | exact cwi (by omega) (by omega) (by omega) | refine And.intro ?_ ?_)
     exact z07 _ _ _ _ _ hg Y
   · have h : ¬ i < rr.length := by simpa using h
     have : i = rr.length := by omega
     subst this; refine xr Y (zm Y ⟨⟨Y, ⟨(yh _ _ _ _ (by omega) Y).symm, y05 _ _ _ Y, Or.inl Y⟩, trivial⟩, z6 Y⟩)
theorem y5k (x0 : Int) (x1 : Int) (x2 : Int)  : PC Tryz.prog 317 [.agg [.s (.int .i64 x0), .s (.int .i64 x1), .s (.int .i64 x2)]] (.one (.own true [.s (.int .i64 x0), .s (.int .i64 x1), .s (.int .i64 x2)])) := by
 refine PC.begin Tryz.func317 Y (by kernel_rfl) ?_; exact xr Y (zm Y ⟨⟨Y, Y, Y, Y, trivial⟩, z6 Y⟩)
theorem q4t (rr : List (List Cell)) (hw : WR 1048576 qd rr) : PC Tryz.prog 218 [.one (.l rr)] (.one (.own false [.l 3 rr])) := by
 refine PC.begin Tryz.func218 Y (by kernel_rfl) ?_; have hlen := hw.1; refine xs Y Y (xs Y (nn_ _) (xs Y (by omega) (xs Y (by omega) ?_))); refine qc Y (ι := Nat) (fun i => i ≤ rr.length) (fun i => ⟨[(4, sV (.int .i64 i)), (3, .one (.h 7 rr.length)), (0, .one (.b (.l rr)))], [(7, .arr true 3 0 (rr.take i ++ List.replicate (rr.length - i) [.s (.int .i64 0), .s (.int .i64 0), .s (.int .i64 0)]))]⟩) (fun i => rr.length - i) 0 (Nat.zero_le _) ?_ ?_
 · repeat' (first | exact trivial | exact Y | exact Or.inl Y | refine And.intro ?_ ?_)
 · intro i hi J hJ
   refine xb Y ?_ ?_ <;> intro h
   · have h : i < rr.length := by simpa using h
     obtain ⟨row, hg⟩ := gx h; obtain ⟨x0, x1, x2, rfl⟩ := y09 (hw.2 row (List.mem_of_getElem? hg)); refine xs Y (nn_ _) (y9 Y _ hg (xs Y Y ?_)); refine z7 Y (y5k _ _ _) Y ⟨tv4, trivial⟩ ?_; refine xs Y (yh _ _ _ _ (by omega) Y).symm (xs Y (nn_ _) (y9 Y [.s (.int .i64 0), .s (.int .i64 0), .s (.int .i64 0)] (yp _ _ _ _ (by omega) Y) (xs Y Y ?_))); refine xs Y (yh _ _ _ _ (by omega) Y).symm (y9 Y [.s (.int .i64 0), .s (.int .i64 0), .s (.int .i64 0)] (yp _ _ _ _ (by omega) Y) (xs Y (by decide) (xs Y tv4 ?_))); refine q9 Y (hJ _ (i + 1) (by omega) (by omega) ?_)
     repeat' (first | exact trivial | exact Y | exact Or.inl Y | exact cwi (by omega) (by omega) (by omega) | refine And.intro ?_ ?_)
     exact z07 _ _ _ _ _ hg Y
   · have h : ¬ i < rr.length := by simpa using h
     have : i = rr.length := by omega
     subst this; refine xr Y (zm Y ⟨⟨Y, ⟨(yh _ _ _ _ (by omega) Y).symm, y05 _ _ _ Y, Or.inl Y⟩, trivial⟩, z6 Y⟩)
theorem z8s (x0 : Int) (x1 : Int)  : PC Tryz.prog 318 [.agg [.s (.int .i64 x0), .s (.int .i64 x1)]] (.one (.own true [.s (.int .i64 x0), .s (.int .i64 x1)])) := by
 refine PC.begin Tryz.func318 Y (by kernel_rfl) ?_; exact xr Y (zm Y ⟨⟨Y, Y, Y, trivial⟩, z6 Y⟩)
theorem q47 (rr : List (List Cell)) (hw : WR 1048576 zh rr) : PC Tryz.prog 219 [.one (.l rr)] (.one (.own false [.l 2 rr])) := by
 refine PC.begin Tryz.func219 Y (by kernel_rfl) ?_; have hlen := hw.1; refine xs Y Y (xs Y (nn_ _) (xs Y (by omega) (xs Y (by omega) ?_))); refine qc Y (ι := Nat) (fun i => i ≤ rr.length) (fun i => ⟨[(4, sV (.int .i64 i)), (3, .one (.h 7 rr.length)), (0, .one (.b (.l rr)))], [(7, .arr true 2 0 (rr.take i ++ List.replicate (rr.length - i) [.s (.int .i64 0), .s (.int .i64 0)]))]⟩) (fun i => rr.length - i) 0 (Nat.zero_le _) ?_ ?_
 · repeat' (first | exact trivial | exact Y | exact Or.inl Y | refine And.intro ?_ ?_)
 · intro i hi J hJ
   refine xb Y ?_ ?_ <;> intro h
   · have h : i < rr.length := by simpa using h
     obtain ⟨row, hg⟩ := gx h; obtain ⟨x0, x1, rfl⟩ := z19 (hw.2 row (List.mem_of_getElem? hg)); refine xs Y (nn_ _) (y9 Y _ hg (xs Y Y ?_)); refine z7 Y (z8s _ _) Y ⟨tv3, trivial⟩ ?_; refine xs Y (yh _ _ _ _ (by omega) Y).symm (xs Y (nn_ _) (y9 Y [.s (.int .i64 0), .s (.int .i64 0)] (yp _ _ _ _ (by omega) Y) (xs Y Y ?_))); refine xs Y (yh _ _ _ _ (by omega) Y).symm (y9 Y [.s (.int .i64 0), .s (.int .i64 0)] (yp _ _ _ _ (by omega) Y) (xs Y (by decide) (xs Y tv3 ?_))); refine q9 Y (hJ _ (i + 1) (by omega) (by omega) ?_)
     repeat' (first | exact trivial | exact Y | exact Or.inl Y | exact cwi (by omega) (by omega) (by omega) | refine And.intro ?_ ?_)
     exact z07 _ _ _ _ _ hg Y
   · have h : ¬ i < rr.length := by simpa using h
     have : i = rr.length := by omega
     subst this; refine xr Y (zm Y ⟨⟨Y, ⟨(yh _ _ _ _ (by omega) Y).symm, y05 _ _ _ Y, Or.inl Y⟩, trivial⟩, z6 Y⟩)
theorem y3o (rr : List (List Cell)) (hw : WR 1048576 (.i .i64 .nil) rr) : PC Tryz.prog 163 [.one (.l rr)] (.one (.own false [.l 1 rr])) := by
 refine PC.begin Tryz.func163 Y (by kernel_rfl) ?_; have hlen := hw.1; refine xs Y Y (xs Y (nn_ _) (xs Y (by omega) (xs Y (by omega) ?_))); refine qc Y (ι := Nat) (fun i => i ≤ rr.length) (fun i => ⟨[(4, sV (.int .i64 i)), (3, .one (.h 7 rr.length)), (0, .one (.b (.l rr)))], [(7, .arr true 1 0 (rr.take i ++ List.replicate (rr.length - i) [.s (.int .i64 0)]))]⟩) (fun i => rr.length - i) 0 (Nat.zero_le _) ?_ ?_
 · repeat' (first | exact trivial | exact Y | exact Or.inl Y | refine And.intro ?_ ?_)
 · intro i hi J hJ
   refine xb Y ?_ ?_ <;> intro h
   · have h : i < rr.length := by simpa using h
     obtain ⟨row, hg⟩ := gx h; obtain ⟨x0, _, rfl, hnil⟩ := ((hw.2 row (List.mem_of_getElem? hg))).yy; obtain rfl := hnil.q00; refine xs Y (nn_ _) (y9 Y _ hg (xs Y Y ?_)); refine xs Y (yh _ _ _ _ (by omega) Y).symm (xs Y (nn_ _) (y9 Y [.s (.int .i64 0)] (yp _ _ _ _ (by omega) Y) (xs Y Y ?_))); refine xs Y (yh _ _ _ _ (by omega) Y).symm (y9 Y [.s (.int .i64 0)] (yp _ _ _ _ (by omega) Y) (xs Y (by decide) (xs Y ⟨trivial, trivial⟩ ?_))); refine q9 Y (hJ _ (i + 1) (by omega) (by omega) ?_)
     repeat' (first | exact trivial | exact Y | exact Or.inl Y | exact cwi (by omega) (by omega) (by omega) | refine And.intro ?_ ?_)
     exact z07 _ _ _ _ _ hg Y
   · have h : ¬ i < rr.length := by simpa using h
     have : i = rr.length := by omega
     subst this; refine xr Y (zm Y ⟨⟨Y, ⟨(yh _ _ _ _ (by omega) Y).symm, y05 _ _ _ Y, Or.inl Y⟩, trivial⟩, z6 Y⟩)
theorem y7i (x0 : Int) (x1 : List (List Cell)) (x2 : List (List Cell)) (x3 : List (List Cell)) (x4 : List (List Cell)) (x5 : List (List Cell)) (h1 : WR 1048576 qd x1) (h2 : WR 1048576 zh x2) (h3 : WR 1048576 q7 x3) (h4 : WR 1048576 zh x4) (h5 : WR 1048576 (.i .i64 .nil) x5) : PC Tryz.prog 124 [.agg [.s (.int .i64 x0), .l x1, .l x2, .l x3, .l x4, .l x5]] (.one (.own true [.s (.int .i64 x0), .l 3 x1, .l 2 x2, .l 2 x3, .l 2 x4, .l 1 x5])) := by
 refine PC.begin Tryz.func124 Y (by kernel_rfl) ?_; refine z7 Y (q4t _ h1) Y ⟨trivial, trivial⟩ (z7 Y (q47 _ h2) Y ⟨trivial, trivial⟩ (z7 Y (y1w _ h3) Y ⟨trivial, trivial⟩ (z7 Y (q47 _ h4) Y ⟨trivial, trivial⟩ (z7 Y (y3o _ h5) Y ⟨trivial, trivial⟩ ?_)))); exact xr Y (zm Y ⟨⟨Y, Y, ⟨Y, Y, .inl Y⟩, ⟨Y, Y, .inl Y⟩, ⟨Y, Y, .inl Y⟩, ⟨Y, Y, .inl Y⟩, ⟨Y, Y, .inl Y⟩, trivial⟩, z6 Y⟩)
theorem y6c (rr : List (List Cell)) (hw : WR 1048576 zb rr) : PC Tryz.prog 59 [.one (.l rr)] (.one (.own false [.l 6 rr])) := by
 refine PC.begin Tryz.func59 Y (by kernel_rfl) ?_; have hlen := hw.1; refine xs Y Y (xs Y (nn_ _) (xs Y (by omega) (xs Y (by omega) ?_))); refine qc Y (ι := Nat) (fun i => i ≤ rr.length) (fun i => ⟨[(4, sV (.int .i64 i)), (3, .one (.h 7 rr.length)), (0, .one (.b (.l rr)))], [(7, .arr true 6 0 (rr.take i ++ List.replicate (rr.length - i) [.s (.int .i64 0), .l [], .l [], .l [], .l [], .l []]))]⟩) (fun i => rr.length - i) 0 (Nat.zero_le _) ?_ ?_
 · repeat' (first | exact trivial | exact Y | exact Or.inl Y | refine And.intro ?_ ?_)
 · intro i hi J hJ
   refine xb Y ?_ ?_ <;> intro h
   · have h : i < rr.length := by simpa using h
     obtain ⟨row, hg⟩ := gx h; obtain ⟨x0, x1, x2, x3, x4, x5, rfl, h1, h2, h3, h4, h5⟩ := y0r (hw.2 row (List.mem_of_getElem? hg)); refine xs Y (nn_ _) (y9 Y _ hg (xs Y Y ?_)); refine z7 Y (y7i _ _ _ _ _ _ h1 h2 h3 h4 h5) Y ⟨tv7, trivial⟩ ?_; refine xs Y (yh _ _ _ _ (by omega) Y).symm (xs Y (nn_ _) (y9 Y [.s (.int .i64 0), .l [], .l [], .l [], .l [], .l []] (yp _ _ _ _ (by omega) Y) (xs Y Y ?_))); refine xs Y (yh _ _ _ _ (by omega) Y).symm (y9 Y [.s (.int .i64 0), .l [], .l [], .l [], .l [], .l []] (yp _ _ _ _ (by omega) Y) (xs Y (by decide) (xs Y ⟨trivial, ⟨Y, Y⟩, ⟨Y, Y⟩, ⟨Y, Y⟩, ⟨Y, Y⟩, ⟨Y, Y⟩, trivial⟩ ?_))); refine q9 Y (hJ _ (i + 1) (by omega) (by omega) ?_)
     repeat' (first | exact trivial | exact Y | exact Or.inl Y | exact cwi (by omega) (by omega) (by omega) | refine And.intro ?_ ?_)
     exact z07 _ _ _ _ _ hg Y
   · have h : ¬ i < rr.length := by simpa using h
     have : i = rr.length := by omega
     subst this; refine xr Y (zm Y ⟨⟨Y, ⟨(yh _ _ _ _ (by omega) Y).symm, y05 _ _ _ Y, Or.inl Y⟩, trivial⟩, z6 Y⟩)
theorem q3o (x0 : Int) (x1 : Int)  : PC Tryz.prog 223 [.agg [.s (.int .i64 x0), .s (.int .i64 x1)]] (.one (.own true [.s (.int .i64 x0), .s (.int .i64 x1)])) := by
 refine PC.begin Tryz.func223 Y (by kernel_rfl) ?_; exact xr Y (zm Y ⟨⟨Y, Y, Y, trivial⟩, z6 Y⟩)
theorem z48 (rr : List (List Cell)) (hw : WR 1048576 yl rr) : PC Tryz.prog 398 [.one (.l rr)] (.one (.own false [.l 2 rr])) := by
 refine PC.begin Tryz.func398 Y (by kernel_rfl) ?_; have hlen := hw.1; refine xs Y Y (xs Y (nn_ _) (xs Y (by omega) (xs Y (by omega) ?_))); refine qc Y (ι := Nat) (fun i => i ≤ rr.length) (fun i => ⟨[(4, sV (.int .i64 i)), (3, .one (.h 7 rr.length)), (0, .one (.b (.l rr)))], [(7, .arr true 2 0 (rr.take i ++ List.replicate (rr.length - i) [.s (.int .i64 0), .s (.int .i64 0)]))]⟩) (fun i => rr.length - i) 0 (Nat.zero_le _) ?_ ?_
 · repeat' (first | exact trivial | exact Y | exact Or.inl Y | refine And.intro ?_ ?_)
 · intro i hi J hJ
   refine xb Y ?_ ?_ <;> intro h
   · have h : i < rr.length := by simpa using h
     obtain ⟨row, hg⟩ := gx h; obtain ⟨x0, x1, rfl⟩ := q19 (hw.2 row (List.mem_of_getElem? hg)); refine xs Y (nn_ _) (y9 Y _ hg (xs Y Y ?_)); refine z7 Y (q3o _ _) Y ⟨tv3, trivial⟩ ?_; refine xs Y (yh _ _ _ _ (by omega) Y).symm (xs Y (nn_ _) (y9 Y [.s (.int .i64 0), .s (.int .i64 0)] (yp _ _ _ _ (by omega) Y) (xs Y Y ?_))); refine xs Y (yh _ _ _ _ (by omega) Y).symm (y9 Y [.s (.int .i64 0), .s (.int .i64 0)] (yp _ _ _ _ (by omega) Y) (xs Y (by decide) (xs Y tv3 ?_))); refine q9 Y (hJ _ (i + 1) (by omega) (by omega) ?_)
     repeat' (first | exact trivial | exact Y | exact Or.inl Y | exact cwi (by omega) (by omega) (by omega) | refine And.intro ?_ ?_)
     exact z07 _ _ _ _ _ hg Y
   · have h : ¬ i < rr.length := by simpa using h
     have : i = rr.length := by omega
     subst this; refine xr Y (zm Y ⟨⟨Y, ⟨(yh _ _ _ _ (by omega) Y).symm, y05 _ _ _ Y, Or.inl Y⟩, trivial⟩, z6 Y⟩)
theorem y8s (x0 : Int) (x1 : Int) (x2 : Int) (x3 : Int) (x4 : Int) (x5 : List (List Cell)) (h5 : WR 1048576 yl x5) : PC Tryz.prog 319 [.agg [.s (.int .i64 x0), .s (.int .i64 x1), .s (.int .i64 x2), .s (.int .i64 x3), .s (.int .i64 x4), .l x5]] (.one (.own true [.s (.int .i64 x0), .s (.int .i64 x1), .s (.int .i64 x2), .s (.int .i64 x3), .s (.int .i64 x4), .l 2 x5])) := by
 refine PC.begin Tryz.func319 Y (by kernel_rfl) ?_; refine z7 Y (q3o _ _) Y ⟨tv3, trivial⟩ (z7 Y (z48 _ h5) Y ⟨trivial, trivial⟩ ?_); exact xr Y (zm Y ⟨⟨Y, Y, Y, Y, Y, Y, ⟨Y, Y, .inl Y⟩, trivial⟩, z6 Y⟩)
theorem q7i (rr : List (List Cell)) (hw : WR 1048576 zk rr) : PC Tryz.prog 220 [.one (.l rr)] (.one (.own false [.l 6 rr])) := by
 refine PC.begin Tryz.func220 Y (by kernel_rfl) ?_; have hlen := hw.1; refine xs Y Y (xs Y (nn_ _) (xs Y (by omega) (xs Y (by omega) ?_))); refine qc Y (ι := Nat) (fun i => i ≤ rr.length) (fun i => ⟨[(4, sV (.int .i64 i)), (3, .one (.h 7 rr.length)), (0, .one (.b (.l rr)))], [(7, .arr true 6 0 (rr.take i ++ List.replicate (rr.length - i) [.s (.int .i64 0), .s (.int .i64 0), .s (.int .i64 0), .s (.int .i64 0), .s (.int .i64 0), .l []]))]⟩) (fun i => rr.length - i) 0 (Nat.zero_le _) ?_ ?_
 · repeat' (first | exact trivial | exact Y | exact Or.inl Y | refine And.intro ?_ ?_)
 · intro i hi J hJ
   refine xb Y ?_ ?_ <;> intro h
   · have h : i < rr.length := by simpa using h
     obtain ⟨row, hg⟩ := gx h; obtain ⟨x0, x1, x2, x3, x4, x5, rfl, h5⟩ := y19 (hw.2 row (List.mem_of_getElem? hg)); refine xs Y (nn_ _) (y9 Y _ hg (xs Y Y ?_)); refine z7 Y (y8s _ _ _ _ _ _ h5) Y ⟨tv7, trivial⟩ ?_; refine xs Y (yh _ _ _ _ (by omega) Y).symm (xs Y (nn_ _) (y9 Y [.s (.int .i64 0), .s (.int .i64 0), .s (.int .i64 0), .s (.int .i64 0), .s (.int .i64 0), .l []] (yp _ _ _ _ (by omega) Y) (xs Y Y ?_))); refine xs Y (yh _ _ _ _ (by omega) Y).symm (y9 Y [.s (.int .i64 0), .s (.int .i64 0), .s (.int .i64 0), .s (.int .i64 0), .s (.int .i64 0), .l []] (yp _ _ _ _ (by omega) Y) (xs Y (by decide) (xs Y ⟨trivial, trivial, trivial, trivial, trivial, ⟨Y, Y⟩, trivial⟩ ?_))); refine q9 Y (hJ _ (i + 1) (by omega) (by omega) ?_)
     repeat' (first | exact trivial | exact Y | exact Or.inl Y | exact cwi (by omega) (by omega) (by omega) | refine And.intro ?_ ?_)
     exact z07 _ _ _ _ _ hg Y
   · have h : ¬ i < rr.length := by simpa using h
     have : i = rr.length := by omega
     subst this; refine xr Y (zm Y ⟨⟨Y, ⟨(yh _ _ _ _ (by omega) Y).symm, y05 _ _ _ Y, Or.inl Y⟩, trivial⟩, z6 Y⟩)
theorem y4t (x0 : List (List Cell)) (h0 : WR 1048576 zk x0) : PC Tryz.prog 125 [.agg [.l x0]] (.one (.own true [.l 6 x0])) := by
 refine PC.begin Tryz.func125 Y (by kernel_rfl) ?_; refine z7 Y (q7i _ h0) Y ⟨trivial, trivial⟩ ?_; exact xr Y (zm Y ⟨⟨Y, ⟨Y, Y, .inl Y⟩, trivial⟩, z6 Y⟩)
theorem y3y (rr : List (List Cell)) (hw : WR 1048576 z8 rr) : PC Tryz.prog 60 [.one (.l rr)] (.one (.own false [.l 1 rr])) := by
 refine PC.begin Tryz.func60 Y (by kernel_rfl) ?_; have hlen := hw.1; refine xs Y Y (xs Y (nn_ _) (xs Y (by omega) (xs Y (by omega) ?_))); refine qc Y (ι := Nat) (fun i => i ≤ rr.length) (fun i => ⟨[(4, sV (.int .i64 i)), (3, .one (.h 7 rr.length)), (0, .one (.b (.l rr)))], [(7, .arr true 1 0 (rr.take i ++ List.replicate (rr.length - i) [.l []]))]⟩) (fun i => rr.length - i) 0 (Nat.zero_le _) ?_ ?_
 · repeat' (first | exact trivial | exact Y | exact Or.inl Y | refine And.intro ?_ ?_)
 · intro i hi J hJ
   refine xb Y ?_ ?_ <;> intro h
   · have h : i < rr.length := by simpa using h
     obtain ⟨row, hg⟩ := gx h; obtain ⟨x0, rfl, h0⟩ := y04 (hw.2 row (List.mem_of_getElem? hg)); refine xs Y (nn_ _) (y9 Y _ hg (xs Y Y ?_)); refine z7 Y (y4t _ h0) Y ⟨⟨trivial, trivial⟩, trivial⟩ ?_; refine xs Y (yh _ _ _ _ (by omega) Y).symm (xs Y (nn_ _) (y9 Y [.l []] (yp _ _ _ _ (by omega) Y) (xs Y Y ?_))); refine xs Y (yh _ _ _ _ (by omega) Y).symm (y9 Y [.l []] (yp _ _ _ _ (by omega) Y) (xs Y (by decide) (xs Y ⟨⟨Y, Y⟩, trivial⟩ ?_))); refine q9 Y (hJ _ (i + 1) (by omega) (by omega) ?_)
     repeat' (first | exact trivial | exact Y | exact Or.inl Y | exact cwi (by omega) (by omega) (by omega) | refine And.intro ?_ ?_)
     exact z07 _ _ _ _ _ hg Y
   · have h : ¬ i < rr.length := by simpa using h
     have : i = rr.length := by omega
     subst this; refine xr Y (zm Y ⟨⟨Y, ⟨(yh _ _ _ _ (by omega) Y).symm, y05 _ _ _ Y, Or.inl Y⟩, trivial⟩, z6 Y⟩)
theorem q9m (x0 : Int) (x1 : Int) (x2 : Int) (x3 : Int) (x4 : List (List Cell)) (x5 : List (List Cell)) (h4 : WR 1048576 (.i .i64 .nil) x4) (h5 : WR 1048576 yl x5) : PC Tryz.prog 320 [.agg [.s (.int .i64 x0), .s (.int .i64 x1), .s (.int .i64 x2), .s (.int .i64 x3), .l x4, .l x5]] (.one (.own true [.s (.int .i64 x0), .s (.int .i64 x1), .s (.int .i64 x2), .s (.int .i64 x3), .l 1 x4, .l 2 x5])) := by
 refine PC.begin Tryz.func320 Y (by kernel_rfl) ?_; refine z7 Y (y3o _ h4) Y ⟨trivial, trivial⟩ (z7 Y (z48 _ h5) Y ⟨trivial, trivial⟩ ?_); exact xr Y (zm Y ⟨⟨Y, Y, Y, Y, Y, ⟨Y, Y, .inl Y⟩, ⟨Y, Y, .inl Y⟩, trivial⟩, z6 Y⟩)
theorem q8s (rr : List (List Cell)) (hw : WR 1048576 qp rr) : PC Tryz.prog 221 [.one (.l rr)] (.one (.own false [.l 6 rr])) := by
 refine PC.begin Tryz.func221 Y (by kernel_rfl) ?_; have hlen := hw.1; refine xs Y Y (xs Y (nn_ _) (xs Y (by omega) (xs Y (by omega) ?_))); refine qc Y (ι := Nat) (fun i => i ≤ rr.length) (fun i => ⟨[(4, sV (.int .i64 i)), (3, .one (.h 7 rr.length)), (0, .one (.b (.l rr)))], [(7, .arr true 6 0 (rr.take i ++ List.replicate (rr.length - i) [.s (.int .i64 0), .s (.int .i64 0), .s (.int .i64 0), .s (.int .i64 0), .l [], .l []]))]⟩) (fun i => rr.length - i) 0 (Nat.zero_le _) ?_ ?_
 · repeat' (first | exact trivial | exact Y | exact Or.inl Y | refine And.intro ?_ ?_)
 · intro i hi J hJ
   refine xb Y ?_ ?_ <;> intro h
   · have h : i < rr.length := by simpa using h
     obtain ⟨row, hg⟩ := gx h; obtain ⟨x0, x1, x2, x3, x4, x5, rfl, h4, h5⟩ := y1z (hw.2 row (List.mem_of_getElem? hg)); refine xs Y (nn_ _) (y9 Y _ hg (xs Y Y ?_)); refine z7 Y (q9m _ _ _ _ _ _ h4 h5) Y ⟨tv7, trivial⟩ ?_; refine xs Y (yh _ _ _ _ (by omega) Y).symm (xs Y (nn_ _) (y9 Y [.s (.int .i64 0), .s (.int .i64 0), .s (.int .i64 0), .s (.int .i64 0), .l [], .l []] (yp _ _ _ _ (by omega) Y) (xs Y Y ?_))); refine xs Y (yh _ _ _ _ (by omega) Y).symm (y9 Y [.s (.int .i64 0), .s (.int .i64 0), .s (.int .i64 0), .s (.int .i64 0), .l [], .l []] (yp _ _ _ _ (by omega) Y) (xs Y (by decide) (xs Y ⟨trivial, trivial, trivial, trivial, ⟨Y, Y⟩, ⟨Y, Y⟩, trivial⟩ ?_))); refine q9 Y (hJ _ (i + 1) (by omega) (by omega) ?_)
     repeat' (first | exact trivial | exact Y | exact Or.inl Y | exact cwi (by omega) (by omega) (by omega) | refine And.intro ?_ ?_)
     exact z07 _ _ _ _ _ hg Y
   · have h : ¬ i < rr.length := by simpa using h
     have : i = rr.length := by omega
     subst this; refine xr Y (zm Y ⟨⟨Y, ⟨(yh _ _ _ _ (by omega) Y).symm, y05 _ _ _ Y, Or.inl Y⟩, trivial⟩, z6 Y⟩)
theorem z7i (x0 : Int) (x1 : Int) (x2 : Int) (x3 : Int) (x4 : Int)  : PC Tryz.prog 321 [.agg [.s (.int .i64 x0), .s (.int .i64 x1), .s (.int .i64 x2), .s (.int .i64 x3), .s (.int .i64 x4)]] (.one (.own true [.s (.int .i64 x0), .s (.int .i64 x1), .s (.int .i64 x2), .s (.int .i64 x3), .s (.int .i64 x4)])) := by
 refine PC.begin Tryz.func321 Y (by kernel_rfl) ?_; exact xr Y (zm Y ⟨⟨Y, Y, Y, Y, Y, Y, trivial⟩, z6 Y⟩)
theorem q6b (rr : List (List Cell)) (hw : WR 1048576 zn rr) : PC Tryz.prog 222 [.one (.l rr)] (.one (.own false [.l 5 rr])) := by
 refine PC.begin Tryz.func222 Y (by kernel_rfl) ?_; have hlen := hw.1; refine xs Y Y (xs Y (nn_ _) (xs Y (by omega) (xs Y (by omega) ?_))); refine qc Y (ι := Nat) (fun i => i ≤ rr.length) (fun i => ⟨[(4, sV (.int .i64 i)), (3, .one (.h 7 rr.length)), (0, .one (.b (.l rr)))], [(7, .arr true 5 0 (rr.take i ++ List.replicate (rr.length - i) [.s (.int .i64 0), .s (.int .i64 0), .s (.int .i64 0), .s (.int .i64 0), .s (.int .i64 0)]))]⟩) (fun i => rr.length - i) 0 (Nat.zero_le _) ?_ ?_
 · repeat' (first | exact trivial | exact Y | exact Or.inl Y | refine And.intro ?_ ?_)
 · intro i hi J hJ
   refine xb Y ?_ ?_ <;> intro h
   · have h : i < rr.length := by simpa using h
     obtain ⟨row, hg⟩ := gx h; obtain ⟨x0, x1, x2, x3, x4, rfl⟩ := z0r (hw.2 row (List.mem_of_getElem? hg)); refine xs Y (nn_ _) (y9 Y _ hg (xs Y Y ?_)); refine z7 Y (z7i _ _ _ _ _) Y ⟨tv6, trivial⟩ ?_; refine xs Y (yh _ _ _ _ (by omega) Y).symm (xs Y (nn_ _) (y9 Y [.s (.int .i64 0), .s (.int .i64 0), .s (.int .i64 0), .s (.int .i64 0), .s (.int .i64 0)] (yp _ _ _ _ (by omega) Y) (xs Y Y ?_))); refine xs Y (yh _ _ _ _ (by omega) Y).symm (y9 Y [.s (.int .i64 0), .s (.int .i64 0), .s (.int .i64 0), .s (.int .i64 0), .s (.int .i64 0)] (yp _ _ _ _ (by omega) Y) (xs Y (by decide) (xs Y tv6 ?_))); refine q9 Y (hJ _ (i + 1) (by omega) (by omega) ?_)
     repeat' (first | exact trivial | exact Y | exact Or.inl Y | exact cwi (by omega) (by omega) (by omega) | refine And.intro ?_ ?_)
     exact z07 _ _ _ _ _ hg Y
   · have h : ¬ i < rr.length := by simpa using h
     have : i = rr.length := by omega
     subst this; refine xr Y (zm Y ⟨⟨Y, ⟨(yh _ _ _ _ (by omega) Y).symm, y05 _ _ _ Y, Or.inl Y⟩, trivial⟩, z6 Y⟩)
theorem z6c (x0 : Int) (x1 : List (List Cell)) (x2 : List (List Cell)) (h1 : WR 1048576 qp x1) (h2 : WR 1048576 zn x2) : PC Tryz.prog 126 [.agg [.s (.int .i64 x0), .l x1, .l x2]] (.one (.own true [.s (.int .i64 x0), .l 6 x1, .l 5 x2])) := by
 refine PC.begin Tryz.func126 Y (by kernel_rfl) ?_; refine z7 Y (q8s _ h1) Y ⟨trivial, trivial⟩ (z7 Y (q6b _ h2) Y ⟨trivial, trivial⟩ ?_); exact xr Y (zm Y ⟨⟨Y, Y, ⟨Y, Y, .inl Y⟩, ⟨Y, Y, .inl Y⟩, trivial⟩, z6 Y⟩)
theorem z5l (rr : List (List Cell)) (hw : WR 1048576 qa rr) : PC Tryz.prog 61 [.one (.l rr)] (.one (.own false [.l 3 rr])) := by
 refine PC.begin Tryz.func61 Y (by kernel_rfl) ?_; have hlen := hw.1; refine xs Y Y (xs Y (nn_ _) (xs Y (by omega) (xs Y (by omega) ?_))); refine qc Y (ι := Nat) (fun i => i ≤ rr.length) (fun i => ⟨[(4, sV (.int .i64 i)), (3, .one (.h 7 rr.length)), (0, .one (.b (.l rr)))], [(7, .arr true 3 0 (rr.take i ++ List.replicate (rr.length - i) [.s (.int .i64 0), .l [], .l []]))]⟩) (fun i => rr.length - i) 0 (Nat.zero_le _) ?_ ?_
 · repeat' (first | exact trivial | exact Y | exact Or.inl Y | refine And.intro ?_ ?_)
 · intro i hi J hJ
   refine xb Y ?_ ?_ <;> intro h
   · have h : i < rr.length := by simpa using h
     obtain ⟨row, hg⟩ := gx h; obtain ⟨x0, x1, x2, rfl, h1, h2⟩ := q0f (hw.2 row (List.mem_of_getElem? hg)); refine xs Y (nn_ _) (y9 Y _ hg (xs Y Y ?_)); refine z7 Y (z6c _ _ _ h1 h2) Y ⟨tv4, trivial⟩ ?_; refine xs Y (yh _ _ _ _ (by omega) Y).symm (xs Y (nn_ _) (y9 Y [.s (.int .i64 0), .l [], .l []] (yp _ _ _ _ (by omega) Y) (xs Y Y ?_))); refine xs Y (yh _ _ _ _ (by omega) Y).symm (y9 Y [.s (.int .i64 0), .l [], .l []] (yp _ _ _ _ (by omega) Y) (xs Y (by decide) (xs Y ⟨trivial, ⟨Y, Y⟩, ⟨Y, Y⟩, trivial⟩ ?_))); refine q9 Y (hJ _ (i + 1) (by omega) (by omega) ?_)
     repeat' (first | exact trivial | exact Y | exact Or.inl Y | exact cwi (by omega) (by omega) (by omega) | refine And.intro ?_ ?_)
     exact z07 _ _ _ _ _ hg Y
   · have h : ¬ i < rr.length := by simpa using h
     have : i = rr.length := by omega
     subst this; refine xr Y (zm Y ⟨⟨Y, ⟨(yh _ _ _ _ (by omega) Y).symm, y05 _ _ _ Y, Or.inl Y⟩, trivial⟩, z6 Y⟩)
theorem y5l (x0 : Int) (x1 : Int) (x2 : Int) (x3 : Int) (x4 : Int) (x5 : Int) (x6 : Int) (x7 : Int) (x8 : Int)  : PC Tryz.prog 127 [.agg [.s (.int .i64 x0), .s (.int .i64 x1), .s (.int .i64 x2), .s (.int .i64 x3), .s (.int .i64 x4), .s (.int .i64 x5), .s (.int .i64 x6), .s (.int .i64 x7), .s (.int .i64 x8)]] (.one (.own true [.s (.int .i64 x0), .s (.int .i64 x1), .s (.int .i64 x2), .s (.int .i64 x3), .s (.int .i64 x4), .s (.int .i64 x5), .s (.int .i64 x6), .s (.int .i64 x7), .s (.int .i64 x8)])) := by
 refine PC.begin Tryz.func127 Y (by kernel_rfl) ?_; refine z7 Y (q3o _ _) Y ⟨tv3, trivial⟩ ?_; exact xr Y (zm Y ⟨⟨Y, Y, Y, Y, Y, Y, Y, Y, Y, Y, trivial⟩, z6 Y⟩)
theorem z4u (rr : List (List Cell)) (hw : WR 1048576 qb rr) : PC Tryz.prog 62 [.one (.l rr)] (.one (.own false [.l 9 rr])) := by
 refine PC.begin Tryz.func62 Y (by kernel_rfl) ?_; have hlen := hw.1; refine xs Y Y (xs Y (nn_ _) (xs Y (by omega) (xs Y (by omega) ?_))); refine qc Y (ι := Nat) (fun i => i ≤ rr.length) (fun i => ⟨[(4, sV (.int .i64 i)), (3, .one (.h 7 rr.length)), (0, .one (.b (.l rr)))], [(7, .arr true 9 0 (rr.take i ++ List.replicate (rr.length - i) [.s (.int .i64 0), .s (.int .i64 0), .s (.int .i64 0), .s (.int .i64 0), .s (.int .i64 0), .s (.int .i64 0), .s (.int .i64 0), .s (.int .i64 0), .s (.int .i64 0)]))]⟩) (fun i => rr.length - i) 0 (Nat.zero_le _) ?_ ?_
 · repeat' (first | exact trivial | exact Y | exact Or.inl Y | refine And.intro ?_ ?_)
 · intro i hi J hJ
   refine xb Y ?_ ?_ <;> intro h
   · have h : i < rr.length := by simpa using h
     obtain ⟨row, hg⟩ := gx h; obtain ⟨x0, x1, x2, x3, x4, x5, x6, x7, x8, rfl⟩ := q09 (hw.2 row (List.mem_of_getElem? hg)); refine xs Y (nn_ _) (y9 Y _ hg (xs Y Y ?_)); refine z7 Y (y5l _ _ _ _ _ _ _ _ _) Y ⟨tv10, trivial⟩ ?_; refine xs Y (yh _ _ _ _ (by omega) Y).symm (xs Y (nn_ _) (y9 Y [.s (.int .i64 0), .s (.int .i64 0), .s (.int .i64 0), .s (.int .i64 0), .s (.int .i64 0), .s (.int .i64 0), .s (.int .i64 0), .s (.int .i64 0), .s (.int .i64 0)] (yp _ _ _ _ (by omega) Y) (xs Y Y ?_))); refine xs Y (yh _ _ _ _ (by omega) Y).symm (y9 Y [.s (.int .i64 0), .s (.int .i64 0), .s (.int .i64 0), .s (.int .i64 0), .s (.int .i64 0), .s (.int .i64 0), .s (.int .i64 0), .s (.int .i64 0), .s (.int .i64 0)] (yp _ _ _ _ (by omega) Y) (xs Y (by decide) (xs Y tv10 ?_))); refine q9 Y (hJ _ (i + 1) (by omega) (by omega) ?_)
     repeat' (first | exact trivial | exact Y | exact Or.inl Y | exact cwi (by omega) (by omega) (by omega) | refine And.intro ?_ ?_)
     exact z07 _ _ _ _ _ hg Y
   · have h : ¬ i < rr.length := by simpa using h
     have : i = rr.length := by omega
     subst this; refine xr Y (zm Y ⟨⟨Y, ⟨(yh _ _ _ _ (by omega) Y).symm, y05 _ _ _ Y, Or.inl Y⟩, trivial⟩, z6 Y⟩)
theorem q5k (x0 : List (List Cell)) (x1 : List (List Cell)) (x2 : List (List Cell)) (x3 : List (List Cell)) (x4 : List (List Cell)) (h0 : WR 1048576 q7 x0) (h1 : WR 1048576 zb x1) (h2 : WR 1048576 z8 x2) (h3 : WR 1048576 qa x3) (h4 : WR 1048576 qb x4) : PC Tryz.prog 12 [.agg [.l x0, .l x1, .l x2, .l x3, .l x4]] (.one (.own true [.l 2 x0, .l 6 x1, .l 1 x2, .l 3 x3, .l 9 x4])) := by
 refine PC.begin Tryz.func12 Y (by kernel_rfl) ?_; refine z7 Y (y1w _ h0) Y ⟨trivial, trivial⟩ (z7 Y (y6c _ h1) Y ⟨trivial, trivial⟩ (z7 Y (y3y _ h2) Y ⟨trivial, trivial⟩ (z7 Y (z5l _ h3) Y ⟨trivial, trivial⟩ (z7 Y (z4u _ h4) Y ⟨trivial, trivial⟩ ?_)))); exact xr Y (zm Y ⟨⟨Y, ⟨Y, Y, .inl Y⟩, ⟨Y, Y, .inl Y⟩, ⟨Y, Y, .inl Y⟩, ⟨Y, Y, .inl Y⟩, ⟨Y, Y, .inl Y⟩, trivial⟩, z6 Y⟩)
end Go.Proofs.YtjdiongbbijdpaaGreat
end
section
namespace Go.Proofs.YtjdiongbbijdpaaGreat
open Go Go.Sx
set_option maxRecDepth 20000
set_option maxHeartbeats 4000000
theorem y3e (z : Nat) (rr : List (List Cell)) (k : Int) (hw : WR 9000000000000000000 qs rr) : PG Tryz.prog 34 [.one (.giv true z rr), .one (.bor (i64 k))] (rI (mkR (mk qs) rr k).2) [(0, (mkR (mk qs) rr k).1)] := by
 refine PG.begin Tryz.func34 Y (by kernel_rfl) ?_; have hlen := hw.1; refine qc Y (ι := Nat) (fun i => i ≤ rr.length) (fun i => ⟨[(5, sV (.int .i64 i)), (1, sV (.int .i64 (mdk (mk qs) rr k i))), (0, .one (.h 1000000000 rr.length))], [(1000000000, .arr true z 0 (md (mk qs) rr k i))]⟩) (fun i => rr.length - i) 0 (Nat.zero_le _) ?_ ?_
 · exact ⟨⟨Y, congrArg (fun n => Cell.s (.int .i64 n)) y06.symm, I, trivial⟩, ⟨⟨q0g.symm, .inl Y, .inl Y⟩, trivial⟩, Y⟩
 · intro i hi J hJ
   refine xb Y ?_ ?_ <;> intro h
   · have h : i < rr.length := by simpa using h
     obtain ⟨row, hg⟩ := gx h; obtain ⟨x0, x1, x2, x3, rfl⟩ := z1z (hw.2 row (List.mem_of_getElem? hg)); have hl := q12 (f := (mk qs)) (k := k) hi; have hg0 := y12 (f := (mk qs)) (k := k) hg; have hlt : i < (md (mk qs) rr k i).length := by omega
     refine xs Y (hl).symm (xs Y (nn_ _) (y9 Y _ hg0 (xs Y Y (xs Y (hl).symm (y9 Y _ hg0 (xs Y (by show 0 + 1 ≤ 4; omega) (xs Y ⟨trivial, trivial⟩ ?_))))))); refine xs Y (yd (hl)).symm (xs Y (nn_ _) (y9 Y _ (z00 (hl) h) (xs Y Y (xs Y (yd (hl)).symm (y9 Y _ (z00 (hl) h) (xs Y (by show 1 + 1 ≤ 4; omega) (xs Y ⟨trivial, trivial⟩ ?_))))))); refine xs Y (yd (yd (hl))).symm (xs Y (nn_ _) (y9 Y _ (z00 (yd (hl)) h) (xs Y Y (xs Y (yd (yd (hl))).symm (y9 Y _ (z00 (yd (hl)) h) (xs Y (by show 2 + 1 ≤ 4; omega) (xs Y ⟨trivial, trivial⟩ ?_))))))); refine xs Y (yd (yd (yd (hl)))).symm (xs Y (nn_ _) (y9 Y _ (z00 (yd (yd (hl))) h) (xs Y Y (xs Y (yd (yd (yd (hl)))).symm (y9 Y _ (z00 (yd (yd (hl))) h) (xs Y (by show 3 + 1 ≤ 4; omega) (xs Y ⟨trivial, trivial⟩ ?_))))))); refine q9 Y (hJ _ (i + 1) (by omega) (by omega) ?_); refine ⟨⟨cwi (by omega) (by omega) (by omega), ?_, I, trivial⟩, ⟨⟨?_, .inl Y, .inl Y⟩, trivial⟩, Y⟩
     · rw [z06 hg]; rfl
     · refine Eq.trans ?_ (z13 hg)
       try simp only [Int.toNat_natCast, zx hg0, ssr hlt, List.set_set]
       rfl
   · have h : ¬ i < rr.length := by simpa using h
     have : i = rr.length := by omega
     subst this; exact xr Y (y1t Y ⟨⟨Y, congrArg (Value.int .i64) z0h, trivial⟩, z6 Y⟩ ⟨⟨Y, Y, z12, qn _ _ _, qq hw⟩, trivial⟩)
theorem q1c (z : Nat) (rr : List (List Cell)) (k : Int) (hw : WR 9000000000000000000 q7 rr) : PG Tryz.prog 71 [.one (.giv true z rr), .one (.bor (i64 k))] (rI (mkR (mk q7) rr k).2) [(0, (mkR (mk q7) rr k).1)] := by
 refine PG.begin Tryz.func71 Y (by kernel_rfl) ?_; have hlen := hw.1; refine qc Y (ι := Nat) (fun i => i ≤ rr.length) (fun i => ⟨[(5, sV (.int .i64 i)), (1, sV (.int .i64 (mdk (mk q7) rr k i))), (0, .one (.h 1000000000 rr.length))], [(1000000000, .arr true z 0 (md (mk q7) rr k i))]⟩) (fun i => rr.length - i) 0 (Nat.zero_le _) ?_ ?_
 · exact ⟨⟨Y, congrArg (fun n => Cell.s (.int .i64 n)) y06.symm, I, trivial⟩, ⟨⟨q0g.symm, .inl Y, .inl Y⟩, trivial⟩, Y⟩
 · intro i hi J hJ
   refine xb Y ?_ ?_ <;> intro h
   · have h : i < rr.length := by simpa using h
     obtain ⟨row, hg⟩ := gx h; obtain ⟨x0, x1, rfl, h1⟩ := yu (hw.2 row (List.mem_of_getElem? hg)); have hl := q12 (f := (mk q7)) (k := k) hi; have hg0 := y12 (f := (mk q7)) (k := k) hg; have hlt : i < (md (mk q7) rr k i).length := by omega
     refine xs Y (hl).symm (xs Y (nn_ _) (y9 Y _ hg0 (xs Y Y (xs Y (hl).symm (y9 Y _ hg0 (xs Y (by show 0 + 1 ≤ 2; omega) (xs Y ⟨trivial, trivial⟩ ?_))))))); refine xs Y (yd (hl)).symm (xs Y (nn_ _) (y9 Y _ (z00 (hl) h) (xs Y Y (xs Y (yd (hl)).symm (y9 Y _ (z00 (hl) h) ?_))))); refine z0k Y (y3e 0 _ _ h1) ⟨⟨Y, Y, Y, _, (z00 (hl) h), Y⟩, Y, trivial⟩ Y ?_; refine q9 Y (hJ _ (i + 1) (by omega) (by omega) ?_); refine ⟨⟨cwi (by omega) (by omega) (by omega), ?_, I, trivial⟩, ⟨⟨?_, .inl Y, .inl Y⟩, trivial⟩, Y⟩
     · rw [z06 hg]; rfl
     · refine Eq.trans ?_ (z13 hg)
       try simp only [Int.toNat_natCast, zx hg0, ssr hlt, List.set_set]
       rfl
   · have h : ¬ i < rr.length := by simpa using h
     have : i = rr.length := by omega
     subst this; exact xr Y (y1t Y ⟨⟨Y, congrArg (Value.int .i64) z0h, trivial⟩, z6 Y⟩ ⟨⟨Y, Y, z12, qn _ _ _, qq hw⟩, trivial⟩)
theorem q3d (z : Nat) (rr : List (List Cell)) (k : Int) (hw : WR 9000000000000000000 qd rr) : PG Tryz.prog 142 [.one (.giv true z rr), .one (.bor (i64 k))] (rI (mkR (mk qd) rr k).2) [(0, (mkR (mk qd) rr k).1)] := by
 refine PG.begin Tryz.func142 Y (by kernel_rfl) ?_; have hlen := hw.1; refine qc Y (ι := Nat) (fun i => i ≤ rr.length) (fun i => ⟨[(5, sV (.int .i64 i)), (1, sV (.int .i64 (mdk (mk qd) rr k i))), (0, .one (.h 1000000000 rr.length))], [(1000000000, .arr true z 0 (md (mk qd) rr k i))]⟩) (fun i => rr.length - i) 0 (Nat.zero_le _) ?_ ?_
 · exact ⟨⟨Y, congrArg (fun n => Cell.s (.int .i64 n)) y06.symm, I, trivial⟩, ⟨⟨q0g.symm, .inl Y, .inl Y⟩, trivial⟩, Y⟩
 · intro i hi J hJ
   refine xb Y ?_ ?_ <;> intro h
   · have h : i < rr.length := by simpa using h
     obtain ⟨row, hg⟩ := gx h; obtain ⟨x0, x1, x2, rfl⟩ := y09 (hw.2 row (List.mem_of_getElem? hg)); have hl := q12 (f := (mk qd)) (k := k) hi; have hg0 := y12 (f := (mk qd)) (k := k) hg; have hlt : i < (md (mk qd) rr k i).length := by omega
     refine xs Y (hl).symm (xs Y (nn_ _) (y9 Y _ hg0 (xs Y Y (xs Y (hl).symm (y9 Y _ hg0 (xs Y (by show 0 + 1 ≤ 3; omega) (xs Y ⟨trivial, trivial⟩ ?_))))))); refine xs Y (yd (hl)).symm (xs Y (nn_ _) (y9 Y _ (z00 (hl) h) (xs Y Y (xs Y (yd (hl)).symm (y9 Y _ (z00 (hl) h) (xs Y (by show 1 + 1 ≤ 3; omega) (xs Y ⟨trivial, trivial⟩ ?_))))))); refine xs Y (yd (yd (hl))).symm (xs Y (nn_ _) (y9 Y _ (z00 (yd (hl)) h) (xs Y Y (xs Y (yd (yd (hl))).symm (y9 Y _ (z00 (yd (hl)) h) (xs Y (by show 2 + 1 ≤ 3; omega) (xs Y ⟨trivial, trivial⟩ ?_))))))); refine q9 Y (hJ _ (i + 1) (by omega) (by omega) ?_); refine ⟨⟨cwi (by omega) (by omega) (by omega), ?_, I, trivial⟩, ⟨⟨?_, .inl Y, .inl Y⟩, trivial⟩, Y⟩
     · rw [z06 hg]; rfl
     · refine Eq.trans ?_ (z13 hg)
       try simp only [Int.toNat_natCast, zx hg0, ssr hlt, List.set_set]
       rfl
   · have h : ¬ i < rr.length := by simpa using h
     have : i = rr.length := by omega
     subst this; exact xr Y (y1t Y ⟨⟨Y, congrArg (Value.int .i64) z0h, trivial⟩, z6 Y⟩ ⟨⟨Y, Y, z12, qn _ _ _, qq hw⟩, trivial⟩)
theorem y2r (z : Nat) (rr : List (List Cell)) (k : Int) (hw : WR 9000000000000000000 zh rr) : PG Tryz.prog 143 [.one (.giv true z rr), .one (.bor (i64 k))] (rI (mkR (mk zh) rr k).2) [(0, (mkR (mk zh) rr k).1)] := by
 refine PG.begin Tryz.func143 Y (by kernel_rfl) ?_; have hlen := hw.1; refine qc Y (ι := Nat) (fun i => i ≤ rr.length) (fun i => ⟨[(5, sV (.int .i64 i)), (1, sV (.int .i64 (mdk (mk zh) rr k i))), (0, .one (.h 1000000000 rr.length))], [(1000000000, .arr true z 0 (md (mk zh) rr k i))]⟩) (fun i => rr.length - i) 0 (Nat.zero_le _) ?_ ?_
 · exact ⟨⟨Y, congrArg (fun n => Cell.s (.int .i64 n)) y06.symm, I, trivial⟩, ⟨⟨q0g.symm, .inl Y, .inl Y⟩, trivial⟩, Y⟩
 · intro i hi J hJ
   refine xb Y ?_ ?_ <;> intro h
   · have h : i < rr.length := by simpa using h
     obtain ⟨row, hg⟩ := gx h; obtain ⟨x0, x1, rfl⟩ := z19 (hw.2 row (List.mem_of_getElem? hg)); have hl := q12 (f := (mk zh)) (k := k) hi; have hg0 := y12 (f := (mk zh)) (k := k) hg; have hlt : i < (md (mk zh) rr k i).length := by omega
     refine xs Y (hl).symm (xs Y (nn_ _) (y9 Y _ hg0 (xs Y Y (xs Y (hl).symm (y9 Y _ hg0 (xs Y (by show 0 + 1 ≤ 2; omega) (xs Y ⟨trivial, trivial⟩ ?_))))))); refine xs Y (yd (hl)).symm (xs Y (nn_ _) (y9 Y _ (z00 (hl) h) (xs Y Y (xs Y (yd (hl)).symm (y9 Y _ (z00 (hl) h) (xs Y (by show 1 + 1 ≤ 2; omega) (xs Y ⟨trivial, trivial⟩ ?_))))))); refine q9 Y (hJ _ (i + 1) (by omega) (by omega) ?_); refine ⟨⟨cwi (by omega) (by omega) (by omega), ?_, I, trivial⟩, ⟨⟨?_, .inl Y, .inl Y⟩, trivial⟩, Y⟩
     · rw [z06 hg]; rfl
     · refine Eq.trans ?_ (z13 hg)
       try simp only [Int.toNat_natCast, zx hg0, ssr hlt, List.set_set]
       rfl
   · have h : ¬ i < rr.length := by simpa using h
     have : i = rr.length := by omega
     subst this; exact xr Y (y1t Y ⟨⟨Y, congrArg (Value.int .i64) z0h, trivial⟩, z6 Y⟩ ⟨⟨Y, Y, z12, qn _ _ _, qq hw⟩, trivial⟩)
theorem q2a (z : Nat) (rr : List (List Cell)) (k : Int) (hw : WR 9000000000000000000 (.i .i64 .nil) rr) : PG Tryz.prog 99 [.one (.giv true z rr), .one (.bor (i64 k))] (rI (mkR (mk (.i .i64 .nil)) rr k).2) [(0, (mkR (mk (.i .i64 .nil)) rr k).1)] := by
 refine PG.begin Tryz.func99 Y (by kernel_rfl) ?_; have hlen := hw.1; refine qc Y (ι := Nat) (fun i => i ≤ rr.length) (fun i => ⟨[(5, sV (.int .i64 i)), (1, sV (.int .i64 (mdk (mk (.i .i64 .nil)) rr k i))), (0, .one (.h 1000000000 rr.length))], [(1000000000, .arr true z 0 (md (mk (.i .i64 .nil)) rr k i))]⟩) (fun i => rr.length - i) 0 (Nat.zero_le _) ?_ ?_
 · exact ⟨⟨Y, congrArg (fun n => Cell.s (.int .i64 n)) y06.symm, I, trivial⟩, ⟨⟨q0g.symm, .inl Y, .inl Y⟩, trivial⟩, Y⟩
 · intro i hi J hJ
   refine xb Y ?_ ?_ <;> intro h
   · have h : i < rr.length := by simpa using h
     obtain ⟨row, hg⟩ := gx h; obtain ⟨x0, _, rfl, hnil⟩ := ((hw.2 row (List.mem_of_getElem? hg))).yy; obtain rfl := hnil.q00; have hl := q12 (f := (mk (.i .i64 .nil))) (k := k) hi; have hg0 := y12 (f := (mk (.i .i64 .nil))) (k := k) hg; have hlt : i < (md (mk (.i .i64 .nil)) rr k i).length := by omega
     refine xs Y (hl).symm (xs Y (nn_ _) (y9 Y _ hg0 (xs Y Y (xs Y (hl).symm (y9 Y _ hg0 (xs Y (by show 0 + 1 ≤ 1; omega) (xs Y ⟨trivial, trivial⟩ ?_))))))); refine q9 Y (hJ _ (i + 1) (by omega) (by omega) ?_); refine ⟨⟨cwi (by omega) (by omega) (by omega), ?_, I, trivial⟩, ⟨⟨?_, .inl Y, .inl Y⟩, trivial⟩, Y⟩
     · rw [z06 hg]; rfl
     · refine Eq.trans ?_ (z13 hg)
       try simp only [Int.toNat_natCast, zx hg0, ssr hlt, List.set_set]
       rfl
   · have h : ¬ i < rr.length := by simpa using h
     have : i = rr.length := by omega
     subst this; exact xr Y (y1t Y ⟨⟨Y, congrArg (Value.int .i64) z0h, trivial⟩, z6 Y⟩ ⟨⟨Y, Y, z12, qn _ _ _, qq hw⟩, trivial⟩)
theorem q4m (z : Nat) (rr : List (List Cell)) (k : Int) (hw : WR 9000000000000000000 zb rr) : PG Tryz.prog 72 [.one (.giv true z rr), .one (.bor (i64 k))] (rI (mkR (mk zb) rr k).2) [(0, (mkR (mk zb) rr k).1)] := by
 refine PG.begin Tryz.func72 Y (by kernel_rfl) ?_; have hlen := hw.1; refine qc Y (ι := Nat) (fun i => i ≤ rr.length) (fun i => ⟨[(5, sV (.int .i64 i)), (1, sV (.int .i64 (mdk (mk zb) rr k i))), (0, .one (.h 1000000000 rr.length))], [(1000000000, .arr true z 0 (md (mk zb) rr k i))]⟩) (fun i => rr.length - i) 0 (Nat.zero_le _) ?_ ?_
 · exact ⟨⟨Y, congrArg (fun n => Cell.s (.int .i64 n)) y06.symm, I, trivial⟩, ⟨⟨q0g.symm, .inl Y, .inl Y⟩, trivial⟩, Y⟩
 · intro i hi J hJ
   refine xb Y ?_ ?_ <;> intro h
   · have h : i < rr.length := by simpa using h
     obtain ⟨row, hg⟩ := gx h; obtain ⟨x0, x1, x2, x3, x4, x5, rfl, h1, h2, h3, h4, h5⟩ := y0r (hw.2 row (List.mem_of_getElem? hg)); have hl := q12 (f := (mk zb)) (k := k) hi; have hg0 := y12 (f := (mk zb)) (k := k) hg; have hlt : i < (md (mk zb) rr k i).length := by omega
     refine xs Y (hl).symm (xs Y (nn_ _) (y9 Y _ hg0 (xs Y Y (xs Y (hl).symm (y9 Y _ hg0 (xs Y (by show 0 + 1 ≤ 6; omega) (xs Y ⟨trivial, trivial⟩ ?_))))))); refine xs Y (yd (hl)).symm (xs Y (nn_ _) (y9 Y _ (z00 (hl) h) (xs Y Y (xs Y (yd (hl)).symm (y9 Y _ (z00 (hl) h) ?_))))); refine z0k Y (q3d 0 _ _ h1) ⟨⟨Y, Y, Y, _, (z00 (hl) h), Y⟩, Y, trivial⟩ Y ?_; refine xs Y (lsr (yd (hl))).symm (xs Y (nn_ _) (y9 Y _ (yf (z00 (hl) h)) (xs Y Y (xs Y (lsr (yd (hl))).symm (y9 Y _ (yf (z00 (hl) h)) ?_))))); refine z0k Y (y2r 0 _ _ h2) ⟨⟨Y, Y, Y, _, (yf (z00 (hl) h)), Y⟩, Y, trivial⟩ Y ?_; refine xs Y (lsr (lsr (yd (hl)))).symm (xs Y (nn_ _) (y9 Y _ (yf (yf (z00 (hl) h))) (xs Y Y (xs Y (lsr (lsr (yd (hl)))).symm (y9 Y _ (yf (yf (z00 (hl) h))) ?_))))); refine z0k Y (q1c 0 _ _ h3) ⟨⟨Y, Y, Y, _, (yf (yf (z00 (hl) h))), Y⟩, Y, trivial⟩ Y ?_; refine xs Y (lsr (lsr (lsr (yd (hl))))).symm (xs Y (nn_ _) (y9 Y _ (yf (yf (yf (z00 (hl) h)))) (xs Y Y (xs Y (lsr (lsr (lsr (yd (hl))))).symm (y9 Y _ (yf (yf (yf (z00 (hl) h)))) ?_))))); refine z0k Y (y2r 0 _ _ h4) ⟨⟨Y, Y, Y, _, (yf (yf (yf (z00 (hl) h)))), Y⟩, Y, trivial⟩ Y ?_; refine xs Y (lsr (lsr (lsr (lsr (yd (hl)))))).symm (xs Y (nn_ _) (y9 Y _ (yf (yf (yf (yf (z00 (hl) h))))) (xs Y Y (xs Y (lsr (lsr (lsr (lsr (yd (hl)))))).symm (y9 Y _ (yf (yf (yf (yf (z00 (hl) h))))) ?_))))); refine z0k Y (q2a 0 _ _ h5) ⟨⟨Y, Y, Y, _, (yf (yf (yf (yf (z00 (hl) h))))), Y⟩, Y, trivial⟩ Y ?_; refine q9 Y (hJ _ (i + 1) (by omega) (by omega) ?_); refine ⟨⟨cwi (by omega) (by omega) (by omega), ?_, I, trivial⟩, ⟨⟨?_, .inl Y, .inl Y⟩, trivial⟩, Y⟩
     · rw [z06 hg]; rfl
     · refine Eq.trans ?_ (z13 hg)
       try simp only [Int.toNat_natCast, zx hg0, ssr hlt, List.set_set]
       rfl
   · have h : ¬ i < rr.length := by simpa using h
     have : i = rr.length := by omega
     subst this; exact xr Y (y1t Y ⟨⟨Y, congrArg (Value.int .i64) z0h, trivial⟩, z6 Y⟩ ⟨⟨Y, Y, z12, qn _ _ _, qq hw⟩, trivial⟩)
theorem q2r (z : Nat) (rr : List (List Cell)) (k : Int) (hw : WR 9000000000000000000 yl rr) : PG Tryz.prog 247 [.one (.giv true z rr), .one (.bor (i64 k))] (rI (mkR (mk yl) rr k).2) [(0, (mkR (mk yl) rr k).1)] := by
 refine PG.begin Tryz.func247 Y (by kernel_rfl) ?_; have hlen := hw.1; refine qc Y (ι := Nat) (fun i => i ≤ rr.length) (fun i => ⟨[(5, sV (.int .i64 i)), (1, sV (.int .i64 (mdk (mk yl) rr k i))), (0, .one (.h 1000000000 rr.length))], [(1000000000, .arr true z 0 (md (mk yl) rr k i))]⟩) (fun i => rr.length - i) 0 (Nat.zero_le _) ?_ ?_
 · exact ⟨⟨Y, congrArg (fun n => Cell.s (.int .i64 n)) y06.symm, I, trivial⟩, ⟨⟨q0g.symm, .inl Y, .inl Y⟩, trivial⟩, Y⟩
 · intro i hi J hJ
   refine xb Y ?_ ?_ <;> intro h
   · have h : i < rr.length := by simpa using h
     obtain ⟨row, hg⟩ := gx h; obtain ⟨x0, x1, rfl⟩ := q19 (hw.2 row (List.mem_of_getElem? hg)); have hl := q12 (f := (mk yl)) (k := k) hi; have hg0 := y12 (f := (mk yl)) (k := k) hg; have hlt : i < (md (mk yl) rr k i).length := by omega
     refine xs Y (hl).symm (xs Y (nn_ _) (y9 Y _ hg0 (xs Y Y (xs Y (hl).symm (y9 Y _ hg0 (xs Y (by show 0 + 1 ≤ 2; omega) (xs Y ⟨trivial, trivial⟩ ?_))))))); refine xs Y (yd (hl)).symm (xs Y (nn_ _) (y9 Y _ (z00 (hl) h) (xs Y Y (xs Y (yd (hl)).symm (y9 Y _ (z00 (hl) h) (xs Y (by show 1 + 1 ≤ 2; omega) (xs Y ⟨trivial, trivial⟩ ?_))))))); refine q9 Y (hJ _ (i + 1) (by omega) (by omega) ?_); refine ⟨⟨cwi (by omega) (by omega) (by omega), ?_, I, trivial⟩, ⟨⟨?_, .inl Y, .inl Y⟩, trivial⟩, Y⟩
     · rw [z06 hg]; rfl
     · refine Eq.trans ?_ (z13 hg)
       try simp only [Int.toNat_natCast, zx hg0, ssr hlt, List.set_set]
       rfl
   · have h : ¬ i < rr.length := by simpa using h
     have : i = rr.length := by omega
     subst this; exact xr Y (y1t Y ⟨⟨Y, congrArg (Value.int .i64) z0h, trivial⟩, z6 Y⟩ ⟨⟨Y, Y, z12, qn _ _ _, qq hw⟩, trivial⟩)
theorem z5b (z : Nat) (rr : List (List Cell)) (k : Int) (hw : WR 9000000000000000000 zk rr) : PG Tryz.prog 144 [.one (.giv true z rr), .one (.bor (i64 k))] (rI (mkR (mk zk) rr k).2) [(0, (mkR (mk zk) rr k).1)] := by
 refine PG.begin Tryz.func144 Y (by kernel_rfl) ?_; have hlen := hw.1; refine qc Y (ι := Nat) (fun i => i ≤ rr.length) (fun i => ⟨[(5, sV (.int .i64 i)), (1, sV (.int .i64 (mdk (mk zk) rr k i))), (0, .one (.h 1000000000 rr.length))], [(1000000000, .arr true z 0 (md (mk zk) rr k i))]⟩) (fun i => rr.length - i) 0 (Nat.zero_le _) ?_ ?_
 · exact ⟨⟨Y, congrArg (fun n => Cell.s (.int .i64 n)) y06.symm, I, trivial⟩, ⟨⟨q0g.symm, .inl Y, .inl Y⟩, trivial⟩, Y⟩
 · intro i hi J hJ
   refine xb Y ?_ ?_ <;> intro h
   · have h : i < rr.length := by simpa using h
     obtain ⟨row, hg⟩ := gx h; obtain ⟨x0, x1, x2, x3, x4, x5, rfl, h5⟩ := y19 (hw.2 row (List.mem_of_getElem? hg)); have hl := q12 (f := (mk zk)) (k := k) hi; have hg0 := y12 (f := (mk zk)) (k := k) hg; have hlt : i < (md (mk zk) rr k i).length := by omega
     refine xs Y (hl).symm (xs Y (nn_ _) (y9 Y _ hg0 (xs Y Y (xs Y (hl).symm (y9 Y _ hg0 (xs Y (by show 0 + 1 ≤ 6; omega) (xs Y ⟨trivial, trivial⟩ ?_))))))); refine xs Y (yd (hl)).symm (xs Y (nn_ _) (y9 Y _ (z00 (hl) h) (xs Y Y (xs Y (yd (hl)).symm (y9 Y _ (z00 (hl) h) (xs Y (by show 1 + 1 ≤ 6; omega) (xs Y ⟨trivial, trivial⟩ ?_))))))); refine xs Y (yd (yd (hl))).symm (xs Y (nn_ _) (y9 Y _ (z00 (yd (hl)) h) (xs Y Y (xs Y (yd (yd (hl))).symm (y9 Y _ (z00 (yd (hl)) h) (xs Y (by show 2 + 1 ≤ 6; omega) (xs Y ⟨trivial, trivial⟩ ?_))))))); refine xs Y (yd (yd (yd (hl)))).symm (xs Y (nn_ _) (y9 Y _ (z00 (yd (yd (hl))) h) (xs Y Y (xs Y (yd (yd (yd (hl)))).symm (y9 Y _ (z00 (yd (yd (hl))) h) (xs Y (by show 3 + 1 ≤ 6; omega) (xs Y ⟨trivial, trivial⟩ ?_))))))); refine xs Y (yd (yd (yd (yd (hl))))).symm (xs Y (nn_ _) (y9 Y _ (z00 (yd (yd (yd (hl)))) h) (xs Y Y (xs Y (yd (yd (yd (yd (hl))))).symm (y9 Y _ (z00 (yd (yd (yd (hl)))) h) (xs Y (by show 4 + 1 ≤ 6; omega) (xs Y ⟨trivial, trivial⟩ ?_))))))); refine xs Y (yd (yd (yd (yd (yd (hl)))))).symm (xs Y (nn_ _) (y9 Y _ (z00 (yd (yd (yd (yd (hl))))) h) (xs Y Y (xs Y (yd (yd (yd (yd (yd (hl)))))).symm (y9 Y _ (z00 (yd (yd (yd (yd (hl))))) h) ?_))))); refine z0k Y (q2r 0 _ _ h5) ⟨⟨Y, Y, Y, _, (z00 (yd (yd (yd (yd (hl))))) h), Y⟩, Y, trivial⟩ Y ?_; refine q9 Y (hJ _ (i + 1) (by omega) (by omega) ?_); refine ⟨⟨cwi (by omega) (by omega) (by omega), ?_, I, trivial⟩, ⟨⟨?_, .inl Y, .inl Y⟩, trivial⟩, Y⟩
     · rw [z06 hg]; rfl
     · refine Eq.trans ?_ (z13 hg)
       try simp only [Int.toNat_natCast, zx hg0, ssr hlt, List.set_set]
       rfl
   · have h : ¬ i < rr.length := by simpa using h
     have : i = rr.length := by omega
     subst this; exact xr Y (y1t Y ⟨⟨Y, congrArg (Value.int .i64) z0h, trivial⟩, z6 Y⟩ ⟨⟨Y, Y, z12, qn _ _ _, qq hw⟩, trivial⟩)
theorem q2v (z : Nat) (rr : List (List Cell)) (k : Int) (hw : WR 9000000000000000000 z8 rr) : PG Tryz.prog 73 [.one (.giv true z rr), .one (.bor (i64 k))] (rI (mkR (mk z8) rr k).2) [(0, (mkR (mk z8) rr k).1)] := by
 refine PG.begin Tryz.func73 Y (by kernel_rfl) ?_; have hlen := hw.1; refine qc Y (ι := Nat) (fun i => i ≤ rr.length) (fun i => ⟨[(5, sV (.int .i64 i)), (1, sV (.int .i64 (mdk (mk z8) rr k i))), (0, .one (.h 1000000000 rr.length))], [(1000000000, .arr true z 0 (md (mk z8) rr k i))]⟩) (fun i => rr.length - i) 0 (Nat.zero_le _) ?_ ?_
 · exact ⟨⟨Y, congrArg (fun n => Cell.s (.int .i64 n)) y06.symm, I, trivial⟩, ⟨⟨q0g.symm, .inl Y, .inl Y⟩, trivial⟩, Y⟩
 · intro i hi J hJ
   refine xb Y ?_ ?_ <;> intro h
   · have h : i < rr.length := by simpa using h
     obtain ⟨row, hg⟩ := gx h; obtain ⟨x0, rfl, h0⟩ := y04 (hw.2 row (List.mem_of_getElem? hg)); have hl := q12 (f := (mk z8)) (k := k) hi; have hg0 := y12 (f := (mk z8)) (k := k) hg; have hlt : i < (md (mk z8) rr k i).length := by omega
     refine xs Y (hl).symm (xs Y (nn_ _) (y9 Y _ hg0 (xs Y Y (xs Y (hl).symm (y9 Y _ hg0 ?_))))); refine z0k Y (z5b 0 _ _ h0) ⟨⟨Y, Y, Y, _, hg0, Y⟩, Y, trivial⟩ Y ?_; refine q9 Y (hJ _ (i + 1) (by omega) (by omega) ?_); refine ⟨⟨cwi (by omega) (by omega) (by omega), ?_, I, trivial⟩, ⟨⟨?_, .inl Y, .inl Y⟩, trivial⟩, Y⟩
     · rw [z06 hg]; rfl
     · refine Eq.trans ?_ (z13 hg)
       try simp only [Int.toNat_natCast, zx hg0, ssr hlt, List.set_set]
       rfl
   · have h : ¬ i < rr.length := by simpa using h
     have : i = rr.length := by omega
     subst this; exact xr Y (y1t Y ⟨⟨Y, congrArg (Value.int .i64) z0h, trivial⟩, z6 Y⟩ ⟨⟨Y, Y, z12, qn _ _ _, qq hw⟩, trivial⟩)
theorem q60 (z : Nat) (rr : List (List Cell)) (k : Int) (hw : WR 9000000000000000000 qp rr) : PG Tryz.prog 145 [.one (.giv true z rr), .one (.bor (i64 k))] (rI (mkR (mk qp) rr k).2) [(0, (mkR (mk qp) rr k).1)] := by
 refine PG.begin Tryz.func145 Y (by kernel_rfl) ?_; have hlen := hw.1; refine qc Y (ι := Nat) (fun i => i ≤ rr.length) (fun i => ⟨[(5, sV (.int .i64 i)), (1, sV (.int .i64 (mdk (mk qp) rr k i))), (0, .one (.h 1000000000 rr.length))], [(1000000000, .arr true z 0 (md (mk qp) rr k i))]⟩) (fun i => rr.length - i) 0 (Nat.zero_le _) ?_ ?_
 · exact ⟨⟨Y, congrArg (fun n => Cell.s (.int .i64 n)) y06.symm, I, trivial⟩, ⟨⟨q0g.symm, .inl Y, .inl Y⟩, trivial⟩, Y⟩
 · intro i hi J hJ
   refine xb Y ?_ ?_ <;> intro h
   · have h : i < rr.length := by simpa using h
     obtain ⟨row, hg⟩ := gx h; obtain ⟨x0, x1, x2, x3, x4, x5, rfl, h4, h5⟩ := y1z (hw.2 row (List.mem_of_getElem? hg)); have hl := q12 (f := (mk qp)) (k := k) hi; have hg0 := y12 (f := (mk qp)) (k := k) hg; have hlt : i < (md (mk qp) rr k i).length := by omega
     refine xs Y (hl).symm (xs Y (nn_ _) (y9 Y _ hg0 (xs Y Y (xs Y (hl).symm (y9 Y _ hg0 (xs Y (by show 0 + 1 ≤ 6; omega) (xs Y ⟨trivial, trivial⟩ ?_))))))); refine xs Y (yd (hl)).symm (xs Y (nn_ _) (y9 Y _ (z00 (hl) h) (xs Y Y (xs Y (yd (hl)).symm (y9 Y _ (z00 (hl) h) (xs Y (by show 1 + 1 ≤ 6; omega) (xs Y ⟨trivial, trivial⟩ ?_))))))); refine xs Y (yd (yd (hl))).symm (xs Y (nn_ _) (y9 Y _ (z00 (yd (hl)) h) (xs Y Y (xs Y (yd (yd (hl))).symm (y9 Y _ (z00 (yd (hl)) h) (xs Y (by show 2 + 1 ≤ 6; omega) (xs Y ⟨trivial, trivial⟩ ?_))))))); refine xs Y (yd (yd (yd (hl)))).symm (xs Y (nn_ _) (y9 Y _ (z00 (yd (yd (hl))) h) (xs Y Y (xs Y (yd (yd (yd (hl)))).symm (y9 Y _ (z00 (yd (yd (hl))) h) (xs Y (by show 3 + 1 ≤ 6; omega) (xs Y ⟨trivial, trivial⟩ ?_))))))); refine xs Y (yd (yd (yd (yd (hl))))).symm (xs Y (nn_ _) (y9 Y _ (z00 (yd (yd (yd (hl)))) h) (xs Y Y (xs Y (yd (yd (yd (yd (hl))))).symm (y9 Y _ (z00 (yd (yd (yd (hl)))) h) ?_))))); refine z0k Y (q2a 0 _ _ h4) ⟨⟨Y, Y, Y, _, (z00 (yd (yd (yd (hl)))) h), Y⟩, Y, trivial⟩ Y ?_; refine xs Y (lsr (yd (yd (yd (yd (hl)))))).symm (xs Y (nn_ _) (y9 Y _ (yf (z00 (yd (yd (yd (hl)))) h)) (xs Y Y (xs Y (lsr (yd (yd (yd (yd (hl)))))).symm (y9 Y _ (yf (z00 (yd (yd (yd (hl)))) h)) ?_))))); refine z0k Y (q2r 0 _ _ h5) ⟨⟨Y, Y, Y, _, (yf (z00 (yd (yd (yd (hl)))) h)), Y⟩, Y, trivial⟩ Y ?_; refine q9 Y (hJ _ (i + 1) (by omega) (by omega) ?_); refine ⟨⟨cwi (by omega) (by omega) (by omega), ?_, I, trivial⟩, ⟨⟨?_, .inl Y, .inl Y⟩, trivial⟩, Y⟩
     · rw [z06 hg]; rfl
     · refine Eq.trans ?_ (z13 hg)
       try simp only [Int.toNat_natCast, zx hg0, ssr hlt, List.set_set]
       rfl
   · have h : ¬ i < rr.length := by simpa using h
     have : i = rr.length := by omega
     subst this; exact xr Y (y1t Y ⟨⟨Y, congrArg (Value.int .i64) z0h, trivial⟩, z6 Y⟩ ⟨⟨Y, Y, z12, qn _ _ _, qq hw⟩, trivial⟩)
theorem z4m (z : Nat) (rr : List (List Cell)) (k : Int) (hw : WR 9000000000000000000 zn rr) : PG Tryz.prog 146 [.one (.giv true z rr), .one (.bor (i64 k))] (rI (mkR (mk zn) rr k).2) [(0, (mkR (mk zn) rr k).1)] := by
 refine PG.begin Tryz.func146 Y (by kernel_rfl) ?_; have hlen := hw.1; refine qc Y (ι := Nat) (fun i => i ≤ rr.length) (fun i => ⟨[(5, sV (.int .i64 i)), (1, sV (.int .i64 (mdk (mk zn) rr k i))), (0, .one (.h 1000000000 rr.length))], [(1000000000, .arr true z 0 (md (mk zn) rr k i))]⟩) (fun i => rr.length - i) 0 (Nat.zero_le _) ?_ ?_
 · exact ⟨⟨Y, congrArg (fun n => Cell.s (.int .i64 n)) y06.symm, I, trivial⟩, ⟨⟨q0g.symm, .inl Y, .inl Y⟩, trivial⟩, Y⟩
 · intro i hi J hJ
   refine xb Y ?_ ?_ <;> intro h
   · have h : i < rr.length := by simpa using h
     obtain ⟨row, hg⟩ := gx h; obtain ⟨x0, x1, x2, x3, x4, rfl⟩ := z0r (hw.2 row (List.mem_of_getElem? hg)); have hl := q12 (f := (mk zn)) (k := k) hi; have hg0 := y12 (f := (mk zn)) (k := k) hg; have hlt : i < (md (mk zn) rr k i).length := by omega
     refine xs Y (hl).symm (xs Y (nn_ _) (y9 Y _ hg0 (xs Y Y (xs Y (hl).symm (y9 Y _ hg0 (xs Y (by show 0 + 1 ≤ 5; omega) (xs Y ⟨trivial, trivial⟩ ?_))))))); refine xs Y (yd (hl)).symm (xs Y (nn_ _) (y9 Y _ (z00 (hl) h) (xs Y Y (xs Y (yd (hl)).symm (y9 Y _ (z00 (hl) h) (xs Y (by show 1 + 1 ≤ 5; omega) (xs Y ⟨trivial, trivial⟩ ?_))))))); refine xs Y (yd (yd (hl))).symm (xs Y (nn_ _) (y9 Y _ (z00 (yd (hl)) h) (xs Y Y (xs Y (yd (yd (hl))).symm (y9 Y _ (z00 (yd (hl)) h) (xs Y (by show 2 + 1 ≤ 5; omega) (xs Y ⟨trivial, trivial⟩ ?_))))))); refine xs Y (yd (yd (yd (hl)))).symm (xs Y (nn_ _) (y9 Y _ (z00 (yd (yd (hl))) h) (xs Y Y (xs Y (yd (yd (yd (hl)))).symm (y9 Y _ (z00 (yd (yd (hl))) h) (xs Y (by show 3 + 1 ≤ 5; omega) (xs Y ⟨trivial, trivial⟩ ?_))))))); refine xs Y (yd (yd (yd (yd (hl))))).symm (xs Y (nn_ _) (y9 Y _ (z00 (yd (yd (yd (hl)))) h) (xs Y Y (xs Y (yd (yd (yd (yd (hl))))).symm (y9 Y _ (z00 (yd (yd (yd (hl)))) h) (xs Y (by show 4 + 1 ≤ 5; omega) (xs Y ⟨trivial, trivial⟩ ?_))))))); refine q9 Y (hJ _ (i + 1) (by omega) (by omega) ?_); refine ⟨⟨cwi (by omega) (by omega) (by omega), ?_, I, trivial⟩, ⟨⟨?_, .inl Y, .inl Y⟩, trivial⟩, Y⟩
     · rw [z06 hg]; rfl
     · refine Eq.trans ?_ (z13 hg)
       try simp only [Int.toNat_natCast, zx hg0, ssr hlt, List.set_set]
       rfl
   · have h : ¬ i < rr.length := by simpa using h
     have : i = rr.length := by omega
     subst this; exact xr Y (y1t Y ⟨⟨Y, congrArg (Value.int .i64) z0h, trivial⟩, z6 Y⟩ ⟨⟨Y, Y, z12, qn _ _ _, qq hw⟩, trivial⟩)
theorem q3v (z : Nat) (rr : List (List Cell)) (k : Int) (hw : WR 9000000000000000000 qa rr) : PG Tryz.prog 74 [.one (.giv true z rr), .one (.bor (i64 k))] (rI (mkR (mk qa) rr k).2) [(0, (mkR (mk qa) rr k).1)] := by
 refine PG.begin Tryz.func74 Y (by kernel_rfl) ?_; have hlen := hw.1; refine qc Y (ι := Nat) (fun i => i ≤ rr.length) (fun i => ⟨[(5, sV (.int .i64 i)), (1, sV (.int .i64 (mdk (mk qa) rr k i))), (0, .one (.h 1000000000 rr.length))], [(1000000000, .arr true z 0 (md (mk qa) rr k i))]⟩) (fun i => rr.length - i) 0 (Nat.zero_le _) ?_ ?_
 · exact ⟨⟨Y, congrArg (fun n => Cell.s (.int .i64 n)) y06.symm, I, trivial⟩, ⟨⟨q0g.symm, .inl Y, .inl Y⟩, trivial⟩, Y⟩
 · intro i hi J hJ
   refine xb Y ?_ ?_ <;> intro h
   · have h : i < rr.length := by simpa using h
     obtain ⟨row, hg⟩ := gx h; obtain ⟨x0, x1, x2, rfl, h1, h2⟩ := q0f (hw.2 row (List.mem_of_getElem? hg)); have hl := q12 (f := (mk qa)) (k := k) hi; have hg0 := y12 (f := (mk qa)) (k := k) hg; have hlt : i < (md (mk qa) rr k i).length := by omega
     refine xs Y (hl).symm (xs Y (nn_ _) (y9 Y _ hg0 (xs Y Y (xs Y (hl).symm (y9 Y _ hg0 (xs Y (by show 0 + 1 ≤ 3; omega) (xs Y ⟨trivial, trivial⟩ ?_))))))); refine xs Y (yd (hl)).symm (xs Y (nn_ _) (y9 Y _ (z00 (hl) h) (xs Y Y (xs Y (yd (hl)).symm (y9 Y _ (z00 (hl) h) ?_))))); refine z0k Y (q60 0 _ _ h1) ⟨⟨Y, Y, Y, _, (z00 (hl) h), Y⟩, Y, trivial⟩ Y ?_; refine xs Y (lsr (yd (hl))).symm (xs Y (nn_ _) (y9 Y _ (yf (z00 (hl) h)) (xs Y Y (xs Y (lsr (yd (hl))).symm (y9 Y _ (yf (z00 (hl) h)) ?_))))); refine z0k Y (z4m 0 _ _ h2) ⟨⟨Y, Y, Y, _, (yf (z00 (hl) h)), Y⟩, Y, trivial⟩ Y ?_; refine q9 Y (hJ _ (i + 1) (by omega) (by omega) ?_); refine ⟨⟨cwi (by omega) (by omega) (by omega), ?_, I, trivial⟩, ⟨⟨?_, .inl Y, .inl Y⟩, trivial⟩, Y⟩
     · rw [z06 hg]; rfl
     · refine Eq.trans ?_ (z13 hg)
       try simp only [Int.toNat_natCast, zx hg0, ssr hlt, List.set_set]
       rfl
   · have h : ¬ i < rr.length := by simpa using h
     have : i = rr.length := by omega
     subst this; exact xr Y (y1t Y ⟨⟨Y, congrArg (Value.int .i64) z0h, trivial⟩, z6 Y⟩ ⟨⟨Y, Y, z12, qn _ _ _, qq hw⟩, trivial⟩)
theorem q3e (z : Nat) (rr : List (List Cell)) (k : Int) (hw : WR 9000000000000000000 qb rr) : PG Tryz.prog 75 [.one (.giv true z rr), .one (.bor (i64 k))] (rI (mkR (mk qb) rr k).2) [(0, (mkR (mk qb) rr k).1)] := by
 refine PG.begin Tryz.func75 Y (by kernel_rfl) ?_; have hlen := hw.1; refine qc Y (ι := Nat) (fun i => i ≤ rr.length) (fun i => ⟨[(5, sV (.int .i64 i)), (1, sV (.int .i64 (mdk (mk qb) rr k i))), (0, .one (.h 1000000000 rr.length))], [(1000000000, .arr true z 0 (md (mk qb) rr k i))]⟩) (fun i => rr.length - i) 0 (Nat.zero_le _) ?_ ?_
 · exact ⟨⟨Y, congrArg (fun n => Cell.s (.int .i64 n)) y06.symm, I, trivial⟩, ⟨⟨q0g.symm, .inl Y, .inl Y⟩, trivial⟩, Y⟩
 · intro i hi J hJ
   refine xb Y ?_ ?_ <;> intro h
   · have h : i < rr.length := by simpa using h
     obtain ⟨row, hg⟩ := gx h; obtain ⟨x0, x1, x2, x3, x4, x5, x6, x7, x8, rfl⟩ := q09 (hw.2 row (List.mem_of_getElem? hg)); have hl := q12 (f := (mk qb)) (k := k) hi; have hg0 := y12 (f := (mk qb)) (k := k) hg; have hlt : i < (md (mk qb) rr k i).length := by omega
     refine xs Y (hl).symm (xs Y (nn_ _) (y9 Y _ hg0 (xs Y Y (xs Y (hl).symm (y9 Y _ hg0 (xs Y (by show 0 + 1 ≤ 9; omega) (xs Y ⟨trivial, trivial⟩ ?_))))))); refine xs Y (yd (hl)).symm (xs Y (nn_ _) (y9 Y _ (z00 (hl) h) (xs Y Y (xs Y (yd (hl)).symm (y9 Y _ (z00 (hl) h) (xs Y (by show 1 + 1 ≤ 9; omega) (xs Y ⟨trivial, trivial⟩ ?_))))))); refine xs Y (yd (yd (hl))).symm (xs Y (nn_ _) (y9 Y _ (z00 (yd (hl)) h) (xs Y Y (xs Y (yd (yd (hl))).symm (y9 Y _ (z00 (yd (hl)) h) (xs Y (by show 2 + 1 ≤ 9; omega) (xs Y ⟨trivial, trivial⟩ ?_))))))); refine xs Y (yd (yd (yd (hl)))).symm (xs Y (nn_ _) (y9 Y _ (z00 (yd (yd (hl))) h) (xs Y Y (xs Y (yd (yd (yd (hl)))).symm (y9 Y _ (z00 (yd (yd (hl))) h) (xs Y (by show 3 + 1 ≤ 9; omega) (xs Y ⟨trivial, trivial⟩ ?_))))))); refine xs Y (yd (yd (yd (yd (hl))))).symm (xs Y (nn_ _) (y9 Y _ (z00 (yd (yd (yd (hl)))) h) (xs Y Y (xs Y (yd (yd (yd (yd (hl))))).symm (y9 Y _ (z00 (yd (yd (yd (hl)))) h) (xs Y (by show 4 + 1 ≤ 9; omega) (xs Y ⟨trivial, trivial⟩ ?_))))))); refine xs Y (yd (yd (yd (yd (yd (hl)))))).symm (xs Y (nn_ _) (y9 Y _ (z00 (yd (yd (yd (yd (hl))))) h) (xs Y Y (xs Y (yd (yd (yd (yd (yd (hl)))))).symm (y9 Y _ (z00 (yd (yd (yd (yd (hl))))) h) (xs Y (by show 5 + 1 ≤ 9; omega) (xs Y ⟨trivial, trivial⟩ ?_))))))); refine xs Y (yd (yd (yd (yd (yd (yd (hl))))))).symm (xs Y (nn_ _) (y9 Y _ (z00 (yd (yd (yd (yd (yd (hl)))))) h) (xs Y Y (xs Y (yd (yd (yd (yd (yd (yd (hl))))))).symm (y9 Y _ (z00 (yd (yd (yd (yd (yd (hl)))))) h) (xs Y (by show 6 + 1 ≤ 9; omega) (xs Y ⟨trivial, trivial⟩ ?_))))))); refine xs Y (yd (yd (yd (yd (yd (yd (yd (hl)))))))).symm (xs Y (nn_ _) (y9 Y _ (z00 (yd (yd (yd (yd (yd (yd (hl))))))) h) (xs Y Y (xs Y (yd (yd (yd (yd (yd (yd (yd (hl)))))))).symm (y9 Y _ (z00 (yd (yd (yd (yd (yd (yd (hl))))))) h) (xs Y (by show 7 + 1 ≤ 9; omega) (xs Y ⟨trivial, trivial⟩ ?_))))))); refine xs Y (yd (yd (yd (yd (yd (yd (yd (yd (hl))))))))).symm (xs Y (nn_ _) (y9 Y _ (z00 (yd (yd (yd (yd (yd (yd (yd (hl)))))))) h) (xs Y Y (xs Y (yd (yd (yd (yd (yd (yd (yd (yd (hl))))))))).symm (y9 Y _ (z00 (yd (yd (yd (yd (yd (yd (yd (hl)))))))) h) (xs Y (by show 8 + 1 ≤ 9; omega) (xs Y ⟨trivial, trivial⟩ ?_))))))); refine q9 Y (hJ _ (i + 1) (by omega) (by omega) ?_); refine ⟨⟨cwi (by omega) (by omega) (by omega), ?_, I, trivial⟩, ⟨⟨?_, .inl Y, .inl Y⟩, trivial⟩, Y⟩
     · rw [z06 hg]; rfl
     · refine Eq.trans ?_ (z13 hg)
       try simp only [Int.toNat_natCast, zx hg0, ssr hlt, List.set_set]
       rfl
   · have h : ¬ i < rr.length := by simpa using h
     have : i = rr.length := by omega
     subst this; exact xr Y (y1t Y ⟨⟨Y, congrArg (Value.int .i64) z0h, trivial⟩, z6 Y⟩ ⟨⟨Y, Y, z12, qn _ _ _, qq hw⟩, trivial⟩)
theorem z1v (z0 z1 z2 z3 z4 : Nat) (x0 : List (List Cell)) (x1 : List (List Cell)) (x2 : List (List Cell)) (x3 : List (List Cell)) (x4 : List (List Cell)) (k : Int) (k0 : Int) (k1 : Int) (k2 : Int) (k3 : Int) (k4 : Int) (h0 : WR 9000000000000000000 q7 x0) (h1 : WR 9000000000000000000 zb x1) (h2 : WR 9000000000000000000 z8 x2) (h3 : WR 9000000000000000000 qa x3) (h4 : WR 9000000000000000000 qb x4) (e0 : (mkR (mk q7) x0 k).2 = k0) (e1 : (mkR (mk zb) x1 k0).2 = k1) (e2 : (mkR (mk z8) x2 k1).2 = k2) (e3 : (mkR (mk qa) x3 k2).2 = k3) (e4 : (mkR (mk qb) x4 k3).2 = k4) : PG Tryz.prog 18 [.agg [.giv true z0 x0, .giv true z1 x1, .giv true z2 x2, .giv true z3 x3, .giv true z4 x4], .one (.bor (i64 k))] (rI k4) [(0, (mkR (mk q7) x0 k).1), (1, (mkR (mk zb) x1 k0).1), (2, (mkR (mk z8) x2 k1).1), (3, (mkR (mk qa) x3 k2).1), (4, (mkR (mk qb) x4 k3).1)] := by
 refine PG.begin Tryz.func18 Y (by kernel_rfl) ?_; refine z0k Y (q1c z0 x0 k h0) ⟨⟨Y, Y, Y, Y⟩, Y, trivial⟩ Y ?_; rw [e0]; refine z0k Y (q4m z1 x1 k0 h1) ⟨⟨Y, Y, Y, Y⟩, Y, trivial⟩ Y ?_; rw [e1]; refine z0k Y (q2v z2 x2 k1 h2) ⟨⟨Y, Y, Y, Y⟩, Y, trivial⟩ Y ?_; rw [e2]; refine z0k Y (q3v z3 x3 k2 h3) ⟨⟨Y, Y, Y, Y⟩, Y, trivial⟩ Y ?_; rw [e3]; refine z0k Y (q3e z4 x4 k3 h4) ⟨⟨Y, Y, Y, Y⟩, Y, trivial⟩ Y ?_; rw [e4]; exact xr Y (y1t Y ⟨⟨Y, Y, trivial⟩, z6 Y⟩ ⟨⟨Y, Y, Y, qn _ _ _, qq h0⟩, ⟨Y, Y, Y, qn _ _ _, qq h1⟩, ⟨Y, Y, Y, qn _ _ _, qq h2⟩, ⟨Y, Y, Y, qn _ _ _, qq h3⟩, ⟨Y, Y, Y, qn _ _ _, qq h4⟩, trivial⟩)
theorem y28 (rr : List (List Cell)) (k : Int) (hw : WR 9000000000000000000 (.i .i64 .nil) rr) : PC Tryz.prog 181 [.one (.l rr), .one (i64 k)] (rI (ng (hdR (hd (.i .i64 .nil)) rr k))) := by
 refine PC.begin Tryz.func181 Y (by kernel_rfl) ?_; have hlen := hw.1; refine qc Y (ι := Nat × Int) (fun x => x.1 ≤ rr.length ∧ hdR (hd (.i .i64 .nil)) (rr.take x.1) k = some x.2) (fun x => ⟨[(5, sV (.int .i64 x.1)), (1, sV (.int .i64 x.2)), (0, .one (.b (.l rr)))], []⟩) (fun x => rr.length - x.1) (0, k) ⟨Nat.zero_le _, Y⟩ ?_ ?_
 · exact ⟨⟨Y, Y, Y, trivial⟩, trivial, Y⟩
 · intro ⟨i, v⟩ ⟨hi, hv⟩ J hJ
   dsimp only at hi hv ⊢; refine xb Y ?_ ?_ <;> intro h
   · have h : i < rr.length := by simpa using h
     obtain ⟨row, hg⟩ := gx h; obtain ⟨x0, _, rfl, hnil⟩ := ((hw.2 row (List.mem_of_getElem? hg))).yy; obtain rfl := hnil.q00; have hst := q05 hg hv; refine xs Y (nn_ _) (y9 Y _ hg (xs Y Y ?_)); refine xb Y ?_ ?_ <;> intro hb
     · have hb : ¬ x0 = mkv .i64 (v) := by simpa [mkv, nx] using hb
       exact xv Y Y Y (congrArg (Value.int .i64) (yg (qf (i := i + 1) (hst.trans (by simp only [hd, if_neg hb])))).symm)
     have hb0 : x0 = mkv .i64 (v) := by simpa [mkv, nx] using hb
     clear hb; refine q9 Y (hJ _ (i + 1, nx (v)) ⟨by dsimp only; omega, hst.trans (by simp only [hd, if_pos hb0])⟩ (by dsimp only; omega) ?_); exact ⟨⟨cwi (by omega) (by omega) (by omega), Y, Y, trivial⟩, trivial, Y⟩
   · have h : ¬ i < rr.length := by simpa using h
     have : i = rr.length := by omega
     subst this; rw [List.take_length] at hv; exact xv Y Y Y (congrArg (Value.int .i64) (by rw [hv]; rfl))
theorem y3b (rr : List (List Cell)) (k : Int) (hw : WR 9000000000000000000 qd rr) : PC Tryz.prog 249 [.one (.l rr), .one (i64 k)] (rI (ng (hdR (hd qd) rr k))) := by
 refine PC.begin Tryz.func249 Y (by kernel_rfl) ?_; have hlen := hw.1; refine qc Y (ι := Nat × Int) (fun x => x.1 ≤ rr.length ∧ hdR (hd qd) (rr.take x.1) k = some x.2) (fun x => ⟨[(5, sV (.int .i64 x.1)), (1, sV (.int .i64 x.2)), (0, .one (.b (.l rr)))], []⟩) (fun x => rr.length - x.1) (0, k) ⟨Nat.zero_le _, Y⟩ ?_ ?_
 · exact ⟨⟨Y, Y, Y, trivial⟩, trivial, Y⟩
 · intro ⟨i, v⟩ ⟨hi, hv⟩ J hJ
   dsimp only at hi hv ⊢; refine xb Y ?_ ?_ <;> intro h
   · have h : i < rr.length := by simpa using h
     obtain ⟨row, hg⟩ := gx h; obtain ⟨x0, x1, x2, rfl⟩ := y09 (hw.2 row (List.mem_of_getElem? hg)); have hst := q05 hg hv; refine xs Y (nn_ _) (y9 Y _ hg (xs Y Y ?_)); refine xb Y ?_ ?_ <;> intro hb
     · have hb : ¬ x0 = mkv .i64 (v) := by simpa [mkv, nx] using hb
       exact xv Y Y Y (congrArg (Value.int .i64) (yg (qf (i := i + 1) (hst.trans (by simp only [hd, if_neg hb])))).symm)
     have hb0 : x0 = mkv .i64 (v) := by simpa [mkv, nx] using hb
     clear hb; refine xs Y (nn_ _) (y9 Y _ hg (xs Y Y ?_)); refine xb Y ?_ ?_ <;> intro hb
     · have hb : ¬ x1 = mkv .i64 (nx (v)) := by simpa [mkv, nx] using hb
       exact xv Y Y Y (congrArg (Value.int .i64) (yg (qf (i := i + 1) (hst.trans (by simp only [hd, if_neg hb, if_pos hb0])))).symm)
     have hb1 : x1 = mkv .i64 (nx (v)) := by simpa [mkv, nx] using hb
     clear hb; refine xs Y (nn_ _) (y9 Y _ hg (xs Y Y ?_)); refine xb Y ?_ ?_ <;> intro hb
     · have hb : ¬ x2 = mkv .i64 (nx (nx (v))) := by simpa [mkv, nx] using hb
       exact xv Y Y Y (congrArg (Value.int .i64) (yg (qf (i := i + 1) (hst.trans (by simp only [hd, if_neg hb, if_pos hb0, if_pos hb1])))).symm)
     have hb2 : x2 = mkv .i64 (nx (nx (v))) := by simpa [mkv, nx] using hb
     clear hb; refine q9 Y (hJ _ (i + 1, nx (nx (nx (v)))) ⟨by dsimp only; omega, hst.trans (by simp only [hd, if_pos hb0, if_pos hb1, if_pos hb2])⟩ (by dsimp only; omega) ?_); exact ⟨⟨cwi (by omega) (by omega) (by omega), Y, Y, trivial⟩, trivial, Y⟩
   · have h : ¬ i < rr.length := by simpa using h
     have : i = rr.length := by omega
     subst this; rw [List.take_length] at hv; exact xv Y Y Y (congrArg (Value.int .i64) (by rw [hv]; rfl))
abbrev q1d : Sh := (.i .i64 (.l q7 (.l zb (.l z8 (.l qa (.l qb .nil))))))
theorem z26 (x0 : Int) (x1 : List (List Cell)) (x2 : List (List Cell)) (x3 : List (List Cell)) (x4 : List (List Cell)) (x5 : List (List Cell)) (y0 : Int) (y1 : List (List Cell)) (y2 : List (List Cell)) (y3 : List (List Cell)) (y4 : List (List Cell)) (y5 : List (List Cell)) (h1 : WR 9000000000000000000 q7 x1) (h2 : WR 9000000000000000000 zb x2) (h3 : WR 9000000000000000000 z8 x3) (h4 : WR 9000000000000000000 qa x4) (h5 : WR 9000000000000000000 qb x5) (k1 : WR 9000000000000000000 q7 y1) (k2 : WR 9000000000000000000 zb y2) (k3 : WR 9000000000000000000 z8 y3) (k4 : WR 9000000000000000000 qa y4) (k5 : WR 9000000000000000000 qb y5) : PC Tryz.prog 15 [.agg [.s (.int .i64 x0), .l x1, .l x2, .l x3, .l x4, .l x5], .agg [.s (.int .i64 y0), .l y1, .l y2, .l y3, .l y4, .l y5]] (rB (dE (α := List Cell) [.s (.int .i64 x0), .l x1, .l x2, .l x3, .l x4, .l x5] [.s (.int .i64 y0), .l y1, .l y2, .l y3, .l y4, .l y5])) := by
 refine PC.begin Tryz.func15 Y (by kernel_rfl) ?_; refine xb Y (fun h => ?_) (fun e0 => ?_)
 · exact xv Y Y Y (ql (fun e => by simp only [List.cons.injEq, Cell.s.injEq, Value.int.injEq, Value.bool.injEq, Value.string.injEq] at e; simp [e] at h))
 have e0 : x0 = y0 := by simpa using e0
 refine z7 Y (z2o _ _ _ _ _ _ _ _ _ _ h1 h2 h3 h4 h5 k1 k2 k3 k4 k5) Y ⟨tv6, tv6, trivial⟩ ?_; refine xb Y (fun h => ?_) (fun e1 => ?_)
 · exact xv Y Y Y (ql (fun e => z08 h (by simp only [List.cons.injEq, Cell.l.injEq] at e ⊢; simp only [e]; try trivial)))
 have e1 := q07 e1; simp only [List.cons.injEq, Cell.s.injEq, Cell.l.injEq, Value.int.injEq, Value.bool.injEq, and_true, true_and] at e1; exact xv Y Y Y (zy (by simp [e0, e1]))
theorem y1s (z1 z2 z3 z4 z5 : Nat) (x0 : Int) (x1 : List (List Cell)) (x2 : List (List Cell)) (x3 : List (List Cell)) (x4 : List (List Cell)) (x5 : List (List Cell)) (k : Int) (k1 : Int) (k2 : Int) (k3 : Int) (k4 : Int) (k5 : Int) (h1 : WR 9000000000000000000 q7 x1) (h2 : WR 9000000000000000000 zb x2) (h3 : WR 9000000000000000000 z8 x3) (h4 : WR 9000000000000000000 qa x4) (h5 : WR 9000000000000000000 qb x5) (e1 : (mkR (mk q7) x1 k).2 = k1) (e2 : (mkR (mk zb) x2 k1).2 = k2) (e3 : (mkR (mk z8) x3 k2).2 = k3) (e4 : (mkR (mk qa) x4 k3).2 = k4) (e5 : (mkR (mk qb) x5 k4).2 = k5) : PG Tryz.prog 20 [.agg [.bor (.s (.int .i64 x0)), .giv true z1 x1, .giv true z2 x2, .giv true z3 x3, .giv true z4 x4, .giv true z5 x5], .one (.bor (i64 k))] (rI k5) [(1, (mkR (mk q7) x1 k).1), (2, (mkR (mk zb) x2 k1).1), (3, (mkR (mk z8) x3 k2).1), (4, (mkR (mk qa) x4 k3).1), (5, (mkR (mk qb) x5 k4).1)] := by
 refine PG.begin Tryz.func20 Y (by kernel_rfl) ?_; refine z0k Y (z1v z1 z2 z3 z4 z5 x1 x2 x3 x4 x5 k k1 k2 k3 k4 k5 h1 h2 h3 h4 h5 e1 e2 e3 e4 e5) ⟨⟨⟨Y, Y, Y, Y⟩, ⟨Y, Y, Y, Y⟩, ⟨Y, Y, Y, Y⟩, ⟨Y, Y, Y, Y⟩, ⟨Y, Y, Y, Y⟩, trivial⟩, Y, trivial⟩ Y ?_; exact xr Y (y1t Y ⟨⟨Y, Y, trivial⟩, z6 Y⟩ ⟨⟨Y, Y, Y, qn _ _ _, qq h1⟩, ⟨Y, Y, Y, qn _ _ _, qq h2⟩, ⟨Y, Y, Y, qn _ _ _, qq h3⟩, ⟨Y, Y, Y, qn _ _ _, qq h4⟩, ⟨Y, Y, Y, qn _ _ _, qq h5⟩, trivial⟩)
theorem z5w (rr : List (List Cell)) (k : Int) (hw : WR 9000000000000000000 qs rr) : PC Tryz.prog 248 [.one (.l rr), .one (i64 k)] (rI (ng (hdR (hd qs) rr k))) := by
 refine PC.begin Tryz.func248 Y (by kernel_rfl) ?_; have hlen := hw.1; refine qc Y (ι := Nat × Int) (fun x => x.1 ≤ rr.length ∧ hdR (hd qs) (rr.take x.1) k = some x.2) (fun x => ⟨[(5, sV (.int .i64 x.1)), (1, sV (.int .i64 x.2)), (0, .one (.b (.l rr)))], []⟩) (fun x => rr.length - x.1) (0, k) ⟨Nat.zero_le _, Y⟩ ?_ ?_
 · exact ⟨⟨Y, Y, Y, trivial⟩, trivial, Y⟩
 · intro ⟨i, v⟩ ⟨hi, hv⟩ J hJ
   dsimp only at hi hv ⊢; refine xb Y ?_ ?_ <;> intro h
   · have h : i < rr.length := by simpa using h
     obtain ⟨row, hg⟩ := gx h; obtain ⟨x0, x1, x2, x3, rfl⟩ := z1z (hw.2 row (List.mem_of_getElem? hg)); have hst := q05 hg hv; refine xs Y (nn_ _) (y9 Y _ hg (xs Y Y ?_)); refine xb Y ?_ ?_ <;> intro hb
     · have hb : ¬ x0 = mkv .i64 (v) := by simpa [mkv, nx] using hb
       exact xv Y Y Y (congrArg (Value.int .i64) (yg (qf (i := i + 1) (hst.trans (by simp only [hd, if_neg hb])))).symm)
     have hb0 : x0 = mkv .i64 (v) := by simpa [mkv, nx] using hb
     clear hb; refine xs Y (nn_ _) (y9 Y _ hg (xs Y Y ?_)); refine xb Y ?_ ?_ <;> intro hb
     · have hb : ¬ x1 = mkv .i64 (nx (v)) := by simpa [mkv, nx] using hb
       exact xv Y Y Y (congrArg (Value.int .i64) (yg (qf (i := i + 1) (hst.trans (by simp only [hd, if_neg hb, if_pos hb0])))).symm)
     have hb1 : x1 = mkv .i64 (nx (v)) := by simpa [mkv, nx] using hb
     clear hb; refine xs Y (nn_ _) (y9 Y _ hg (xs Y Y ?_)); refine xb Y ?_ ?_ <;> intro hb
     · have hb : ¬ x2 = mkv .i64 (nx (nx (v))) := by simpa [mkv, nx] using hb
       exact xv Y Y Y (congrArg (Value.int .i64) (yg (qf (i := i + 1) (hst.trans (by simp only [hd, if_neg hb, if_pos hb0, if_pos hb1])))).symm)
     have hb2 : x2 = mkv .i64 (nx (nx (v))) := by simpa [mkv, nx] using hb
     clear hb; refine xs Y (nn_ _) (y9 Y _ hg (xs Y Y ?_)); refine xb Y ?_ ?_ <;> intro hb
     · have hb : ¬ x3 = mkv .i64 (nx (nx (nx (v)))) := by simpa [mkv, nx] using hb
       exact xv Y Y Y (congrArg (Value.int .i64) (yg (qf (i := i + 1) (hst.trans (by simp only [hd, if_neg hb, if_pos hb0, if_pos hb1, if_pos hb2])))).symm)
     have hb3 : x3 = mkv .i64 (nx (nx (nx (v)))) := by simpa [mkv, nx] using hb
     clear hb; refine q9 Y (hJ _ (i + 1, nx (nx (nx (nx (v))))) ⟨by dsimp only; omega, hst.trans (by simp only [hd, if_pos hb0, if_pos hb1, if_pos hb2, if_pos hb3])⟩ (by dsimp only; omega) ?_); exact ⟨⟨cwi (by omega) (by omega) (by omega), Y, Y, trivial⟩, trivial, Y⟩
   · have h : ¬ i < rr.length := by simpa using h
     have : i = rr.length := by omega
     subst this; rw [List.take_length] at hv; exact xv Y Y Y (congrArg (Value.int .i64) (by rw [hv]; rfl))
theorem z1c (rr : List (List Cell)) (k : Int) (hw : WR 9000000000000000000 q7 rr) : PC Tryz.prog 147 [.one (.l rr), .one (i64 k)] (rI (ng (hdR (hd q7) rr k))) := by
 refine PC.begin Tryz.func147 Y (by kernel_rfl) ?_; have hlen := hw.1; refine qc Y (ι := Nat × Int) (fun x => x.1 ≤ rr.length ∧ hdR (hd q7) (rr.take x.1) k = some x.2) (fun x => ⟨[(5, sV (.int .i64 x.1)), (1, sV (.int .i64 x.2)), (0, .one (.b (.l rr)))], []⟩) (fun x => rr.length - x.1) (0, k) ⟨Nat.zero_le _, Y⟩ ?_ ?_
 · exact ⟨⟨Y, Y, Y, trivial⟩, trivial, Y⟩
 · intro ⟨i, v⟩ ⟨hi, hv⟩ J hJ
   dsimp only at hi hv ⊢; refine xb Y ?_ ?_ <;> intro h
   · have h : i < rr.length := by simpa using h
     obtain ⟨row, hg⟩ := gx h; obtain ⟨x0, x1, rfl, h1⟩ := yu (hw.2 row (List.mem_of_getElem? hg)); have hst := q05 hg hv; refine xs Y (nn_ _) (y9 Y _ hg (xs Y Y ?_)); refine xb Y ?_ ?_ <;> intro hb
     · have hb : ¬ x0 = mkv .i64 (v) := by simpa [mkv, nx] using hb
       exact xv Y Y Y (congrArg (Value.int .i64) (yg (qf (i := i + 1) (hst.trans (by simp only [hd, if_neg hb])))).symm)
     have hb0 : x0 = mkv .i64 (v) := by simpa [mkv, nx] using hb
     clear hb; refine xs Y (nn_ _) (y9 Y _ hg (xs Y Y ?_)); refine z7 Y (z5w x1 (nx (v)) h1) Y tv3 ?_; generalize hk1 : ng (hdR (hd qs) x1 (nx (v))) = k1; refine xb Y ?_ ?_ <;> intro hb
     · have hb : k1 < 0 := by simpa using hb
       exact xv Y Y Y (congrArg (Value.int .i64) (yg (qf (i := i + 1) (hst.trans (by simp only [hd, if_pos hb0, hk1, y1k hb]; rfl)))).symm)
     have hb1 : ¬ k1 < 0 := by simpa using hb
     clear hb; refine q9 Y (hJ _ (i + 1, k1) ⟨by dsimp only; omega, hst.trans (by simp only [hd, if_pos hb0, hk1, y01 hb1, Option.bind_some])⟩ (by dsimp only; omega) ?_); exact ⟨⟨cwi (by omega) (by omega) (by omega), Y, Y, trivial⟩, trivial, Y⟩
   · have h : ¬ i < rr.length := by simpa using h
     have : i = rr.length := by omega
     subst this; rw [List.take_length] at hv; exact xv Y Y Y (congrArg (Value.int .i64) (by rw [hv]; rfl))
theorem z2q (rr : List (List Cell)) (k : Int) (hw : WR 9000000000000000000 zh rr) : PC Tryz.prog 250 [.one (.l rr), .one (i64 k)] (rI (ng (hdR (hd zh) rr k))) := by
 refine PC.begin Tryz.func250 Y (by kernel_rfl) ?_; have hlen := hw.1; refine qc Y (ι := Nat × Int) (fun x => x.1 ≤ rr.length ∧ hdR (hd zh) (rr.take x.1) k = some x.2) (fun x => ⟨[(5, sV (.int .i64 x.1)), (1, sV (.int .i64 x.2)), (0, .one (.b (.l rr)))], []⟩) (fun x => rr.length - x.1) (0, k) ⟨Nat.zero_le _, Y⟩ ?_ ?_
 · exact ⟨⟨Y, Y, Y, trivial⟩, trivial, Y⟩
 · intro ⟨i, v⟩ ⟨hi, hv⟩ J hJ
   dsimp only at hi hv ⊢; refine xb Y ?_ ?_ <;> intro h
   · have h : i < rr.length := by simpa using h
     obtain ⟨row, hg⟩ := gx h; obtain ⟨x0, x1, rfl⟩ := z19 (hw.2 row (List.mem_of_getElem? hg)); have hst := q05 hg hv; refine xs Y (nn_ _) (y9 Y _ hg (xs Y Y ?_)); refine xb Y ?_ ?_ <;> intro hb
     · have hb : ¬ x0 = mkv .i64 (v) := by simpa [mkv, nx] using hb
       exact xv Y Y Y (congrArg (Value.int .i64) (yg (qf (i := i + 1) (hst.trans (by simp only [hd, if_neg hb])))).symm)
     have hb0 : x0 = mkv .i64 (v) := by simpa [mkv, nx] using hb
     clear hb; refine xs Y (nn_ _) (y9 Y _ hg (xs Y Y ?_)); refine xb Y ?_ ?_ <;> intro hb
     · have hb : ¬ x1 = mkv .i64 (nx (v)) := by simpa [mkv, nx] using hb
       exact xv Y Y Y (congrArg (Value.int .i64) (yg (qf (i := i + 1) (hst.trans (by simp only [hd, if_neg hb, if_pos hb0])))).symm)
     have hb1 : x1 = mkv .i64 (nx (v)) := by simpa [mkv, nx] using hb
     clear hb; refine q9 Y (hJ _ (i + 1, nx (nx (v))) ⟨by dsimp only; omega, hst.trans (by simp only [hd, if_pos hb0, if_pos hb1])⟩ (by dsimp only; omega) ?_); exact ⟨⟨cwi (by omega) (by omega) (by omega), Y, Y, trivial⟩, trivial, Y⟩
   · have h : ¬ i < rr.length := by simpa using h
     have : i = rr.length := by omega
     subst this; rw [List.take_length] at hv; exact xv Y Y Y (congrArg (Value.int .i64) (by rw [hv]; rfl))
theorem y4i (rr : List (List Cell)) (k : Int) (hw : WR 9000000000000000000 zb rr) : PC Tryz.prog 148 [.one (.l rr), .one (i64 k)] (rI (ng (hdR (hd zb) rr k))) := by
 refine PC.begin Tryz.func148 Y (by kernel_rfl) ?_; have hlen := hw.1; refine qc Y (ι := Nat × Int) (fun x => x.1 ≤ rr.length ∧ hdR (hd zb) (rr.take x.1) k = some x.2) (fun x => ⟨[(5, sV (.int .i64 x.1)), (1, sV (.int .i64 x.2)), (0, .one (.b (.l rr)))], []⟩) (fun x => rr.length - x.1) (0, k) ⟨Nat.zero_le _, Y⟩ ?_ ?_
 · exact ⟨⟨Y, Y, Y, trivial⟩, trivial, Y⟩
 · intro ⟨i, v⟩ ⟨hi, hv⟩ J hJ
   dsimp only at hi hv ⊢; refine xb Y ?_ ?_ <;> intro h
   · have h : i < rr.length := by simpa using h
     obtain ⟨row, hg⟩ := gx h; obtain ⟨x0, x1, x2, x3, x4, x5, rfl, h1, h2, h3, h4, h5⟩ := y0r (hw.2 row (List.mem_of_getElem? hg)); have hst := q05 hg hv; refine xs Y (nn_ _) (y9 Y _ hg (xs Y Y ?_)); refine xb Y ?_ ?_ <;> intro hb
     · have hb : ¬ x0 = mkv .i64 (v) := by simpa [mkv, nx] using hb
       exact xv Y Y Y (congrArg (Value.int .i64) (yg (qf (i := i + 1) (hst.trans (by simp only [hd, if_neg hb])))).symm)
     have hb0 : x0 = mkv .i64 (v) := by simpa [mkv, nx] using hb
     clear hb; refine xs Y (nn_ _) (y9 Y _ hg (xs Y Y ?_)); refine z7 Y (y3b x1 (nx (v)) h1) Y tv3 ?_; generalize hk1 : ng (hdR (hd qd) x1 (nx (v))) = k1; refine xb Y ?_ ?_ <;> intro hb
     · have hb : k1 < 0 := by simpa using hb
       exact xv Y Y Y (congrArg (Value.int .i64) (yg (qf (i := i + 1) (hst.trans (by simp only [hd, if_pos hb0, hk1, y1k hb]; rfl)))).symm)
     have hb1 : ¬ k1 < 0 := by simpa using hb
     clear hb; refine xs Y (nn_ _) (y9 Y _ hg (xs Y Y ?_)); refine z7 Y (z2q x2 (k1) h2) Y tv3 ?_; generalize hk2 : ng (hdR (hd zh) x2 (k1)) = k2; refine xb Y ?_ ?_ <;> intro hb
     · have hb : k2 < 0 := by simpa using hb
       exact xv Y Y Y (congrArg (Value.int .i64) (yg (qf (i := i + 1) (hst.trans (by simp only [hd, if_pos hb0, hk1, y01 hb1, Option.bind_some, hk2, y1k hb]; rfl)))).symm)
     have hb2 : ¬ k2 < 0 := by simpa using hb
     clear hb; refine xs Y (nn_ _) (y9 Y _ hg (xs Y Y ?_)); refine z7 Y (z1c x3 (k2) h3) Y tv3 ?_; generalize hk3 : ng (hdR (hd q7) x3 (k2)) = k3; refine xb Y ?_ ?_ <;> intro hb
     · have hb : k3 < 0 := by simpa using hb
       exact xv Y Y Y (congrArg (Value.int .i64) (yg (qf (i := i + 1) (hst.trans (by simp only [hd, if_pos hb0, hk1, y01 hb1, Option.bind_some, hk2, y01 hb2, Option.bind_some, hk3, y1k hb]; rfl)))).symm)
     have hb3 : ¬ k3 < 0 := by simpa using hb
     clear hb; refine xs Y (nn_ _) (y9 Y _ hg (xs Y Y ?_)); refine z7 Y (z2q x4 (k3) h4) Y tv3 ?_; generalize hk4 : ng (hdR (hd zh) x4 (k3)) = k4; refine xb Y ?_ ?_ <;> intro hb
     · have hb : k4 < 0 := by simpa using hb
       exact xv Y Y Y (congrArg (Value.int .i64) (yg (qf (i := i + 1) (hst.trans (by simp only [hd, if_pos hb0, hk1, y01 hb1, Option.bind_some, hk2, y01 hb2, Option.bind_some, hk3, y01 hb3, Option.bind_some, hk4, y1k hb]; rfl)))).symm)
     have hb4 : ¬ k4 < 0 := by simpa using hb
     clear hb; refine xs Y (nn_ _) (y9 Y _ hg (xs Y Y ?_)); refine z7 Y (y28 x5 (k4) h5) Y tv3 ?_; generalize hk5 : ng (hdR (hd (.i .i64 .nil)) x5 (k4)) = k5; refine xb Y ?_ ?_ <;> intro hb
     · have hb : k5 < 0 := by simpa using hb
       exact xv Y Y Y (congrArg (Value.int .i64) (yg (qf (i := i + 1) (hst.trans (by simp only [hd, if_pos hb0, hk1, y01 hb1, Option.bind_some, hk2, y01 hb2, Option.bind_some, hk3, y01 hb3, Option.bind_some, hk4, y01 hb4, Option.bind_some, hk5, y1k hb]; rfl)))).symm)
     have hb5 : ¬ k5 < 0 := by simpa using hb
     clear hb; refine q9 Y (hJ _ (i + 1, k5) ⟨by dsimp only; omega, hst.trans (by simp only [hd, if_pos hb0, hk1, y01 hb1, Option.bind_some, hk2, y01 hb2, Option.bind_some, hk3, y01 hb3, Option.bind_some, hk4, y01 hb4, Option.bind_some, hk5, y01 hb5, Option.bind_some])⟩ (by dsimp only; omega) ?_); exact ⟨⟨cwi (by omega) (by omega) (by omega), Y, Y, trivial⟩, trivial, Y⟩
   · have h : ¬ i < rr.length := by simpa using h
     have : i = rr.length := by omega
     subst this; rw [List.take_length] at hv; exact xv Y Y Y (congrArg (Value.int .i64) (by rw [hv]; rfl))
theorem y2q (rr : List (List Cell)) (k : Int) (hw : WR 9000000000000000000 yl rr) : PC Tryz.prog 341 [.one (.l rr), .one (i64 k)] (rI (ng (hdR (hd yl) rr k))) := by
 refine PC.begin Tryz.func341 Y (by kernel_rfl) ?_; have hlen := hw.1; refine qc Y (ι := Nat × Int) (fun x => x.1 ≤ rr.length ∧ hdR (hd yl) (rr.take x.1) k = some x.2) (fun x => ⟨[(5, sV (.int .i64 x.1)), (1, sV (.int .i64 x.2)), (0, .one (.b (.l rr)))], []⟩) (fun x => rr.length - x.1) (0, k) ⟨Nat.zero_le _, Y⟩ ?_ ?_
 · exact ⟨⟨Y, Y, Y, trivial⟩, trivial, Y⟩
 · intro ⟨i, v⟩ ⟨hi, hv⟩ J hJ
   dsimp only at hi hv ⊢; refine xb Y ?_ ?_ <;> intro h
   · have h : i < rr.length := by simpa using h
     obtain ⟨row, hg⟩ := gx h; obtain ⟨x0, x1, rfl⟩ := q19 (hw.2 row (List.mem_of_getElem? hg)); have hst := q05 hg hv; refine xs Y (nn_ _) (y9 Y _ hg (xs Y Y ?_)); refine xb Y ?_ ?_ <;> intro hb
     · have hb : ¬ x0 = mkv .i64 (v) := by simpa [mkv, nx] using hb
       exact xv Y Y Y (congrArg (Value.int .i64) (yg (qf (i := i + 1) (hst.trans (by simp only [hd, if_neg hb])))).symm)
     have hb0 : x0 = mkv .i64 (v) := by simpa [mkv, nx] using hb
     clear hb; refine xs Y (nn_ _) (y9 Y _ hg (xs Y Y ?_)); refine xb Y ?_ ?_ <;> intro hb
     · have hb : ¬ x1 = mkv .i64 (nx (v)) := by simpa [mkv, nx] using hb
       exact xv Y Y Y (congrArg (Value.int .i64) (yg (qf (i := i + 1) (hst.trans (by simp only [hd, if_neg hb, if_pos hb0])))).symm)
     have hb1 : x1 = mkv .i64 (nx (v)) := by simpa [mkv, nx] using hb
     clear hb; refine q9 Y (hJ _ (i + 1, nx (nx (v))) ⟨by dsimp only; omega, hst.trans (by simp only [hd, if_pos hb0, if_pos hb1])⟩ (by dsimp only; omega) ?_); exact ⟨⟨cwi (by omega) (by omega) (by omega), Y, Y, trivial⟩, trivial, Y⟩
   · have h : ¬ i < rr.length := by simpa using h
     have : i = rr.length := by omega
     subst this; rw [List.take_length] at hv; exact xv Y Y Y (congrArg (Value.int .i64) (by rw [hv]; rfl))
theorem y56 (rr : List (List Cell)) (k : Int) (hw : WR 9000000000000000000 zk rr) : PC Tryz.prog 251 [.one (.l rr), .one (i64 k)] (rI (ng (hdR (hd zk) rr k))) := by
 refine PC.begin Tryz.func251 Y (by kernel_rfl) ?_; have hlen := hw.1; refine qc Y (ι := Nat × Int) (fun x => x.1 ≤ rr.length ∧ hdR (hd zk) (rr.take x.1) k = some x.2) (fun x => ⟨[(5, sV (.int .i64 x.1)), (1, sV (.int .i64 x.2)), (0, .one (.b (.l rr)))], []⟩) (fun x => rr.length - x.1) (0, k) ⟨Nat.zero_le _, Y⟩ ?_ ?_
 · exact ⟨⟨Y, Y, Y, trivial⟩, trivial, Y⟩
 · intro ⟨i, v⟩ ⟨hi, hv⟩ J hJ
   dsimp only at hi hv ⊢; refine xb Y ?_ ?_ <;> intro h
   · have h : i < rr.length := by simpa using h
     obtain ⟨row, hg⟩ := gx h; obtain ⟨x0, x1, x2, x3, x4, x5, rfl, h5⟩ := y19 (hw.2 row (List.mem_of_getElem? hg)); have hst := q05 hg hv; refine xs Y (nn_ _) (y9 Y _ hg (xs Y Y ?_)); refine xb Y ?_ ?_ <;> intro hb
     · have hb : ¬ x0 = mkv .i64 (v) := by simpa [mkv, nx] using hb
       exact xv Y Y Y (congrArg (Value.int .i64) (yg (qf (i := i + 1) (hst.trans (by simp only [hd, if_neg hb])))).symm)
     have hb0 : x0 = mkv .i64 (v) := by simpa [mkv, nx] using hb
     clear hb; refine xs Y (nn_ _) (y9 Y _ hg (xs Y Y ?_)); refine xb Y ?_ ?_ <;> intro hb
     · have hb : ¬ x1 = mkv .i64 (nx (v)) := by simpa [mkv, nx] using hb
       exact xv Y Y Y (congrArg (Value.int .i64) (yg (qf (i := i + 1) (hst.trans (by simp only [hd, if_neg hb, if_pos hb0])))).symm)
     have hb1 : x1 = mkv .i64 (nx (v)) := by simpa [mkv, nx] using hb
     clear hb; refine xs Y (nn_ _) (y9 Y _ hg (xs Y Y ?_)); refine xb Y ?_ ?_ <;> intro hb
     · have hb : ¬ x2 = mkv .i64 (nx (nx (v))) := by simpa [mkv, nx] using hb
       exact xv Y Y Y (congrArg (Value.int .i64) (yg (qf (i := i + 1) (hst.trans (by simp only [hd, if_neg hb, if_pos hb0, if_pos hb1])))).symm)
     have hb2 : x2 = mkv .i64 (nx (nx (v))) := by simpa [mkv, nx] using hb
     clear hb; refine xs Y (nn_ _) (y9 Y _ hg (xs Y Y ?_)); refine xb Y ?_ ?_ <;> intro hb
     · have hb : ¬ x3 = mkv .i64 (nx (nx (nx (v)))) := by simpa [mkv, nx] using hb
       exact xv Y Y Y (congrArg (Value.int .i64) (yg (qf (i := i + 1) (hst.trans (by simp only [hd, if_neg hb, if_pos hb0, if_pos hb1, if_pos hb2])))).symm)
     have hb3 : x3 = mkv .i64 (nx (nx (nx (v)))) := by simpa [mkv, nx] using hb
     clear hb; refine xs Y (nn_ _) (y9 Y _ hg (xs Y Y ?_)); refine xb Y ?_ ?_ <;> intro hb
     · have hb : ¬ x4 = mkv .i64 (nx (nx (nx (nx (v))))) := by simpa [mkv, nx] using hb
       exact xv Y Y Y (congrArg (Value.int .i64) (yg (qf (i := i + 1) (hst.trans (by simp only [hd, if_neg hb, if_pos hb0, if_pos hb1, if_pos hb2, if_pos hb3])))).symm)
     have hb4 : x4 = mkv .i64 (nx (nx (nx (nx (v))))) := by simpa [mkv, nx] using hb
     clear hb; refine xs Y (nn_ _) (y9 Y _ hg (xs Y Y ?_)); refine z7 Y (y2q x5 (nx (nx (nx (nx (nx (v)))))) h5) Y tv3 ?_; generalize hk5 : ng (hdR (hd yl) x5 (nx (nx (nx (nx (nx (v))))))) = k5; refine xb Y ?_ ?_ <;> intro hb
     · have hb : k5 < 0 := by simpa using hb
       exact xv Y Y Y (congrArg (Value.int .i64) (yg (qf (i := i + 1) (hst.trans (by simp only [hd, if_pos hb0, if_pos hb1, if_pos hb2, if_pos hb3, if_pos hb4, hk5, y1k hb]; rfl)))).symm)
     have hb5 : ¬ k5 < 0 := by simpa using hb
     clear hb; refine q9 Y (hJ _ (i + 1, k5) ⟨by dsimp only; omega, hst.trans (by simp only [hd, if_pos hb0, if_pos hb1, if_pos hb2, if_pos hb3, if_pos hb4, hk5, y01 hb5, Option.bind_some])⟩ (by dsimp only; omega) ?_); exact ⟨⟨cwi (by omega) (by omega) (by omega), Y, Y, trivial⟩, trivial, Y⟩
   · have h : ¬ i < rr.length := by simpa using h
     have : i = rr.length := by omega
     subst this; rw [List.take_length] at hv; exact xv Y Y Y (congrArg (Value.int .i64) (by rw [hv]; rfl))
theorem z2v (rr : List (List Cell)) (k : Int) (hw : WR 9000000000000000000 z8 rr) : PC Tryz.prog 149 [.one (.l rr), .one (i64 k)] (rI (ng (hdR (hd z8) rr k))) := by
 refine PC.begin Tryz.func149 Y (by kernel_rfl) ?_; have hlen := hw.1; refine qc Y (ι := Nat × Int) (fun x => x.1 ≤ rr.length ∧ hdR (hd z8) (rr.take x.1) k = some x.2) (fun x => ⟨[(5, sV (.int .i64 x.1)), (1, sV (.int .i64 x.2)), (0, .one (.b (.l rr)))], []⟩) (fun x => rr.length - x.1) (0, k) ⟨Nat.zero_le _, Y⟩ ?_ ?_
 · exact ⟨⟨Y, Y, Y, trivial⟩, trivial, Y⟩
 · intro ⟨i, v⟩ ⟨hi, hv⟩ J hJ
   dsimp only at hi hv ⊢; refine xb Y ?_ ?_ <;> intro h
   · have h : i < rr.length := by simpa using h
     obtain ⟨row, hg⟩ := gx h; obtain ⟨x0, rfl, h0⟩ := y04 (hw.2 row (List.mem_of_getElem? hg)); have hst := q05 hg hv; refine xs Y (nn_ _) (y9 Y _ hg (xs Y Y ?_)); refine z7 Y (y56 x0 (v) h0) Y tv3 ?_; generalize hk0 : ng (hdR (hd zk) x0 (v)) = k0; refine xb Y ?_ ?_ <;> intro hb
     · have hb : k0 < 0 := by simpa using hb
       exact xv Y Y Y (congrArg (Value.int .i64) (yg (qf (i := i + 1) (hst.trans (by simp only [hd, hk0, y1k hb]; rfl)))).symm)
     have hb0 : ¬ k0 < 0 := by simpa using hb
     clear hb; refine q9 Y (hJ _ (i + 1, k0) ⟨by dsimp only; omega, hst.trans (by simp only [hd, hk0, y01 hb0, Option.bind_some])⟩ (by dsimp only; omega) ?_); exact ⟨⟨cwi (by omega) (by omega) (by omega), Y, Y, trivial⟩, trivial, Y⟩
   · have h : ¬ i < rr.length := by simpa using h
     have : i = rr.length := by omega
     subst this; rw [List.take_length] at hv; exact xv Y Y Y (congrArg (Value.int .i64) (by rw [hv]; rfl))
theorem y5w (rr : List (List Cell)) (k : Int) (hw : WR 9000000000000000000 qp rr) : PC Tryz.prog 252 [.one (.l rr), .one (i64 k)] (rI (ng (hdR (hd qp) rr k))) := by
 refine PC.begin Tryz.func252 Y (by kernel_rfl) ?_; have hlen := hw.1; refine qc Y (ι := Nat × Int) (fun x => x.1 ≤ rr.length ∧ hdR (hd qp) (rr.take x.1) k = some x.2) (fun x => ⟨[(5, sV (.int .i64 x.1)), (1, sV (.int .i64 x.2)), (0, .one (.b (.l rr)))], []⟩) (fun x => rr.length - x.1) (0, k) ⟨Nat.zero_le _, Y⟩ ?_ ?_
 · exact ⟨⟨Y, Y, Y, trivial⟩, trivial, Y⟩
 · intro ⟨i, v⟩ ⟨hi, hv⟩ J hJ
   dsimp only at hi hv ⊢; refine xb Y ?_ ?_ <;> intro h
   · have h : i < rr.length := by simpa using h
     obtain ⟨row, hg⟩ := gx h; obtain ⟨x0, x1, x2, x3, x4, x5, rfl, h4, h5⟩ := y1z (hw.2 row (List.mem_of_getElem? hg)); have hst := q05 hg hv; refine xs Y (nn_ _) (y9 Y _ hg (xs Y Y ?_)); refine xb Y ?_ ?_ <;> intro hb
     · have hb : ¬ x0 = mkv .i64 (v) := by simpa [mkv, nx] using hb
       exact xv Y Y Y (congrArg (Value.int .i64) (yg (qf (i := i + 1) (hst.trans (by simp only [hd, if_neg hb])))).symm)
     have hb0 : x0 = mkv .i64 (v) := by simpa [mkv, nx] using hb
     clear hb; refine xs Y (nn_ _) (y9 Y _ hg (xs Y Y ?_)); refine xb Y ?_ ?_ <;> intro hb
     · have hb : ¬ x1 = mkv .i64 (nx (v)) := by simpa [mkv, nx] using hb
       exact xv Y Y Y (congrArg (Value.int .i64) (yg (qf (i := i + 1) (hst.trans (by simp only [hd, if_neg hb, if_pos hb0])))).symm)
     have hb1 : x1 = mkv .i64 (nx (v)) := by simpa [mkv, nx] using hb
     clear hb; refine xs Y (nn_ _) (y9 Y _ hg (xs Y Y ?_)); refine xb Y ?_ ?_ <;> intro hb
     · have hb : ¬ x2 = mkv .i64 (nx (nx (v))) := by simpa [mkv, nx] using hb
       exact xv Y Y Y (congrArg (Value.int .i64) (yg (qf (i := i + 1) (hst.trans (by simp only [hd, if_neg hb, if_pos hb0, if_pos hb1])))).symm)
     have hb2 : x2 = mkv .i64 (nx (nx (v))) := by simpa [mkv, nx] using hb
     clear hb; refine xs Y (nn_ _) (y9 Y _ hg (xs Y Y ?_)); refine xb Y ?_ ?_ <;> intro hb
     · have hb : ¬ x3 = mkv .i64 (nx (nx (nx (v)))) := by simpa [mkv, nx] using hb
       exact xv Y Y Y (congrArg (Value.int .i64) (yg (qf (i := i + 1) (hst.trans (by simp only [hd, if_neg hb, if_pos hb0, if_pos hb1, if_pos hb2])))).symm)
     have hb3 : x3 = mkv .i64 (nx (nx (nx (v)))) := by simpa [mkv, nx] using hb
     clear hb; refine xs Y (nn_ _) (y9 Y _ hg (xs Y Y ?_)); refine z7 Y (y28 x4 (nx (nx (nx (nx (v))))) h4) Y tv3 ?_; generalize hk4 : ng (hdR (hd (.i .i64 .nil)) x4 (nx (nx (nx (nx (v)))))) = k4; refine xb Y ?_ ?_ <;> intro hb
     · have hb : k4 < 0 := by simpa using hb
       exact xv Y Y Y (congrArg (Value.int .i64) (yg (qf (i := i + 1) (hst.trans (by simp only [hd, if_pos hb0, if_pos hb1, if_pos hb2, if_pos hb3, hk4, y1k hb]; rfl)))).symm)
     have hb4 : ¬ k4 < 0 := by simpa using hb
     clear hb; refine xs Y (nn_ _) (y9 Y _ hg (xs Y Y ?_)); refine z7 Y (y2q x5 (k4) h5) Y tv3 ?_; generalize hk5 : ng (hdR (hd yl) x5 (k4)) = k5; refine xb Y ?_ ?_ <;> intro hb
     · have hb : k5 < 0 := by simpa using hb
       exact xv Y Y Y (congrArg (Value.int .i64) (yg (qf (i := i + 1) (hst.trans (by simp only [hd, if_pos hb0, if_pos hb1, if_pos hb2, if_pos hb3, hk4, y01 hb4, Option.bind_some, hk5, y1k hb]; rfl)))).symm)
     have hb5 : ¬ k5 < 0 := by simpa using hb
     clear hb; refine q9 Y (hJ _ (i + 1, k5) ⟨by dsimp only; omega, hst.trans (by simp only [hd, if_pos hb0, if_pos hb1, if_pos hb2, if_pos hb3, hk4, y01 hb4, Option.bind_some, hk5, y01 hb5, Option.bind_some])⟩ (by dsimp only; omega) ?_); exact ⟨⟨cwi (by omega) (by omega) (by omega), Y, Y, trivial⟩, trivial, Y⟩
   · have h : ¬ i < rr.length := by simpa using h
     have : i = rr.length := by omega
     subst this; rw [List.take_length] at hv; exact xv Y Y Y (congrArg (Value.int .i64) (by rw [hv]; rfl))
theorem z4i (rr : List (List Cell)) (k : Int) (hw : WR 9000000000000000000 zn rr) : PC Tryz.prog 253 [.one (.l rr), .one (i64 k)] (rI (ng (hdR (hd zn) rr k))) := by
 refine PC.begin Tryz.func253 Y (by kernel_rfl) ?_; have hlen := hw.1; refine qc Y (ι := Nat × Int) (fun x => x.1 ≤ rr.length ∧ hdR (hd zn) (rr.take x.1) k = some x.2) (fun x => ⟨[(5, sV (.int .i64 x.1)), (1, sV (.int .i64 x.2)), (0, .one (.b (.l rr)))], []⟩) (fun x => rr.length - x.1) (0, k) ⟨Nat.zero_le _, Y⟩ ?_ ?_
 · exact ⟨⟨Y, Y, Y, trivial⟩, trivial, Y⟩
 · intro ⟨i, v⟩ ⟨hi, hv⟩ J hJ
   dsimp only at hi hv ⊢; refine xb Y ?_ ?_ <;> intro h
   · have h : i < rr.length := by simpa using h
     obtain ⟨row, hg⟩ := gx h; obtain ⟨x0, x1, x2, x3, x4, rfl⟩ := z0r (hw.2 row (List.mem_of_getElem? hg)); have hst := q05 hg hv; refine xs Y (nn_ _) (y9 Y _ hg (xs Y Y ?_)); refine xb Y ?_ ?_ <;> intro hb
     · have hb : ¬ x0 = mkv .i64 (v) := by simpa [mkv, nx] using hb
       exact xv Y Y Y (congrArg (Value.int .i64) (yg (qf (i := i + 1) (hst.trans (by simp only [hd, if_neg hb])))).symm)
     have hb0 : x0 = mkv .i64 (v) := by simpa [mkv, nx] using hb
     clear hb; refine xs Y (nn_ _) (y9 Y _ hg (xs Y Y ?_)); refine xb Y ?_ ?_ <;> intro hb
     · have hb : ¬ x1 = mkv .i64 (nx (v)) := by simpa [mkv, nx] using hb
       exact xv Y Y Y (congrArg (Value.int .i64) (yg (qf (i := i + 1) (hst.trans (by simp only [hd, if_neg hb, if_pos hb0])))).symm)
     have hb1 : x1 = mkv .i64 (nx (v)) := by simpa [mkv, nx] using hb
     clear hb; refine xs Y (nn_ _) (y9 Y _ hg (xs Y Y ?_)); refine xb Y ?_ ?_ <;> intro hb
     · have hb : ¬ x2 = mkv .i64 (nx (nx (v))) := by simpa [mkv, nx] using hb
       exact xv Y Y Y (congrArg (Value.int .i64) (yg (qf (i := i + 1) (hst.trans (by simp only [hd, if_neg hb, if_pos hb0, if_pos hb1])))).symm)
     have hb2 : x2 = mkv .i64 (nx (nx (v))) := by simpa [mkv, nx] using hb
     clear hb; refine xs Y (nn_ _) (y9 Y _ hg (xs Y Y ?_)); refine xb Y ?_ ?_ <;> intro hb
     · have hb : ¬ x3 = mkv .i64 (nx (nx (nx (v)))) := by simpa [mkv, nx] using hb
       exact xv Y Y Y (congrArg (Value.int .i64) (yg (qf (i := i + 1) (hst.trans (by simp only [hd, if_neg hb, if_pos hb0, if_pos hb1, if_pos hb2])))).symm)
     have hb3 : x3 = mkv .i64 (nx (nx (nx (v)))) := by simpa [mkv, nx] using hb
     clear hb; refine xs Y (nn_ _) (y9 Y _ hg (xs Y Y ?_)); refine xb Y ?_ ?_ <;> intro hb
     · have hb : ¬ x4 = mkv .i64 (nx (nx (nx (nx (v))))) := by simpa [mkv, nx] using hb
       exact xv Y Y Y (congrArg (Value.int .i64) (yg (qf (i := i + 1) (hst.trans (by simp only [hd, if_neg hb, if_pos hb0, if_pos hb1, if_pos hb2, if_pos hb3])))).symm)
     have hb4 : x4 = mkv .i64 (nx (nx (nx (nx (v))))) := by simpa [mkv, nx] using hb
     clear hb; refine q9 Y (hJ _ (i + 1, nx (nx (nx (nx (nx (v)))))) ⟨by dsimp only; omega, hst.trans (by simp only [hd, if_pos hb0, if_pos hb1, if_pos hb2, if_pos hb3, if_pos hb4])⟩ (by dsimp only; omega) ?_); exact ⟨⟨cwi (by omega) (by omega) (by omega), Y, Y, trivial⟩, trivial, Y⟩
   · have h : ¬ i < rr.length := by simpa using h
     have : i = rr.length := by omega
     subst this; rw [List.take_length] at hv; exact xv Y Y Y (congrArg (Value.int .i64) (by rw [hv]; rfl))
theorem q3t (rr : List (List Cell)) (k : Int) (hw : WR 9000000000000000000 qa rr) : PC Tryz.prog 150 [.one (.l rr), .one (i64 k)] (rI (ng (hdR (hd qa) rr k))) := by
 refine PC.begin Tryz.func150 Y (by kernel_rfl) ?_; have hlen := hw.1; refine qc Y (ι := Nat × Int) (fun x => x.1 ≤ rr.length ∧ hdR (hd qa) (rr.take x.1) k = some x.2) (fun x => ⟨[(5, sV (.int .i64 x.1)), (1, sV (.int .i64 x.2)), (0, .one (.b (.l rr)))], []⟩) (fun x => rr.length - x.1) (0, k) ⟨Nat.zero_le _, Y⟩ ?_ ?_
 · exact ⟨⟨Y, Y, Y, trivial⟩, trivial, Y⟩
 · intro ⟨i, v⟩ ⟨hi, hv⟩ J hJ
   dsimp only at hi hv ⊢; refine xb Y ?_ ?_ <;> intro h
   · have h : i < rr.length := by simpa using h
     obtain ⟨row, hg⟩ := gx h; obtain ⟨x0, x1, x2, rfl, h1, h2⟩ := q0f (hw.2 row (List.mem_of_getElem? hg)); have hst := q05 hg hv; refine xs Y (nn_ _) (y9 Y _ hg (xs Y Y ?_)); refine xb Y ?_ ?_ <;> intro hb
     · have hb : ¬ x0 = mkv .i64 (v) := by simpa [mkv, nx] using hb
       exact xv Y Y Y (congrArg (Value.int .i64) (yg (qf (i := i + 1) (hst.trans (by simp only [hd, if_neg hb])))).symm)
     have hb0 : x0 = mkv .i64 (v) := by simpa [mkv, nx] using hb
     clear hb; refine xs Y (nn_ _) (y9 Y _ hg (xs Y Y ?_)); refine z7 Y (y5w x1 (nx (v)) h1) Y tv3 ?_; generalize hk1 : ng (hdR (hd qp) x1 (nx (v))) = k1; refine xb Y ?_ ?_ <;> intro hb
     · have hb : k1 < 0 := by simpa using hb
       exact xv Y Y Y (congrArg (Value.int .i64) (yg (qf (i := i + 1) (hst.trans (by simp only [hd, if_pos hb0, hk1, y1k hb]; rfl)))).symm)
     have hb1 : ¬ k1 < 0 := by simpa using hb
     clear hb; refine xs Y (nn_ _) (y9 Y _ hg (xs Y Y ?_)); refine z7 Y (z4i x2 (k1) h2) Y tv3 ?_; generalize hk2 : ng (hdR (hd zn) x2 (k1)) = k2; refine xb Y ?_ ?_ <;> intro hb
     · have hb : k2 < 0 := by simpa using hb
       exact xv Y Y Y (congrArg (Value.int .i64) (yg (qf (i := i + 1) (hst.trans (by simp only [hd, if_pos hb0, hk1, y01 hb1, Option.bind_some, hk2, y1k hb]; rfl)))).symm)
     have hb2 : ¬ k2 < 0 := by simpa using hb
     clear hb; refine q9 Y (hJ _ (i + 1, k2) ⟨by dsimp only; omega, hst.trans (by simp only [hd, if_pos hb0, hk1, y01 hb1, Option.bind_some, hk2, y01 hb2, Option.bind_some])⟩ (by dsimp only; omega) ?_); exact ⟨⟨cwi (by omega) (by omega) (by omega), Y, Y, trivial⟩, trivial, Y⟩
   · have h : ¬ i < rr.length := by simpa using h
     have : i = rr.length := by omega
     subst this; rw [List.take_length] at hv; exact xv Y Y Y (congrArg (Value.int .i64) (by rw [hv]; rfl))
theorem q3b (rr : List (List Cell)) (k : Int) (hw : WR 9000000000000000000 qb rr) : PC Tryz.prog 151 [.one (.l rr), .one (i64 k)] (rI (ng (hdR (hd qb) rr k))) := by
 refine PC.begin Tryz.func151 Y (by kernel_rfl) ?_; have hlen := hw.1; refine qc Y (ι := Nat × Int) (fun x => x.1 ≤ rr.length ∧ hdR (hd qb) (rr.take x.1) k = some x.2) (fun x => ⟨[(5, sV (.int .i64 x.1)), (1, sV (.int .i64 x.2)), (0, .one (.b (.l rr)))], []⟩) (fun x => rr.length - x.1) (0, k) ⟨Nat.zero_le _, Y⟩ ?_ ?_
 · exact ⟨⟨Y, Y, Y, trivial⟩, trivial, Y⟩
 · intro ⟨i, v⟩ ⟨hi, hv⟩ J hJ
   dsimp only at hi hv ⊢; refine xb Y ?_ ?_ <;> intro h
   · have h : i < rr.length := by simpa using h
     obtain ⟨row, hg⟩ := gx h; obtain ⟨x0, x1, x2, x3, x4, x5, x6, x7, x8, rfl⟩ := q09 (hw.2 row (List.mem_of_getElem? hg)); have hst := q05 hg hv; refine xs Y (nn_ _) (y9 Y _ hg (xs Y Y ?_)); refine xb Y ?_ ?_ <;> intro hb
     · have hb : ¬ x0 = mkv .i64 (v) := by simpa [mkv, nx] using hb
       exact xv Y Y Y (congrArg (Value.int .i64) (yg (qf (i := i + 1) (hst.trans (by simp only [hd, if_neg hb])))).symm)
     have hb0 : x0 = mkv .i64 (v) := by simpa [mkv, nx] using hb
     clear hb; refine xs Y (nn_ _) (y9 Y _ hg (xs Y Y ?_)); refine xb Y ?_ ?_ <;> intro hb
     · have hb : ¬ x1 = mkv .i64 (nx (v)) := by simpa [mkv, nx] using hb
       exact xv Y Y Y (congrArg (Value.int .i64) (yg (qf (i := i + 1) (hst.trans (by simp only [hd, if_neg hb, if_pos hb0])))).symm)
     have hb1 : x1 = mkv .i64 (nx (v)) := by simpa [mkv, nx] using hb
     clear hb; refine xs Y (nn_ _) (y9 Y _ hg (xs Y Y ?_)); refine xb Y ?_ ?_ <;> intro hb
     · have hb : ¬ x2 = mkv .i64 (nx (nx (v))) := by simpa [mkv, nx] using hb
       exact xv Y Y Y (congrArg (Value.int .i64) (yg (qf (i := i + 1) (hst.trans (by simp only [hd, if_neg hb, if_pos hb0, if_pos hb1])))).symm)
     have hb2 : x2 = mkv .i64 (nx (nx (v))) := by simpa [mkv, nx] using hb
     clear hb; refine xs Y (nn_ _) (y9 Y _ hg (xs Y Y ?_)); refine xb Y ?_ ?_ <;> intro hb
     · have hb : ¬ x3 = mkv .i64 (nx (nx (nx (v)))) := by simpa [mkv, nx] using hb
       exact xv Y Y Y (congrArg (Value.int .i64) (yg (qf (i := i + 1) (hst.trans (by simp only [hd, if_neg hb, if_pos hb0, if_pos hb1, if_pos hb2])))).symm)
     have hb3 : x3 = mkv .i64 (nx (nx (nx (v)))) := by simpa [mkv, nx] using hb
     clear hb; refine xs Y (nn_ _) (y9 Y _ hg (xs Y Y ?_)); refine xb Y ?_ ?_ <;> intro hb
     · have hb : ¬ x4 = mkv .i64 (nx (nx (nx (nx (v))))) := by simpa [mkv, nx] using hb
       exact xv Y Y Y (congrArg (Value.int .i64) (yg (qf (i := i + 1) (hst.trans (by simp only [hd, if_neg hb, if_pos hb0, if_pos hb1, if_pos hb2, if_pos hb3])))).symm)
     have hb4 : x4 = mkv .i64 (nx (nx (nx (nx (v))))) := by simpa [mkv, nx] using hb
     clear hb; refine xs Y (nn_ _) (y9 Y _ hg (xs Y Y ?_)); refine xb Y ?_ ?_ <;> intro hb
     · have hb : ¬ x5 = mkv .i64 (nx (nx (nx (nx (nx (v)))))) := by simpa [mkv, nx] using hb
       exact xv Y Y Y (congrArg (Value.int .i64) (yg (qf (i := i + 1) (hst.trans (by simp only [hd, if_neg hb, if_pos hb0, if_pos hb1, if_pos hb2, if_pos hb3, if_pos hb4])))).symm)
     have hb5 : x5 = mkv .i64 (nx (nx (nx (nx (nx (v)))))) := by simpa [mkv, nx] using hb
     clear hb; refine xs Y (nn_ _) (y9 Y _ hg (xs Y Y ?_)); refine xb Y ?_ ?_ <;> intro hb
     · have hb : ¬ x6 = mkv .i64 (nx (nx (nx (nx (nx (nx (v))))))) := by simpa [mkv, nx] using hb
       exact xv Y Y Y (congrArg (Value.int .i64) (yg (qf (i := i + 1) (hst.trans (by simp only [hd, if_neg hb, if_pos hb0, if_pos hb1, if_pos hb2, if_pos hb3, if_pos hb4, if_pos hb5])))).symm)
     have hb6 : x6 = mkv .i64 (nx (nx (nx (nx (nx (nx (v))))))) := by simpa [mkv, nx] using hb
     clear hb; refine xs Y (nn_ _) (y9 Y _ hg (xs Y Y ?_)); refine xb Y ?_ ?_ <;> intro hb
     · have hb : ¬ x7 = mkv .i64 (nx (nx (nx (nx (nx (nx (nx (v)))))))) := by simpa [mkv, nx] using hb
       exact xv Y Y Y (congrArg (Value.int .i64) (yg (qf (i := i + 1) (hst.trans (by simp only [hd, if_neg hb, if_pos hb0, if_pos hb1, if_pos hb2, if_pos hb3, if_pos hb4, if_pos hb5, if_pos hb6])))).symm)
     have hb7 : x7 = mkv .i64 (nx (nx (nx (nx (nx (nx (nx (v)))))))) := by simpa [mkv, nx] using hb
     clear hb; refine xs Y (nn_ _) (y9 Y _ hg (xs Y Y ?_)); refine xb Y ?_ ?_ <;> intro hb
     · have hb : ¬ x8 = mkv .i64 (nx (nx (nx (nx (nx (nx (nx (nx (v))))))))) := by simpa [mkv, nx] using hb
       exact xv Y Y Y (congrArg (Value.int .i64) (yg (qf (i := i + 1) (hst.trans (by simp only [hd, if_neg hb, if_pos hb0, if_pos hb1, if_pos hb2, if_pos hb3, if_pos hb4, if_pos hb5, if_pos hb6, if_pos hb7])))).symm)
     have hb8 : x8 = mkv .i64 (nx (nx (nx (nx (nx (nx (nx (nx (v))))))))) := by simpa [mkv, nx] using hb
     clear hb; refine q9 Y (hJ _ (i + 1, nx (nx (nx (nx (nx (nx (nx (nx (nx (v)))))))))) ⟨by dsimp only; omega, hst.trans (by simp only [hd, if_pos hb0, if_pos hb1, if_pos hb2, if_pos hb3, if_pos hb4, if_pos hb5, if_pos hb6, if_pos hb7, if_pos hb8])⟩ (by dsimp only; omega) ?_); exact ⟨⟨cwi (by omega) (by omega) (by omega), Y, Y, trivial⟩, trivial, Y⟩
   · have h : ¬ i < rr.length := by simpa using h
     have : i = rr.length := by omega
     subst this; rw [List.take_length] at hv; exact xv Y Y Y (congrArg (Value.int .i64) (by rw [hv]; rfl))
theorem y3t (x0 : List (List Cell)) (x1 : List (List Cell)) (x2 : List (List Cell)) (x3 : List (List Cell)) (x4 : List (List Cell)) (k : Int) (h0 : WR 9000000000000000000 q7 x0) (h1 : WR 9000000000000000000 zb x1) (h2 : WR 9000000000000000000 z8 x2) (h3 : WR 9000000000000000000 qa x3) (h4 : WR 9000000000000000000 qb x4) (hk : 0 ≤ k) : PC Tryz.prog 76 [.agg [.l x0, .l x1, .l x2, .l x3, .l x4], .one (i64 k)] (rI (ng (ht ze [.l x0, .l x1, .l x2, .l x3, .l x4] k))) := by
 refine PC.begin Tryz.func76 Y (by kernel_rfl) ?_; have e : ht ze [.l x0, .l x1, .l x2, .l x3, .l x4] k = ((ps (ng (hdR (hd q7) x0 k))).bind fun v1 => (ps (ng (hdR (hd zb) x1 v1))).bind fun v2 => (ps (ng (hdR (hd z8) x2 v2))).bind fun v3 => (ps (ng (hdR (hd qa) x3 v3))).bind fun v4 => (ps (ng (hdR (hd qb) x4 v4))).bind fun v5 => some v5) := by simp only [ht, Option.bind_assoc, Option.bind_some]
 rw [e]; refine z7 Y (z1c x0 k h0) Y tv3 ?_; generalize hk0 : ng (hdR (hd q7) x0 (k)) = k0; refine xb Y ?_ ?_ <;> intro hb
 · have hb : k0 < 0 := by simpa using hb
   exact xv Y Y Y (congrArg (Value.int .i64) (yg (by simp only [hk0, y1k hb]; rfl)).symm)
 have hb0 : ¬ k0 < 0 := by simpa using hb
 have hp0 : 0 ≤ k0 := by omega
 clear hb; refine z7 Y (y4i x1 k0 h1) Y tv3 ?_; generalize hk1 : ng (hdR (hd zb) x1 (k0)) = k1; refine xb Y ?_ ?_ <;> intro hb
 · have hb : k1 < 0 := by simpa using hb
   exact xv Y Y Y (congrArg (Value.int .i64) (yg (by simp only [hk0, y01 hb0, Option.bind_some, hk1, y1k hb]; rfl)).symm)
 have hb1 : ¬ k1 < 0 := by simpa using hb
 have hp1 : 0 ≤ k1 := by omega
 clear hb; refine z7 Y (z2v x2 k1 h2) Y tv3 ?_; generalize hk2 : ng (hdR (hd z8) x2 (k1)) = k2; refine xb Y ?_ ?_ <;> intro hb
 · have hb : k2 < 0 := by simpa using hb
   exact xv Y Y Y (congrArg (Value.int .i64) (yg (by simp only [hk0, y01 hb0, Option.bind_some, hk1, y01 hb1, Option.bind_some, hk2, y1k hb]; rfl)).symm)
 have hb2 : ¬ k2 < 0 := by simpa using hb
 have hp2 : 0 ≤ k2 := by omega
 clear hb; refine z7 Y (q3t x3 k2 h3) Y tv3 ?_; generalize hk3 : ng (hdR (hd qa) x3 (k2)) = k3; refine xb Y ?_ ?_ <;> intro hb
 · have hb : k3 < 0 := by simpa using hb
   exact xv Y Y Y (congrArg (Value.int .i64) (yg (by simp only [hk0, y01 hb0, Option.bind_some, hk1, y01 hb1, Option.bind_some, hk2, y01 hb2, Option.bind_some, hk3, y1k hb]; rfl)).symm)
 have hb3 : ¬ k3 < 0 := by simpa using hb
 have hp3 : 0 ≤ k3 := by omega
 clear hb; refine z7 Y (q3b x4 k3 h4) Y tv3 ?_; generalize hk4 : ng (hdR (hd qb) x4 (k3)) = k4; refine xb Y ?_ ?_ <;> intro hb
 · have hb : k4 < 0 := by simpa using hb
   exact xv Y Y Y (congrArg (Value.int .i64) (yg (by simp only [hk0, y01 hb0, Option.bind_some, hk1, y01 hb1, Option.bind_some, hk2, y01 hb2, Option.bind_some, hk3, y01 hb3, Option.bind_some, hk4, y1k hb]; rfl)).symm)
 have hb4 : ¬ k4 < 0 := by simpa using hb
 have hp4 : 0 ≤ k4 := by omega
 clear hb; exact xv Y Y Y (congrArg (Value.int .i64) (by simp only [hk0, y01 hb0, Option.bind_some, hk1, y01 hb1, Option.bind_some, hk2, y01 hb2, Option.bind_some, hk3, y01 hb3, Option.bind_some, hk4, y01 hb4, Option.bind_some]; rfl))
theorem q1r (x0 : Int) (x1 : List (List Cell)) (x2 : List (List Cell)) (x3 : List (List Cell)) (x4 : List (List Cell)) (x5 : List (List Cell)) (k : Int) (h1 : WR 9000000000000000000 q7 x1) (h2 : WR 9000000000000000000 zb x2) (h3 : WR 9000000000000000000 z8 x3) (h4 : WR 9000000000000000000 qa x4) (h5 : WR 9000000000000000000 qb x5) (hk : 0 ≤ k) : PC Tryz.prog 21 [.agg [.s (.int .i64 x0), .l x1, .l x2, .l x3, .l x4, .l x5], .one (i64 k)] (rI (ng (ht q1d [.s (.int .i64 x0), .l x1, .l x2, .l x3, .l x4, .l x5] k))) := by
 refine PC.begin Tryz.func21 Y (by kernel_rfl) ?_; have e : ht q1d [.s (.int .i64 x0), .l x1, .l x2, .l x3, .l x4, .l x5] k = ((ht ze [.l x1, .l x2, .l x3, .l x4, .l x5] k).bind fun v1 => some v1) := by simp only [ht, Option.bind_assoc, Option.bind_some]
 rw [e]; refine z7 Y (y3t x1 x2 x3 x4 x5 k h1 h2 h3 h4 h5 hk) Y ⟨tv6, trivial, trivial⟩ ?_; generalize hk1 : ng (ht ze [.l x1, .l x2, .l x3, .l x4, .l x5] (k)) = k1; refine xb Y ?_ ?_ <;> intro hb
 · have hb : k1 < 0 := by simpa using hb
   exact xv Y Y Y (congrArg (Value.int .i64) (yg (by simp only [yby hk hk1 hb]; rfl)).symm)
 have hb1 : ¬ k1 < 0 := by simpa using hb
 have hp1 : 0 ≤ k1 := by omega
 clear hb; exact xv Y Y Y (congrArg (Value.int .i64) (by simp only [yam hk1 hb1, Option.bind_some]; rfl))
end Go.Proofs.YtjdiongbbijdpaaGreat
end
section
namespace Go.Proofs.YtjdiongbbijdpaaGreat
open Go Go.Sx
set_option maxRecDepth 20000
theorem y02 {α : Type} {f : α → List Cell} {P : α → Prop} {N : Nat} {e : Sh} : ∀ {rr : List (List Cell)}, WR N e rr → (∀ row, WT N e row → ∃ x, row = f x ∧ P x) → ∃ us : List α, rr = us.map f ∧ us.length ≤ N ∧ ∀ x ∈ us, P x
 | [], _, _ => ⟨[], rfl, Nat.zero_le _, fun x hx => by cases hx⟩
 | row :: rr, h, hc => by
   obtain ⟨x, hx, hp⟩ := hc row (h.2 row List.mem_cons_self); obtain ⟨us, hu, _, hps⟩ := y02 (rr := rr) ⟨by have := h.1; simp at this; omega, fun r hr => h.2 r (List.mem_cons_of_mem _ hr)⟩ hc; refine ⟨x :: us, by rw [hx, hu]; rfl, by have := h.1; rw [hu] at this; simpa using this, fun y hy => ?_⟩; rcases List.mem_cons.1 hy with rfl | hy
   · exact hp
   · exact hps y hy
theorem q6j {N : Nat} (row : List Cell) (h : WT N qs row) : ∃ x : Leg, row = x.cs ∧ True := by
 obtain ⟨a0, a1, a2, a3, rfl⟩ := z1z h; exact ⟨⟨a0, a1, a2, a3⟩, Y, trivial⟩
theorem y50 {N : Nat} (row : List Cell) (h : WT N qd row) : ∃ x : Bal, row = x.cs ∧ True := by
 obtain ⟨a0, a1, a2, rfl⟩ := y09 h; exact ⟨⟨a0, a1, a2⟩, Y, trivial⟩
theorem y51 {N : Nat} (row : List Cell) (h : WT N zh row) : ∃ x : Mk, row = x.cs ∧ True := by
 obtain ⟨a0, a1, rfl⟩ := z19 h; exact ⟨⟨a0, a1⟩, Y, trivial⟩
theorem z52 {N : Nat} (row : List Cell) (h : WT N yl row) : ∃ x : Vt, row = x.cs ∧ True := by
 obtain ⟨a0, a1, rfl⟩ := q19 h; exact ⟨⟨a0, a1⟩, Y, trivial⟩
theorem z71 {N : Nat} (row : List Cell) (h : WT N zn row) : ∃ x : Hd, row = x.cs ∧ True := by
 obtain ⟨a0, a1, a2, a3, a4, rfl⟩ := z0r h; exact ⟨⟨a0, a1, a2, a3, a4⟩, Y, trivial⟩
theorem q51 {N : Nat} (row : List Cell) (h : WT N qb row) : ∃ x : Msg, row = x.cs ∧ True := by
 obtain ⟨a0, a1, a2, a3, a4, a5, a6, a7, a8, rfl⟩ := q09 h; exact ⟨⟨a0, a1, a2, a3, a4, a5, a6, a7, a8⟩, Y, trivial⟩
theorem y6j {N : Nat} (row : List Cell) (h : WT N (.i .i64 .nil) row) : ∃ x : Int, row = [i64 x] ∧ True := by
 obtain ⟨x0, _, rfl, hnil⟩ := h.yy; obtain rfl := hnil.q00; exact ⟨x0, Y, trivial⟩
theorem y25 (row : List Cell) (h : WT 1048576 q7 row) : ∃ x : Con, row = x.cs ∧ x.legs.length ≤ 1048576 := by
 obtain ⟨a, b, rfl, h1⟩ := yu h; obtain ⟨us, rfl, hl, _⟩ := y02 h1 q6j; exact ⟨⟨a, us⟩, Y, hl⟩
theorem y71 (row : List Cell) (h : WT 1048576 zb row) : ∃ x : Shd, row = x.cs ∧ qbp x := by
 obtain ⟨a, b, c, d, e, f, rfl, h1, h2, h3, h4, h5⟩ := y0r h; obtain ⟨u1, rfl, l1, _⟩ := y02 h1 y50; obtain ⟨u2, rfl, l2, _⟩ := y02 h2 y51; obtain ⟨u3, rfl, l3, p3⟩ := y02 h3 y25; obtain ⟨u4, rfl, l4, _⟩ := y02 h4 y51; obtain ⟨u5, rfl, l5, _⟩ := y02 h5 y6j; exact ⟨⟨a, u1, u2, u3, u4, u5⟩, Y, l1, l2, l3, l4, l5, p3⟩
theorem y7u (row : List Cell) (h : WT 1048576 zk row) : ∃ x : Slt, row = x.cs ∧ x.cast.length ≤ 1048576 := by
 obtain ⟨a, b, c, d, e, f, rfl, h1⟩ := y19 h; obtain ⟨u1, rfl, l1, _⟩ := y02 h1 z52; exact ⟨⟨a, b, c, d, e, u1⟩, Y, l1⟩
theorem z4e (row : List Cell) (h : WT 1048576 z8 row) : ∃ x : Acc, row = x.cs ∧ q49 x := by
 obtain ⟨a, rfl, h1⟩ := y04 h; obtain ⟨u1, rfl, l1, p1⟩ := y02 h1 y7u; exact ⟨⟨u1⟩, Y, l1, p1⟩
theorem z93 (row : List Cell) (h : WT 1048576 qp row) : ∃ x : Tr, row = x.cs ∧ yb3 x := by
 obtain ⟨a, b, c, d, e, f, rfl, h1, h2⟩ := y1z h; obtain ⟨u1, rfl, l1, _⟩ := y02 h1 y6j; obtain ⟨u2, rfl, l2, _⟩ := y02 h2 z52; exact ⟨⟨a, b, c, d, u1, u2⟩, Y, l1, l2⟩
theorem z5s (row : List Cell) (h : WT 1048576 qa row) : ∃ x : Ldr, row = x.cs ∧ y8z x := by
 obtain ⟨a, b, c, rfl, h1, h2⟩ := q0f h; obtain ⟨u1, rfl, l1, p1⟩ := y02 h1 z93; obtain ⟨u2, rfl, l2, _⟩ := y02 h2 z71; exact ⟨⟨a, u1, u2⟩, Y, l1, l2, p1⟩
theorem q50 (row : List Cell) (h : WT 1048576 ze row) : ∃ x : Clu, row = x.cs ∧ zz x := by
 obtain ⟨a, b, c, d, e, rfl, h1, h2, h3, h4, h5⟩ := q04 h; obtain ⟨u1, rfl, l1, p1⟩ := y02 h1 y25; obtain ⟨u2, rfl, l2, p2⟩ := y02 h2 y71; obtain ⟨u3, rfl, l3, p3⟩ := y02 h3 z4e; obtain ⟨u4, rfl, l4, p4⟩ := y02 h4 z5s; obtain ⟨u5, rfl, l5, _⟩ := y02 h5 q51; exact ⟨⟨u1, u2, u3, u4, u5⟩, Y, ⟨l1, p1⟩, ⟨l2, p2⟩, ⟨l3, p3⟩, ⟨l4, p4⟩, l5⟩
theorem q2g {f : List Cell → Nat} {row : List Cell} : ∀ {rows : List (List Cell)}, row ∈ rows → f row ≤ qz f rows
 | r :: rows, h => by
   rw [qz]; rcases List.mem_cons.1 h with rfl | h
   · omega
   · have := q2g (f := f) h; omega
theorem ya1 {N M : Nat} {e : Sh} {cs : List Cell} (hw : WT N e cs) : tot e cs ≤ M → WT M e cs := by
 induction hw with
 | nil => exact fun _ => .nil
 | i n _ ih => exact fun h => .i n (ih h)
 | b x _ ih => exact fun h => .b x (ih h)
 | @l e' r' cs' rows h1 h2 h3 ih1 ih2 =>
   intro h; simp only [tot] at h; exact .l rows (by omega) (fun row hr => ih1 row hr (by have := q2g (f := tot e') hr; omega)) (ih2 (by omega))
end Go.Proofs.YtjdiongbbijdpaaGreat
end
section
namespace Go.Proofs.YtjdiongbbijdpaaGreat
open Go Go.Sx
set_option maxRecDepth 20000
set_option maxHeartbeats 4000000
theorem yb7 (x0 x1 x2 x3 x4 : List (List Cell)) (hw : WT 9223372036854775807 ze [.l x0, .l x1, .l x2, .l x3, .l x4]) (b : Nat) (hb : b ≤ 1048576) :
 PC Tryz.prog 9 [.agg [.l x0, .l x1, .l x2, .l x3, .l x4], .one (i64 b)] (rI (-1)) ∨ ∃ c : Clu, x0 = c.cons.map Con.cs ∧ x1 = c.shs.map Shd.cs ∧ x2 = c.accs.map Acc.cs ∧ x3 = c.ldrs.map Ldr.cs ∧ x4 = c.msgs.map Msg.cs ∧ zz c ∧ (WT 1048576 ze c.cs ∧ tot ze c.cs ≤ b) ∧
  (∃ n : Nat, n ≤ b ∧ PC Tryz.prog 9 [.agg c.cs, .one (i64 b)] (rI n)) ∧ PC Tryz.prog 12 [.agg c.cs] (.one (.own true [.l 2 (c.cons.map Con.cs), .l 6 (c.shs.map Shd.cs), .l 1 (c.accs.map Acc.cs), .l 3 (c.ldrs.map Ldr.cs), .l 9 (c.msgs.map Msg.cs)])) ∧
  PC Tryz.prog 16 [.agg c.cs, .agg c.cs] (rB true) := by
 obtain ⟨_, _, _, _, _, e, k0, k1, k2, k3, k4⟩ := q04 hw; cases e; have hsz := q5j x0 x1 x2 x3 x4 b k0 k1 k2 k3 k4 (by omega) (by omega); by_cases ht : tot ze [.l x0, .l x1, .l x2, .l x3, .l x4] ≤ b
 · right
   have hs : szn b (tot ze [.l x0, .l x1, .l x2, .l x3, .l x4]) = ((b - tot ze [.l x0, .l x1, .l x2, .l x3, .l x4] : Nat) : Int) := by
    unfold szn; rw [if_neg (by omega)]; omega
   rw [hs] at hsz; have hwt := ya1 hw (Nat.le_trans ht hb); obtain ⟨_, _, _, _, _, e, m0, m1, m2, m3, m4⟩ := q04 hwt; cases e; obtain ⟨c, ec, ho⟩ := q50 _ hwt; have up : ∀ {e : Sh} {r : List (List Cell)}, WR 1048576 e r → WR 9000000000000000000 e r := fun h => h.mono (by omega)
   have heq := z2o x0 x1 x2 x3 x4 x0 x1 x2 x3 x4 (up m0) (up m1) (up m2) (up m3) (up m4) (up m0) (up m1) (up m2) (up m3) (up m4); rw [show dE (α := List Cell) [.l x0, .l x1, .l x2, .l x3, .l x4] [.l x0, .l x1, .l x2, .l x3, .l x4] = true from (Value.bool.inj (zy rfl)).symm] at heq; have hto := q5k x0 x1 x2 x3 x4 m0 m1 m2 m3 m4; simp only [Clu.cs, List.cons.injEq, Cell.l.injEq, and_true] at ec; obtain ⟨rfl, rfl, rfl, rfl, rfl⟩ := ec; exact ⟨c, Y, Y, Y, Y, Y, ho, ⟨hwt, ht⟩, ⟨_, Nat.sub_le _ _, hsz⟩, hto, heq⟩
 · left
   have hs : szn b (tot ze [.l x0, .l x1, .l x2, .l x3, .l x4]) = -1 := by
    unfold szn; rw [if_pos (by omega)]
   rw [hs] at hsz; exact hsz
abbrev ycd (c : Clu) : List OC := [.l 2 (c.cons.map Con.cs), .l 6 (c.shs.map Shd.cs), .l 1 (c.accs.map Acc.cs), .l 3 (c.ldrs.map Ldr.cs), .l 9 (c.msgs.map Msg.cs)]
abbrev q9e (code : Int) (c : Clu) : Res := .one (.own true (.s (.int .i64 code) :: ycd c))
theorem ya9 (c : Clu) (h : WT 1048576 ze c.cs) (hsz : tot ze c.cs ≤ 4194304) : ∃ (k : Int) (r0 r1 r2 r3 r4 : List (List Cell)), 0 ≤ k ∧ (r0.length = (c.cons.map Con.cs).length ∧ r1.length = (c.shs.map Shd.cs).length ∧ r2.length = (c.accs.map Acc.cs).length ∧ r3.length = (c.ldrs.map Ldr.cs).length ∧ r4.length = (c.msgs.map Msg.cs).length) ∧
 (∀ code : Int, PG Tryz.prog 20 [.agg [.bor (.s (.int .i64 code)), .giv true 2 (c.cons.map Con.cs), .giv true 6 (c.shs.map Shd.cs), .giv true 1 (c.accs.map Acc.cs), .giv true 3 (c.ldrs.map Ldr.cs), .giv true 9 (c.msgs.map Msg.cs)], .one (.bor (i64 1))] (rI k) [(1, r0), (2, r1), (3, r2), (4, r3), (5, r4)]) ∧
 ∀ code : Int, PC Tryz.prog 21 [.agg [.s (.int .i64 code), .l r0, .l r1, .l r2, .l r3, .l r4], .one (i64 1)] (rI k) := by
 obtain ⟨_, _, _, _, _, e, m0, m1, m2, m3, m4⟩ := q04 h; cases e; have up : ∀ {e : Sh} {r : List (List Cell)}, WR 1048576 e r → WR 9000000000000000000 e r := fun h => h.mono (by omega)
 have hc := z7u h; have hw : wid ze = 0 := rfl; have hw2 : y43 ze = 48 := rfl; rw [hw, hw2] at hc; obtain ⟨h1, h2⟩ := y62 h 1 (by omega) (by omega); refine ⟨(mk ze c.cs 1).2, _, _, _, _, _, by rw [h2]; omega, ⟨qn _ _ _, qn _ _ _, qn _ _ _, qn _ _ _, qn _ _ _⟩, fun code => y1s 2 6 1 3 9 code _ _ _ _ _ 1 _ _ _ _ _ (up m0) (up m1) (up m2) (up m3) (up m4) Y Y Y Y Y, fun code => ?_⟩
 have hh := q1r code _ _ _ _ _ 1 (y5b (up m0) 1) (y5b (up m1) (mkR (mk q7) (c.cons.map Con.cs) 1).2) (y5b (up m2) (mkR (mk zb) (c.shs.map Shd.cs) (mkR (mk q7) (c.cons.map Con.cs) 1).2).2)
  (y5b (up m3) (mkR (mk z8) (c.accs.map Acc.cs) (mkR (mk zb) (c.shs.map Shd.cs) (mkR (mk q7) (c.cons.map Con.cs) 1).2).2).2)
  (y5b (up m4) (mkR (mk qa) (c.ldrs.map Ldr.cs) (mkR (mk z8) (c.accs.map Acc.cs) (mkR (mk zb) (c.shs.map Shd.cs) (mkR (mk q7) (c.cons.map Con.cs) 1).2).2).2).2) (by omega)
 have e : ng (hd ze (mk ze c.cs 1).1 1) = (mk ze c.cs 1).2 := by rw [h1, h2]; rfl
 rw [← e]; exact hh
theorem qa9 (c : Clu) (h : WT 1048576 ze c.cs) (code : Int) : PC Tryz.prog 15 [.agg (.s (.int .i64 code) :: c.cs), .agg (.s (.int .i64 code) :: c.cs)] (rB true) := by
 obtain ⟨_, _, _, _, _, e, m0, m1, m2, m3, m4⟩ := q04 h; cases e; have up : ∀ {e : Sh} {r : List (List Cell)}, WR 1048576 e r → WR 9000000000000000000 e r := fun h => h.mono (by omega)
 have h := z26 code _ _ _ _ _ code _ _ _ _ _ (up m0) (up m1) (up m2) (up m3) (up m4) (up m0) (up m1) (up m2) (up m3) (up m4)
 rwa [show dE (α := List Cell) (.s (.int .i64 code) :: c.cs) (.s (.int .i64 code) :: c.cs) = true from (Value.bool.inj (zy rfl)).symm] at h
theorem zbm (N : Nat) (m : Msg) : WT N qb m.cs := .i _ (.i _ (.i _ (.i _ (.i _ (.i _ (.i _ (.i _ (.i _ .nil))))))))
theorem z6u : ∀ ms : List Msg, qz (tot qb) (ms.map Msg.cs) = 0
 | [] => rfl
 | m :: ms => by
   rw [List.map_cons, qz, z6u ms]; rfl
theorem zay : WT 1048576 ze q2n.cs ∧ tot ze q2n.cs ≤ 4194304 :=
 ⟨.l _ (Nat.zero_le _) (fun _ h => by cases h) (.l _ (Nat.zero_le _) (fun _ h => by cases h) (.l _ (Nat.zero_le _) (fun _ h => by cases h) (.l _ (Nat.zero_le _) (fun _ h => by cases h) (.l _ (Nat.zero_le _) (fun _ h => by cases h) .nil)))), Nat.zero_le _⟩
theorem yar (us : List Vt) : qt (us.map Vt.cs) := fun row hr => by
 obtain ⟨x, _, rfl⟩ := List.mem_map.1 hr; intro c hc; simp only [Vt.cs, List.mem_cons, List.not_mem_nil, or_false] at hc; rcases hc with rfl | rfl <;> exact ⟨_, Y⟩
theorem za0 (us : List Msg) : qt (us.map Msg.cs) := fun row hr => by
 obtain ⟨x, _, rfl⟩ := List.mem_map.1 hr; intro c hc; simp only [Msg.cs, List.mem_cons, List.not_mem_nil, or_false] at hc; rcases hc with rfl | rfl | rfl | rfl | rfl | rfl | rfl | rfl | rfl <;> exact ⟨_, Y⟩
theorem zbj (us : List Hd) : qt (us.map Hd.cs) := fun row hr => by
 obtain ⟨x, _, rfl⟩ := List.mem_map.1 hr; intro c hc; simp only [Hd.cs, List.mem_cons, List.not_mem_nil, or_false] at hc; rcases hc with rfl | rfl | rfl | rfl | rfl <;> exact ⟨_, Y⟩
theorem y9z (us : List Bal) : qt (us.map Bal.cs) := fun row hr => by
 obtain ⟨x, _, rfl⟩ := List.mem_map.1 hr; intro c hc; simp only [Bal.cs, List.mem_cons, List.not_mem_nil, or_false] at hc; rcases hc with rfl | rfl | rfl <;> exact ⟨_, Y⟩
theorem zar (us : List Mk) : qt (us.map Mk.cs) := fun row hr => by
 obtain ⟨x, _, rfl⟩ := List.mem_map.1 hr; intro c hc; simp only [Mk.cs, List.mem_cons, List.not_mem_nil, or_false] at hc; rcases hc with rfl | rfl <;> exact ⟨_, Y⟩
theorem q9z (us : List Leg) : qt (us.map Leg.cs) := fun row hr => by
 obtain ⟨x, _, rfl⟩ := List.mem_map.1 hr; intro c hc; simp only [Leg.cs, List.mem_cons, List.not_mem_nil, or_false] at hc; rcases hc with rfl | rfl | rfl | rfl <;> exact ⟨_, Y⟩
theorem y67 (us : List Int) : qt (ints us) := fun row hr => by
 simp only [ints, List.mem_map] at hr; obtain ⟨x, _, rfl⟩ := hr; intro c hc; exact ⟨_, by simpa using hc⟩
theorem y2n (us : List Vt) (hl : us.length ≤ 1048576) : PC Tryz.prog 198 [.one (.l (us.map Vt.cs))] (.one (.own false [.l 2 (us.map Vt.cs)])) := by
 refine PC.begin Tryz.func198 Y (by kernel_rfl) ?_; have hsc := yar us; refine zau Y (fun b0 b0' => ?_); refine xb Y ?_ ?_ <;> intro b1
 refine xr Y (zm Y ⟨⟨Y, ?_, trivial⟩, z6 Y⟩); rotate_left; refine xs Y trivial (xs Y Y (xs Y (by simp) (xs Y (fun _ => hsc) (xs Y (by simp; omega) (xs Y (by simp; omega) ?_))))); refine xr Y (zm Y ⟨⟨Y, ⟨?_, Y, .inl Y⟩, trivial⟩, z6 Y⟩); rotate_left
 · exact b0' b1
 · simp
theorem z35 (us : List Msg) (hl : us.length ≤ 1048576) : PC Tryz.prog 196 [.one (.l (us.map Msg.cs))] (.one (.own false [.l 9 (us.map Msg.cs)])) := by
 refine PC.begin Tryz.func196 Y (by kernel_rfl) ?_; have hsc := za0 us; refine zau Y (fun b0 b0' => ?_); refine xb Y ?_ ?_ <;> intro b1
 refine xr Y (zm Y ⟨⟨Y, ?_, trivial⟩, z6 Y⟩); rotate_left; refine xs Y trivial (xs Y Y (xs Y (by simp) (xs Y (fun _ => hsc) (xs Y (by simp; omega) (xs Y (by simp; omega) ?_))))); refine xr Y (zm Y ⟨⟨Y, ⟨?_, Y, .inl Y⟩, trivial⟩, z6 Y⟩); rotate_left
 · exact b0' b1
 · simp
theorem y4d (us : List Hd) (hl : us.length ≤ 1048576) : PC Tryz.prog 199 [.one (.l (us.map Hd.cs))] (.one (.own false [.l 5 (us.map Hd.cs)])) := by
 refine PC.begin Tryz.func199 Y (by kernel_rfl) ?_; have hsc := zbj us; refine zau Y (fun b0 b0' => ?_); refine xb Y ?_ ?_ <;> intro b1
 refine xr Y (zm Y ⟨⟨Y, ?_, trivial⟩, z6 Y⟩); rotate_left; refine xs Y trivial (xs Y Y (xs Y (by simp) (xs Y (fun _ => hsc) (xs Y (by simp; omega) (xs Y (by simp; omega) ?_))))); refine xr Y (zm Y ⟨⟨Y, ⟨?_, Y, .inl Y⟩, trivial⟩, z6 Y⟩); rotate_left
 · exact b0' b1
 · simp
theorem y34 (us : List Bal) (hl : us.length ≤ 1048576) : PC Tryz.prog 306 [.one (.l (us.map Bal.cs))] (.one (.own false [.l 3 (us.map Bal.cs)])) := by
 refine PC.begin Tryz.func306 Y (by kernel_rfl) ?_; have hsc := y9z us; refine zau Y (fun b0 b0' => ?_); refine xb Y ?_ ?_ <;> intro b1
 refine xr Y (zm Y ⟨⟨Y, ?_, trivial⟩, z6 Y⟩); rotate_left; refine xs Y trivial (xs Y Y (xs Y (by simp) (xs Y (fun _ => hsc) (xs Y (by simp; omega) (xs Y (by simp; omega) ?_))))); refine xr Y (zm Y ⟨⟨Y, ⟨?_, Y, .inl Y⟩, trivial⟩, z6 Y⟩); rotate_left
 · exact b0' b1
 · simp
theorem z2n (us : List Mk) (hl : us.length ≤ 1048576) : PC Tryz.prog 307 [.one (.l (us.map Mk.cs))] (.one (.own false [.l 2 (us.map Mk.cs)])) := by
 refine PC.begin Tryz.func307 Y (by kernel_rfl) ?_; have hsc := zar us; refine zau Y (fun b0 b0' => ?_); refine xb Y ?_ ?_ <;> intro b1
 refine xr Y (zm Y ⟨⟨Y, ?_, trivial⟩, z6 Y⟩); rotate_left; refine xs Y trivial (xs Y Y (xs Y (by simp) (xs Y (fun _ => hsc) (xs Y (by simp; omega) (xs Y (by simp; omega) ?_))))); refine xr Y (zm Y ⟨⟨Y, ⟨?_, Y, .inl Y⟩, trivial⟩, z6 Y⟩); rotate_left
 · exact b0' b1
 · simp
theorem y5r (us : List Leg) (hl : us.length ≤ 1048576) : PC Tryz.prog 235 [.one (.l (us.map Leg.cs))] (.one (.own false [.l 4 (us.map Leg.cs)])) := by
 refine PC.begin Tryz.func235 Y (by kernel_rfl) ?_; have hsc := q9z us; refine zau Y (fun b0 b0' => ?_); refine xb Y ?_ ?_ <;> intro b1
 refine xr Y (zm Y ⟨⟨Y, ?_, trivial⟩, z6 Y⟩); rotate_left; refine xs Y trivial (xs Y Y (xs Y (by simp) (xs Y (fun _ => hsc) (xs Y (by simp; omega) (xs Y (by simp; omega) ?_))))); refine xr Y (zm Y ⟨⟨Y, ⟨?_, Y, .inl Y⟩, trivial⟩, z6 Y⟩); rotate_left
 · exact b0' b1
 · simp
theorem q34 (us : List Int) (hl : us.length ≤ 1048576) : PC Tryz.prog 177 [.one (.l (ints us))] (.one (.own false [.l 1 (ints us)])) := by
 refine PC.begin Tryz.func177 Y (by kernel_rfl) ?_; have hsc := y67 us; refine zau Y (fun b0 b0' => ?_); refine xb Y ?_ ?_ <;> intro b1
 refine xr Y (zm Y ⟨⟨Y, ?_, trivial⟩, z6 Y⟩); rotate_left; refine xs Y trivial (xs Y Y (xs Y (by simp) (xs Y (fun _ => hsc) (xs Y (by simp; omega) (xs Y (by simp; omega) ?_))))); refine xr Y (zm Y ⟨⟨Y, ⟨?_, Y, .inl Y⟩, trivial⟩, z6 Y⟩); rotate_left
 · exact b0' b1
 · simp
theorem tk {α : Type} (f : α → List Cell) {us : List α} {i : Nat} {x : α} (hx : us[i]? = some x) : (us.take (i + 1)).map f = (us.take i).map f ++ [f x] := by
 rw [List.take_add_one, hx]; simp
theorem y1f (x : Con) (hl : x.legs.length ≤ 1048576) : PC Tryz.prog 132 [.agg x.cs] (.one (.own true [.s (.int .i64 x.id), .l 4 (x.legs.map Leg.cs)])) := by
 refine PC.begin Tryz.func132 Y (by kernel_rfl) ?_; have h1 := y5r x.legs hl; refine yb Y [] (.take 0 [] (.take 1 [5, 6] (.take 2 [] (.take 3 (Rg 4 3) (.alt 4 (.take 5 [] (.alt 6 .done .nil)) .nil))))) (by kernel_rfl) (z7 Y (h1) Y ⟨trivial, trivial⟩ ?_); refine xr Y (zm Y ⟨⟨Y, Y, ⟨Y, Y, .inl Y⟩, trivial⟩, z6 Y⟩)
theorem y1b (us : List Con) (hl : us.length ≤ 1048576) (hb : ∀ x ∈ us, x.legs.length ≤ 1048576) : PC Tryz.prog 194 [.one (.l (us.map Con.cs))] (.one (.own false [.l 2 (us.map Con.cs)])) := by
 refine PC.begin Tryz.func194 Y (by kernel_rfl) ?_; refine xs Y trivial ?_; refine qc Y (ι := Nat) (fun i => i ≤ us.length) (fun i => ⟨[(9, sV (.int .i64 i)), (8, sV (.int .i64 (us.map Con.cs).length)), (7, .one (.b (.l (us.map Con.cs)))), (3, .one (.h 6 ((us.take i).map Con.cs).length))], [(6, .arr true 2 0 ((us.take i).map Con.cs))]⟩) (fun i => us.length - i) 0 (Nat.zero_le _) ?_ ?_
 · exact ⟨⟨Y, Y, Y, I, trivial⟩, ⟨U, trivial⟩, Y⟩
 · intro i hi J hJ
   refine xb Y ?_ ?_ <;> intro h
   · have h : i < us.length := by simpa using h
     obtain ⟨x, hx⟩ := gx h; have hg := gm Con.cs hx; have hc := y1f x (hb x (List.mem_of_getElem? hx)); have hst := tk Con.cs hx; refine xs Y (by simp) (y9 Y _ hg (xs Y Y (z7 Y (hc) Y ⟨tv3, trivial⟩ (xs Y ⟨trivial, ⟨Y, Y⟩, trivial⟩ (xs Y Y (xs Y Y (xs Y (.inl Y) (xs Y (by simp; omega) (xs Y (by simp; omega) ?_))))))))); exact q9 Y (hJ _ (i + 1) (by omega) (by omega) ⟨⟨cwi (by omega) (by omega) (by omega), Y, Y, ⟨Y, by rw [hst]; exact List.length_append.symm, Y⟩, trivial⟩, ⟨⟨hst.symm, .inl Y, .inl Y⟩, trivial⟩, Y⟩)
   · have h : i = us.length := by have : ¬ i < us.length := (by simpa using h); omega
     subst h; rw [List.take_length]; refine xr Y (zm Y ⟨⟨Y, ⟨Y, Y, .inl Y⟩, trivial⟩, z6 Y⟩)
theorem y52 (s : Shd) (ho : qbp s) : PC Tryz.prog 197 [.agg s.cs] (.one (.own true [.s (.int .i64 s.idx), .l 3 (s.bals.map Bal.cs), .l 2 (s.votes.map Mk.cs), .l 2 (s.held.map Con.cs), .l 2 (s.done.map Mk.cs), .l 1 (ints s.app)])) := by
 refine PC.begin Tryz.func197 Y (by kernel_rfl) ?_; obtain ⟨o1, o2, o3, o4, o5, o6⟩ := ho; have h1 := y34 s.bals o1; have h2 := z2n s.votes o2; have h3 := y1b s.held o3 o6; have h4 := z2n s.done o4; have h5 := q34 s.app o5; refine yb Y [] (.take 0 [] (.take 1 [17, 18] (.take 2 [] (.take 3 [4, 7, 10, 13, 16, 17, 18] (.take 5 [] (.take 6 [7, 10, 13, 16, 17, 18] (.take 8 [] (.take 9 [10, 13, 16, 17, 18] (.take 11 [] (.take 12 [13, 16, 17, 18] (.take 14 [] (.take 15 (Rg 16 3) (.alt 4 (.alt 7 (.alt 10 (.alt 13 (.alt 16 (.take 17 [] (.alt 18 .done .nil)) .nil) .nil) .nil) .nil) .nil))))))))))))) (by kernel_rfl) (z7 Y (h1) Y ⟨trivial, trivial⟩ (z7 Y (h2) Y ⟨trivial, trivial⟩ (z7 Y (h3) Y ⟨trivial, trivial⟩ (z7 Y (h4) Y ⟨trivial, trivial⟩ (z7 Y (h5) Y ⟨trivial, trivial⟩ ?_))))); refine xr Y (zm Y ⟨⟨Y, Y, ⟨Y, Y, .inl Y⟩, ⟨Y, Y, .inl Y⟩, ⟨Y, Y, .inl Y⟩, ⟨Y, Y, .inl Y⟩, ⟨Y, Y, .inl Y⟩, trivial⟩, z6 Y⟩)
theorem y5s (s : Slt) (hl : s.cast.length ≤ 1048576) : PC Tryz.prog 378 [.agg s.cs] (.one (.own true [.s (.int .i64 s.c), .s (.int .i64 s.s), .s (.int .i64 s.p), .s (.int .i64 s.lb), .s (.int .i64 s.lv), .l 2 (s.cast.map Vt.cs)])) := by
 refine PC.begin Tryz.func378 Y (by kernel_rfl) ?_; have h1 := y2n s.cast hl; refine z7 Y (h1) Y ⟨trivial, trivial⟩ ?_; refine xr Y (zm Y ⟨⟨Y, Y, Y, Y, Y, Y, ⟨Y, Y, .inl Y⟩, trivial⟩, z6 Y⟩)
theorem y36 (a : Acc) (ho : q49 a) : PC Tryz.prog 305 [.agg a.cs] (.one (.own true [.l 6 (a.slots.map Slt.cs)])) := by
 refine PC.begin Tryz.func305 Y (by kernel_rfl) ?_; obtain ⟨hl, hb⟩ := ho; refine qc Y (ι := Nat) (fun i => i ≤ a.slots.length) (fun i => ⟨[(10, sV (.int .i64 i)), (9, sV (.int .i64 (a.slots.map Slt.cs).length)), (8, .one (.b (.l (a.slots.map Slt.cs)))), (3, .one (.a 3 0)), (2, .one (.a 2 0)), (1, .one (.a 1 0))], [(3, .var [.h 19 ((a.slots.take i).map Slt.cs).length]), (19, .arr true 6 0 ((a.slots.take i).map Slt.cs)), (2, .var [.nil]), (1, .var [.b (.l (a.slots.map Slt.cs))])]⟩) (fun i => a.slots.length - i) 0 (Nat.zero_le _) ?_ ?_
 · exact ⟨⟨Y, Y, Y, I, I, I, trivial⟩, ⟨⟨I, trivial⟩, Y, ⟨trivial, trivial⟩, ⟨Y, trivial⟩, trivial⟩, Y⟩
 · intro i hi J hJ
   refine xb Y ?_ ?_ <;> intro h
   · have h : i < a.slots.length := by simpa using h
     obtain ⟨x, hx⟩ := gx h; have hg := gm Slt.cs hx; have hc := y5s x (hb x (List.mem_of_getElem? hx)); have hst := tk Slt.cs hx; refine xs Y (by simp) (y9 Y _ hg (xs Y Y (yb Y [] (.take 0 [] (.take 1 (Rg 5 3) (.take 2 (Rg 3 5) (.alt 3 (.alt 4 (.alt 5 (.take 6 [] (.alt 7 .done .nil)) .nil) .nil) .nil)))) (by kernel_rfl) (z7 Y (hc) Y ⟨tv7, trivial⟩ (xs Y ⟨trivial, trivial, trivial, trivial, trivial, ⟨Y, Y⟩, trivial⟩ (xs Y Y (xs Y Y (xs Y (.inl Y) (xs Y (by simp; omega) ?_))))))))); refine xs Y (by simp; omega) ?_; all_goals exact q9 Y (hJ _ (i + 1) (by omega) (by omega) ⟨⟨cwi (by omega) (by omega) (by omega), Y, Y, I, I, I, trivial⟩, ⟨⟨⟨Y, by rw [hst]; exact List.length_append.symm, Y⟩, trivial⟩, ⟨hst.symm, .inl Y, .inl Y⟩, ⟨trivial, trivial⟩, ⟨Y, trivial⟩, trivial⟩, Y⟩)
   · have h : i = a.slots.length := by have : ¬ i < a.slots.length := (by simpa using h); omega
     subst h; rw [List.take_length]; refine xr Y (zm Y ⟨⟨Y, ⟨Y, Y, .inl Y⟩, trivial⟩, z6 Y⟩)
theorem y2u (us : List Acc) (hl : us.length ≤ 1048576) (hb : ∀ a ∈ us, q49 a) : PC Tryz.prog 195 [.one (.l (us.map Acc.cs))] (.one (.own false [.l 1 (us.map Acc.cs)])) := by
 refine PC.begin Tryz.func195 Y (by kernel_rfl) ?_; refine xs Y trivial ?_; refine qc Y (ι := Nat) (fun i => i ≤ us.length) (fun i => ⟨[(9, sV (.int .i64 i)), (8, sV (.int .i64 (us.map Acc.cs).length)), (7, .one (.b (.l (us.map Acc.cs)))), (3, .one (.h 6 ((us.take i).map Acc.cs).length))], [(6, .arr true 1 0 ((us.take i).map Acc.cs))]⟩) (fun i => us.length - i) 0 (Nat.zero_le _) ?_ ?_
 · exact ⟨⟨Y, Y, Y, I, trivial⟩, ⟨U, trivial⟩, Y⟩
 · intro i hi J hJ
   refine xb Y ?_ ?_ <;> intro h
   · have h : i < us.length := by simpa using h
     obtain ⟨x, hx⟩ := gx h; have hg := gm Acc.cs hx; have hc := y36 x (hb x (List.mem_of_getElem? hx)); have hst := tk Acc.cs hx; refine xs Y (by simp) (y9 Y _ hg (xs Y Y (z7 Y (hc) Y ⟨⟨trivial, trivial⟩, trivial⟩ (xs Y ⟨⟨Y, Y⟩, trivial⟩ (xs Y Y (xs Y Y (xs Y (.inl Y) (xs Y (by simp; omega) (xs Y (by simp; omega) ?_))))))))); exact q9 Y (hJ _ (i + 1) (by omega) (by omega) ⟨⟨cwi (by omega) (by omega) (by omega), Y, Y, ⟨Y, by rw [hst]; exact List.length_append.symm, Y⟩, trivial⟩, ⟨⟨hst.symm, .inl Y, .inl Y⟩, trivial⟩, Y⟩)
   · have h : i = us.length := by have : ¬ i < us.length := (by simpa using h); omega
     subst h; rw [List.take_length]; refine xr Y (zm Y ⟨⟨Y, ⟨Y, Y, .inl Y⟩, trivial⟩, z6 Y⟩)
theorem z87 (s : Slt) (hl : s.cast.length ≤ 1048576) : PC Tryz.prog 316 [.agg s.cs] (.one (.own true [.s (.int .i64 s.c), .s (.int .i64 s.s), .s (.int .i64 s.p), .s (.int .i64 s.lb), .s (.int .i64 s.lv), .l 2 (s.cast.map Vt.cs)])) := by
 refine PC.begin Tryz.func316 Y (by kernel_rfl) ?_; have hsc := yar s.cast; refine xs Y trivial (xs Y Y (xs Y (by simp) (xs Y (fun _ => hsc) (xs Y (by simp; omega) (xs Y (by simp; omega) ?_))))); refine xr Y (zm Y ⟨⟨Y, Y, Y, Y, Y, Y, ⟨?_, Y, .inl Y⟩, trivial⟩, z6 Y⟩); all_goals exact List.length_append.symm
theorem q87 (a : Acc) (ho : q49 a) : PC Tryz.prog 217 [.agg a.cs] (.one (.own true [.l 6 (a.slots.map Slt.cs)])) := by
 refine PC.begin Tryz.func217 Y (by kernel_rfl) ?_; obtain ⟨hl, hb⟩ := ho; refine qc Y (ι := Nat) (fun i => i ≤ a.slots.length) (fun i => ⟨[(4, sV (.int .i64 i)), (3, .one (.a 3 0)), (2, .one (.a 2 0)), (1, .one (.b (.p a.cs)))], [(3, .var [.h 22 ((a.slots.take i).map Slt.cs).length]), (22, .arr true 6 0 ((a.slots.take i).map Slt.cs)), (2, .var [.nil])]⟩) (fun i => a.slots.length - i) 0 (Nat.zero_le _) ?_ ?_
 · exact ⟨⟨Y, I, I, I, trivial⟩, ⟨⟨I, trivial⟩, Y, ⟨trivial, trivial⟩, trivial⟩, Y⟩
 · intro i hi J hJ
   refine xb Y ?_ ?_ <;> intro h
   · have h : i < a.slots.length := by simpa using h
     obtain ⟨x, hx⟩ := gx h; have hg := gm Slt.cs hx; have hc := z87 x (hb x (List.mem_of_getElem? hx)); have hst := tk Slt.cs hx; refine yb Y [] (.take 0 [] (.take 1 (Rg 9 3) (.take 2 [] (.take 3 (Rg 5 7) (Tk [4, 5] (.take 6 (Rg 7 5) (.alt 7 (.alt 8 (.alt 9 (.take 10 [] (.alt 11 .done .nil)) .nil) .nil) .nil))))))) (by kernel_rfl) (xs Y (nn_ _) (y9 Y _ hg (xs Y Y (z7 Y (hc) Y ⟨tv7, trivial⟩ (xs Y ⟨trivial, trivial, trivial, trivial, trivial, ⟨Y, Y⟩, trivial⟩ (xs Y Y (xs Y Y (xs Y (.inl Y) (xs Y (by simp; omega) ?_))))))))); refine xs Y (by simp; omega) ?_; all_goals exact q9 Y (hJ _ (i + 1) (by omega) (by omega) ⟨⟨cwi (by omega) (by omega) (by omega), I, I, Y, trivial⟩, ⟨⟨⟨Y, by rw [hst]; exact List.length_append.symm, Y⟩, trivial⟩, ⟨hst.symm, .inl Y, .inl Y⟩, ⟨trivial, trivial⟩, trivial⟩, Y⟩)
   · have h : i = a.slots.length := by have : ¬ i < a.slots.length := (by simpa using h); omega
     subst h; rw [List.take_length]; refine xr Y (zm Y ⟨⟨Y, ⟨Y, Y, .inl Y⟩, trivial⟩, z6 Y⟩)
theorem z98 (us : List Acc) (hl : us.length ≤ 1048576) (hb : ∀ a ∈ us, q49 a) : PC Tryz.prog 121 [.one (.l (us.map Acc.cs))] (.one (.own false [.l 1 (us.map Acc.cs)])) := by
 refine PC.begin Tryz.func121 Y (by kernel_rfl) ?_; refine xs Y trivial ?_; refine qc Y (ι := Nat) (fun i => i ≤ us.length) (fun i => ⟨[(4, sV (.int .i64 i)), (3, .one (.h 5 ((us.take i).map Acc.cs).length)), (0, .one (.b (.l (us.map Acc.cs))))], [(5, .arr true 1 0 ((us.take i).map Acc.cs))]⟩) (fun i => us.length - i) 0 (Nat.zero_le _) ?_ ?_
 · exact ⟨⟨Y, I, Y, trivial⟩, ⟨U, trivial⟩, Y⟩
 · intro i hi J hJ
   refine xb Y ?_ ?_ <;> intro h
   · have h : i < us.length := by simpa using h
     obtain ⟨x, hx⟩ := gx h; have hg := gm Acc.cs hx; have hc := q87 x (hb x (List.mem_of_getElem? hx)); have hst := tk Acc.cs hx; refine xs Y (nn_ _) (y9 Y _ hg (xs Y Y (z7 Y (hc) Y ⟨⟨trivial, trivial⟩, trivial⟩ (xs Y ⟨⟨Y, Y⟩, trivial⟩ (xs Y Y (xs Y Y (xs Y (.inl Y) (xs Y (by simp; omega) (xs Y (by simp; omega) ?_))))))))); exact q9 Y (hJ _ (i + 1) (by omega) (by omega) ⟨⟨cwi (by omega) (by omega) (by omega), ⟨Y, by rw [hst]; exact List.length_append.symm, Y⟩, Y, trivial⟩, ⟨⟨hst.symm, .inl Y, .inl Y⟩, trivial⟩, Y⟩)
   · have h : i = us.length := by have : ¬ i < us.length := (by simpa using h); omega
     subst h; rw [List.take_length]; refine xr Y (zm Y ⟨⟨Y, ⟨Y, Y, .inl Y⟩, trivial⟩, z6 Y⟩)
theorem q0z (x : Con) (hl : x.legs.length ≤ 1048576) : PC Tryz.prog 55 [.agg x.cs] (.one (.own true [.s (.int .i64 x.id), .l 4 (x.legs.map Leg.cs)])) := by
 refine PC.begin Tryz.func55 Y (by kernel_rfl) ?_; have hsc := q9z x.legs; refine yb Y [] (Tk [0, 3] (.take 4 (Rg 5 3) (.alt 1 (.alt 2 (.alt 5 (.take 6 [] (.alt 7 .done .nil)) .nil) .nil) (.alt 2 (.alt 1 (.alt 5 (.take 6 [] (.alt 7 .done .nil)) .nil) (.alt 5 (.take 1 [6, 7] (.take 6 [] (.alt 7 .done .nil))) .nil)) .nil)))) (by kernel_rfl) ?_; refine yr Y ?_ ?_; refine xs Y trivial (xs Y Y (xs Y (by simp) (xs Y (fun _ => hsc) (xs Y (by simp; omega) (xs Y (by simp; omega) ?_))))); refine xr Y (zm Y ⟨⟨Y, Y, ⟨?_, Y, .inl Y⟩, trivial⟩, z6 Y⟩); rotate_left; refine xs Y trivial ?_; refine yr Y ?_ ?_; refine xs Y Y (xs Y (by simp) (xs Y (fun _ => hsc) (xs Y (by simp; omega) (xs Y (by simp; omega) ?_)))); refine xr Y (zm Y ⟨⟨Y, Y, ⟨?_, Y, .inl Y⟩, trivial⟩, z6 Y⟩); rotate_left; refine xs Y Y (xs Y (by simp) (xs Y (fun _ => hsc) (xs Y (by simp; omega) (xs Y (by simp; omega) ?_)))); refine xr Y (zm Y ⟨⟨Y, Y, ⟨?_, Y, .inl Y⟩, trivial⟩, z6 Y⟩); rotate_left; all_goals exact List.length_append.symm
theorem qab {l : List (Nat × AV)} {n : List (Nat × AV)} (h : ∀ p ∈ n, get l p.1 = some p.2) : ∀ t av, get n t = some av → get l t = some av := by
 induction n with
 | nil => intro t av h; cases h
 | cons p n ih =>
   obtain ⟨k, v⟩ := p; intro t av hg; rw [za] at hg; split at hg
   · rename_i e
     have h1 := h (k, v) (by simp); rw [← hg, ← e]; exact h1
   · exact ih (fun p hp => h p (by simp [hp])) t av hg
theorem z63 {ops : Array Oper} {f : Nat → Bool} (hc : ∀ j k, q7k ops j k = true → f j = true → f k = true) {j k : Nat} (hd : q7k ops j k = true) (h : f k = false) : f j = false := by
 cases hj : f j with
 | false => rfl
 | true => rw [hc j k hd hj] at h; cases h
def Lc (s : Shd) : List (Option (Nat × AV)) :=
 [some (5, .one (.b (.p s.cs))), some (6, .one (.b (i64 s.idx))), some (7, .one .em), some (8, .one (.b (.p (s.cs.drop 1)))), some (9, .one (.b (.l (s.bals.map Bal.cs)))), some (10, .one (.h 10 (s.bals.map Bal.cs).length)),
  some (11, .one .em), some (12, .one (.b (.p (s.cs.drop 2)))), some (13, .one (.b (.l (s.votes.map Mk.cs)))), some (14, .one (.h 14 (s.votes.map Mk.cs).length)),
  some (15, .one .em), some (16, .one (.b (.p (s.cs.drop 4)))), some (17, .one (.b (.l (s.done.map Mk.cs)))), some (18, .one (.h 18 (s.done.map Mk.cs).length)),
  some (19, .one .em), some (20, .one (.b (.p (s.cs.drop 5)))), some (21, .one (.b (.l (ints s.app)))), some (22, .one (.h 22 (ints s.app).length)),
  some (23, .agg [.b (i64 s.idx), .h 10 (s.bals.map Bal.cs).length, .h 14 (s.votes.map Mk.cs).length, .nil, .h 18 (s.done.map Mk.cs).length, .h 22 (ints s.app).length]), some (3, .one (.a 3 0)), none]
def Bc (s : Shd) (a5 a9 a13 a17 a19 a20 : Bool) : List (Nat × AB) :=
 (2, .var [.b (i64 0), .nil, .nil, .nil, .nil, .nil]) :: (bif a5 then [(10, .arr true 3 0 (s.bals.map Bal.cs))] else []) ++ (bif a9 then [(14, .arr true 2 0 (s.votes.map Mk.cs))] else []) ++ (bif a13 then [(18, .arr true 2 0 (s.done.map Mk.cs))] else []) ++ (bif a17 then [(22, .arr true 1 0 (ints s.app))] else []) ++
   (bif a19 then [(3, .var (bif a20 then [.b (i64 s.idx), .h 10 (s.bals.map Bal.cs).length, .h 14 (s.votes.map Mk.cs).length, .nil, .h 18 (s.done.map Mk.cs).length, .h 22 (ints s.app).length] else [.b (i64 0), .nil, .nil, .nil, .nil, .nil]))] else [])
def jc : List (List Nat) := [[], [0], [], [], [3], [2, 4], [], [], [7], [6, 8], [], [], [11], [10, 12], [], [], [15], [14, 16], [1, 5, 9, 13, 17], [], [18, 19]]
theorem y76 (s : Shd) (ho : qbp s) : PC Tryz.prog 122 [.agg s.cs] (.one (.own true [.s (.int .i64 s.idx), .l 3 (s.bals.map Bal.cs), .l 2 (s.votes.map Mk.cs), .l 2 (s.held.map Con.cs), .l 2 (s.done.map Mk.cs), .l 1 (ints s.app)])) := by
 obtain ⟨o1, o2, o3, o4, o5, o6⟩ := ho
 refine PC.yb6 (by kernel_rfl) Tryz.func122 Y (by kernel_rfl) (fun σ => Wk0 σ ⟨[(2, .one (.a 2 0)), (1, .one (.b (.p s.cs)))], [(2, .var [.b (i64 0), .nil, .nil, .nil, .nil, .nil])]⟩)
  (fun σ => σ = ⟨[(3, .one (.a 3 0)), (2, .one (.a 2 0)), (1, .one (.b (.p s.cs)))], Bc s true true true true true true⟩) ?_ ?_ ?_
 · exact q9 Y ⟨⟨I, I, trivial⟩, ⟨⟨Y, trivial, trivial, trivial, trivial, trivial, trivial⟩, trivial⟩, Y⟩
 · intro σ hσ
   have b1 := y9z s.bals; have b2 := zar s.votes; have b3 := zar s.done; have b4 := y67 s.app; refine qb1.table (Lc s) [(2, .one (.a 2 0)), (1, .one (.b (.p s.cs)))] (fun f => Bc s (f 5) (f 9) (f 13) (f 17) (f 19) (f 20)) Y (by kernel_rfl) (fun i => (jc[i]?).getD []) (by kernel_rfl) (To.wk hσ) ?_ ?_ ?_ Y
   · refine ⟨?_, ?_, ?_, ?_, ?_, ?_, ?_, ?_, ?_, ?_, ?_, ?_, ?_, ?_, ?_, ?_, ?_, ?_, ?_, ?_, ?_, trivial⟩
     · exact fun R f _ _ _ => qw.run (Q0 := fun _ _ => False) (q9 Y (To.refl _))
     · exact fun R f _ _ _ => qw.run (Q0 := fun _ _ => False) (q9 Y (To.refl _))
     · exact fun R f _ _ _ => qw.em Y Y Y Y (by kernel_rfl) (To.refl _)
     · exact fun R f _ _ _ => qw.run (Q0 := fun _ _ => False) (q9 Y (To.refl _))
     · exact fun R f _ _ _ => qw.run (Q0 := fun _ _ => False) (q9 Y (To.refl _))
     · intro R f h0 hd hc
       have e9 : f 9 = false := z63 hc (j := 9) (k := 5) (by kernel_rfl) h0; have e13 : f 13 = false := z63 hc (j := 13) (k := 9) (by kernel_rfl) e9; have e17 : f 17 = false := z63 hc (j := 17) (k := 13) (by kernel_rfl) e13; have e18 : f 18 = false := z63 hc (j := 18) (k := 5) (by kernel_rfl) h0; have e20 : f 20 = false := z63 hc (j := 20) (k := 18) (by kernel_rfl) e18; show qw _ _ _ ⟨_, Bc s (f 5) (f 9) (f 13) (f 17) (f 19) (f 20)⟩ (fun σ' => To σ' ⟨_, Bc s true (f 9) (f 13) (f 17) (f 19) (f 20)⟩); rw [h0, e9, e13, e17, e20]; cases f 19 <;> refine qw.run (Q0 := fun _ _ => False) (xs Y (by simp) (xs Y b1 (xs Y (by simp; omega) (xs Y (by simp; omega) ?_)))) <;> first | exact q9 Y (To.refl _) | exact q9 Y (To.y0k fun β => by simp only [Bc, za, get_nil, cond_true, cond_false, List.cons_append, List.nil_append]; (repeat' split) <;> first | rfl | (exfalso; omega))
     · exact fun R f _ _ _ => qw.em Y Y Y Y (by kernel_rfl) (To.refl _)
     · exact fun R f _ _ _ => qw.run (Q0 := fun _ _ => False) (q9 Y (To.refl _))
     · exact fun R f _ _ _ => qw.run (Q0 := fun _ _ => False) (q9 Y (To.refl _))
     · intro R f h0 hd hc
       have e13 : f 13 = false := z63 hc (j := 13) (k := 9) (by kernel_rfl) h0; have e17 : f 17 = false := z63 hc (j := 17) (k := 13) (by kernel_rfl) e13; have e18 : f 18 = false := z63 hc (j := 18) (k := 9) (by kernel_rfl) h0; have e20 : f 20 = false := z63 hc (j := 20) (k := 18) (by kernel_rfl) e18; have e5 : f 5 = true := hd 5 (by kernel_rfl); show qw _ _ _ ⟨_, Bc s (f 5) (f 9) (f 13) (f 17) (f 19) (f 20)⟩ (fun σ' => To σ' ⟨_, Bc s (f 5) true (f 13) (f 17) (f 19) (f 20)⟩); rw [h0, e13, e17, e20, e5]; cases f 19 <;> refine qw.run (Q0 := fun _ _ => False) (xs Y (by simp) (xs Y b2 (xs Y (by simp; omega) (xs Y (by simp; omega) ?_)))) <;> first | exact q9 Y (To.refl _) | exact q9 Y (To.y0k fun β => by simp only [Bc, za, get_nil, cond_true, cond_false, List.cons_append, List.nil_append]; (repeat' split) <;> first | rfl | (exfalso; omega))
     · exact fun R f _ _ _ => qw.em Y Y Y Y (by kernel_rfl) (To.refl _)
     · exact fun R f _ _ _ => qw.run (Q0 := fun _ _ => False) (q9 Y (To.refl _))
     · exact fun R f _ _ _ => qw.run (Q0 := fun _ _ => False) (q9 Y (To.refl _))
     · intro R f h0 hd hc
       have e17 : f 17 = false := z63 hc (j := 17) (k := 13) (by kernel_rfl) h0; have e18 : f 18 = false := z63 hc (j := 18) (k := 13) (by kernel_rfl) h0; have e20 : f 20 = false := z63 hc (j := 20) (k := 18) (by kernel_rfl) e18; have e9 : f 9 = true := hd 9 (by kernel_rfl); have e5 : f 5 = true := hc 9 5 (by kernel_rfl) e9; show qw _ _ _ ⟨_, Bc s (f 5) (f 9) (f 13) (f 17) (f 19) (f 20)⟩ (fun σ' => To σ' ⟨_, Bc s (f 5) (f 9) true (f 17) (f 19) (f 20)⟩); rw [h0, e17, e20, e9, e5]; cases f 19 <;> refine qw.run (Q0 := fun _ _ => False) (xs Y (by simp) (xs Y b3 (xs Y (by simp; omega) (xs Y (by simp; omega) ?_)))) <;> first | exact q9 Y (To.refl _) | exact q9 Y (To.y0k fun β => by simp only [Bc, za, get_nil, cond_true, cond_false, List.cons_append, List.nil_append]; (repeat' split) <;> first | rfl | (exfalso; omega))
     · exact fun R f _ _ _ => qw.em Y Y Y Y (by kernel_rfl) (To.refl _)
     · exact fun R f _ _ _ => qw.run (Q0 := fun _ _ => False) (q9 Y (To.refl _))
     · exact fun R f _ _ _ => qw.run (Q0 := fun _ _ => False) (q9 Y (To.refl _))
     · intro R f h0 hd hc
       have e18 : f 18 = false := z63 hc (j := 18) (k := 17) (by kernel_rfl) h0; have e20 : f 20 = false := z63 hc (j := 20) (k := 18) (by kernel_rfl) e18; have e13 : f 13 = true := hd 13 (by kernel_rfl); have e9 : f 9 = true := hc 13 9 (by kernel_rfl) e13; have e5 : f 5 = true := hc 9 5 (by kernel_rfl) e9; show qw _ _ _ ⟨_, Bc s (f 5) (f 9) (f 13) (f 17) (f 19) (f 20)⟩ (fun σ' => To σ' ⟨_, Bc s (f 5) (f 9) (f 13) true (f 19) (f 20)⟩); rw [h0, e20, e13, e9, e5]; cases f 19 <;> refine qw.run (Q0 := fun _ _ => False) (xs Y (by simp) (xs Y b4 (xs Y (by simp; omega) (xs Y (by simp; omega) ?_)))) <;> first | exact q9 Y (To.refl _) | exact q9 Y (To.y0k fun β => by simp only [Bc, za, get_nil, cond_true, cond_false, List.cons_append, List.nil_append]; (repeat' split) <;> first | rfl | (exfalso; omega))
     · exact fun R f _ _ _ => qw.run (Q0 := fun _ _ => False) (q9 Y (To.refl _))
     · intro R f h0 hd hc
       have e20 : f 20 = false := z63 hc (j := 20) (k := 19) (by kernel_rfl) h0; show qw _ _ _ ⟨_, Bc s (f 5) (f 9) (f 13) (f 17) (f 19) (f 20)⟩ (fun σ' => To σ' ⟨_, Bc s (f 5) (f 9) (f 13) (f 17) true (f 20)⟩); rw [h0, e20]; cases f 5 <;> cases f 9 <;> cases f 13 <;> cases f 17 <;> exact qw.run (Q0 := fun _ _ => False) (q9 Y (To.refl _))
     · intro R f h0 hd hc
       have e18 : f 18 = true := hd 18 (by kernel_rfl); show qw _ _ _ ⟨_, Bc s (f 5) (f 9) (f 13) (f 17) (f 19) (f 20)⟩ (fun σ' => To σ' ⟨_, Bc s (f 5) (f 9) (f 13) (f 17) (f 19) true⟩); rw [h0, hd 19 (by kernel_rfl), hc 18 5 (by kernel_rfl) e18, hc 18 9 (by kernel_rfl) e18, hc 18 13 (by kernel_rfl) e18, hc 18 17 (by kernel_rfl) e18]; exact qw.run (Q0 := fun _ _ => False) (q9 Y (To.refl _))
   · exact fun R hL h0 => ⟨_, To.tmps (qab fun p hp => by
      rcases List.mem_cons.1 hp with rfl | hp
      · exact hL 19 (3, .one (.a 3 0)) (by decide) Y
      · exact h0 p hp), rfl⟩
   · intro f hf
     show Bc s (f 5) (f 9) (f 13) (f 17) (f 19) (f 20) = _; rw [hf 5 (by decide), hf 9 (by decide), hf 13 (by decide), hf 17 (by decide), hf 19 (by decide), hf 20 (by decide)]
 · rintro σ rfl
   refine qc Y (ι := Nat) (fun i => i ≤ s.held.length) (fun i => ⟨[(4, sV (.int .i64 i)), (3, .one (.a 3 0)), (2, .one (.a 2 0)), (1, .one (.b (.p s.cs)))], [(3, .var [.b (i64 s.idx), .h 10 (s.bals.map Bal.cs).length, .h 14 (s.votes.map Mk.cs).length, .h 40 ((s.held.take i).map Con.cs).length, .h 18 (s.done.map Mk.cs).length, .h 22 (ints s.app).length]), (40, .arr true 2 0 ((s.held.take i).map Con.cs)), (10, .arr true 3 0 (s.bals.map Bal.cs)), (14, .arr true 2 0 (s.votes.map Mk.cs)), (18, .arr true 2 0 (s.done.map Mk.cs)), (22, .arr true 1 0 (ints s.app)), (2, .var [.b (i64 0), .nil, .nil, .nil, .nil, .nil])]⟩) (fun i => s.held.length - i) 0 (Nat.zero_le _) ?_ ?_
   · exact ⟨⟨Y, I, I, Y, trivial⟩, ⟨⟨Y, I, I, I, I, I, trivial⟩, Y, U, U, U, U, ⟨Y, trivial, trivial, trivial, trivial, trivial, trivial⟩, trivial⟩, Y⟩
   · intro i hi J hJ
     refine xb Y ?_ ?_ <;> intro h
     · have h : i < s.held.length := by simpa using h
       obtain ⟨x, hx⟩ := gx h; have hg := gm Con.cs hx; have hc := q0z x (o6 x (List.mem_of_getElem? hx)); have hst := tk Con.cs hx; refine yb Y [] (.take 0 [] (.take 1 (Rg 9 3) (.take 2 [] (.take 3 (Rg 5 7) (Tk [4, 5] (.take 6 (Rg 7 5) (.alt 7 (.alt 8 (.alt 9 (.take 10 [] (.alt 11 .done .nil)) .nil) .nil) .nil))))))) (by kernel_rfl) (xs Y (nn_ _) (y9 Y _ hg (xs Y Y (z7 Y (hc) Y ⟨tv3, trivial⟩ (xs Y ⟨trivial, ⟨Y, Y⟩, trivial⟩ (xs Y Y (xs Y Y (xs Y (.inl Y) (xs Y (by simp; omega) ?_))))))))); refine xs Y (by simp; omega) ?_; all_goals exact q9 Y (hJ _ (i + 1) (by omega) (by omega) ⟨⟨cwi (by omega) (by omega) (by omega), I, I, Y, trivial⟩, ⟨⟨Y, I, I, ⟨Y, by rw [hst]; exact List.length_append.symm, Y⟩, I, I, trivial⟩, ⟨hst.symm, .inl Y, .inl Y⟩, U, U, U, U, ⟨Y, trivial, trivial, trivial, trivial, trivial, trivial⟩, trivial⟩, Y⟩)
     · have h : i = s.held.length := by have : ¬ i < s.held.length := (by simpa using h); omega
       subst h; rw [List.take_length]; refine xr Y (zm Y ⟨⟨Y, Y, ⟨Y, Y, .inl Y⟩, ⟨Y, Y, .inl Y⟩, ⟨Y, Y, .inl Y⟩, ⟨Y, Y, .inl Y⟩, ⟨Y, Y, .inl Y⟩, trivial⟩, z6 Y⟩)
theorem z59 (l : Ldr) (ho : y8z l) : PC Tryz.prog 123 [.agg l.cs] (.one (.own true [.s (.int .i64 l.n), .l 6 (l.tries.map Tr.cs), .l 5 (l.known.map Hd.cs)])) := by
 obtain ⟨lt, lk, bt⟩ := ho; refine PC.begin Tryz.func123 Y (by kernel_rfl) ?_; have hsc := zbj l.known; refine z5n (n := 0) Y (ι := Unit) (fun _ => True) (fun _ => ⟨[(2, .one (.a 2 0)), (1, .one (.b (.p l.cs)))], [(2, .var [.b (i64 0), .nil, .nil])]⟩) ?_ ?_
 · intro K hK
   exact q9 Y (hK _ () trivial ⟨⟨I, I, trivial⟩, ⟨⟨Y, trivial, trivial, trivial⟩, trivial⟩, Y⟩)
 intro _ _; refine z5n (n := 0) Y (ι := Unit) (fun _ => True) (fun _ => ⟨[(3, .one (.a 3 0)), (2, .one (.a 2 0)), (1, .one (.b (.p l.cs)))], [(3, .var [.b (i64 l.n), .nil, .h 8 (l.known.map Hd.cs).length]), (8, .arr true 5 0 (l.known.map Hd.cs)), (2, .var [.b (i64 0), .nil, .nil])]⟩) ?_ ?_
 · intro K hK
   refine yb Y [] (Tk [0, 3] (.take 4 [5, 6, 8] (.alt 1 (.alt 2 (.alt 5 (.take 6 [] (.alt 7 (.alt 8 .done .nil) .nil)) (.alt 7 (.alt 5 (.take 6 [] (.alt 8 .done .nil)) .nil) .nil)) (.alt 7 (.alt 2 (.alt 5 (.take 6 [] (.alt 8 .done .nil)) .nil) .nil) .nil)) (.alt 2 (.alt 1 (.alt 5 (.take 6 [] (.alt 7 (.alt 8 .done .nil) .nil)) (.alt 7 (.alt 5 (.take 6 [] (.alt 8 .done .nil)) .nil) .nil)) (.alt 5 (.take 1 [6, 8] (.take 6 [] (.alt 7 (.alt 8 .done .nil) .nil))) (.alt 7 (.alt 1 (.alt 5 (.take 6 [] (.alt 8 .done .nil)) .nil) (.alt 5 (.take 1 [6, 8] (.take 6 [] (.alt 8 .done .nil))) .nil)) .nil))) (.alt 7 (.alt 1 (.alt 2 (.alt 5 (.take 6 [] (.alt 8 .done .nil)) .nil) .nil) (.alt 2 (.alt 1 (.alt 5 (.take 6 [] (.alt 8 .done .nil)) .nil) (.alt 5 (.take 1 [6, 8] (.take 6 [] (.alt 8 .done .nil))) .nil)) .nil)) .nil))))) (by kernel_rfl) ?_; refine yr Y ?_ ?_; refine yr Y ?_ ?_; refine xs Y trivial ?_; refine yr Y ?_ ?_; refine xs Y Y (xs Y (by simp) (xs Y (fun _ => hsc) (xs Y (by simp; omega) ?_))); refine xs Y (by simp; omega) ?_; rotate_left; refine xs Y Y (xs Y (by simp) (xs Y (fun _ => hsc) (xs Y (by simp; omega) ?_))); refine xs Y (by simp; omega) ?_; rotate_left; refine xs Y trivial (xs Y Y (xs Y (by simp) (xs Y (fun _ => hsc) (xs Y (by simp; omega) ?_)))); refine xs Y (by simp; omega) ?_; rotate_left; refine yr Y ?_ ?_; refine xs Y trivial ?_; refine yr Y ?_ ?_; refine yr Y ?_ ?_; refine xs Y Y (xs Y (by simp) (xs Y (fun _ => hsc) (xs Y (by simp; omega) ?_))); refine xs Y (by simp; omega) ?_; rotate_left; refine xs Y Y (xs Y (by simp) (xs Y (fun _ => hsc) (xs Y (by simp; omega) ?_))); refine xs Y (by simp; omega) ?_; rotate_left; refine yr Y ?_ ?_; refine xs Y Y (xs Y (by simp) (xs Y (fun _ => hsc) (xs Y (by simp; omega) ?_))); refine xs Y (by simp; omega) ?_; rotate_left; refine yr Y ?_ ?_; refine xs Y Y (xs Y (by simp) (xs Y (fun _ => hsc) (xs Y (by simp; omega) ?_))); refine xs Y (by simp; omega) ?_; rotate_left; refine xs Y Y (xs Y (by simp) (xs Y (fun _ => hsc) (xs Y (by simp; omega) ?_))); refine xs Y (by simp; omega) ?_; rotate_left; refine yr Y ?_ ?_; refine xs Y trivial (xs Y Y (xs Y (by simp) (xs Y (fun _ => hsc) (xs Y (by simp; omega) ?_)))); refine xs Y (by simp; omega) ?_; rotate_left; refine xs Y trivial ?_; refine yr Y ?_ ?_; refine xs Y Y (xs Y (by simp) (xs Y (fun _ => hsc) (xs Y (by simp; omega) ?_))); refine xs Y (by simp; omega) ?_; rotate_left; refine xs Y Y (xs Y (by simp) (xs Y (fun _ => hsc) (xs Y (by simp; omega) ?_))); refine xs Y (by simp; omega) ?_; rotate_left; all_goals exact q9 Y (hK _ () trivial ⟨⟨I, I, Y, trivial⟩, ⟨⟨Y, trivial, ⟨Y, by simp, Y⟩, trivial⟩, U, ⟨Y, trivial, trivial, trivial⟩, trivial⟩, Y⟩)
 intro _ _; refine qc Y (ι := Nat) (fun i => i ≤ l.tries.length) (fun i => ⟨[(4, sV (.int .i64 i)), (3, .one (.a 3 0)), (2, .one (.a 2 0)), (1, .one (.b (.p l.cs)))], [(3, .var [.b (i64 l.n), .h 39 ((l.tries.take i).map Tr.cs).length, .h 8 (l.known.map Hd.cs).length]), (39, .arr true 6 0 ((l.tries.take i).map Tr.cs)), (8, .arr true 5 0 (l.known.map Hd.cs)), (2, .var [.b (i64 0), .nil, .nil])]⟩) (fun i => l.tries.length - i) 0 (Nat.zero_le _) ?_ ?_
 · exact ⟨⟨Y, I, I, Y, trivial⟩, ⟨⟨Y, I, I, trivial⟩, Y, U, ⟨Y, trivial, trivial, trivial⟩, trivial⟩, Y⟩
 · intro i hi J hJ
   refine xb Y ?_ ?_ <;> intro h
   · have h : i < l.tries.length := by simpa using h
     obtain ⟨x, hx⟩ := gx h; have hg := gm Tr.cs hx; obtain ⟨b1, b2⟩ := bt x (List.mem_of_getElem? hx); have h1 := y67 x.fr; have h2 := yar x.olds; have hst := tk Tr.cs hx; refine xs Y (nn_ _) (y9 Y _ hg (xs Y Y (xs Y trivial (xs Y Y (xs Y (by simp) (xs Y (fun _ => h1) (xs Y (by simp; omega) (xs Y (by simp; omega) (xs Y trivial ?_))))))))); refine xs Y Y (xs Y (by simp) (xs Y (fun _ => h2) (xs Y (by simp; omega) (xs Y (by simp; omega) (xs Y (⟨trivial, trivial, trivial, trivial, ⟨Y, List.length_append.symm⟩, ⟨Y, List.length_append.symm⟩, trivial⟩) (xs Y Y (xs Y Y (xs Y (.inl Y) (xs Y (by simp; omega) ?_))))))))); refine xs Y (by simp; omega) ?_; all_goals exact q9 Y (hJ _ (i + 1) (by omega) (by omega) ⟨⟨cwi (by omega) (by omega) (by omega), I, I, Y, trivial⟩, ⟨⟨Y, ⟨Y, by rw [hst]; exact List.length_append.symm, Y⟩, I, trivial⟩, ⟨hst.symm, .inl Y, .inl Y⟩, U, ⟨Y, trivial, trivial, trivial⟩, trivial⟩, Y⟩)
   · have h : i = l.tries.length := by have : ¬ i < l.tries.length := (by simpa using h); omega
     subst h; rw [List.take_length]; refine xr Y (zm Y ⟨⟨Y, Y, ⟨Y, Y, .inl Y⟩, ⟨Y, Y, .inl Y⟩, trivial⟩, z6 Y⟩)
theorem q41 (c : Clu) (ho : zz c) : PC Tryz.prog 52 [.agg c.cs] (.one (.own true [.l 2 (c.cons.map Con.cs), .l 6 (c.shs.map Shd.cs), .l 1 (c.accs.map Acc.cs), .l 3 (c.ldrs.map Ldr.cs), .l 9 (c.msgs.map Msg.cs)])) := by
 refine PC.begin Tryz.func52 Y (by kernel_rfl) ?_; obtain ⟨⟨lc, bc⟩, ⟨ls, bs⟩, ⟨la, ba⟩, ⟨ll, bl⟩, lm⟩ := ho; have h1 := z98 c.accs la ba; have hsc := za0 c.msgs; refine z5n (n := 0) Y (ι := Unit) (fun _ => True) (fun _ => ⟨[(2, .one (.a 2 0)), (1, .one (.b (.p c.cs)))], [(2, .var [.nil, .nil, .nil, .nil, .nil])]⟩) ?_ ?_
 · intro K hK
   exact q9 Y (hK _ () trivial ⟨⟨I, I, trivial⟩, ⟨tv6, trivial⟩, Y⟩)
 intro _ _; refine z5n (n := 0) Y (ι := Unit) (fun _ => True) (fun _ => ⟨[(3, .one (.a 3 0)), (2, .one (.a 2 0)), (1, .one (.b (.p c.cs)))], [(3, .var [.nil, .nil, .h 1000000 (c.accs.map Acc.cs).length, .nil, .h 10 (c.msgs.map Msg.cs).length]), (1000000, .arr true 1 0 (c.accs.map Acc.cs)), (10, .arr true 9 0 (c.msgs.map Msg.cs)), (2, .var [.nil, .nil, .nil, .nil, .nil])]⟩) ?_ ?_
 · intro K hK
   refine yb Y [] (.take 0 [] (.take 1 [2, 6, 7, 9] (.take 4 [] (.take 5 [6, 7, 9] (.alt 2 (.alt 3 (.alt 6 (.take 7 [] (.alt 8 (.alt 9 .done .nil) .nil)) (.alt 8 (.alt 6 (.take 7 [] (.alt 9 .done .nil)) .nil) .nil)) (.alt 8 (.alt 3 (.alt 6 (.take 7 [] (.alt 9 .done .nil)) .nil) .nil) .nil)) (.alt 3 (.alt 2 (.alt 6 (.take 7 [] (.alt 8 (.alt 9 .done .nil) .nil)) (.alt 8 (.alt 6 (.take 7 [] (.alt 9 .done .nil)) .nil) .nil)) (.alt 8 (.alt 2 (.alt 6 (.take 7 [] (.alt 9 .done .nil)) .nil) .nil) .nil)) (.alt 8 (.alt 2 (.alt 3 (.alt 6 (.take 7 [] (.alt 9 .done .nil)) .nil) .nil) (.alt 3 (.alt 2 (.alt 6 (.take 7 [] (.alt 9 .done .nil)) .nil) .nil) .nil)) .nil))))))) (by kernel_rfl) ?_; refine yr Y ?_ ?_; refine z7 Y (h1) Y ⟨trivial, trivial⟩ ?_; refine yr Y ?_ ?_; refine xs Y trivial ?_; refine yr Y ?_ ?_; refine xs Y Y (xs Y (by simp) (xs Y (fun _ => hsc) (xs Y (by simp; omega) ?_))); refine xs Y (by simp; omega) ?_; rotate_left; refine xs Y Y (xs Y (by simp) (xs Y (fun _ => hsc) (xs Y (by simp; omega) ?_))); refine xs Y (by simp; omega) ?_; rotate_left; refine xs Y trivial (xs Y Y (xs Y (by simp) (xs Y (fun _ => hsc) (xs Y (by simp; omega) ?_)))); refine xs Y (by simp; omega) ?_; rotate_left; refine yr Y ?_ ?_; refine xs Y trivial ?_; refine yr Y ?_ ?_; refine z7 Y (h1) Y ⟨trivial, trivial⟩ ?_; refine yr Y ?_ ?_; refine xs Y Y (xs Y (by simp) (xs Y (fun _ => hsc) (xs Y (by simp; omega) ?_))); refine xs Y (by simp; omega) ?_; rotate_left; refine xs Y Y (xs Y (by simp) (xs Y (fun _ => hsc) (xs Y (by simp; omega) ?_))); refine xs Y (by simp; omega) ?_; rotate_left; refine z7 Y (h1) Y ⟨trivial, trivial⟩ (xs Y Y (xs Y (by simp) (xs Y (fun _ => hsc) (xs Y (by simp; omega) ?_)))); refine xs Y (by simp; omega) ?_; rotate_left; refine yr Y ?_ ?_; refine z7 Y (h1) Y ⟨trivial, trivial⟩ (xs Y trivial (xs Y Y (xs Y (by simp) (xs Y (fun _ => hsc) (xs Y (by simp; omega) ?_))))); refine xs Y (by simp; omega) ?_; rotate_left; refine xs Y trivial (z7 Y (h1) Y ⟨trivial, trivial⟩ (xs Y Y (xs Y (by simp) (xs Y (fun _ => hsc) (xs Y (by simp; omega) ?_))))); refine xs Y (by simp; omega) ?_; rotate_left; all_goals exact q9 Y (hK _ () trivial ⟨⟨I, I, Y, trivial⟩, ⟨⟨trivial, trivial, I, trivial, ⟨Y, by simp, Y⟩, trivial⟩, U, U, tv6, trivial⟩, Y⟩)
 intro _ _; refine qc Y (ι := Nat) (fun i => i ≤ c.cons.length) (fun i => ⟨[(4, sV (.int .i64 i)), (3, .one (.a 3 0)), (2, .one (.a 2 0)), (1, .one (.b (.p c.cs)))], [(3, .var [.h 31 ((c.cons.take i).map Con.cs).length, .nil, .h 1000000 (c.accs.map Acc.cs).length, .nil, .h 10 (c.msgs.map Msg.cs).length]), (31, .arr true 2 0 ((c.cons.take i).map Con.cs)), (1000000, .arr true 1 0 (c.accs.map Acc.cs)), (10, .arr true 9 0 (c.msgs.map Msg.cs)), (2, .var [.nil, .nil, .nil, .nil, .nil])]⟩) (fun i => c.cons.length - i) 0 (Nat.zero_le _) ?_ ?_
 · exact ⟨⟨Y, I, I, Y, trivial⟩, ⟨⟨I, trivial, I, trivial, I, trivial⟩, Y, U, U, tv6, trivial⟩, Y⟩
 · intro i hi J hJ
   refine xb Y ?_ ?_ <;> intro h
   · have h : i < c.cons.length := by simpa using h
     obtain ⟨x, hx⟩ := gx h; have hg := gm Con.cs hx; have hc := q0z x (bc x (List.mem_of_getElem? hx)); have hst := tk Con.cs hx; refine yb Y [] (.take 0 [] (.take 1 (Rg 9 3) (.take 2 [] (.take 3 (Rg 5 7) (Tk [4, 5] (.take 6 (Rg 7 5) (.alt 7 (.alt 8 (.alt 9 (.take 10 [] (.alt 11 .done .nil)) .nil) .nil) .nil))))))) (by kernel_rfl) (xs Y (nn_ _) (y9 Y _ hg (xs Y Y (z7 Y (hc) Y ⟨tv3, trivial⟩ (xs Y ⟨trivial, ⟨Y, Y⟩, trivial⟩ (xs Y Y (xs Y Y (xs Y (.inl Y) (xs Y (by simp; omega) ?_))))))))); refine xs Y (by simp; omega) ?_; all_goals exact q9 Y (hJ _ (i + 1) (by omega) (by omega) ⟨⟨cwi (by omega) (by omega) (by omega), I, I, Y, trivial⟩, ⟨⟨⟨Y, by rw [hst]; exact List.length_append.symm, Y⟩, trivial, I, trivial, I, trivial⟩, ⟨hst.symm, .inl Y, .inl Y⟩, U, U, tv6, trivial⟩, Y⟩)
   · have h : i = c.cons.length := by have : ¬ i < c.cons.length := (by simpa using h); omega
     subst h; rw [List.take_length]; refine qc Y (ι := Nat) (fun i => i ≤ c.shs.length) (fun i => ⟨[(5, sV (.int .i64 i)), (3, .one (.a 3 0)), (2, .one (.a 2 0)), (1, .one (.b (.p c.cs)))], [(3, .var [.h 31 (c.cons.map Con.cs).length, .h 49 ((c.shs.take i).map Shd.cs).length, .h 1000000 (c.accs.map Acc.cs).length, .nil, .h 10 (c.msgs.map Msg.cs).length]), (49, .arr true 6 0 ((c.shs.take i).map Shd.cs)), (31, .arr true 2 0 (c.cons.map Con.cs)), (1000000, .arr true 1 0 (c.accs.map Acc.cs)), (10, .arr true 9 0 (c.msgs.map Msg.cs)), (2, .var [.nil, .nil, .nil, .nil, .nil])]⟩) (fun i => c.shs.length - i) 0 (Nat.zero_le _) ?_ ?_
     · exact ⟨⟨Y, I, I, Y, trivial⟩, ⟨⟨I, I, I, trivial, I, trivial⟩, Y, U, U, U, tv6, trivial⟩, Y⟩
     · intro i hi J hJ
       refine xb Y ?_ ?_ <;> intro h
       · have h : i < c.shs.length := by simpa using h
         obtain ⟨x, hx⟩ := gx h; have hg := gm Shd.cs hx; have hc := y76 x (bs x (List.mem_of_getElem? hx)); have hst := tk Shd.cs hx; refine yb Y [] (.take 0 [] (.take 1 (Rg 9 3) (.take 2 [] (.take 3 (Rg 5 7) (Tk [4, 5] (.take 6 (Rg 7 5) (.alt 7 (.alt 8 (.alt 9 (.take 10 [] (.alt 11 .done .nil)) .nil) .nil) .nil))))))) (by kernel_rfl) (xs Y (nn_ _) (y9 Y _ hg (xs Y Y (z7 Y (hc) Y ⟨tv7, trivial⟩ (xs Y ⟨trivial, ⟨Y, Y⟩, ⟨Y, Y⟩, ⟨Y, Y⟩, ⟨Y, Y⟩, ⟨Y, Y⟩, trivial⟩ (xs Y Y (xs Y Y (xs Y (.inl Y) (xs Y (by simp; omega) ?_))))))))); refine xs Y (by simp; omega) ?_; all_goals exact q9 Y (hJ _ (i + 1) (by omega) (by omega) ⟨⟨cwi (by omega) (by omega) (by omega), I, I, Y, trivial⟩, ⟨⟨I, ⟨Y, by rw [hst]; exact List.length_append.symm, Y⟩, I, trivial, I, trivial⟩, ⟨hst.symm, .inl Y, .inl Y⟩, U, U, U, tv6, trivial⟩, Y⟩)
       · have h : i = c.shs.length := by have : ¬ i < c.shs.length := (by simpa using h); omega
         subst h; rw [List.take_length]; refine qc Y (ι := Nat) (fun i => i ≤ c.ldrs.length) (fun i => ⟨[(6, sV (.int .i64 i)), (3, .one (.a 3 0)), (2, .one (.a 2 0)), (1, .one (.b (.p c.cs)))], [(3, .var [.h 31 (c.cons.map Con.cs).length, .h 49 (c.shs.map Shd.cs).length, .h 1000000 (c.accs.map Acc.cs).length, .h 67 ((c.ldrs.take i).map Ldr.cs).length, .h 10 (c.msgs.map Msg.cs).length]), (67, .arr true 3 0 ((c.ldrs.take i).map Ldr.cs)), (31, .arr true 2 0 (c.cons.map Con.cs)), (49, .arr true 6 0 (c.shs.map Shd.cs)), (1000000, .arr true 1 0 (c.accs.map Acc.cs)), (10, .arr true 9 0 (c.msgs.map Msg.cs)), (2, .var [.nil, .nil, .nil, .nil, .nil])]⟩) (fun i => c.ldrs.length - i) 0 (Nat.zero_le _) ?_ ?_
         · exact ⟨⟨Y, I, I, Y, trivial⟩, ⟨⟨I, I, I, I, I, trivial⟩, Y, U, U, U, U, tv6, trivial⟩, Y⟩
         · intro i hi J hJ
           refine xb Y ?_ ?_ <;> intro h
           · have h : i < c.ldrs.length := by simpa using h
             obtain ⟨x, hx⟩ := gx h; have hg := gm Ldr.cs hx; have hc := z59 x (bl x (List.mem_of_getElem? hx)); have hst := tk Ldr.cs hx; refine yb Y [] (.take 0 [] (.take 1 (Rg 9 3) (.take 2 [] (.take 3 (Rg 5 7) (Tk [4, 5] (.take 6 (Rg 7 5) (.alt 7 (.alt 8 (.alt 9 (.take 10 [] (.alt 11 .done .nil)) .nil) .nil) .nil))))))) (by kernel_rfl) (xs Y (nn_ _) (y9 Y _ hg (xs Y Y (z7 Y (hc) Y ⟨tv4, trivial⟩ (xs Y ⟨trivial, ⟨Y, Y⟩, ⟨Y, Y⟩, trivial⟩ (xs Y Y (xs Y Y (xs Y (.inl Y) (xs Y (by simp; omega) ?_))))))))); refine xs Y (by simp; omega) ?_; all_goals exact q9 Y (hJ _ (i + 1) (by omega) (by omega) ⟨⟨cwi (by omega) (by omega) (by omega), I, I, Y, trivial⟩, ⟨⟨I, I, I, ⟨Y, by rw [hst]; exact List.length_append.symm, Y⟩, I, trivial⟩, ⟨hst.symm, .inl Y, .inl Y⟩, U, U, U, U, tv6, trivial⟩, Y⟩)
           · have h : i = c.ldrs.length := by have : ¬ i < c.ldrs.length := (by simpa using h); omega
             subst h; rw [List.take_length]; refine xr Y (zm Y ⟨⟨Y, ⟨Y, Y, .inl Y⟩, ⟨Y, Y, .inl Y⟩, ⟨Y, Y, .inl Y⟩, ⟨Y, Y, .inl Y⟩, ⟨Y, Y, .inl Y⟩, trivial⟩, z6 Y⟩)
theorem z1u (c : Clu) (ho : zz c) : PC Tryz.prog 107 [.agg c.cs] (.one (.own true [.l 2 (c.cons.map Con.cs), .l 6 (c.shs.map Shd.cs), .l 1 (c.accs.map Acc.cs), .l 3 (c.ldrs.map Ldr.cs), .l 9 (c.msgs.map Msg.cs)])) := by
 refine PC.begin Tryz.func107 Y (by kernel_rfl) ?_; obtain ⟨⟨lc, bc⟩, ⟨ls, bs⟩, ⟨la, ba⟩, ⟨ll, bl⟩, lm⟩ := ho; have h1 := y1b c.cons lc bc; have h2 := y2u c.accs la ba; have h3 := z35 c.msgs lm; refine z5n (n := 0) Y (ι := Unit) (fun _ => True) (fun _ => ⟨[(2, .one (.a 2 0)), (1, .one (.b (.p c.cs)))], [(2, .var [.nil, .nil, .nil, .nil, .nil])]⟩) ?_ ?_
 · intro K hK
   exact q9 Y (hK _ () trivial ⟨⟨I, I, trivial⟩, ⟨tv6, trivial⟩, Y⟩)
 intro _ _; refine z5n (n := 0) Y (ι := Unit) (fun _ => True) (fun _ => ⟨[(3, .one (.a 3 0)), (2, .one (.a 2 0)), (1, .one (.b (.p c.cs)))], [(3, .var [.h 1400000 (c.cons.map Con.cs).length, .nil, .h 1700000 (c.accs.map Acc.cs).length, .nil, .h 2000000 (c.msgs.map Msg.cs).length]), (1400000, .arr true 2 0 (c.cons.map Con.cs)), (1700000, .arr true 1 0 (c.accs.map Acc.cs)), (2000000, .arr true 9 0 (c.msgs.map Msg.cs)), (2, .var [.nil, .nil, .nil, .nil, .nil])]⟩) ?_ ?_
 · intro K hK
   refine yb Y [] (.take 0 [] (.take 1 [2, 5, 8, 9, 11] (.take 3 [] (.take 4 [5, 8, 9, 11] (.take 6 [] (.take 7 [8, 9, 11] (.alt 2 (.alt 5 (.alt 8 (.take 9 [] (.alt 10 (.alt 11 .done .nil) .nil)) (.alt 10 (.alt 8 (.take 9 [] (.alt 11 .done .nil)) .nil) .nil)) (.alt 10 (.alt 5 (.alt 8 (.take 9 [] (.alt 11 .done .nil)) .nil) .nil) .nil)) (.alt 10 (.alt 2 (.alt 5 (.alt 8 (.take 9 [] (.alt 11 .done .nil)) .nil) .nil) .nil) .nil)))))))) (by kernel_rfl) ?_; refine yr Y ?_ ?_; refine z7 Y (h1) Y ⟨trivial, trivial⟩ ?_; refine yr Y ?_ ?_; refine z7 Y (h2) Y ⟨trivial, trivial⟩ ?_; refine yr Y ?_ ?_; refine z7 Y (h3) Y ⟨trivial, trivial⟩ ?_; rotate_left; refine z7 Y (h3) Y ⟨trivial, trivial⟩ ?_; rotate_left; refine z7 Y (h2) Y ⟨trivial, trivial⟩ ?_; refine z7 Y (h3) Y ⟨trivial, trivial⟩ ?_; rotate_left; refine z7 Y (h1) Y ⟨trivial, trivial⟩ (z7 Y (h2) Y ⟨trivial, trivial⟩ ?_); refine z7 Y (h3) Y ⟨trivial, trivial⟩ ?_; rotate_left; all_goals exact q9 Y (hK _ () trivial ⟨⟨I, I, Y, trivial⟩, ⟨⟨I, trivial, I, trivial, I, trivial⟩, U, U, U, tv6, trivial⟩, Y⟩)
 intro _ _; refine qc Y (ι := Nat) (fun i => i ≤ c.shs.length) (fun i => ⟨[(24, sV (.int .i64 i)), (23, sV (.int .i64 (c.shs.map Shd.cs).length)), (22, .one (.b (.l (c.shs.map Shd.cs)))), (3, .one (.a 3 0)), (2, .one (.a 2 0)), (1, .one (.b (.p c.cs)))], [(3, .var [.h 1400000 (c.cons.map Con.cs).length, .h 33 ((c.shs.take i).map Shd.cs).length, .h 1700000 (c.accs.map Acc.cs).length, .nil, .h 2000000 (c.msgs.map Msg.cs).length]), (33, .arr true 6 0 ((c.shs.take i).map Shd.cs)), (1400000, .arr true 2 0 (c.cons.map Con.cs)), (1700000, .arr true 1 0 (c.accs.map Acc.cs)), (2000000, .arr true 9 0 (c.msgs.map Msg.cs)), (2, .var [.nil, .nil, .nil, .nil, .nil])]⟩) (fun i => c.shs.length - i) 0 (Nat.zero_le _) ?_ ?_
 · exact ⟨⟨Y, Y, Y, I, I, Y, trivial⟩, ⟨⟨I, I, I, trivial, I, trivial⟩, Y, U, U, U, tv6, trivial⟩, Y⟩
 · intro i hi J hJ
   refine xb Y ?_ ?_ <;> intro h
   · have h : i < c.shs.length := by simpa using h
     obtain ⟨x, hx⟩ := gx h; have hg := gm Shd.cs hx; have hc := y52 x (bs x (List.mem_of_getElem? hx)); have hst := tk Shd.cs hx; refine xs Y (by simp) (y9 Y _ hg (xs Y Y (yb Y [] (.take 0 [] (.take 1 (Rg 5 3) (.take 2 (Rg 3 5) (.alt 3 (.alt 4 (.alt 5 (.take 6 [] (.alt 7 .done .nil)) .nil) .nil) .nil)))) (by kernel_rfl) (z7 Y (hc) Y ⟨tv7, trivial⟩ (xs Y ⟨trivial, ⟨Y, Y⟩, ⟨Y, Y⟩, ⟨Y, Y⟩, ⟨Y, Y⟩, ⟨Y, Y⟩, trivial⟩ (xs Y Y (xs Y Y (xs Y (.inl Y) (xs Y (by simp; omega) ?_))))))))); refine xs Y (by simp; omega) ?_; all_goals exact q9 Y (hJ _ (i + 1) (by omega) (by omega) ⟨⟨cwi (by omega) (by omega) (by omega), Y, Y, I, I, Y, trivial⟩, ⟨⟨I, ⟨Y, by rw [hst]; exact List.length_append.symm, Y⟩, I, trivial, I, trivial⟩, ⟨hst.symm, .inl Y, .inl Y⟩, U, U, U, tv6, trivial⟩, Y⟩)
   · have h : i = c.shs.length := by have : ¬ i < c.shs.length := (by simpa using h); omega
     subst h; rw [List.take_length]; refine qc Y (ι := Nat) (fun i => i ≤ c.ldrs.length) (fun i => ⟨[(39, sV (.int .i64 i)), (38, sV (.int .i64 (c.ldrs.map Ldr.cs).length)), (37, .one (.b (.l (c.ldrs.map Ldr.cs)))), (3, .one (.a 3 0)), (2, .one (.a 2 0)), (1, .one (.b (.p c.cs)))], [(3, .var [.h 1400000 (c.cons.map Con.cs).length, .h 33 (c.shs.map Shd.cs).length, .h 1700000 (c.accs.map Acc.cs).length, .h 74 ((c.ldrs.take i).map Ldr.cs).length, .h 2000000 (c.msgs.map Msg.cs).length]), (33, .arr true 6 0 (c.shs.map Shd.cs)), (74, .arr true 3 0 ((c.ldrs.take i).map Ldr.cs)), (1400000, .arr true 2 0 (c.cons.map Con.cs)), (1700000, .arr true 1 0 (c.accs.map Acc.cs)), (2000000, .arr true 9 0 (c.msgs.map Msg.cs)), (2, .var [.nil, .nil, .nil, .nil, .nil])]⟩) (fun i => c.ldrs.length - i) 0 (Nat.zero_le _) ?_ ?_
     · exact ⟨⟨Y, Y, Y, I, I, Y, trivial⟩, ⟨⟨I, I, I, I, I, trivial⟩, U, Y, U, U, U, tv6, trivial⟩, Y⟩
     · intro i hi J hJ
       refine xb Y ?_ ?_ <;> intro h
       · have h : i < c.ldrs.length := by simpa using h
         obtain ⟨x, hx⟩ := gx h; have hg := gm Ldr.cs hx; obtain ⟨lt, lk, bt⟩ := bl x (List.mem_of_getElem? hx); have hst := tk Ldr.cs hx; have hk := y4d x.known lk; refine xs Y (nn_ _) (y9 Y _ hg (xs Y Y (xs Y trivial ?_))); refine qc Y (ι := Nat) (fun k => k ≤ x.tries.length) (fun k => ⟨[(47, sV (.int .i64 k)), (46, sV (.int .i64 (x.tries.map Tr.cs).length)), (45, .one (.b (.l (x.tries.map Tr.cs)))), (8, .one (.h 43 ((x.tries.take k).map Tr.cs).length)), (7, .one (.a 7 0)), (39, sV (.int .i64 i)), (38, sV (.int .i64 (c.ldrs.map Ldr.cs).length)), (37, .one (.b (.l (c.ldrs.map Ldr.cs)))), (3, .one (.a 3 0)), (2, .one (.a 2 0)), (1, .one (.b (.p c.cs)))], [(43, .arr true 6 0 ((x.tries.take k).map Tr.cs)), (7, .var [.b (i64 x.n), .b (.l (x.tries.map Tr.cs)), .b (.l (x.known.map Hd.cs))]), (3, .var [.h 1400000 (c.cons.map Con.cs).length, .h 33 (c.shs.map Shd.cs).length, .h 1700000 (c.accs.map Acc.cs).length, .h 74 ((c.ldrs.take i).map Ldr.cs).length, .h 2000000 (c.msgs.map Msg.cs).length]), (33, .arr true 6 0 (c.shs.map Shd.cs)), (74, .arr true 3 0 ((c.ldrs.take i).map Ldr.cs)), (1400000, .arr true 2 0 (c.cons.map Con.cs)), (1700000, .arr true 1 0 (c.accs.map Acc.cs)), (2000000, .arr true 9 0 (c.msgs.map Msg.cs)), (2, .var [.nil, .nil, .nil, .nil, .nil])]⟩) (fun k => x.tries.length - k) 0 (Nat.zero_le _) ?_ ?_
         · exact ⟨⟨Y, Y, Y, I, I, Y, Y, Y, I, I, Y, trivial⟩, ⟨U, ⟨Y, Y, Y, trivial⟩, ⟨I, I, I, I, I, trivial⟩, U, U, U, U, U, tv6, trivial⟩, Y⟩
         · intro k hk' J' hJ'
           refine xb Y (fun h' => ?_) (fun h' => ?_)
           · have h' : k < x.tries.length := by simpa using h'
             obtain ⟨t, ht⟩ := gx h'; have hgt := gm Tr.cs ht; obtain ⟨b1, b2⟩ := bt t (List.mem_of_getElem? ht); have hf := q34 t.fr b1; have hv := y2n t.olds b2; have hst' := tk Tr.cs ht; refine xs Y (by simp) (y9 Y _ hgt (xs Y Y (yb Y [] (.take 0 [] (.take 1 (Rg 2 1 ++ Rg 5 5) (.take 3 [] (.take 4 (Rg 5 5) (.alt 2 (.take 6 [] (.alt 5 (.alt 7 (.take 8 [] (.alt 9 .done .nil)) .nil) .nil)) .nil))))) (by kernel_rfl) (z7 Y (hf) Y ⟨trivial, trivial⟩ (z7 Y (hv) Y ⟨trivial, trivial⟩ (xs Y ⟨trivial, trivial, trivial, trivial, ⟨Y, Y⟩, ⟨Y, Y⟩, trivial⟩ (xs Y Y (xs Y Y (xs Y (.inl Y) ?_))))))))); refine xs Y (by simp; omega) (xs Y (by simp; omega) ?_); all_goals exact q9 Y (hJ' _ (k + 1) (by omega) (by omega) ⟨⟨cwi (by omega) (by omega) (by omega), Y, Y, ⟨Y, by rw [hst']; exact List.length_append.symm, Y⟩, I, Y, Y, Y, I, I, Y, trivial⟩, ⟨⟨hst'.symm, .inl Y, .inl Y⟩, ⟨Y, Y, Y, trivial⟩, ⟨I, I, I, I, I, trivial⟩, U, U, U, U, U, tv6, trivial⟩, Y⟩)
           · have h' : k = x.tries.length := by have : ¬ k < x.tries.length := by simpa using h'
                                                omega
             subst h'; rw [List.take_length]; refine yb Y [] (.take 0 [] (.take 1 (Rg 10 3) (.take 2 [] (.take 3 (Rg 8 5) (Tk [4, 5] (.take 6 (Rg 7 6) (.alt 7 (.take 8 [] (.alt 9 (.alt 10 (.take 11 [] (.alt 12 .done .nil)) .nil) .nil)) .nil))))))) (by kernel_rfl) (z7 Y (hk) Y ⟨trivial, trivial⟩ (xs Y ⟨trivial, ⟨Y, Y⟩, ⟨Y, Y⟩, trivial⟩ (xs Y Y (xs Y Y (xs Y (.inl Y) (xs Y (by simp; omega) (xs Y (by simp; omega) ?_))))))); all_goals exact q9 Y (hJ _ (i + 1) (by omega) (by omega) ⟨⟨cwi (by omega) (by omega) (by omega), Y, Y, I, I, Y, trivial⟩, ⟨⟨I, I, I, ⟨Y, by rw [hst]; exact List.length_append.symm, Y⟩, I, trivial⟩, U, ⟨hst.symm, .inl Y, .inl Y⟩, U, U, U, tv6, trivial⟩, Y⟩)
       · have h : i = c.ldrs.length := by have : ¬ i < c.ldrs.length := (by simpa using h); omega
         subst h; rw [List.take_length]; refine xr Y (zm Y ⟨⟨Y, ⟨Y, Y, .inl Y⟩, ⟨Y, Y, .inl Y⟩, ⟨Y, Y, .inl Y⟩, ⟨Y, Y, .inl Y⟩, ⟨Y, Y, .inl Y⟩, trivial⟩, z6 Y⟩)
abbrev pkM (c : Clu) (ms : List Msg) : List PK := [.k (.l (c.cons.map Con.cs)), .k (.l (c.shs.map Shd.cs)), .k (.l (c.accs.map Acc.cs)), .k (.l (c.ldrs.map Ldr.cs)), .n (.l 9 (c.msgs.map Msg.cs)) (.l 9 (ms.map Msg.cs))]
theorem y8m (c : Clu) (m : Msg) (hl : c.msgs.length ≤ 1000000000000) : PP Tryz.prog 137 0 (pkM c (c.msgs ++ [m])) [.agg [], .agg m.cs] (.tup []) := by
 refine PP.begin Tryz.func137 Y (by kernel_rfl) ?_; refine yb Y [] (Tk (Rg 0 4) (.take 4 (Rg 7 4) (.take 5 (Rg 6 5) (.alt 6 (.alt 7 (Tk [8, 9] (.alt 10 .done .nil)) .nil) .nil)))) (by kernel_rfl) (xs Y tv10 (xs Y Y (xs Y Y (xs Y (.inl Y) (xs Y (by simp; omega) (xs Y (by simp; omega) ?_)))))); refine xr Y (z8w Y Y ⟨⟨Y, trivial⟩, ⟨Y, trivial⟩, ⟨Y, trivial⟩, ⟨Y, trivial⟩, ⟨?_, ?_, .inl Y⟩, trivial⟩ ⟨(by decide), trivial, z6 Y⟩); rotate_left; rotate_left; all_goals first | exact List.length_append.symm | simp
theorem q9h (c : Clu) (m : Msg) (hl : c.msgs.length ≤ 1000000000000) : PP Tryz.prog 56 0 (pkM c (c.msgs ++ [m])) [.agg [], .agg m.cs] (.tup []) := by
 refine PP.begin Tryz.func56 Y (by kernel_rfl) ?_; refine yb Y [] (Tk (Rg 0 4) (.take 4 (Rg 7 4) (.take 5 (Rg 6 5) (.alt 6 (.alt 7 (Tk [8, 9] (.alt 10 .done .nil)) .nil) .nil)))) (by kernel_rfl) (xs Y tv10 (xs Y Y (xs Y Y (xs Y (.inl Y) (xs Y (by simp; omega) (xs Y (by simp; omega) ?_)))))); refine xr Y (z8w Y Y ⟨⟨Y, trivial⟩, ⟨Y, trivial⟩, ⟨Y, trivial⟩, ⟨Y, trivial⟩, ⟨?_, ?_, .inl Y⟩, trivial⟩ ⟨(by decide), trivial, z6 Y⟩); rotate_left; rotate_left; all_goals first | exact List.length_append.symm | simp
theorem zb6 (k : Int) : PC Tryz.prog 49 [.one (i64 k)] (q9e k q2n) := by
 refine PC.begin Tryz.func49 Y (by kernel_rfl) ?_; refine xr Y (zm Y ⟨⟨Y, Y, Y, Y, Y, Y, Y, trivial⟩, z6 Y⟩)
end Go.Proofs.YtjdiongbbijdpaaGreat
end
section
namespace Go.Proofs.YtjdiongbbijdpaaGreat
open Go Go.Sx
set_option maxRecDepth 20000
set_option maxHeartbeats 4000000
open Go.Proofs Go.Shelf Go.RowKit Go.Lib Go.Sort
instance : Inhabited Vt := ⟨⟨0, 0⟩⟩
section
variable {α : Type} [Inhabited α]
end
section
variable {α : Type} [Inhabited α] (enc : α → List Value) (cs : α → List Cell) (k : Nat)
theorem y6l {α : Type} (enc : α → List Value) (k : Nat) (hk : ∀ x, (enc x).length = k) : ∀ us : List α, (us.flatMap enc).length = us.length * k
 | [] => by simp
 | x :: us => by rw [List.flatMap_cons, List.length_append, y6l enc k hk us, hk, List.length_cons, Nat.add_mul, Nat.one_mul, Nat.add_comm]
theorem z6l {α : Type} (enc : α → List Value) (k : Nat) (hk : ∀ x, (enc x).length = k) : ∀ {us : List α} {j c : Nat} {x : α}, us[j]? = some x → c < k → (us.flatMap enc)[j * k + c]? = (enc x)[c]?
 | x :: us, 0, c, m, h, hc => by
   cases h; rw [List.flatMap_cons, Nat.zero_mul, Nat.zero_add, List.getElem?_append_left (by rw [hk]; exact hc)]
 | x :: us, j + 1, c, m, h, hc => by
   have h1 := z6l enc k hk (us := us) (j := j) (c := c) (by simpa using h) hc; rw [List.flatMap_cons, Nat.add_mul, Nat.one_mul, List.getElem?_append_right (by rw [hk]; omega), hk, ← h1]
   congr 1
   omega
theorem q6k (hk : ∀ x, (enc x).length = k) (us : List α) : flatK enc k us.toArray = (us.flatMap enc).toArray := by
 have hl := y6l enc k hk us; refine ext_get! (by simp [hl]) fun t ht => ?_
 have ht' : t < us.length * k := by simpa using ht
 have hj : t / k < us.length := by rw [Nat.div_lt_iff_lt_mul (by rcases Nat.eq_zero_or_pos k with h | h; · subst h; simp at ht'
                                                                 · exact h)]; exact ht'
 have hc : t % k < k := Nat.mod_lt _ (by rcases Nat.eq_zero_or_pos k with h | h; · subst h; simp at ht'
                                         · exact h)
 have h1 := z6l enc k hk (List.getElem?_eq_getElem hj) hc; rw [Nat.mul_comm, Nat.div_add_mod] at h1; rw [get_flatK _ _ _ t (by simpa using ht')]; simp only [List.getElem!_toArray]; rw [List.getElem!_eq_getElem?_getD, List.getElem!_eq_getElem?_getD, List.getElem!_eq_getElem?_getD, List.getElem?_eq_getElem hj, Option.getD_some, ← h1]
theorem y83 {w : World} {base : Nat} {e : TypeId} {g n cap : Nat} {us : List α} (hk : ∀ x, (enc x).length = k) (h : w.ownsRow base e k (.slice (some ⟨g, 0, none⟩) n cap) n (us.flatMap enc)) : HoldsK enc k w g 0 us.toArray ∧ n ≤ cap ∧ cap ≤ maxLen ∧ g < w.heap.size := by
 obtain ⟨h1, h2⟩ := yba h; refine ⟨?_, h2⟩; show Holds id w g 0 (flatK enc k us.toArray); rw [q6k enc k hk]; exact h1
theorem q7z {α : Type} (enc : α → List Value) (k : Nat) (hk : ∀ x, (enc x).length = k) : ∀ (us : List α) (i : Nat), (us.flatMap enc).take (i * k) = (us.take i).flatMap enc
 | [], i => by simp
 | m :: us, 0 => by simp
 | m :: us, i + 1 => by
   have h := q7z enc k hk us i; rw [List.flatMap_cons, List.take_append, List.take_of_length_le (by rw [hk, Nat.add_mul]; omega), List.take_succ_cons, List.flatMap_cons, ← h, hk]
   congr 2
   rw [Nat.add_mul]; omega
theorem y8g {w : World} {base : Nat} {e : TypeId} {g n cap q : Nat} {us ys zs : List α} (hk : ∀ x, (enc x).length = k) (h : w.ownsRow base e k (.slice (some ⟨g, 0, none⟩) n cap) n (us.flatMap enc)) (hl : (ys ++ zs).length = n) : (putRowK enc k (Sort.ahead w q) g 0 (ys ++ zs).toArray).ownsRow base e k (.slice (some ⟨g, 0, none⟩) ys.length cap) ys.length (ys.flatMap enc) := by
 have h1 := y5d (q := q) (k := ys.length) (ys := (ys ++ zs).flatMap enc) h (by rw [y6l enc k hk, hl]) (by rw [List.length_append] at hl; omega); rw [q7z enc k hk, List.take_left' rfl] at h1; unfold putRowK; rw [q6k enc k hk]; exact h1
end
def qcj : Ren := ⟨fun n => bif Nat.beq n 6 then 133 else bif Nat.beq n 14 then 236 else bif Nat.beq n 15 then 237 else bif Nat.beq n 20 then 325 else bif Nat.beq n 21 then 326 else bif Nat.beq n 22 then 327 else bif Nat.beq n 23 then 328 else bif Nat.beq n 24 then 329 else bif Nat.beq n 25 then 330 else bif Nat.beq n 26 then 331 else bif Nat.beq n 27 then 332 else bif Nat.beq n 28 then 333 else bif Nat.beq n 29 then 334 else bif Nat.beq n 46 then 400 else bif Nat.beq n 47 then 401 else bif Nat.beq n 48 then 402 else bif Nat.beq n 49 then 403 else bif Nat.beq n 50 then 404 else bif Nat.beq n 57 then 449 else 0, fun t => bif Nat.beq t 3 then 3 else bif Nat.beq t 4 then 4 else bif Nat.beq t 5 then 5 else bif Nat.beq t 9 then 9 else bif Nat.beq t 22 then 34 else bif Nat.beq t 24 then 47 else bif Nat.beq t 25 then 186 else bif Nat.beq t 39 then 275 else bif Nat.beq t 45 then 353 else bif Nat.beq t 46 then 354 else bif Nat.beq t 50 then 130 else bif Nat.beq t 53 then 360 else bif Nat.beq t 55 then 362 else bif Nat.beq t 66 then 406 else bif Nat.beq t 70 then 410 else bif Nat.beq t 76 then 442 else bif Nat.beq t 77 then 443 else 0, fun x => x⟩
theorem qbc : SlLaysF0.n6 Tryz.prog qcj where
 mixed := by kernel_rfl
 f6 := ⟨ "slices.SortFunc[[]loop.example/g00203/impl.Contract,loop.example/g00203/impl.Contract]", by decide, by kernel_rfl⟩
 f14 := ⟨ "slices.pdqsortCmpFunc[loop.example/g00203/impl.Contract]", by decide, by kernel_rfl⟩
 f15 := by kernel_rfl
 f20 := ⟨ "slices.insertionSortCmpFunc[loop.example/g00203/impl.Contract]", by decide, by kernel_rfl⟩
 f21 := ⟨ "slices.heapSortCmpFunc[loop.example/g00203/impl.Contract]", by decide, by kernel_rfl⟩
 f22 := ⟨ "slices.breakPatternsCmpFunc[loop.example/g00203/impl.Contract]", by decide, by kernel_rfl⟩
 f23 := ⟨ "slices.choosePivotCmpFunc[loop.example/g00203/impl.Contract]", by decide, by kernel_rfl⟩
 f24 := ⟨ "slices.reverseRangeCmpFunc[loop.example/g00203/impl.Contract]", by decide, by kernel_rfl⟩
 f25 := ⟨ "slices.partialInsertionSortCmpFunc[loop.example/g00203/impl.Contract]", by decide, by kernel_rfl⟩
 f26 := ⟨ "slices.partitionEqualCmpFunc[loop.example/g00203/impl.Contract]", by decide, by kernel_rfl⟩
 f27 := ⟨ "slices.partitionCmpFunc[loop.example/g00203/impl.Contract]", by decide, by kernel_rfl⟩
 f28 := by kernel_rfl
 f29 := by kernel_rfl
 f46 := ⟨ "slices.siftDownCmpFunc[loop.example/g00203/impl.Contract]", by decide, by kernel_rfl⟩
 f47 := by kernel_rfl
 f48 := by kernel_rfl
 f49 := ⟨ "slices.medianAdjacentCmpFunc[loop.example/g00203/impl.Contract]", by decide, by kernel_rfl⟩
 f50 := ⟨ "slices.medianCmpFunc[loop.example/g00203/impl.Contract]", by decide, by kernel_rfl⟩
 f57 := ⟨ "slices.order2CmpFunc[loop.example/g00203/impl.Contract]", by decide, by kernel_rfl⟩
 t0 := Tryz.underlying0
 a0 := Tryz.isAgg0
 z0 := Tryz.sizeOf0
 v0 := Tryz.zeroValue0
 t3 := Tryz.underlying3
 a3 := Tryz.isAgg3
 z3 := Tryz.sizeOf3
 v3 := Tryz.zeroValue3
 t4 := Tryz.underlying4
 a4 := Tryz.isAgg4
 z4 := Tryz.sizeOf4
 v4 := Tryz.zeroValue4
 t5 := Tryz.underlying5
 a5 := Tryz.isAgg5
 z5 := Tryz.sizeOf5
 v5 := Tryz.zeroValue5
 t9 := Tryz.underlying9
 a9 := Tryz.isAgg9
 z9 := Tryz.sizeOf9
 v9 := Tryz.zeroValue9
 t22 := Tryz.underlying34
 a22 := Tryz.isAgg34
 z22 := Tryz.sizeOf34
 v22 := Tryz.zeroValue34
 t25 := Tryz.underlying186
 a25 := Tryz.isAgg186
 z25 := Tryz.sizeOf186
 v25 := Tryz.zeroValue186
 t39 := Tryz.underlying275
 a39 := Tryz.isAgg275
 z39 := Tryz.sizeOf275
 v39 := Tryz.zeroValue275
 t45 := Tryz.underlying353
 a45 := Tryz.isAgg353
 z45 := Tryz.sizeOf353
 v45 := Tryz.zeroValue353
 t46 := Tryz.underlying354
 a46 := Tryz.isAgg354
 z46 := Tryz.sizeOf354
 v46 := Tryz.zeroValue354
 t50 := Tryz.underlying130
 a50 := Tryz.isAgg130
 z50 := Tryz.sizeOf130
 v50 := Tryz.zeroValue130
 t53 := Tryz.underlying360
 a53 := Tryz.isAgg360
 z53 := Tryz.sizeOf360
 v53 := Tryz.zeroValue360
 t55 := Tryz.underlying362
 a55 := Tryz.isAgg362
 z55 := Tryz.sizeOf362
 v55 := Tryz.zeroValue362
 t66 := Tryz.underlying406
 a66 := Tryz.isAgg406
 z66 := Tryz.sizeOf406
 v66 := Tryz.zeroValue406
 t70 := Tryz.underlying410
 a70 := Tryz.isAgg410
 z70 := Tryz.sizeOf410
 v70 := Tryz.zeroValue410
 t76 := Tryz.underlying442
 a76 := Tryz.isAgg442
 z76 := Tryz.sizeOf442
 v76 := Tryz.zeroValue442
 t77 := Tryz.underlying443
 a77 := Tryz.isAgg443
 z77 := Tryz.sizeOf443
 v77 := Tryz.zeroValue443
theorem z92 (a b : Int) (A B : Option Addr) (n m cn cm : Nat) (w : World) : Calls Tryz.prog 134 #[.agg #[.int .i64 a, .slice A n cn], .agg #[.int .i64 b, .slice B m cm]] w fun e w' => e = .returned (.int .i64 (z0c a b)) ∧ ∃ q os', w' = grow (w.drewN q) os' := by
 have mixed : Tryz.prog.follows .mixedOrders = true := by kernel_rfl
 refine calls_of_wp Tryz.func134 Y ?_; simp only [Tryz.ntmps134, List.size_toArray, List.length_cons, List.length_nil, Nat.reduceAdd, Nat.reduceSub, Array.replicate_succ, Array.replicate_zero, List.push_toArray, List.append_toArray, List.nil_append, List.cons_append]; unfold z0c
 go_wp2
 all_goals go_ret
 all_goals refine ⟨?_, 0, _, by rw [alloc_eq_grow, alloc_eq_grow, grow_grow]; rfl⟩
 all_goals first | rfl | (rw [if_pos (by omega)]; rfl) | (rw [if_neg (by omega), if_pos (by omega)]; rfl) | (rw [if_neg (by omega), if_neg (by omega)]; rfl)
theorem q8n (us : List Con) (hu : us.length ≤ 1048576) (hd : us.Pairwise fun a b => a.id ≠ b.id) (N : Nat → Prop) (S : Nat → Prop) (w : World) (v0 : Value) (hS : ∀ x, S x → x < w.heap.size) (h0 : z0e w (CN w N true) S 2 (us.map Con.cs) v0) :
 Calls Tryz.prog 133 #[v0, .func (.func 134) #[] #[]] w fun e w' => e = .returned (.tuple #[]) ∧ zt w w' S ∧ ∃ R : Nat → Prop, z0e w' (Go.Sx.Own w') R 2 ((y3m us).map Con.cs) v0 ∧ ∀ x, R x → S x ∧ x < w'.heap.size := by
 by_cases he : us = []
 · subst he
   obtain ⟨A, cap, rfl⟩ := h0.slice; refine (AnyF.slices_SortFunc_none qbc A cap _ w).mono ?_
   rintro e w' ⟨rfl, rfl⟩
   exact ⟨Y, zt.refl _ _, S, by rw [show y3m [] = [] from by simp [y3m]]; exact h0, fun x hx => ⟨hx, hS x hx⟩⟩
 rcases h0 with ⟨hn, _⟩ | ⟨e, xs, u, F, h⟩
 · exact absurd (by simpa using hn) he
 have ho := h.ho; have hl : (us.map Con.cs).length = us.length := by simp
 rw [hl] at ho; have hpos : 0 < us.length := List.length_pos_iff.2 he
 obtain ⟨g, cap, rfl⟩ : ∃ g cap, v0 = .slice (some ⟨g, 0, none⟩) us.length cap := by
  rcases ho.2 with ⟨_, h⟩ | ⟨g, cap, cur, h, _⟩
  · omega
  · exact ⟨g, cap, h⟩
 have hgS : S g := h.hS g rfl; have hrow : ∀ i : Fin us.length, (us.map Con.cs)[i.1]? = some (us[i.1]'i.2).cs := fun i => by simp
 have hid : ∀ i : Fin us.length, u i.1 0 = .int .i64 (us[i.1]'i.2).id := fun i => qbg (h.hr i.1 0 _ _ (hrow i) rfl)
 have hlg : ∀ i : Fin us.length, ∃ A n cn, u i.1 1 = .slice A n cn := fun i => by
  obtain ⟨sz, hs⟩ := z1b.1 (h.hr i.1 1 _ (.l ((us[i.1]'i.2).legs.map Leg.cs)) (hrow i) rfl); obtain ⟨A, cap, e⟩ := hs.slice; exact ⟨A, _, cap, e⟩
 let enc : Fin us.length → List Value := fun i => [u i.1 0, u i.1 1]
 have enc_len : ∀ i, (enc i).length = 2 := fun _ => rfl
 have enc_one : ∀ i, ∀ v ∈ enc i, v.oneCell' = true := fun i v hv => by
  simp only [enc, List.mem_cons, List.not_mem_nil, or_false] at hv; rcases hv with rfl | rfl
  · rw [hid]; rfl
  · obtain ⟨A, n, cn, e⟩ := hlg i; rw [e]; rfl
 have hfr : ∀ t (ht : t < us.length), (List.finRange us.length)[t]? = some ⟨t, ht⟩ := fun t ht => by simp [ht]
 have hx : xs = (List.finRange us.length).flatMap enc := by
  refine List.ext_getElem? fun t => ?_
  by_cases ht : t < us.length * 2
  · have et : t = t / 2 * 2 + t % 2 := by omega
    rw [et, h.hu (t / 2) (t % 2) (by omega) (by omega), z6l enc 2 enc_len (hfr (t / 2) (by omega)) (by omega)]; rcases Nat.mod_two_eq_zero_or_one t with e | e <;> rw [e] <;> rfl
  · rw [List.getElem?_eq_none (by have := ho.1; omega), List.getElem?_eq_none (by rw [y6l enc 2 enc_len]; simp; omega)]
 rw [hx] at ho
 haveI : Inhabited (Fin us.length) := ⟨⟨0, hpos⟩⟩
 have hfl : (List.finRange us.length).length = us.length := by simp
 obtain ⟨hH, hc1, hc2, hg⟩ := y83 enc 2 enc_len ho
 have hrun := AnyQ.slices_SortFunc_total qbc 2 Tryz.isAgg47 Tryz.sizeOf47 enc enc_len enc_one (fun x y : Fin us.length => z0c (us[x.1]'x.2).id (us[y.1]'y.2).id)
  ⟨fun x => by simp only [ltOf, decide_eq_false_iff_not, y2g]; omega, fun x y z h1 h2 => by simp only [ltOf, decide_eq_true_eq, y2g] at *; omega, fun x y z h1 h2 => by simp only [ltOf, decide_eq_false_iff_not, y2g] at *; omega⟩
  134 #[] g 0 cap (List.finRange us.length).toArray w (enters_of Tryz.func134 (by kernel_rfl) rfl)
  (fun m os dk hdk x y => by
    obtain ⟨A, n, cn, e1⟩ := hlg x; obtain ⟨B, m', cm, e2⟩ := hlg y; have := z92 (us[x.1]'x.2).id (us[y.1]'y.2).id A B n m' cn cm (sortWorldK enc 2 w g 0 m dk os); show Calls Tryz.prog 134 (#[.agg [u x.1 0, u x.1 1].toArray, .agg [u y.1 0, u y.1 1].toArray] ++ #[]) _ _; rw [hid, hid, e1, e2]
    exact this) hH hg (by simp; omega)
  (fun x y h1 h2 => by
    simp only [ltOf, decide_eq_false_iff_not, y2g] at h1 h2; rcases Nat.lt_trichotomy x.1 y.1 with hlt | hlt | hlt
    · exact absurd (by omega) (List.pairwise_iff_getElem.1 hd x.1 y.1 x.2 y.2 hlt)
    · exact Fin.ext hlt
    · exact absurd (by omega) (List.pairwise_iff_getElem.1 hd y.1 x.1 y.2 x.2 hlt))
 rw [List.size_toArray, hfl] at hrun; refine hrun.mono ?_
 rintro e' w' ⟨rfl, q, os, rfl⟩
 have hfm : (List.finRange us.length).map (fun i => us[i.1]'i.2) = us := by
  refine List.ext_getElem? fun t => ?_
  by_cases ht : t < us.length
  · rw [List.getElem?_map, hfr t ht, List.getElem?_eq_getElem ht]; rfl
  · rw [List.getElem?_eq_none (by simp; omega), List.getElem?_eq_none (by omega)]
 have hms : ((List.finRange us.length).toArray.toList.mergeSort fun x y => !(ltOf (fun x y : Fin us.length => z0c (us[x.1]'x.2).id (us[y.1]'y.2).id)) y x).map (fun i => us[i.1]'i.2) = y3m us := by
  unfold y3m; rw [List.map_mergeSort (s := fun a b : Con => decide (a.id ≤ b.id)) (f := fun i : Fin us.length => us[i.1]'i.2)]
  · rw [show (List.finRange us.length).toArray.toList = List.finRange us.length from rfl, hfm]
  · intro a _ b _
    simp only [ltOf, y2g]; by_cases h : (us[a.1]'a.2).id ≤ (us[b.1]'b.2).id
    · simp [h]
    · simp [h]; omega
 have hpm : ((List.finRange us.length).toArray.toList.mergeSort fun x y => !(ltOf (fun x y : Fin us.length => z0c (us[x.1]'x.2).id (us[y.1]'y.2).id)) y x).Perm (List.finRange us.length) := List.mergeSort_perm _ _; generalize ((List.finRange us.length).toArray.toList.mergeSort fun x y => !(ltOf (fun x y : Fin us.length => z0c (us[x.1]'x.2).id (us[y.1]'y.2).id)) y x) = ms at hms hpm; have hml : ms.length = us.length := by rw [hpm.length_eq, hfl]
 have hsl : (y3m us).length = us.length := by rw [← hms, List.length_map, hml]
 have hnd : ms.Nodup := hpm.nodup_iff.2 (List.nodup_finRange _); have hp := y8g enc 2 (q := q) (ys := ms) (zs := []) enc_len ho (by simpa using hml); rw [List.append_nil] at hp; have hsz : (putRowK enc 2 (Sort.ahead w q) g 0 ms.toArray).heap.size = w.heap.size := by simp [putRowK, Sort.putRow, Sort.mapBlock, Sort.ahead]
 have hsw : sortWorldK enc 2 w g 0 q ms.toArray os = grow (putRowK enc 2 (Sort.ahead w q) g 0 ms.toArray) os := rfl; rw [hsw]
 have hold : ∀ k, k < w.heap.size → k ≠ g → (grow (putRowK enc 2 (Sort.ahead w q) g 0 ms.toArray) os).heap[k]? = w.heap[k]? := fun k hk hne => by
  rw [Sort.heap_grow_old _ _ (by rw [hsz]; exact hk)]; simp [putRowK, Sort.putRow, Sort.mapBlock, Sort.ahead, Array.getElem?_modify, Ne.symm hne]
 have hgr : w.heap.size ≤ (grow (putRowK enc 2 (Sort.ahead w q) g 0 ms.toArray) os).heap.size := by rw [Sort.size_grow]; exact Nat.le_trans (Nat.le_of_eq hsz.symm) (Nat.le_add_right _ _)
 refine ⟨rfl, ⟨rfl, rfl, rfl, hgr, fun k hk hnk => hold k hk fun e => hnk (e ▸ hgS)⟩, S, .inr ⟨e, ms.flatMap enc, fun j k => ((ms[j]?).map fun i => u i.1 k).getD undef, fun j k x => ∃ i, ms[j]? = some i ∧ F i.1 k x, ?_⟩, fun x hx => ⟨hx, Nat.lt_of_lt_of_le (hS x hx) hgr⟩⟩
 have hat : ∀ {j : Nat} {row : List Cell}, ((y3m us).map Con.cs)[j]? = some row → ∃ i, ms[j]? = some i ∧ row = (us[i.1]'i.2).cs := fun {j row} hj => by
  rw [← hms, List.map_map, List.getElem?_map, Option.map_eq_some_iff] at hj; obtain ⟨i, h1, h2⟩ := hj; exact ⟨i, h1, h2.symm⟩
 refine ⟨?_, h.hS, fun row hr => ?_, fun j k x hx => ?_, fun j k j' k' x hx hx' => ?_, fun j k hj hk => ?_, fun j k row c hj hk => ?_⟩
 · rw [List.length_map, hsl]
   have hp' := q0c (w' := grow (putRowK enc 2 (Sort.ahead w q) g 0 ms.toArray) os) hp fun g' h => by
    cases h; exact Sort.heap_grow_old _ _ (by rw [hsz]; exact hg)
   rw [hml] at hp'; exact hp'
 · obtain ⟨m, _, rfl⟩ := List.mem_map.1 hr; rfl
 · obtain ⟨i, _, hF⟩ := hx; exact h.hF _ _ _ hF
 · obtain ⟨i, h1, h2⟩ := hx
   obtain ⟨i', h1', h2'⟩ := hx'; obtain ⟨e1, e2⟩ := h.hd _ _ _ _ _ h2 h2'; have e3 : i = i' := Fin.ext e1; subst e3; refine ⟨?_, e2⟩; obtain ⟨l1, f1⟩ := List.getElem?_eq_some_iff.1 h1; obtain ⟨l2, f2⟩ := List.getElem?_eq_some_iff.1 h1'; exact (List.getElem_inj hnd).1 (f1.trans f2.symm)
 · have hj : j < ms.length := by rw [List.length_map, hsl, ← hml] at hj; exact hj
   rw [z6l enc 2 enc_len (List.getElem?_eq_getElem hj) hk, List.getElem?_eq_getElem hj]; rcases (by omega : k = 0 ∨ k = 1) with rfl | rfl <;> rfl
 · obtain ⟨i, h1, rfl⟩ := hat hj
   simp only [h1, Option.map_some, Option.getD_some]; refine ((h.hr i.1 k _ c (hrow i) hk).frame fun x hx => ?_).mono fun x hx => ⟨i, Y, hx⟩
   have := h.hF _ _ _ hx; exact hold x (hS x this.1) fun e => this.2 (by rw [e]; rfl)
theorem q9j (us : List Con) (hu : us.length ≤ 1048576) (hd : us.Pairwise fun a b => a.id ≠ b.id) : PG Tryz.prog 133 [.one (.giv true 2 (us.map Con.cs)), .one (.bor (.f 134 []))] (.tup []) [(0, (y3m us).map Con.cs)] := by
 refine ⟨by kernel_rfl, fun N S w vals hS hSd hsh hc => ?_⟩
 obtain ⟨v0, v1, rfl⟩ : ∃ v0 v1, vals = #[v0, v1] := by
  match vals, hsh with
  | ⟨[v0, v1]⟩, _ => exact ⟨v0, v1, rfl⟩
 obtain ⟨sz, hz, h0⟩ := hc 0 _ v0 rfl rfl; obtain rfl := hz (by decide); have h1 : Rep w N (.f 134 []) v1 := hc 1 _ v1 rfl rfl
 obtain rfl : v1 = .func (.func 134) #[] #[] := by
  cases h1 with
  | f _ _ us hs hr =>
    have : us = #[] := Array.eq_empty_of_size_eq_zero (by simpa using hs); rw [this]
 refine (q8n us hu hd N (S 0) w v0 (fun x hx => (hS 0 x hx).1) h0).mono ?_
 rintro e w' ⟨rfl, hk, R, hsl, hv⟩
 refine ⟨_, fun _ => False, fun t x => t = 0 ∧ R x, Y, hk.mono fun _ _ h => ⟨0, h⟩, ⟨#[], fun _ _ => False, Y, Y, fun _ _ h => h, fun _ _ _ h => h.elim, fun i rc u h => by simp at h⟩, fun x hx => hx.elim, fun t x hx => ⟨.inr ⟨0, (hv x hx.2).1⟩, (hv x hx.2).2⟩, fun t t' x h h' => by rw [h.1, h'.1], fun t rows' hb full sz rows u hg hu => ?_⟩
 cases t with
 | succ t => cases hb
 | zero =>
   cases hb; cases hg; cases hu; refine ⟨by simp [y3m], fun i row row' h1 h2 => ?_, 2, fun _ => Y, z0e.imp hsl (fun _ h => ⟨Y, h⟩) (fun _ _ _ => Y) (fun _ _ _ _ h => h)⟩; obtain ⟨_, _, rfl⟩ := List.mem_map.1 (List.mem_of_getElem? h1); obtain ⟨_, _, rfl⟩ := List.mem_map.1 (List.mem_of_getElem? h2); rfl
end Go.Proofs.YtjdiongbbijdpaaGreat
end
section
namespace Go.Proofs.YtjdiongbbijdpaaGreat
open Go Go.Sx
set_option maxRecDepth 20000
set_option maxHeartbeats 4000000
open Go.Proofs Go.Shelf Go.RowKit Go.Lib
def ycj : Ren := ⟨fun _ => 240, fun t => bif Nat.beq t 3 then 3 else bif Nat.beq t 4 then 4 else bif Nat.beq t 22 then 86 else bif Nat.beq t 23 then 2 else 0, fun x => x⟩
theorem yaj : SlLaysN.n43 Tryz.prog ycj where
 mixed := by kernel_rfl
 f43 := ⟨ "slices.Compact[[]int64,int64]", by decide, by kernel_rfl⟩
 t0 := Tryz.underlying0
 a0 := Tryz.isAgg0
 z0 := Tryz.sizeOf0
 v0 := Tryz.zeroValue0
 t3 := Tryz.underlying3
 a3 := Tryz.isAgg3
 z3 := Tryz.sizeOf3
 v3 := Tryz.zeroValue3
 t4 := Tryz.underlying4
 a4 := Tryz.isAgg4
 z4 := Tryz.sizeOf4
 v4 := Tryz.zeroValue4
 t22 := Tryz.underlying86
 a22 := Tryz.isAgg86
 z22 := Tryz.sizeOf86
 v22 := Tryz.zeroValue86
 t23 := Tryz.underlying2
 a23 := Tryz.isAgg2
 z23 := Tryz.sizeOf2
 v23 := Tryz.zeroValue2
 i23 := by kernel_rfl
theorem q5r (N : Nat → Prop) (S : Nat → Prop) (us : List Int) (w : World) (v0 : Value) (hu : us.length ≤ 1048576) (hS : ∀ x, S x → x < w.heap.size) (h0 : z0e w (CN w N true) S 1 (ints us) v0) :
 Calls Tryz.prog 240 #[v0] w fun e w' => ∃ (v' : Value) (R : Nat → Prop), e = .returned v' ∧ zt w w' S ∧ z0e w' (Go.Sx.Own w') R 1 (ints (compact us)) v' ∧ ∀ x, R x → S x ∧ x < w'.heap.size := by
 rcases y5h h0 with ⟨rfl, A, rfl⟩ | ⟨e, ho, hSo⟩
 · refine (AnyG.slices_Compact_int_empty yaj A 0 w).mono ?_
   rintro e w' ⟨rfl, rfl⟩
   exact ⟨_, fun _ => False, Y, zt.refl _ _, .inl ⟨Y, A, Y⟩, fun x hx => hx.elim⟩
 · by_cases hn : v0 = .slice none 0 0
   · have hl : us.length = 0 := by
      rcases ho.2 with ⟨_, h⟩ | ⟨g, cap, cur, h, _⟩
      · exact h
      · rw [hn] at h; cases h
     have : us = [] := List.eq_nil_of_length_eq_zero hl; subst this; subst hn; refine (AnyG.slices_Compact_int_empty yaj none 0 w).mono ?_
     rintro e w' ⟨rfl, rfl⟩
     exact ⟨_, fun _ => False, Y, zt.refl _ _, .inl ⟨Y, none, Y⟩, fun x hx => hx.elim⟩
   · obtain ⟨g, cap, rfl, hb, hg, hc1, hc2, hzl, hH⟩ := holds_of_ownsRow ho hn
     refine (AnyG.slices_Compact_int yaj g 0 cap us w hH (by omega) hc1).mono ?_
     rintro e' w' ⟨rfl, q, rfl⟩
     have hcl := q6z us; have hgS := hSo g rfl; have hp := ownsRow_putRow (q := q) (k := (compact us).length) (ys := compact us ++ List.replicate (us.length - (compact us).length) 0) ho (by simp; omega) hcl; rw [List.take_left' rfl] at hp; refine ⟨_, fun x => x = g, Y, ⟨Y, Y, Y, by simp [Sort.putRow, Sort.mapBlock, Sort.ahead], fun k hk hnk => ?_⟩, y6r hp (fun g' h => by cases h; rfl), fun x hx => ?_⟩
     · simp [Sort.putRow, Sort.mapBlock, Sort.ahead, Array.getElem?_modify, show g ≠ k from fun h => hnk (h ▸ hgS)]
     · cases hx
       exact ⟨hgS, by simpa [Sort.putRow, Sort.mapBlock, Sort.ahead] using hg⟩
theorem y70 (us : List Int) (hu : us.length ≤ 1048576) : PG Tryz.prog 240 [.one (.giv true 1 (ints us))] (.one (.own false [.l 1 (ints (compact us))])) [] := by
 refine ⟨by kernel_rfl, fun N S w vals hS hSd hsh hc => ?_⟩
 obtain ⟨v0, rfl⟩ : ∃ v0, vals = #[v0] := by
  match vals, hsh with
  | ⟨[v0]⟩, _ => exact ⟨v0, rfl⟩
 obtain ⟨sz, hz, h0⟩ := hc 0 _ v0 rfl rfl; obtain rfl := hz (by decide); refine (q5r N (S 0) us w v0 hu (fun x hx => (hS 0 x hx).1) h0).mono ?_
 rintro e w' ⟨v', R, rfl, hk, hsl, hv⟩
 refine ⟨v', R, fun _ _ => False, Y, hk.mono fun _ _ h => ⟨0, h⟩, ⟨#[v'], fun k x => k = 0 ∧ R x, Y, Y, fun k x hx => hx.2, fun k k' x hx hx' => by rw [hx.1, hx'.1], fun k c u hc hu => ?_⟩, fun x hx => ⟨.inr ⟨0, (hv x hx).1⟩, (hv x hx).2, fun _ h => h⟩, fun _ _ h => h.elim, fun _ _ _ h => h.elim, fun t rows' hb => by cases hb⟩
 cases k with
 | succ k => simp at hc
 | zero =>
   cases hc; cases hu; exact ⟨1, fun _ => Y, z0e.imp hsl (fun _ h => ⟨Y, h⟩) (fun _ _ _ => Y) (fun _ _ _ _ h => h)⟩
end Go.Proofs.YtjdiongbbijdpaaGreat
end
section
namespace Go.Proofs.YtjdiongbbijdpaaGreat
open Go Go.Sx
set_option maxRecDepth 20000
set_option maxHeartbeats 4000000
open Go.Lib (compact)
def shN (x : Con) (i : Nat) : List Int := (x.legs.take i).map Leg.s
theorem y9i {x : Con} {i : Nat} {l : Leg} (h : x.legs[i]? = some l) : shN x (i + 1) = shN x i ++ [l.s] := by
 unfold shN; rw [List.take_add_one, h]; simp
theorem q67 (x : Con) (i : Nat) : (shN x i).length ≤ i := by unfold shN; simp; omega
theorem y68 (x : Con) (hl : x.legs.length < 65536) : PC Tryz.prog 136 [.agg x.cs] (.one (.own false [.l 1 (ints (shF x.legs))])) := by
 refine PC.begin Tryz.func136 Y (by kernel_rfl) ?_; have hle : (x.legs.map Leg.cs).length = x.legs.length := by simp
 refine xs Y trivial ?_; refine qc Y (ι := Nat) (fun i => i ≤ x.legs.length) (fun i => ⟨[(10, sV (.int .i64 i)), (3, .one (.h 6 (shN x i).length)), (1, .one (.a 1 0)), (8, .one (.b (.l (x.legs.map Leg.cs)))), (9, sV (.int .i64 (x.legs.map Leg.cs).length))], [(6, .arr true 1 0 (ints (shN x i))), (1, .var (x.cs.map .b))]⟩) (fun i => x.legs.length - i) 0 (Nat.zero_le _) ?_ ?_
 · exact ⟨⟨Y, I, I, Y, Y, trivial⟩, ⟨U, lcr, trivial⟩, Y⟩
 · intro i hi J hJ
   refine xb Y ?_ ?_ <;> intro h
   · have h : i < x.legs.length := by simpa using h
     obtain ⟨l, hx⟩ := gx h; have hg := gm Leg.cs hx; have hf := y9i hx; have hfl := q67 x i; refine xs Y (by simp) (y9 Y _ hg (xs Y Y (xs Y ⟨trivial, trivial⟩ (xs Y (by simp) (xs Y Y (xs Y (.inl Y) (xs Y (by simp; omega) (xs Y (by simp; omega) ?_)))))))); exact q9 Y (hJ _ (i + 1) (by omega) (by omega) ⟨⟨cwi (by omega) (by omega) (by omega), ⟨Y, by rw [hf]; simp, Y⟩, I, Y, Y, trivial⟩, ⟨⟨by rw [hf]; simp, .inl Y, .inl Y⟩, lcr, trivial⟩, Y⟩)
   · have h : i = x.legs.length := by have : ¬ i < x.legs.length := (by simpa using h); omega
     subst h; have hs := z6t (shN x x.legs.length) (by have := q67 x x.legs.length; omega); have hms : (z0o (shN x x.legs.length)).length = (shN x x.legs.length).length := (List.mergeSort_perm _ _).length_eq; have hc := y70 (z0o (shN x x.legs.length)) (by have := q67 x x.legs.length; omega); have he : compact (z0o (shN x x.legs.length)) = shF x.legs := by unfold shN; rw [List.take_length]; exact ybj x.legs
     rw [he] at hc; refine z0k Y (hs) ⟨⟨Y, Y, Y, (by first | omega | (simp only [ai_len]; omega) | simp_all)⟩, trivial⟩ Y (z0k Y (hc) ⟨⟨Y, Y, Y, (by first | omega | (simp only [ai_len]; omega) | simp_all)⟩, trivial⟩ Y ?_); refine xr Y (zm Y ⟨⟨Y, ⟨Y, Y, .inl Y⟩, trivial⟩, z6 Y⟩)
end Go.Proofs.YtjdiongbbijdpaaGreat
end
