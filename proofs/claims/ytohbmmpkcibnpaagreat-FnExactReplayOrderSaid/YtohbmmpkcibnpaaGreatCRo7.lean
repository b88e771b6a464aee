/- WHAT IS PROVED: parts of the proof of fnExactReplayOrder_holds: a frame for walks, what each Go function that it reaches answers, and plain lemmas; no condition beyond those that each theorem names. -/
import Derived.Test.YtohbmmpkcibnpaaGreatCRo6
import Derived.WalkKit
import Derived.OrdersHeld
import Derived.DeepKeys
import Derived.Maps.RangeWalk
import Derived.Maps.OwnOps
import Derived.WideKeyEntry
import Derived.Deep.Slices
import Derived.ChangeArms
import Derived.WideShapes
import Derived.Sort.AssemblyPlain
import Derived.Lib.SlicesCompact
import Derived.WideKeyPair
import Derived.Test.YtohbmmpkcibnpaaGreatProg
import Derived.Shelf.SortG.Plain
import Derived.Shelf.SortG.SortNone
import Derived.Shelf.SlicesG.CompactI
import Derived.Lib.OwnBridge
import Derived.RangeFuncGives
import Derived.RangeFuncBox
import Derived.RangeFuncLeaves
import Derived.Shelf.Abstract
import Derived.Maps.AppendAt
import Derived.OwnWalkIn
import Derived.TacticsInMore
import Derived.LoopNIn
import Derived.LoopIn
import Derived.Shelf.SlicesG.Delete
import Derived.Shelf.SlicesQ.Reverse
import Derived.Shelf.SlicesE.Kit
import Derived.Shelf.Spec.SlicesInsertGrow
set_option linter.unusedVariables false
set_option linter.unusedSimpArgs false
section
namespace Go.Proofs.YtohbmmpkcibnpaaGreat
open Go Go.Sx
set_option maxRecDepth 20000
theorem z91 (rr : List (List Cell)) (b : Int) (hw : WR 9223372036854775807 y02 rr) (p0 : 0 ≤ b) (p1 : b ≤ 1048576) : PC Tryz.prog 113 [.one (.l rr), .one (.s (.int .i64 b))] (rI (szn b (ql y02 rr))) := by
 refine PC.begin Tryz.func113 rfl (by kernel_rfl) ?_
 have hlen := hw.1
 have w1 : IntKind.i64.wrap (b - rr.length) = b - rr.length := wrap_i64 (by omega) (by omega)
 rw [q0v (fun row hr => by obtain ⟨x0, x1, x2, x3, rfl⟩ := y2o hr; rfl) hw]
 refine xb rfl ?_ ?_ <;> intro h
 · simp only [w1, decide_eq_true_eq] at h
   exact xv rfl rfl rfl (by show Value.int _ _ = Value.int _ _; rw [szn, if_pos h])
 · simp only [w1, decide_eq_false_iff_not] at h
   exact xv rfl rfl rfl (by show Value.int .i64 (IntKind.i64.wrap (b - rr.length)) = Value.int _ _; rw [szn, if_neg h, w1])
theorem z56 (x0 : Int) (x1 : List (List Cell)) (b : Int) (h1 : WR 9223372036854775807 y02 x1) (hb0 : 0 ≤ b) (hb1 : b ≤ 1048576) : PC Tryz.prog 36 [.agg [.s (.int .i64 x0), .l x1], .one (.s (.int .i64 b))] (rI (szn b (tot z8 [.s (.int .i64 x0), .l x1]))) := by
 refine PC.begin Tryz.func36 rfl (by kernel_rfl) ?_
 have ht : tot z8 [.s (.int .i64 x0), .l x1] = ql y02 x1 := by simp only [tot, ql] <;> omega
 refine z7 rfl (z91 x1 b h1 hb0 hb1) rfl tv3 ?_
 refine xb rfl (fun h => ?_) (fun e0 => ?_)
 · have h : szn b (ql y02 x1) < 0 := by simpa using h
   exact xv rfl rfl rfl (by show Value.int _ _ = Value.int _ _; congr 1; rw [ht]; unfold szn at *; split at h <;> rw [if_pos] <;> omega)
 have e0 : 0 ≤ szn b (ql y02 x1) := by simpa using e0
 exact xv rfl rfl rfl (by show Value.int _ _ = Value.int _ _; rw [ht])
theorem z1x (rr : List (List Cell)) (b : Int) (hw : WR 9223372036854775807 z8 rr) (p0 : 0 ≤ b) (p1 : b ≤ 1048576) : PC Tryz.prog 47 [.one (.l rr), .one (.s (.int .i64 b))] (rI (szn b (ql z8 rr))) := by
 refine PC.begin Tryz.func47 rfl (by kernel_rfl) ?_
 have hlen := hw.1
 have w1 : IntKind.i64.wrap (b - rr.length) = b - rr.length := wrap_i64 (by omega) (by omega)
 refine xb rfl ?_ ?_ <;> intro h
 · simp only [w1, decide_eq_true_eq] at h
   exact xv rfl rfl rfl (by show Value.int _ _ = Value.int _ _; unfold szn ql; rw [if_pos (by omega)])
 simp only [w1, decide_eq_false_iff_not] at h
 have hs : szn b rr.length = b - rr.length := by unfold szn; rw [if_neg h]
 refine qb rfl (ι := Nat) (fun i => i ≤ rr.length ∧ 0 ≤ szn b (rr.length + q01 (tot z8) (rr.take i))) (fun i => ⟨[(5, sV (.int .i64 i)), (1, sV (.int .i64 (szn b (rr.length + q01 (tot z8) (rr.take i))))), (0, .one (.b (.l rr)))], []⟩) (fun i => rr.length - i) 0 ⟨Nat.zero_le _, by simp only [List.take_zero, q01, Nat.add_zero, hs]; omega⟩ ?_ ?_
 · refine ⟨⟨rfl, ?_, rfl, trivial⟩, trivial, rfl⟩
   show Cell.s (.int .i64 (IntKind.i64.wrap (b - rr.length))) = Cell.s (.int .i64 (szn b (rr.length + 0)))
   rw [w1, Nat.add_zero, hs]
 · intro i ⟨hi, hb⟩ J hJ
   refine xb rfl ?_ ?_ <;> intro h
   · have h : i < rr.length := by simpa using h
     obtain ⟨row, hg⟩ := gx h
     have hc := q0r (f := tot z8) hg
     have hc2 := z0i (tot z8) rr (i + 1)
     obtain ⟨x0, x1, rfl, h1⟩ := z0c (hw.2 row (List.mem_of_getElem? hg))
     refine xs rfl (nn_ _) (y9 rfl _ hg (xs rfl rfl ?_))
     refine z7 rfl (z56 _ _ _ h1 hb (q0m p1 p0)) rfl ⟨tv3, trivial, trivial⟩ ?_
     refine xb rfl ?_ ?_ <;> intro hn
     · have hn : szn (szn b (rr.length + q01 (tot z8) (rr.take i))) (tot z8 [.s (.int .i64 x0), .l x1]) < 0 := by simpa using hn
       rw [zj hb] at hn
       exact xv rfl rfl rfl (by show Value.int _ _ = Value.int _ _; congr 1; unfold szn ql at *; split at hn <;> rw [if_pos] <;> omega)
     · have hn : ¬ szn (szn b (rr.length + q01 (tot z8) (rr.take i))) (tot z8 [.s (.int .i64 x0), .l x1]) < 0 := by simpa using hn
       have he := zj (n := tot z8 [.s (.int .i64 x0), .l x1]) hb
       rw [he] at hn
       rw [Nat.add_assoc, ← hc] at he hn
       refine q9 rfl (hJ _ (i + 1) ⟨by omega, by omega⟩ (by omega) ?_)
       refine ⟨⟨cwi (by omega) (by omega) (by omega), ?_, rfl, trivial⟩, trivial, rfl⟩
       exact congrArg (fun n => Cell.s (.int .i64 n)) he
   · have h : ¬ i < rr.length := by simpa using h
     have : i = rr.length := by omega
     subst this
     exact xv rfl rfl rfl (by show Value.int _ _ = Value.int _ _; rw [List.take_length]; rfl)
theorem q2j (rr : List (List Cell)) (b : Int) (hw : WR 9223372036854775807 q7 rr) (p0 : 0 ≤ b) (p1 : b ≤ 1048576) : PC Tryz.prog 184 [.one (.l rr), .one (.s (.int .i64 b))] (rI (szn b (ql q7 rr))) := by
 refine PC.begin Tryz.func184 rfl (by kernel_rfl) ?_
 have hlen := hw.1
 have w1 : IntKind.i64.wrap (b - rr.length) = b - rr.length := wrap_i64 (by omega) (by omega)
 rw [q0v (fun row hr => by obtain ⟨x0, x1, x2, rfl⟩ := z0a hr; rfl) hw]
 refine xb rfl ?_ ?_ <;> intro h
 · simp only [w1, decide_eq_true_eq] at h
   exact xv rfl rfl rfl (by show Value.int _ _ = Value.int _ _; rw [szn, if_pos h])
 · simp only [w1, decide_eq_false_iff_not] at h
   exact xv rfl rfl rfl (by show Value.int .i64 (IntKind.i64.wrap (b - rr.length)) = Value.int _ _; rw [szn, if_neg h, w1])
theorem y4f (rr : List (List Cell)) (b : Int) (hw : WR 9223372036854775807 zi rr) (p0 : 0 ≤ b) (p1 : b ≤ 1048576) : PC Tryz.prog 226 [.one (.l rr), .one (.s (.int .i64 b))] (rI (szn b (ql zi rr))) := by
 refine PC.begin Tryz.func226 rfl (by kernel_rfl) ?_
 have hlen := hw.1
 have w1 : IntKind.i64.wrap (b - rr.length) = b - rr.length := wrap_i64 (by omega) (by omega)
 rw [q0v (fun row hr => by obtain ⟨x0, x1, rfl⟩ := y1p hr; rfl) hw]
 refine xb rfl ?_ ?_ <;> intro h
 · simp only [w1, decide_eq_true_eq] at h
   exact xv rfl rfl rfl (by show Value.int _ _ = Value.int _ _; rw [szn, if_pos h])
 · simp only [w1, decide_eq_false_iff_not] at h
   exact xv rfl rfl rfl (by show Value.int .i64 (IntKind.i64.wrap (b - rr.length)) = Value.int _ _; rw [szn, if_neg h, w1])
theorem z3t (rr : List (List Cell)) (b : Int) (hw : WR 9223372036854775807 (.i .i64 .nil) rr) (p0 : 0 ≤ b) (p1 : b ≤ 1048576) : PC Tryz.prog 169 [.one (.l rr), .one (.s (.int .i64 b))] (rI (szn b (ql (.i .i64 .nil) rr))) := by
 refine PC.begin Tryz.func169 rfl (by kernel_rfl) ?_
 have hlen := hw.1
 have w1 : IntKind.i64.wrap (b - rr.length) = b - rr.length := wrap_i64 (by omega) (by omega)
 rw [q0v (fun row hr => by obtain ⟨x0, _, rfl, hnil⟩ := (hr).zz; obtain rfl := hnil.qr; rfl) hw]
 refine xb rfl ?_ ?_ <;> intro h
 · simp only [w1, decide_eq_true_eq] at h
   exact xv rfl rfl rfl (by show Value.int _ _ = Value.int _ _; rw [szn, if_pos h])
 · simp only [w1, decide_eq_false_iff_not] at h
   exact xv rfl rfl rfl (by show Value.int .i64 (IntKind.i64.wrap (b - rr.length)) = Value.int _ _; rw [szn, if_neg h, w1])
theorem z7p (x0 : Int) (x1 : List (List Cell)) (x2 : List (List Cell)) (x3 : List (List Cell)) (x4 : List (List Cell)) (x5 : List (List Cell)) (b : Int) (h1 : WR 9223372036854775807 q7 x1) (h2 : WR 9223372036854775807 zi x2) (h3 : WR 9223372036854775807 z8 x3) (h4 : WR 9223372036854775807 zi x4) (h5 : WR 9223372036854775807 (.i .i64 .nil) x5) (hb0 : 0 ≤ b) (hb1 : b ≤ 1048576) : PC Tryz.prog 128 [.agg [.s (.int .i64 x0), .l x1, .l x2, .l x3, .l x4, .l x5], .one (.s (.int .i64 b))] (rI (szn b (tot zg [.s (.int .i64 x0), .l x1, .l x2, .l x3, .l x4, .l x5]))) := by
 refine PC.begin Tryz.func128 rfl (by kernel_rfl) ?_
 have ht : tot zg [.s (.int .i64 x0), .l x1, .l x2, .l x3, .l x4, .l x5] = ql q7 x1 + ql zi x2 + ql z8 x3 + ql zi x4 + ql (.i .i64 .nil) x5 := by simp only [tot, ql] <;> omega
 refine z7 rfl (q2j x1 b h1 hb0 hb1) rfl tv3 ?_
 refine xb rfl (fun h => ?_) (fun e0 => ?_)
 · have h : szn b (ql q7 x1) < 0 := by simpa using h
   exact xv rfl rfl rfl (by show Value.int _ _ = Value.int _ _; congr 1; rw [ht]; unfold szn at *; split at h <;> rw [if_pos] <;> omega)
 have e0 : 0 ≤ szn b (ql q7 x1) := by simpa using e0
 refine z7 rfl (y4f x2 (szn b (ql q7 x1)) h2 e0 (q0m hb1 hb0)) rfl tv3 ?_
 refine xb rfl (fun h => ?_) (fun e1 => ?_)
 · have h : szn (szn b (ql q7 x1)) (ql zi x2) < 0 := by simpa using h
   rw [zj e0] at h
   exact xv rfl rfl rfl (by show Value.int _ _ = Value.int _ _; congr 1; rw [ht]; unfold szn at *; split at h <;> rw [if_pos] <;> omega)
 have e1 : 0 ≤ szn b (ql q7 x1 + ql zi x2) := by rw [← zj e0]; simpa using e1
 rw [zj e0]
 refine z7 rfl (z1x x3 (szn b (ql q7 x1 + ql zi x2)) h3 e1 (q0m hb1 hb0)) rfl tv3 ?_
 refine xb rfl (fun h => ?_) (fun e2 => ?_)
 · have h : szn (szn b (ql q7 x1 + ql zi x2)) (ql z8 x3) < 0 := by simpa using h
   rw [zj e1] at h
   exact xv rfl rfl rfl (by show Value.int _ _ = Value.int _ _; congr 1; rw [ht]; unfold szn at *; split at h <;> rw [if_pos] <;> omega)
 have e2 : 0 ≤ szn b (ql q7 x1 + ql zi x2 + ql z8 x3) := by rw [← zj e1]; simpa using e2
 rw [zj e1]
 refine z7 rfl (y4f x4 (szn b (ql q7 x1 + ql zi x2 + ql z8 x3)) h4 e2 (q0m hb1 hb0)) rfl tv3 ?_
 refine xb rfl (fun h => ?_) (fun e3 => ?_)
 · have h : szn (szn b (ql q7 x1 + ql zi x2 + ql z8 x3)) (ql zi x4) < 0 := by simpa using h
   rw [zj e2] at h
   exact xv rfl rfl rfl (by show Value.int _ _ = Value.int _ _; congr 1; rw [ht]; unfold szn at *; split at h <;> rw [if_pos] <;> omega)
 have e3 : 0 ≤ szn b (ql q7 x1 + ql zi x2 + ql z8 x3 + ql zi x4) := by rw [← zj e2]; simpa using e3
 rw [zj e2]
 refine z7 rfl (z3t x5 (szn b (ql q7 x1 + ql zi x2 + ql z8 x3 + ql zi x4)) h5 e3 (q0m hb1 hb0)) rfl tv3 ?_
 refine xb rfl (fun h => ?_) (fun e4 => ?_)
 · have h : szn (szn b (ql q7 x1 + ql zi x2 + ql z8 x3 + ql zi x4)) (ql (.i .i64 .nil) x5) < 0 := by simpa using h
   rw [zj e3] at h
   exact xv rfl rfl rfl (by show Value.int _ _ = Value.int _ _; congr 1; rw [ht]; unfold szn at *; split at h <;> rw [if_pos] <;> omega)
 have e4 : 0 ≤ szn b (ql q7 x1 + ql zi x2 + ql z8 x3 + ql zi x4 + ql (.i .i64 .nil) x5) := by rw [← zj e3]; simpa using e4
 rw [zj e3]
 exact xv rfl rfl rfl (by show Value.int _ _ = Value.int _ _; rw [ht])
theorem y6k (rr : List (List Cell)) (b : Int) (hw : WR 9223372036854775807 zg rr) (p0 : 0 ≤ b) (p1 : b ≤ 1048576) : PC Tryz.prog 48 [.one (.l rr), .one (.s (.int .i64 b))] (rI (szn b (ql zg rr))) := by
 refine PC.begin Tryz.func48 rfl (by kernel_rfl) ?_
 have hlen := hw.1
 have w1 : IntKind.i64.wrap (b - rr.length) = b - rr.length := wrap_i64 (by omega) (by omega)
 refine xb rfl ?_ ?_ <;> intro h
 · simp only [w1, decide_eq_true_eq] at h
   exact xv rfl rfl rfl (by show Value.int _ _ = Value.int _ _; unfold szn ql; rw [if_pos (by omega)])
 simp only [w1, decide_eq_false_iff_not] at h
 have hs : szn b rr.length = b - rr.length := by unfold szn; rw [if_neg h]
 refine qb rfl (ι := Nat) (fun i => i ≤ rr.length ∧ 0 ≤ szn b (rr.length + q01 (tot zg) (rr.take i))) (fun i => ⟨[(5, sV (.int .i64 i)), (1, sV (.int .i64 (szn b (rr.length + q01 (tot zg) (rr.take i))))), (0, .one (.b (.l rr)))], []⟩) (fun i => rr.length - i) 0 ⟨Nat.zero_le _, by simp only [List.take_zero, q01, Nat.add_zero, hs]; omega⟩ ?_ ?_
 · refine ⟨⟨rfl, ?_, rfl, trivial⟩, trivial, rfl⟩
   show Cell.s (.int .i64 (IntKind.i64.wrap (b - rr.length))) = Cell.s (.int .i64 (szn b (rr.length + 0)))
   rw [w1, Nat.add_zero, hs]
 · intro i ⟨hi, hb⟩ J hJ
   refine xb rfl ?_ ?_ <;> intro h
   · have h : i < rr.length := by simpa using h
     obtain ⟨row, hg⟩ := gx h
     have hc := q0r (f := tot zg) hg
     have hc2 := z0i (tot zg) rr (i + 1)
     obtain ⟨x0, x1, x2, x3, x4, x5, rfl, h1, h2, h3, h4, h5⟩ := z15 (hw.2 row (List.mem_of_getElem? hg))
     refine xs rfl (nn_ _) (y9 rfl _ hg (xs rfl rfl ?_))
     refine z7 rfl (z7p _ _ _ _ _ _ _ h1 h2 h3 h4 h5 hb (q0m p1 p0)) rfl ⟨tv7, trivial, trivial⟩ ?_
     refine xb rfl ?_ ?_ <;> intro hn
     · have hn : szn (szn b (rr.length + q01 (tot zg) (rr.take i))) (tot zg [.s (.int .i64 x0), .l x1, .l x2, .l x3, .l x4, .l x5]) < 0 := by simpa using hn
       rw [zj hb] at hn
       exact xv rfl rfl rfl (by show Value.int _ _ = Value.int _ _; congr 1; unfold szn ql at *; split at hn <;> rw [if_pos] <;> omega)
     · have hn : ¬ szn (szn b (rr.length + q01 (tot zg) (rr.take i))) (tot zg [.s (.int .i64 x0), .l x1, .l x2, .l x3, .l x4, .l x5]) < 0 := by simpa using hn
       have he := zj (n := tot zg [.s (.int .i64 x0), .l x1, .l x2, .l x3, .l x4, .l x5]) hb
       rw [he] at hn
       rw [Nat.add_assoc, ← hc] at he hn
       refine q9 rfl (hJ _ (i + 1) ⟨by omega, by omega⟩ (by omega) ?_)
       refine ⟨⟨cwi (by omega) (by omega) (by omega), ?_, rfl, trivial⟩, trivial, rfl⟩
       exact congrArg (fun n => Cell.s (.int .i64 n)) he
   · have h : ¬ i < rr.length := by simpa using h
     have : i = rr.length := by omega
     subst this
     exact xv rfl rfl rfl (by show Value.int _ _ = Value.int _ _; rw [List.take_length]; rfl)
theorem q4f (rr : List (List Cell)) (b : Int) (hw : WR 9223372036854775807 zo rr) (p0 : 0 ≤ b) (p1 : b ≤ 1048576) : PC Tryz.prog 411 [.one (.l rr), .one (.s (.int .i64 b))] (rI (szn b (ql zo rr))) := by
 refine PC.begin Tryz.func411 rfl (by kernel_rfl) ?_
 have hlen := hw.1
 have w1 : IntKind.i64.wrap (b - rr.length) = b - rr.length := wrap_i64 (by omega) (by omega)
 rw [q0v (fun row hr => by obtain ⟨x0, x1, rfl⟩ := z1q hr; rfl) hw]
 refine xb rfl ?_ ?_ <;> intro h
 · simp only [w1, decide_eq_true_eq] at h
   exact xv rfl rfl rfl (by show Value.int _ _ = Value.int _ _; rw [szn, if_pos h])
 · simp only [w1, decide_eq_false_iff_not] at h
   exact xv rfl rfl rfl (by show Value.int .i64 (IntKind.i64.wrap (b - rr.length)) = Value.int _ _; rw [szn, if_neg h, w1])
theorem y91 (x0 : Int) (x1 : Int) (x2 : Int) (x3 : Int) (x4 : Int) (x5 : List (List Cell)) (b : Int) (h5 : WR 9223372036854775807 zo x5) (hb0 : 0 ≤ b) (hb1 : b ≤ 1048576) : PC Tryz.prog 323 [.agg [.s (.int .i64 x0), .s (.int .i64 x1), .s (.int .i64 x2), .s (.int .i64 x3), .s (.int .i64 x4), .l x5], .one (.s (.int .i64 b))] (rI (szn b (tot zn [.s (.int .i64 x0), .s (.int .i64 x1), .s (.int .i64 x2), .s (.int .i64 x3), .s (.int .i64 x4), .l x5]))) := by
 refine PC.begin Tryz.func323 rfl (by kernel_rfl) ?_
 have ht : tot zn [.s (.int .i64 x0), .s (.int .i64 x1), .s (.int .i64 x2), .s (.int .i64 x3), .s (.int .i64 x4), .l x5] = ql zo x5 := by simp only [tot, ql] <;> omega
 refine z7 rfl (q4f x5 b h5 hb0 hb1) rfl tv3 ?_
 refine xb rfl (fun h => ?_) (fun e0 => ?_)
 · have h : szn b (ql zo x5) < 0 := by simpa using h
   exact xv rfl rfl rfl (by show Value.int _ _ = Value.int _ _; congr 1; rw [ht]; unfold szn at *; split at h <;> rw [if_pos] <;> omega)
 have e0 : 0 ≤ szn b (ql zo x5) := by simpa using e0
 exact xv rfl rfl rfl (by show Value.int _ _ = Value.int _ _; rw [ht])
theorem y7p (rr : List (List Cell)) (b : Int) (hw : WR 9223372036854775807 zn rr) (p0 : 0 ≤ b) (p1 : b ≤ 1048576) : PC Tryz.prog 227 [.one (.l rr), .one (.s (.int .i64 b))] (rI (szn b (ql zn rr))) := by
 refine PC.begin Tryz.func227 rfl (by kernel_rfl) ?_
 have hlen := hw.1
 have w1 : IntKind.i64.wrap (b - rr.length) = b - rr.length := wrap_i64 (by omega) (by omega)
 refine xb rfl ?_ ?_ <;> intro h
 · simp only [w1, decide_eq_true_eq] at h
   exact xv rfl rfl rfl (by show Value.int _ _ = Value.int _ _; unfold szn ql; rw [if_pos (by omega)])
 simp only [w1, decide_eq_false_iff_not] at h
 have hs : szn b rr.length = b - rr.length := by unfold szn; rw [if_neg h]
 refine qb rfl (ι := Nat) (fun i => i ≤ rr.length ∧ 0 ≤ szn b (rr.length + q01 (tot zn) (rr.take i))) (fun i => ⟨[(5, sV (.int .i64 i)), (1, sV (.int .i64 (szn b (rr.length + q01 (tot zn) (rr.take i))))), (0, .one (.b (.l rr)))], []⟩) (fun i => rr.length - i) 0 ⟨Nat.zero_le _, by simp only [List.take_zero, q01, Nat.add_zero, hs]; omega⟩ ?_ ?_
 · refine ⟨⟨rfl, ?_, rfl, trivial⟩, trivial, rfl⟩
   show Cell.s (.int .i64 (IntKind.i64.wrap (b - rr.length))) = Cell.s (.int .i64 (szn b (rr.length + 0)))
   rw [w1, Nat.add_zero, hs]
 · intro i ⟨hi, hb⟩ J hJ
   refine xb rfl ?_ ?_ <;> intro h
   · have h : i < rr.length := by simpa using h
     obtain ⟨row, hg⟩ := gx h
     have hc := q0r (f := tot zn) hg
     have hc2 := z0i (tot zn) rr (i + 1)
     obtain ⟨x0, x1, x2, x3, x4, x5, rfl, h5⟩ := q1p (hw.2 row (List.mem_of_getElem? hg))
     refine xs rfl (nn_ _) (y9 rfl _ hg (xs rfl rfl ?_))
     refine z7 rfl (y91 _ _ _ _ _ _ _ h5 hb (q0m p1 p0)) rfl ⟨tv7, trivial, trivial⟩ ?_
     refine xb rfl ?_ ?_ <;> intro hn
     · have hn : szn (szn b (rr.length + q01 (tot zn) (rr.take i))) (tot zn [.s (.int .i64 x0), .s (.int .i64 x1), .s (.int .i64 x2), .s (.int .i64 x3), .s (.int .i64 x4), .l x5]) < 0 := by simpa using hn
       rw [zj hb] at hn
       exact xv rfl rfl rfl (by show Value.int _ _ = Value.int _ _; congr 1; unfold szn ql at *; split at hn <;> rw [if_pos] <;> omega)
     · have hn : ¬ szn (szn b (rr.length + q01 (tot zn) (rr.take i))) (tot zn [.s (.int .i64 x0), .s (.int .i64 x1), .s (.int .i64 x2), .s (.int .i64 x3), .s (.int .i64 x4), .l x5]) < 0 := by simpa using hn
       have he := zj (n := tot zn [.s (.int .i64 x0), .s (.int .i64 x1), .s (.int .i64 x2), .s (.int .i64 x3), .s (.int .i64 x4), .l x5]) hb
       rw [he] at hn
       rw [Nat.add_assoc, ← hc] at he hn
       refine q9 rfl (hJ _ (i + 1) ⟨by omega, by omega⟩ (by omega) ?_)
       refine ⟨⟨cwi (by omega) (by omega) (by omega), ?_, rfl, trivial⟩, trivial, rfl⟩
       exact congrArg (fun n => Cell.s (.int .i64 n)) he
   · have h : ¬ i < rr.length := by simpa using h
     have : i = rr.length := by omega
     subst this
     exact xv rfl rfl rfl (by show Value.int _ _ = Value.int _ _; rw [List.take_length]; rfl)
theorem q55 (x0 : List (List Cell)) (b : Int) (h0 : WR 9223372036854775807 zn x0) (hb0 : 0 ≤ b) (hb1 : b ≤ 1048576) : PC Tryz.prog 129 [.agg [.l x0], .one (.s (.int .i64 b))] (rI (szn b (tot qa [.l x0]))) := by
 refine PC.begin Tryz.func129 rfl (by kernel_rfl) ?_
 have ht : tot qa [.l x0] = ql zn x0 := by simp only [tot, ql] <;> omega
 refine z7 rfl (y7p x0 b h0 hb0 hb1) rfl tv3 ?_
 refine xb rfl (fun h => ?_) (fun e0 => ?_)
 · have h : szn b (ql zn x0) < 0 := by simpa using h
   exact xv rfl rfl rfl (by show Value.int _ _ = Value.int _ _; congr 1; rw [ht]; unfold szn at *; split at h <;> rw [if_pos] <;> omega)
 have e0 : 0 ≤ szn b (ql zn x0) := by simpa using e0
 exact xv rfl rfl rfl (by show Value.int _ _ = Value.int _ _; rw [ht])
theorem y42 (rr : List (List Cell)) (b : Int) (hw : WR 9223372036854775807 qa rr) (p0 : 0 ≤ b) (p1 : b ≤ 1048576) : PC Tryz.prog 49 [.one (.l rr), .one (.s (.int .i64 b))] (rI (szn b (ql qa rr))) := by
 refine PC.begin Tryz.func49 rfl (by kernel_rfl) ?_
 have hlen := hw.1
 have w1 : IntKind.i64.wrap (b - rr.length) = b - rr.length := wrap_i64 (by omega) (by omega)
 refine xb rfl ?_ ?_ <;> intro h
 · simp only [w1, decide_eq_true_eq] at h
   exact xv rfl rfl rfl (by show Value.int _ _ = Value.int _ _; unfold szn ql; rw [if_pos (by omega)])
 simp only [w1, decide_eq_false_iff_not] at h
 have hs : szn b rr.length = b - rr.length := by unfold szn; rw [if_neg h]
 refine qb rfl (ι := Nat) (fun i => i ≤ rr.length ∧ 0 ≤ szn b (rr.length + q01 (tot qa) (rr.take i))) (fun i => ⟨[(5, sV (.int .i64 i)), (1, sV (.int .i64 (szn b (rr.length + q01 (tot qa) (rr.take i))))), (0, .one (.b (.l rr)))], []⟩) (fun i => rr.length - i) 0 ⟨Nat.zero_le _, by simp only [List.take_zero, q01, Nat.add_zero, hs]; omega⟩ ?_ ?_
 · refine ⟨⟨rfl, ?_, rfl, trivial⟩, trivial, rfl⟩
   show Cell.s (.int .i64 (IntKind.i64.wrap (b - rr.length))) = Cell.s (.int .i64 (szn b (rr.length + 0)))
   rw [w1, Nat.add_zero, hs]
 · intro i ⟨hi, hb⟩ J hJ
   refine xb rfl ?_ ?_ <;> intro h
   · have h : i < rr.length := by simpa using h
     obtain ⟨row, hg⟩ := gx h
     have hc := q0r (f := tot qa) hg
     have hc2 := z0i (tot qa) rr (i + 1)
     obtain ⟨x0, rfl, h0⟩ := q0b (hw.2 row (List.mem_of_getElem? hg))
     refine xs rfl (nn_ _) (y9 rfl _ hg (xs rfl rfl ?_))
     refine z7 rfl (q55 _ _ h0 hb (q0m p1 p0)) rfl ⟨⟨trivial, trivial⟩, trivial, trivial⟩ ?_
     refine xb rfl ?_ ?_ <;> intro hn
     · have hn : szn (szn b (rr.length + q01 (tot qa) (rr.take i))) (tot qa [.l x0]) < 0 := by simpa using hn
       rw [zj hb] at hn
       exact xv rfl rfl rfl (by show Value.int _ _ = Value.int _ _; congr 1; unfold szn ql at *; split at hn <;> rw [if_pos] <;> omega)
     · have hn : ¬ szn (szn b (rr.length + q01 (tot qa) (rr.take i))) (tot qa [.l x0]) < 0 := by simpa using hn
       have he := zj (n := tot qa [.l x0]) hb
       rw [he] at hn
       rw [Nat.add_assoc, ← hc] at he hn
       refine q9 rfl (hJ _ (i + 1) ⟨by omega, by omega⟩ (by omega) ?_)
       refine ⟨⟨cwi (by omega) (by omega) (by omega), ?_, rfl, trivial⟩, trivial, rfl⟩
       exact congrArg (fun n => Cell.s (.int .i64 n)) he
   · have h : ¬ i < rr.length := by simpa using h
     have : i = rr.length := by omega
     subst this
     exact xv rfl rfl rfl (by show Value.int _ _ = Value.int _ _; rw [List.take_length]; rfl)
theorem y9x (x0 : Int) (x1 : Int) (x2 : Int) (x3 : Int) (x4 : List (List Cell)) (x5 : List (List Cell)) (b : Int) (h4 : WR 9223372036854775807 (.i .i64 .nil) x4) (h5 : WR 9223372036854775807 zo x5) (hb0 : 0 ≤ b) (hb1 : b ≤ 1048576) : PC Tryz.prog 324 [.agg [.s (.int .i64 x0), .s (.int .i64 x1), .s (.int .i64 x2), .s (.int .i64 x3), .l x4, .l x5], .one (.s (.int .i64 b))] (rI (szn b (tot zr [.s (.int .i64 x0), .s (.int .i64 x1), .s (.int .i64 x2), .s (.int .i64 x3), .l x4, .l x5]))) := by
 refine PC.begin Tryz.func324 rfl (by kernel_rfl) ?_
 have ht : tot zr [.s (.int .i64 x0), .s (.int .i64 x1), .s (.int .i64 x2), .s (.int .i64 x3), .l x4, .l x5] = ql (.i .i64 .nil) x4 + ql zo x5 := by simp only [tot, ql] <;> omega
 refine z7 rfl (z3t x4 b h4 hb0 hb1) rfl tv3 ?_
 refine xb rfl (fun h => ?_) (fun e0 => ?_)
 · have h : szn b (ql (.i .i64 .nil) x4) < 0 := by simpa using h
   exact xv rfl rfl rfl (by show Value.int _ _ = Value.int _ _; congr 1; rw [ht]; unfold szn at *; split at h <;> rw [if_pos] <;> omega)
 have e0 : 0 ≤ szn b (ql (.i .i64 .nil) x4) := by simpa using e0
 refine z7 rfl (q4f x5 (szn b (ql (.i .i64 .nil) x4)) h5 e0 (q0m hb1 hb0)) rfl tv3 ?_
 refine xb rfl (fun h => ?_) (fun e1 => ?_)
 · have h : szn (szn b (ql (.i .i64 .nil) x4)) (ql zo x5) < 0 := by simpa using h
   rw [zj e0] at h
   exact xv rfl rfl rfl (by show Value.int _ _ = Value.int _ _; congr 1; rw [ht]; unfold szn at *; split at h <;> rw [if_pos] <;> omega)
 have e1 : 0 ≤ szn b (ql (.i .i64 .nil) x4 + ql zo x5) := by rw [← zj e0]; simpa using e1
 rw [zj e0]
 exact xv rfl rfl rfl (by show Value.int _ _ = Value.int _ _; rw [ht])
theorem q91 (rr : List (List Cell)) (b : Int) (hw : WR 9223372036854775807 zr rr) (p0 : 0 ≤ b) (p1 : b ≤ 1048576) : PC Tryz.prog 228 [.one (.l rr), .one (.s (.int .i64 b))] (rI (szn b (ql zr rr))) := by
 refine PC.begin Tryz.func228 rfl (by kernel_rfl) ?_
 have hlen := hw.1
 have w1 : IntKind.i64.wrap (b - rr.length) = b - rr.length := wrap_i64 (by omega) (by omega)
 refine xb rfl ?_ ?_ <;> intro h
 · simp only [w1, decide_eq_true_eq] at h
   exact xv rfl rfl rfl (by show Value.int _ _ = Value.int _ _; unfold szn ql; rw [if_pos (by omega)])
 simp only [w1, decide_eq_false_iff_not] at h
 have hs : szn b rr.length = b - rr.length := by unfold szn; rw [if_neg h]
 refine qb rfl (ι := Nat) (fun i => i ≤ rr.length ∧ 0 ≤ szn b (rr.length + q01 (tot zr) (rr.take i))) (fun i => ⟨[(5, sV (.int .i64 i)), (1, sV (.int .i64 (szn b (rr.length + q01 (tot zr) (rr.take i))))), (0, .one (.b (.l rr)))], []⟩) (fun i => rr.length - i) 0 ⟨Nat.zero_le _, by simp only [List.take_zero, q01, Nat.add_zero, hs]; omega⟩ ?_ ?_
 · refine ⟨⟨rfl, ?_, rfl, trivial⟩, trivial, rfl⟩
   show Cell.s (.int .i64 (IntKind.i64.wrap (b - rr.length))) = Cell.s (.int .i64 (szn b (rr.length + 0)))
   rw [w1, Nat.add_zero, hs]
 · intro i ⟨hi, hb⟩ J hJ
   refine xb rfl ?_ ?_ <;> intro h
   · have h : i < rr.length := by simpa using h
     obtain ⟨row, hg⟩ := gx h
     have hc := q0r (f := tot zr) hg
     have hc2 := z0i (tot zr) rr (i + 1)
     obtain ⟨x0, x1, x2, x3, x4, x5, rfl, h4, h5⟩ := q2o (hw.2 row (List.mem_of_getElem? hg))
     refine xs rfl (nn_ _) (y9 rfl _ hg (xs rfl rfl ?_))
     refine z7 rfl (y9x _ _ _ _ _ _ _ h4 h5 hb (q0m p1 p0)) rfl ⟨tv7, trivial, trivial⟩ ?_
     refine xb rfl ?_ ?_ <;> intro hn
     · have hn : szn (szn b (rr.length + q01 (tot zr) (rr.take i))) (tot zr [.s (.int .i64 x0), .s (.int .i64 x1), .s (.int .i64 x2), .s (.int .i64 x3), .l x4, .l x5]) < 0 := by simpa using hn
       rw [zj hb] at hn
       exact xv rfl rfl rfl (by show Value.int _ _ = Value.int _ _; congr 1; unfold szn ql at *; split at hn <;> rw [if_pos] <;> omega)
     · have hn : ¬ szn (szn b (rr.length + q01 (tot zr) (rr.take i))) (tot zr [.s (.int .i64 x0), .s (.int .i64 x1), .s (.int .i64 x2), .s (.int .i64 x3), .l x4, .l x5]) < 0 := by simpa using hn
       have he := zj (n := tot zr [.s (.int .i64 x0), .s (.int .i64 x1), .s (.int .i64 x2), .s (.int .i64 x3), .l x4, .l x5]) hb
       rw [he] at hn
       rw [Nat.add_assoc, ← hc] at he hn
       refine q9 rfl (hJ _ (i + 1) ⟨by omega, by omega⟩ (by omega) ?_)
       refine ⟨⟨cwi (by omega) (by omega) (by omega), ?_, rfl, trivial⟩, trivial, rfl⟩
       exact congrArg (fun n => Cell.s (.int .i64 n)) he
   · have h : ¬ i < rr.length := by simpa using h
     have : i = rr.length := by omega
     subst this
     exact xv rfl rfl rfl (by show Value.int _ _ = Value.int _ _; rw [List.take_length]; rfl)
theorem y6j (rr : List (List Cell)) (b : Int) (hw : WR 9223372036854775807 zp rr) (p0 : 0 ≤ b) (p1 : b ≤ 1048576) : PC Tryz.prog 229 [.one (.l rr), .one (.s (.int .i64 b))] (rI (szn b (ql zp rr))) := by
 refine PC.begin Tryz.func229 rfl (by kernel_rfl) ?_
 have hlen := hw.1
 have w1 : IntKind.i64.wrap (b - rr.length) = b - rr.length := wrap_i64 (by omega) (by omega)
 rw [q0v (fun row hr => by obtain ⟨x0, x1, x2, x3, x4, rfl⟩ := q14 hr; rfl) hw]
 refine xb rfl ?_ ?_ <;> intro h
 · simp only [w1, decide_eq_true_eq] at h
   exact xv rfl rfl rfl (by show Value.int _ _ = Value.int _ _; rw [szn, if_pos h])
 · simp only [w1, decide_eq_false_iff_not] at h
   exact xv rfl rfl rfl (by show Value.int .i64 (IntKind.i64.wrap (b - rr.length)) = Value.int _ _; rw [szn, if_neg h, w1])
theorem q6j (x0 : Int) (x1 : List (List Cell)) (x2 : List (List Cell)) (b : Int) (h1 : WR 9223372036854775807 zr x1) (h2 : WR 9223372036854775807 zp x2) (hb0 : 0 ≤ b) (hb1 : b ≤ 1048576) : PC Tryz.prog 130 [.agg [.s (.int .i64 x0), .l x1, .l x2], .one (.s (.int .i64 b))] (rI (szn b (tot qe [.s (.int .i64 x0), .l x1, .l x2]))) := by
 refine PC.begin Tryz.func130 rfl (by kernel_rfl) ?_
 have ht : tot qe [.s (.int .i64 x0), .l x1, .l x2] = ql zr x1 + ql zp x2 := by simp only [tot, ql] <;> omega
 refine z7 rfl (q91 x1 b h1 hb0 hb1) rfl tv3 ?_
 refine xb rfl (fun h => ?_) (fun e0 => ?_)
 · have h : szn b (ql zr x1) < 0 := by simpa using h
   exact xv rfl rfl rfl (by show Value.int _ _ = Value.int _ _; congr 1; rw [ht]; unfold szn at *; split at h <;> rw [if_pos] <;> omega)
 have e0 : 0 ≤ szn b (ql zr x1) := by simpa using e0
 refine z7 rfl (y6j x2 (szn b (ql zr x1)) h2 e0 (q0m hb1 hb0)) rfl tv3 ?_
 refine xb rfl (fun h => ?_) (fun e1 => ?_)
 · have h : szn (szn b (ql zr x1)) (ql zp x2) < 0 := by simpa using h
   rw [zj e0] at h
   exact xv rfl rfl rfl (by show Value.int _ _ = Value.int _ _; congr 1; rw [ht]; unfold szn at *; split at h <;> rw [if_pos] <;> omega)
 have e1 : 0 ≤ szn b (ql zr x1 + ql zp x2) := by rw [← zj e0]; simpa using e1
 rw [zj e0]
 exact xv rfl rfl rfl (by show Value.int _ _ = Value.int _ _; rw [ht])
theorem y5u (rr : List (List Cell)) (b : Int) (hw : WR 9223372036854775807 qe rr) (p0 : 0 ≤ b) (p1 : b ≤ 1048576) : PC Tryz.prog 50 [.one (.l rr), .one (.s (.int .i64 b))] (rI (szn b (ql qe rr))) := by
 refine PC.begin Tryz.func50 rfl (by kernel_rfl) ?_
 have hlen := hw.1
 have w1 : IntKind.i64.wrap (b - rr.length) = b - rr.length := wrap_i64 (by omega) (by omega)
 refine xb rfl ?_ ?_ <;> intro h
 · simp only [w1, decide_eq_true_eq] at h
   exact xv rfl rfl rfl (by show Value.int _ _ = Value.int _ _; unfold szn ql; rw [if_pos (by omega)])
 simp only [w1, decide_eq_false_iff_not] at h
 have hs : szn b rr.length = b - rr.length := by unfold szn; rw [if_neg h]
 refine qb rfl (ι := Nat) (fun i => i ≤ rr.length ∧ 0 ≤ szn b (rr.length + q01 (tot qe) (rr.take i))) (fun i => ⟨[(5, sV (.int .i64 i)), (1, sV (.int .i64 (szn b (rr.length + q01 (tot qe) (rr.take i))))), (0, .one (.b (.l rr)))], []⟩) (fun i => rr.length - i) 0 ⟨Nat.zero_le _, by simp only [List.take_zero, q01, Nat.add_zero, hs]; omega⟩ ?_ ?_
 · refine ⟨⟨rfl, ?_, rfl, trivial⟩, trivial, rfl⟩
   show Cell.s (.int .i64 (IntKind.i64.wrap (b - rr.length))) = Cell.s (.int .i64 (szn b (rr.length + 0)))
   rw [w1, Nat.add_zero, hs]
 · intro i ⟨hi, hb⟩ J hJ
   refine xb rfl ?_ ?_ <;> intro h
   · have h : i < rr.length := by simpa using h
     obtain ⟨row, hg⟩ := gx h
     have hc := q0r (f := tot qe) hg
     have hc2 := z0i (tot qe) rr (i + 1)
     obtain ⟨x0, x1, x2, rfl, h1, h2⟩ := y0q (hw.2 row (List.mem_of_getElem? hg))
     refine xs rfl (nn_ _) (y9 rfl _ hg (xs rfl rfl ?_))
     refine z7 rfl (q6j _ _ _ _ h1 h2 hb (q0m p1 p0)) rfl ⟨tv4, trivial, trivial⟩ ?_
     refine xb rfl ?_ ?_ <;> intro hn
     · have hn : szn (szn b (rr.length + q01 (tot qe) (rr.take i))) (tot qe [.s (.int .i64 x0), .l x1, .l x2]) < 0 := by simpa using hn
       rw [zj hb] at hn
       exact xv rfl rfl rfl (by show Value.int _ _ = Value.int _ _; congr 1; unfold szn ql at *; split at hn <;> rw [if_pos] <;> omega)
     · have hn : ¬ szn (szn b (rr.length + q01 (tot qe) (rr.take i))) (tot qe [.s (.int .i64 x0), .l x1, .l x2]) < 0 := by simpa using hn
       have he := zj (n := tot qe [.s (.int .i64 x0), .l x1, .l x2]) hb
       rw [he] at hn
       rw [Nat.add_assoc, ← hc] at he hn
       refine q9 rfl (hJ _ (i + 1) ⟨by omega, by omega⟩ (by omega) ?_)
       refine ⟨⟨cwi (by omega) (by omega) (by omega), ?_, rfl, trivial⟩, trivial, rfl⟩
       exact congrArg (fun n => Cell.s (.int .i64 n)) he
   · have h : ¬ i < rr.length := by simpa using h
     have : i = rr.length := by omega
     subst this
     exact xv rfl rfl rfl (by show Value.int _ _ = Value.int _ _; rw [List.take_length]; rfl)
theorem y56 (rr : List (List Cell)) (b : Int) (hw : WR 9223372036854775807 qg rr) (p0 : 0 ≤ b) (p1 : b ≤ 1048576) : PC Tryz.prog 51 [.one (.l rr), .one (.s (.int .i64 b))] (rI (szn b (ql qg rr))) := by
 refine PC.begin Tryz.func51 rfl (by kernel_rfl) ?_
 have hlen := hw.1
 have w1 : IntKind.i64.wrap (b - rr.length) = b - rr.length := wrap_i64 (by omega) (by omega)
 rw [q0v (fun row hr => by obtain ⟨x0, x1, x2, x3, x4, x5, x6, x7, x8, rfl⟩ := q0j hr; rfl) hw]
 refine xb rfl ?_ ?_ <;> intro h
 · simp only [w1, decide_eq_true_eq] at h
   exact xv rfl rfl rfl (by show Value.int _ _ = Value.int _ _; rw [szn, if_pos h])
 · simp only [w1, decide_eq_false_iff_not] at h
   exact xv rfl rfl rfl (by show Value.int .i64 (IntKind.i64.wrap (b - rr.length)) = Value.int _ _; rw [szn, if_neg h, w1])
theorem z5u (x0 : List (List Cell)) (x1 : List (List Cell)) (x2 : List (List Cell)) (x3 : List (List Cell)) (x4 : List (List Cell)) (b : Int) (h0 : WR 9223372036854775807 z8 x0) (h1 : WR 9223372036854775807 zg x1) (h2 : WR 9223372036854775807 qa x2) (h3 : WR 9223372036854775807 qe x3) (h4 : WR 9223372036854775807 qg x4) (hb0 : 0 ≤ b) (hb1 : b ≤ 1048576) : PC Tryz.prog 9 [.agg [.l x0, .l x1, .l x2, .l x3, .l x4], .one (.s (.int .i64 b))] (rI (szn b (tot qp [.l x0, .l x1, .l x2, .l x3, .l x4]))) := by
 refine PC.begin Tryz.func9 rfl (by kernel_rfl) ?_
 have ht : tot qp [.l x0, .l x1, .l x2, .l x3, .l x4] = ql z8 x0 + ql zg x1 + ql qa x2 + ql qe x3 + ql qg x4 := by simp only [tot, ql] <;> omega
 refine z7 rfl (z1x x0 b h0 hb0 hb1) rfl tv3 ?_
 refine xb rfl (fun h => ?_) (fun e0 => ?_)
 · have h : szn b (ql z8 x0) < 0 := by simpa using h
   exact xv rfl rfl rfl (by show Value.int _ _ = Value.int _ _; congr 1; rw [ht]; unfold szn at *; split at h <;> rw [if_pos] <;> omega)
 have e0 : 0 ≤ szn b (ql z8 x0) := by simpa using e0
 refine z7 rfl (y6k x1 (szn b (ql z8 x0)) h1 e0 (q0m hb1 hb0)) rfl tv3 ?_
 refine xb rfl (fun h => ?_) (fun e1 => ?_)
 · have h : szn (szn b (ql z8 x0)) (ql zg x1) < 0 := by simpa using h
   rw [zj e0] at h
   exact xv rfl rfl rfl (by show Value.int _ _ = Value.int _ _; congr 1; rw [ht]; unfold szn at *; split at h <;> rw [if_pos] <;> omega)
 have e1 : 0 ≤ szn b (ql z8 x0 + ql zg x1) := by rw [← zj e0]; simpa using e1
 rw [zj e0]
 refine z7 rfl (y42 x2 (szn b (ql z8 x0 + ql zg x1)) h2 e1 (q0m hb1 hb0)) rfl tv3 ?_
 refine xb rfl (fun h => ?_) (fun e2 => ?_)
 · have h : szn (szn b (ql z8 x0 + ql zg x1)) (ql qa x2) < 0 := by simpa using h
   rw [zj e1] at h
   exact xv rfl rfl rfl (by show Value.int _ _ = Value.int _ _; congr 1; rw [ht]; unfold szn at *; split at h <;> rw [if_pos] <;> omega)
 have e2 : 0 ≤ szn b (ql z8 x0 + ql zg x1 + ql qa x2) := by rw [← zj e1]; simpa using e2
 rw [zj e1]
 refine z7 rfl (y5u x3 (szn b (ql z8 x0 + ql zg x1 + ql qa x2)) h3 e2 (q0m hb1 hb0)) rfl tv3 ?_
 refine xb rfl (fun h => ?_) (fun e3 => ?_)
 · have h : szn (szn b (ql z8 x0 + ql zg x1 + ql qa x2)) (ql qe x3) < 0 := by simpa using h
   rw [zj e2] at h
   exact xv rfl rfl rfl (by show Value.int _ _ = Value.int _ _; congr 1; rw [ht]; unfold szn at *; split at h <;> rw [if_pos] <;> omega)
 have e3 : 0 ≤ szn b (ql z8 x0 + ql zg x1 + ql qa x2 + ql qe x3) := by rw [← zj e2]; simpa using e3
 rw [zj e2]
 refine z7 rfl (y56 x4 (szn b (ql z8 x0 + ql zg x1 + ql qa x2 + ql qe x3)) h4 e3 (q0m hb1 hb0)) rfl tv3 ?_
 refine xb rfl (fun h => ?_) (fun e4 => ?_)
 · have h : szn (szn b (ql z8 x0 + ql zg x1 + ql qa x2 + ql qe x3)) (ql qg x4) < 0 := by simpa using h
   rw [zj e3] at h
   exact xv rfl rfl rfl (by show Value.int _ _ = Value.int _ _; congr 1; rw [ht]; unfold szn at *; split at h <;> rw [if_pos] <;> omega)
 have e4 : 0 ≤ szn b (ql z8 x0 + ql zg x1 + ql qa x2 + ql qe x3 + ql qg x4) := by rw [← zj e3]; simpa using e4
 rw [zj e3]
 exact xv rfl rfl rfl (by show Value.int _ _ = Value.int _ _; rw [ht])
theorem q9x (x0 : Int) (x1 : Int) (x2 : Int) (x3 : Int)  : PC Tryz.prog 202 [.agg [.s (.int .i64 x0), .s (.int .i64 x1), .s (.int .i64 x2), .s (.int .i64 x3)]] (.one (.own true [.s (.int .i64 x0), .s (.int .i64 x1), .s (.int .i64 x2), .s (.int .i64 x3)])) := by
 refine PC.begin Tryz.func202 rfl (by kernel_rfl) ?_
 exact xr rfl (ym rfl ⟨⟨rfl, rfl, rfl, rfl, rfl, trivial⟩, z6 rfl⟩)
theorem q92 (rr : List (List Cell)) (hw : WR 1048576 y02 rr) : PC Tryz.prog 120 [.one (.l rr)] (.one (.own false [.l 4 rr])) := by
 refine PC.begin Tryz.func120 rfl (by kernel_rfl) ?_
 have hlen := hw.1
 refine xs rfl rfl (xs rfl (nn_ _) (xs rfl (by omega) (xs rfl (by omega) ?_)))
 refine qb rfl (ι := Nat) (fun i => i ≤ rr.length) (fun i => ⟨[(4, sV (.int .i64 i)), (3, .one (.h 7 rr.length)), (0, .one (.b (.l rr)))], [(7, .arr true 4 0 (rr.take i ++ List.replicate (rr.length - i) [.s (.int .i64 0), .s (.int .i64 0), .s (.int .i64 0), .s (.int .i64 0)]))]⟩) (fun i => rr.length - i) 0 (Nat.zero_le _) ?_ ?_
 · repeat' (first | exact trivial | exact rfl | exact Or.inl rfl | refine And.intro ?_ ?_)
 · intro i hi J hJ
   refine xb rfl ?_ ?_ <;> intro h
   · have h : i < rr.length := by simpa using h
     obtain ⟨row, hg⟩ := gx h
     obtain ⟨x0, x1, x2, x3, rfl⟩ := y2o (hw.2 row (List.mem_of_getElem? hg))
     refine xs rfl (nn_ _) (y9 rfl _ hg (xs rfl rfl ?_))
     refine z7 rfl (q9x _ _ _ _) rfl ⟨tv5, trivial⟩ ?_
     refine xs rfl (yg _ _ _ _ (by omega) rfl).symm (xs rfl (nn_ _) (y9 rfl [.s (.int .i64 0), .s (.int .i64 0), .s (.int .i64 0), .s (.int .i64 0)] (qn _ _ _ _ (by omega) rfl) (xs rfl rfl ?_)))
     refine xs rfl (yg _ _ _ _ (by omega) rfl).symm (y9 rfl [.s (.int .i64 0), .s (.int .i64 0), .s (.int .i64 0), .s (.int .i64 0)] (qn _ _ _ _ (by omega) rfl) (xs rfl (by decide) (xs rfl tv5 ?_)))
     refine q9 rfl (hJ _ (i + 1) (by omega) (by omega) ?_)
     repeat' (first | exact trivial | exact rfl | exact Or.inl rfl | exact cwi (by omega) (by omega) (by omega) | refine And.intro ?_ ?_)
     exact q05 _ _ _ _ _ hg rfl
   · have h : ¬ i < rr.length := by simpa using h
     have : i = rr.length := by omega
     subst this
     refine xr rfl (ym rfl ⟨⟨rfl, ⟨(yg _ _ _ _ (by omega) rfl).symm, y04 _ _ _ rfl, Or.inl rfl⟩, trivial⟩, z6 rfl⟩)
theorem z57 (x0 : Int) (x1 : List (List Cell)) (h1 : WR 1048576 y02 x1) : PC Tryz.prog 38 [.agg [.s (.int .i64 x0), .l x1]] (.one (.own true [.s (.int .i64 x0), .l 4 x1])) := by
 refine PC.begin Tryz.func38 rfl (by kernel_rfl) ?_
 refine z7 rfl (q92 _ h1) rfl ⟨trivial, trivial⟩ ?_
 exact xr rfl (ym rfl ⟨⟨rfl, rfl, ⟨rfl, rfl, .inl rfl⟩, trivial⟩, z6 rfl⟩)
theorem y1x (rr : List (List Cell)) (hw : WR 1048576 z8 rr) : PC Tryz.prog 55 [.one (.l rr)] (.one (.own false [.l 2 rr])) := by
 refine PC.begin Tryz.func55 rfl (by kernel_rfl) ?_
 have hlen := hw.1
 refine xs rfl rfl (xs rfl (nn_ _) (xs rfl (by omega) (xs rfl (by omega) ?_)))
 refine qb rfl (ι := Nat) (fun i => i ≤ rr.length) (fun i => ⟨[(4, sV (.int .i64 i)), (3, .one (.h 7 rr.length)), (0, .one (.b (.l rr)))], [(7, .arr true 2 0 (rr.take i ++ List.replicate (rr.length - i) [.s (.int .i64 0), .l []]))]⟩) (fun i => rr.length - i) 0 (Nat.zero_le _) ?_ ?_
 · repeat' (first | exact trivial | exact rfl | exact Or.inl rfl | refine And.intro ?_ ?_)
 · intro i hi J hJ
   refine xb rfl ?_ ?_ <;> intro h
   · have h : i < rr.length := by simpa using h
     obtain ⟨row, hg⟩ := gx h
     obtain ⟨x0, x1, rfl, h1⟩ := z0c (hw.2 row (List.mem_of_getElem? hg))
     refine xs rfl (nn_ _) (y9 rfl _ hg (xs rfl rfl ?_))
     refine z7 rfl (z57 _ _ h1) rfl ⟨tv3, trivial⟩ ?_
     refine xs rfl (yg _ _ _ _ (by omega) rfl).symm (xs rfl (nn_ _) (y9 rfl [.s (.int .i64 0), .l []] (qn _ _ _ _ (by omega) rfl) (xs rfl rfl ?_)))
     refine xs rfl (yg _ _ _ _ (by omega) rfl).symm (y9 rfl [.s (.int .i64 0), .l []] (qn _ _ _ _ (by omega) rfl) (xs rfl (by decide) (xs rfl ⟨trivial, ⟨rfl, rfl⟩, trivial⟩ ?_)))
     refine q9 rfl (hJ _ (i + 1) (by omega) (by omega) ?_)
     repeat' (first | exact trivial | exact rfl | exact Or.inl rfl | exact cwi (by omega) (by omega) (by omega) | refine And.intro ?_ ?_)
     exact q05 _ _ _ _ _ hg rfl
   · have h : ¬ i < rr.length := by simpa using h
     have : i = rr.length := by omega
     subst this
     refine xr rfl (ym rfl ⟨⟨rfl, ⟨(yg _ _ _ _ (by omega) rfl).symm, y04 _ _ _ rfl, Or.inl rfl⟩, trivial⟩, z6 rfl⟩)
theorem q5u (x0 : Int) (x1 : Int) (x2 : Int)  : PC Tryz.prog 286 [.agg [.s (.int .i64 x0), .s (.int .i64 x1), .s (.int .i64 x2)]] (.one (.own true [.s (.int .i64 x0), .s (.int .i64 x1), .s (.int .i64 x2)])) := by
 refine PC.begin Tryz.func286 rfl (by kernel_rfl) ?_
 exact xr rfl (ym rfl ⟨⟨rfl, rfl, rfl, rfl, trivial⟩, z6 rfl⟩)
theorem z2k (rr : List (List Cell)) (hw : WR 1048576 q7 rr) : PC Tryz.prog 189 [.one (.l rr)] (.one (.own false [.l 3 rr])) := by
 refine PC.begin Tryz.func189 rfl (by kernel_rfl) ?_
 have hlen := hw.1
 refine xs rfl rfl (xs rfl (nn_ _) (xs rfl (by omega) (xs rfl (by omega) ?_)))
 refine qb rfl (ι := Nat) (fun i => i ≤ rr.length) (fun i => ⟨[(4, sV (.int .i64 i)), (3, .one (.h 7 rr.length)), (0, .one (.b (.l rr)))], [(7, .arr true 3 0 (rr.take i ++ List.replicate (rr.length - i) [.s (.int .i64 0), .s (.int .i64 0), .s (.int .i64 0)]))]⟩) (fun i => rr.length - i) 0 (Nat.zero_le _) ?_ ?_
 · repeat' (first | exact trivial | exact rfl | exact Or.inl rfl | refine And.intro ?_ ?_)
 · intro i hi J hJ
   refine xb rfl ?_ ?_ <;> intro h
   · have h : i < rr.length := by simpa using h
     obtain ⟨row, hg⟩ := gx h
     obtain ⟨x0, x1, x2, rfl⟩ := z0a (hw.2 row (List.mem_of_getElem? hg))
     refine xs rfl (nn_ _) (y9 rfl _ hg (xs rfl rfl ?_))
     refine z7 rfl (q5u _ _ _) rfl ⟨tv4, trivial⟩ ?_
     refine xs rfl (yg _ _ _ _ (by omega) rfl).symm (xs rfl (nn_ _) (y9 rfl [.s (.int .i64 0), .s (.int .i64 0), .s (.int .i64 0)] (qn _ _ _ _ (by omega) rfl) (xs rfl rfl ?_)))
     refine xs rfl (yg _ _ _ _ (by omega) rfl).symm (y9 rfl [.s (.int .i64 0), .s (.int .i64 0), .s (.int .i64 0)] (qn _ _ _ _ (by omega) rfl) (xs rfl (by decide) (xs rfl tv4 ?_)))
     refine q9 rfl (hJ _ (i + 1) (by omega) (by omega) ?_)
     repeat' (first | exact trivial | exact rfl | exact Or.inl rfl | exact cwi (by omega) (by omega) (by omega) | refine And.intro ?_ ?_)
     exact q05 _ _ _ _ _ hg rfl
   · have h : ¬ i < rr.length := by simpa using h
     have : i = rr.length := by omega
     subst this
     refine xr rfl (ym rfl ⟨⟨rfl, ⟨(yg _ _ _ _ (by omega) rfl).symm, y04 _ _ _ rfl, Or.inl rfl⟩, trivial⟩, z6 rfl⟩)
theorem z93 (x0 : Int) (x1 : Int)  : PC Tryz.prog 329 [.agg [.s (.int .i64 x0), .s (.int .i64 x1)]] (.one (.own true [.s (.int .i64 x0), .s (.int .i64 x1)])) := by
 refine PC.begin Tryz.func329 rfl (by kernel_rfl) ?_
 exact xr rfl (ym rfl ⟨⟨rfl, rfl, rfl, trivial⟩, z6 rfl⟩)
theorem z4g (rr : List (List Cell)) (hw : WR 1048576 zi rr) : PC Tryz.prog 241 [.one (.l rr)] (.one (.own false [.l 2 rr])) := by
 refine PC.begin Tryz.func241 rfl (by kernel_rfl) ?_
 have hlen := hw.1
 refine xs rfl rfl (xs rfl (nn_ _) (xs rfl (by omega) (xs rfl (by omega) ?_)))
 refine qb rfl (ι := Nat) (fun i => i ≤ rr.length) (fun i => ⟨[(4, sV (.int .i64 i)), (3, .one (.h 7 rr.length)), (0, .one (.b (.l rr)))], [(7, .arr true 2 0 (rr.take i ++ List.replicate (rr.length - i) [.s (.int .i64 0), .s (.int .i64 0)]))]⟩) (fun i => rr.length - i) 0 (Nat.zero_le _) ?_ ?_
 · repeat' (first | exact trivial | exact rfl | exact Or.inl rfl | refine And.intro ?_ ?_)
 · intro i hi J hJ
   refine xb rfl ?_ ?_ <;> intro h
   · have h : i < rr.length := by simpa using h
     obtain ⟨row, hg⟩ := gx h
     obtain ⟨x0, x1, rfl⟩ := y1p (hw.2 row (List.mem_of_getElem? hg))
     refine xs rfl (nn_ _) (y9 rfl _ hg (xs rfl rfl ?_))
     refine z7 rfl (z93 _ _) rfl ⟨tv3, trivial⟩ ?_
     refine xs rfl (yg _ _ _ _ (by omega) rfl).symm (xs rfl (nn_ _) (y9 rfl [.s (.int .i64 0), .s (.int .i64 0)] (qn _ _ _ _ (by omega) rfl) (xs rfl rfl ?_)))
     refine xs rfl (yg _ _ _ _ (by omega) rfl).symm (y9 rfl [.s (.int .i64 0), .s (.int .i64 0)] (qn _ _ _ _ (by omega) rfl) (xs rfl (by decide) (xs rfl tv3 ?_)))
     refine q9 rfl (hJ _ (i + 1) (by omega) (by omega) ?_)
     repeat' (first | exact trivial | exact rfl | exact Or.inl rfl | exact cwi (by omega) (by omega) (by omega) | refine And.intro ?_ ?_)
     exact q05 _ _ _ _ _ hg rfl
   · have h : ¬ i < rr.length := by simpa using h
     have : i = rr.length := by omega
     subst this
     refine xr rfl (ym rfl ⟨⟨rfl, ⟨(yg _ _ _ _ (by omega) rfl).symm, y04 _ _ _ rfl, Or.inl rfl⟩, trivial⟩, z6 rfl⟩)
theorem y3t (rr : List (List Cell)) (hw : WR 1048576 (.i .i64 .nil) rr) : PC Tryz.prog 170 [.one (.l rr)] (.one (.own false [.l 1 rr])) := by
 refine PC.begin Tryz.func170 rfl (by kernel_rfl) ?_
 have hlen := hw.1
 refine xs rfl rfl (xs rfl (nn_ _) (xs rfl (by omega) (xs rfl (by omega) ?_)))
 refine qb rfl (ι := Nat) (fun i => i ≤ rr.length) (fun i => ⟨[(4, sV (.int .i64 i)), (3, .one (.h 7 rr.length)), (0, .one (.b (.l rr)))], [(7, .arr true 1 0 (rr.take i ++ List.replicate (rr.length - i) [.s (.int .i64 0)]))]⟩) (fun i => rr.length - i) 0 (Nat.zero_le _) ?_ ?_
 · repeat' (first | exact trivial | exact rfl | exact Or.inl rfl | refine And.intro ?_ ?_)
 · intro i hi J hJ
   refine xb rfl ?_ ?_ <;> intro h
   · have h : i < rr.length := by simpa using h
     obtain ⟨row, hg⟩ := gx h
     obtain ⟨x0, _, rfl, hnil⟩ := ((hw.2 row (List.mem_of_getElem? hg))).zz; obtain rfl := hnil.qr
     refine xs rfl (nn_ _) (y9 rfl _ hg (xs rfl rfl ?_))
     refine xs rfl (yg _ _ _ _ (by omega) rfl).symm (xs rfl (nn_ _) (y9 rfl [.s (.int .i64 0)] (qn _ _ _ _ (by omega) rfl) (xs rfl rfl ?_)))
     refine xs rfl (yg _ _ _ _ (by omega) rfl).symm (y9 rfl [.s (.int .i64 0)] (qn _ _ _ _ (by omega) rfl) (xs rfl (by decide) (xs rfl ⟨trivial, trivial⟩ ?_)))
     refine q9 rfl (hJ _ (i + 1) (by omega) (by omega) ?_)
     repeat' (first | exact trivial | exact rfl | exact Or.inl rfl | exact cwi (by omega) (by omega) (by omega) | refine And.intro ?_ ?_)
     exact q05 _ _ _ _ _ hg rfl
   · have h : ¬ i < rr.length := by simpa using h
     have : i = rr.length := by omega
     subst this
     refine xr rfl (ym rfl ⟨⟨rfl, ⟨(yg _ _ _ _ (by omega) rfl).symm, y04 _ _ _ rfl, Or.inl rfl⟩, trivial⟩, z6 rfl⟩)
theorem z7q (x0 : Int) (x1 : List (List Cell)) (x2 : List (List Cell)) (x3 : List (List Cell)) (x4 : List (List Cell)) (x5 : List (List Cell)) (h1 : WR 1048576 q7 x1) (h2 : WR 1048576 zi x2) (h3 : WR 1048576 z8 x3) (h4 : WR 1048576 zi x4) (h5 : WR 1048576 (.i .i64 .nil) x5) : PC Tryz.prog 136 [.agg [.s (.int .i64 x0), .l x1, .l x2, .l x3, .l x4, .l x5]] (.one (.own true [.s (.int .i64 x0), .l 3 x1, .l 2 x2, .l 2 x3, .l 2 x4, .l 1 x5])) := by
 refine PC.begin Tryz.func136 rfl (by kernel_rfl) ?_
 refine z7 rfl (z2k _ h1) rfl ⟨trivial, trivial⟩ (z7 rfl (z4g _ h2) rfl ⟨trivial, trivial⟩ (z7 rfl (y1x _ h3) rfl ⟨trivial, trivial⟩ (z7 rfl (z4g _ h4) rfl ⟨trivial, trivial⟩ (z7 rfl (y3t _ h5) rfl ⟨trivial, trivial⟩ ?_))))
 exact xr rfl (ym rfl ⟨⟨rfl, rfl, ⟨rfl, rfl, .inl rfl⟩, ⟨rfl, rfl, .inl rfl⟩, ⟨rfl, rfl, .inl rfl⟩, ⟨rfl, rfl, .inl rfl⟩, ⟨rfl, rfl, .inl rfl⟩, trivial⟩, z6 rfl⟩)
theorem q6l (rr : List (List Cell)) (hw : WR 1048576 zg rr) : PC Tryz.prog 56 [.one (.l rr)] (.one (.own false [.l 6 rr])) := by
 refine PC.begin Tryz.func56 rfl (by kernel_rfl) ?_
 have hlen := hw.1
 refine xs rfl rfl (xs rfl (nn_ _) (xs rfl (by omega) (xs rfl (by omega) ?_)))
 refine qb rfl (ι := Nat) (fun i => i ≤ rr.length) (fun i => ⟨[(4, sV (.int .i64 i)), (3, .one (.h 7 rr.length)), (0, .one (.b (.l rr)))], [(7, .arr true 6 0 (rr.take i ++ List.replicate (rr.length - i) [.s (.int .i64 0), .l [], .l [], .l [], .l [], .l []]))]⟩) (fun i => rr.length - i) 0 (Nat.zero_le _) ?_ ?_
 · repeat' (first | exact trivial | exact rfl | exact Or.inl rfl | refine And.intro ?_ ?_)
 · intro i hi J hJ
   refine xb rfl ?_ ?_ <;> intro h
   · have h : i < rr.length := by simpa using h
     obtain ⟨row, hg⟩ := gx h
     obtain ⟨x0, x1, x2, x3, x4, x5, rfl, h1, h2, h3, h4, h5⟩ := z15 (hw.2 row (List.mem_of_getElem? hg))
     refine xs rfl (nn_ _) (y9 rfl _ hg (xs rfl rfl ?_))
     refine z7 rfl (z7q _ _ _ _ _ _ h1 h2 h3 h4 h5) rfl ⟨tv7, trivial⟩ ?_
     refine xs rfl (yg _ _ _ _ (by omega) rfl).symm (xs rfl (nn_ _) (y9 rfl [.s (.int .i64 0), .l [], .l [], .l [], .l [], .l []] (qn _ _ _ _ (by omega) rfl) (xs rfl rfl ?_)))
     refine xs rfl (yg _ _ _ _ (by omega) rfl).symm (y9 rfl [.s (.int .i64 0), .l [], .l [], .l [], .l [], .l []] (qn _ _ _ _ (by omega) rfl) (xs rfl (by decide) (xs rfl ⟨trivial, ⟨rfl, rfl⟩, ⟨rfl, rfl⟩, ⟨rfl, rfl⟩, ⟨rfl, rfl⟩, ⟨rfl, rfl⟩, trivial⟩ ?_)))
     refine q9 rfl (hJ _ (i + 1) (by omega) (by omega) ?_)
     repeat' (first | exact trivial | exact rfl | exact Or.inl rfl | exact cwi (by omega) (by omega) (by omega) | refine And.intro ?_ ?_)
     exact q05 _ _ _ _ _ hg rfl
   · have h : ¬ i < rr.length := by simpa using h
     have : i = rr.length := by omega
     subst this
     refine xr rfl (ym rfl ⟨⟨rfl, ⟨(yg _ _ _ _ (by omega) rfl).symm, y04 _ _ _ rfl, Or.inl rfl⟩, trivial⟩, z6 rfl⟩)
theorem q3t (x0 : Int) (x1 : Int)  : PC Tryz.prog 245 [.agg [.s (.int .i64 x0), .s (.int .i64 x1)]] (.one (.own true [.s (.int .i64 x0), .s (.int .i64 x1)])) := by
 refine PC.begin Tryz.func245 rfl (by kernel_rfl) ?_
 exact xr rfl (ym rfl ⟨⟨rfl, rfl, rfl, trivial⟩, z6 rfl⟩)
theorem y4g (rr : List (List Cell)) (hw : WR 1048576 zo rr) : PC Tryz.prog 414 [.one (.l rr)] (.one (.own false [.l 2 rr])) := by
 refine PC.begin Tryz.func414 rfl (by kernel_rfl) ?_
 have hlen := hw.1
 refine xs rfl rfl (xs rfl (nn_ _) (xs rfl (by omega) (xs rfl (by omega) ?_)))
 refine qb rfl (ι := Nat) (fun i => i ≤ rr.length) (fun i => ⟨[(4, sV (.int .i64 i)), (3, .one (.h 7 rr.length)), (0, .one (.b (.l rr)))], [(7, .arr true 2 0 (rr.take i ++ List.replicate (rr.length - i) [.s (.int .i64 0), .s (.int .i64 0)]))]⟩) (fun i => rr.length - i) 0 (Nat.zero_le _) ?_ ?_
 · repeat' (first | exact trivial | exact rfl | exact Or.inl rfl | refine And.intro ?_ ?_)
 · intro i hi J hJ
   refine xb rfl ?_ ?_ <;> intro h
   · have h : i < rr.length := by simpa using h
     obtain ⟨row, hg⟩ := gx h
     obtain ⟨x0, x1, rfl⟩ := z1q (hw.2 row (List.mem_of_getElem? hg))
     refine xs rfl (nn_ _) (y9 rfl _ hg (xs rfl rfl ?_))
     refine z7 rfl (q3t _ _) rfl ⟨tv3, trivial⟩ ?_
     refine xs rfl (yg _ _ _ _ (by omega) rfl).symm (xs rfl (nn_ _) (y9 rfl [.s (.int .i64 0), .s (.int .i64 0)] (qn _ _ _ _ (by omega) rfl) (xs rfl rfl ?_)))
     refine xs rfl (yg _ _ _ _ (by omega) rfl).symm (y9 rfl [.s (.int .i64 0), .s (.int .i64 0)] (qn _ _ _ _ (by omega) rfl) (xs rfl (by decide) (xs rfl tv3 ?_)))
     refine q9 rfl (hJ _ (i + 1) (by omega) (by omega) ?_)
     repeat' (first | exact trivial | exact rfl | exact Or.inl rfl | exact cwi (by omega) (by omega) (by omega) | refine And.intro ?_ ?_)
     exact q05 _ _ _ _ _ hg rfl
   · have h : ¬ i < rr.length := by simpa using h
     have : i = rr.length := by omega
     subst this
     refine xr rfl (ym rfl ⟨⟨rfl, ⟨(yg _ _ _ _ (by omega) rfl).symm, y04 _ _ _ rfl, Or.inl rfl⟩, trivial⟩, z6 rfl⟩)
theorem y93 (x0 : Int) (x1 : Int) (x2 : Int) (x3 : Int) (x4 : Int) (x5 : List (List Cell)) (h5 : WR 1048576 zo x5) : PC Tryz.prog 330 [.agg [.s (.int .i64 x0), .s (.int .i64 x1), .s (.int .i64 x2), .s (.int .i64 x3), .s (.int .i64 x4), .l x5]] (.one (.own true [.s (.int .i64 x0), .s (.int .i64 x1), .s (.int .i64 x2), .s (.int .i64 x3), .s (.int .i64 x4), .l 2 x5])) := by
 refine PC.begin Tryz.func330 rfl (by kernel_rfl) ?_
 refine z7 rfl (q3t _ _) rfl ⟨tv3, trivial⟩ (z7 rfl (y4g _ h5) rfl ⟨trivial, trivial⟩ ?_)
 exact xr rfl (ym rfl ⟨⟨rfl, rfl, rfl, rfl, rfl, rfl, ⟨rfl, rfl, .inl rfl⟩, trivial⟩, z6 rfl⟩)
theorem y7q (rr : List (List Cell)) (hw : WR 1048576 zn rr) : PC Tryz.prog 242 [.one (.l rr)] (.one (.own false [.l 6 rr])) := by
 refine PC.begin Tryz.func242 rfl (by kernel_rfl) ?_
 have hlen := hw.1
 refine xs rfl rfl (xs rfl (nn_ _) (xs rfl (by omega) (xs rfl (by omega) ?_)))
 refine qb rfl (ι := Nat) (fun i => i ≤ rr.length) (fun i => ⟨[(4, sV (.int .i64 i)), (3, .one (.h 7 rr.length)), (0, .one (.b (.l rr)))], [(7, .arr true 6 0 (rr.take i ++ List.replicate (rr.length - i) [.s (.int .i64 0), .s (.int .i64 0), .s (.int .i64 0), .s (.int .i64 0), .s (.int .i64 0), .l []]))]⟩) (fun i => rr.length - i) 0 (Nat.zero_le _) ?_ ?_
 · repeat' (first | exact trivial | exact rfl | exact Or.inl rfl | refine And.intro ?_ ?_)
 · intro i hi J hJ
   refine xb rfl ?_ ?_ <;> intro h
   · have h : i < rr.length := by simpa using h
     obtain ⟨row, hg⟩ := gx h
     obtain ⟨x0, x1, x2, x3, x4, x5, rfl, h5⟩ := q1p (hw.2 row (List.mem_of_getElem? hg))
     refine xs rfl (nn_ _) (y9 rfl _ hg (xs rfl rfl ?_))
     refine z7 rfl (y93 _ _ _ _ _ _ h5) rfl ⟨tv7, trivial⟩ ?_
     refine xs rfl (yg _ _ _ _ (by omega) rfl).symm (xs rfl (nn_ _) (y9 rfl [.s (.int .i64 0), .s (.int .i64 0), .s (.int .i64 0), .s (.int .i64 0), .s (.int .i64 0), .l []] (qn _ _ _ _ (by omega) rfl) (xs rfl rfl ?_)))
     refine xs rfl (yg _ _ _ _ (by omega) rfl).symm (y9 rfl [.s (.int .i64 0), .s (.int .i64 0), .s (.int .i64 0), .s (.int .i64 0), .s (.int .i64 0), .l []] (qn _ _ _ _ (by omega) rfl) (xs rfl (by decide) (xs rfl ⟨trivial, trivial, trivial, trivial, trivial, ⟨rfl, rfl⟩, trivial⟩ ?_)))
     refine q9 rfl (hJ _ (i + 1) (by omega) (by omega) ?_)
     repeat' (first | exact trivial | exact rfl | exact Or.inl rfl | exact cwi (by omega) (by omega) (by omega) | refine And.intro ?_ ?_)
     exact q05 _ _ _ _ _ hg rfl
   · have h : ¬ i < rr.length := by simpa using h
     have : i = rr.length := by omega
     subst this
     refine xr rfl (ym rfl ⟨⟨rfl, ⟨(yg _ _ _ _ (by omega) rfl).symm, y04 _ _ _ rfl, Or.inl rfl⟩, trivial⟩, z6 rfl⟩)
theorem q56 (x0 : List (List Cell)) (h0 : WR 1048576 zn x0) : PC Tryz.prog 137 [.agg [.l x0]] (.one (.own true [.l 6 x0])) := by
 refine PC.begin Tryz.func137 rfl (by kernel_rfl) ?_
 refine z7 rfl (y7q _ h0) rfl ⟨trivial, trivial⟩ ?_
 exact xr rfl (ym rfl ⟨⟨rfl, ⟨rfl, rfl, .inl rfl⟩, trivial⟩, z6 rfl⟩)
theorem y43 (rr : List (List Cell)) (hw : WR 1048576 qa rr) : PC Tryz.prog 57 [.one (.l rr)] (.one (.own false [.l 1 rr])) := by
 refine PC.begin Tryz.func57 rfl (by kernel_rfl) ?_
 have hlen := hw.1
 refine xs rfl rfl (xs rfl (nn_ _) (xs rfl (by omega) (xs rfl (by omega) ?_)))
 refine qb rfl (ι := Nat) (fun i => i ≤ rr.length) (fun i => ⟨[(4, sV (.int .i64 i)), (3, .one (.h 7 rr.length)), (0, .one (.b (.l rr)))], [(7, .arr true 1 0 (rr.take i ++ List.replicate (rr.length - i) [.l []]))]⟩) (fun i => rr.length - i) 0 (Nat.zero_le _) ?_ ?_
 · repeat' (first | exact trivial | exact rfl | exact Or.inl rfl | refine And.intro ?_ ?_)
 · intro i hi J hJ
   refine xb rfl ?_ ?_ <;> intro h
   · have h : i < rr.length := by simpa using h
     obtain ⟨row, hg⟩ := gx h
     obtain ⟨x0, rfl, h0⟩ := q0b (hw.2 row (List.mem_of_getElem? hg))
     refine xs rfl (nn_ _) (y9 rfl _ hg (xs rfl rfl ?_))
     refine z7 rfl (q56 _ h0) rfl ⟨⟨trivial, trivial⟩, trivial⟩ ?_
     refine xs rfl (yg _ _ _ _ (by omega) rfl).symm (xs rfl (nn_ _) (y9 rfl [.l []] (qn _ _ _ _ (by omega) rfl) (xs rfl rfl ?_)))
     refine xs rfl (yg _ _ _ _ (by omega) rfl).symm (y9 rfl [.l []] (qn _ _ _ _ (by omega) rfl) (xs rfl (by decide) (xs rfl ⟨⟨rfl, rfl⟩, trivial⟩ ?_)))
     refine q9 rfl (hJ _ (i + 1) (by omega) (by omega) ?_)
     repeat' (first | exact trivial | exact rfl | exact Or.inl rfl | exact cwi (by omega) (by omega) (by omega) | refine And.intro ?_ ?_)
     exact q05 _ _ _ _ _ hg rfl
   · have h : ¬ i < rr.length := by simpa using h
     have : i = rr.length := by omega
     subst this
     refine xr rfl (ym rfl ⟨⟨rfl, ⟨(yg _ _ _ _ (by omega) rfl).symm, y04 _ _ _ rfl, Or.inl rfl⟩, trivial⟩, z6 rfl⟩)
theorem y9y (x0 : Int) (x1 : Int) (x2 : Int) (x3 : Int) (x4 : List (List Cell)) (x5 : List (List Cell)) (h4 : WR 1048576 (.i .i64 .nil) x4) (h5 : WR 1048576 zo x5) : PC Tryz.prog 331 [.agg [.s (.int .i64 x0), .s (.int .i64 x1), .s (.int .i64 x2), .s (.int .i64 x3), .l x4, .l x5]] (.one (.own true [.s (.int .i64 x0), .s (.int .i64 x1), .s (.int .i64 x2), .s (.int .i64 x3), .l 1 x4, .l 2 x5])) := by
 refine PC.begin Tryz.func331 rfl (by kernel_rfl) ?_
 refine z7 rfl (y3t _ h4) rfl ⟨trivial, trivial⟩ (z7 rfl (y4g _ h5) rfl ⟨trivial, trivial⟩ ?_)
 exact xr rfl (ym rfl ⟨⟨rfl, rfl, rfl, rfl, rfl, ⟨rfl, rfl, .inl rfl⟩, ⟨rfl, rfl, .inl rfl⟩, trivial⟩, z6 rfl⟩)
theorem q93 (rr : List (List Cell)) (hw : WR 1048576 zr rr) : PC Tryz.prog 243 [.one (.l rr)] (.one (.own false [.l 6 rr])) := by
 refine PC.begin Tryz.func243 rfl (by kernel_rfl) ?_
 have hlen := hw.1
 refine xs rfl rfl (xs rfl (nn_ _) (xs rfl (by omega) (xs rfl (by omega) ?_)))
 refine qb rfl (ι := Nat) (fun i => i ≤ rr.length) (fun i => ⟨[(4, sV (.int .i64 i)), (3, .one (.h 7 rr.length)), (0, .one (.b (.l rr)))], [(7, .arr true 6 0 (rr.take i ++ List.replicate (rr.length - i) [.s (.int .i64 0), .s (.int .i64 0), .s (.int .i64 0), .s (.int .i64 0), .l [], .l []]))]⟩) (fun i => rr.length - i) 0 (Nat.zero_le _) ?_ ?_
 · repeat' (first | exact trivial | exact rfl | exact Or.inl rfl | refine And.intro ?_ ?_)
 · intro i hi J hJ
   refine xb rfl ?_ ?_ <;> intro h
   · have h : i < rr.length := by simpa using h
     obtain ⟨row, hg⟩ := gx h
     obtain ⟨x0, x1, x2, x3, x4, x5, rfl, h4, h5⟩ := q2o (hw.2 row (List.mem_of_getElem? hg))
     refine xs rfl (nn_ _) (y9 rfl _ hg (xs rfl rfl ?_))
     refine z7 rfl (y9y _ _ _ _ _ _ h4 h5) rfl ⟨tv7, trivial⟩ ?_
     refine xs rfl (yg _ _ _ _ (by omega) rfl).symm (xs rfl (nn_ _) (y9 rfl [.s (.int .i64 0), .s (.int .i64 0), .s (.int .i64 0), .s (.int .i64 0), .l [], .l []] (qn _ _ _ _ (by omega) rfl) (xs rfl rfl ?_)))
     refine xs rfl (yg _ _ _ _ (by omega) rfl).symm (y9 rfl [.s (.int .i64 0), .s (.int .i64 0), .s (.int .i64 0), .s (.int .i64 0), .l [], .l []] (qn _ _ _ _ (by omega) rfl) (xs rfl (by decide) (xs rfl ⟨trivial, trivial, trivial, trivial, ⟨rfl, rfl⟩, ⟨rfl, rfl⟩, trivial⟩ ?_)))
     refine q9 rfl (hJ _ (i + 1) (by omega) (by omega) ?_)
     repeat' (first | exact trivial | exact rfl | exact Or.inl rfl | exact cwi (by omega) (by omega) (by omega) | refine And.intro ?_ ?_)
     exact q05 _ _ _ _ _ hg rfl
   · have h : ¬ i < rr.length := by simpa using h
     have : i = rr.length := by omega
     subst this
     refine xr rfl (ym rfl ⟨⟨rfl, ⟨(yg _ _ _ _ (by omega) rfl).symm, y04 _ _ _ rfl, Or.inl rfl⟩, trivial⟩, z6 rfl⟩)
theorem q7p (x0 : Int) (x1 : Int) (x2 : Int) (x3 : Int) (x4 : Int)  : PC Tryz.prog 332 [.agg [.s (.int .i64 x0), .s (.int .i64 x1), .s (.int .i64 x2), .s (.int .i64 x3), .s (.int .i64 x4)]] (.one (.own true [.s (.int .i64 x0), .s (.int .i64 x1), .s (.int .i64 x2), .s (.int .i64 x3), .s (.int .i64 x4)])) := by
 refine PC.begin Tryz.func332 rfl (by kernel_rfl) ?_
 exact xr rfl (ym rfl ⟨⟨rfl, rfl, rfl, rfl, rfl, rfl, trivial⟩, z6 rfl⟩)
theorem q6k (rr : List (List Cell)) (hw : WR 1048576 zp rr) : PC Tryz.prog 244 [.one (.l rr)] (.one (.own false [.l 5 rr])) := by
 refine PC.begin Tryz.func244 rfl (by kernel_rfl) ?_
 have hlen := hw.1
 refine xs rfl rfl (xs rfl (nn_ _) (xs rfl (by omega) (xs rfl (by omega) ?_)))
 refine qb rfl (ι := Nat) (fun i => i ≤ rr.length) (fun i => ⟨[(4, sV (.int .i64 i)), (3, .one (.h 7 rr.length)), (0, .one (.b (.l rr)))], [(7, .arr true 5 0 (rr.take i ++ List.replicate (rr.length - i) [.s (.int .i64 0), .s (.int .i64 0), .s (.int .i64 0), .s (.int .i64 0), .s (.int .i64 0)]))]⟩) (fun i => rr.length - i) 0 (Nat.zero_le _) ?_ ?_
 · repeat' (first | exact trivial | exact rfl | exact Or.inl rfl | refine And.intro ?_ ?_)
 · intro i hi J hJ
   refine xb rfl ?_ ?_ <;> intro h
   · have h : i < rr.length := by simpa using h
     obtain ⟨row, hg⟩ := gx h
     obtain ⟨x0, x1, x2, x3, x4, rfl⟩ := q14 (hw.2 row (List.mem_of_getElem? hg))
     refine xs rfl (nn_ _) (y9 rfl _ hg (xs rfl rfl ?_))
     refine z7 rfl (q7p _ _ _ _ _) rfl ⟨tv6, trivial⟩ ?_
     refine xs rfl (yg _ _ _ _ (by omega) rfl).symm (xs rfl (nn_ _) (y9 rfl [.s (.int .i64 0), .s (.int .i64 0), .s (.int .i64 0), .s (.int .i64 0), .s (.int .i64 0)] (qn _ _ _ _ (by omega) rfl) (xs rfl rfl ?_)))
     refine xs rfl (yg _ _ _ _ (by omega) rfl).symm (y9 rfl [.s (.int .i64 0), .s (.int .i64 0), .s (.int .i64 0), .s (.int .i64 0), .s (.int .i64 0)] (qn _ _ _ _ (by omega) rfl) (xs rfl (by decide) (xs rfl tv6 ?_)))
     refine q9 rfl (hJ _ (i + 1) (by omega) (by omega) ?_)
     repeat' (first | exact trivial | exact rfl | exact Or.inl rfl | exact cwi (by omega) (by omega) (by omega) | refine And.intro ?_ ?_)
     exact q05 _ _ _ _ _ hg rfl
   · have h : ¬ i < rr.length := by simpa using h
     have : i = rr.length := by omega
     subst this
     refine xr rfl (ym rfl ⟨⟨rfl, ⟨(yg _ _ _ _ (by omega) rfl).symm, y04 _ _ _ rfl, Or.inl rfl⟩, trivial⟩, z6 rfl⟩)
theorem z6l (x0 : Int) (x1 : List (List Cell)) (x2 : List (List Cell)) (h1 : WR 1048576 zr x1) (h2 : WR 1048576 zp x2) : PC Tryz.prog 138 [.agg [.s (.int .i64 x0), .l x1, .l x2]] (.one (.own true [.s (.int .i64 x0), .l 6 x1, .l 5 x2])) := by
 refine PC.begin Tryz.func138 rfl (by kernel_rfl) ?_
 refine z7 rfl (q93 _ h1) rfl ⟨trivial, trivial⟩ (z7 rfl (q6k _ h2) rfl ⟨trivial, trivial⟩ ?_)
 exact xr rfl (ym rfl ⟨⟨rfl, rfl, ⟨rfl, rfl, .inl rfl⟩, ⟨rfl, rfl, .inl rfl⟩, trivial⟩, z6 rfl⟩)
theorem y5v (rr : List (List Cell)) (hw : WR 1048576 qe rr) : PC Tryz.prog 58 [.one (.l rr)] (.one (.own false [.l 3 rr])) := by
 refine PC.begin Tryz.func58 rfl (by kernel_rfl) ?_
 have hlen := hw.1
 refine xs rfl rfl (xs rfl (nn_ _) (xs rfl (by omega) (xs rfl (by omega) ?_)))
 refine qb rfl (ι := Nat) (fun i => i ≤ rr.length) (fun i => ⟨[(4, sV (.int .i64 i)), (3, .one (.h 7 rr.length)), (0, .one (.b (.l rr)))], [(7, .arr true 3 0 (rr.take i ++ List.replicate (rr.length - i) [.s (.int .i64 0), .l [], .l []]))]⟩) (fun i => rr.length - i) 0 (Nat.zero_le _) ?_ ?_
 · repeat' (first | exact trivial | exact rfl | exact Or.inl rfl | refine And.intro ?_ ?_)
 · intro i hi J hJ
   refine xb rfl ?_ ?_ <;> intro h
   · have h : i < rr.length := by simpa using h
     obtain ⟨row, hg⟩ := gx h
     obtain ⟨x0, x1, x2, rfl, h1, h2⟩ := y0q (hw.2 row (List.mem_of_getElem? hg))
     refine xs rfl (nn_ _) (y9 rfl _ hg (xs rfl rfl ?_))
     refine z7 rfl (z6l _ _ _ h1 h2) rfl ⟨tv4, trivial⟩ ?_
     refine xs rfl (yg _ _ _ _ (by omega) rfl).symm (xs rfl (nn_ _) (y9 rfl [.s (.int .i64 0), .l [], .l []] (qn _ _ _ _ (by omega) rfl) (xs rfl rfl ?_)))
     refine xs rfl (yg _ _ _ _ (by omega) rfl).symm (y9 rfl [.s (.int .i64 0), .l [], .l []] (qn _ _ _ _ (by omega) rfl) (xs rfl (by decide) (xs rfl ⟨trivial, ⟨rfl, rfl⟩, ⟨rfl, rfl⟩, trivial⟩ ?_)))
     refine q9 rfl (hJ _ (i + 1) (by omega) (by omega) ?_)
     repeat' (first | exact trivial | exact rfl | exact Or.inl rfl | exact cwi (by omega) (by omega) (by omega) | refine And.intro ?_ ?_)
     exact q05 _ _ _ _ _ hg rfl
   · have h : ¬ i < rr.length := by simpa using h
     have : i = rr.length := by omega
     subst this
     refine xr rfl (ym rfl ⟨⟨rfl, ⟨(yg _ _ _ _ (by omega) rfl).symm, y04 _ _ _ rfl, Or.inl rfl⟩, trivial⟩, z6 rfl⟩)
theorem q5v (x0 : Int) (x1 : Int) (x2 : Int) (x3 : Int) (x4 : Int) (x5 : Int) (x6 : Int) (x7 : Int) (x8 : Int)  : PC Tryz.prog 139 [.agg [.s (.int .i64 x0), .s (.int .i64 x1), .s (.int .i64 x2), .s (.int .i64 x3), .s (.int .i64 x4), .s (.int .i64 x5), .s (.int .i64 x6), .s (.int .i64 x7), .s (.int .i64 x8)]] (.one (.own true [.s (.int .i64 x0), .s (.int .i64 x1), .s (.int .i64 x2), .s (.int .i64 x3), .s (.int .i64 x4), .s (.int .i64 x5), .s (.int .i64 x6), .s (.int .i64 x7), .s (.int .i64 x8)])) := by
 refine PC.begin Tryz.func139 rfl (by kernel_rfl) ?_
 refine z7 rfl (q3t _ _) rfl ⟨tv3, trivial⟩ ?_
 exact xr rfl (ym rfl ⟨⟨rfl, rfl, rfl, rfl, rfl, rfl, rfl, rfl, rfl, rfl, trivial⟩, z6 rfl⟩)
theorem y57 (rr : List (List Cell)) (hw : WR 1048576 qg rr) : PC Tryz.prog 59 [.one (.l rr)] (.one (.own false [.l 9 rr])) := by
 refine PC.begin Tryz.func59 rfl (by kernel_rfl) ?_
 have hlen := hw.1
 refine xs rfl rfl (xs rfl (nn_ _) (xs rfl (by omega) (xs rfl (by omega) ?_)))
 refine qb rfl (ι := Nat) (fun i => i ≤ rr.length) (fun i => ⟨[(4, sV (.int .i64 i)), (3, .one (.h 7 rr.length)), (0, .one (.b (.l rr)))], [(7, .arr true 9 0 (rr.take i ++ List.replicate (rr.length - i) [.s (.int .i64 0), .s (.int .i64 0), .s (.int .i64 0), .s (.int .i64 0), .s (.int .i64 0), .s (.int .i64 0), .s (.int .i64 0), .s (.int .i64 0), .s (.int .i64 0)]))]⟩) (fun i => rr.length - i) 0 (Nat.zero_le _) ?_ ?_
 · repeat' (first | exact trivial | exact rfl | exact Or.inl rfl | refine And.intro ?_ ?_)
 · intro i hi J hJ
   refine xb rfl ?_ ?_ <;> intro h
   · have h : i < rr.length := by simpa using h
     obtain ⟨row, hg⟩ := gx h
     obtain ⟨x0, x1, x2, x3, x4, x5, x6, x7, x8, rfl⟩ := q0j (hw.2 row (List.mem_of_getElem? hg))
     refine xs rfl (nn_ _) (y9 rfl _ hg (xs rfl rfl ?_))
     refine z7 rfl (q5v _ _ _ _ _ _ _ _ _) rfl ⟨tv10, trivial⟩ ?_
     refine xs rfl (yg _ _ _ _ (by omega) rfl).symm (xs rfl (nn_ _) (y9 rfl [.s (.int .i64 0), .s (.int .i64 0), .s (.int .i64 0), .s (.int .i64 0), .s (.int .i64 0), .s (.int .i64 0), .s (.int .i64 0), .s (.int .i64 0), .s (.int .i64 0)] (qn _ _ _ _ (by omega) rfl) (xs rfl rfl ?_)))
     refine xs rfl (yg _ _ _ _ (by omega) rfl).symm (y9 rfl [.s (.int .i64 0), .s (.int .i64 0), .s (.int .i64 0), .s (.int .i64 0), .s (.int .i64 0), .s (.int .i64 0), .s (.int .i64 0), .s (.int .i64 0), .s (.int .i64 0)] (qn _ _ _ _ (by omega) rfl) (xs rfl (by decide) (xs rfl tv10 ?_)))
     refine q9 rfl (hJ _ (i + 1) (by omega) (by omega) ?_)
     repeat' (first | exact trivial | exact rfl | exact Or.inl rfl | exact cwi (by omega) (by omega) (by omega) | refine And.intro ?_ ?_)
     exact q05 _ _ _ _ _ hg rfl
   · have h : ¬ i < rr.length := by simpa using h
     have : i = rr.length := by omega
     subst this
     refine xr rfl (ym rfl ⟨⟨rfl, ⟨(yg _ _ _ _ (by omega) rfl).symm, y04 _ _ _ rfl, Or.inl rfl⟩, trivial⟩, z6 rfl⟩)
theorem z5v (x0 : List (List Cell)) (x1 : List (List Cell)) (x2 : List (List Cell)) (x3 : List (List Cell)) (x4 : List (List Cell)) (h0 : WR 1048576 z8 x0) (h1 : WR 1048576 zg x1) (h2 : WR 1048576 qa x2) (h3 : WR 1048576 qe x3) (h4 : WR 1048576 qg x4) : PC Tryz.prog 11 [.agg [.l x0, .l x1, .l x2, .l x3, .l x4]] (.one (.own true [.l 2 x0, .l 6 x1, .l 1 x2, .l 3 x3, .l 9 x4])) := by
 refine PC.begin Tryz.func11 rfl (by kernel_rfl) ?_
 refine z7 rfl (y1x _ h0) rfl ⟨trivial, trivial⟩ (z7 rfl (q6l _ h1) rfl ⟨trivial, trivial⟩ (z7 rfl (y43 _ h2) rfl ⟨trivial, trivial⟩ (z7 rfl (y5v _ h3) rfl ⟨trivial, trivial⟩ (z7 rfl (y57 _ h4) rfl ⟨trivial, trivial⟩ ?_))))
 exact xr rfl (ym rfl ⟨⟨rfl, ⟨rfl, rfl, .inl rfl⟩, ⟨rfl, rfl, .inl rfl⟩, ⟨rfl, rfl, .inl rfl⟩, ⟨rfl, rfl, .inl rfl⟩, ⟨rfl, rfl, .inl rfl⟩, trivial⟩, z6 rfl⟩)
end Go.Proofs.YtohbmmpkcibnpaaGreat
end
section
namespace Go.Proofs.YtohbmmpkcibnpaaGreat
open Go Go.Sx
set_option maxRecDepth 20000
set_option maxHeartbeats 4000000
theorem q6b (z : Nat) (rr : List (List Cell)) (k : Int) (hw : WR 9000000000000000000 y02 rr) : PG Tryz.prog 100 [.one (.giv true z rr), .one (.bor (i64 k))] (rI (mkR (mk y02) rr k).2) [(0, (mkR (mk y02) rr k).1)] := by
 refine PG.begin Tryz.func100 rfl (by kernel_rfl) ?_
 have hlen := hw.1
 refine qb rfl (ι := Nat) (fun i => i ≤ rr.length) (fun i => ⟨[(5, sV (.int .i64 i)), (1, sV (.int .i64 (mdk (mk y02) rr k i))), (0, .one (.h 1000000000 rr.length))], [(1000000000, .arr true z 0 (md (mk y02) rr k i))]⟩) (fun i => rr.length - i) 0 (Nat.zero_le _) ?_ ?_
 · exact ⟨⟨rfl, congrArg (fun n => Cell.s (.int .i64 n)) z05.symm, ⟨rfl, rfl, rfl⟩, trivial⟩, ⟨⟨y0f.symm, .inl rfl, .inl rfl⟩, trivial⟩, rfl⟩
 · intro i hi J hJ
   refine xb rfl ?_ ?_ <;> intro h
   · have h : i < rr.length := by simpa using h
     obtain ⟨row, hg⟩ := gx h
     obtain ⟨x0, x1, x2, x3, rfl⟩ := y2o (hw.2 row (List.mem_of_getElem? hg))
     have hl := z10 (f := (mk y02)) (k := k) hi
     have hg0 := q0z (f := (mk y02)) (k := k) hg
     have hlt : i < (md (mk y02) rr k i).length := by omega
     refine xs rfl (hl).symm (xs rfl (nn_ _) (y9 rfl _ hg0 (xs rfl rfl (xs rfl (hl).symm (y9 rfl _ hg0 (xs rfl (by show 0 + 1 ≤ 4; omega) (xs rfl ⟨trivial, trivial⟩ ?_)))))))
     refine xs rfl (yc (hl)).symm (xs rfl (nn_ _) (y9 rfl _ (q00 (hl) h) (xs rfl rfl (xs rfl (yc (hl)).symm (y9 rfl _ (q00 (hl) h) (xs rfl (by show 1 + 1 ≤ 4; omega) (xs rfl ⟨trivial, trivial⟩ ?_)))))))
     refine xs rfl (yc (yc (hl))).symm (xs rfl (nn_ _) (y9 rfl _ (q00 (yc (hl)) h) (xs rfl rfl (xs rfl (yc (yc (hl))).symm (y9 rfl _ (q00 (yc (hl)) h) (xs rfl (by show 2 + 1 ≤ 4; omega) (xs rfl ⟨trivial, trivial⟩ ?_)))))))
     refine xs rfl (yc (yc (yc (hl)))).symm (xs rfl (nn_ _) (y9 rfl _ (q00 (yc (yc (hl))) h) (xs rfl rfl (xs rfl (yc (yc (yc (hl)))).symm (y9 rfl _ (q00 (yc (yc (hl))) h) (xs rfl (by show 3 + 1 ≤ 4; omega) (xs rfl ⟨trivial, trivial⟩ ?_)))))))
     refine q9 rfl (hJ _ (i + 1) (by omega) (by omega) ?_)
     refine ⟨⟨cwi (by omega) (by omega) (by omega), ?_, ⟨rfl, rfl, rfl⟩, trivial⟩, ⟨⟨?_, .inl rfl, .inl rfl⟩, trivial⟩, rfl⟩
     · rw [q04 hg]; rfl
     · refine Eq.trans ?_ (y10 hg)
       try simp only [Int.toNat_natCast, zv hg0, ssr hlt, List.set_set]
       rfl
   · have h : ¬ i < rr.length := by simpa using h
     have : i = rr.length := by omega
     subst this
     exact xr rfl (y1n rfl ⟨⟨rfl, congrArg (Value.int .i64) q0f, trivial⟩, z6 rfl⟩ ⟨⟨rfl, rfl, y0z, qq _ _ _, qs hw⟩, trivial⟩)
theorem q1b (z : Nat) (rr : List (List Cell)) (k : Int) (hw : WR 9000000000000000000 z8 rr) : PG Tryz.prog 95 [.one (.giv true z rr), .one (.bor (i64 k))] (rI (mkR (mk z8) rr k).2) [(0, (mkR (mk z8) rr k).1)] := by
 refine PG.begin Tryz.func95 rfl (by kernel_rfl) ?_
 have hlen := hw.1
 refine qb rfl (ι := Nat) (fun i => i ≤ rr.length) (fun i => ⟨[(5, sV (.int .i64 i)), (1, sV (.int .i64 (mdk (mk z8) rr k i))), (0, .one (.h 1000000000 rr.length))], [(1000000000, .arr true z 0 (md (mk z8) rr k i))]⟩) (fun i => rr.length - i) 0 (Nat.zero_le _) ?_ ?_
 · exact ⟨⟨rfl, congrArg (fun n => Cell.s (.int .i64 n)) z05.symm, ⟨rfl, rfl, rfl⟩, trivial⟩, ⟨⟨y0f.symm, .inl rfl, .inl rfl⟩, trivial⟩, rfl⟩
 · intro i hi J hJ
   refine xb rfl ?_ ?_ <;> intro h
   · have h : i < rr.length := by simpa using h
     obtain ⟨row, hg⟩ := gx h
     obtain ⟨x0, x1, rfl, h1⟩ := z0c (hw.2 row (List.mem_of_getElem? hg))
     have hl := z10 (f := (mk z8)) (k := k) hi
     have hg0 := q0z (f := (mk z8)) (k := k) hg
     have hlt : i < (md (mk z8) rr k i).length := by omega
     refine xs rfl (hl).symm (xs rfl (nn_ _) (y9 rfl _ hg0 (xs rfl rfl (xs rfl (hl).symm (y9 rfl _ hg0 (xs rfl (by show 0 + 1 ≤ 2; omega) (xs rfl ⟨trivial, trivial⟩ ?_)))))))
     refine xs rfl (yc (hl)).symm (xs rfl (nn_ _) (y9 rfl _ (q00 (hl) h) (xs rfl rfl (xs rfl (yc (hl)).symm (y9 rfl _ (q00 (hl) h) ?_)))))
     refine y08 rfl (q6b 0 _ _ h1) ⟨⟨rfl, rfl, rfl, _, (q00 (hl) h), rfl⟩, rfl, trivial⟩ rfl ?_
     refine q9 rfl (hJ _ (i + 1) (by omega) (by omega) ?_)
     refine ⟨⟨cwi (by omega) (by omega) (by omega), ?_, ⟨rfl, rfl, rfl⟩, trivial⟩, ⟨⟨?_, .inl rfl, .inl rfl⟩, trivial⟩, rfl⟩
     · rw [q04 hg]; rfl
     · refine Eq.trans ?_ (y10 hg)
       try simp only [Int.toNat_natCast, zv hg0, ssr hlt, List.set_set]
       rfl
   · have h : ¬ i < rr.length := by simpa using h
     have : i = rr.length := by omega
     subst this
     exact xr rfl (y1n rfl ⟨⟨rfl, congrArg (Value.int .i64) q0f, trivial⟩, z6 rfl⟩ ⟨⟨rfl, rfl, y0z, qq _ _ _, qs hw⟩, trivial⟩)
theorem z1h (z : Nat) (rr : List (List Cell)) (k : Int) (hw : WR 9000000000000000000 q7 rr) : PG Tryz.prog 179 [.one (.giv true z rr), .one (.bor (i64 k))] (rI (mkR (mk q7) rr k).2) [(0, (mkR (mk q7) rr k).1)] := by
 refine PG.begin Tryz.func179 rfl (by kernel_rfl) ?_
 have hlen := hw.1
 refine qb rfl (ι := Nat) (fun i => i ≤ rr.length) (fun i => ⟨[(5, sV (.int .i64 i)), (1, sV (.int .i64 (mdk (mk q7) rr k i))), (0, .one (.h 1000000000 rr.length))], [(1000000000, .arr true z 0 (md (mk q7) rr k i))]⟩) (fun i => rr.length - i) 0 (Nat.zero_le _) ?_ ?_
 · exact ⟨⟨rfl, congrArg (fun n => Cell.s (.int .i64 n)) z05.symm, ⟨rfl, rfl, rfl⟩, trivial⟩, ⟨⟨y0f.symm, .inl rfl, .inl rfl⟩, trivial⟩, rfl⟩
 · intro i hi J hJ
   refine xb rfl ?_ ?_ <;> intro h
   · have h : i < rr.length := by simpa using h
     obtain ⟨row, hg⟩ := gx h
     obtain ⟨x0, x1, x2, rfl⟩ := z0a (hw.2 row (List.mem_of_getElem? hg))
     have hl := z10 (f := (mk q7)) (k := k) hi
     have hg0 := q0z (f := (mk q7)) (k := k) hg
     have hlt : i < (md (mk q7) rr k i).length := by omega
     refine xs rfl (hl).symm (xs rfl (nn_ _) (y9 rfl _ hg0 (xs rfl rfl (xs rfl (hl).symm (y9 rfl _ hg0 (xs rfl (by show 0 + 1 ≤ 3; omega) (xs rfl ⟨trivial, trivial⟩ ?_)))))))
     refine xs rfl (yc (hl)).symm (xs rfl (nn_ _) (y9 rfl _ (q00 (hl) h) (xs rfl rfl (xs rfl (yc (hl)).symm (y9 rfl _ (q00 (hl) h) (xs rfl (by show 1 + 1 ≤ 3; omega) (xs rfl ⟨trivial, trivial⟩ ?_)))))))
     refine xs rfl (yc (yc (hl))).symm (xs rfl (nn_ _) (y9 rfl _ (q00 (yc (hl)) h) (xs rfl rfl (xs rfl (yc (yc (hl))).symm (y9 rfl _ (q00 (yc (hl)) h) (xs rfl (by show 2 + 1 ≤ 3; omega) (xs rfl ⟨trivial, trivial⟩ ?_)))))))
     refine q9 rfl (hJ _ (i + 1) (by omega) (by omega) ?_)
     refine ⟨⟨cwi (by omega) (by omega) (by omega), ?_, ⟨rfl, rfl, rfl⟩, trivial⟩, ⟨⟨?_, .inl rfl, .inl rfl⟩, trivial⟩, rfl⟩
     · rw [q04 hg]; rfl
     · refine Eq.trans ?_ (y10 hg)
       try simp only [Int.toNat_natCast, zv hg0, ssr hlt, List.set_set]
       rfl
   · have h : ¬ i < rr.length := by simpa using h
     have : i = rr.length := by omega
     subst this
     exact xr rfl (y1n rfl ⟨⟨rfl, congrArg (Value.int .i64) q0f, trivial⟩, z6 rfl⟩ ⟨⟨rfl, rfl, y0z, qq _ _ _, qs hw⟩, trivial⟩)
theorem z2x (z : Nat) (rr : List (List Cell)) (k : Int) (hw : WR 9000000000000000000 zi rr) : PG Tryz.prog 180 [.one (.giv true z rr), .one (.bor (i64 k))] (rI (mkR (mk zi) rr k).2) [(0, (mkR (mk zi) rr k).1)] := by
 refine PG.begin Tryz.func180 rfl (by kernel_rfl) ?_
 have hlen := hw.1
 refine qb rfl (ι := Nat) (fun i => i ≤ rr.length) (fun i => ⟨[(5, sV (.int .i64 i)), (1, sV (.int .i64 (mdk (mk zi) rr k i))), (0, .one (.h 1000000000 rr.length))], [(1000000000, .arr true z 0 (md (mk zi) rr k i))]⟩) (fun i => rr.length - i) 0 (Nat.zero_le _) ?_ ?_
 · exact ⟨⟨rfl, congrArg (fun n => Cell.s (.int .i64 n)) z05.symm, ⟨rfl, rfl, rfl⟩, trivial⟩, ⟨⟨y0f.symm, .inl rfl, .inl rfl⟩, trivial⟩, rfl⟩
 · intro i hi J hJ
   refine xb rfl ?_ ?_ <;> intro h
   · have h : i < rr.length := by simpa using h
     obtain ⟨row, hg⟩ := gx h
     obtain ⟨x0, x1, rfl⟩ := y1p (hw.2 row (List.mem_of_getElem? hg))
     have hl := z10 (f := (mk zi)) (k := k) hi
     have hg0 := q0z (f := (mk zi)) (k := k) hg
     have hlt : i < (md (mk zi) rr k i).length := by omega
     refine xs rfl (hl).symm (xs rfl (nn_ _) (y9 rfl _ hg0 (xs rfl rfl (xs rfl (hl).symm (y9 rfl _ hg0 (xs rfl (by show 0 + 1 ≤ 2; omega) (xs rfl ⟨trivial, trivial⟩ ?_)))))))
     refine xs rfl (yc (hl)).symm (xs rfl (nn_ _) (y9 rfl _ (q00 (hl) h) (xs rfl rfl (xs rfl (yc (hl)).symm (y9 rfl _ (q00 (hl) h) (xs rfl (by show 1 + 1 ≤ 2; omega) (xs rfl ⟨trivial, trivial⟩ ?_)))))))
     refine q9 rfl (hJ _ (i + 1) (by omega) (by omega) ?_)
     refine ⟨⟨cwi (by omega) (by omega) (by omega), ?_, ⟨rfl, rfl, rfl⟩, trivial⟩, ⟨⟨?_, .inl rfl, .inl rfl⟩, trivial⟩, rfl⟩
     · rw [q04 hg]; rfl
     · refine Eq.trans ?_ (y10 hg)
       try simp only [Int.toNat_natCast, zv hg0, ssr hlt, List.set_set]
       rfl
   · have h : ¬ i < rr.length := by simpa using h
     have : i = rr.length := by omega
     subst this
     exact xr rfl (y1n rfl ⟨⟨rfl, congrArg (Value.int .i64) q0f, trivial⟩, z6 rfl⟩ ⟨⟨rfl, rfl, y0z, qq _ _ _, qs hw⟩, trivial⟩)
theorem q19 (z : Nat) (rr : List (List Cell)) (k : Int) (hw : WR 9000000000000000000 (.i .i64 .nil) rr) : PG Tryz.prog 94 [.one (.giv true z rr), .one (.bor (i64 k))] (rI (mkR (mk (.i .i64 .nil)) rr k).2) [(0, (mkR (mk (.i .i64 .nil)) rr k).1)] := by
 refine PG.begin Tryz.func94 rfl (by kernel_rfl) ?_
 have hlen := hw.1
 refine qb rfl (ι := Nat) (fun i => i ≤ rr.length) (fun i => ⟨[(5, sV (.int .i64 i)), (1, sV (.int .i64 (mdk (mk (.i .i64 .nil)) rr k i))), (0, .one (.h 1000000000 rr.length))], [(1000000000, .arr true z 0 (md (mk (.i .i64 .nil)) rr k i))]⟩) (fun i => rr.length - i) 0 (Nat.zero_le _) ?_ ?_
 · exact ⟨⟨rfl, congrArg (fun n => Cell.s (.int .i64 n)) z05.symm, ⟨rfl, rfl, rfl⟩, trivial⟩, ⟨⟨y0f.symm, .inl rfl, .inl rfl⟩, trivial⟩, rfl⟩
 · intro i hi J hJ
   refine xb rfl ?_ ?_ <;> intro h
   · have h : i < rr.length := by simpa using h
     obtain ⟨row, hg⟩ := gx h
     obtain ⟨x0, _, rfl, hnil⟩ := ((hw.2 row (List.mem_of_getElem? hg))).zz; obtain rfl := hnil.qr
     have hl := z10 (f := (mk (.i .i64 .nil))) (k := k) hi
     have hg0 := q0z (f := (mk (.i .i64 .nil))) (k := k) hg
     have hlt : i < (md (mk (.i .i64 .nil)) rr k i).length := by omega
     refine xs rfl (hl).symm (xs rfl (nn_ _) (y9 rfl _ hg0 (xs rfl rfl (xs rfl (hl).symm (y9 rfl _ hg0 (xs rfl (by show 0 + 1 ≤ 1; omega) (xs rfl ⟨trivial, trivial⟩ ?_)))))))
     refine q9 rfl (hJ _ (i + 1) (by omega) (by omega) ?_)
     refine ⟨⟨cwi (by omega) (by omega) (by omega), ?_, ⟨rfl, rfl, rfl⟩, trivial⟩, ⟨⟨?_, .inl rfl, .inl rfl⟩, trivial⟩, rfl⟩
     · rw [q04 hg]; rfl
     · refine Eq.trans ?_ (y10 hg)
       try simp only [Int.toNat_natCast, zv hg0, ssr hlt, List.set_set]
       rfl
   · have h : ¬ i < rr.length := by simpa using h
     have : i = rr.length := by omega
     subst this
     exact xr rfl (y1n rfl ⟨⟨rfl, congrArg (Value.int .i64) q0f, trivial⟩, z6 rfl⟩ ⟨⟨rfl, rfl, y0z, qq _ _ _, qs hw⟩, trivial⟩)
theorem z4x (z : Nat) (rr : List (List Cell)) (k : Int) (hw : WR 9000000000000000000 zg rr) : PG Tryz.prog 96 [.one (.giv true z rr), .one (.bor (i64 k))] (rI (mkR (mk zg) rr k).2) [(0, (mkR (mk zg) rr k).1)] := by
 refine PG.begin Tryz.func96 rfl (by kernel_rfl) ?_
 have hlen := hw.1
 refine qb rfl (ι := Nat) (fun i => i ≤ rr.length) (fun i => ⟨[(5, sV (.int .i64 i)), (1, sV (.int .i64 (mdk (mk zg) rr k i))), (0, .one (.h 1000000000 rr.length))], [(1000000000, .arr true z 0 (md (mk zg) rr k i))]⟩) (fun i => rr.length - i) 0 (Nat.zero_le _) ?_ ?_
 · exact ⟨⟨rfl, congrArg (fun n => Cell.s (.int .i64 n)) z05.symm, ⟨rfl, rfl, rfl⟩, trivial⟩, ⟨⟨y0f.symm, .inl rfl, .inl rfl⟩, trivial⟩, rfl⟩
 · intro i hi J hJ
   refine xb rfl ?_ ?_ <;> intro h
   · have h : i < rr.length := by simpa using h
     obtain ⟨row, hg⟩ := gx h
     obtain ⟨x0, x1, x2, x3, x4, x5, rfl, h1, h2, h3, h4, h5⟩ := z15 (hw.2 row (List.mem_of_getElem? hg))
     have hl := z10 (f := (mk zg)) (k := k) hi
     have hg0 := q0z (f := (mk zg)) (k := k) hg
     have hlt : i < (md (mk zg) rr k i).length := by omega
     refine xs rfl (hl).symm (xs rfl (nn_ _) (y9 rfl _ hg0 (xs rfl rfl (xs rfl (hl).symm (y9 rfl _ hg0 (xs rfl (by show 0 + 1 ≤ 6; omega) (xs rfl ⟨trivial, trivial⟩ ?_)))))))
     refine xs rfl (yc (hl)).symm (xs rfl (nn_ _) (y9 rfl _ (q00 (hl) h) (xs rfl rfl (xs rfl (yc (hl)).symm (y9 rfl _ (q00 (hl) h) ?_)))))
     refine y08 rfl (z1h 0 _ _ h1) ⟨⟨rfl, rfl, rfl, _, (q00 (hl) h), rfl⟩, rfl, trivial⟩ rfl ?_
     refine xs rfl (lsr (yc (hl))).symm (xs rfl (nn_ _) (y9 rfl _ (zf (q00 (hl) h)) (xs rfl rfl (xs rfl (lsr (yc (hl))).symm (y9 rfl _ (zf (q00 (hl) h)) ?_)))))
     refine y08 rfl (z2x 0 _ _ h2) ⟨⟨rfl, rfl, rfl, _, (zf (q00 (hl) h)), rfl⟩, rfl, trivial⟩ rfl ?_
     refine xs rfl (lsr (lsr (yc (hl)))).symm (xs rfl (nn_ _) (y9 rfl _ (zf (zf (q00 (hl) h))) (xs rfl rfl (xs rfl (lsr (lsr (yc (hl)))).symm (y9 rfl _ (zf (zf (q00 (hl) h))) ?_)))))
     refine y08 rfl (q1b 0 _ _ h3) ⟨⟨rfl, rfl, rfl, _, (zf (zf (q00 (hl) h))), rfl⟩, rfl, trivial⟩ rfl ?_
     refine xs rfl (lsr (lsr (lsr (yc (hl))))).symm (xs rfl (nn_ _) (y9 rfl _ (zf (zf (zf (q00 (hl) h)))) (xs rfl rfl (xs rfl (lsr (lsr (lsr (yc (hl))))).symm (y9 rfl _ (zf (zf (zf (q00 (hl) h)))) ?_)))))
     refine y08 rfl (z2x 0 _ _ h4) ⟨⟨rfl, rfl, rfl, _, (zf (zf (zf (q00 (hl) h)))), rfl⟩, rfl, trivial⟩ rfl ?_
     refine xs rfl (lsr (lsr (lsr (lsr (yc (hl)))))).symm (xs rfl (nn_ _) (y9 rfl _ (zf (zf (zf (zf (q00 (hl) h))))) (xs rfl rfl (xs rfl (lsr (lsr (lsr (lsr (yc (hl)))))).symm (y9 rfl _ (zf (zf (zf (zf (q00 (hl) h))))) ?_)))))
     refine y08 rfl (q19 0 _ _ h5) ⟨⟨rfl, rfl, rfl, _, (zf (zf (zf (zf (q00 (hl) h))))), rfl⟩, rfl, trivial⟩ rfl ?_
     refine q9 rfl (hJ _ (i + 1) (by omega) (by omega) ?_)
     refine ⟨⟨cwi (by omega) (by omega) (by omega), ?_, ⟨rfl, rfl, rfl⟩, trivial⟩, ⟨⟨?_, .inl rfl, .inl rfl⟩, trivial⟩, rfl⟩
     · rw [q04 hg]; rfl
     · refine Eq.trans ?_ (y10 hg)
       try simp only [Int.toNat_natCast, zv hg0, ssr hlt, List.set_set]
       rfl
   · have h : ¬ i < rr.length := by simpa using h
     have : i = rr.length := by omega
     subst this
     exact xr rfl (y1n rfl ⟨⟨rfl, congrArg (Value.int .i64) q0f, trivial⟩, z6 rfl⟩ ⟨⟨rfl, rfl, y0z, qq _ _ _, qs hw⟩, trivial⟩)
theorem y2x (z : Nat) (rr : List (List Cell)) (k : Int) (hw : WR 9000000000000000000 zo rr) : PG Tryz.prog 279 [.one (.giv true z rr), .one (.bor (i64 k))] (rI (mkR (mk zo) rr k).2) [(0, (mkR (mk zo) rr k).1)] := by
 refine PG.begin Tryz.func279 rfl (by kernel_rfl) ?_
 have hlen := hw.1
 refine qb rfl (ι := Nat) (fun i => i ≤ rr.length) (fun i => ⟨[(5, sV (.int .i64 i)), (1, sV (.int .i64 (mdk (mk zo) rr k i))), (0, .one (.h 1000000000 rr.length))], [(1000000000, .arr true z 0 (md (mk zo) rr k i))]⟩) (fun i => rr.length - i) 0 (Nat.zero_le _) ?_ ?_
 · exact ⟨⟨rfl, congrArg (fun n => Cell.s (.int .i64 n)) z05.symm, ⟨rfl, rfl, rfl⟩, trivial⟩, ⟨⟨y0f.symm, .inl rfl, .inl rfl⟩, trivial⟩, rfl⟩
 · intro i hi J hJ
   refine xb rfl ?_ ?_ <;> intro h
   · have h : i < rr.length := by simpa using h
     obtain ⟨row, hg⟩ := gx h
     obtain ⟨x0, x1, rfl⟩ := z1q (hw.2 row (List.mem_of_getElem? hg))
     have hl := z10 (f := (mk zo)) (k := k) hi
     have hg0 := q0z (f := (mk zo)) (k := k) hg
     have hlt : i < (md (mk zo) rr k i).length := by omega
     refine xs rfl (hl).symm (xs rfl (nn_ _) (y9 rfl _ hg0 (xs rfl rfl (xs rfl (hl).symm (y9 rfl _ hg0 (xs rfl (by show 0 + 1 ≤ 2; omega) (xs rfl ⟨trivial, trivial⟩ ?_)))))))
     refine xs rfl (yc (hl)).symm (xs rfl (nn_ _) (y9 rfl _ (q00 (hl) h) (xs rfl rfl (xs rfl (yc (hl)).symm (y9 rfl _ (q00 (hl) h) (xs rfl (by show 1 + 1 ≤ 2; omega) (xs rfl ⟨trivial, trivial⟩ ?_)))))))
     refine q9 rfl (hJ _ (i + 1) (by omega) (by omega) ?_)
     refine ⟨⟨cwi (by omega) (by omega) (by omega), ?_, ⟨rfl, rfl, rfl⟩, trivial⟩, ⟨⟨?_, .inl rfl, .inl rfl⟩, trivial⟩, rfl⟩
     · rw [q04 hg]; rfl
     · refine Eq.trans ?_ (y10 hg)
       try simp only [Int.toNat_natCast, zv hg0, ssr hlt, List.set_set]
       rfl
   · have h : ¬ i < rr.length := by simpa using h
     have : i = rr.length := by omega
     subst this
     exact xr rfl (y1n rfl ⟨⟨rfl, congrArg (Value.int .i64) q0f, trivial⟩, z6 rfl⟩ ⟨⟨rfl, rfl, y0z, qq _ _ _, qs hw⟩, trivial⟩)
theorem y5l (z : Nat) (rr : List (List Cell)) (k : Int) (hw : WR 9000000000000000000 zn rr) : PG Tryz.prog 181 [.one (.giv true z rr), .one (.bor (i64 k))] (rI (mkR (mk zn) rr k).2) [(0, (mkR (mk zn) rr k).1)] := by
 refine PG.begin Tryz.func181 rfl (by kernel_rfl) ?_
 have hlen := hw.1
 refine qb rfl (ι := Nat) (fun i => i ≤ rr.length) (fun i => ⟨[(5, sV (.int .i64 i)), (1, sV (.int .i64 (mdk (mk zn) rr k i))), (0, .one (.h 1000000000 rr.length))], [(1000000000, .arr true z 0 (md (mk zn) rr k i))]⟩) (fun i => rr.length - i) 0 (Nat.zero_le _) ?_ ?_
 · exact ⟨⟨rfl, congrArg (fun n => Cell.s (.int .i64 n)) z05.symm, ⟨rfl, rfl, rfl⟩, trivial⟩, ⟨⟨y0f.symm, .inl rfl, .inl rfl⟩, trivial⟩, rfl⟩
 · intro i hi J hJ
   refine xb rfl ?_ ?_ <;> intro h
   · have h : i < rr.length := by simpa using h
     obtain ⟨row, hg⟩ := gx h
     obtain ⟨x0, x1, x2, x3, x4, x5, rfl, h5⟩ := q1p (hw.2 row (List.mem_of_getElem? hg))
     have hl := z10 (f := (mk zn)) (k := k) hi
     have hg0 := q0z (f := (mk zn)) (k := k) hg
     have hlt : i < (md (mk zn) rr k i).length := by omega
     refine xs rfl (hl).symm (xs rfl (nn_ _) (y9 rfl _ hg0 (xs rfl rfl (xs rfl (hl).symm (y9 rfl _ hg0 (xs rfl (by show 0 + 1 ≤ 6; omega) (xs rfl ⟨trivial, trivial⟩ ?_)))))))
     refine xs rfl (yc (hl)).symm (xs rfl (nn_ _) (y9 rfl _ (q00 (hl) h) (xs rfl rfl (xs rfl (yc (hl)).symm (y9 rfl _ (q00 (hl) h) (xs rfl (by show 1 + 1 ≤ 6; omega) (xs rfl ⟨trivial, trivial⟩ ?_)))))))
     refine xs rfl (yc (yc (hl))).symm (xs rfl (nn_ _) (y9 rfl _ (q00 (yc (hl)) h) (xs rfl rfl (xs rfl (yc (yc (hl))).symm (y9 rfl _ (q00 (yc (hl)) h) (xs rfl (by show 2 + 1 ≤ 6; omega) (xs rfl ⟨trivial, trivial⟩ ?_)))))))
     refine xs rfl (yc (yc (yc (hl)))).symm (xs rfl (nn_ _) (y9 rfl _ (q00 (yc (yc (hl))) h) (xs rfl rfl (xs rfl (yc (yc (yc (hl)))).symm (y9 rfl _ (q00 (yc (yc (hl))) h) (xs rfl (by show 3 + 1 ≤ 6; omega) (xs rfl ⟨trivial, trivial⟩ ?_)))))))
     refine xs rfl (yc (yc (yc (yc (hl))))).symm (xs rfl (nn_ _) (y9 rfl _ (q00 (yc (yc (yc (hl)))) h) (xs rfl rfl (xs rfl (yc (yc (yc (yc (hl))))).symm (y9 rfl _ (q00 (yc (yc (yc (hl)))) h) (xs rfl (by show 4 + 1 ≤ 6; omega) (xs rfl ⟨trivial, trivial⟩ ?_)))))))
     refine xs rfl (yc (yc (yc (yc (yc (hl)))))).symm (xs rfl (nn_ _) (y9 rfl _ (q00 (yc (yc (yc (yc (hl))))) h) (xs rfl rfl (xs rfl (yc (yc (yc (yc (yc (hl)))))).symm (y9 rfl _ (q00 (yc (yc (yc (yc (hl))))) h) ?_)))))
     refine y08 rfl (y2x 0 _ _ h5) ⟨⟨rfl, rfl, rfl, _, (q00 (yc (yc (yc (yc (hl))))) h), rfl⟩, rfl, trivial⟩ rfl ?_
     refine q9 rfl (hJ _ (i + 1) (by omega) (by omega) ?_)
     refine ⟨⟨cwi (by omega) (by omega) (by omega), ?_, ⟨rfl, rfl, rfl⟩, trivial⟩, ⟨⟨?_, .inl rfl, .inl rfl⟩, trivial⟩, rfl⟩
     · rw [q04 hg]; rfl
     · refine Eq.trans ?_ (y10 hg)
       try simp only [Int.toNat_natCast, zv hg0, ssr hlt, List.set_set]
       rfl
   · have h : ¬ i < rr.length := by simpa using h
     have : i = rr.length := by omega
     subst this
     exact xr rfl (y1n rfl ⟨⟨rfl, congrArg (Value.int .i64) q0f, trivial⟩, z6 rfl⟩ ⟨⟨rfl, rfl, y0z, qq _ _ _, qs hw⟩, trivial⟩)
theorem y32 (z : Nat) (rr : List (List Cell)) (k : Int) (hw : WR 9000000000000000000 qa rr) : PG Tryz.prog 97 [.one (.giv true z rr), .one (.bor (i64 k))] (rI (mkR (mk qa) rr k).2) [(0, (mkR (mk qa) rr k).1)] := by
 refine PG.begin Tryz.func97 rfl (by kernel_rfl) ?_
 have hlen := hw.1
 refine qb rfl (ι := Nat) (fun i => i ≤ rr.length) (fun i => ⟨[(5, sV (.int .i64 i)), (1, sV (.int .i64 (mdk (mk qa) rr k i))), (0, .one (.h 1000000000 rr.length))], [(1000000000, .arr true z 0 (md (mk qa) rr k i))]⟩) (fun i => rr.length - i) 0 (Nat.zero_le _) ?_ ?_
 · exact ⟨⟨rfl, congrArg (fun n => Cell.s (.int .i64 n)) z05.symm, ⟨rfl, rfl, rfl⟩, trivial⟩, ⟨⟨y0f.symm, .inl rfl, .inl rfl⟩, trivial⟩, rfl⟩
 · intro i hi J hJ
   refine xb rfl ?_ ?_ <;> intro h
   · have h : i < rr.length := by simpa using h
     obtain ⟨row, hg⟩ := gx h
     obtain ⟨x0, rfl, h0⟩ := q0b (hw.2 row (List.mem_of_getElem? hg))
     have hl := z10 (f := (mk qa)) (k := k) hi
     have hg0 := q0z (f := (mk qa)) (k := k) hg
     have hlt : i < (md (mk qa) rr k i).length := by omega
     refine xs rfl (hl).symm (xs rfl (nn_ _) (y9 rfl _ hg0 (xs rfl rfl (xs rfl (hl).symm (y9 rfl _ hg0 ?_)))))
     refine y08 rfl (y5l 0 _ _ h0) ⟨⟨rfl, rfl, rfl, _, hg0, rfl⟩, rfl, trivial⟩ rfl ?_
     refine q9 rfl (hJ _ (i + 1) (by omega) (by omega) ?_)
     refine ⟨⟨cwi (by omega) (by omega) (by omega), ?_, ⟨rfl, rfl, rfl⟩, trivial⟩, ⟨⟨?_, .inl rfl, .inl rfl⟩, trivial⟩, rfl⟩
     · rw [q04 hg]; rfl
     · refine Eq.trans ?_ (y10 hg)
       try simp only [Int.toNat_natCast, zv hg0, ssr hlt, List.set_set]
       rfl
   · have h : ¬ i < rr.length := by simpa using h
     have : i = rr.length := by omega
     subst this
     exact xr rfl (y1n rfl ⟨⟨rfl, congrArg (Value.int .i64) q0f, trivial⟩, z6 rfl⟩ ⟨⟨rfl, rfl, y0z, qq _ _ _, qs hw⟩, trivial⟩)
theorem z6c (z : Nat) (rr : List (List Cell)) (k : Int) (hw : WR 9000000000000000000 zr rr) : PG Tryz.prog 182 [.one (.giv true z rr), .one (.bor (i64 k))] (rI (mkR (mk zr) rr k).2) [(0, (mkR (mk zr) rr k).1)] := by
 refine PG.begin Tryz.func182 rfl (by kernel_rfl) ?_
 have hlen := hw.1
 refine qb rfl (ι := Nat) (fun i => i ≤ rr.length) (fun i => ⟨[(5, sV (.int .i64 i)), (1, sV (.int .i64 (mdk (mk zr) rr k i))), (0, .one (.h 1000000000 rr.length))], [(1000000000, .arr true z 0 (md (mk zr) rr k i))]⟩) (fun i => rr.length - i) 0 (Nat.zero_le _) ?_ ?_
 · exact ⟨⟨rfl, congrArg (fun n => Cell.s (.int .i64 n)) z05.symm, ⟨rfl, rfl, rfl⟩, trivial⟩, ⟨⟨y0f.symm, .inl rfl, .inl rfl⟩, trivial⟩, rfl⟩
 · intro i hi J hJ
   refine xb rfl ?_ ?_ <;> intro h
   · have h : i < rr.length := by simpa using h
     obtain ⟨row, hg⟩ := gx h
     obtain ⟨x0, x1, x2, x3, x4, x5, rfl, h4, h5⟩ := q2o (hw.2 row (List.mem_of_getElem? hg))
     have hl := z10 (f := (mk zr)) (k := k) hi
     have hg0 := q0z (f := (mk zr)) (k := k) hg
     have hlt : i < (md (mk zr) rr k i).length := by omega
     refine xs rfl (hl).symm (xs rfl (nn_ _) (y9 rfl _ hg0 (xs rfl rfl (xs rfl (hl).symm (y9 rfl _ hg0 (xs rfl (by show 0 + 1 ≤ 6; omega) (xs rfl ⟨trivial, trivial⟩ ?_)))))))
     refine xs rfl (yc (hl)).symm (xs rfl (nn_ _) (y9 rfl _ (q00 (hl) h) (xs rfl rfl (xs rfl (yc (hl)).symm (y9 rfl _ (q00 (hl) h) (xs rfl (by show 1 + 1 ≤ 6; omega) (xs rfl ⟨trivial, trivial⟩ ?_)))))))
     refine xs rfl (yc (yc (hl))).symm (xs rfl (nn_ _) (y9 rfl _ (q00 (yc (hl)) h) (xs rfl rfl (xs rfl (yc (yc (hl))).symm (y9 rfl _ (q00 (yc (hl)) h) (xs rfl (by show 2 + 1 ≤ 6; omega) (xs rfl ⟨trivial, trivial⟩ ?_)))))))
     refine xs rfl (yc (yc (yc (hl)))).symm (xs rfl (nn_ _) (y9 rfl _ (q00 (yc (yc (hl))) h) (xs rfl rfl (xs rfl (yc (yc (yc (hl)))).symm (y9 rfl _ (q00 (yc (yc (hl))) h) (xs rfl (by show 3 + 1 ≤ 6; omega) (xs rfl ⟨trivial, trivial⟩ ?_)))))))
     refine xs rfl (yc (yc (yc (yc (hl))))).symm (xs rfl (nn_ _) (y9 rfl _ (q00 (yc (yc (yc (hl)))) h) (xs rfl rfl (xs rfl (yc (yc (yc (yc (hl))))).symm (y9 rfl _ (q00 (yc (yc (yc (hl)))) h) ?_)))))
     refine y08 rfl (q19 0 _ _ h4) ⟨⟨rfl, rfl, rfl, _, (q00 (yc (yc (yc (hl)))) h), rfl⟩, rfl, trivial⟩ rfl ?_
     refine xs rfl (lsr (yc (yc (yc (yc (hl)))))).symm (xs rfl (nn_ _) (y9 rfl _ (zf (q00 (yc (yc (yc (hl)))) h)) (xs rfl rfl (xs rfl (lsr (yc (yc (yc (yc (hl)))))).symm (y9 rfl _ (zf (q00 (yc (yc (yc (hl)))) h)) ?_)))))
     refine y08 rfl (y2x 0 _ _ h5) ⟨⟨rfl, rfl, rfl, _, (zf (q00 (yc (yc (yc (hl)))) h)), rfl⟩, rfl, trivial⟩ rfl ?_
     refine q9 rfl (hJ _ (i + 1) (by omega) (by omega) ?_)
     refine ⟨⟨cwi (by omega) (by omega) (by omega), ?_, ⟨rfl, rfl, rfl⟩, trivial⟩, ⟨⟨?_, .inl rfl, .inl rfl⟩, trivial⟩, rfl⟩
     · rw [q04 hg]; rfl
     · refine Eq.trans ?_ (y10 hg)
       try simp only [Int.toNat_natCast, zv hg0, ssr hlt, List.set_set]
       rfl
   · have h : ¬ i < rr.length := by simpa using h
     have : i = rr.length := by omega
     subst this
     exact xr rfl (y1n rfl ⟨⟨rfl, congrArg (Value.int .i64) q0f, trivial⟩, z6 rfl⟩ ⟨⟨rfl, rfl, y0z, qq _ _ _, qs hw⟩, trivial⟩)
theorem y4w (z : Nat) (rr : List (List Cell)) (k : Int) (hw : WR 9000000000000000000 zp rr) : PG Tryz.prog 183 [.one (.giv true z rr), .one (.bor (i64 k))] (rI (mkR (mk zp) rr k).2) [(0, (mkR (mk zp) rr k).1)] := by
 refine PG.begin Tryz.func183 rfl (by kernel_rfl) ?_
 have hlen := hw.1
 refine qb rfl (ι := Nat) (fun i => i ≤ rr.length) (fun i => ⟨[(5, sV (.int .i64 i)), (1, sV (.int .i64 (mdk (mk zp) rr k i))), (0, .one (.h 1000000000 rr.length))], [(1000000000, .arr true z 0 (md (mk zp) rr k i))]⟩) (fun i => rr.length - i) 0 (Nat.zero_le _) ?_ ?_
 · exact ⟨⟨rfl, congrArg (fun n => Cell.s (.int .i64 n)) z05.symm, ⟨rfl, rfl, rfl⟩, trivial⟩, ⟨⟨y0f.symm, .inl rfl, .inl rfl⟩, trivial⟩, rfl⟩
 · intro i hi J hJ
   refine xb rfl ?_ ?_ <;> intro h
   · have h : i < rr.length := by simpa using h
     obtain ⟨row, hg⟩ := gx h
     obtain ⟨x0, x1, x2, x3, x4, rfl⟩ := q14 (hw.2 row (List.mem_of_getElem? hg))
     have hl := z10 (f := (mk zp)) (k := k) hi
     have hg0 := q0z (f := (mk zp)) (k := k) hg
     have hlt : i < (md (mk zp) rr k i).length := by omega
     refine xs rfl (hl).symm (xs rfl (nn_ _) (y9 rfl _ hg0 (xs rfl rfl (xs rfl (hl).symm (y9 rfl _ hg0 (xs rfl (by show 0 + 1 ≤ 5; omega) (xs rfl ⟨trivial, trivial⟩ ?_)))))))
     refine xs rfl (yc (hl)).symm (xs rfl (nn_ _) (y9 rfl _ (q00 (hl) h) (xs rfl rfl (xs rfl (yc (hl)).symm (y9 rfl _ (q00 (hl) h) (xs rfl (by show 1 + 1 ≤ 5; omega) (xs rfl ⟨trivial, trivial⟩ ?_)))))))
     refine xs rfl (yc (yc (hl))).symm (xs rfl (nn_ _) (y9 rfl _ (q00 (yc (hl)) h) (xs rfl rfl (xs rfl (yc (yc (hl))).symm (y9 rfl _ (q00 (yc (hl)) h) (xs rfl (by show 2 + 1 ≤ 5; omega) (xs rfl ⟨trivial, trivial⟩ ?_)))))))
     refine xs rfl (yc (yc (yc (hl)))).symm (xs rfl (nn_ _) (y9 rfl _ (q00 (yc (yc (hl))) h) (xs rfl rfl (xs rfl (yc (yc (yc (hl)))).symm (y9 rfl _ (q00 (yc (yc (hl))) h) (xs rfl (by show 3 + 1 ≤ 5; omega) (xs rfl ⟨trivial, trivial⟩ ?_)))))))
     refine xs rfl (yc (yc (yc (yc (hl))))).symm (xs rfl (nn_ _) (y9 rfl _ (q00 (yc (yc (yc (hl)))) h) (xs rfl rfl (xs rfl (yc (yc (yc (yc (hl))))).symm (y9 rfl _ (q00 (yc (yc (yc (hl)))) h) (xs rfl (by show 4 + 1 ≤ 5; omega) (xs rfl ⟨trivial, trivial⟩ ?_)))))))
     refine q9 rfl (hJ _ (i + 1) (by omega) (by omega) ?_)
     refine ⟨⟨cwi (by omega) (by omega) (by omega), ?_, ⟨rfl, rfl, rfl⟩, trivial⟩, ⟨⟨?_, .inl rfl, .inl rfl⟩, trivial⟩, rfl⟩
     · rw [q04 hg]; rfl
     · refine Eq.trans ?_ (y10 hg)
       try simp only [Int.toNat_natCast, zv hg0, ssr hlt, List.set_set]
       rfl
   · have h : ¬ i < rr.length := by simpa using h
     have : i = rr.length := by omega
     subst this
     exact xr rfl (y1n rfl ⟨⟨rfl, congrArg (Value.int .i64) q0f, trivial⟩, z6 rfl⟩ ⟨⟨rfl, rfl, y0z, qq _ _ _, qs hw⟩, trivial⟩)
theorem y40 (z : Nat) (rr : List (List Cell)) (k : Int) (hw : WR 9000000000000000000 qe rr) : PG Tryz.prog 98 [.one (.giv true z rr), .one (.bor (i64 k))] (rI (mkR (mk qe) rr k).2) [(0, (mkR (mk qe) rr k).1)] := by
 refine PG.begin Tryz.func98 rfl (by kernel_rfl) ?_
 have hlen := hw.1
 refine qb rfl (ι := Nat) (fun i => i ≤ rr.length) (fun i => ⟨[(5, sV (.int .i64 i)), (1, sV (.int .i64 (mdk (mk qe) rr k i))), (0, .one (.h 1000000000 rr.length))], [(1000000000, .arr true z 0 (md (mk qe) rr k i))]⟩) (fun i => rr.length - i) 0 (Nat.zero_le _) ?_ ?_
 · exact ⟨⟨rfl, congrArg (fun n => Cell.s (.int .i64 n)) z05.symm, ⟨rfl, rfl, rfl⟩, trivial⟩, ⟨⟨y0f.symm, .inl rfl, .inl rfl⟩, trivial⟩, rfl⟩
 · intro i hi J hJ
   refine xb rfl ?_ ?_ <;> intro h
   · have h : i < rr.length := by simpa using h
     obtain ⟨row, hg⟩ := gx h
     obtain ⟨x0, x1, x2, rfl, h1, h2⟩ := y0q (hw.2 row (List.mem_of_getElem? hg))
     have hl := z10 (f := (mk qe)) (k := k) hi
     have hg0 := q0z (f := (mk qe)) (k := k) hg
     have hlt : i < (md (mk qe) rr k i).length := by omega
     refine xs rfl (hl).symm (xs rfl (nn_ _) (y9 rfl _ hg0 (xs rfl rfl (xs rfl (hl).symm (y9 rfl _ hg0 (xs rfl (by show 0 + 1 ≤ 3; omega) (xs rfl ⟨trivial, trivial⟩ ?_)))))))
     refine xs rfl (yc (hl)).symm (xs rfl (nn_ _) (y9 rfl _ (q00 (hl) h) (xs rfl rfl (xs rfl (yc (hl)).symm (y9 rfl _ (q00 (hl) h) ?_)))))
     refine y08 rfl (z6c 0 _ _ h1) ⟨⟨rfl, rfl, rfl, _, (q00 (hl) h), rfl⟩, rfl, trivial⟩ rfl ?_
     refine xs rfl (lsr (yc (hl))).symm (xs rfl (nn_ _) (y9 rfl _ (zf (q00 (hl) h)) (xs rfl rfl (xs rfl (lsr (yc (hl))).symm (y9 rfl _ (zf (q00 (hl) h)) ?_)))))
     refine y08 rfl (y4w 0 _ _ h2) ⟨⟨rfl, rfl, rfl, _, (zf (q00 (hl) h)), rfl⟩, rfl, trivial⟩ rfl ?_
     refine q9 rfl (hJ _ (i + 1) (by omega) (by omega) ?_)
     refine ⟨⟨cwi (by omega) (by omega) (by omega), ?_, ⟨rfl, rfl, rfl⟩, trivial⟩, ⟨⟨?_, .inl rfl, .inl rfl⟩, trivial⟩, rfl⟩
     · rw [q04 hg]; rfl
     · refine Eq.trans ?_ (y10 hg)
       try simp only [Int.toNat_natCast, zv hg0, ssr hlt, List.set_set]
       rfl
   · have h : ¬ i < rr.length := by simpa using h
     have : i = rr.length := by omega
     subst this
     exact xr rfl (y1n rfl ⟨⟨rfl, congrArg (Value.int .i64) q0f, trivial⟩, z6 rfl⟩ ⟨⟨rfl, rfl, y0z, qq _ _ _, qs hw⟩, trivial⟩)
theorem q3j (z : Nat) (rr : List (List Cell)) (k : Int) (hw : WR 9000000000000000000 qg rr) : PG Tryz.prog 99 [.one (.giv true z rr), .one (.bor (i64 k))] (rI (mkR (mk qg) rr k).2) [(0, (mkR (mk qg) rr k).1)] := by
 refine PG.begin Tryz.func99 rfl (by kernel_rfl) ?_
 have hlen := hw.1
 refine qb rfl (ι := Nat) (fun i => i ≤ rr.length) (fun i => ⟨[(5, sV (.int .i64 i)), (1, sV (.int .i64 (mdk (mk qg) rr k i))), (0, .one (.h 1000000000 rr.length))], [(1000000000, .arr true z 0 (md (mk qg) rr k i))]⟩) (fun i => rr.length - i) 0 (Nat.zero_le _) ?_ ?_
 · exact ⟨⟨rfl, congrArg (fun n => Cell.s (.int .i64 n)) z05.symm, ⟨rfl, rfl, rfl⟩, trivial⟩, ⟨⟨y0f.symm, .inl rfl, .inl rfl⟩, trivial⟩, rfl⟩
 · intro i hi J hJ
   refine xb rfl ?_ ?_ <;> intro h
   · have h : i < rr.length := by simpa using h
     obtain ⟨row, hg⟩ := gx h
     obtain ⟨x0, x1, x2, x3, x4, x5, x6, x7, x8, rfl⟩ := q0j (hw.2 row (List.mem_of_getElem? hg))
     have hl := z10 (f := (mk qg)) (k := k) hi
     have hg0 := q0z (f := (mk qg)) (k := k) hg
     have hlt : i < (md (mk qg) rr k i).length := by omega
     refine xs rfl (hl).symm (xs rfl (nn_ _) (y9 rfl _ hg0 (xs rfl rfl (xs rfl (hl).symm (y9 rfl _ hg0 (xs rfl (by show 0 + 1 ≤ 9; omega) (xs rfl ⟨trivial, trivial⟩ ?_)))))))
     refine xs rfl (yc (hl)).symm (xs rfl (nn_ _) (y9 rfl _ (q00 (hl) h) (xs rfl rfl (xs rfl (yc (hl)).symm (y9 rfl _ (q00 (hl) h) (xs rfl (by show 1 + 1 ≤ 9; omega) (xs rfl ⟨trivial, trivial⟩ ?_)))))))
     refine xs rfl (yc (yc (hl))).symm (xs rfl (nn_ _) (y9 rfl _ (q00 (yc (hl)) h) (xs rfl rfl (xs rfl (yc (yc (hl))).symm (y9 rfl _ (q00 (yc (hl)) h) (xs rfl (by show 2 + 1 ≤ 9; omega) (xs rfl ⟨trivial, trivial⟩ ?_)))))))
     refine xs rfl (yc (yc (yc (hl)))).symm (xs rfl (nn_ _) (y9 rfl _ (q00 (yc (yc (hl))) h) (xs rfl rfl (xs rfl (yc (yc (yc (hl)))).symm (y9 rfl _ (q00 (yc (yc (hl))) h) (xs rfl (by show 3 + 1 ≤ 9; omega) (xs rfl ⟨trivial, trivial⟩ ?_)))))))
     refine xs rfl (yc (yc (yc (yc (hl))))).symm (xs rfl (nn_ _) (y9 rfl _ (q00 (yc (yc (yc (hl)))) h) (xs rfl rfl (xs rfl (yc (yc (yc (yc (hl))))).symm (y9 rfl _ (q00 (yc (yc (yc (hl)))) h) (xs rfl (by show 4 + 1 ≤ 9; omega) (xs rfl ⟨trivial, trivial⟩ ?_)))))))
     refine xs rfl (yc (yc (yc (yc (yc (hl)))))).symm (xs rfl (nn_ _) (y9 rfl _ (q00 (yc (yc (yc (yc (hl))))) h) (xs rfl rfl (xs rfl (yc (yc (yc (yc (yc (hl)))))).symm (y9 rfl _ (q00 (yc (yc (yc (yc (hl))))) h) (xs rfl (by show 5 + 1 ≤ 9; omega) (xs rfl ⟨trivial, trivial⟩ ?_)))))))
     refine xs rfl (yc (yc (yc (yc (yc (yc (hl))))))).symm (xs rfl (nn_ _) (y9 rfl _ (q00 (yc (yc (yc (yc (yc (hl)))))) h) (xs rfl rfl (xs rfl (yc (yc (yc (yc (yc (yc (hl))))))).symm (y9 rfl _ (q00 (yc (yc (yc (yc (yc (hl)))))) h) (xs rfl (by show 6 + 1 ≤ 9; omega) (xs rfl ⟨trivial, trivial⟩ ?_)))))))
     refine xs rfl (yc (yc (yc (yc (yc (yc (yc (hl)))))))).symm (xs rfl (nn_ _) (y9 rfl _ (q00 (yc (yc (yc (yc (yc (yc (hl))))))) h) (xs rfl rfl (xs rfl (yc (yc (yc (yc (yc (yc (yc (hl)))))))).symm (y9 rfl _ (q00 (yc (yc (yc (yc (yc (yc (hl))))))) h) (xs rfl (by show 7 + 1 ≤ 9; omega) (xs rfl ⟨trivial, trivial⟩ ?_)))))))
     refine xs rfl (yc (yc (yc (yc (yc (yc (yc (yc (hl))))))))).symm (xs rfl (nn_ _) (y9 rfl _ (q00 (yc (yc (yc (yc (yc (yc (yc (hl)))))))) h) (xs rfl rfl (xs rfl (yc (yc (yc (yc (yc (yc (yc (yc (hl))))))))).symm (y9 rfl _ (q00 (yc (yc (yc (yc (yc (yc (yc (hl)))))))) h) (xs rfl (by show 8 + 1 ≤ 9; omega) (xs rfl ⟨trivial, trivial⟩ ?_)))))))
     refine q9 rfl (hJ _ (i + 1) (by omega) (by omega) ?_)
     refine ⟨⟨cwi (by omega) (by omega) (by omega), ?_, ⟨rfl, rfl, rfl⟩, trivial⟩, ⟨⟨?_, .inl rfl, .inl rfl⟩, trivial⟩, rfl⟩
     · rw [q04 hg]; rfl
     · refine Eq.trans ?_ (y10 hg)
       try simp only [Int.toNat_natCast, zv hg0, ssr hlt, List.set_set]
       rfl
   · have h : ¬ i < rr.length := by simpa using h
     have : i = rr.length := by omega
     subst this
     exact xr rfl (y1n rfl ⟨⟨rfl, congrArg (Value.int .i64) q0f, trivial⟩, z6 rfl⟩ ⟨⟨rfl, rfl, y0z, qq _ _ _, qs hw⟩, trivial⟩)
theorem z40 (z0 z1 z2 z3 z4 : Nat) (x0 : List (List Cell)) (x1 : List (List Cell)) (x2 : List (List Cell)) (x3 : List (List Cell)) (x4 : List (List Cell)) (k : Int) (k0 : Int) (k1 : Int) (k2 : Int) (k3 : Int) (k4 : Int) (h0 : WR 9000000000000000000 z8 x0) (h1 : WR 9000000000000000000 zg x1) (h2 : WR 9000000000000000000 qa x2) (h3 : WR 9000000000000000000 qe x3) (h4 : WR 9000000000000000000 qg x4) (e0 : (mkR (mk z8) x0 k).2 = k0) (e1 : (mkR (mk zg) x1 k0).2 = k1) (e2 : (mkR (mk qa) x2 k1).2 = k2) (e3 : (mkR (mk qe) x3 k2).2 = k3) (e4 : (mkR (mk qg) x4 k3).2 = k4) : PG Tryz.prog 24 [.agg [.giv true z0 x0, .giv true z1 x1, .giv true z2 x2, .giv true z3 x3, .giv true z4 x4], .one (.bor (i64 k))] (rI k4) [(0, (mkR (mk z8) x0 k).1), (1, (mkR (mk zg) x1 k0).1), (2, (mkR (mk qa) x2 k1).1), (3, (mkR (mk qe) x3 k2).1), (4, (mkR (mk qg) x4 k3).1)] := by
 refine PG.begin Tryz.func24 rfl (by kernel_rfl) ?_
 refine y08 rfl (q1b z0 x0 k h0) ⟨⟨rfl, rfl, rfl, rfl⟩, rfl, trivial⟩ rfl ?_
 rw [e0]
 refine y08 rfl (z4x z1 x1 k0 h1) ⟨⟨rfl, rfl, rfl, rfl⟩, rfl, trivial⟩ rfl ?_
 rw [e1]
 refine y08 rfl (y32 z2 x2 k1 h2) ⟨⟨rfl, rfl, rfl, rfl⟩, rfl, trivial⟩ rfl ?_
 rw [e2]
 refine y08 rfl (y40 z3 x3 k2 h3) ⟨⟨rfl, rfl, rfl, rfl⟩, rfl, trivial⟩ rfl ?_
 rw [e3]
 refine y08 rfl (q3j z4 x4 k3 h4) ⟨⟨rfl, rfl, rfl, rfl⟩, rfl, trivial⟩ rfl ?_
 rw [e4]
 exact xr rfl (y1n rfl ⟨⟨rfl, rfl, trivial⟩, z6 rfl⟩ ⟨⟨rfl, rfl, rfl, qq _ _ _, qs h0⟩, ⟨rfl, rfl, rfl, qq _ _ _, qs h1⟩, ⟨rfl, rfl, rfl, qq _ _ _, qs h2⟩, ⟨rfl, rfl, rfl, qq _ _ _, qs h3⟩, ⟨rfl, rfl, rfl, qq _ _ _, qs h4⟩, trivial⟩)
theorem y4r (rr : List (List Cell)) (k : Int) (hw : WR 9000000000000000000 (.i .i64 .nil) rr) : PC Tryz.prog 111 [.one (.l rr), .one (i64 k)] (rI (ng (hdR (hd (.i .i64 .nil)) rr k))) := by
 refine PC.begin Tryz.func111 rfl (by kernel_rfl) ?_
 have hlen := hw.1
 refine qb rfl (ι := Nat × Int) (fun x => x.1 ≤ rr.length ∧ hdR (hd (.i .i64 .nil)) (rr.take x.1) k = some x.2) (fun x => ⟨[(5, sV (.int .i64 x.1)), (1, sV (.int .i64 x.2)), (0, .one (.b (.l rr)))], []⟩) (fun x => rr.length - x.1) (0, k) ⟨Nat.zero_le _, rfl⟩ ?_ ?_
 · exact ⟨⟨rfl, rfl, rfl, trivial⟩, trivial, rfl⟩
 · intro ⟨i, v⟩ ⟨hi, hv⟩ J hJ
   dsimp only at hi hv ⊢
   refine xb rfl ?_ ?_ <;> intro h
   · have h : i < rr.length := by simpa using h
     obtain ⟨row, hg⟩ := gx h
     obtain ⟨x0, _, rfl, hnil⟩ := ((hw.2 row (List.mem_of_getElem? hg))).zz; obtain rfl := hnil.qr
     have hst := z4r hg hv
     refine xs rfl (nn_ _) (y9 rfl _ hg (xs rfl rfl ?_))
     refine xb rfl ?_ ?_ <;> intro hb
     · have hb : ¬ x0 = mkv .i64 (v) := by simpa [mkv, nx] using hb
       exact xv rfl rfl rfl (congrArg (Value.int .i64) (y1i (y2d (i := i + 1) (hst.trans (by simp only [hd, if_neg hb])))).symm)
     have hb0 : x0 = mkv .i64 (v) := by simpa [mkv, nx] using hb
     clear hb
     refine q9 rfl (hJ _ (i + 1, nx (v)) ⟨by dsimp only; omega, hst.trans (by simp only [hd, if_pos hb0])⟩ (by dsimp only; omega) ?_)
     exact ⟨⟨cwi (by omega) (by omega) (by omega), rfl, rfl, trivial⟩, trivial, rfl⟩
   · have h : ¬ i < rr.length := by simpa using h
     have : i = rr.length := by omega
     subst this
     rw [List.take_length] at hv
     exact xv rfl rfl rfl (congrArg (Value.int .i64) (by rw [hv]; rfl))
theorem y3y (p q : List (List Cell)) (hp : WR 9000000000000000000 (.l q7 .nil) p) (hq : WR 9000000000000000000 (.l q7 .nil) q) : PC Tryz.prog 109 [.one (.l p), .one (.l q)] (rB (dE p q)) := by
 refine PC.begin Tryz.func109 rfl (by kernel_rfl) ?_
 have hpl := hp.1
 have hql := hq.1
 refine xb rfl ?_ ?_ <;> intro h
 · exact xv rfl rfl rfl (zk (fun e => by subst e; simp at h))
 have hl : p.length = q.length := by simpa [Int.ofNat_inj] using h
 refine qb rfl (ι := Nat) (fun i => i ≤ p.length ∧ p.take i = q.take i) (fun i => ⟨[(5, sV (.int .i64 i)), (0, .one (.b (.l p))), (1, .one (.b (.l q)))], []⟩) (fun i => p.length - i) 0 ⟨Nat.zero_le _, rfl⟩ ?_ ?_
 · repeat' (first | exact trivial | exact rfl | exact Or.inl rfl | refine And.intro ?_ ?_)
 · intro i ⟨hi, he⟩ J hJ
   refine xb rfl ?_ ?_ <;> intro h
   · have h : i < p.length := by simpa using h
     obtain ⟨row, hg⟩ := gx h
     obtain ⟨row', hg'⟩ : ∃ row, q[i]? = some row := ⟨_, List.getElem?_eq_getElem (by omega)⟩
     obtain ⟨x0, _, rfl, h0, hnil⟩ := ((hp.2 row (List.mem_of_getElem? hg))).z0f; obtain rfl := hnil.qr
     obtain ⟨y0, _, rfl, k0, knil⟩ := ((hq.2 row' (List.mem_of_getElem? hg'))).z0f; obtain rfl := knil.qr
     refine yb rfl [] (Tk [0, 1, 2] (.take 3 [8, 9] (Tk [4, 5, 6] (.take 7 [8, 9] (.alt 8 (.take 9 [] .done) .nil))))) (by kernel_rfl) ?_
     refine xs rfl (nn_ _) (y9 rfl _ hg (xs rfl rfl ?_))
     refine xs rfl (nn_ _) (y9 rfl _ hg' (xs rfl rfl ?_))
     refine z7 rfl (q2a _ _ h0 k0) rfl tv3 ?_
     refine xb rfl ?_ ?_ <;> intro hb
     · exact xv rfl rfl rfl (zk (fun e => by subst e; rw [hg] at hg'; cases hg'; exact q06 hb rfl))
     · have hb := y06 hb
       refine q9 rfl (hJ _ (i + 1) ⟨by omega, yp he hg (hg'.trans (by rw [hb]))⟩ (by omega) ?_)
       repeat' (first | exact trivial | exact rfl | exact Or.inl rfl | exact cwi (by omega) (by omega) (by omega) | refine And.intro ?_ ?_)
   · have h : ¬ i < p.length := by simpa using h
     exact xv rfl rfl rfl (qv (by rw [show i = p.length by omega, List.take_length] at he; rw [he, hl, List.take_length]))
theorem y3e (x0 : List (List Cell)) (y0 : List (List Cell)) (h0 : WR 9000000000000000000 (.l q7 .nil) x0) (k0 : WR 9000000000000000000 (.l q7 .nil) y0) : PC Tryz.prog 32 [.agg [.l x0], .agg [.l y0]] (rB (dE (α := List Cell) [.l x0] [.l y0])) := by
 refine PC.begin Tryz.func32 rfl (by kernel_rfl) ?_
 refine z7 rfl (y3y _ _ h0 k0) rfl tv3 ?_
 refine xb rfl (fun h => ?_) (fun e0 => ?_)
 · exact xv rfl rfl rfl (zk (fun e => q06 h (by simp only [List.cons.injEq, Cell.l.injEq] at e ⊢; simp only [e]; try trivial)))
 have e0 := y06 e0
 exact xv rfl rfl rfl (qv (by simp [e0]))
theorem q32 (z : Nat) (rr : List (List Cell)) (k : Int) (hw : WR 9000000000000000000 (.l q7 .nil) rr) : PG Tryz.prog 110 [.one (.giv true z rr), .one (.bor (i64 k))] (rI (mkR (mk (.l q7 .nil)) rr k).2) [(0, (mkR (mk (.l q7 .nil)) rr k).1)] := by
 refine PG.begin Tryz.func110 rfl (by kernel_rfl) ?_
 have hlen := hw.1
 refine qb rfl (ι := Nat) (fun i => i ≤ rr.length) (fun i => ⟨[(5, sV (.int .i64 i)), (1, sV (.int .i64 (mdk (mk (.l q7 .nil)) rr k i))), (0, .one (.h 1000000000 rr.length))], [(1000000000, .arr true z 0 (md (mk (.l q7 .nil)) rr k i))]⟩) (fun i => rr.length - i) 0 (Nat.zero_le _) ?_ ?_
 · exact ⟨⟨rfl, congrArg (fun n => Cell.s (.int .i64 n)) z05.symm, ⟨rfl, rfl, rfl⟩, trivial⟩, ⟨⟨y0f.symm, .inl rfl, .inl rfl⟩, trivial⟩, rfl⟩
 · intro i hi J hJ
   refine xb rfl ?_ ?_ <;> intro h
   · have h : i < rr.length := by simpa using h
     obtain ⟨row, hg⟩ := gx h
     obtain ⟨x0, _, rfl, h0, hnil⟩ := ((hw.2 row (List.mem_of_getElem? hg))).z0f; obtain rfl := hnil.qr
     have hl := z10 (f := (mk (.l q7 .nil))) (k := k) hi
     have hg0 := q0z (f := (mk (.l q7 .nil))) (k := k) hg
     have hlt : i < (md (mk (.l q7 .nil)) rr k i).length := by omega
     refine xs rfl (hl).symm (xs rfl (nn_ _) (y9 rfl _ hg0 (xs rfl rfl (xs rfl (hl).symm (y9 rfl _ hg0 ?_)))))
     refine y08 rfl (z1h 0 _ _ h0) ⟨⟨rfl, rfl, rfl, _, hg0, rfl⟩, rfl, trivial⟩ rfl ?_
     refine q9 rfl (hJ _ (i + 1) (by omega) (by omega) ?_)
     refine ⟨⟨cwi (by omega) (by omega) (by omega), ?_, ⟨rfl, rfl, rfl⟩, trivial⟩, ⟨⟨?_, .inl rfl, .inl rfl⟩, trivial⟩, rfl⟩
     · rw [q04 hg]; rfl
     · refine Eq.trans ?_ (y10 hg)
       try simp only [Int.toNat_natCast, zv hg0, ssr hlt, List.set_set]
       rfl
   · have h : ¬ i < rr.length := by simpa using h
     have : i = rr.length := by omega
     subst this
     exact xr rfl (y1n rfl ⟨⟨rfl, congrArg (Value.int .i64) q0f, trivial⟩, z6 rfl⟩ ⟨⟨rfl, rfl, y0z, qq _ _ _, qs hw⟩, trivial⟩)
theorem z2f (z0 : Nat) (x0 : List (List Cell)) (k : Int) (k0 : Int) (h0 : WR 9000000000000000000 (.l q7 .nil) x0) (e0 : (mkR (mk (.l q7 .nil)) x0 k).2 = k0) : PG Tryz.prog 33 [.agg [.giv true z0 x0], .one (.bor (i64 k))] (rI k0) [(0, (mkR (mk (.l q7 .nil)) x0 k).1)] := by
 refine PG.begin Tryz.func33 rfl (by kernel_rfl) ?_
 refine y08 rfl (q32 z0 x0 k h0) ⟨⟨rfl, rfl, rfl, rfl⟩, rfl, trivial⟩ rfl ?_
 rw [e0]
 exact xr rfl (y1n rfl ⟨⟨rfl, rfl, trivial⟩, z6 rfl⟩ ⟨⟨rfl, rfl, rfl, qq _ _ _, qs h0⟩, trivial⟩)
theorem z3i (rr : List (List Cell)) (k : Int) (hw : WR 9000000000000000000 q7 rr) : PC Tryz.prog 300 [.one (.l rr), .one (i64 k)] (rI (ng (hdR (hd q7) rr k))) := by
 refine PC.begin Tryz.func300 rfl (by kernel_rfl) ?_
 have hlen := hw.1
 refine qb rfl (ι := Nat × Int) (fun x => x.1 ≤ rr.length ∧ hdR (hd q7) (rr.take x.1) k = some x.2) (fun x => ⟨[(5, sV (.int .i64 x.1)), (1, sV (.int .i64 x.2)), (0, .one (.b (.l rr)))], []⟩) (fun x => rr.length - x.1) (0, k) ⟨Nat.zero_le _, rfl⟩ ?_ ?_
 · exact ⟨⟨rfl, rfl, rfl, trivial⟩, trivial, rfl⟩
 · intro ⟨i, v⟩ ⟨hi, hv⟩ J hJ
   dsimp only at hi hv ⊢
   refine xb rfl ?_ ?_ <;> intro h
   · have h : i < rr.length := by simpa using h
     obtain ⟨row, hg⟩ := gx h
     obtain ⟨x0, x1, x2, rfl⟩ := z0a (hw.2 row (List.mem_of_getElem? hg))
     have hst := z4r hg hv
     refine xs rfl (nn_ _) (y9 rfl _ hg (xs rfl rfl ?_))
     refine xb rfl ?_ ?_ <;> intro hb
     · have hb : ¬ x0 = mkv .i64 (v) := by simpa [mkv, nx] using hb
       exact xv rfl rfl rfl (congrArg (Value.int .i64) (y1i (y2d (i := i + 1) (hst.trans (by simp only [hd, if_neg hb])))).symm)
     have hb0 : x0 = mkv .i64 (v) := by simpa [mkv, nx] using hb
     clear hb
     refine xs rfl (nn_ _) (y9 rfl _ hg (xs rfl rfl ?_))
     refine xb rfl ?_ ?_ <;> intro hb
     · have hb : ¬ x1 = mkv .i64 (nx (v)) := by simpa [mkv, nx] using hb
       exact xv rfl rfl rfl (congrArg (Value.int .i64) (y1i (y2d (i := i + 1) (hst.trans (by simp only [hd, if_neg hb, if_pos hb0])))).symm)
     have hb1 : x1 = mkv .i64 (nx (v)) := by simpa [mkv, nx] using hb
     clear hb
     refine xs rfl (nn_ _) (y9 rfl _ hg (xs rfl rfl ?_))
     refine xb rfl ?_ ?_ <;> intro hb
     · have hb : ¬ x2 = mkv .i64 (nx (nx (v))) := by simpa [mkv, nx] using hb
       exact xv rfl rfl rfl (congrArg (Value.int .i64) (y1i (y2d (i := i + 1) (hst.trans (by simp only [hd, if_neg hb, if_pos hb0, if_pos hb1])))).symm)
     have hb2 : x2 = mkv .i64 (nx (nx (v))) := by simpa [mkv, nx] using hb
     clear hb
     refine q9 rfl (hJ _ (i + 1, nx (nx (nx (v)))) ⟨by dsimp only; omega, hst.trans (by simp only [hd, if_pos hb0, if_pos hb1, if_pos hb2])⟩ (by dsimp only; omega) ?_)
     exact ⟨⟨cwi (by omega) (by omega) (by omega), rfl, rfl, trivial⟩, trivial, rfl⟩
   · have h : ¬ i < rr.length := by simpa using h
     have : i = rr.length := by omega
     subst this
     rw [List.take_length] at hv
     exact xv rfl rfl rfl (congrArg (Value.int .i64) (by rw [hv]; rfl))
theorem y31 (rr : List (List Cell)) (k : Int) (hw : WR 9000000000000000000 (.l q7 .nil) rr) : PC Tryz.prog 196 [.one (.l rr), .one (i64 k)] (rI (ng (hdR (hd (.l q7 .nil)) rr k))) := by
 refine PC.begin Tryz.func196 rfl (by kernel_rfl) ?_
 have hlen := hw.1
 refine qb rfl (ι := Nat × Int) (fun x => x.1 ≤ rr.length ∧ hdR (hd (.l q7 .nil)) (rr.take x.1) k = some x.2) (fun x => ⟨[(5, sV (.int .i64 x.1)), (1, sV (.int .i64 x.2)), (0, .one (.b (.l rr)))], []⟩) (fun x => rr.length - x.1) (0, k) ⟨Nat.zero_le _, rfl⟩ ?_ ?_
 · exact ⟨⟨rfl, rfl, rfl, trivial⟩, trivial, rfl⟩
 · intro ⟨i, v⟩ ⟨hi, hv⟩ J hJ
   dsimp only at hi hv ⊢
   refine xb rfl ?_ ?_ <;> intro h
   · have h : i < rr.length := by simpa using h
     obtain ⟨row, hg⟩ := gx h
     obtain ⟨x0, _, rfl, h0, hnil⟩ := ((hw.2 row (List.mem_of_getElem? hg))).z0f; obtain rfl := hnil.qr
     have hst := z4r hg hv
     refine xs rfl (nn_ _) (y9 rfl _ hg (xs rfl rfl ?_))
     refine z7 rfl (z3i x0 (v) h0) rfl tv3 ?_
     generalize hk0 : ng (hdR (hd q7) x0 (v)) = k0
     refine xb rfl ?_ ?_ <;> intro hb
     · have hb : k0 < 0 := by simpa using hb
       exact xv rfl rfl rfl (congrArg (Value.int .i64) (y1i (y2d (i := i + 1) (hst.trans (by simp only [hd, hk0, zb1 hb]; rfl)))).symm)
     have hb0 : ¬ k0 < 0 := by simpa using hb
     clear hb
     refine q9 rfl (hJ _ (i + 1, k0) ⟨by dsimp only; omega, hst.trans (by simp only [hd, hk0, z8q hb0, Option.bind_some])⟩ (by dsimp only; omega) ?_)
     exact ⟨⟨cwi (by omega) (by omega) (by omega), rfl, rfl, trivial⟩, trivial, rfl⟩
   · have h : ¬ i < rr.length := by simpa using h
     have : i = rr.length := by omega
     subst this
     rw [List.take_length] at hv
     exact xv rfl rfl rfl (congrArg (Value.int .i64) (by rw [hv]; rfl))
theorem q4r (x0 : List (List Cell)) (k : Int) (h0 : WR 9000000000000000000 (.l q7 .nil) x0) (hk : 0 ≤ k) : PC Tryz.prog 112 [.agg [.l x0], .one (i64 k)] (rI (ng (ht yq [.l x0] k))) := by
 refine PC.begin Tryz.func112 rfl (by kernel_rfl) ?_
 have e : ht yq [.l x0] k = ((ps (ng (hdR (hd (.l q7 .nil)) x0 k))).bind fun v1 => some v1) := by simp only [ht, Option.bind_assoc, Option.bind_some]
 rw [e]
 refine z7 rfl (y31 x0 k h0) rfl tv3 ?_
 generalize hk0 : ng (hdR (hd (.l q7 .nil)) x0 (k)) = k0
 refine xb rfl ?_ ?_ <;> intro hb
 · have hb : k0 < 0 := by simpa using hb
   exact xv rfl rfl rfl (congrArg (Value.int .i64) (y1i (by simp only [hk0, zb1 hb]; rfl)).symm)
 have hb0 : ¬ k0 < 0 := by simpa using hb
 have hp0 : 0 ≤ k0 := by omega
 clear hb
 exact xv rfl rfl rfl (congrArg (Value.int .i64) (by simp only [hk0, z8q hb0, Option.bind_some]; rfl))
end Go.Proofs.YtohbmmpkcibnpaaGreat
end
section
namespace Go.Proofs.YtohbmmpkcibnpaaGreat
open Go Go.Sx
set_option maxRecDepth 20000
theorem y01 {α : Type} {f : α → List Cell} {P : α → Prop} {N : Nat} {e : Sh} : ∀ {rr : List (List Cell)}, WR N e rr → (∀ row, WT N e row → ∃ x, row = f x ∧ P x) → ∃ us : List α, rr = us.map f ∧ us.length ≤ N ∧ ∀ x ∈ us, P x
 | [], _, _ => ⟨[], rfl, Nat.zero_le _, fun x hx => by cases hx⟩
 | row :: rr, h, hc => by
   obtain ⟨x, hx, hp⟩ := hc row (h.2 row List.mem_cons_self)
   obtain ⟨us, hu, _, hps⟩ := y01 (rr := rr) ⟨by have := h.1; simp at this; omega, fun r hr => h.2 r (List.mem_cons_of_mem _ hr)⟩ hc
   refine ⟨x :: us, by rw [hx, hu]; rfl, by have := h.1; rw [hu] at this; simpa using this, fun y hy => ?_⟩
   rcases List.mem_cons.1 hy with rfl | hy
   · exact hp
   · exact hps y hy
theorem y9e {N : Nat} (row : List Cell) (h : WT N y02 row) : ∃ x : Leg, row = x.cs ∧ True := by
 obtain ⟨a0, a1, a2, a3, rfl⟩ := y2o h
 exact ⟨⟨a0, a1, a2, a3⟩, rfl, trivial⟩
theorem z2u {N : Nat} (row : List Cell) (h : WT N q7 row) : ∃ x : Bal, row = x.cs ∧ True := by
 obtain ⟨a0, a1, a2, rfl⟩ := z0a h
 exact ⟨⟨a0, a1, a2⟩, rfl, trivial⟩
theorem q5c {N : Nat} (row : List Cell) (h : WT N zi row) : ∃ x : Mk, row = x.cs ∧ True := by
 obtain ⟨a0, a1, rfl⟩ := y1p h
 exact ⟨⟨a0, a1⟩, rfl, trivial⟩
theorem y5d {N : Nat} (row : List Cell) (h : WT N zo row) : ∃ x : Vt, row = x.cs ∧ True := by
 obtain ⟨a0, a1, rfl⟩ := z1q h
 exact ⟨⟨a0, a1⟩, rfl, trivial⟩
theorem z7a {N : Nat} (row : List Cell) (h : WT N zp row) : ∃ x : Hd, row = x.cs ∧ True := by
 obtain ⟨a0, a1, a2, a3, a4, rfl⟩ := q14 h
 exact ⟨⟨a0, a1, a2, a3, a4⟩, rfl, trivial⟩
theorem z5d {N : Nat} (row : List Cell) (h : WT N qg row) : ∃ x : Msg, row = x.cs ∧ True := by
 obtain ⟨a0, a1, a2, a3, a4, a5, a6, a7, a8, rfl⟩ := q0j h
 exact ⟨⟨a0, a1, a2, a3, a4, a5, a6, a7, a8⟩, rfl, trivial⟩
theorem z6s {N : Nat} (row : List Cell) (h : WT N (.i .i64 .nil) row) : ∃ x : Int, row = [i64 x] ∧ True := by
 obtain ⟨x0, _, rfl, hnil⟩ := h.zz
 obtain rfl := hnil.qr
 exact ⟨x0, rfl, trivial⟩
theorem z2a (row : List Cell) (h : WT 1048576 z8 row) : ∃ x : Con, row = x.cs ∧ x.legs.length ≤ 1048576 := by
 obtain ⟨a, b, rfl, h1⟩ := z0c h
 obtain ⟨us, rfl, hl, _⟩ := y01 h1 y9e
 exact ⟨⟨a, us⟩, rfl, hl⟩
theorem y7a (row : List Cell) (h : WT 1048576 zg row) : ∃ x : Shd, row = x.cs ∧ qci x := by
 obtain ⟨a, b, c, d, e, f, rfl, h1, h2, h3, h4, h5⟩ := z15 h
 obtain ⟨u1, rfl, l1, _⟩ := y01 h1 z2u
 obtain ⟨u2, rfl, l2, _⟩ := y01 h2 q5c
 obtain ⟨u3, rfl, l3, p3⟩ := y01 h3 z2a
 obtain ⟨u4, rfl, l4, _⟩ := y01 h4 q5c
 obtain ⟨u5, rfl, l5, _⟩ := y01 h5 z6s
 exact ⟨⟨a, u1, u2, u3, u4, u5⟩, rfl, l1, l2, l3, l4, l5, p3⟩
theorem y82 (row : List Cell) (h : WT 1048576 zn row) : ∃ x : Slt, row = x.cs ∧ x.cast.length ≤ 1048576 := by
 obtain ⟨a, b, c, d, e, f, rfl, h1⟩ := q1p h
 obtain ⟨u1, rfl, l1, _⟩ := y01 h1 y5d
 exact ⟨⟨a, b, c, d, e, u1⟩, rfl, l1⟩
theorem y4m (row : List Cell) (h : WT 1048576 qa row) : ∃ x : Acc, row = x.cs ∧ z7t x := by
 obtain ⟨a, rfl, h1⟩ := q0b h
 obtain ⟨u1, rfl, l1, p1⟩ := y01 h1 y82
 exact ⟨⟨u1⟩, rfl, l1, p1⟩
theorem q9e (row : List Cell) (h : WT 1048576 zr row) : ∃ x : Tr, row = x.cs ∧ ybh x := by
 obtain ⟨a, b, c, d, e, f, rfl, h1, h2⟩ := q2o h
 obtain ⟨u1, rfl, l1, _⟩ := y01 h1 z6s
 obtain ⟨u2, rfl, l2, _⟩ := y01 h2 y5d
 exact ⟨⟨a, b, c, d, u1, u2⟩, rfl, l1, l2⟩
theorem y62 (row : List Cell) (h : WT 1048576 qe row) : ∃ x : Ldr, row = x.cs ∧ qac x := by
 obtain ⟨a, b, c, rfl, h1, h2⟩ := y0q h
 obtain ⟨u1, rfl, l1, p1⟩ := y01 h1 q9e
 obtain ⟨u2, rfl, l2, _⟩ := y01 h2 z7a
 exact ⟨⟨a, u1, u2⟩, rfl, l1, l2, p1⟩
theorem y5c (row : List Cell) (h : WT 1048576 qp row) : ∃ x : Clu, row = x.cs ∧ zy x := by
 obtain ⟨a, b, c, d, e, rfl, h1, h2, h3, h4, h5⟩ := z0t h
 obtain ⟨u1, rfl, l1, p1⟩ := y01 h1 z2a
 obtain ⟨u2, rfl, l2, p2⟩ := y01 h2 y7a
 obtain ⟨u3, rfl, l3, p3⟩ := y01 h3 y4m
 obtain ⟨u4, rfl, l4, p4⟩ := y01 h4 y62
 obtain ⟨u5, rfl, l5, _⟩ := y01 h5 z5d
 exact ⟨⟨u1, u2, u3, u4, u5⟩, rfl, ⟨l1, p1⟩, ⟨l2, p2⟩, ⟨l3, p3⟩, ⟨l4, p4⟩, l5⟩
theorem z1z {f : List Cell → Nat} {row : List Cell} : ∀ {rows : List (List Cell)}, row ∈ rows → f row ≤ q01 f rows
 | r :: rows, h => by
   rw [q01]
   rcases List.mem_cons.1 h with rfl | h
   · omega
   · have := z1z (f := f) h; omega
theorem zab {N M : Nat} {e : Sh} {cs : List Cell} (hw : WT N e cs) : tot e cs ≤ M → WT M e cs := by
 induction hw with
 | nil => exact fun _ => .nil
 | i n _ ih => exact fun h => .i n (ih h)
 | b x _ ih => exact fun h => .b x (ih h)
 | @l e' r' cs' rows h1 h2 h3 ih1 ih2 =>
   intro h
   simp only [tot] at h
   exact .l rows (by omega) (fun row hr => ih1 row hr (by have := z1z (f := tot e') hr; omega)) (ih2 (by omega))
end Go.Proofs.YtohbmmpkcibnpaaGreat
end
section
namespace Go.Proofs.YtohbmmpkcibnpaaGreat
open Go Go.Sx
set_option maxRecDepth 20000
set_option maxHeartbeats 4000000
theorem qbk (x0 x1 x2 x3 x4 : List (List Cell)) (hw : WT 9223372036854775807 qp [.l x0, .l x1, .l x2, .l x3, .l x4]) (b : Nat) (hb : b ≤ 1048576) :
 PC Tryz.prog 9 [.agg [.l x0, .l x1, .l x2, .l x3, .l x4], .one (i64 b)] (rI (-1)) ∨ ∃ c : Clu, x0 = c.cons.map Con.cs ∧ x1 = c.shs.map Shd.cs ∧ x2 = c.accs.map Acc.cs ∧ x3 = c.ldrs.map Ldr.cs ∧ x4 = c.msgs.map Msg.cs ∧ zy c ∧ (WT 1048576 qp c.cs ∧ tot qp c.cs ≤ b) ∧
  (∃ n : Nat, n ≤ b ∧ PC Tryz.prog 9 [.agg c.cs, .one (i64 b)] (rI n)) ∧ PC Tryz.prog 11 [.agg c.cs] (.one (.own true [.l 2 (c.cons.map Con.cs), .l 6 (c.shs.map Shd.cs), .l 1 (c.accs.map Acc.cs), .l 3 (c.ldrs.map Ldr.cs), .l 9 (c.msgs.map Msg.cs)])) ∧
  PC Tryz.prog 14 [.agg c.cs, .agg c.cs] (rB true) := by
 obtain ⟨_, _, _, _, _, e, k0, k1, k2, k3, k4⟩ := z0t hw
 cases e
 have hsz := z5u x0 x1 x2 x3 x4 b k0 k1 k2 k3 k4 (by omega) (by omega)
 by_cases ht : tot qp [.l x0, .l x1, .l x2, .l x3, .l x4] ≤ b
 · right
   have hs : szn b (tot qp [.l x0, .l x1, .l x2, .l x3, .l x4]) = ((b - tot qp [.l x0, .l x1, .l x2, .l x3, .l x4] : Nat) : Int) := by
    unfold szn; rw [if_neg (by omega)]; omega
   rw [hs] at hsz
   have hwt := zab hw (Nat.le_trans ht hb)
   obtain ⟨_, _, _, _, _, e, m0, m1, m2, m3, m4⟩ := z0t hwt
   cases e
   obtain ⟨c, ec, ho⟩ := y5c _ hwt
   have up : ∀ {e : Sh} {r : List (List Cell)}, WR 1048576 e r → WR 9000000000000000000 e r := fun h => h.mono (by omega)
   have heq := z5e x0 x1 x2 x3 x4 x0 x1 x2 x3 x4 (up m0) (up m1) (up m2) (up m3) (up m4) (up m0) (up m1) (up m2) (up m3) (up m4)
   rw [show dE (α := List Cell) [.l x0, .l x1, .l x2, .l x3, .l x4] [.l x0, .l x1, .l x2, .l x3, .l x4] = true from (Value.bool.inj (qv rfl)).symm] at heq
   have hto := z5v x0 x1 x2 x3 x4 m0 m1 m2 m3 m4
   simp only [Clu.cs, List.cons.injEq, Cell.l.injEq, and_true] at ec
   obtain ⟨rfl, rfl, rfl, rfl, rfl⟩ := ec
   exact ⟨c, rfl, rfl, rfl, rfl, rfl, ho, ⟨hwt, ht⟩, ⟨_, Nat.sub_le _ _, hsz⟩, hto, heq⟩
 · left
   have hs : szn b (tot qp [.l x0, .l x1, .l x2, .l x3, .l x4]) = -1 := by
    unfold szn; rw [if_pos (by omega)]
   rw [hs] at hsz
   exact hsz
theorem sc_Vt (us : List Vt) : yu (us.map Vt.cs) := fun row hr => by
 obtain ⟨x, _, rfl⟩ := List.mem_map.1 hr
 intro c hc
 simp only [Vt.cs, List.mem_cons, List.not_mem_nil, or_false] at hc
 rcases hc with rfl | rfl <;> exact ⟨_, rfl⟩
theorem ybu (us : List Bal) : yu (us.map Bal.cs) := fun row hr => by
 obtain ⟨x, _, rfl⟩ := List.mem_map.1 hr
 intro c hc
 simp only [Bal.cs, List.mem_cons, List.not_mem_nil, or_false] at hc
 rcases hc with rfl | rfl | rfl <;> exact ⟨_, rfl⟩
theorem z3c (us : List Bal) (hl : us.length ≤ 1048576) : PC Tryz.prog 294 [.one (.l (us.map Bal.cs))] (.one (.own false [.l 3 (us.map Bal.cs)])) := by
 refine PC.begin Tryz.func294 rfl (by kernel_rfl) ?_
 have hsc := ybu us
 refine yco rfl (fun b0 b0' => ?_)
 refine xb rfl ?_ ?_ <;> intro b1
 refine xr rfl (ym rfl ⟨⟨rfl, ?_, trivial⟩, z6 rfl⟩); rotate_left
 refine xs rfl trivial (xs rfl rfl (xs rfl (by simp) (xs rfl (fun _ => hsc) (xs rfl (by simp; omega) (xs rfl (by simp; omega) ?_)))))
 refine xr rfl (ym rfl ⟨⟨rfl, ⟨?_, rfl, .inl rfl⟩, trivial⟩, z6 rfl⟩); rotate_left
 · exact b0' b1
 · simp
end Go.Proofs.YtohbmmpkcibnpaaGreat
end
section
namespace Go.Proofs.YtohbmmpkcibnpaaGreat
open Go Go.Sx
set_option maxRecDepth 20000
set_option maxHeartbeats 4000000
open Go.Proofs Go.Shelf Go.RowKit Go.Lib Go.Sort
instance : Inhabited Vt := ⟨⟨0, 0⟩⟩
section
variable {α : Type} [Inhabited α]
end
section
variable {α : Type} [Inhabited α] (enc : α → List Value) (cs : α → List Cell) (k : Nat)
theorem z6t {α : Type} (enc : α → List Value) (k : Nat) (hk : ∀ x, (enc x).length = k) : ∀ us : List α, (us.flatMap enc).length = us.length * k
 | [] => by simp
 | x :: us => by rw [List.flatMap_cons, List.length_append, z6t enc k hk us, hk, List.length_cons, Nat.add_mul, Nat.one_mul, Nat.add_comm]
theorem q88 {α : Type} (enc : α → List Value) (k : Nat) (hk : ∀ x, (enc x).length = k) : ∀ {us : List α} {j c : Nat} {x : α}, us[j]? = some x → c < k → (us.flatMap enc)[j * k + c]? = (enc x)[c]?
 | x :: us, 0, c, m, h, hc => by
   cases h
   rw [List.flatMap_cons, Nat.zero_mul, Nat.zero_add, List.getElem?_append_left (by rw [hk]; exact hc)]
 | x :: us, j + 1, c, m, h, hc => by
   have h1 := q88 enc k hk (us := us) (j := j) (c := c) (by simpa using h) hc
   rw [List.flatMap_cons, Nat.add_mul, Nat.one_mul, List.getElem?_append_right (by rw [hk]; omega), hk, ← h1]
   congr 1
   omega
theorem qb6 {α : Type} (enc : α → List Value) (cs : α → List Cell) (k : Nat) {w : World} {N S : Nat → Prop} {us : List α} {v : Value} (hk : ∀ x, (enc x).length = k) (hcs : ∀ x, cs x = (enc x).map Cell.s) (h : y0d w (CN w N true) S k (us.map cs) v) : (us = [] ∧ ∃ A, v = .slice A 0 0) ∨ ∃ e, w.ownsRow 0 e k v us.length (us.flatMap enc) ∧ ∀ g, v.ownBlock = some g → S g := by
 rcases h with ⟨hn, A, rfl⟩ | ⟨e, xs, u, F, h⟩
 · exact .inl ⟨by simpa using hn, A, rfl⟩
 · refine .inr ⟨e, ?_, h.hS⟩
   have ho := h.ho
   have hl : (us.map cs).length = us.length := by simp
   rw [hl] at ho
   have hxl : xs.length = us.length * k := ho.1
   have hx : xs = us.flatMap enc := by
    refine List.ext_getElem? fun t => ?_
    by_cases ht : t < us.length * k
    · have k0 : 0 < k := by rcases Nat.eq_zero_or_pos k with h | h; · subst h; simp at ht
                            · exact h
      have hj : t / k < us.length := by rw [Nat.div_lt_iff_lt_mul k0]; exact ht
      have hc : t % k < k := Nat.mod_lt _ k0
      have et : t = t / k * k + t % k := by rw [Nat.mul_comm, Nat.div_add_mod]
      have h3 := h.hu (t / k) (t % k) (by omega) hc
      have hce : t % k < (enc us[t / k]).length := by rw [hk]; exact hc
      have h4 := ybt (h.hr (t / k) (t % k) (cs us[t / k]) (.s (enc us[t / k])[t % k]) (by simp [hj]) (by rw [hcs]; simp [hce]))
      rw [et, h3, h4, q88 enc k hk (List.getElem?_eq_getElem hj) hc]
      simp [hce]
    · rw [List.getElem?_eq_none (by omega), List.getElem?_eq_none (by rw [z6t enc k hk]; omega)]
   rw [hx] at ho
   exact ho
theorem q1s {α : Type} (enc : α → List Value) (cs : α → List Cell) (k : Nat) {w : World} {S : Nat → Prop} {us : List α} {v : Value} {e : TypeId} (hk : ∀ x, (enc x).length = k) (hcs : ∀ x, cs x = (enc x).map Cell.s) (h1 : ∀ x, ∀ v ∈ enc x, v.oneCell' = true) (h : w.ownsRow 0 e k v us.length (us.flatMap enc)) (hS : ∀ g, v.ownBlock = some g → S g) : y0d w (Go.Sx.Own w) S k (us.map cs) v := by
 refine .inr ⟨e, us.flatMap enc, fun j c => ((us[j]?).bind fun m => (enc m)[c]?).getD undef, fun _ _ _ => False, by simpa using h, hS, fun row hrow => ?_, fun _ _ _ h => h.elim, fun _ _ _ _ _ h => h.elim, fun j c hj hc => ?_, fun j c row x hj hc => ?_⟩
 · obtain ⟨m, _, rfl⟩ := List.mem_map.1 hrow; rw [hcs, List.length_map, hk]
 · have hj : j < us.length := by simpa using hj
   rw [q88 enc k hk (List.getElem?_eq_getElem hj) hc, List.getElem?_eq_getElem hj, Option.bind_some, List.getElem?_eq_getElem (by rw [hk]; exact hc)]
   rfl
 · have hjl : j < us.length := by have := (List.getElem?_eq_some_iff.1 hj).1; simpa using this
   have er : row = cs us[j] := by simp [hjl] at hj; exact hj.symm
   subst er
   rw [hcs] at hc
   rw [List.getElem?_map, Option.map_eq_some_iff] at hc
   obtain ⟨val, c1, rfl⟩ := hc
   simp only [List.getElem?_eq_getElem hjl, Option.bind_some, c1, Option.getD_some]
   exact .s _ _ (h1 _ val (List.mem_of_getElem? c1))
theorem y66 {α : Type} (enc : α → List Value) (k : Nat) (hk : ∀ x, (enc x).length = k) : ∀ (us : List α) (i : Nat), (us.flatMap enc).take (i * k) = (us.take i).flatMap enc
 | [], i => by simp
 | m :: us, 0 => by simp
 | m :: us, i + 1 => by
   have h := y66 enc k hk us i
   rw [List.flatMap_cons, List.take_append, List.take_of_length_le (by rw [hk, Nat.add_mul]; omega), List.take_succ_cons, List.flatMap_cons, ← h, hk]
   congr 2
   rw [Nat.add_mul]; omega
end
def q0i (x : Bal) : List Value := [.int .i64 x.a, .int .i64 x.b, .int .i64 x.v]
theorem yn (x : Bal) : (q0i x).length = 3 := rfl
theorem z18 (x : Bal) : x.cs = (q0i x).map Cell.s := rfl
theorem z0e (x : Bal) : ∀ v ∈ q0i x, v.oneCell' = true := fun v hv => by
 simp only [q0i, List.mem_cons, List.not_mem_nil, or_false] at hv
 rcases hv with rfl | rfl | rfl <;> rfl
theorem q65 {us : List Bal} : ∀ u ∈ us.flatMap q0i, u.oneCell' = true := fun u hu => by
 obtain ⟨m, _, h⟩ := List.mem_flatMap.1 hu
 exact z0e m u h
theorem z66 {α : Type} (enc : α → List Value) (k : Nat) (hk : ∀ x, (enc x).length = k) : ∀ (us : List α) (i : Nat), (us.flatMap enc).drop (i * k) = (us.drop i).flatMap enc
 | [], i => by simp
 | m :: us, 0 => by simp
 | m :: us, i + 1 => by
   have h := z66 enc k hk us i
   rw [List.flatMap_cons, List.drop_append, List.drop_of_length_le (by rw [hk, Nat.add_mul]; omega), List.drop_succ_cons, List.nil_append, ← h, hk]
   congr 1
   rw [Nat.add_mul]; omega
theorem z9f (g n cap i j : Nat) (xs : List Value) (w : World) (base : Nat) (e : TypeId) (ho : w.ownsRow base e 3 (.slice (some ⟨g, 0, none⟩) n cap) n xs) (h1c : ∀ u ∈ xs, u.oneCell' = true) (hi : i < n) (hj : j = i + 1) :
 Calls Tryz.prog 392 #[.slice (some ⟨g, 0, none⟩) n cap, .int .i64 i, .int .i64 (j : Nat)] w fun e' w' => e' = .returned (.slice (some ⟨g, 0, none⟩) (n - 1) cap) ∧ ∃ (q : Nat) (ys : List Value), ys.length = n * 3 ∧ ys.take ((n - 1) * 3) = xs.take (i * 3) ++ xs.drop (j * 3) ∧ w' = putRow vid (Sort.ahead w q) g 0 ys.toArray := by
 obtain ⟨hH, hnc, hcm, hg⟩ := za7 ho
 have hxl : xs.length = n * 3 := ho.1
 have t43 := Tryz.underlying121
 have a43 := Tryz.isAgg121
 have z43 := Tryz.sizeOf121
 have v43 := Tryz.zeroValue121
 have hcm' : cap ≤ 9223372036854775807 := hcm
 have hic : i ≤ cap := by omega
 have hjc : j ≤ cap := by omega
 have hin : j ≤ n := by omega
 have hij : i ≤ j := by omega
 have hlt : i < j := by omega
 have hne : ¬ (i = j) := by omega
 obtain ⟨news, hnews⟩ : ∃ news, news = xs.drop (j * 3) := ⟨_, rfl⟩
 have hlen : news.length = (n - j) * 3 := by rw [hnews, List.length_drop, hxl, Nat.sub_mul]
 have hmul : (n - j) * 3 = n * 3 - j * 3 := Nat.sub_mul _ _ _
 have hle9 : j * 3 ≤ n * 3 := Nat.mul_le_mul_right _ hin
 obtain ⟨A, hA, hsrc⟩ : ∃ A : Addr, (if cap = j then some (⟨g, 0, none⟩ : Addr) else some ⟨g, j * 3, none⟩) = some A ∧ Hid (∀ t u, news[t]? = some u → w.drew.cell? (A.add t) = some u) := by
  by_cases h : cap = j
  · refine ⟨⟨g, 0, none⟩, by simp [h], fun t u hu => ?_⟩
    have h0 : news.length = 0 := by rw [hlen]; omega
    rw [List.length_eq_zero_iff.1 h0] at hu
    simp at hu
  · refine ⟨⟨g, j * 3, none⟩, by simp [h], fun t u hu => ?_⟩
    have ht : t < news.length := (List.getElem?_eq_some_iff.1 hu).1
    rw [hnews, List.getElem?_drop] at hu
    have hj : j * 3 + t < xs.length := (List.getElem?_eq_some_iff.1 hu).1
    have := (hH (j * 3 + t) (by simpa using hj)).1
    rw [Addr.add_lit]
    show w.cell? _ = _
    rw [Nat.zero_add] at this
    rw [this]
    rw [List.getElem?_eq_getElem hj] at hu
    simp only [Option.some.injEq] at hu
    simp [hj, ← hu, getElem!_pos]
 have s1 : Hid (news.length = (n - j) * 3) := hlen
 have s2 : Hid (∀ u ∈ news, u.oneCell' = true) := fun u hu => h1c u (List.mem_of_mem_drop (hnews ▸ hu))
 have s3 : Hid (∀ t, t < news.length → (w.drew.cell? ⟨g, 0 + i * 3 + t, none⟩).isSome = true ∧ w.drew.frozen? ⟨g, 0 + i * 3 + t, none⟩ = false) := by
  intro t ht
  have := hH (i * 3 + t) (by simp; omega)
  rw [Nat.add_assoc]
  exact ⟨by show (w.cell? _).isSome = true; rw [this.1]; rfl, this.2⟩
 obtain ⟨i0, hi0, hz1⟩ : ∃ i0, Tryz.prog.info? 328 = some i0 ∧ i0.size = 3 := by
  have h : (Tryz.prog.info? 328).map (fun i => i.size) = some 3 := by kernel_rfl
  cases h1 : Tryz.prog.info? 328 with
  | none => rw [h1] at h; cases h
  | some i0 => rw [h1] at h; exact ⟨i0, rfl, by simpa using h⟩
 obtain ⟨W1, hW1⟩ : ∃ W1, W1 = w.drew.setCells g (0 + i * 3) news := ⟨_, rfl⟩
 have hW : Hid (W1 = w.drew.setCells g (i * 3) news) := (by rw [hW1, Nat.zero_add] : W1 = w.drew.setCells g (i * 3) news)
 have hd : xs.toArray.size = n * 3 := by simpa using hxl
 have e9 : (i + (n - j)) * 3 = i * 3 + (n * 3 - j * 3) := by rw [Nat.add_mul, hmul]
 have hW1' : W1 = putRow vid (Sort.ahead w 1) g 0 (lay xs.toArray (i * 3) news) := by
  have h1 := putRow_setCells vid (Sort.ahead w 1) g 0 news xs.toArray (i * 3) (by rw [hlen]; omega)
  rw [putRow_self vid (Sort.ahead w 1) g 0 xs.toArray (holds_ahead vid w 1 g 0 xs.toArray hH)] at h1
  rw [hW1, ← h1]
  simp [vid]
  rfl
 have hH1 : Holds vid W1 g 0 (lay xs.toArray (i * 3) news) := by rw [hW1']; exact holds_putRow vid _ g 0 xs.toArray _ (holds_ahead vid w 1 g 0 xs.toArray hH) (Lib.lay_size _ _ _)
 have hcl : ∀ ty, (Builtin.clear_ #[121] ty #[.slice (some ⟨g, (i + (n - j)) * 3, none⟩) (n - (i + (n - j))) (cap - (i + (n - j)))]).run Tryz.prog W1 = .ok (.tuple #[]) (W1.setCells g ((i + (n - j)) * 3) (List.replicate 3 (.int .i64 0))) := fun ty => by
  have e1 : n - (i + (n - j)) = 1 := by omega
  rw [e1]
  exact q7m W1 121 328 ty (.agg #[.int .i64 0, .int .i64 0, .int .i64 0]) _ t43 Tryz.zeroValue328 g ((i + (n - j)) * 3) 1 _ (by omega) (by kernel_rfl) (fun v hv => by rw [List.eq_of_mem_replicate hv]; rfl)
   (fun t ht => by
     have ht : t < 3 := by simpa using ht
     have := (hH1 ((i + (n - j)) * 3 + t) (by rw [Lib.lay_size, hd]; omega)).1
     rw [Nat.zero_add] at this; rw [this]; rfl)
   (fun t ht => by
     have ht : t < 3 := by simpa using ht
     have := (hH1 ((i + (n - j)) * 3 + t) (by rw [Lib.lay_size, hd]; omega)).2
     rw [Nat.zero_add] at this; exact this)
 have X : Aside (W1 = putRow vid (Sort.ahead w 1) g 0 (lay xs.toArray (i * 3) news)) := hW1'
 have Y : Hid (news = xs.drop (j * 3)) := hnews
 have mixed : Tryz.prog.follows .mixedOrders = true := by kernel_rfl
 have hjx : Hid (j = i + 1) := hj
 have Z : Hid ((i + (n - j)) * 3 = i * 3 + (n * 3 - j * 3)) := e9
 have V : Hid (j * 3 ≤ n * 3) := hle9
 clear hj hnews hlen hW1 hW1' hH1 hH e9 hmul hle9
 refine calls_of_wp Tryz.func392 rfl ?_
 simp only [Tryz.ntmps392, List.size_toArray, List.length_cons, List.length_nil, Nat.reduceAdd, Nat.reduceSub, Array.replicate_succ, Array.replicate_zero, List.push_toArray, List.append_toArray, List.nil_append, List.cons_append]
 go_wp2_with fail
 go_region_law_o (refine step_append_room rfl (.tmp 22) (.tmp 25) 121 rfl 328 i0 3 t43 hi0 hz1 g 0 i cap (by simp [Act.eval, Act.put]) A (n - j) (cap - j) news (by simp [Act.eval, Act.put]) s1.out hsrc.out s2.out (by omega) s3.out ?_; rw [Nat.zero_add, ← hW.out])
 go_wp2
 go_ret
 have hx := X
 have hy := Y.out
 have hz := Z.out
 have hv := V.out
 have hjj := hjx.out
 have hnl : news.length = n * 3 - j * 3 := by rw [hy, List.length_drop, hxl]
 refine ⟨by rw [show i + (n - j) = n - 1 by omega]; rfl, 1, (lay (lay xs.toArray (i * 3) news) ((i + (n - j)) * 3) (List.replicate 3 (Value.int .i64 0))).toList, by rw [Array.length_toList, Lib.lay_size, Lib.lay_size, hd], ?_, ?_⟩
 · have e1 : (n - 1) * 3 = (i + (n - j)) * 3 := by rw [show i + (n - j) = n - 1 by omega]
   rw [e1]
   apply List.ext_getElem?
   intro t
   rw [List.getElem?_take, Array.getElem?_toList, lay_get? _ _ _ _ (by rw [Lib.lay_size, hd]; simp; omega), lay_get? _ _ _ _ (by rw [hd, hnl]; omega)]
   by_cases h1 : t < (i + (n - j)) * 3
   · rw [if_pos h1, if_neg (by omega)]
     by_cases h2 : t < i * 3
     · rw [if_neg (by omega), List.getElem?_append_left (by simp; omega), List.getElem?_take, if_pos h2]
       simp
     · rw [if_pos (by omega), List.getElem?_append_right (by simp; omega), hy, List.length_take, Nat.min_eq_left (by omega)]
   · rw [if_neg h1, List.getElem?_eq_none]
     rw [List.length_append, List.length_take, ← hy, hnl]
     omega
 · have h2 := putRow_setCells vid (Sort.ahead w 1) g 0 (List.replicate 3 (Value.int .i64 0)) (lay xs.toArray (i * 3) news) ((i + (n - j)) * 3) (by rw [Lib.lay_size, hd]; simp; omega)
   rw [← hx.out] at h2
   simpa [vid] using h2
theorem qak (us : List Bal) (i : Nat) (j : Int) (hi : i < us.length) (hj : j = (i : Int) + 1) : PG Tryz.prog 392 [.one (.giv true 3 (us.map Bal.cs)), .one (.bor (i64 i)), .one (.bor (i64 j))] (.one (.own false [.l 3 ((us.take i ++ us.drop (i + 1)).map Bal.cs)])) [] := by
 subst hj
 refine ⟨by kernel_rfl, fun N S w vals hS hSd hsh hc => ?_⟩
 obtain ⟨v0, v1, v2, rfl⟩ : ∃ v0 v1 v2, vals = #[v0, v1, v2] := by
  match vals, hsh with
  | ⟨[v0, v1, v2]⟩, _ => exact ⟨v0, v1, v2, rfl⟩
 obtain ⟨sz, hz, h0⟩ := hc 0 _ v0 rfl rfl
 obtain rfl := hz (by decide)
 have h1 : Rep w N (i64 i) v1 := hc 1 _ v1 rfl rfl
 have h2 : Rep w N (i64 ((i : Int) + 1)) v2 := hc 2 _ v2 rfl rfl
 obtain rfl : v1 = .int .i64 i := by cases h1; rfl
 obtain rfl : v2 = .int .i64 ((i : Int) + 1) := by cases h2; rfl
 rcases qb6 q0i Bal.cs 3 yn z18 h0 with ⟨rfl, A, rfl⟩ | ⟨e, ho, hSo⟩
 · simp at hi
 · obtain ⟨g, cap, rfl⟩ : ∃ g cap, v0 = .slice (some ⟨g, 0, none⟩) us.length cap := by
    rcases ho.2 with ⟨_, h⟩ | ⟨g, cap, cur, h, _⟩
    · omega
    · exact ⟨g, cap, h⟩
   have hgS := hSo g rfl
   obtain ⟨_, _, _, hg⟩ := za7 ho
   refine (z9f g us.length cap i (i + 1) (us.flatMap q0i) w 0 e ho q65 hi rfl).mono ?_
   rintro e' w' ⟨rfl, q, ys, hyl, hyt, rfl⟩
   have hp := z5o (q := q) (k := us.length - 1) ho hyl (by omega)
   have hel : (us.take i ++ us.drop (i + 1)).length = us.length - 1 := by simp; omega
   rw [hyt, y66 q0i 3 yn, z66 q0i 3 yn, ← List.flatMap_append, ← hel] at hp
   rw [← hel]
   have hsl := q1s q0i Bal.cs 3 (S := fun x => x = g) yn z18 z0e hp (fun g' h => by cases h; rfl)
   have hsz : g < (putRow vid (Sort.ahead w q) g 0 ys.toArray).heap.size := by simpa [Go.Sort.putRow, Go.Sort.mapBlock, Go.Sort.ahead] using hg
   refine ⟨_, fun x => x = g, fun _ _ => False, rfl, ⟨rfl, rfl, rfl, by simp [Go.Sort.putRow, Go.Sort.mapBlock, Go.Sort.ahead], fun k hk hnk => ?_⟩, ⟨#[_], fun k x => k = 0 ∧ x = g, rfl, rfl, fun k x hx => hx.2, fun k k' x hx hx' => by rw [hx.1, hx'.1], fun k c u hc hu => ?_⟩, fun x hx => ⟨.inr ⟨0, hx ▸ hgS⟩, hx ▸ hsz, fun _ h => h⟩, fun _ _ h => h.elim, fun _ _ _ h => h.elim, fun t rows' hb => by cases hb⟩
   · have hng : g ≠ k := fun h => hnk ⟨0, h ▸ hgS⟩
     simp [Go.Sort.putRow, Go.Sort.mapBlock, Go.Sort.ahead, Array.getElem?_modify, hng]
   · cases k with
     | succ k => simp at hc
     | zero =>
       cases hc
       cases hu
       exact ⟨3, fun _ => rfl, y0d.imp hsl (fun _ h => ⟨rfl, h⟩) (fun _ _ _ => rfl) (fun _ _ _ _ h => h)⟩
theorem y2a {P : Program} (w : World) (dT sT ty elem : TypeId) (g o dLen dCap : Nat) (a : Addr) (sLen sCap : Nat) (cur : Array Value) (t : TypeId) (cs : List Value) (sz m : Nat)
 (hu : P.underlying dT = some (.slice elem)) (hs : (P.info? elem).map (·.size) = some sz)
 (hg : w.heap[g]? = some (.cells cur t (0, 0))) (hm : Nat.min sLen dLen = m) (hn : cs.length = m * sz)
 (hsrc : ∀ j v, cs[j]? = some v → w.cell? (a.add j) = some v) (hfit : o + cs.length ≤ cur.size) (h1 : ∀ v ∈ cs, v.oneCell' = true) :
 (Builtin.copy_ #[dT, sT] ty #[.slice (some ⟨g, o, none⟩) dLen dCap, .slice (some a) sLen sCap]).run P w =
   .ok (goInt m) (w.setRow g (cur.toList.take o ++ cs ++ cur.toList.drop (o + cs.length)).toArray) := by
 have hl := run_loadCells_list (P := P) w a cs hsrc
 have hst := run_storeCells_at P g o t cs 0 cur w hg (by simpa using hfit) h1
 cases hq : P.info? elem with
 | none => simp [hq] at hs
 | some i =>
   have hi : i.size = sz := by simpa [hq] using hs
   simp [Builtin.copy_, run_underlying hu, Builtin.lenOf, Builtin.firstCells, sizeOf, typeInfo, hq, hi, hm, ← hn, hl, hst]
theorem qas {cur xs e : List Value} {n i k : Nat} (hi : i ≤ n) (hx : cur.take (n * k) = xs) (hxl : xs.length = n * k) (he : e.length = k) (hc : (n + 1) * k ≤ cur.length) :
 (((cur.take ((i + 1) * k) ++ xs.drop (i * k) ++ cur.drop ((i + 1) * k + (xs.drop (i * k)).length)).take (i * k) ++ e ++ (cur.take ((i + 1) * k) ++ xs.drop (i * k) ++ cur.drop ((i + 1) * k + (xs.drop (i * k)).length)).drop (i * k + e.length))).take ((n + 1) * k) = xs.take (i * k) ++ e ++ xs.drop (i * k) := by
 have a1 : i * k ≤ n * k := Nat.mul_le_mul_right _ hi
 have a2 : (i + 1) * k = i * k + k := by rw [Nat.add_mul, Nat.one_mul]
 have a3 : (n + 1) * k = n * k + k := by rw [Nat.add_mul, Nat.one_mul]
 have hdl : (xs.drop (i * k)).length = n * k - i * k := by rw [List.length_drop, hxl]
 generalize i * k = p at *
 generalize n * k = q at *
 rw [a2, a3, he]
 rw [a3] at hc
 have hl1 : (cur.take (p + k)).length = p + k := by rw [List.length_take]; omega
 have h1 : (cur.take (p + k) ++ xs.drop p ++ cur.drop (p + k + (xs.drop p).length)).take p = xs.take p := by
  rw [List.append_assoc, List.take_append_of_le_length (by omega), List.take_take, ← hx, List.take_take]
  congr 1; omega
 have h2 : (cur.take (p + k) ++ xs.drop p ++ cur.drop (p + k + (xs.drop p).length)).drop (p + k) = xs.drop p ++ cur.drop (p + k + (xs.drop p).length) := by
  rw [List.append_assoc, List.drop_left' hl1]
 rw [h1, h2, ← List.append_assoc, List.take_left' (by rw [List.length_append, List.length_append, List.length_take, hdl, he]; omega)]
theorem y15 {w : World} {g cap n k : Nat} {e : TypeId} {cur : Array Value} {ys : List Value} (hg : w.heap[g]? = some (.cells cur e (0, 0))) (hn : n ≤ cap) (hm : cap ≤ maxLen) (hs : cur.size = cap * k) (ht : cur.toList.take (n * k) = ys) (hl : ys.length = n * k) :
 w.ownsRow 0 e k (.slice (some ⟨g, 0, none⟩) n cap) n ys := ⟨hl, .inr ⟨g, cap, cur, rfl, Nat.zero_le _, hg, hn, hm, hs, ht⟩⟩
theorem y24 {w : World} {g : Nat} {e : TypeId} {cur : Array Value} (hg : w.heap[g]? = some (.cells cur e (0, 0))) (j : Nat) : w.cell? ⟨g, j, none⟩ = cur[j]? := by
 simp [World.cell?, hg]
theorem zaa {w : World} {g : Nat} {e : TypeId} {cur : Array Value} (hg : w.heap[g]? = some (.cells cur e (0, 0))) (j : Nat) : w.frozen? ⟨g, j, none⟩ = false := by
 simp [World.frozen?, hg]
theorem q4s (base : Option Addr) (n c g2 c2 : Nat) (v' : Value) (w w' : World) (hnc : n ≤ c) (hc63 : c ≤ 9223372036854775807) (h2 : 1 ≤ c2) (hb : base = none → n = 0 ∧ c = 0)
 (hrun : ∀ ty, (Builtin.append_ #[121, 121] ty #[.slice base n c, .slice (some ⟨g2, 0, none⟩) 1 c2]).run Tryz.prog w = .ok v' w') :
 Calls Tryz.prog 391 #[.slice base n c, .int .i64 n, .slice (some ⟨g2, 0, none⟩) 1 c2] w fun e w'' => e = .returned v' ∧ w'' = w' := by
 have mixed : Tryz.prog.follows .mixedOrders = true := by kernel_rfl
 have t3 := Tryz.underlying3
 have a3 := Tryz.isAgg3
 have z3 := Tryz.sizeOf3
 have v3 := Tryz.zeroValue3
 have t4 := Tryz.underlying4
 have a4 := Tryz.isAgg4
 have z4 := Tryz.sizeOf4
 have v4 := Tryz.zeroValue4
 have t22 := Tryz.underlying121
 have a22 := Tryz.isAgg121
 have z22 := Tryz.sizeOf121
 have v22 := Tryz.zeroValue121
 have zE := Tryz.sizeOf328
 cases base with
 | none =>
   obtain ⟨rfl, rfl⟩ := hb rfl
   refine calls_of_wp Tryz.func391 rfl ?_
   simp only [Tryz.ntmps391, List.size_toArray, List.length_cons, List.length_nil, Nat.reduceAdd, Nat.reduceSub, Array.replicate_succ, Array.replicate_zero, List.push_toArray, List.append_toArray, List.nil_append, List.cons_append]
   go_wp2_with (at_builtin; refine Lib.wpList_append_run _ rfl _ _ _ _ rfl _ _ rfl rfl _ _ (hrun _) ?_)
   go_ret
   exact ⟨rfl, rfl⟩
 | some a =>
   obtain ⟨ab, ao, asp⟩ := a
   refine calls_of_wp Tryz.func391 rfl ?_
   simp only [Tryz.ntmps391, List.size_toArray, List.length_cons, List.length_nil, Nat.reduceAdd, Nat.reduceSub, Array.replicate_succ, Array.replicate_zero, List.push_toArray, List.append_toArray, List.nil_append, List.cons_append]
   go_wp2_with (at_builtin; refine Lib.wpList_append_run _ rfl _ _ _ _ rfl _ _ rfl rfl _ _ (hrun _) ?_)
   all_goals (go_ret; exact ⟨rfl, rfl⟩)
theorem q7e (g n c i g2 c2 : Nat) (xs : List Value) (x : Bal) (w : World) (cur cur2 : Array Value) (eA eB : TypeId) (hi : i < n) (hroom : n + 1 ≤ c) (hc63 : c ≤ 9223372036854775807) (hne : g2 ≠ g) (hxl : xs.length = n * 3)
 (hg : w.heap[g]? = some (.cells cur eA (0, 0))) (hcs : cur.size = c * 3) (htk : cur.toList.take (n * 3) = xs) (hg2 : w.heap[g2]? = some (.cells cur2 eB (0, 0))) (h2 : 3 ≤ cur2.size) (htk2 : cur2.toList.take 3 = q0i x) (h1c : ∀ v ∈ xs, v.oneCell' = true) :
 Calls Tryz.prog 391 #[.slice (some ⟨g, 0, none⟩) n c, .int .i64 i, .slice (some ⟨g2, 0, none⟩) 1 c2] w fun e w' => e = .returned (.slice (some ⟨g, 0, none⟩) (n + 1) c) ∧ ∃ F : Array Value, F.size = cur.size ∧ F.toList.take ((n + 1) * 3) = xs.take (i * 3) ++ q0i x ++ xs.drop (i * 3) ∧ w' = w.drew.setRow g F := by
 have mixed : Tryz.prog.follows .mixedOrders = true := by kernel_rfl
 have t3 := Tryz.underlying3
 have a3 := Tryz.isAgg3
 have z3 := Tryz.sizeOf3
 have v3 := Tryz.zeroValue3
 have t4 := Tryz.underlying4
 have a4 := Tryz.isAgg4
 have z4 := Tryz.sizeOf4
 have v4 := Tryz.zeroValue4
 have t22 := Tryz.underlying121
 have a22 := Tryz.isAgg121
 have z22 := Tryz.sizeOf121
 have v22 := Tryz.zeroValue121
 have zE := Tryz.sizeOf328
 have hsz : (Tryz.prog.info? 328).map (fun i => i.size) = some 3 := by kernel_rfl
 have hov : ∀ lb cb, (callFunc 437 #[.slice (some ⟨g2, 0, none⟩) 1 c2, .slice (some ⟨g, (i + 1) * 3, none⟩) lb cb]).run Tryz.prog w = .ok (.value (.bool false)) w := fun lb cb => by
  rw [run_callFunc_extern Tryz.func437 (by kernel_rfl) (by kernel_rfl) (by kernel_rfl) (e := Extern.SlicesOverlaps.overlaps #[121, 121] #[4]) (by kernel_rfl),
   Lib.run_overlaps_apart w 121 4 328 t22 3 zE ⟨g2, 0, none⟩ ⟨g, (i + 1) * 3, none⟩ 1 c2 lb cb hne eB eA cur2.size cur.size (by simp [World.shape?, hg2]) (by simp [World.shape?, hg]) (by omega) (zaa hg2 0) (zaa hg2 _)]
  rfl
 have a1 : i * 3 ≤ n * 3 := Nat.mul_le_mul_right _ (by omega)
 have hdl : (xs.drop (i * 3)).length = (n - i) * 3 := by rw [List.length_drop, hxl, Nat.sub_mul]
 have hcx : ∀ j v, xs[j]? = some v → cur[j]? = some v := fun j v h => by
  rw [← htk, List.getElem?_take] at h
  split at h
  · rwa [Array.getElem?_toList] at h
  · cases h
 have hw1 : IntKind.i64.wrap ((i : Int) + 1) = (i : Int) + 1 := wrap_i64 (by omega) (by omega)
 have hw2 : IntKind.i64.wrap ((n : Int) + 1) = (n : Int) + 1 := wrap_i64 (by omega) (by omega)
 have hz2 : ¬ ((i : Int) = (n : Int)) := by omega
 have hz3 : ¬ ((c : Int) < (n : Int) + 1) := by omega
 have hb1 : (0 : Int) ≤ (i : Int) + 1 := by omega
 have hin : i ≤ n := by omega
 have htn : ((i : Int) + 1).toNat = i + 1 := by omega
 have htn2 : ((n : Int) + 1).toNat = n + 1 := by omega
 have hb2 : ¬ (c = i + 1) := by omega
 have hb3 : (i : Int) ≤ (n : Int) + 1 := by omega
 have hb4 : ¬ (c = i) := by omega
 obtain ⟨F1, hF1⟩ : ∃ F1, F1 = (cur.toList.take ((i + 1) * 3) ++ xs.drop (i * 3) ++ cur.toList.drop ((i + 1) * 3 + (xs.drop (i * 3)).length)).toArray := ⟨_, rfl⟩
 have hcp1 : ∀ ty dc sc, (Builtin.copy_ #[121, 121] ty #[.slice (some ⟨g, (i + 1) * 3, none⟩) (n - i) dc, .slice (some ⟨g, i * 3, none⟩) (n + 1 - i) sc]).run Tryz.prog w.drew = .ok (goInt ((n - i : Nat) : Int)) (w.drew.setRow g F1) := fun ty dc sc => by
  rw [hF1]
  exact y2a w.drew _ _ ty 328 g ((i + 1) * 3) (n - i) dc ⟨g, i * 3, none⟩ (n + 1 - i) sc cur eA (xs.drop (i * 3)) 3 (n - i) t22 hsz hg (by simp only [Nat.min_def]; split <;> omega) hdl
   (fun j v hj => by
     rw [Addr.add_lit]
     show w.cell? _ = _
     rw [y24 hg]
     rw [List.getElem?_drop] at hj
     exact hcx _ v hj) (by rw [hdl, hcs, Nat.sub_mul]; omega) (fun v hv => h1c v (List.mem_of_mem_drop hv))
 have hF1s : F1.size = cur.size := by
  rw [hF1]
  simp only [List.size_toArray, List.length_append, List.length_take, List.length_drop, Array.length_toList]
  rw [hxl, hcs]; omega
 obtain ⟨F2, hF2⟩ : ∃ F2, F2 = (F1.toList.take (i * 3) ++ q0i x ++ F1.toList.drop (i * 3 + (q0i x).length)).toArray := ⟨_, rfl⟩
 have hF2s : F2.size = cur.size := by
  rw [hF2]
  simp only [List.size_toArray, List.length_append, List.length_take, List.length_drop, Array.length_toList, yn]
  rw [hF1s, hcs]; omega
 have hcp2 : ∀ (W : World), W.heap = (w.drew.setRow g F1).heap → ∀ ty dc, (Builtin.copy_ #[121, 121] ty #[.slice (some ⟨g, i * 3, none⟩) (n + 1 - i) dc, .slice (some ⟨g2, 0, none⟩) 1 c2]).run Tryz.prog W = .ok (goInt 1) (W.setRow g F2) := fun W hW ty dc => by
  have hWg : W.heap[g]? = some (.cells F1 eA (0, 0)) := by rw [hW]; exact setRow_heap _ g cur _ eA _ hg
  have hWg2 : W.heap[g2]? = some (.cells cur2 eB (0, 0)) := by rw [hW, setRow_other _ g g2 _ hne]; exact hg2
  rw [hF2]
  exact y2a W _ _ ty 328 g (i * 3) (n + 1 - i) dc ⟨g2, 0, none⟩ 1 c2 F1 eA (q0i x) 3 1 t22 hsz hWg (by simp only [Nat.min_def]; split <;> omega) rfl
   (fun j v hj => by
     rw [Addr.add_lit, y24 hWg2]
     rw [← htk2, List.getElem?_take] at hj
     split at hj
     · rw [Nat.zero_add]; rwa [Array.getElem?_toList] at hj
     · cases hj) (by rw [yn, hF1s, hcs]; omega) (z0e x)
 have hfin : F2.toList.take ((n + 1) * 3) = xs.take (i * 3) ++ q0i x ++ xs.drop (i * 3) := by
  rw [hF2, hF1]
  exact qas (k := 3) (n := n) (i := i) (by omega) htk hxl (yn x) (by rw [Array.length_toList, hcs]; exact Nat.mul_le_mul_right _ hroom)
 have Z : Aside (F2.size = cur.size ∧ F2.toList.take ((n + 1) * 3) = xs.take (i * 3) ++ q0i x ++ xs.drop (i * 3)) := ⟨hF2s, hfin⟩
 have hwE : ∀ W : World, (w.drew.setRow g F1).heap = (w.drew.setRow g F1).heap := fun _ => rfl
 clear hfin hF2s hF1s hF2 hF1 hcx hdl a1 htk htk2 h1c hcs hsz hxl
 refine calls_of_wp Tryz.func391 rfl ?_
 simp only [Tryz.ntmps391, List.size_toArray, List.length_cons, List.length_nil, Nat.reduceAdd, Nat.reduceSub, Array.replicate_succ, Array.replicate_zero, List.push_toArray, List.append_toArray, List.nil_append, List.cons_append]
 go_wp2_with (simp only [hov])
 go_region_law_o (refine step_copy_runI rfl _ _ 121 121 rfl _ _ (by simp [Act.eval, Act.put]) (by simp [Act.eval, Act.put]) (hcp1 _ _ _) ?_)
 go_wp2_with (at_builtin; refine wpList_copy_runI _ rfl _ _ 121 121 rfl _ _ rfl rfl (hcp2 _ rfl _ _) ?_)
 go_ret
 exact ⟨rfl, F2, Z.out.1, Z.out.2, by rw [setRow_setRow]⟩
theorem zat {row xs e : List Value} {n i k : Nat} (hi : i ≤ n) (hx : row.take (i * k) = xs.take (i * k)) (hxl : xs.length = n * k) (he : e.length = k) (hc : (n + 1) * k ≤ row.length) :
 (((row.take (i * k) ++ e ++ row.drop (i * k + e.length)).take ((i + 1) * k) ++ xs.drop (i * k) ++ (row.take (i * k) ++ e ++ row.drop (i * k + e.length)).drop ((i + 1) * k + (xs.drop (i * k)).length))).take ((n + 1) * k) = xs.take (i * k) ++ e ++ xs.drop (i * k) := by
 have a1 : i * k ≤ n * k := Nat.mul_le_mul_right _ hi
 have a2 : (i + 1) * k = i * k + k := by rw [Nat.add_mul, Nat.one_mul]
 have a3 : (n + 1) * k = n * k + k := by rw [Nat.add_mul, Nat.one_mul]
 have hdl : (xs.drop (i * k)).length = n * k - i * k := by rw [List.length_drop, hxl]
 rw [hx]
 generalize i * k = p at *
 generalize n * k = q at *
 rw [a2, a3]
 rw [a3] at hc
 have hl1 : (xs.take p ++ e).length = p + k := by rw [List.length_append, List.length_take, he]; omega
 rw [List.take_left' hl1]
 have hl2 : (xs.take p ++ e ++ xs.drop p).length = q + k := by rw [List.length_append, hl1, hdl]; omega
 rw [List.take_left' hl2]
theorem q8e (g n c i g2 c2 : Nat) (xs : List Value) (x : Bal) (w : World) (cur cur2 : Array Value) (eA eB : TypeId) (hi : i < n) (hnc : n ≤ c) (hroom : c < n + 1) (hn : n ≤ 1048576) (hxl : xs.length = n * 3)
 (hg : w.heap[g]? = some (.cells cur eA (0, 0))) (hcs : cur.size = c * 3) (htk : cur.toList.take (n * 3) = xs) (hg2 : w.heap[g2]? = some (.cells cur2 eB (0, 0))) (h2 : 3 ≤ cur2.size) (htk2 : cur2.toList.take 3 = q0i x) (h1c : ∀ v ∈ xs, v.oneCell' = true) :
 Calls Tryz.prog 391 #[.slice (some ⟨g, 0, none⟩) n c, .int .i64 i, .slice (some ⟨g2, 0, none⟩) 1 c2] w fun e w' => ∃ (G : Nat) (F : Array Value), n + 1 ≤ G ∧ G ≤ maxLen ∧ e = .returned (.slice (some ⟨w.heap.size, 0, none⟩) (n + 1) G) ∧ F.size = G * 3 ∧ F.toList.take ((n + 1) * 3) = xs.take (i * 3) ++ q0i x ++ xs.drop (i * 3) ∧ ∃ R : Array Value, w' = ((w.drew.alloc (.cells R 328)).setRow w.heap.size F).drew := by
 have mixed : Tryz.prog.follows .mixedOrders = true := by kernel_rfl
 have t3 := Tryz.underlying3
 have a3 := Tryz.isAgg3
 have z3 := Tryz.sizeOf3
 have v3 := Tryz.zeroValue3
 have t4 := Tryz.underlying4
 have a4 := Tryz.isAgg4
 have z4 := Tryz.sizeOf4
 have v4 := Tryz.zeroValue4
 have t22 := Tryz.underlying121
 have a22 := Tryz.isAgg121
 have z22 := Tryz.sizeOf121
 have v22 := Tryz.zeroValue121
 have zE := Tryz.sizeOf328
 have hsz : (Tryz.prog.info? 328).map (fun i => i.size) = some 3 := by kernel_rfl
 obtain ⟨i0, hi0, hzs, hzz, hzb⟩ : ∃ i0, Tryz.prog.info? 328 = some i0 ∧ i0.size = 3 ∧ i0.zero = some (.agg #[.int .i64 0, .int .i64 0, .int .i64 0]) ∧ i0.bytes = 24 := by
  have h : (Tryz.prog.info? 328).map (fun i => (i.size, i.zero, i.bytes)) = some (3, some (.agg #[.int .i64 0, .int .i64 0, .int .i64 0]), 24) := by kernel_rfl
  cases h1 : Tryz.prog.info? 328 with
  | none => rw [h1] at h; cases h
  | some i0 =>
    rw [h1] at h
    simp only [Option.map_some, Option.some.injEq, Prod.mk.injEq] at h
    exact ⟨i0, rfl, h.1, h.2.1, h.2.2⟩
 have a1 : i * 3 ≤ n * 3 := Nat.mul_le_mul_right _ (by omega)
 have hdl : (xs.drop (i * 3)).length = (n - i) * 3 := by rw [List.length_drop, hxl, Nat.sub_mul]
 have hcx : ∀ j v, xs[j]? = some v → cur[j]? = some v := fun j v h => by
  rw [← htk, List.getElem?_take] at h
  split at h
  · rwa [Array.getElem?_toList] at h
  · cases h
 have hlg : g < w.heap.size := by
  rcases Nat.lt_or_ge g w.heap.size with h | h
  · exact h
  · rw [Array.getElem?_eq_none h] at hg; cases hg
 have hlg2 : g2 < w.heap.size := by
  rcases Nat.lt_or_ge g2 w.heap.size with h | h
  · exact h
  · rw [Array.getElem?_eq_none h] at hg2; cases hg2
 have hold : (Builtin.firstCells i0.size i (.slice (some ⟨g, 0, none⟩) i c)).run Tryz.prog w.drew = .ok (xs.take (i * 3)).toArray w.drew := by
  rw [hzs]
  exact run_firstCells_some w.drew 3 i ⟨g, 0, none⟩ i c (xs.take (i * 3)) (by rw [List.length_take, hxl]; omega) (fun j v hj => by
   rw [Addr.add_lit]
   show w.cell? _ = _
   rw [y24 hg, Nat.zero_add]
   rw [List.getElem?_take] at hj
   split at hj
   · exact hcx j v hj
   · cases hj)
 obtain ⟨G, hG⟩ : ∃ G, G = grownCap w (n + 1) c 328 := ⟨_, rfl⟩
 obtain ⟨ROW, hROW⟩ : ∃ ROW : Array Value, ROW = (xs.take (i * 3)).toArray ++ Builtin.zeroCells (Value.agg #[.int .i64 0, .int .i64 0, .int .i64 0]).cells (n + 1 - i) ++ Builtin.zeroCells (Value.agg #[.int .i64 0, .int .i64 0, .int .i64 0]).cells (G - (n + 1)) := ⟨_, rfl⟩
 have hGn : n + 1 ≤ G := by rw [hG]; exact grownCap_ge w _ _ _
 have hGm : G ≤ maxLen := by rw [hG]; exact grownCap_le_maxLen w _ _ _ (by unfold maxLen; omega)
 have hrz : ∀ ty, (Builtin.append_ #[121, 3] ty #[.slice (some ⟨g, 0, none⟩) i c, .int .i64 ((n : Int) + 1 - (i : Int))]).run Tryz.prog w =
  .ok (.slice (some ⟨w.heap.size, 0, none⟩) (n + 1) G) (w.drew.alloc (.cells ROW 328)) := fun ty => by
  have hik : i + (n + 1 - i) = n + 1 := by omega
  have h := Lib.run_append_grow_zeros w 121 3 ty 328 i0 _ .i64 .i64 t22 t3 hi0 hzz (some ⟨g, 0, none⟩) i c (xs.take (i * 3)) hold (n + 1 - i) (by omega) (by omega) (by omega) (by omega) (by rw [hzb]; omega) (by rw [hzb, hik]; exact growslice_fits hroom (by omega))
  rw [hik, ← hG, ← hROW] at h
  rw [show (n : Int) + 1 - (i : Int) = ((n + 1 - i : Nat) : Int) by omega]
  exact h
 have hRs : ROW.size = G * 3 := by
  rw [hROW]
  simp only [Array.size_append, List.size_toArray, size_zeroCells, List.length_take, hxl, Value.cells]
  show min (i * 3) (n * 3) + (n + 1 - i) * 3 + (G - (n + 1)) * 3 = _
  rw [Nat.sub_mul, Nat.sub_mul]
  omega
 have hRt : ROW.toList.take (i * 3) = xs.take (i * 3) := by
  rw [hROW]
  simp only [Array.toList_append]
  rw [List.append_assoc, List.take_left' (by rw [List.length_take, hxl]; omega)]
 obtain ⟨W1, hW1⟩ : ∃ W1, W1 = w.drew.alloc (.cells ROW 328) := ⟨_, rfl⟩
 have hN : W1.heap[w.heap.size]? = some (.cells ROW 328 (0, 0)) := by rw [hW1]; exact heap_alloc_new w.drew _
 have hO : ∀ k, k < w.heap.size → W1.heap[k]? = w.heap[k]? := fun k hk => by rw [hW1]; exact heap_alloc_old w.drew _ hk
 obtain ⟨F1, hF1⟩ : ∃ F1, F1 = (ROW.toList.take (i * 3) ++ q0i x ++ ROW.toList.drop (i * 3 + (q0i x).length)).toArray := ⟨_, rfl⟩
 have g3 : (n + 1) * 3 ≤ G * 3 := Nat.mul_le_mul_right _ hGn
 have hF1s : F1.size = G * 3 := by
  rw [hF1]
  simp only [List.size_toArray, List.length_append, List.length_take, List.length_drop, Array.length_toList, yn, hRs]
  omega
 obtain ⟨F2, hF2⟩ : ∃ F2, F2 = (F1.toList.take ((i + 1) * 3) ++ xs.drop (i * 3) ++ F1.toList.drop ((i + 1) * 3 + (xs.drop (i * 3)).length)).toArray := ⟨_, rfl⟩
 have hF2s : F2.size = G * 3 := by
  rw [hF2]
  simp only [List.size_toArray, List.length_append, List.length_take, List.length_drop, Array.length_toList, hF1s, hxl]
  omega
 have hfin : F2.toList.take ((n + 1) * 3) = xs.take (i * 3) ++ q0i x ++ xs.drop (i * 3) := by
  rw [hF2, hF1]
  exact zat (k := 3) (n := n) (i := i) (by omega) hRt hxl (yn x) (by rw [Array.length_toList, hRs]; exact g3)
 have hcpA : ∀ (W : World), W.heap = W1.heap → ∀ ty dc, (Builtin.copy_ #[121, 121] ty #[.slice (some ⟨w.heap.size, i * 3, none⟩) (n + 1 - i) dc, .slice (some ⟨g2, 0, none⟩) 1 c2]).run Tryz.prog W = .ok (goInt 1) (W.setRow w.heap.size F1) := fun W hW ty dc => by
  rw [hF1]
  exact y2a W _ _ ty 328 w.heap.size (i * 3) (n + 1 - i) dc ⟨g2, 0, none⟩ 1 c2 ROW _ (q0i x) 3 1 t22 hsz (by rw [hW]; exact hN) (by simp only [Nat.min_def]; split <;> omega) rfl
   (fun j v hj => by
     rw [Addr.add_lit, y24 (show W.heap[g2]? = some (.cells cur2 eB (0, 0)) by rw [hW, hO g2 hlg2]; exact hg2), Nat.zero_add]
     rw [← htk2, List.getElem?_take] at hj
     split at hj
     · rwa [Array.getElem?_toList] at hj
     · cases hj) (by rw [yn, hRs]; omega) (z0e x)
 have hcpB : ∀ (W : World), W.heap = (W1.setRow w.heap.size F1).heap → ∀ ty dc sc, (Builtin.copy_ #[121, 121] ty #[.slice (some ⟨w.heap.size, (i + 1) * 3, none⟩) (n - i) dc, .slice (some ⟨g, i * 3, none⟩) (n - i) sc]).run Tryz.prog W = .ok (goInt ((n - i : Nat) : Int)) (W.setRow w.heap.size F2) := fun W hW ty dc sc => by
  rw [hF2]
  exact y2a W _ _ ty 328 w.heap.size ((i + 1) * 3) (n - i) dc ⟨g, i * 3, none⟩ (n - i) sc F1 _ (xs.drop (i * 3)) 3 (n - i) t22 hsz (by rw [hW]; exact setRow_heap _ _ _ _ _ _ hN) (by simp only [Nat.min_def]; split <;> omega) hdl
   (fun j v hj => by
     rw [Addr.add_lit, y24 (show W.heap[g]? = some (.cells cur eA (0, 0)) by rw [hW, setRow_other _ _ _ _ (by omega), hO g hlg]; exact hg)]
     rw [List.getElem?_drop] at hj
     exact hcx _ v hj) (by rw [hdl, hF1s, Nat.sub_mul]; omega) (fun v hv => h1c v (List.mem_of_mem_drop hv))
 have hE : (W1.setRow w.heap.size F1).drew.heap = (W1.setRow w.heap.size F1).heap := rfl
 have hG63 : G ≤ 9223372036854775807 := hGm
 have hGi : ¬ (G = i) := by omega
 have hGim : ¬ (G = i + 1) := by omega
 have hci : ¬ (c = i) := by omega
 have hw1 : IntKind.i64.wrap ((i : Int) + 1) = (i : Int) + 1 := wrap_i64 (by omega) (by omega)
 have hw2 : IntKind.i64.wrap ((n : Int) + 1) = (n : Int) + 1 := wrap_i64 (by omega) (by omega)
 have hw3 : IntKind.i64.wrap ((n : Int) + 1 - (i : Int)) = (n : Int) + 1 - (i : Int) := wrap_i64 (by omega) (by omega)
 have hz2 : ¬ ((i : Int) = (n : Int)) := by omega
 have hz3 : (c : Int) < (n : Int) + 1 := by omega
 have hb1 : (0 : Int) ≤ (i : Int) + 1 := by omega
 have hin : i ≤ n := by omega
 have hic : i ≤ c := by omega
 have htn : ((i : Int) + 1).toNat = i + 1 := by omega
 have hb3 : (i : Int) ≤ (n : Int) := by omega
 have Z : Aside (F2.size = G * 3 ∧ F2.toList.take ((n + 1) * 3) = xs.take (i * 3) ++ q0i x ++ xs.drop (i * 3) ∧ n + 1 ≤ G ∧ G ≤ maxLen) := ⟨hF2s, hfin, hGn, hGm⟩
 have Y : Aside (W1 = w.drew.alloc (.cells ROW 328)) := hW1
 rw [← hW1] at hrz
 clear hfin hF2s hF1s hF2 hF1 hcx hdl a1 htk htk2 h1c hcs hsz hxl g3 hO hN hRt hRs hROW hG hold hW1 hGm
 refine calls_of_wp Tryz.func391 rfl ?_
 simp only [Tryz.ntmps391, List.size_toArray, List.length_cons, List.length_nil, Nat.reduceAdd, Nat.reduceSub, Array.replicate_succ, Array.replicate_zero, List.push_toArray, List.append_toArray, List.nil_append, List.cons_append]
 go_wp2_with (first
  | (at_builtin; refine Lib.wpList_append_run _ rfl _ _ _ _ rfl _ _ rfl rfl _ _ (hrz _) ?_)
  | (at_builtin; refine wpList_copy_runI _ rfl _ _ 121 121 rfl _ _ rfl rfl (hcpA _ rfl _ _) ?_))
 go_region_law_o (refine step_copy_runI rfl _ _ 121 121 rfl (.slice (some ⟨w.heap.size, (i + 1) * 3, none⟩) (n - i) (G - (i + 1))) (.slice (some ⟨g, i * 3, none⟩) (n - i) (c - i)) (by simp [Act.eval, Act.put]) (by simp [Act.eval, Act.put]) (hcpB _ hE _ _ _) ?_)
 go_wp2
 go_ret
 obtain ⟨z1, z2, z3, z4⟩ := Z.out
 refine ⟨G, F2, z3, z4, rfl, z1, z2, ROW, ?_⟩
 rw [← Y.out]
 show ((W1.setRow w.heap.size F1).setRow w.heap.size F2).drew = (W1.setRow w.heap.size F2).drew
 rw [setRow_setRow]
theorem y7x {P : Program} (w : World) (t ty e e' : TypeId) (i : TypeInfo) (ht : P.underlying t = some (.slice e)) (hi : P.info? e = some i)
 (g sLen sCap : Nat) (cur : Array Value) (hg : w.heap[g]? = some (.cells cur e' (0, 0)))
 (a : Addr) (m c : Nat) (news : List Value) (hl : news.length = m * i.size) (hnews : ∀ j u, news[j]? = some u → w.cell? (a.add j) = some u) (h1 : ∀ u ∈ news, u.oneCell' = true)
 (hroom : sLen + m ≤ sCap) (hfit : sLen * i.size + news.length ≤ cur.size) :
 (Builtin.append_ #[t, t] ty #[.slice (some ⟨g, 0, none⟩) sLen sCap, .slice (some a) m c]).run P w =
   .ok (.slice (some ⟨g, 0, none⟩) (sLen + m) sCap) (w.setRow g (cur.toList.take (sLen * i.size) ++ news ++ cur.toList.drop (sLen * i.size + news.length)).toArray) := by
 have hf := run_firstCells_some (P := P) w i.size m a m c news hl hnews
 have hst := run_storeCells_at P g (sLen * i.size) e' news 0 cur w hg (by simpa using hfit) h1
 simp only [Nat.add_zero] at hst
 simp [Builtin.append_, run_underlying ht, sizeOf, typeInfo, hi, Builtin.lenOf, hroom, hf, Addr.add_lit, hst]
theorem y9k (N S : Nat → Prop) (S2 : Nat → Prop) (us : List Bal) (x : Bal) (i : Nat) (w : World) (v0 v2 : Value) (hi : i ≤ us.length) (hu : us.length ≤ 1048576) (hd : ∀ y, S y → ¬ S2 y) (h0 : y0d w (CN w N true) S 3 (us.map Bal.cs) v0) (h2 : y0d w (CN w N true) S2 3 ([x].map Bal.cs) v2) (hS : ∀ y, S y → y < w.heap.size) :
 Calls Tryz.prog 391 #[v0, .int .i64 i, v2] w fun e w' => ∃ (v' : Value) (R : Nat → Prop), e = .returned v' ∧ zt w w' S ∧ y0d w' (Go.Sx.Own w') R 3 ((us.take i ++ [x] ++ us.drop i).map Bal.cs) v' ∧ ∀ y, R y → (w.heap.size ≤ y ∨ S y) ∧ y < w'.heap.size := by
 have hlen : (us.take i ++ [x] ++ us.drop i).length = us.length + 1 := by simp; omega
 have hfm : (us.flatMap q0i).take (i * 3) ++ q0i x ++ (us.flatMap q0i).drop (i * 3) = (us.take i ++ [x] ++ us.drop i).flatMap q0i := by
  rw [y66 q0i 3 yn, z66 q0i 3 yn]; simp
 rcases qb6 q0i Bal.cs 3 yn z18 h2 with ⟨h, _⟩ | ⟨e2, ho2, hSo2⟩
 · cases h
 obtain ⟨g2, c2, cur2, rfl, hg2, hc2, hs2, ht2⟩ : ∃ g2 c2 cur2, v2 = .slice (some ⟨g2, 0, none⟩) 1 c2 ∧ w.heap[g2]? = some (.cells cur2 e2 (0, 0)) ∧ 1 ≤ c2 ∧ cur2.size = c2 * 3 ∧ cur2.toList.take 3 = q0i x := by
  rcases ho2.2 with ⟨_, h⟩ | ⟨g2, c2, cur2, h, _, h3, h4, _, h5, h6⟩
  · cases h
  · exact ⟨g2, c2, cur2, h, h3, h4, h5, by simpa using h6⟩
 have h32 : 3 ≤ cur2.size := by omega
 have hSg2 := hSo2 g2 rfl
 obtain ⟨i0, hi0, hzs, hzz, hzb⟩ : ∃ i0, Tryz.prog.info? 328 = some i0 ∧ i0.size = 3 ∧ i0.zero = some (.agg #[.int .i64 0, .int .i64 0, .int .i64 0]) ∧ i0.bytes = 24 := by
  have h : (Tryz.prog.info? 328).map (fun i => (i.size, i.zero, i.bytes)) = some (3, some (.agg #[.int .i64 0, .int .i64 0, .int .i64 0]), 24) := by kernel_rfl
  cases h1 : Tryz.prog.info? 328 with
  | none => rw [h1] at h; cases h
  | some i0 =>
    rw [h1] at h
    simp only [Option.map_some, Option.some.injEq, Prod.mk.injEq] at h
    exact ⟨i0, rfl, h.1, h.2.1, h.2.2⟩
 have hnews : ∀ j u, (q0i x)[j]? = some u → w.cell? ((⟨g2, 0, none⟩ : Addr).add j) = some u := fun j u hj => by
  rw [Addr.add_lit, y24 hg2, Nat.zero_add]
  rw [← ht2, List.getElem?_take] at hj
  split at hj
  · rwa [Array.getElem?_toList] at hj
  · cases hj
 have hml : (1048576 : Nat) + 1 ≤ maxLen := by unfold maxLen; omega
 have hsrc : Src Tryz.prog i0.size 121 (.slice (some ⟨g2, 0, none⟩) 1 c2) 1 (q0i x) w := by
  rw [hzs]
  exact Src.ofSlice w Tryz.underlying121 ⟨g2, 0, none⟩ 1 c2 (q0i x) rfl hnews (z0e x)
 have hempty : ∀ A : Option Addr, us = [] → v0 = .slice A 0 0 → Calls Tryz.prog 391 #[v0, .int .i64 i, .slice (some ⟨g2, 0, none⟩) 1 c2] w fun e w' => ∃ (v' : Value) (R : Nat → Prop), e = .returned v' ∧ zt w w' S ∧ y0d w' (Go.Sx.Own w') R 3 ((us.take i ++ [x] ++ us.drop i).map Bal.cs) v' ∧ ∀ y, R y → (w.heap.size ≤ y ∨ S y) ∧ y < w'.heap.size := fun A hus hv => by
  subst hus; subst hv
  obtain rfl : i = 0 := by simpa using hi
  have hold : (Builtin.firstCells i0.size 0 (.slice A 0 0)).run Tryz.prog w.drew = .ok ([] : List Value).toArray w.drew := by
   cases A with
   | none => exact run_firstCells_none w.drew i0.size 0 0 0
   | some a => exact run_firstCells_some w.drew i0.size 0 a 0 0 [] (by simp) (fun j v hj => by simp at hj)
  have hrun := fun ty => run_append_grow_src w 121 121 ty 328 i0 _ Tryz.underlying121 hi0 hzz A 0 0 [] hold _ 1 (q0i x) hsrc (by omega) (by omega) (by rw [hzb]; exact growslice_fits (by omega) (by omega))
  refine (q4s A 0 0 g2 c2 _ w _ (by omega) (by omega) hc2 (fun _ => ⟨rfl, rfl⟩) hrun).mono ?_
  rintro e w' ⟨rfl, rfl⟩
  have hge := grownCap_ge w (0 + 1) 0 328
  have hcm := grownCap_le_maxLen w (0 + 1) 0 328 (by omega)
  generalize grownCap w (0 + 1) 0 328 = G at hge hcm ⊢
  refine ⟨_, fun y => y = w.heap.size, rfl, ⟨rfl, rfl, rfl, by simp [World.alloc], fun k hk _ => heap_alloc_old w.drew _ hk⟩, q1s q0i Bal.cs 3 (us := [] ++ [x] ++ []) (e := 328) yn z18 z0e (y15 (n := 0 + 1) (heap_alloc_new w.drew _) hge hcm ?_ ?_ ?_) (fun g' h => by cases h; rfl), fun y hy => ?_⟩
  · simp only [List.nil_append, Array.size_append, List.size_toArray, size_zeroCells, yn, Value.cells]
    show 3 + (G - (0 + 1)) * 3 = G * 3
    omega
  · simp only [List.nil_append, Array.toList_append]
    exact List.take_left' (by simp [q0i])
  · simp [q0i]
  · cases hy
    exact ⟨.inl (Nat.le_refl _), by simp [World.alloc]⟩
 rcases qb6 q0i Bal.cs 3 yn z18 h0 with ⟨hus, A, hv⟩ | ⟨e, ho, hSo⟩
 · exact hempty A hus hv
 · have hxl : (us.flatMap q0i).length = us.length * 3 := ho.1
   rcases ho.2 with ⟨hv, hn0⟩ | ⟨g, c, cur, rfl, _, hg, hnc, hcm, hcs, htk⟩
   · exact hempty none (List.eq_nil_of_length_eq_zero hn0) hv
   have hSg := hSo g rfl
   have hne : g2 ≠ g := fun h => hd g hSg (h ▸ hSg2)
   have hcx : ∀ j v, (us.flatMap q0i)[j]? = some v → cur[j]? = some v := fun j v h => by
    rw [← htk, List.getElem?_take] at h
    split at h
    · rwa [Array.getElem?_toList] at h
    · cases h
   have hc63 : c ≤ 9223372036854775807 := hcm
   by_cases hin : i = us.length
   · subst hin
     have hts : us.take us.length ++ [x] ++ us.drop us.length = us ++ [x] := by simp
     have hfx : (us ++ [x]).flatMap q0i = us.flatMap q0i ++ q0i x := by simp
     have hl1 : (us ++ [x]).length = us.length + 1 := by simp
     rw [hts]
     by_cases hroom : us.length + 1 ≤ c
     · have hfit : us.length * i0.size + (q0i x).length ≤ cur.size := by rw [hzs, yn, hcs]; omega
       have hrun := fun ty => y7x w 121 ty 328 e i0 Tryz.underlying121 hi0 g us.length c cur hg ⟨g2, 0, none⟩ 1 c2 (q0i x) (by rw [hzs]; rfl) hnews (z0e x) hroom hfit
       refine (q4s (some ⟨g, 0, none⟩) us.length c g2 c2 _ w _ hnc hc63 hc2 (fun h => by cases h) hrun).mono ?_
       rintro e' w' ⟨rfl, rfl⟩
       refine ⟨_, fun y => y = g, rfl, ⟨rfl, rfl, rfl, by simp, fun k hk hnk => setRow_other w g k _ (fun h => hnk (h ▸ hSg))⟩, q1s q0i Bal.cs 3 (e := e) yn z18 z0e (by
        rw [hl1, hfx]
        refine y15 (setRow_heap w g cur _ e _ hg) hroom hcm ?_ ?_ ?_
        · simp only [List.size_toArray, List.length_append, List.length_take, List.length_drop, Array.length_toList, hzs, yn, hcs]
          omega
        · rw [hzs, htk]
          exact List.take_left' (by rw [List.length_append, hxl, yn]; omega)
        · rw [List.length_append, hxl, yn]; omega) (fun g' h => by cases h; rfl), fun y hy => ?_⟩
       cases hy
       exact ⟨.inr hSg, by simpa using hS g hSg⟩
     · have hold : (Builtin.firstCells i0.size us.length (.slice (some ⟨g, 0, none⟩) us.length c)).run Tryz.prog w.drew = .ok (us.flatMap q0i).toArray w.drew := by
        rw [hzs]
        exact run_firstCells_some w.drew 3 us.length ⟨g, 0, none⟩ us.length c _ hxl (fun j v hj => by
         rw [Addr.add_lit]
         show w.cell? _ = _
         rw [y24 hg, Nat.zero_add]
         exact hcx j v hj)
       have hrun := fun ty => run_append_grow_src w 121 121 ty 328 i0 _ Tryz.underlying121 hi0 hzz (some ⟨g, 0, none⟩) us.length c _ hold _ 1 (q0i x) hsrc (by omega) (by omega) (by rw [hzb]; exact growslice_fits (by omega) (by omega))
       refine (q4s (some ⟨g, 0, none⟩) us.length c g2 c2 _ w _ hnc hc63 hc2 (fun h => by cases h) hrun).mono ?_
       rintro e' w' ⟨rfl, rfl⟩
       have hge := grownCap_ge w (us.length + 1) c 328
       have hcm := grownCap_le_maxLen w (us.length + 1) c 328 (by omega)
       generalize grownCap w (us.length + 1) c 328 = G at hge hcm ⊢
       refine ⟨_, fun y => y = w.heap.size, rfl, ⟨rfl, rfl, rfl, by simp [World.alloc], fun k hk _ => heap_alloc_old w.drew _ hk⟩, q1s q0i Bal.cs 3 (e := 328) yn z18 z0e (by
        rw [hl1, hfx]
        refine y15 (heap_alloc_new w.drew _) hge hcm ?_ ?_ ?_
        · simp only [Array.size_append, List.size_toArray, size_zeroCells, List.length_append, hxl, yn, Value.cells]
          show us.length * 3 + 3 + (G - (us.length + 1)) * 3 = G * 3
          omega
        · simp only [Array.toList_append]
          exact List.take_left' (by rw [List.length_append, hxl, yn]; omega)
        · rw [List.length_append, hxl, yn]; omega) (fun g' h => by cases h; rfl), fun y hy => ?_⟩
       cases hy
       exact ⟨.inl (Nat.le_refl _), by simp [World.alloc]⟩
   · have hil : i < us.length := by omega
     by_cases hroom : us.length + 1 ≤ c
     · refine (q7e g us.length c i g2 c2 _ x w cur cur2 e e2 hil hroom hc63 hne hxl hg hcs htk hg2 h32 ht2 q65).mono ?_
       rintro e' w' ⟨rfl, F, hFs, hFt, rfl⟩
       rw [hfm] at hFt
       refine ⟨_, fun y => y = g, rfl, ⟨rfl, rfl, rfl, by simp, fun k hk hnk => setRow_other w.drew g k _ (fun h => hnk (h ▸ hSg))⟩, q1s q0i Bal.cs 3 (e := e) yn z18 z0e (by
        rw [hlen]
        exact y15 (setRow_heap w.drew g cur _ e _ hg) hroom hcm (hFs.trans hcs) hFt (by rw [z6t q0i 3 yn, hlen])) (fun g' h => by cases h; rfl), fun y hy => ?_⟩
       cases hy
       exact ⟨.inr hSg, by simpa using hS g hSg⟩
     · refine (q8e g us.length c i g2 c2 _ x w cur cur2 e e2 hil hnc (by omega) hu hxl hg hcs htk hg2 h32 ht2 q65).mono ?_
       rintro e' w' ⟨G, F, hge, hcm, rfl, hFs, hFt, R, rfl⟩
       rw [hfm] at hFt
       refine ⟨_, fun y => y = w.heap.size, rfl, ⟨rfl, rfl, rfl, by simp [World.alloc], fun k hk _ => (setRow_other _ w.heap.size k _ (by omega)).trans (heap_alloc_old w.drew _ hk)⟩, q1s q0i Bal.cs 3 (e := 328) yn z18 z0e (by
        rw [hlen]
        exact y15 (setRow_heap _ _ _ _ _ _ (heap_alloc_new w.drew _)) hge hcm hFs hFt (by rw [z6t q0i 3 yn, hlen])) (fun g' h => by cases h; rfl), fun y hy => ?_⟩
       cases hy
       exact ⟨.inl (Nat.le_refl _), by simp [World.alloc]⟩
theorem yas (us : List Bal) (x : Bal) (i : Nat) (hi : i ≤ us.length) (hu : us.length ≤ 1048576) : PG Tryz.prog 391 [.one (.giv true 3 (us.map Bal.cs)), .one (.bor (i64 i)), .one (.giv true 3 ([x].map Bal.cs))] (.one (.own false [.l 3 ((us.take i ++ [x] ++ us.drop i).map Bal.cs)])) [] := by
 refine ⟨by kernel_rfl, fun N S w vals hS hSd hsh hc => ?_⟩
 obtain ⟨v0, v1, v2, rfl⟩ : ∃ v0 v1 v2, vals = #[v0, v1, v2] := by
  match vals, hsh with
  | ⟨[v0, v1, v2]⟩, _ => exact ⟨v0, v1, v2, rfl⟩
 obtain ⟨sz, hz, h0⟩ := hc 0 _ v0 rfl rfl
 obtain rfl := hz (by decide)
 have h1 : Rep w N (i64 i) v1 := hc 1 _ v1 rfl rfl
 obtain ⟨sz, hz, h2⟩ := hc 2 _ v2 rfl rfl
 obtain rfl := hz (by decide)
 obtain rfl : v1 = .int .i64 i := by cases h1; rfl
 refine (y9k N (S 0) (S 2) us x i w v0 v2 hi hu (fun y h h' => by have := hSd 0 2 y h h'; omega) h0 h2 (fun y hy => (hS 0 y hy).1)).mono ?_
 rintro e w' ⟨v', R, rfl, hk, hsl, hv⟩
 refine ⟨v', R, fun _ _ => False, rfl, hk.mono fun _ _ h => ⟨0, h⟩, ⟨#[v'], fun k x => k = 0 ∧ R x, rfl, rfl, fun k x hx => hx.2, fun k k' x hx hx' => by rw [hx.1, hx'.1], fun k c u hc hu => ?_⟩, fun x hx => ⟨(hv x hx).1.imp id fun h => ⟨0, h⟩, (hv x hx).2, fun _ h => h⟩, fun _ _ h => h.elim, fun _ _ _ h => h.elim, fun t rows' hb => by cases hb⟩
 cases k with
 | succ k => simp at hc
 | zero =>
   cases hc
   cases hu
   exact ⟨3, fun _ => rfl, y0d.imp hsl (fun _ h => ⟨rfl, h⟩) (fun _ _ _ => rfl) (fun _ _ _ _ h => h)⟩
end Go.Proofs.YtohbmmpkcibnpaaGreat
end
section
namespace Go.Proofs.YtohbmmpkcibnpaaGreat
open Go Go.Sx
set_option maxRecDepth 20000
set_option maxHeartbeats 4000000
theorem q1w (rows : List (List Cell)) (hl : rows.length ≤ 1048576) : PC Tryz.prog 292 [.one (.l rows)] (rI rows.length) := by
 refine PC.begin Tryz.func292 rfl (by kernel_rfl) ?_
 refine xr rfl (ym rfl ⟨⟨rfl, rfl, trivial⟩, z6 rfl⟩)
theorem zb5 (l : List (List Bal)) (hl : l.length ≤ 1048576) (hb : ∀ us ∈ l, us.length ≤ 1048576) : PC Tryz.prog 186 [.agg [.l (ya l)]] (rI (zu l)) := by
 refine PC.begin Tryz.func186 rfl (by kernel_rfl) ?_
 refine y5x (n := 0) rfl (ι := Unit) (fun _ => True) (fun _ => ⟨[(1, .one (.a 1 0))], [(1, .var [.b (.l (ya l))])]⟩) ?_ ?_
 · intro K hK
   exact q9 rfl (hK _ () trivial ⟨⟨⟨rfl, rfl, rfl⟩, trivial⟩, ⟨⟨rfl, trivial⟩, trivial⟩, rfl⟩)
 intro _ _
 have hle : (ya l).length = l.length := by simp
 by_cases hn : l.length < 1 ∨ 3 < l.length
 · have hr : zu l = 2 := by unfold zu; rw [if_pos hn]
   rw [hr]
   refine xb rfl ?_ ?_ <;> intro b0
   refine xj (k := 5) rfl ?_
   refine xr rfl (ym rfl ⟨⟨rfl, rfl, trivial⟩, z6 rfl⟩)
   refine xj (k := 4) rfl ?_
   refine xb rfl ?_ ?_ <;> intro b1
   refine xr rfl (ym rfl ⟨⟨rfl, rfl, trivial⟩, z6 rfl⟩)
   all_goals (exfalso; simp only [hle, decide_eq_true_eq, decide_eq_false_iff_not] at *; omega)
 have hr : zu l = scan (z4v l) l.length := by unfold zu; rw [if_neg hn]
 rw [hr]
 refine xb rfl ?_ ?_ <;> intro b0
 refine xj (k := 5) rfl ?_
 refine xv rfl rfl rfl ?_; rotate_left
 refine xj (k := 4) rfl ?_
 refine xb rfl ?_ ?_ <;> intro b1
 refine xv rfl rfl rfl ?_; rotate_left
 rotate_left
 all_goals first
  | (exfalso; simp only [hle, decide_eq_true_eq, decide_eq_false_iff_not] at *; omega)
  | skip
 refine qb rfl (ι := Nat) (fun i => i ≤ l.length ∧ ∀ j, j < i → z4v l j = 0) (fun i => ⟨[(3, sV (.int .i64 i)), (1, .one (.a 1 0))], [(1, .var [.b (.l (ya l))])]⟩) (fun i => l.length - i) 0 ⟨Nat.zero_le _, fun j hj => by omega⟩ ?_ ?_
 · exact ⟨⟨rfl, ⟨rfl, rfl, rfl⟩, trivial⟩, ⟨⟨rfl, trivial⟩, trivial⟩, rfl⟩
 · intro i ⟨hi, h0⟩ J hJ
   refine xb rfl ?_ ?_ <;> intro h
   · have h : i < l.length := by simpa using h
     obtain ⟨us, hx⟩ := gx h
     have hg := gm y0t hx
     have hul := hb us (List.mem_of_getElem? hx)
     have hq := z52 us hul
     have hf := y4v hx
     refine xs rfl (nn_ _) (y9 rfl _ hg (xs rfl rfl (z7 rfl (z52 _ (by omega)) rfl ⟨trivial, trivial⟩ ?_)))
     refine xb rfl ?_ ?_ <;> intro b0
     refine xv rfl rfl rfl ?_; rotate_left
     rotate_left
     · exact vi (q8 h h0 (by rw [hf]) (by simpa using b0))
     · exact q9 rfl (hJ _ (i + 1) ⟨by omega, zb h0 (by rw [hf]; simpa using b0)⟩ (by omega) ⟨⟨cwi (by omega) (by omega) (by omega), ⟨rfl, rfl, rfl⟩, trivial⟩, ⟨⟨rfl, trivial⟩, trivial⟩, rfl⟩)
   · have h : ¬ i < l.length := by simpa using h
     have hz := ze (f := z4v l) (n := l.length) (fun j hj => h0 j (by omega))
     refine xv rfl rfl rfl ?_
     exact vi hz.symm
theorem yap (l : List (List Bal)) (hl : l.length ≤ 1048576) (hb : ∀ us ∈ l, us.length ≤ 1048576) : PC Tryz.prog 191 [.agg [.l (ya l)]] (rI (zu l)) := by
 refine PC.begin Tryz.func191 rfl (by kernel_rfl) ?_
 refine y5x (n := 0) rfl (ι := Unit) (fun _ => True) (fun _ => ⟨[(1, .one (.a 1 0))], [(1, .var [.b (.l (ya l))])]⟩) ?_ ?_
 · intro K hK
   exact q9 rfl (hK _ () trivial ⟨⟨⟨rfl, rfl, rfl⟩, trivial⟩, ⟨⟨rfl, trivial⟩, trivial⟩, rfl⟩)
 intro _ _
 have hle : (ya l).length = l.length := by simp
 have hsz : (Go.Sx.within (((ya l).length : Nat) : Int) 1 3 = true) = (1 ≤ l.length ∧ l.length ≤ 3) := by rw [Go.Sx.within_iff, hle]; apply propext; omega
 have hsl := q1w (ya l) (by omega)
 by_cases hn : l.length < 1 ∨ 3 < l.length
 · have hr : zu l = 2 := by unfold zu; rw [if_pos hn]
   rw [hr]
   refine z7 rfl (hsl) rfl ⟨trivial, trivial⟩ (z7 rfl (qm _ _ _) rfl tv4 ?_)
   refine xb rfl ?_ ?_ <;> intro b0
   refine xr rfl (ym rfl ⟨⟨rfl, rfl, trivial⟩, z6 rfl⟩)
   exfalso
   have h3 : 1 ≤ l.length ∧ l.length ≤ 3 := by rw [← hsz]; simpa using b0
   omega
 have hr : zu l = scan (z4v l) l.length := by unfold zu; rw [if_neg hn]
 rw [hr]
 have h3 : Go.Sx.within (((ya l).length : Nat) : Int) 1 3 = true := by rw [hsz]; omega
 refine z7 rfl (hsl) rfl ⟨trivial, trivial⟩ (z7 rfl (qm _ _ _) rfl tv4 ?_)
 refine xb rfl ?_ ?_ <;> intro b0
 refine xv rfl rfl rfl ?_; rotate_left
 rotate_left
 · exfalso
   rw [h3] at b0
   cases b0
 refine qb rfl (ι := Nat) (fun i => i ≤ l.length ∧ ∀ j, j < i → z4v l j = 0) (fun i => ⟨[(14, sV (.int .i64 i)), (13, sV (.int .i64 (ya l).length)), (12, .one (.b (.l (ya l))))], []⟩) (fun i => l.length - i) 0 ⟨Nat.zero_le _, fun j hj => by omega⟩ ?_ ?_
 · exact ⟨⟨rfl, rfl, rfl, trivial⟩, trivial, rfl⟩
 · intro i ⟨hi, h0⟩ J hJ
   refine xb rfl ?_ ?_ <;> intro h
   · have h : i < l.length := by simpa using h
     obtain ⟨us, hx⟩ := gx h
     have hg := gm y0t hx
     have hul := hb us (List.mem_of_getElem? hx)
     have hq := y4s us hul
     have hf := y4v hx
     refine xs rfl (nn_ _) (y9 rfl _ hg (xs rfl rfl (z7 rfl (y4s _ (by omega)) rfl ⟨trivial, trivial⟩ ?_)))
     refine xb rfl ?_ ?_ <;> intro b0
     refine xv rfl rfl rfl ?_; rotate_left
     rotate_left
     · exact vi (q8 h h0 (by rw [hf]) (by simpa using b0))
     · exact q9 rfl (hJ _ (i + 1) ⟨by omega, zb h0 (by rw [hf]; simpa using b0)⟩ (by omega) ⟨⟨cwi (by omega) (by omega) (by omega), rfl, rfl, trivial⟩, trivial, rfl⟩)
   · have h : ¬ i < l.length := by simpa using h
     have hz := ze (f := z4v l) (n := l.length) (fun j hj => h0 j (by omega))
     refine xv rfl rfl rfl ?_
     exact vi hz.symm
abbrev q7s (st : List (List Bal)) : List Cell := [.l (ya st)]
theorem q9m {us : List Bal} (h : ye us = 0) (l : Leg) : y7h us l = y48 us l := by
 unfold y7h y48; rw [q34 h]
theorem z4l (st : List (List Bal)) (l : Leg) (hl : st.length ≤ 1048576) : PC Tryz.prog 296 [.agg l.cs, .one (.p (q7s st))] (rB (decide ((st.length : Int) ≤ l.s))) := by
 refine PC.begin Tryz.func296 rfl (by kernel_rfl) ?_
 have hle : (ya st).length = st.length := by simp
 have hs := q1w (ya st) (by omega)
 refine yb rfl [] (.take 0 [] (.take 1 [5, 6] (.take 2 [] (.take 3 (Rg 4 3) (.alt 4 (Tk [5, 6] .done) .nil))))) (by kernel_rfl) (z7 rfl (hs) rfl ⟨trivial, trivial⟩ (xv rfl rfl rfl ?_))
 all_goals exact vb (by rw [hle])
theorem qao (st : List (List Bal)) (x : Con) (ho : q1c st) (hl : st.length ≤ 3) (hxl : x.legs.length ≤ 1048576) : PC Tryz.prog 193 [.agg (q7s st), .agg x.cs] (rI (z3x st x)) := by
 refine PC.begin Tryz.func193 rfl (by kernel_rfl) ?_
 have hle : (ya st).length = st.length := by simp
 refine y5x (n := 0) rfl (ι := Unit) (fun _ => True) (fun _ => ⟨[(2, .one (.b (.p (q7s st)))), (3, .one (.a 3 0))], [(3, .var (x.cs.map .b))]⟩) ?_ ?_
 · intro K hK
   exact q9 rfl (hK _ () trivial ⟨⟨⟨rfl, rfl, rfl⟩, ⟨rfl, rfl, rfl⟩, trivial⟩, ⟨lcr, trivial⟩, rfl⟩)
 intro _ _
 have hC := z1g x hxl
 by_cases h1 : yi x = 0
 case neg =>
  have e : z3x st x = yi x := by unfold z3x; rw [if_pos h1]
  rw [e]
  refine z7 rfl (z1g _ (by assumption)) rfl ⟨tv3, trivial⟩ ?_
  refine xb rfl ?_ ?_ <;> intro b0
  refine xr rfl (ym rfl ⟨⟨rfl, rfl, trivial⟩, z6 rfl⟩)
  exact absurd b0 (by simp; omega)
  all_goals first | (exfalso; simp_all; done) | skip
 obtain ⟨hx8, hxk, _⟩ := z1o h1
 have hA := fun fn hf => q4j (x.legs.map Leg.cs) x.legs (fun l => decide ((st.length : Int) ≤ l.s)) fn (.p (q7s st)) rfl hf hxl
 have hA1 := hA _ (fun l _ => z4l st l (by omega))
 by_cases h2 : (x.legs.any fun l => decide ((st.length : Int) ≤ l.s)) = true
 · have e : z3x st x = 4 := by unfold z3x; rw [if_neg (by simpa using h1), if_pos h2]
   rw [e]
   rw [h2] at hA1
   refine z7 rfl (z1g _ (by assumption)) rfl ⟨tv3, trivial⟩ ?_
   refine xb rfl ?_ ?_ <;> intro b0
   exact absurd b0 (by simp; omega)
   refine z7 rfl (hA1) rfl tv3 (xj (k := 1) rfl ?_)
   refine xr rfl (ym rfl ⟨⟨rfl, rfl, trivial⟩, z6 rfl⟩)
   all_goals first | (exfalso; simp_all; done) | skip
 have e : z3x st x = scan (y7s st x.legs) x.legs.length := by unfold z3x; rw [if_neg (by simpa using h1), if_neg h2]
 rw [e]
 rw [show (x.legs.any fun l => decide ((st.length : Int) ≤ l.s)) = false by simpa using h2] at hA1
 have hsm : ∀ l ∈ x.legs, l.s < st.length := fun l hl => by
  simp only [List.any_eq_true, decide_eq_true_eq, not_exists, not_and] at h2
  have := h2 l hl
  omega
 refine z7 rfl (z1g _ (by assumption)) rfl ⟨tv3, trivial⟩ ?_
 refine xb rfl ?_ ?_ <;> intro b0
 exact absurd b0 (by simp; omega)
 refine z7 rfl (hA1) rfl tv3 (xj (k := 1) rfl ?_)
 all_goals first | (exfalso; simp_all; done) | skip
 refine qb rfl (ι := Nat) (fun i => i ≤ x.legs.length ∧ ∀ j, j < i → y7s st x.legs j = 0) (fun i => ⟨[(21, sV (.int .i64 i)), (20, sV (.int .i64 (x.legs.map Leg.cs).length)), (19, .one (.b (.l (x.legs.map Leg.cs)))), (2, .one (.b (.p (q7s st))))], []⟩) (fun i => x.legs.length - i) 0 ⟨Nat.zero_le _, fun j hj => by omega⟩ ?_ ?_
 · exact ⟨⟨rfl, rfl, rfl, rfl, trivial⟩, trivial, rfl⟩
 · intro i ⟨hi, h0⟩ J hJ
   refine xb rfl ?_ ?_ <;> intro h
   · have h : i < x.legs.length := by simpa using h
     obtain ⟨l, hx⟩ := gx h
     have hg := gm Leg.cs hx
     have hlm := List.mem_of_getElem? hx
     have hls := hsm l hlm
     have hlk := hxk l hlm
     obtain ⟨us, hu⟩ := gx (xs := st) (i := l.s.toNat) (by omega)
     have hgu := gm y0t hu
     have hf := ho us (List.mem_of_getElem? hu)
     have hL := z49 us l (by have := y17 hf; omega) (by
      rw [q34 hf]
      have := z2n (zw hf).2.1 l.a l.b
      have := hlk.2.2.1
      unfold Leg.small at this
      omega)
     rw [q9m hf] at hL
     have hF : y7s st x.legs i = y48 us l := by unfold y7s; rw [hx]; dsimp only; rw [hu]
     refine xs rfl (by omega) (y9 rfl _ hg (xs rfl rfl (yb rfl [] (.take 0 [] (.take 1 [4, 5, 7, 8] (.take 2 [] (.take 3 [4, 5, 7, 8] (.take 4 [] (.take 5 [7, 8] (.take 6 [7, 8] (.alt 7 (.take 8 [] .done) .nil)))))))) (by kernel_rfl) (xs rfl (by omega) (y9 rfl _ hgu (xs rfl rfl (z7 rfl (hL) rfl ⟨trivial, tv5, trivial⟩ ?_)))))))
     refine xb rfl ?_ ?_ <;> intro b0
     refine xv rfl rfl rfl ?_; rotate_left
     rotate_left
     all_goals first
      | exact vi (q8 h h0 hF (by simpa using b0))
      | exact q9 rfl (hJ _ (i + 1) ⟨by omega, zb h0 (by rw [hF]; simpa using b0)⟩ (by omega) ⟨⟨cwi (by omega) (by omega) (by omega), rfl, rfl, rfl, trivial⟩, trivial, rfl⟩)
      | skip
   · have h : ¬ i < x.legs.length := by simpa using h
     have hz := ze (f := y7s st x.legs) (n := x.legs.length) (fun j hj => h0 j (by omega))
     refine xv rfl rfl rfl ?_
     exact vi hz.symm
theorem y8c (us : List Bal) (l : Leg) (hf : ye us = 0) (hk : inK l.a l.b) (hv : l.v ≠ 0) (hc : y48 us l = 0) : PC Tryz.prog 298 [.one (.l (us.map Bal.cs)), .agg l.cs] (.one (.own false [.l 3 ((y30 us l).map Bal.cs)])) := by
 refine PC.begin Tryz.func298 rfl (by kernel_rfl) ?_
 have hl := y17 hf
 have hcl := z3c us (by omega)
 have hok := z8j hc
 have hbd := z2n (zw hf).2.1 l.a l.b
 have hbs := fun fn hf => q6q us (atP l.a l.b) fn ⟨l.a, l.b, 0⟩ hf (by omega)
 have hB := hbs _ (fun x _ => q08 x _)
 unfold bsV at hB
 cases hq : bsF (atP l.a l.b) us with
 | true =>
   rw [hq] at hB
   obtain ⟨x, hx⟩ : ∃ x, us[bsP (atP l.a l.b) us]? = some x := by
    cases h : us[bsP (atP l.a l.b) us]? with
    | some x => exact ⟨x, rfl⟩
    | none => rw [q7z h] at hq; cases hq
   obtain ⟨h1, h2, h3⟩ := y74 hf hk hq hx
   have hp : bsP (atP l.a l.b) us < us.length := (List.getElem?_eq_some_iff.1 hx).1
   rw [h3]
   generalize bsP (atP l.a l.b) us = p at hB hx h3 hp ⊢
   have hg := gm Bal.cs hx
   have hgs : ∀ r : List Cell, ((us.map Bal.cs).set ((p : Nat) : Int).toNat r)[((p : Nat) : Int).toNat]? = some r := fun r => by
    rw [Int.toNat_natCast, List.getElem?_set_self (by simpa using hp)]
   have hset : ∀ v : Int, (us.map Bal.cs).set ((p : Nat) : Int).toNat (putRow x.cs (0 + 2) [.s (.int .i64 v)]) = (us.set p ⟨l.a, l.b, v⟩).map Bal.cs := fun v => by
    rw [Int.toNat_natCast, List.map_set]
    congr 1
    have ha : x.a = l.a := congrArg Bal.a h2
    have hb : x.b = l.b := congrArg Bal.b h2
    show [i64 x.a, i64 x.b, i64 v] = [i64 l.a, i64 l.b, i64 v]
    rw [ha, hb]
   rw [h1] at hok hbd
   have hw : IntKind.i64.wrap (x.v + l.v) = x.v + l.v := wrap_i64 (by omega) (by omega)
   refine z7 rfl (hcl) rfl ⟨trivial, trivial⟩ (z7 rfl (hB) rfl ⟨rfl, tv4, (fun _ h => nomatch h), trivial⟩ (xj (k := 1) rfl (yb rfl [] (Tk (Rg 0 4) (.take 4 (Rg 7 4) (.take 5 [] (.take 6 (Rg 7 4) (Tk [7, 8, 9] (.alt 10 .done .nil)))))) (by kernel_rfl) (xs rfl rfl (xs rfl (nn_ _) (y9 rfl _ hg (xs rfl rfl (xs rfl rfl (y9 rfl _ hg ?_)))))))))
   refine xs rfl rfl (xs rfl (nn_ _) (y9 rfl _ hg (xs rfl rfl (xs rfl rfl (y9 rfl _ hg (xs rfl (Nat.le_refl 3) (xs rfl ⟨trivial, trivial⟩ (xs rfl (List.length_set.symm) (xs rfl (nn_ _) ?_)))))))))
   refine y9 rfl _ (hgs _) (xs rfl rfl (xs rfl (List.length_set.symm) (y9 rfl _ (hgs _) ?_)))
   refine xb rfl (fun b0 => ?_) (fun b0 => ?_); rotate_left
   refine xr rfl (ym rfl ⟨⟨rfl, ⟨?_, ?_, .inl rfl⟩, trivial⟩, z6 rfl⟩); rotate_left
   rotate_left
   · have h0 : x.v + l.v = 0 := by rw [hw] at b0; simpa using b0
     rw [if_pos h0, List.nil_append]
     have hd := qak (us.set p ⟨l.a, l.b, IntKind.i64.wrap (x.v + l.v)⟩) p (IntKind.i64.wrap ((p : Int) + 1)) (by rw [List.length_set]; exact hp) (wrap_i64 (by omega) (by omega))
     have ht : (us.set p ⟨l.a, l.b, IntKind.i64.wrap (x.v + l.v)⟩).take p = us.take p := by rw [List.take_set_of_le (Nat.le_refl _)]
     have hdr : (us.set p ⟨l.a, l.b, IntKind.i64.wrap (x.v + l.v)⟩).drop (p + 1) = us.drop (p + 1) := by rw [List.drop_set_of_lt (Nat.lt_succ_self _)]
     rw [ht, hdr] at hd
     refine y08 rfl hd ⟨⟨rfl, rfl, hset _, by simp⟩, rfl, rfl, trivial⟩ rfl ?_
     refine xr rfl (ym rfl ⟨⟨rfl, ⟨rfl, rfl, .inl rfl⟩, trivial⟩, z6 rfl⟩)
   · simp
   · have h0 : ¬ (x.v + l.v = 0) := by rw [hw] at b0; simpa using b0
     rw [if_neg h0, hset, hw, List.set_eq_take_append_cons_drop, if_pos hp]
     rfl
 | false =>
   rw [hq] at hB
   obtain ⟨h1, h2, h3⟩ := y9a hf hk hq hv
   rw [h3]
   rw [h1] at hok
   generalize bsP (atP l.a l.b) us = p at hB h2 h3 ⊢
   have hg : ((us.take p ++ [(⟨l.a, l.b, 0⟩ : Bal)] ++ us.drop p).map Bal.cs)[((p : Nat) : Int).toNat]? = some (Bal.cs ⟨l.a, l.b, 0⟩) := by
    rw [Int.toNat_natCast]
    exact gm Bal.cs (by rw [List.append_assoc, List.getElem?_append_right (by simp; omega)]; simp [Nat.min_eq_left h2])
   have hgs : ∀ r : List Cell, (((us.take p ++ [(⟨l.a, l.b, 0⟩ : Bal)] ++ us.drop p).map Bal.cs).set ((p : Nat) : Int).toNat r)[((p : Nat) : Int).toNat]? = some r := fun r => by
    rw [Int.toNat_natCast, List.getElem?_set_self (by simp; omega)]
   have hw : IntKind.i64.wrap (0 + l.v) = l.v := by rw [Int.zero_add]; exact wrap_i64 (by omega) (by omega)
   have hrow : ((us.take p ++ [(⟨l.a, l.b, 0⟩ : Bal)] ++ us.drop p).map Bal.cs).set ((p : Nat) : Int).toNat (putRow (Bal.cs ⟨l.a, l.b, 0⟩) (0 + 2) [.s (.int .i64 (IntKind.i64.wrap (0 + l.v)))]) = (us.take p ++ (⟨l.a, l.b, l.v⟩ :: us.drop p)).map Bal.cs := by
    rw [hw, Int.toNat_natCast, List.append_assoc, List.map_append, List.set_append_right _ _ (by simp; omega)]
    rw [List.map_append]
    congr 1
    simp [Nat.min_eq_left h2, putRow]
   refine z7 rfl (hcl) rfl ⟨trivial, trivial⟩ (z7 rfl (hB) rfl ⟨rfl, tv4, (fun _ h => nomatch h), trivial⟩ (xj (k := 1) rfl (xs rfl tv4 (y08 rfl (yas us ⟨l.a, l.b, 0⟩ p h2 (by omega)) ⟨⟨rfl, rfl, rfl, rfl⟩, rfl, ⟨rfl, rfl, rfl, rfl⟩, trivial⟩ rfl (yb rfl [] (Tk (Rg 0 4) (.take 4 (Rg 7 4) (.take 5 [] (.take 6 (Rg 7 4) (Tk [7, 8, 9] (.alt 10 .done .nil)))))) (by kernel_rfl) (xs rfl rfl (xs rfl (nn_ _) (y9 rfl _ hg (xs rfl rfl ?_)))))))))
   refine xs rfl rfl (y9 rfl _ hg (xs rfl rfl (xs rfl (nn_ _) (y9 rfl _ hg (xs rfl rfl (xs rfl rfl (y9 rfl _ hg (xs rfl (Nat.le_refl 3) (xs rfl ⟨trivial, trivial⟩ ?_)))))))))
   refine xs rfl (List.length_set.symm) (xs rfl (nn_ _) (y9 rfl _ (hgs _) (xs rfl rfl (xs rfl (List.length_set.symm) (y9 rfl _ (hgs _) ?_)))))
   refine xb rfl (fun b0 => ?_) (fun b0 => ?_); rotate_left
   refine xr rfl (ym rfl ⟨⟨rfl, ⟨?_, ?_, .inl rfl⟩, trivial⟩, z6 rfl⟩); rotate_left
   rotate_left
   all_goals first | (exfalso; rw [hw] at b0; simp at b0; exact hv b0) | (simp; done) | exact hrow | skip
theorem qcj {a b : Int} (h : inK a b) : IntKind.i64.wrap (IntKind.i64.wrap (a * 3) + b) = a * 3 + b := by
 unfold inK at h
 rw [wrap_i64 (n := a * 3) (by omega) (by omega), wrap_i64 (by omega) (by omega)]
theorem z9l (us : List Bal) (a b v : Int) (hl : us.length ≤ 1048576) (hk : inK a b) (hu : ∀ x ∈ us, inK x.a x.b) : PC Tryz.prog 383 [.one (.l (us.map Bal.cs)), .one (i64 a), .one (i64 b), .one (i64 v)] (.one (.own false [.l 3 ((y1w a b v us (decide (v = 0))).map Bal.cs)])) := by
 refine PC.begin Tryz.func383 rfl (by kernel_rfl) ?_
 have hkw := qcj hk
 refine xs rfl trivial ?_
 refine qb rfl (ι := Nat × List Bal × Bool) (fun z => z.1 ≤ us.length ∧ z.2.1.length + (bif z.2.2 then 0 else 1) ≤ z.1 + 1 ∧ z.2.1 ++ y1w a b v (us.drop z.1) z.2.2 = y1w a b v us (decide (v = 0))) (fun z => ⟨[(11, sV (.int .i64 z.1)), (10, sV (.bool z.2.2)), (9, .one (.h 13 z.2.1.length)), (0, .one (.b (.l (us.map Bal.cs)))), (1, sV (.int .i64 a)), (2, sV (.int .i64 b)), (3, sV (.int .i64 v))], [(13, .arr true 3 0 (z.2.1.map Bal.cs))]⟩) (fun z => us.length - z.1) (0, [], decide (v = 0)) ⟨Nat.zero_le _, by cases decide (v = 0) <;> simp, by simp⟩ ?_ ?_
 · exact ⟨⟨rfl, rfl, ⟨rfl, rfl, rfl⟩, rfl, rfl, rfl, rfl, trivial⟩, ⟨⟨rfl, .inl rfl, .inl rfl⟩, trivial⟩, rfl⟩
 · intro ⟨i, out, d⟩ ⟨hi, hn, hE⟩ J hJ
   dsimp only at hi hn hE
   have hon : out.length ≤ i + 1 := by omega
   refine xb rfl ?_ ?_ <;> intro h
   · have h : i < us.length := by simpa using h
     obtain ⟨x, hx⟩ := gx h
     have hg := gm Bal.cs hx
     have hxk := hu x (List.mem_of_getElem? hx)
     have hxw := qcj hxk
     have hdr : us.drop i = x :: us.drop (i + 1) := by
      rw [List.drop_eq_getElem_cons h]
      rw [List.getElem?_eq_getElem h] at hx
      cases hx; rfl
     rw [hdr, y1w] at hE
     clear hdr
     cases d with
     | true =>
       refine xs rfl (by simp) (y9 rfl _ hg (xs rfl rfl ?_))
       refine xb rfl ?_ ?_ <;> intro b0
       refine xj (k := 4) rfl ?_
       refine xb rfl (fun b1 => ?_) (fun b1 => ?_); rotate_left
       refine xj (k := 13) rfl (xs rfl tv4 (xs rfl (by simp) (xs rfl rfl (xs rfl (.inl rfl) (xs rfl (by simp; omega) ?_)))))
       refine xs rfl (by simp; omega) ?_; rotate_left
       refine xj (k := 18) rfl (xs rfl tv4 (xs rfl (by simp) (xs rfl rfl (xs rfl (.inl rfl) (xs rfl (by simp; omega) ?_)))))
       refine xs rfl (by simp; omega) ?_; rotate_left
       all_goals first
        | exact q9 rfl (hJ _ (i + 1, out, true) ⟨by omega, by simp at hn ⊢; omega, by rwa [if_pos ⟨by simpa using b0, by simpa using b1⟩] at hE⟩ (by dsimp only; omega) ⟨⟨cwi (by omega) (by omega) (by omega), rfl, ⟨rfl, rfl, rfl⟩, rfl, rfl, rfl, rfl, trivial⟩, ⟨⟨rfl, .inl rfl, .inl rfl⟩, trivial⟩, rfl⟩)
        | exact q9 rfl (hJ _ (i + 1, out ++ [x], true) ⟨by omega, by simp at hn ⊢; omega, by rw [if_neg (fun e => by simp_all), if_neg (fun e => by simp_all)] at hE; simpa using hE⟩ (by dsimp only; omega) ⟨⟨cwi (by omega) (by omega) (by omega), rfl, ⟨rfl, by simp, rfl⟩, rfl, rfl, rfl, rfl, trivial⟩, ⟨⟨by simp, .inl rfl, .inl rfl⟩, trivial⟩, rfl⟩)
        | skip
     | false =>
       refine xs rfl (by simp) (y9 rfl _ hg (xs rfl rfl ?_))
       refine xb rfl ?_ ?_ <;> intro b0
       refine xj (k := 4) rfl ?_
       refine xb rfl (fun b1 => ?_) (fun b1 => ?_); rotate_left
       refine xj (k := 12) rfl ?_
       refine xb rfl ?_ ?_ <;> intro b2
       refine xs rfl tv4 (xs rfl (by simp) (xs rfl rfl (xs rfl (.inl rfl) (xs rfl (by simp; omega) (xs rfl (by simp; omega) (xs rfl tv4 (xs rfl (by simp) (xs rfl rfl (xs rfl (.inl rfl) ?_)))))))))
       refine xs rfl (by simp; omega) ?_
       refine xs rfl (by simp; omega) ?_; rotate_left
       refine xs rfl tv4 (xs rfl (by simp) (xs rfl rfl (xs rfl (.inl rfl) (xs rfl (by simp; omega) ?_))))
       refine xs rfl (by simp; omega) ?_; rotate_left
       refine xj (k := 17) rfl ?_
       refine xb rfl ?_ ?_ <;> intro b1
       refine xs rfl tv4 (xs rfl (by simp) (xs rfl rfl (xs rfl (.inl rfl) (xs rfl (by simp; omega) (xs rfl (by simp; omega) (xs rfl tv4 (xs rfl (by simp) (xs rfl rfl (xs rfl (.inl rfl) ?_)))))))))
       refine xs rfl (by simp; omega) ?_
       refine xs rfl (by simp; omega) ?_; rotate_left
       refine xs rfl tv4 (xs rfl (by simp) (xs rfl rfl (xs rfl (.inl rfl) (xs rfl (by simp; omega) ?_))))
       refine xs rfl (by simp; omega) ?_; rotate_left
       all_goals first
        | exact q9 rfl (hJ _ (i + 1, out, false) ⟨by omega, by simp at hn ⊢; omega, by rwa [if_pos ⟨by simpa using b0, by simpa using b1⟩] at hE⟩ (by dsimp only; omega) ⟨⟨cwi (by omega) (by omega) (by omega), rfl, ⟨rfl, rfl, rfl⟩, rfl, rfl, rfl, rfl, trivial⟩, ⟨⟨rfl, .inl rfl, .inl rfl⟩, trivial⟩, rfl⟩)
        | exact q9 rfl (hJ _ (i + 1, out ++ [⟨a, b, v⟩, x], true) ⟨by omega, by simp at hn ⊢; omega, by rw [if_neg (fun e => by simp_all), if_pos ⟨rfl, by rw [hxw, hkw] at *; unfold Bal.key; simp_all⟩] at hE; simpa using hE⟩ (by dsimp only; omega) ⟨⟨cwi (by omega) (by omega) (by omega), rfl, ⟨rfl, by simp, rfl⟩, rfl, rfl, rfl, rfl, trivial⟩, ⟨⟨by simp, .inl rfl, .inl rfl⟩, trivial⟩, rfl⟩)
        | exact q9 rfl (hJ _ (i + 1, out ++ [x], false) ⟨by omega, by simp at hn ⊢; omega, by rw [if_neg (fun e => by simp_all), if_neg (fun e => by rw [hxw, hkw] at *; unfold Bal.key at e; simp_all; omega)] at hE; simpa using hE⟩ (by dsimp only; omega) ⟨⟨cwi (by omega) (by omega) (by omega), rfl, ⟨rfl, by simp, rfl⟩, rfl, rfl, rfl, rfl, trivial⟩, ⟨⟨by simp, .inl rfl, .inl rfl⟩, trivial⟩, rfl⟩)
        | exact q9 rfl (hJ _ (i + 1, out ++ [x], false) ⟨by omega, by simp at hn ⊢; omega, by rw [if_neg (fun e => by simp_all), if_neg (fun e => by have h5 := e.2; rw [hxw, hkw] at b1; unfold Bal.key at h5; exact absurd h5 (by simpa using b1))] at hE; simpa using hE⟩ (by dsimp only; omega) ⟨⟨cwi (by omega) (by omega) (by omega), rfl, ⟨rfl, by simp, rfl⟩, rfl, rfl, rfl, rfl, trivial⟩, ⟨⟨by simp, .inl rfl, .inl rfl⟩, trivial⟩, rfl⟩)
        | skip
   · have h : ¬ i < us.length := by simpa using h
     rw [List.drop_eq_nil_of_le (by omega)] at hE
     cases d with
     | true =>
       rw [← hE]
       refine xj (k := 1) rfl ?_
       refine xr rfl (ym rfl ⟨⟨rfl, ⟨?_, ?_, .inl rfl⟩, trivial⟩, z6 rfl⟩); rotate_left
       rotate_left
       all_goals first | (simp [y1w]; done) | skip
     | false =>
       rw [← hE]
       refine xj (k := 1) rfl (xs rfl tv4 (xs rfl (by simp) (xs rfl rfl (xs rfl (.inl rfl) (xs rfl (by simp; omega) (xs rfl (by simp; omega) ?_))))))
       refine xr rfl (ym rfl ⟨⟨rfl, ⟨?_, ?_, .inl rfl⟩, trivial⟩, z6 rfl⟩); rotate_left
       rotate_left
       all_goals first | (simp [y1w]; done) | skip
theorem zc5 (us : List Bal) : yu (us.map Bal.cs) := fun row hr => by
 obtain ⟨x, _, rfl⟩ := List.mem_map.1 hr
 intro c hc
 simp at hc
 rcases hc with rfl | rfl | rfl <;> exact ⟨_, rfl⟩
theorem q9k (us : List Bal) (ls : List Leg) (hl : us.length ≤ 100000) (hll : ls.length ≤ 100000) (hu : y58 us) (hk : ∀ l ∈ ls, inK l.a l.b ∧ l.small) (hB : ∀ a b, -4000000000000000000 ≤ hasB us a b ∧ hasB us a b ≤ 4000000000000000000) : PC Tryz.prog 283 [.one (.l (us.map Bal.cs)), .one (.l (ls.map Leg.cs))] (.one (.bor false [.l ((z2t us ls).map Bal.cs)])) := by
 refine PC.begin Tryz.func283 rfl (by kernel_rfl) ?_
 have hsc := zc5 us
 refine xs rfl trivial (xs rfl rfl (xs rfl (by simp) (xs rfl (fun _ => hsc) (xs rfl (by simp; omega) (xs rfl (by simp; omega) ?_)))))
 refine qb rfl (ι := Nat) (fun i => i ≤ ls.length) (fun i => ⟨[(6, sV (.int .i64 i)), (5, .one (.b (.l ((z2t us (ls.take i)).map Bal.cs)))), (1, .one (.b (.l (ls.map Leg.cs))))], []⟩) (fun i => ls.length - i) 0 (Nat.zero_le _) ?_ ?_
 · exact ⟨⟨rfl, ⟨rfl, by simp, by simp [z2t]⟩, rfl, trivial⟩, trivial, rfl⟩
 · intro i hi J hJ
   refine xb rfl ?_ ?_ <;> intro h
   · have h : i < ls.length := by simpa using h
     obtain ⟨l, hx⟩ := gx h
     have hg := gm Leg.cs hx
     have hlm := hk l (List.mem_of_getElem? hx)
     have hst := y7v (us := us) hx
     have hgd := z5g (ls := ls.take i) hu (fun x hx => (hk x (List.mem_of_mem_take hx)).1)
     have hlen := q6o (ls.take i) us
     rw [List.length_take] at hlen
     have hlen : (z2t us (ls.take i)).length ≤ 1048576 := by omega
     have hv := y3h (ls.take i) us l.a l.b
     have hb := hB l.a l.b
     have hs := q8z (ls.take i) l.a l.b (fun x hx => (hk x (List.mem_of_mem_take hx)).2)
     have hti : (ls.take i).length ≤ 100000 := by rw [List.length_take]; omega
     have hsm := hlm.2
     unfold Leg.small at hsm
     have hw : IntKind.i64.wrap (hasB (z2t us (ls.take i)) l.a l.b + l.v) = hasB (z2t us (ls.take i)) l.a l.b + l.v := wrap_i64 (by omega) (by omega)
     have hset := z9l (z2t us (ls.take i)) l.a l.b (IntKind.i64.wrap (hasB (z2t us (ls.take i)) l.a l.b + l.v)) hlen hlm.1 (fun x hx => (hgd.2 x hx).1)
     unfold y30 at hst
     rw [← hw] at hst
     generalize z2t us (ls.take i) = cur at hset hst hlen hw ⊢
     clear hv hb hs hsm hgd
     refine yb rfl [] (Tk (Rg 0 5) (.take 5 [29, 30] (Tk (Rg 6 4) (.take 10 [29, 30] (Tk (Rg 11 5) (.take 16 [22, 28, 29, 30] (Tk (Rg 17 4) (.take 21 [22, 28, 29, 30] (Tk (Rg 23 4) (.take 27 (Rg 28 3) (.alt 22 (.take 28 [] (.alt 29 (.take 30 [] .done) .nil)) .nil))))))))))) (by kernel_rfl) (xs rfl (nn_ _) (y9 rfl _ hg (xs rfl rfl (xs rfl (nn_ _) (y9 rfl _ hg (xs rfl rfl (xs rfl (nn_ _) (y9 rfl _ hg (xs rfl rfl ?_)))))))))
     refine xs rfl (nn_ _) (y9 rfl _ hg (xs rfl rfl (xs rfl (nn_ _) (y9 rfl _ hg (xs rfl rfl (z7 rfl (q8u _ _ _ (by assumption)) rfl tv4 (z7 rfl (hset) rfl tv5 ?_)))))))
     all_goals first
      | exact q9 rfl (hJ _ (i + 1) (by omega) (by omega) ⟨⟨cwi (by omega) (by omega) (by omega), ⟨rfl, rfl, by rw [hst]⟩, rfl, trivial⟩, trivial, rfl⟩)
      | skip
   · have h : i = ls.length := by have : ¬ i < ls.length := (by simpa using h); omega
     subst h
     rw [List.take_length]
     refine xr rfl (ym rfl ⟨⟨rfl, rfl, trivial⟩, z6 rfl⟩)
theorem q8j (us : List Bal) (l : Leg) : z32 us [l] = y48 us l := by
 unfold z32
 cases h : y48 us l <;> simp [scan, y6a, h]
theorem qb4 (st : List (List Bal)) (x : Con) (ho : q1c st) (hl : st.length ≤ 3) (hxl : x.legs.length ≤ 1048576) : PC Tryz.prog 188 [.agg (q7s st), .agg x.cs] (rI (z3x st x)) := by
 refine PC.begin Tryz.func188 rfl (by kernel_rfl) ?_
 have hle : (ya st).length = st.length := by simp
 refine y5x (n := 0) rfl (ι := Unit) (fun _ => True) (fun _ => ⟨[(2, .one (.a 2 0)), (3, .one (.a 3 0))], [(2, .var [.b (.l (ya st))]), (3, .var (x.cs.map .b))]⟩) ?_ ?_
 · intro K hK
   exact q9 rfl (hK _ () trivial ⟨⟨⟨rfl, rfl, rfl⟩, ⟨rfl, rfl, rfl⟩, trivial⟩, ⟨⟨rfl, trivial⟩, lcr, trivial⟩, rfl⟩)
 intro _ _
 have hC := y25 x hxl
 by_cases h1 : yi x = 0
 case neg =>
  have e : z3x st x = yi x := by unfold z3x; rw [if_pos h1]
  rw [e]
  refine z7 rfl (y25 _ (by assumption)) rfl ⟨tv3, trivial⟩ ?_
  refine xb rfl ?_ ?_ <;> intro b0
  refine xr rfl (ym rfl ⟨⟨rfl, rfl, trivial⟩, z6 rfl⟩)
  exact absurd b0 (by simp; omega)
  all_goals first | (exfalso; simp_all; done) | skip
 obtain ⟨hx8, hxk, _⟩ := z1o h1
 refine z7 rfl (y25 _ (by assumption)) rfl ⟨tv3, trivial⟩ ?_
 refine xb rfl ?_ ?_ <;> intro b0
 exact absurd b0 (by simp; omega)
 all_goals first | (exfalso; simp_all; done) | skip
 refine qb rfl (ι := Nat) (fun i => i ≤ x.legs.length ∧ ∀ (j : Nat) (l : Leg), j < i → x.legs[j]? = some l → l.s < st.length) (fun i => ⟨[(6, sV (.int .i64 i)), (2, .one (.a 2 0)), (3, .one (.a 3 0))], [(2, .var [.b (.l (ya st))]), (3, .var (x.cs.map .b))]⟩) (fun i => x.legs.length - i) 0 ⟨Nat.zero_le _, fun j l hj => by omega⟩ ?_ ?_
 · exact ⟨⟨rfl, ⟨rfl, rfl, rfl⟩, ⟨rfl, rfl, rfl⟩, trivial⟩, ⟨⟨rfl, trivial⟩, lcr, trivial⟩, rfl⟩
 · intro i ⟨hi, h0⟩ J hJ
   refine xb rfl ?_ ?_ <;> intro h
   · have h : i < x.legs.length := by simpa using h
     obtain ⟨l, hx⟩ := gx h
     have hg := gm Leg.cs hx
     refine yb rfl [] (.take 0 [] (.take 1 [3, 4, 5, 9] (Tk [2, 3, 4] (.take 5 [9] (.take 6 [] (.take 7 [8, 9] (Tk [8, 9] .done))))))) (by kernel_rfl) (xs rfl (nn_ _) (y9 rfl _ hg (xs rfl rfl ?_)))
     refine xb rfl ?_ ?_ <;> intro b0
     refine xv rfl rfl rfl ?_; rotate_left
     rotate_left
     all_goals first
      | (refine vi ?_; unfold z3x; rw [if_neg (by simpa using h1), if_pos (List.any_eq_true.2 ⟨l, List.mem_of_getElem? hx, by simpa using b0⟩)])
      | exact q9 rfl (hJ _ (i + 1) ⟨by omega, fun j y hj hy => by
         by_cases e : j = i
         · subst e; rw [hx] at hy; cases hy; simpa using b0
         · exact h0 j y (by omega) hy⟩ (by omega) ⟨⟨cwi (by omega) (by omega) (by omega), ⟨rfl, rfl, rfl⟩, ⟨rfl, rfl, rfl⟩, trivial⟩, ⟨⟨rfl, trivial⟩, lcr, trivial⟩, rfl⟩)
      | skip
   · have h : i = x.legs.length := by have : ¬ i < x.legs.length := (by simpa using h); omega
     subst h
     have hsm : ∀ l ∈ x.legs, l.s < st.length := fun l hl => by
      obtain ⟨j, hj⟩ := List.mem_iff_getElem?.1 hl
      exact h0 j l (List.getElem?_eq_some_iff.1 hj).1 hj
     have h2 : ¬ (x.legs.any fun l => decide ((st.length : Int) ≤ l.s)) = true := fun e => by
      obtain ⟨l, hl, h3⟩ := List.any_eq_true.1 e
      have := hsm l hl
      have h3 : (st.length : Int) ≤ l.s := by simpa using h3
      omega
     have e : z3x st x = scan (y7s st x.legs) x.legs.length := by unfold z3x; rw [if_neg (by simpa using h1), if_neg h2]
     rw [e]
     refine qb rfl (ι := Nat) (fun i => i ≤ x.legs.length ∧ ∀ j, j < i → y7s st x.legs j = 0) (fun i => ⟨[(7, sV (.int .i64 i)), (2, .one (.a 2 0)), (3, .one (.a 3 0))], [(2, .var [.b (.l (ya st))]), (3, .var (x.cs.map .b))]⟩) (fun i => x.legs.length - i) 0 ⟨Nat.zero_le _, fun j hj => by omega⟩ ?_ ?_
     · exact ⟨⟨rfl, ⟨rfl, rfl, rfl⟩, ⟨rfl, rfl, rfl⟩, trivial⟩, ⟨⟨rfl, trivial⟩, lcr, trivial⟩, rfl⟩
     · intro i ⟨hi, h0⟩ J2 hJ2
       refine xb rfl ?_ ?_ <;> intro h
       · have h : i < x.legs.length := by simpa using h
         obtain ⟨l, hx⟩ := gx h
         have hg := gm Leg.cs hx
         have hlm := List.mem_of_getElem? hx
         have hls := hsm l hlm
         have hlk := hxk l hlm
         obtain ⟨us, hu⟩ := gx (xs := st) (i := l.s.toNat) (by omega)
         have hgu := gm y0t hu
         have hf := ho us (List.mem_of_getElem? hu)
         have hL := z4f us [l] (by have := y17 hf; omega) (by simp) (fun y hy => by
          obtain rfl := List.mem_singleton.1 hy
          have := z2n (zw hf).2.1 y.a y.b
          have := hlk.2.2.1
          unfold Leg.small at this
          omega)
         rw [q8j] at hL
         have hF : y7s st x.legs i = y48 us l := by unfold y7s; rw [hx]; dsimp only; rw [hu]
         have hwk : IntKind.i64.wrap ((i : Int) + 1) = (i : Int) + 1 := wrap_i64 (by omega) (by omega)
         have hcut : ((x.legs.map Leg.cs).take ((some (IntKind.i64.wrap ((i : Int) + 1))).getD ((x.legs.map Leg.cs).length : Int)).toNat).drop ((some (i : Int)).getD 0).toNat = [l].map Leg.cs := by
          show ((x.legs.map Leg.cs).take (IntKind.i64.wrap ((i : Int) + 1)).toNat).drop (i : Int).toNat = _
          rw [hwk, show ((i : Int) + 1).toNat = i + 1 by omega, Int.toNat_natCast, List.take_add_one, hg, List.drop_append_of_le_length (by rw [List.length_take, List.length_map]; omega), List.drop_of_length_le (by rw [List.length_take]; exact Nat.min_le_left _ _)]
          rfl
         rw [← hcut] at hL
         refine yb rfl [] (.take 0 [] (.take 1 [8, 9, 16, 17] (.take 2 [] (.take 3 (Rg 5 5 ++ Rg 16 2) (Tk [4, 5, 6] (.take 7 [8, 9, 16, 17] (.take 8 [] (.take 9 [16, 17] (.take 10 [] (.take 11 (Rg 15 3) (Tk (Rg 12 4) (.alt 16 (.take 17 [] .done) .nil)))))))))))) (by kernel_rfl) (xs rfl (by omega) (y9 rfl _ hg (xs rfl rfl (xs rfl (by omega) (y9 rfl _ hgu (xs rfl rfl (xs rfl (.inr (fun row hr => by obtain ⟨y, _, rfl⟩ := List.mem_map.1 hr; rfl)) (xs rfl (nn_ _) (xs rfl (by show (i : Int) ≤ IntKind.i64.wrap ((i : Int) + 1); rw [hwk]; omega) ?_)))))))))
         refine xs rfl (by show IntKind.i64.wrap ((i : Int) + 1) ≤ ((x.legs.map Leg.cs).length : Int); rw [hwk]; simp; omega) (z7 rfl (hL) rfl tv3 ?_)
         refine xb rfl ?_ ?_ <;> intro b0
         refine xv rfl rfl rfl ?_; rotate_left
         rotate_left
         all_goals first
          | exact vi (q8 (c := y48 us l) h h0 hF (by simpa using b0))
          | exact q9 rfl (hJ2 _ (i + 1) ⟨by omega, zb h0 (by rw [hF]; simpa using b0)⟩ (by omega) ⟨⟨cwi (by omega) (by omega) (by omega), ⟨rfl, rfl, rfl⟩, ⟨rfl, rfl, rfl⟩, trivial⟩, ⟨⟨rfl, trivial⟩, lcr, trivial⟩, rfl⟩)
          | skip
       · have h : ¬ i < x.legs.length := by simpa using h
         have hz := ze (f := y7s st x.legs) (n := x.legs.length) (fun j hj => h0 j (by omega))
         refine xv rfl rfl rfl ?_
         exact vi hz.symm
abbrev q74 (st : List (List Bal)) (x : Con) : List (List Bal) := st.mapIdx fun k us => z2t us (qh x k)
theorem z4e (st : List (List Bal)) (x : Con) (ho : q1c st) (hl : st.length ≤ 3) (hx : x.legs.length ≤ 8) (hk : ∀ l ∈ x.legs, inK l.a l.b ∧ l.small) : PC Tryz.prog 187 [.agg (q7s st), .agg x.cs] (.one (.bor true [.l (ya (q74 st x))])) := by
 refine PC.begin Tryz.func187 rfl (by kernel_rfl) ?_
 have hle : (ya st).length = st.length := by simp
 refine qb rfl (ι := Nat) (fun i => i ≤ st.length) (fun i => ⟨[(6, sV (.int .i64 i)), (5, .one (.a 5 0)), (2, .one (.a 2 0)), (3, .one (.a 3 0)), (4, .one (.a 4 0))], [(5, .var [.h 27 (ya ((q74 st x).take i)).length]), (27, .arr false 1 0 (ya ((q74 st x).take i))), (2, .var [.b (.l (ya st))]), (3, .var (x.cs.map .b)), (4, .var [.nil])]⟩) (fun i => st.length - i) 0 (Nat.zero_le _) ?_ ?_
 · exact ⟨⟨rfl, ⟨rfl, rfl, rfl⟩, ⟨rfl, rfl, rfl⟩, ⟨rfl, rfl, rfl⟩, ⟨rfl, rfl, rfl⟩, trivial⟩, ⟨⟨⟨rfl, rfl, rfl⟩, trivial⟩, rfl, ⟨rfl, trivial⟩, lcr, ⟨trivial, trivial⟩, trivial⟩, rfl⟩
 · intro i hi J hJ
   refine xb rfl ?_ ?_ <;> intro h
   · have h : i < st.length := by simpa using h
     obtain ⟨us, hu⟩ := gx h
     have hg := gm y0t hu
     have hf := ho us (List.mem_of_getElem? hu)
     have hLg := PC.ybb (q0g x i (by omega))
     have hmem : ∀ l ∈ qh x i, inK l.a l.b ∧ l.small := fun l hl => hk l (List.mem_filter.1 hl).1
     have hbd := z2n (zw hf).2.1
     have hA := q9k us (qh x i) (by have := y17 hf; omega) (by have : (qh x i).length ≤ x.legs.length := List.length_filter_le _ _; omega) (y8a hf) hmem (fun a b => by have := hbd a b; omega)
     have hst : ya ((q74 st x).take (i + 1)) = ya ((q74 st x).take i) ++ [y0t (z2t us (qh x i))] := by
      have : (q74 st x)[i]? = some (z2t us (qh x i)) := by unfold q74; rw [List.getElem?_mapIdx, hu]; rfl
      unfold ya
      rw [List.take_add_one, this]; simp
     clear hx
     refine yb rfl [] (.take 0 [] (.take 1 (Rg 12 3) (.take 2 [] (.take 3 (Rg 5 2 ++ Rg 10 5) (Tk [4, 5] (.take 6 (Rg 10 5) (.take 7 (Rg 9 6) (.take 8 [] (.alt 9 (.alt 10 (.alt 11 (.alt 12 (.take 13 [] (.alt 14 .done .nil)) .nil) .nil) .nil) .nil))))))))) (by kernel_rfl) (xs rfl (nn_ _) (y9 rfl _ hg (xs rfl rfl (z7 rfl (hLg) rfl ⟨tv3, trivial, trivial⟩ (z7 rfl (hA) rfl tv3 (xs rfl ⟨rfl, trivial⟩ (xs rfl rfl (xs rfl rfl (xs rfl (.inl rfl) ?_)))))))))
     refine xs rfl (by simp; omega) (xs rfl (by simp; omega) ?_)
     all_goals exact q9 rfl (hJ _ (i + 1) (by omega) (by omega) ⟨⟨cwi (by omega) (by omega) (by omega), ⟨rfl, rfl, rfl⟩, ⟨rfl, rfl, rfl⟩, ⟨rfl, rfl, rfl⟩, ⟨rfl, rfl, rfl⟩, trivial⟩, ⟨⟨⟨rfl, by rw [hst]; exact List.length_append.symm, rfl⟩, trivial⟩, ⟨hst.symm, .inl rfl, .inl rfl⟩, ⟨rfl, trivial⟩, lcr, ⟨trivial, trivial⟩, trivial⟩, rfl⟩)
   · have h : i = st.length := by have : ¬ i < st.length := (by simpa using h); omega
     subst h
     rw [List.take_of_length_le (by simp [q74])]
     refine y5x (n := 1) rfl (ι := Unit) (fun _ => True) (fun _ => ⟨[(4, .one (.a 4 0))], [(4, .var [.b (.l (ya (q74 st x)))])]⟩) ?_ ?_
     · intro K hK
       exact q9 rfl (hK _ () trivial ⟨⟨⟨rfl, rfl, rfl⟩, trivial⟩, ⟨⟨⟨rfl, rfl, rfl⟩, trivial⟩, trivial⟩, rfl⟩)
     intro _ _
     refine xr rfl (ym rfl ⟨⟨rfl, rfl, trivial⟩, z6 rfl⟩)
theorem zae {st : List (List Bal)} {x : Con} (hc : yi x = 0) : q74 st x = yb7 st x := by
 apply List.ext_getElem?
 intro k
 unfold q74
 rw [List.getElem?_mapIdx]
 cases h : st[k]? with
 | none =>
   have hl : st.length ≤ k := List.getElem?_eq_none_iff.1 h
   rw [List.getElem?_eq_none (by rw [q70]; exact hl)]; rfl
 | some us => rw [z9x hc h]; rfl
theorem q9a (st : List (List Bal)) : q74 st ⟨0, []⟩ = st := by
 apply List.ext_getElem?
 intro k
 unfold q74
 rw [List.getElem?_mapIdx]
 cases st[k]? <;> rfl
abbrev yb1 (a : Int × List Int × List (List Bal)) : Res := .one (.bor true [.s (.int .i64 a.1), .l (ints a.2.1), .l (ya a.2.2)])
theorem zb4 (st : List (List Bal)) (list : List Con) (hsl : st.length ≤ 1048576) (hsb : ∀ us ∈ st, us.length ≤ 1048576) (hll : list.length ≤ 1048576) (hlx : ∀ x ∈ list, x.legs.length ≤ 1048576) : PC Tryz.prog 104 [.agg (q7s st), .one (.l (list.map Con.cs))] (yb1 (zq st list)) := by
 refine PC.begin Tryz.func104 rfl (by kernel_rfl) ?_
 have hF := zb5 st hsl hsb
 have hle : (list.map Con.cs).length = list.length := by simp
 by_cases h1 : zu st = 0
 case neg =>
  rw [show zq st list = (zu st, [], []) by unfold zq; rw [if_pos h1]]
  refine z7 rfl (hF) rfl ⟨⟨trivial, trivial⟩, trivial⟩ ?_
  refine xb rfl ?_ ?_ <;> intro b0
  refine xr rfl (ym rfl ⟨⟨rfl, rfl, rfl, rfl, trivial⟩, z6 rfl⟩)
  exact absurd b0 (by simp; omega)
  all_goals first | (exfalso; simp_all; done) | skip
 obtain ⟨hok, hl1, hl3⟩ := z6a h1
 by_cases h2 : 100 < list.length
 · rw [show zq st list = (2, [], []) by unfold zq; rw [if_neg (by simpa using h1), if_pos h2]]
   refine z7 rfl (hF) rfl ⟨⟨trivial, trivial⟩, trivial⟩ ?_
   refine xb rfl ?_ ?_ <;> intro b0
   exact absurd b0 (by simp; omega)
   refine xb rfl ?_ ?_ <;> intro b1
   refine xr rfl (ym rfl ⟨⟨rfl, rfl, rfl, rfl, trivial⟩, z6 rfl⟩)
   exact absurd b1 (by simp; omega)
   all_goals first | (exfalso; simp_all; done) | (exfalso; simp at b1; omega) | skip
 rw [show zq st list = (0, (q30 st list).2, (q30 st list).1) by unfold zq; rw [if_neg (by simpa using h1), if_neg h2]]
 have hcp := z4e st ⟨0, []⟩ hok hl3 (Nat.zero_le _) (fun l hl => by cases hl)
 rw [q9a] at hcp
 refine z7 rfl (hF) rfl ⟨⟨trivial, trivial⟩, trivial⟩ ?_
 refine xb rfl ?_ ?_ <;> intro b0
 exact absurd b0 (by simp; omega)
 refine xb rfl ?_ ?_ <;> intro b1
 exact absurd b1 (by simp; omega)
 refine z7 rfl (hcp) rfl ⟨⟨trivial, trivial⟩, tv3, trivial⟩ ?_
 all_goals first | (exfalso; simp_all; done) | (exfalso; simp at b1; omega) | skip
 refine qb rfl (ι := Nat) (fun i => i ≤ list.length) (fun i => ⟨[(7, sV (.int .i64 i)), (1, .one (.b (.l (list.map Con.cs)))), (6, .one (.a 6 0)), (4, .one (.a 4 0))], [(6, .var [.b (i64 0), .h 49 (ints (q30 st (list.take i)).2).length, .b (.l (ya (q30 st (list.take i)).1))]), (49, .arr true 1 0 (ints (q30 st (list.take i)).2)), (4, .var [.b (i64 0), .nil, .nil])]⟩) (fun i => list.length - i) 0 (Nat.zero_le _) ?_ ?_
 · exact ⟨⟨rfl, rfl, ⟨rfl, rfl, rfl⟩, ⟨rfl, rfl, rfl⟩, trivial⟩, ⟨⟨rfl, ⟨rfl, rfl, rfl⟩, rfl, trivial⟩, rfl, ⟨rfl, trivial, trivial, trivial⟩, trivial⟩, rfl⟩
 · intro i hi J hJ
   refine xb rfl ?_ ?_ <;> intro h
   · have h : i < list.length := by simpa using h
     obtain ⟨x, hx⟩ := gx h
     have hg := gm Con.cs hx
     have hxm := hlx x (List.mem_of_getElem? hx)
     obtain ⟨ho, hcl, hol⟩ := y4j hok hi
     have hst := y3a (st := st) hx
     generalize q30 st (list.take i) = p at ho hcl hol hst ⊢
     obtain ⟨cur, outs⟩ := p
     dsimp only at ho hcl hol ⊢
     have hC := qb4 cur x ho (by omega) hxm
     by_cases hc : z3x cur x = 0
     · have hcf := (q80 hc).1
       have hxl := z1o hcf
       have hS := z4e cur x ho (by omega) hxl.1 (fun l hl => ⟨(hxl.2.1 l hl).2.1, (hxl.2.1 l hl).2.2.1⟩)
       rw [zae hcf] at hS
       rw [z6i, if_pos hc] at hst
       rw [hc] at hC
       refine yb rfl [] (.take 0 [] (.take 1 [6, 7] (Tk [2, 3, 4] (.take 5 [6, 7] (.alt 6 (.take 7 [] .done) .nil))))) (by kernel_rfl) (xs rfl (nn_ _) (y9 rfl _ hg (xs rfl rfl (z7 rfl (hC) rfl ⟨⟨trivial, trivial⟩, tv3, trivial⟩ (xj (k := 1) rfl (yb rfl [] (.take 0 [] (.take 1 (Rg 6 3) (Tk [2, 3, 4] (.take 5 (Rg 6 3) (.alt 6 (.take 7 [] (.alt 8 .done .nil)) .nil))))) (by kernel_rfl) (xs rfl (nn_ _) (y9 rfl _ hg (xs rfl rfl ?_)))))))))
       refine z7 rfl (hS) rfl ⟨⟨trivial, trivial⟩, tv3, trivial⟩ (xs rfl ⟨trivial, trivial⟩ (xs rfl rfl (xs rfl rfl (xs rfl (.inl rfl) (xs rfl (by simp; omega) (xs rfl (by simp; omega) ?_))))))
       all_goals exact q9 rfl (hJ _ (i + 1) (by omega) (by omega) ⟨⟨cwi (by omega) (by omega) (by omega), rfl, ⟨rfl, rfl, rfl⟩, ⟨rfl, rfl, rfl⟩, trivial⟩, ⟨⟨rfl, ⟨rfl, by rw [hst]; simp [ints], rfl⟩, by rw [hst]; rfl, trivial⟩, ⟨by rw [hst]; simp [ints], .inl rfl, .inl rfl⟩, ⟨rfl, trivial, trivial, trivial⟩, trivial⟩, rfl⟩)
     · rw [z6i, if_neg hc] at hst
       refine yb rfl [] (.take 0 [] (.take 1 [6, 7] (Tk [2, 3, 4] (.take 5 [6, 7] (.alt 6 (.take 7 [] .done) .nil))))) (by kernel_rfl) (xs rfl (nn_ _) (y9 rfl _ hg (xs rfl rfl (z7 rfl (hC) rfl ⟨⟨trivial, trivial⟩, tv3, trivial⟩ ?_))))
       refine xb rfl ?_ ?_ <;> intro b0
       exact absurd b0 (by simp; omega)
       refine xs rfl ⟨trivial, trivial⟩ (xs rfl rfl (xs rfl rfl (xs rfl (.inl rfl) (xs rfl (by simp; omega) (xs rfl (by simp; omega) ?_)))))
       all_goals exact q9 rfl (hJ _ (i + 1) (by omega) (by omega) ⟨⟨cwi (by omega) (by omega) (by omega), rfl, ⟨rfl, rfl, rfl⟩, ⟨rfl, rfl, rfl⟩, trivial⟩, ⟨⟨rfl, ⟨rfl, by rw [hst]; simp [ints], rfl⟩, by rw [hst]; rfl, trivial⟩, ⟨by rw [hst]; simp [ints], .inl rfl, .inl rfl⟩, ⟨rfl, trivial, trivial, trivial⟩, trivial⟩, rfl⟩)
   · have h : i = list.length := by have : ¬ i < list.length := (by simpa using h); omega
     subst h
     rw [List.take_length]
     refine y5x (n := 1) rfl (ι := Unit) (fun _ => True) (fun _ => ⟨[(4, .one (.a 4 0))], [(4, .var [.b (i64 0), .b (.l (ints (q30 st list).2)), .b (.l (ya (q30 st list).1))])]⟩) ?_ ?_
     · intro K hK
       exact q9 rfl (hK _ () trivial ⟨⟨⟨rfl, rfl, rfl⟩, trivial⟩, ⟨⟨rfl, ⟨rfl, rfl, rfl⟩, rfl, trivial⟩, trivial⟩, rfl⟩)
     intro _ _
     refine xr rfl (ym rfl ⟨⟨rfl, rfl, rfl, rfl, trivial⟩, z6 rfl⟩)
end Go.Proofs.YtohbmmpkcibnpaaGreat
end
section
namespace Go.Proofs.YtohbmmpkcibnpaaGreat
open Go Go.Sx
set_option maxRecDepth 20000
set_option maxHeartbeats 4000000
open Go.Proofs Go.Shelf Go.RowKit Go.Lib
def ycv : Ren := ⟨fun _ => 166, fun t => bif Nat.beq t 3 then 3 else bif Nat.beq t 4 then 4 else bif Nat.beq t 22 then 64 else bif Nat.beq t 23 then 2 else 0, fun x => x⟩
theorem qav : SlLaysN.n43 Tryz.prog ycv where
 mixed := by kernel_rfl
 f43 := ⟨ "slices.Compact[[]int64,int64]", by decide, by kernel_rfl⟩
 t0 := Tryz.underlying0
 a0 := Tryz.isAgg0
 z0 := Tryz.sizeOf0
 v0 := Tryz.zeroValue0
 t3 := Tryz.underlying3
 a3 := Tryz.isAgg3
 z3 := Tryz.sizeOf3
 v3 := Tryz.zeroValue3
 t4 := Tryz.underlying4
 a4 := Tryz.isAgg4
 z4 := Tryz.sizeOf4
 v4 := Tryz.zeroValue4
 t22 := Tryz.underlying64
 a22 := Tryz.isAgg64
 z22 := Tryz.sizeOf64
 v22 := Tryz.zeroValue64
 t23 := Tryz.underlying2
 a23 := Tryz.isAgg2
 z23 := Tryz.sizeOf2
 v23 := Tryz.zeroValue2
 i23 := by kernel_rfl
theorem z62 (N : Nat → Prop) (S : Nat → Prop) (us : List Int) (w : World) (v0 : Value) (hu : us.length ≤ 1048576) (hS : ∀ x, S x → x < w.heap.size) (h0 : y0d w (CN w N true) S 1 (ints us) v0) :
 Calls Tryz.prog 166 #[v0] w fun e w' => ∃ (v' : Value) (R : Nat → Prop), e = .returned v' ∧ zt w w' S ∧ y0d w' (Go.Sx.Own w') R 1 (ints (compact us)) v' ∧ ∀ x, R x → S x ∧ x < w'.heap.size := by
 rcases z3r h0 with ⟨rfl, A, rfl⟩ | ⟨e, ho, hSo⟩
 · refine (AnyG.slices_Compact_int_empty qav A 0 w).mono ?_
   rintro e w' ⟨rfl, rfl⟩
   exact ⟨_, fun _ => False, rfl, zt.refl _ _, .inl ⟨rfl, A, rfl⟩, fun x hx => hx.elim⟩
 · by_cases hn : v0 = .slice none 0 0
   · have hl : us.length = 0 := by
      rcases ho.2 with ⟨_, h⟩ | ⟨g, cap, cur, h, _⟩
      · exact h
      · rw [hn] at h; cases h
     have : us = [] := List.eq_nil_of_length_eq_zero hl
     subst this
     subst hn
     refine (AnyG.slices_Compact_int_empty qav none 0 w).mono ?_
     rintro e w' ⟨rfl, rfl⟩
     exact ⟨_, fun _ => False, rfl, zt.refl _ _, .inl ⟨rfl, none, rfl⟩, fun x hx => hx.elim⟩
   · obtain ⟨g, cap, rfl, hb, hg, hc1, hc2, hzl, hH⟩ := holds_of_ownsRow ho hn
     refine (AnyG.slices_Compact_int qav g 0 cap us w hH (by omega) hc1).mono ?_
     rintro e' w' ⟨rfl, q, rfl⟩
     have hcl := y78 us
     have hgS := hSo g rfl
     have hp := ownsRow_putRow (q := q) (k := (compact us).length) (ys := compact us ++ List.replicate (us.length - (compact us).length) 0) ho (by simp; omega) hcl
     rw [List.take_left' rfl] at hp
     refine ⟨_, fun x => x = g, rfl, ⟨rfl, rfl, rfl, by simp [Sort.putRow, Sort.mapBlock, Sort.ahead], fun k hk hnk => ?_⟩, q51 hp (fun g' h => by cases h; rfl), fun x hx => ?_⟩
     · simp [Sort.putRow, Sort.mapBlock, Sort.ahead, Array.getElem?_modify, show g ≠ k from fun h => hnk (h ▸ hgS)]
     · cases hx
       exact ⟨hgS, by simpa [Sort.putRow, Sort.mapBlock, Sort.ahead] using hg⟩
theorem q78 (us : List Int) (hu : us.length ≤ 1048576) : PG Tryz.prog 166 [.one (.giv true 1 (ints us))] (.one (.own false [.l 1 (ints (compact us))])) [] := by
 refine ⟨by kernel_rfl, fun N S w vals hS hSd hsh hc => ?_⟩
 obtain ⟨v0, rfl⟩ : ∃ v0, vals = #[v0] := by
  match vals, hsh with
  | ⟨[v0]⟩, _ => exact ⟨v0, rfl⟩
 obtain ⟨sz, hz, h0⟩ := hc 0 _ v0 rfl rfl
 obtain rfl := hz (by decide)
 refine (z62 N (S 0) us w v0 hu (fun x hx => (hS 0 x hx).1) h0).mono ?_
 rintro e w' ⟨v', R, rfl, hk, hsl, hv⟩
 refine ⟨v', R, fun _ _ => False, rfl, hk.mono fun _ _ h => ⟨0, h⟩, ⟨#[v'], fun k x => k = 0 ∧ R x, rfl, rfl, fun k x hx => hx.2, fun k k' x hx hx' => by rw [hx.1, hx'.1], fun k c u hc hu => ?_⟩, fun x hx => ⟨.inr ⟨0, (hv x hx).1⟩, (hv x hx).2, fun _ h => h⟩, fun _ _ h => h.elim, fun _ _ _ h => h.elim, fun t rows' hb => by cases hb⟩
 cases k with
 | succ k => simp at hc
 | zero =>
   cases hc
   cases hu
   exact ⟨1, fun _ => rfl, y0d.imp hsl (fun _ h => ⟨rfl, h⟩) (fun _ _ _ => rfl) (fun _ _ _ _ h => h)⟩
end Go.Proofs.YtohbmmpkcibnpaaGreat
end
section
namespace Go.Proofs.YtohbmmpkcibnpaaGreat
open Go Go.Sx
set_option maxRecDepth 20000
set_option maxHeartbeats 4000000
theorem q9f (c : Clu) (ho : zy c) (hc : yj c = 0) : PC Tryz.prog 287 [.one (.p c.cs)] (.one (.own false [.l 1 (ints (y3x c))])) := by
 refine PC.begin Tryz.func287 rfl (by kernel_rfl) ?_
 have hl := ho.2.1.1
 refine xs rfl trivial ?_
 refine qb rfl (ι := Nat) (fun i => i ≤ c.shs.length) (fun i => ⟨[(12, sV (.int .i64 i)), (11, sV (.int .i64 (c.shs.map Shd.cs).length)), (10, .one (.b (.l (c.shs.map Shd.cs)))), (3, .one (.h 6 (ints (q3w c i)).length)), (0, .one (.b (.p c.cs)))], [(6, .arr true 1 0 (ints (q3w c i)))]⟩) (fun i => c.shs.length - i) 0 (Nat.zero_le _) ?_ ?_
 · exact ⟨⟨rfl, rfl, rfl, ⟨rfl, rfl, rfl⟩, rfl, trivial⟩, ⟨⟨rfl, .inl rfl, .inl rfl⟩, trivial⟩, rfl⟩
 · intro i hi J hJ
   refine xb rfl ?_ ?_ <;> intro h
   · have h : i < c.shs.length := by simpa using h
     obtain ⟨s, hx⟩ := gx h
     have hg := gm Shd.cs hx
     have hf := y3b hx
     have h1 := z3b hc i hi
     have h2 := (q29 hc).2.2.1
     have h3 := (y3q (z2m hc hx).1).2.2.2.2
     have hsc : yu (ints s.app) := fun row hr => by
      simp [ints] at hr
      obtain ⟨x, _, rfl⟩ := hr
      intro c hc
      exact ⟨_, by simpa using hc⟩
     refine xs rfl (by simp) (y9 rfl _ hg (xs rfl rfl (xs rfl rfl (xs rfl (by simp) (xs rfl (fun _ => hsc) (xs rfl (by simp; omega) (xs rfl (by simp; omega) ?_)))))))
     exact q9 rfl (hJ _ (i + 1) (by omega) (by omega) ⟨⟨cwi (by omega) (by omega) (by omega), rfl, rfl, ⟨rfl, by rw [hf]; simp, rfl⟩, rfl, trivial⟩, ⟨⟨by rw [hf]; simp, .inl rfl, .inl rfl⟩, trivial⟩, rfl⟩)
   · have h : i = c.shs.length := by have : ¬ i < c.shs.length := (by simpa using h); omega
     subst h
     have h1 := z3b hc _ (Nat.le_refl _)
     have h2 := (q29 hc).2.2.1
     have hs := y70 (q3w c c.shs.length) (by omega)
     have hms : (y0o (q3w c c.shs.length)).length = (q3w c c.shs.length).length := (List.mergeSort_perm _ _).length_eq
     have hq := q78 (y0o (q3w c c.shs.length)) (by omega)
     rw [y8q] at hq
     refine y08 rfl (hs) ⟨⟨rfl, rfl, rfl, rfl⟩, trivial⟩ rfl (y08 rfl (hq) ⟨⟨rfl, rfl, rfl, (by first | omega | (simp only [ai_len]; omega) | simp_all)⟩, trivial⟩ rfl ?_)
     refine xr rfl (ym rfl ⟨⟨rfl, ⟨rfl, rfl, .inl rfl⟩, trivial⟩, z6 rfl⟩)
theorem q9t (c : Clu) (ho : zy c) (hc : yj c = 0) : PC Tryz.prog 280 [.one (.p c.cs)] (.one (.bor false [.l (ints (y3x c))])) := by
 refine PC.begin Tryz.func280 rfl (by kernel_rfl) ?_
 have hl := ho.2.1.1
 have hsh := (q29 hc).2.2.1
 refine xs rfl trivial ?_
 refine qb rfl (ι := Nat) (fun i => i ≤ c.shs.length) (fun i => ⟨[(4, sV (.int .i64 i)), (3, .one (.b (.l (ints (q6e (q3w c i)))))), (0, .one (.b (.p c.cs)))], []⟩) (fun i => c.shs.length - i) 0 (Nat.zero_le _) ?_ ?_
 · exact ⟨⟨rfl, ⟨rfl, rfl, rfl⟩, rfl, trivial⟩, trivial, rfl⟩
 · intro i hi J hJ
   refine xb rfl ?_ ?_ <;> intro h
   · have h : i < c.shs.length := by simpa using h
     obtain ⟨s, hx⟩ := gx h
     have hg := gm Shd.cs hx
     have hf := y3b hx
     have h1 := z3b hc i hi
     have h3 := (y3q (z2m hc hx).1).2.2.2.2
     refine qb rfl (ι := Nat) (fun k => k ≤ s.app.length) (fun k => ⟨[(5, sV (.int .i64 k)), (4, sV (.int .i64 i)), (3, .one (.b (.l (ints (q6e (q3w c i ++ s.app.take k)))))), (0, .one (.b (.p c.cs)))], []⟩) (fun k => s.app.length - k) 0 (Nat.zero_le _) ?_ ?_
     · exact ⟨⟨rfl, rfl, by rw [List.take_zero, List.append_nil]; rfl, rfl, trivial⟩, trivial, rfl⟩
     · intro k hk Jk hJk
       refine xs rfl (nn_ _) (y9 rfl _ hg (xs rfl rfl ?_))
       refine xb rfl ?_ ?_ <;> intro hh
       · have hh : k < s.app.length := by simpa using hh
         obtain ⟨v, hv⟩ := gx hh
         have hgv := gm (fun n => [i64 n]) hv
         have hst : q6e (q3w c i ++ s.app.take (k + 1)) = q37 (q6e (q3w c i ++ s.app.take k)) v := by
          rw [List.take_add_one, hv, ← List.append_assoc]; exact q8q _ _
         have hlen := y6y (q3w c i ++ s.app.take k)
         have hlen2 : (q3w c i ++ s.app.take k).length ≤ 400 := by
          rw [List.length_append, List.length_take]; omega
         cases hb : (q6e (q3w c i ++ s.app.take k)).contains v with
         | true =>
           have hp := z37 _ _ true hb (by omega) (z50 _)
           rw [q50 (z50 _) hb] at hst
           refine xs rfl (nn_ _) (y9 rfl _ hg (xs rfl rfl (xs rfl (nn_ _) (y9 rfl _ hgv (xs rfl rfl (z7 rfl (hp) rfl tv3 ?_))))))
           exact q9 rfl (hJk _ (k + 1) (by omega) (by omega) ⟨⟨cwi (by omega) (by omega) (by omega), rfl, (by rw [hst]; rfl), rfl, trivial⟩, trivial, rfl⟩)
         | false =>
           have hp := z37 _ _ false hb (by omega) (z50 _)
           refine xs rfl (nn_ _) (y9 rfl _ hg (xs rfl rfl (xs rfl (nn_ _) (y9 rfl _ hgv (xs rfl rfl (z7 rfl (hp) rfl tv3 ?_))))))
           exact q9 rfl (hJk _ (k + 1) (by omega) (by omega) ⟨⟨cwi (by omega) (by omega) (by omega), rfl, ⟨rfl, rfl, (by rw [hst])⟩, rfl, trivial⟩, trivial, rfl⟩)
       · have hh : k = s.app.length := by have : ¬ k < s.app.length := (by simpa using hh); omega
         subst hh
         rw [List.take_length, ← hf]
         skip
         exact q9 rfl (hJ _ (i + 1) (by omega) (by omega) ⟨⟨cwi (by omega) (by omega) (by omega), rfl, rfl, trivial⟩, trivial, rfl⟩)
   · have h : i = c.shs.length := by have : ¬ i < c.shs.length := (by simpa using h); omega
     subst h
     refine xr rfl (ym rfl ⟨⟨rfl, rfl, trivial⟩, z6 rfl⟩)
theorem q61 (us : List Bal) (hl : us.length ≤ 1048576) : PC Tryz.prog 294 [.one (.l (us.map Bal.cs))] (.one (.own false [.l 3 (us.map Bal.cs)])) := by
 refine PC.begin Tryz.func294 rfl (by kernel_rfl) ?_
 have hsc : yu (us.map Bal.cs) := fun row hr => by
  obtain ⟨x, _, rfl⟩ := List.mem_map.1 hr
  intro c hc
  simp only [Bal.cs, List.mem_cons, List.not_mem_nil, or_false] at hc
  rcases hc with rfl | rfl | rfl <;> exact ⟨_, rfl⟩
 refine yco rfl (fun b0 b0' => ?_)
 refine xb rfl ?_ ?_ <;> intro b1
 refine xr rfl (ym rfl ⟨⟨rfl, ?_, trivial⟩, z6 rfl⟩); rotate_left
 refine xs rfl trivial (xs rfl rfl (xs rfl (by simp) (xs rfl (fun _ => hsc) (xs rfl (by simp; omega) (xs rfl (by simp; omega) ?_)))))
 refine xr rfl (ym rfl ⟨⟨rfl, ⟨?_, rfl, .inl rfl⟩, trivial⟩, z6 rfl⟩); rotate_left
 · exact b0' b1
 · simp
theorem y45 (l : List (List Bal)) (hl : l.length ≤ 1048576) (hb : ∀ us ∈ l, us.length ≤ 1048576) : PC Tryz.prog 192 [.agg [.l (ya l)]] (.one (.own true [.l 1 (ya l)])) := by
 refine PC.begin Tryz.func192 rfl (by kernel_rfl) ?_
 refine qb rfl (ι := Nat) (fun i => i ≤ l.length) (fun i => ⟨[(10, sV (.int .i64 i)), (9, sV (.int .i64 (ya l).length)), (8, .one (.b (.l (ya l)))), (3, .one (.a 3 0)), (2, .one (.a 2 0)), (1, .one (.a 1 0))], [(3, .var [.h 19 (ya (l.take i)).length]), (19, .arr true 1 0 (ya (l.take i))), (2, .var [.nil]), (1, .var [.b (.l (ya l))])]⟩) (fun i => l.length - i) 0 (Nat.zero_le _) ?_ ?_
 · exact ⟨⟨rfl, rfl, rfl, ⟨rfl, rfl, rfl⟩, ⟨rfl, rfl, rfl⟩, ⟨rfl, rfl, rfl⟩, trivial⟩, ⟨⟨⟨rfl, rfl, rfl⟩, trivial⟩, rfl, ⟨trivial, trivial⟩, ⟨rfl, trivial⟩, trivial⟩, rfl⟩
 · intro i hi J hJ
   refine xb rfl ?_ ?_ <;> intro h
   · have h : i < l.length := by simpa using h
     obtain ⟨us, hx⟩ := gx h
     have hg := gm y0t hx
     have hcl := q61 us (hb us (List.mem_of_getElem? hx))
     refine xs rfl (by simp) (y9 rfl _ hg (xs rfl rfl (yb rfl [] (.take 0 [] (.take 1 (Rg 5 3) (.take 2 [] (.alt 3 (.alt 4 (.alt 5 (.take 6 [] (.alt 7 .done .nil)) .nil) .nil) .nil)))) (by kernel_rfl) (z7 rfl (hcl) rfl ⟨trivial, trivial⟩ (xs rfl ⟨⟨rfl, rfl⟩, trivial⟩ (xs rfl rfl (xs rfl rfl (xs rfl (.inl rfl) (xs rfl (by simp; omega) ?_)))))))))
     refine xs rfl (by simp; omega) ?_
     have hst : ya (l.take (i + 1)) = ya (l.take i) ++ [y0t us] := by
      unfold ya
      rw [List.take_add_one, hx]; simp
     exact q9 rfl (hJ _ (i + 1) (by omega) (by omega) ⟨⟨cwi (by omega) (by omega) (by omega), rfl, rfl, ⟨rfl, rfl, rfl⟩, ⟨rfl, rfl, rfl⟩, ⟨rfl, rfl, rfl⟩, trivial⟩, ⟨⟨⟨rfl, by rw [hst]; exact List.length_append.symm, rfl⟩, trivial⟩, ⟨hst.symm, .inl rfl, .inl rfl⟩, ⟨trivial, trivial⟩, ⟨rfl, trivial⟩, trivial⟩, rfl⟩)
   · have h : i = l.length := by have : ¬ i < l.length := (by simpa using h); omega
     subst h
     rw [List.take_length]
     refine xr rfl (ym rfl ⟨⟨rfl, ⟨rfl, rfl, .inl rfl⟩, trivial⟩, z6 rfl⟩)
theorem z68 (st : List (List Bal)) (x : Con) (ho : q1c st) (hl : st.length ≤ 3) (hc : z3x st x = 0) : PC Tryz.prog 194 [.agg (q7s st), .agg x.cs] (.one (.own true [.l 1 (ya (yb7 st x))])) := by
 refine PC.begin Tryz.func194 rfl (by kernel_rfl) ?_
 have hbl : ∀ us ∈ st, us.length ≤ 1048576 := fun us hu => by have := y17 (ho us hu); omega
 have hcp := y45 st (by omega) hbl
 obtain ⟨hcf, hcs, _⟩ := q80 hc
 obtain ⟨hx8, hxk, _⟩ := z1o hcf
 refine z7 rfl (hcp) rfl ⟨⟨trivial, trivial⟩, trivial⟩ ?_
 refine q72 rfl (ι := Nat) (fun i => i ≤ x.legs.length) (fun i => ⟨[(13, sV (.int .i64 i)), (12, sV (.int .i64 (x.legs.map Leg.cs).length)), (11, .one (.b (.l (x.legs.map Leg.cs)))), (5, .one (.a 5 0)), (4, .one (.a 4 0))], [(5, .var [.h 1000000 (ya ((x.legs.take i).foldl q15 st)).length]), (1000000, .arr true 1 0 (ya ((x.legs.take i).foldl q15 st))), (4, .var [.nil])]⟩) (fun i => x.legs.length - i) 0 (Nat.zero_le _) (.of ?_) ?_
 · exact ⟨⟨rfl, rfl, rfl, ⟨rfl, rfl, rfl⟩, ⟨rfl, rfl, rfl⟩, trivial⟩, ⟨⟨⟨rfl, rfl, rfl⟩, trivial⟩, ⟨rfl, .inl rfl, .inl rfl⟩, ⟨trivial, trivial⟩, trivial⟩, rfl⟩
 · intro i hi J hJ
   refine xb rfl ?_ ?_ <;> intro h
   · have h : i < x.legs.length := by simpa using h
     obtain ⟨l, hx⟩ := gx h
     have hg := gm Leg.cs hx
     have hlm := List.mem_of_getElem? hx
     have hlk := hxk l hlm
     obtain ⟨_, hmid⟩ := q8w ho hc i (by omega)
     obtain ⟨us, hu, hf, hlc⟩ := hmid l hx
     have hnx := y4c (st := st) hx
     rw [q4c hu] at hnx
     generalize (x.legs.take i).foldl q15 st = cur at hu hnx ⊢
     have hgu := gm y0t hu
     have hA := y8c us l hf hlk.2.1 hlk.2.2.2 hlc
     have hq : ∀ r : Option (List Cell), r = some (y0t us) → PC Tryz.prog 298 [.one (match r with | some row => (match row[0]? with | some c => c | none => .l []) | none => .l []), .agg l.cs] (.one (.own false [.l 3 ((y30 us l).map Bal.cs)])) := fun r e => by
      subst e
      exact hA
     refine xs rfl (by omega) (y9 rfl _ hg (xs rfl rfl (yb rfl [] (.take 0 [] (.take 1 [12, 13] (.take 2 [] (.take 3 [12, 13] (.take 4 [] (.take 5 [8, 9, 11, 12, 13] (.take 6 [] (.take 7 [8, 9, 11, 12, 13] (.take 8 [] (.take 9 (Rg 11 3) (.take 10 (Rg 11 3) (.alt 11 (.take 12 [] (.alt 13 .done .nil)) .nil)))))))))))) (by kernel_rfl) (xs rfl rfl (xs rfl (by omega) (y9 rfl _ hgu (xs rfl rfl (xs rfl rfl (y9 rfl _ hgu ?_)))))))))
     refine z7 rfl (hq _ hgu) rfl ⟨⟨rfl, ⟨_, _, hgu, rfl⟩⟩, tv5, trivial⟩ (xs rfl rfl (xs rfl (by omega) (y9 rfl _ hgu (xs rfl rfl (xs rfl rfl (y9 rfl _ hgu (xs rfl (Nat.le_refl 1) (xs rfl ⟨⟨rfl, rfl⟩, trivial⟩ ?_))))))))
     have hls : ya (cur.set l.s.toNat (y30 us l)) = (ya cur).set l.s.toNat (putRow (y0t us) 0 [.l ((y30 us l).map Bal.cs)]) := by
      unfold ya
      rw [List.map_set]
      rfl
     exact q9 rfl (hJ _ (i + 1) (by omega) (by omega) (.of ⟨⟨cwi (by omega) (by omega) (by omega), rfl, rfl, ⟨rfl, rfl, rfl⟩, ⟨rfl, rfl, rfl⟩, trivial⟩, ⟨⟨⟨rfl, by rw [hnx, hls]; simp, rfl⟩, trivial⟩, ⟨by rw [hnx, hls], .inl rfl, .inl rfl⟩, ⟨trivial, trivial⟩, trivial⟩, rfl⟩))
   · have h : i = x.legs.length := by have : ¬ i < x.legs.length := (by simpa using h); omega
     subst h
     rw [List.take_length]
     refine xr rfl (ym rfl ⟨⟨rfl, ⟨rfl, rfl, .inl rfl⟩, trivial⟩, z6 rfl⟩)
abbrev qce (a : Int × List Int × List (List Bal)) : Res := .one (.own true [.s (.int .i64 a.1), .l 1 (ints a.2.1), .l 1 (ya a.2.2)])
theorem yao (st : List (List Bal)) (list : List Con) (hsl : st.length ≤ 1048576) (hsb : ∀ us ∈ st, us.length ≤ 1048576) (hll : list.length ≤ 1048576) (hlx : ∀ x ∈ list, x.legs.length ≤ 1048576) : PC Tryz.prog 107 [.agg (q7s st), .one (.l (list.map Con.cs))] (qce (zq st list)) := by
 refine PC.begin Tryz.func107 rfl (by kernel_rfl) ?_
 have hF := yap st hsl hsb
 have hle : (list.map Con.cs).length = list.length := by simp
 by_cases h1 : zu st = 0
 case neg =>
  rw [show zq st list = (zu st, [], []) by unfold zq; rw [if_pos h1]]
  refine z7 rfl (hF) rfl ⟨⟨trivial, trivial⟩, trivial⟩ ?_
  refine xb rfl ?_ ?_ <;> intro b0
  refine xr rfl (ym rfl ⟨⟨rfl, rfl, rfl, rfl, trivial⟩, z6 rfl⟩)
  exact absurd b0 (by simp; omega)
  all_goals first | (exfalso; simp_all; done) | skip
 obtain ⟨hok, hl1, hl3⟩ := z6a h1
 by_cases h2 : 100 < list.length
 · rw [show zq st list = (2, [], []) by unfold zq; rw [if_neg (by simpa using h1), if_pos h2]]
   refine z7 rfl (hF) rfl ⟨⟨trivial, trivial⟩, trivial⟩ ?_
   refine xb rfl ?_ ?_ <;> intro b0
   exact absurd b0 (by simp; omega)
   refine xb rfl ?_ ?_ <;> intro b1
   refine xr rfl (ym rfl ⟨⟨rfl, rfl, rfl, rfl, trivial⟩, z6 rfl⟩)
   exact absurd b1 (by simp; omega)
   all_goals first | (exfalso; simp_all; done) | (exfalso; simp at b1; omega) | skip
 rw [show zq st list = (0, (q30 st list).2, (q30 st list).1) by unfold zq; rw [if_neg (by simpa using h1), if_neg h2]]
 have hcp := y45 st hsl hsb
 refine z7 rfl (hF) rfl ⟨⟨trivial, trivial⟩, trivial⟩ ?_
 refine xb rfl ?_ ?_ <;> intro b0
 exact absurd b0 (by simp; omega)
 refine xb rfl ?_ ?_ <;> intro b1
 exact absurd b1 (by simp; omega)
 refine z7 rfl (hcp) rfl ⟨⟨trivial, trivial⟩, trivial⟩ ?_
 all_goals first | (exfalso; simp_all; done) | (exfalso; simp at b1; omega) | skip
 refine q72 rfl (ι := Nat) (fun i => i ≤ list.length) (fun i => ⟨[(25, sV (.int .i64 i)), (24, sV (.int .i64 (list.map Con.cs).length)), (23, .one (.b (.l (list.map Con.cs)))), (6, .one (.a 6 0)), (4, .one (.a 4 0))], [(6, .var [.b (i64 0), .h 43 (ints (q30 st (list.take i)).2).length, .h 2200000 (ya (q30 st (list.take i)).1).length]), (43, .arr true 1 0 (ints (q30 st (list.take i)).2)), (2200000, .arr true 1 0 (ya (q30 st (list.take i)).1)), (4, .var [.b (i64 0), .nil, .nil])]⟩) (fun i => list.length - i) 0 (Nat.zero_le _) (.of ?_) ?_
 · exact ⟨⟨rfl, rfl, rfl, ⟨rfl, rfl, rfl⟩, ⟨rfl, rfl, rfl⟩, trivial⟩, ⟨⟨rfl, ⟨rfl, rfl, rfl⟩, ⟨rfl, rfl, rfl⟩, trivial⟩, rfl, ⟨rfl, .inl rfl, .inl rfl⟩, ⟨rfl, trivial, trivial, trivial⟩, trivial⟩, rfl⟩
 · intro i hi J hJ
   refine xb rfl ?_ ?_ <;> intro h
   · have h : i < list.length := by simpa using h
     obtain ⟨x, hx⟩ := gx h
     have hg := gm Con.cs hx
     have hxm := hlx x (List.mem_of_getElem? hx)
     obtain ⟨ho, hcl, hol⟩ := y4j hok hi
     have hst := y3a (st := st) hx
     generalize q30 st (list.take i) = p at ho hcl hol hst ⊢
     obtain ⟨cur, outs⟩ := p
     dsimp only at ho hcl hol ⊢
     have hC := qao cur x ho (by omega) hxm
     by_cases hc : z3x cur x = 0
     · have hS := z68 cur x ho (by omega) hc
       rw [z6i, if_pos hc] at hst
       rw [hc] at hC
       refine xs rfl (by simp) (y9 rfl _ hg (xs rfl rfl (z7 rfl (hC) rfl ⟨⟨rfl, trivial⟩, tv3, trivial⟩ (xj (k := 1) rfl (z7 rfl (hS) rfl ⟨⟨rfl, trivial⟩, tv3, trivial⟩ (xs rfl ⟨trivial, trivial⟩ (xs rfl rfl (xs rfl rfl (xs rfl (.inl rfl) ?_)))))))))
       refine xs rfl (by simp; omega) (xs rfl (by simp; omega) ?_)
       exact q9 rfl (hJ _ (i + 1) (by omega) (by omega) ⟨[(3800000, 2200000)], rfl, ⟨cwi (by omega) (by omega) (by omega), rfl, rfl, ⟨rfl, rfl, rfl⟩, ⟨rfl, rfl, rfl⟩, trivial⟩, ⟨⟨rfl, ⟨rfl, by rw [hst]; simp [ints], rfl⟩, ⟨rfl, by rw [hst], rfl⟩, trivial⟩, ⟨by rw [hst]; simp [ints], .inl rfl, .inl rfl⟩, ⟨by rw [hst], .inl rfl, .inl rfl⟩, ⟨rfl, trivial, trivial, trivial⟩, trivial⟩, rfl⟩)
     · rw [z6i, if_neg hc] at hst
       refine xs rfl (by simp) (y9 rfl _ hg (xs rfl rfl (z7 rfl (hC) rfl ⟨⟨rfl, trivial⟩, tv3, trivial⟩ ?_)))
       refine xb rfl ?_ ?_ <;> intro b0
       exact absurd b0 (by simp; omega)
       refine xs rfl ⟨trivial, trivial⟩ (xs rfl rfl (xs rfl rfl (xs rfl (.inl rfl) (xs rfl (by simp; omega) (xs rfl (by simp; omega) ?_)))))
       exact q9 rfl (hJ _ (i + 1) (by omega) (by omega) (.of ⟨⟨cwi (by omega) (by omega) (by omega), rfl, rfl, ⟨rfl, rfl, rfl⟩, ⟨rfl, rfl, rfl⟩, trivial⟩, ⟨⟨rfl, ⟨rfl, by rw [hst]; simp [ints], rfl⟩, ⟨rfl, by rw [hst], rfl⟩, trivial⟩, ⟨by rw [hst]; simp [ints], .inl rfl, .inl rfl⟩, ⟨by rw [hst], .inl rfl, .inl rfl⟩, ⟨rfl, trivial, trivial, trivial⟩, trivial⟩, rfl⟩))
   · have h : i = list.length := by have : ¬ i < list.length := (by simpa using h); omega
     subst h
     rw [List.take_length]
     refine xr rfl (ym rfl ⟨⟨rfl, rfl, ⟨rfl, rfl, .inl rfl⟩, ⟨rfl, rfl, .inl rfl⟩, trivial⟩, z6 rfl⟩)
theorem z92 (l : List Int) (n : Nat) : ((ints l).take n).drop 0 = ints (l.take n) := by simp [ints, List.map_take]
theorem z7f (c : Clu) (ho : zy c) (hc : yj c = 0) (a b : Int) (ha : ∃ x, q02 c.cons a = some x) (hb : ∃ x, q02 c.cons b = some x) : PC Tryz.prog 290 [.one (.p c.cs), .one (i64 a), .one (i64 b)] (rB (!(q7y c a b))) := by
 refine PC.begin Tryz.func290 rfl (by kernel_rfl) ?_
 obtain ⟨x, hx⟩ := ha
 obtain ⟨y, hy⟩ := hb
 have hxl := (z0s (y0r hc (q1d hx).1).1).2
 have hyl := (z0s (y0r hc (q1d hy).1).1).2
 have hl := ho.2.1.1
 refine z7 rfl (y0b c ho a x hx) rfl tv3 (z7 rfl (y0b c ho b y hy) rfl tv3 ?_)
 refine qb rfl (ι := Nat) (fun i => i ≤ c.shs.length ∧ ∀ j s, j < i → c.shs[j]? = some s → q9b c a b s = false) (fun i => ⟨[(31, sV (.int .i64 i)), (30, sV (.int .i64 (c.shs.map Shd.cs).length)), (29, .one (.b (.l (c.shs.map Shd.cs)))), (9, .one (.a 9 0)), (7, .one (.a 7 0)), (1, sV (.int .i64 a)), (2, sV (.int .i64 b)), (0, .one (.b (.p c.cs)))], [(9, .var (y.cs.map .b)), (7, .var (x.cs.map .b))]⟩) (fun i => c.shs.length - i) 0 ⟨Nat.zero_le _, fun j s hj => by omega⟩ ?_ ?_
 · exact ⟨⟨rfl, rfl, rfl, ⟨rfl, rfl, rfl⟩, ⟨rfl, rfl, rfl⟩, rfl, rfl, rfl, trivial⟩, ⟨⟨rfl, rfl, trivial⟩, ⟨rfl, rfl, trivial⟩, trivial⟩, rfl⟩
 · intro i ⟨hi, h0⟩ J hJ
   refine xb rfl ?_ ?_ <;> intro h
   · have h : i < c.shs.length := by simpa using h
     obtain ⟨s, hs⟩ := gx h
     have hg := gm Shd.cs hs
     have hal := (y3q (z2m hc hs).1).2.2.2.2
     have hI := z8e s.app b _ rfl (by omega)
     have hM := y23 s x y (by omega) (by omega)
     rcases y14 (p := fun v : Int => v == b) (l := s.app) with ⟨k, hk, hkl, _, _⟩ | ⟨hk, _⟩
     · have hH := y8b (s.app.take k) a _ (z92 s.app k) (by rw [List.length_take]; omega)
       have hB : q9b c a b s = (q4x s x y && !((s.app.take k).any fun v => v == a)) := by
        unfold q9b
        rw [z0q hx, z0q hy, hk, decide_eq_true (Int.natCast_nonneg k), Bool.true_and]; rfl
       rw [hk] at hI
       generalize hm : q4x s x y = m at hM hB
       refine xs rfl (nn_ _) (y9 rfl _ hg (xs rfl rfl (z7 rfl (hI) rfl tv3 (xj (k := 4) rfl (z7 rfl (y23 _ _ _ (by omega) (by omega)) rfl ⟨tv7, tv3, tv3, trivial⟩ (xj (k := 1) rfl ?_))))))
       refine xb rfl ?_ ?_ <;> intro b0
       refine xj (k := 3) rfl (xs rfl (.inl rfl) (xs rfl (nn_ _) (xs rfl (nn_ _) (xs rfl (by simp; omega) (xj (k := 2) rfl (z7 rfl (hH) rfl tv3 (xj (k := 2) rfl ?_)))))))
       refine xb rfl ?_ ?_ <;> intro b1
       refine xv rfl rfl rfl ?_; rotate_left
       rotate_left
       refine xj (k := 8) rfl ?_; rotate_left
       all_goals first
        | exact q9 rfl (hJ _ (i + 1) ⟨by omega, qf hs h0 (by rw [hB]; first | (simp_all; done) | (simp_all; omega))⟩ (by omega) ⟨⟨cwi (by omega) (by omega) (by omega), rfl, rfl, ⟨rfl, rfl, rfl⟩, ⟨rfl, rfl, rfl⟩, rfl, rfl, rfl, trivial⟩, ⟨lcr, lcr, trivial⟩, rfl⟩)
        | (refine vb ?_; have : q7y c a b = true := List.any_eq_true.2 ⟨s, List.mem_of_getElem? hs, by rw [hB]; first | (simp_all; done) | (simp_all; omega)⟩; rw [this]; rfl)
        | (exfalso; simp_all; done)
     · have hB : q9b c a b s = false := by
        unfold q9b
        rw [hk]; rfl
       rw [hk] at hI
       refine xs rfl (nn_ _) (y9 rfl _ hg (xs rfl rfl (z7 rfl (hI) rfl tv3 (xj (k := 14) rfl ?_))))
       all_goals exact q9 rfl (hJ _ (i + 1) ⟨by omega, qf hs h0 hB⟩ (by omega) ⟨⟨cwi (by omega) (by omega) (by omega), rfl, rfl, ⟨rfl, rfl, rfl⟩, ⟨rfl, rfl, rfl⟩, rfl, rfl, rfl, trivial⟩, ⟨lcr, lcr, trivial⟩, rfl⟩)
   · have h : i = c.shs.length := by have : ¬ i < c.shs.length := (by simpa using h); omega
     subst h
     refine xv rfl rfl rfl ?_
     refine vb ?_
     have : q7y c a b = false := List.any_eq_false.2 fun s hs => by
      obtain ⟨j, hj⟩ := List.mem_iff_getElem?.1 hs
      simpa using h0 j s (List.getElem?_eq_some_iff.1 hj).1 hj
     rw [this]; rfl
theorem z5r (us : List Int) (v : Int) (hl : us.length ≤ 1048576) : PC Tryz.prog 380 [.one (.l (ints us)), .one (i64 v)] (rI (y0h (fun y => y == v) us)) := by
 refine PC.begin Tryz.func380 rfl (by kernel_rfl) ?_
 refine qb rfl (ι := Nat) (fun i => i ≤ us.length ∧ ∀ j y, j < i → us[j]? = some y → (y == v) = false) (fun i => ⟨[(5, sV (.int .i64 i)), (0, .one (.b (.l (ints us)))), (1, sV (.int .i64 v))], []⟩) (fun i => us.length - i) 0 ⟨Nat.zero_le _, fun j y hj => by omega⟩ ?_ ?_
 · exact ⟨⟨rfl, rfl, rfl, trivial⟩, trivial, rfl⟩
 · intro i ⟨hi, h0⟩ J hJ
   refine xb rfl ?_ ?_ <;> intro h
   · have h : i < us.length := by simpa using h
     obtain ⟨x, hx⟩ := gx h
     have hg := gm (fun n => [i64 n]) hx
     refine xs rfl (nn_ _) (y9 rfl _ hg (xs rfl rfl ?_))
     refine xb rfl ?_ ?_ <;> intro b0
     refine xv rfl rfl rfl ?_; rotate_left
     rotate_left
     · exact vi (z03 hx h0 b0).symm
     · exact q9 rfl (hJ _ (i + 1) ⟨by omega, qf hx h0 b0⟩ (by omega) ⟨⟨cwi (by omega) (by omega) (by omega), rfl, rfl, trivial⟩, trivial, rfl⟩)
   · have h : ¬ i < us.length := by simpa using h
     refine xv rfl rfl rfl ?_
     exact vi (qw (p := fun y => y == v) (qj (by omega) h0)).symm
theorem y8u (c : Clu) (ho : zy c) (hc : yj c = 0) (a b : Int) (hab : a ≠ b) (ha : ∃ x, q02 c.cons a = some x) (hb : ∃ x, q02 c.cons b = some x) : PC Tryz.prog 281 [.one (.p c.cs), .one (i64 b), .one (i64 a)] (rB (q7y c a b)) := by
 refine PC.begin Tryz.func281 rfl (by kernel_rfl) ?_
 obtain ⟨x, hx⟩ := ha
 obtain ⟨y, hy⟩ := hb
 have hxl := (z0s (y0r hc (q1d hx).1).1).2
 have hyl := (z0s (y0r hc (q1d hy).1).1).2
 have hl := ho.2.1.1
 have hF := y0c c a ho.1.1
 have hF2 := y0c c b ho.1.1
 obtain ⟨k, hk0, hk⟩ := q0s hx
 obtain ⟨k2, hk20, hk2⟩ := q0s hy
 rw [hk0] at hF
 rw [hk20] at hF2
 have hgk := gm Con.cs hk
 have hgk2 := gm Con.cs hk2
 refine y5x (n := 0) rfl (ι := Unit) (fun _ => True) (fun _ => ⟨[(1, sV (.int .i64 b)), (2, sV (.int .i64 a)), (0, .one (.b (.p c.cs)))], []⟩) ?_ ?_
 · intro K hK
   exact q9 rfl (hK _ () trivial ⟨⟨rfl, rfl, rfl, trivial⟩, trivial, rfl⟩)
 intro _ _
 refine y5x (n := 0) rfl (ι := Unit) (fun _ => True) (fun _ => ⟨[(7, .one (.a 7 0)), (1, sV (.int .i64 b)), (2, sV (.int .i64 a)), (0, .one (.b (.p c.cs)))], [(7, .var (y.cs.map .b))]⟩) ?_ ?_
 · intro K hK
   refine yb rfl [] (Tk [0, 1, 2] (.take 3 [7, 8, 10] (Tk [4, 5] (.alt 6 (.take 7 [] (.take 8 [10] (.alt 9 (.alt 10 .done .nil) .nil))) (.alt 9 (.alt 6 (.take 7 [] (.take 8 [10] (.alt 10 .done .nil))) .nil) .nil))))) (by kernel_rfl) ?_
   refine y0p rfl ?_ ?_
   refine z7 rfl (hF2) rfl tv3 (xs rfl (nn_ _) (y9 rfl _ hgk2 ?_))
   refine xs rfl rfl ?_; rotate_left
   refine z7 rfl (hF2) rfl tv3 (xs rfl (nn_ _) (y9 rfl _ hgk2 ?_))
   refine xs rfl rfl ?_; rotate_left
   all_goals exact q9 rfl (hK _ () trivial ⟨⟨⟨rfl, rfl, rfl⟩, rfl, rfl, rfl, trivial⟩, ⟨⟨rfl, rfl, trivial⟩, trivial⟩, rfl⟩)
 intro _ _
 refine y5x (n := 0) rfl (ι := Unit) (fun _ => True) (fun _ => ⟨[(8, .one (.a 8 0)), (7, .one (.a 7 0)), (1, sV (.int .i64 b)), (2, sV (.int .i64 a)), (0, .one (.b (.p c.cs)))], [(8, .var (x.cs.map .b)), (7, .var (y.cs.map .b))]⟩) ?_ ?_
 · intro K hK
   refine yb rfl [] (Tk [0, 1, 2] (.take 3 [7, 8, 10] (Tk [4, 5] (.alt 6 (.take 7 [] (.take 8 [10] (.alt 9 (.alt 10 .done .nil) .nil))) (.alt 9 (.alt 6 (.take 7 [] (.take 8 [10] (.alt 10 .done .nil))) .nil) .nil))))) (by kernel_rfl) ?_
   refine y0p rfl ?_ ?_
   refine z7 rfl (hF) rfl tv3 (xs rfl (nn_ _) (y9 rfl _ hgk ?_))
   refine xs rfl rfl ?_; rotate_left
   refine z7 rfl (hF) rfl tv3 (xs rfl (nn_ _) (y9 rfl _ hgk ?_))
   refine xs rfl rfl ?_; rotate_left
   all_goals exact q9 rfl (hK _ () trivial ⟨⟨⟨rfl, rfl, rfl⟩, ⟨rfl, rfl, rfl⟩, rfl, rfl, rfl, trivial⟩, ⟨⟨rfl, rfl, trivial⟩, lcr, trivial⟩, rfl⟩)
 intro _ _
 refine qb rfl (ι := Nat) (fun i => i ≤ c.shs.length ∧ ∀ j s, j < i → c.shs[j]? = some s → q9b c a b s = false) (fun i => ⟨[(9, sV (.int .i64 i)), (8, .one (.a 8 0)), (7, .one (.a 7 0)), (1, sV (.int .i64 b)), (2, sV (.int .i64 a)), (0, .one (.b (.p c.cs)))], [(8, .var (x.cs.map .b)), (7, .var (y.cs.map .b))]⟩) (fun i => c.shs.length - i) 0 ⟨Nat.zero_le _, fun j s hj => by omega⟩ ?_ ?_
 · exact ⟨⟨rfl, ⟨rfl, rfl, rfl⟩, ⟨rfl, rfl, rfl⟩, rfl, rfl, rfl, trivial⟩, ⟨lcr, lcr, trivial⟩, rfl⟩
 · intro i ⟨hi, h0⟩ J hJ
   refine xb rfl ?_ ?_ <;> intro h
   · have h : i < c.shs.length := by simpa using h
     obtain ⟨s, hs⟩ := gx h
     have hg := gm Shd.cs hs
     have hal := (y3q (z2m hc hs).1).2.2.2.2
     have hP := z5r s.app b (by omega)
     have hP2 := z5r s.app a (by omega)
     have hL := q0g x s.idx (by omega)
     have hL2 := q0g y s.idx (by omega)
     have hlx : (qh x s.idx).length ≤ 1048576 := Nat.le_trans (List.length_filter_le _ _) (by omega)
     have hly : (qh y s.idx).length ≤ 1048576 := Nat.le_trans (List.length_filter_le _ _) (by omega)
     have hT := z3p (qh y s.idx) (qh x s.idx) hly hlx
     have hB := qah (c := c) (a := a) (b := b) (s := s) hab
     rw [z0q hx, z0q hy] at hB
     generalize y0h (fun v => v == b) s.app = j at hP hB
     generalize y0h (fun v => v == a) s.app = q at hP2 hB
     refine xs rfl (nn_ _) (y9 rfl _ hg (xs rfl rfl (z7 rfl (hP) rfl tv3 (z7 rfl (hP2) rfl tv3 (yb rfl [] (.take 0 (Rg 3 1 ++ Rg 7 15) (.take 1 [] (.take 2 (Rg 3 1 ++ Rg 7 15) (.take 4 (Rg 7 15) (.take 5 [] (.take 6 (Rg 7 15) (.alt 3 (.alt 7 (.alt 8 (Tk (Rg 9 13) .done) .nil) .nil) .nil))))))) (by kernel_rfl) (z7 rfl (q0g _ _ (by omega)) rfl ⟨tv3, trivial, trivial⟩ (z7 rfl (q0g _ _ (by omega)) rfl ⟨tv3, trivial, trivial⟩ (z7 rfl (z3p _ _ (by assumption) (by assumption)) rfl ⟨rfl, rfl, trivial⟩ ?_))))))))
     refine xb rfl ?_ ?_ <;> intro b0
     refine xj (k := 2) rfl ?_
     refine xb rfl ?_ ?_ <;> intro b1
     refine xj (k := 2) rfl ?_
     refine xb rfl ?_ ?_ <;> intro b2
     refine xj (k := 6) rfl ?_
     refine xv rfl rfl rfl ?_; rotate_left
     refine xj (k := 5) rfl ?_
     refine xb rfl ?_ ?_ <;> intro b3
     refine xv rfl rfl rfl ?_; rotate_left
     rotate_left
     refine xj (k := 5) rfl ?_; rotate_left
     refine xj (k := 8) rfl ?_; rotate_left
     all_goals first
      | exact q9 rfl (hJ _ (i + 1) ⟨by omega, qf hs h0 (by rw [hB]; first | (simp_all; done) | (simp_all; omega))⟩ (by omega) ⟨⟨cwi (by omega) (by omega) (by omega), ⟨rfl, rfl, rfl⟩, ⟨rfl, rfl, rfl⟩, rfl, rfl, rfl, trivial⟩, ⟨lcr, lcr, trivial⟩, rfl⟩)
      | (refine vb ?_; have : q7y c a b = true := List.any_eq_true.2 ⟨s, List.mem_of_getElem? hs, by rw [hB]; first | (simp_all; done) | (simp_all; omega)⟩; rw [this]; done)
      | (exfalso; simp_all; done)
   · have h : i = c.shs.length := by have : ¬ i < c.shs.length := (by simpa using h); omega
     subst h
     refine xv rfl rfl rfl ?_
     refine vb ?_
     exact (List.any_eq_false.2 fun s hs => by
      obtain ⟨j, hj⟩ := List.mem_iff_getElem?.1 hs
      simpa using h0 j s (List.getElem?_eq_some_iff.1 hj).1 hj).symm
end Go.Proofs.YtohbmmpkcibnpaaGreat
end
