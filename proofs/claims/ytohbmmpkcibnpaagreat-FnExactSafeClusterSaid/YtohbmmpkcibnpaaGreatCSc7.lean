/- WHAT IS PROVED: FnExactSafeCluster, for every argument of its parameters' types that can be read as data: the call returns true and its arguments read as before. No condition. -/
import Derived.Test.YtohbmmpkcibnpaaGreatCSc6
import Derived.WalkKit
import Derived.OrdersHeld
import Derived.DeepKeys
import Derived.Maps.RangeWalk
import Derived.Maps.OwnOps
import Derived.WideKeyEntry
import Derived.Deep.Slices
import Derived.ChangeArms
import Derived.WideShapes
import Derived.Sort.AssemblyPlain
import Derived.Lib.SlicesCompact
import Derived.WideKeyPair
import Derived.Test.YtohbmmpkcibnpaaGreatProg
import Derived.Shelf.SortG.Plain
import Derived.Shelf.SortG.SortNone
import Derived.Shelf.SlicesG.CompactI
import Derived.Lib.OwnBridge
import Derived.RangeFuncGives
import Derived.RangeFuncBox
import Derived.RangeFuncLeaves
import Derived.Shelf.Abstract
import Derived.Maps.AppendAt
import Derived.OwnWalkIn
import Derived.TacticsInMore
import Derived.LoopNIn
import Derived.LoopIn
import Derived.Shelf.SlicesG.Delete
import Derived.Shelf.SlicesQ.Reverse
import Derived.Shelf.SlicesE.Kit
import Derived.Shelf.SlSortCmp.NoneTotal
import Derived.Shelf.SlSortCmp.WholeK
import Derived.DeepKeys3
import Derived.Test.YtohbmmpkcibnpaaGreatRows
import Derived.ProofKit
import Derived.OpenShut
import Derived.ShutString
import Derived.ChangeOld
import Derived.Below
import Derived.SizedLaws
set_option linter.unusedVariables false
set_option linter.unusedSimpArgs false
section
namespace Go.Proofs.YtohbmmpkcibnpaaGreat
open Go Go.Sx
set_option maxRecDepth 20000
theorem y88 (rr : List (List Cell)) (b : Int) (hw : WR 9223372036854775807 q0a rr) (p0 : 0 ≤ b) (p1 : b ≤ 1048576) : PC Tryz.prog 113 [.one (.l rr), .one (.s (.int .i64 b))] (rI (szn b (qj q0a rr))) := by
 refine PC.begin Tryz.func113 rfl (by kernel_rfl) ?_
 have hlen := hw.1
 have w1 : IntKind.i64.wrap (b - rr.length) = b - rr.length := wrap_i64 (by omega) (by omega)
 rw [z0p (fun row hr => by obtain ⟨x0, x1, x2, x3, rfl⟩ := z31 hr; rfl) hw]
 refine xb rfl ?_ ?_ <;> intro h
 · simp only [w1, decide_eq_true_eq] at h
   exact xv rfl rfl rfl (by show Value.int _ _ = Value.int _ _; rw [szn, if_pos h])
 · simp only [w1, decide_eq_false_iff_not] at h
   exact xv rfl rfl rfl (by show Value.int .i64 (IntKind.i64.wrap (b - rr.length)) = Value.int _ _; rw [szn, if_neg h, w1])
theorem z4g (x0 : Int) (x1 : List (List Cell)) (b : Int) (h1 : WR 9223372036854775807 q0a x1) (hb0 : 0 ≤ b) (hb1 : b ≤ 1048576) : PC Tryz.prog 36 [.agg [.s (.int .i64 x0), .l x1], .one (.s (.int .i64 b))] (rI (szn b (tot q7 [.s (.int .i64 x0), .l x1]))) := by
 refine PC.begin Tryz.func36 rfl (by kernel_rfl) ?_
 have ht : tot q7 [.s (.int .i64 x0), .l x1] = qj q0a x1 := by simp only [tot, qj] <;> omega
 refine z1 rfl (y88 x1 b h1 hb0 hb1) rfl tv3 ?_
 refine xb rfl (fun h => ?_) (fun e0 => ?_)
 · have h : szn b (qj q0a x1) < 0 := by simpa using h
   exact xv rfl rfl rfl (by show Value.int _ _ = Value.int _ _; congr 1; rw [ht]; unfold szn at *; split at h <;> rw [if_pos] <;> omega)
 have e0 : 0 ≤ szn b (qj q0a x1) := by simpa using e0
 exact xv rfl rfl rfl (by show Value.int _ _ = Value.int _ _; rw [ht])
theorem q1l (rr : List (List Cell)) (b : Int) (hw : WR 9223372036854775807 q7 rr) (p0 : 0 ≤ b) (p1 : b ≤ 1048576) : PC Tryz.prog 47 [.one (.l rr), .one (.s (.int .i64 b))] (rI (szn b (qj q7 rr))) := by
 refine PC.begin Tryz.func47 rfl (by kernel_rfl) ?_
 have hlen := hw.1
 have w1 : IntKind.i64.wrap (b - rr.length) = b - rr.length := wrap_i64 (by omega) (by omega)
 refine xb rfl ?_ ?_ <;> intro h
 · simp only [w1, decide_eq_true_eq] at h
   exact xv rfl rfl rfl (by show Value.int _ _ = Value.int _ _; unfold szn qj; rw [if_pos (by omega)])
 simp only [w1, decide_eq_false_iff_not] at h
 have hs : szn b rr.length = b - rr.length := by unfold szn; rw [if_neg h]
 refine zc rfl (ι := Nat) (fun i => i ≤ rr.length ∧ 0 ≤ szn b (rr.length + z0f (tot q7) (rr.take i))) (fun i => ⟨[(5, sV (.int .i64 i)), (1, sV (.int .i64 (szn b (rr.length + z0f (tot q7) (rr.take i))))), (0, .one (.b (.l rr)))], []⟩) (fun i => rr.length - i) 0 ⟨Nat.zero_le _, by simp only [List.take_zero, z0f, Nat.add_zero, hs]; omega⟩ ?_ ?_
 · refine ⟨⟨rfl, ?_, rfl, trivial⟩, trivial, rfl⟩
   show Cell.s (.int .i64 (IntKind.i64.wrap (b - rr.length))) = Cell.s (.int .i64 (szn b (rr.length + 0)))
   rw [w1, Nat.add_zero, hs]
 · intro i ⟨hi, hb⟩ J hJ
   refine xb rfl ?_ ?_ <;> intro h
   · have h : i < rr.length := by simpa using h
     obtain ⟨row, hg⟩ : ∃ row, rr[i]? = some row := ⟨_, List.getElem?_eq_getElem h⟩
     have hc := y0v (f := tot q7) hg
     have hc2 := q0j (tot q7) rr (i + 1)
     obtain ⟨x0, x1, rfl, h1⟩ := q0f (hw.2 row (List.mem_of_getElem? hg))
     refine xs rfl (nn_ _) (y9 rfl _ hg (xs rfl rfl ?_))
     refine z1 rfl (z4g _ _ _ h1 hb (y0h p1 p0)) rfl ⟨tv3, trivial, trivial⟩ ?_
     refine xb rfl ?_ ?_ <;> intro hn
     · have hn : szn (szn b (rr.length + z0f (tot q7) (rr.take i))) (tot q7 [.s (.int .i64 x0), .l x1]) < 0 := by simpa using hn
       rw [zh hb] at hn
       exact xv rfl rfl rfl (by show Value.int _ _ = Value.int _ _; congr 1; unfold szn qj at *; split at hn <;> rw [if_pos] <;> omega)
     · have hn : ¬ szn (szn b (rr.length + z0f (tot q7) (rr.take i))) (tot q7 [.s (.int .i64 x0), .l x1]) < 0 := by simpa using hn
       have he := zh (n := tot q7 [.s (.int .i64 x0), .l x1]) hb
       rw [he] at hn
       rw [Nat.add_assoc, ← hc] at he hn
       refine q8 rfl (hJ _ (i + 1) ⟨by omega, by omega⟩ (by omega) ?_)
       refine ⟨⟨cwi (by omega) (by omega) (by omega), ?_, rfl, trivial⟩, trivial, rfl⟩
       exact congrArg (fun n => Cell.s (.int .i64 n)) he
   · have h : ¬ i < rr.length := by simpa using h
     have : i = rr.length := by omega
     subst this
     exact xv rfl rfl rfl (by show Value.int _ _ = Value.int _ _; rw [List.take_length]; rfl)
theorem q4f (rr : List (List Cell)) (b : Int) (hw : WR 9223372036854775807 ye rr) (p0 : 0 ≤ b) (p1 : b ≤ 1048576) : PC Tryz.prog 184 [.one (.l rr), .one (.s (.int .i64 b))] (rI (szn b (qj ye rr))) := by
 refine PC.begin Tryz.func184 rfl (by kernel_rfl) ?_
 have hlen := hw.1
 have w1 : IntKind.i64.wrap (b - rr.length) = b - rr.length := wrap_i64 (by omega) (by omega)
 rw [z0p (fun row hr => by obtain ⟨x0, x1, x2, rfl⟩ := z0m hr; rfl) hw]
 refine xb rfl ?_ ?_ <;> intro h
 · simp only [w1, decide_eq_true_eq] at h
   exact xv rfl rfl rfl (by show Value.int _ _ = Value.int _ _; rw [szn, if_pos h])
 · simp only [w1, decide_eq_false_iff_not] at h
   exact xv rfl rfl rfl (by show Value.int .i64 (IntKind.i64.wrap (b - rr.length)) = Value.int _ _; rw [szn, if_neg h, w1])
theorem q3t (rr : List (List Cell)) (b : Int) (hw : WR 9223372036854775807 zj rr) (p0 : 0 ≤ b) (p1 : b ≤ 1048576) : PC Tryz.prog 226 [.one (.l rr), .one (.s (.int .i64 b))] (rI (szn b (qj zj rr))) := by
 refine PC.begin Tryz.func226 rfl (by kernel_rfl) ?_
 have hlen := hw.1
 have w1 : IntKind.i64.wrap (b - rr.length) = b - rr.length := wrap_i64 (by omega) (by omega)
 rw [z0p (fun row hr => by obtain ⟨x0, x1, rfl⟩ := z1x hr; rfl) hw]
 refine xb rfl ?_ ?_ <;> intro h
 · simp only [w1, decide_eq_true_eq] at h
   exact xv rfl rfl rfl (by show Value.int _ _ = Value.int _ _; rw [szn, if_pos h])
 · simp only [w1, decide_eq_false_iff_not] at h
   exact xv rfl rfl rfl (by show Value.int .i64 (IntKind.i64.wrap (b - rr.length)) = Value.int _ _; rw [szn, if_neg h, w1])
theorem z3b (rr : List (List Cell)) (b : Int) (hw : WR 9223372036854775807 (.i .i64 .nil) rr) (p0 : 0 ≤ b) (p1 : b ≤ 1048576) : PC Tryz.prog 169 [.one (.l rr), .one (.s (.int .i64 b))] (rI (szn b (qj (.i .i64 .nil) rr))) := by
 refine PC.begin Tryz.func169 rfl (by kernel_rfl) ?_
 have hlen := hw.1
 have w1 : IntKind.i64.wrap (b - rr.length) = b - rr.length := wrap_i64 (by omega) (by omega)
 rw [z0p (fun row hr => by obtain ⟨x0, _, rfl, hnil⟩ := (hr).qw; obtain rfl := hnil.z00; rfl) hw]
 refine xb rfl ?_ ?_ <;> intro h
 · simp only [w1, decide_eq_true_eq] at h
   exact xv rfl rfl rfl (by show Value.int _ _ = Value.int _ _; rw [szn, if_pos h])
 · simp only [w1, decide_eq_false_iff_not] at h
   exact xv rfl rfl rfl (by show Value.int .i64 (IntKind.i64.wrap (b - rr.length)) = Value.int _ _; rw [szn, if_neg h, w1])
theorem q6y (x0 : Int) (x1 : List (List Cell)) (x2 : List (List Cell)) (x3 : List (List Cell)) (x4 : List (List Cell)) (x5 : List (List Cell)) (b : Int) (h1 : WR 9223372036854775807 ye x1) (h2 : WR 9223372036854775807 zj x2) (h3 : WR 9223372036854775807 q7 x3) (h4 : WR 9223372036854775807 zj x4) (h5 : WR 9223372036854775807 (.i .i64 .nil) x5) (hb0 : 0 ≤ b) (hb1 : b ≤ 1048576) : PC Tryz.prog 128 [.agg [.s (.int .i64 x0), .l x1, .l x2, .l x3, .l x4, .l x5], .one (.s (.int .i64 b))] (rI (szn b (tot zg [.s (.int .i64 x0), .l x1, .l x2, .l x3, .l x4, .l x5]))) := by
 refine PC.begin Tryz.func128 rfl (by kernel_rfl) ?_
 have ht : tot zg [.s (.int .i64 x0), .l x1, .l x2, .l x3, .l x4, .l x5] = qj ye x1 + qj zj x2 + qj q7 x3 + qj zj x4 + qj (.i .i64 .nil) x5 := by simp only [tot, qj] <;> omega
 refine z1 rfl (q4f x1 b h1 hb0 hb1) rfl tv3 ?_
 refine xb rfl (fun h => ?_) (fun e0 => ?_)
 · have h : szn b (qj ye x1) < 0 := by simpa using h
   exact xv rfl rfl rfl (by show Value.int _ _ = Value.int _ _; congr 1; rw [ht]; unfold szn at *; split at h <;> rw [if_pos] <;> omega)
 have e0 : 0 ≤ szn b (qj ye x1) := by simpa using e0
 refine z1 rfl (q3t x2 (szn b (qj ye x1)) h2 e0 (y0h hb1 hb0)) rfl tv3 ?_
 refine xb rfl (fun h => ?_) (fun e1 => ?_)
 · have h : szn (szn b (qj ye x1)) (qj zj x2) < 0 := by simpa using h
   rw [zh e0] at h
   exact xv rfl rfl rfl (by show Value.int _ _ = Value.int _ _; congr 1; rw [ht]; unfold szn at *; split at h <;> rw [if_pos] <;> omega)
 have e1 : 0 ≤ szn b (qj ye x1 + qj zj x2) := by rw [← zh e0]; simpa using e1
 rw [zh e0]
 refine z1 rfl (q1l x3 (szn b (qj ye x1 + qj zj x2)) h3 e1 (y0h hb1 hb0)) rfl tv3 ?_
 refine xb rfl (fun h => ?_) (fun e2 => ?_)
 · have h : szn (szn b (qj ye x1 + qj zj x2)) (qj q7 x3) < 0 := by simpa using h
   rw [zh e1] at h
   exact xv rfl rfl rfl (by show Value.int _ _ = Value.int _ _; congr 1; rw [ht]; unfold szn at *; split at h <;> rw [if_pos] <;> omega)
 have e2 : 0 ≤ szn b (qj ye x1 + qj zj x2 + qj q7 x3) := by rw [← zh e1]; simpa using e2
 rw [zh e1]
 refine z1 rfl (q3t x4 (szn b (qj ye x1 + qj zj x2 + qj q7 x3)) h4 e2 (y0h hb1 hb0)) rfl tv3 ?_
 refine xb rfl (fun h => ?_) (fun e3 => ?_)
 · have h : szn (szn b (qj ye x1 + qj zj x2 + qj q7 x3)) (qj zj x4) < 0 := by simpa using h
   rw [zh e2] at h
   exact xv rfl rfl rfl (by show Value.int _ _ = Value.int _ _; congr 1; rw [ht]; unfold szn at *; split at h <;> rw [if_pos] <;> omega)
 have e3 : 0 ≤ szn b (qj ye x1 + qj zj x2 + qj q7 x3 + qj zj x4) := by rw [← zh e2]; simpa using e3
 rw [zh e2]
 refine z1 rfl (z3b x5 (szn b (qj ye x1 + qj zj x2 + qj q7 x3 + qj zj x4)) h5 e3 (y0h hb1 hb0)) rfl tv3 ?_
 refine xb rfl (fun h => ?_) (fun e4 => ?_)
 · have h : szn (szn b (qj ye x1 + qj zj x2 + qj q7 x3 + qj zj x4)) (qj (.i .i64 .nil) x5) < 0 := by simpa using h
   rw [zh e3] at h
   exact xv rfl rfl rfl (by show Value.int _ _ = Value.int _ _; congr 1; rw [ht]; unfold szn at *; split at h <;> rw [if_pos] <;> omega)
 have e4 : 0 ≤ szn b (qj ye x1 + qj zj x2 + qj q7 x3 + qj zj x4 + qj (.i .i64 .nil) x5) := by rw [← zh e3]; simpa using e4
 rw [zh e3]
 exact xv rfl rfl rfl (by show Value.int _ _ = Value.int _ _; rw [ht])
theorem q5u (rr : List (List Cell)) (b : Int) (hw : WR 9223372036854775807 zg rr) (p0 : 0 ≤ b) (p1 : b ≤ 1048576) : PC Tryz.prog 48 [.one (.l rr), .one (.s (.int .i64 b))] (rI (szn b (qj zg rr))) := by
 refine PC.begin Tryz.func48 rfl (by kernel_rfl) ?_
 have hlen := hw.1
 have w1 : IntKind.i64.wrap (b - rr.length) = b - rr.length := wrap_i64 (by omega) (by omega)
 refine xb rfl ?_ ?_ <;> intro h
 · simp only [w1, decide_eq_true_eq] at h
   exact xv rfl rfl rfl (by show Value.int _ _ = Value.int _ _; unfold szn qj; rw [if_pos (by omega)])
 simp only [w1, decide_eq_false_iff_not] at h
 have hs : szn b rr.length = b - rr.length := by unfold szn; rw [if_neg h]
 refine zc rfl (ι := Nat) (fun i => i ≤ rr.length ∧ 0 ≤ szn b (rr.length + z0f (tot zg) (rr.take i))) (fun i => ⟨[(5, sV (.int .i64 i)), (1, sV (.int .i64 (szn b (rr.length + z0f (tot zg) (rr.take i))))), (0, .one (.b (.l rr)))], []⟩) (fun i => rr.length - i) 0 ⟨Nat.zero_le _, by simp only [List.take_zero, z0f, Nat.add_zero, hs]; omega⟩ ?_ ?_
 · refine ⟨⟨rfl, ?_, rfl, trivial⟩, trivial, rfl⟩
   show Cell.s (.int .i64 (IntKind.i64.wrap (b - rr.length))) = Cell.s (.int .i64 (szn b (rr.length + 0)))
   rw [w1, Nat.add_zero, hs]
 · intro i ⟨hi, hb⟩ J hJ
   refine xb rfl ?_ ?_ <;> intro h
   · have h : i < rr.length := by simpa using h
     obtain ⟨row, hg⟩ : ∃ row, rr[i]? = some row := ⟨_, List.getElem?_eq_getElem h⟩
     have hc := y0v (f := tot zg) hg
     have hc2 := q0j (tot zg) rr (i + 1)
     obtain ⟨x0, x1, x2, x3, x4, x5, rfl, h1, h2, h3, h4, h5⟩ := y16 (hw.2 row (List.mem_of_getElem? hg))
     refine xs rfl (nn_ _) (y9 rfl _ hg (xs rfl rfl ?_))
     refine z1 rfl (q6y _ _ _ _ _ _ _ h1 h2 h3 h4 h5 hb (y0h p1 p0)) rfl ⟨tv7, trivial, trivial⟩ ?_
     refine xb rfl ?_ ?_ <;> intro hn
     · have hn : szn (szn b (rr.length + z0f (tot zg) (rr.take i))) (tot zg [.s (.int .i64 x0), .l x1, .l x2, .l x3, .l x4, .l x5]) < 0 := by simpa using hn
       rw [zh hb] at hn
       exact xv rfl rfl rfl (by show Value.int _ _ = Value.int _ _; congr 1; unfold szn qj at *; split at hn <;> rw [if_pos] <;> omega)
     · have hn : ¬ szn (szn b (rr.length + z0f (tot zg) (rr.take i))) (tot zg [.s (.int .i64 x0), .l x1, .l x2, .l x3, .l x4, .l x5]) < 0 := by simpa using hn
       have he := zh (n := tot zg [.s (.int .i64 x0), .l x1, .l x2, .l x3, .l x4, .l x5]) hb
       rw [he] at hn
       rw [Nat.add_assoc, ← hc] at he hn
       refine q8 rfl (hJ _ (i + 1) ⟨by omega, by omega⟩ (by omega) ?_)
       refine ⟨⟨cwi (by omega) (by omega) (by omega), ?_, rfl, trivial⟩, trivial, rfl⟩
       exact congrArg (fun n => Cell.s (.int .i64 n)) he
   · have h : ¬ i < rr.length := by simpa using h
     have : i = rr.length := by omega
     subst this
     exact xv rfl rfl rfl (by show Value.int _ _ = Value.int _ _; rw [List.take_length]; rfl)
theorem z3u (rr : List (List Cell)) (b : Int) (hw : WR 9223372036854775807 zp rr) (p0 : 0 ≤ b) (p1 : b ≤ 1048576) : PC Tryz.prog 411 [.one (.l rr), .one (.s (.int .i64 b))] (rI (szn b (qj zp rr))) := by
 refine PC.begin Tryz.func411 rfl (by kernel_rfl) ?_
 have hlen := hw.1
 have w1 : IntKind.i64.wrap (b - rr.length) = b - rr.length := wrap_i64 (by omega) (by omega)
 rw [z0p (fun row hr => by obtain ⟨x0, x1, rfl⟩ := q1x hr; rfl) hw]
 refine xb rfl ?_ ?_ <;> intro h
 · simp only [w1, decide_eq_true_eq] at h
   exact xv rfl rfl rfl (by show Value.int _ _ = Value.int _ _; rw [szn, if_pos h])
 · simp only [w1, decide_eq_false_iff_not] at h
   exact xv rfl rfl rfl (by show Value.int .i64 (IntKind.i64.wrap (b - rr.length)) = Value.int _ _; rw [szn, if_neg h, w1])
theorem q88 (x0 : Int) (x1 : Int) (x2 : Int) (x3 : Int) (x4 : Int) (x5 : List (List Cell)) (b : Int) (h5 : WR 9223372036854775807 zp x5) (hb0 : 0 ≤ b) (hb1 : b ≤ 1048576) : PC Tryz.prog 323 [.agg [.s (.int .i64 x0), .s (.int .i64 x1), .s (.int .i64 x2), .s (.int .i64 x3), .s (.int .i64 x4), .l x5], .one (.s (.int .i64 b))] (rI (szn b (tot yo [.s (.int .i64 x0), .s (.int .i64 x1), .s (.int .i64 x2), .s (.int .i64 x3), .s (.int .i64 x4), .l x5]))) := by
 refine PC.begin Tryz.func323 rfl (by kernel_rfl) ?_
 have ht : tot yo [.s (.int .i64 x0), .s (.int .i64 x1), .s (.int .i64 x2), .s (.int .i64 x3), .s (.int .i64 x4), .l x5] = qj zp x5 := by simp only [tot, qj] <;> omega
 refine z1 rfl (z3u x5 b h5 hb0 hb1) rfl tv3 ?_
 refine xb rfl (fun h => ?_) (fun e0 => ?_)
 · have h : szn b (qj zp x5) < 0 := by simpa using h
   exact xv rfl rfl rfl (by show Value.int _ _ = Value.int _ _; congr 1; rw [ht]; unfold szn at *; split at h <;> rw [if_pos] <;> omega)
 have e0 : 0 ≤ szn b (qj zp x5) := by simpa using e0
 exact xv rfl rfl rfl (by show Value.int _ _ = Value.int _ _; rw [ht])
theorem z6z (rr : List (List Cell)) (b : Int) (hw : WR 9223372036854775807 yo rr) (p0 : 0 ≤ b) (p1 : b ≤ 1048576) : PC Tryz.prog 227 [.one (.l rr), .one (.s (.int .i64 b))] (rI (szn b (qj yo rr))) := by
 refine PC.begin Tryz.func227 rfl (by kernel_rfl) ?_
 have hlen := hw.1
 have w1 : IntKind.i64.wrap (b - rr.length) = b - rr.length := wrap_i64 (by omega) (by omega)
 refine xb rfl ?_ ?_ <;> intro h
 · simp only [w1, decide_eq_true_eq] at h
   exact xv rfl rfl rfl (by show Value.int _ _ = Value.int _ _; unfold szn qj; rw [if_pos (by omega)])
 simp only [w1, decide_eq_false_iff_not] at h
 have hs : szn b rr.length = b - rr.length := by unfold szn; rw [if_neg h]
 refine zc rfl (ι := Nat) (fun i => i ≤ rr.length ∧ 0 ≤ szn b (rr.length + z0f (tot yo) (rr.take i))) (fun i => ⟨[(5, sV (.int .i64 i)), (1, sV (.int .i64 (szn b (rr.length + z0f (tot yo) (rr.take i))))), (0, .one (.b (.l rr)))], []⟩) (fun i => rr.length - i) 0 ⟨Nat.zero_le _, by simp only [List.take_zero, z0f, Nat.add_zero, hs]; omega⟩ ?_ ?_
 · refine ⟨⟨rfl, ?_, rfl, trivial⟩, trivial, rfl⟩
   show Cell.s (.int .i64 (IntKind.i64.wrap (b - rr.length))) = Cell.s (.int .i64 (szn b (rr.length + 0)))
   rw [w1, Nat.add_zero, hs]
 · intro i ⟨hi, hb⟩ J hJ
   refine xb rfl ?_ ?_ <;> intro h
   · have h : i < rr.length := by simpa using h
     obtain ⟨row, hg⟩ : ∃ row, rr[i]? = some row := ⟨_, List.getElem?_eq_getElem h⟩
     have hc := y0v (f := tot yo) hg
     have hc2 := q0j (tot yo) rr (i + 1)
     obtain ⟨x0, x1, x2, x3, x4, x5, rfl, h5⟩ := y1x (hw.2 row (List.mem_of_getElem? hg))
     refine xs rfl (nn_ _) (y9 rfl _ hg (xs rfl rfl ?_))
     refine z1 rfl (q88 _ _ _ _ _ _ _ h5 hb (y0h p1 p0)) rfl ⟨tv7, trivial, trivial⟩ ?_
     refine xb rfl ?_ ?_ <;> intro hn
     · have hn : szn (szn b (rr.length + z0f (tot yo) (rr.take i))) (tot yo [.s (.int .i64 x0), .s (.int .i64 x1), .s (.int .i64 x2), .s (.int .i64 x3), .s (.int .i64 x4), .l x5]) < 0 := by simpa using hn
       rw [zh hb] at hn
       exact xv rfl rfl rfl (by show Value.int _ _ = Value.int _ _; congr 1; unfold szn qj at *; split at hn <;> rw [if_pos] <;> omega)
     · have hn : ¬ szn (szn b (rr.length + z0f (tot yo) (rr.take i))) (tot yo [.s (.int .i64 x0), .s (.int .i64 x1), .s (.int .i64 x2), .s (.int .i64 x3), .s (.int .i64 x4), .l x5]) < 0 := by simpa using hn
       have he := zh (n := tot yo [.s (.int .i64 x0), .s (.int .i64 x1), .s (.int .i64 x2), .s (.int .i64 x3), .s (.int .i64 x4), .l x5]) hb
       rw [he] at hn
       rw [Nat.add_assoc, ← hc] at he hn
       refine q8 rfl (hJ _ (i + 1) ⟨by omega, by omega⟩ (by omega) ?_)
       refine ⟨⟨cwi (by omega) (by omega) (by omega), ?_, rfl, trivial⟩, trivial, rfl⟩
       exact congrArg (fun n => Cell.s (.int .i64 n)) he
   · have h : ¬ i < rr.length := by simpa using h
     have : i = rr.length := by omega
     subst this
     exact xv rfl rfl rfl (by show Value.int _ _ = Value.int _ _; rw [List.take_length]; rfl)
theorem y4f (x0 : List (List Cell)) (b : Int) (h0 : WR 9223372036854775807 yo x0) (hb0 : 0 ≤ b) (hb1 : b ≤ 1048576) : PC Tryz.prog 129 [.agg [.l x0], .one (.s (.int .i64 b))] (rI (szn b (tot zb [.l x0]))) := by
 refine PC.begin Tryz.func129 rfl (by kernel_rfl) ?_
 have ht : tot zb [.l x0] = qj yo x0 := by simp only [tot, qj] <;> omega
 refine z1 rfl (z6z x0 b h0 hb0 hb1) rfl tv3 ?_
 refine xb rfl (fun h => ?_) (fun e0 => ?_)
 · have h : szn b (qj yo x0) < 0 := by simpa using h
   exact xv rfl rfl rfl (by show Value.int _ _ = Value.int _ _; congr 1; rw [ht]; unfold szn at *; split at h <;> rw [if_pos] <;> omega)
 have e0 : 0 ≤ szn b (qj yo x0) := by simpa using e0
 exact xv rfl rfl rfl (by show Value.int _ _ = Value.int _ _; rw [ht])
theorem q3k (rr : List (List Cell)) (b : Int) (hw : WR 9223372036854775807 zb rr) (p0 : 0 ≤ b) (p1 : b ≤ 1048576) : PC Tryz.prog 49 [.one (.l rr), .one (.s (.int .i64 b))] (rI (szn b (qj zb rr))) := by
 refine PC.begin Tryz.func49 rfl (by kernel_rfl) ?_
 have hlen := hw.1
 have w1 : IntKind.i64.wrap (b - rr.length) = b - rr.length := wrap_i64 (by omega) (by omega)
 refine xb rfl ?_ ?_ <;> intro h
 · simp only [w1, decide_eq_true_eq] at h
   exact xv rfl rfl rfl (by show Value.int _ _ = Value.int _ _; unfold szn qj; rw [if_pos (by omega)])
 simp only [w1, decide_eq_false_iff_not] at h
 have hs : szn b rr.length = b - rr.length := by unfold szn; rw [if_neg h]
 refine zc rfl (ι := Nat) (fun i => i ≤ rr.length ∧ 0 ≤ szn b (rr.length + z0f (tot zb) (rr.take i))) (fun i => ⟨[(5, sV (.int .i64 i)), (1, sV (.int .i64 (szn b (rr.length + z0f (tot zb) (rr.take i))))), (0, .one (.b (.l rr)))], []⟩) (fun i => rr.length - i) 0 ⟨Nat.zero_le _, by simp only [List.take_zero, z0f, Nat.add_zero, hs]; omega⟩ ?_ ?_
 · refine ⟨⟨rfl, ?_, rfl, trivial⟩, trivial, rfl⟩
   show Cell.s (.int .i64 (IntKind.i64.wrap (b - rr.length))) = Cell.s (.int .i64 (szn b (rr.length + 0)))
   rw [w1, Nat.add_zero, hs]
 · intro i ⟨hi, hb⟩ J hJ
   refine xb rfl ?_ ?_ <;> intro h
   · have h : i < rr.length := by simpa using h
     obtain ⟨row, hg⟩ : ∃ row, rr[i]? = some row := ⟨_, List.getElem?_eq_getElem h⟩
     have hc := y0v (f := tot zb) hg
     have hc2 := q0j (tot zb) rr (i + 1)
     obtain ⟨x0, rfl, h0⟩ := y0f (hw.2 row (List.mem_of_getElem? hg))
     refine xs rfl (nn_ _) (y9 rfl _ hg (xs rfl rfl ?_))
     refine z1 rfl (y4f _ _ h0 hb (y0h p1 p0)) rfl ⟨⟨trivial, trivial⟩, trivial, trivial⟩ ?_
     refine xb rfl ?_ ?_ <;> intro hn
     · have hn : szn (szn b (rr.length + z0f (tot zb) (rr.take i))) (tot zb [.l x0]) < 0 := by simpa using hn
       rw [zh hb] at hn
       exact xv rfl rfl rfl (by show Value.int _ _ = Value.int _ _; congr 1; unfold szn qj at *; split at hn <;> rw [if_pos] <;> omega)
     · have hn : ¬ szn (szn b (rr.length + z0f (tot zb) (rr.take i))) (tot zb [.l x0]) < 0 := by simpa using hn
       have he := zh (n := tot zb [.l x0]) hb
       rw [he] at hn
       rw [Nat.add_assoc, ← hc] at he hn
       refine q8 rfl (hJ _ (i + 1) ⟨by omega, by omega⟩ (by omega) ?_)
       refine ⟨⟨cwi (by omega) (by omega) (by omega), ?_, rfl, trivial⟩, trivial, rfl⟩
       exact congrArg (fun n => Cell.s (.int .i64 n)) he
   · have h : ¬ i < rr.length := by simpa using h
     have : i = rr.length := by omega
     subst this
     exact xv rfl rfl rfl (by show Value.int _ _ = Value.int _ _; rw [List.take_length]; rfl)
theorem q98 (x0 : Int) (x1 : Int) (x2 : Int) (x3 : Int) (x4 : List (List Cell)) (x5 : List (List Cell)) (b : Int) (h4 : WR 9223372036854775807 (.i .i64 .nil) x4) (h5 : WR 9223372036854775807 zp x5) (hb0 : 0 ≤ b) (hb1 : b ≤ 1048576) : PC Tryz.prog 324 [.agg [.s (.int .i64 x0), .s (.int .i64 x1), .s (.int .i64 x2), .s (.int .i64 x3), .l x4, .l x5], .one (.s (.int .i64 b))] (rI (szn b (tot zr [.s (.int .i64 x0), .s (.int .i64 x1), .s (.int .i64 x2), .s (.int .i64 x3), .l x4, .l x5]))) := by
 refine PC.begin Tryz.func324 rfl (by kernel_rfl) ?_
 have ht : tot zr [.s (.int .i64 x0), .s (.int .i64 x1), .s (.int .i64 x2), .s (.int .i64 x3), .l x4, .l x5] = qj (.i .i64 .nil) x4 + qj zp x5 := by simp only [tot, qj] <;> omega
 refine z1 rfl (z3b x4 b h4 hb0 hb1) rfl tv3 ?_
 refine xb rfl (fun h => ?_) (fun e0 => ?_)
 · have h : szn b (qj (.i .i64 .nil) x4) < 0 := by simpa using h
   exact xv rfl rfl rfl (by show Value.int _ _ = Value.int _ _; congr 1; rw [ht]; unfold szn at *; split at h <;> rw [if_pos] <;> omega)
 have e0 : 0 ≤ szn b (qj (.i .i64 .nil) x4) := by simpa using e0
 refine z1 rfl (z3u x5 (szn b (qj (.i .i64 .nil) x4)) h5 e0 (y0h hb1 hb0)) rfl tv3 ?_
 refine xb rfl (fun h => ?_) (fun e1 => ?_)
 · have h : szn (szn b (qj (.i .i64 .nil) x4)) (qj zp x5) < 0 := by simpa using h
   rw [zh e0] at h
   exact xv rfl rfl rfl (by show Value.int _ _ = Value.int _ _; congr 1; rw [ht]; unfold szn at *; split at h <;> rw [if_pos] <;> omega)
 have e1 : 0 ≤ szn b (qj (.i .i64 .nil) x4 + qj zp x5) := by rw [← zh e0]; simpa using e1
 rw [zh e0]
 exact xv rfl rfl rfl (by show Value.int _ _ = Value.int _ _; rw [ht])
theorem z89 (rr : List (List Cell)) (b : Int) (hw : WR 9223372036854775807 zr rr) (p0 : 0 ≤ b) (p1 : b ≤ 1048576) : PC Tryz.prog 228 [.one (.l rr), .one (.s (.int .i64 b))] (rI (szn b (qj zr rr))) := by
 refine PC.begin Tryz.func228 rfl (by kernel_rfl) ?_
 have hlen := hw.1
 have w1 : IntKind.i64.wrap (b - rr.length) = b - rr.length := wrap_i64 (by omega) (by omega)
 refine xb rfl ?_ ?_ <;> intro h
 · simp only [w1, decide_eq_true_eq] at h
   exact xv rfl rfl rfl (by show Value.int _ _ = Value.int _ _; unfold szn qj; rw [if_pos (by omega)])
 simp only [w1, decide_eq_false_iff_not] at h
 have hs : szn b rr.length = b - rr.length := by unfold szn; rw [if_neg h]
 refine zc rfl (ι := Nat) (fun i => i ≤ rr.length ∧ 0 ≤ szn b (rr.length + z0f (tot zr) (rr.take i))) (fun i => ⟨[(5, sV (.int .i64 i)), (1, sV (.int .i64 (szn b (rr.length + z0f (tot zr) (rr.take i))))), (0, .one (.b (.l rr)))], []⟩) (fun i => rr.length - i) 0 ⟨Nat.zero_le _, by simp only [List.take_zero, z0f, Nat.add_zero, hs]; omega⟩ ?_ ?_
 · refine ⟨⟨rfl, ?_, rfl, trivial⟩, trivial, rfl⟩
   show Cell.s (.int .i64 (IntKind.i64.wrap (b - rr.length))) = Cell.s (.int .i64 (szn b (rr.length + 0)))
   rw [w1, Nat.add_zero, hs]
 · intro i ⟨hi, hb⟩ J hJ
   refine xb rfl ?_ ?_ <;> intro h
   · have h : i < rr.length := by simpa using h
     obtain ⟨row, hg⟩ : ∃ row, rr[i]? = some row := ⟨_, List.getElem?_eq_getElem h⟩
     have hc := y0v (f := tot zr) hg
     have hc2 := q0j (tot zr) rr (i + 1)
     obtain ⟨x0, x1, x2, x3, x4, x5, rfl, h4, h5⟩ := y31 (hw.2 row (List.mem_of_getElem? hg))
     refine xs rfl (nn_ _) (y9 rfl _ hg (xs rfl rfl ?_))
     refine z1 rfl (q98 _ _ _ _ _ _ _ h4 h5 hb (y0h p1 p0)) rfl ⟨tv7, trivial, trivial⟩ ?_
     refine xb rfl ?_ ?_ <;> intro hn
     · have hn : szn (szn b (rr.length + z0f (tot zr) (rr.take i))) (tot zr [.s (.int .i64 x0), .s (.int .i64 x1), .s (.int .i64 x2), .s (.int .i64 x3), .l x4, .l x5]) < 0 := by simpa using hn
       rw [zh hb] at hn
       exact xv rfl rfl rfl (by show Value.int _ _ = Value.int _ _; congr 1; unfold szn qj at *; split at hn <;> rw [if_pos] <;> omega)
     · have hn : ¬ szn (szn b (rr.length + z0f (tot zr) (rr.take i))) (tot zr [.s (.int .i64 x0), .s (.int .i64 x1), .s (.int .i64 x2), .s (.int .i64 x3), .l x4, .l x5]) < 0 := by simpa using hn
       have he := zh (n := tot zr [.s (.int .i64 x0), .s (.int .i64 x1), .s (.int .i64 x2), .s (.int .i64 x3), .l x4, .l x5]) hb
       rw [he] at hn
       rw [Nat.add_assoc, ← hc] at he hn
       refine q8 rfl (hJ _ (i + 1) ⟨by omega, by omega⟩ (by omega) ?_)
       refine ⟨⟨cwi (by omega) (by omega) (by omega), ?_, rfl, trivial⟩, trivial, rfl⟩
       exact congrArg (fun n => Cell.s (.int .i64 n)) he
   · have h : ¬ i < rr.length := by simpa using h
     have : i = rr.length := by omega
     subst this
     exact xv rfl rfl rfl (by show Value.int _ _ = Value.int _ _; rw [List.take_length]; rfl)
theorem z5u (rr : List (List Cell)) (b : Int) (hw : WR 9223372036854775807 zu rr) (p0 : 0 ≤ b) (p1 : b ≤ 1048576) : PC Tryz.prog 229 [.one (.l rr), .one (.s (.int .i64 b))] (rI (szn b (qj zu rr))) := by
 refine PC.begin Tryz.func229 rfl (by kernel_rfl) ?_
 have hlen := hw.1
 have w1 : IntKind.i64.wrap (b - rr.length) = b - rr.length := wrap_i64 (by omega) (by omega)
 rw [z0p (fun row hr => by obtain ⟨x0, x1, x2, x3, x4, rfl⟩ := z16 hr; rfl) hw]
 refine xb rfl ?_ ?_ <;> intro h
 · simp only [w1, decide_eq_true_eq] at h
   exact xv rfl rfl rfl (by show Value.int _ _ = Value.int _ _; rw [szn, if_pos h])
 · simp only [w1, decide_eq_false_iff_not] at h
   exact xv rfl rfl rfl (by show Value.int .i64 (IntKind.i64.wrap (b - rr.length)) = Value.int _ _; rw [szn, if_neg h, w1])
theorem y5u (x0 : Int) (x1 : List (List Cell)) (x2 : List (List Cell)) (b : Int) (h1 : WR 9223372036854775807 zr x1) (h2 : WR 9223372036854775807 zu x2) (hb0 : 0 ≤ b) (hb1 : b ≤ 1048576) : PC Tryz.prog 130 [.agg [.s (.int .i64 x0), .l x1, .l x2], .one (.s (.int .i64 b))] (rI (szn b (tot qf [.s (.int .i64 x0), .l x1, .l x2]))) := by
 refine PC.begin Tryz.func130 rfl (by kernel_rfl) ?_
 have ht : tot qf [.s (.int .i64 x0), .l x1, .l x2] = qj zr x1 + qj zu x2 := by simp only [tot, qj] <;> omega
 refine z1 rfl (z89 x1 b h1 hb0 hb1) rfl tv3 ?_
 refine xb rfl (fun h => ?_) (fun e0 => ?_)
 · have h : szn b (qj zr x1) < 0 := by simpa using h
   exact xv rfl rfl rfl (by show Value.int _ _ = Value.int _ _; congr 1; rw [ht]; unfold szn at *; split at h <;> rw [if_pos] <;> omega)
 have e0 : 0 ≤ szn b (qj zr x1) := by simpa using e0
 refine z1 rfl (z5u x2 (szn b (qj zr x1)) h2 e0 (y0h hb1 hb0)) rfl tv3 ?_
 refine xb rfl (fun h => ?_) (fun e1 => ?_)
 · have h : szn (szn b (qj zr x1)) (qj zu x2) < 0 := by simpa using h
   rw [zh e0] at h
   exact xv rfl rfl rfl (by show Value.int _ _ = Value.int _ _; congr 1; rw [ht]; unfold szn at *; split at h <;> rw [if_pos] <;> omega)
 have e1 : 0 ≤ szn b (qj zr x1 + qj zu x2) := by rw [← zh e0]; simpa using e1
 rw [zh e0]
 exact xv rfl rfl rfl (by show Value.int _ _ = Value.int _ _; rw [ht])
theorem y58 (rr : List (List Cell)) (b : Int) (hw : WR 9223372036854775807 qf rr) (p0 : 0 ≤ b) (p1 : b ≤ 1048576) : PC Tryz.prog 50 [.one (.l rr), .one (.s (.int .i64 b))] (rI (szn b (qj qf rr))) := by
 refine PC.begin Tryz.func50 rfl (by kernel_rfl) ?_
 have hlen := hw.1
 have w1 : IntKind.i64.wrap (b - rr.length) = b - rr.length := wrap_i64 (by omega) (by omega)
 refine xb rfl ?_ ?_ <;> intro h
 · simp only [w1, decide_eq_true_eq] at h
   exact xv rfl rfl rfl (by show Value.int _ _ = Value.int _ _; unfold szn qj; rw [if_pos (by omega)])
 simp only [w1, decide_eq_false_iff_not] at h
 have hs : szn b rr.length = b - rr.length := by unfold szn; rw [if_neg h]
 refine zc rfl (ι := Nat) (fun i => i ≤ rr.length ∧ 0 ≤ szn b (rr.length + z0f (tot qf) (rr.take i))) (fun i => ⟨[(5, sV (.int .i64 i)), (1, sV (.int .i64 (szn b (rr.length + z0f (tot qf) (rr.take i))))), (0, .one (.b (.l rr)))], []⟩) (fun i => rr.length - i) 0 ⟨Nat.zero_le _, by simp only [List.take_zero, z0f, Nat.add_zero, hs]; omega⟩ ?_ ?_
 · refine ⟨⟨rfl, ?_, rfl, trivial⟩, trivial, rfl⟩
   show Cell.s (.int .i64 (IntKind.i64.wrap (b - rr.length))) = Cell.s (.int .i64 (szn b (rr.length + 0)))
   rw [w1, Nat.add_zero, hs]
 · intro i ⟨hi, hb⟩ J hJ
   refine xb rfl ?_ ?_ <;> intro h
   · have h : i < rr.length := by simpa using h
     obtain ⟨row, hg⟩ : ∃ row, rr[i]? = some row := ⟨_, List.getElem?_eq_getElem h⟩
     have hc := y0v (f := tot qf) hg
     have hc2 := q0j (tot qf) rr (i + 1)
     obtain ⟨x0, x1, x2, rfl, h1, h2⟩ := y0w (hw.2 row (List.mem_of_getElem? hg))
     refine xs rfl (nn_ _) (y9 rfl _ hg (xs rfl rfl ?_))
     refine z1 rfl (y5u _ _ _ _ h1 h2 hb (y0h p1 p0)) rfl ⟨tv4, trivial, trivial⟩ ?_
     refine xb rfl ?_ ?_ <;> intro hn
     · have hn : szn (szn b (rr.length + z0f (tot qf) (rr.take i))) (tot qf [.s (.int .i64 x0), .l x1, .l x2]) < 0 := by simpa using hn
       rw [zh hb] at hn
       exact xv rfl rfl rfl (by show Value.int _ _ = Value.int _ _; congr 1; unfold szn qj at *; split at hn <;> rw [if_pos] <;> omega)
     · have hn : ¬ szn (szn b (rr.length + z0f (tot qf) (rr.take i))) (tot qf [.s (.int .i64 x0), .l x1, .l x2]) < 0 := by simpa using hn
       have he := zh (n := tot qf [.s (.int .i64 x0), .l x1, .l x2]) hb
       rw [he] at hn
       rw [Nat.add_assoc, ← hc] at he hn
       refine q8 rfl (hJ _ (i + 1) ⟨by omega, by omega⟩ (by omega) ?_)
       refine ⟨⟨cwi (by omega) (by omega) (by omega), ?_, rfl, trivial⟩, trivial, rfl⟩
       exact congrArg (fun n => Cell.s (.int .i64 n)) he
   · have h : ¬ i < rr.length := by simpa using h
     have : i = rr.length := by omega
     subst this
     exact xv rfl rfl rfl (by show Value.int _ _ = Value.int _ _; rw [List.take_length]; rfl)
theorem y4g (rr : List (List Cell)) (b : Int) (hw : WR 9223372036854775807 qm rr) (p0 : 0 ≤ b) (p1 : b ≤ 1048576) : PC Tryz.prog 51 [.one (.l rr), .one (.s (.int .i64 b))] (rI (szn b (qj qm rr))) := by
 refine PC.begin Tryz.func51 rfl (by kernel_rfl) ?_
 have hlen := hw.1
 have w1 : IntKind.i64.wrap (b - rr.length) = b - rr.length := wrap_i64 (by omega) (by omega)
 rw [z0p (fun row hr => by obtain ⟨x0, x1, x2, x3, x4, x5, x6, x7, x8, rfl⟩ := y0m hr; rfl) hw]
 refine xb rfl ?_ ?_ <;> intro h
 · simp only [w1, decide_eq_true_eq] at h
   exact xv rfl rfl rfl (by show Value.int _ _ = Value.int _ _; rw [szn, if_pos h])
 · simp only [w1, decide_eq_false_iff_not] at h
   exact xv rfl rfl rfl (by show Value.int .i64 (IntKind.i64.wrap (b - rr.length)) = Value.int _ _; rw [szn, if_neg h, w1])
theorem z58 (x0 : List (List Cell)) (x1 : List (List Cell)) (x2 : List (List Cell)) (x3 : List (List Cell)) (x4 : List (List Cell)) (b : Int) (h0 : WR 9223372036854775807 q7 x0) (h1 : WR 9223372036854775807 zg x1) (h2 : WR 9223372036854775807 zb x2) (h3 : WR 9223372036854775807 qf x3) (h4 : WR 9223372036854775807 qm x4) (hb0 : 0 ≤ b) (hb1 : b ≤ 1048576) : PC Tryz.prog 9 [.agg [.l x0, .l x1, .l x2, .l x3, .l x4], .one (.s (.int .i64 b))] (rI (szn b (tot qr [.l x0, .l x1, .l x2, .l x3, .l x4]))) := by
 refine PC.begin Tryz.func9 rfl (by kernel_rfl) ?_
 have ht : tot qr [.l x0, .l x1, .l x2, .l x3, .l x4] = qj q7 x0 + qj zg x1 + qj zb x2 + qj qf x3 + qj qm x4 := by simp only [tot, qj] <;> omega
 refine z1 rfl (q1l x0 b h0 hb0 hb1) rfl tv3 ?_
 refine xb rfl (fun h => ?_) (fun e0 => ?_)
 · have h : szn b (qj q7 x0) < 0 := by simpa using h
   exact xv rfl rfl rfl (by show Value.int _ _ = Value.int _ _; congr 1; rw [ht]; unfold szn at *; split at h <;> rw [if_pos] <;> omega)
 have e0 : 0 ≤ szn b (qj q7 x0) := by simpa using e0
 refine z1 rfl (q5u x1 (szn b (qj q7 x0)) h1 e0 (y0h hb1 hb0)) rfl tv3 ?_
 refine xb rfl (fun h => ?_) (fun e1 => ?_)
 · have h : szn (szn b (qj q7 x0)) (qj zg x1) < 0 := by simpa using h
   rw [zh e0] at h
   exact xv rfl rfl rfl (by show Value.int _ _ = Value.int _ _; congr 1; rw [ht]; unfold szn at *; split at h <;> rw [if_pos] <;> omega)
 have e1 : 0 ≤ szn b (qj q7 x0 + qj zg x1) := by rw [← zh e0]; simpa using e1
 rw [zh e0]
 refine z1 rfl (q3k x2 (szn b (qj q7 x0 + qj zg x1)) h2 e1 (y0h hb1 hb0)) rfl tv3 ?_
 refine xb rfl (fun h => ?_) (fun e2 => ?_)
 · have h : szn (szn b (qj q7 x0 + qj zg x1)) (qj zb x2) < 0 := by simpa using h
   rw [zh e1] at h
   exact xv rfl rfl rfl (by show Value.int _ _ = Value.int _ _; congr 1; rw [ht]; unfold szn at *; split at h <;> rw [if_pos] <;> omega)
 have e2 : 0 ≤ szn b (qj q7 x0 + qj zg x1 + qj zb x2) := by rw [← zh e1]; simpa using e2
 rw [zh e1]
 refine z1 rfl (y58 x3 (szn b (qj q7 x0 + qj zg x1 + qj zb x2)) h3 e2 (y0h hb1 hb0)) rfl tv3 ?_
 refine xb rfl (fun h => ?_) (fun e3 => ?_)
 · have h : szn (szn b (qj q7 x0 + qj zg x1 + qj zb x2)) (qj qf x3) < 0 := by simpa using h
   rw [zh e2] at h
   exact xv rfl rfl rfl (by show Value.int _ _ = Value.int _ _; congr 1; rw [ht]; unfold szn at *; split at h <;> rw [if_pos] <;> omega)
 have e3 : 0 ≤ szn b (qj q7 x0 + qj zg x1 + qj zb x2 + qj qf x3) := by rw [← zh e2]; simpa using e3
 rw [zh e2]
 refine z1 rfl (y4g x4 (szn b (qj q7 x0 + qj zg x1 + qj zb x2 + qj qf x3)) h4 e3 (y0h hb1 hb0)) rfl tv3 ?_
 refine xb rfl (fun h => ?_) (fun e4 => ?_)
 · have h : szn (szn b (qj q7 x0 + qj zg x1 + qj zb x2 + qj qf x3)) (qj qm x4) < 0 := by simpa using h
   rw [zh e3] at h
   exact xv rfl rfl rfl (by show Value.int _ _ = Value.int _ _; congr 1; rw [ht]; unfold szn at *; split at h <;> rw [if_pos] <;> omega)
 have e4 : 0 ≤ szn b (qj q7 x0 + qj zg x1 + qj zb x2 + qj qf x3 + qj qm x4) := by rw [← zh e3]; simpa using e4
 rw [zh e3]
 exact xv rfl rfl rfl (by show Value.int _ _ = Value.int _ _; rw [ht])
theorem z99 (x0 : Int) (x1 : Int) (x2 : Int) (x3 : Int)  : PC Tryz.prog 202 [.agg [.s (.int .i64 x0), .s (.int .i64 x1), .s (.int .i64 x2), .s (.int .i64 x3)]] (.one (.own true [.s (.int .i64 x0), .s (.int .i64 x1), .s (.int .i64 x2), .s (.int .i64 x3)])) := by
 refine PC.begin Tryz.func202 rfl (by kernel_rfl) ?_
 exact xr rfl (yk rfl ⟨⟨rfl, rfl, rfl, rfl, rfl, trivial⟩, z6 rfl⟩)
theorem z8a (rr : List (List Cell)) (hw : WR 1048576 q0a rr) : PC Tryz.prog 120 [.one (.l rr)] (.one (.own false [.l 4 rr])) := by
 refine PC.begin Tryz.func120 rfl (by kernel_rfl) ?_
 have hlen := hw.1
 refine xs rfl rfl (xs rfl (nn_ _) (xs rfl (by omega) (xs rfl (by omega) ?_)))
 refine zc rfl (ι := Nat) (fun i => i ≤ rr.length) (fun i => ⟨[(4, sV (.int .i64 i)), (3, .one (.h 7 rr.length)), (0, .one (.b (.l rr)))], [(7, .arr true 4 0 (rr.take i ++ List.replicate (rr.length - i) [.s (.int .i64 0), .s (.int .i64 0), .s (.int .i64 0), .s (.int .i64 0)]))]⟩) (fun i => rr.length - i) 0 (Nat.zero_le _) ?_ ?_
 · repeat' (first | exact trivial | exact rfl | exact Or.inl rfl | refine And.intro ?_ ?_)
 · intro i hi J hJ
   refine xb rfl ?_ ?_ <;> intro h
   · have h : i < rr.length := by simpa using h
     obtain ⟨row, hg⟩ : ∃ row, rr[i]? = some row := ⟨_, List.getElem?_eq_getElem h⟩
     obtain ⟨x0, x1, x2, x3, rfl⟩ := z31 (hw.2 row (List.mem_of_getElem? hg))
     refine xs rfl (nn_ _) (y9 rfl _ hg (xs rfl rfl ?_))
     refine z1 rfl (z99 _ _ _ _) rfl ⟨tv5, trivial⟩ ?_
     refine xs rfl (qe _ _ _ _ (by omega) rfl).symm (xs rfl (nn_ _) (y9 rfl [.s (.int .i64 0), .s (.int .i64 0), .s (.int .i64 0), .s (.int .i64 0)] (ym _ _ _ _ (by omega) rfl) (xs rfl rfl ?_)))
     refine xs rfl (qe _ _ _ _ (by omega) rfl).symm (y9 rfl [.s (.int .i64 0), .s (.int .i64 0), .s (.int .i64 0), .s (.int .i64 0)] (ym _ _ _ _ (by omega) rfl) (xs rfl (by decide) (xs rfl tv5 ?_)))
     refine q8 rfl (hJ _ (i + 1) (by omega) (by omega) ?_)
     repeat' (first | exact trivial | exact rfl | exact Or.inl rfl | exact cwi (by omega) (by omega) (by omega) | refine And.intro ?_ ?_)
     exact y03 _ _ _ _ _ hg rfl
   · have h : ¬ i < rr.length := by simpa using h
     have : i = rr.length := by omega
     subst this
     refine xr rfl (yk rfl ⟨⟨rfl, ⟨(qe _ _ _ _ (by omega) rfl).symm, q02 _ _ _ rfl, Or.inl rfl⟩, trivial⟩, z6 rfl⟩)
theorem y4h (x0 : Int) (x1 : List (List Cell)) (h1 : WR 1048576 q0a x1) : PC Tryz.prog 38 [.agg [.s (.int .i64 x0), .l x1]] (.one (.own true [.s (.int .i64 x0), .l 4 x1])) := by
 refine PC.begin Tryz.func38 rfl (by kernel_rfl) ?_
 refine z1 rfl (z8a _ h1) rfl ⟨trivial, trivial⟩ ?_
 exact xr rfl (yk rfl ⟨⟨rfl, rfl, ⟨rfl, rfl, .inl rfl⟩, trivial⟩, z6 rfl⟩)
theorem z1m (rr : List (List Cell)) (hw : WR 1048576 q7 rr) : PC Tryz.prog 55 [.one (.l rr)] (.one (.own false [.l 2 rr])) := by
 refine PC.begin Tryz.func55 rfl (by kernel_rfl) ?_
 have hlen := hw.1
 refine xs rfl rfl (xs rfl (nn_ _) (xs rfl (by omega) (xs rfl (by omega) ?_)))
 refine zc rfl (ι := Nat) (fun i => i ≤ rr.length) (fun i => ⟨[(4, sV (.int .i64 i)), (3, .one (.h 7 rr.length)), (0, .one (.b (.l rr)))], [(7, .arr true 2 0 (rr.take i ++ List.replicate (rr.length - i) [.s (.int .i64 0), .l []]))]⟩) (fun i => rr.length - i) 0 (Nat.zero_le _) ?_ ?_
 · repeat' (first | exact trivial | exact rfl | exact Or.inl rfl | refine And.intro ?_ ?_)
 · intro i hi J hJ
   refine xb rfl ?_ ?_ <;> intro h
   · have h : i < rr.length := by simpa using h
     obtain ⟨row, hg⟩ : ∃ row, rr[i]? = some row := ⟨_, List.getElem?_eq_getElem h⟩
     obtain ⟨x0, x1, rfl, h1⟩ := q0f (hw.2 row (List.mem_of_getElem? hg))
     refine xs rfl (nn_ _) (y9 rfl _ hg (xs rfl rfl ?_))
     refine z1 rfl (y4h _ _ h1) rfl ⟨tv3, trivial⟩ ?_
     refine xs rfl (qe _ _ _ _ (by omega) rfl).symm (xs rfl (nn_ _) (y9 rfl [.s (.int .i64 0), .l []] (ym _ _ _ _ (by omega) rfl) (xs rfl rfl ?_)))
     refine xs rfl (qe _ _ _ _ (by omega) rfl).symm (y9 rfl [.s (.int .i64 0), .l []] (ym _ _ _ _ (by omega) rfl) (xs rfl (by decide) (xs rfl ⟨trivial, ⟨rfl, rfl⟩, trivial⟩ ?_)))
     refine q8 rfl (hJ _ (i + 1) (by omega) (by omega) ?_)
     repeat' (first | exact trivial | exact rfl | exact Or.inl rfl | exact cwi (by omega) (by omega) (by omega) | refine And.intro ?_ ?_)
     exact y03 _ _ _ _ _ hg rfl
   · have h : ¬ i < rr.length := by simpa using h
     have : i = rr.length := by omega
     subst this
     refine xr rfl (yk rfl ⟨⟨rfl, ⟨(qe _ _ _ _ (by omega) rfl).symm, q02 _ _ _ rfl, Or.inl rfl⟩, trivial⟩, z6 rfl⟩)
theorem z59 (x0 : Int) (x1 : Int) (x2 : Int)  : PC Tryz.prog 286 [.agg [.s (.int .i64 x0), .s (.int .i64 x1), .s (.int .i64 x2)]] (.one (.own true [.s (.int .i64 x0), .s (.int .i64 x1), .s (.int .i64 x2)])) := by
 refine PC.begin Tryz.func286 rfl (by kernel_rfl) ?_
 exact xr rfl (yk rfl ⟨⟨rfl, rfl, rfl, rfl, trivial⟩, z6 rfl⟩)
theorem z4h (rr : List (List Cell)) (hw : WR 1048576 ye rr) : PC Tryz.prog 189 [.one (.l rr)] (.one (.own false [.l 3 rr])) := by
 refine PC.begin Tryz.func189 rfl (by kernel_rfl) ?_
 have hlen := hw.1
 refine xs rfl rfl (xs rfl (nn_ _) (xs rfl (by omega) (xs rfl (by omega) ?_)))
 refine zc rfl (ι := Nat) (fun i => i ≤ rr.length) (fun i => ⟨[(4, sV (.int .i64 i)), (3, .one (.h 7 rr.length)), (0, .one (.b (.l rr)))], [(7, .arr true 3 0 (rr.take i ++ List.replicate (rr.length - i) [.s (.int .i64 0), .s (.int .i64 0), .s (.int .i64 0)]))]⟩) (fun i => rr.length - i) 0 (Nat.zero_le _) ?_ ?_
 · repeat' (first | exact trivial | exact rfl | exact Or.inl rfl | refine And.intro ?_ ?_)
 · intro i hi J hJ
   refine xb rfl ?_ ?_ <;> intro h
   · have h : i < rr.length := by simpa using h
     obtain ⟨row, hg⟩ : ∃ row, rr[i]? = some row := ⟨_, List.getElem?_eq_getElem h⟩
     obtain ⟨x0, x1, x2, rfl⟩ := z0m (hw.2 row (List.mem_of_getElem? hg))
     refine xs rfl (nn_ _) (y9 rfl _ hg (xs rfl rfl ?_))
     refine z1 rfl (z59 _ _ _) rfl ⟨tv4, trivial⟩ ?_
     refine xs rfl (qe _ _ _ _ (by omega) rfl).symm (xs rfl (nn_ _) (y9 rfl [.s (.int .i64 0), .s (.int .i64 0), .s (.int .i64 0)] (ym _ _ _ _ (by omega) rfl) (xs rfl rfl ?_)))
     refine xs rfl (qe _ _ _ _ (by omega) rfl).symm (y9 rfl [.s (.int .i64 0), .s (.int .i64 0), .s (.int .i64 0)] (ym _ _ _ _ (by omega) rfl) (xs rfl (by decide) (xs rfl tv4 ?_)))
     refine q8 rfl (hJ _ (i + 1) (by omega) (by omega) ?_)
     repeat' (first | exact trivial | exact rfl | exact Or.inl rfl | exact cwi (by omega) (by omega) (by omega) | refine And.intro ?_ ?_)
     exact y03 _ _ _ _ _ hg rfl
   · have h : ¬ i < rr.length := by simpa using h
     have : i = rr.length := by omega
     subst this
     refine xr rfl (yk rfl ⟨⟨rfl, ⟨(qe _ _ _ _ (by omega) rfl).symm, q02 _ _ _ rfl, Or.inl rfl⟩, trivial⟩, z6 rfl⟩)
theorem y8a (x0 : Int) (x1 : Int)  : PC Tryz.prog 329 [.agg [.s (.int .i64 x0), .s (.int .i64 x1)]] (.one (.own true [.s (.int .i64 x0), .s (.int .i64 x1)])) := by
 refine PC.begin Tryz.func329 rfl (by kernel_rfl) ?_
 exact xr rfl (yk rfl ⟨⟨rfl, rfl, rfl, trivial⟩, z6 rfl⟩)
theorem y3u (rr : List (List Cell)) (hw : WR 1048576 zj rr) : PC Tryz.prog 241 [.one (.l rr)] (.one (.own false [.l 2 rr])) := by
 refine PC.begin Tryz.func241 rfl (by kernel_rfl) ?_
 have hlen := hw.1
 refine xs rfl rfl (xs rfl (nn_ _) (xs rfl (by omega) (xs rfl (by omega) ?_)))
 refine zc rfl (ι := Nat) (fun i => i ≤ rr.length) (fun i => ⟨[(4, sV (.int .i64 i)), (3, .one (.h 7 rr.length)), (0, .one (.b (.l rr)))], [(7, .arr true 2 0 (rr.take i ++ List.replicate (rr.length - i) [.s (.int .i64 0), .s (.int .i64 0)]))]⟩) (fun i => rr.length - i) 0 (Nat.zero_le _) ?_ ?_
 · repeat' (first | exact trivial | exact rfl | exact Or.inl rfl | refine And.intro ?_ ?_)
 · intro i hi J hJ
   refine xb rfl ?_ ?_ <;> intro h
   · have h : i < rr.length := by simpa using h
     obtain ⟨row, hg⟩ : ∃ row, rr[i]? = some row := ⟨_, List.getElem?_eq_getElem h⟩
     obtain ⟨x0, x1, rfl⟩ := z1x (hw.2 row (List.mem_of_getElem? hg))
     refine xs rfl (nn_ _) (y9 rfl _ hg (xs rfl rfl ?_))
     refine z1 rfl (y8a _ _) rfl ⟨tv3, trivial⟩ ?_
     refine xs rfl (qe _ _ _ _ (by omega) rfl).symm (xs rfl (nn_ _) (y9 rfl [.s (.int .i64 0), .s (.int .i64 0)] (ym _ _ _ _ (by omega) rfl) (xs rfl rfl ?_)))
     refine xs rfl (qe _ _ _ _ (by omega) rfl).symm (y9 rfl [.s (.int .i64 0), .s (.int .i64 0)] (ym _ _ _ _ (by omega) rfl) (xs rfl (by decide) (xs rfl tv3 ?_)))
     refine q8 rfl (hJ _ (i + 1) (by omega) (by omega) ?_)
     repeat' (first | exact trivial | exact rfl | exact Or.inl rfl | exact cwi (by omega) (by omega) (by omega) | refine And.intro ?_ ?_)
     exact y03 _ _ _ _ _ hg rfl
   · have h : ¬ i < rr.length := by simpa using h
     have : i = rr.length := by omega
     subst this
     refine xr rfl (yk rfl ⟨⟨rfl, ⟨(qe _ _ _ _ (by omega) rfl).symm, q02 _ _ _ rfl, Or.inl rfl⟩, trivial⟩, z6 rfl⟩)
theorem y3b (rr : List (List Cell)) (hw : WR 1048576 (.i .i64 .nil) rr) : PC Tryz.prog 170 [.one (.l rr)] (.one (.own false [.l 1 rr])) := by
 refine PC.begin Tryz.func170 rfl (by kernel_rfl) ?_
 have hlen := hw.1
 refine xs rfl rfl (xs rfl (nn_ _) (xs rfl (by omega) (xs rfl (by omega) ?_)))
 refine zc rfl (ι := Nat) (fun i => i ≤ rr.length) (fun i => ⟨[(4, sV (.int .i64 i)), (3, .one (.h 7 rr.length)), (0, .one (.b (.l rr)))], [(7, .arr true 1 0 (rr.take i ++ List.replicate (rr.length - i) [.s (.int .i64 0)]))]⟩) (fun i => rr.length - i) 0 (Nat.zero_le _) ?_ ?_
 · repeat' (first | exact trivial | exact rfl | exact Or.inl rfl | refine And.intro ?_ ?_)
 · intro i hi J hJ
   refine xb rfl ?_ ?_ <;> intro h
   · have h : i < rr.length := by simpa using h
     obtain ⟨row, hg⟩ : ∃ row, rr[i]? = some row := ⟨_, List.getElem?_eq_getElem h⟩
     obtain ⟨x0, _, rfl, hnil⟩ := ((hw.2 row (List.mem_of_getElem? hg))).qw; obtain rfl := hnil.z00
     refine xs rfl (nn_ _) (y9 rfl _ hg (xs rfl rfl ?_))
     refine xs rfl (qe _ _ _ _ (by omega) rfl).symm (xs rfl (nn_ _) (y9 rfl [.s (.int .i64 0)] (ym _ _ _ _ (by omega) rfl) (xs rfl rfl ?_)))
     refine xs rfl (qe _ _ _ _ (by omega) rfl).symm (y9 rfl [.s (.int .i64 0)] (ym _ _ _ _ (by omega) rfl) (xs rfl (by decide) (xs rfl ⟨trivial, trivial⟩ ?_)))
     refine q8 rfl (hJ _ (i + 1) (by omega) (by omega) ?_)
     repeat' (first | exact trivial | exact rfl | exact Or.inl rfl | exact cwi (by omega) (by omega) (by omega) | refine And.intro ?_ ?_)
     exact y03 _ _ _ _ _ hg rfl
   · have h : ¬ i < rr.length := by simpa using h
     have : i = rr.length := by omega
     subst this
     refine xr rfl (yk rfl ⟨⟨rfl, ⟨(qe _ _ _ _ (by omega) rfl).symm, q02 _ _ _ rfl, Or.inl rfl⟩, trivial⟩, z6 rfl⟩)
theorem q6z (x0 : Int) (x1 : List (List Cell)) (x2 : List (List Cell)) (x3 : List (List Cell)) (x4 : List (List Cell)) (x5 : List (List Cell)) (h1 : WR 1048576 ye x1) (h2 : WR 1048576 zj x2) (h3 : WR 1048576 q7 x3) (h4 : WR 1048576 zj x4) (h5 : WR 1048576 (.i .i64 .nil) x5) : PC Tryz.prog 136 [.agg [.s (.int .i64 x0), .l x1, .l x2, .l x3, .l x4, .l x5]] (.one (.own true [.s (.int .i64 x0), .l 3 x1, .l 2 x2, .l 2 x3, .l 2 x4, .l 1 x5])) := by
 refine PC.begin Tryz.func136 rfl (by kernel_rfl) ?_
 refine z1 rfl (z4h _ h1) rfl ⟨trivial, trivial⟩ (z1 rfl (y3u _ h2) rfl ⟨trivial, trivial⟩ (z1 rfl (z1m _ h3) rfl ⟨trivial, trivial⟩ (z1 rfl (y3u _ h4) rfl ⟨trivial, trivial⟩ (z1 rfl (y3b _ h5) rfl ⟨trivial, trivial⟩ ?_))))
 exact xr rfl (yk rfl ⟨⟨rfl, rfl, ⟨rfl, rfl, .inl rfl⟩, ⟨rfl, rfl, .inl rfl⟩, ⟨rfl, rfl, .inl rfl⟩, ⟨rfl, rfl, .inl rfl⟩, ⟨rfl, rfl, .inl rfl⟩, trivial⟩, z6 rfl⟩)
theorem q5v (rr : List (List Cell)) (hw : WR 1048576 zg rr) : PC Tryz.prog 56 [.one (.l rr)] (.one (.own false [.l 6 rr])) := by
 refine PC.begin Tryz.func56 rfl (by kernel_rfl) ?_
 have hlen := hw.1
 refine xs rfl rfl (xs rfl (nn_ _) (xs rfl (by omega) (xs rfl (by omega) ?_)))
 refine zc rfl (ι := Nat) (fun i => i ≤ rr.length) (fun i => ⟨[(4, sV (.int .i64 i)), (3, .one (.h 7 rr.length)), (0, .one (.b (.l rr)))], [(7, .arr true 6 0 (rr.take i ++ List.replicate (rr.length - i) [.s (.int .i64 0), .l [], .l [], .l [], .l [], .l []]))]⟩) (fun i => rr.length - i) 0 (Nat.zero_le _) ?_ ?_
 · repeat' (first | exact trivial | exact rfl | exact Or.inl rfl | refine And.intro ?_ ?_)
 · intro i hi J hJ
   refine xb rfl ?_ ?_ <;> intro h
   · have h : i < rr.length := by simpa using h
     obtain ⟨row, hg⟩ : ∃ row, rr[i]? = some row := ⟨_, List.getElem?_eq_getElem h⟩
     obtain ⟨x0, x1, x2, x3, x4, x5, rfl, h1, h2, h3, h4, h5⟩ := y16 (hw.2 row (List.mem_of_getElem? hg))
     refine xs rfl (nn_ _) (y9 rfl _ hg (xs rfl rfl ?_))
     refine z1 rfl (q6z _ _ _ _ _ _ h1 h2 h3 h4 h5) rfl ⟨tv7, trivial⟩ ?_
     refine xs rfl (qe _ _ _ _ (by omega) rfl).symm (xs rfl (nn_ _) (y9 rfl [.s (.int .i64 0), .l [], .l [], .l [], .l [], .l []] (ym _ _ _ _ (by omega) rfl) (xs rfl rfl ?_)))
     refine xs rfl (qe _ _ _ _ (by omega) rfl).symm (y9 rfl [.s (.int .i64 0), .l [], .l [], .l [], .l [], .l []] (ym _ _ _ _ (by omega) rfl) (xs rfl (by decide) (xs rfl ⟨trivial, ⟨rfl, rfl⟩, ⟨rfl, rfl⟩, ⟨rfl, rfl⟩, ⟨rfl, rfl⟩, ⟨rfl, rfl⟩, trivial⟩ ?_)))
     refine q8 rfl (hJ _ (i + 1) (by omega) (by omega) ?_)
     repeat' (first | exact trivial | exact rfl | exact Or.inl rfl | exact cwi (by omega) (by omega) (by omega) | refine And.intro ?_ ?_)
     exact y03 _ _ _ _ _ hg rfl
   · have h : ¬ i < rr.length := by simpa using h
     have : i = rr.length := by omega
     subst this
     refine xr rfl (yk rfl ⟨⟨rfl, ⟨(qe _ _ _ _ (by omega) rfl).symm, q02 _ _ _ rfl, Or.inl rfl⟩, trivial⟩, z6 rfl⟩)
theorem q3b (x0 : Int) (x1 : Int)  : PC Tryz.prog 245 [.agg [.s (.int .i64 x0), .s (.int .i64 x1)]] (.one (.own true [.s (.int .i64 x0), .s (.int .i64 x1)])) := by
 refine PC.begin Tryz.func245 rfl (by kernel_rfl) ?_
 exact xr rfl (yk rfl ⟨⟨rfl, rfl, rfl, trivial⟩, z6 rfl⟩)
theorem q3u (rr : List (List Cell)) (hw : WR 1048576 zp rr) : PC Tryz.prog 414 [.one (.l rr)] (.one (.own false [.l 2 rr])) := by
 refine PC.begin Tryz.func414 rfl (by kernel_rfl) ?_
 have hlen := hw.1
 refine xs rfl rfl (xs rfl (nn_ _) (xs rfl (by omega) (xs rfl (by omega) ?_)))
 refine zc rfl (ι := Nat) (fun i => i ≤ rr.length) (fun i => ⟨[(4, sV (.int .i64 i)), (3, .one (.h 7 rr.length)), (0, .one (.b (.l rr)))], [(7, .arr true 2 0 (rr.take i ++ List.replicate (rr.length - i) [.s (.int .i64 0), .s (.int .i64 0)]))]⟩) (fun i => rr.length - i) 0 (Nat.zero_le _) ?_ ?_
 · repeat' (first | exact trivial | exact rfl | exact Or.inl rfl | refine And.intro ?_ ?_)
 · intro i hi J hJ
   refine xb rfl ?_ ?_ <;> intro h
   · have h : i < rr.length := by simpa using h
     obtain ⟨row, hg⟩ : ∃ row, rr[i]? = some row := ⟨_, List.getElem?_eq_getElem h⟩
     obtain ⟨x0, x1, rfl⟩ := q1x (hw.2 row (List.mem_of_getElem? hg))
     refine xs rfl (nn_ _) (y9 rfl _ hg (xs rfl rfl ?_))
     refine z1 rfl (q3b _ _) rfl ⟨tv3, trivial⟩ ?_
     refine xs rfl (qe _ _ _ _ (by omega) rfl).symm (xs rfl (nn_ _) (y9 rfl [.s (.int .i64 0), .s (.int .i64 0)] (ym _ _ _ _ (by omega) rfl) (xs rfl rfl ?_)))
     refine xs rfl (qe _ _ _ _ (by omega) rfl).symm (y9 rfl [.s (.int .i64 0), .s (.int .i64 0)] (ym _ _ _ _ (by omega) rfl) (xs rfl (by decide) (xs rfl tv3 ?_)))
     refine q8 rfl (hJ _ (i + 1) (by omega) (by omega) ?_)
     repeat' (first | exact trivial | exact rfl | exact Or.inl rfl | exact cwi (by omega) (by omega) (by omega) | refine And.intro ?_ ?_)
     exact y03 _ _ _ _ _ hg rfl
   · have h : ¬ i < rr.length := by simpa using h
     have : i = rr.length := by omega
     subst this
     refine xr rfl (yk rfl ⟨⟨rfl, ⟨(qe _ _ _ _ (by omega) rfl).symm, q02 _ _ _ rfl, Or.inl rfl⟩, trivial⟩, z6 rfl⟩)
theorem q8a (x0 : Int) (x1 : Int) (x2 : Int) (x3 : Int) (x4 : Int) (x5 : List (List Cell)) (h5 : WR 1048576 zp x5) : PC Tryz.prog 330 [.agg [.s (.int .i64 x0), .s (.int .i64 x1), .s (.int .i64 x2), .s (.int .i64 x3), .s (.int .i64 x4), .l x5]] (.one (.own true [.s (.int .i64 x0), .s (.int .i64 x1), .s (.int .i64 x2), .s (.int .i64 x3), .s (.int .i64 x4), .l 2 x5])) := by
 refine PC.begin Tryz.func330 rfl (by kernel_rfl) ?_
 refine z1 rfl (q3b _ _) rfl ⟨tv3, trivial⟩ (z1 rfl (q3u _ h5) rfl ⟨trivial, trivial⟩ ?_)
 exact xr rfl (yk rfl ⟨⟨rfl, rfl, rfl, rfl, rfl, rfl, ⟨rfl, rfl, .inl rfl⟩, trivial⟩, z6 rfl⟩)
theorem y70 (rr : List (List Cell)) (hw : WR 1048576 yo rr) : PC Tryz.prog 242 [.one (.l rr)] (.one (.own false [.l 6 rr])) := by
 refine PC.begin Tryz.func242 rfl (by kernel_rfl) ?_
 have hlen := hw.1
 refine xs rfl rfl (xs rfl (nn_ _) (xs rfl (by omega) (xs rfl (by omega) ?_)))
 refine zc rfl (ι := Nat) (fun i => i ≤ rr.length) (fun i => ⟨[(4, sV (.int .i64 i)), (3, .one (.h 7 rr.length)), (0, .one (.b (.l rr)))], [(7, .arr true 6 0 (rr.take i ++ List.replicate (rr.length - i) [.s (.int .i64 0), .s (.int .i64 0), .s (.int .i64 0), .s (.int .i64 0), .s (.int .i64 0), .l []]))]⟩) (fun i => rr.length - i) 0 (Nat.zero_le _) ?_ ?_
 · repeat' (first | exact trivial | exact rfl | exact Or.inl rfl | refine And.intro ?_ ?_)
 · intro i hi J hJ
   refine xb rfl ?_ ?_ <;> intro h
   · have h : i < rr.length := by simpa using h
     obtain ⟨row, hg⟩ : ∃ row, rr[i]? = some row := ⟨_, List.getElem?_eq_getElem h⟩
     obtain ⟨x0, x1, x2, x3, x4, x5, rfl, h5⟩ := y1x (hw.2 row (List.mem_of_getElem? hg))
     refine xs rfl (nn_ _) (y9 rfl _ hg (xs rfl rfl ?_))
     refine z1 rfl (q8a _ _ _ _ _ _ h5) rfl ⟨tv7, trivial⟩ ?_
     refine xs rfl (qe _ _ _ _ (by omega) rfl).symm (xs rfl (nn_ _) (y9 rfl [.s (.int .i64 0), .s (.int .i64 0), .s (.int .i64 0), .s (.int .i64 0), .s (.int .i64 0), .l []] (ym _ _ _ _ (by omega) rfl) (xs rfl rfl ?_)))
     refine xs rfl (qe _ _ _ _ (by omega) rfl).symm (y9 rfl [.s (.int .i64 0), .s (.int .i64 0), .s (.int .i64 0), .s (.int .i64 0), .s (.int .i64 0), .l []] (ym _ _ _ _ (by omega) rfl) (xs rfl (by decide) (xs rfl ⟨trivial, trivial, trivial, trivial, trivial, ⟨rfl, rfl⟩, trivial⟩ ?_)))
     refine q8 rfl (hJ _ (i + 1) (by omega) (by omega) ?_)
     repeat' (first | exact trivial | exact rfl | exact Or.inl rfl | exact cwi (by omega) (by omega) (by omega) | refine And.intro ?_ ?_)
     exact y03 _ _ _ _ _ hg rfl
   · have h : ¬ i < rr.length := by simpa using h
     have : i = rr.length := by omega
     subst this
     refine xr rfl (yk rfl ⟨⟨rfl, ⟨(qe _ _ _ _ (by omega) rfl).symm, q02 _ _ _ rfl, Or.inl rfl⟩, trivial⟩, z6 rfl⟩)
theorem q4g (x0 : List (List Cell)) (h0 : WR 1048576 yo x0) : PC Tryz.prog 137 [.agg [.l x0]] (.one (.own true [.l 6 x0])) := by
 refine PC.begin Tryz.func137 rfl (by kernel_rfl) ?_
 refine z1 rfl (y70 _ h0) rfl ⟨trivial, trivial⟩ ?_
 exact xr rfl (yk rfl ⟨⟨rfl, ⟨rfl, rfl, .inl rfl⟩, trivial⟩, z6 rfl⟩)
theorem z3l (rr : List (List Cell)) (hw : WR 1048576 zb rr) : PC Tryz.prog 57 [.one (.l rr)] (.one (.own false [.l 1 rr])) := by
 refine PC.begin Tryz.func57 rfl (by kernel_rfl) ?_
 have hlen := hw.1
 refine xs rfl rfl (xs rfl (nn_ _) (xs rfl (by omega) (xs rfl (by omega) ?_)))
 refine zc rfl (ι := Nat) (fun i => i ≤ rr.length) (fun i => ⟨[(4, sV (.int .i64 i)), (3, .one (.h 7 rr.length)), (0, .one (.b (.l rr)))], [(7, .arr true 1 0 (rr.take i ++ List.replicate (rr.length - i) [.l []]))]⟩) (fun i => rr.length - i) 0 (Nat.zero_le _) ?_ ?_
 · repeat' (first | exact trivial | exact rfl | exact Or.inl rfl | refine And.intro ?_ ?_)
 · intro i hi J hJ
   refine xb rfl ?_ ?_ <;> intro h
   · have h : i < rr.length := by simpa using h
     obtain ⟨row, hg⟩ : ∃ row, rr[i]? = some row := ⟨_, List.getElem?_eq_getElem h⟩
     obtain ⟨x0, rfl, h0⟩ := y0f (hw.2 row (List.mem_of_getElem? hg))
     refine xs rfl (nn_ _) (y9 rfl _ hg (xs rfl rfl ?_))
     refine z1 rfl (q4g _ h0) rfl ⟨⟨trivial, trivial⟩, trivial⟩ ?_
     refine xs rfl (qe _ _ _ _ (by omega) rfl).symm (xs rfl (nn_ _) (y9 rfl [.l []] (ym _ _ _ _ (by omega) rfl) (xs rfl rfl ?_)))
     refine xs rfl (qe _ _ _ _ (by omega) rfl).symm (y9 rfl [.l []] (ym _ _ _ _ (by omega) rfl) (xs rfl (by decide) (xs rfl ⟨⟨rfl, rfl⟩, trivial⟩ ?_)))
     refine q8 rfl (hJ _ (i + 1) (by omega) (by omega) ?_)
     repeat' (first | exact trivial | exact rfl | exact Or.inl rfl | exact cwi (by omega) (by omega) (by omega) | refine And.intro ?_ ?_)
     exact y03 _ _ _ _ _ hg rfl
   · have h : ¬ i < rr.length := by simpa using h
     have : i = rr.length := by omega
     subst this
     refine xr rfl (yk rfl ⟨⟨rfl, ⟨(qe _ _ _ _ (by omega) rfl).symm, q02 _ _ _ rfl, Or.inl rfl⟩, trivial⟩, z6 rfl⟩)
theorem q99 (x0 : Int) (x1 : Int) (x2 : Int) (x3 : Int) (x4 : List (List Cell)) (x5 : List (List Cell)) (h4 : WR 1048576 (.i .i64 .nil) x4) (h5 : WR 1048576 zp x5) : PC Tryz.prog 331 [.agg [.s (.int .i64 x0), .s (.int .i64 x1), .s (.int .i64 x2), .s (.int .i64 x3), .l x4, .l x5]] (.one (.own true [.s (.int .i64 x0), .s (.int .i64 x1), .s (.int .i64 x2), .s (.int .i64 x3), .l 1 x4, .l 2 x5])) := by
 refine PC.begin Tryz.func331 rfl (by kernel_rfl) ?_
 refine z1 rfl (y3b _ h4) rfl ⟨trivial, trivial⟩ (z1 rfl (q3u _ h5) rfl ⟨trivial, trivial⟩ ?_)
 exact xr rfl (yk rfl ⟨⟨rfl, rfl, rfl, rfl, rfl, ⟨rfl, rfl, .inl rfl⟩, ⟨rfl, rfl, .inl rfl⟩, trivial⟩, z6 rfl⟩)
theorem z8b (rr : List (List Cell)) (hw : WR 1048576 zr rr) : PC Tryz.prog 243 [.one (.l rr)] (.one (.own false [.l 6 rr])) := by
 refine PC.begin Tryz.func243 rfl (by kernel_rfl) ?_
 have hlen := hw.1
 refine xs rfl rfl (xs rfl (nn_ _) (xs rfl (by omega) (xs rfl (by omega) ?_)))
 refine zc rfl (ι := Nat) (fun i => i ≤ rr.length) (fun i => ⟨[(4, sV (.int .i64 i)), (3, .one (.h 7 rr.length)), (0, .one (.b (.l rr)))], [(7, .arr true 6 0 (rr.take i ++ List.replicate (rr.length - i) [.s (.int .i64 0), .s (.int .i64 0), .s (.int .i64 0), .s (.int .i64 0), .l [], .l []]))]⟩) (fun i => rr.length - i) 0 (Nat.zero_le _) ?_ ?_
 · repeat' (first | exact trivial | exact rfl | exact Or.inl rfl | refine And.intro ?_ ?_)
 · intro i hi J hJ
   refine xb rfl ?_ ?_ <;> intro h
   · have h : i < rr.length := by simpa using h
     obtain ⟨row, hg⟩ : ∃ row, rr[i]? = some row := ⟨_, List.getElem?_eq_getElem h⟩
     obtain ⟨x0, x1, x2, x3, x4, x5, rfl, h4, h5⟩ := y31 (hw.2 row (List.mem_of_getElem? hg))
     refine xs rfl (nn_ _) (y9 rfl _ hg (xs rfl rfl ?_))
     refine z1 rfl (q99 _ _ _ _ _ _ h4 h5) rfl ⟨tv7, trivial⟩ ?_
     refine xs rfl (qe _ _ _ _ (by omega) rfl).symm (xs rfl (nn_ _) (y9 rfl [.s (.int .i64 0), .s (.int .i64 0), .s (.int .i64 0), .s (.int .i64 0), .l [], .l []] (ym _ _ _ _ (by omega) rfl) (xs rfl rfl ?_)))
     refine xs rfl (qe _ _ _ _ (by omega) rfl).symm (y9 rfl [.s (.int .i64 0), .s (.int .i64 0), .s (.int .i64 0), .s (.int .i64 0), .l [], .l []] (ym _ _ _ _ (by omega) rfl) (xs rfl (by decide) (xs rfl ⟨trivial, trivial, trivial, trivial, ⟨rfl, rfl⟩, ⟨rfl, rfl⟩, trivial⟩ ?_)))
     refine q8 rfl (hJ _ (i + 1) (by omega) (by omega) ?_)
     repeat' (first | exact trivial | exact rfl | exact Or.inl rfl | exact cwi (by omega) (by omega) (by omega) | refine And.intro ?_ ?_)
     exact y03 _ _ _ _ _ hg rfl
   · have h : ¬ i < rr.length := by simpa using h
     have : i = rr.length := by omega
     subst this
     refine xr rfl (yk rfl ⟨⟨rfl, ⟨(qe _ _ _ _ (by omega) rfl).symm, q02 _ _ _ rfl, Or.inl rfl⟩, trivial⟩, z6 rfl⟩)
theorem y6z (x0 : Int) (x1 : Int) (x2 : Int) (x3 : Int) (x4 : Int)  : PC Tryz.prog 332 [.agg [.s (.int .i64 x0), .s (.int .i64 x1), .s (.int .i64 x2), .s (.int .i64 x3), .s (.int .i64 x4)]] (.one (.own true [.s (.int .i64 x0), .s (.int .i64 x1), .s (.int .i64 x2), .s (.int .i64 x3), .s (.int .i64 x4)])) := by
 refine PC.begin Tryz.func332 rfl (by kernel_rfl) ?_
 exact xr rfl (yk rfl ⟨⟨rfl, rfl, rfl, rfl, rfl, rfl, trivial⟩, z6 rfl⟩)
theorem z5v (rr : List (List Cell)) (hw : WR 1048576 zu rr) : PC Tryz.prog 244 [.one (.l rr)] (.one (.own false [.l 5 rr])) := by
 refine PC.begin Tryz.func244 rfl (by kernel_rfl) ?_
 have hlen := hw.1
 refine xs rfl rfl (xs rfl (nn_ _) (xs rfl (by omega) (xs rfl (by omega) ?_)))
 refine zc rfl (ι := Nat) (fun i => i ≤ rr.length) (fun i => ⟨[(4, sV (.int .i64 i)), (3, .one (.h 7 rr.length)), (0, .one (.b (.l rr)))], [(7, .arr true 5 0 (rr.take i ++ List.replicate (rr.length - i) [.s (.int .i64 0), .s (.int .i64 0), .s (.int .i64 0), .s (.int .i64 0), .s (.int .i64 0)]))]⟩) (fun i => rr.length - i) 0 (Nat.zero_le _) ?_ ?_
 · repeat' (first | exact trivial | exact rfl | exact Or.inl rfl | refine And.intro ?_ ?_)
 · intro i hi J hJ
   refine xb rfl ?_ ?_ <;> intro h
   · have h : i < rr.length := by simpa using h
     obtain ⟨row, hg⟩ : ∃ row, rr[i]? = some row := ⟨_, List.getElem?_eq_getElem h⟩
     obtain ⟨x0, x1, x2, x3, x4, rfl⟩ := z16 (hw.2 row (List.mem_of_getElem? hg))
     refine xs rfl (nn_ _) (y9 rfl _ hg (xs rfl rfl ?_))
     refine z1 rfl (y6z _ _ _ _ _) rfl ⟨tv6, trivial⟩ ?_
     refine xs rfl (qe _ _ _ _ (by omega) rfl).symm (xs rfl (nn_ _) (y9 rfl [.s (.int .i64 0), .s (.int .i64 0), .s (.int .i64 0), .s (.int .i64 0), .s (.int .i64 0)] (ym _ _ _ _ (by omega) rfl) (xs rfl rfl ?_)))
     refine xs rfl (qe _ _ _ _ (by omega) rfl).symm (y9 rfl [.s (.int .i64 0), .s (.int .i64 0), .s (.int .i64 0), .s (.int .i64 0), .s (.int .i64 0)] (ym _ _ _ _ (by omega) rfl) (xs rfl (by decide) (xs rfl tv6 ?_)))
     refine q8 rfl (hJ _ (i + 1) (by omega) (by omega) ?_)
     repeat' (first | exact trivial | exact rfl | exact Or.inl rfl | exact cwi (by omega) (by omega) (by omega) | refine And.intro ?_ ?_)
     exact y03 _ _ _ _ _ hg rfl
   · have h : ¬ i < rr.length := by simpa using h
     have : i = rr.length := by omega
     subst this
     refine xr rfl (yk rfl ⟨⟨rfl, ⟨(qe _ _ _ _ (by omega) rfl).symm, q02 _ _ _ rfl, Or.inl rfl⟩, trivial⟩, z6 rfl⟩)
theorem y5v (x0 : Int) (x1 : List (List Cell)) (x2 : List (List Cell)) (h1 : WR 1048576 zr x1) (h2 : WR 1048576 zu x2) : PC Tryz.prog 138 [.agg [.s (.int .i64 x0), .l x1, .l x2]] (.one (.own true [.s (.int .i64 x0), .l 6 x1, .l 5 x2])) := by
 refine PC.begin Tryz.func138 rfl (by kernel_rfl) ?_
 refine z1 rfl (z8b _ h1) rfl ⟨trivial, trivial⟩ (z1 rfl (z5v _ h2) rfl ⟨trivial, trivial⟩ ?_)
 exact xr rfl (yk rfl ⟨⟨rfl, rfl, ⟨rfl, rfl, .inl rfl⟩, ⟨rfl, rfl, .inl rfl⟩, trivial⟩, z6 rfl⟩)
theorem q59 (rr : List (List Cell)) (hw : WR 1048576 qf rr) : PC Tryz.prog 58 [.one (.l rr)] (.one (.own false [.l 3 rr])) := by
 refine PC.begin Tryz.func58 rfl (by kernel_rfl) ?_
 have hlen := hw.1
 refine xs rfl rfl (xs rfl (nn_ _) (xs rfl (by omega) (xs rfl (by omega) ?_)))
 refine zc rfl (ι := Nat) (fun i => i ≤ rr.length) (fun i => ⟨[(4, sV (.int .i64 i)), (3, .one (.h 7 rr.length)), (0, .one (.b (.l rr)))], [(7, .arr true 3 0 (rr.take i ++ List.replicate (rr.length - i) [.s (.int .i64 0), .l [], .l []]))]⟩) (fun i => rr.length - i) 0 (Nat.zero_le _) ?_ ?_
 · repeat' (first | exact trivial | exact rfl | exact Or.inl rfl | refine And.intro ?_ ?_)
 · intro i hi J hJ
   refine xb rfl ?_ ?_ <;> intro h
   · have h : i < rr.length := by simpa using h
     obtain ⟨row, hg⟩ : ∃ row, rr[i]? = some row := ⟨_, List.getElem?_eq_getElem h⟩
     obtain ⟨x0, x1, x2, rfl, h1, h2⟩ := y0w (hw.2 row (List.mem_of_getElem? hg))
     refine xs rfl (nn_ _) (y9 rfl _ hg (xs rfl rfl ?_))
     refine z1 rfl (y5v _ _ _ h1 h2) rfl ⟨tv4, trivial⟩ ?_
     refine xs rfl (qe _ _ _ _ (by omega) rfl).symm (xs rfl (nn_ _) (y9 rfl [.s (.int .i64 0), .l [], .l []] (ym _ _ _ _ (by omega) rfl) (xs rfl rfl ?_)))
     refine xs rfl (qe _ _ _ _ (by omega) rfl).symm (y9 rfl [.s (.int .i64 0), .l [], .l []] (ym _ _ _ _ (by omega) rfl) (xs rfl (by decide) (xs rfl ⟨trivial, ⟨rfl, rfl⟩, ⟨rfl, rfl⟩, trivial⟩ ?_)))
     refine q8 rfl (hJ _ (i + 1) (by omega) (by omega) ?_)
     repeat' (first | exact trivial | exact rfl | exact Or.inl rfl | exact cwi (by omega) (by omega) (by omega) | refine And.intro ?_ ?_)
     exact y03 _ _ _ _ _ hg rfl
   · have h : ¬ i < rr.length := by simpa using h
     have : i = rr.length := by omega
     subst this
     refine xr rfl (yk rfl ⟨⟨rfl, ⟨(qe _ _ _ _ (by omega) rfl).symm, q02 _ _ _ rfl, Or.inl rfl⟩, trivial⟩, z6 rfl⟩)
theorem z5a (x0 : Int) (x1 : Int) (x2 : Int) (x3 : Int) (x4 : Int) (x5 : Int) (x6 : Int) (x7 : Int) (x8 : Int)  : PC Tryz.prog 139 [.agg [.s (.int .i64 x0), .s (.int .i64 x1), .s (.int .i64 x2), .s (.int .i64 x3), .s (.int .i64 x4), .s (.int .i64 x5), .s (.int .i64 x6), .s (.int .i64 x7), .s (.int .i64 x8)]] (.one (.own true [.s (.int .i64 x0), .s (.int .i64 x1), .s (.int .i64 x2), .s (.int .i64 x3), .s (.int .i64 x4), .s (.int .i64 x5), .s (.int .i64 x6), .s (.int .i64 x7), .s (.int .i64 x8)])) := by
 refine PC.begin Tryz.func139 rfl (by kernel_rfl) ?_
 refine z1 rfl (q3b _ _) rfl ⟨tv3, trivial⟩ ?_
 exact xr rfl (yk rfl ⟨⟨rfl, rfl, rfl, rfl, rfl, rfl, rfl, rfl, rfl, rfl, trivial⟩, z6 rfl⟩)
theorem q4h (rr : List (List Cell)) (hw : WR 1048576 qm rr) : PC Tryz.prog 59 [.one (.l rr)] (.one (.own false [.l 9 rr])) := by
 refine PC.begin Tryz.func59 rfl (by kernel_rfl) ?_
 have hlen := hw.1
 refine xs rfl rfl (xs rfl (nn_ _) (xs rfl (by omega) (xs rfl (by omega) ?_)))
 refine zc rfl (ι := Nat) (fun i => i ≤ rr.length) (fun i => ⟨[(4, sV (.int .i64 i)), (3, .one (.h 7 rr.length)), (0, .one (.b (.l rr)))], [(7, .arr true 9 0 (rr.take i ++ List.replicate (rr.length - i) [.s (.int .i64 0), .s (.int .i64 0), .s (.int .i64 0), .s (.int .i64 0), .s (.int .i64 0), .s (.int .i64 0), .s (.int .i64 0), .s (.int .i64 0), .s (.int .i64 0)]))]⟩) (fun i => rr.length - i) 0 (Nat.zero_le _) ?_ ?_
 · repeat' (first | exact trivial | exact rfl | exact Or.inl rfl | refine And.intro ?_ ?_)
 · intro i hi J hJ
   refine xb rfl ?_ ?_ <;> intro h
   · have h : i < rr.length := by simpa using h
     obtain ⟨row, hg⟩ : ∃ row, rr[i]? = some row := ⟨_, List.getElem?_eq_getElem h⟩
     obtain ⟨x0, x1, x2, x3, x4, x5, x6, x7, x8, rfl⟩ := y0m (hw.2 row (List.mem_of_getElem? hg))
     refine xs rfl (nn_ _) (y9 rfl _ hg (xs rfl rfl ?_))
     refine z1 rfl (z5a _ _ _ _ _ _ _ _ _) rfl ⟨tv10, trivial⟩ ?_
     refine xs rfl (qe _ _ _ _ (by omega) rfl).symm (xs rfl (nn_ _) (y9 rfl [.s (.int .i64 0), .s (.int .i64 0), .s (.int .i64 0), .s (.int .i64 0), .s (.int .i64 0), .s (.int .i64 0), .s (.int .i64 0), .s (.int .i64 0), .s (.int .i64 0)] (ym _ _ _ _ (by omega) rfl) (xs rfl rfl ?_)))
     refine xs rfl (qe _ _ _ _ (by omega) rfl).symm (y9 rfl [.s (.int .i64 0), .s (.int .i64 0), .s (.int .i64 0), .s (.int .i64 0), .s (.int .i64 0), .s (.int .i64 0), .s (.int .i64 0), .s (.int .i64 0), .s (.int .i64 0)] (ym _ _ _ _ (by omega) rfl) (xs rfl (by decide) (xs rfl tv10 ?_)))
     refine q8 rfl (hJ _ (i + 1) (by omega) (by omega) ?_)
     repeat' (first | exact trivial | exact rfl | exact Or.inl rfl | exact cwi (by omega) (by omega) (by omega) | refine And.intro ?_ ?_)
     exact y03 _ _ _ _ _ hg rfl
   · have h : ¬ i < rr.length := by simpa using h
     have : i = rr.length := by omega
     subst this
     refine xr rfl (yk rfl ⟨⟨rfl, ⟨(qe _ _ _ _ (by omega) rfl).symm, q02 _ _ _ rfl, Or.inl rfl⟩, trivial⟩, z6 rfl⟩)
theorem y59 (x0 : List (List Cell)) (x1 : List (List Cell)) (x2 : List (List Cell)) (x3 : List (List Cell)) (x4 : List (List Cell)) (h0 : WR 1048576 q7 x0) (h1 : WR 1048576 zg x1) (h2 : WR 1048576 zb x2) (h3 : WR 1048576 qf x3) (h4 : WR 1048576 qm x4) : PC Tryz.prog 11 [.agg [.l x0, .l x1, .l x2, .l x3, .l x4]] (.one (.own true [.l 2 x0, .l 6 x1, .l 1 x2, .l 3 x3, .l 9 x4])) := by
 refine PC.begin Tryz.func11 rfl (by kernel_rfl) ?_
 refine z1 rfl (z1m _ h0) rfl ⟨trivial, trivial⟩ (z1 rfl (q5v _ h1) rfl ⟨trivial, trivial⟩ (z1 rfl (z3l _ h2) rfl ⟨trivial, trivial⟩ (z1 rfl (q59 _ h3) rfl ⟨trivial, trivial⟩ (z1 rfl (q4h _ h4) rfl ⟨trivial, trivial⟩ ?_))))
 exact xr rfl (yk rfl ⟨⟨rfl, ⟨rfl, rfl, .inl rfl⟩, ⟨rfl, rfl, .inl rfl⟩, ⟨rfl, rfl, .inl rfl⟩, ⟨rfl, rfl, .inl rfl⟩, ⟨rfl, rfl, .inl rfl⟩, trivial⟩, z6 rfl⟩)
theorem y00 {α : Type} {f : α → List Cell} {P : α → Prop} {N : Nat} {e : Sh} : ∀ {rr : List (List Cell)}, WR N e rr → (∀ row, WT N e row → ∃ x, row = f x ∧ P x) → ∃ us : List α, rr = us.map f ∧ us.length ≤ N ∧ ∀ x ∈ us, P x
 | [], _, _ => ⟨[], rfl, Nat.zero_le _, fun x hx => by cases hx⟩
 | row :: rr, h, hc => by
   obtain ⟨x, hx, hp⟩ := hc row (h.2 row List.mem_cons_self)
   obtain ⟨us, hu, _, hps⟩ := y00 (rr := rr) ⟨by have := h.1; simp at this; omega, fun r hr => h.2 r (List.mem_cons_of_mem _ hr)⟩ hc
   refine ⟨x :: us, by rw [hx, hu]; rfl, by have := h.1; rw [hu] at this; simpa using this, fun y hy => ?_⟩
   rcases List.mem_cons.1 hy with rfl | hy
   · exact hp
   · exact hps y hy
theorem q8n {N : Nat} (row : List Cell) (h : WT N q0a row) : ∃ x : Leg, row = x.cs ∧ True := by
 obtain ⟨a0, a1, a2, a3, rfl⟩ := z31 h
 exact ⟨⟨a0, a1, a2, a3⟩, rfl, trivial⟩
theorem q4n {N : Nat} (row : List Cell) (h : WT N ye row) : ∃ x : Bal, row = x.cs ∧ True := by
 obtain ⟨a0, a1, a2, rfl⟩ := z0m h
 exact ⟨⟨a0, a1, a2⟩, rfl, trivial⟩
theorem y4o {N : Nat} (row : List Cell) (h : WT N zj row) : ∃ x : Mk, row = x.cs ∧ True := by
 obtain ⟨a0, a1, rfl⟩ := z1x h
 exact ⟨⟨a0, a1⟩, rfl, trivial⟩
theorem z4p {N : Nat} (row : List Cell) (h : WT N zp row) : ∃ x : Vt, row = x.cs ∧ True := by
 obtain ⟨a0, a1, rfl⟩ := q1x h
 exact ⟨⟨a0, a1⟩, rfl, trivial⟩
theorem q6j {N : Nat} (row : List Cell) (h : WT N zu row) : ∃ x : Hd, row = x.cs ∧ True := by
 obtain ⟨a0, a1, a2, a3, a4, rfl⟩ := z16 h
 exact ⟨⟨a0, a1, a2, a3, a4⟩, rfl, trivial⟩
theorem q4o {N : Nat} (row : List Cell) (h : WT N qm row) : ∃ x : Msg, row = x.cs ∧ True := by
 obtain ⟨a0, a1, a2, a3, a4, a5, a6, a7, a8, rfl⟩ := y0m h
 exact ⟨⟨a0, a1, a2, a3, a4, a5, a6, a7, a8⟩, rfl, trivial⟩
theorem z64 {N : Nat} (row : List Cell) (h : WT N (.i .i64 .nil) row) : ∃ x : Int, row = [i64 x] ∧ True := by
 obtain ⟨x0, _, rfl, hnil⟩ := h.qw
 obtain rfl := hnil.z00
 exact ⟨x0, rfl, trivial⟩
theorem z1v (row : List Cell) (h : WT 1048576 q7 row) : ∃ x : Con, row = x.cs ∧ x.legs.length ≤ 1048576 := by
 obtain ⟨a, b, rfl, h1⟩ := q0f h
 obtain ⟨us, rfl, hl, _⟩ := y00 h1 q8n
 exact ⟨⟨a, us⟩, rfl, hl⟩
theorem z6k (row : List Cell) (h : WT 1048576 zg row) : ∃ x : Shd, row = x.cs ∧ qbp x := by
 obtain ⟨a, b, c, d, e, f, rfl, h1, h2, h3, h4, h5⟩ := y16 h
 obtain ⟨u1, rfl, l1, _⟩ := y00 h1 q4n
 obtain ⟨u2, rfl, l2, _⟩ := y00 h2 y4o
 obtain ⟨u3, rfl, l3, p3⟩ := y00 h3 z1v
 obtain ⟨u4, rfl, l4, _⟩ := y00 h4 y4o
 obtain ⟨u5, rfl, l5, _⟩ := y00 h5 z64
 exact ⟨⟨a, u1, u2, u3, u4, u5⟩, rfl, l1, l2, l3, l4, l5, p3⟩
theorem z7e (row : List Cell) (h : WT 1048576 yo row) : ∃ x : Slt, row = x.cs ∧ x.cast.length ≤ 1048576 := by
 obtain ⟨a, b, c, d, e, f, rfl, h1⟩ := y1x h
 obtain ⟨u1, rfl, l1, _⟩ := y00 h1 z4p
 exact ⟨⟨a, b, c, d, e, u1⟩, rfl, l1⟩
theorem q40 (row : List Cell) (h : WT 1048576 zb row) : ∃ x : Acc, row = x.cs ∧ y2i x := by
 obtain ⟨a, rfl, h1⟩ := y0f h
 obtain ⟨u1, rfl, l1, p1⟩ := y00 h1 z7e
 exact ⟨⟨u1⟩, rfl, l1, p1⟩
theorem z8o (row : List Cell) (h : WT 1048576 zr row) : ∃ x : Tr, row = x.cs ∧ qan x := by
 obtain ⟨a, b, c, d, e, f, rfl, h1, h2⟩ := y31 h
 obtain ⟨u1, rfl, l1, _⟩ := y00 h1 z64
 obtain ⟨u2, rfl, l2, _⟩ := y00 h2 z4p
 exact ⟨⟨a, b, c, d, u1, u2⟩, rfl, l1, l2⟩
theorem y5f (row : List Cell) (h : WT 1048576 qf row) : ∃ x : Ldr, row = x.cs ∧ q9o x := by
 obtain ⟨a, b, c, rfl, h1, h2⟩ := y0w h
 obtain ⟨u1, rfl, l1, p1⟩ := y00 h1 z8o
 obtain ⟨u2, rfl, l2, _⟩ := y00 h2 q6j
 exact ⟨⟨a, u1, u2⟩, rfl, l1, l2, p1⟩
theorem z4o (row : List Cell) (h : WT 1048576 qr row) : ∃ x : Clu, row = x.cs ∧ qz x := by
 obtain ⟨a, b, c, d, e, rfl, h1, h2, h3, h4, h5⟩ := q10 h
 obtain ⟨u1, rfl, l1, p1⟩ := y00 h1 z1v
 obtain ⟨u2, rfl, l2, p2⟩ := y00 h2 z6k
 obtain ⟨u3, rfl, l3, p3⟩ := y00 h3 q40
 obtain ⟨u4, rfl, l4, p4⟩ := y00 h4 y5f
 obtain ⟨u5, rfl, l5, _⟩ := y00 h5 q4o
 exact ⟨⟨u1, u2, u3, u4, u5⟩, rfl, ⟨l1, p1⟩, ⟨l2, p2⟩, ⟨l3, p3⟩, ⟨l4, p4⟩, l5⟩
theorem y40 {f : List Cell → Nat} {row : List Cell} : ∀ {rows : List (List Cell)}, row ∈ rows → f row ≤ z0f f rows
 | r :: rows, h => by
   rw [z0f]
   rcases List.mem_cons.1 h with rfl | h
   · omega
   · have := y40 (f := f) h; omega
theorem yb3 {N M : Nat} {e : Sh} {cs : List Cell} (hw : WT N e cs) : tot e cs ≤ M → WT M e cs := by
 induction hw with
 | nil => exact fun _ => .nil
 | i n _ ih => exact fun h => .i n (ih h)
 | b x _ ih => exact fun h => .b x (ih h)
 | @l e' r' cs' rows h1 h2 h3 ih1 ih2 =>
   intro h
   simp only [tot] at h
   exact .l rows (by omega) (fun row hr => ih1 row hr (by have := y40 (f := tot e') hr; omega)) (ih2 (by omega))
end Go.Proofs.YtohbmmpkcibnpaaGreat
end
section
namespace Go.Proofs.YtohbmmpkcibnpaaGreat
open Go Go.Sx
set_option maxRecDepth 20000
set_option maxHeartbeats 4000000
theorem qar (x0 x1 x2 x3 x4 : List (List Cell)) (hw : WT 9223372036854775807 qr [.l x0, .l x1, .l x2, .l x3, .l x4]) (b : Nat) (hb : b ≤ 1048576) :
 PC Tryz.prog 9 [.agg [.l x0, .l x1, .l x2, .l x3, .l x4], .one (i64 b)] (rI (-1)) ∨ ∃ c : Clu, x0 = c.cons.map Con.cs ∧ x1 = c.shs.map Shd.cs ∧ x2 = c.accs.map Acc.cs ∧ x3 = c.ldrs.map Ldr.cs ∧ x4 = c.msgs.map Msg.cs ∧ qz c ∧ (WT 1048576 qr c.cs ∧ tot qr c.cs ≤ b) ∧
  (∃ n : Nat, n ≤ b ∧ PC Tryz.prog 9 [.agg c.cs, .one (i64 b)] (rI n)) ∧ PC Tryz.prog 11 [.agg c.cs] (.one (.own true [.l 2 (c.cons.map Con.cs), .l 6 (c.shs.map Shd.cs), .l 1 (c.accs.map Acc.cs), .l 3 (c.ldrs.map Ldr.cs), .l 9 (c.msgs.map Msg.cs)])) ∧
  PC Tryz.prog 14 [.agg c.cs, .agg c.cs] (rB true) := by
 obtain ⟨_, _, _, _, _, e, k0, k1, k2, k3, k4⟩ := q10 hw
 cases e
 have hsz := z58 x0 x1 x2 x3 x4 b k0 k1 k2 k3 k4 (by omega) (by omega)
 by_cases ht : tot qr [.l x0, .l x1, .l x2, .l x3, .l x4] ≤ b
 · right
   have hs : szn b (tot qr [.l x0, .l x1, .l x2, .l x3, .l x4]) = ((b - tot qr [.l x0, .l x1, .l x2, .l x3, .l x4] : Nat) : Int) := by
    unfold szn; rw [if_neg (by omega)]; omega
   rw [hs] at hsz
   have hwt := yb3 hw (Nat.le_trans ht hb)
   obtain ⟨_, _, _, _, _, e, m0, m1, m2, m3, m4⟩ := q10 hwt
   cases e
   obtain ⟨c, ec, ho⟩ := z4o _ hwt
   have up : ∀ {e : Sh} {r : List (List Cell)}, WR 1048576 e r → WR 9000000000000000000 e r := fun h => h.mono (by omega)
   have heq := z4q x0 x1 x2 x3 x4 x0 x1 x2 x3 x4 (up m0) (up m1) (up m2) (up m3) (up m4) (up m0) (up m1) (up m2) (up m3) (up m4)
   rw [show dE (α := List Cell) [.l x0, .l x1, .l x2, .l x3, .l x4] [.l x0, .l x1, .l x2, .l x3, .l x4] = true from (Value.bool.inj (yx rfl)).symm] at heq
   have hto := y59 x0 x1 x2 x3 x4 m0 m1 m2 m3 m4
   simp only [Clu.cs, List.cons.injEq, Cell.l.injEq, and_true] at ec
   obtain ⟨rfl, rfl, rfl, rfl, rfl⟩ := ec
   exact ⟨c, rfl, rfl, rfl, rfl, rfl, ho, ⟨hwt, ht⟩, ⟨_, Nat.sub_le _ _, hsz⟩, hto, heq⟩
 · left
   have hs : szn b (tot qr [.l x0, .l x1, .l x2, .l x3, .l x4]) = -1 := by
    unfold szn; rw [if_pos (by omega)]
   rw [hs] at hsz
   exact hsz
theorem yad (us : List Vt) : yz (us.map Vt.cs) := fun row hr => by
 obtain ⟨x, _, rfl⟩ := List.mem_map.1 hr
 intro c hc
 simp only [Vt.cs, List.mem_cons, List.not_mem_nil, or_false] at hc
 rcases hc with rfl | rfl <;> exact ⟨_, rfl⟩
theorem z2d (us : List Vt) (hl : us.length ≤ 1048576) : PC Tryz.prog 355 [.one (.l (us.map Vt.cs))] (.one (.own false [.l 2 (us.map Vt.cs)])) := by
 refine PC.begin Tryz.func355 rfl (by kernel_rfl) ?_
 have hsc := yad us
 refine qc2 rfl (fun b0 b0' => ?_)
 refine xb rfl ?_ ?_ <;> intro b1
 refine xr rfl (yk rfl ⟨⟨rfl, ?_, trivial⟩, z6 rfl⟩); rotate_left
 refine xs rfl trivial (xs rfl rfl (xs rfl (by simp) (xs rfl (fun _ => hsc) (xs rfl (by simp; omega) (xs rfl (by simp; omega) ?_)))))
 refine xr rfl (yk rfl ⟨⟨rfl, ⟨?_, rfl, .inl rfl⟩, trivial⟩, z6 rfl⟩); rotate_left
 · exact b0' b1
 · simp
theorem q5f (s : Slt) (hl : s.cast.length ≤ 1048576) : PC Tryz.prog 360 [.agg s.cs] (.one (.own true [.s (.int .i64 s.c), .s (.int .i64 s.s), .s (.int .i64 s.p), .s (.int .i64 s.lb), .s (.int .i64 s.lv), .l 2 (s.cast.map Vt.cs)])) := by
 refine PC.begin Tryz.func360 rfl (by kernel_rfl) ?_
 have h1 := z2d s.cast hl
 refine z1 rfl (h1) rfl ⟨trivial, trivial⟩ ?_
 refine xr rfl (yk rfl ⟨⟨rfl, rfl, rfl, rfl, rfl, rfl, ⟨rfl, rfl, .inl rfl⟩, trivial⟩, z6 rfl⟩)
theorem y7p (s : Slt) (hl : s.cast.length ≤ 1048576) : PC Tryz.prog 270 [.agg s.cs] (.one (.own true [.s (.int .i64 s.c), .s (.int .i64 s.s), .s (.int .i64 s.p), .s (.int .i64 s.lb), .s (.int .i64 s.lv), .l 2 (s.cast.map Vt.cs)])) := by
 refine PC.begin Tryz.func270 rfl (by kernel_rfl) ?_
 have hsc := yad s.cast
 refine xs rfl trivial (xs rfl rfl (xs rfl (by simp) (xs rfl (fun _ => hsc) (xs rfl (by simp; omega) (xs rfl (by simp; omega) ?_)))))
 refine xr rfl (yk rfl ⟨⟨rfl, rfl, rfl, rfl, rfl, rfl, ⟨?_, rfl, .inl rfl⟩, trivial⟩, z6 rfl⟩)
 all_goals exact List.length_append.symm
theorem z8k (us : List Slt) (f : Slt → Int) (fn : Nat) (t : Slt) (hf : ∀ x ∈ us, PC Tryz.prog fn [.agg x.cs, .agg t.cs] (rI (f x))) (hl : us.length ≤ 1048576) : PC Tryz.prog 427 [.one (.l (us.map Slt.cs)), .agg t.cs, .one (.f fn [])] (bsV f us) := by
 refine PC.begin Tryz.func427 rfl (by kernel_rfl) ?_
 have hn : (us.map Slt.cs).length = us.length := by simp
 refine zc rfl (ι := Nat × Nat) (fun x => x.1 ≤ x.2 ∧ x.2 ≤ us.length ∧ bsr (bsC f us) x.1 x.2 = bsP f us) (fun x => ⟨[(9, sV (.int .i64 x.1)), (10, sV (.int .i64 x.2)), (8, sV (.int .i64 (us.map Slt.cs).length)), (0, .one (.b (.l (us.map Slt.cs)))), (4, .one (.a 4 0)), (2, .one (.b (.f fn [])))], [(4, .var (t.cs.map .b))]⟩) (fun x => x.2 - x.1) (0, us.length) ⟨Nat.zero_le _, Nat.le_refl _, rfl⟩ ?_ ?_
 · exact ⟨⟨rfl, ci (by simp), rfl, rfl, ⟨rfl, rfl, rfl⟩, rfl, trivial⟩, ⟨lcr, trivial⟩, rfl⟩
 · intro ⟨i, j⟩ ⟨hij, hj, he⟩ J hJ
   dsimp only at hij hj he ⊢
   refine xb rfl ?_ ?_ <;> intro h
   · have h : i < j := by simpa using h
     obtain ⟨x, hx⟩ := gx (xs := us) (i := (i + j) / 2) (by omega)
     have hg := z8s Slt.cs (i := i) (j := j) (by omega) (by omega) hx
     have hxm := List.mem_of_getElem? hx
     have hc := z1t (f := f) hx
     refine xs rfl (nn_ _) (q9 rfl [] (Tk (Rg 0 4) (.take 4 [6, 7] (.take 5 [6, 7] (.alt 6 (.take 7 [] .done) .nil)))) (by kernel_rfl) (xs rfl (q8r (by omega) (by omega)) (y9 rfl _ hg (xs rfl rfl (z1 rfl (hf _ hxm) rfl ⟨tv7, tv7, trivial⟩ ?_)))))
     refine xb rfl (fun b0 => ?_) (fun b0 => ?_); rotate_left
     rotate_left
     · refine q8 rfl (hJ _ ((i + j) / 2 + 1, j) ⟨by dsimp only; omega, hj, ?_⟩ (by dsimp only; omega) ⟨⟨?_, rfl, rfl, rfl, ⟨rfl, rfl, rfl⟩, rfl, trivial⟩, ⟨lcr, trivial⟩, rfl⟩)
       · rw [← he, y62 h (hc.trans b0)]
       · rw [half (by omega) (by omega)]; exact cwi (by omega) (by omega) (by omega)
     · refine q8 rfl (hJ _ (i, (i + j) / 2) ⟨by dsimp only; omega, by dsimp only; omega, ?_⟩ (by dsimp only; omega) ⟨⟨rfl, ci (half (by omega) (by omega)), rfl, rfl, ⟨rfl, rfl, rfl⟩, rfl, trivial⟩, ⟨lcr, trivial⟩, rfl⟩)
       rw [← he, z62 h (hc.trans b0)]
   · have h : ¬ i < j := by simpa using h
     rw [z3z h] at he
     by_cases hin : i < us.length
     · obtain ⟨x, hx⟩ := gx hin
       have hg := gm Slt.cs hx
       have hxm := List.mem_of_getElem? hx
       have hF := y1t he.symm hx
       refine q9 rfl [] (Tk (Rg 0 9) (.take 9 (Rg 11 5) (.take 10 (Rg 11 5) (.alt 11 (Tk (Rg 12 4) .done) .nil)))) (by kernel_rfl) ?_
       refine xb rfl ?_ ?_ <;> intro b0
       refine xj (k := 3) rfl (xs rfl (nn_ _) (y9 rfl _ hg (xs rfl rfl (xj (k := 3) rfl (z1 rfl (hf _ hxm) rfl ⟨tv7, tv7, trivial⟩ (xj (k := 2) rfl ?_))))))
       refine xr rfl (yk rfl ⟨(by decide), ⟨⟨rfl, ?_, trivial⟩, ⟨rfl, ?_, trivial⟩, trivial⟩, z6 rfl⟩); rotate_left
       rotate_left
       refine xj (k := 8) rfl ?_
       refine xr rfl (yk rfl ⟨(by decide), ⟨⟨rfl, ?_, trivial⟩, ⟨rfl, ?_, trivial⟩, trivial⟩, z6 rfl⟩); rotate_left
       rotate_left
       all_goals first | (exfalso; simp at b0; omega) | (refine vi ?_; rw [he]; done) | (refine vb ?_; rw [hF]; done)
     · have hF := z2m he.symm (by omega)
       refine q9 rfl [] (Tk (Rg 0 9) (.take 9 (Rg 11 5) (.take 10 (Rg 11 5) (.alt 11 (Tk (Rg 12 4) .done) .nil)))) (by kernel_rfl) ?_
       refine xb rfl ?_ ?_ <;> intro b0
       refine xj (k := 3) rfl ?_
       refine xs rfl (nn_ _) ?_; rotate_left
       refine xj (k := 8) rfl ?_
       refine xr rfl (yk rfl ⟨(by decide), ⟨⟨rfl, ?_, trivial⟩, ⟨rfl, ?_, trivial⟩, trivial⟩, z6 rfl⟩); rotate_left
       rotate_left
       all_goals first | (exfalso; simp at b0; omega) | (refine vi ?_; rw [he]; done) | (refine vb ?_; rw [hF]; done)
abbrev sOC (x : Slt) : List OC := [.s (.int .i64 x.c), .s (.int .i64 x.s), .s (.int .i64 x.p), .s (.int .i64 x.lb), .s (.int .i64 x.lv), .l 2 (x.cast.map Vt.cs)]
theorem y85 (a : Acc) (c s : Int) (hl : a.slots.length ≤ 1048576) : PC Tryz.prog 358 [.agg a.cs, .one (i64 c), .one (i64 s)] (bsV (z2j c s) a.slots) := by
 refine PC.begin Tryz.func358 rfl (by kernel_rfl) ?_
 have hbs := z8k a.slots (z2j c s) 344 ⟨c, s, 0, 0, 0, []⟩ (fun x _ => q14 x ⟨c, s, 0, 0, 0, []⟩) hl
 refine z1 rfl (hbs) rfl ⟨trivial, tv7, (fun _ h => nomatch h), trivial⟩ ?_
 refine xr rfl (yk rfl ⟨(by decide), ⟨⟨rfl, rfl, trivial⟩, ⟨rfl, rfl, trivial⟩, trivial⟩, z6 rfl⟩)
theorem q6s (c s : Int) : PC Tryz.prog 359 [.one (i64 c), .one (i64 s)] (.one (.own true (sOC ⟨c, s, -1, -1, 0, []⟩))) := by
 refine PC.begin Tryz.func359 rfl (by kernel_rfl) ?_
 refine z1 rfl (y1y) rfl trivial ?_
 refine xr rfl (yk rfl ⟨⟨rfl, rfl, rfl, rfl, rfl, rfl, rfl, trivial⟩, z6 rfl⟩)
theorem zae (a : Acc) (ho : y2i a) (h : a.fault = 0) (c s : Int) (h2 : 0 ≤ s ∧ s ≤ 2) : PC Tryz.prog 261 [.agg a.cs, .one (i64 c), .one (i64 s)] (.one (.own true (sOC (q13 a c s)))) := by
 refine PC.begin Tryz.func261 rfl (by kernel_rfl) ?_
 have hA := y85 a c s ho.1
 cases hx : a.slots.find? fun x => x.c == c && x.s == s with
 | none =>
   obtain ⟨e1, e2⟩ := y1h hx
   rw [e1]
   have hN := q6s c s
   refine z1 rfl (hA) rfl ⟨⟨trivial, trivial⟩, trivial, trivial, trivial⟩ ?_
   refine xb rfl ?_ ?_ <;> intro b0
   refine z1 rfl (hN) rfl tv3 ?_
   refine xr rfl (yk rfl ⟨⟨rfl, rfl, rfl, rfl, rfl, rfl, ⟨rfl, rfl, .inl rfl⟩, trivial⟩, z6 rfl⟩)
   exact absurd b0 (by simp; omega)
   all_goals first | (exfalso; simp_all; done) | skip
 | some x =>
   obtain ⟨e1, hm, e2, e3⟩ := q85 h h2 hx
   rw [e1]
   have hC := q5f x (ho.2 x hm)
   have hg := gm Slt.cs e3
   refine z1 rfl (hA) rfl ⟨⟨trivial, trivial⟩, trivial, trivial, trivial⟩ ?_
   refine xb rfl ?_ ?_ <;> intro b0
   exact absurd b0 (by simp; omega)
   refine xs rfl (nn_ _) (y9 rfl _ hg (xs rfl rfl (z1 rfl (hC) rfl ⟨tv7, trivial⟩ ?_)))
   refine xr rfl (yk rfl ⟨⟨rfl, rfl, rfl, rfl, rfl, rfl, ⟨rfl, rfl, .inl rfl⟩, trivial⟩, z6 rfl⟩)
   all_goals first | (exfalso; simp_all; done) | skip
theorem y39 (aa : List Acc) (hl : aa.length ≤ 1048576) (ho : ∀ a ∈ aa, y2i a) (hf : ∀ a ∈ aa, a.fault = 0) (c s : Int) (h2 : 0 ≤ s ∧ s ≤ 2) : PC Tryz.prog 155 [.one (.l (aa.map Acc.cs)), .one (i64 c), .one (i64 s)] (.one (.own false [.l 6 ((zn aa c s).map Slt.cs)])) := by
 refine PC.begin Tryz.func155 rfl (by kernel_rfl) ?_
 refine xs rfl trivial ?_
 refine zc rfl (ι := Nat) (fun i => i ≤ aa.length) (fun i => ⟨[(13, sV (.int .i64 i)), (12, sV (.int .i64 (aa.map Acc.cs).length)), (11, .one (.b (.l (aa.map Acc.cs)))), (7, .one (.h 10 ((zn (aa.take i) c s).map Slt.cs).length)), (1, sV (.int .i64 c)), (2, sV (.int .i64 s))], [(10, .arr true 6 0 ((zn (aa.take i) c s).map Slt.cs))]⟩) (fun i => aa.length - i) 0 (Nat.zero_le _) ?_ ?_
 · exact ⟨⟨rfl, rfl, rfl, ⟨rfl, rfl, rfl⟩, rfl, rfl, trivial⟩, ⟨⟨rfl, .inl rfl, .inl rfl⟩, trivial⟩, rfl⟩
 · intro i hi J hJ
   have hn : ∀ k, ((zn (aa.take k) c s).map Slt.cs).length = (aa.take k).length := fun k => by simp [zn]
   refine xb rfl ?_ ?_ <;> intro h
   · have h : i < aa.length := by simpa using h
     obtain ⟨x, hx⟩ := gx h
     have hg := gm Acc.cs hx
     have hm := List.mem_of_getElem? hx
     have hc := zae x (ho x hm) (hf x hm) c s h2
     have hst : (zn (aa.take (i + 1)) c s).map Slt.cs = (zn (aa.take i) c s).map Slt.cs ++ [(q13 x c s).cs] := by
      rw [List.take_add_one, hx]; simp [zn]
     have hni := hn i
     rw [List.length_take] at hni
     refine xs rfl (by simp) (y9 rfl _ hg (xs rfl rfl (z1 rfl (hc) rfl ⟨⟨trivial, trivial⟩, trivial, trivial, trivial⟩ (xs rfl ⟨trivial, trivial, trivial, trivial, trivial, ⟨rfl, rfl⟩, trivial⟩ (xs rfl rfl (xs rfl rfl (xs rfl (.inl rfl) (xs rfl (by simp [zn]; omega) (xs rfl (by simp [zn]; omega) ?_)))))))))
     exact q8 rfl (hJ _ (i + 1) (by omega) (by omega) ⟨⟨cwi (by omega) (by omega) (by omega), rfl, rfl, ⟨rfl, by rw [hst]; exact List.length_append.symm, rfl⟩, rfl, rfl, trivial⟩, ⟨⟨hst.symm, .inl rfl, .inl rfl⟩, trivial⟩, rfl⟩)
   · have h : i = aa.length := by have : ¬ i < aa.length := (by simpa using h); omega
     subst h
     rw [List.take_length]
     refine xr rfl (yk rfl ⟨⟨rfl, ⟨rfl, rfl, .inl rfl⟩, trivial⟩, z6 rfl⟩)
theorem q5p (c s : Int) (hc : 1 ≤ c ∧ c ≤ 1000000000) (h2 : 0 ≤ s ∧ s ≤ 2) : PC Tryz.prog 271 [.one (i64 c), .one (i64 s)] (.one (.own true (.s (.int .i64 0) :: .s (.int .i64 0) :: .s (.int .i64 0) :: sOC ⟨c, s, -1, -1, 0, []⟩))) := by
 refine PC.begin Tryz.func271 rfl (by kernel_rfl) ?_
 have e1 : within c 1 1000000000 = true := by simp [within]; omega
 have e2 : within s 0 2 = true := by simp [within]; omega
 refine z1 rfl (q31 _) rfl ⟨trivial, trivial⟩ ?_
 refine xb rfl ?_ ?_ <;> intro b0
 exact absurd b0 (by simp; omega)
 refine xj (k := 1) rfl (z1 rfl (qh _ _ _) rfl tv4 (xj (k := 2) rfl ?_))
 refine xb rfl ?_ ?_ <;> intro b1
 exact absurd b1 (by simp; omega)
 refine z1 rfl (y17) rfl trivial ?_
 refine xr rfl (yk rfl ⟨⟨rfl, rfl, rfl, rfl, rfl, rfl, rfl, rfl, rfl, rfl, trivial⟩, z6 rfl⟩)
 all_goals first | (exfalso; simp_all; done) | skip
theorem y82 (a : Acc) (ho : y2i a) (c s : Int) (hc : 1 ≤ c ∧ c ≤ 1000000000) (h2 : 0 ≤ s ∧ s ≤ 2) : PC Tryz.prog 163 [.agg a.cs, .one (i64 c), .one (i64 s)] (.one (.own true (sOC (q13 a c s)))) := by
 refine PC.begin Tryz.func163 rfl (by kernel_rfl) ?_
 obtain ⟨hl, hb⟩ := ho
 refine zc rfl (ι := Nat) (fun i => i ≤ a.slots.length ∧ ∀ (j : Nat) (x : Slt), j < i → a.slots[j]? = some x → ¬ (x.c = c ∧ x.s = s)) (fun i => ⟨[(7, sV (.int .i64 i)), (6, .one (.a 6 0)), (3, .one (.b (.p a.cs))), (1, sV (.int .i64 c)), (2, sV (.int .i64 s))], [(6, .var [.b (i64 0), .b (i64 0), .b (i64 0), .b (i64 0), .b (i64 0), .nil])]⟩) (fun i => a.slots.length - i) 0 ⟨Nat.zero_le _, fun j x hj => by omega⟩ ?_ ?_
 · exact ⟨⟨rfl, ⟨rfl, rfl, rfl⟩, ⟨rfl, rfl, rfl⟩, rfl, rfl, trivial⟩, ⟨⟨rfl, rfl, rfl, rfl, rfl, trivial, trivial⟩, trivial⟩, rfl⟩
 · intro i ⟨hi, h0⟩ J hJ
   refine xb rfl ?_ ?_ <;> intro h
   · have h : i < a.slots.length := by simpa using h
     obtain ⟨x, hx⟩ := gx h
     have hg := gm Slt.cs hx
     have hm := List.mem_of_getElem? hx
     have hC := y7p x (hb x hm)
     by_cases hxx : x.c = c ∧ x.s = s
     · have hf : (a.slots.find? fun x => x.c == c && x.s == s) = some x := by
        rw [List.find?_eq_some_iff_getElem]
        obtain ⟨hi2, he⟩ := List.getElem?_eq_some_iff.1 hx
        refine ⟨by simp [hxx], i, hi2, he, fun j hj => ?_⟩
        have := h0 j a.slots[j] hj (List.getElem?_eq_getElem (by omega))
        simp only [Bool.not_eq_true', Bool.and_eq_false_iff, beq_eq_false_iff_ne]
        by_cases e : (a.slots[j]).c = c
        · exact .inr fun e2 => this ⟨e, e2⟩
        · exact .inl e
       have e : q13 a c s = x := by unfold q13; rw [hf]; rfl
       rw [e]
       obtain ⟨rfl, rfl⟩ := hxx
       refine xs rfl (nn_ _) (y9 rfl _ hg (xs rfl rfl ?_))
       refine xb rfl ?_ ?_ <;> intro b0
       refine xj (k := 3) rfl (xs rfl (nn_ _) (y9 rfl _ hg (xs rfl rfl (xj (k := 5) rfl ?_))))
       refine xb rfl ?_ ?_ <;> intro b1
       refine xs rfl (nn_ _) (y9 rfl _ hg (xs rfl rfl (z1 rfl (hC) rfl ⟨tv7, trivial⟩ ?_)))
       refine xr rfl (yk rfl ⟨⟨rfl, rfl, rfl, rfl, rfl, rfl, ⟨rfl, rfl, .inl rfl⟩, trivial⟩, z6 rfl⟩)
       exact absurd b1 (by simp [*])
       exact absurd b0 (by simp [*])
       all_goals first | (exfalso; simp_all; done) | skip
     · skip
       refine xs rfl (nn_ _) (y9 rfl _ hg (xs rfl rfl ?_))
       refine xb rfl ?_ ?_ <;> intro b0
       refine xj (k := 3) rfl (xs rfl (nn_ _) (y9 rfl _ hg (xs rfl rfl (xj (k := 5) rfl ?_))))
       refine xb rfl ?_ ?_ <;> intro b1
       refine xs rfl (nn_ _) (y9 rfl _ hg ?_)
       refine xs rfl rfl ?_; rotate_left
       rotate_left
       refine xj (k := 9) rfl ?_; rotate_left
       all_goals first
        | exact q8 rfl (hJ _ (i + 1) ⟨by omega, fun j y hj hy => by
           by_cases e : j = i
           · subst e; rw [hx] at hy; cases hy; exact hxx
           · exact h0 j y (by omega) hy⟩ (by omega) ⟨⟨cwi (by omega) (by omega) (by omega), ⟨rfl, rfl, rfl⟩, rfl, rfl, rfl, trivial⟩, ⟨⟨rfl, rfl, rfl, rfl, rfl, trivial, trivial⟩, trivial⟩, rfl⟩)
        | (exfalso; simp_all; done)
        | skip
   · have h : i = a.slots.length := by have : ¬ i < a.slots.length := (by simpa using h); omega
     subst h
     have hf : (a.slots.find? fun x => x.c == c && x.s == s) = none := by
      rw [List.find?_eq_none]
      intro x hx
      obtain ⟨j, hj⟩ := List.mem_iff_getElem?.1 hx
      have := h0 j x (List.getElem?_eq_some_iff.1 hj).1 hj
      simpa using this
     rw [(y1h hf).1]
     have hN := q5p c s hc h2
     refine z1 rfl (hN) rfl tv3 ?_
     refine xr rfl (yk rfl ⟨⟨rfl, rfl, rfl, rfl, rfl, rfl, ⟨rfl, rfl, .inl rfl⟩, trivial⟩, z6 rfl⟩)
theorem y52 (aa : List Acc) (hl : aa.length ≤ 1048576) (ho : ∀ a ∈ aa, y2i a) (c s : Int) (hc : 1 ≤ c ∧ c ≤ 1000000000) (h2 : 0 ≤ s ∧ s ≤ 2) : PC Tryz.prog 70 [.one (.l (aa.map Acc.cs)), .one (i64 c), .one (i64 s)] (.one (.own false [.l 6 ((zn aa c s).map Slt.cs)])) := by
 refine PC.begin Tryz.func70 rfl (by kernel_rfl) ?_
 refine xs rfl trivial ?_
 refine zc rfl (ι := Nat) (fun i => i ≤ aa.length) (fun i => ⟨[(8, sV (.int .i64 i)), (0, .one (.b (.l (aa.map Acc.cs)))), (7, .one (.h 9 ((zn (aa.take i) c s).map Slt.cs).length)), (1, sV (.int .i64 c)), (2, sV (.int .i64 s))], [(9, .arr true 6 0 ((zn (aa.take i) c s).map Slt.cs))]⟩) (fun i => aa.length - i) 0 (Nat.zero_le _) ?_ ?_
 · exact ⟨⟨rfl, rfl, ⟨rfl, rfl, rfl⟩, rfl, rfl, trivial⟩, ⟨⟨rfl, .inl rfl, .inl rfl⟩, trivial⟩, rfl⟩
 · intro i hi J hJ
   have hn : ∀ k, ((zn (aa.take k) c s).map Slt.cs).length = (aa.take k).length := fun k => by simp [zn]
   refine xb rfl ?_ ?_ <;> intro h
   · have h : i < aa.length := by simpa using h
     obtain ⟨x, hx⟩ := gx h
     have hg := gm Acc.cs hx
     have hm := List.mem_of_getElem? hx
     have hcc := y82 x (ho x hm) c s hc h2
     have hst : (zn (aa.take (i + 1)) c s).map Slt.cs = (zn (aa.take i) c s).map Slt.cs ++ [(q13 x c s).cs] := by
      rw [List.take_add_one, hx]; simp [zn]
     have hni := hn i
     rw [List.length_take] at hni
     refine xs rfl (nn_ _) (y9 rfl _ hg (xs rfl rfl (z1 rfl (hcc) rfl ⟨⟨trivial, trivial⟩, trivial, trivial, trivial⟩ (xs rfl ⟨trivial, trivial, trivial, trivial, trivial, ⟨rfl, rfl⟩, trivial⟩ (xs rfl rfl (xs rfl rfl (xs rfl (.inl rfl) (xs rfl (by simp [zn]; omega) (xs rfl (by simp [zn]; omega) ?_)))))))))
     exact q8 rfl (hJ _ (i + 1) (by omega) (by omega) ⟨⟨cwi (by omega) (by omega) (by omega), rfl, ⟨rfl, by rw [hst]; exact List.length_append.symm, rfl⟩, rfl, rfl, trivial⟩, ⟨⟨hst.symm, .inl rfl, .inl rfl⟩, trivial⟩, rfl⟩)
   · have h : i = aa.length := by have : ¬ i < aa.length := (by simpa using h); omega
     subst h
     rw [List.take_length]
     refine xr rfl (yk rfl ⟨⟨rfl, ⟨rfl, rfl, .inl rfl⟩, trivial⟩, z6 rfl⟩)
theorem q8p (x y : Vt) : y0y [.int .i64 x.b, .int .i64 x.v] [.int .i64 y.b, .int .i64 y.v] = decide (x = y) := by
 by_cases h : x = y
 · subst h; simp [y0y]
 · rw [decide_eq_false h]
   cases x; cases y
   simpa [y0y] using h
theorem y93 (s : Slt) (v : Vt) (hl : s.cast.length ≤ 1048576) : PC Tryz.prog 268 [.agg s.cs, .agg v.cs] (rB (decide (v ∈ s.cast))) := by
 refine PC.begin Tryz.func268 rfl (by kernel_rfl) ?_
 refine zc rfl (ι := Nat) (fun i => i ≤ s.cast.length ∧ ∀ (j : Nat) (x : Vt), j < i → s.cast[j]? = some x → x ≠ v) (fun i => ⟨[(5, sV (.int .i64 i)), (2, .one (.b (.p s.cs))), (3, .one (.b (.p v.cs)))], []⟩) (fun i => s.cast.length - i) 0 ⟨Nat.zero_le _, fun j x hj => by omega⟩ ?_ ?_
 · exact ⟨⟨rfl, ⟨rfl, rfl, rfl⟩, ⟨rfl, rfl, rfl⟩, trivial⟩, trivial, rfl⟩
 · intro i ⟨hi, h0⟩ J hJ
   refine xb rfl ?_ ?_ <;> intro h
   · have h : i < s.cast.length := by simpa using h
     obtain ⟨x, hx⟩ := gx h
     have hg := gm Vt.cs hx
     have hev := q8p x v
     refine q9 rfl [] (.take 0 [] (.take 1 [3, 4, 6] (Tk [2, 3] (.take 4 [6] (.take 5 [6] (.take 6 [] .done)))))) (by kernel_rfl) (xs rfl (nn_ _) (y9 rfl _ hg (xs rfl rfl ?_)))
     refine xb rfl ?_ ?_ <;> intro b0
     refine xv rfl rfl rfl ?_; rotate_left
     rotate_left
     all_goals first
      | (refine vb ?_; rw [hev] at b0; have e := of_decide_eq_true b0; subst e; exact (decide_eq_true (List.mem_of_getElem? hx)).symm)
      | exact q8 rfl (hJ _ (i + 1) ⟨by omega, fun j y hj hy => by
         by_cases e : j = i
         · subst e; rw [hx] at hy; cases hy; rw [hev] at b0; exact of_decide_eq_false b0
         · exact h0 j y (by omega) hy⟩ (by omega) ⟨⟨cwi (by omega) (by omega) (by omega), rfl, rfl, trivial⟩, trivial, rfl⟩)
      | skip
   · have h : i = s.cast.length := by have : ¬ i < s.cast.length := (by simpa using h); omega
     have hn : decide (v ∈ s.cast) = false := decide_eq_false fun hm => by
      obtain ⟨j, hj⟩ := List.mem_iff_getElem?.1 hm
      exact h0 j v (by have := (List.getElem?_eq_some_iff.1 hj).1; omega) hj rfl
     rw [hn]
     refine xr rfl (yk rfl ⟨⟨rfl, rfl, trivial⟩, z6 rfl⟩)
theorem q6w (n : Nat) (hl : n ≤ 1048576) : PC Tryz.prog 269 [.one (i64 n)] (rI (z1l n)) := by
 refine PC.begin Tryz.func269 rfl (by kernel_rfl) ?_
 have hd : (n : Int).tdiv 2 = ((n / 2 : Nat) : Int) := rfl
 have hw : IntKind.i64.wrap (IntKind.i64.wrap ((n : Int).tdiv 2) + 1) = ((z1l n : Nat) : Int) := by
  rw [hd, wrap_i64 (n := ((n / 2 : Nat) : Int)) (by omega) (by omega), wrap_i64 (by omega) (by omega)]; rfl
 refine xs rfl ((by decide)) (xv rfl rfl rfl ?_)
 all_goals (refine vi ?_; exact hw)
theorem y67 (v : Vt) : ∀ out : List Vt, (q66 out v).length ≤ out.length + 1
 | [] => by simp [q66]
 | x :: xs => by
   have ih := y67 v xs
   rw [q66]
   split
   · simpa using ih
   · split
     · simp
     · simp
theorem z9u (sl : List Slt) (out : List Vt) (v : Vt) : (chS sl out v).length ≤ out.length + 1 := by
 unfold chS
 split
 · exact y67 v out
 · omega
theorem q3z (sl : List Slt) : ∀ (vs out : List Vt), (vs.foldl (chS sl) out).length ≤ out.length + vs.length
 | [], out => by simp
 | v :: vs, out => by
   have h1 := q3z sl vs (chS sl out v)
   have h2 := z9u sl out v
   simp only [List.foldl_cons, List.length_cons]
   omega
def chA (sl : List Slt) (i : Nat) : List Vt := (y1m (sl.take i)).foldl (chS sl) []
def chB (sl : List Slt) (i : Nat) (x : Slt) (j : Nat) : List Vt := (x.cast.take j).foldl (chS sl) (chA sl i)
theorem z8l {sl : List Slt} {i : Nat} {x : Slt} (hx : sl[i]? = some x) : chA sl (i + 1) = chB sl i x x.cast.length := by
 unfold chA chB chA
 rw [List.take_add_one, hx, List.take_length]
 simp [y1m]
theorem y8l {sl : List Slt} {i j : Nat} {x : Slt} {v : Vt} (hv : x.cast[j]? = some v) : chB sl i x (j + 1) = chS sl (chB sl i x j) v := by
 unfold chB
 rw [List.take_add_one, hv]
 simp
theorem q3c : ∀ {sl : List Slt}, (∀ s ∈ sl, s.cast.length ≤ 60) → (y1m sl).length ≤ 60 * sl.length
 | [], _ => by simp [y1m]
 | s :: sl, h => by
   have h1 := q3c (sl := sl) fun x hx => h x (by simp [hx])
   have h2 := h s (by simp)
   show (s.cast ++ y1m sl).length ≤ _
   rw [List.length_append, List.length_cons]
   omega
theorem q9t {sl : List Slt} (hl : sl.length ≤ 1048576) (hb : ∀ s ∈ sl, s.cast.length ≤ 60) {i j : Nat} {x : Slt} (hx : sl[i]? = some x) : (chB sl i x j).length ≤ 60 * 1048576 := by
 have h1 := q3z sl (x.cast.take j) (chA sl i)
 have h2 := q3z sl (y1m (sl.take i)) []
 have h3 := q3c (sl := sl.take i) fun s hs => hb s (List.mem_of_mem_take hs)
 have h4 := hb x (List.mem_of_getElem? hx)
 have h5 := (List.getElem?_eq_some_iff.1 hx).1
 rw [List.length_take] at h1 h3
 unfold chB
 unfold chA at h1
 simp only [List.length_nil] at h2
 unfold chA
 omega
theorem y8m {sl : List Slt} {k : Nat} {y : Slt} (v : Vt) (hy : sl[k]? = some y) : ((sl.take (k + 1)).countP fun s => decide (v ∈ s.cast)) = ((sl.take k).countP fun s => decide (v ∈ s.cast)) + (if v ∈ y.cast then 1 else 0) := by
 rw [List.take_add_one, hy, List.countP_append]
 simp
theorem y9v {sl : List Slt} {k : Nat} (v : Vt) : ((sl.take k).countP fun s => decide (v ∈ s.cast)) ≤ sl.length := Nat.le_trans List.countP_le_length (by rw [List.length_take]; omega)
theorem y3t (sl : List Slt) (hl : sl.length ≤ 1048576) (hb : ∀ s ∈ sl, s.cast.length ≤ 60) : PC Tryz.prog 162 [.one (.l (sl.map Slt.cs))] (.one (.bor false [.l ((qp sl).map Vt.cs)])) := by
 refine PC.begin Tryz.func162 rfl (by kernel_rfl) ?_
 refine xs rfl trivial ?_
 refine zc rfl (ι := Nat) (fun i => i ≤ sl.length) (fun i => ⟨[(4, sV (.int .i64 i)), (3, .one (.b (.l ((chA sl i).map Vt.cs)))), (0, .one (.b (.l (sl.map Slt.cs))))], []⟩) (fun i => sl.length - i) 0 (Nat.zero_le _) ?_ ?_
 · exact ⟨⟨rfl, ⟨rfl, rfl, rfl⟩, rfl, trivial⟩, trivial, rfl⟩
 · intro i hi J hJ
   refine xb rfl ?_ ?_ <;> intro h
   · have h : i < sl.length := by simpa using h
     obtain ⟨x, hx⟩ := gx h
     have hg := gm Slt.cs hx
     have hxb := hb x (List.mem_of_getElem? hx)
     refine zc rfl (ι := Nat) (fun j => j ≤ x.cast.length) (fun j => ⟨[(5, sV (.int .i64 j)), (4, sV (.int .i64 i)), (3, .one (.b (.l ((chB sl i x j).map Vt.cs)))), (0, .one (.b (.l (sl.map Slt.cs))))], []⟩) (fun j => x.cast.length - j) 0 (Nat.zero_le _) ?_ ?_
     · exact ⟨⟨rfl, rfl, rfl, rfl, trivial⟩, trivial, rfl⟩
     · intro j hj J2 hJ2
       by_cases hjl : j < x.cast.length
       · obtain ⟨v, hv⟩ := gx hjl
         have hgv := gm Vt.cs hv
         refine xs rfl (nn_ _) (y9 rfl _ hg (xs rfl rfl ?_))
         refine xb rfl ?_ ?_ <;> intro b0
         refine xs rfl (nn_ _) (y9 rfl _ hg (xs rfl rfl (xs rfl (nn_ _) (y9 rfl _ hgv ?_))))
         refine xs rfl rfl ?_; rotate_left
         exact absurd b0 (by simp; omega)
         · refine zc rfl (ι := Nat) (fun k => k ≤ sl.length) (fun k => ⟨[(8, sV (.int .i64 k)), (7, sV (.int .i64 ((sl.take k).countP fun s => decide (v ∈ s.cast) : Nat))), (6, .one (.a 6 0)), (5, sV (.int .i64 j)), (4, sV (.int .i64 i)), (3, .one (.b (.l ((chB sl i x j).map Vt.cs)))), (0, .one (.b (.l (sl.map Slt.cs))))], [(6, .var [.b (i64 v.b), .b (i64 v.v)])]⟩) (fun k => sl.length - k) 0 (Nat.zero_le _) ?_ ?_
           · exact ⟨⟨rfl, rfl, ⟨rfl, rfl, rfl⟩, rfl, rfl, rfl, rfl, trivial⟩, ⟨⟨rfl, rfl, trivial⟩, trivial⟩, rfl⟩
           · intro k hk J3 hJ3
             refine xb rfl ?_ ?_ <;> intro h3
             · have h3 : k < sl.length := by simpa using h3
               obtain ⟨y, hy⟩ := gx h3
               have hgy := gm Slt.cs hy
               have hcs := y93 y v (by have := hb y (List.mem_of_getElem? hy); omega)
               have hst := y8m v hy
               have hcl := y9v (sl := sl) (k := k) v
               refine q9 rfl [] (Tk [0, 1, 2] (.take 3 [5] (.take 4 [5] (.alt 5 .done .nil)))) (by kernel_rfl) (xs rfl (nn_ _) (y9 rfl _ hgy (xs rfl rfl (z1 rfl (hcs) rfl ⟨tv7, tv3, trivial⟩ ?_))))
               refine xb rfl (fun b0 => ?_) (fun b0 => ?_); rotate_left
               rotate_left
               all_goals first
                | exact q8 rfl (hJ3 _ (k + 1) (by omega) (by omega) ⟨⟨cwi (by omega) (by omega) (by omega), ci (by rw [hst, if_pos (of_decide_eq_true b0)]; exact wrap_i64 (by omega) (by omega)), ⟨rfl, rfl, rfl⟩, rfl, rfl, rfl, rfl, trivial⟩, ⟨⟨rfl, rfl, trivial⟩, trivial⟩, rfl⟩)
                | exact q8 rfl (hJ3 _ (k + 1) (by omega) (by omega) ⟨⟨cwi (by omega) (by omega) (by omega), ci (by rw [hst, if_neg (of_decide_eq_false b0)]; rfl), ⟨rfl, rfl, rfl⟩, rfl, rfl, rfl, rfl, trivial⟩, ⟨⟨rfl, rfl, trivial⟩, trivial⟩, rfl⟩)
                | skip
             · have h3 : k = sl.length := by have : ¬ k < sl.length := (by simpa using h3); omega
               subst h3
               rw [List.take_length]
               have hlo := q9t hl hb hx (j := j)
               have hnx := y8l (sl := sl) (i := i) hv
               have hok : okV sl v = decide (z1l sl.length ≤ sl.countP fun s => decide (v ∈ s.cast)) := rfl
               have hQ : PC Tryz.prog 269 [.one (i64 (sl.map Slt.cs).length)] (rI (z1l sl.length)) := by rw [List.length_map]; exact q6w sl.length hl
               have hrw : ∀ row ∈ (chB sl i x j).map Vt.cs, row.length = 2 := fun row hr => by obtain ⟨y, _, rfl⟩ := List.mem_map.1 hr; rfl
               have hsc := yad (chB sl i x j)
               have hcn : (sl.countP fun s => decide (v ∈ s.cast)) ≤ sl.length := List.countP_le_length
               generalize (sl.countP fun s => decide (v ∈ s.cast)) = cn at hok hcn
               generalize chB sl i x j = out at hnx hlo hrw hsc
               generalize hnw : chB sl i x (j + 1) = nw at hnx
               refine zc rfl (ι := Nat) (fun p => p ≤ out.length ∧ ∀ (q : Nat) (z : Vt), q < p → out[q]? = some z → z.b < v.b) (fun p => ⟨[(9, sV (.int .i64 p)), (7, sV (.int .i64 (cn : Nat))), (6, .one (.a 6 0)), (5, sV (.int .i64 j)), (4, sV (.int .i64 i)), (3, .one (.b (.l (out.map Vt.cs)))), (0, .one (.b (.l (sl.map Slt.cs))))], [(6, .var [.b (i64 v.b), .b (i64 v.v)])]⟩) (fun p => out.length - p) 0 ⟨Nat.zero_le _, fun q z hq => by omega⟩ ?_ ?_
               · exact ⟨⟨rfl, rfl, ⟨rfl, rfl, rfl⟩, rfl, rfl, rfl, rfl, trivial⟩, ⟨⟨rfl, rfl, trivial⟩, trivial⟩, rfl⟩
               · intro p ⟨hp, h0⟩ J4 hJ4
                 by_cases hpl : p < out.length
                 · obtain ⟨z, hz⟩ := gx hpl
                   have hgz := gm Vt.cs hz
                   by_cases hzb : z.b < v.b
                   · skip
                     refine q9 rfl [] (Tk (Rg 0 9) (.take 9 [12, 13] (.take 10 [] (.take 11 [12, 13] (Tk [12, 13] .done))))) (by kernel_rfl) ?_
                     refine xb rfl ?_ ?_ <;> intro b0
                     refine xj (k := 2) rfl (xs rfl (nn_ _) (y9 rfl _ hgz (xs rfl rfl (xj (k := 6) rfl ?_))))
                     refine xb rfl (fun b1 => ?_) (fun b1 => ?_); rotate_left
                     exact absurd b1 (by simp; omega)
                     exact absurd b0 (by simp; omega)
                     all_goals first
                      | exact q8 rfl (hJ4 _ (p + 1) ⟨by omega, fun q y hq hy => by
                         by_cases e : q = p
                         · subst e; rw [hz] at hy; cases hy; exact hzb
                         · exact h0 q y (by omega) hy⟩ (by omega) ⟨⟨cwi (by omega) (by omega) (by omega), rfl, ⟨rfl, rfl, rfl⟩, rfl, rfl, rfl, rfl, trivial⟩, ⟨⟨rfl, rfl, trivial⟩, trivial⟩, rfl⟩)
                      | (exfalso; simp_all; done)
                      | skip
                   · skip
                     have hun : decide ((cn : Int) ≥ ((z1l sl.length : Nat) : Int)) = false → Cell.l (out.map Vt.cs) = Cell.l ((chB sl i x (j + 1)).map Vt.cs) := fun e => by
                      rw [hnw, hnx, chS, if_neg (by rw [hok]; simpa using e)]
                     have hye : decide ((cn : Int) ≥ ((z1l sl.length : Nat) : Int)) = true → okV sl v = true := fun e => by rw [hok]; simpa using e
                     have hcut : List.drop ((none : Option Int).getD 0).toNat (List.take ((some (p : Int)).getD ((out.map Vt.cs).length : Nat)).toNat (out.map Vt.cs)) = (out.take p).map Vt.cs := by simp [List.map_take]
                     have hcut2 : List.drop ((some (p : Int)).getD 0).toNat (List.take ((none : Option Int).getD ((out.map Vt.cs).length : Nat)).toNat (out.map Vt.cs)) = (out.drop p).map Vt.cs := by rw [show ((none : Option Int).getD ((out.map Vt.cs).length : Nat)).toNat = (out.map Vt.cs).length from rfl, List.take_length]; simp [List.map_drop]
                     have hins : ∀ e : out.take p ++ v :: out.drop p = nw, (([] ++ List.drop ((none : Option Int).getD 0).toNat (List.take ((some (p : Int)).getD ((out.map Vt.cs).length : Nat)).toNat (out.map Vt.cs))) ++ [[i64 v.b, i64 v.v]]) ++ List.drop ((some (p : Int)).getD 0).toNat (List.take ((none : Option Int).getD ((out.map Vt.cs).length : Nat)).toNat (out.map Vt.cs)) = (chB sl i x (j + 1)).map Vt.cs := fun e => by
                      rw [hcut, hcut2, hnw, ← e]; simp
                     have hat := y5i (v := v) hp h0 (fun y hy => by rw [hz] at hy; cases hy; exact hzb)
                     have hsame : y0y [.int .i64 z.b, .int .i64 z.v] [.int .i64 v.b, .int .i64 v.v] = true → Cell.l (out.map Vt.cs) = Cell.l ((chB sl i x (j + 1)).map Vt.cs) := fun e => by
                      rw [q8p] at e
                      have e := of_decide_eq_true e
                      rw [hnw, hnx, chS, hat, hz, if_pos (congrArg some e)]
                      split <;> rfl
                     have hdif : okV sl v = true → y0y [.int .i64 z.b, .int .i64 z.v] [.int .i64 v.b, .int .i64 v.v] = false → out.take p ++ v :: out.drop p = nw := fun e1 e => by
                      rw [q8p] at e
                      have e := of_decide_eq_false e
                      rw [hnx, chS, if_pos e1, hat, hz, if_neg (by simpa using e)]
                     refine q9 rfl [] (Tk (Rg 0 9) (.take 9 [12, 13] (.take 10 [] (.take 11 [12, 13] (Tk [12, 13] .done))))) (by kernel_rfl) ?_
                     refine xb rfl ?_ ?_ <;> intro b0
                     refine xj (k := 2) rfl (xs rfl (nn_ _) (y9 rfl _ hgz (xs rfl rfl (xj (k := 6) rfl ?_))))
                     refine xb rfl ?_ ?_ <;> intro b1
                     exact absurd b1 (by simp; omega)
                     refine q9 rfl [] (Tk [0, 1, 2] (.alt 3 (Tk (Rg 4 10) (.take 14 (Rg 16 3) (.take 15 (Rg 16 3) (Tk [16, 17, 18] .done)))) .nil)) (by kernel_rfl) (z1 rfl (hQ) rfl ⟨trivial, trivial⟩ ?_)
                     refine xb rfl ?_ ?_ <;> intro b2
                     refine xj (k := 4) rfl ?_
                     refine xb rfl ?_ ?_ <;> intro b3
                     exact absurd b3 (by simp; omega)
                     refine xj (k := 2) rfl (xs rfl (nn_ _) (y9 rfl _ hgz (xs rfl rfl (xj (k := 6) rfl ?_))))
                     refine xb rfl ?_ ?_ <;> intro b4
                     refine q9 rfl [] (Tk [1, 2, 3, 8, 9, 10] (.alt 0 (.alt 4 (.take 5 [6, 7, 11, 12] (.alt 6 (.alt 7 (.alt 11 (.take 12 [] .done) .nil) .nil) .nil)) (.alt 5 (.alt 4 (.alt 6 (.alt 7 (.alt 11 (.take 12 [] .done) .nil) .nil) .nil) (.alt 6 (.alt 4 (.alt 7 (.alt 11 (.take 12 [] .done) .nil) .nil) .nil) .nil)) .nil)) (.alt 5 (.alt 0 (.alt 4 (.alt 6 (.alt 7 (.alt 11 (.take 12 [] .done) .nil) .nil) .nil) (.alt 6 (.alt 4 (.alt 7 (.alt 11 (.take 12 [] .done) .nil) .nil) .nil) .nil)) (.alt 6 (.alt 0 (.alt 4 (.alt 7 (.alt 11 (.take 12 [] .done) .nil) .nil) .nil) .nil) .nil)) .nil))) (by kernel_rfl) (xs rfl (.inl rfl) (xs rfl (nn_ _) (xs rfl (nn_ _) (xs rfl (by simp; omega) (xs rfl (by simp) (xs rfl (nn_ _) (xs rfl (by simp; omega) (xs rfl (by simp) ?_))))))))
                     refine q09 rfl ?_ ?_
                     refine xs rfl trivial ?_
                     refine q09 rfl ?_ ?_
                     refine xs rfl rfl (xs rfl (fun row hr => hrw row (List.mem_of_mem_take (List.mem_of_mem_drop hr))) (xs rfl (fun _ row hr => hsc row (List.mem_of_mem_take (List.mem_of_mem_drop hr))) (xs rfl (by simp; omega) (xs rfl (by simp; omega) (xs rfl tv3 (xs rfl (by simp) (xs rfl rfl (xs rfl (.inl rfl) (xs rfl (by simp; omega) ?_)))))))))
                     refine xs rfl (by simp; omega) (xs rfl (by simp) (xs rfl (fun row hr => hrw row (List.mem_of_mem_take (List.mem_of_mem_drop hr))) (xs rfl (fun _ row hr => hsc row (List.mem_of_mem_take (List.mem_of_mem_drop hr))) (xs rfl (by simp; omega) ?_))))
                     refine xs rfl (by simp; omega) ?_; rotate_left
                     refine q09 rfl ?_ ?_
                     refine xs rfl rfl (xs rfl (fun row hr => hrw row (List.mem_of_mem_take (List.mem_of_mem_drop hr))) (xs rfl (fun _ row hr => hsc row (List.mem_of_mem_take (List.mem_of_mem_drop hr))) (xs rfl (by simp; omega) (xs rfl (by simp; omega) (xs rfl tv3 (xs rfl (by simp) (xs rfl rfl (xs rfl (.inl rfl) (xs rfl (by simp; omega) ?_)))))))))
                     refine xs rfl (by simp; omega) (xs rfl (by simp) (xs rfl (fun row hr => hrw row (List.mem_of_mem_take (List.mem_of_mem_drop hr))) (xs rfl (fun _ row hr => hsc row (List.mem_of_mem_take (List.mem_of_mem_drop hr))) (xs rfl (by simp; omega) ?_))))
                     refine xs rfl (by simp; omega) ?_; rotate_left
                     refine xs rfl tv3 (xs rfl rfl (xs rfl (fun row hr => hrw row (List.mem_of_mem_take (List.mem_of_mem_drop hr))) (xs rfl (fun _ row hr => hsc row (List.mem_of_mem_take (List.mem_of_mem_drop hr))) (xs rfl (by simp; omega) (xs rfl (by simp; omega) (xs rfl (by simp) (xs rfl rfl (xs rfl (.inl rfl) (xs rfl (by simp; omega) ?_)))))))))
                     refine xs rfl (by simp; omega) (xs rfl (by simp) (xs rfl (fun row hr => hrw row (List.mem_of_mem_take (List.mem_of_mem_drop hr))) (xs rfl (fun _ row hr => hsc row (List.mem_of_mem_take (List.mem_of_mem_drop hr))) (xs rfl (by simp; omega) ?_))))
                     refine xs rfl (by simp; omega) ?_; rotate_left
                     refine q09 rfl ?_ ?_
                     refine xs rfl trivial ?_
                     refine q09 rfl ?_ ?_
                     refine xs rfl rfl (xs rfl (fun row hr => hrw row (List.mem_of_mem_take (List.mem_of_mem_drop hr))) (xs rfl (fun _ row hr => hsc row (List.mem_of_mem_take (List.mem_of_mem_drop hr))) (xs rfl (by simp; omega) (xs rfl (by simp; omega) (xs rfl tv3 (xs rfl (by simp) (xs rfl rfl (xs rfl (.inl rfl) (xs rfl (by simp; omega) ?_)))))))))
                     refine xs rfl (by simp; omega) (xs rfl (by simp) (xs rfl (fun row hr => hrw row (List.mem_of_mem_take (List.mem_of_mem_drop hr))) (xs rfl (fun _ row hr => hsc row (List.mem_of_mem_take (List.mem_of_mem_drop hr))) (xs rfl (by simp; omega) ?_))))
                     refine xs rfl (by simp; omega) ?_; rotate_left
                     refine xs rfl tv3 (xs rfl rfl (xs rfl (fun row hr => hrw row (List.mem_of_mem_take (List.mem_of_mem_drop hr))) (xs rfl (fun _ row hr => hsc row (List.mem_of_mem_take (List.mem_of_mem_drop hr))) (xs rfl (by simp; omega) (xs rfl (by simp; omega) (xs rfl (by simp) (xs rfl rfl (xs rfl (.inl rfl) (xs rfl (by simp; omega) ?_)))))))))
                     refine xs rfl (by simp; omega) (xs rfl (by simp) (xs rfl (fun row hr => hrw row (List.mem_of_mem_take (List.mem_of_mem_drop hr))) (xs rfl (fun _ row hr => hsc row (List.mem_of_mem_take (List.mem_of_mem_drop hr))) (xs rfl (by simp; omega) ?_))))
                     refine xs rfl (by simp; omega) ?_; rotate_left
                     refine xs rfl tv3 (xs rfl trivial (xs rfl rfl (xs rfl (fun row hr => hrw row (List.mem_of_mem_take (List.mem_of_mem_drop hr))) (xs rfl (fun _ row hr => hsc row (List.mem_of_mem_take (List.mem_of_mem_drop hr))) (xs rfl (by simp; omega) (xs rfl (by simp; omega) (xs rfl (by simp) (xs rfl rfl (xs rfl (.inl rfl) ?_)))))))))
                     refine xs rfl (by simp; omega) (xs rfl (by simp; omega) (xs rfl (by simp) (xs rfl (fun row hr => hrw row (List.mem_of_mem_take (List.mem_of_mem_drop hr))) (xs rfl (fun _ row hr => hsc row (List.mem_of_mem_take (List.mem_of_mem_drop hr))) (xs rfl (by simp; omega) ?_)))))
                     refine xs rfl (by simp; omega) ?_; rotate_left
                     rotate_left
                     refine xj (k := 7) rfl ?_; rotate_left
                     exact absurd b0 (by simp; omega)
                     all_goals first
                      | (exfalso; simp_all; done)
                      | exact q8 rfl (hJ2 _ (j + 1) (by omega) (by omega) ⟨⟨cwi (by omega) (by omega) (by omega), rfl, hun b1, rfl, trivial⟩, trivial, rfl⟩)
                      | exact q8 rfl (hJ2 _ (j + 1) (by omega) (by omega) ⟨⟨cwi (by omega) (by omega) (by omega), rfl, hun b2, rfl, trivial⟩, trivial, rfl⟩)
                      | exact q8 rfl (hJ2 _ (j + 1) (by omega) (by omega) ⟨⟨cwi (by omega) (by omega) (by omega), rfl, hsame (by simpa using b4), rfl, trivial⟩, trivial, rfl⟩)
                      | exact q8 rfl (hJ2 _ (j + 1) (by omega) (by omega) ⟨⟨cwi (by omega) (by omega) (by omega), rfl, ⟨rfl, List.length_append.symm, congrArg Cell.l (hins (hdif (hye b2) (by simpa using b4))).symm⟩, rfl, trivial⟩, trivial, rfl⟩)
                      | skip
                 · have e : p = out.length := by omega
                   subst e
                   have hun : decide ((cn : Int) ≥ ((z1l sl.length : Nat) : Int)) = false → Cell.l (out.map Vt.cs) = Cell.l ((chB sl i x (j + 1)).map Vt.cs) := fun e => by
                    rw [hnw, hnx, chS, if_neg (by rw [hok]; simpa using e)]
                   have hye : decide ((cn : Int) ≥ ((z1l sl.length : Nat) : Int)) = true → okV sl v = true := fun e => by rw [hok]; simpa using e
                   have hcut : List.drop ((none : Option Int).getD 0).toNat (List.take ((some (out.length : Int)).getD ((out.map Vt.cs).length : Nat)).toNat (out.map Vt.cs)) = (out.take out.length).map Vt.cs := by simp [List.take_of_length_le]
                   have hcut2 : List.drop ((some (out.length : Int)).getD 0).toNat (List.take ((none : Option Int).getD ((out.map Vt.cs).length : Nat)).toNat (out.map Vt.cs)) = (out.drop out.length).map Vt.cs := by rw [show ((none : Option Int).getD ((out.map Vt.cs).length : Nat)).toNat = (out.map Vt.cs).length from rfl, List.take_length]; simp [List.map_drop]
                   have hins : ∀ e : out.take out.length ++ v :: out.drop out.length = nw, (([] ++ List.drop ((none : Option Int).getD 0).toNat (List.take ((some (out.length : Int)).getD ((out.map Vt.cs).length : Nat)).toNat (out.map Vt.cs))) ++ [[i64 v.b, i64 v.v]]) ++ List.drop ((some (out.length : Int)).getD 0).toNat (List.take ((none : Option Int).getD ((out.map Vt.cs).length : Nat)).toNat (out.map Vt.cs)) = (chB sl i x (j + 1)).map Vt.cs := fun e => by
                    rw [hcut, hcut2, hnw, ← e]; simp
                   have hat := y5i (v := v) hp h0 (fun y hy => by simp at hy)
                   have hdif : okV sl v = true → out.take out.length ++ v :: out.drop out.length = nw := fun e1 => by
                    rw [hnx, chS, if_pos e1, hat, if_neg (by simp)]
                   refine q9 rfl [] (Tk (Rg 0 9) (.take 9 [12, 13] (.take 10 [] (.take 11 [12, 13] (Tk [12, 13] .done))))) (by kernel_rfl) ?_
                   refine xb rfl ?_ ?_ <;> intro b0
                   exact absurd b0 (by simp [*])
                   refine xj (k := 9) rfl (q9 rfl [] (Tk [0, 1, 2] (.alt 3 (Tk (Rg 4 10) (.take 14 (Rg 16 3) (.take 15 (Rg 16 3) (Tk [16, 17, 18] .done)))) .nil)) (by kernel_rfl) (z1 rfl (hQ) rfl ⟨trivial, trivial⟩ ?_))
                   refine xb rfl ?_ ?_ <;> intro b1
                   refine xj (k := 4) rfl ?_
                   refine xb rfl ?_ ?_ <;> intro b2
                   refine xj (k := 9) rfl (q9 rfl [] (Tk [1, 2, 3, 8, 9, 10] (.alt 0 (.alt 4 (.take 5 [6, 7, 11, 12] (.alt 6 (.alt 7 (.alt 11 (.take 12 [] .done) .nil) .nil) .nil)) (.alt 5 (.alt 4 (.alt 6 (.alt 7 (.alt 11 (.take 12 [] .done) .nil) .nil) .nil) (.alt 6 (.alt 4 (.alt 7 (.alt 11 (.take 12 [] .done) .nil) .nil) .nil) .nil)) .nil)) (.alt 5 (.alt 0 (.alt 4 (.alt 6 (.alt 7 (.alt 11 (.take 12 [] .done) .nil) .nil) .nil) (.alt 6 (.alt 4 (.alt 7 (.alt 11 (.take 12 [] .done) .nil) .nil) .nil) .nil)) (.alt 6 (.alt 0 (.alt 4 (.alt 7 (.alt 11 (.take 12 [] .done) .nil) .nil) .nil) .nil) .nil)) .nil))) (by kernel_rfl) (xs rfl (.inl rfl) (xs rfl (nn_ _) (xs rfl (nn_ _) (xs rfl (by simp) (xs rfl (by simp) (xs rfl (nn_ _) (xs rfl (by simp) (xs rfl (by simp) ?_)))))))))
                   refine q09 rfl ?_ ?_
                   refine xs rfl trivial ?_
                   refine q09 rfl ?_ ?_
                   refine xs rfl rfl (xs rfl (fun row hr => hrw row (List.mem_of_mem_take (List.mem_of_mem_drop hr))) (xs rfl (fun _ row hr => hsc row (List.mem_of_mem_take (List.mem_of_mem_drop hr))) (xs rfl (by simp; omega) (xs rfl (by simp; omega) (xs rfl tv3 (xs rfl (by simp) (xs rfl rfl (xs rfl (.inl rfl) (xs rfl (by simp; omega) ?_)))))))))
                   refine xs rfl (by simp; omega) (xs rfl (by simp) (xs rfl (by simp) (xs rfl (fun _ row hr => hsc row (List.mem_of_mem_take (List.mem_of_mem_drop hr))) (xs rfl (by simp; omega) ?_))))
                   refine xs rfl (by simp; omega) ?_; rotate_left
                   refine q09 rfl ?_ ?_
                   refine xs rfl rfl (xs rfl (fun row hr => hrw row (List.mem_of_mem_take (List.mem_of_mem_drop hr))) (xs rfl (fun _ row hr => hsc row (List.mem_of_mem_take (List.mem_of_mem_drop hr))) (xs rfl (by simp; omega) (xs rfl (by simp; omega) (xs rfl tv3 (xs rfl (by simp) (xs rfl rfl (xs rfl (.inl rfl) (xs rfl (by simp; omega) ?_)))))))))
                   refine xs rfl (by simp; omega) (xs rfl (by simp) (xs rfl (by simp) (xs rfl (fun _ row hr => hsc row (List.mem_of_mem_take (List.mem_of_mem_drop hr))) (xs rfl (by simp; omega) ?_))))
                   refine xs rfl (by simp; omega) ?_; rotate_left
                   refine xs rfl tv3 (xs rfl rfl (xs rfl (fun row hr => hrw row (List.mem_of_mem_take (List.mem_of_mem_drop hr))) (xs rfl (fun _ row hr => hsc row (List.mem_of_mem_take (List.mem_of_mem_drop hr))) (xs rfl (by simp; omega) (xs rfl (by simp; omega) (xs rfl (by simp) (xs rfl rfl (xs rfl (.inl rfl) (xs rfl (by simp; omega) ?_)))))))))
                   refine xs rfl (by simp; omega) (xs rfl (by simp) (xs rfl (by simp) (xs rfl (fun _ row hr => hsc row (List.mem_of_mem_take (List.mem_of_mem_drop hr))) (xs rfl (by simp; omega) ?_))))
                   refine xs rfl (by simp; omega) ?_; rotate_left
                   refine q09 rfl ?_ ?_
                   refine xs rfl trivial ?_
                   refine q09 rfl ?_ ?_
                   refine xs rfl rfl (xs rfl (fun row hr => hrw row (List.mem_of_mem_take (List.mem_of_mem_drop hr))) (xs rfl (fun _ row hr => hsc row (List.mem_of_mem_take (List.mem_of_mem_drop hr))) (xs rfl (by simp; omega) (xs rfl (by simp; omega) (xs rfl tv3 (xs rfl (by simp) (xs rfl rfl (xs rfl (.inl rfl) (xs rfl (by simp; omega) ?_)))))))))
                   refine xs rfl (by simp; omega) (xs rfl (by simp) (xs rfl (by simp) (xs rfl (fun _ row hr => hsc row (List.mem_of_mem_take (List.mem_of_mem_drop hr))) (xs rfl (by simp; omega) ?_))))
                   refine xs rfl (by simp; omega) ?_; rotate_left
                   refine xs rfl tv3 (xs rfl rfl (xs rfl (fun row hr => hrw row (List.mem_of_mem_take (List.mem_of_mem_drop hr))) (xs rfl (fun _ row hr => hsc row (List.mem_of_mem_take (List.mem_of_mem_drop hr))) (xs rfl (by simp; omega) (xs rfl (by simp; omega) (xs rfl (by simp) (xs rfl rfl (xs rfl (.inl rfl) (xs rfl (by simp; omega) ?_)))))))))
                   refine xs rfl (by simp; omega) (xs rfl (by simp) (xs rfl (by simp) (xs rfl (fun _ row hr => hsc row (List.mem_of_mem_take (List.mem_of_mem_drop hr))) (xs rfl (by simp; omega) ?_))))
                   refine xs rfl (by simp; omega) ?_; rotate_left
                   refine xs rfl tv3 (xs rfl trivial (xs rfl rfl (xs rfl (fun row hr => hrw row (List.mem_of_mem_take (List.mem_of_mem_drop hr))) (xs rfl (fun _ row hr => hsc row (List.mem_of_mem_take (List.mem_of_mem_drop hr))) (xs rfl (by simp; omega) (xs rfl (by simp; omega) (xs rfl (by simp) (xs rfl rfl (xs rfl (.inl rfl) ?_)))))))))
                   refine xs rfl (by simp; omega) (xs rfl (by simp; omega) (xs rfl (by simp) (xs rfl (by simp) (xs rfl (fun _ row hr => hsc row (List.mem_of_mem_take (List.mem_of_mem_drop hr))) (xs rfl (by simp; omega) ?_)))))
                   refine xs rfl (by simp; omega) ?_; rotate_left
                   exact absurd b2 (by simp [*])
                   refine xj (k := 7) rfl ?_; rotate_left
                   all_goals first
                    | (exfalso; simp_all; done)
                    | exact q8 rfl (hJ2 _ (j + 1) (by omega) (by omega) ⟨⟨cwi (by omega) (by omega) (by omega), rfl, hun b1, rfl, trivial⟩, trivial, rfl⟩)
                    | exact q8 rfl (hJ2 _ (j + 1) (by omega) (by omega) ⟨⟨cwi (by omega) (by omega) (by omega), rfl, hun b2, rfl, trivial⟩, trivial, rfl⟩)
                    | exact q8 rfl (hJ2 _ (j + 1) (by omega) (by omega) ⟨⟨cwi (by omega) (by omega) (by omega), rfl, hsame (by simpa using b4), rfl, trivial⟩, trivial, rfl⟩)
                    | exact q8 rfl (hJ2 _ (j + 1) (by omega) (by omega) ⟨⟨cwi (by omega) (by omega) (by omega), rfl, ⟨rfl, List.length_append.symm, congrArg Cell.l (hins (hdif (hye b1))).symm⟩, rfl, trivial⟩, trivial, rfl⟩)
                    | skip
       · have e : j = x.cast.length := by omega
         subst e
         refine xs rfl (nn_ _) (y9 rfl _ hg (xs rfl rfl ?_))
         refine xb rfl ?_ ?_ <;> intro b0
         exact absurd b0 (by simp [*])
         all_goals first
          | exact q8 rfl (hJ _ (i + 1) (by omega) (by omega) ⟨⟨cwi (by omega) (by omega) (by omega), congrArg (fun u : List Vt => Cell.l (u.map Vt.cs)) (z8l hx).symm, rfl, trivial⟩, trivial, rfl⟩)
          | (exfalso; simp_all; done)
          | skip
   · have h : i = sl.length := by have : ¬ i < sl.length := (by simpa using h); omega
     subst h
     have e : chA sl sl.length = qp sl := by unfold chA qp; rw [List.take_length]
     rw [e]
     refine xr rfl (yk rfl ⟨⟨rfl, rfl, trivial⟩, z6 rfl⟩)
theorem y55 {a : Acc} (h : a.fault = 0) (c s : Int) : (q13 a c s).cast.length ≤ 60 := by
 cases hx : a.slots.find? fun x => x.c == c && x.s == s with
 | none => rw [(y1h hx).1]; exact Nat.zero_le _
 | some x =>
   have hm := (q2q h).2.1 x (List.mem_of_find?_eq_some hx)
   unfold q13
   rw [hx]
   show x.cast.length ≤ 60
   unfold Slt.fault at hm
   split at hm
   · omega
   · split at hm
     · omega
     · omega
theorem q6x {aa : List Acc} (hf : ∀ a ∈ aa, a.fault = 0) (c s : Int) : ∀ x ∈ zn aa c s, x.cast.length ≤ 60 := fun x hx => by
 obtain ⟨a, ha, rfl⟩ := List.mem_map.1 hx
 exact y55 (hf a ha) c s
theorem z9m (aa : List Acc) (hl : aa.length ≤ 1048576) (ho : ∀ a ∈ aa, y2i a) (hf : ∀ a ∈ aa, a.fault = 0) (c s : Int) (hc : 1 ≤ c ∧ c ≤ 1000000000) (h2 : 0 ≤ s ∧ s ≤ 2) : PC Tryz.prog 71 [.one (.l (aa.map Acc.cs)), .one (i64 c), .one (i64 s)] (rI (chV aa c s)) := by
 refine PC.begin Tryz.func71 rfl (by kernel_rfl) ?_
 have hS := PC.zai (y52 aa hl ho c s hc h2)
 have hC := y3t (zn aa c s) (by simp [zn]; omega) (q6x hf c s)
 unfold chV
 generalize qp (zn aa c s) = vs at hC
 cases vs with
 | nil =>
   refine z1 rfl (hS) rfl tv4 (z1 rfl (hC) rfl ⟨trivial, trivial⟩ (xj (k := 1) rfl ?_))
   refine xr rfl (yk rfl ⟨⟨rfl, rfl, trivial⟩, z6 rfl⟩)
   all_goals first | (exfalso; simp_all; done) | skip
 | cons v vs =>
   have hg : ((v :: vs).map Vt.cs)[(0 : Int).toNat]? = some v.cs := rfl
   refine z1 rfl (hS) rfl tv4 (z1 rfl (hC) rfl ⟨trivial, trivial⟩ (xj (k := 1) rfl (xs rfl (nn_ _) (y9 rfl _ hg (xs rfl rfl ?_)))))
   refine xr rfl (yk rfl ⟨⟨rfl, rfl, trivial⟩, z6 rfl⟩)
   all_goals first | (exfalso; simp_all; done) | skip
theorem zac (aa : List Acc) (hl : aa.length ≤ 1048576) (ho : ∀ a ∈ aa, y2i a) (hf : ∀ a ∈ aa, a.fault = 0) (x : Con) (hxl : x.legs.length ≤ 1048576) (hc : 1 ≤ x.id ∧ x.id ≤ 1000000000) (hs : ∀ s ∈ shF x.legs, 0 ≤ s ∧ s ≤ 2) : PC Tryz.prog 54 [.one (.l (aa.map Acc.cs)), .agg x.cs] (rI (q0e aa x)) := by
 refine PC.begin Tryz.func54 rfl (by kernel_rfl) ?_
 have hSh := q0m x hxl
 have hsl : (shF x.legs).length ≤ 1048576 := by have := y0u x.legs x.legs.length; rw [List.take_length] at this; omega
 unfold q0e
 generalize shF x.legs = ss at hSh hs hsl
 refine z1 rfl (hSh) rfl ⟨tv3, trivial⟩ ?_
 refine zc rfl (ι := Nat × Int) (fun z => z.1 ≤ ss.length ∧ y9l (chV aa x.id) (ss.drop z.1) z.2 = y9l (chV aa x.id) ss 1) (fun z => ⟨[(7, sV (.int .i64 z.1)), (6, sV (.int .i64 z.2)), (5, .one (.b (.l (ints ss)))), (3, .one (.a 3 0)), (0, .one (.b (.l (aa.map Acc.cs))))], [(3, .var (x.cs.map .b))]⟩) (fun z => ss.length - z.1) (0, 1) ⟨Nat.zero_le _, rfl⟩ ?_ ?_
 · exact ⟨⟨rfl, rfl, rfl, ⟨rfl, rfl, rfl⟩, rfl, trivial⟩, ⟨lcr, trivial⟩, rfl⟩
 · intro ⟨i, d⟩ ⟨hi, he⟩ J hJ
   dsimp only at hi he ⊢
   refine xb rfl ?_ ?_ <;> intro h
   · have h : i < ss.length := by simpa [ints] using h
     obtain ⟨s, hx⟩ := gx h
     have hg : (ints ss)[i]? = some [i64 s] := by simp [ints, hx]
     have hcc := z9m aa hl ho hf x.id s hc (hs s (List.mem_of_getElem? hx))
     have he := z7x hx he
     refine q9 rfl [] (Tk [0, 1] (.take 2 [7] (Tk [3, 4, 5] (.take 6 [7] (.alt 7 .done .nil))))) (by kernel_rfl) (xs rfl (nn_ _) (y9 rfl _ hg (xs rfl rfl (z1 rfl (hcc) rfl tv4 ?_))))
     refine xb rfl ?_ ?_ <;> intro b0
     refine xv rfl rfl rfl ?_; rotate_left
     refine xb rfl (fun b1 => ?_) (fun b1 => ?_); rotate_left
     rotate_left
     all_goals first
      | (refine vi ?_; rw [← he, if_pos (by simpa using b0)]; done)
      | exact q8 rfl (hJ _ (i + 1, 0) ⟨by dsimp only; omega, by rw [if_neg (by simpa using b0), if_pos (by simpa using b1)] at he; exact he⟩ (by dsimp only; omega) ⟨⟨cwi (by omega) (by omega) (by omega), rfl, rfl, ⟨rfl, rfl, rfl⟩, rfl, trivial⟩, ⟨lcr, trivial⟩, rfl⟩)
      | exact q8 rfl (hJ _ (i + 1, d) ⟨by dsimp only; omega, by rw [if_neg (by simpa using b0), if_neg (by simpa using b1)] at he; exact he⟩ (by dsimp only; omega) ⟨⟨cwi (by omega) (by omega) (by omega), rfl, rfl, ⟨rfl, rfl, rfl⟩, rfl, trivial⟩, ⟨lcr, trivial⟩, rfl⟩)
      | skip
   · have h : i = ss.length := by have : ¬ i < ss.length := by simpa [ints] using h
                                  omega
     subst h
     rw [List.drop_length] at he
     refine xv rfl rfl rfl ?_
     exact vi he
end Go.Proofs.YtohbmmpkcibnpaaGreat
end
section
namespace Go.Sx
open Go.Lib (compact)
theorem q5r {s : Shd} (h : zi s = 0) : s.bals.length ≤ 18 ∧ s.votes.length ≤ 100 ∧ s.held.length ≤ 100 ∧ s.done.length ≤ 100 ∧ s.app.length ≤ 100 := by
 have hb : yi s.bals = 0 := by
  unfold zi at h
  repeat' split at h
  all_goals first | omega | (simp_all; done)
 have hm : many s = false := by
  unfold zi at h
  repeat' split at h
  all_goals first | omega | (simp_all; done)
 have h1 := (y27 hb).1
 unfold many at hm
 simp only [Bool.or_eq_false_iff, decide_eq_false_iff_not] at hm
 omega
end Go.Sx
end
section
namespace Go.Proofs.YtohbmmpkcibnpaaGreat
open Go Go.Sx
set_option maxRecDepth 20000
set_option maxHeartbeats 4000000
theorem y81 (sl : List Slt) {c s : Int} (hG : q3f sl c s) : PC Tryz.prog 161 [.one (.l (sl.map Slt.cs))] (rI 0) := by
 refine PC.begin Tryz.func161 rfl (by kernel_rfl) ?_
 have hl := hG.le
 have hn : (sl.map Slt.cs).length = sl.length := by simp
 obtain ⟨y, hy⟩ := gx (xs := sl) (i := 0) (by omega)
 have hyk := hG.ok y (List.mem_of_getElem? hy)
 have hgy : (sl.map Slt.cs)[(0 : Int).toNat]? = some y.cs := by simpa using gm Slt.cs hy
 refine zc rfl (ι := Nat) (fun i => i ≤ sl.length) (fun i => ⟨[(3, sV (.int .i64 i)), (0, .one (.b (.l (sl.map Slt.cs))))], []⟩) (fun i => sl.length - i) 0 (Nat.zero_le _) ?_ ?_
 · exact ⟨⟨rfl, rfl, trivial⟩, trivial, rfl⟩
 · intro i hi J hJ
   refine xb rfl ?_ ?_ <;> intro h
   · have h : i < sl.length := by simpa using h
     obtain ⟨x, hx⟩ := gx h
     have hg := gm Slt.cs hx
     have hok := hG.ok x (List.mem_of_getElem? hx)
     have hf := q4c x (by have := (z2q hok.1).1; omega)
     rw [hok.1] at hf
     refine xs rfl (nn_ _) (y9 rfl _ hg (xs rfl rfl (z1 rfl (hf) rfl ⟨tv7, trivial⟩ (xj (k := 1) rfl ?_))))
     all_goals first
      | exact q8 rfl (hJ _ (i + 1) (by omega) (by omega) ⟨⟨cwi (by omega) (by omega) (by omega), rfl, trivial⟩, trivial, rfl⟩)
      | (exfalso; simp_all; done)
      | skip
   · have h : i = sl.length := by have : ¬ i < sl.length := (by simpa using h); omega
     subst h
     refine xb rfl ?_ ?_ <;> intro b0
     exact absurd b0 (by simp; omega)
     refine xj (k := 3) rfl ?_
     refine xb rfl ?_ ?_ <;> intro b1
     exact absurd b1 (by simp; omega)
     all_goals first | (exfalso; simp at b0; omega) | (exfalso; simp at b1; omega) | skip
     refine zc rfl (ι := Nat) (fun i => i ≤ sl.length) (fun i => ⟨[(5, sV (.int .i64 i)), (0, .one (.b (.l (sl.map Slt.cs))))], []⟩) (fun i => sl.length - i) 0 (Nat.zero_le _) ?_ ?_
     · exact ⟨⟨rfl, rfl, trivial⟩, trivial, rfl⟩
     · intro i hi J hJ
       refine xb rfl ?_ ?_ <;> intro h
       · have h : i < sl.length := by simpa using h
         obtain ⟨x, hx⟩ := gx h
         have hg := gm Slt.cs hx
         have hok := hG.ok x (List.mem_of_getElem? hx)
         have e1 : x.c = y.c := by rw [hok.2.1, hyk.2.1]
         have e2 : x.s = y.s := by rw [hok.2.2, hyk.2.2]
         refine q9 rfl [] (Tk (Rg 0 4) (.take 4 (Rg 9 13) (Tk [5, 6, 7] (.take 8 (Rg 9 13) (Tk (Rg 9 6) (.take 15 [20, 21] (Tk [16, 17, 18] (.take 19 [20, 21] (Tk [20, 21] .done))))))))) (by kernel_rfl) (xs rfl (nn_ _) (y9 rfl _ hg (xs rfl rfl (xs rfl (nn_ _) (y9 rfl _ hgy (xs rfl rfl ?_))))))
         refine xb rfl ?_ ?_ <;> intro b0
         exact absurd b0 (by simp; omega)
         refine xj (k := 2) rfl (xs rfl (nn_ _) (y9 rfl _ hg (xs rfl rfl (xj (k := 4) rfl (xs rfl (nn_ _) (y9 rfl _ hgy (xs rfl rfl (xj (k := 4) rfl ?_))))))))
         refine xb rfl ?_ ?_ <;> intro b1
         exact absurd b1 (by simp; omega)
         all_goals first
          | exact q8 rfl (hJ _ (i + 1) (by omega) (by omega) ⟨⟨cwi (by omega) (by omega) (by omega), rfl, trivial⟩, trivial, rfl⟩)
          | (exfalso; simp_all; done)
          | skip
       · have h : i = sl.length := by have : ¬ i < sl.length := (by simpa using h); omega
         subst h
         refine xr rfl (yk rfl ⟨⟨rfl, rfl, trivial⟩, z6 rfl⟩)
theorem y8i {vs : List Vt} {a : Int} {i : Nat} {v : Vt} (hv : vs[i]? = some v) (h : (v.v != a) = true) : (!(vs.any fun v => v.v != a)) = false := by
 simp only [Bool.not_eq_false', List.any_eq_true]
 exact ⟨v, List.mem_of_getElem? hv, h⟩
theorem y77 {vs : List Vt} {a : Int} (h : ∀ (j : Nat) (v : Vt), j < vs.length → vs[j]? = some v → (v.v != a) = false) : (!(vs.any fun v => v.v != a)) = true := by
 simp only [Bool.not_eq_true', List.any_eq_false]
 intro v hv
 obtain ⟨j, hj⟩ := List.mem_iff_getElem?.1 hv
 simpa using h j v (List.getElem?_eq_some_iff.1 hj).1 hj
theorem q2s {sl : List Slt} {c s : Int} (hG : q3f sl c s) : (qp sl).length ≤ 1048576 := by
 have h1 := q3z sl (y1m sl) []
 have h2 := q3c hG.zbg.1
 have := hG.le
 unfold qp
 simp only [List.length_nil] at h1
 omega
theorem z81 (sl : List Slt) {c s : Int} (hG : q3f sl c s) : PC Tryz.prog 69 [.one (.l (sl.map Slt.cs))] (rB (y1s sl)) := by
 refine PC.begin Tryz.func69 rfl (by kernel_rfl) ?_
 have hA := y81 sl hG
 have hC := y3t sl (by have := hG.le; omega) hG.zbg.1
 have hcl := q2s hG
 unfold y1s
 generalize qp sl = vs at hC hcl
 refine z1 rfl (hA) rfl ⟨trivial, trivial⟩ (xj (k := 1) rfl (z1 rfl (hC) rfl ⟨trivial, trivial⟩ ?_))
 all_goals first | (exfalso; simp_all; done) | skip
 refine zc rfl (ι := Nat) (fun i => i ≤ vs.length ∧ ∀ (j : Nat) (v : Vt), j < i → vs[j]? = some v → (v.v != y6a vs) = false) (fun i => ⟨[(4, sV (.int .i64 i)), (3, .one (.b (.l (vs.map Vt.cs))))], []⟩) (fun i => vs.length - i) 0 ⟨Nat.zero_le _, fun j v hj => by omega⟩ ?_ ?_
 · exact ⟨⟨rfl, rfl, trivial⟩, trivial, rfl⟩
 · intro i ⟨hi, h0⟩ J hJ
   refine xb rfl ?_ ?_ <;> intro h
   · have h : i < vs.length := by simpa using h
     obtain ⟨v, hv⟩ := gx h
     have hg := gm Vt.cs hv
     obtain ⟨z, hz⟩ := gx (xs := vs) (i := 0) (by omega)
     have hgz : (vs.map Vt.cs)[(0 : Int).toNat]? = some z.cs := by simpa using gm Vt.cs hz
     have ez : y6a vs = z.v := by cases vs with
      | nil => simp at hz
      | cons a b => cases hz; rfl
     refine q9 rfl [] (Tk (Rg 0 4) (.take 4 [9] (Tk [5, 6, 7] (.take 8 [9] (.take 9 [] .done))))) (by kernel_rfl) (xs rfl (nn_ _) (y9 rfl _ hg (xs rfl rfl (xs rfl (nn_ _) (y9 rfl _ hgz (xs rfl rfl ?_))))))
     refine xb rfl ?_ ?_ <;> intro b0
     refine xv rfl rfl rfl ?_; rotate_left
     rotate_left
     all_goals first
      | (refine vb ?_; exact (y8i hv (by rw [ez]; simpa using b0)).symm)
      | exact q8 rfl (hJ _ (i + 1) ⟨by omega, fun j y hj hy => by
         by_cases e : j = i
         · subst e; rw [hv] at hy; cases hy; rw [ez]; simpa using b0
         · exact h0 j y (by omega) hy⟩ (by omega) ⟨⟨cwi (by omega) (by omega) (by omega), rfl, trivial⟩, trivial, rfl⟩)
      | skip
   · have h : i = vs.length := by have : ¬ i < vs.length := (by simpa using h); omega
     subst h
     rw [y77 h0]
     refine xr rfl (yk rfl ⟨⟨rfl, rfl, trivial⟩, z6 rfl⟩)
end Go.Proofs.YtohbmmpkcibnpaaGreat
end
section
namespace Go.Proofs.YtohbmmpkcibnpaaGreat
open Go Go.Sx
set_option maxRecDepth 20000
set_option maxHeartbeats 4000000
open Go.Proofs Go.Shelf Go.RowKit Go.Lib Go.Sort
instance : Inhabited Vt := ⟨⟨0, 0⟩⟩
def qy (x : Vt) : List Value := [.int .i64 x.b, .int .i64 x.v]
theorem zx (x : Vt) : (qy x).length = 2 := rfl
theorem y1e (x : Vt) : ∀ v ∈ qy x, v.oneCell' = true := fun v hv => by
 simp only [qy, List.mem_cons, List.not_mem_nil, or_false] at hv
 rcases hv with rfl | rfl <;> rfl
section
variable {α : Type} [Inhabited α]
theorem y5q (F : Array Value) : ∀ (a b : List Value) (s : Nat), setMany F s (a ++ b) = setMany (setMany F s a) (s + a.length) b := by
 intro a
 induction a generalizing F with
 | nil => intro b s; rfl
 | cons v a ih =>
   intro b s
   show setMany (F.setIfInBounds s v) (s + 1) (a ++ b) = _
   rw [ih]
   show setMany (setMany (F.setIfInBounds s v) (s + 1) a) (s + 1 + a.length) b = setMany (setMany (F.setIfInBounds s v) (s + 1) a) (s + (a.length + 1)) b
   rw [Nat.add_assoc, Nat.add_comm 1]
theorem y37 (enc : α → List Value) (k : Nat) (hk : ∀ x, (enc x).length = k) (k0 : 0 < k) (d : Array α) (i : Nat) (x : α) (hi : i < d.size) : setMany (flatK enc k d) (i * k) (enc x) = flatK enc k (d.setIfInBounds i x) := by
 refine ext_get! (by simp) fun t ht => ?_
 have ht' : t < d.size * k := by simpa using ht
 rw [get_setMany _ _ _ t (by simpa using ht'), get_flatK _ _ _ t ht', get_flatK _ _ _ t (by simpa using ht'), hk]
 by_cases a : t / k = i
 · rw [if_pos ((blk_iff k i t k0).2 a), a, getElem!_set_same d i x hi]
   congr 1
   subst a; rw [Nat.mod_eq_sub_div_mul]
 · rw [if_neg (fun h => a ((blk_iff k i t k0).1 h)), getElem!_set_other d i _ x a]
theorem z37 (enc : α → List Value) (k : Nat) (hk : ∀ x, (enc x).length = k) (k0 : 0 < k) : ∀ (xs : List α) (d : Array α) (i : Nat), i + xs.length ≤ d.size → setMany (flatK enc k d) (i * k) (xs.flatMap enc) = flatK enc k (Lib.lay d i xs)
 | [], d, i, _ => rfl
 | x :: xs, d, i, h => by
   have h' : i + (xs.length + 1) ≤ d.size := by simpa using h
   rw [List.flatMap_cons, y5q, y37 enc k hk k0 d i x (by omega), hk, Lib.lay, show i * k + k = (i + 1) * k by rw [Nat.add_mul, Nat.one_mul]]
   exact z37 enc k hk k0 xs _ (i + 1) (by simp; omega)
end
theorem ybo (n : Nat) : (Builtin.zeroCells (Value.agg #[.int .i64 0, .int .i64 0]).cells n).toList = (List.replicate n (⟨0, 0⟩ : Vt)).flatMap qy := by
 apply List.ext_getElem?
 intro t
 have hl : ∀ n : Nat, ((List.replicate n (⟨0, 0⟩ : Vt)).flatMap qy) = List.replicate (n * 2) (.int .i64 0) := fun n => by
  induction n with
  | zero => rfl
  | succ n ih => rw [List.replicate_succ, List.flatMap_cons, ih, show (n + 1) * 2 = n * 2 + 1 + 1 by omega, List.replicate_succ, List.replicate_succ]; rfl
 rw [hl]
 simp only [Builtin.zeroCells, Value.cells, Array.toList_map, Array.toList_range, List.getElem?_map, List.getElem?_replicate]
 by_cases h : t < n * 2
 · have h2 : t % 2 = 0 ∨ t % 2 = 1 := by omega
   rw [if_pos h, List.getElem?_range (by simpa using h)]
   rcases h2 with e | e <;> simp [e]
 · rw [if_neg h, List.getElem?_eq_none (by simpa using h)]; rfl
theorem qbf : EqlAt Tryz.prog 171 (fun x => .agg (qy x).toArray) (fun x y => decide (x = y)) ∧ ∀ (x y : Vt) (w : World), Sem.run Tryz.prog (binOp .neq 171 (.agg (qy x).toArray) (.agg (qy y).toArray)) w = .ok (.bool (!decide (x = y))) w := by
 have hK : qag Tryz.prog 171 = some [.i .i64, .i .i64] := by kernel_rfl
 have hf : ∀ x : Vt, y3e [.i .i64, .i .i64] (qy x) := fun x => ⟨rfl, rfl, trivial⟩
 have h := fun (x y : Vt) op a b w => y36 hK (hf x) (hf y) op a b w
 have he : ∀ (x y : Vt) (w : World), Sem.run Tryz.prog (Op.equalIn 10000 171 (.agg (qy x).toArray) (.agg (qy y).toArray)) w = .ok (decide (x = y)) w := fun x y w => by
  have := (h x y .eql (.tmp 0) (.tmp 0) w).2
  simp only [Op.equal, Op.maxDepth] at this
  rw [this]
  congr 1
  exact q8p x y
 refine ⟨⟨fun x y w => ?_, fun op a b x y w => (h x y op a b w).1⟩, fun x y w => ?_⟩
 · rw [run_eql_struct, he]; rfl
 · rw [run_neq_struct, he]; rfl
theorem z6w {P : Program} (w : World) (t e ty : TypeId) (z : Value) (vs : List Value) (ht : P.underlying t = some (.slice e)) (hv : ∀ w, (zeroValue e).run P w = .ok z w) (b o n c : Nat) (hn : 0 < n) (hvs : (Builtin.zeroCells z.cells n).toList = vs) (h1 : ∀ v ∈ vs, v.oneCell' = true)
 (hc : ∀ j, j < vs.length → (w.cell? ⟨b, o + j, none⟩).isSome = true) (hf : ∀ j, j < vs.length → w.frozen? ⟨b, o + j, none⟩ = false) :
 (Builtin.clear_ #[t] ty #[.slice (some ⟨b, o, none⟩) n c]).run P w = .ok (.tuple #[]) (w.setCells b o vs) := by
 have hst := run_storeCells_cells (P := P) b o vs 0 w (by simpa using hc) (by simpa using hf) h1
 simp only [Nat.add_zero] at hst
 obtain ⟨m, rfl⟩ : ∃ m, n = m + 1 := ⟨n - 1, by omega⟩
 simp [Builtin.clear_, run_underlying ht, hv, hvs, hst]
theorem y4v (xs : List Vt) : (xs.flatMap qy).length = xs.length * 2 := by
 induction xs with
 | nil => rfl
 | cons x xs ih => rw [List.flatMap_cons, List.length_append, ih, zx, List.length_cons]; omega
theorem z91 (k : Nat) (hk : ∀ x, (qy x).length = k) (w : World) (q g : Nat) (dk : Array Vt) (i : Nat) (u : Vt) (hi : i < dk.size) : (putRowK qy k (Sort.ahead w q) g 0 dk).setCells g (0 + i * k) (qy u) = putRowK qy k (Sort.ahead w q) g 0 (dk.setIfInBounds i u) := by
 have b := Nat.mul_le_mul_right k (show i + 1 ≤ dk.size from hi)
 rw [Nat.add_mul, Nat.one_mul] at b
 unfold putRowK
 rw [setCells_putRow _ _ _ _ _ _ (by rw [hk, size_flatK]; exact b), y37 qy k hk (by have := hk u; rw [zx] at this; omega) dk i u hi]
theorem z7d (g cap : Nat) (d : Array Vt) (w : World) (hH : HoldsK qy 2 w g 0 d) (hsz : d.size ≤ 1048576) (hcap : d.size ≤ cap) (hcm : cap ≤ 9223372036854775807) :
 Calls Tryz.prog 354 #[.slice (some ⟨g, 0, none⟩) d.size cap] w fun e w' => e = .returned (.slice (some ⟨g, 0, none⟩) (compactUpTo d d.size).length cap) ∧ ∃ q, w' = putRowK qy 2 (Sort.ahead w q) g 0 (compactUpTo d d.size ++ List.replicate (d.size - (compactUpTo d d.size).length) (⟨0, 0⟩ : Vt)).toArray := by
 have mixed : Tryz.prog.follows .mixedOrders = true := by kernel_rfl
 have t3 := Tryz.underlying3
 have a3 := Tryz.isAgg3
 have z3 := Tryz.sizeOf3
 have v3 := Tryz.zeroValue3
 have t4 := Tryz.underlying4
 have a4 := Tryz.isAgg4
 have z4 := Tryz.sizeOf4
 have v4 := Tryz.zeroValue4
 have t22 := Tryz.underlying230
 have a22 := Tryz.isAgg230
 have z22 := Tryz.sizeOf230
 have v22 := Tryz.zeroValue230
 have aE := Tryz.isAgg171
 have zE0 := Tryz.sizeOf171
 have v23 := Tryz.zeroValue171
 obtain ⟨c2, hc2⟩ : ∃ c2, c2 = 2 := ⟨2, rfl⟩
 have zE : ∀ w, (Go.sizeOf 171).run Tryz.prog w = .ok c2 w := by rw [hc2]; exact zE0
 have hK : ∀ x, (qy x).length = c2 := by rw [hc2]; exact zx
 rw [← hc2] at hH ⊢
 have C2 : Hid (c2 = 2) := hc2
 have HK : Hid (∀ x, (qy x).length = c2) := hK
 clear zE0 hc2 hK
 have heq' : ∀ (x y : Vt) (w : World), Sem.run Tryz.prog (binOp .eql 171 (.agg (qy x).toArray) (.agg (qy y).toArray)) w = .ok (.bool (decide (x = y))) w := qbf.1.1
 have hne' : ∀ (x y : Vt) (w : World), Sem.run Tryz.prog (binOp .neq 171 (.agg (qy x).toArray) (.agg (qy y).toArray)) w = .ok (.bool (!decide (x = y))) w := qbf.2
 have hgd' : ∀ (op : BinOp) (a b : Operand) (x y : Vt) (w : World), Sem.run Tryz.prog (eqGuard op 171 a b (.agg (qy x).toArray) (.agg (qy y).toArray)) w = .ok () w := qbf.1.2
 have same : ∀ q, (∀ j, j < d.size → keeps d j = true) → (compactUpTo d d.size).length = d.size ∧ w.drewN q = putRowK qy c2 (Sort.ahead w q) g 0 (compactUpTo d d.size ++ List.replicate (d.size - (compactUpTo d d.size).length) (⟨0, 0⟩ : Vt)).toArray := by
  intro q hall
  have e : compactUpTo d d.size = d.toList := by rw [compactUpTo_all d _ hall, range_map_get]
  rw [e]
  refine ⟨by simp, ?_⟩
  simp only [Array.length_toList, Nat.sub_self, List.replicate_zero, List.append_nil, Array.toArray_toList]
  exact (putRowK_self qy c2 (Sort.ahead w q) g 0 d (holdsK_ahead qy c2 w q g 0 d hH)).symm
 have HS : Aside (∀ q, (∀ j, j < d.size → keeps d j = true) → (compactUpTo d d.size).length = d.size ∧ w.drewN q = putRowK qy c2 (Sort.ahead w q) g 0 (compactUpTo d d.size ++ List.replicate (d.size - (compactUpTo d d.size).length) (⟨0, 0⟩ : Vt)).toArray) := same
 clear same
 by_cases h2 : d.size < 2
 · have HH : Aside (HoldsK qy c2 w g 0 d) := hH
   clear hH
   refine calls_of_wp Tryz.func354 rfl ?_
   simp only [Tryz.ntmps354, List.size_toArray, List.length_cons, List.length_nil, Nat.reduceAdd, Nat.reduceSub, Array.replicate_succ, Array.replicate_zero, List.push_toArray, List.append_toArray, List.nil_append, List.cons_append]
   go_wp2
   go_ret
   obtain ⟨e1, e2⟩ := HS.out 0 (fun j hj => keeps_lt_one d j (by omega))
   exact ⟨by rw [e1]; rfl, 0, e2⟩
 · refine calls_of_wp Tryz.func354 rfl ?_
   simp only [Tryz.ntmps354, List.size_toArray, List.length_cons, List.length_nil, Nat.reduceAdd, Nat.reduceSub, Array.replicate_succ, Array.replicate_zero, List.push_toArray, List.append_toArray, List.nil_append, List.cons_append]
   go_wp2
   go_loopg [3] d.size (fun gg s3 wr => ∃ k q : Nat, 1 ≤ k ∧ k ≤ d.size ∧ d.size - k ≤ gg ∧ s3 = .int .i64 k ∧ wr = w.drewN q ∧ ∀ j, j < k → keeps d j = true)
   case atStart => exact ⟨1, 0, Nat.le_refl _, by omega, by omega, rfl, rfl, keeps_lt_one d⟩
   case round =>
    obtain ⟨k, q, hk1, hk, hg, rfl, rfl, hall⟩ := hrel
    by_cases hlt : k < d.size
    · skip
      have hHd : ∀ m, HoldsK qy c2 ((w.drewN q).drewN m) g 0 d := fun m => by rw [World.drewN_drewN]; exact holdsK_ahead qy c2 w _ g 0 d hH
      have l1 : ∀ m, Sem.run Tryz.prog (loadCellsFrom ⟨g, 0 + k * c2, none⟩ 0 c2 #[]) ((w.drewN q).drewN m) = .ok (qy d[k]!).toArray ((w.drewN q).drewN m) := fun m => run_loadCellsFrom_list Tryz.prog _ _ _ c2 (HK.out _) (HoldsK.cells (hHd m) HK.out hlt)
      have l0 : ∀ m, Sem.run Tryz.prog (loadCellsFrom ⟨g, 0 + (k - 1) * c2, none⟩ 0 c2 #[]) ((w.drewN q).drewN m) = .ok (qy d[k - 1]!).toArray ((w.drewN q).drewN m) := fun m => run_loadCellsFrom_list Tryz.prog _ _ _ c2 (HK.out _) (HoldsK.cells (hHd m) HK.out (by omega))
      have A : Aside (∀ j, j < k → keeps d j = true) := hall
      have HH : Aside (HoldsK qy c2 w g 0 d) := hH
      clear hall hH hHd
      generalize hx : d[k]! = x at l1
      generalize hy : d[k - 1]! = y at l0
      have B : Aside (d[k]! = x ∧ d[k - 1]! = y) := ⟨hx, hy⟩
      clear hx hy
      obtain ⟨k1, rfl⟩ : ∃ k1, k = k1 + 1 := ⟨k - 1, by omega⟩
      simp only [Nat.add_sub_cancel, Nat.zero_add] at l0 l1
      have jz : (k1 : Int) + 1 < (d.size : Int) := by omega
      have jz1 : (k1 : Int) < (d.size : Int) := by omega
      have p0 : (0 : Int) ≤ (k1 : Int) + 1 := by omega
      have e0 : ((k1 : Int) + 1).toNat = k1 + 1 := by omega
      have hwp : IntKind.i64.wrap (k1 : Int) = (k1 : Int) := by rw [IntKind.wrap_i64]; omega
      generalize hwq : w.drewN q = wq at l0 l1 ⊢
      by_cases hdup : x = y
      · subst hdup
        go_wp2_with fail
        go_quiet_o (fail)
        go_wp2
        clear l0 l1
        go_loopg [3, 5] d.size (fun gg s3 s5 wr => ∃ (kk k2 q2 : Nat) (dk : Array Vt), s3 = .int .i64 kk ∧ s5 = .int .i64 k2 ∧ 1 ≤ k2 ∧ k1 + 1 + k2 ≤ d.size ∧ d.size - (k1 + 1 + k2) ≤ gg ∧ wr = putRowK qy c2 (Sort.ahead w q2) g 0 dk ∧ CompInv d (k1 + 1 + k2) kk dk)
        case atStart => exact ⟨k1 + 1, 1, q + nq, d, by go_num, rfl, Nat.le_refl _, by omega, by omega, by rw [← hwq, World.drewN_drewN]; exact (putRowK_self qy c2 (Sort.ahead w (q + nq)) g 0 d (holdsK_ahead qy c2 w (q + nq) g 0 d HH.out)).symm, CompInv.start A.out (keeps_neg (by omega) (by rw [B.out.1, B.out.2]))⟩
        case round =>
         obtain ⟨kk, k2, q2, dk, rfl, rfl, h1, hle, hg2, hwr, hI⟩ := hrel
         have hkk := hI.lt
         have hds := hI.size
         have hHk : ∀ m, HoldsK qy c2 (wr.drewN m) g 0 dk := fun m => by rw [hwr, putRowK_drewN]; exact holdsK_putRowK qy c2 _ g 0 d dk (holdsK_ahead qy c2 w _ g 0 d HH.out) hds
         have W2 : Aside (wr = putRowK qy c2 (Sort.ahead w q2) g 0 dk) := hwr
         have I2 : Aside (CompInv d (k1 + 1 + k2) kk dk) := hI
         clear hwr
         by_cases hlt2 : k1 + 1 + k2 < d.size
         · obtain ⟨k3, rfl⟩ : ∃ k3, k2 = k3 + 1 := ⟨k2 - 1, by omega⟩
           have lm : ∀ m, Sem.run Tryz.prog (loadCellsFrom ⟨g, (k1 + 1) * c2 + (k3 + 1) * c2, none⟩ 0 c2 #[]) (wr.drewN m) = .ok (qy d[k1 + 1 + (k3 + 1)]!).toArray (wr.drewN m) := fun m => by
            have h := run_loadCellsFrom_list Tryz.prog _ _ _ c2 (HK.out _) (HoldsK.cells (hHk m) HK.out (i := k1 + 1 + (k3 + 1)) (by omega))
            rwa [hI.high (k1 + 1 + (k3 + 1)) (by omega), Nat.zero_add, Nat.add_mul (k1 + 1)] at h
           have lp : ∀ m, Sem.run Tryz.prog (loadCellsFrom ⟨g, (k1 + 1) * c2 + k3 * c2, none⟩ 0 c2 #[]) (wr.drewN m) = .ok (qy d[k1 + 1 + k3]!).toArray (wr.drewN m) := fun m => by
            have h := run_loadCellsFrom_list Tryz.prog _ _ _ c2 (HK.out _) (HoldsK.cells (hHk m) HK.out (i := k1 + 1 + k3) (by omega))
            rwa [hI.high (k1 + 1 + k3) (by omega), Nat.zero_add, Nat.add_mul (k1 + 1)] at h
           have st : ∀ m (u : Vt), Sem.run Tryz.prog (storeCells ⟨g, kk * c2, none⟩ (qy u) 0) (wr.drewN m) = .ok () ((wr.drewN m).setCells g (kk * c2) (qy u)) := fun m u => by
            have h := stores_of_holds Tryz.prog (hHk m) (kk * c2) (qy u) (by rw [HK.out, size_flatK]; have := Nat.mul_le_mul_right c2 (show kk + 1 ≤ dk.size by omega); rwa [Nat.add_mul, Nat.one_mul] at this) (y1e u)
            rwa [Nat.zero_add] at h
           clear hHk hI
           generalize hu : d[k1 + 1 + (k3 + 1)]! = u at lm
           generalize hv : d[k1 + 1 + k3]! = v at lp
           have C : Aside (d[k1 + 1 + (k3 + 1)]! = u ∧ d[k1 + 1 + (k3 + 1) - 1]! = v) := ⟨hu, hv⟩
           clear hu hv
           have jy : (k3 : Int) + 1 < ((d.size - (k1 + 1) : Nat) : Int) := by omega
           have jy1 : (k3 : Int) < ((d.size - (k1 + 1) : Nat) : Int) := by omega
           have p1 : (0 : Int) ≤ (k3 : Int) + 1 := by omega
           have e1 : ((k3 : Int) + 1).toNat = k3 + 1 := by omega
           have hwq3 : IntKind.i64.wrap (k3 : Int) = (k3 : Int) := by rw [IntKind.wrap_i64]; omega
           by_cases huv : u = v
           · subst huv
             go_wp2_with fail
             go_quiet_o (fail)
             go_wp2
             go_roundg (d.size - (k1 + 1 + (k3 + 1 + 1)))
             case measure => omega
             case rel => exact ⟨kk, k3 + 1 + 1, q2 + nq, dk, rfl, by go_num, by omega, by omega, Nat.le_refl _, by rw [W2.out, putRowK_drewN], I2.out.skip (keeps_neg (by omega) (by rw [C.out.1, C.out.2]))⟩
           · have hsU : (qy u).length = c2 := HK.out _
             go_wp2_with fail
             go_quiet_o (fail)
             go_wp2
             go_roundg (d.size - (k1 + 1 + (k3 + 1 + 1)))
             case measure => omega
             case rel =>
              refine ⟨kk + 1, k3 + 1 + 1, q2 + nq, dk.setIfInBounds kk u, by go_num, by go_num, by omega, by omega, Nat.le_refl _, ?_, by have := I2.out.keep hlt2 (keeps_pos (by rw [C.out.1, C.out.2]; exact huv)); rwa [C.out.1] at this⟩
              rw [W2.out, putRowK_drewN, ← z91 c2 HK.out _ _ g dk kk u (by omega), Nat.zero_add]
         · have hend : k1 + 1 + k2 = d.size := by omega
           have h0 : ∀ t, t < dk.size * c2 → (wr.cell? ⟨g, t, none⟩).isSome = true ∧ wr.frozen? ⟨g, t, none⟩ = false := fun t ht => by
            have h1 := hHk 0 t (by rw [size_flatK]; exact ht)
            rw [Nat.zero_add] at h1
            exact ⟨by have := h1.1; rw [World.drewN_zero] at this; rw [this]; rfl, h1.2⟩
           have hlen : ((List.replicate (d.size - kk) (⟨0, 0⟩ : Vt)).flatMap qy).length = (d.size - kk) * c2 := by rw [y4v, List.length_replicate, C2.out]
           have hmul : (d.size - kk) * c2 = dk.size * c2 - kk * c2 := by rw [hds]; exact Nat.sub_mul _ _ _
           have hle2 : kk * c2 ≤ dk.size * c2 := Nat.mul_le_mul_right _ (by omega)
           have hcl : ∀ ty, (Builtin.clear_ #[230] ty #[.slice (some ⟨g, kk * c2, none⟩) (d.size - kk) (cap - kk)]).run Tryz.prog wr = .ok (.tuple #[]) (wr.setCells g (kk * c2) ((List.replicate (d.size - kk) (⟨0, 0⟩ : Vt)).flatMap qy)) := fun ty =>
            z6w wr _ _ ty _ _ t22 v23 g (kk * c2) _ _ (by omega) (ybo _) (fun v hv => by
             obtain ⟨x, _, hx⟩ := List.mem_flatMap.1 hv
             exact y1e x v hx) (fun j hj => (h0 _ (by rw [hlen] at hj; omega)).1) (fun j hj => (h0 _ (by rw [hlen] at hj; omega)).2)
           clear hHk hI h0 hlen hmul hle2
           go_wp2
           go_ret
           have hI := I2.out
           rw [hend] at hI
           refine ⟨by rw [hI.len]; rfl, q2, ?_⟩
           rw [hI.len, ← hI.done (⟨0, 0⟩ : Vt), W2.out]
           unfold putRowK
           have h5 := Nat.mul_le_mul_right c2 (show kk + (d.size - kk) ≤ dk.size by omega)
           rw [Nat.add_mul] at h5
           rw [← z37 qy c2 HK.out (by have := C2.out; omega) _ dk kk (by simp; omega), ← setCells_putRow _ _ _ _ _ _ (by rw [y4v, List.length_replicate, size_flatK, ← C2.out]; exact h5), Nat.zero_add]
      · go_wp2_with fail
        go_quiet_o (fail)
        go_wp2
        go_roundg (d.size - (k1 + 1 + 1))
        case measure => omega
        case rel =>
         refine ⟨k1 + 1 + 1, q + nq, by omega, by omega, Nat.le_refl _, by go_num, by rw [← hwq, World.drewN_drewN], fun j hj => ?_⟩
         by_cases e : j = k1 + 1
         · subst e
           exact keeps_pos (by rw [B.out.1, B.out.2]; exact hdup)
         · exact A.out j (by omega)
    · have : k = d.size := by omega
      subst this
      have HH : Aside (HoldsK qy c2 w g 0 d) := hH
      clear hH
      go_wp2
      go_ret
      obtain ⟨e1, e2⟩ := HS.out q hall
      exact ⟨by rw [e1]; rfl, q, e2⟩
section
variable {α : Type} [Inhabited α] (enc : α → List Value) (cs : α → List Cell) (k : Nat)
theorem q65 {α : Type} (enc : α → List Value) (k : Nat) (hk : ∀ x, (enc x).length = k) : ∀ us : List α, (us.flatMap enc).length = us.length * k
 | [] => by simp
 | x :: us => by rw [List.flatMap_cons, List.length_append, q65 enc k hk us, hk, List.length_cons, Nat.add_mul, Nat.one_mul, Nat.add_comm]
theorem y65 {α : Type} (enc : α → List Value) (k : Nat) (hk : ∀ x, (enc x).length = k) : ∀ {us : List α} {j c : Nat} {x : α}, us[j]? = some x → c < k → (us.flatMap enc)[j * k + c]? = (enc x)[c]?
 | x :: us, 0, c, m, h, hc => by
   cases h
   rw [List.flatMap_cons, Nat.zero_mul, Nat.zero_add, List.getElem?_append_left (by rw [hk]; exact hc)]
 | x :: us, j + 1, c, m, h, hc => by
   have h1 := y65 enc k hk (us := us) (j := j) (c := c) (by simpa using h) hc
   rw [List.flatMap_cons, Nat.add_mul, Nat.one_mul, List.getElem?_append_right (by rw [hk]; omega), hk, ← h1]
   congr 1
   omega
theorem y2n (hk : ∀ x, (enc x).length = k) (us : List α) : flatK enc k us.toArray = (us.flatMap enc).toArray := by
 have hl := q65 enc k hk us
 refine ext_get! (by simp [hl]) fun t ht => ?_
 have ht' : t < us.length * k := by simpa using ht
 have hj : t / k < us.length := by rw [Nat.div_lt_iff_lt_mul (by rcases Nat.eq_zero_or_pos k with h | h; · subst h; simp at ht'
                                                                 · exact h)]; exact ht'
 have hc : t % k < k := Nat.mod_lt _ (by rcases Nat.eq_zero_or_pos k with h | h; · subst h; simp at ht'
                                         · exact h)
 have h1 := y65 enc k hk (List.getElem?_eq_getElem hj) hc
 rw [Nat.mul_comm, Nat.div_add_mod] at h1
 rw [get_flatK _ _ _ t (by simpa using ht')]
 simp only [List.getElem!_toArray]
 rw [List.getElem!_eq_getElem?_getD, List.getElem!_eq_getElem?_getD, List.getElem!_eq_getElem?_getD, List.getElem?_eq_getElem hj, Option.getD_some, ← h1]
theorem zb1 {α : Type} (enc : α → List Value) (cs : α → List Cell) (k : Nat) {w : World} {N S : Nat → Prop} {us : List α} {v : Value} (hk : ∀ x, (enc x).length = k) (hcs : ∀ x, cs x = (enc x).map Cell.s) (h : z0b w (CN w N true) S k (us.map cs) v) : (us = [] ∧ ∃ A, v = .slice A 0 0) ∨ ∃ e, w.ownsRow 0 e k v us.length (us.flatMap enc) ∧ ∀ g, v.ownBlock = some g → S g := by
 rcases h with ⟨hn, A, rfl⟩ | ⟨e, xs, u, F, h⟩
 · exact .inl ⟨by simpa using hn, A, rfl⟩
 · refine .inr ⟨e, ?_, h.hS⟩
   have ho := h.ho
   have hl : (us.map cs).length = us.length := by simp
   rw [hl] at ho
   have hxl : xs.length = us.length * k := ho.1
   have hx : xs = us.flatMap enc := by
    refine List.ext_getElem? fun t => ?_
    by_cases ht : t < us.length * k
    · have k0 : 0 < k := by rcases Nat.eq_zero_or_pos k with h | h; · subst h; simp at ht
                            · exact h
      have hj : t / k < us.length := by rw [Nat.div_lt_iff_lt_mul k0]; exact ht
      have hc : t % k < k := Nat.mod_lt _ k0
      have et : t = t / k * k + t % k := by rw [Nat.mul_comm, Nat.div_add_mod]
      have h3 := h.hu (t / k) (t % k) (by omega) hc
      have hce : t % k < (enc us[t / k]).length := by rw [hk]; exact hc
      have h4 := yaz (h.hr (t / k) (t % k) (cs us[t / k]) (.s (enc us[t / k])[t % k]) (by simp [hj]) (by rw [hcs]; simp [hce]))
      rw [et, h3, h4, y65 enc k hk (List.getElem?_eq_getElem hj) hc]
      simp [hce]
    · rw [List.getElem?_eq_none (by omega), List.getElem?_eq_none (by rw [q65 enc k hk]; omega)]
   rw [hx] at ho
   exact ho
theorem q4e {α : Type} (enc : α → List Value) (cs : α → List Cell) (k : Nat) {w : World} {S : Nat → Prop} {us : List α} {v : Value} {e : TypeId} (hk : ∀ x, (enc x).length = k) (hcs : ∀ x, cs x = (enc x).map Cell.s) (h1 : ∀ x, ∀ v ∈ enc x, v.oneCell' = true) (h : w.ownsRow 0 e k v us.length (us.flatMap enc)) (hS : ∀ g, v.ownBlock = some g → S g) : z0b w (Go.Sx.Own w) S k (us.map cs) v := by
 refine .inr ⟨e, us.flatMap enc, fun j c => ((us[j]?).bind fun m => (enc m)[c]?).getD undef, fun _ _ _ => False, by simpa using h, hS, fun row hrow => ?_, fun _ _ _ h => h.elim, fun _ _ _ _ _ h => h.elim, fun j c hj hc => ?_, fun j c row x hj hc => ?_⟩
 · obtain ⟨m, _, rfl⟩ := List.mem_map.1 hrow; rw [hcs, List.length_map, hk]
 · have hj : j < us.length := by simpa using hj
   rw [y65 enc k hk (List.getElem?_eq_getElem hj) hc, List.getElem?_eq_getElem hj, Option.bind_some, List.getElem?_eq_getElem (by rw [hk]; exact hc)]
   rfl
 · have hjl : j < us.length := by have := (List.getElem?_eq_some_iff.1 hj).1; simpa using this
   have er : row = cs us[j] := by simp [hjl] at hj; exact hj.symm
   subst er
   rw [hcs] at hc
   rw [List.getElem?_map, Option.map_eq_some_iff] at hc
   obtain ⟨val, c1, rfl⟩ := hc
   simp only [List.getElem?_eq_getElem hjl, Option.bind_some, c1, Option.getD_some]
   exact .s _ _ (h1 _ val (List.mem_of_getElem? c1))
theorem z30 {w : World} {base : Nat} {e : TypeId} {g n cap : Nat} {us : List α} (hk : ∀ x, (enc x).length = k) (h : w.ownsRow base e k (.slice (some ⟨g, 0, none⟩) n cap) n (us.flatMap enc)) : HoldsK enc k w g 0 us.toArray ∧ n ≤ cap ∧ cap ≤ maxLen ∧ g < w.heap.size := by
 obtain ⟨h1, h2⟩ := qas h
 refine ⟨?_, h2⟩
 show Holds id w g 0 (flatK enc k us.toArray)
 rw [y2n enc k hk]
 exact h1
theorem z7j {α : Type} (enc : α → List Value) (k : Nat) (hk : ∀ x, (enc x).length = k) : ∀ (us : List α) (i : Nat), (us.flatMap enc).take (i * k) = (us.take i).flatMap enc
 | [], i => by simp
 | m :: us, 0 => by simp
 | m :: us, i + 1 => by
   have h := z7j enc k hk us i
   rw [List.flatMap_cons, List.take_append, List.take_of_length_le (by rw [hk, Nat.add_mul]; omega), List.take_succ_cons, List.flatMap_cons, ← h, hk]
   congr 2
   rw [Nat.add_mul]; omega
theorem y4y {w : World} {base : Nat} {e : TypeId} {g n cap q : Nat} {us ys zs : List α} (hk : ∀ x, (enc x).length = k) (h : w.ownsRow base e k (.slice (some ⟨g, 0, none⟩) n cap) n (us.flatMap enc)) (hl : (ys ++ zs).length = n) : (putRowK enc k (Sort.ahead w q) g 0 (ys ++ zs).toArray).ownsRow base e k (.slice (some ⟨g, 0, none⟩) ys.length cap) ys.length (ys.flatMap enc) := by
 have h1 := q4y (q := q) (k := ys.length) (ys := (ys ++ zs).flatMap enc) h (by rw [q65 enc k hk, hl]) (by rw [List.length_append] at hl; omega)
 rw [z7j enc k hk, List.take_left' rfl] at h1
 unfold putRowK
 rw [y2n enc k hk]
 exact h1
end
theorem y3m (y : Vt) : ∀ xs : List Vt, qq (xs ++ [y]) = qq xs ++ (if xs.getLast? = some y then [] else [y])
 | [] => rfl
 | [x] => by
   show qq [x, y] = [x] ++ _
   rw [qq]
   by_cases e : x = y
   · subst e; simp [qq]
   · rw [if_neg e, if_neg (by simpa using e)]; rfl
 | x :: z :: r => by
   have h := y3m y (z :: r)
   show qq (x :: z :: (r ++ [y])) = _
   rw [qq, qq]
   have h' : qq (z :: (r ++ [y])) = qq (z :: r) ++ (if (z :: r).getLast? = some y then [] else [y]) := h
   have hg : (x :: z :: r).getLast? = (z :: r).getLast? := List.getLast?_cons_cons
   rw [h', hg]
   split <;> simp
theorem y4n (us : List Vt) : ∀ m, m ≤ us.length → compactUpTo us.toArray m = qq (us.take m)
 | 0, _ => rfl
 | 1, h => by
   have hm : 0 < us.length := by omega
   rw [compactUpTo_succ, List.take_add_one, List.getElem?_eq_getElem hm]
   simp [compactUpTo, keeps, qq, hm]
 | m + 2, h => by
   have hm : m + 1 < us.length := by omega
   have hm0 : m < us.length := by omega
   rw [compactUpTo_succ, y4n us (m + 1) (by omega), List.take_add_one (i := m + 1), List.getElem?_eq_getElem hm]
   show _ = qq (us.take (m + 1) ++ [us[m + 1]])
   rw [y3m]
   congr 1
   have e1 : us.toArray[m + 1]! = us[m + 1] := by simp [hm]
   have e3 : us.toArray[m + 1 - 1]! = us[m] := by simp [hm0]
   have e2 : (us.take (m + 1)).getLast? = some us[m] := by rw [List.getLast?_eq_getElem?, List.length_take, Nat.min_eq_left (by omega), List.getElem?_take, if_pos (by omega)]; exact List.getElem?_eq_getElem hm0
   rw [e1, e2]
   unfold keeps
   rw [e1, e3]
   by_cases e : us[m] = us[m + 1]
   · rw [if_neg (by simp [e]), if_pos (by rw [e])]
   · rw [if_pos (by simp [Ne.symm e]), if_neg (by simpa using e)]
theorem y7d (us : List Vt) : compactUpTo us.toArray us.length = qq us := by rw [y4n us _ (Nat.le_refl _), List.take_length]
theorem y7c (us : List Vt) : (qq us).length ≤ us.length := by
 rw [← y7d]
 unfold compactUpTo
 rw [List.length_map]
 exact Nat.le_trans (List.length_filter_le _ _) (by simp)
theorem z2w (x : Vt) : x.cs = (qy x).map Cell.s := rfl
theorem y2t (a : Option Addr) (cap : Nat) (w : World) : Calls Tryz.prog 354 #[.slice a 0 cap] w fun e w' => e = .returned (.slice a 0 cap) ∧ w' = w := by
 have mixed : Tryz.prog.follows .mixedOrders = true := by kernel_rfl
 have t22 := Tryz.underlying230
 have a22 := Tryz.isAgg230
 have z22 := Tryz.sizeOf230
 have v22 := Tryz.zeroValue230
 refine calls_of_wp Tryz.func354 rfl ?_
 simp only [Tryz.ntmps354, List.size_toArray, List.length_cons, List.length_nil, Nat.reduceAdd, Nat.reduceSub, Array.replicate_succ, Array.replicate_zero, List.push_toArray, List.append_toArray, List.nil_append, List.cons_append]
 go_wp2
 go_ret
 exact ⟨rfl, rfl⟩
theorem q7c (N : Nat → Prop) (S : Nat → Prop) (us : List Vt) (w : World) (v0 : Value) (hu : us.length ≤ 1048576) (hS : ∀ x, S x → x < w.heap.size) (h0 : z0b w (CN w N true) S 2 (us.map Vt.cs) v0) :
 Calls Tryz.prog 354 #[v0] w fun e w' => ∃ (v' : Value) (R : Nat → Prop), e = .returned v' ∧ qo w w' S ∧ z0b w' (Go.Sx.Own w') R 2 ((qq us).map Vt.cs) v' ∧ ∀ x, R x → S x ∧ x < w'.heap.size := by
 rcases zb1 qy Vt.cs 2 zx z2w h0 with ⟨rfl, A, rfl⟩ | ⟨e, ho, hSo⟩
 · refine (y2t A 0 w).mono ?_
   rintro e w' ⟨rfl, rfl⟩
   exact ⟨_, fun _ => False, rfl, qo.refl _ _, .inl ⟨rfl, A, rfl⟩, fun x hx => hx.elim⟩
 · by_cases hn : v0 = .slice none 0 0
   · have hl : us.length = 0 := by
      rcases ho.2 with ⟨_, h⟩ | ⟨g, cap, cur, h, _⟩
      · exact h
      · rw [hn] at h; cases h
     have : us = [] := List.eq_nil_of_length_eq_zero hl
     subst this
     subst hn
     refine (y2t none 0 w).mono ?_
     rintro e w' ⟨rfl, rfl⟩
     exact ⟨_, fun _ => False, rfl, qo.refl _ _, .inl ⟨rfl, none, rfl⟩, fun x hx => hx.elim⟩
   · obtain ⟨g, cap, rfl⟩ : ∃ g cap, v0 = .slice (some ⟨g, 0, none⟩) us.length cap := by
      rcases ho.2 with ⟨h, _⟩ | ⟨g, cap, cur, h, _⟩
      · exact absurd h hn
      · exact ⟨g, cap, h⟩
     obtain ⟨hH, hc1, hc2, hg⟩ := z30 qy 2 zx ho
     have hcl := y7c us
     have hgS := hSo g rfl
     have hrun := z7d g cap us.toArray w hH (by simpa using hu) (by simpa using hc1) hc2
     rw [List.size_toArray, y7d] at hrun
     refine hrun.mono ?_
     rintro e' w' ⟨rfl, q, rfl⟩
     have hp := y4y qy 2 (q := q) (ys := qq us) (zs := List.replicate (us.length - (qq us).length) ⟨0, 0⟩) zx ho (by simp; omega)
     refine ⟨_, fun x => x = g, rfl, ⟨rfl, rfl, rfl, by simp [putRowK, Sort.putRow, Sort.mapBlock, Sort.ahead], fun k hk hnk => ?_⟩, q4e qy Vt.cs 2 zx z2w y1e hp (fun g' h => by cases h; rfl), fun x hx => ?_⟩
     · simp [putRowK, Sort.putRow, Sort.mapBlock, Sort.ahead, Array.getElem?_modify, show g ≠ k from fun h => hnk (h ▸ hgS)]
     · cases hx
       exact ⟨hgS, by simpa [putRowK, Sort.putRow, Sort.mapBlock, Sort.ahead] using hg⟩
theorem q8m (us : List Vt) (hu : us.length ≤ 1048576) : PG Tryz.prog 354 [.one (.giv true 2 (us.map Vt.cs))] (.one (.own false [.l 2 ((qq us).map Vt.cs)])) [] := by
 refine ⟨by kernel_rfl, fun N S w vals hS hSd hsh hc => ?_⟩
 obtain ⟨v0, rfl⟩ : ∃ v0, vals = #[v0] := by
  match vals, hsh with
  | ⟨[v0]⟩, _ => exact ⟨v0, rfl⟩
 obtain ⟨sz, hz, h0⟩ := hc 0 _ v0 rfl rfl
 obtain rfl := hz (by decide)
 refine (q7c N (S 0) us w v0 hu (fun x hx => (hS 0 x hx).1) h0).mono ?_
 rintro e w' ⟨v', R, rfl, hk, hsl, hv⟩
 refine ⟨v', R, fun _ _ => False, rfl, hk.mono fun _ _ h => ⟨0, h⟩, ⟨#[v'], fun k x => k = 0 ∧ R x, rfl, rfl, fun k x hx => hx.2, fun k k' x hx hx' => by rw [hx.1, hx'.1], fun k c u hc hu => ?_⟩, fun x hx => ⟨.inr ⟨0, (hv x hx).1⟩, (hv x hx).2, fun _ h => h⟩, fun _ _ h => h.elim, fun _ _ _ h => h.elim, fun t rows' hb => by cases hb⟩
 cases k with
 | succ k => simp at hc
 | zero =>
   cases hc
   cases hu
   exact ⟨2, fun _ => rfl, z0b.imp hsl (fun _ h => ⟨rfl, h⟩) (fun _ _ _ => rfl) (fun _ _ _ _ h => h)⟩
def yc2 : Ren := ⟨fun n => bif Nat.beq n 6 then 356 else bif Nat.beq n 14 then 426 else bif Nat.beq n 15 then 273 else bif Nat.beq n 20 then 449 else bif Nat.beq n 21 then 450 else bif Nat.beq n 22 then 451 else bif Nat.beq n 23 then 452 else bif Nat.beq n 24 then 453 else bif Nat.beq n 25 then 454 else bif Nat.beq n 26 then 455 else bif Nat.beq n 27 then 456 else bif Nat.beq n 28 then 375 else bif Nat.beq n 29 then 376 else bif Nat.beq n 46 then 462 else bif Nat.beq n 47 then 430 else bif Nat.beq n 48 then 431 else bif Nat.beq n 49 then 463 else bif Nat.beq n 50 then 464 else bif Nat.beq n 57 then 466 else 0, fun t => bif Nat.beq t 3 then 3 else bif Nat.beq t 4 then 4 else bif Nat.beq t 5 then 5 else bif Nat.beq t 9 then 9 else bif Nat.beq t 22 then 230 else bif Nat.beq t 24 then 171 else bif Nat.beq t 25 then 383 else bif Nat.beq t 39 then 323 else bif Nat.beq t 45 then 389 else bif Nat.beq t 46 then 390 else bif Nat.beq t 50 then 140 else bif Nat.beq t 53 then 396 else bif Nat.beq t 55 then 398 else bif Nat.beq t 66 then 434 else bif Nat.beq t 70 then 438 else bif Nat.beq t 76 then 452 else bif Nat.beq t 77 then 453 else 0, fun x => x⟩
theorem q8w : SlLaysF0.n6 Tryz.prog yc2 where
 mixed := by kernel_rfl
 f6 := ⟨ "slices.SortFunc[[]loop.example/g00203/impl.Vote,loop.example/g00203/impl.Vote]", by decide, by kernel_rfl⟩
 f14 := ⟨ "slices.pdqsortCmpFunc[loop.example/g00203/impl.Vote]", by decide, by kernel_rfl⟩
 f15 := by kernel_rfl
 f20 := ⟨ "slices.insertionSortCmpFunc[loop.example/g00203/impl.Vote]", by decide, by kernel_rfl⟩
 f21 := ⟨ "slices.heapSortCmpFunc[loop.example/g00203/impl.Vote]", by decide, by kernel_rfl⟩
 f22 := ⟨ "slices.breakPatternsCmpFunc[loop.example/g00203/impl.Vote]", by decide, by kernel_rfl⟩
 f23 := ⟨ "slices.choosePivotCmpFunc[loop.example/g00203/impl.Vote]", by decide, by kernel_rfl⟩
 f24 := ⟨ "slices.reverseRangeCmpFunc[loop.example/g00203/impl.Vote]", by decide, by kernel_rfl⟩
 f25 := ⟨ "slices.partialInsertionSortCmpFunc[loop.example/g00203/impl.Vote]", by decide, by kernel_rfl⟩
 f26 := ⟨ "slices.partitionEqualCmpFunc[loop.example/g00203/impl.Vote]", by decide, by kernel_rfl⟩
 f27 := ⟨ "slices.partitionCmpFunc[loop.example/g00203/impl.Vote]", by decide, by kernel_rfl⟩
 f28 := by kernel_rfl
 f29 := by kernel_rfl
 f46 := ⟨ "slices.siftDownCmpFunc[loop.example/g00203/impl.Vote]", by decide, by kernel_rfl⟩
 f47 := by kernel_rfl
 f48 := by kernel_rfl
 f49 := ⟨ "slices.medianAdjacentCmpFunc[loop.example/g00203/impl.Vote]", by decide, by kernel_rfl⟩
 f50 := ⟨ "slices.medianCmpFunc[loop.example/g00203/impl.Vote]", by decide, by kernel_rfl⟩
 f57 := ⟨ "slices.order2CmpFunc[loop.example/g00203/impl.Vote]", by decide, by kernel_rfl⟩
 t0 := Tryz.underlying0
 a0 := Tryz.isAgg0
 z0 := Tryz.sizeOf0
 v0 := Tryz.zeroValue0
 t3 := Tryz.underlying3
 a3 := Tryz.isAgg3
 z3 := Tryz.sizeOf3
 v3 := Tryz.zeroValue3
 t4 := Tryz.underlying4
 a4 := Tryz.isAgg4
 z4 := Tryz.sizeOf4
 v4 := Tryz.zeroValue4
 t5 := Tryz.underlying5
 a5 := Tryz.isAgg5
 z5 := Tryz.sizeOf5
 v5 := Tryz.zeroValue5
 t9 := Tryz.underlying9
 a9 := Tryz.isAgg9
 z9 := Tryz.sizeOf9
 v9 := Tryz.zeroValue9
 t22 := Tryz.underlying230
 a22 := Tryz.isAgg230
 z22 := Tryz.sizeOf230
 v22 := Tryz.zeroValue230
 t25 := Tryz.underlying383
 a25 := Tryz.isAgg383
 z25 := Tryz.sizeOf383
 v25 := Tryz.zeroValue383
 t39 := Tryz.underlying323
 a39 := Tryz.isAgg323
 z39 := Tryz.sizeOf323
 v39 := Tryz.zeroValue323
 t45 := Tryz.underlying389
 a45 := Tryz.isAgg389
 z45 := Tryz.sizeOf389
 v45 := Tryz.zeroValue389
 t46 := Tryz.underlying390
 a46 := Tryz.isAgg390
 z46 := Tryz.sizeOf390
 v46 := Tryz.zeroValue390
 t50 := Tryz.underlying140
 a50 := Tryz.isAgg140
 z50 := Tryz.sizeOf140
 v50 := Tryz.zeroValue140
 t53 := Tryz.underlying396
 a53 := Tryz.isAgg396
 z53 := Tryz.sizeOf396
 v53 := Tryz.zeroValue396
 t55 := Tryz.underlying398
 a55 := Tryz.isAgg398
 z55 := Tryz.sizeOf398
 v55 := Tryz.zeroValue398
 t66 := Tryz.underlying434
 a66 := Tryz.isAgg434
 z66 := Tryz.sizeOf434
 v66 := Tryz.zeroValue434
 t70 := Tryz.underlying438
 a70 := Tryz.isAgg438
 z70 := Tryz.sizeOf438
 v70 := Tryz.zeroValue438
 t76 := Tryz.underlying452
 a76 := Tryz.isAgg452
 z76 := Tryz.sizeOf452
 v76 := Tryz.zeroValue452
 t77 := Tryz.underlying453
 a77 := Tryz.isAgg453
 z77 := Tryz.sizeOf453
 v77 := Tryz.zeroValue453
theorem z8m (x y : Vt) (hx : 0 ≤ x.b ∧ x.b ≤ 1000) (hy : 0 ≤ y.b ∧ y.b ≤ 1000) (w : World) : Calls Tryz.prog 357 #[.agg (qy x).toArray, .agg (qy y).toArray] w fun e w' => e = .returned (.int .i64 (x.b - y.b)) ∧ ∃ q os', w' = grow (w.drewN q) os' := by
 obtain ⟨xb, xv⟩ := x
 obtain ⟨yb, yv⟩ := y
 dsimp only at hx hy
 have mixed : Tryz.prog.follows .mixedOrders = true := by kernel_rfl
 have hw : IntKind.i64.wrap (xb - yb) = xb - yb := wrap_i64 (by omega) (by omega)
 simp only [qy]
 refine calls_of_wp Tryz.func357 rfl ?_
 simp only [Tryz.ntmps357, List.size_toArray, List.length_cons, List.length_nil, Nat.reduceAdd, Nat.reduceSub, Array.replicate_succ, Array.replicate_zero, List.push_toArray, List.append_toArray, List.nil_append, List.cons_append]
 go_wp2
 go_ret
 exact ⟨rfl, 0, _, by rw [alloc_eq_grow, alloc_eq_grow, grow_grow]; rfl⟩
theorem z86 (us : List Vt) (hu : us.length ≤ 1048576) (hr : ∀ x ∈ us, 0 ≤ x.b ∧ x.b ≤ 1000) (hd : ∀ x ∈ us, ∀ y ∈ us, x.b = y.b → x = y) (N : Nat → Prop) (S : Nat → Prop) (w : World) (v0 : Value) (hS : ∀ x, S x → x < w.heap.size) (h0 : z0b w (CN w N true) S 2 (us.map Vt.cs) v0) :
 Calls Tryz.prog 356 #[v0, .func (.func 357) #[] #[]] w fun e w' => e = .returned (.tuple #[]) ∧ qo w w' S ∧ ∃ R : Nat → Prop, z0b w' (Go.Sx.Own w') R 2 ((z0y us).map Vt.cs) v0 ∧ ∀ x, R x → S x ∧ x < w'.heap.size := by
 rcases zb1 qy Vt.cs 2 zx z2w h0 with ⟨rfl, A, rfl⟩ | ⟨e, ho, hSo⟩
 · refine (AnyF.slices_SortFunc_none q8w A 0 _ w).mono ?_
   rintro e w' ⟨rfl, rfl⟩
   exact ⟨rfl, qo.refl _ _, fun _ => False, .inl ⟨by simp [z0y], A, rfl⟩, fun x hx => hx.elim⟩
 · by_cases hn : v0 = .slice none 0 0
   · have hl : us.length = 0 := by
      rcases ho.2 with ⟨_, h⟩ | ⟨g, cap, cur, h, _⟩
      · exact h
      · rw [hn] at h; cases h
     have : us = [] := List.eq_nil_of_length_eq_zero hl
     subst this
     subst hn
     refine (AnyF.slices_SortFunc_none q8w none 0 _ w).mono ?_
     rintro e w' ⟨rfl, rfl⟩
     exact ⟨rfl, qo.refl _ _, fun _ => False, .inl ⟨by simp [z0y], none, rfl⟩, fun x hx => hx.elim⟩
   · obtain ⟨g, cap, rfl⟩ : ∃ g cap, v0 = .slice (some ⟨g, 0, none⟩) us.length cap := by
      rcases ho.2 with ⟨h, _⟩ | ⟨g, cap, cur, h, _⟩
      · exact absurd h hn
      · exact ⟨g, cap, h⟩
     have hgS := hSo g rfl
     by_cases he : us = []
     · subst he
       refine (AnyF.slices_SortFunc_none q8w (some ⟨g, 0, none⟩) cap _ w).mono ?_
       rintro e' w' ⟨rfl, rfl⟩
       exact ⟨rfl, qo.refl _ _, fun x => x = g, q4e qy Vt.cs 2 zx z2w y1e (by simpa [z0y] using ho) (fun g' h => by cases h; rfl), fun x hx => hx ▸ ⟨hgS, hS g hgS⟩⟩
     · obtain ⟨z, hz⟩ := List.exists_mem_of_ne_nil us he
       haveI : Inhabited {x : Vt // x ∈ us} := ⟨⟨z, hz⟩⟩
       obtain ⟨_, hc1, hc2, hg⟩ := z30 qy 2 zx ho
       have hfm : ∀ l : List {x : Vt // x ∈ us}, l.flatMap (fun x => qy x.1) = (l.map Subtype.val).flatMap qy := fun l => by rw [List.flatMap_map]
       have hH : HoldsK (fun x : {x : Vt // x ∈ us} => qy x.1) 2 w g 0 us.attach.toArray := by
        refine (z30 (fun x : {x : Vt // x ∈ us} => qy x.1) 2 (fun x => zx x.1) (us := us.attach) (n := us.length) (cap := cap) (base := 0) (e := e) ?_).1
        rw [hfm, List.attach_map_subtype_val]
        exact ho
       have hrun := AnyQ.slices_SortFunc_total q8w 2 Tryz.isAgg171 Tryz.sizeOf171 (fun x : {x : Vt // x ∈ us} => qy x.1) (fun x => zx x.1) (fun x => y1e x.1) (fun x y => x.1.b - y.1.b)
        ⟨fun x => by simp [ltOf], fun x y z h1 h2 => by simp only [ltOf, decide_eq_true_eq] at *; omega, fun x y z h1 h2 => by simp only [ltOf, decide_eq_false_iff_not] at *; omega⟩
        357 #[] g 0 cap us.attach.toArray w (enters_of Tryz.func357 (by kernel_rfl) rfl)
        (fun m os dk hdk x y => z8m x.1 y.1 (hr x.1 x.2) (hr y.1 y.2) _) hH hg (by simp; omega)
        (fun x y h1 h2 => Subtype.ext (hd x.1 x.2 y.1 y.2 (by simp only [ltOf, decide_eq_false_iff_not] at h1 h2; omega)))
       rw [List.size_toArray, List.length_attach] at hrun
       refine hrun.mono ?_
       rintro e' w' ⟨rfl, q, os, rfl⟩
       have hms : ((us.attach.toArray.toList.mergeSort fun x y => !(ltOf (fun x y : {x : Vt // x ∈ us} => x.1.b - y.1.b)) y x).map Subtype.val) = z0y us := by
        unfold z0y
        rw [List.map_mergeSort (s := fun a b : Vt => decide (a.b ≤ b.b)) (f := Subtype.val)]
        · simp
        · intro a _ b _
          simp only [ltOf]
          by_cases h : a.1.b ≤ b.1.b
          · simp [h]; try omega
          · simp [h]; try omega
       have hml : (z0y us).length = us.length := (List.mergeSort_perm us _).length_eq
       generalize (us.attach.toArray.toList.mergeSort fun x y => !(ltOf (fun x y : {x : Vt // x ∈ us} => x.1.b - y.1.b)) y x) = ms at hms
       have hpw : putRowK (fun x : {x : Vt // x ∈ us} => qy x.1) 2 (Sort.ahead w q) g 0 ms.toArray = putRowK qy 2 (Sort.ahead w q) g 0 (z0y us ++ []).toArray := by
        unfold putRowK
        rw [y2n (fun x : {x : Vt // x ∈ us} => qy x.1) 2 (fun x => zx x.1), y2n qy 2 zx, hfm, hms, List.append_nil]
       have hsw : sortWorldK (fun x : {x : Vt // x ∈ us} => qy x.1) 2 w g 0 q ms.toArray os = grow (putRowK qy 2 (Sort.ahead w q) g 0 (z0y us ++ []).toArray) os := by unfold sortWorldK; rw [hpw]
       rw [hsw]
       have hp := y4y qy 2 (q := q) (ys := z0y us) (zs := []) zx ho (by simpa using hml)
       have hsz : (putRowK qy 2 (Sort.ahead w q) g 0 (z0y us ++ []).toArray).heap.size = w.heap.size := by simp [putRowK, Sort.putRow, Sort.mapBlock, Sort.ahead]
       refine ⟨rfl, ⟨rfl, rfl, rfl, by rw [Sort.size_grow]; exact Nat.le_trans (Nat.le_of_eq hsz.symm) (Nat.le_add_right _ _), fun k hk hnk => ?_⟩, fun x => x = g, ?_, fun x hx => ?_⟩
       · rw [Sort.heap_grow_old _ _ (by rw [hsz]; exact hk)]
         simp [putRowK, Sort.putRow, Sort.mapBlock, Sort.ahead, Array.getElem?_modify, show g ≠ k from fun h => hnk (h ▸ hgS)]
       · rw [← hml]
         refine q4e qy Vt.cs 2 zx z2w y1e (e := e) (q08 hp fun g' h => ?_) (fun g' h => by cases h; rfl)
         cases h
         exact Sort.heap_grow_old _ _ (by rw [hsz]; exact hg)
       · subst hx
         exact ⟨hgS, by rw [Sort.size_grow]; exact Nat.lt_of_lt_of_le (by rw [hsz]; exact hg) (Nat.le_add_right _ _)⟩
theorem z98 (us : List Vt) (hu : us.length ≤ 1048576) (hr : ∀ x ∈ us, 0 ≤ x.b ∧ x.b ≤ 1000) (hd : ∀ x ∈ us, ∀ y ∈ us, x.b = y.b → x = y) : PG Tryz.prog 356 [.one (.giv true 2 (us.map Vt.cs)), .one (.bor (.f 357 []))] (.tup []) [(0, (z0y us).map Vt.cs)] := by
 refine ⟨by kernel_rfl, fun N S w vals hS hSd hsh hc => ?_⟩
 obtain ⟨v0, v1, rfl⟩ : ∃ v0 v1, vals = #[v0, v1] := by
  match vals, hsh with
  | ⟨[v0, v1]⟩, _ => exact ⟨v0, v1, rfl⟩
 obtain ⟨sz, hz, h0⟩ := hc 0 _ v0 rfl rfl
 obtain rfl := hz (by decide)
 have h1 : Rep w N (.f 357 []) v1 := hc 1 _ v1 rfl rfl
 obtain rfl : v1 = .func (.func 357) #[] #[] := by
  cases h1 with
  | f _ _ us hs hr =>
    have : us = #[] := Array.eq_empty_of_size_eq_zero (by simpa using hs)
    rw [this]
 refine (z86 us hu hr hd N (S 0) w v0 (fun x hx => (hS 0 x hx).1) h0).mono ?_
 rintro e w' ⟨rfl, hk, R, hsl, hv⟩
 refine ⟨_, fun _ => False, fun t x => t = 0 ∧ R x, rfl, hk.mono fun _ _ h => ⟨0, h⟩, ⟨#[], fun _ _ => False, rfl, rfl, fun _ _ h => h, fun _ _ _ h => h.elim, fun i rc u h => by simp at h⟩, fun x hx => hx.elim, fun t x hx => ⟨.inr ⟨0, (hv x hx.2).1⟩, (hv x hx.2).2⟩, fun t t' x h h' => by rw [h.1, h'.1], fun t rows' hb full sz rows u hg hu => ?_⟩
 cases t with
 | succ t => cases hb
 | zero =>
   cases hb
   cases hg
   cases hu
   refine ⟨by simp [z0y], fun i row row' h1 h2 => ?_, 2, fun _ => rfl, z0b.imp hsl (fun _ h => ⟨rfl, h⟩) (fun _ _ _ => rfl) (fun _ _ _ _ h => h)⟩
   obtain ⟨_, _, rfl⟩ := List.mem_map.1 (List.mem_of_getElem? h1)
   obtain ⟨_, _, rfl⟩ := List.mem_map.1 (List.mem_of_getElem? h2)
   rfl
end Go.Proofs.YtohbmmpkcibnpaaGreat
end
section
namespace Go.Proofs.YtohbmmpkcibnpaaGreat
open Go Go.Sx
set_option maxRecDepth 20000
set_option maxHeartbeats 4000000
theorem y7y (n : Nat) (hl : n ≤ 1048576) : PC Tryz.prog 318 [.one (i64 n)] (rI (z1l n)) := by
 refine PC.begin Tryz.func318 rfl (by kernel_rfl) ?_
 have hd : (n : Int).tdiv 2 = ((n / 2 : Nat) : Int) := rfl
 have hw : IntKind.i64.wrap (IntKind.i64.wrap ((n : Int).tdiv 2) + 1) = ((z1l n : Nat) : Int) := by
  rw [hd, wrap_i64 (n := ((n / 2 : Nat) : Int)) (by omega) (by omega), wrap_i64 (by omega) (by omega)]; rfl
 refine xs rfl ((by decide)) (xv rfl rfl rfl ?_)
 all_goals (refine vi ?_; exact hw)
theorem z8v : y9o Tryz.prog 171 :=
 y9o.of (e := 2) (deep_law (m := 3) (by omega) (by kernel_rfl) (by kernel_rfl) (by kernel_rfl)) (by kernel_rfl) Tryz.underlying171 (by kernel_rfl) Tryz.underlying2 (by kernel_rfl) (by kernel_rfl) (by kernel_rfl) ⟨Tryz.prog.types.size - 1, by kernel_rfl⟩
theorem y4m (sl : List Slt) {c s : Int} (hG : q3f sl c s) : PC Tryz.prog 260 [.one (.l (sl.map Slt.cs))] (.one (.own false [.l 2 ((qp sl).map Vt.cs)])) := by
 obtain ⟨hb, hgd, hok, hV, hd⟩ := hG.zbg
 have hl : sl.length ≤ 9 := hG.le.2
 have hw : ∀ x ∈ yg sl, vW x := fun x hx => zbn (hok x hx)
 have hr : ∀ x ∈ yg sl, 0 ≤ x.b ∧ x.b ≤ 1000 := fun x hx => by have := zb2 (hok x hx); omega
 rw [← z7c hgd]
 refine PC.begin Tryz.func260 rfl (by kernel_rfl) ?_
 have hL := z8v.law
 have hKd := Maps.Keyed.of_law hL
 have hz : ∀ w, (zeroValue 3).run Tryz.prog w = .ok (.int .i64 0) w := fun w => by kernel_rfl
 refine z9n rfl rfl rfl Tryz.underlying353 rfl (xs rfl trivial ?_)
 refine zc rfl (ι := Nat) (fun i => i ≤ sl.length) (fun i => ⟨[(13, sV (.int .i64 i)), (12, sV (.int .i64 (sl.map Slt.cs).length)), (11, .one (.b (.l (sl.map Slt.cs)))), (4, .one (.h 10 ((z26 (z1l sl.length) (yg sl) (z1j sl i)).map Vt.cs).length)), (3, .one (.mx 0 9)), (0, .one (.b (.l (sl.map Slt.cs))))], [(10, .arr true 2 0 ((z26 (z1l sl.length) (yg sl) (z1j sl i)).map Vt.cs)), (9, .mp 171 3 (z1j sl i) (DV ((yg sl).take (z1j sl i))) none)]⟩) (fun i => sl.length - i) 0 (Nat.zero_le _) ?_ ?_
 · exact ⟨⟨rfl, rfl, rfl, ⟨rfl, rfl, rfl⟩, ⟨rfl, rfl, rfl⟩, rfl, trivial⟩, ⟨⟨rfl, .inl rfl, .inl rfl⟩, ⟨rfl, rfl, rfl, rfl, rfl⟩, trivial⟩, rfl⟩
 · intro i hi J hJ
   refine xb rfl ?_ ?_ <;> intro h
   · have h : i < sl.length := by simpa using h
     obtain ⟨x, hx⟩ := gx h
     have hg := gm Slt.cs hx
     have hxb := hb x (List.mem_of_getElem? hx)
     have hcl := z2d x.cast (by omega)
     have hcp := q8m x.cast (by omega)
     refine xs rfl (nn_ _) (y9 rfl _ hg (xs rfl rfl (z1 rfl (hcl) rfl ⟨trivial, trivial⟩ (q8e rfl (hcp) ⟨⟨rfl, rfl, rfl, rfl⟩, trivial⟩ rfl ?_))))
     refine zc rfl (ι := Nat) (fun j => j ≤ (qq x.cast).length) (fun j => ⟨[(22, sV (.int .i64 j)), (21, sV (.int .i64 ((qq x.cast).map Vt.cs).length)), (20, .one (.b (.l ((qq x.cast).map Vt.cs)))), (13, sV (.int .i64 i)), (12, sV (.int .i64 (sl.map Slt.cs).length)), (11, .one (.b (.l (sl.map Slt.cs)))), (4, .one (.h 10 ((z26 (z1l sl.length) (yg sl) (z1j sl i + j)).map Vt.cs).length)), (3, .one (.mx 0 9)), (0, .one (.b (.l (sl.map Slt.cs))))], [(10, .arr true 2 0 ((z26 (z1l sl.length) (yg sl) (z1j sl i + j)).map Vt.cs)), (9, .mp 171 3 (z1j sl i + j) (DV ((yg sl).take (z1j sl i + j))) none)]⟩) (fun j => (qq x.cast).length - j) 0 (Nat.zero_le _) ?_ ?_
     · exact ⟨⟨rfl, rfl, ⟨rfl, rfl, rfl⟩, rfl, rfl, rfl, ⟨rfl, rfl, rfl⟩, ⟨rfl, rfl, rfl⟩, rfl, trivial⟩, ⟨⟨rfl, .inl rfl, .inl rfl⟩, ⟨rfl, rfl, rfl, rfl, rfl⟩, trivial⟩, rfl⟩
     · intro j hj J2 hJ2
       refine xb rfl ?_ ?_ <;> intro hh
       · have hh : j < (qq x.cast).length := by simpa using hh
         obtain ⟨v, hv⟩ := gx hh
         have hgv := gm Vt.cs hv
         have hvg := q71 hx hv
         have hts := y89 hvg
         have hvm := List.mem_of_getElem? hvg
         have hvw := hw v hvm
         have hkey : keyOf Tryz.prog 171 (ybd v) = some (kV v) := z8v.key v hvw
         have hof : z1j sl i + j < (yg sl).length := (List.getElem?_eq_some_iff.1 hvg).1
         have hat := (zal z8v (vs := (yg sl).take (z1j sl i + j)) fun y hy => hw y (List.mem_of_mem_take hy)).2 v hvw
         have hct : ((yg sl).take (z1j sl i + j)).count v ≤ z1j sl i + j := Nat.le_trans List.count_le_length (by rw [List.length_take]; omega)
         refine xs rfl (nn_ _) (y9 rfl _ hgv (xs rfl rfl (q9 rfl [] (.take 0 [] (.take 1 (Rg 2 5) (.alt 2 (.take 3 [] (.alt 4 (.take 5 [] (.alt 6 .done .nil)) .nil)) (.alt 4 (.take 5 [] (.alt 2 (.take 3 [] (.alt 6 .done .nil)) .nil)) .nil)))) (by kernel_rfl) ?_)))
         have hnext : ∀ cc : Int, cc = ((yg sl).take (z1j sl i + j)).count v → IntKind.i64.wrap (cc + 1) = ((((yg sl).take (z1j sl i + j)).count v : Nat) : Int) + 1 := fun cc e => by rw [e, wrap_i64 (by omega) (by omega)]
         have hwf : (Lit.int .i64 ((((yg sl).take (z1j sl i + j)).count v : Nat) + 1 : Int)).wf = true := wfi (by omega) (by omega)
         have hsn : DV ((yg sl).take (z1j sl i + j + 1)) = (DV ((yg sl).take (z1j sl i + j))).put (kV v) (.lit (.int .i64 ((((yg sl).take (z1j sl i + j)).count v : Nat) + 1 : Int))) := by rw [hts, y73]
         have hat2 := (zal z8v (vs := (yg sl).take (z1j sl i + j + 1)) fun y hy => hw y (List.mem_of_mem_take hy)).2 v hvw
         have hq : PC Tryz.prog 318 [.one (i64 (sl.map Slt.cs).length)] (rI (z1l sl.length)) := by rw [List.length_map]; exact y7y sl.length (by omega)
         have hstp := z4y (q := z1l sl.length) hvg
         have hole := q5n (z1l sl.length) (yg sl) (z1j sl i + j)
         refine q09 rfl ?_ ?_
         · refine y72 rfl rfl rfl rfl Tryz.underlying353 Tryz.underlying3 hKd hz rfl rfl hkey (fun cc hat1 hwc => ?_)
           have hnx := hnext cc (z11 (hat1.symm.trans hat))
           refine ybu rfl rfl rfl rfl rfl Tryz.underlying353 Tryz.underlying3 hL (show z1j sl i + j < maxLen by unfold maxLen; omega) hz rfl rfl hkey (fun c2 born => ?_)
           refine qbu rfl rfl rfl rfl rfl Tryz.underlying3 rfl rfl (by rw [hnx]; exact hwf) ?_
           rw [hnx, ← hsn]
           refine q9 rfl [] (.take 0 [] (.take 1 [2, 6] (Tk [3, 4] (.alt 2 (.alt 5 (.take 6 [] .done) .nil) (.alt 5 (.alt 2 (.take 6 [] .done) .nil) .nil))))) (by kernel_rfl) ?_
           refine q09 rfl ?_ ?_
           · refine y72 rfl rfl rfl rfl Tryz.underlying353 Tryz.underlying3 hKd hz rfl rfl hkey (fun c3 hat3 hwc3 => ?_)
             have hc3 : c3 = (((yg sl).take (z1j sl i + j + 1)).count v : Nat) := z11 (hat3.symm.trans hat2)
             refine z1 rfl (hq) rfl ⟨trivial, trivial⟩ ?_
             refine xb rfl ?_ ?_ <;> intro b0
             refine xs rfl tv3 (xs rfl rfl (xs rfl rfl (xs rfl (.inl rfl) (xs rfl (by simp; omega) ?_))))
             refine xs rfl (by simp; omega) ?_; rotate_left
             rotate_left
             all_goals first
              | exact q8 rfl (hJ2 _ (j + 1) (by omega) (by omega) ⟨⟨cwi (by omega) (by omega) (by omega), rfl, rfl, rfl, rfl, rfl, ⟨rfl, by rw [← Nat.add_assoc, hstp, if_pos (by rw [hc3] at b0; exact Int.ofNat.inj (by simpa using b0))]; simp, rfl⟩, ⟨rfl, rfl, rfl⟩, rfl, trivial⟩, ⟨⟨by rw [← Nat.add_assoc, hstp, if_pos (by rw [hc3] at b0; exact Int.ofNat.inj (by simpa using b0))]; simp, .inl rfl, .inl rfl⟩, ⟨rfl, rfl, rfl, rfl, rfl⟩, trivial⟩, rfl⟩)
              | exact q8 rfl (hJ2 _ (j + 1) (by omega) (by omega) ⟨⟨cwi (by omega) (by omega) (by omega), rfl, rfl, rfl, rfl, rfl, ⟨rfl, by rw [← Nat.add_assoc, hstp, if_neg (by rw [hc3] at b0; intro e; simp [e] at b0)], rfl⟩, ⟨rfl, rfl, rfl⟩, rfl, trivial⟩, ⟨⟨by rw [← Nat.add_assoc, hstp, if_neg (by rw [hc3] at b0; intro e; simp [e] at b0)], .inl rfl, .inl rfl⟩, ⟨rfl, rfl, rfl, rfl, rfl⟩, trivial⟩, rfl⟩)
              | skip
           · skip
             refine z1 rfl (hq) rfl ⟨trivial, trivial⟩ ?_
             refine y72 rfl rfl rfl rfl Tryz.underlying353 Tryz.underlying3 hKd hz rfl rfl hkey (fun c3 hat3 hwc3 => ?_)
             have hc3 : c3 = (((yg sl).take (z1j sl i + j + 1)).count v : Nat) := z11 (hat3.symm.trans hat2)
             refine xb rfl ?_ ?_ <;> intro b0
             refine xs rfl tv3 (xs rfl rfl (xs rfl rfl (xs rfl (.inl rfl) (xs rfl (by simp; omega) ?_))))
             refine xs rfl (by simp; omega) ?_; rotate_left
             rotate_left
             all_goals first
              | exact q8 rfl (hJ2 _ (j + 1) (by omega) (by omega) ⟨⟨cwi (by omega) (by omega) (by omega), rfl, rfl, rfl, rfl, rfl, ⟨rfl, by rw [← Nat.add_assoc, hstp, if_pos (by rw [hc3] at b0; exact Int.ofNat.inj (by simpa using b0))]; simp, rfl⟩, ⟨rfl, rfl, rfl⟩, rfl, trivial⟩, ⟨⟨by rw [← Nat.add_assoc, hstp, if_pos (by rw [hc3] at b0; exact Int.ofNat.inj (by simpa using b0))]; simp, .inl rfl, .inl rfl⟩, ⟨rfl, rfl, rfl, rfl, rfl⟩, trivial⟩, rfl⟩)
              | exact q8 rfl (hJ2 _ (j + 1) (by omega) (by omega) ⟨⟨cwi (by omega) (by omega) (by omega), rfl, rfl, rfl, rfl, rfl, ⟨rfl, by rw [← Nat.add_assoc, hstp, if_neg (by rw [hc3] at b0; intro e; simp [e] at b0)], rfl⟩, ⟨rfl, rfl, rfl⟩, rfl, trivial⟩, ⟨⟨by rw [← Nat.add_assoc, hstp, if_neg (by rw [hc3] at b0; intro e; simp [e] at b0)], .inl rfl, .inl rfl⟩, ⟨rfl, rfl, rfl, rfl, rfl⟩, trivial⟩, rfl⟩)
              | skip
         · refine ybu rfl rfl rfl rfl rfl Tryz.underlying353 Tryz.underlying3 hL (show z1j sl i + j < maxLen by unfold maxLen; omega) hz rfl rfl hkey (fun c2 born => ?_)
           refine zb4 rfl rfl rfl rfl Tryz.underlying353 Tryz.underlying3 hz rfl rfl hkey (fun cc hat1 hwc => ?_)
           have hnx := hnext cc (z11 (hat1.symm.trans hat))
           refine qbu rfl rfl rfl rfl rfl Tryz.underlying3 rfl rfl (by rw [hnx]; exact hwf) ?_
           rw [hnx, ← hsn]
           refine q9 rfl [] (.take 0 [] (.take 1 [2, 6] (Tk [3, 4] (.alt 2 (.alt 5 (.take 6 [] .done) .nil) (.alt 5 (.alt 2 (.take 6 [] .done) .nil) .nil))))) (by kernel_rfl) ?_
           refine q09 rfl ?_ ?_
           · refine y72 rfl rfl rfl rfl Tryz.underlying353 Tryz.underlying3 hKd hz rfl rfl hkey (fun c3 hat3 hwc3 => ?_)
             have hc3 : c3 = (((yg sl).take (z1j sl i + j + 1)).count v : Nat) := z11 (hat3.symm.trans hat2)
             refine z1 rfl (hq) rfl ⟨trivial, trivial⟩ ?_
             refine xb rfl ?_ ?_ <;> intro b0
             refine xs rfl tv3 (xs rfl rfl (xs rfl rfl (xs rfl (.inl rfl) (xs rfl (by simp; omega) ?_))))
             refine xs rfl (by simp; omega) ?_; rotate_left
             rotate_left
             all_goals first
              | exact q8 rfl (hJ2 _ (j + 1) (by omega) (by omega) ⟨⟨cwi (by omega) (by omega) (by omega), rfl, rfl, rfl, rfl, rfl, ⟨rfl, by rw [← Nat.add_assoc, hstp, if_pos (by rw [hc3] at b0; exact Int.ofNat.inj (by simpa using b0))]; simp, rfl⟩, ⟨rfl, rfl, rfl⟩, rfl, trivial⟩, ⟨⟨by rw [← Nat.add_assoc, hstp, if_pos (by rw [hc3] at b0; exact Int.ofNat.inj (by simpa using b0))]; simp, .inl rfl, .inl rfl⟩, ⟨rfl, rfl, rfl, rfl, rfl⟩, trivial⟩, rfl⟩)
              | exact q8 rfl (hJ2 _ (j + 1) (by omega) (by omega) ⟨⟨cwi (by omega) (by omega) (by omega), rfl, rfl, rfl, rfl, rfl, ⟨rfl, by rw [← Nat.add_assoc, hstp, if_neg (by rw [hc3] at b0; intro e; simp [e] at b0)], rfl⟩, ⟨rfl, rfl, rfl⟩, rfl, trivial⟩, ⟨⟨by rw [← Nat.add_assoc, hstp, if_neg (by rw [hc3] at b0; intro e; simp [e] at b0)], .inl rfl, .inl rfl⟩, ⟨rfl, rfl, rfl, rfl, rfl⟩, trivial⟩, rfl⟩)
              | skip
           · skip
             refine z1 rfl (hq) rfl ⟨trivial, trivial⟩ ?_
             refine y72 rfl rfl rfl rfl Tryz.underlying353 Tryz.underlying3 hKd hz rfl rfl hkey (fun c3 hat3 hwc3 => ?_)
             have hc3 : c3 = (((yg sl).take (z1j sl i + j + 1)).count v : Nat) := z11 (hat3.symm.trans hat2)
             refine xb rfl ?_ ?_ <;> intro b0
             refine xs rfl tv3 (xs rfl rfl (xs rfl rfl (xs rfl (.inl rfl) (xs rfl (by simp; omega) ?_))))
             refine xs rfl (by simp; omega) ?_; rotate_left
             rotate_left
             all_goals first
              | exact q8 rfl (hJ2 _ (j + 1) (by omega) (by omega) ⟨⟨cwi (by omega) (by omega) (by omega), rfl, rfl, rfl, rfl, rfl, ⟨rfl, by rw [← Nat.add_assoc, hstp, if_pos (by rw [hc3] at b0; exact Int.ofNat.inj (by simpa using b0))]; simp, rfl⟩, ⟨rfl, rfl, rfl⟩, rfl, trivial⟩, ⟨⟨by rw [← Nat.add_assoc, hstp, if_pos (by rw [hc3] at b0; exact Int.ofNat.inj (by simpa using b0))]; simp, .inl rfl, .inl rfl⟩, ⟨rfl, rfl, rfl, rfl, rfl⟩, trivial⟩, rfl⟩)
              | exact q8 rfl (hJ2 _ (j + 1) (by omega) (by omega) ⟨⟨cwi (by omega) (by omega) (by omega), rfl, rfl, rfl, rfl, rfl, ⟨rfl, by rw [← Nat.add_assoc, hstp, if_neg (by rw [hc3] at b0; intro e; simp [e] at b0)], rfl⟩, ⟨rfl, rfl, rfl⟩, rfl, trivial⟩, ⟨⟨by rw [← Nat.add_assoc, hstp, if_neg (by rw [hc3] at b0; intro e; simp [e] at b0)], .inl rfl, .inl rfl⟩, ⟨rfl, rfl, rfl, rfl, rfl⟩, trivial⟩, rfl⟩)
              | skip
       · have hh : j = (qq x.cast).length := by have : ¬ j < (qq x.cast).length := (by simpa using hh); omega
         subst hh
         exact q8 rfl (hJ _ (i + 1) (by omega) (by omega) ⟨⟨cwi (by omega) (by omega) (by omega), rfl, rfl, ⟨rfl, by rw [q1y hx], rfl⟩, ⟨rfl, rfl, rfl⟩, rfl, trivial⟩, ⟨⟨by rw [q1y hx], .inl rfl, .inl rfl⟩, ⟨rfl, rfl, by rw [q1y hx], by rw [q1y hx], rfl⟩, trivial⟩, rfl⟩)
   · have h : i = sl.length := by have : ¬ i < sl.length := (by simpa using h); omega
     subst h
     rw [q8y]
     have hS := z98 (z26 (z1l sl.length) (yg sl) (yg sl).length) (by have := q5n (z1l sl.length) (yg sl) (yg sl).length; omega) (fun x hx => hr x (q2o hx)) hd
     refine q8e rfl (hS) ⟨⟨rfl, rfl, rfl, rfl⟩, ⟨rfl, rfl⟩, trivial⟩ rfl ?_
     refine xr rfl (yk rfl ⟨⟨rfl, ⟨?_, rfl, .inl rfl⟩, trivial⟩, z6 rfl⟩)
     simp [z0y]
end Go.Proofs.YtohbmmpkcibnpaaGreat
end
section
namespace Go.Proofs.YtohbmmpkcibnpaaGreat
open Go Go.Sx
set_option maxRecDepth 20000
set_option maxHeartbeats 4000000
open Go.Proofs Go.Shelf Go.RowKit Go.Lib
def qc1 : Ren := ⟨fun _ => 166, fun t => bif Nat.beq t 3 then 3 else bif Nat.beq t 4 then 4 else bif Nat.beq t 22 then 64 else bif Nat.beq t 23 then 2 else 0, fun x => x⟩
theorem ya4 : SlLaysN.n43 Tryz.prog qc1 where
 mixed := by kernel_rfl
 f43 := ⟨ "slices.Compact[[]int64,int64]", by decide, by kernel_rfl⟩
 t0 := Tryz.underlying0
 a0 := Tryz.isAgg0
 z0 := Tryz.sizeOf0
 v0 := Tryz.zeroValue0
 t3 := Tryz.underlying3
 a3 := Tryz.isAgg3
 z3 := Tryz.sizeOf3
 v3 := Tryz.zeroValue3
 t4 := Tryz.underlying4
 a4 := Tryz.isAgg4
 z4 := Tryz.sizeOf4
 v4 := Tryz.zeroValue4
 t22 := Tryz.underlying64
 a22 := Tryz.isAgg64
 z22 := Tryz.sizeOf64
 v22 := Tryz.zeroValue64
 t23 := Tryz.underlying2
 a23 := Tryz.isAgg2
 z23 := Tryz.sizeOf2
 v23 := Tryz.zeroValue2
 i23 := by kernel_rfl
theorem z5f (N : Nat → Prop) (S : Nat → Prop) (us : List Int) (w : World) (v0 : Value) (hu : us.length ≤ 1048576) (hS : ∀ x, S x → x < w.heap.size) (h0 : z0b w (CN w N true) S 1 (ints us) v0) :
 Calls Tryz.prog 166 #[v0] w fun e w' => ∃ (v' : Value) (R : Nat → Prop), e = .returned v' ∧ qo w w' S ∧ z0b w' (Go.Sx.Own w') R 1 (ints (compact us)) v' ∧ ∀ x, R x → S x ∧ x < w'.heap.size := by
 rcases q54 h0 with ⟨rfl, A, rfl⟩ | ⟨e, ho, hSo⟩
 · refine (AnyG.slices_Compact_int_empty ya4 A 0 w).mono ?_
   rintro e w' ⟨rfl, rfl⟩
   exact ⟨_, fun _ => False, rfl, qo.refl _ _, .inl ⟨rfl, A, rfl⟩, fun x hx => hx.elim⟩
 · by_cases hn : v0 = .slice none 0 0
   · have hl : us.length = 0 := by
      rcases ho.2 with ⟨_, h⟩ | ⟨g, cap, cur, h, _⟩
      · exact h
      · rw [hn] at h; cases h
     have : us = [] := List.eq_nil_of_length_eq_zero hl
     subst this
     subst hn
     refine (AnyG.slices_Compact_int_empty ya4 none 0 w).mono ?_
     rintro e w' ⟨rfl, rfl⟩
     exact ⟨_, fun _ => False, rfl, qo.refl _ _, .inl ⟨rfl, none, rfl⟩, fun x hx => hx.elim⟩
   · obtain ⟨g, cap, rfl, hb, hg, hc1, hc2, hzl, hH⟩ := holds_of_ownsRow ho hn
     refine (AnyG.slices_Compact_int ya4 g 0 cap us w hH (by omega) hc1).mono ?_
     rintro e' w' ⟨rfl, q, rfl⟩
     have hcl := q6i us
     have hgS := hSo g rfl
     have hp := ownsRow_putRow (q := q) (k := (compact us).length) (ys := compact us ++ List.replicate (us.length - (compact us).length) 0) ho (by simp; omega) hcl
     rw [List.take_left' rfl] at hp
     refine ⟨_, fun x => x = g, rfl, ⟨rfl, rfl, rfl, by simp [Sort.putRow, Sort.mapBlock, Sort.ahead], fun k hk hnk => ?_⟩, z6c hp (fun g' h => by cases h; rfl), fun x hx => ?_⟩
     · simp [Sort.putRow, Sort.mapBlock, Sort.ahead, Array.getElem?_modify, show g ≠ k from fun h => hnk (h ▸ hgS)]
     · cases hx
       exact ⟨hgS, by simpa [Sort.putRow, Sort.mapBlock, Sort.ahead] using hg⟩
theorem z6j (us : List Int) (hu : us.length ≤ 1048576) : PG Tryz.prog 166 [.one (.giv true 1 (ints us))] (.one (.own false [.l 1 (ints (compact us))])) [] := by
 refine ⟨by kernel_rfl, fun N S w vals hS hSd hsh hc => ?_⟩
 obtain ⟨v0, rfl⟩ : ∃ v0, vals = #[v0] := by
  match vals, hsh with
  | ⟨[v0]⟩, _ => exact ⟨v0, rfl⟩
 obtain ⟨sz, hz, h0⟩ := hc 0 _ v0 rfl rfl
 obtain rfl := hz (by decide)
 refine (z5f N (S 0) us w v0 hu (fun x hx => (hS 0 x hx).1) h0).mono ?_
 rintro e w' ⟨v', R, rfl, hk, hsl, hv⟩
 refine ⟨v', R, fun _ _ => False, rfl, hk.mono fun _ _ h => ⟨0, h⟩, ⟨#[v'], fun k x => k = 0 ∧ R x, rfl, rfl, fun k x hx => hx.2, fun k k' x hx hx' => by rw [hx.1, hx'.1], fun k c u hc hu => ?_⟩, fun x hx => ⟨.inr ⟨0, (hv x hx).1⟩, (hv x hx).2, fun _ h => h⟩, fun _ _ h => h.elim, fun _ _ _ h => h.elim, fun t rows' hb => by cases hb⟩
 cases k with
 | succ k => simp at hc
 | zero =>
   cases hc
   cases hu
   exact ⟨1, fun _ => rfl, z0b.imp hsl (fun _ h => ⟨rfl, h⟩) (fun _ _ _ => rfl) (fun _ _ _ _ h => h)⟩
end Go.Proofs.YtohbmmpkcibnpaaGreat
end
section
namespace Go.Proofs.YtohbmmpkcibnpaaGreat
open Go Go.Sx
set_option maxRecDepth 20000
set_option maxHeartbeats 4000000
open Go.Lib (compact)
def shN (x : Con) (i : Nat) : List Int := (x.legs.take i).map Leg.s
theorem z96 {x : Con} {i : Nat} {l : Leg} (h : x.legs[i]? = some l) : shN x (i + 1) = shN x i ++ [l.s] := by
 unfold shN
 rw [List.take_add_one, h]; simp
theorem q5q (x : Con) (i : Nat) : (shN x i).length ≤ i := by unfold shN; simp; omega
theorem z38 (x : Con) (hl : x.legs.length < 65536) : PC Tryz.prog 75 [.agg x.cs] (.one (.own false [.l 1 (ints (shF x.legs))])) := by
 refine PC.begin Tryz.func75 rfl (by kernel_rfl) ?_
 have hle : (x.legs.map Leg.cs).length = x.legs.length := by simp
 refine xs rfl trivial ?_
 refine zc rfl (ι := Nat) (fun i => i ≤ x.legs.length) (fun i => ⟨[(10, sV (.int .i64 i)), (3, .one (.h 6 (shN x i).length)), (1, .one (.a 1 0)), (8, .one (.b (.l (x.legs.map Leg.cs)))), (9, sV (.int .i64 (x.legs.map Leg.cs).length))], [(6, .arr true 1 0 (ints (shN x i))), (1, .var (x.cs.map .b))]⟩) (fun i => x.legs.length - i) 0 (Nat.zero_le _) ?_ ?_
 · exact ⟨⟨rfl, ⟨rfl, rfl, rfl⟩, ⟨rfl, rfl, rfl⟩, rfl, rfl, trivial⟩, ⟨⟨rfl, .inl rfl, .inl rfl⟩, lcr, trivial⟩, rfl⟩
 · intro i hi J hJ
   refine xb rfl ?_ ?_ <;> intro h
   · have h : i < x.legs.length := by simpa using h
     obtain ⟨l, hx⟩ := gx h
     have hg := gm Leg.cs hx
     have hf := z96 hx
     have hfl := q5q x i
     refine xs rfl (by simp) (y9 rfl _ hg (xs rfl rfl (xs rfl ⟨trivial, trivial⟩ (xs rfl (by simp) (xs rfl rfl (xs rfl (.inl rfl) (xs rfl (by simp; omega) (xs rfl (by simp; omega) ?_))))))))
     exact q8 rfl (hJ _ (i + 1) (by omega) (by omega) ⟨⟨cwi (by omega) (by omega) (by omega), ⟨rfl, by rw [hf]; simp, rfl⟩, ⟨rfl, rfl, rfl⟩, rfl, rfl, trivial⟩, ⟨⟨by rw [hf]; simp, .inl rfl, .inl rfl⟩, lcr, trivial⟩, rfl⟩)
   · have h : i = x.legs.length := by have : ¬ i < x.legs.length := (by simpa using h); omega
     subst h
     have hs := y6d (shN x x.legs.length) (by have := q5q x x.legs.length; omega)
     have hms : (y0i (shN x x.legs.length)).length = (shN x x.legs.length).length := (List.mergeSort_perm _ _).length_eq
     have hc := z6j (y0i (shN x x.legs.length)) (by have := q5q x x.legs.length; omega)
     have he : compact (y0i (shN x x.legs.length)) = shF x.legs := by unfold shN; rw [List.take_length]; exact yb0 x.legs
     rw [he] at hc
     refine q8e rfl (hs) ⟨⟨rfl, rfl, rfl, (by first | omega | (simp only [ai_len]; omega) | simp_all)⟩, trivial⟩ rfl (q8e rfl (hc) ⟨⟨rfl, rfl, rfl, (by first | omega | (simp only [ai_len]; omega) | simp_all)⟩, trivial⟩ rfl ?_)
     refine xr rfl (yk rfl ⟨⟨rfl, ⟨rfl, rfl, .inl rfl⟩, trivial⟩, z6 rfl⟩)
end Go.Proofs.YtohbmmpkcibnpaaGreat
end
section
namespace Go.Proofs.YtohbmmpkcibnpaaGreat
open Go Go.Sx
set_option maxRecDepth 20000
set_option maxHeartbeats 4000000
theorem q5s (sl : List Slt) (x y : Slt) (hy : sl[0]? = some y) (e1 : x.c = y.c) (e2 : x.s = y.s) : PC Tryz.prog 353 [.agg x.cs, .one (.p [.l (sl.map Slt.cs)])] (rB false) := by
 refine PC.begin Tryz.func353 rfl (by kernel_rfl) ?_
 have hg : (sl.map Slt.cs)[(0 : Int).toNat]? = some y.cs := by simpa using gm Slt.cs hy
 refine q9 rfl [] (.take 0 [] (.take 1 (Rg 6 11) (.take 2 (Rg 3 14) (Tk [3, 4] (.take 5 (Rg 6 11) (Tk [6, 7, 8] (.take 9 (Rg 14 3) (.take 10 (Rg 11 6) (Tk [11, 12] (.take 13 (Rg 14 3) (Tk [14, 15, 16] .done))))))))))) (by kernel_rfl) (xs rfl (nn_ _) (y9 rfl _ hg (xs rfl rfl ?_)))
 refine xb rfl ?_ ?_ <;> intro b0
 exact absurd b0 (by simp; omega)
 refine xj (k := 3) rfl (xs rfl (nn_ _) (y9 rfl _ hg (xs rfl rfl (xj (k := 4) rfl (xv rfl rfl rfl ?_)))))
 all_goals first
  | (refine vb ?_; simp [e1, e2]; done)
  | (exfalso; simp_all; done)
  | skip
theorem z5s (rr : List (List Cell)) : PC Tryz.prog 352 [.one (.l rr)] (rI rr.length) := by
 refine PC.begin Tryz.func352 rfl (by kernel_rfl) ?_
 refine xr rfl (yk rfl ⟨⟨rfl, rfl, trivial⟩, z6 rfl⟩)
theorem y23 (sl : List Slt) {c s : Int} (hG : q3f sl c s) : PC Tryz.prog 259 [.one (.l (sl.map Slt.cs))] (rI 0) := by
 refine PC.begin Tryz.func259 rfl (by kernel_rfl) ?_
 have hl := hG.le
 refine zc rfl (ι := Nat) (fun i => i ≤ sl.length) (fun i => ⟨[(8, sV (.int .i64 i)), (7, sV (.int .i64 (sl.map Slt.cs).length)), (6, .one (.b (.l (sl.map Slt.cs)))), (1, .one (.a 1 0))], [(1, .var [.b (.l (sl.map Slt.cs))])]⟩) (fun i => sl.length - i) 0 (Nat.zero_le _) ?_ ?_
 · exact ⟨⟨rfl, rfl, rfl, ⟨rfl, rfl, rfl⟩, trivial⟩, ⟨⟨rfl, trivial⟩, trivial⟩, rfl⟩
 · intro i hi J hJ
   refine xb rfl ?_ ?_ <;> intro h
   · have h : i < sl.length := by simpa using h
     obtain ⟨x, hx⟩ := gx h
     have hg := gm Slt.cs hx
     have hok := hG.ok x (List.mem_of_getElem? hx)
     have hf := q46 x (by have := (z2q hok.1).1; omega)
     rw [hok.1] at hf
     refine xs rfl (nn_ _) (y9 rfl _ hg (xs rfl rfl (z1 rfl (hf) rfl ⟨tv7, trivial⟩ (xj (k := 1) rfl ?_))))
     all_goals first
      | exact q8 rfl (hJ _ (i + 1) (by omega) (by omega) ⟨⟨cwi (by omega) (by omega) (by omega), rfl, rfl, ⟨rfl, rfl, rfl⟩, trivial⟩, ⟨⟨rfl, trivial⟩, trivial⟩, rfl⟩)
      | (exfalso; simp_all; done)
      | skip
   · have h : i = sl.length := by have : ¬ i < sl.length := (by simpa using h); omega
     subst h
     obtain ⟨y, hy⟩ := gx (xs := sl) (i := 0) (by omega)
     have hyk := hG.ok y (List.mem_of_getElem? hy)
     have hsz := z5s (sl.map Slt.cs)
     have hwn : within ((sl.map Slt.cs).length : Nat) 1 9 = true := by simp [within]; omega
     have hany := y78 (sl.map Slt.cs) sl (fun _ => false) 353 (.p [.l (sl.map Slt.cs)]) rfl (fun x hx => q5s sl x y hy (by rw [(hG.ok x hx).2.1, hyk.2.1]) (by rw [(hG.ok x hx).2.2, hyk.2.2])) (by omega)
     have e : (sl.any fun _ => false) = false := by simp
     rw [e] at hany
     refine z1 rfl (hsz) rfl ⟨trivial, trivial⟩ (z1 rfl (zk _ _ _) rfl tv4 ?_)
     refine xb rfl ?_ ?_ <;> intro b0
     refine xv rfl rfl rfl ?_; rotate_left
     refine z1 rfl (hany) rfl ⟨trivial, (List.forall_mem_cons.2 ⟨⟨trivial, trivial⟩, (fun _ h => nomatch h)⟩), trivial⟩ (xj (k := 1) rfl ?_)
     refine xr rfl (yk rfl ⟨⟨rfl, rfl, trivial⟩, z6 rfl⟩)
     all_goals first | (exfalso; simp_all; done) | skip
theorem y2s (sl : List Slt) {c s : Int} (hG : q3f sl c s) : PC Tryz.prog 154 [.one (.l (sl.map Slt.cs))] (.one (.own true [.s (.int .i64 (if qp sl = [] then 4 else 0)), .s (.int .i64 ((qp sl).headD ⟨0, 0⟩).b), .s (.int .i64 (y6a (qp sl)))])) := by
 refine PC.begin Tryz.func154 rfl (by kernel_rfl) ?_
 have hF := y23 sl hG
 have hC := y4m sl hG
 generalize qp sl = vs at hC
 cases vs with
 | nil =>
   refine z1 rfl (hF) rfl ⟨trivial, trivial⟩ (xj (k := 1) rfl (z1 rfl (hC) rfl ⟨trivial, trivial⟩ (xj (k := 1) rfl ?_)))
   refine xr rfl (yk rfl ⟨⟨rfl, rfl, rfl, rfl, trivial⟩, z6 rfl⟩)
   all_goals first | (exfalso; simp_all; done) | skip
 | cons v vs =>
   have hg : ((v :: vs).map Vt.cs)[(0 : Int).toNat]? = some v.cs := rfl
   refine z1 rfl (hF) rfl ⟨trivial, trivial⟩ (xj (k := 1) rfl (z1 rfl (hC) rfl ⟨trivial, trivial⟩ (xj (k := 1) rfl (xs rfl rfl (xs rfl (nn_ _) (y9 rfl _ hg (xs rfl rfl (xs rfl rfl (y9 rfl _ hg ?_)))))))))
   refine xr rfl (yk rfl ⟨⟨rfl, rfl, rfl, rfl, trivial⟩, z6 rfl⟩)
   all_goals first | (exfalso; simp_all; done) | skip
theorem zaz (aa : List Acc) (hl : 1 ≤ aa.length ∧ aa.length ≤ 9) (ho : ∀ a ∈ aa, y2i a) (hf : ∀ a ∈ aa, a.fault = 0) (x : Con) (hxl : x.legs.length < 65536) (hc : 1 ≤ x.id ∧ x.id ≤ 1000000000) (hs : ∀ s ∈ shF x.legs, 0 ≤ s ∧ s ≤ 2) : PC Tryz.prog 62 [.one (.l (aa.map Acc.cs)), .agg x.cs] (rI (q0e aa x)) := by
 refine PC.begin Tryz.func62 rfl (by kernel_rfl) ?_
 have hSh := z38 x hxl
 have hsl : (shF x.legs).length ≤ 1048576 := by have := y0u x.legs x.legs.length; rw [List.take_length] at this; omega
 unfold q0e
 generalize shF x.legs = ss at hSh hs hsl
 refine z1 rfl (hSh) rfl ⟨tv3, trivial⟩ ?_
 refine zc rfl (ι := Nat × Bool) (fun z => z.1 ≤ ss.length ∧ y9l (chV aa x.id) (ss.drop z.1) (bif z.2 then 1 else 0) = y9l (chV aa x.id) ss 1) (fun z => ⟨[(11, sV (.int .i64 z.1)), (10, sV (.int .i64 (ints ss).length)), (9, .one (.b (.l (ints ss)))), (5, sV (.bool z.2)), (3, .one (.a 3 0)), (0, .one (.b (.l (aa.map Acc.cs))))], [(3, .var (x.cs.map .b))]⟩) (fun z => ss.length - z.1) (0, true) ⟨Nat.zero_le _, rfl⟩ ?_ ?_
 · exact ⟨⟨rfl, rfl, ⟨rfl, rfl, rfl⟩, rfl, ⟨rfl, rfl, rfl⟩, rfl, trivial⟩, ⟨lcr, trivial⟩, rfl⟩
 · intro ⟨i, d⟩ ⟨hi, he⟩ J hJ
   dsimp only at hi he ⊢
   refine xb rfl ?_ ?_ <;> intro h
   · have h : i < ss.length := by simpa [ints] using h
     obtain ⟨s, hx⟩ := gx h
     have hg : (ints ss)[i]? = some [i64 s] := by simp [ints, hx]
     have h2 := hs s (List.mem_of_getElem? hx)
     have hS := PC.zai (y39 aa (by omega) ho hf x.id s h2)
     have hC := y2s (zn aa x.id s) (y44 hl hf hc h2)
     have he := z7x hx he
     refine xs rfl (nn_ _) (y9 rfl _ hg (xs rfl rfl (z1 rfl (hS) rfl tv4 (z1 rfl (hC) rfl ⟨trivial, trivial⟩ ?_))))
     refine xb rfl ?_ ?_ <;> intro b0
     refine xv rfl rfl rfl ?_; rotate_left
     refine xb rfl (fun b1 => ?_) (fun b1 => ?_); rotate_left
     rotate_left
     all_goals first
      | (refine vi ?_; rw [← he, if_pos (show chV aa x.id s = 2 from (by simpa using b0 : y6a (qp (zn aa x.id s)) = 2))]; done)
      | exact q8 rfl (hJ _ (i + 1, false) ⟨by dsimp only; omega, by rw [if_neg (show ¬ chV aa x.id s = 2 from (by simpa using b0 : ¬ y6a (qp (zn aa x.id s)) = 2)), if_pos (show chV aa x.id s = 0 from (by simpa using b1 : y6a (qp (zn aa x.id s)) = 0))] at he; exact he⟩ (by dsimp only; omega) ⟨⟨cwi (by omega) (by omega) (by omega), rfl, rfl, rfl, ⟨rfl, rfl, rfl⟩, rfl, trivial⟩, ⟨lcr, trivial⟩, rfl⟩)
      | exact q8 rfl (hJ _ (i + 1, d) ⟨by dsimp only; omega, by rw [if_neg (show ¬ chV aa x.id s = 2 from (by simpa using b0 : ¬ y6a (qp (zn aa x.id s)) = 2)), if_neg (show ¬ chV aa x.id s = 0 from (by simpa using b1 : ¬ y6a (qp (zn aa x.id s)) = 0))] at he; exact he⟩ (by dsimp only; omega) ⟨⟨cwi (by omega) (by omega) (by omega), rfl, rfl, rfl, ⟨rfl, rfl, rfl⟩, rfl, trivial⟩, ⟨lcr, trivial⟩, rfl⟩)
      | skip
   · have h : i = ss.length := by have : ¬ i < ss.length := by simpa [ints] using h
                                  omega
     subst h
     rw [List.drop_length] at he
     cases d with
     | true =>
       refine xj (k := 1) rfl (xv rfl rfl rfl ?_)
       all_goals first | exact vi he | skip
     | false =>
       refine xj (k := 1) rfl (xv rfl rfl rfl ?_)
       all_goals first | exact vi he | skip
theorem q21 {x : Con} (h : ql x = 0) : ∀ s ∈ shF x.legs, 0 ≤ s ∧ s ≤ 2 := fun s hs => by
 obtain ⟨l, hl, rfl⟩ := y1q.1 hs
 have h1 := (z02 h).2.2 l hl
 have h0 := q7d h l hl
 refine ⟨h0, ?_⟩
 have h2 : l.bad = false := by
  unfold Leg.fault at h1
  split at h1
  · omega
  · rename_i h2; simpa using h2
 simp [Leg.bad, Go.Sx.within] at h2
 omega
theorem q3x {c : Clu} (h : qn c = 0) : (1 ≤ c.accs.length ∧ c.accs.length ≤ 9) ∧ ∀ a ∈ c.accs, a.fault = 0 := by
 refine ⟨by have := q1u h; omega, fun a ha => ?_⟩
 obtain ⟨i, hi⟩ := List.mem_iff_getElem?.1 ha
 have h1 := (y1u h).2.2.2.1 i (List.getElem?_eq_some_iff.1 hi).1
 simp only [z27, hi] at h1
 unfold q9e at h1
 split at h1
 · rename_i h2; exact absurd h1 h2
 · rename_i h2; simpa using h2
theorem z4k {α : Type} {us : List α} {p : α → Bool} {i : Nat} {x : α} (hx : us[i]? = some x) (h : p x = false) : us.all p = false := by
 rw [List.all_eq_false]
 exact ⟨x, List.mem_of_getElem? hx, by simp [h]⟩
theorem y2r {α : Type} {us : List α} {p : α → Bool} (h : ∀ (j : Nat) (x : α), j < us.length → us[j]? = some x → p x = true) : us.all p = true := by
 rw [List.all_eq_true]
 intro x hx
 obtain ⟨j, hj⟩ := List.mem_iff_getElem?.1 hx
 exact h j x (List.getElem?_eq_some_iff.1 hj).1 hj
theorem z24 {α : Type} {us : List α} {p : α → Bool} {i : Nat} {x : α} (hx : us[i]? = some x) (h0 : ∀ (j : Nat) (y : α), j < i → us[j]? = some y → p y = true) (h : p x = true) : ∀ (j : Nat) (y : α), j < i + 1 → us[j]? = some y → p y = true := fun j y hj hy => by
 by_cases e : j = i
 · subst e; rw [hx] at hy; cases hy; exact h
 · exact h0 j y (by omega) hy
theorem z5q (c : Clu) (ho : qz c) (hc : qn c = 0) (i0 : Nat) (sh : Shd) (hsh : c.shs[i0]? = some sh) : PC Tryz.prog 73 [.one (.p c.cs), .agg sh.cs] (rB (y5r c sh)) := by
 refine PC.begin Tryz.func73 rfl (by kernel_rfl) ?_
 obtain ⟨hf, _, _, hd, _⟩ := z2t hc hsh
 have hdl := (q5r hf).2.2.2.1
 refine zc rfl (ι := Nat) (fun i => i ≤ sh.done.length ∧ ∀ (j : Nat) (m : Mk), j < i → sh.done[j]? = some m → y3q c m = true) (fun i => ⟨[(5, sV (.int .i64 i)), (3, .one (.b (.p sh.cs))), (0, .one (.b (.p c.cs)))], []⟩) (fun i => sh.done.length - i) 0 ⟨Nat.zero_le _, fun j m hj => by omega⟩ ?_ ?_
 · exact ⟨⟨rfl, ⟨rfl, rfl, rfl⟩, rfl, trivial⟩, trivial, rfl⟩
 · intro i ⟨hi, h0⟩ J hJ
   refine xb rfl ?_ ?_ <;> intro h
   · have h : i < sh.done.length := by simpa using h
     obtain ⟨m, hm⟩ := gx h
     have hg := gm Mk.cs hm
     have h1 := hd m (List.mem_of_getElem? hm)
     unfold z0t at h1
     have hF := y0k c m.c ho.1.1
     cases hx : z08 c.cons m.c with
     | none => rw [hx] at h1; cases h1
     | some x =>
       obtain ⟨k, hk0, hk⟩ := y10 hx
       rw [hk0] at hF
       have hgk := gm Con.cs hk
       have hxm := y0l hc (q2u hx).1
       have hx2 := q0y hxm.1
       have hO := zac c.accs (by have := (q3x hc).1; omega) ho.2.2.1.2 (q3x hc).2 x (by omega) (z02 hxm.1).1 (q21 hxm.1)
       have em : y3q c m = (q0e c.accs x == m.v) := by unfold y3q; rw [hx]
       refine q9 rfl [] (Tk [0, 1, 2] (.take 3 [12, 13, 15] (Tk [4, 5] (.take 6 (Rg 8 6 ++ Rg 15 1) (Tk [7, 8, 9] (.take 10 [11, 12, 13, 15] (.alt 11 (.take 12 [] (.take 13 [15] (.alt 14 (.alt 15 .done .nil) .nil))) (.alt 14 (.alt 11 (.take 12 [] (.take 13 [15] (.alt 15 .done .nil))) .nil) .nil)))))))) (by kernel_rfl) (xs rfl (nn_ _) (y9 rfl _ hg (xs rfl rfl ?_)))
       refine q09 rfl ?_ ?_
       refine z1 rfl (hF) rfl tv3 (xs rfl (nn_ _) (y9 rfl _ hgk (xs rfl rfl (q9 rfl [] (Tk [0, 1, 2] (.take 3 [5, 12] (.take 4 [5, 12] (.take 6 [] (.take 7 (Rg 9 4) (Tk [8, 9, 10] (.take 11 [12] (.alt 5 (.take 12 [] .done) .nil)))))))) (by kernel_rfl) (xs rfl (nn_ _) (y9 rfl _ hg (xs rfl rfl (z1 rfl (hO) rfl ⟨trivial, tv3, trivial⟩ ?_))))))))
       refine xb rfl ?_ ?_ <;> intro b0
       refine xv rfl rfl rfl ?_; rotate_left
       rotate_left
       refine z1 rfl (hF) rfl tv3 (xs rfl (nn_ _) (y9 rfl _ hgk (xs rfl rfl (q9 rfl [] (Tk [0, 1, 2] (.take 3 [5, 12] (.take 4 [5, 12] (.take 6 [] (.take 7 (Rg 9 4) (Tk [8, 9, 10] (.take 11 [12] (.alt 5 (.take 12 [] .done) .nil)))))))) (by kernel_rfl) (xs rfl (nn_ _) (y9 rfl _ hg (xs rfl rfl (z1 rfl (hO) rfl ⟨trivial, tv3, trivial⟩ ?_))))))))
       refine xb rfl ?_ ?_ <;> intro b0
       refine xv rfl rfl rfl ?_; rotate_left
       rotate_left
       all_goals first
        | (refine vb ?_; exact (z4k hm (by rw [em]; simpa using b0)).symm)
        | exact q8 rfl (hJ _ (i + 1) ⟨by omega, z24 hm h0 (by rw [em]; simpa using b0)⟩ (by omega) ⟨⟨cwi (by omega) (by omega) (by omega), rfl, rfl, trivial⟩, trivial, rfl⟩)
        | skip
   · have h : i = sh.done.length := by have : ¬ i < sh.done.length := (by simpa using h); omega
     subst h
     unfold y5r
     rw [y2r h0]
     refine xr rfl (yk rfl ⟨⟨rfl, rfl, trivial⟩, z6 rfl⟩)
theorem qb0 {c : Clu} (hc : qn c = 0) {x : Con} (hx : x ∈ c.cons) {s : Int} (hs : s ∈ shF x.legs) : ∃ sh, c.shs[s.toNat]? = some sh ∧ 0 ≤ s ∧ s < c.shs.length := by
 obtain ⟨h1, h2⟩ := y0l hc hx
 obtain ⟨l, hl, rfl⟩ := y1q.1 hs
 unfold z9w at h2
 rw [List.any_eq_false] at h2
 have h3 := h2 l hl
 simp [Go.Sx.within] at h3
 have h4 := q7d h1 l hl
 obtain ⟨sh, hsh⟩ := gx (xs := c.shs) (i := l.s.toNat) (by omega)
 exact ⟨sh, hsh, h4, by omega⟩
theorem z8e {c : Clu} {x : Con} {s : Int} {sh : Shd} (h : c.shs[s.toNat]? = some sh) : y8d c x s = q01 sh.votes x.id ∧ z2v c x s = q01 sh.done x.id := by
 unfold y8d z2v; rw [h]; exact ⟨rfl, rfl⟩
theorem zad {c : Clu} {i j : Nat} {x : Con} {s : Int} (hx : c.cons[i]? = some x) (hs : (shF x.legs)[j]? = some s) (h : y2e c x s = false) : q52 c = false := by
 unfold q52; rw [z4k hx (z4k hs h)]; rfl
theorem q94 (c : Clu) (ho : qz c) : PC Tryz.prog 15 [.agg c.cs] (rB (z3k c)) := by
 refine PC.begin Tryz.func15 rfl (by kernel_rfl) ?_
 refine zbu (n := 0) rfl (ι := Unit) (fun _ => True) (fun _ => ⟨[(1, .one (.b (.p c.cs)))], []⟩) ?_ ?_
 · intro K hK
   exact q8 rfl (hK _ () trivial ⟨⟨⟨rfl, rfl, rfl⟩, trivial⟩, trivial, rfl⟩)
 intro _ _
 by_cases hc : qn c = 0
 · have hR : z3k c = q52 c := by unfold z3k; rw [hc]; rfl
   rw [hR]
   refine z1 rfl (q81 c ho) rfl ⟨tv6, trivial⟩ ?_
   refine xb rfl ?_ ?_ <;> intro b0
   exact absurd b0 (by simp; omega)
   all_goals first | (exfalso; simp_all; done) | skip
   refine zc rfl (ι := Nat) (fun i => i ≤ c.cons.length ∧ ∀ (j : Nat) (x : Con), j < i → c.cons[j]? = some x → (shF x.legs).all (y2e c x) = true) (fun i => ⟨[(3, sV (.int .i64 i)), (1, .one (.b (.p c.cs)))], []⟩) (fun i => c.cons.length - i) 0 ⟨Nat.zero_le _, fun j x hj => by omega⟩ ?_ ?_
   · exact ⟨⟨rfl, rfl, trivial⟩, trivial, rfl⟩
   · intro i ⟨hi, h0⟩ J hJ
     refine xb rfl ?_ ?_ <;> intro h
     · have h : i < c.cons.length := by simpa using h
       have hcl := (q1u hc).1
       obtain ⟨x, hx⟩ := gx h
       have hg := gm Con.cs hx
       have hxm := List.mem_of_getElem? hx
       have hxf := (y0l hc hxm).1
       have hx2 := q0y hxf
       have hSh := q0m x (by omega)
       have hsl : (shF x.legs).length ≤ 8 := by have := y0u x.legs x.legs.length; rw [List.take_length] at this; omega
       refine xs rfl (nn_ _) (y9 rfl _ hg (xs rfl rfl (z1 rfl (hSh) rfl ⟨tv3, trivial⟩ ?_)))
       refine zc rfl (ι := Nat) (fun j => j ≤ (shF x.legs).length ∧ ∀ (k : Nat) (s : Int), k < j → (shF x.legs)[k]? = some s → y2e c x s = true) (fun j => ⟨[(6, sV (.int .i64 j)), (5, .one (.b (.l (ints (shF x.legs))))), (4, .one (.a 4 0)), (3, sV (.int .i64 i)), (1, .one (.b (.p c.cs)))], [(4, .var (x.cs.map .b))]⟩) (fun j => (shF x.legs).length - j) 0 ⟨Nat.zero_le _, fun j x hj => by omega⟩ ?_ ?_
       · exact ⟨⟨rfl, rfl, ⟨rfl, rfl, rfl⟩, rfl, rfl, trivial⟩, ⟨⟨rfl, rfl, trivial⟩, trivial⟩, rfl⟩
       · intro j ⟨hj, h1⟩ J2 hJ2
         refine xb rfl ?_ ?_ <;> intro hh
         · have hh : j < (shF x.legs).length := by simpa [ints] using hh
           obtain ⟨s, hs⟩ := gx hh
           have hgs : (ints (shF x.legs))[j]? = some [i64 s] := by simp [ints, hs]
           have hsm := List.mem_of_getElem? hs
           have h2 := q21 hxf s hsm
           obtain ⟨sh, hsh, hs0, hs1⟩ := qb0 hc hxm hsm
           have hgsh := gm Shd.cs hsh
           have hva := (z8e (x := x) hsh).1
           have hid := (z02 hxf).1
           have hac := q3x hc
           have hsf := q5r (z2t hc hsh).1
           have hS := PC.zai (y52 c.accs (by omega) ho.2.2.1.2 x.id s hid h2)
           have hA := z81 (zn c.accs x.id s) (y44 hac.1 hac.2 hid h2)
           have hCh := z9m c.accs (by omega) ho.2.2.1.2 hac.2 x.id s hid h2
           have hV := q0i sh.votes x.id (by omega)
           have eg : y2e c x s = (y1s (zn c.accs x.id s) && !(chV c.accs x.id s == 1 && q01 sh.votes x.id != 1)) := by unfold y2e; rw [hva]
           refine q9 rfl [] (.take 0 [] (.take 1 (Rg 8 3) (.take 2 [] (.take 3 (Rg 8 3) (Tk [4, 5, 6] (.take 7 (Rg 8 3) (.alt 8 (.alt 9 (.take 10 [] .done) .nil) .nil))))))) (by kernel_rfl) (xs rfl (nn_ _) (y9 rfl _ hgs (xs rfl rfl (z1 rfl (hS) rfl tv4 (z1 rfl (hA) rfl ⟨trivial, trivial⟩ ?_)))))
           refine xb rfl ?_ ?_ <;> intro b0
           refine xv rfl rfl rfl ?_; rotate_left
           refine q9 rfl [] (.take 0 [] (.take 1 (Rg 8 17) (.take 2 [] (.take 3 (Rg 8 17) (Tk [4, 5, 6] (.take 7 (Rg 8 17) (.alt 8 (Tk [9, 10, 11] (.take 12 (Rg 17 3 ++ Rg 22 3) (Tk [13, 14, 15] (.take 16 (Rg 17 3 ++ Rg 22 3) (Tk [17, 18] (.take 19 (Rg 22 3) (.take 20 [] (.take 21 (Rg 22 3) (.alt 22 (Tk [23, 24] .done) .nil))))))))) .nil))))))) (by kernel_rfl) (xs rfl (nn_ _) (y9 rfl _ hgs (xs rfl rfl (z1 rfl (hCh) rfl tv4 ?_))))
           refine xb rfl ?_ ?_ <;> intro b1
           refine xj (k := 4) rfl (xs rfl (nn_ _) (y9 rfl _ hgs (xs rfl rfl (xj (k := 2) rfl (xs rfl (hs0) (y9 rfl _ hgsh (xs rfl rfl (xj (k := 5) rfl (z1 rfl (hV) rfl tv3 ?_)))))))))
           refine xj (k := 2) rfl ?_
           refine xb rfl ?_ ?_ <;> intro b2
           refine xv rfl rfl rfl ?_; rotate_left
           rotate_left
           refine xj (k := 14) rfl ?_; rotate_left
           all_goals first
            | (refine vb ?_; exact (zad hx hs (by rw [eg]; simp_all)).symm)
            | exact q8 rfl (hJ2 _ (j + 1) ⟨by omega, z24 hs h1 (by rw [eg]; simp_all)⟩ (by omega) ⟨⟨cwi (by omega) (by omega) (by omega), rfl, ⟨rfl, rfl, rfl⟩, rfl, rfl, trivial⟩, ⟨lcr, trivial⟩, rfl⟩)
            | skip
         · have hh : j = (shF x.legs).length := by have : ¬ j < (shF x.legs).length := by simpa [ints] using hh
                                                   omega
           subst hh
           exact q8 rfl (hJ _ (i + 1) ⟨by omega, z24 hx h0 (y2r h1)⟩ (by omega) ⟨⟨cwi (by omega) (by omega) (by omega), rfl, trivial⟩, trivial, rfl⟩)
     · have h : i = c.cons.length := by have : ¬ i < c.cons.length := (by simpa using h); omega
       subst h
       have hA : q52 c = c.shs.all (y5r c) := by unfold q52; rw [y2r h0]; rfl
       rw [hA]
       have hsl := (q1u hc).2.2.1
       refine zc rfl (ι := Nat) (fun i => i ≤ c.shs.length ∧ ∀ (j : Nat) (x : Shd), j < i → c.shs[j]? = some x → y5r c x = true) (fun i => ⟨[(7, sV (.int .i64 i)), (1, .one (.b (.p c.cs)))], []⟩) (fun i => c.shs.length - i) 0 ⟨Nat.zero_le _, fun j x hj => by omega⟩ ?_ ?_
       · exact ⟨⟨rfl, rfl, trivial⟩, trivial, rfl⟩
       · intro k ⟨hk, hk0⟩ J3 hJ3
         refine xb rfl ?_ ?_ <;> intro h
         · have h : k < c.shs.length := by simpa using h
           obtain ⟨sh, hsh⟩ := gx h
           have hg := gm Shd.cs hsh
           have hO := z5q c ho hc k sh hsh
           refine xs rfl (nn_ _) (y9 rfl _ hg (xs rfl rfl (z1 rfl (hO) rfl ⟨trivial, tv7, trivial⟩ ?_)))
           refine xb rfl ?_ ?_ <;> intro b0
           refine xv rfl rfl rfl ?_; rotate_left
           rotate_left
           all_goals first
            | (refine vb ?_; exact (z4k hsh (by simpa using b0)).symm)
            | exact q8 rfl (hJ3 _ (k + 1) ⟨by omega, z24 hsh hk0 (by simpa using b0)⟩ (by omega) ⟨⟨cwi (by omega) (by omega) (by omega), rfl, trivial⟩, trivial, rfl⟩)
            | skip
         · have h : k = c.shs.length := by have : ¬ k < c.shs.length := (by simpa using h); omega
           subst h
           rw [y2r hk0]
           refine xr rfl (yk rfl ⟨⟨rfl, rfl, trivial⟩, z6 rfl⟩)
 · have hR : z3k c = false := by unfold z3k; simp [hc]
   rw [hR]
   refine z1 rfl (q81 c ho) rfl ⟨tv6, trivial⟩ ?_
   refine xb rfl ?_ ?_ <;> intro b0
   refine xr rfl (yk rfl ⟨⟨rfl, rfl, trivial⟩, z6 rfl⟩)
   exact absurd b0 (by simp; omega)
   all_goals (exfalso; simp_all; done)
theorem yau (rr : List (List Cell)) (us : List Vt) (p : Vt → Bool) (fn : Nat) (c0 : Cell) (hr : rr = us.map Vt.cs) (hf : ∀ x ∈ us, PC Tryz.prog fn [.agg x.cs, .one c0] (rB (p x))) (hl : us.length ≤ 1048576) : PC Tryz.prog 377 [.one (.l rr), .one (.f fn [c0])] (rI (y13 p us)) := by
 refine PC.begin Tryz.func377 rfl (by kernel_rfl) ?_
 subst hr
 have hn : (us.map Vt.cs).length = us.length := by simp
 refine zc rfl (ι := Nat) (fun i => i ≤ us.length ∧ ∀ j y, j < i → us[j]? = some y → p y = false) (fun i => ⟨[(8, sV (.int .i64 i)), (7, sV (.int .i64 (us.map Vt.cs).length)), (0, .one (.b (.l (us.map Vt.cs)))), (1, .one (.b (.f fn [c0])))], []⟩) (fun i => us.length - i) 0 ⟨Nat.zero_le _, fun j y hj => by omega⟩ ?_ ?_
 · exact ⟨⟨rfl, rfl, rfl, rfl, trivial⟩, trivial, rfl⟩
 · intro i ⟨hi, h0⟩ J hJ
   refine xb rfl ?_ ?_ <;> intro h
   · have h : i < us.length := by simpa using h
     obtain ⟨x, hx⟩ := gx h
     have hg := gm Vt.cs hx
     have hxm := List.mem_of_getElem? hx
     refine xs rfl (nn_ _) (y9 rfl _ hg (xs rfl rfl (z1 rfl (hf _ hxm) rfl ⟨tv3, trivial, trivial⟩ ?_)))
     refine xb rfl ?_ ?_ <;> intro b0
     refine xv rfl rfl rfl ?_; rotate_left
     rotate_left
     · exact vi (y01 hx h0 b0).symm
     · exact q8 rfl (hJ _ (i + 1) ⟨by omega, yd hx h0 b0⟩ (by omega) ⟨⟨cwi (by omega) (by omega) (by omega), rfl, rfl, rfl, trivial⟩, trivial, rfl⟩)
   · have h : ¬ i < us.length := by simpa using h
     refine xv rfl rfl rfl ?_
     exact vi (qu (qg (by omega) h0)).symm
theorem yaq (rr : List (List Cell)) (us : List Vt) (p : Vt → Bool) (fn : Nat) (c0 : Cell) (hr : rr = us.map Vt.cs) (hf : ∀ x ∈ us, PC Tryz.prog fn [.agg x.cs, .one c0] (rB (p x))) (hl : us.length ≤ 1048576) : PC Tryz.prog 274 [.one (.l rr), .one (.f fn [c0])] (rB (us.any p)) := by
 refine PC.begin Tryz.func274 rfl (by kernel_rfl) ?_
 have hi := yau rr us p fn c0 hr hf hl
 refine z1 rfl (hi) rfl tv3 (xv rfl rfl rfl ?_)
 exact vb y04
theorem q8d (vs : List Vt) (v : Vt) (hv : v ∈ vs) : PC Tryz.prog 275 [.agg v.cs, .one (.p [.l (vs.map Vt.cs)])] (rB (v.v != y6a vs)) := by
 refine PC.begin Tryz.func275 rfl (by kernel_rfl) ?_
 obtain ⟨z, hz⟩ := gx (xs := vs) (i := 0) (List.length_pos_of_mem hv)
 have hg : (vs.map Vt.cs)[(0 : Int).toNat]? = some z.cs := by simpa using gm Vt.cs hz
 have ez : y6a vs = z.v := by cases vs with
  | nil => simp at hz
  | cons a b => cases hz; rfl
 rw [ez]
 refine q9 rfl [] (.take 0 [] (.take 1 [6, 7] (.take 2 (Rg 3 5) (Tk [3, 4] (.take 5 [6, 7] (Tk [6, 7] .done)))))) (by kernel_rfl) (xs rfl (nn_ _) (y9 rfl _ hg (xs rfl rfl ?_)))
 refine xr rfl (yk rfl ⟨⟨rfl, rfl, trivial⟩, z6 rfl⟩)
theorem q7l (sl : List Slt) {c s : Int} (hG : q3f sl c s) : PC Tryz.prog 167 [.one (.l (sl.map Slt.cs))] (rB (y1s sl)) := by
 refine PC.begin Tryz.func167 rfl (by kernel_rfl) ?_
 have hF := y23 sl hG
 have hC := PC.zai (y4m sl hG)
 have hcl := q2s hG
 unfold y1s
 generalize qp sl = vs at hC hcl
 have hany := yaq (vs.map Vt.cs) vs (fun v => v.v != y6a vs) 275 (.p [.l (vs.map Vt.cs)]) rfl (fun v hv => q8d vs v hv) hcl
 refine z1 rfl (hF) rfl ⟨trivial, trivial⟩ (xj (k := 1) rfl (z1 rfl (hC) rfl ⟨trivial, trivial⟩ (z1 rfl (hany) rfl ⟨trivial, (List.forall_mem_cons.2 ⟨⟨trivial, trivial⟩, (fun _ h => nomatch h)⟩), trivial⟩ ?_)))
 refine xr rfl (yk rfl ⟨⟨rfl, rfl, trivial⟩, z6 rfl⟩)
 all_goals first | (exfalso; simp_all; done) | skip
theorem ya0 (rr : List (List Cell)) (us : List Int) (p : Int → Bool) (fn : Nat) (c0 c1 : Cell) (hr : rr = ints us) (hf : ∀ x ∈ us, PC Tryz.prog fn [.one (i64 x), .one c0, .one c1] (rB (p x))) (hl : us.length ≤ 1048576) : PC Tryz.prog 164 [.one (.l rr), .one (.f fn [c0, c1])] (rI (y13 p us)) := by
 refine PC.begin Tryz.func164 rfl (by kernel_rfl) ?_
 subst hr
 have hn : (ints us).length = us.length := by simp
 refine zc rfl (ι := Nat) (fun i => i ≤ us.length ∧ ∀ j y, j < i → us[j]? = some y → p y = false) (fun i => ⟨[(8, sV (.int .i64 i)), (7, sV (.int .i64 (ints us).length)), (0, .one (.b (.l (ints us)))), (1, .one (.b (.f fn [c0, c1])))], []⟩) (fun i => us.length - i) 0 ⟨Nat.zero_le _, fun j y hj => by omega⟩ ?_ ?_
 · exact ⟨⟨rfl, rfl, rfl, rfl, trivial⟩, trivial, rfl⟩
 · intro i ⟨hi, h0⟩ J hJ
   refine xb rfl ?_ ?_ <;> intro h
   · have h : i < us.length := by simpa using h
     obtain ⟨x, hx⟩ := gx h
     have hg := gm (fun n => [i64 n]) hx
     have hxm := List.mem_of_getElem? hx
     refine xs rfl (nn_ _) (y9 rfl _ hg (xs rfl rfl (z1 rfl (hf _ hxm) rfl tv4 ?_)))
     refine xb rfl ?_ ?_ <;> intro b0
     refine xv rfl rfl rfl ?_; rotate_left
     rotate_left
     · exact vi (y01 hx h0 b0).symm
     · exact q8 rfl (hJ _ (i + 1) ⟨by omega, yd hx h0 b0⟩ (by omega) ⟨⟨cwi (by omega) (by omega) (by omega), rfl, rfl, rfl, trivial⟩, trivial, rfl⟩)
   · have h : ¬ i < us.length := by simpa using h
     refine xv rfl rfl rfl ?_
     exact vi (qu (qg (by omega) h0)).symm
theorem q9q (rr : List (List Cell)) (us : List Int) (p : Int → Bool) (fn : Nat) (c0 c1 : Cell) (hr : rr = ints us) (hf : ∀ x ∈ us, PC Tryz.prog fn [.one (i64 x), .one c0, .one c1] (rB (p x))) (hl : us.length ≤ 1048576) : PC Tryz.prog 74 [.one (.l rr), .one (.f fn [c0, c1])] (rB (us.any p)) := by
 refine PC.begin Tryz.func74 rfl (by kernel_rfl) ?_
 have hi := ya0 rr us p fn c0 c1 hr hf hl
 refine z1 rfl (hi) rfl tv3 (xv rfl rfl rfl ?_)
 exact vb y04
theorem q7o (c : Clu) (ho : qz c) (hc : qn c = 0) (x : Con) (hxm : x ∈ c.cons) (s : Int) (hsm : s ∈ shF x.legs) : PC Tryz.prog 77 [.one (.p c.cs), .agg x.cs, .one (i64 s)] (rB (y0t c x s)) := by
 refine PC.begin Tryz.func77 rfl (by kernel_rfl) ?_
 have hxf := (y0l hc hxm).1
 have hx2 := q0y hxf
 have h2 := q21 hxf s hsm
 obtain ⟨sh, hsh, hs0, hs1⟩ := qb0 hc hxm hsm
 have hgsh := gm Shd.cs hsh
 obtain ⟨hva, hda⟩ := z8e (x := x) hsh
 have hid := (z02 hxf).1
 have hac := q3x hc
 have hsf := q5r (z2t hc hsh).1
 have hmk := y38 (z2t hc hsh).1
 have hG := y44 hac.1 hac.2 hid h2
 have hS := PC.zai (y39 c.accs (by omega) ho.2.2.1.2 hac.2 x.id s h2)
 have hA := q7l (zn c.accs x.id s) hG
 have hC := y2s (zn c.accs x.id s) hG
 have hV := qs sh.votes x.id (by omega)
 have hD := qs sh.done x.id (by omega)
 have hO := zaz c.accs hac.1 ho.2.2.1.2 hac.2 x (by omega) hid (q21 hxf)
 have eg : y0t c x s = (y1s (zn c.accs x.id s) && !(y6a (qp (zn c.accs x.id s)) == 1 && z18 sh.votes x.id != 1) && (z18 sh.done x.id == 0 || z18 sh.done x.id == q0e c.accs x)) := by unfold y0t y2e chV; rw [hva, hda, q0w hmk.1, q0w hmk.2]
 refine q9 rfl [] (Tk [0, 1, 2] (.take 3 [7, 16, 17] (.take 4 [] (.take 5 [7, 16, 17] (Tk [6, 8, 9, 10] (.take 11 [13, 14, 17] (Tk [12, 13] (.take 14 [17] (.alt 7 (.alt 15 (.take 16 [] (.alt 17 .done .nil)) .nil) (.alt 15 (.alt 7 (.take 16 [] (.alt 17 .done .nil)) .nil) .nil)))))))))) (by kernel_rfl) (xs rfl (hs0) (y9 rfl _ hgsh (xs rfl rfl ?_)))
 refine q09 rfl ?_ ?_
 refine z1 rfl (hS) rfl tv4 (z1 rfl (hA) rfl ⟨trivial, trivial⟩ ?_)
 refine xb rfl ?_ ?_ <;> intro b0
 refine xv rfl rfl rfl ?_; rotate_left
 refine z1 rfl (hC) rfl ⟨trivial, trivial⟩ ?_
 refine xb rfl ?_ ?_ <;> intro b1
 refine xj (k := 4) rfl (z1 rfl (qs _ _ (by omega)) rfl tv3 (xj (k := 2) rfl ?_))
 refine xb rfl ?_ ?_ <;> intro b2
 refine xv rfl rfl rfl ?_; rotate_left
 refine z1 rfl (qs _ _ (by omega)) rfl tv3 (q9 rfl [] (Tk (Rg 0 7) (.take 7 (Rg 9 4) (.take 8 (Rg 9 4) (.alt 9 (Tk [10, 11, 12] .done) .nil)))) (by kernel_rfl) ?_)
 refine xb rfl ?_ ?_ <;> intro b3
 refine xj (k := 8) rfl ?_
 refine xv rfl rfl rfl ?_; rotate_left
 refine xj (k := 6) rfl (z1 rfl (hO) rfl ⟨trivial, tv3, trivial⟩ (xj (k := 2) rfl ?_))
 refine xv rfl rfl rfl ?_; rotate_left
 refine xj (k := 7) rfl (z1 rfl (qs _ _ (by omega)) rfl tv3 (q9 rfl [] (Tk (Rg 0 7) (.take 7 (Rg 9 4) (.take 8 (Rg 9 4) (.alt 9 (Tk [10, 11, 12] .done) .nil)))) (by kernel_rfl) ?_))
 refine xb rfl ?_ ?_ <;> intro b2
 refine xj (k := 8) rfl ?_
 refine xv rfl rfl rfl ?_; rotate_left
 refine xj (k := 6) rfl (z1 rfl (hO) rfl ⟨trivial, tv3, trivial⟩ (xj (k := 2) rfl ?_))
 refine xv rfl rfl rfl ?_; rotate_left
 refine z1 rfl (hS) rfl tv4 (z1 rfl (hA) rfl ⟨trivial, trivial⟩ ?_)
 refine xb rfl ?_ ?_ <;> intro b0
 refine xv rfl rfl rfl ?_; rotate_left
 refine z1 rfl (hC) rfl ⟨trivial, trivial⟩ ?_
 refine xb rfl ?_ ?_ <;> intro b1
 refine xj (k := 4) rfl (z1 rfl (qs _ _ (by omega)) rfl tv3 (xj (k := 2) rfl ?_))
 refine xb rfl ?_ ?_ <;> intro b2
 refine xv rfl rfl rfl ?_; rotate_left
 refine z1 rfl (qs _ _ (by omega)) rfl tv3 (q9 rfl [] (Tk (Rg 0 7) (.take 7 (Rg 9 4) (.take 8 (Rg 9 4) (.alt 9 (Tk [10, 11, 12] .done) .nil)))) (by kernel_rfl) ?_)
 refine xb rfl ?_ ?_ <;> intro b3
 refine xj (k := 8) rfl ?_
 refine xv rfl rfl rfl ?_; rotate_left
 refine xj (k := 6) rfl (z1 rfl (hO) rfl ⟨trivial, tv3, trivial⟩ (xj (k := 2) rfl ?_))
 refine xv rfl rfl rfl ?_; rotate_left
 refine xj (k := 7) rfl (z1 rfl (qs _ _ (by omega)) rfl tv3 (q9 rfl [] (Tk (Rg 0 7) (.take 7 (Rg 9 4) (.take 8 (Rg 9 4) (.alt 9 (Tk [10, 11, 12] .done) .nil)))) (by kernel_rfl) ?_))
 refine xb rfl ?_ ?_ <;> intro b2
 refine xj (k := 8) rfl ?_
 refine xv rfl rfl rfl ?_; rotate_left
 refine xj (k := 6) rfl (z1 rfl (hO) rfl ⟨trivial, tv3, trivial⟩ (xj (k := 2) rfl ?_))
 refine xv rfl rfl rfl ?_; rotate_left
 all_goals first
  | (refine vb ?_; rw [eg]; simp_all; done)
  | (refine vb ?_; rw [eg, (by simpa using b0 : y1s (zn c.accs x.id s) = true), b1, b2]; simp; done)
  | (refine vb ?_; rw [eg, (by simpa using b0 : y1s (zn c.accs x.id s) = true), b1, b2, b3]; simp; done)
  | skip
theorem z6t (c : Clu) (ho : qz c) (hc : qn c = 0) (x : Con) (hxm : x ∈ c.cons) (s : Int) (hsm : s ∈ shF x.legs) : PC Tryz.prog 76 [.one (i64 s), .one (.p c.cs), .one (.p x.cs)] (rB (!(y0t c x s))) := by
 refine PC.begin Tryz.func76 rfl (by kernel_rfl) ?_
 have hI := q7o c ho hc x hxm s hsm
 refine z1 rfl (hI) rfl ⟨trivial, tv3, trivial, trivial⟩ ?_
 refine xr rfl (yk rfl ⟨⟨rfl, rfl, trivial⟩, z6 rfl⟩)
theorem y9r {α : Type} {us : List α} {p : α → Bool} : (us.any fun x => !(p x)) = !(us.all p) := by
 induction us with
 | nil => rfl
 | cons x us ih => rw [List.any_cons, List.all_cons, ih, Bool.not_and]
theorem q8t (c : Clu) (ho : qz c) : PC Tryz.prog 16 [.agg c.cs] (rB (z3k c)) := by
 refine PC.begin Tryz.func16 rfl (by kernel_rfl) ?_
 by_cases hc : qn c = 0
 · have hR : z3k c = y95 c := by unfold z3k; rw [hc, qac hc]; rfl
   rw [hR]
   refine z1 rfl (z7m c ho) rfl ⟨tv6, trivial⟩ ?_
   refine xb rfl ?_ ?_ <;> intro b0
   exact absurd b0 (by simp; omega)
   all_goals first | (exfalso; simp_all; done) | skip
   have hcl := (q1u hc).1
   refine zc rfl (ι := Nat) (fun i => i ≤ c.cons.length ∧ ∀ (j : Nat) (x : Con), j < i → c.cons[j]? = some x → (shF x.legs).all (y0t c x) = true) (fun i => ⟨[(11, sV (.int .i64 i)), (10, sV (.int .i64 (c.cons.map Con.cs).length)), (9, .one (.b (.l (c.cons.map Con.cs)))), (1, .one (.a 1 0))], [(1, .var (c.cs.map .b))]⟩) (fun i => c.cons.length - i) 0 ⟨Nat.zero_le _, fun j x hj => by omega⟩ ?_ ?_
   · exact ⟨⟨rfl, rfl, rfl, ⟨rfl, rfl, rfl⟩, trivial⟩, ⟨lcr, trivial⟩, rfl⟩
   · intro i ⟨hi, h0⟩ J hJ
     refine xb rfl ?_ ?_ <;> intro h
     · have h : i < c.cons.length := by simpa using h
       obtain ⟨x, hx⟩ := gx h
       have hg := gm Con.cs hx
       have hxm := List.mem_of_getElem? hx
       have hxf := (y0l hc hxm).1
       have hx2 := q0y hxf
       have hSh := PC.zai (z38 x (by omega))
       have hsl : (shF x.legs).length ≤ 8 := by have := y0u x.legs x.legs.length; rw [List.take_length] at this; omega
       have hany := q9q (ints (shF x.legs)) (shF x.legs) (fun s => !(y0t c x s)) 76 (.p c.cs) (.p x.cs) rfl (fun s hs => z6t c ho hc x hxm s hs) (by omega)
       rw [y9r] at hany
       refine xs rfl (nn_ _) (y9 rfl _ hg (xs rfl rfl (z1 rfl (hSh) rfl ⟨tv3, trivial⟩ (z1 rfl (hany) rfl ⟨trivial, (List.forall_mem_cons.2 ⟨tv6, (List.forall_mem_cons.2 ⟨tv3, (fun _ h => nomatch h)⟩)⟩), trivial⟩ ?_))))
       refine xb rfl ?_ ?_ <;> intro b0
       refine xv rfl rfl rfl ?_; rotate_left
       rotate_left
       all_goals first
        | (refine vb ?_; exact (z4k hx (by simpa using b0)).symm)
        | exact q8 rfl (hJ _ (i + 1) ⟨by omega, z24 hx h0 (by simpa using b0)⟩ (by omega) ⟨⟨cwi (by omega) (by omega) (by omega), rfl, rfl, ⟨rfl, rfl, rfl⟩, trivial⟩, ⟨lcr, trivial⟩, rfl⟩)
        | skip
     · have h : i = c.cons.length := by have : ¬ i < c.cons.length := (by simpa using h); omega
       subst h
       have e : y95 c = true := y2r h0
       rw [e]
       refine xr rfl (yk rfl ⟨⟨rfl, rfl, trivial⟩, z6 rfl⟩)
 · have hR : z3k c = false := by unfold z3k; simp [hc]
   rw [hR]
   refine z1 rfl (z7m c ho) rfl ⟨tv6, trivial⟩ ?_
   refine xb rfl ?_ ?_ <;> intro b0
   refine xr rfl (yk rfl ⟨⟨rfl, rfl, trivial⟩, z6 rfl⟩)
   exact absurd b0 (by simp; omega)
   all_goals (exfalso; simp_all; done)
theorem y8w (cs : List Cell) (hw : WT 9223372036854775807 qr cs) : PC Tryz.prog 4 [.agg cs] (rB true) := by
 refine PC.begin Tryz.func4 rfl (by kernel_rfl) ?_
 obtain ⟨x0, x1, x2, x3, x4, rfl, _⟩ := q10 hw
 rcases qar x0 x1 x2 x3 x4 hw 1048576 (Nat.le_refl _) with hsz | ⟨c, rfl, rfl, rfl, rfl, rfl, ho, _, ⟨n, _, hsz⟩, hto, heq⟩
 · skip
   refine z1 rfl (hsz) rfl ⟨tv6, trivial, trivial⟩ (xj (k := 1) rfl ?_)
   refine xr rfl (yk rfl ⟨⟨rfl, rfl, trivial⟩, z6 rfl⟩)
 · have hI := q8t c ho
   have hS := q94 c ho
   refine z1 rfl (hsz) rfl ⟨tv6, trivial, trivial⟩ (xj (k := 1) rfl (z1 rfl (hto) rfl ⟨tv6, trivial⟩ (z1 rfl (hS) rfl ⟨⟨rfl, rfl, rfl, rfl, rfl, trivial⟩, trivial⟩ (z1 rfl (hto) rfl ⟨tv6, trivial⟩ (z1 rfl (hI) rfl ⟨⟨rfl, rfl, rfl, rfl, rfl, trivial⟩, trivial⟩ ?_)))))
   refine xb rfl ?_ ?_ <;> intro b0
   exact absurd b0 (by simp [*])
   refine q9 rfl [] (.take 0 [3, 4] (.take 1 (Rg 2 3) (.alt 2 (.alt 3 (.take 4 [] .done) .nil) .nil))) (by kernel_rfl) (z1 rfl (hto) rfl ⟨tv6, trivial⟩ (z1 rfl (heq) rfl ⟨⟨rfl, rfl, rfl, rfl, rfl, trivial⟩, ⟨rfl, rfl, rfl, rfl, rfl, trivial⟩, trivial⟩ (xj (k := 1) rfl ?_)))
   refine xr rfl (yk rfl ⟨⟨rfl, rfl, trivial⟩, z6 rfl⟩)
   all_goals (exfalso; simp_all; done)
end Go.Proofs.YtohbmmpkcibnpaaGreat
end
section
namespace Go.Proofs.YtohbmmpkcibnpaaGreat.fnExactSafeCluster
open Go.ChangeShapes Go.WideShapes Go.ChangeAt Go.RowKit
set_option maxRecDepth 100000 in
set_option maxHeartbeats 40000000 in
theorem closed : joinedFacts Tryz.pinned.checked.prog 4 Tryz.f4 Rows.fnExactSafeClusterSpec Rows.fnExactSafeClusterRow = true := by
 unfold joinedFacts
 simp only [Bool.and_eq_true]
 repeat' refine And.intro ?_ ?_
 all_goals as_aux_lemma => kernel_rfl
end Go.Proofs.YtohbmmpkcibnpaaGreat.fnExactSafeCluster
end
section
namespace Go.Proofs.YtohbmmpkcibnpaaGreat.fnExactSafeCluster
open Go.ChangeShapes Go.WideShapes Go.ChangeAt Go.RowKit Go.Sx
open Go.ChangeMaps (open_string shut_string)
theorem own : ownKnob Tryz.prog.godebug = none := by kernel_rfl
theorem laidOut : laidOutB Tryz.prog = true := by kernel_rfl
theorem q2 : OS Tryz.prog 2 (.i .i64 .nil) := qay Tryz.underlying2 (by kernel_rfl)
theorem ybz : OS Tryz.prog 266 q0a := zy Tryz.underlying266 (by kernel_rfl) (.cons (by kernel_rfl) (.cons (by kernel_rfl) (.cons (by kernel_rfl) (.cons (by kernel_rfl) (.nil _))))) (zf q2 (zf q2 (zf q2 (z0d q2) rfl rfl) rfl rfl) rfl rfl)
theorem q77 : OS Tryz.prog 77 (.l q0a .nil) := z03 Tryz.underlying77 (by kernel_rfl) ybz
theorem q79 : OS Tryz.prog 79 q7 := zy Tryz.underlying79 (by kernel_rfl) (.cons (by kernel_rfl) (.cons (by kernel_rfl) (.nil _))) (zf q2 (z0d q77) rfl rfl)
theorem q22 : OS Tryz.prog 22 (.l q7 .nil) := z03 Tryz.underlying22 (by kernel_rfl) q79
theorem qbz : OS Tryz.prog 336 ye := zy Tryz.underlying336 (by kernel_rfl) (.cons (by kernel_rfl) (.cons (by kernel_rfl) (.cons (by kernel_rfl) (.nil _)))) (zf q2 (zf q2 (z0d q2) rfl rfl) rfl rfl)
theorem qbw : OS Tryz.prog 181 (.l ye .nil) := z03 Tryz.underlying181 (by kernel_rfl) qbz
theorem qc0 : OS Tryz.prog 368 zj := zy Tryz.underlying368 (by kernel_rfl) (.cons (by kernel_rfl) (.cons (by kernel_rfl) (.nil _))) (zf q2 (z0d q2) rfl rfl)
theorem zbs : OS Tryz.prog 182 (.l zj .nil) := z03 Tryz.underlying182 (by kernel_rfl) qc0
theorem q64 : OS Tryz.prog 64 (.l (.i .i64 .nil) .nil) := z03 Tryz.underlying64 (by kernel_rfl) q2
theorem zbx : OS Tryz.prog 184 zg := zy Tryz.underlying184 (by kernel_rfl) (.cons (by kernel_rfl) (.cons (by kernel_rfl) (.cons (by kernel_rfl) (.cons (by kernel_rfl) (.cons (by kernel_rfl) (.cons (by kernel_rfl) (.nil _))))))) (zf q2 (zf qbw (zf zbs (zf q22 (zf zbs (z0d q64) rfl rfl) rfl rfl) rfl rfl) rfl rfl) rfl rfl)
theorem q23 : OS Tryz.prog 23 (.l zg .nil) := z03 Tryz.underlying23 (by kernel_rfl) zbx
theorem ybl : OS Tryz.prog 205 zp := zy Tryz.underlying205 (by kernel_rfl) (.cons (by kernel_rfl) (.cons (by kernel_rfl) (.nil _))) (zf q2 (z0d q2) rfl rfl)
theorem ybs : OS Tryz.prog 359 (.l zp .nil) := z03 Tryz.underlying359 (by kernel_rfl) ybl
theorem zc0 : OS Tryz.prog 361 yo := zy Tryz.underlying361 (by kernel_rfl) (.cons (by kernel_rfl) (.cons (by kernel_rfl) (.cons (by kernel_rfl) (.cons (by kernel_rfl) (.cons (by kernel_rfl) (.nil _)))))) (zf q2 (zf q2 (zf q2 (zf ybl (z0d ybs) rfl rfl) rfl rfl) rfl rfl) rfl rfl)
theorem ybx : OS Tryz.prog 186 (.l yo .nil) := z03 Tryz.underlying186 (by kernel_rfl) zc0
theorem qbx : OS Tryz.prog 188 zb := zy Tryz.underlying188 (by kernel_rfl) (.cons (by kernel_rfl) (.nil _)) (z0d ybx)
theorem q24 : OS Tryz.prog 24 (.l zb .nil) := z03 Tryz.underlying24 (by kernel_rfl) qbx
theorem yc0 : OS Tryz.prog 364 zr := zy Tryz.underlying364 (by kernel_rfl) (.cons (by kernel_rfl) (.cons (by kernel_rfl) (.cons (by kernel_rfl) (.cons (by kernel_rfl) (.cons (by kernel_rfl) (.cons (by kernel_rfl) (.nil _))))))) (zf q2 (zf q2 (zf q2 (zf q2 (zf q64 (z0d ybs) rfl rfl) rfl rfl) rfl rfl) rfl rfl) rfl rfl)
theorem zby : OS Tryz.prog 190 (.l zr .nil) := z03 Tryz.underlying190 (by kernel_rfl) yc0
theorem zc1 : OS Tryz.prog 372 zu := zy Tryz.underlying372 (by kernel_rfl) (.cons (by kernel_rfl) (.cons (by kernel_rfl) (.cons (by kernel_rfl) (.cons (by kernel_rfl) (.cons (by kernel_rfl) (.nil _)))))) (zf q2 (zf q2 (zf q2 (zf q2 (z0d q2) rfl rfl) rfl rfl) rfl rfl) rfl rfl)
theorem yby : OS Tryz.prog 191 (.l zu .nil) := z03 Tryz.underlying191 (by kernel_rfl) zc1
theorem qby : OS Tryz.prog 193 qf := zy Tryz.underlying193 (by kernel_rfl) (.cons (by kernel_rfl) (.cons (by kernel_rfl) (.cons (by kernel_rfl) (.nil _)))) (zf q2 (zf zby (z0d yby) rfl rfl) rfl rfl)
theorem q25 : OS Tryz.prog 25 (.l qf .nil) := z03 Tryz.underlying25 (by kernel_rfl) qby
theorem zbz : OS Tryz.prog 207 qm := zy Tryz.underlying207 (by kernel_rfl) (.cons (by kernel_rfl) (.cons (by kernel_rfl) (.cons (by kernel_rfl) (.cons (by kernel_rfl) (.cons (by kernel_rfl) (.cons (by kernel_rfl) (.cons (by kernel_rfl) (.cons (by kernel_rfl) (.nil _))))))))) (zf q2 (zf q2 (zf q2 (zf q2 (zf q2 (zf q2 (zf q2 (z0d ybl) rfl rfl) rfl rfl) rfl rfl) rfl rfl) rfl rfl) rfl rfl) rfl rfl)
theorem q26 : OS Tryz.prog 26 (.l qm .nil) := z03 Tryz.underlying26 (by kernel_rfl) zbz
theorem q28 : OS Tryz.prog 28 qr := zy Tryz.underlying28 (by kernel_rfl) (.cons (by kernel_rfl) (.cons (by kernel_rfl) (.cons (by kernel_rfl) (.cons (by kernel_rfl) (.cons (by kernel_rfl) (.nil _)))))) (zf q22 (zf q23 (zf q24 (zf q25 (z0d q26) rfl rfl) rfl rfl) rfl rfl) rfl rfl)
set_option maxRecDepth 100000 in
theorem lifted (os : Os) (started : os.Started) (H : Type) (enc : TypeId × Value → H) :
 ReturnsInHanded {} Tryz.checked os 4 .any (Rows.fnExactSafeClusterSpec.pre6 enc Tryz.prog Tryz.f4 Rows.fnExactSafeClusterRow.domain false) (Rows.fnExactSafeClusterSpec.post enc Tryz.prog Tryz.f4 false true false false) := by
 refine returnsInHanded_of_change_sized (C := Tryz.checked) own started (by kernel_rfl) Tryz.func4
  (ChangeSpec.witness6 (enc := enc) (C := Tryz.checked) false ⟨#[], #[.agg #[.slice none 0 0, .slice none 0 0, .slice none 0 0, .slice none 0 0, .slice none 0 0]], []⟩ 8 (by kernel_rfl) (by kernel_rfl) (by kernel_rfl) (by kernel_rfl)) ?_
 intro W base args ds gs before hval0 hW _ _ _
 have hval : ∀ (j : Nat) t v, Tryz.f4.params[j]? = some t → args[j]? = some v → Value.okWide Tryz.prog W .any base t v := hval0
 have hW' := hW
 obtain ⟨p, q, hA0, hV, rfl, hfz, hnd⟩ := hW
 have hA : DataW.TrodAll enc Tryz.prog W 0 (fun _ => true) true Tryz.f4.params.toList args.toList ds p := hA0
 rw [Tryz.params4] at hA hval
 obtain ⟨v0, vs0, d0, ds0, p0, q0, hargs, rfl, rfl, h0, r0⟩ := trodAll_cons hA
 obtain ⟨rfl, rfl, rfl⟩ := trodAll_nil r0
 obtain rfl : args = #[v0] := by cases args; simp_all
 obtain ⟨rfl, rfl⟩ := trodVars_none hV
 have k0 := h0
 have lt0 : ∀ x ∈ p0, x.block < W.heap.size := by obtain ⟨m, hm⟩ := k0; exact DataW.trod_lt m _ _ _ hm
 obtain ⟨c0, R0, w0⟩ := qaq Tryz.underlying28 q28 (hval 0 28 v0 rfl rfl) h0
 clear hA0 hval0
 refine (PC.law (y8w c0 w0) (y4i.one R0)).mono fun e W' ⟨he, bel⟩ => ?_
 subst he
 exact ⟨_, rfl, _, _, _, [], _, [], hW', trodAll_mk1 (shut_bool Tryz.underlying4 _), (trodAll_cons_mk (Below.trod laidOut (by kernel_rfl) (of_decide_eq_true (by kernel_rfl)) k0 bel lt0) trodAll_mk0), rfl, bel.frame _, fun h => by cases h⟩
theorem ybw : Rows.fnExactSafeClusterRow.holds Tryz.pinned (OpenSpec.ofChange Rows.fnExactSafeClusterSpec) :=
 OpenClaim.holds_of_wide 4 Tryz.f4 rfl rfl rfl rfl rfl rfl rfl ⟨rfl, rfl, rfl, rfl, rfl⟩ rfl rfl rfl rfl rfl (by as_aux_lemma => kernel_rfl) Tryz.func4 closed
  (by as_aux_lemma => exact of_decide_eq_true (by kernel_rfl)) (by as_aux_lemma => unfold Func.isWrapper; first | (rw [if_pos (by decide +kernel)]; kernel_rfl) | (rw [if_neg (by decide +kernel)]; exact ⟨rfl, rfl⟩))
  (fun os started H enc _ => lifted os started H enc)
theorem qaz : Rows.FnExactSafeClusterSaid := ybw
end Go.Proofs.YtohbmmpkcibnpaaGreat.fnExactSafeCluster
namespace Go.Proofs.YtohbmmpkcibnpaaGreat
theorem fnExactSafeCluster_holds : Rows.FnExactSafeClusterSaid := fnExactSafeCluster.qaz
end Go.Proofs.YtohbmmpkcibnpaaGreat
end
