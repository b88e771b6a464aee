/- WHAT IS PROVED: FnExactBooksBalance, for every argument of its parameters' types that can be read as data: the call returns true and its arguments read as before. No condition. -/
import Derived.Test.YtbnbjaedijbnpaaGreatCBb6
import Derived.WalkKit
import Derived.OrdersHeld
import Derived.DeepKeys
import Derived.Maps.RangeWalk
import Derived.Maps.OwnOps
import Derived.WideKeyEntry
import Derived.Deep.Slices
import Derived.ChangeArms
import Derived.WideShapes
import Derived.Sort.AssemblyPlain
import Derived.WideKeyPair
import Derived.Test.YtbnbjaedijbnpaaGreatProg
import Derived.Shelf.SortG.Plain
import Derived.Shelf.SortG.SortNone
import Derived.Shelf.SlicesG.CompactI
import Derived.Lib.OwnBridge
import Derived.RangeFuncGives
import Derived.RangeFuncBox
import Derived.RangeFuncLeaves
import Derived.Shelf.Abstract
import Derived.Maps.AppendAt
import Derived.OwnWalkIn
import Derived.TacticsInMore
import Derived.LoopNIn
import Derived.LoopIn
import Derived.Test.YtbnbjaedijbnpaaGreatRows
import Derived.ProofKit
import Derived.OpenShut
import Derived.ShutString
import Derived.ChangeOld
import Derived.Below
import Derived.SizedLaws
set_option linter.unusedVariables false
set_option linter.unusedSimpArgs false
section
namespace Go.Proofs.YtbnbjaedijbnpaaGreat
open Go Go.Sx
set_option maxRecDepth 20000
theorem q8d (x0 : Int) (x1 : Int) (x2 : Int) (x3 : Int)  : PC Tryz.prog 257 [.agg [.s (.int .i64 x0), .s (.int .i64 x1), .s (.int .i64 x2), .s (.int .i64 x3)]] (.one (.own true [.s (.int .i64 x0), .s (.int .i64 x1), .s (.int .i64 x2), .s (.int .i64 x3)])) := by
 refine PC.begin Tryz.func257 rfl (by kernel_rfl) ?_
 exact xr rfl (z7 rfl ⟨⟨rfl, rfl, rfl, rfl, rfl, trivial⟩, z1 rfl⟩)
theorem q7j (rr : List (List Cell)) (hw : WR 1048576 q08 rr) : PC Tryz.prog 190 [.one (.l rr)] (.one (.own false [.l 4 rr])) := by
 refine PC.begin Tryz.func190 rfl (by kernel_rfl) ?_
 have hlen := hw.1
 refine xs rfl rfl (xs rfl (Int.natCast_nonneg _) (xs rfl (by omega) (xs rfl (by omega) ?_)))
 refine qc rfl (ι := Nat) (fun i => i ≤ rr.length) (fun i => ⟨[(4, sV (.int .i64 i)), (3, .one (.h 7 rr.length)), (0, .one (.b (.l rr)))], [(7, .arr true 4 0 (rr.take i ++ List.replicate (rr.length - i) [.s (.int .i64 0), .s (.int .i64 0), .s (.int .i64 0), .s (.int .i64 0)]))]⟩) (fun i => rr.length - i) 0 (Nat.zero_le _) ?_ ?_
 · repeat' (first | exact trivial | exact rfl | exact Or.inl rfl | refine And.intro ?_ ?_)
 · intro i hi J hJ
   refine xb rfl (fun h => ?_) (fun h => ?_)
   · have h : i < rr.length := by simpa using h
     obtain ⟨row, hg⟩ : ∃ row, rr[i]? = some row := ⟨_, List.getElem?_eq_getElem h⟩
     obtain ⟨x0, x1, x2, x3, rfl⟩ := y2u (hw.2 row (List.mem_of_getElem? hg))
     refine xs rfl (Int.natCast_nonneg _) (ya rfl _ hg (xs rfl rfl ?_))
     refine z6 rfl (q8d _ _ _ _) rfl ⟨⟨trivial, trivial, trivial, trivial, trivial⟩, trivial⟩ ?_
     refine xs rfl (qe _ _ _ _ (by omega) rfl).symm (xs rfl (Int.natCast_nonneg _) (ya rfl [.s (.int .i64 0), .s (.int .i64 0), .s (.int .i64 0), .s (.int .i64 0)] (zl _ _ _ _ (by omega) rfl) (xs rfl rfl ?_)))
     refine xs rfl (qe _ _ _ _ (by omega) rfl).symm (ya rfl [.s (.int .i64 0), .s (.int .i64 0), .s (.int .i64 0), .s (.int .i64 0)] (zl _ _ _ _ (by omega) rfl) (xs rfl (by decide) (xs rfl ⟨trivial, trivial, trivial, trivial, trivial⟩ ?_)))
     refine q9 rfl (hJ _ (i + 1) (by omega) (by omega) ?_)
     repeat' (first | exact trivial | exact rfl | exact Or.inl rfl | exact cwi (by omega) (by omega) (by omega) | refine And.intro ?_ ?_)
     exact qz _ _ _ _ _ hg rfl
   · have h : ¬ i < rr.length := by simpa using h
     have : i = rr.length := by omega
     subst this
     refine xr rfl (z7 rfl ⟨⟨rfl, ⟨(qe _ _ _ _ (by omega) rfl).symm, zz _ _ _ rfl, Or.inl rfl⟩, trivial⟩, z1 rfl⟩)
theorem z4a (x0 : Int) (x1 : List (List Cell)) (h1 : WR 1048576 q08 x1) : PC Tryz.prog 107 [.agg [.s (.int .i64 x0), .l x1]] (.one (.own true [.s (.int .i64 x0), .l 4 x1])) := by
 refine PC.begin Tryz.func107 rfl (by kernel_rfl) ?_
 refine z6 rfl (q7j _ h1) rfl ⟨trivial, trivial⟩ ?_
 exact xr rfl (z7 rfl ⟨⟨rfl, rfl, ⟨rfl, rfl, .inl rfl⟩, trivial⟩, z1 rfl⟩)
theorem y1i (rr : List (List Cell)) (hw : WR 1048576 z8 rr) : PC Tryz.prog 45 [.one (.l rr)] (.one (.own false [.l 2 rr])) := by
 refine PC.begin Tryz.func45 rfl (by kernel_rfl) ?_
 have hlen := hw.1
 refine xs rfl rfl (xs rfl (Int.natCast_nonneg _) (xs rfl (by omega) (xs rfl (by omega) ?_)))
 refine qc rfl (ι := Nat) (fun i => i ≤ rr.length) (fun i => ⟨[(4, sV (.int .i64 i)), (3, .one (.h 7 rr.length)), (0, .one (.b (.l rr)))], [(7, .arr true 2 0 (rr.take i ++ List.replicate (rr.length - i) [.s (.int .i64 0), .l []]))]⟩) (fun i => rr.length - i) 0 (Nat.zero_le _) ?_ ?_
 · repeat' (first | exact trivial | exact rfl | exact Or.inl rfl | refine And.intro ?_ ?_)
 · intro i hi J hJ
   refine xb rfl (fun h => ?_) (fun h => ?_)
   · have h : i < rr.length := by simpa using h
     obtain ⟨row, hg⟩ : ∃ row, rr[i]? = some row := ⟨_, List.getElem?_eq_getElem h⟩
     obtain ⟨x0, x1, rfl, h1⟩ := y0d (hw.2 row (List.mem_of_getElem? hg))
     refine xs rfl (Int.natCast_nonneg _) (ya rfl _ hg (xs rfl rfl ?_))
     refine z6 rfl (z4a _ _ h1) rfl ⟨⟨trivial, trivial, trivial⟩, trivial⟩ ?_
     refine xs rfl (qe _ _ _ _ (by omega) rfl).symm (xs rfl (Int.natCast_nonneg _) (ya rfl [.s (.int .i64 0), .l []] (zl _ _ _ _ (by omega) rfl) (xs rfl rfl ?_)))
     refine xs rfl (qe _ _ _ _ (by omega) rfl).symm (ya rfl [.s (.int .i64 0), .l []] (zl _ _ _ _ (by omega) rfl) (xs rfl (by decide) (xs rfl ⟨trivial, ⟨rfl, rfl⟩, trivial⟩ ?_)))
     refine q9 rfl (hJ _ (i + 1) (by omega) (by omega) ?_)
     repeat' (first | exact trivial | exact rfl | exact Or.inl rfl | exact cwi (by omega) (by omega) (by omega) | refine And.intro ?_ ?_)
     exact qz _ _ _ _ _ hg rfl
   · have h : ¬ i < rr.length := by simpa using h
     have : i = rr.length := by omega
     subst this
     refine xr rfl (z7 rfl ⟨⟨rfl, ⟨(qe _ _ _ _ (by omega) rfl).symm, zz _ _ _ rfl, Or.inl rfl⟩, trivial⟩, z1 rfl⟩)
theorem q4v (x0 : Int) (x1 : Int) (x2 : Int)  : PC Tryz.prog 189 [.agg [.s (.int .i64 x0), .s (.int .i64 x1), .s (.int .i64 x2)]] (.one (.own true [.s (.int .i64 x0), .s (.int .i64 x1), .s (.int .i64 x2)])) := by
 refine PC.begin Tryz.func189 rfl (by kernel_rfl) ?_
 exact xr rfl (z7 rfl ⟨⟨rfl, rfl, rfl, rfl, trivial⟩, z1 rfl⟩)
theorem z1z (rr : List (List Cell)) (hw : WR 1048576 q8 rr) : PC Tryz.prog 106 [.one (.l rr)] (.one (.own false [.l 3 rr])) := by
 refine PC.begin Tryz.func106 rfl (by kernel_rfl) ?_
 have hlen := hw.1
 refine xs rfl rfl (xs rfl (Int.natCast_nonneg _) (xs rfl (by omega) (xs rfl (by omega) ?_)))
 refine qc rfl (ι := Nat) (fun i => i ≤ rr.length) (fun i => ⟨[(4, sV (.int .i64 i)), (3, .one (.h 7 rr.length)), (0, .one (.b (.l rr)))], [(7, .arr true 3 0 (rr.take i ++ List.replicate (rr.length - i) [.s (.int .i64 0), .s (.int .i64 0), .s (.int .i64 0)]))]⟩) (fun i => rr.length - i) 0 (Nat.zero_le _) ?_ ?_
 · repeat' (first | exact trivial | exact rfl | exact Or.inl rfl | refine And.intro ?_ ?_)
 · intro i hi J hJ
   refine xb rfl (fun h => ?_) (fun h => ?_)
   · have h : i < rr.length := by simpa using h
     obtain ⟨row, hg⟩ : ∃ row, rr[i]? = some row := ⟨_, List.getElem?_eq_getElem h⟩
     obtain ⟨x0, x1, x2, rfl⟩ := z0j (hw.2 row (List.mem_of_getElem? hg))
     refine xs rfl (Int.natCast_nonneg _) (ya rfl _ hg (xs rfl rfl ?_))
     refine z6 rfl (q4v _ _ _) rfl ⟨⟨trivial, trivial, trivial, trivial⟩, trivial⟩ ?_
     refine xs rfl (qe _ _ _ _ (by omega) rfl).symm (xs rfl (Int.natCast_nonneg _) (ya rfl [.s (.int .i64 0), .s (.int .i64 0), .s (.int .i64 0)] (zl _ _ _ _ (by omega) rfl) (xs rfl rfl ?_)))
     refine xs rfl (qe _ _ _ _ (by omega) rfl).symm (ya rfl [.s (.int .i64 0), .s (.int .i64 0), .s (.int .i64 0)] (zl _ _ _ _ (by omega) rfl) (xs rfl (by decide) (xs rfl ⟨trivial, trivial, trivial, trivial⟩ ?_)))
     refine q9 rfl (hJ _ (i + 1) (by omega) (by omega) ?_)
     repeat' (first | exact trivial | exact rfl | exact Or.inl rfl | exact cwi (by omega) (by omega) (by omega) | refine And.intro ?_ ?_)
     exact qz _ _ _ _ _ hg rfl
   · have h : ¬ i < rr.length := by simpa using h
     have : i = rr.length := by omega
     subst this
     refine xr rfl (z7 rfl ⟨⟨rfl, ⟨(qe _ _ _ _ (by omega) rfl).symm, zz _ _ _ rfl, Or.inl rfl⟩, trivial⟩, z1 rfl⟩)
theorem z7k (x0 : Int) (x1 : Int)  : PC Tryz.prog 258 [.agg [.s (.int .i64 x0), .s (.int .i64 x1)]] (.one (.own true [.s (.int .i64 x0), .s (.int .i64 x1)])) := by
 refine PC.begin Tryz.func258 rfl (by kernel_rfl) ?_
 exact xr rfl (z7 rfl ⟨⟨rfl, rfl, rfl, trivial⟩, z1 rfl⟩)
theorem z3m (rr : List (List Cell)) (hw : WR 1048576 zk rr) : PC Tryz.prog 191 [.one (.l rr)] (.one (.own false [.l 2 rr])) := by
 refine PC.begin Tryz.func191 rfl (by kernel_rfl) ?_
 have hlen := hw.1
 refine xs rfl rfl (xs rfl (Int.natCast_nonneg _) (xs rfl (by omega) (xs rfl (by omega) ?_)))
 refine qc rfl (ι := Nat) (fun i => i ≤ rr.length) (fun i => ⟨[(4, sV (.int .i64 i)), (3, .one (.h 7 rr.length)), (0, .one (.b (.l rr)))], [(7, .arr true 2 0 (rr.take i ++ List.replicate (rr.length - i) [.s (.int .i64 0), .s (.int .i64 0)]))]⟩) (fun i => rr.length - i) 0 (Nat.zero_le _) ?_ ?_
 · repeat' (first | exact trivial | exact rfl | exact Or.inl rfl | refine And.intro ?_ ?_)
 · intro i hi J hJ
   refine xb rfl (fun h => ?_) (fun h => ?_)
   · have h : i < rr.length := by simpa using h
     obtain ⟨row, hg⟩ : ∃ row, rr[i]? = some row := ⟨_, List.getElem?_eq_getElem h⟩
     obtain ⟨x0, x1, rfl⟩ := y1s (hw.2 row (List.mem_of_getElem? hg))
     refine xs rfl (Int.natCast_nonneg _) (ya rfl _ hg (xs rfl rfl ?_))
     refine z6 rfl (z7k _ _) rfl ⟨⟨trivial, trivial, trivial⟩, trivial⟩ ?_
     refine xs rfl (qe _ _ _ _ (by omega) rfl).symm (xs rfl (Int.natCast_nonneg _) (ya rfl [.s (.int .i64 0), .s (.int .i64 0)] (zl _ _ _ _ (by omega) rfl) (xs rfl rfl ?_)))
     refine xs rfl (qe _ _ _ _ (by omega) rfl).symm (ya rfl [.s (.int .i64 0), .s (.int .i64 0)] (zl _ _ _ _ (by omega) rfl) (xs rfl (by decide) (xs rfl ⟨trivial, trivial, trivial⟩ ?_)))
     refine q9 rfl (hJ _ (i + 1) (by omega) (by omega) ?_)
     repeat' (first | exact trivial | exact rfl | exact Or.inl rfl | exact cwi (by omega) (by omega) (by omega) | refine And.intro ?_ ?_)
     exact qz _ _ _ _ _ hg rfl
   · have h : ¬ i < rr.length := by simpa using h
     have : i = rr.length := by omega
     subst this
     refine xr rfl (z7 rfl ⟨⟨rfl, ⟨(qe _ _ _ _ (by omega) rfl).symm, zz _ _ _ rfl, Or.inl rfl⟩, trivial⟩, z1 rfl⟩)
theorem y32 (rr : List (List Cell)) (hw : WR 1048576 (.i .i64 .nil) rr) : PC Tryz.prog 192 [.one (.l rr)] (.one (.own false [.l 1 rr])) := by
 refine PC.begin Tryz.func192 rfl (by kernel_rfl) ?_
 have hlen := hw.1
 refine xs rfl rfl (xs rfl (Int.natCast_nonneg _) (xs rfl (by omega) (xs rfl (by omega) ?_)))
 refine qc rfl (ι := Nat) (fun i => i ≤ rr.length) (fun i => ⟨[(4, sV (.int .i64 i)), (3, .one (.h 7 rr.length)), (0, .one (.b (.l rr)))], [(7, .arr true 1 0 (rr.take i ++ List.replicate (rr.length - i) [.s (.int .i64 0)]))]⟩) (fun i => rr.length - i) 0 (Nat.zero_le _) ?_ ?_
 · repeat' (first | exact trivial | exact rfl | exact Or.inl rfl | refine And.intro ?_ ?_)
 · intro i hi J hJ
   refine xb rfl (fun h => ?_) (fun h => ?_)
   · have h : i < rr.length := by simpa using h
     obtain ⟨row, hg⟩ : ∃ row, rr[i]? = some row := ⟨_, List.getElem?_eq_getElem h⟩
     obtain ⟨x0, _, rfl, hnil⟩ := ((hw.2 row (List.mem_of_getElem? hg))).qv; obtain rfl := hnil.qp
     refine xs rfl (Int.natCast_nonneg _) (ya rfl _ hg (xs rfl rfl ?_))
     refine xs rfl (qe _ _ _ _ (by omega) rfl).symm (xs rfl (Int.natCast_nonneg _) (ya rfl [.s (.int .i64 0)] (zl _ _ _ _ (by omega) rfl) (xs rfl rfl ?_)))
     refine xs rfl (qe _ _ _ _ (by omega) rfl).symm (ya rfl [.s (.int .i64 0)] (zl _ _ _ _ (by omega) rfl) (xs rfl (by decide) (xs rfl ⟨trivial, trivial⟩ ?_)))
     refine q9 rfl (hJ _ (i + 1) (by omega) (by omega) ?_)
     repeat' (first | exact trivial | exact rfl | exact Or.inl rfl | exact cwi (by omega) (by omega) (by omega) | refine And.intro ?_ ?_)
     exact qz _ _ _ _ _ hg rfl
   · have h : ¬ i < rr.length := by simpa using h
     have : i = rr.length := by omega
     subst this
     refine xr rfl (z7 rfl ⟨⟨rfl, ⟨(qe _ _ _ _ (by omega) rfl).symm, zz _ _ _ rfl, Or.inl rfl⟩, trivial⟩, z1 rfl⟩)
theorem z6f (x0 : Int) (x1 : List (List Cell)) (x2 : List (List Cell)) (x3 : List (List Cell)) (x4 : List (List Cell)) (x5 : List (List Cell)) (h1 : WR 1048576 q8 x1) (h2 : WR 1048576 zk x2) (h3 : WR 1048576 z8 x3) (h4 : WR 1048576 zk x4) (h5 : WR 1048576 (.i .i64 .nil) x5) : PC Tryz.prog 108 [.agg [.s (.int .i64 x0), .l x1, .l x2, .l x3, .l x4, .l x5]] (.one (.own true [.s (.int .i64 x0), .l 3 x1, .l 2 x2, .l 2 x3, .l 2 x4, .l 1 x5])) := by
 refine PC.begin Tryz.func108 rfl (by kernel_rfl) ?_
 refine z6 rfl (z1z _ h1) rfl ⟨trivial, trivial⟩ ?_
 refine z6 rfl (z3m _ h2) rfl ⟨trivial, trivial⟩ ?_
 refine z6 rfl (y1i _ h3) rfl ⟨trivial, trivial⟩ ?_
 refine z6 rfl (z3m _ h4) rfl ⟨trivial, trivial⟩ ?_
 refine z6 rfl (y32 _ h5) rfl ⟨trivial, trivial⟩ ?_
 exact xr rfl (z7 rfl ⟨⟨rfl, rfl, ⟨rfl, rfl, .inl rfl⟩, ⟨rfl, rfl, .inl rfl⟩, ⟨rfl, rfl, .inl rfl⟩, ⟨rfl, rfl, .inl rfl⟩, ⟨rfl, rfl, .inl rfl⟩, trivial⟩, z1 rfl⟩)
theorem z5h (rr : List (List Cell)) (hw : WR 1048576 yg rr) : PC Tryz.prog 46 [.one (.l rr)] (.one (.own false [.l 6 rr])) := by
 refine PC.begin Tryz.func46 rfl (by kernel_rfl) ?_
 have hlen := hw.1
 refine xs rfl rfl (xs rfl (Int.natCast_nonneg _) (xs rfl (by omega) (xs rfl (by omega) ?_)))
 refine qc rfl (ι := Nat) (fun i => i ≤ rr.length) (fun i => ⟨[(4, sV (.int .i64 i)), (3, .one (.h 7 rr.length)), (0, .one (.b (.l rr)))], [(7, .arr true 6 0 (rr.take i ++ List.replicate (rr.length - i) [.s (.int .i64 0), .l [], .l [], .l [], .l [], .l []]))]⟩) (fun i => rr.length - i) 0 (Nat.zero_le _) ?_ ?_
 · repeat' (first | exact trivial | exact rfl | exact Or.inl rfl | refine And.intro ?_ ?_)
 · intro i hi J hJ
   refine xb rfl (fun h => ?_) (fun h => ?_)
   · have h : i < rr.length := by simpa using h
     obtain ⟨row, hg⟩ : ∃ row, rr[i]? = some row := ⟨_, List.getElem?_eq_getElem h⟩
     obtain ⟨x0, x1, x2, x3, x4, x5, rfl, h1, h2, h3, h4, h5⟩ := z15 (hw.2 row (List.mem_of_getElem? hg))
     refine xs rfl (Int.natCast_nonneg _) (ya rfl _ hg (xs rfl rfl ?_))
     refine z6 rfl (z6f _ _ _ _ _ _ h1 h2 h3 h4 h5) rfl ⟨⟨trivial, trivial, trivial, trivial, trivial, trivial, trivial⟩, trivial⟩ ?_
     refine xs rfl (qe _ _ _ _ (by omega) rfl).symm (xs rfl (Int.natCast_nonneg _) (ya rfl [.s (.int .i64 0), .l [], .l [], .l [], .l [], .l []] (zl _ _ _ _ (by omega) rfl) (xs rfl rfl ?_)))
     refine xs rfl (qe _ _ _ _ (by omega) rfl).symm (ya rfl [.s (.int .i64 0), .l [], .l [], .l [], .l [], .l []] (zl _ _ _ _ (by omega) rfl) (xs rfl (by decide) (xs rfl ⟨trivial, ⟨rfl, rfl⟩, ⟨rfl, rfl⟩, ⟨rfl, rfl⟩, ⟨rfl, rfl⟩, ⟨rfl, rfl⟩, trivial⟩ ?_)))
     refine q9 rfl (hJ _ (i + 1) (by omega) (by omega) ?_)
     repeat' (first | exact trivial | exact rfl | exact Or.inl rfl | exact cwi (by omega) (by omega) (by omega) | refine And.intro ?_ ?_)
     exact qz _ _ _ _ _ hg rfl
   · have h : ¬ i < rr.length := by simpa using h
     have : i = rr.length := by omega
     subst this
     refine xr rfl (z7 rfl ⟨⟨rfl, ⟨(qe _ _ _ _ (by omega) rfl).symm, zz _ _ _ rfl, Or.inl rfl⟩, trivial⟩, z1 rfl⟩)
theorem q32 (x0 : Int) (x1 : Int)  : PC Tryz.prog 196 [.agg [.s (.int .i64 x0), .s (.int .i64 x1)]] (.one (.own true [.s (.int .i64 x0), .s (.int .i64 x1)])) := by
 refine PC.begin Tryz.func196 rfl (by kernel_rfl) ?_
 exact xr rfl (z7 rfl ⟨⟨rfl, rfl, rfl, trivial⟩, z1 rfl⟩)
theorem y3m (rr : List (List Cell)) (hw : WR 1048576 zo rr) : PC Tryz.prog 335 [.one (.l rr)] (.one (.own false [.l 2 rr])) := by
 refine PC.begin Tryz.func335 rfl (by kernel_rfl) ?_
 have hlen := hw.1
 refine xs rfl rfl (xs rfl (Int.natCast_nonneg _) (xs rfl (by omega) (xs rfl (by omega) ?_)))
 refine qc rfl (ι := Nat) (fun i => i ≤ rr.length) (fun i => ⟨[(4, sV (.int .i64 i)), (3, .one (.h 7 rr.length)), (0, .one (.b (.l rr)))], [(7, .arr true 2 0 (rr.take i ++ List.replicate (rr.length - i) [.s (.int .i64 0), .s (.int .i64 0)]))]⟩) (fun i => rr.length - i) 0 (Nat.zero_le _) ?_ ?_
 · repeat' (first | exact trivial | exact rfl | exact Or.inl rfl | refine And.intro ?_ ?_)
 · intro i hi J hJ
   refine xb rfl (fun h => ?_) (fun h => ?_)
   · have h : i < rr.length := by simpa using h
     obtain ⟨row, hg⟩ : ∃ row, rr[i]? = some row := ⟨_, List.getElem?_eq_getElem h⟩
     obtain ⟨x0, x1, rfl⟩ := z1t (hw.2 row (List.mem_of_getElem? hg))
     refine xs rfl (Int.natCast_nonneg _) (ya rfl _ hg (xs rfl rfl ?_))
     refine z6 rfl (q32 _ _) rfl ⟨⟨trivial, trivial, trivial⟩, trivial⟩ ?_
     refine xs rfl (qe _ _ _ _ (by omega) rfl).symm (xs rfl (Int.natCast_nonneg _) (ya rfl [.s (.int .i64 0), .s (.int .i64 0)] (zl _ _ _ _ (by omega) rfl) (xs rfl rfl ?_)))
     refine xs rfl (qe _ _ _ _ (by omega) rfl).symm (ya rfl [.s (.int .i64 0), .s (.int .i64 0)] (zl _ _ _ _ (by omega) rfl) (xs rfl (by decide) (xs rfl ⟨trivial, trivial, trivial⟩ ?_)))
     refine q9 rfl (hJ _ (i + 1) (by omega) (by omega) ?_)
     repeat' (first | exact trivial | exact rfl | exact Or.inl rfl | exact cwi (by omega) (by omega) (by omega) | refine And.intro ?_ ?_)
     exact qz _ _ _ _ _ hg rfl
   · have h : ¬ i < rr.length := by simpa using h
     have : i = rr.length := by omega
     subst this
     refine xr rfl (z7 rfl ⟨⟨rfl, ⟨(qe _ _ _ _ (by omega) rfl).symm, zz _ _ _ rfl, Or.inl rfl⟩, trivial⟩, z1 rfl⟩)
theorem y7k (x0 : Int) (x1 : Int) (x2 : Int) (x3 : Int) (x4 : Int) (x5 : List (List Cell)) (h5 : WR 1048576 zo x5) : PC Tryz.prog 259 [.agg [.s (.int .i64 x0), .s (.int .i64 x1), .s (.int .i64 x2), .s (.int .i64 x3), .s (.int .i64 x4), .l x5]] (.one (.own true [.s (.int .i64 x0), .s (.int .i64 x1), .s (.int .i64 x2), .s (.int .i64 x3), .s (.int .i64 x4), .l 2 x5])) := by
 refine PC.begin Tryz.func259 rfl (by kernel_rfl) ?_
 refine z6 rfl (q32 _ _) rfl ⟨⟨trivial, trivial, trivial⟩, trivial⟩ ?_
 refine z6 rfl (y3m _ h5) rfl ⟨trivial, trivial⟩ ?_
 exact xr rfl (z7 rfl ⟨⟨rfl, rfl, rfl, rfl, rfl, rfl, ⟨rfl, rfl, .inl rfl⟩, trivial⟩, z1 rfl⟩)
theorem y6f (rr : List (List Cell)) (hw : WR 1048576 yn rr) : PC Tryz.prog 193 [.one (.l rr)] (.one (.own false [.l 6 rr])) := by
 refine PC.begin Tryz.func193 rfl (by kernel_rfl) ?_
 have hlen := hw.1
 refine xs rfl rfl (xs rfl (Int.natCast_nonneg _) (xs rfl (by omega) (xs rfl (by omega) ?_)))
 refine qc rfl (ι := Nat) (fun i => i ≤ rr.length) (fun i => ⟨[(4, sV (.int .i64 i)), (3, .one (.h 7 rr.length)), (0, .one (.b (.l rr)))], [(7, .arr true 6 0 (rr.take i ++ List.replicate (rr.length - i) [.s (.int .i64 0), .s (.int .i64 0), .s (.int .i64 0), .s (.int .i64 0), .s (.int .i64 0), .l []]))]⟩) (fun i => rr.length - i) 0 (Nat.zero_le _) ?_ ?_
 · repeat' (first | exact trivial | exact rfl | exact Or.inl rfl | refine And.intro ?_ ?_)
 · intro i hi J hJ
   refine xb rfl (fun h => ?_) (fun h => ?_)
   · have h : i < rr.length := by simpa using h
     obtain ⟨row, hg⟩ : ∃ row, rr[i]? = some row := ⟨_, List.getElem?_eq_getElem h⟩
     obtain ⟨x0, x1, x2, x3, x4, x5, rfl, h5⟩ := q1s (hw.2 row (List.mem_of_getElem? hg))
     refine xs rfl (Int.natCast_nonneg _) (ya rfl _ hg (xs rfl rfl ?_))
     refine z6 rfl (y7k _ _ _ _ _ _ h5) rfl ⟨⟨trivial, trivial, trivial, trivial, trivial, trivial, trivial⟩, trivial⟩ ?_
     refine xs rfl (qe _ _ _ _ (by omega) rfl).symm (xs rfl (Int.natCast_nonneg _) (ya rfl [.s (.int .i64 0), .s (.int .i64 0), .s (.int .i64 0), .s (.int .i64 0), .s (.int .i64 0), .l []] (zl _ _ _ _ (by omega) rfl) (xs rfl rfl ?_)))
     refine xs rfl (qe _ _ _ _ (by omega) rfl).symm (ya rfl [.s (.int .i64 0), .s (.int .i64 0), .s (.int .i64 0), .s (.int .i64 0), .s (.int .i64 0), .l []] (zl _ _ _ _ (by omega) rfl) (xs rfl (by decide) (xs rfl ⟨trivial, trivial, trivial, trivial, trivial, ⟨rfl, rfl⟩, trivial⟩ ?_)))
     refine q9 rfl (hJ _ (i + 1) (by omega) (by omega) ?_)
     repeat' (first | exact trivial | exact rfl | exact Or.inl rfl | exact cwi (by omega) (by omega) (by omega) | refine And.intro ?_ ?_)
     exact qz _ _ _ _ _ hg rfl
   · have h : ¬ i < rr.length := by simpa using h
     have : i = rr.length := by omega
     subst this
     refine xr rfl (z7 rfl ⟨⟨rfl, ⟨(qe _ _ _ _ (by omega) rfl).symm, zz _ _ _ rfl, Or.inl rfl⟩, trivial⟩, z1 rfl⟩)
theorem q49 (x0 : List (List Cell)) (h0 : WR 1048576 yn x0) : PC Tryz.prog 109 [.agg [.l x0]] (.one (.own true [.l 6 x0])) := by
 refine PC.begin Tryz.func109 rfl (by kernel_rfl) ?_
 refine z6 rfl (y6f _ h0) rfl ⟨trivial, trivial⟩ ?_
 exact xr rfl (z7 rfl ⟨⟨rfl, ⟨rfl, rfl, .inl rfl⟩, trivial⟩, z1 rfl⟩)
theorem y3c (rr : List (List Cell)) (hw : WR 1048576 qb rr) : PC Tryz.prog 47 [.one (.l rr)] (.one (.own false [.l 1 rr])) := by
 refine PC.begin Tryz.func47 rfl (by kernel_rfl) ?_
 have hlen := hw.1
 refine xs rfl rfl (xs rfl (Int.natCast_nonneg _) (xs rfl (by omega) (xs rfl (by omega) ?_)))
 refine qc rfl (ι := Nat) (fun i => i ≤ rr.length) (fun i => ⟨[(4, sV (.int .i64 i)), (3, .one (.h 7 rr.length)), (0, .one (.b (.l rr)))], [(7, .arr true 1 0 (rr.take i ++ List.replicate (rr.length - i) [.l []]))]⟩) (fun i => rr.length - i) 0 (Nat.zero_le _) ?_ ?_
 · repeat' (first | exact trivial | exact rfl | exact Or.inl rfl | refine And.intro ?_ ?_)
 · intro i hi J hJ
   refine xb rfl (fun h => ?_) (fun h => ?_)
   · have h : i < rr.length := by simpa using h
     obtain ⟨row, hg⟩ : ∃ row, rr[i]? = some row := ⟨_, List.getElem?_eq_getElem h⟩
     obtain ⟨x0, rfl, h0⟩ := z0d (hw.2 row (List.mem_of_getElem? hg))
     refine xs rfl (Int.natCast_nonneg _) (ya rfl _ hg (xs rfl rfl ?_))
     refine z6 rfl (q49 _ h0) rfl ⟨⟨trivial, trivial⟩, trivial⟩ ?_
     refine xs rfl (qe _ _ _ _ (by omega) rfl).symm (xs rfl (Int.natCast_nonneg _) (ya rfl [.l []] (zl _ _ _ _ (by omega) rfl) (xs rfl rfl ?_)))
     refine xs rfl (qe _ _ _ _ (by omega) rfl).symm (ya rfl [.l []] (zl _ _ _ _ (by omega) rfl) (xs rfl (by decide) (xs rfl ⟨⟨rfl, rfl⟩, trivial⟩ ?_)))
     refine q9 rfl (hJ _ (i + 1) (by omega) (by omega) ?_)
     repeat' (first | exact trivial | exact rfl | exact Or.inl rfl | exact cwi (by omega) (by omega) (by omega) | refine And.intro ?_ ?_)
     exact qz _ _ _ _ _ hg rfl
   · have h : ¬ i < rr.length := by simpa using h
     have : i = rr.length := by omega
     subst this
     refine xr rfl (z7 rfl ⟨⟨rfl, ⟨(qe _ _ _ _ (by omega) rfl).symm, zz _ _ _ rfl, Or.inl rfl⟩, trivial⟩, z1 rfl⟩)
theorem z8e (x0 : Int) (x1 : Int) (x2 : Int) (x3 : Int) (x4 : List (List Cell)) (x5 : List (List Cell)) (h4 : WR 1048576 (.i .i64 .nil) x4) (h5 : WR 1048576 zo x5) : PC Tryz.prog 260 [.agg [.s (.int .i64 x0), .s (.int .i64 x1), .s (.int .i64 x2), .s (.int .i64 x3), .l x4, .l x5]] (.one (.own true [.s (.int .i64 x0), .s (.int .i64 x1), .s (.int .i64 x2), .s (.int .i64 x3), .l 1 x4, .l 2 x5])) := by
 refine PC.begin Tryz.func260 rfl (by kernel_rfl) ?_
 refine z6 rfl (y32 _ h4) rfl ⟨trivial, trivial⟩ ?_
 refine z6 rfl (y3m _ h5) rfl ⟨trivial, trivial⟩ ?_
 exact xr rfl (z7 rfl ⟨⟨rfl, rfl, rfl, rfl, rfl, ⟨rfl, rfl, .inl rfl⟩, ⟨rfl, rfl, .inl rfl⟩, trivial⟩, z1 rfl⟩)
theorem q7k (rr : List (List Cell)) (hw : WR 1048576 zq rr) : PC Tryz.prog 194 [.one (.l rr)] (.one (.own false [.l 6 rr])) := by
 refine PC.begin Tryz.func194 rfl (by kernel_rfl) ?_
 have hlen := hw.1
 refine xs rfl rfl (xs rfl (Int.natCast_nonneg _) (xs rfl (by omega) (xs rfl (by omega) ?_)))
 refine qc rfl (ι := Nat) (fun i => i ≤ rr.length) (fun i => ⟨[(4, sV (.int .i64 i)), (3, .one (.h 7 rr.length)), (0, .one (.b (.l rr)))], [(7, .arr true 6 0 (rr.take i ++ List.replicate (rr.length - i) [.s (.int .i64 0), .s (.int .i64 0), .s (.int .i64 0), .s (.int .i64 0), .l [], .l []]))]⟩) (fun i => rr.length - i) 0 (Nat.zero_le _) ?_ ?_
 · repeat' (first | exact trivial | exact rfl | exact Or.inl rfl | refine And.intro ?_ ?_)
 · intro i hi J hJ
   refine xb rfl (fun h => ?_) (fun h => ?_)
   · have h : i < rr.length := by simpa using h
     obtain ⟨row, hg⟩ : ∃ row, rr[i]? = some row := ⟨_, List.getElem?_eq_getElem h⟩
     obtain ⟨x0, x1, x2, x3, x4, x5, rfl, h4, h5⟩ := q2u (hw.2 row (List.mem_of_getElem? hg))
     refine xs rfl (Int.natCast_nonneg _) (ya rfl _ hg (xs rfl rfl ?_))
     refine z6 rfl (z8e _ _ _ _ _ _ h4 h5) rfl ⟨⟨trivial, trivial, trivial, trivial, trivial, trivial, trivial⟩, trivial⟩ ?_
     refine xs rfl (qe _ _ _ _ (by omega) rfl).symm (xs rfl (Int.natCast_nonneg _) (ya rfl [.s (.int .i64 0), .s (.int .i64 0), .s (.int .i64 0), .s (.int .i64 0), .l [], .l []] (zl _ _ _ _ (by omega) rfl) (xs rfl rfl ?_)))
     refine xs rfl (qe _ _ _ _ (by omega) rfl).symm (ya rfl [.s (.int .i64 0), .s (.int .i64 0), .s (.int .i64 0), .s (.int .i64 0), .l [], .l []] (zl _ _ _ _ (by omega) rfl) (xs rfl (by decide) (xs rfl ⟨trivial, trivial, trivial, trivial, ⟨rfl, rfl⟩, ⟨rfl, rfl⟩, trivial⟩ ?_)))
     refine q9 rfl (hJ _ (i + 1) (by omega) (by omega) ?_)
     repeat' (first | exact trivial | exact rfl | exact Or.inl rfl | exact cwi (by omega) (by omega) (by omega) | refine And.intro ?_ ?_)
     exact qz _ _ _ _ _ hg rfl
   · have h : ¬ i < rr.length := by simpa using h
     have : i = rr.length := by omega
     subst this
     refine xr rfl (z7 rfl ⟨⟨rfl, ⟨(qe _ _ _ _ (by omega) rfl).symm, zz _ _ _ rfl, Or.inl rfl⟩, trivial⟩, z1 rfl⟩)
theorem q6e (x0 : Int) (x1 : Int) (x2 : Int) (x3 : Int) (x4 : Int)  : PC Tryz.prog 261 [.agg [.s (.int .i64 x0), .s (.int .i64 x1), .s (.int .i64 x2), .s (.int .i64 x3), .s (.int .i64 x4)]] (.one (.own true [.s (.int .i64 x0), .s (.int .i64 x1), .s (.int .i64 x2), .s (.int .i64 x3), .s (.int .i64 x4)])) := by
 refine PC.begin Tryz.func261 rfl (by kernel_rfl) ?_
 exact xr rfl (z7 rfl ⟨⟨rfl, rfl, rfl, rfl, rfl, rfl, trivial⟩, z1 rfl⟩)
theorem z5g (rr : List (List Cell)) (hw : WR 1048576 yr rr) : PC Tryz.prog 195 [.one (.l rr)] (.one (.own false [.l 5 rr])) := by
 refine PC.begin Tryz.func195 rfl (by kernel_rfl) ?_
 have hlen := hw.1
 refine xs rfl rfl (xs rfl (Int.natCast_nonneg _) (xs rfl (by omega) (xs rfl (by omega) ?_)))
 refine qc rfl (ι := Nat) (fun i => i ≤ rr.length) (fun i => ⟨[(4, sV (.int .i64 i)), (3, .one (.h 7 rr.length)), (0, .one (.b (.l rr)))], [(7, .arr true 5 0 (rr.take i ++ List.replicate (rr.length - i) [.s (.int .i64 0), .s (.int .i64 0), .s (.int .i64 0), .s (.int .i64 0), .s (.int .i64 0)]))]⟩) (fun i => rr.length - i) 0 (Nat.zero_le _) ?_ ?_
 · repeat' (first | exact trivial | exact rfl | exact Or.inl rfl | refine And.intro ?_ ?_)
 · intro i hi J hJ
   refine xb rfl (fun h => ?_) (fun h => ?_)
   · have h : i < rr.length := by simpa using h
     obtain ⟨row, hg⟩ : ∃ row, rr[i]? = some row := ⟨_, List.getElem?_eq_getElem h⟩
     obtain ⟨x0, x1, x2, x3, x4, rfl⟩ := q14 (hw.2 row (List.mem_of_getElem? hg))
     refine xs rfl (Int.natCast_nonneg _) (ya rfl _ hg (xs rfl rfl ?_))
     refine z6 rfl (q6e _ _ _ _ _) rfl ⟨⟨trivial, trivial, trivial, trivial, trivial, trivial⟩, trivial⟩ ?_
     refine xs rfl (qe _ _ _ _ (by omega) rfl).symm (xs rfl (Int.natCast_nonneg _) (ya rfl [.s (.int .i64 0), .s (.int .i64 0), .s (.int .i64 0), .s (.int .i64 0), .s (.int .i64 0)] (zl _ _ _ _ (by omega) rfl) (xs rfl rfl ?_)))
     refine xs rfl (qe _ _ _ _ (by omega) rfl).symm (ya rfl [.s (.int .i64 0), .s (.int .i64 0), .s (.int .i64 0), .s (.int .i64 0), .s (.int .i64 0)] (zl _ _ _ _ (by omega) rfl) (xs rfl (by decide) (xs rfl ⟨trivial, trivial, trivial, trivial, trivial, trivial⟩ ?_)))
     refine q9 rfl (hJ _ (i + 1) (by omega) (by omega) ?_)
     repeat' (first | exact trivial | exact rfl | exact Or.inl rfl | exact cwi (by omega) (by omega) (by omega) | refine And.intro ?_ ?_)
     exact qz _ _ _ _ _ hg rfl
   · have h : ¬ i < rr.length := by simpa using h
     have : i = rr.length := by omega
     subst this
     refine xr rfl (z7 rfl ⟨⟨rfl, ⟨(qe _ _ _ _ (by omega) rfl).symm, zz _ _ _ rfl, Or.inl rfl⟩, trivial⟩, z1 rfl⟩)
theorem y5g (x0 : Int) (x1 : List (List Cell)) (x2 : List (List Cell)) (h1 : WR 1048576 zq x1) (h2 : WR 1048576 yr x2) : PC Tryz.prog 110 [.agg [.s (.int .i64 x0), .l x1, .l x2]] (.one (.own true [.s (.int .i64 x0), .l 6 x1, .l 5 x2])) := by
 refine PC.begin Tryz.func110 rfl (by kernel_rfl) ?_
 refine z6 rfl (q7k _ h1) rfl ⟨trivial, trivial⟩ ?_
 refine z6 rfl (z5g _ h2) rfl ⟨trivial, trivial⟩ ?_
 exact xr rfl (z7 rfl ⟨⟨rfl, rfl, ⟨rfl, rfl, .inl rfl⟩, ⟨rfl, rfl, .inl rfl⟩, trivial⟩, z1 rfl⟩)
theorem y4w (rr : List (List Cell)) (hw : WR 1048576 zg rr) : PC Tryz.prog 48 [.one (.l rr)] (.one (.own false [.l 3 rr])) := by
 refine PC.begin Tryz.func48 rfl (by kernel_rfl) ?_
 have hlen := hw.1
 refine xs rfl rfl (xs rfl (Int.natCast_nonneg _) (xs rfl (by omega) (xs rfl (by omega) ?_)))
 refine qc rfl (ι := Nat) (fun i => i ≤ rr.length) (fun i => ⟨[(4, sV (.int .i64 i)), (3, .one (.h 7 rr.length)), (0, .one (.b (.l rr)))], [(7, .arr true 3 0 (rr.take i ++ List.replicate (rr.length - i) [.s (.int .i64 0), .l [], .l []]))]⟩) (fun i => rr.length - i) 0 (Nat.zero_le _) ?_ ?_
 · repeat' (first | exact trivial | exact rfl | exact Or.inl rfl | refine And.intro ?_ ?_)
 · intro i hi J hJ
   refine xb rfl (fun h => ?_) (fun h => ?_)
   · have h : i < rr.length := by simpa using h
     obtain ⟨row, hg⟩ : ∃ row, rr[i]? = some row := ⟨_, List.getElem?_eq_getElem h⟩
     obtain ⟨x0, x1, x2, rfl, h1, h2⟩ := z0u (hw.2 row (List.mem_of_getElem? hg))
     refine xs rfl (Int.natCast_nonneg _) (ya rfl _ hg (xs rfl rfl ?_))
     refine z6 rfl (y5g _ _ _ h1 h2) rfl ⟨⟨trivial, trivial, trivial, trivial⟩, trivial⟩ ?_
     refine xs rfl (qe _ _ _ _ (by omega) rfl).symm (xs rfl (Int.natCast_nonneg _) (ya rfl [.s (.int .i64 0), .l [], .l []] (zl _ _ _ _ (by omega) rfl) (xs rfl rfl ?_)))
     refine xs rfl (qe _ _ _ _ (by omega) rfl).symm (ya rfl [.s (.int .i64 0), .l [], .l []] (zl _ _ _ _ (by omega) rfl) (xs rfl (by decide) (xs rfl ⟨trivial, ⟨rfl, rfl⟩, ⟨rfl, rfl⟩, trivial⟩ ?_)))
     refine q9 rfl (hJ _ (i + 1) (by omega) (by omega) ?_)
     repeat' (first | exact trivial | exact rfl | exact Or.inl rfl | exact cwi (by omega) (by omega) (by omega) | refine And.intro ?_ ?_)
     exact qz _ _ _ _ _ hg rfl
   · have h : ¬ i < rr.length := by simpa using h
     have : i = rr.length := by omega
     subst this
     refine xr rfl (z7 rfl ⟨⟨rfl, ⟨(qe _ _ _ _ (by omega) rfl).symm, zz _ _ _ rfl, Or.inl rfl⟩, trivial⟩, z1 rfl⟩)
theorem q4w (x0 : Int) (x1 : Int) (x2 : Int) (x3 : Int) (x4 : Int) (x5 : Int) (x6 : Int) (x7 : Int) (x8 : Int)  : PC Tryz.prog 111 [.agg [.s (.int .i64 x0), .s (.int .i64 x1), .s (.int .i64 x2), .s (.int .i64 x3), .s (.int .i64 x4), .s (.int .i64 x5), .s (.int .i64 x6), .s (.int .i64 x7), .s (.int .i64 x8)]] (.one (.own true [.s (.int .i64 x0), .s (.int .i64 x1), .s (.int .i64 x2), .s (.int .i64 x3), .s (.int .i64 x4), .s (.int .i64 x5), .s (.int .i64 x6), .s (.int .i64 x7), .s (.int .i64 x8)])) := by
 refine PC.begin Tryz.func111 rfl (by kernel_rfl) ?_
 refine z6 rfl (q32 _ _) rfl ⟨⟨trivial, trivial, trivial⟩, trivial⟩ ?_
 exact xr rfl (z7 rfl ⟨⟨rfl, rfl, rfl, rfl, rfl, rfl, rfl, rfl, rfl, rfl, trivial⟩, z1 rfl⟩)
theorem y4a (rr : List (List Cell)) (hw : WR 1048576 qm rr) : PC Tryz.prog 49 [.one (.l rr)] (.one (.own false [.l 9 rr])) := by
 refine PC.begin Tryz.func49 rfl (by kernel_rfl) ?_
 have hlen := hw.1
 refine xs rfl rfl (xs rfl (Int.natCast_nonneg _) (xs rfl (by omega) (xs rfl (by omega) ?_)))
 refine qc rfl (ι := Nat) (fun i => i ≤ rr.length) (fun i => ⟨[(4, sV (.int .i64 i)), (3, .one (.h 7 rr.length)), (0, .one (.b (.l rr)))], [(7, .arr true 9 0 (rr.take i ++ List.replicate (rr.length - i) [.s (.int .i64 0), .s (.int .i64 0), .s (.int .i64 0), .s (.int .i64 0), .s (.int .i64 0), .s (.int .i64 0), .s (.int .i64 0), .s (.int .i64 0), .s (.int .i64 0)]))]⟩) (fun i => rr.length - i) 0 (Nat.zero_le _) ?_ ?_
 · repeat' (first | exact trivial | exact rfl | exact Or.inl rfl | refine And.intro ?_ ?_)
 · intro i hi J hJ
   refine xb rfl (fun h => ?_) (fun h => ?_)
   · have h : i < rr.length := by simpa using h
     obtain ⟨row, hg⟩ : ∃ row, rr[i]? = some row := ⟨_, List.getElem?_eq_getElem h⟩
     obtain ⟨x0, x1, x2, x3, x4, x5, x6, x7, x8, rfl⟩ := y0j (hw.2 row (List.mem_of_getElem? hg))
     refine xs rfl (Int.natCast_nonneg _) (ya rfl _ hg (xs rfl rfl ?_))
     refine z6 rfl (q4w _ _ _ _ _ _ _ _ _) rfl ⟨⟨trivial, trivial, trivial, trivial, trivial, trivial, trivial, trivial, trivial, trivial⟩, trivial⟩ ?_
     refine xs rfl (qe _ _ _ _ (by omega) rfl).symm (xs rfl (Int.natCast_nonneg _) (ya rfl [.s (.int .i64 0), .s (.int .i64 0), .s (.int .i64 0), .s (.int .i64 0), .s (.int .i64 0), .s (.int .i64 0), .s (.int .i64 0), .s (.int .i64 0), .s (.int .i64 0)] (zl _ _ _ _ (by omega) rfl) (xs rfl rfl ?_)))
     refine xs rfl (qe _ _ _ _ (by omega) rfl).symm (ya rfl [.s (.int .i64 0), .s (.int .i64 0), .s (.int .i64 0), .s (.int .i64 0), .s (.int .i64 0), .s (.int .i64 0), .s (.int .i64 0), .s (.int .i64 0), .s (.int .i64 0)] (zl _ _ _ _ (by omega) rfl) (xs rfl (by decide) (xs rfl ⟨trivial, trivial, trivial, trivial, trivial, trivial, trivial, trivial, trivial, trivial⟩ ?_)))
     refine q9 rfl (hJ _ (i + 1) (by omega) (by omega) ?_)
     repeat' (first | exact trivial | exact rfl | exact Or.inl rfl | exact cwi (by omega) (by omega) (by omega) | refine And.intro ?_ ?_)
     exact qz _ _ _ _ _ hg rfl
   · have h : ¬ i < rr.length := by simpa using h
     have : i = rr.length := by omega
     subst this
     refine xr rfl (z7 rfl ⟨⟨rfl, ⟨(qe _ _ _ _ (by omega) rfl).symm, zz _ _ _ rfl, Or.inl rfl⟩, trivial⟩, z1 rfl⟩)
theorem z4w (x0 : List (List Cell)) (x1 : List (List Cell)) (x2 : List (List Cell)) (x3 : List (List Cell)) (x4 : List (List Cell)) (h0 : WR 1048576 z8 x0) (h1 : WR 1048576 yg x1) (h2 : WR 1048576 qb x2) (h3 : WR 1048576 zg x3) (h4 : WR 1048576 qm x4) : PC Tryz.prog 13 [.agg [.l x0, .l x1, .l x2, .l x3, .l x4]] (.one (.own true [.l 2 x0, .l 6 x1, .l 1 x2, .l 3 x3, .l 9 x4])) := by
 refine PC.begin Tryz.func13 rfl (by kernel_rfl) ?_
 refine z6 rfl (y1i _ h0) rfl ⟨trivial, trivial⟩ ?_
 refine z6 rfl (z5h _ h1) rfl ⟨trivial, trivial⟩ ?_
 refine z6 rfl (y3c _ h2) rfl ⟨trivial, trivial⟩ ?_
 refine z6 rfl (y4w _ h3) rfl ⟨trivial, trivial⟩ ?_
 refine z6 rfl (y4a _ h4) rfl ⟨trivial, trivial⟩ ?_
 exact xr rfl (z7 rfl ⟨⟨rfl, ⟨rfl, rfl, .inl rfl⟩, ⟨rfl, rfl, .inl rfl⟩, ⟨rfl, rfl, .inl rfl⟩, ⟨rfl, rfl, .inl rfl⟩, ⟨rfl, rfl, .inl rfl⟩, trivial⟩, z1 rfl⟩)
end Go.Proofs.YtbnbjaedijbnpaaGreat
end
section
namespace Go.Proofs.YtbnbjaedijbnpaaGreat
open Go Go.Sx
set_option maxRecDepth 20000
theorem q7x (x0 : Int) (x1 : Int) (x2 : Int) (x3 : Int) (y0 : Int) (y1 : Int) (y2 : Int) (y3 : Int)   : PC Tryz.prog 293 [.agg [.s (.int .i64 x0), .s (.int .i64 x1), .s (.int .i64 x2), .s (.int .i64 x3)], .agg [.s (.int .i64 y0), .s (.int .i64 y1), .s (.int .i64 y2), .s (.int .i64 y3)]] (rB (dE (α := List Cell) [.s (.int .i64 x0), .s (.int .i64 x1), .s (.int .i64 x2), .s (.int .i64 x3)] [.s (.int .i64 y0), .s (.int .i64 y1), .s (.int .i64 y2), .s (.int .i64 y3)])) := by
 refine PC.begin Tryz.func293 rfl (by kernel_rfl) ?_
 refine xb rfl (fun h => ?_) (fun e0 => ?_)
 · exact xr rfl (z7 rfl ⟨⟨rfl, yi (fun e => by simp only [List.cons.injEq, Cell.s.injEq, Value.int.injEq, Value.bool.injEq, Value.string.injEq] at e; simp [e] at h), trivial⟩, z1 rfl⟩)
 have e0 : x0 = y0 := by simpa using e0
 refine xb rfl (fun h => ?_) (fun e1 => ?_)
 · exact xr rfl (z7 rfl ⟨⟨rfl, yi (fun e => by simp only [List.cons.injEq, Cell.s.injEq, Value.int.injEq, Value.bool.injEq, Value.string.injEq] at e; simp [e] at h), trivial⟩, z1 rfl⟩)
 have e1 : x1 = y1 := by simpa using e1
 refine xb rfl (fun h => ?_) (fun e2 => ?_)
 · exact xr rfl (z7 rfl ⟨⟨rfl, yi (fun e => by simp only [List.cons.injEq, Cell.s.injEq, Value.int.injEq, Value.bool.injEq, Value.string.injEq] at e; simp [e] at h), trivial⟩, z1 rfl⟩)
 have e2 : x2 = y2 := by simpa using e2
 refine xb rfl (fun h => ?_) (fun e3 => ?_)
 · exact xr rfl (z7 rfl ⟨⟨rfl, yi (fun e => by simp only [List.cons.injEq, Cell.s.injEq, Value.int.injEq, Value.bool.injEq, Value.string.injEq] at e; simp [e] at h), trivial⟩, z1 rfl⟩)
 have e3 : x3 = y3 := by simpa using e3
 exact xr rfl (z7 rfl ⟨⟨rfl, qs (by simp [e0, e1, e2, e3]), trivial⟩, z1 rfl⟩)
theorem z6t (p q : List (List Cell)) (hp : WR 9000000000000000000 q08 p) (hq : WR 9000000000000000000 q08 q) : PC Tryz.prog 216 [.one (.l p), .one (.l q)] (rB (dE p q)) := by
 refine PC.begin Tryz.func216 rfl (by kernel_rfl) ?_
 have hpl := hp.1
 have hql := hq.1
 refine xb rfl (fun h => ?_) (fun h => ?_)
 · exact xr rfl (z7 rfl ⟨⟨rfl, yi (fun e => by subst e; simp at h), trivial⟩, z1 rfl⟩)
 have hl : p.length = q.length := by simpa [Int.ofNat_inj] using h
 refine qc rfl (ι := Nat) (fun i => i ≤ p.length ∧ p.take i = q.take i) (fun i => ⟨[(5, sV (.int .i64 i)), (0, .one (.b (.l p))), (1, .one (.b (.l q)))], []⟩) (fun i => p.length - i) 0 ⟨Nat.zero_le _, rfl⟩ ?_ ?_
 · repeat' (first | exact trivial | exact rfl | exact Or.inl rfl | refine And.intro ?_ ?_)
 · intro i ⟨hi, he⟩ J hJ
   refine xb rfl (fun h => ?_) (fun h => ?_)
   · have h : i < p.length := by simpa using h
     obtain ⟨row, hg⟩ : ∃ row, p[i]? = some row := ⟨_, List.getElem?_eq_getElem h⟩
     obtain ⟨row', hg'⟩ : ∃ row, q[i]? = some row := ⟨_, List.getElem?_eq_getElem (by omega)⟩
     obtain ⟨x0, x1, x2, x3, rfl⟩ := y2u (hp.2 row (List.mem_of_getElem? hg))
     obtain ⟨y0, y1, y2, y3, rfl⟩ := y2u (hq.2 row' (List.mem_of_getElem? hg'))
     refine zb rfl [] (.take 0 [] (.take 1 [] (.take 2 [] (.take 3 [8, 9] (.take 4 [] (.take 5 [] (.take 6 [] (.take 7 [8, 9] (.alt 8 (.take 9 [] .done) .nil))))))))) (by kernel_rfl) ?_
     refine xs rfl (Int.natCast_nonneg _) (ya rfl _ hg (xs rfl rfl ?_))
     refine xs rfl (Int.natCast_nonneg _) (ya rfl _ hg' (xs rfl rfl ?_))
     refine z6 rfl (q7x _ _ _ _ _ _ _ _) rfl ⟨⟨trivial, trivial, trivial, trivial, trivial⟩, ⟨trivial, trivial, trivial, trivial, trivial⟩, trivial⟩ ?_
     refine xb rfl (fun hb => ?_) (fun hb => ?_)
     · exact xr rfl (z7 rfl ⟨⟨rfl, yi (fun e => by subst e; rw [hg] at hg'; cases hg'; exact z02 hb rfl), trivial⟩, z1 rfl⟩)
     · have hb := q01 hb
       refine q9 rfl (hJ _ (i + 1) ⟨by omega, ym he hg (hg'.trans (by rw [hb]))⟩ (by omega) ?_)
       repeat' (first | exact trivial | exact rfl | exact Or.inl rfl | exact cwi (by omega) (by omega) (by omega) | refine And.intro ?_ ?_)
   · have h : ¬ i < p.length := by simpa using h
     exact xr rfl (z7 rfl ⟨⟨rfl, qs (by rw [show i = p.length by omega, List.take_length] at he; rw [he, hl, List.take_length]), trivial⟩, z1 rfl⟩)
theorem z3u (x0 : Int) (x1 : List (List Cell)) (y0 : Int) (y1 : List (List Cell)) (h1 : WR 9000000000000000000 q08 x1) (k1 : WR 9000000000000000000 q08 y1) : PC Tryz.prog 129 [.agg [.s (.int .i64 x0), .l x1], .agg [.s (.int .i64 y0), .l y1]] (rB (dE (α := List Cell) [.s (.int .i64 x0), .l x1] [.s (.int .i64 y0), .l y1])) := by
 refine PC.begin Tryz.func129 rfl (by kernel_rfl) ?_
 refine xb rfl (fun h => ?_) (fun e0 => ?_)
 · exact xr rfl (z7 rfl ⟨⟨rfl, yi (fun e => by simp only [List.cons.injEq, Cell.s.injEq, Value.int.injEq, Value.bool.injEq, Value.string.injEq] at e; simp [e] at h), trivial⟩, z1 rfl⟩)
 have e0 : x0 = y0 := by simpa using e0
 refine z6 rfl (z6t _ _ h1 k1) rfl ⟨trivial, trivial, trivial⟩ ?_
 refine xb rfl (fun h => ?_) (fun e1 => ?_)
 · exact xr rfl (z7 rfl ⟨⟨rfl, yi (fun e => z02 h (by simp only [List.cons.injEq, Cell.l.injEq] at e ⊢; simp only [e]; try trivial)), trivial⟩, z1 rfl⟩)
 have e1 := q01 e1
 exact xr rfl (z7 rfl ⟨⟨rfl, qs (by simp [e0, e1]), trivial⟩, z1 rfl⟩)
theorem q1g (p q : List (List Cell)) (hp : WR 9000000000000000000 z8 p) (hq : WR 9000000000000000000 z8 q) : PC Tryz.prog 54 [.one (.l p), .one (.l q)] (rB (dE p q)) := by
 refine PC.begin Tryz.func54 rfl (by kernel_rfl) ?_
 have hpl := hp.1
 have hql := hq.1
 refine xb rfl (fun h => ?_) (fun h => ?_)
 · exact xr rfl (z7 rfl ⟨⟨rfl, yi (fun e => by subst e; simp at h), trivial⟩, z1 rfl⟩)
 have hl : p.length = q.length := by simpa [Int.ofNat_inj] using h
 refine qc rfl (ι := Nat) (fun i => i ≤ p.length ∧ p.take i = q.take i) (fun i => ⟨[(5, sV (.int .i64 i)), (0, .one (.b (.l p))), (1, .one (.b (.l q)))], []⟩) (fun i => p.length - i) 0 ⟨Nat.zero_le _, rfl⟩ ?_ ?_
 · repeat' (first | exact trivial | exact rfl | exact Or.inl rfl | refine And.intro ?_ ?_)
 · intro i ⟨hi, he⟩ J hJ
   refine xb rfl (fun h => ?_) (fun h => ?_)
   · have h : i < p.length := by simpa using h
     obtain ⟨row, hg⟩ : ∃ row, p[i]? = some row := ⟨_, List.getElem?_eq_getElem h⟩
     obtain ⟨row', hg'⟩ : ∃ row, q[i]? = some row := ⟨_, List.getElem?_eq_getElem (by omega)⟩
     obtain ⟨x0, x1, rfl, h1⟩ := y0d (hp.2 row (List.mem_of_getElem? hg))
     obtain ⟨y0, y1, rfl, k1⟩ := y0d (hq.2 row' (List.mem_of_getElem? hg'))
     refine zb rfl [] (.take 0 [] (.take 1 [] (.take 2 [] (.take 3 [8, 9] (.take 4 [] (.take 5 [] (.take 6 [] (.take 7 [8, 9] (.alt 8 (.take 9 [] .done) .nil))))))))) (by kernel_rfl) ?_
     refine xs rfl (Int.natCast_nonneg _) (ya rfl _ hg (xs rfl rfl ?_))
     refine xs rfl (Int.natCast_nonneg _) (ya rfl _ hg' (xs rfl rfl ?_))
     refine z6 rfl (z3u _ _ _ _ h1 k1) rfl ⟨⟨trivial, trivial, trivial⟩, ⟨trivial, trivial, trivial⟩, trivial⟩ ?_
     refine xb rfl (fun hb => ?_) (fun hb => ?_)
     · exact xr rfl (z7 rfl ⟨⟨rfl, yi (fun e => by subst e; rw [hg] at hg'; cases hg'; exact z02 hb rfl), trivial⟩, z1 rfl⟩)
     · have hb := q01 hb
       refine q9 rfl (hJ _ (i + 1) ⟨by omega, ym he hg (hg'.trans (by rw [hb]))⟩ (by omega) ?_)
       repeat' (first | exact trivial | exact rfl | exact Or.inl rfl | exact cwi (by omega) (by omega) (by omega) | refine And.intro ?_ ?_)
   · have h : ¬ i < p.length := by simpa using h
     exact xr rfl (z7 rfl ⟨⟨rfl, qs (by rw [show i = p.length by omega, List.take_length] at he; rw [he, hl, List.take_length]), trivial⟩, z1 rfl⟩)
theorem z4h (x0 : Int) (x1 : Int) (x2 : Int) (y0 : Int) (y1 : Int) (y2 : Int)   : PC Tryz.prog 215 [.agg [.s (.int .i64 x0), .s (.int .i64 x1), .s (.int .i64 x2)], .agg [.s (.int .i64 y0), .s (.int .i64 y1), .s (.int .i64 y2)]] (rB (dE (α := List Cell) [.s (.int .i64 x0), .s (.int .i64 x1), .s (.int .i64 x2)] [.s (.int .i64 y0), .s (.int .i64 y1), .s (.int .i64 y2)])) := by
 refine PC.begin Tryz.func215 rfl (by kernel_rfl) ?_
 refine xb rfl (fun h => ?_) (fun e0 => ?_)
 · exact xr rfl (z7 rfl ⟨⟨rfl, yi (fun e => by simp only [List.cons.injEq, Cell.s.injEq, Value.int.injEq, Value.bool.injEq, Value.string.injEq] at e; simp [e] at h), trivial⟩, z1 rfl⟩)
 have e0 : x0 = y0 := by simpa using e0
 refine xb rfl (fun h => ?_) (fun e1 => ?_)
 · exact xr rfl (z7 rfl ⟨⟨rfl, yi (fun e => by simp only [List.cons.injEq, Cell.s.injEq, Value.int.injEq, Value.bool.injEq, Value.string.injEq] at e; simp [e] at h), trivial⟩, z1 rfl⟩)
 have e1 : x1 = y1 := by simpa using e1
 refine xb rfl (fun h => ?_) (fun e2 => ?_)
 · exact xr rfl (z7 rfl ⟨⟨rfl, yi (fun e => by simp only [List.cons.injEq, Cell.s.injEq, Value.int.injEq, Value.bool.injEq, Value.string.injEq] at e; simp [e] at h), trivial⟩, z1 rfl⟩)
 have e2 : x2 = y2 := by simpa using e2
 exact xr rfl (z7 rfl ⟨⟨rfl, qs (by simp [e0, e1, e2]), trivial⟩, z1 rfl⟩)
theorem q1p (p q : List (List Cell)) (hp : WR 9000000000000000000 q8 p) (hq : WR 9000000000000000000 q8 q) : PC Tryz.prog 128 [.one (.l p), .one (.l q)] (rB (dE p q)) := by
 refine PC.begin Tryz.func128 rfl (by kernel_rfl) ?_
 have hpl := hp.1
 have hql := hq.1
 refine xb rfl (fun h => ?_) (fun h => ?_)
 · exact xr rfl (z7 rfl ⟨⟨rfl, yi (fun e => by subst e; simp at h), trivial⟩, z1 rfl⟩)
 have hl : p.length = q.length := by simpa [Int.ofNat_inj] using h
 refine qc rfl (ι := Nat) (fun i => i ≤ p.length ∧ p.take i = q.take i) (fun i => ⟨[(5, sV (.int .i64 i)), (0, .one (.b (.l p))), (1, .one (.b (.l q)))], []⟩) (fun i => p.length - i) 0 ⟨Nat.zero_le _, rfl⟩ ?_ ?_
 · repeat' (first | exact trivial | exact rfl | exact Or.inl rfl | refine And.intro ?_ ?_)
 · intro i ⟨hi, he⟩ J hJ
   refine xb rfl (fun h => ?_) (fun h => ?_)
   · have h : i < p.length := by simpa using h
     obtain ⟨row, hg⟩ : ∃ row, p[i]? = some row := ⟨_, List.getElem?_eq_getElem h⟩
     obtain ⟨row', hg'⟩ : ∃ row, q[i]? = some row := ⟨_, List.getElem?_eq_getElem (by omega)⟩
     obtain ⟨x0, x1, x2, rfl⟩ := z0j (hp.2 row (List.mem_of_getElem? hg))
     obtain ⟨y0, y1, y2, rfl⟩ := z0j (hq.2 row' (List.mem_of_getElem? hg'))
     refine zb rfl [] (.take 0 [] (.take 1 [] (.take 2 [] (.take 3 [8, 9] (.take 4 [] (.take 5 [] (.take 6 [] (.take 7 [8, 9] (.alt 8 (.take 9 [] .done) .nil))))))))) (by kernel_rfl) ?_
     refine xs rfl (Int.natCast_nonneg _) (ya rfl _ hg (xs rfl rfl ?_))
     refine xs rfl (Int.natCast_nonneg _) (ya rfl _ hg' (xs rfl rfl ?_))
     refine z6 rfl (z4h _ _ _ _ _ _) rfl ⟨⟨trivial, trivial, trivial, trivial⟩, ⟨trivial, trivial, trivial, trivial⟩, trivial⟩ ?_
     refine xb rfl (fun hb => ?_) (fun hb => ?_)
     · exact xr rfl (z7 rfl ⟨⟨rfl, yi (fun e => by subst e; rw [hg] at hg'; cases hg'; exact z02 hb rfl), trivial⟩, z1 rfl⟩)
     · have hb := q01 hb
       refine q9 rfl (hJ _ (i + 1) ⟨by omega, ym he hg (hg'.trans (by rw [hb]))⟩ (by omega) ?_)
       repeat' (first | exact trivial | exact rfl | exact Or.inl rfl | exact cwi (by omega) (by omega) (by omega) | refine And.intro ?_ ?_)
   · have h : ¬ i < p.length := by simpa using h
     exact xr rfl (z7 rfl ⟨⟨rfl, qs (by rw [show i = p.length by omega, List.take_length] at he; rw [he, hl, List.take_length]), trivial⟩, z1 rfl⟩)
theorem y6t (x0 : Int) (x1 : Int) (y0 : Int) (y1 : Int)   : PC Tryz.prog 294 [.agg [.s (.int .i64 x0), .s (.int .i64 x1)], .agg [.s (.int .i64 y0), .s (.int .i64 y1)]] (rB (dE (α := List Cell) [.s (.int .i64 x0), .s (.int .i64 x1)] [.s (.int .i64 y0), .s (.int .i64 y1)])) := by
 refine PC.begin Tryz.func294 rfl (by kernel_rfl) ?_
 refine xb rfl (fun h => ?_) (fun e0 => ?_)
 · exact xr rfl (z7 rfl ⟨⟨rfl, yi (fun e => by simp only [List.cons.injEq, Cell.s.injEq, Value.int.injEq, Value.bool.injEq, Value.string.injEq] at e; simp [e] at h), trivial⟩, z1 rfl⟩)
 have e0 : x0 = y0 := by simpa using e0
 refine xb rfl (fun h => ?_) (fun e1 => ?_)
 · exact xr rfl (z7 rfl ⟨⟨rfl, yi (fun e => by simp only [List.cons.injEq, Cell.s.injEq, Value.int.injEq, Value.bool.injEq, Value.string.injEq] at e; simp [e] at h), trivial⟩, z1 rfl⟩)
 have e1 : x1 = y1 := by simpa using e1
 exact xr rfl (z7 rfl ⟨⟨rfl, qs (by simp [e0, e1]), trivial⟩, z1 rfl⟩)
theorem y3e (p q : List (List Cell)) (hp : WR 9000000000000000000 zk p) (hq : WR 9000000000000000000 zk q) : PC Tryz.prog 217 [.one (.l p), .one (.l q)] (rB (dE p q)) := by
 refine PC.begin Tryz.func217 rfl (by kernel_rfl) ?_
 have hpl := hp.1
 have hql := hq.1
 refine xb rfl (fun h => ?_) (fun h => ?_)
 · exact xr rfl (z7 rfl ⟨⟨rfl, yi (fun e => by subst e; simp at h), trivial⟩, z1 rfl⟩)
 have hl : p.length = q.length := by simpa [Int.ofNat_inj] using h
 refine qc rfl (ι := Nat) (fun i => i ≤ p.length ∧ p.take i = q.take i) (fun i => ⟨[(5, sV (.int .i64 i)), (0, .one (.b (.l p))), (1, .one (.b (.l q)))], []⟩) (fun i => p.length - i) 0 ⟨Nat.zero_le _, rfl⟩ ?_ ?_
 · repeat' (first | exact trivial | exact rfl | exact Or.inl rfl | refine And.intro ?_ ?_)
 · intro i ⟨hi, he⟩ J hJ
   refine xb rfl (fun h => ?_) (fun h => ?_)
   · have h : i < p.length := by simpa using h
     obtain ⟨row, hg⟩ : ∃ row, p[i]? = some row := ⟨_, List.getElem?_eq_getElem h⟩
     obtain ⟨row', hg'⟩ : ∃ row, q[i]? = some row := ⟨_, List.getElem?_eq_getElem (by omega)⟩
     obtain ⟨x0, x1, rfl⟩ := y1s (hp.2 row (List.mem_of_getElem? hg))
     obtain ⟨y0, y1, rfl⟩ := y1s (hq.2 row' (List.mem_of_getElem? hg'))
     refine zb rfl [] (.take 0 [] (.take 1 [] (.take 2 [] (.take 3 [8, 9] (.take 4 [] (.take 5 [] (.take 6 [] (.take 7 [8, 9] (.alt 8 (.take 9 [] .done) .nil))))))))) (by kernel_rfl) ?_
     refine xs rfl (Int.natCast_nonneg _) (ya rfl _ hg (xs rfl rfl ?_))
     refine xs rfl (Int.natCast_nonneg _) (ya rfl _ hg' (xs rfl rfl ?_))
     refine z6 rfl (y6t _ _ _ _) rfl ⟨⟨trivial, trivial, trivial⟩, ⟨trivial, trivial, trivial⟩, trivial⟩ ?_
     refine xb rfl (fun hb => ?_) (fun hb => ?_)
     · exact xr rfl (z7 rfl ⟨⟨rfl, yi (fun e => by subst e; rw [hg] at hg'; cases hg'; exact z02 hb rfl), trivial⟩, z1 rfl⟩)
     · have hb := q01 hb
       refine q9 rfl (hJ _ (i + 1) ⟨by omega, ym he hg (hg'.trans (by rw [hb]))⟩ (by omega) ?_)
       repeat' (first | exact trivial | exact rfl | exact Or.inl rfl | exact cwi (by omega) (by omega) (by omega) | refine And.intro ?_ ?_)
   · have h : ¬ i < p.length := by simpa using h
     exact xr rfl (z7 rfl ⟨⟨rfl, qs (by rw [show i = p.length by omega, List.take_length] at he; rw [he, hl, List.take_length]), trivial⟩, z1 rfl⟩)
theorem z2q (p q : List (List Cell)) (hp : WR 9000000000000000000 (.i .i64 .nil) p) (hq : WR 9000000000000000000 (.i .i64 .nil) q) : PC Tryz.prog 218 [.one (.l p), .one (.l q)] (rB (dE p q)) := by
 refine PC.begin Tryz.func218 rfl (by kernel_rfl) ?_
 have hpl := hp.1
 have hql := hq.1
 refine xb rfl (fun h => ?_) (fun h => ?_)
 · exact xr rfl (z7 rfl ⟨⟨rfl, yi (fun e => by subst e; simp at h), trivial⟩, z1 rfl⟩)
 have hl : p.length = q.length := by simpa [Int.ofNat_inj] using h
 refine qc rfl (ι := Nat) (fun i => i ≤ p.length ∧ p.take i = q.take i) (fun i => ⟨[(5, sV (.int .i64 i)), (0, .one (.b (.l p))), (1, .one (.b (.l q)))], []⟩) (fun i => p.length - i) 0 ⟨Nat.zero_le _, rfl⟩ ?_ ?_
 · repeat' (first | exact trivial | exact rfl | exact Or.inl rfl | refine And.intro ?_ ?_)
 · intro i ⟨hi, he⟩ J hJ
   refine xb rfl (fun h => ?_) (fun h => ?_)
   · have h : i < p.length := by simpa using h
     obtain ⟨row, hg⟩ : ∃ row, p[i]? = some row := ⟨_, List.getElem?_eq_getElem h⟩
     obtain ⟨row', hg'⟩ : ∃ row, q[i]? = some row := ⟨_, List.getElem?_eq_getElem (by omega)⟩
     obtain ⟨x0, _, rfl, hnil⟩ := ((hp.2 row (List.mem_of_getElem? hg))).qv; obtain rfl := hnil.qp
     obtain ⟨y0, _, rfl, knil⟩ := ((hq.2 row' (List.mem_of_getElem? hg'))).qv; obtain rfl := knil.qp
     refine zb rfl [] (.take 0 [] (.take 1 [] (.take 2 [] (.take 3 [8] (.take 4 [] (.take 5 [] (.take 6 [] (.take 7 [8] (.take 8 [] .done))))))))) (by kernel_rfl) ?_
     refine xs rfl (Int.natCast_nonneg _) (ya rfl _ hg (xs rfl rfl ?_))
     refine xs rfl (Int.natCast_nonneg _) (ya rfl _ hg' (xs rfl rfl ?_))
     refine xb rfl (fun hb => ?_) (fun hb => ?_)
     · exact xr rfl (z7 rfl ⟨⟨rfl, yi (fun e => by subst e; rw [hg] at hg'; cases hg'; simp at hb), trivial⟩, z1 rfl⟩)
     · have hb : x0 = y0 := by simpa using hb
       refine q9 rfl (hJ _ (i + 1) ⟨by omega, ym he hg (hg'.trans (by rw [hb]))⟩ (by omega) ?_)
       repeat' (first | exact trivial | exact rfl | exact Or.inl rfl | exact cwi (by omega) (by omega) (by omega) | refine And.intro ?_ ?_)
   · have h : ¬ i < p.length := by simpa using h
     exact xr rfl (z7 rfl ⟨⟨rfl, qs (by rw [show i = p.length by omega, List.take_length] at he; rw [he, hl, List.take_length]), trivial⟩, z1 rfl⟩)
theorem z62 (x0 : Int) (x1 : List (List Cell)) (x2 : List (List Cell)) (x3 : List (List Cell)) (x4 : List (List Cell)) (x5 : List (List Cell)) (y0 : Int) (y1 : List (List Cell)) (y2 : List (List Cell)) (y3 : List (List Cell)) (y4 : List (List Cell)) (y5 : List (List Cell)) (h1 : WR 9000000000000000000 q8 x1) (h2 : WR 9000000000000000000 zk x2) (h3 : WR 9000000000000000000 z8 x3) (h4 : WR 9000000000000000000 zk x4) (h5 : WR 9000000000000000000 (.i .i64 .nil) x5) (k1 : WR 9000000000000000000 q8 y1) (k2 : WR 9000000000000000000 zk y2) (k3 : WR 9000000000000000000 z8 y3) (k4 : WR 9000000000000000000 zk y4) (k5 : WR 9000000000000000000 (.i .i64 .nil) y5) : PC Tryz.prog 130 [.agg [.s (.int .i64 x0), .l x1, .l x2, .l x3, .l x4, .l x5], .agg [.s (.int .i64 y0), .l y1, .l y2, .l y3, .l y4, .l y5]] (rB (dE (α := List Cell) [.s (.int .i64 x0), .l x1, .l x2, .l x3, .l x4, .l x5] [.s (.int .i64 y0), .l y1, .l y2, .l y3, .l y4, .l y5])) := by
 refine PC.begin Tryz.func130 rfl (by kernel_rfl) ?_
 refine xb rfl (fun h => ?_) (fun e0 => ?_)
 · exact xr rfl (z7 rfl ⟨⟨rfl, yi (fun e => by simp only [List.cons.injEq, Cell.s.injEq, Value.int.injEq, Value.bool.injEq, Value.string.injEq] at e; simp [e] at h), trivial⟩, z1 rfl⟩)
 have e0 : x0 = y0 := by simpa using e0
 refine z6 rfl (q1p _ _ h1 k1) rfl ⟨trivial, trivial, trivial⟩ ?_
 refine xb rfl (fun h => ?_) (fun e1 => ?_)
 · exact xr rfl (z7 rfl ⟨⟨rfl, yi (fun e => z02 h (by simp only [List.cons.injEq, Cell.l.injEq] at e ⊢; simp only [e]; try trivial)), trivial⟩, z1 rfl⟩)
 have e1 := q01 e1
 refine z6 rfl (y3e _ _ h2 k2) rfl ⟨trivial, trivial, trivial⟩ ?_
 refine xb rfl (fun h => ?_) (fun e2 => ?_)
 · exact xr rfl (z7 rfl ⟨⟨rfl, yi (fun e => z02 h (by simp only [List.cons.injEq, Cell.l.injEq] at e ⊢; simp only [e]; try trivial)), trivial⟩, z1 rfl⟩)
 have e2 := q01 e2
 refine z6 rfl (q1g _ _ h3 k3) rfl ⟨trivial, trivial, trivial⟩ ?_
 refine xb rfl (fun h => ?_) (fun e3 => ?_)
 · exact xr rfl (z7 rfl ⟨⟨rfl, yi (fun e => z02 h (by simp only [List.cons.injEq, Cell.l.injEq] at e ⊢; simp only [e]; try trivial)), trivial⟩, z1 rfl⟩)
 have e3 := q01 e3
 refine z6 rfl (y3e _ _ h4 k4) rfl ⟨trivial, trivial, trivial⟩ ?_
 refine xb rfl (fun h => ?_) (fun e4 => ?_)
 · exact xr rfl (z7 rfl ⟨⟨rfl, yi (fun e => z02 h (by simp only [List.cons.injEq, Cell.l.injEq] at e ⊢; simp only [e]; try trivial)), trivial⟩, z1 rfl⟩)
 have e4 := q01 e4
 refine z6 rfl (z2q _ _ h5 k5) rfl ⟨trivial, trivial, trivial⟩ ?_
 refine xb rfl (fun h => ?_) (fun e5 => ?_)
 · exact xr rfl (z7 rfl ⟨⟨rfl, yi (fun e => z02 h (by simp only [List.cons.injEq, Cell.l.injEq] at e ⊢; simp only [e]; try trivial)), trivial⟩, z1 rfl⟩)
 have e5 := q01 e5
 exact xr rfl (z7 rfl ⟨⟨rfl, qs (by simp [e0, e1, e2, e3, e4, e5]), trivial⟩, z1 rfl⟩)
theorem q54 (p q : List (List Cell)) (hp : WR 9000000000000000000 yg p) (hq : WR 9000000000000000000 yg q) : PC Tryz.prog 55 [.one (.l p), .one (.l q)] (rB (dE p q)) := by
 refine PC.begin Tryz.func55 rfl (by kernel_rfl) ?_
 have hpl := hp.1
 have hql := hq.1
 refine xb rfl (fun h => ?_) (fun h => ?_)
 · exact xr rfl (z7 rfl ⟨⟨rfl, yi (fun e => by subst e; simp at h), trivial⟩, z1 rfl⟩)
 have hl : p.length = q.length := by simpa [Int.ofNat_inj] using h
 refine qc rfl (ι := Nat) (fun i => i ≤ p.length ∧ p.take i = q.take i) (fun i => ⟨[(5, sV (.int .i64 i)), (0, .one (.b (.l p))), (1, .one (.b (.l q)))], []⟩) (fun i => p.length - i) 0 ⟨Nat.zero_le _, rfl⟩ ?_ ?_
 · repeat' (first | exact trivial | exact rfl | exact Or.inl rfl | refine And.intro ?_ ?_)
 · intro i ⟨hi, he⟩ J hJ
   refine xb rfl (fun h => ?_) (fun h => ?_)
   · have h : i < p.length := by simpa using h
     obtain ⟨row, hg⟩ : ∃ row, p[i]? = some row := ⟨_, List.getElem?_eq_getElem h⟩
     obtain ⟨row', hg'⟩ : ∃ row, q[i]? = some row := ⟨_, List.getElem?_eq_getElem (by omega)⟩
     obtain ⟨x0, x1, x2, x3, x4, x5, rfl, h1, h2, h3, h4, h5⟩ := z15 (hp.2 row (List.mem_of_getElem? hg))
     obtain ⟨y0, y1, y2, y3, y4, y5, rfl, k1, k2, k3, k4, k5⟩ := z15 (hq.2 row' (List.mem_of_getElem? hg'))
     refine zb rfl [] (.take 0 [] (.take 1 [] (.take 2 [] (.take 3 [8, 9] (.take 4 [] (.take 5 [] (.take 6 [] (.take 7 [8, 9] (.alt 8 (.take 9 [] .done) .nil))))))))) (by kernel_rfl) ?_
     refine xs rfl (Int.natCast_nonneg _) (ya rfl _ hg (xs rfl rfl ?_))
     refine xs rfl (Int.natCast_nonneg _) (ya rfl _ hg' (xs rfl rfl ?_))
     refine z6 rfl (z62 _ _ _ _ _ _ _ _ _ _ _ _ h1 h2 h3 h4 h5 k1 k2 k3 k4 k5) rfl ⟨⟨trivial, trivial, trivial, trivial, trivial, trivial, trivial⟩, ⟨trivial, trivial, trivial, trivial, trivial, trivial, trivial⟩, trivial⟩ ?_
     refine xb rfl (fun hb => ?_) (fun hb => ?_)
     · exact xr rfl (z7 rfl ⟨⟨rfl, yi (fun e => by subst e; rw [hg] at hg'; cases hg'; exact z02 hb rfl), trivial⟩, z1 rfl⟩)
     · have hb := q01 hb
       refine q9 rfl (hJ _ (i + 1) ⟨by omega, ym he hg (hg'.trans (by rw [hb]))⟩ (by omega) ?_)
       repeat' (first | exact trivial | exact rfl | exact Or.inl rfl | exact cwi (by omega) (by omega) (by omega) | refine And.intro ?_ ?_)
   · have h : ¬ i < p.length := by simpa using h
     exact xr rfl (z7 rfl ⟨⟨rfl, qs (by rw [show i = p.length by omega, List.take_length] at he; rw [he, hl, List.take_length]), trivial⟩, z1 rfl⟩)
theorem y2q (x0 : Int) (x1 : Int) (y0 : Int) (y1 : Int)   : PC Tryz.prog 222 [.agg [.s (.int .i64 x0), .s (.int .i64 x1)], .agg [.s (.int .i64 y0), .s (.int .i64 y1)]] (rB (dE (α := List Cell) [.s (.int .i64 x0), .s (.int .i64 x1)] [.s (.int .i64 y0), .s (.int .i64 y1)])) := by
 refine PC.begin Tryz.func222 rfl (by kernel_rfl) ?_
 refine xb rfl (fun h => ?_) (fun e0 => ?_)
 · exact xr rfl (z7 rfl ⟨⟨rfl, yi (fun e => by simp only [List.cons.injEq, Cell.s.injEq, Value.int.injEq, Value.bool.injEq, Value.string.injEq] at e; simp [e] at h), trivial⟩, z1 rfl⟩)
 have e0 : x0 = y0 := by simpa using e0
 refine xb rfl (fun h => ?_) (fun e1 => ?_)
 · exact xr rfl (z7 rfl ⟨⟨rfl, yi (fun e => by simp only [List.cons.injEq, Cell.s.injEq, Value.int.injEq, Value.bool.injEq, Value.string.injEq] at e; simp [e] at h), trivial⟩, z1 rfl⟩)
 have e1 : x1 = y1 := by simpa using e1
 exact xr rfl (z7 rfl ⟨⟨rfl, qs (by simp [e0, e1]), trivial⟩, z1 rfl⟩)
theorem q3e (p q : List (List Cell)) (hp : WR 9000000000000000000 zo p) (hq : WR 9000000000000000000 zo q) : PC Tryz.prog 352 [.one (.l p), .one (.l q)] (rB (dE p q)) := by
 refine PC.begin Tryz.func352 rfl (by kernel_rfl) ?_
 have hpl := hp.1
 have hql := hq.1
 refine xb rfl (fun h => ?_) (fun h => ?_)
 · exact xr rfl (z7 rfl ⟨⟨rfl, yi (fun e => by subst e; simp at h), trivial⟩, z1 rfl⟩)
 have hl : p.length = q.length := by simpa [Int.ofNat_inj] using h
 refine qc rfl (ι := Nat) (fun i => i ≤ p.length ∧ p.take i = q.take i) (fun i => ⟨[(5, sV (.int .i64 i)), (0, .one (.b (.l p))), (1, .one (.b (.l q)))], []⟩) (fun i => p.length - i) 0 ⟨Nat.zero_le _, rfl⟩ ?_ ?_
 · repeat' (first | exact trivial | exact rfl | exact Or.inl rfl | refine And.intro ?_ ?_)
 · intro i ⟨hi, he⟩ J hJ
   refine xb rfl (fun h => ?_) (fun h => ?_)
   · have h : i < p.length := by simpa using h
     obtain ⟨row, hg⟩ : ∃ row, p[i]? = some row := ⟨_, List.getElem?_eq_getElem h⟩
     obtain ⟨row', hg'⟩ : ∃ row, q[i]? = some row := ⟨_, List.getElem?_eq_getElem (by omega)⟩
     obtain ⟨x0, x1, rfl⟩ := z1t (hp.2 row (List.mem_of_getElem? hg))
     obtain ⟨y0, y1, rfl⟩ := z1t (hq.2 row' (List.mem_of_getElem? hg'))
     refine zb rfl [] (.take 0 [] (.take 1 [] (.take 2 [] (.take 3 [8, 9] (.take 4 [] (.take 5 [] (.take 6 [] (.take 7 [8, 9] (.alt 8 (.take 9 [] .done) .nil))))))))) (by kernel_rfl) ?_
     refine xs rfl (Int.natCast_nonneg _) (ya rfl _ hg (xs rfl rfl ?_))
     refine xs rfl (Int.natCast_nonneg _) (ya rfl _ hg' (xs rfl rfl ?_))
     refine z6 rfl (y2q _ _ _ _) rfl ⟨⟨trivial, trivial, trivial⟩, ⟨trivial, trivial, trivial⟩, trivial⟩ ?_
     refine xb rfl (fun hb => ?_) (fun hb => ?_)
     · exact xr rfl (z7 rfl ⟨⟨rfl, yi (fun e => by subst e; rw [hg] at hg'; cases hg'; exact z02 hb rfl), trivial⟩, z1 rfl⟩)
     · have hb := q01 hb
       refine q9 rfl (hJ _ (i + 1) ⟨by omega, ym he hg (hg'.trans (by rw [hb]))⟩ (by omega) ?_)
       repeat' (first | exact trivial | exact rfl | exact Or.inl rfl | exact cwi (by omega) (by omega) (by omega) | refine And.intro ?_ ?_)
   · have h : ¬ i < p.length := by simpa using h
     exact xr rfl (z7 rfl ⟨⟨rfl, qs (by rw [show i = p.length by omega, List.take_length] at he; rw [he, hl, List.take_length]), trivial⟩, z1 rfl⟩)
theorem q6t (x0 : Int) (x1 : Int) (x2 : Int) (x3 : Int) (x4 : Int) (x5 : List (List Cell)) (y0 : Int) (y1 : Int) (y2 : Int) (y3 : Int) (y4 : Int) (y5 : List (List Cell)) (h5 : WR 9000000000000000000 zo x5) (k5 : WR 9000000000000000000 zo y5) : PC Tryz.prog 295 [.agg [.s (.int .i64 x0), .s (.int .i64 x1), .s (.int .i64 x2), .s (.int .i64 x3), .s (.int .i64 x4), .l x5], .agg [.s (.int .i64 y0), .s (.int .i64 y1), .s (.int .i64 y2), .s (.int .i64 y3), .s (.int .i64 y4), .l y5]] (rB (dE (α := List Cell) [.s (.int .i64 x0), .s (.int .i64 x1), .s (.int .i64 x2), .s (.int .i64 x3), .s (.int .i64 x4), .l x5] [.s (.int .i64 y0), .s (.int .i64 y1), .s (.int .i64 y2), .s (.int .i64 y3), .s (.int .i64 y4), .l y5])) := by
 refine PC.begin Tryz.func295 rfl (by kernel_rfl) ?_
 refine xb rfl (fun h => ?_) (fun e0 => ?_)
 · exact xr rfl (z7 rfl ⟨⟨rfl, yi (fun e => by simp only [List.cons.injEq, Cell.s.injEq, Value.int.injEq, Value.bool.injEq, Value.string.injEq] at e; simp [e] at h), trivial⟩, z1 rfl⟩)
 have e0 : x0 = y0 := by simpa using e0
 refine xb rfl (fun h => ?_) (fun e1 => ?_)
 · exact xr rfl (z7 rfl ⟨⟨rfl, yi (fun e => by simp only [List.cons.injEq, Cell.s.injEq, Value.int.injEq, Value.bool.injEq, Value.string.injEq] at e; simp [e] at h), trivial⟩, z1 rfl⟩)
 have e1 : x1 = y1 := by simpa using e1
 refine xb rfl (fun h => ?_) (fun e2 => ?_)
 · exact xr rfl (z7 rfl ⟨⟨rfl, yi (fun e => by simp only [List.cons.injEq, Cell.s.injEq, Value.int.injEq, Value.bool.injEq, Value.string.injEq] at e; simp [e] at h), trivial⟩, z1 rfl⟩)
 have e2 : x2 = y2 := by simpa using e2
 refine z6 rfl (y2q _ _ _ _) rfl ⟨⟨trivial, trivial, trivial⟩, ⟨trivial, trivial, trivial⟩, trivial⟩ ?_
 refine xb rfl (fun h => ?_) (fun e3 => ?_)
 · exact xr rfl (z7 rfl ⟨⟨rfl, yi (fun e => z02 h (by simp only [List.cons.injEq, Cell.l.injEq] at e ⊢; simp only [e]; try trivial)), trivial⟩, z1 rfl⟩)
 have e3 := q01 e3
 simp only [List.cons.injEq, Cell.s.injEq, Cell.l.injEq, Value.int.injEq, Value.bool.injEq, and_true, true_and] at e3
 refine z6 rfl (q3e _ _ h5 k5) rfl ⟨trivial, trivial, trivial⟩ ?_
 refine xb rfl (fun h => ?_) (fun e5 => ?_)
 · exact xr rfl (z7 rfl ⟨⟨rfl, yi (fun e => z02 h (by simp only [List.cons.injEq, Cell.l.injEq] at e ⊢; simp only [e]; try trivial)), trivial⟩, z1 rfl⟩)
 have e5 := q01 e5
 exact xr rfl (z7 rfl ⟨⟨rfl, qs (by simp [e0, e1, e2, e3, e5]), trivial⟩, z1 rfl⟩)
theorem y62 (p q : List (List Cell)) (hp : WR 9000000000000000000 yn p) (hq : WR 9000000000000000000 yn q) : PC Tryz.prog 219 [.one (.l p), .one (.l q)] (rB (dE p q)) := by
 refine PC.begin Tryz.func219 rfl (by kernel_rfl) ?_
 have hpl := hp.1
 have hql := hq.1
 refine xb rfl (fun h => ?_) (fun h => ?_)
 · exact xr rfl (z7 rfl ⟨⟨rfl, yi (fun e => by subst e; simp at h), trivial⟩, z1 rfl⟩)
 have hl : p.length = q.length := by simpa [Int.ofNat_inj] using h
 refine qc rfl (ι := Nat) (fun i => i ≤ p.length ∧ p.take i = q.take i) (fun i => ⟨[(5, sV (.int .i64 i)), (0, .one (.b (.l p))), (1, .one (.b (.l q)))], []⟩) (fun i => p.length - i) 0 ⟨Nat.zero_le _, rfl⟩ ?_ ?_
 · repeat' (first | exact trivial | exact rfl | exact Or.inl rfl | refine And.intro ?_ ?_)
 · intro i ⟨hi, he⟩ J hJ
   refine xb rfl (fun h => ?_) (fun h => ?_)
   · have h : i < p.length := by simpa using h
     obtain ⟨row, hg⟩ : ∃ row, p[i]? = some row := ⟨_, List.getElem?_eq_getElem h⟩
     obtain ⟨row', hg'⟩ : ∃ row, q[i]? = some row := ⟨_, List.getElem?_eq_getElem (by omega)⟩
     obtain ⟨x0, x1, x2, x3, x4, x5, rfl, h5⟩ := q1s (hp.2 row (List.mem_of_getElem? hg))
     obtain ⟨y0, y1, y2, y3, y4, y5, rfl, k5⟩ := q1s (hq.2 row' (List.mem_of_getElem? hg'))
     refine zb rfl [] (.take 0 [] (.take 1 [] (.take 2 [] (.take 3 [8, 9] (.take 4 [] (.take 5 [] (.take 6 [] (.take 7 [8, 9] (.alt 8 (.take 9 [] .done) .nil))))))))) (by kernel_rfl) ?_
     refine xs rfl (Int.natCast_nonneg _) (ya rfl _ hg (xs rfl rfl ?_))
     refine xs rfl (Int.natCast_nonneg _) (ya rfl _ hg' (xs rfl rfl ?_))
     refine z6 rfl (q6t _ _ _ _ _ _ _ _ _ _ _ _ h5 k5) rfl ⟨⟨trivial, trivial, trivial, trivial, trivial, trivial, trivial⟩, ⟨trivial, trivial, trivial, trivial, trivial, trivial, trivial⟩, trivial⟩ ?_
     refine xb rfl (fun hb => ?_) (fun hb => ?_)
     · exact xr rfl (z7 rfl ⟨⟨rfl, yi (fun e => by subst e; rw [hg] at hg'; cases hg'; exact z02 hb rfl), trivial⟩, z1 rfl⟩)
     · have hb := q01 hb
       refine q9 rfl (hJ _ (i + 1) ⟨by omega, ym he hg (hg'.trans (by rw [hb]))⟩ (by omega) ?_)
       repeat' (first | exact trivial | exact rfl | exact Or.inl rfl | exact cwi (by omega) (by omega) (by omega) | refine And.intro ?_ ?_)
   · have h : ¬ i < p.length := by simpa using h
     exact xr rfl (z7 rfl ⟨⟨rfl, qs (by rw [show i = p.length by omega, List.take_length] at he; rw [he, hl, List.take_length]), trivial⟩, z1 rfl⟩)
theorem q3t (x0 : List (List Cell)) (y0 : List (List Cell)) (h0 : WR 9000000000000000000 yn x0) (k0 : WR 9000000000000000000 yn y0) : PC Tryz.prog 131 [.agg [.l x0], .agg [.l y0]] (rB (dE (α := List Cell) [.l x0] [.l y0])) := by
 refine PC.begin Tryz.func131 rfl (by kernel_rfl) ?_
 refine z6 rfl (y62 _ _ h0 k0) rfl ⟨trivial, trivial, trivial⟩ ?_
 refine xb rfl (fun h => ?_) (fun e0 => ?_)
 · exact xr rfl (z7 rfl ⟨⟨rfl, yi (fun e => z02 h (by simp only [List.cons.injEq, Cell.l.injEq] at e ⊢; simp only [e]; try trivial)), trivial⟩, z1 rfl⟩)
 have e0 := q01 e0
 exact xr rfl (z7 rfl ⟨⟨rfl, qs (by simp [e0]), trivial⟩, z1 rfl⟩)
theorem z37 (p q : List (List Cell)) (hp : WR 9000000000000000000 qb p) (hq : WR 9000000000000000000 qb q) : PC Tryz.prog 56 [.one (.l p), .one (.l q)] (rB (dE p q)) := by
 refine PC.begin Tryz.func56 rfl (by kernel_rfl) ?_
 have hpl := hp.1
 have hql := hq.1
 refine xb rfl (fun h => ?_) (fun h => ?_)
 · exact xr rfl (z7 rfl ⟨⟨rfl, yi (fun e => by subst e; simp at h), trivial⟩, z1 rfl⟩)
 have hl : p.length = q.length := by simpa [Int.ofNat_inj] using h
 refine qc rfl (ι := Nat) (fun i => i ≤ p.length ∧ p.take i = q.take i) (fun i => ⟨[(5, sV (.int .i64 i)), (0, .one (.b (.l p))), (1, .one (.b (.l q)))], []⟩) (fun i => p.length - i) 0 ⟨Nat.zero_le _, rfl⟩ ?_ ?_
 · repeat' (first | exact trivial | exact rfl | exact Or.inl rfl | refine And.intro ?_ ?_)
 · intro i ⟨hi, he⟩ J hJ
   refine xb rfl (fun h => ?_) (fun h => ?_)
   · have h : i < p.length := by simpa using h
     obtain ⟨row, hg⟩ : ∃ row, p[i]? = some row := ⟨_, List.getElem?_eq_getElem h⟩
     obtain ⟨row', hg'⟩ : ∃ row, q[i]? = some row := ⟨_, List.getElem?_eq_getElem (by omega)⟩
     obtain ⟨x0, rfl, h0⟩ := z0d (hp.2 row (List.mem_of_getElem? hg))
     obtain ⟨y0, rfl, k0⟩ := z0d (hq.2 row' (List.mem_of_getElem? hg'))
     refine zb rfl [] (.take 0 [] (.take 1 [] (.take 2 [] (.take 3 [8, 9] (.take 4 [] (.take 5 [] (.take 6 [] (.take 7 [8, 9] (.alt 8 (.take 9 [] .done) .nil))))))))) (by kernel_rfl) ?_
     refine xs rfl (Int.natCast_nonneg _) (ya rfl _ hg (xs rfl rfl ?_))
     refine xs rfl (Int.natCast_nonneg _) (ya rfl _ hg' (xs rfl rfl ?_))
     refine z6 rfl (q3t _ _ h0 k0) rfl ⟨⟨trivial, trivial⟩, ⟨trivial, trivial⟩, trivial⟩ ?_
     refine xb rfl (fun hb => ?_) (fun hb => ?_)
     · exact xr rfl (z7 rfl ⟨⟨rfl, yi (fun e => by subst e; rw [hg] at hg'; cases hg'; exact z02 hb rfl), trivial⟩, z1 rfl⟩)
     · have hb := q01 hb
       refine q9 rfl (hJ _ (i + 1) ⟨by omega, ym he hg (hg'.trans (by rw [hb]))⟩ (by omega) ?_)
       repeat' (first | exact trivial | exact rfl | exact Or.inl rfl | exact cwi (by omega) (by omega) (by omega) | refine And.intro ?_ ?_)
   · have h : ¬ i < p.length := by simpa using h
     exact xr rfl (z7 rfl ⟨⟨rfl, qs (by rw [show i = p.length by omega, List.take_length] at he; rw [he, hl, List.take_length]), trivial⟩, z1 rfl⟩)
theorem z7y (x0 : Int) (x1 : Int) (x2 : Int) (x3 : Int) (x4 : List (List Cell)) (x5 : List (List Cell)) (y0 : Int) (y1 : Int) (y2 : Int) (y3 : Int) (y4 : List (List Cell)) (y5 : List (List Cell)) (h4 : WR 9000000000000000000 (.i .i64 .nil) x4) (h5 : WR 9000000000000000000 zo x5) (k4 : WR 9000000000000000000 (.i .i64 .nil) y4) (k5 : WR 9000000000000000000 zo y5) : PC Tryz.prog 296 [.agg [.s (.int .i64 x0), .s (.int .i64 x1), .s (.int .i64 x2), .s (.int .i64 x3), .l x4, .l x5], .agg [.s (.int .i64 y0), .s (.int .i64 y1), .s (.int .i64 y2), .s (.int .i64 y3), .l y4, .l y5]] (rB (dE (α := List Cell) [.s (.int .i64 x0), .s (.int .i64 x1), .s (.int .i64 x2), .s (.int .i64 x3), .l x4, .l x5] [.s (.int .i64 y0), .s (.int .i64 y1), .s (.int .i64 y2), .s (.int .i64 y3), .l y4, .l y5])) := by
 refine PC.begin Tryz.func296 rfl (by kernel_rfl) ?_
 refine xb rfl (fun h => ?_) (fun e0 => ?_)
 · exact xr rfl (z7 rfl ⟨⟨rfl, yi (fun e => by simp only [List.cons.injEq, Cell.s.injEq, Value.int.injEq, Value.bool.injEq, Value.string.injEq] at e; simp [e] at h), trivial⟩, z1 rfl⟩)
 have e0 : x0 = y0 := by simpa using e0
 refine xb rfl (fun h => ?_) (fun e1 => ?_)
 · exact xr rfl (z7 rfl ⟨⟨rfl, yi (fun e => by simp only [List.cons.injEq, Cell.s.injEq, Value.int.injEq, Value.bool.injEq, Value.string.injEq] at e; simp [e] at h), trivial⟩, z1 rfl⟩)
 have e1 : x1 = y1 := by simpa using e1
 refine xb rfl (fun h => ?_) (fun e2 => ?_)
 · exact xr rfl (z7 rfl ⟨⟨rfl, yi (fun e => by simp only [List.cons.injEq, Cell.s.injEq, Value.int.injEq, Value.bool.injEq, Value.string.injEq] at e; simp [e] at h), trivial⟩, z1 rfl⟩)
 have e2 : x2 = y2 := by simpa using e2
 refine xb rfl (fun h => ?_) (fun e3 => ?_)
 · exact xr rfl (z7 rfl ⟨⟨rfl, yi (fun e => by simp only [List.cons.injEq, Cell.s.injEq, Value.int.injEq, Value.bool.injEq, Value.string.injEq] at e; simp [e] at h), trivial⟩, z1 rfl⟩)
 have e3 : x3 = y3 := by simpa using e3
 refine z6 rfl (z2q _ _ h4 k4) rfl ⟨trivial, trivial, trivial⟩ ?_
 refine xb rfl (fun h => ?_) (fun e4 => ?_)
 · exact xr rfl (z7 rfl ⟨⟨rfl, yi (fun e => z02 h (by simp only [List.cons.injEq, Cell.l.injEq] at e ⊢; simp only [e]; try trivial)), trivial⟩, z1 rfl⟩)
 have e4 := q01 e4
 refine z6 rfl (q3e _ _ h5 k5) rfl ⟨trivial, trivial, trivial⟩ ?_
 refine xb rfl (fun h => ?_) (fun e5 => ?_)
 · exact xr rfl (z7 rfl ⟨⟨rfl, yi (fun e => z02 h (by simp only [List.cons.injEq, Cell.l.injEq] at e ⊢; simp only [e]; try trivial)), trivial⟩, z1 rfl⟩)
 have e5 := q01 e5
 exact xr rfl (z7 rfl ⟨⟨rfl, qs (by simp [e0, e1, e2, e3, e4, e5]), trivial⟩, z1 rfl⟩)
theorem z6u (p q : List (List Cell)) (hp : WR 9000000000000000000 zq p) (hq : WR 9000000000000000000 zq q) : PC Tryz.prog 220 [.one (.l p), .one (.l q)] (rB (dE p q)) := by
 refine PC.begin Tryz.func220 rfl (by kernel_rfl) ?_
 have hpl := hp.1
 have hql := hq.1
 refine xb rfl (fun h => ?_) (fun h => ?_)
 · exact xr rfl (z7 rfl ⟨⟨rfl, yi (fun e => by subst e; simp at h), trivial⟩, z1 rfl⟩)
 have hl : p.length = q.length := by simpa [Int.ofNat_inj] using h
 refine qc rfl (ι := Nat) (fun i => i ≤ p.length ∧ p.take i = q.take i) (fun i => ⟨[(5, sV (.int .i64 i)), (0, .one (.b (.l p))), (1, .one (.b (.l q)))], []⟩) (fun i => p.length - i) 0 ⟨Nat.zero_le _, rfl⟩ ?_ ?_
 · repeat' (first | exact trivial | exact rfl | exact Or.inl rfl | refine And.intro ?_ ?_)
 · intro i ⟨hi, he⟩ J hJ
   refine xb rfl (fun h => ?_) (fun h => ?_)
   · have h : i < p.length := by simpa using h
     obtain ⟨row, hg⟩ : ∃ row, p[i]? = some row := ⟨_, List.getElem?_eq_getElem h⟩
     obtain ⟨row', hg'⟩ : ∃ row, q[i]? = some row := ⟨_, List.getElem?_eq_getElem (by omega)⟩
     obtain ⟨x0, x1, x2, x3, x4, x5, rfl, h4, h5⟩ := q2u (hp.2 row (List.mem_of_getElem? hg))
     obtain ⟨y0, y1, y2, y3, y4, y5, rfl, k4, k5⟩ := q2u (hq.2 row' (List.mem_of_getElem? hg'))
     refine zb rfl [] (.take 0 [] (.take 1 [] (.take 2 [] (.take 3 [8, 9] (.take 4 [] (.take 5 [] (.take 6 [] (.take 7 [8, 9] (.alt 8 (.take 9 [] .done) .nil))))))))) (by kernel_rfl) ?_
     refine xs rfl (Int.natCast_nonneg _) (ya rfl _ hg (xs rfl rfl ?_))
     refine xs rfl (Int.natCast_nonneg _) (ya rfl _ hg' (xs rfl rfl ?_))
     refine z6 rfl (z7y _ _ _ _ _ _ _ _ _ _ _ _ h4 h5 k4 k5) rfl ⟨⟨trivial, trivial, trivial, trivial, trivial, trivial, trivial⟩, ⟨trivial, trivial, trivial, trivial, trivial, trivial, trivial⟩, trivial⟩ ?_
     refine xb rfl (fun hb => ?_) (fun hb => ?_)
     · exact xr rfl (z7 rfl ⟨⟨rfl, yi (fun e => by subst e; rw [hg] at hg'; cases hg'; exact z02 hb rfl), trivial⟩, z1 rfl⟩)
     · have hb := q01 hb
       refine q9 rfl (hJ _ (i + 1) ⟨by omega, ym he hg (hg'.trans (by rw [hb]))⟩ (by omega) ?_)
       repeat' (first | exact trivial | exact rfl | exact Or.inl rfl | exact cwi (by omega) (by omega) (by omega) | refine And.intro ?_ ?_)
   · have h : ¬ i < p.length := by simpa using h
     exact xr rfl (z7 rfl ⟨⟨rfl, qs (by rw [show i = p.length by omega, List.take_length] at he; rw [he, hl, List.take_length]), trivial⟩, z1 rfl⟩)
theorem q61 (x0 : Int) (x1 : Int) (x2 : Int) (x3 : Int) (x4 : Int) (y0 : Int) (y1 : Int) (y2 : Int) (y3 : Int) (y4 : Int)   : PC Tryz.prog 297 [.agg [.s (.int .i64 x0), .s (.int .i64 x1), .s (.int .i64 x2), .s (.int .i64 x3), .s (.int .i64 x4)], .agg [.s (.int .i64 y0), .s (.int .i64 y1), .s (.int .i64 y2), .s (.int .i64 y3), .s (.int .i64 y4)]] (rB (dE (α := List Cell) [.s (.int .i64 x0), .s (.int .i64 x1), .s (.int .i64 x2), .s (.int .i64 x3), .s (.int .i64 x4)] [.s (.int .i64 y0), .s (.int .i64 y1), .s (.int .i64 y2), .s (.int .i64 y3), .s (.int .i64 y4)])) := by
 refine PC.begin Tryz.func297 rfl (by kernel_rfl) ?_
 refine xb rfl (fun h => ?_) (fun e0 => ?_)
 · exact xr rfl (z7 rfl ⟨⟨rfl, yi (fun e => by simp only [List.cons.injEq, Cell.s.injEq, Value.int.injEq, Value.bool.injEq, Value.string.injEq] at e; simp [e] at h), trivial⟩, z1 rfl⟩)
 have e0 : x0 = y0 := by simpa using e0
 refine xb rfl (fun h => ?_) (fun e1 => ?_)
 · exact xr rfl (z7 rfl ⟨⟨rfl, yi (fun e => by simp only [List.cons.injEq, Cell.s.injEq, Value.int.injEq, Value.bool.injEq, Value.string.injEq] at e; simp [e] at h), trivial⟩, z1 rfl⟩)
 have e1 : x1 = y1 := by simpa using e1
 refine xb rfl (fun h => ?_) (fun e2 => ?_)
 · exact xr rfl (z7 rfl ⟨⟨rfl, yi (fun e => by simp only [List.cons.injEq, Cell.s.injEq, Value.int.injEq, Value.bool.injEq, Value.string.injEq] at e; simp [e] at h), trivial⟩, z1 rfl⟩)
 have e2 : x2 = y2 := by simpa using e2
 refine xb rfl (fun h => ?_) (fun e3 => ?_)
 · exact xr rfl (z7 rfl ⟨⟨rfl, yi (fun e => by simp only [List.cons.injEq, Cell.s.injEq, Value.int.injEq, Value.bool.injEq, Value.string.injEq] at e; simp [e] at h), trivial⟩, z1 rfl⟩)
 have e3 : x3 = y3 := by simpa using e3
 refine xb rfl (fun h => ?_) (fun e4 => ?_)
 · exact xr rfl (z7 rfl ⟨⟨rfl, yi (fun e => by simp only [List.cons.injEq, Cell.s.injEq, Value.int.injEq, Value.bool.injEq, Value.string.injEq] at e; simp [e] at h), trivial⟩, z1 rfl⟩)
 have e4 : x4 = y4 := by simpa using e4
 exact xr rfl (z7 rfl ⟨⟨rfl, qs (by simp [e0, e1, e2, e3, e4]), trivial⟩, z1 rfl⟩)
theorem q53 (p q : List (List Cell)) (hp : WR 9000000000000000000 yr p) (hq : WR 9000000000000000000 yr q) : PC Tryz.prog 221 [.one (.l p), .one (.l q)] (rB (dE p q)) := by
 refine PC.begin Tryz.func221 rfl (by kernel_rfl) ?_
 have hpl := hp.1
 have hql := hq.1
 refine xb rfl (fun h => ?_) (fun h => ?_)
 · exact xr rfl (z7 rfl ⟨⟨rfl, yi (fun e => by subst e; simp at h), trivial⟩, z1 rfl⟩)
 have hl : p.length = q.length := by simpa [Int.ofNat_inj] using h
 refine qc rfl (ι := Nat) (fun i => i ≤ p.length ∧ p.take i = q.take i) (fun i => ⟨[(5, sV (.int .i64 i)), (0, .one (.b (.l p))), (1, .one (.b (.l q)))], []⟩) (fun i => p.length - i) 0 ⟨Nat.zero_le _, rfl⟩ ?_ ?_
 · repeat' (first | exact trivial | exact rfl | exact Or.inl rfl | refine And.intro ?_ ?_)
 · intro i ⟨hi, he⟩ J hJ
   refine xb rfl (fun h => ?_) (fun h => ?_)
   · have h : i < p.length := by simpa using h
     obtain ⟨row, hg⟩ : ∃ row, p[i]? = some row := ⟨_, List.getElem?_eq_getElem h⟩
     obtain ⟨row', hg'⟩ : ∃ row, q[i]? = some row := ⟨_, List.getElem?_eq_getElem (by omega)⟩
     obtain ⟨x0, x1, x2, x3, x4, rfl⟩ := q14 (hp.2 row (List.mem_of_getElem? hg))
     obtain ⟨y0, y1, y2, y3, y4, rfl⟩ := q14 (hq.2 row' (List.mem_of_getElem? hg'))
     refine zb rfl [] (.take 0 [] (.take 1 [] (.take 2 [] (.take 3 [8, 9] (.take 4 [] (.take 5 [] (.take 6 [] (.take 7 [8, 9] (.alt 8 (.take 9 [] .done) .nil))))))))) (by kernel_rfl) ?_
     refine xs rfl (Int.natCast_nonneg _) (ya rfl _ hg (xs rfl rfl ?_))
     refine xs rfl (Int.natCast_nonneg _) (ya rfl _ hg' (xs rfl rfl ?_))
     refine z6 rfl (q61 _ _ _ _ _ _ _ _ _ _) rfl ⟨⟨trivial, trivial, trivial, trivial, trivial, trivial⟩, ⟨trivial, trivial, trivial, trivial, trivial, trivial⟩, trivial⟩ ?_
     refine xb rfl (fun hb => ?_) (fun hb => ?_)
     · exact xr rfl (z7 rfl ⟨⟨rfl, yi (fun e => by subst e; rw [hg] at hg'; cases hg'; exact z02 hb rfl), trivial⟩, z1 rfl⟩)
     · have hb := q01 hb
       refine q9 rfl (hJ _ (i + 1) ⟨by omega, ym he hg (hg'.trans (by rw [hb]))⟩ (by omega) ?_)
       repeat' (first | exact trivial | exact rfl | exact Or.inl rfl | exact cwi (by omega) (by omega) (by omega) | refine And.intro ?_ ?_)
   · have h : ¬ i < p.length := by simpa using h
     exact xr rfl (z7 rfl ⟨⟨rfl, qs (by rw [show i = p.length by omega, List.take_length] at he; rw [he, hl, List.take_length]), trivial⟩, z1 rfl⟩)
theorem z54 (x0 : Int) (x1 : List (List Cell)) (x2 : List (List Cell)) (y0 : Int) (y1 : List (List Cell)) (y2 : List (List Cell)) (h1 : WR 9000000000000000000 zq x1) (h2 : WR 9000000000000000000 yr x2) (k1 : WR 9000000000000000000 zq y1) (k2 : WR 9000000000000000000 yr y2) : PC Tryz.prog 132 [.agg [.s (.int .i64 x0), .l x1, .l x2], .agg [.s (.int .i64 y0), .l y1, .l y2]] (rB (dE (α := List Cell) [.s (.int .i64 x0), .l x1, .l x2] [.s (.int .i64 y0), .l y1, .l y2])) := by
 refine PC.begin Tryz.func132 rfl (by kernel_rfl) ?_
 refine xb rfl (fun h => ?_) (fun e0 => ?_)
 · exact xr rfl (z7 rfl ⟨⟨rfl, yi (fun e => by simp only [List.cons.injEq, Cell.s.injEq, Value.int.injEq, Value.bool.injEq, Value.string.injEq] at e; simp [e] at h), trivial⟩, z1 rfl⟩)
 have e0 : x0 = y0 := by simpa using e0
 refine z6 rfl (z6u _ _ h1 k1) rfl ⟨trivial, trivial, trivial⟩ ?_
 refine xb rfl (fun h => ?_) (fun e1 => ?_)
 · exact xr rfl (z7 rfl ⟨⟨rfl, yi (fun e => z02 h (by simp only [List.cons.injEq, Cell.l.injEq] at e ⊢; simp only [e]; try trivial)), trivial⟩, z1 rfl⟩)
 have e1 := q01 e1
 refine z6 rfl (q53 _ _ h2 k2) rfl ⟨trivial, trivial, trivial⟩ ?_
 refine xb rfl (fun h => ?_) (fun e2 => ?_)
 · exact xr rfl (z7 rfl ⟨⟨rfl, yi (fun e => z02 h (by simp only [List.cons.injEq, Cell.l.injEq] at e ⊢; simp only [e]; try trivial)), trivial⟩, z1 rfl⟩)
 have e2 := q01 e2
 exact xr rfl (z7 rfl ⟨⟨rfl, qs (by simp [e0, e1, e2]), trivial⟩, z1 rfl⟩)
theorem q4h (p q : List (List Cell)) (hp : WR 9000000000000000000 zg p) (hq : WR 9000000000000000000 zg q) : PC Tryz.prog 57 [.one (.l p), .one (.l q)] (rB (dE p q)) := by
 refine PC.begin Tryz.func57 rfl (by kernel_rfl) ?_
 have hpl := hp.1
 have hql := hq.1
 refine xb rfl (fun h => ?_) (fun h => ?_)
 · exact xr rfl (z7 rfl ⟨⟨rfl, yi (fun e => by subst e; simp at h), trivial⟩, z1 rfl⟩)
 have hl : p.length = q.length := by simpa [Int.ofNat_inj] using h
 refine qc rfl (ι := Nat) (fun i => i ≤ p.length ∧ p.take i = q.take i) (fun i => ⟨[(5, sV (.int .i64 i)), (0, .one (.b (.l p))), (1, .one (.b (.l q)))], []⟩) (fun i => p.length - i) 0 ⟨Nat.zero_le _, rfl⟩ ?_ ?_
 · repeat' (first | exact trivial | exact rfl | exact Or.inl rfl | refine And.intro ?_ ?_)
 · intro i ⟨hi, he⟩ J hJ
   refine xb rfl (fun h => ?_) (fun h => ?_)
   · have h : i < p.length := by simpa using h
     obtain ⟨row, hg⟩ : ∃ row, p[i]? = some row := ⟨_, List.getElem?_eq_getElem h⟩
     obtain ⟨row', hg'⟩ : ∃ row, q[i]? = some row := ⟨_, List.getElem?_eq_getElem (by omega)⟩
     obtain ⟨x0, x1, x2, rfl, h1, h2⟩ := z0u (hp.2 row (List.mem_of_getElem? hg))
     obtain ⟨y0, y1, y2, rfl, k1, k2⟩ := z0u (hq.2 row' (List.mem_of_getElem? hg'))
     refine zb rfl [] (.take 0 [] (.take 1 [] (.take 2 [] (.take 3 [8, 9] (.take 4 [] (.take 5 [] (.take 6 [] (.take 7 [8, 9] (.alt 8 (.take 9 [] .done) .nil))))))))) (by kernel_rfl) ?_
     refine xs rfl (Int.natCast_nonneg _) (ya rfl _ hg (xs rfl rfl ?_))
     refine xs rfl (Int.natCast_nonneg _) (ya rfl _ hg' (xs rfl rfl ?_))
     refine z6 rfl (z54 _ _ _ _ _ _ h1 h2 k1 k2) rfl ⟨⟨trivial, trivial, trivial, trivial⟩, ⟨trivial, trivial, trivial, trivial⟩, trivial⟩ ?_
     refine xb rfl (fun hb => ?_) (fun hb => ?_)
     · exact xr rfl (z7 rfl ⟨⟨rfl, yi (fun e => by subst e; rw [hg] at hg'; cases hg'; exact z02 hb rfl), trivial⟩, z1 rfl⟩)
     · have hb := q01 hb
       refine q9 rfl (hJ _ (i + 1) ⟨by omega, ym he hg (hg'.trans (by rw [hb]))⟩ (by omega) ?_)
       repeat' (first | exact trivial | exact rfl | exact Or.inl rfl | exact cwi (by omega) (by omega) (by omega) | refine And.intro ?_ ?_)
   · have h : ¬ i < p.length := by simpa using h
     exact xr rfl (z7 rfl ⟨⟨rfl, qs (by rw [show i = p.length by omega, List.take_length] at he; rw [he, hl, List.take_length]), trivial⟩, z1 rfl⟩)
theorem z4i (x0 : Int) (x1 : Int) (x2 : Int) (x3 : Int) (x4 : Int) (x5 : Int) (x6 : Int) (x7 : Int) (x8 : Int) (y0 : Int) (y1 : Int) (y2 : Int) (y3 : Int) (y4 : Int) (y5 : Int) (y6 : Int) (y7 : Int) (y8 : Int)   : PC Tryz.prog 133 [.agg [.s (.int .i64 x0), .s (.int .i64 x1), .s (.int .i64 x2), .s (.int .i64 x3), .s (.int .i64 x4), .s (.int .i64 x5), .s (.int .i64 x6), .s (.int .i64 x7), .s (.int .i64 x8)], .agg [.s (.int .i64 y0), .s (.int .i64 y1), .s (.int .i64 y2), .s (.int .i64 y3), .s (.int .i64 y4), .s (.int .i64 y5), .s (.int .i64 y6), .s (.int .i64 y7), .s (.int .i64 y8)]] (rB (dE (α := List Cell) [.s (.int .i64 x0), .s (.int .i64 x1), .s (.int .i64 x2), .s (.int .i64 x3), .s (.int .i64 x4), .s (.int .i64 x5), .s (.int .i64 x6), .s (.int .i64 x7), .s (.int .i64 x8)] [.s (.int .i64 y0), .s (.int .i64 y1), .s (.int .i64 y2), .s (.int .i64 y3), .s (.int .i64 y4), .s (.int .i64 y5), .s (.int .i64 y6), .s (.int .i64 y7), .s (.int .i64 y8)])) := by
 refine PC.begin Tryz.func133 rfl (by kernel_rfl) ?_
 refine xb rfl (fun h => ?_) (fun e0 => ?_)
 · exact xr rfl (z7 rfl ⟨⟨rfl, yi (fun e => by simp only [List.cons.injEq, Cell.s.injEq, Value.int.injEq, Value.bool.injEq, Value.string.injEq] at e; simp [e] at h), trivial⟩, z1 rfl⟩)
 have e0 : x0 = y0 := by simpa using e0
 refine xb rfl (fun h => ?_) (fun e1 => ?_)
 · exact xr rfl (z7 rfl ⟨⟨rfl, yi (fun e => by simp only [List.cons.injEq, Cell.s.injEq, Value.int.injEq, Value.bool.injEq, Value.string.injEq] at e; simp [e] at h), trivial⟩, z1 rfl⟩)
 have e1 : x1 = y1 := by simpa using e1
 refine xb rfl (fun h => ?_) (fun e2 => ?_)
 · exact xr rfl (z7 rfl ⟨⟨rfl, yi (fun e => by simp only [List.cons.injEq, Cell.s.injEq, Value.int.injEq, Value.bool.injEq, Value.string.injEq] at e; simp [e] at h), trivial⟩, z1 rfl⟩)
 have e2 : x2 = y2 := by simpa using e2
 refine xb rfl (fun h => ?_) (fun e3 => ?_)
 · exact xr rfl (z7 rfl ⟨⟨rfl, yi (fun e => by simp only [List.cons.injEq, Cell.s.injEq, Value.int.injEq, Value.bool.injEq, Value.string.injEq] at e; simp [e] at h), trivial⟩, z1 rfl⟩)
 have e3 : x3 = y3 := by simpa using e3
 refine xb rfl (fun h => ?_) (fun e4 => ?_)
 · exact xr rfl (z7 rfl ⟨⟨rfl, yi (fun e => by simp only [List.cons.injEq, Cell.s.injEq, Value.int.injEq, Value.bool.injEq, Value.string.injEq] at e; simp [e] at h), trivial⟩, z1 rfl⟩)
 have e4 : x4 = y4 := by simpa using e4
 refine xb rfl (fun h => ?_) (fun e5 => ?_)
 · exact xr rfl (z7 rfl ⟨⟨rfl, yi (fun e => by simp only [List.cons.injEq, Cell.s.injEq, Value.int.injEq, Value.bool.injEq, Value.string.injEq] at e; simp [e] at h), trivial⟩, z1 rfl⟩)
 have e5 : x5 = y5 := by simpa using e5
 refine xb rfl (fun h => ?_) (fun e6 => ?_)
 · exact xr rfl (z7 rfl ⟨⟨rfl, yi (fun e => by simp only [List.cons.injEq, Cell.s.injEq, Value.int.injEq, Value.bool.injEq, Value.string.injEq] at e; simp [e] at h), trivial⟩, z1 rfl⟩)
 have e6 : x6 = y6 := by simpa using e6
 refine z6 rfl (y2q _ _ _ _) rfl ⟨⟨trivial, trivial, trivial⟩, ⟨trivial, trivial, trivial⟩, trivial⟩ ?_
 refine xb rfl (fun h => ?_) (fun e7 => ?_)
 · exact xr rfl (z7 rfl ⟨⟨rfl, yi (fun e => z02 h (by simp only [List.cons.injEq, Cell.l.injEq] at e ⊢; simp only [e]; try trivial)), trivial⟩, z1 rfl⟩)
 have e7 := q01 e7
 simp only [List.cons.injEq, Cell.s.injEq, Cell.l.injEq, Value.int.injEq, Value.bool.injEq, and_true, true_and] at e7
 exact xr rfl (z7 rfl ⟨⟨rfl, qs (by simp [e0, e1, e2, e3, e4, e5, e6, e7]), trivial⟩, z1 rfl⟩)
theorem q3u (p q : List (List Cell)) (hp : WR 9000000000000000000 qm p) (hq : WR 9000000000000000000 qm q) : PC Tryz.prog 58 [.one (.l p), .one (.l q)] (rB (dE p q)) := by
 refine PC.begin Tryz.func58 rfl (by kernel_rfl) ?_
 have hpl := hp.1
 have hql := hq.1
 refine xb rfl (fun h => ?_) (fun h => ?_)
 · exact xr rfl (z7 rfl ⟨⟨rfl, yi (fun e => by subst e; simp at h), trivial⟩, z1 rfl⟩)
 have hl : p.length = q.length := by simpa [Int.ofNat_inj] using h
 refine qc rfl (ι := Nat) (fun i => i ≤ p.length ∧ p.take i = q.take i) (fun i => ⟨[(5, sV (.int .i64 i)), (0, .one (.b (.l p))), (1, .one (.b (.l q)))], []⟩) (fun i => p.length - i) 0 ⟨Nat.zero_le _, rfl⟩ ?_ ?_
 · repeat' (first | exact trivial | exact rfl | exact Or.inl rfl | refine And.intro ?_ ?_)
 · intro i ⟨hi, he⟩ J hJ
   refine xb rfl (fun h => ?_) (fun h => ?_)
   · have h : i < p.length := by simpa using h
     obtain ⟨row, hg⟩ : ∃ row, p[i]? = some row := ⟨_, List.getElem?_eq_getElem h⟩
     obtain ⟨row', hg'⟩ : ∃ row, q[i]? = some row := ⟨_, List.getElem?_eq_getElem (by omega)⟩
     obtain ⟨x0, x1, x2, x3, x4, x5, x6, x7, x8, rfl⟩ := y0j (hp.2 row (List.mem_of_getElem? hg))
     obtain ⟨y0, y1, y2, y3, y4, y5, y6, y7, y8, rfl⟩ := y0j (hq.2 row' (List.mem_of_getElem? hg'))
     refine zb rfl [] (.take 0 [] (.take 1 [] (.take 2 [] (.take 3 [8, 9] (.take 4 [] (.take 5 [] (.take 6 [] (.take 7 [8, 9] (.alt 8 (.take 9 [] .done) .nil))))))))) (by kernel_rfl) ?_
     refine xs rfl (Int.natCast_nonneg _) (ya rfl _ hg (xs rfl rfl ?_))
     refine xs rfl (Int.natCast_nonneg _) (ya rfl _ hg' (xs rfl rfl ?_))
     refine z6 rfl (z4i _ _ _ _ _ _ _ _ _ _ _ _ _ _ _ _ _ _) rfl ⟨⟨trivial, trivial, trivial, trivial, trivial, trivial, trivial, trivial, trivial, trivial⟩, ⟨trivial, trivial, trivial, trivial, trivial, trivial, trivial, trivial, trivial, trivial⟩, trivial⟩ ?_
     refine xb rfl (fun hb => ?_) (fun hb => ?_)
     · exact xr rfl (z7 rfl ⟨⟨rfl, yi (fun e => by subst e; rw [hg] at hg'; cases hg'; exact z02 hb rfl), trivial⟩, z1 rfl⟩)
     · have hb := q01 hb
       refine q9 rfl (hJ _ (i + 1) ⟨by omega, ym he hg (hg'.trans (by rw [hb]))⟩ (by omega) ?_)
       repeat' (first | exact trivial | exact rfl | exact Or.inl rfl | exact cwi (by omega) (by omega) (by omega) | refine And.intro ?_ ?_)
   · have h : ¬ i < p.length := by simpa using h
     exact xr rfl (z7 rfl ⟨⟨rfl, qs (by rw [show i = p.length by omega, List.take_length] at he; rw [he, hl, List.take_length]), trivial⟩, z1 rfl⟩)
theorem y4h (x0 : List (List Cell)) (x1 : List (List Cell)) (x2 : List (List Cell)) (x3 : List (List Cell)) (x4 : List (List Cell)) (y0 : List (List Cell)) (y1 : List (List Cell)) (y2 : List (List Cell)) (y3 : List (List Cell)) (y4 : List (List Cell)) (h0 : WR 9000000000000000000 z8 x0) (h1 : WR 9000000000000000000 yg x1) (h2 : WR 9000000000000000000 qb x2) (h3 : WR 9000000000000000000 zg x3) (h4 : WR 9000000000000000000 qm x4) (k0 : WR 9000000000000000000 z8 y0) (k1 : WR 9000000000000000000 yg y1) (k2 : WR 9000000000000000000 qb y2) (k3 : WR 9000000000000000000 zg y3) (k4 : WR 9000000000000000000 qm y4) : PC Tryz.prog 16 [.agg [.l x0, .l x1, .l x2, .l x3, .l x4], .agg [.l y0, .l y1, .l y2, .l y3, .l y4]] (rB (dE (α := List Cell) [.l x0, .l x1, .l x2, .l x3, .l x4] [.l y0, .l y1, .l y2, .l y3, .l y4])) := by
 refine PC.begin Tryz.func16 rfl (by kernel_rfl) ?_
 refine z6 rfl (q1g _ _ h0 k0) rfl ⟨trivial, trivial, trivial⟩ ?_
 refine xb rfl (fun h => ?_) (fun e0 => ?_)
 · exact xr rfl (z7 rfl ⟨⟨rfl, yi (fun e => z02 h (by simp only [List.cons.injEq, Cell.l.injEq] at e ⊢; simp only [e]; try trivial)), trivial⟩, z1 rfl⟩)
 have e0 := q01 e0
 refine z6 rfl (q54 _ _ h1 k1) rfl ⟨trivial, trivial, trivial⟩ ?_
 refine xb rfl (fun h => ?_) (fun e1 => ?_)
 · exact xr rfl (z7 rfl ⟨⟨rfl, yi (fun e => z02 h (by simp only [List.cons.injEq, Cell.l.injEq] at e ⊢; simp only [e]; try trivial)), trivial⟩, z1 rfl⟩)
 have e1 := q01 e1
 refine z6 rfl (z37 _ _ h2 k2) rfl ⟨trivial, trivial, trivial⟩ ?_
 refine xb rfl (fun h => ?_) (fun e2 => ?_)
 · exact xr rfl (z7 rfl ⟨⟨rfl, yi (fun e => z02 h (by simp only [List.cons.injEq, Cell.l.injEq] at e ⊢; simp only [e]; try trivial)), trivial⟩, z1 rfl⟩)
 have e2 := q01 e2
 refine z6 rfl (q4h _ _ h3 k3) rfl ⟨trivial, trivial, trivial⟩ ?_
 refine xb rfl (fun h => ?_) (fun e3 => ?_)
 · exact xr rfl (z7 rfl ⟨⟨rfl, yi (fun e => z02 h (by simp only [List.cons.injEq, Cell.l.injEq] at e ⊢; simp only [e]; try trivial)), trivial⟩, z1 rfl⟩)
 have e3 := q01 e3
 refine z6 rfl (q3u _ _ h4 k4) rfl ⟨trivial, trivial, trivial⟩ ?_
 refine xb rfl (fun h => ?_) (fun e4 => ?_)
 · exact xr rfl (z7 rfl ⟨⟨rfl, yi (fun e => z02 h (by simp only [List.cons.injEq, Cell.l.injEq] at e ⊢; simp only [e]; try trivial)), trivial⟩, z1 rfl⟩)
 have e4 := q01 e4
 exact xr rfl (z7 rfl ⟨⟨rfl, qs (by simp [e0, e1, e2, e3, e4]), trivial⟩, z1 rfl⟩)
end Go.Proofs.YtbnbjaedijbnpaaGreat
end
section
namespace Go.Proofs.YtbnbjaedijbnpaaGreat
open Go Go.Sx
set_option maxRecDepth 20000
theorem y7i (rr : List (List Cell)) (b : Int) (hw : WR 9223372036854775807 q08 rr) (p0 : 0 ≤ b) (p1 : b ≤ 1048576) : PC Tryz.prog 169 [.one (.l rr), .one (.s (.int .i64 b))] (rI (szn b (zj q08 rr))) := by
 refine PC.begin Tryz.func169 rfl (by kernel_rfl) ?_
 have hlen := hw.1
 have w1 : IntKind.i64.wrap (b - rr.length) = b - rr.length := wrap_i64 (by omega) (by omega)
 rw [z0m (fun row hr => by obtain ⟨x0, x1, x2, x3, rfl⟩ := y2u hr; rfl) hw]
 refine xb rfl (fun h => ?_) (fun h => ?_)
 · simp only [w1, decide_eq_true_eq] at h
   exact xr rfl (z7 rfl ⟨⟨rfl, (by show Value.int _ _ = Value.int _ _; rw [szn, if_pos h]), trivial⟩, z1 rfl⟩)
 · simp only [w1, decide_eq_false_iff_not] at h
   exact xr rfl (z7 rfl ⟨⟨rfl, (by show Value.int .i64 (IntKind.i64.wrap (b - rr.length)) = Value.int _ _; rw [szn, if_neg h, w1]), trivial⟩, z1 rfl⟩)
theorem q48 (x0 : Int) (x1 : List (List Cell)) (b : Int) (h1 : WR 9223372036854775807 q08 x1) (hb0 : 0 ≤ b) (hb1 : b ≤ 1048576) : PC Tryz.prog 94 [.agg [.s (.int .i64 x0), .l x1], .one (.s (.int .i64 b))] (rI (szn b (tot z8 [.s (.int .i64 x0), .l x1]))) := by
 refine PC.begin Tryz.func94 rfl (by kernel_rfl) ?_
 have ht : tot z8 [.s (.int .i64 x0), .l x1] = zj q08 x1 := by simp only [tot, zj] <;> omega
 refine z6 rfl (y7i x1 b h1 hb0 hb1) rfl ⟨trivial, trivial, trivial⟩ ?_
 refine xb rfl (fun h => ?_) (fun e0 => ?_)
 · have h : szn b (zj q08 x1) < 0 := by simpa using h
   exact xr rfl (z7 rfl ⟨⟨rfl, (by show Value.int _ _ = Value.int _ _; congr 1; rw [ht]; unfold szn at *; split at h <;> rw [if_pos] <;> omega), trivial⟩, z1 rfl⟩)
 have e0 : 0 ≤ szn b (zj q08 x1) := by simpa using e0
 exact xr rfl (z7 rfl ⟨⟨rfl, (by show Value.int _ _ = Value.int _ _; rw [ht]), trivial⟩, z1 rfl⟩)
theorem z1i (rr : List (List Cell)) (b : Int) (hw : WR 9223372036854775807 z8 rr) (p0 : 0 ≤ b) (p1 : b ≤ 1048576) : PC Tryz.prog 33 [.one (.l rr), .one (.s (.int .i64 b))] (rI (szn b (zj z8 rr))) := by
 refine PC.begin Tryz.func33 rfl (by kernel_rfl) ?_
 have hlen := hw.1
 have w1 : IntKind.i64.wrap (b - rr.length) = b - rr.length := wrap_i64 (by omega) (by omega)
 refine xb rfl (fun h => ?_) (fun h => ?_)
 · simp only [w1, decide_eq_true_eq] at h
   exact xr rfl (z7 rfl ⟨⟨rfl, (by show Value.int _ _ = Value.int _ _; unfold szn zj; rw [if_pos (by omega)]), trivial⟩, z1 rfl⟩)
 simp only [w1, decide_eq_false_iff_not] at h
 have hs : szn b rr.length = b - rr.length := by unfold szn; rw [if_neg h]
 refine qc rfl (ι := Nat) (fun i => i ≤ rr.length ∧ 0 ≤ szn b (rr.length + z08 (tot z8) (rr.take i))) (fun i => ⟨[(5, sV (.int .i64 i)), (1, sV (.int .i64 (szn b (rr.length + z08 (tot z8) (rr.take i))))), (0, .one (.b (.l rr)))], []⟩) (fun i => rr.length - i) 0 ⟨Nat.zero_le _, by simp only [List.take_zero, z08, Nat.add_zero, hs]; omega⟩ ?_ ?_
 · refine ⟨⟨rfl, ?_, rfl, trivial⟩, trivial, rfl⟩
   show Cell.s (.int .i64 (IntKind.i64.wrap (b - rr.length))) = Cell.s (.int .i64 (szn b (rr.length + 0)))
   rw [w1, Nat.add_zero, hs]
 · intro i ⟨hi, hb⟩ J hJ
   refine xb rfl (fun h => ?_) (fun h => ?_)
   · have h : i < rr.length := by simpa using h
     obtain ⟨row, hg⟩ : ∃ row, rr[i]? = some row := ⟨_, List.getElem?_eq_getElem h⟩
     have hc := z0i (f := tot z8) hg
     have hc2 := y09 (tot z8) rr (i + 1)
     obtain ⟨x0, x1, rfl, h1⟩ := y0d (hw.2 row (List.mem_of_getElem? hg))
     refine xs rfl (Int.natCast_nonneg _) (ya rfl _ hg (xs rfl rfl ?_))
     refine z6 rfl (q48 _ _ _ h1 hb (z0e p1 p0)) rfl ⟨⟨trivial, trivial, trivial⟩, trivial, trivial⟩ ?_
     refine xb rfl (fun hn => ?_) (fun hn => ?_)
     · have hn : szn (szn b (rr.length + z08 (tot z8) (rr.take i))) (tot z8 [.s (.int .i64 x0), .l x1]) < 0 := by simpa using hn
       rw [yh hb] at hn
       exact xr rfl (z7 rfl ⟨⟨rfl, (by show Value.int _ _ = Value.int _ _; congr 1; unfold szn zj at *; split at hn <;> rw [if_pos] <;> omega), trivial⟩, z1 rfl⟩)
     · have hn : ¬ szn (szn b (rr.length + z08 (tot z8) (rr.take i))) (tot z8 [.s (.int .i64 x0), .l x1]) < 0 := by simpa using hn
       have he := yh (n := tot z8 [.s (.int .i64 x0), .l x1]) hb
       rw [he] at hn
       rw [Nat.add_assoc, ← hc] at he hn
       refine q9 rfl (hJ _ (i + 1) ⟨by omega, by omega⟩ (by omega) ?_)
       refine ⟨⟨cwi (by omega) (by omega) (by omega), ?_, rfl, trivial⟩, trivial, rfl⟩
       exact congrArg (fun n => Cell.s (.int .i64 n)) he
   · have h : ¬ i < rr.length := by simpa using h
     have : i = rr.length := by omega
     subst this
     exact xr rfl (z7 rfl ⟨⟨rfl, (by show Value.int _ _ = Value.int _ _; rw [List.take_length]; rfl), trivial⟩, z1 rfl⟩)
theorem q1y (rr : List (List Cell)) (b : Int) (hw : WR 9223372036854775807 q8 rr) (p0 : 0 ≤ b) (p1 : b ≤ 1048576) : PC Tryz.prog 93 [.one (.l rr), .one (.s (.int .i64 b))] (rI (szn b (zj q8 rr))) := by
 refine PC.begin Tryz.func93 rfl (by kernel_rfl) ?_
 have hlen := hw.1
 have w1 : IntKind.i64.wrap (b - rr.length) = b - rr.length := wrap_i64 (by omega) (by omega)
 rw [z0m (fun row hr => by obtain ⟨x0, x1, x2, rfl⟩ := z0j hr; rfl) hw]
 refine xb rfl (fun h => ?_) (fun h => ?_)
 · simp only [w1, decide_eq_true_eq] at h
   exact xr rfl (z7 rfl ⟨⟨rfl, (by show Value.int _ _ = Value.int _ _; rw [szn, if_pos h]), trivial⟩, z1 rfl⟩)
 · simp only [w1, decide_eq_false_iff_not] at h
   exact xr rfl (z7 rfl ⟨⟨rfl, (by show Value.int .i64 (IntKind.i64.wrap (b - rr.length)) = Value.int _ _; rw [szn, if_neg h, w1]), trivial⟩, z1 rfl⟩)
theorem y3l (rr : List (List Cell)) (b : Int) (hw : WR 9223372036854775807 zk rr) (p0 : 0 ≤ b) (p1 : b ≤ 1048576) : PC Tryz.prog 170 [.one (.l rr), .one (.s (.int .i64 b))] (rI (szn b (zj zk rr))) := by
 refine PC.begin Tryz.func170 rfl (by kernel_rfl) ?_
 have hlen := hw.1
 have w1 : IntKind.i64.wrap (b - rr.length) = b - rr.length := wrap_i64 (by omega) (by omega)
 rw [z0m (fun row hr => by obtain ⟨x0, x1, rfl⟩ := y1s hr; rfl) hw]
 refine xb rfl (fun h => ?_) (fun h => ?_)
 · simp only [w1, decide_eq_true_eq] at h
   exact xr rfl (z7 rfl ⟨⟨rfl, (by show Value.int _ _ = Value.int _ _; rw [szn, if_pos h]), trivial⟩, z1 rfl⟩)
 · simp only [w1, decide_eq_false_iff_not] at h
   exact xr rfl (z7 rfl ⟨⟨rfl, (by show Value.int .i64 (IntKind.i64.wrap (b - rr.length)) = Value.int _ _; rw [szn, if_neg h, w1]), trivial⟩, z1 rfl⟩)
theorem z32 (rr : List (List Cell)) (b : Int) (hw : WR 9223372036854775807 (.i .i64 .nil) rr) (p0 : 0 ≤ b) (p1 : b ≤ 1048576) : PC Tryz.prog 171 [.one (.l rr), .one (.s (.int .i64 b))] (rI (szn b (zj (.i .i64 .nil) rr))) := by
 refine PC.begin Tryz.func171 rfl (by kernel_rfl) ?_
 have hlen := hw.1
 have w1 : IntKind.i64.wrap (b - rr.length) = b - rr.length := wrap_i64 (by omega) (by omega)
 rw [z0m (fun row hr => by obtain ⟨x0, _, rfl, hnil⟩ := (hr).qv; obtain rfl := hnil.qp; rfl) hw]
 refine xb rfl (fun h => ?_) (fun h => ?_)
 · simp only [w1, decide_eq_true_eq] at h
   exact xr rfl (z7 rfl ⟨⟨rfl, (by show Value.int _ _ = Value.int _ _; rw [szn, if_pos h]), trivial⟩, z1 rfl⟩)
 · simp only [w1, decide_eq_false_iff_not] at h
   exact xr rfl (z7 rfl ⟨⟨rfl, (by show Value.int .i64 (IntKind.i64.wrap (b - rr.length)) = Value.int _ _; rw [szn, if_neg h, w1]), trivial⟩, z1 rfl⟩)
theorem z6e (x0 : Int) (x1 : List (List Cell)) (x2 : List (List Cell)) (x3 : List (List Cell)) (x4 : List (List Cell)) (x5 : List (List Cell)) (b : Int) (h1 : WR 9223372036854775807 q8 x1) (h2 : WR 9223372036854775807 zk x2) (h3 : WR 9223372036854775807 z8 x3) (h4 : WR 9223372036854775807 zk x4) (h5 : WR 9223372036854775807 (.i .i64 .nil) x5) (hb0 : 0 ≤ b) (hb1 : b ≤ 1048576) : PC Tryz.prog 95 [.agg [.s (.int .i64 x0), .l x1, .l x2, .l x3, .l x4, .l x5], .one (.s (.int .i64 b))] (rI (szn b (tot yg [.s (.int .i64 x0), .l x1, .l x2, .l x3, .l x4, .l x5]))) := by
 refine PC.begin Tryz.func95 rfl (by kernel_rfl) ?_
 have ht : tot yg [.s (.int .i64 x0), .l x1, .l x2, .l x3, .l x4, .l x5] = zj q8 x1 + zj zk x2 + zj z8 x3 + zj zk x4 + zj (.i .i64 .nil) x5 := by simp only [tot, zj] <;> omega
 refine z6 rfl (q1y x1 b h1 hb0 hb1) rfl ⟨trivial, trivial, trivial⟩ ?_
 refine xb rfl (fun h => ?_) (fun e0 => ?_)
 · have h : szn b (zj q8 x1) < 0 := by simpa using h
   exact xr rfl (z7 rfl ⟨⟨rfl, (by show Value.int _ _ = Value.int _ _; congr 1; rw [ht]; unfold szn at *; split at h <;> rw [if_pos] <;> omega), trivial⟩, z1 rfl⟩)
 have e0 : 0 ≤ szn b (zj q8 x1) := by simpa using e0
 refine z6 rfl (y3l x2 (szn b (zj q8 x1)) h2 e0 (z0e hb1 hb0)) rfl ⟨trivial, trivial, trivial⟩ ?_
 refine xb rfl (fun h => ?_) (fun e1 => ?_)
 · have h : szn (szn b (zj q8 x1)) (zj zk x2) < 0 := by simpa using h
   rw [yh e0] at h
   exact xr rfl (z7 rfl ⟨⟨rfl, (by show Value.int _ _ = Value.int _ _; congr 1; rw [ht]; unfold szn at *; split at h <;> rw [if_pos] <;> omega), trivial⟩, z1 rfl⟩)
 have e1 : 0 ≤ szn b (zj q8 x1 + zj zk x2) := by rw [← yh e0]; simpa using e1
 rw [yh e0]
 refine z6 rfl (z1i x3 (szn b (zj q8 x1 + zj zk x2)) h3 e1 (z0e hb1 hb0)) rfl ⟨trivial, trivial, trivial⟩ ?_
 refine xb rfl (fun h => ?_) (fun e2 => ?_)
 · have h : szn (szn b (zj q8 x1 + zj zk x2)) (zj z8 x3) < 0 := by simpa using h
   rw [yh e1] at h
   exact xr rfl (z7 rfl ⟨⟨rfl, (by show Value.int _ _ = Value.int _ _; congr 1; rw [ht]; unfold szn at *; split at h <;> rw [if_pos] <;> omega), trivial⟩, z1 rfl⟩)
 have e2 : 0 ≤ szn b (zj q8 x1 + zj zk x2 + zj z8 x3) := by rw [← yh e1]; simpa using e2
 rw [yh e1]
 refine z6 rfl (y3l x4 (szn b (zj q8 x1 + zj zk x2 + zj z8 x3)) h4 e2 (z0e hb1 hb0)) rfl ⟨trivial, trivial, trivial⟩ ?_
 refine xb rfl (fun h => ?_) (fun e3 => ?_)
 · have h : szn (szn b (zj q8 x1 + zj zk x2 + zj z8 x3)) (zj zk x4) < 0 := by simpa using h
   rw [yh e2] at h
   exact xr rfl (z7 rfl ⟨⟨rfl, (by show Value.int _ _ = Value.int _ _; congr 1; rw [ht]; unfold szn at *; split at h <;> rw [if_pos] <;> omega), trivial⟩, z1 rfl⟩)
 have e3 : 0 ≤ szn b (zj q8 x1 + zj zk x2 + zj z8 x3 + zj zk x4) := by rw [← yh e2]; simpa using e3
 rw [yh e2]
 refine z6 rfl (z32 x5 (szn b (zj q8 x1 + zj zk x2 + zj z8 x3 + zj zk x4)) h5 e3 (z0e hb1 hb0)) rfl ⟨trivial, trivial, trivial⟩ ?_
 refine xb rfl (fun h => ?_) (fun e4 => ?_)
 · have h : szn (szn b (zj q8 x1 + zj zk x2 + zj z8 x3 + zj zk x4)) (zj (.i .i64 .nil) x5) < 0 := by simpa using h
   rw [yh e3] at h
   exact xr rfl (z7 rfl ⟨⟨rfl, (by show Value.int _ _ = Value.int _ _; congr 1; rw [ht]; unfold szn at *; split at h <;> rw [if_pos] <;> omega), trivial⟩, z1 rfl⟩)
 have e4 : 0 ≤ szn b (zj q8 x1 + zj zk x2 + zj z8 x3 + zj zk x4 + zj (.i .i64 .nil) x5) := by rw [← yh e3]; simpa using e4
 rw [yh e3]
 exact xr rfl (z7 rfl ⟨⟨rfl, (by show Value.int _ _ = Value.int _ _; rw [ht]), trivial⟩, z1 rfl⟩)
theorem q5f (rr : List (List Cell)) (b : Int) (hw : WR 9223372036854775807 yg rr) (p0 : 0 ≤ b) (p1 : b ≤ 1048576) : PC Tryz.prog 34 [.one (.l rr), .one (.s (.int .i64 b))] (rI (szn b (zj yg rr))) := by
 refine PC.begin Tryz.func34 rfl (by kernel_rfl) ?_
 have hlen := hw.1
 have w1 : IntKind.i64.wrap (b - rr.length) = b - rr.length := wrap_i64 (by omega) (by omega)
 refine xb rfl (fun h => ?_) (fun h => ?_)
 · simp only [w1, decide_eq_true_eq] at h
   exact xr rfl (z7 rfl ⟨⟨rfl, (by show Value.int _ _ = Value.int _ _; unfold szn zj; rw [if_pos (by omega)]), trivial⟩, z1 rfl⟩)
 simp only [w1, decide_eq_false_iff_not] at h
 have hs : szn b rr.length = b - rr.length := by unfold szn; rw [if_neg h]
 refine qc rfl (ι := Nat) (fun i => i ≤ rr.length ∧ 0 ≤ szn b (rr.length + z08 (tot yg) (rr.take i))) (fun i => ⟨[(5, sV (.int .i64 i)), (1, sV (.int .i64 (szn b (rr.length + z08 (tot yg) (rr.take i))))), (0, .one (.b (.l rr)))], []⟩) (fun i => rr.length - i) 0 ⟨Nat.zero_le _, by simp only [List.take_zero, z08, Nat.add_zero, hs]; omega⟩ ?_ ?_
 · refine ⟨⟨rfl, ?_, rfl, trivial⟩, trivial, rfl⟩
   show Cell.s (.int .i64 (IntKind.i64.wrap (b - rr.length))) = Cell.s (.int .i64 (szn b (rr.length + 0)))
   rw [w1, Nat.add_zero, hs]
 · intro i ⟨hi, hb⟩ J hJ
   refine xb rfl (fun h => ?_) (fun h => ?_)
   · have h : i < rr.length := by simpa using h
     obtain ⟨row, hg⟩ : ∃ row, rr[i]? = some row := ⟨_, List.getElem?_eq_getElem h⟩
     have hc := z0i (f := tot yg) hg
     have hc2 := y09 (tot yg) rr (i + 1)
     obtain ⟨x0, x1, x2, x3, x4, x5, rfl, h1, h2, h3, h4, h5⟩ := z15 (hw.2 row (List.mem_of_getElem? hg))
     refine xs rfl (Int.natCast_nonneg _) (ya rfl _ hg (xs rfl rfl ?_))
     refine z6 rfl (z6e _ _ _ _ _ _ _ h1 h2 h3 h4 h5 hb (z0e p1 p0)) rfl ⟨⟨trivial, trivial, trivial, trivial, trivial, trivial, trivial⟩, trivial, trivial⟩ ?_
     refine xb rfl (fun hn => ?_) (fun hn => ?_)
     · have hn : szn (szn b (rr.length + z08 (tot yg) (rr.take i))) (tot yg [.s (.int .i64 x0), .l x1, .l x2, .l x3, .l x4, .l x5]) < 0 := by simpa using hn
       rw [yh hb] at hn
       exact xr rfl (z7 rfl ⟨⟨rfl, (by show Value.int _ _ = Value.int _ _; congr 1; unfold szn zj at *; split at hn <;> rw [if_pos] <;> omega), trivial⟩, z1 rfl⟩)
     · have hn : ¬ szn (szn b (rr.length + z08 (tot yg) (rr.take i))) (tot yg [.s (.int .i64 x0), .l x1, .l x2, .l x3, .l x4, .l x5]) < 0 := by simpa using hn
       have he := yh (n := tot yg [.s (.int .i64 x0), .l x1, .l x2, .l x3, .l x4, .l x5]) hb
       rw [he] at hn
       rw [Nat.add_assoc, ← hc] at he hn
       refine q9 rfl (hJ _ (i + 1) ⟨by omega, by omega⟩ (by omega) ?_)
       refine ⟨⟨cwi (by omega) (by omega) (by omega), ?_, rfl, trivial⟩, trivial, rfl⟩
       exact congrArg (fun n => Cell.s (.int .i64 n)) he
   · have h : ¬ i < rr.length := by simpa using h
     have : i = rr.length := by omega
     subst this
     exact xr rfl (z7 rfl ⟨⟨rfl, (by show Value.int _ _ = Value.int _ _; rw [List.take_length]; rfl), trivial⟩, z1 rfl⟩)
theorem q3l (rr : List (List Cell)) (b : Int) (hw : WR 9223372036854775807 zo rr) (p0 : 0 ≤ b) (p1 : b ≤ 1048576) : PC Tryz.prog 330 [.one (.l rr), .one (.s (.int .i64 b))] (rI (szn b (zj zo rr))) := by
 refine PC.begin Tryz.func330 rfl (by kernel_rfl) ?_
 have hlen := hw.1
 have w1 : IntKind.i64.wrap (b - rr.length) = b - rr.length := wrap_i64 (by omega) (by omega)
 rw [z0m (fun row hr => by obtain ⟨x0, x1, rfl⟩ := z1t hr; rfl) hw]
 refine xb rfl (fun h => ?_) (fun h => ?_)
 · simp only [w1, decide_eq_true_eq] at h
   exact xr rfl (z7 rfl ⟨⟨rfl, (by show Value.int _ _ = Value.int _ _; rw [szn, if_pos h]), trivial⟩, z1 rfl⟩)
 · simp only [w1, decide_eq_false_iff_not] at h
   exact xr rfl (z7 rfl ⟨⟨rfl, (by show Value.int .i64 (IntKind.i64.wrap (b - rr.length)) = Value.int _ _; rw [szn, if_neg h, w1]), trivial⟩, z1 rfl⟩)
theorem q7i (x0 : Int) (x1 : Int) (x2 : Int) (x3 : Int) (x4 : Int) (x5 : List (List Cell)) (b : Int) (h5 : WR 9223372036854775807 zo x5) (hb0 : 0 ≤ b) (hb1 : b ≤ 1048576) : PC Tryz.prog 248 [.agg [.s (.int .i64 x0), .s (.int .i64 x1), .s (.int .i64 x2), .s (.int .i64 x3), .s (.int .i64 x4), .l x5], .one (.s (.int .i64 b))] (rI (szn b (tot yn [.s (.int .i64 x0), .s (.int .i64 x1), .s (.int .i64 x2), .s (.int .i64 x3), .s (.int .i64 x4), .l x5]))) := by
 refine PC.begin Tryz.func248 rfl (by kernel_rfl) ?_
 have ht : tot yn [.s (.int .i64 x0), .s (.int .i64 x1), .s (.int .i64 x2), .s (.int .i64 x3), .s (.int .i64 x4), .l x5] = zj zo x5 := by simp only [tot, zj] <;> omega
 refine z6 rfl (q3l x5 b h5 hb0 hb1) rfl ⟨trivial, trivial, trivial⟩ ?_
 refine xb rfl (fun h => ?_) (fun e0 => ?_)
 · have h : szn b (zj zo x5) < 0 := by simpa using h
   exact xr rfl (z7 rfl ⟨⟨rfl, (by show Value.int _ _ = Value.int _ _; congr 1; rw [ht]; unfold szn at *; split at h <;> rw [if_pos] <;> omega), trivial⟩, z1 rfl⟩)
 have e0 : 0 ≤ szn b (zj zo x5) := by simpa using e0
 exact xr rfl (z7 rfl ⟨⟨rfl, (by show Value.int _ _ = Value.int _ _; rw [ht]), trivial⟩, z1 rfl⟩)
theorem y6e (rr : List (List Cell)) (b : Int) (hw : WR 9223372036854775807 yn rr) (p0 : 0 ≤ b) (p1 : b ≤ 1048576) : PC Tryz.prog 172 [.one (.l rr), .one (.s (.int .i64 b))] (rI (szn b (zj yn rr))) := by
 refine PC.begin Tryz.func172 rfl (by kernel_rfl) ?_
 have hlen := hw.1
 have w1 : IntKind.i64.wrap (b - rr.length) = b - rr.length := wrap_i64 (by omega) (by omega)
 refine xb rfl (fun h => ?_) (fun h => ?_)
 · simp only [w1, decide_eq_true_eq] at h
   exact xr rfl (z7 rfl ⟨⟨rfl, (by show Value.int _ _ = Value.int _ _; unfold szn zj; rw [if_pos (by omega)]), trivial⟩, z1 rfl⟩)
 simp only [w1, decide_eq_false_iff_not] at h
 have hs : szn b rr.length = b - rr.length := by unfold szn; rw [if_neg h]
 refine qc rfl (ι := Nat) (fun i => i ≤ rr.length ∧ 0 ≤ szn b (rr.length + z08 (tot yn) (rr.take i))) (fun i => ⟨[(5, sV (.int .i64 i)), (1, sV (.int .i64 (szn b (rr.length + z08 (tot yn) (rr.take i))))), (0, .one (.b (.l rr)))], []⟩) (fun i => rr.length - i) 0 ⟨Nat.zero_le _, by simp only [List.take_zero, z08, Nat.add_zero, hs]; omega⟩ ?_ ?_
 · refine ⟨⟨rfl, ?_, rfl, trivial⟩, trivial, rfl⟩
   show Cell.s (.int .i64 (IntKind.i64.wrap (b - rr.length))) = Cell.s (.int .i64 (szn b (rr.length + 0)))
   rw [w1, Nat.add_zero, hs]
 · intro i ⟨hi, hb⟩ J hJ
   refine xb rfl (fun h => ?_) (fun h => ?_)
   · have h : i < rr.length := by simpa using h
     obtain ⟨row, hg⟩ : ∃ row, rr[i]? = some row := ⟨_, List.getElem?_eq_getElem h⟩
     have hc := z0i (f := tot yn) hg
     have hc2 := y09 (tot yn) rr (i + 1)
     obtain ⟨x0, x1, x2, x3, x4, x5, rfl, h5⟩ := q1s (hw.2 row (List.mem_of_getElem? hg))
     refine xs rfl (Int.natCast_nonneg _) (ya rfl _ hg (xs rfl rfl ?_))
     refine z6 rfl (q7i _ _ _ _ _ _ _ h5 hb (z0e p1 p0)) rfl ⟨⟨trivial, trivial, trivial, trivial, trivial, trivial, trivial⟩, trivial, trivial⟩ ?_
     refine xb rfl (fun hn => ?_) (fun hn => ?_)
     · have hn : szn (szn b (rr.length + z08 (tot yn) (rr.take i))) (tot yn [.s (.int .i64 x0), .s (.int .i64 x1), .s (.int .i64 x2), .s (.int .i64 x3), .s (.int .i64 x4), .l x5]) < 0 := by simpa using hn
       rw [yh hb] at hn
       exact xr rfl (z7 rfl ⟨⟨rfl, (by show Value.int _ _ = Value.int _ _; congr 1; unfold szn zj at *; split at hn <;> rw [if_pos] <;> omega), trivial⟩, z1 rfl⟩)
     · have hn : ¬ szn (szn b (rr.length + z08 (tot yn) (rr.take i))) (tot yn [.s (.int .i64 x0), .s (.int .i64 x1), .s (.int .i64 x2), .s (.int .i64 x3), .s (.int .i64 x4), .l x5]) < 0 := by simpa using hn
       have he := yh (n := tot yn [.s (.int .i64 x0), .s (.int .i64 x1), .s (.int .i64 x2), .s (.int .i64 x3), .s (.int .i64 x4), .l x5]) hb
       rw [he] at hn
       rw [Nat.add_assoc, ← hc] at he hn
       refine q9 rfl (hJ _ (i + 1) ⟨by omega, by omega⟩ (by omega) ?_)
       refine ⟨⟨cwi (by omega) (by omega) (by omega), ?_, rfl, trivial⟩, trivial, rfl⟩
       exact congrArg (fun n => Cell.s (.int .i64 n)) he
   · have h : ¬ i < rr.length := by simpa using h
     have : i = rr.length := by omega
     subst this
     exact xr rfl (z7 rfl ⟨⟨rfl, (by show Value.int _ _ = Value.int _ _; rw [List.take_length]; rfl), trivial⟩, z1 rfl⟩)
theorem y48 (x0 : List (List Cell)) (b : Int) (h0 : WR 9223372036854775807 yn x0) (hb0 : 0 ≤ b) (hb1 : b ≤ 1048576) : PC Tryz.prog 96 [.agg [.l x0], .one (.s (.int .i64 b))] (rI (szn b (tot qb [.l x0]))) := by
 refine PC.begin Tryz.func96 rfl (by kernel_rfl) ?_
 have ht : tot qb [.l x0] = zj yn x0 := by simp only [tot, zj] <;> omega
 refine z6 rfl (y6e x0 b h0 hb0 hb1) rfl ⟨trivial, trivial, trivial⟩ ?_
 refine xb rfl (fun h => ?_) (fun e0 => ?_)
 · have h : szn b (zj yn x0) < 0 := by simpa using h
   exact xr rfl (z7 rfl ⟨⟨rfl, (by show Value.int _ _ = Value.int _ _; congr 1; rw [ht]; unfold szn at *; split at h <;> rw [if_pos] <;> omega), trivial⟩, z1 rfl⟩)
 have e0 : 0 ≤ szn b (zj yn x0) := by simpa using e0
 exact xr rfl (z7 rfl ⟨⟨rfl, (by show Value.int _ _ = Value.int _ _; rw [ht]), trivial⟩, z1 rfl⟩)
theorem q3b (rr : List (List Cell)) (b : Int) (hw : WR 9223372036854775807 qb rr) (p0 : 0 ≤ b) (p1 : b ≤ 1048576) : PC Tryz.prog 35 [.one (.l rr), .one (.s (.int .i64 b))] (rI (szn b (zj qb rr))) := by
 refine PC.begin Tryz.func35 rfl (by kernel_rfl) ?_
 have hlen := hw.1
 have w1 : IntKind.i64.wrap (b - rr.length) = b - rr.length := wrap_i64 (by omega) (by omega)
 refine xb rfl (fun h => ?_) (fun h => ?_)
 · simp only [w1, decide_eq_true_eq] at h
   exact xr rfl (z7 rfl ⟨⟨rfl, (by show Value.int _ _ = Value.int _ _; unfold szn zj; rw [if_pos (by omega)]), trivial⟩, z1 rfl⟩)
 simp only [w1, decide_eq_false_iff_not] at h
 have hs : szn b rr.length = b - rr.length := by unfold szn; rw [if_neg h]
 refine qc rfl (ι := Nat) (fun i => i ≤ rr.length ∧ 0 ≤ szn b (rr.length + z08 (tot qb) (rr.take i))) (fun i => ⟨[(5, sV (.int .i64 i)), (1, sV (.int .i64 (szn b (rr.length + z08 (tot qb) (rr.take i))))), (0, .one (.b (.l rr)))], []⟩) (fun i => rr.length - i) 0 ⟨Nat.zero_le _, by simp only [List.take_zero, z08, Nat.add_zero, hs]; omega⟩ ?_ ?_
 · refine ⟨⟨rfl, ?_, rfl, trivial⟩, trivial, rfl⟩
   show Cell.s (.int .i64 (IntKind.i64.wrap (b - rr.length))) = Cell.s (.int .i64 (szn b (rr.length + 0)))
   rw [w1, Nat.add_zero, hs]
 · intro i ⟨hi, hb⟩ J hJ
   refine xb rfl (fun h => ?_) (fun h => ?_)
   · have h : i < rr.length := by simpa using h
     obtain ⟨row, hg⟩ : ∃ row, rr[i]? = some row := ⟨_, List.getElem?_eq_getElem h⟩
     have hc := z0i (f := tot qb) hg
     have hc2 := y09 (tot qb) rr (i + 1)
     obtain ⟨x0, rfl, h0⟩ := z0d (hw.2 row (List.mem_of_getElem? hg))
     refine xs rfl (Int.natCast_nonneg _) (ya rfl _ hg (xs rfl rfl ?_))
     refine z6 rfl (y48 _ _ h0 hb (z0e p1 p0)) rfl ⟨⟨trivial, trivial⟩, trivial, trivial⟩ ?_
     refine xb rfl (fun hn => ?_) (fun hn => ?_)
     · have hn : szn (szn b (rr.length + z08 (tot qb) (rr.take i))) (tot qb [.l x0]) < 0 := by simpa using hn
       rw [yh hb] at hn
       exact xr rfl (z7 rfl ⟨⟨rfl, (by show Value.int _ _ = Value.int _ _; congr 1; unfold szn zj at *; split at hn <;> rw [if_pos] <;> omega), trivial⟩, z1 rfl⟩)
     · have hn : ¬ szn (szn b (rr.length + z08 (tot qb) (rr.take i))) (tot qb [.l x0]) < 0 := by simpa using hn
       have he := yh (n := tot qb [.l x0]) hb
       rw [he] at hn
       rw [Nat.add_assoc, ← hc] at he hn
       refine q9 rfl (hJ _ (i + 1) ⟨by omega, by omega⟩ (by omega) ?_)
       refine ⟨⟨cwi (by omega) (by omega) (by omega), ?_, rfl, trivial⟩, trivial, rfl⟩
       exact congrArg (fun n => Cell.s (.int .i64 n)) he
   · have h : ¬ i < rr.length := by simpa using h
     have : i = rr.length := by omega
     subst this
     exact xr rfl (z7 rfl ⟨⟨rfl, (by show Value.int _ _ = Value.int _ _; rw [List.take_length]; rfl), trivial⟩, z1 rfl⟩)
theorem y8d (x0 : Int) (x1 : Int) (x2 : Int) (x3 : Int) (x4 : List (List Cell)) (x5 : List (List Cell)) (b : Int) (h4 : WR 9223372036854775807 (.i .i64 .nil) x4) (h5 : WR 9223372036854775807 zo x5) (hb0 : 0 ≤ b) (hb1 : b ≤ 1048576) : PC Tryz.prog 249 [.agg [.s (.int .i64 x0), .s (.int .i64 x1), .s (.int .i64 x2), .s (.int .i64 x3), .l x4, .l x5], .one (.s (.int .i64 b))] (rI (szn b (tot zq [.s (.int .i64 x0), .s (.int .i64 x1), .s (.int .i64 x2), .s (.int .i64 x3), .l x4, .l x5]))) := by
 refine PC.begin Tryz.func249 rfl (by kernel_rfl) ?_
 have ht : tot zq [.s (.int .i64 x0), .s (.int .i64 x1), .s (.int .i64 x2), .s (.int .i64 x3), .l x4, .l x5] = zj (.i .i64 .nil) x4 + zj zo x5 := by simp only [tot, zj] <;> omega
 refine z6 rfl (z32 x4 b h4 hb0 hb1) rfl ⟨trivial, trivial, trivial⟩ ?_
 refine xb rfl (fun h => ?_) (fun e0 => ?_)
 · have h : szn b (zj (.i .i64 .nil) x4) < 0 := by simpa using h
   exact xr rfl (z7 rfl ⟨⟨rfl, (by show Value.int _ _ = Value.int _ _; congr 1; rw [ht]; unfold szn at *; split at h <;> rw [if_pos] <;> omega), trivial⟩, z1 rfl⟩)
 have e0 : 0 ≤ szn b (zj (.i .i64 .nil) x4) := by simpa using e0
 refine z6 rfl (q3l x5 (szn b (zj (.i .i64 .nil) x4)) h5 e0 (z0e hb1 hb0)) rfl ⟨trivial, trivial, trivial⟩ ?_
 refine xb rfl (fun h => ?_) (fun e1 => ?_)
 · have h : szn (szn b (zj (.i .i64 .nil) x4)) (zj zo x5) < 0 := by simpa using h
   rw [yh e0] at h
   exact xr rfl (z7 rfl ⟨⟨rfl, (by show Value.int _ _ = Value.int _ _; congr 1; rw [ht]; unfold szn at *; split at h <;> rw [if_pos] <;> omega), trivial⟩, z1 rfl⟩)
 have e1 : 0 ≤ szn b (zj (.i .i64 .nil) x4 + zj zo x5) := by rw [← yh e0]; simpa using e1
 rw [yh e0]
 exact xr rfl (z7 rfl ⟨⟨rfl, (by show Value.int _ _ = Value.int _ _; rw [ht]), trivial⟩, z1 rfl⟩)
theorem z7j (rr : List (List Cell)) (b : Int) (hw : WR 9223372036854775807 zq rr) (p0 : 0 ≤ b) (p1 : b ≤ 1048576) : PC Tryz.prog 173 [.one (.l rr), .one (.s (.int .i64 b))] (rI (szn b (zj zq rr))) := by
 refine PC.begin Tryz.func173 rfl (by kernel_rfl) ?_
 have hlen := hw.1
 have w1 : IntKind.i64.wrap (b - rr.length) = b - rr.length := wrap_i64 (by omega) (by omega)
 refine xb rfl (fun h => ?_) (fun h => ?_)
 · simp only [w1, decide_eq_true_eq] at h
   exact xr rfl (z7 rfl ⟨⟨rfl, (by show Value.int _ _ = Value.int _ _; unfold szn zj; rw [if_pos (by omega)]), trivial⟩, z1 rfl⟩)
 simp only [w1, decide_eq_false_iff_not] at h
 have hs : szn b rr.length = b - rr.length := by unfold szn; rw [if_neg h]
 refine qc rfl (ι := Nat) (fun i => i ≤ rr.length ∧ 0 ≤ szn b (rr.length + z08 (tot zq) (rr.take i))) (fun i => ⟨[(5, sV (.int .i64 i)), (1, sV (.int .i64 (szn b (rr.length + z08 (tot zq) (rr.take i))))), (0, .one (.b (.l rr)))], []⟩) (fun i => rr.length - i) 0 ⟨Nat.zero_le _, by simp only [List.take_zero, z08, Nat.add_zero, hs]; omega⟩ ?_ ?_
 · refine ⟨⟨rfl, ?_, rfl, trivial⟩, trivial, rfl⟩
   show Cell.s (.int .i64 (IntKind.i64.wrap (b - rr.length))) = Cell.s (.int .i64 (szn b (rr.length + 0)))
   rw [w1, Nat.add_zero, hs]
 · intro i ⟨hi, hb⟩ J hJ
   refine xb rfl (fun h => ?_) (fun h => ?_)
   · have h : i < rr.length := by simpa using h
     obtain ⟨row, hg⟩ : ∃ row, rr[i]? = some row := ⟨_, List.getElem?_eq_getElem h⟩
     have hc := z0i (f := tot zq) hg
     have hc2 := y09 (tot zq) rr (i + 1)
     obtain ⟨x0, x1, x2, x3, x4, x5, rfl, h4, h5⟩ := q2u (hw.2 row (List.mem_of_getElem? hg))
     refine xs rfl (Int.natCast_nonneg _) (ya rfl _ hg (xs rfl rfl ?_))
     refine z6 rfl (y8d _ _ _ _ _ _ _ h4 h5 hb (z0e p1 p0)) rfl ⟨⟨trivial, trivial, trivial, trivial, trivial, trivial, trivial⟩, trivial, trivial⟩ ?_
     refine xb rfl (fun hn => ?_) (fun hn => ?_)
     · have hn : szn (szn b (rr.length + z08 (tot zq) (rr.take i))) (tot zq [.s (.int .i64 x0), .s (.int .i64 x1), .s (.int .i64 x2), .s (.int .i64 x3), .l x4, .l x5]) < 0 := by simpa using hn
       rw [yh hb] at hn
       exact xr rfl (z7 rfl ⟨⟨rfl, (by show Value.int _ _ = Value.int _ _; congr 1; unfold szn zj at *; split at hn <;> rw [if_pos] <;> omega), trivial⟩, z1 rfl⟩)
     · have hn : ¬ szn (szn b (rr.length + z08 (tot zq) (rr.take i))) (tot zq [.s (.int .i64 x0), .s (.int .i64 x1), .s (.int .i64 x2), .s (.int .i64 x3), .l x4, .l x5]) < 0 := by simpa using hn
       have he := yh (n := tot zq [.s (.int .i64 x0), .s (.int .i64 x1), .s (.int .i64 x2), .s (.int .i64 x3), .l x4, .l x5]) hb
       rw [he] at hn
       rw [Nat.add_assoc, ← hc] at he hn
       refine q9 rfl (hJ _ (i + 1) ⟨by omega, by omega⟩ (by omega) ?_)
       refine ⟨⟨cwi (by omega) (by omega) (by omega), ?_, rfl, trivial⟩, trivial, rfl⟩
       exact congrArg (fun n => Cell.s (.int .i64 n)) he
   · have h : ¬ i < rr.length := by simpa using h
     have : i = rr.length := by omega
     subst this
     exact xr rfl (z7 rfl ⟨⟨rfl, (by show Value.int _ _ = Value.int _ _; rw [List.take_length]; rfl), trivial⟩, z1 rfl⟩)
theorem q5e (rr : List (List Cell)) (b : Int) (hw : WR 9223372036854775807 yr rr) (p0 : 0 ≤ b) (p1 : b ≤ 1048576) : PC Tryz.prog 174 [.one (.l rr), .one (.s (.int .i64 b))] (rI (szn b (zj yr rr))) := by
 refine PC.begin Tryz.func174 rfl (by kernel_rfl) ?_
 have hlen := hw.1
 have w1 : IntKind.i64.wrap (b - rr.length) = b - rr.length := wrap_i64 (by omega) (by omega)
 rw [z0m (fun row hr => by obtain ⟨x0, x1, x2, x3, x4, rfl⟩ := q14 hr; rfl) hw]
 refine xb rfl (fun h => ?_) (fun h => ?_)
 · simp only [w1, decide_eq_true_eq] at h
   exact xr rfl (z7 rfl ⟨⟨rfl, (by show Value.int _ _ = Value.int _ _; rw [szn, if_pos h]), trivial⟩, z1 rfl⟩)
 · simp only [w1, decide_eq_false_iff_not] at h
   exact xr rfl (z7 rfl ⟨⟨rfl, (by show Value.int .i64 (IntKind.i64.wrap (b - rr.length)) = Value.int _ _; rw [szn, if_neg h, w1]), trivial⟩, z1 rfl⟩)
theorem z5f (x0 : Int) (x1 : List (List Cell)) (x2 : List (List Cell)) (b : Int) (h1 : WR 9223372036854775807 zq x1) (h2 : WR 9223372036854775807 yr x2) (hb0 : 0 ≤ b) (hb1 : b ≤ 1048576) : PC Tryz.prog 97 [.agg [.s (.int .i64 x0), .l x1, .l x2], .one (.s (.int .i64 b))] (rI (szn b (tot zg [.s (.int .i64 x0), .l x1, .l x2]))) := by
 refine PC.begin Tryz.func97 rfl (by kernel_rfl) ?_
 have ht : tot zg [.s (.int .i64 x0), .l x1, .l x2] = zj zq x1 + zj yr x2 := by simp only [tot, zj] <;> omega
 refine z6 rfl (z7j x1 b h1 hb0 hb1) rfl ⟨trivial, trivial, trivial⟩ ?_
 refine xb rfl (fun h => ?_) (fun e0 => ?_)
 · have h : szn b (zj zq x1) < 0 := by simpa using h
   exact xr rfl (z7 rfl ⟨⟨rfl, (by show Value.int _ _ = Value.int _ _; congr 1; rw [ht]; unfold szn at *; split at h <;> rw [if_pos] <;> omega), trivial⟩, z1 rfl⟩)
 have e0 : 0 ≤ szn b (zj zq x1) := by simpa using e0
 refine z6 rfl (q5e x2 (szn b (zj zq x1)) h2 e0 (z0e hb1 hb0)) rfl ⟨trivial, trivial, trivial⟩ ?_
 refine xb rfl (fun h => ?_) (fun e1 => ?_)
 · have h : szn (szn b (zj zq x1)) (zj yr x2) < 0 := by simpa using h
   rw [yh e0] at h
   exact xr rfl (z7 rfl ⟨⟨rfl, (by show Value.int _ _ = Value.int _ _; congr 1; rw [ht]; unfold szn at *; split at h <;> rw [if_pos] <;> omega), trivial⟩, z1 rfl⟩)
 have e1 : 0 ≤ szn b (zj zq x1 + zj yr x2) := by rw [← yh e0]; simpa using e1
 rw [yh e0]
 exact xr rfl (z7 rfl ⟨⟨rfl, (by show Value.int _ _ = Value.int _ _; rw [ht]), trivial⟩, z1 rfl⟩)
theorem z4v (rr : List (List Cell)) (b : Int) (hw : WR 9223372036854775807 zg rr) (p0 : 0 ≤ b) (p1 : b ≤ 1048576) : PC Tryz.prog 36 [.one (.l rr), .one (.s (.int .i64 b))] (rI (szn b (zj zg rr))) := by
 refine PC.begin Tryz.func36 rfl (by kernel_rfl) ?_
 have hlen := hw.1
 have w1 : IntKind.i64.wrap (b - rr.length) = b - rr.length := wrap_i64 (by omega) (by omega)
 refine xb rfl (fun h => ?_) (fun h => ?_)
 · simp only [w1, decide_eq_true_eq] at h
   exact xr rfl (z7 rfl ⟨⟨rfl, (by show Value.int _ _ = Value.int _ _; unfold szn zj; rw [if_pos (by omega)]), trivial⟩, z1 rfl⟩)
 simp only [w1, decide_eq_false_iff_not] at h
 have hs : szn b rr.length = b - rr.length := by unfold szn; rw [if_neg h]
 refine qc rfl (ι := Nat) (fun i => i ≤ rr.length ∧ 0 ≤ szn b (rr.length + z08 (tot zg) (rr.take i))) (fun i => ⟨[(5, sV (.int .i64 i)), (1, sV (.int .i64 (szn b (rr.length + z08 (tot zg) (rr.take i))))), (0, .one (.b (.l rr)))], []⟩) (fun i => rr.length - i) 0 ⟨Nat.zero_le _, by simp only [List.take_zero, z08, Nat.add_zero, hs]; omega⟩ ?_ ?_
 · refine ⟨⟨rfl, ?_, rfl, trivial⟩, trivial, rfl⟩
   show Cell.s (.int .i64 (IntKind.i64.wrap (b - rr.length))) = Cell.s (.int .i64 (szn b (rr.length + 0)))
   rw [w1, Nat.add_zero, hs]
 · intro i ⟨hi, hb⟩ J hJ
   refine xb rfl (fun h => ?_) (fun h => ?_)
   · have h : i < rr.length := by simpa using h
     obtain ⟨row, hg⟩ : ∃ row, rr[i]? = some row := ⟨_, List.getElem?_eq_getElem h⟩
     have hc := z0i (f := tot zg) hg
     have hc2 := y09 (tot zg) rr (i + 1)
     obtain ⟨x0, x1, x2, rfl, h1, h2⟩ := z0u (hw.2 row (List.mem_of_getElem? hg))
     refine xs rfl (Int.natCast_nonneg _) (ya rfl _ hg (xs rfl rfl ?_))
     refine z6 rfl (z5f _ _ _ _ h1 h2 hb (z0e p1 p0)) rfl ⟨⟨trivial, trivial, trivial, trivial⟩, trivial, trivial⟩ ?_
     refine xb rfl (fun hn => ?_) (fun hn => ?_)
     · have hn : szn (szn b (rr.length + z08 (tot zg) (rr.take i))) (tot zg [.s (.int .i64 x0), .l x1, .l x2]) < 0 := by simpa using hn
       rw [yh hb] at hn
       exact xr rfl (z7 rfl ⟨⟨rfl, (by show Value.int _ _ = Value.int _ _; congr 1; unfold szn zj at *; split at hn <;> rw [if_pos] <;> omega), trivial⟩, z1 rfl⟩)
     · have hn : ¬ szn (szn b (rr.length + z08 (tot zg) (rr.take i))) (tot zg [.s (.int .i64 x0), .l x1, .l x2]) < 0 := by simpa using hn
       have he := yh (n := tot zg [.s (.int .i64 x0), .l x1, .l x2]) hb
       rw [he] at hn
       rw [Nat.add_assoc, ← hc] at he hn
       refine q9 rfl (hJ _ (i + 1) ⟨by omega, by omega⟩ (by omega) ?_)
       refine ⟨⟨cwi (by omega) (by omega) (by omega), ?_, rfl, trivial⟩, trivial, rfl⟩
       exact congrArg (fun n => Cell.s (.int .i64 n)) he
   · have h : ¬ i < rr.length := by simpa using h
     have : i = rr.length := by omega
     subst this
     exact xr rfl (z7 rfl ⟨⟨rfl, (by show Value.int _ _ = Value.int _ _; rw [List.take_length]; rfl), trivial⟩, z1 rfl⟩)
theorem z49 (rr : List (List Cell)) (b : Int) (hw : WR 9223372036854775807 qm rr) (p0 : 0 ≤ b) (p1 : b ≤ 1048576) : PC Tryz.prog 37 [.one (.l rr), .one (.s (.int .i64 b))] (rI (szn b (zj qm rr))) := by
 refine PC.begin Tryz.func37 rfl (by kernel_rfl) ?_
 have hlen := hw.1
 have w1 : IntKind.i64.wrap (b - rr.length) = b - rr.length := wrap_i64 (by omega) (by omega)
 rw [z0m (fun row hr => by obtain ⟨x0, x1, x2, x3, x4, x5, x6, x7, x8, rfl⟩ := y0j hr; rfl) hw]
 refine xb rfl (fun h => ?_) (fun h => ?_)
 · simp only [w1, decide_eq_true_eq] at h
   exact xr rfl (z7 rfl ⟨⟨rfl, (by show Value.int _ _ = Value.int _ _; rw [szn, if_pos h]), trivial⟩, z1 rfl⟩)
 · simp only [w1, decide_eq_false_iff_not] at h
   exact xr rfl (z7 rfl ⟨⟨rfl, (by show Value.int .i64 (IntKind.i64.wrap (b - rr.length)) = Value.int _ _; rw [szn, if_neg h, w1]), trivial⟩, z1 rfl⟩)
theorem q4u (x0 : List (List Cell)) (x1 : List (List Cell)) (x2 : List (List Cell)) (x3 : List (List Cell)) (x4 : List (List Cell)) (b : Int) (h0 : WR 9223372036854775807 z8 x0) (h1 : WR 9223372036854775807 yg x1) (h2 : WR 9223372036854775807 qb x2) (h3 : WR 9223372036854775807 zg x3) (h4 : WR 9223372036854775807 qm x4) (hb0 : 0 ≤ b) (hb1 : b ≤ 1048576) : PC Tryz.prog 10 [.agg [.l x0, .l x1, .l x2, .l x3, .l x4], .one (.s (.int .i64 b))] (rI (szn b (tot qq [.l x0, .l x1, .l x2, .l x3, .l x4]))) := by
 refine PC.begin Tryz.func10 rfl (by kernel_rfl) ?_
 have ht : tot qq [.l x0, .l x1, .l x2, .l x3, .l x4] = zj z8 x0 + zj yg x1 + zj qb x2 + zj zg x3 + zj qm x4 := by simp only [tot, zj] <;> omega
 refine z6 rfl (z1i x0 b h0 hb0 hb1) rfl ⟨trivial, trivial, trivial⟩ ?_
 refine xb rfl (fun h => ?_) (fun e0 => ?_)
 · have h : szn b (zj z8 x0) < 0 := by simpa using h
   exact xr rfl (z7 rfl ⟨⟨rfl, (by show Value.int _ _ = Value.int _ _; congr 1; rw [ht]; unfold szn at *; split at h <;> rw [if_pos] <;> omega), trivial⟩, z1 rfl⟩)
 have e0 : 0 ≤ szn b (zj z8 x0) := by simpa using e0
 refine z6 rfl (q5f x1 (szn b (zj z8 x0)) h1 e0 (z0e hb1 hb0)) rfl ⟨trivial, trivial, trivial⟩ ?_
 refine xb rfl (fun h => ?_) (fun e1 => ?_)
 · have h : szn (szn b (zj z8 x0)) (zj yg x1) < 0 := by simpa using h
   rw [yh e0] at h
   exact xr rfl (z7 rfl ⟨⟨rfl, (by show Value.int _ _ = Value.int _ _; congr 1; rw [ht]; unfold szn at *; split at h <;> rw [if_pos] <;> omega), trivial⟩, z1 rfl⟩)
 have e1 : 0 ≤ szn b (zj z8 x0 + zj yg x1) := by rw [← yh e0]; simpa using e1
 rw [yh e0]
 refine z6 rfl (q3b x2 (szn b (zj z8 x0 + zj yg x1)) h2 e1 (z0e hb1 hb0)) rfl ⟨trivial, trivial, trivial⟩ ?_
 refine xb rfl (fun h => ?_) (fun e2 => ?_)
 · have h : szn (szn b (zj z8 x0 + zj yg x1)) (zj qb x2) < 0 := by simpa using h
   rw [yh e1] at h
   exact xr rfl (z7 rfl ⟨⟨rfl, (by show Value.int _ _ = Value.int _ _; congr 1; rw [ht]; unfold szn at *; split at h <;> rw [if_pos] <;> omega), trivial⟩, z1 rfl⟩)
 have e2 : 0 ≤ szn b (zj z8 x0 + zj yg x1 + zj qb x2) := by rw [← yh e1]; simpa using e2
 rw [yh e1]
 refine z6 rfl (z4v x3 (szn b (zj z8 x0 + zj yg x1 + zj qb x2)) h3 e2 (z0e hb1 hb0)) rfl ⟨trivial, trivial, trivial⟩ ?_
 refine xb rfl (fun h => ?_) (fun e3 => ?_)
 · have h : szn (szn b (zj z8 x0 + zj yg x1 + zj qb x2)) (zj zg x3) < 0 := by simpa using h
   rw [yh e2] at h
   exact xr rfl (z7 rfl ⟨⟨rfl, (by show Value.int _ _ = Value.int _ _; congr 1; rw [ht]; unfold szn at *; split at h <;> rw [if_pos] <;> omega), trivial⟩, z1 rfl⟩)
 have e3 : 0 ≤ szn b (zj z8 x0 + zj yg x1 + zj qb x2 + zj zg x3) := by rw [← yh e2]; simpa using e3
 rw [yh e2]
 refine z6 rfl (z49 x4 (szn b (zj z8 x0 + zj yg x1 + zj qb x2 + zj zg x3)) h4 e3 (z0e hb1 hb0)) rfl ⟨trivial, trivial, trivial⟩ ?_
 refine xb rfl (fun h => ?_) (fun e4 => ?_)
 · have h : szn (szn b (zj z8 x0 + zj yg x1 + zj qb x2 + zj zg x3)) (zj qm x4) < 0 := by simpa using h
   rw [yh e3] at h
   exact xr rfl (z7 rfl ⟨⟨rfl, (by show Value.int _ _ = Value.int _ _; congr 1; rw [ht]; unfold szn at *; split at h <;> rw [if_pos] <;> omega), trivial⟩, z1 rfl⟩)
 have e4 : 0 ≤ szn b (zj z8 x0 + zj yg x1 + zj qb x2 + zj zg x3 + zj qm x4) := by rw [← yh e3]; simpa using e4
 rw [yh e3]
 exact xr rfl (z7 rfl ⟨⟨rfl, (by show Value.int _ _ = Value.int _ _; rw [ht]), trivial⟩, z1 rfl⟩)
end Go.Proofs.YtbnbjaedijbnpaaGreat
end
section
namespace Go.Proofs.YtbnbjaedijbnpaaGreat
open Go Go.Sx
set_option maxRecDepth 20000
set_option maxHeartbeats 4000000
theorem z9u (x0 x1 x2 x3 x4 : List (List Cell)) (hw : WT 9223372036854775807 qq [.l x0, .l x1, .l x2, .l x3, .l x4]) (b : Nat) (hb : b ≤ 1048576) :
 PC Tryz.prog 10 [.agg [.l x0, .l x1, .l x2, .l x3, .l x4], .one (i64 b)] (rI (-1)) ∨ ∃ c : Clu, x0 = c.cons.map Con.cs ∧ x1 = c.shs.map Shd.cs ∧ x2 = c.accs.map Acc.cs ∧ x3 = c.ldrs.map Ldr.cs ∧ x4 = c.msgs.map Msg.cs ∧ y00 c ∧ (WT 1048576 qq c.cs ∧ tot qq c.cs ≤ b) ∧
  (∃ n : Nat, n ≤ b ∧ PC Tryz.prog 10 [.agg c.cs, .one (i64 b)] (rI n)) ∧ PC Tryz.prog 13 [.agg c.cs] (.one (.own true [.l 2 (c.cons.map Con.cs), .l 6 (c.shs.map Shd.cs), .l 1 (c.accs.map Acc.cs), .l 3 (c.ldrs.map Ldr.cs), .l 9 (c.msgs.map Msg.cs)])) ∧
  PC Tryz.prog 16 [.agg c.cs, .agg c.cs] (rB true) := by
 obtain ⟨_, _, _, _, _, e, k0, k1, k2, k3, k4⟩ := z0y hw
 cases e
 have hsz := q4u x0 x1 x2 x3 x4 b k0 k1 k2 k3 k4 (by omega) (by omega)
 by_cases ht : tot qq [.l x0, .l x1, .l x2, .l x3, .l x4] ≤ b
 · right
   have hs : szn b (tot qq [.l x0, .l x1, .l x2, .l x3, .l x4]) = ((b - tot qq [.l x0, .l x1, .l x2, .l x3, .l x4] : Nat) : Int) := by
    unfold szn; rw [if_neg (by omega)]; omega
   rw [hs] at hsz
   have hwt := y8q hw (Nat.le_trans ht hb)
   obtain ⟨_, _, _, _, _, e, m0, m1, m2, m3, m4⟩ := z0y hwt
   cases e
   obtain ⟨c, ec, ho⟩ := q4f _ hwt
   have up : ∀ {e : Sh} {r : List (List Cell)}, WR 1048576 e r → WR 9000000000000000000 e r := fun h => h.mono (by omega)
   have heq := y4h x0 x1 x2 x3 x4 x0 x1 x2 x3 x4 (up m0) (up m1) (up m2) (up m3) (up m4) (up m0) (up m1) (up m2) (up m3) (up m4)
   rw [show dE (α := List Cell) [.l x0, .l x1, .l x2, .l x3, .l x4] [.l x0, .l x1, .l x2, .l x3, .l x4] = true from (Value.bool.inj (qs rfl)).symm] at heq
   have hto := z4w x0 x1 x2 x3 x4 m0 m1 m2 m3 m4
   simp only [Clu.cs, List.cons.injEq, Cell.l.injEq, and_true] at ec
   obtain ⟨rfl, rfl, rfl, rfl, rfl⟩ := ec
   exact ⟨c, rfl, rfl, rfl, rfl, rfl, ho, ⟨hwt, ht⟩, ⟨_, Nat.sub_le _ _, hsz⟩, hto, heq⟩
 · left
   have hs : szn b (tot qq [.l x0, .l x1, .l x2, .l x3, .l x4]) = -1 := by
    unfold szn; rw [if_pos (by omega)]
   rw [hs] at hsz
   exact hsz
end Go.Proofs.YtbnbjaedijbnpaaGreat
end
section
namespace Go.Proofs.YtbnbjaedijbnpaaGreat
open Go Go.Sx
set_option maxRecDepth 20000
set_option maxHeartbeats 4000000
theorem q3c (rr : List (List Cell)) (hw : WR 1048576 (.l q8 .nil) rr) : PC Tryz.prog 44 [.one (.l rr)] (.one (.own false [.l 1 rr])) := by
 refine PC.begin Tryz.func44 rfl (by kernel_rfl) ?_
 have hlen := hw.1
 refine xs rfl rfl (xs rfl (Int.natCast_nonneg _) (xs rfl (by omega) (xs rfl (by omega) ?_)))
 refine qc rfl (ι := Nat) (fun i => i ≤ rr.length) (fun i => ⟨[(4, sV (.int .i64 i)), (3, .one (.h 7 rr.length)), (0, .one (.b (.l rr)))], [(7, .arr true 1 0 (rr.take i ++ List.replicate (rr.length - i) [.l []]))]⟩) (fun i => rr.length - i) 0 (Nat.zero_le _) ?_ ?_
 · repeat' (first | exact trivial | exact rfl | exact Or.inl rfl | refine And.intro ?_ ?_)
 · intro i hi J hJ
   refine xb rfl (fun h => ?_) (fun h => ?_)
   · have h : i < rr.length := by simpa using h
     obtain ⟨row, hg⟩ : ∃ row, rr[i]? = some row := ⟨_, List.getElem?_eq_getElem h⟩
     obtain ⟨x0, _, rfl, h0, hnil⟩ := ((hw.2 row (List.mem_of_getElem? hg))).q0j; obtain rfl := hnil.qp
     refine xs rfl (Int.natCast_nonneg _) (ya rfl _ hg (xs rfl rfl ?_))
     refine z6 rfl (z1z _ h0) rfl ⟨trivial, trivial⟩ ?_
     refine xs rfl (qe _ _ _ _ (by omega) rfl).symm (xs rfl (Int.natCast_nonneg _) (ya rfl [.l []] (zl _ _ _ _ (by omega) rfl) (xs rfl rfl ?_)))
     refine xs rfl (qe _ _ _ _ (by omega) rfl).symm (ya rfl [.l []] (zl _ _ _ _ (by omega) rfl) (xs rfl (by decide) (xs rfl ⟨⟨rfl, rfl⟩, trivial⟩ ?_)))
     refine q9 rfl (hJ _ (i + 1) (by omega) (by omega) ?_)
     repeat' (first | exact trivial | exact rfl | exact Or.inl rfl | exact cwi (by omega) (by omega) (by omega) | refine And.intro ?_ ?_)
     exact qz _ _ _ _ _ hg rfl
   · have h : ¬ i < rr.length := by simpa using h
     have : i = rr.length := by omega
     subst this
     refine xr rfl (z7 rfl ⟨⟨rfl, ⟨(qe _ _ _ _ (by omega) rfl).symm, zz _ _ _ rfl, Or.inl rfl⟩, trivial⟩, z1 rfl⟩)
theorem q5g (x0 : List (List Cell)) (h0 : WR 1048576 (.l q8 .nil) x0) : PC Tryz.prog 12 [.agg [.l x0]] (.one (.own true [.l 1 x0])) := by
 refine PC.begin Tryz.func12 rfl (by kernel_rfl) ?_
 refine z6 rfl (q3c _ h0) rfl ⟨trivial, trivial⟩ ?_
 exact xr rfl (z7 rfl ⟨⟨rfl, ⟨rfl, rfl, .inl rfl⟩, trivial⟩, z1 rfl⟩)
theorem z3c (rr : List (List Cell)) (b : Int) (hw : WR 9223372036854775807 (.l q8 .nil) rr) (p0 : 0 ≤ b) (p1 : b ≤ 1048576) : PC Tryz.prog 32 [.one (.l rr), .one (.s (.int .i64 b))] (rI (szn b (zj (.l q8 .nil) rr))) := by
 refine PC.begin Tryz.func32 rfl (by kernel_rfl) ?_
 have hlen := hw.1
 have w1 : IntKind.i64.wrap (b - rr.length) = b - rr.length := wrap_i64 (by omega) (by omega)
 refine xb rfl (fun h => ?_) (fun h => ?_)
 · simp only [w1, decide_eq_true_eq] at h
   exact xr rfl (z7 rfl ⟨⟨rfl, (by show Value.int _ _ = Value.int _ _; unfold szn zj; rw [if_pos (by omega)]), trivial⟩, z1 rfl⟩)
 simp only [w1, decide_eq_false_iff_not] at h
 have hs : szn b rr.length = b - rr.length := by unfold szn; rw [if_neg h]
 refine qc rfl (ι := Nat) (fun i => i ≤ rr.length ∧ 0 ≤ szn b (rr.length + z08 (tot (.l q8 .nil)) (rr.take i))) (fun i => ⟨[(5, sV (.int .i64 i)), (1, sV (.int .i64 (szn b (rr.length + z08 (tot (.l q8 .nil)) (rr.take i))))), (0, .one (.b (.l rr)))], []⟩) (fun i => rr.length - i) 0 ⟨Nat.zero_le _, by simp only [List.take_zero, z08, Nat.add_zero, hs]; omega⟩ ?_ ?_
 · refine ⟨⟨rfl, ?_, rfl, trivial⟩, trivial, rfl⟩
   show Cell.s (.int .i64 (IntKind.i64.wrap (b - rr.length))) = Cell.s (.int .i64 (szn b (rr.length + 0)))
   rw [w1, Nat.add_zero, hs]
 · intro i ⟨hi, hb⟩ J hJ
   refine xb rfl (fun h => ?_) (fun h => ?_)
   · have h : i < rr.length := by simpa using h
     obtain ⟨row, hg⟩ : ∃ row, rr[i]? = some row := ⟨_, List.getElem?_eq_getElem h⟩
     have hc := z0i (f := tot (.l q8 .nil)) hg
     have hc2 := y09 (tot (.l q8 .nil)) rr (i + 1)
     obtain ⟨x0, _, rfl, h0', hnil⟩ := ((hw.2 row (List.mem_of_getElem? hg))).q0j; obtain rfl := hnil.qp
     have ht0 : tot (.l q8 .nil) [.l x0] = zj q8 x0 := by simp only [tot, zj] <;> omega
     refine xs rfl (Int.natCast_nonneg _) (ya rfl _ hg (xs rfl rfl ?_))
     refine z6 rfl (q1y _ _ h0' hb (z0e p1 p0)) rfl ⟨trivial, trivial, trivial⟩ ?_
     refine xb rfl (fun hn => ?_) (fun hn => ?_)
     · have hn : szn (szn b (rr.length + z08 (tot (.l q8 .nil)) (rr.take i))) (tot (.l q8 .nil) [.l x0]) < 0 := by rw [ht0]; simpa using hn
       rw [yh hb] at hn
       exact xr rfl (z7 rfl ⟨⟨rfl, (by show Value.int _ _ = Value.int _ _; congr 1; unfold szn zj at *; split at hn <;> rw [if_pos] <;> omega), trivial⟩, z1 rfl⟩)
     · have hn : ¬ szn (szn b (rr.length + z08 (tot (.l q8 .nil)) (rr.take i))) (tot (.l q8 .nil) [.l x0]) < 0 := by rw [ht0]; simpa using hn
       have he := yh (n := tot (.l q8 .nil) [.l x0]) hb
       rw [he] at hn
       rw [Nat.add_assoc, ← hc] at he hn
       refine q9 rfl (hJ _ (i + 1) ⟨by omega, by omega⟩ (by omega) ?_)
       refine ⟨⟨cwi (by omega) (by omega) (by omega), ?_, rfl, trivial⟩, trivial, rfl⟩
       exact congrArg (fun n => Cell.s (.int .i64 n)) he
   · have h : ¬ i < rr.length := by simpa using h
     have : i = rr.length := by omega
     subst this
     exact xr rfl (z7 rfl ⟨⟨rfl, (by show Value.int _ _ = Value.int _ _; rw [List.take_length]; rfl), trivial⟩, z1 rfl⟩)
theorem y5f (x0 : List (List Cell)) (b : Int) (h0 : WR 9223372036854775807 (.l q8 .nil) x0) (hb0 : 0 ≤ b) (hb1 : b ≤ 1048576) : PC Tryz.prog 9 [.agg [.l x0], .one (.s (.int .i64 b))] (rI (szn b (tot q02 [.l x0]))) := by
 refine PC.begin Tryz.func9 rfl (by kernel_rfl) ?_
 have ht : tot q02 [.l x0] = zj (.l q8 .nil) x0 := by simp only [tot, zj] <;> omega
 refine z6 rfl (z3c x0 b h0 hb0 hb1) rfl ⟨trivial, trivial, trivial⟩ ?_
 refine xb rfl (fun h => ?_) (fun e0 => ?_)
 · have h : szn b (zj (.l q8 .nil) x0) < 0 := by simpa using h
   exact xr rfl (z7 rfl ⟨⟨rfl, (by show Value.int _ _ = Value.int _ _; congr 1; rw [ht]; unfold szn at *; split at h <;> rw [if_pos] <;> omega), trivial⟩, z1 rfl⟩)
 have e0 : 0 ≤ szn b (zj (.l q8 .nil) x0) := by simpa using e0
 exact xr rfl (z7 rfl ⟨⟨rfl, (by show Value.int _ _ = Value.int _ _; rw [ht]), trivial⟩, z1 rfl⟩)
end Go.Proofs.YtbnbjaedijbnpaaGreat
end
section
namespace Go.Proofs.YtbnbjaedijbnpaaGreat
open Go Go.Sx
set_option maxRecDepth 20000
set_option maxHeartbeats 4000000
theorem y37 (p q : List (List Cell)) (hp : WR 9000000000000000000 (.l q8 .nil) p) (hq : WR 9000000000000000000 (.l q8 .nil) q) : PC Tryz.prog 53 [.one (.l p), .one (.l q)] (rB (dE p q)) := by
 refine PC.begin Tryz.func53 rfl (by kernel_rfl) ?_
 have hpl := hp.1
 have hql := hq.1
 refine xb rfl (fun h => ?_) (fun h => ?_)
 · exact xr rfl (z7 rfl ⟨⟨rfl, yi (fun e => by subst e; simp at h), trivial⟩, z1 rfl⟩)
 have hl : p.length = q.length := by simpa [Int.ofNat_inj] using h
 refine qc rfl (ι := Nat) (fun i => i ≤ p.length ∧ p.take i = q.take i) (fun i => ⟨[(5, sV (.int .i64 i)), (0, .one (.b (.l p))), (1, .one (.b (.l q)))], []⟩) (fun i => p.length - i) 0 ⟨Nat.zero_le _, rfl⟩ ?_ ?_
 · repeat' (first | exact trivial | exact rfl | exact Or.inl rfl | refine And.intro ?_ ?_)
 · intro i ⟨hi, he⟩ J hJ
   refine xb rfl (fun h => ?_) (fun h => ?_)
   · have h : i < p.length := by simpa using h
     obtain ⟨row, hg⟩ : ∃ row, p[i]? = some row := ⟨_, List.getElem?_eq_getElem h⟩
     obtain ⟨row', hg'⟩ : ∃ row, q[i]? = some row := ⟨_, List.getElem?_eq_getElem (by omega)⟩
     obtain ⟨x0, _, rfl, h0, hnil⟩ := ((hp.2 row (List.mem_of_getElem? hg))).q0j; obtain rfl := hnil.qp
     obtain ⟨y0, _, rfl, k0, knil⟩ := ((hq.2 row' (List.mem_of_getElem? hg'))).q0j; obtain rfl := knil.qp
     refine zb rfl [] (.take 0 [] (.take 1 [] (.take 2 [] (.take 3 [8, 9] (.take 4 [] (.take 5 [] (.take 6 [] (.take 7 [8, 9] (.alt 8 (.take 9 [] .done) .nil))))))))) (by kernel_rfl) ?_
     refine xs rfl (Int.natCast_nonneg _) (ya rfl _ hg (xs rfl rfl ?_))
     refine xs rfl (Int.natCast_nonneg _) (ya rfl _ hg' (xs rfl rfl ?_))
     refine z6 rfl (q1p _ _ h0 k0) rfl ⟨trivial, trivial, trivial⟩ ?_
     refine xb rfl (fun hb => ?_) (fun hb => ?_)
     · exact xr rfl (z7 rfl ⟨⟨rfl, yi (fun e => by subst e; rw [hg] at hg'; cases hg'; exact z02 hb rfl), trivial⟩, z1 rfl⟩)
     · have hb := q01 hb
       refine q9 rfl (hJ _ (i + 1) ⟨by omega, ym he hg (hg'.trans (by rw [hb]))⟩ (by omega) ?_)
       repeat' (first | exact trivial | exact rfl | exact Or.inl rfl | exact cwi (by omega) (by omega) (by omega) | refine And.intro ?_ ?_)
   · have h : ¬ i < p.length := by simpa using h
     exact xr rfl (z7 rfl ⟨⟨rfl, qs (by rw [show i = p.length by omega, List.take_length] at he; rw [he, hl, List.take_length]), trivial⟩, z1 rfl⟩)
theorem y54 (x0 : List (List Cell)) (y0 : List (List Cell)) (h0 : WR 9000000000000000000 (.l q8 .nil) x0) (k0 : WR 9000000000000000000 (.l q8 .nil) y0) : PC Tryz.prog 15 [.agg [.l x0], .agg [.l y0]] (rB (dE (α := List Cell) [.l x0] [.l y0])) := by
 refine PC.begin Tryz.func15 rfl (by kernel_rfl) ?_
 refine z6 rfl (y37 _ _ h0 k0) rfl ⟨trivial, trivial, trivial⟩ ?_
 refine xb rfl (fun h => ?_) (fun e0 => ?_)
 · exact xr rfl (z7 rfl ⟨⟨rfl, yi (fun e => z02 h (by simp only [List.cons.injEq, Cell.l.injEq] at e ⊢; simp only [e]; try trivial)), trivial⟩, z1 rfl⟩)
 have e0 := q01 e0
 exact xr rfl (z7 rfl ⟨⟨rfl, qs (by simp [e0]), trivial⟩, z1 rfl⟩)
end Go.Proofs.YtbnbjaedijbnpaaGreat
end
section
namespace Go.Proofs.YtbnbjaedijbnpaaGreat
open Go Go.Sx
set_option maxRecDepth 20000
set_option maxHeartbeats 4000000
theorem y7w (row : List Cell) (h : WT 1048576 (.l q8 .nil) row) : ∃ us : List Bal, row = z2c us ∧ us.length ≤ 1048576 := by
 obtain ⟨x, _, rfl, h1, h2⟩ := h.q0j
 obtain rfl := h2.qp
 obtain ⟨us, rfl, l1, _⟩ := zx h1 z2a
 exact ⟨us, rfl, l1⟩
theorem q9z (x0 : List (List Cell)) (hw : WT 9223372036854775807 q02 [.l x0]) (b : Nat) (hb : b ≤ 1048576) :
 PC Tryz.prog 9 [.agg [.l x0], .one (i64 b)] (rI (-1)) ∨ ∃ st : List (List Bal), x0 = qj st ∧ st.length ≤ 1048576 ∧ (∀ us ∈ st, us.length ≤ 1048576) ∧ (∃ n : Nat, n ≤ b ∧ PC Tryz.prog 9 [.agg [.l (qj st)], .one (i64 b)] (rI n)) ∧
  PC Tryz.prog 12 [.agg [.l (qj st)]] (.one (.own true [.l 1 (qj st)])) ∧ PC Tryz.prog 15 [.agg [.l (qj st)], .agg [.l (qj st)]] (rB true) := by
 obtain ⟨_, e, k0⟩ := y21 hw
 cases e
 have hsz := y5f x0 b k0 (by omega) (by omega)
 by_cases ht : tot q02 [.l x0] ≤ b
 · right
   have hs : szn b (tot q02 [.l x0]) = ((b - tot q02 [.l x0] : Nat) : Int) := by
    unfold szn; rw [if_neg (by omega)]; omega
   rw [hs] at hsz
   have hwt := y8q hw (Nat.le_trans ht hb)
   obtain ⟨_, e, m0⟩ := y21 hwt
   cases e
   have up : ∀ {e : Sh} {r : List (List Cell)}, WR 1048576 e r → WR 9000000000000000000 e r := fun h => h.mono (by omega)
   have heq := y54 x0 x0 (up m0) (up m0)
   rw [show dE (α := List Cell) [.l x0] [.l x0] = true from (Value.bool.inj (qs rfl)).symm] at heq
   have hto := q5g x0 m0
   obtain ⟨st, rfl, l1, p1⟩ := zx m0 y7w
   exact ⟨st, rfl, l1, p1, ⟨_, Nat.sub_le _ _, hsz⟩, hto, heq⟩
 · left
   have hs : szn b (tot q02 [.l x0]) = -1 := by
    unfold szn; rw [if_pos (by omega)]
   rw [hs] at hsz
   exact hsz
theorem y83 (gs cs : List Cell) (hg : WT 9223372036854775807 q02 gs) (hw : WT 9223372036854775807 qq cs) : PC Tryz.prog 3 [.agg gs, .agg cs] (rB true) := by
 refine PC.begin Tryz.func3 rfl (by kernel_rfl) ?_
 obtain ⟨g0, rfl, _⟩ := y21 hg
 obtain ⟨x0, x1, x2, x3, x4, rfl, _⟩ := z0y hw
 rcases q9z g0 hg 1048576 (Nat.le_refl _) with hgz | ⟨st, rfl, hsl, hsb, ⟨m, hm, hgz⟩, hgto, hgeq⟩
 · skip
   refine z6 rfl (hgz) rfl ⟨⟨trivial, trivial⟩, trivial, trivial⟩ ?_
   refine xj (k := 1) rfl ?_
   refine xr rfl (z7 rfl ⟨⟨rfl, rfl, trivial⟩, z1 rfl⟩)
 · rcases z9u x0 x1 x2 x3 x4 hw m hm with hsz | ⟨c, rfl, rfl, rfl, rfl, rfl, ho, hwt, ⟨n, _, hsz⟩, hto, heq⟩
   · skip
     refine z6 rfl (hgz) rfl ⟨⟨trivial, trivial⟩, trivial, trivial⟩ ?_
     refine xj (k := 1) rfl ?_
     refine z6 rfl (hsz) rfl ⟨⟨trivial, trivial, trivial, trivial, trivial, trivial⟩, trivial, trivial⟩ ?_
     refine xj (k := 1) rfl ?_
     refine xr rfl (z7 rfl ⟨⟨rfl, rfl, trivial⟩, z1 rfl⟩)
   · have hI := y6z st c ho hsl hsb
     have hS := z7d st c ho hsl hsb
     refine z6 rfl (hgz) rfl ⟨⟨trivial, trivial⟩, trivial, trivial⟩ ?_
     refine xj (k := 1) rfl ?_
     refine z6 rfl (hsz) rfl ⟨⟨trivial, trivial, trivial, trivial, trivial, trivial⟩, trivial, trivial⟩ ?_
     refine xj (k := 1) rfl ?_
     refine zb rfl [] (.take 0 [1, 3, 4, 5] (.take 2 [3, 4, 5] (.alt 1 (.alt 3 (.alt 4 (.take 5 [] .done) .nil) .nil) .nil))) (by kernel_rfl) ?_
     refine z6 rfl (hgto) rfl ⟨⟨trivial, trivial⟩, trivial⟩ ?_
     refine z6 rfl (hto) rfl ⟨⟨trivial, trivial, trivial, trivial, trivial, trivial⟩, trivial⟩ ?_
     refine z6 rfl (hS) rfl ⟨⟨rfl, trivial⟩, ⟨rfl, rfl, rfl, rfl, rfl, trivial⟩, trivial⟩ ?_
     refine z6 rfl (hgto) rfl ⟨⟨trivial, trivial⟩, trivial⟩ ?_
     refine z6 rfl (hto) rfl ⟨⟨trivial, trivial, trivial, trivial, trivial, trivial⟩, trivial⟩ ?_
     refine z6 rfl (hI) rfl ⟨⟨rfl, trivial⟩, ⟨rfl, rfl, rfl, rfl, rfl, trivial⟩, trivial⟩ ?_
     refine xb rfl (fun b0 => ?_) (fun b0 => ?_)
     exact absurd b0 (by simp [*])
     refine zb rfl [] (.take 0 [3, 4] (.take 1 [2, 3, 4] (.alt 2 (.alt 3 (.take 4 [] .done) .nil) .nil))) (by kernel_rfl) ?_
     refine z6 rfl (hgto) rfl ⟨⟨trivial, trivial⟩, trivial⟩ ?_
     refine z6 rfl (hgeq) rfl ⟨⟨rfl, trivial⟩, ⟨rfl, trivial⟩, trivial⟩ ?_
     refine xj (k := 1) rfl ?_
     refine zb rfl [] (.take 0 [3, 4] (.take 1 [2, 3, 4] (.alt 2 (.alt 3 (.take 4 [] .done) .nil) .nil))) (by kernel_rfl) ?_
     refine z6 rfl (hto) rfl ⟨⟨trivial, trivial, trivial, trivial, trivial, trivial⟩, trivial⟩ ?_
     refine z6 rfl (heq) rfl ⟨⟨rfl, rfl, rfl, rfl, rfl, trivial⟩, ⟨rfl, rfl, rfl, rfl, rfl, trivial⟩, trivial⟩ ?_
     refine xj (k := 1) rfl ?_
     refine xr rfl (z7 rfl ⟨⟨rfl, rfl, trivial⟩, z1 rfl⟩)
     all_goals (exfalso; simp_all; done)
end Go.Proofs.YtbnbjaedijbnpaaGreat
end
section
namespace Go.Proofs.YtbnbjaedijbnpaaGreat.fnExactBooksBalance
open Go.ChangeShapes Go.WideShapes Go.ChangeAt Go.RowKit
set_option maxRecDepth 100000 in
set_option maxHeartbeats 40000000 in
theorem closed : joinedFacts Tryz.pinned.checked.prog 3 Tryz.f3 Rows.fnExactBooksBalanceSpec Rows.fnExactBooksBalanceRow = true := by
 unfold joinedFacts
 simp only [Bool.and_eq_true]
 repeat' refine And.intro ?_ ?_
 all_goals as_aux_lemma => kernel_rfl
end Go.Proofs.YtbnbjaedijbnpaaGreat.fnExactBooksBalance
end
section
namespace Go.Proofs.YtbnbjaedijbnpaaGreat.fnExactBooksBalance
open Go.ChangeShapes Go.WideShapes Go.ChangeAt Go.RowKit Go.Sx
open Go.ChangeMaps (open_string shut_string)
theorem own : ownKnob Tryz.prog.godebug = none := by kernel_rfl
theorem laidOut : laidOutB Tryz.prog = true := by kernel_rfl
theorem q2 : OS Tryz.prog 2 (.i .i64 .nil) := qa2 Tryz.underlying2 (by kernel_rfl)
theorem yb0 : OS Tryz.prog 241 q8 := yu Tryz.underlying241 (by kernel_rfl) (.cons (by kernel_rfl) (.cons (by kernel_rfl) (.cons (by kernel_rfl) (.nil _)))) (yf q2 (yf q2 (y07 q2) rfl rfl) rfl rfl)
theorem zat : OS Tryz.prog 133 (.l q8 .nil) := yz Tryz.underlying133 (by kernel_rfl) yb0
theorem q22 : OS Tryz.prog 22 (.l (.l q8 .nil) .nil) := yz Tryz.underlying22 (by kernel_rfl) zat
theorem q24 : OS Tryz.prog 24 q02 := yu Tryz.underlying24 (by kernel_rfl) (.cons (by kernel_rfl) (.nil _)) (y07 q22)
theorem yb1 : OS Tryz.prog 297 q08 := yu Tryz.underlying297 (by kernel_rfl) (.cons (by kernel_rfl) (.cons (by kernel_rfl) (.cons (by kernel_rfl) (.cons (by kernel_rfl) (.nil _))))) (yf q2 (yf q2 (yf q2 (y07 q2) rfl rfl) rfl rfl) rfl rfl)
theorem yax : OS Tryz.prog 135 (.l q08 .nil) := yz Tryz.underlying135 (by kernel_rfl) yb1
theorem qax : OS Tryz.prog 137 z8 := yu Tryz.underlying137 (by kernel_rfl) (.cons (by kernel_rfl) (.cons (by kernel_rfl) (.nil _))) (yf q2 (y07 yax) rfl rfl)
theorem q25 : OS Tryz.prog 25 (.l z8 .nil) := yz Tryz.underlying25 (by kernel_rfl) qax
theorem qb1 : OS Tryz.prog 299 zk := yu Tryz.underlying299 (by kernel_rfl) (.cons (by kernel_rfl) (.cons (by kernel_rfl) (.nil _))) (yf q2 (y07 q2) rfl rfl)
theorem yat : OS Tryz.prog 139 (.l zk .nil) := yz Tryz.underlying139 (by kernel_rfl) qb1
theorem q73 : OS Tryz.prog 73 (.l (.i .i64 .nil) .nil) := yz Tryz.underlying73 (by kernel_rfl) q2
theorem zay : OS Tryz.prog 141 yg := yu Tryz.underlying141 (by kernel_rfl) (.cons (by kernel_rfl) (.cons (by kernel_rfl) (.cons (by kernel_rfl) (.cons (by kernel_rfl) (.cons (by kernel_rfl) (.cons (by kernel_rfl) (.nil _))))))) (yf q2 (yf zat (yf yat (yf q25 (yf yat (y07 q73) rfl rfl) rfl rfl) rfl rfl) rfl rfl) rfl rfl)
theorem q26 : OS Tryz.prog 26 (.l yg .nil) := yz Tryz.underlying26 (by kernel_rfl) zay
theorem qam : OS Tryz.prog 169 zo := yu Tryz.underlying169 (by kernel_rfl) (.cons (by kernel_rfl) (.cons (by kernel_rfl) (.nil _))) (yf q2 (y07 q2) rfl rfl)
theorem qat : OS Tryz.prog 285 (.l zo .nil) := yz Tryz.underlying285 (by kernel_rfl) qam
theorem qb0 : OS Tryz.prog 287 yn := yu Tryz.underlying287 (by kernel_rfl) (.cons (by kernel_rfl) (.cons (by kernel_rfl) (.cons (by kernel_rfl) (.cons (by kernel_rfl) (.cons (by kernel_rfl) (.nil _)))))) (yf q2 (yf q2 (yf q2 (yf qam (y07 qat) rfl rfl) rfl rfl) rfl rfl) rfl rfl)
theorem yay : OS Tryz.prog 143 (.l yn .nil) := yz Tryz.underlying143 (by kernel_rfl) qb0
theorem qay : OS Tryz.prog 145 qb := yu Tryz.underlying145 (by kernel_rfl) (.cons (by kernel_rfl) (.nil _)) (y07 yay)
theorem q27 : OS Tryz.prog 27 (.l qb .nil) := yz Tryz.underlying27 (by kernel_rfl) qay
theorem zb1 : OS Tryz.prog 290 zq := yu Tryz.underlying290 (by kernel_rfl) (.cons (by kernel_rfl) (.cons (by kernel_rfl) (.cons (by kernel_rfl) (.cons (by kernel_rfl) (.cons (by kernel_rfl) (.cons (by kernel_rfl) (.nil _))))))) (yf q2 (yf q2 (yf q2 (yf q2 (yf q73 (y07 qat) rfl rfl) rfl rfl) rfl rfl) rfl rfl) rfl rfl)
theorem zaz : OS Tryz.prog 147 (.l zq .nil) := yz Tryz.underlying147 (by kernel_rfl) zb1
theorem zb2 : OS Tryz.prog 303 yr := yu Tryz.underlying303 (by kernel_rfl) (.cons (by kernel_rfl) (.cons (by kernel_rfl) (.cons (by kernel_rfl) (.cons (by kernel_rfl) (.cons (by kernel_rfl) (.nil _)))))) (yf q2 (yf q2 (yf q2 (yf q2 (y07 q2) rfl rfl) rfl rfl) rfl rfl) rfl rfl)
theorem yaz : OS Tryz.prog 148 (.l yr .nil) := yz Tryz.underlying148 (by kernel_rfl) zb2
theorem qaz : OS Tryz.prog 150 zg := yu Tryz.underlying150 (by kernel_rfl) (.cons (by kernel_rfl) (.cons (by kernel_rfl) (.cons (by kernel_rfl) (.nil _)))) (yf q2 (yf zaz (y07 yaz) rfl rfl) rfl rfl)
theorem q28 : OS Tryz.prog 28 (.l zg .nil) := yz Tryz.underlying28 (by kernel_rfl) qaz
theorem zb0 : OS Tryz.prog 171 qm := yu Tryz.underlying171 (by kernel_rfl) (.cons (by kernel_rfl) (.cons (by kernel_rfl) (.cons (by kernel_rfl) (.cons (by kernel_rfl) (.cons (by kernel_rfl) (.cons (by kernel_rfl) (.cons (by kernel_rfl) (.cons (by kernel_rfl) (.nil _))))))))) (yf q2 (yf q2 (yf q2 (yf q2 (yf q2 (yf q2 (yf q2 (y07 qam) rfl rfl) rfl rfl) rfl rfl) rfl rfl) rfl rfl) rfl rfl) rfl rfl)
theorem q29 : OS Tryz.prog 29 (.l qm .nil) := yz Tryz.underlying29 (by kernel_rfl) zb0
theorem q31 : OS Tryz.prog 31 qq := yu Tryz.underlying31 (by kernel_rfl) (.cons (by kernel_rfl) (.cons (by kernel_rfl) (.cons (by kernel_rfl) (.cons (by kernel_rfl) (.cons (by kernel_rfl) (.nil _)))))) (yf q25 (yf q26 (yf q27 (yf q28 (y07 q29) rfl rfl) rfl rfl) rfl rfl) rfl rfl)
set_option maxRecDepth 100000 in
theorem lifted (os : Os) (started : os.Started) (H : Type) (enc : TypeId × Value → H) :
 ReturnsInHanded {} Tryz.checked os 3 .any (Rows.fnExactBooksBalanceSpec.pre6 enc Tryz.prog Tryz.f3 Rows.fnExactBooksBalanceRow.domain false) (Rows.fnExactBooksBalanceSpec.post enc Tryz.prog Tryz.f3 false true false false) := by
 refine returnsInHanded_of_change_sized (C := Tryz.checked) own started (by kernel_rfl) Tryz.func3
  (ChangeSpec.witness6 (enc := enc) (C := Tryz.checked) false ⟨#[], #[.agg #[.slice none 0 0], .agg #[.slice none 0 0, .slice none 0 0, .slice none 0 0, .slice none 0 0, .slice none 0 0]], []⟩ 8 (by kernel_rfl) (by kernel_rfl) (by kernel_rfl) (by kernel_rfl)) ?_
 intro W base args ds gs before hval0 hW _ _ _
 have hval : ∀ (j : Nat) t v, Tryz.f3.params[j]? = some t → args[j]? = some v → Value.okWide Tryz.prog W .any base t v := hval0
 have hW' := hW
 obtain ⟨p, q, hA0, hV, rfl, hfz, hnd⟩ := hW
 have hA : DataW.TrodAll enc Tryz.prog W 0 (fun _ => true) true Tryz.f3.params.toList args.toList ds p := hA0
 rw [Tryz.params3] at hA hval
 obtain ⟨v0, vs0, d0, ds0, p0, q0, hargs, rfl, rfl, h0, r0⟩ := trodAll_cons hA
 obtain ⟨v1, vs1, d1, ds1, p1, q1, rfl, rfl, rfl, h1, r1⟩ := trodAll_cons r0
 obtain ⟨rfl, rfl, rfl⟩ := trodAll_nil r1
 obtain rfl : args = #[v0, v1] := by cases args; simp_all
 obtain ⟨rfl, rfl⟩ := trodVars_none hV
 have k0 := h0
 have lt0 : ∀ x ∈ p0, x.block < W.heap.size := by obtain ⟨m, hm⟩ := k0; exact DataW.trod_lt m _ _ _ hm
 obtain ⟨c0, R0, w0⟩ := z8j Tryz.underlying24 q24 (hval 0 24 v0 rfl rfl) h0
 have k1 := h1
 have lt1 : ∀ x ∈ p1, x.block < W.heap.size := by obtain ⟨m, hm⟩ := k1; exact DataW.trod_lt m _ _ _ hm
 obtain ⟨c1, R1, w1⟩ := z8j Tryz.underlying31 q31 (hval 1 31 v1 rfl rfl) h1
 clear hA0 hval0
 refine (PC.law (y83 c0 c1 w0 w1) (y4b.two R0 R1)).mono fun e W' ⟨he, bel⟩ => ?_
 subst he
 exact ⟨_, rfl, _, _, _, [], _, [], hW', trodAll_mk1 (shut_bool Tryz.underlying4 _), (trodAll_cons_mk (Below.trod laidOut (by kernel_rfl) (of_decide_eq_true (by kernel_rfl)) k0 bel lt0) (trodAll_cons_mk (Below.trod laidOut (by kernel_rfl) (of_decide_eq_true (by kernel_rfl)) k1 bel lt1) trodAll_mk0)), rfl, bel.frame _, fun h => by cases h⟩
theorem zax : Rows.fnExactBooksBalanceRow.holds Tryz.pinned (OpenSpec.ofChange Rows.fnExactBooksBalanceSpec) :=
 OpenClaim.holds_of_wide 3 Tryz.f3 rfl rfl rfl rfl rfl rfl rfl ⟨rfl, rfl, rfl, rfl, rfl⟩ rfl rfl rfl rfl rfl (by as_aux_lemma => kernel_rfl) Tryz.func3 closed
  (by as_aux_lemma => exact of_decide_eq_true (by kernel_rfl)) (by as_aux_lemma => unfold Func.isWrapper; first | (rw [if_pos (by decide +kernel)]; kernel_rfl) | (rw [if_neg (by decide +kernel)]; exact ⟨rfl, rfl⟩))
  (fun os started H enc _ => lifted os started H enc)
theorem za3 : Rows.FnExactBooksBalanceSaid := zax
end Go.Proofs.YtbnbjaedijbnpaaGreat.fnExactBooksBalance
namespace Go.Proofs.YtbnbjaedijbnpaaGreat
theorem fnExactBooksBalance_holds : Rows.FnExactBooksBalanceSaid := fnExactBooksBalance.za3
end Go.Proofs.YtbnbjaedijbnpaaGreat
end
