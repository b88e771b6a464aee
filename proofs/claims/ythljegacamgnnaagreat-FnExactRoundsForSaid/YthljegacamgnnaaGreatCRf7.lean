/- WHAT IS PROVED: FnExactRoundsFor, for every argument of its parameters' types that can be read as data: the call returns true and its arguments read as before. No condition. -/
import Derived.Test.YthljegacamgnnaaGreatCRf6
import Derived.WalkKit
import Derived.OrdersHeld
import Derived.DeepKeys
import Derived.Maps.RangeWalk
import Derived.Maps.OwnOps
import Derived.Deep.Slices
import Derived.ChangeArms
import Derived.WideShapes
import Derived.Lib.SlicesCompact
import Derived.Test.YthljegacamgnnaaGreatProg
import Derived.Shelf.SortG.Plain
import Derived.Shelf.SortG.SortNone
import Derived.Shelf.SlicesG.CompactI
import Derived.Lib.OwnBridge
import Derived.RangeFuncGives
import Derived.RangeFuncBox
import Derived.RangeFuncLeaves
import Derived.Shelf.Abstract
import Derived.Maps.AppendAt
import Derived.OwnWalkIn
import Derived.TacticsInMore
import Derived.LoopNIn
import Derived.LoopIn
import Derived.Test.YthljegacamgnnaaGreatRows
import Derived.ProofKit
import Derived.OpenShut
import Derived.ShutString
import Derived.ChangeOld
import Derived.Below
import Derived.SizedLaws
set_option linter.unusedVariables false
set_option linter.unusedSimpArgs false
section
namespace Go.Proofs.YthljegacamgnnaaGreat
open Go Go.Sx
set_option maxRecDepth 20000
theorem y7s (x0 : Int) (x1 : Int) (x2 : Int) (x3 : Int)  : PC Tryz.prog 246 [.agg [.s (.int .i64 x0), .s (.int .i64 x1), .s (.int .i64 x2), .s (.int .i64 x3)]] (.one (.own true [.s (.int .i64 x0), .s (.int .i64 x1), .s (.int .i64 x2), .s (.int .i64 x3)])) := by
 refine PC.begin Tryz.func246 rfl (by kernel_rfl) ?_
 exact xr rfl (z6 rfl ⟨⟨rfl, rfl, rfl, rfl, rfl, trivial⟩, z1 rfl⟩)
theorem y71 (rr : List (List Cell)) (hw : WR 1048576 z05 rr) : PC Tryz.prog 193 [.one (.l rr)] (.one (.own false [.l 4 rr])) := by
 refine PC.begin Tryz.func193 rfl (by kernel_rfl) ?_
 have hlen := hw.1
 refine xs rfl rfl (xs rfl (Int.natCast_nonneg _) (xs rfl (by omega) (xs rfl (by omega) ?_)))
 refine qb rfl (ι := Nat) (fun i => i ≤ rr.length) (fun i => ⟨[(4, sV (.int .i64 i)), (3, .one (.h 7 rr.length)), (0, .one (.b (.l rr)))], [(7, .arr true 4 0 (rr.take i ++ List.replicate (rr.length - i) [.s (.int .i64 0), .s (.int .i64 0), .s (.int .i64 0), .s (.int .i64 0)]))]⟩) (fun i => rr.length - i) 0 (Nat.zero_le _) ?_ ?_
 · repeat' (first | exact trivial | exact rfl | exact Or.inl rfl | refine And.intro ?_ ?_)
 · intro i hi J hJ
   refine xb rfl (fun h => ?_) (fun h => ?_)
   · have h : i < rr.length := by simpa using h
     obtain ⟨row, hg⟩ : ∃ row, rr[i]? = some row := ⟨_, List.getElem?_eq_getElem h⟩
     obtain ⟨x0, x1, x2, x3, rfl⟩ := y2j (hw.2 row (List.mem_of_getElem? hg))
     refine xs rfl (Int.natCast_nonneg _) (za rfl _ hg (xs rfl rfl ?_))
     refine z2 rfl (y7s _ _ _ _) rfl ⟨⟨trivial, trivial, trivial, trivial, trivial⟩, trivial⟩ ?_
     refine xs rfl (qe _ _ _ _ (by omega) rfl).symm (xs rfl (Int.natCast_nonneg _) (za rfl [.s (.int .i64 0), .s (.int .i64 0), .s (.int .i64 0), .s (.int .i64 0)] (zl _ _ _ _ (by omega) rfl) (xs rfl rfl ?_)))
     refine xs rfl (qe _ _ _ _ (by omega) rfl).symm (za rfl [.s (.int .i64 0), .s (.int .i64 0), .s (.int .i64 0), .s (.int .i64 0)] (zl _ _ _ _ (by omega) rfl) (xs rfl (by decide) (xs rfl ⟨trivial, trivial, trivial, trivial, trivial⟩ ?_)))
     refine q9 rfl (hJ _ (i + 1) (by omega) (by omega) ?_)
     repeat' (first | exact trivial | exact rfl | exact Or.inl rfl | exact cwi (by omega) (by omega) (by omega) | refine And.intro ?_ ?_)
     exact zz _ _ _ _ _ hg rfl
   · have h : ¬ i < rr.length := by simpa using h
     have : i = rr.length := by omega
     subst this
     refine xr rfl (z6 rfl ⟨⟨rfl, ⟨(qe _ _ _ _ (by omega) rfl).symm, zy _ _ _ rfl, Or.inl rfl⟩, trivial⟩, z1 rfl⟩)
theorem z3u (x0 : Int) (x1 : List (List Cell)) (h1 : WR 1048576 z05 x1) : PC Tryz.prog 118 [.agg [.s (.int .i64 x0), .l x1]] (.one (.own true [.s (.int .i64 x0), .l 4 x1])) := by
 refine PC.begin Tryz.func118 rfl (by kernel_rfl) ?_
 refine z2 rfl (y71 _ h1) rfl ⟨trivial, trivial⟩ ?_
 exact xr rfl (z6 rfl ⟨⟨rfl, rfl, ⟨rfl, rfl, .inl rfl⟩, trivial⟩, z1 rfl⟩)
theorem z1d (rr : List (List Cell)) (hw : WR 1048576 q7 rr) : PC Tryz.prog 59 [.one (.l rr)] (.one (.own false [.l 2 rr])) := by
 refine PC.begin Tryz.func59 rfl (by kernel_rfl) ?_
 have hlen := hw.1
 refine xs rfl rfl (xs rfl (Int.natCast_nonneg _) (xs rfl (by omega) (xs rfl (by omega) ?_)))
 refine qb rfl (ι := Nat) (fun i => i ≤ rr.length) (fun i => ⟨[(4, sV (.int .i64 i)), (3, .one (.h 7 rr.length)), (0, .one (.b (.l rr)))], [(7, .arr true 2 0 (rr.take i ++ List.replicate (rr.length - i) [.s (.int .i64 0), .l []]))]⟩) (fun i => rr.length - i) 0 (Nat.zero_le _) ?_ ?_
 · repeat' (first | exact trivial | exact rfl | exact Or.inl rfl | refine And.intro ?_ ?_)
 · intro i hi J hJ
   refine xb rfl (fun h => ?_) (fun h => ?_)
   · have h : i < rr.length := by simpa using h
     obtain ⟨row, hg⟩ : ∃ row, rr[i]? = some row := ⟨_, List.getElem?_eq_getElem h⟩
     obtain ⟨x0, x1, rfl, h1⟩ := z0b (hw.2 row (List.mem_of_getElem? hg))
     refine xs rfl (Int.natCast_nonneg _) (za rfl _ hg (xs rfl rfl ?_))
     refine z2 rfl (z3u _ _ h1) rfl ⟨⟨trivial, trivial, trivial⟩, trivial⟩ ?_
     refine xs rfl (qe _ _ _ _ (by omega) rfl).symm (xs rfl (Int.natCast_nonneg _) (za rfl [.s (.int .i64 0), .l []] (zl _ _ _ _ (by omega) rfl) (xs rfl rfl ?_)))
     refine xs rfl (qe _ _ _ _ (by omega) rfl).symm (za rfl [.s (.int .i64 0), .l []] (zl _ _ _ _ (by omega) rfl) (xs rfl (by decide) (xs rfl ⟨trivial, ⟨rfl, rfl⟩, trivial⟩ ?_)))
     refine q9 rfl (hJ _ (i + 1) (by omega) (by omega) ?_)
     repeat' (first | exact trivial | exact rfl | exact Or.inl rfl | exact cwi (by omega) (by omega) (by omega) | refine And.intro ?_ ?_)
     exact zz _ _ _ _ _ hg rfl
   · have h : ¬ i < rr.length := by simpa using h
     have : i = rr.length := by omega
     subst this
     refine xr rfl (z6 rfl ⟨⟨rfl, ⟨(qe _ _ _ _ (by omega) rfl).symm, zy _ _ _ rfl, Or.inl rfl⟩, trivial⟩, z1 rfl⟩)
theorem y4g (x0 : Int) (x1 : Int) (x2 : Int)  : PC Tryz.prog 223 [.agg [.s (.int .i64 x0), .s (.int .i64 x1), .s (.int .i64 x2)]] (.one (.own true [.s (.int .i64 x0), .s (.int .i64 x1), .s (.int .i64 x2)])) := by
 refine PC.begin Tryz.func223 rfl (by kernel_rfl) ?_
 exact xr rfl (z6 rfl ⟨⟨rfl, rfl, rfl, rfl, trivial⟩, z1 rfl⟩)
theorem q3t (rr : List (List Cell)) (hw : WR 1048576 qd rr) : PC Tryz.prog 151 [.one (.l rr)] (.one (.own false [.l 3 rr])) := by
 refine PC.begin Tryz.func151 rfl (by kernel_rfl) ?_
 have hlen := hw.1
 refine xs rfl rfl (xs rfl (Int.natCast_nonneg _) (xs rfl (by omega) (xs rfl (by omega) ?_)))
 refine qb rfl (ι := Nat) (fun i => i ≤ rr.length) (fun i => ⟨[(4, sV (.int .i64 i)), (3, .one (.h 7 rr.length)), (0, .one (.b (.l rr)))], [(7, .arr true 3 0 (rr.take i ++ List.replicate (rr.length - i) [.s (.int .i64 0), .s (.int .i64 0), .s (.int .i64 0)]))]⟩) (fun i => rr.length - i) 0 (Nat.zero_le _) ?_ ?_
 · repeat' (first | exact trivial | exact rfl | exact Or.inl rfl | refine And.intro ?_ ?_)
 · intro i hi J hJ
   refine xb rfl (fun h => ?_) (fun h => ?_)
   · have h : i < rr.length := by simpa using h
     obtain ⟨row, hg⟩ : ∃ row, rr[i]? = some row := ⟨_, List.getElem?_eq_getElem h⟩
     obtain ⟨x0, x1, x2, rfl⟩ := z0h (hw.2 row (List.mem_of_getElem? hg))
     refine xs rfl (Int.natCast_nonneg _) (za rfl _ hg (xs rfl rfl ?_))
     refine z2 rfl (y4g _ _ _) rfl ⟨⟨trivial, trivial, trivial, trivial⟩, trivial⟩ ?_
     refine xs rfl (qe _ _ _ _ (by omega) rfl).symm (xs rfl (Int.natCast_nonneg _) (za rfl [.s (.int .i64 0), .s (.int .i64 0), .s (.int .i64 0)] (zl _ _ _ _ (by omega) rfl) (xs rfl rfl ?_)))
     refine xs rfl (qe _ _ _ _ (by omega) rfl).symm (za rfl [.s (.int .i64 0), .s (.int .i64 0), .s (.int .i64 0)] (zl _ _ _ _ (by omega) rfl) (xs rfl (by decide) (xs rfl ⟨trivial, trivial, trivial, trivial⟩ ?_)))
     refine q9 rfl (hJ _ (i + 1) (by omega) (by omega) ?_)
     repeat' (first | exact trivial | exact rfl | exact Or.inl rfl | exact cwi (by omega) (by omega) (by omega) | refine And.intro ?_ ?_)
     exact zz _ _ _ _ _ hg rfl
   · have h : ¬ i < rr.length := by simpa using h
     have : i = rr.length := by omega
     subst this
     refine xr rfl (z6 rfl ⟨⟨rfl, ⟨(qe _ _ _ _ (by omega) rfl).symm, zy _ _ _ rfl, Or.inl rfl⟩, trivial⟩, z1 rfl⟩)
theorem q71 (x0 : Int) (x1 : Int)  : PC Tryz.prog 247 [.agg [.s (.int .i64 x0), .s (.int .i64 x1)]] (.one (.own true [.s (.int .i64 x0), .s (.int .i64 x1)])) := by
 refine PC.begin Tryz.func247 rfl (by kernel_rfl) ?_
 exact xr rfl (z6 rfl ⟨⟨rfl, rfl, rfl, trivial⟩, z1 rfl⟩)
theorem y3a (rr : List (List Cell)) (hw : WR 1048576 zi rr) : PC Tryz.prog 194 [.one (.l rr)] (.one (.own false [.l 2 rr])) := by
 refine PC.begin Tryz.func194 rfl (by kernel_rfl) ?_
 have hlen := hw.1
 refine xs rfl rfl (xs rfl (Int.natCast_nonneg _) (xs rfl (by omega) (xs rfl (by omega) ?_)))
 refine qb rfl (ι := Nat) (fun i => i ≤ rr.length) (fun i => ⟨[(4, sV (.int .i64 i)), (3, .one (.h 7 rr.length)), (0, .one (.b (.l rr)))], [(7, .arr true 2 0 (rr.take i ++ List.replicate (rr.length - i) [.s (.int .i64 0), .s (.int .i64 0)]))]⟩) (fun i => rr.length - i) 0 (Nat.zero_le _) ?_ ?_
 · repeat' (first | exact trivial | exact rfl | exact Or.inl rfl | refine And.intro ?_ ?_)
 · intro i hi J hJ
   refine xb rfl (fun h => ?_) (fun h => ?_)
   · have h : i < rr.length := by simpa using h
     obtain ⟨row, hg⟩ : ∃ row, rr[i]? = some row := ⟨_, List.getElem?_eq_getElem h⟩
     obtain ⟨x0, x1, rfl⟩ := z1l (hw.2 row (List.mem_of_getElem? hg))
     refine xs rfl (Int.natCast_nonneg _) (za rfl _ hg (xs rfl rfl ?_))
     refine z2 rfl (q71 _ _) rfl ⟨⟨trivial, trivial, trivial⟩, trivial⟩ ?_
     refine xs rfl (qe _ _ _ _ (by omega) rfl).symm (xs rfl (Int.natCast_nonneg _) (za rfl [.s (.int .i64 0), .s (.int .i64 0)] (zl _ _ _ _ (by omega) rfl) (xs rfl rfl ?_)))
     refine xs rfl (qe _ _ _ _ (by omega) rfl).symm (za rfl [.s (.int .i64 0), .s (.int .i64 0)] (zl _ _ _ _ (by omega) rfl) (xs rfl (by decide) (xs rfl ⟨trivial, trivial, trivial⟩ ?_)))
     refine q9 rfl (hJ _ (i + 1) (by omega) (by omega) ?_)
     repeat' (first | exact trivial | exact rfl | exact Or.inl rfl | exact cwi (by omega) (by omega) (by omega) | refine And.intro ?_ ?_)
     exact zz _ _ _ _ _ hg rfl
   · have h : ¬ i < rr.length := by simpa using h
     have : i = rr.length := by omega
     subst this
     refine xr rfl (z6 rfl ⟨⟨rfl, ⟨(qe _ _ _ _ (by omega) rfl).symm, zy _ _ _ rfl, Or.inl rfl⟩, trivial⟩, z1 rfl⟩)
theorem y2s (rr : List (List Cell)) (hw : WR 1048576 (.i .i64 .nil) rr) : PC Tryz.prog 195 [.one (.l rr)] (.one (.own false [.l 1 rr])) := by
 refine PC.begin Tryz.func195 rfl (by kernel_rfl) ?_
 have hlen := hw.1
 refine xs rfl rfl (xs rfl (Int.natCast_nonneg _) (xs rfl (by omega) (xs rfl (by omega) ?_)))
 refine qb rfl (ι := Nat) (fun i => i ≤ rr.length) (fun i => ⟨[(4, sV (.int .i64 i)), (3, .one (.h 7 rr.length)), (0, .one (.b (.l rr)))], [(7, .arr true 1 0 (rr.take i ++ List.replicate (rr.length - i) [.s (.int .i64 0)]))]⟩) (fun i => rr.length - i) 0 (Nat.zero_le _) ?_ ?_
 · repeat' (first | exact trivial | exact rfl | exact Or.inl rfl | refine And.intro ?_ ?_)
 · intro i hi J hJ
   refine xb rfl (fun h => ?_) (fun h => ?_)
   · have h : i < rr.length := by simpa using h
     obtain ⟨row, hg⟩ : ∃ row, rr[i]? = some row := ⟨_, List.getElem?_eq_getElem h⟩
     obtain ⟨x0, _, rfl, hnil⟩ := ((hw.2 row (List.mem_of_getElem? hg))).qt; obtain rfl := hnil.yw
     refine xs rfl (Int.natCast_nonneg _) (za rfl _ hg (xs rfl rfl ?_))
     refine xs rfl (qe _ _ _ _ (by omega) rfl).symm (xs rfl (Int.natCast_nonneg _) (za rfl [.s (.int .i64 0)] (zl _ _ _ _ (by omega) rfl) (xs rfl rfl ?_)))
     refine xs rfl (qe _ _ _ _ (by omega) rfl).symm (za rfl [.s (.int .i64 0)] (zl _ _ _ _ (by omega) rfl) (xs rfl (by decide) (xs rfl ⟨trivial, trivial⟩ ?_)))
     refine q9 rfl (hJ _ (i + 1) (by omega) (by omega) ?_)
     repeat' (first | exact trivial | exact rfl | exact Or.inl rfl | exact cwi (by omega) (by omega) (by omega) | refine And.intro ?_ ?_)
     exact zz _ _ _ _ _ hg rfl
   · have h : ¬ i < rr.length := by simpa using h
     have : i = rr.length := by omega
     subst this
     refine xr rfl (z6 rfl ⟨⟨rfl, ⟨(qe _ _ _ _ (by omega) rfl).symm, zy _ _ _ rfl, Or.inl rfl⟩, trivial⟩, z1 rfl⟩)
theorem q5y (x0 : Int) (x1 : List (List Cell)) (x2 : List (List Cell)) (x3 : List (List Cell)) (x4 : List (List Cell)) (x5 : List (List Cell)) (h1 : WR 1048576 qd x1) (h2 : WR 1048576 zi x2) (h3 : WR 1048576 q7 x3) (h4 : WR 1048576 zi x4) (h5 : WR 1048576 (.i .i64 .nil) x5) : PC Tryz.prog 119 [.agg [.s (.int .i64 x0), .l x1, .l x2, .l x3, .l x4, .l x5]] (.one (.own true [.s (.int .i64 x0), .l 3 x1, .l 2 x2, .l 2 x3, .l 2 x4, .l 1 x5])) := by
 refine PC.begin Tryz.func119 rfl (by kernel_rfl) ?_
 refine z2 rfl (q3t _ h1) rfl ⟨trivial, trivial⟩ ?_
 refine z2 rfl (y3a _ h2) rfl ⟨trivial, trivial⟩ ?_
 refine z2 rfl (z1d _ h3) rfl ⟨trivial, trivial⟩ ?_
 refine z2 rfl (y3a _ h4) rfl ⟨trivial, trivial⟩ ?_
 refine z2 rfl (y2s _ h5) rfl ⟨trivial, trivial⟩ ?_
 exact xr rfl (z6 rfl ⟨⟨rfl, rfl, ⟨rfl, rfl, .inl rfl⟩, ⟨rfl, rfl, .inl rfl⟩, ⟨rfl, rfl, .inl rfl⟩, ⟨rfl, rfl, .inl rfl⟩, ⟨rfl, rfl, .inl rfl⟩, trivial⟩, z1 rfl⟩)
theorem q51 (rr : List (List Cell)) (hw : WR 1048576 qf rr) : PC Tryz.prog 60 [.one (.l rr)] (.one (.own false [.l 6 rr])) := by
 refine PC.begin Tryz.func60 rfl (by kernel_rfl) ?_
 have hlen := hw.1
 refine xs rfl rfl (xs rfl (Int.natCast_nonneg _) (xs rfl (by omega) (xs rfl (by omega) ?_)))
 refine qb rfl (ι := Nat) (fun i => i ≤ rr.length) (fun i => ⟨[(4, sV (.int .i64 i)), (3, .one (.h 7 rr.length)), (0, .one (.b (.l rr)))], [(7, .arr true 6 0 (rr.take i ++ List.replicate (rr.length - i) [.s (.int .i64 0), .l [], .l [], .l [], .l [], .l []]))]⟩) (fun i => rr.length - i) 0 (Nat.zero_le _) ?_ ?_
 · repeat' (first | exact trivial | exact rfl | exact Or.inl rfl | refine And.intro ?_ ?_)
 · intro i hi J hJ
   refine xb rfl (fun h => ?_) (fun h => ?_)
   · have h : i < rr.length := by simpa using h
     obtain ⟨row, hg⟩ : ∃ row, rr[i]? = some row := ⟨_, List.getElem?_eq_getElem h⟩
     obtain ⟨x0, x1, x2, x3, x4, x5, rfl, h1, h2, h3, h4, h5⟩ := z0z (hw.2 row (List.mem_of_getElem? hg))
     refine xs rfl (Int.natCast_nonneg _) (za rfl _ hg (xs rfl rfl ?_))
     refine z2 rfl (q5y _ _ _ _ _ _ h1 h2 h3 h4 h5) rfl ⟨⟨trivial, trivial, trivial, trivial, trivial, trivial, trivial⟩, trivial⟩ ?_
     refine xs rfl (qe _ _ _ _ (by omega) rfl).symm (xs rfl (Int.natCast_nonneg _) (za rfl [.s (.int .i64 0), .l [], .l [], .l [], .l [], .l []] (zl _ _ _ _ (by omega) rfl) (xs rfl rfl ?_)))
     refine xs rfl (qe _ _ _ _ (by omega) rfl).symm (za rfl [.s (.int .i64 0), .l [], .l [], .l [], .l [], .l []] (zl _ _ _ _ (by omega) rfl) (xs rfl (by decide) (xs rfl ⟨trivial, ⟨rfl, rfl⟩, ⟨rfl, rfl⟩, ⟨rfl, rfl⟩, ⟨rfl, rfl⟩, ⟨rfl, rfl⟩, trivial⟩ ?_)))
     refine q9 rfl (hJ _ (i + 1) (by omega) (by omega) ?_)
     repeat' (first | exact trivial | exact rfl | exact Or.inl rfl | exact cwi (by omega) (by omega) (by omega) | refine And.intro ?_ ?_)
     exact zz _ _ _ _ _ hg rfl
   · have h : ¬ i < rr.length := by simpa using h
     have : i = rr.length := by omega
     subst this
     refine xr rfl (z6 rfl ⟨⟨rfl, ⟨(qe _ _ _ _ (by omega) rfl).symm, zy _ _ _ rfl, Or.inl rfl⟩, trivial⟩, z1 rfl⟩)
theorem q2s (x0 : Int) (x1 : Int)  : PC Tryz.prog 199 [.agg [.s (.int .i64 x0), .s (.int .i64 x1)]] (.one (.own true [.s (.int .i64 x0), .s (.int .i64 x1)])) := by
 refine PC.begin Tryz.func199 rfl (by kernel_rfl) ?_
 exact xr rfl (z6 rfl ⟨⟨rfl, rfl, rfl, trivial⟩, z1 rfl⟩)
theorem q3a (rr : List (List Cell)) (hw : WR 1048576 qn rr) : PC Tryz.prog 305 [.one (.l rr)] (.one (.own false [.l 2 rr])) := by
 refine PC.begin Tryz.func305 rfl (by kernel_rfl) ?_
 have hlen := hw.1
 refine xs rfl rfl (xs rfl (Int.natCast_nonneg _) (xs rfl (by omega) (xs rfl (by omega) ?_)))
 refine qb rfl (ι := Nat) (fun i => i ≤ rr.length) (fun i => ⟨[(4, sV (.int .i64 i)), (3, .one (.h 7 rr.length)), (0, .one (.b (.l rr)))], [(7, .arr true 2 0 (rr.take i ++ List.replicate (rr.length - i) [.s (.int .i64 0), .s (.int .i64 0)]))]⟩) (fun i => rr.length - i) 0 (Nat.zero_le _) ?_ ?_
 · repeat' (first | exact trivial | exact rfl | exact Or.inl rfl | refine And.intro ?_ ?_)
 · intro i hi J hJ
   refine xb rfl (fun h => ?_) (fun h => ?_)
   · have h : i < rr.length := by simpa using h
     obtain ⟨row, hg⟩ : ∃ row, rr[i]? = some row := ⟨_, List.getElem?_eq_getElem h⟩
     obtain ⟨x0, x1, rfl⟩ := q1l (hw.2 row (List.mem_of_getElem? hg))
     refine xs rfl (Int.natCast_nonneg _) (za rfl _ hg (xs rfl rfl ?_))
     refine z2 rfl (q2s _ _) rfl ⟨⟨trivial, trivial, trivial⟩, trivial⟩ ?_
     refine xs rfl (qe _ _ _ _ (by omega) rfl).symm (xs rfl (Int.natCast_nonneg _) (za rfl [.s (.int .i64 0), .s (.int .i64 0)] (zl _ _ _ _ (by omega) rfl) (xs rfl rfl ?_)))
     refine xs rfl (qe _ _ _ _ (by omega) rfl).symm (za rfl [.s (.int .i64 0), .s (.int .i64 0)] (zl _ _ _ _ (by omega) rfl) (xs rfl (by decide) (xs rfl ⟨trivial, trivial, trivial⟩ ?_)))
     refine q9 rfl (hJ _ (i + 1) (by omega) (by omega) ?_)
     repeat' (first | exact trivial | exact rfl | exact Or.inl rfl | exact cwi (by omega) (by omega) (by omega) | refine And.intro ?_ ?_)
     exact zz _ _ _ _ _ hg rfl
   · have h : ¬ i < rr.length := by simpa using h
     have : i = rr.length := by omega
     subst this
     refine xr rfl (z6 rfl ⟨⟨rfl, ⟨(qe _ _ _ _ (by omega) rfl).symm, zy _ _ _ rfl, Or.inl rfl⟩, trivial⟩, z1 rfl⟩)
theorem z72 (x0 : Int) (x1 : Int) (x2 : Int) (x3 : Int) (x4 : Int) (x5 : List (List Cell)) (h5 : WR 1048576 qn x5) : PC Tryz.prog 248 [.agg [.s (.int .i64 x0), .s (.int .i64 x1), .s (.int .i64 x2), .s (.int .i64 x3), .s (.int .i64 x4), .l x5]] (.one (.own true [.s (.int .i64 x0), .s (.int .i64 x1), .s (.int .i64 x2), .s (.int .i64 x3), .s (.int .i64 x4), .l 2 x5])) := by
 refine PC.begin Tryz.func248 rfl (by kernel_rfl) ?_
 refine z2 rfl (q2s _ _) rfl ⟨⟨trivial, trivial, trivial⟩, trivial⟩ ?_
 refine z2 rfl (q3a _ h5) rfl ⟨trivial, trivial⟩ ?_
 exact xr rfl (z6 rfl ⟨⟨rfl, rfl, rfl, rfl, rfl, rfl, ⟨rfl, rfl, .inl rfl⟩, trivial⟩, z1 rfl⟩)
theorem z5z (rr : List (List Cell)) (hw : WR 1048576 yn rr) : PC Tryz.prog 196 [.one (.l rr)] (.one (.own false [.l 6 rr])) := by
 refine PC.begin Tryz.func196 rfl (by kernel_rfl) ?_
 have hlen := hw.1
 refine xs rfl rfl (xs rfl (Int.natCast_nonneg _) (xs rfl (by omega) (xs rfl (by omega) ?_)))
 refine qb rfl (ι := Nat) (fun i => i ≤ rr.length) (fun i => ⟨[(4, sV (.int .i64 i)), (3, .one (.h 7 rr.length)), (0, .one (.b (.l rr)))], [(7, .arr true 6 0 (rr.take i ++ List.replicate (rr.length - i) [.s (.int .i64 0), .s (.int .i64 0), .s (.int .i64 0), .s (.int .i64 0), .s (.int .i64 0), .l []]))]⟩) (fun i => rr.length - i) 0 (Nat.zero_le _) ?_ ?_
 · repeat' (first | exact trivial | exact rfl | exact Or.inl rfl | refine And.intro ?_ ?_)
 · intro i hi J hJ
   refine xb rfl (fun h => ?_) (fun h => ?_)
   · have h : i < rr.length := by simpa using h
     obtain ⟨row, hg⟩ : ∃ row, rr[i]? = some row := ⟨_, List.getElem?_eq_getElem h⟩
     obtain ⟨x0, x1, x2, x3, x4, x5, rfl, h5⟩ := y1l (hw.2 row (List.mem_of_getElem? hg))
     refine xs rfl (Int.natCast_nonneg _) (za rfl _ hg (xs rfl rfl ?_))
     refine z2 rfl (z72 _ _ _ _ _ _ h5) rfl ⟨⟨trivial, trivial, trivial, trivial, trivial, trivial, trivial⟩, trivial⟩ ?_
     refine xs rfl (qe _ _ _ _ (by omega) rfl).symm (xs rfl (Int.natCast_nonneg _) (za rfl [.s (.int .i64 0), .s (.int .i64 0), .s (.int .i64 0), .s (.int .i64 0), .s (.int .i64 0), .l []] (zl _ _ _ _ (by omega) rfl) (xs rfl rfl ?_)))
     refine xs rfl (qe _ _ _ _ (by omega) rfl).symm (za rfl [.s (.int .i64 0), .s (.int .i64 0), .s (.int .i64 0), .s (.int .i64 0), .s (.int .i64 0), .l []] (zl _ _ _ _ (by omega) rfl) (xs rfl (by decide) (xs rfl ⟨trivial, trivial, trivial, trivial, trivial, ⟨rfl, rfl⟩, trivial⟩ ?_)))
     refine q9 rfl (hJ _ (i + 1) (by omega) (by omega) ?_)
     repeat' (first | exact trivial | exact rfl | exact Or.inl rfl | exact cwi (by omega) (by omega) (by omega) | refine And.intro ?_ ?_)
     exact zz _ _ _ _ _ hg rfl
   · have h : ¬ i < rr.length := by simpa using h
     have : i = rr.length := by omega
     subst this
     refine xr rfl (z6 rfl ⟨⟨rfl, ⟨(qe _ _ _ _ (by omega) rfl).symm, zy _ _ _ rfl, Or.inl rfl⟩, trivial⟩, z1 rfl⟩)
theorem y3t (x0 : List (List Cell)) (h0 : WR 1048576 yn x0) : PC Tryz.prog 120 [.agg [.l x0]] (.one (.own true [.l 6 x0])) := by
 refine PC.begin Tryz.func120 rfl (by kernel_rfl) ?_
 refine z2 rfl (z5z _ h0) rfl ⟨trivial, trivial⟩ ?_
 exact xr rfl (z6 rfl ⟨⟨rfl, ⟨rfl, rfl, .inl rfl⟩, trivial⟩, z1 rfl⟩)
theorem y31 (rr : List (List Cell)) (hw : WR 1048576 qa rr) : PC Tryz.prog 61 [.one (.l rr)] (.one (.own false [.l 1 rr])) := by
 refine PC.begin Tryz.func61 rfl (by kernel_rfl) ?_
 have hlen := hw.1
 refine xs rfl rfl (xs rfl (Int.natCast_nonneg _) (xs rfl (by omega) (xs rfl (by omega) ?_)))
 refine qb rfl (ι := Nat) (fun i => i ≤ rr.length) (fun i => ⟨[(4, sV (.int .i64 i)), (3, .one (.h 7 rr.length)), (0, .one (.b (.l rr)))], [(7, .arr true 1 0 (rr.take i ++ List.replicate (rr.length - i) [.l []]))]⟩) (fun i => rr.length - i) 0 (Nat.zero_le _) ?_ ?_
 · repeat' (first | exact trivial | exact rfl | exact Or.inl rfl | refine And.intro ?_ ?_)
 · intro i hi J hJ
   refine xb rfl (fun h => ?_) (fun h => ?_)
   · have h : i < rr.length := by simpa using h
     obtain ⟨row, hg⟩ : ∃ row, rr[i]? = some row := ⟨_, List.getElem?_eq_getElem h⟩
     obtain ⟨x0, rfl, h0⟩ := q0a (hw.2 row (List.mem_of_getElem? hg))
     refine xs rfl (Int.natCast_nonneg _) (za rfl _ hg (xs rfl rfl ?_))
     refine z2 rfl (y3t _ h0) rfl ⟨⟨trivial, trivial⟩, trivial⟩ ?_
     refine xs rfl (qe _ _ _ _ (by omega) rfl).symm (xs rfl (Int.natCast_nonneg _) (za rfl [.l []] (zl _ _ _ _ (by omega) rfl) (xs rfl rfl ?_)))
     refine xs rfl (qe _ _ _ _ (by omega) rfl).symm (za rfl [.l []] (zl _ _ _ _ (by omega) rfl) (xs rfl (by decide) (xs rfl ⟨⟨rfl, rfl⟩, trivial⟩ ?_)))
     refine q9 rfl (hJ _ (i + 1) (by omega) (by omega) ?_)
     repeat' (first | exact trivial | exact rfl | exact Or.inl rfl | exact cwi (by omega) (by omega) (by omega) | refine And.intro ?_ ?_)
     exact zz _ _ _ _ _ hg rfl
   · have h : ¬ i < rr.length := by simpa using h
     have : i = rr.length := by omega
     subst this
     refine xr rfl (z6 rfl ⟨⟨rfl, ⟨(qe _ _ _ _ (by omega) rfl).symm, zy _ _ _ rfl, Or.inl rfl⟩, trivial⟩, z1 rfl⟩)
theorem q7s (x0 : Int) (x1 : Int) (x2 : Int) (x3 : Int) (x4 : List (List Cell)) (x5 : List (List Cell)) (h4 : WR 1048576 (.i .i64 .nil) x4) (h5 : WR 1048576 qn x5) : PC Tryz.prog 249 [.agg [.s (.int .i64 x0), .s (.int .i64 x1), .s (.int .i64 x2), .s (.int .i64 x3), .l x4, .l x5]] (.one (.own true [.s (.int .i64 x0), .s (.int .i64 x1), .s (.int .i64 x2), .s (.int .i64 x3), .l 1 x4, .l 2 x5])) := by
 refine PC.begin Tryz.func249 rfl (by kernel_rfl) ?_
 refine z2 rfl (y2s _ h4) rfl ⟨trivial, trivial⟩ ?_
 refine z2 rfl (q3a _ h5) rfl ⟨trivial, trivial⟩ ?_
 exact xr rfl (z6 rfl ⟨⟨rfl, rfl, rfl, rfl, rfl, ⟨rfl, rfl, .inl rfl⟩, ⟨rfl, rfl, .inl rfl⟩, trivial⟩, z1 rfl⟩)
theorem y72 (rr : List (List Cell)) (hw : WR 1048576 yp rr) : PC Tryz.prog 197 [.one (.l rr)] (.one (.own false [.l 6 rr])) := by
 refine PC.begin Tryz.func197 rfl (by kernel_rfl) ?_
 have hlen := hw.1
 refine xs rfl rfl (xs rfl (Int.natCast_nonneg _) (xs rfl (by omega) (xs rfl (by omega) ?_)))
 refine qb rfl (ι := Nat) (fun i => i ≤ rr.length) (fun i => ⟨[(4, sV (.int .i64 i)), (3, .one (.h 7 rr.length)), (0, .one (.b (.l rr)))], [(7, .arr true 6 0 (rr.take i ++ List.replicate (rr.length - i) [.s (.int .i64 0), .s (.int .i64 0), .s (.int .i64 0), .s (.int .i64 0), .l [], .l []]))]⟩) (fun i => rr.length - i) 0 (Nat.zero_le _) ?_ ?_
 · repeat' (first | exact trivial | exact rfl | exact Or.inl rfl | refine And.intro ?_ ?_)
 · intro i hi J hJ
   refine xb rfl (fun h => ?_) (fun h => ?_)
   · have h : i < rr.length := by simpa using h
     obtain ⟨row, hg⟩ : ∃ row, rr[i]? = some row := ⟨_, List.getElem?_eq_getElem h⟩
     obtain ⟨x0, x1, x2, x3, x4, x5, rfl, h4, h5⟩ := q2j (hw.2 row (List.mem_of_getElem? hg))
     refine xs rfl (Int.natCast_nonneg _) (za rfl _ hg (xs rfl rfl ?_))
     refine z2 rfl (q7s _ _ _ _ _ _ h4 h5) rfl ⟨⟨trivial, trivial, trivial, trivial, trivial, trivial, trivial⟩, trivial⟩ ?_
     refine xs rfl (qe _ _ _ _ (by omega) rfl).symm (xs rfl (Int.natCast_nonneg _) (za rfl [.s (.int .i64 0), .s (.int .i64 0), .s (.int .i64 0), .s (.int .i64 0), .l [], .l []] (zl _ _ _ _ (by omega) rfl) (xs rfl rfl ?_)))
     refine xs rfl (qe _ _ _ _ (by omega) rfl).symm (za rfl [.s (.int .i64 0), .s (.int .i64 0), .s (.int .i64 0), .s (.int .i64 0), .l [], .l []] (zl _ _ _ _ (by omega) rfl) (xs rfl (by decide) (xs rfl ⟨trivial, trivial, trivial, trivial, ⟨rfl, rfl⟩, ⟨rfl, rfl⟩, trivial⟩ ?_)))
     refine q9 rfl (hJ _ (i + 1) (by omega) (by omega) ?_)
     repeat' (first | exact trivial | exact rfl | exact Or.inl rfl | exact cwi (by omega) (by omega) (by omega) | refine And.intro ?_ ?_)
     exact zz _ _ _ _ _ hg rfl
   · have h : ¬ i < rr.length := by simpa using h
     have : i = rr.length := by omega
     subst this
     refine xr rfl (z6 rfl ⟨⟨rfl, ⟨(qe _ _ _ _ (by omega) rfl).symm, zy _ _ _ rfl, Or.inl rfl⟩, trivial⟩, z1 rfl⟩)
theorem y5y (x0 : Int) (x1 : Int) (x2 : Int) (x3 : Int) (x4 : Int)  : PC Tryz.prog 250 [.agg [.s (.int .i64 x0), .s (.int .i64 x1), .s (.int .i64 x2), .s (.int .i64 x3), .s (.int .i64 x4)]] (.one (.own true [.s (.int .i64 x0), .s (.int .i64 x1), .s (.int .i64 x2), .s (.int .i64 x3), .s (.int .i64 x4)])) := by
 refine PC.begin Tryz.func250 rfl (by kernel_rfl) ?_
 exact xr rfl (z6 rfl ⟨⟨rfl, rfl, rfl, rfl, rfl, rfl, trivial⟩, z1 rfl⟩)
theorem q50 (rr : List (List Cell)) (hw : WR 1048576 yq rr) : PC Tryz.prog 198 [.one (.l rr)] (.one (.own false [.l 5 rr])) := by
 refine PC.begin Tryz.func198 rfl (by kernel_rfl) ?_
 have hlen := hw.1
 refine xs rfl rfl (xs rfl (Int.natCast_nonneg _) (xs rfl (by omega) (xs rfl (by omega) ?_)))
 refine qb rfl (ι := Nat) (fun i => i ≤ rr.length) (fun i => ⟨[(4, sV (.int .i64 i)), (3, .one (.h 7 rr.length)), (0, .one (.b (.l rr)))], [(7, .arr true 5 0 (rr.take i ++ List.replicate (rr.length - i) [.s (.int .i64 0), .s (.int .i64 0), .s (.int .i64 0), .s (.int .i64 0), .s (.int .i64 0)]))]⟩) (fun i => rr.length - i) 0 (Nat.zero_le _) ?_ ?_
 · repeat' (first | exact trivial | exact rfl | exact Or.inl rfl | refine And.intro ?_ ?_)
 · intro i hi J hJ
   refine xb rfl (fun h => ?_) (fun h => ?_)
   · have h : i < rr.length := by simpa using h
     obtain ⟨row, hg⟩ : ∃ row, rr[i]? = some row := ⟨_, List.getElem?_eq_getElem h⟩
     obtain ⟨x0, x1, x2, x3, x4, rfl⟩ := q0y (hw.2 row (List.mem_of_getElem? hg))
     refine xs rfl (Int.natCast_nonneg _) (za rfl _ hg (xs rfl rfl ?_))
     refine z2 rfl (y5y _ _ _ _ _) rfl ⟨⟨trivial, trivial, trivial, trivial, trivial, trivial⟩, trivial⟩ ?_
     refine xs rfl (qe _ _ _ _ (by omega) rfl).symm (xs rfl (Int.natCast_nonneg _) (za rfl [.s (.int .i64 0), .s (.int .i64 0), .s (.int .i64 0), .s (.int .i64 0), .s (.int .i64 0)] (zl _ _ _ _ (by omega) rfl) (xs rfl rfl ?_)))
     refine xs rfl (qe _ _ _ _ (by omega) rfl).symm (za rfl [.s (.int .i64 0), .s (.int .i64 0), .s (.int .i64 0), .s (.int .i64 0), .s (.int .i64 0)] (zl _ _ _ _ (by omega) rfl) (xs rfl (by decide) (xs rfl ⟨trivial, trivial, trivial, trivial, trivial, trivial⟩ ?_)))
     refine q9 rfl (hJ _ (i + 1) (by omega) (by omega) ?_)
     repeat' (first | exact trivial | exact rfl | exact Or.inl rfl | exact cwi (by omega) (by omega) (by omega) | refine And.intro ?_ ?_)
     exact zz _ _ _ _ _ hg rfl
   · have h : ¬ i < rr.length := by simpa using h
     have : i = rr.length := by omega
     subst this
     refine xr rfl (z6 rfl ⟨⟨rfl, ⟨(qe _ _ _ _ (by omega) rfl).symm, zy _ _ _ rfl, Or.inl rfl⟩, trivial⟩, z1 rfl⟩)
theorem y51 (x0 : Int) (x1 : List (List Cell)) (x2 : List (List Cell)) (h1 : WR 1048576 yp x1) (h2 : WR 1048576 yq x2) : PC Tryz.prog 121 [.agg [.s (.int .i64 x0), .l x1, .l x2]] (.one (.own true [.s (.int .i64 x0), .l 6 x1, .l 5 x2])) := by
 refine PC.begin Tryz.func121 rfl (by kernel_rfl) ?_
 refine z2 rfl (y72 _ h1) rfl ⟨trivial, trivial⟩ ?_
 refine z2 rfl (q50 _ h2) rfl ⟨trivial, trivial⟩ ?_
 exact xr rfl (z6 rfl ⟨⟨rfl, rfl, ⟨rfl, rfl, .inl rfl⟩, ⟨rfl, rfl, .inl rfl⟩, trivial⟩, z1 rfl⟩)
theorem z4h (rr : List (List Cell)) (hw : WR 1048576 yf rr) : PC Tryz.prog 62 [.one (.l rr)] (.one (.own false [.l 3 rr])) := by
 refine PC.begin Tryz.func62 rfl (by kernel_rfl) ?_
 have hlen := hw.1
 refine xs rfl rfl (xs rfl (Int.natCast_nonneg _) (xs rfl (by omega) (xs rfl (by omega) ?_)))
 refine qb rfl (ι := Nat) (fun i => i ≤ rr.length) (fun i => ⟨[(4, sV (.int .i64 i)), (3, .one (.h 7 rr.length)), (0, .one (.b (.l rr)))], [(7, .arr true 3 0 (rr.take i ++ List.replicate (rr.length - i) [.s (.int .i64 0), .l [], .l []]))]⟩) (fun i => rr.length - i) 0 (Nat.zero_le _) ?_ ?_
 · repeat' (first | exact trivial | exact rfl | exact Or.inl rfl | refine And.intro ?_ ?_)
 · intro i hi J hJ
   refine xb rfl (fun h => ?_) (fun h => ?_)
   · have h : i < rr.length := by simpa using h
     obtain ⟨row, hg⟩ : ∃ row, rr[i]? = some row := ⟨_, List.getElem?_eq_getElem h⟩
     obtain ⟨x0, x1, x2, rfl, h1, h2⟩ := y0p (hw.2 row (List.mem_of_getElem? hg))
     refine xs rfl (Int.natCast_nonneg _) (za rfl _ hg (xs rfl rfl ?_))
     refine z2 rfl (y51 _ _ _ h1 h2) rfl ⟨⟨trivial, trivial, trivial, trivial⟩, trivial⟩ ?_
     refine xs rfl (qe _ _ _ _ (by omega) rfl).symm (xs rfl (Int.natCast_nonneg _) (za rfl [.s (.int .i64 0), .l [], .l []] (zl _ _ _ _ (by omega) rfl) (xs rfl rfl ?_)))
     refine xs rfl (qe _ _ _ _ (by omega) rfl).symm (za rfl [.s (.int .i64 0), .l [], .l []] (zl _ _ _ _ (by omega) rfl) (xs rfl (by decide) (xs rfl ⟨trivial, ⟨rfl, rfl⟩, ⟨rfl, rfl⟩, trivial⟩ ?_)))
     refine q9 rfl (hJ _ (i + 1) (by omega) (by omega) ?_)
     repeat' (first | exact trivial | exact rfl | exact Or.inl rfl | exact cwi (by omega) (by omega) (by omega) | refine And.intro ?_ ?_)
     exact zz _ _ _ _ _ hg rfl
   · have h : ¬ i < rr.length := by simpa using h
     have : i = rr.length := by omega
     subst this
     refine xr rfl (z6 rfl ⟨⟨rfl, ⟨(qe _ _ _ _ (by omega) rfl).symm, zy _ _ _ rfl, Or.inl rfl⟩, trivial⟩, z1 rfl⟩)
theorem y4h (x0 : Int) (x1 : Int) (x2 : Int) (x3 : Int) (x4 : Int) (x5 : Int) (x6 : Int) (x7 : Int) (x8 : Int)  : PC Tryz.prog 122 [.agg [.s (.int .i64 x0), .s (.int .i64 x1), .s (.int .i64 x2), .s (.int .i64 x3), .s (.int .i64 x4), .s (.int .i64 x5), .s (.int .i64 x6), .s (.int .i64 x7), .s (.int .i64 x8)]] (.one (.own true [.s (.int .i64 x0), .s (.int .i64 x1), .s (.int .i64 x2), .s (.int .i64 x3), .s (.int .i64 x4), .s (.int .i64 x5), .s (.int .i64 x6), .s (.int .i64 x7), .s (.int .i64 x8)])) := by
 refine PC.begin Tryz.func122 rfl (by kernel_rfl) ?_
 refine z2 rfl (q2s _ _) rfl ⟨⟨trivial, trivial, trivial⟩, trivial⟩ ?_
 exact xr rfl (z6 rfl ⟨⟨rfl, rfl, rfl, rfl, rfl, rfl, rfl, rfl, rfl, rfl, trivial⟩, z1 rfl⟩)
theorem y3u (rr : List (List Cell)) (hw : WR 1048576 yl rr) : PC Tryz.prog 63 [.one (.l rr)] (.one (.own false [.l 9 rr])) := by
 refine PC.begin Tryz.func63 rfl (by kernel_rfl) ?_
 have hlen := hw.1
 refine xs rfl rfl (xs rfl (Int.natCast_nonneg _) (xs rfl (by omega) (xs rfl (by omega) ?_)))
 refine qb rfl (ι := Nat) (fun i => i ≤ rr.length) (fun i => ⟨[(4, sV (.int .i64 i)), (3, .one (.h 7 rr.length)), (0, .one (.b (.l rr)))], [(7, .arr true 9 0 (rr.take i ++ List.replicate (rr.length - i) [.s (.int .i64 0), .s (.int .i64 0), .s (.int .i64 0), .s (.int .i64 0), .s (.int .i64 0), .s (.int .i64 0), .s (.int .i64 0), .s (.int .i64 0), .s (.int .i64 0)]))]⟩) (fun i => rr.length - i) 0 (Nat.zero_le _) ?_ ?_
 · repeat' (first | exact trivial | exact rfl | exact Or.inl rfl | refine And.intro ?_ ?_)
 · intro i hi J hJ
   refine xb rfl (fun h => ?_) (fun h => ?_)
   · have h : i < rr.length := by simpa using h
     obtain ⟨row, hg⟩ : ∃ row, rr[i]? = some row := ⟨_, List.getElem?_eq_getElem h⟩
     obtain ⟨x0, x1, x2, x3, x4, x5, x6, x7, x8, rfl⟩ := y0h (hw.2 row (List.mem_of_getElem? hg))
     refine xs rfl (Int.natCast_nonneg _) (za rfl _ hg (xs rfl rfl ?_))
     refine z2 rfl (y4h _ _ _ _ _ _ _ _ _) rfl ⟨⟨trivial, trivial, trivial, trivial, trivial, trivial, trivial, trivial, trivial, trivial⟩, trivial⟩ ?_
     refine xs rfl (qe _ _ _ _ (by omega) rfl).symm (xs rfl (Int.natCast_nonneg _) (za rfl [.s (.int .i64 0), .s (.int .i64 0), .s (.int .i64 0), .s (.int .i64 0), .s (.int .i64 0), .s (.int .i64 0), .s (.int .i64 0), .s (.int .i64 0), .s (.int .i64 0)] (zl _ _ _ _ (by omega) rfl) (xs rfl rfl ?_)))
     refine xs rfl (qe _ _ _ _ (by omega) rfl).symm (za rfl [.s (.int .i64 0), .s (.int .i64 0), .s (.int .i64 0), .s (.int .i64 0), .s (.int .i64 0), .s (.int .i64 0), .s (.int .i64 0), .s (.int .i64 0), .s (.int .i64 0)] (zl _ _ _ _ (by omega) rfl) (xs rfl (by decide) (xs rfl ⟨trivial, trivial, trivial, trivial, trivial, trivial, trivial, trivial, trivial, trivial⟩ ?_)))
     refine q9 rfl (hJ _ (i + 1) (by omega) (by omega) ?_)
     repeat' (first | exact trivial | exact rfl | exact Or.inl rfl | exact cwi (by omega) (by omega) (by omega) | refine And.intro ?_ ?_)
     exact zz _ _ _ _ _ hg rfl
   · have h : ¬ i < rr.length := by simpa using h
     have : i = rr.length := by omega
     subst this
     refine xr rfl (z6 rfl ⟨⟨rfl, ⟨(qe _ _ _ _ (by omega) rfl).symm, zy _ _ _ rfl, Or.inl rfl⟩, trivial⟩, z1 rfl⟩)
theorem q4g (x0 : List (List Cell)) (x1 : List (List Cell)) (x2 : List (List Cell)) (x3 : List (List Cell)) (x4 : List (List Cell)) (h0 : WR 1048576 q7 x0) (h1 : WR 1048576 qf x1) (h2 : WR 1048576 qa x2) (h3 : WR 1048576 yf x3) (h4 : WR 1048576 yl x4) : PC Tryz.prog 14 [.agg [.l x0, .l x1, .l x2, .l x3, .l x4]] (.one (.own true [.l 2 x0, .l 6 x1, .l 1 x2, .l 3 x3, .l 9 x4])) := by
 refine PC.begin Tryz.func14 rfl (by kernel_rfl) ?_
 refine z2 rfl (z1d _ h0) rfl ⟨trivial, trivial⟩ ?_
 refine z2 rfl (q51 _ h1) rfl ⟨trivial, trivial⟩ ?_
 refine z2 rfl (y31 _ h2) rfl ⟨trivial, trivial⟩ ?_
 refine z2 rfl (z4h _ h3) rfl ⟨trivial, trivial⟩ ?_
 refine z2 rfl (y3u _ h4) rfl ⟨trivial, trivial⟩ ?_
 exact xr rfl (z6 rfl ⟨⟨rfl, ⟨rfl, rfl, .inl rfl⟩, ⟨rfl, rfl, .inl rfl⟩, ⟨rfl, rfl, .inl rfl⟩, ⟨rfl, rfl, .inl rfl⟩, ⟨rfl, rfl, .inl rfl⟩, trivial⟩, z1 rfl⟩)
end Go.Proofs.YthljegacamgnnaaGreat
end
section
namespace Go.Proofs.YthljegacamgnnaaGreat
open Go Go.Sx
set_option maxRecDepth 20000
theorem q7c (x0 : Int) (x1 : Int) (x2 : Int) (x3 : Int) (y0 : Int) (y1 : Int) (y2 : Int) (y3 : Int)   : PC Tryz.prog 155 [.agg [.s (.int .i64 x0), .s (.int .i64 x1), .s (.int .i64 x2), .s (.int .i64 x3)], .agg [.s (.int .i64 y0), .s (.int .i64 y1), .s (.int .i64 y2), .s (.int .i64 y3)]] (rB (dE (α := List Cell) [.s (.int .i64 x0), .s (.int .i64 x1), .s (.int .i64 x2), .s (.int .i64 x3)] [.s (.int .i64 y0), .s (.int .i64 y1), .s (.int .i64 y2), .s (.int .i64 y3)])) := by
 refine PC.begin Tryz.func155 rfl (by kernel_rfl) ?_
 refine xb rfl (fun h => ?_) (fun e0 => ?_)
 · exact xr rfl (z6 rfl ⟨⟨rfl, yh (fun e => by simp only [List.cons.injEq, Cell.s.injEq, Value.int.injEq, Value.bool.injEq, Value.string.injEq] at e; simp [e] at h), trivial⟩, z1 rfl⟩)
 have e0 : x0 = y0 := by simpa using e0
 refine xb rfl (fun h => ?_) (fun e1 => ?_)
 · exact xr rfl (z6 rfl ⟨⟨rfl, yh (fun e => by simp only [List.cons.injEq, Cell.s.injEq, Value.int.injEq, Value.bool.injEq, Value.string.injEq] at e; simp [e] at h), trivial⟩, z1 rfl⟩)
 have e1 : x1 = y1 := by simpa using e1
 refine xb rfl (fun h => ?_) (fun e2 => ?_)
 · exact xr rfl (z6 rfl ⟨⟨rfl, yh (fun e => by simp only [List.cons.injEq, Cell.s.injEq, Value.int.injEq, Value.bool.injEq, Value.string.injEq] at e; simp [e] at h), trivial⟩, z1 rfl⟩)
 have e2 : x2 = y2 := by simpa using e2
 refine xb rfl (fun h => ?_) (fun e3 => ?_)
 · exact xr rfl (z6 rfl ⟨⟨rfl, yh (fun e => by simp only [List.cons.injEq, Cell.s.injEq, Value.int.injEq, Value.bool.injEq, Value.string.injEq] at e; simp [e] at h), trivial⟩, z1 rfl⟩)
 have e3 : x3 = y3 := by simpa using e3
 exact xr rfl (z6 rfl ⟨⟨rfl, zr (by simp [e0, e1, e2, e3]), trivial⟩, z1 rfl⟩)
theorem y6d (p q : List (List Cell)) (hp : WR 9000000000000000000 z05 p) (hq : WR 9000000000000000000 z05 q) : PC Tryz.prog 90 [.one (.l p), .one (.l q)] (rB (dE p q)) := by
 refine PC.begin Tryz.func90 rfl (by kernel_rfl) ?_
 have hpl := hp.1
 have hql := hq.1
 refine xb rfl (fun h => ?_) (fun h => ?_)
 · exact xr rfl (z6 rfl ⟨⟨rfl, yh (fun e => by subst e; simp at h), trivial⟩, z1 rfl⟩)
 have hl : p.length = q.length := by simpa [Int.ofNat_inj] using h
 refine qb rfl (ι := Nat) (fun i => i ≤ p.length ∧ p.take i = q.take i) (fun i => ⟨[(5, sV (.int .i64 i)), (0, .one (.b (.l p))), (1, .one (.b (.l q)))], []⟩) (fun i => p.length - i) 0 ⟨Nat.zero_le _, rfl⟩ ?_ ?_
 · repeat' (first | exact trivial | exact rfl | exact Or.inl rfl | refine And.intro ?_ ?_)
 · intro i ⟨hi, he⟩ J hJ
   refine xb rfl (fun h => ?_) (fun h => ?_)
   · have h : i < p.length := by simpa using h
     obtain ⟨row, hg⟩ : ∃ row, p[i]? = some row := ⟨_, List.getElem?_eq_getElem h⟩
     obtain ⟨row', hg'⟩ : ∃ row, q[i]? = some row := ⟨_, List.getElem?_eq_getElem (by omega)⟩
     obtain ⟨x0, x1, x2, x3, rfl⟩ := y2j (hp.2 row (List.mem_of_getElem? hg))
     obtain ⟨y0, y1, y2, y3, rfl⟩ := y2j (hq.2 row' (List.mem_of_getElem? hg'))
     refine zb rfl [] (.take 0 [] (.take 1 [] (.take 2 [] (.take 3 [8, 9] (.take 4 [] (.take 5 [] (.take 6 [] (.take 7 [8, 9] (.alt 8 (.take 9 [] .done) .nil))))))))) (by kernel_rfl) ?_
     refine xs rfl (Int.natCast_nonneg _) (za rfl _ hg (xs rfl rfl ?_))
     refine xs rfl (Int.natCast_nonneg _) (za rfl _ hg' (xs rfl rfl ?_))
     refine z2 rfl (q7c _ _ _ _ _ _ _ _) rfl ⟨⟨trivial, trivial, trivial, trivial, trivial⟩, ⟨trivial, trivial, trivial, trivial, trivial⟩, trivial⟩ ?_
     refine xb rfl (fun hb => ?_) (fun hb => ?_)
     · exact xr rfl (z6 rfl ⟨⟨rfl, yh (fun e => by subst e; rw [hg] at hg'; cases hg'; exact q01 hb rfl), trivial⟩, z1 rfl⟩)
     · have hb := y01 hb
       refine q9 rfl (hJ _ (i + 1) ⟨by omega, ym he hg (hg'.trans (by rw [hb]))⟩ (by omega) ?_)
       repeat' (first | exact trivial | exact rfl | exact Or.inl rfl | exact cwi (by omega) (by omega) (by omega) | refine And.intro ?_ ?_)
   · have h : ¬ i < p.length := by simpa using h
     exact xr rfl (z6 rfl ⟨⟨rfl, zr (by rw [show i = p.length by omega, List.take_length] at he; rw [he, hl, List.take_length]), trivial⟩, z1 rfl⟩)
theorem q3g (x0 : Int) (x1 : List (List Cell)) (y0 : Int) (y1 : List (List Cell)) (h1 : WR 9000000000000000000 z05 x1) (k1 : WR 9000000000000000000 z05 y1) : PC Tryz.prog 136 [.agg [.s (.int .i64 x0), .l x1], .agg [.s (.int .i64 y0), .l y1]] (rB (dE (α := List Cell) [.s (.int .i64 x0), .l x1] [.s (.int .i64 y0), .l y1])) := by
 refine PC.begin Tryz.func136 rfl (by kernel_rfl) ?_
 refine xb rfl (fun h => ?_) (fun e0 => ?_)
 · exact xr rfl (z6 rfl ⟨⟨rfl, yh (fun e => by simp only [List.cons.injEq, Cell.s.injEq, Value.int.injEq, Value.bool.injEq, Value.string.injEq] at e; simp [e] at h), trivial⟩, z1 rfl⟩)
 have e0 : x0 = y0 := by simpa using e0
 refine z2 rfl (y6d _ _ h1 k1) rfl ⟨trivial, trivial, trivial⟩ ?_
 refine xb rfl (fun h => ?_) (fun e1 => ?_)
 · exact xr rfl (z6 rfl ⟨⟨rfl, yh (fun e => q01 h (by simp only [List.cons.injEq, Cell.l.injEq] at e ⊢; simp only [e]; try trivial)), trivial⟩, z1 rfl⟩)
 have e1 := y01 e1
 exact xr rfl (z6 rfl ⟨⟨rfl, zr (by simp [e0, e1]), trivial⟩, z1 rfl⟩)
theorem y1b (p q : List (List Cell)) (hp : WR 9000000000000000000 q7 p) (hq : WR 9000000000000000000 q7 q) : PC Tryz.prog 67 [.one (.l p), .one (.l q)] (rB (dE p q)) := by
 refine PC.begin Tryz.func67 rfl (by kernel_rfl) ?_
 have hpl := hp.1
 have hql := hq.1
 refine xb rfl (fun h => ?_) (fun h => ?_)
 · exact xr rfl (z6 rfl ⟨⟨rfl, yh (fun e => by subst e; simp at h), trivial⟩, z1 rfl⟩)
 have hl : p.length = q.length := by simpa [Int.ofNat_inj] using h
 refine qb rfl (ι := Nat) (fun i => i ≤ p.length ∧ p.take i = q.take i) (fun i => ⟨[(5, sV (.int .i64 i)), (0, .one (.b (.l p))), (1, .one (.b (.l q)))], []⟩) (fun i => p.length - i) 0 ⟨Nat.zero_le _, rfl⟩ ?_ ?_
 · repeat' (first | exact trivial | exact rfl | exact Or.inl rfl | refine And.intro ?_ ?_)
 · intro i ⟨hi, he⟩ J hJ
   refine xb rfl (fun h => ?_) (fun h => ?_)
   · have h : i < p.length := by simpa using h
     obtain ⟨row, hg⟩ : ∃ row, p[i]? = some row := ⟨_, List.getElem?_eq_getElem h⟩
     obtain ⟨row', hg'⟩ : ∃ row, q[i]? = some row := ⟨_, List.getElem?_eq_getElem (by omega)⟩
     obtain ⟨x0, x1, rfl, h1⟩ := z0b (hp.2 row (List.mem_of_getElem? hg))
     obtain ⟨y0, y1, rfl, k1⟩ := z0b (hq.2 row' (List.mem_of_getElem? hg'))
     refine zb rfl [] (.take 0 [] (.take 1 [] (.take 2 [] (.take 3 [8, 9] (.take 4 [] (.take 5 [] (.take 6 [] (.take 7 [8, 9] (.alt 8 (.take 9 [] .done) .nil))))))))) (by kernel_rfl) ?_
     refine xs rfl (Int.natCast_nonneg _) (za rfl _ hg (xs rfl rfl ?_))
     refine xs rfl (Int.natCast_nonneg _) (za rfl _ hg' (xs rfl rfl ?_))
     refine z2 rfl (q3g _ _ _ _ h1 k1) rfl ⟨⟨trivial, trivial, trivial⟩, ⟨trivial, trivial, trivial⟩, trivial⟩ ?_
     refine xb rfl (fun hb => ?_) (fun hb => ?_)
     · exact xr rfl (z6 rfl ⟨⟨rfl, yh (fun e => by subst e; rw [hg] at hg'; cases hg'; exact q01 hb rfl), trivial⟩, z1 rfl⟩)
     · have hb := y01 hb
       refine q9 rfl (hJ _ (i + 1) ⟨by omega, ym he hg (hg'.trans (by rw [hb]))⟩ (by omega) ?_)
       repeat' (first | exact trivial | exact rfl | exact Or.inl rfl | exact cwi (by omega) (by omega) (by omega) | refine And.intro ?_ ?_)
   · have h : ¬ i < p.length := by simpa using h
     exact xr rfl (z6 rfl ⟨⟨rfl, zr (by rw [show i = p.length by omega, List.take_length] at he; rw [he, hl, List.take_length]), trivial⟩, z1 rfl⟩)
theorem z40 (x0 : Int) (x1 : Int) (x2 : Int) (y0 : Int) (y1 : Int) (y2 : Int)   : PC Tryz.prog 225 [.agg [.s (.int .i64 x0), .s (.int .i64 x1), .s (.int .i64 x2)], .agg [.s (.int .i64 y0), .s (.int .i64 y1), .s (.int .i64 y2)]] (rB (dE (α := List Cell) [.s (.int .i64 x0), .s (.int .i64 x1), .s (.int .i64 x2)] [.s (.int .i64 y0), .s (.int .i64 y1), .s (.int .i64 y2)])) := by
 refine PC.begin Tryz.func225 rfl (by kernel_rfl) ?_
 refine xb rfl (fun h => ?_) (fun e0 => ?_)
 · exact xr rfl (z6 rfl ⟨⟨rfl, yh (fun e => by simp only [List.cons.injEq, Cell.s.injEq, Value.int.injEq, Value.bool.injEq, Value.string.injEq] at e; simp [e] at h), trivial⟩, z1 rfl⟩)
 have e0 : x0 = y0 := by simpa using e0
 refine xb rfl (fun h => ?_) (fun e1 => ?_)
 · exact xr rfl (z6 rfl ⟨⟨rfl, yh (fun e => by simp only [List.cons.injEq, Cell.s.injEq, Value.int.injEq, Value.bool.injEq, Value.string.injEq] at e; simp [e] at h), trivial⟩, z1 rfl⟩)
 have e1 : x1 = y1 := by simpa using e1
 refine xb rfl (fun h => ?_) (fun e2 => ?_)
 · exact xr rfl (z6 rfl ⟨⟨rfl, yh (fun e => by simp only [List.cons.injEq, Cell.s.injEq, Value.int.injEq, Value.bool.injEq, Value.string.injEq] at e; simp [e] at h), trivial⟩, z1 rfl⟩)
 have e2 : x2 = y2 := by simpa using e2
 exact xr rfl (z6 rfl ⟨⟨rfl, zr (by simp [e0, e1, e2]), trivial⟩, z1 rfl⟩)
theorem y3g (p q : List (List Cell)) (hp : WR 9000000000000000000 qd p) (hq : WR 9000000000000000000 qd q) : PC Tryz.prog 154 [.one (.l p), .one (.l q)] (rB (dE p q)) := by
 refine PC.begin Tryz.func154 rfl (by kernel_rfl) ?_
 have hpl := hp.1
 have hql := hq.1
 refine xb rfl (fun h => ?_) (fun h => ?_)
 · exact xr rfl (z6 rfl ⟨⟨rfl, yh (fun e => by subst e; simp at h), trivial⟩, z1 rfl⟩)
 have hl : p.length = q.length := by simpa [Int.ofNat_inj] using h
 refine qb rfl (ι := Nat) (fun i => i ≤ p.length ∧ p.take i = q.take i) (fun i => ⟨[(5, sV (.int .i64 i)), (0, .one (.b (.l p))), (1, .one (.b (.l q)))], []⟩) (fun i => p.length - i) 0 ⟨Nat.zero_le _, rfl⟩ ?_ ?_
 · repeat' (first | exact trivial | exact rfl | exact Or.inl rfl | refine And.intro ?_ ?_)
 · intro i ⟨hi, he⟩ J hJ
   refine xb rfl (fun h => ?_) (fun h => ?_)
   · have h : i < p.length := by simpa using h
     obtain ⟨row, hg⟩ : ∃ row, p[i]? = some row := ⟨_, List.getElem?_eq_getElem h⟩
     obtain ⟨row', hg'⟩ : ∃ row, q[i]? = some row := ⟨_, List.getElem?_eq_getElem (by omega)⟩
     obtain ⟨x0, x1, x2, rfl⟩ := z0h (hp.2 row (List.mem_of_getElem? hg))
     obtain ⟨y0, y1, y2, rfl⟩ := z0h (hq.2 row' (List.mem_of_getElem? hg'))
     refine zb rfl [] (.take 0 [] (.take 1 [] (.take 2 [] (.take 3 [8, 9] (.take 4 [] (.take 5 [] (.take 6 [] (.take 7 [8, 9] (.alt 8 (.take 9 [] .done) .nil))))))))) (by kernel_rfl) ?_
     refine xs rfl (Int.natCast_nonneg _) (za rfl _ hg (xs rfl rfl ?_))
     refine xs rfl (Int.natCast_nonneg _) (za rfl _ hg' (xs rfl rfl ?_))
     refine z2 rfl (z40 _ _ _ _ _ _) rfl ⟨⟨trivial, trivial, trivial, trivial⟩, ⟨trivial, trivial, trivial, trivial⟩, trivial⟩ ?_
     refine xb rfl (fun hb => ?_) (fun hb => ?_)
     · exact xr rfl (z6 rfl ⟨⟨rfl, yh (fun e => by subst e; rw [hg] at hg'; cases hg'; exact q01 hb rfl), trivial⟩, z1 rfl⟩)
     · have hb := y01 hb
       refine q9 rfl (hJ _ (i + 1) ⟨by omega, ym he hg (hg'.trans (by rw [hb]))⟩ (by omega) ?_)
       repeat' (first | exact trivial | exact rfl | exact Or.inl rfl | exact cwi (by omega) (by omega) (by omega) | refine And.intro ?_ ?_)
   · have h : ¬ i < p.length := by simpa using h
     exact xr rfl (z6 rfl ⟨⟨rfl, zr (by rw [show i = p.length by omega, List.take_length] at he; rw [he, hl, List.take_length]), trivial⟩, z1 rfl⟩)
theorem q6d (x0 : Int) (x1 : Int) (y0 : Int) (y1 : Int)   : PC Tryz.prog 279 [.agg [.s (.int .i64 x0), .s (.int .i64 x1)], .agg [.s (.int .i64 y0), .s (.int .i64 y1)]] (rB (dE (α := List Cell) [.s (.int .i64 x0), .s (.int .i64 x1)] [.s (.int .i64 y0), .s (.int .i64 y1)])) := by
 refine PC.begin Tryz.func279 rfl (by kernel_rfl) ?_
 refine xb rfl (fun h => ?_) (fun e0 => ?_)
 · exact xr rfl (z6 rfl ⟨⟨rfl, yh (fun e => by simp only [List.cons.injEq, Cell.s.injEq, Value.int.injEq, Value.bool.injEq, Value.string.injEq] at e; simp [e] at h), trivial⟩, z1 rfl⟩)
 have e0 : x0 = y0 := by simpa using e0
 refine xb rfl (fun h => ?_) (fun e1 => ?_)
 · exact xr rfl (z6 rfl ⟨⟨rfl, yh (fun e => by simp only [List.cons.injEq, Cell.s.injEq, Value.int.injEq, Value.bool.injEq, Value.string.injEq] at e; simp [e] at h), trivial⟩, z1 rfl⟩)
 have e1 : x1 = y1 := by simpa using e1
 exact xr rfl (z6 rfl ⟨⟨rfl, zr (by simp [e0, e1]), trivial⟩, z1 rfl⟩)
theorem q32 (p q : List (List Cell)) (hp : WR 9000000000000000000 zi p) (hq : WR 9000000000000000000 zi q) : PC Tryz.prog 216 [.one (.l p), .one (.l q)] (rB (dE p q)) := by
 refine PC.begin Tryz.func216 rfl (by kernel_rfl) ?_
 have hpl := hp.1
 have hql := hq.1
 refine xb rfl (fun h => ?_) (fun h => ?_)
 · exact xr rfl (z6 rfl ⟨⟨rfl, yh (fun e => by subst e; simp at h), trivial⟩, z1 rfl⟩)
 have hl : p.length = q.length := by simpa [Int.ofNat_inj] using h
 refine qb rfl (ι := Nat) (fun i => i ≤ p.length ∧ p.take i = q.take i) (fun i => ⟨[(5, sV (.int .i64 i)), (0, .one (.b (.l p))), (1, .one (.b (.l q)))], []⟩) (fun i => p.length - i) 0 ⟨Nat.zero_le _, rfl⟩ ?_ ?_
 · repeat' (first | exact trivial | exact rfl | exact Or.inl rfl | refine And.intro ?_ ?_)
 · intro i ⟨hi, he⟩ J hJ
   refine xb rfl (fun h => ?_) (fun h => ?_)
   · have h : i < p.length := by simpa using h
     obtain ⟨row, hg⟩ : ∃ row, p[i]? = some row := ⟨_, List.getElem?_eq_getElem h⟩
     obtain ⟨row', hg'⟩ : ∃ row, q[i]? = some row := ⟨_, List.getElem?_eq_getElem (by omega)⟩
     obtain ⟨x0, x1, rfl⟩ := z1l (hp.2 row (List.mem_of_getElem? hg))
     obtain ⟨y0, y1, rfl⟩ := z1l (hq.2 row' (List.mem_of_getElem? hg'))
     refine zb rfl [] (.take 0 [] (.take 1 [] (.take 2 [] (.take 3 [8, 9] (.take 4 [] (.take 5 [] (.take 6 [] (.take 7 [8, 9] (.alt 8 (.take 9 [] .done) .nil))))))))) (by kernel_rfl) ?_
     refine xs rfl (Int.natCast_nonneg _) (za rfl _ hg (xs rfl rfl ?_))
     refine xs rfl (Int.natCast_nonneg _) (za rfl _ hg' (xs rfl rfl ?_))
     refine z2 rfl (q6d _ _ _ _) rfl ⟨⟨trivial, trivial, trivial⟩, ⟨trivial, trivial, trivial⟩, trivial⟩ ?_
     refine xb rfl (fun hb => ?_) (fun hb => ?_)
     · exact xr rfl (z6 rfl ⟨⟨rfl, yh (fun e => by subst e; rw [hg] at hg'; cases hg'; exact q01 hb rfl), trivial⟩, z1 rfl⟩)
     · have hb := y01 hb
       refine q9 rfl (hJ _ (i + 1) ⟨by omega, ym he hg (hg'.trans (by rw [hb]))⟩ (by omega) ?_)
       repeat' (first | exact trivial | exact rfl | exact Or.inl rfl | exact cwi (by omega) (by omega) (by omega) | refine And.intro ?_ ?_)
   · have h : ¬ i < p.length := by simpa using h
     exact xr rfl (z6 rfl ⟨⟨rfl, zr (by rw [show i = p.length by omega, List.take_length] at he; rw [he, hl, List.take_length]), trivial⟩, z1 rfl⟩)
theorem y2f (p q : List (List Cell)) (hp : WR 9000000000000000000 (.i .i64 .nil) p) (hq : WR 9000000000000000000 (.i .i64 .nil) q) : PC Tryz.prog 100 [.one (.l p), .one (.l q)] (rB (dE p q)) := by
 refine PC.begin Tryz.func100 rfl (by kernel_rfl) ?_
 have hpl := hp.1
 have hql := hq.1
 refine xb rfl (fun h => ?_) (fun h => ?_)
 · exact xr rfl (z6 rfl ⟨⟨rfl, yh (fun e => by subst e; simp at h), trivial⟩, z1 rfl⟩)
 have hl : p.length = q.length := by simpa [Int.ofNat_inj] using h
 refine qb rfl (ι := Nat) (fun i => i ≤ p.length ∧ p.take i = q.take i) (fun i => ⟨[(5, sV (.int .i64 i)), (0, .one (.b (.l p))), (1, .one (.b (.l q)))], []⟩) (fun i => p.length - i) 0 ⟨Nat.zero_le _, rfl⟩ ?_ ?_
 · repeat' (first | exact trivial | exact rfl | exact Or.inl rfl | refine And.intro ?_ ?_)
 · intro i ⟨hi, he⟩ J hJ
   refine xb rfl (fun h => ?_) (fun h => ?_)
   · have h : i < p.length := by simpa using h
     obtain ⟨row, hg⟩ : ∃ row, p[i]? = some row := ⟨_, List.getElem?_eq_getElem h⟩
     obtain ⟨row', hg'⟩ : ∃ row, q[i]? = some row := ⟨_, List.getElem?_eq_getElem (by omega)⟩
     obtain ⟨x0, _, rfl, hnil⟩ := ((hp.2 row (List.mem_of_getElem? hg))).qt; obtain rfl := hnil.yw
     obtain ⟨y0, _, rfl, knil⟩ := ((hq.2 row' (List.mem_of_getElem? hg'))).qt; obtain rfl := knil.yw
     refine zb rfl [] (.take 0 [] (.take 1 [] (.take 2 [] (.take 3 [8] (.take 4 [] (.take 5 [] (.take 6 [] (.take 7 [8] (.take 8 [] .done))))))))) (by kernel_rfl) ?_
     refine xs rfl (Int.natCast_nonneg _) (za rfl _ hg (xs rfl rfl ?_))
     refine xs rfl (Int.natCast_nonneg _) (za rfl _ hg' (xs rfl rfl ?_))
     refine xb rfl (fun hb => ?_) (fun hb => ?_)
     · exact xr rfl (z6 rfl ⟨⟨rfl, yh (fun e => by subst e; rw [hg] at hg'; cases hg'; simp at hb), trivial⟩, z1 rfl⟩)
     · have hb : x0 = y0 := by simpa using hb
       refine q9 rfl (hJ _ (i + 1) ⟨by omega, ym he hg (hg'.trans (by rw [hb]))⟩ (by omega) ?_)
       repeat' (first | exact trivial | exact rfl | exact Or.inl rfl | exact cwi (by omega) (by omega) (by omega) | refine And.intro ?_ ?_)
   · have h : ¬ i < p.length := by simpa using h
     exact xr rfl (z6 rfl ⟨⟨rfl, zr (by rw [show i = p.length by omega, List.take_length] at he; rw [he, hl, List.take_length]), trivial⟩, z1 rfl⟩)
theorem y5m (x0 : Int) (x1 : List (List Cell)) (x2 : List (List Cell)) (x3 : List (List Cell)) (x4 : List (List Cell)) (x5 : List (List Cell)) (y0 : Int) (y1 : List (List Cell)) (y2 : List (List Cell)) (y3 : List (List Cell)) (y4 : List (List Cell)) (y5 : List (List Cell)) (h1 : WR 9000000000000000000 qd x1) (h2 : WR 9000000000000000000 zi x2) (h3 : WR 9000000000000000000 q7 x3) (h4 : WR 9000000000000000000 zi x4) (h5 : WR 9000000000000000000 (.i .i64 .nil) x5) (k1 : WR 9000000000000000000 qd y1) (k2 : WR 9000000000000000000 zi y2) (k3 : WR 9000000000000000000 q7 y3) (k4 : WR 9000000000000000000 zi y4) (k5 : WR 9000000000000000000 (.i .i64 .nil) y5) : PC Tryz.prog 137 [.agg [.s (.int .i64 x0), .l x1, .l x2, .l x3, .l x4, .l x5], .agg [.s (.int .i64 y0), .l y1, .l y2, .l y3, .l y4, .l y5]] (rB (dE (α := List Cell) [.s (.int .i64 x0), .l x1, .l x2, .l x3, .l x4, .l x5] [.s (.int .i64 y0), .l y1, .l y2, .l y3, .l y4, .l y5])) := by
 refine PC.begin Tryz.func137 rfl (by kernel_rfl) ?_
 refine xb rfl (fun h => ?_) (fun e0 => ?_)
 · exact xr rfl (z6 rfl ⟨⟨rfl, yh (fun e => by simp only [List.cons.injEq, Cell.s.injEq, Value.int.injEq, Value.bool.injEq, Value.string.injEq] at e; simp [e] at h), trivial⟩, z1 rfl⟩)
 have e0 : x0 = y0 := by simpa using e0
 refine z2 rfl (y3g _ _ h1 k1) rfl ⟨trivial, trivial, trivial⟩ ?_
 refine xb rfl (fun h => ?_) (fun e1 => ?_)
 · exact xr rfl (z6 rfl ⟨⟨rfl, yh (fun e => q01 h (by simp only [List.cons.injEq, Cell.l.injEq] at e ⊢; simp only [e]; try trivial)), trivial⟩, z1 rfl⟩)
 have e1 := y01 e1
 refine z2 rfl (q32 _ _ h2 k2) rfl ⟨trivial, trivial, trivial⟩ ?_
 refine xb rfl (fun h => ?_) (fun e2 => ?_)
 · exact xr rfl (z6 rfl ⟨⟨rfl, yh (fun e => q01 h (by simp only [List.cons.injEq, Cell.l.injEq] at e ⊢; simp only [e]; try trivial)), trivial⟩, z1 rfl⟩)
 have e2 := y01 e2
 refine z2 rfl (y1b _ _ h3 k3) rfl ⟨trivial, trivial, trivial⟩ ?_
 refine xb rfl (fun h => ?_) (fun e3 => ?_)
 · exact xr rfl (z6 rfl ⟨⟨rfl, yh (fun e => q01 h (by simp only [List.cons.injEq, Cell.l.injEq] at e ⊢; simp only [e]; try trivial)), trivial⟩, z1 rfl⟩)
 have e3 := y01 e3
 refine z2 rfl (q32 _ _ h4 k4) rfl ⟨trivial, trivial, trivial⟩ ?_
 refine xb rfl (fun h => ?_) (fun e4 => ?_)
 · exact xr rfl (z6 rfl ⟨⟨rfl, yh (fun e => q01 h (by simp only [List.cons.injEq, Cell.l.injEq] at e ⊢; simp only [e]; try trivial)), trivial⟩, z1 rfl⟩)
 have e4 := y01 e4
 refine z2 rfl (y2f _ _ h5 k5) rfl ⟨trivial, trivial, trivial⟩ ?_
 refine xb rfl (fun h => ?_) (fun e5 => ?_)
 · exact xr rfl (z6 rfl ⟨⟨rfl, yh (fun e => q01 h (by simp only [List.cons.injEq, Cell.l.injEq] at e ⊢; simp only [e]; try trivial)), trivial⟩, z1 rfl⟩)
 have e5 := y01 e5
 exact xr rfl (z6 rfl ⟨⟨rfl, zr (by simp [e0, e1, e2, e3, e4, e5]), trivial⟩, z1 rfl⟩)
theorem y4o (p q : List (List Cell)) (hp : WR 9000000000000000000 qf p) (hq : WR 9000000000000000000 qf q) : PC Tryz.prog 68 [.one (.l p), .one (.l q)] (rB (dE p q)) := by
 refine PC.begin Tryz.func68 rfl (by kernel_rfl) ?_
 have hpl := hp.1
 have hql := hq.1
 refine xb rfl (fun h => ?_) (fun h => ?_)
 · exact xr rfl (z6 rfl ⟨⟨rfl, yh (fun e => by subst e; simp at h), trivial⟩, z1 rfl⟩)
 have hl : p.length = q.length := by simpa [Int.ofNat_inj] using h
 refine qb rfl (ι := Nat) (fun i => i ≤ p.length ∧ p.take i = q.take i) (fun i => ⟨[(5, sV (.int .i64 i)), (0, .one (.b (.l p))), (1, .one (.b (.l q)))], []⟩) (fun i => p.length - i) 0 ⟨Nat.zero_le _, rfl⟩ ?_ ?_
 · repeat' (first | exact trivial | exact rfl | exact Or.inl rfl | refine And.intro ?_ ?_)
 · intro i ⟨hi, he⟩ J hJ
   refine xb rfl (fun h => ?_) (fun h => ?_)
   · have h : i < p.length := by simpa using h
     obtain ⟨row, hg⟩ : ∃ row, p[i]? = some row := ⟨_, List.getElem?_eq_getElem h⟩
     obtain ⟨row', hg'⟩ : ∃ row, q[i]? = some row := ⟨_, List.getElem?_eq_getElem (by omega)⟩
     obtain ⟨x0, x1, x2, x3, x4, x5, rfl, h1, h2, h3, h4, h5⟩ := z0z (hp.2 row (List.mem_of_getElem? hg))
     obtain ⟨y0, y1, y2, y3, y4, y5, rfl, k1, k2, k3, k4, k5⟩ := z0z (hq.2 row' (List.mem_of_getElem? hg'))
     refine zb rfl [] (.take 0 [] (.take 1 [] (.take 2 [] (.take 3 [8, 9] (.take 4 [] (.take 5 [] (.take 6 [] (.take 7 [8, 9] (.alt 8 (.take 9 [] .done) .nil))))))))) (by kernel_rfl) ?_
     refine xs rfl (Int.natCast_nonneg _) (za rfl _ hg (xs rfl rfl ?_))
     refine xs rfl (Int.natCast_nonneg _) (za rfl _ hg' (xs rfl rfl ?_))
     refine z2 rfl (y5m _ _ _ _ _ _ _ _ _ _ _ _ h1 h2 h3 h4 h5 k1 k2 k3 k4 k5) rfl ⟨⟨trivial, trivial, trivial, trivial, trivial, trivial, trivial⟩, ⟨trivial, trivial, trivial, trivial, trivial, trivial, trivial⟩, trivial⟩ ?_
     refine xb rfl (fun hb => ?_) (fun hb => ?_)
     · exact xr rfl (z6 rfl ⟨⟨rfl, yh (fun e => by subst e; rw [hg] at hg'; cases hg'; exact q01 hb rfl), trivial⟩, z1 rfl⟩)
     · have hb := y01 hb
       refine q9 rfl (hJ _ (i + 1) ⟨by omega, ym he hg (hg'.trans (by rw [hb]))⟩ (by omega) ?_)
       repeat' (first | exact trivial | exact rfl | exact Or.inl rfl | exact cwi (by omega) (by omega) (by omega) | refine And.intro ?_ ?_)
   · have h : ¬ i < p.length := by simpa using h
     exact xr rfl (z6 rfl ⟨⟨rfl, zr (by rw [show i = p.length by omega, List.take_length] at he; rw [he, hl, List.take_length]), trivial⟩, z1 rfl⟩)
theorem q2f (x0 : Int) (x1 : Int) (y0 : Int) (y1 : Int)   : PC Tryz.prog 220 [.agg [.s (.int .i64 x0), .s (.int .i64 x1)], .agg [.s (.int .i64 y0), .s (.int .i64 y1)]] (rB (dE (α := List Cell) [.s (.int .i64 x0), .s (.int .i64 x1)] [.s (.int .i64 y0), .s (.int .i64 y1)])) := by
 refine PC.begin Tryz.func220 rfl (by kernel_rfl) ?_
 refine xb rfl (fun h => ?_) (fun e0 => ?_)
 · exact xr rfl (z6 rfl ⟨⟨rfl, yh (fun e => by simp only [List.cons.injEq, Cell.s.injEq, Value.int.injEq, Value.bool.injEq, Value.string.injEq] at e; simp [e] at h), trivial⟩, z1 rfl⟩)
 have e0 : x0 = y0 := by simpa using e0
 refine xb rfl (fun h => ?_) (fun e1 => ?_)
 · exact xr rfl (z6 rfl ⟨⟨rfl, yh (fun e => by simp only [List.cons.injEq, Cell.s.injEq, Value.int.injEq, Value.bool.injEq, Value.string.injEq] at e; simp [e] at h), trivial⟩, z1 rfl⟩)
 have e1 : x1 = y1 := by simpa using e1
 exact xr rfl (z6 rfl ⟨⟨rfl, zr (by simp [e0, e1]), trivial⟩, z1 rfl⟩)
theorem z33 (p q : List (List Cell)) (hp : WR 9000000000000000000 qn p) (hq : WR 9000000000000000000 qn q) : PC Tryz.prog 320 [.one (.l p), .one (.l q)] (rB (dE p q)) := by
 refine PC.begin Tryz.func320 rfl (by kernel_rfl) ?_
 have hpl := hp.1
 have hql := hq.1
 refine xb rfl (fun h => ?_) (fun h => ?_)
 · exact xr rfl (z6 rfl ⟨⟨rfl, yh (fun e => by subst e; simp at h), trivial⟩, z1 rfl⟩)
 have hl : p.length = q.length := by simpa [Int.ofNat_inj] using h
 refine qb rfl (ι := Nat) (fun i => i ≤ p.length ∧ p.take i = q.take i) (fun i => ⟨[(5, sV (.int .i64 i)), (0, .one (.b (.l p))), (1, .one (.b (.l q)))], []⟩) (fun i => p.length - i) 0 ⟨Nat.zero_le _, rfl⟩ ?_ ?_
 · repeat' (first | exact trivial | exact rfl | exact Or.inl rfl | refine And.intro ?_ ?_)
 · intro i ⟨hi, he⟩ J hJ
   refine xb rfl (fun h => ?_) (fun h => ?_)
   · have h : i < p.length := by simpa using h
     obtain ⟨row, hg⟩ : ∃ row, p[i]? = some row := ⟨_, List.getElem?_eq_getElem h⟩
     obtain ⟨row', hg'⟩ : ∃ row, q[i]? = some row := ⟨_, List.getElem?_eq_getElem (by omega)⟩
     obtain ⟨x0, x1, rfl⟩ := q1l (hp.2 row (List.mem_of_getElem? hg))
     obtain ⟨y0, y1, rfl⟩ := q1l (hq.2 row' (List.mem_of_getElem? hg'))
     refine zb rfl [] (.take 0 [] (.take 1 [] (.take 2 [] (.take 3 [8, 9] (.take 4 [] (.take 5 [] (.take 6 [] (.take 7 [8, 9] (.alt 8 (.take 9 [] .done) .nil))))))))) (by kernel_rfl) ?_
     refine xs rfl (Int.natCast_nonneg _) (za rfl _ hg (xs rfl rfl ?_))
     refine xs rfl (Int.natCast_nonneg _) (za rfl _ hg' (xs rfl rfl ?_))
     refine z2 rfl (q2f _ _ _ _) rfl ⟨⟨trivial, trivial, trivial⟩, ⟨trivial, trivial, trivial⟩, trivial⟩ ?_
     refine xb rfl (fun hb => ?_) (fun hb => ?_)
     · exact xr rfl (z6 rfl ⟨⟨rfl, yh (fun e => by subst e; rw [hg] at hg'; cases hg'; exact q01 hb rfl), trivial⟩, z1 rfl⟩)
     · have hb := y01 hb
       refine q9 rfl (hJ _ (i + 1) ⟨by omega, ym he hg (hg'.trans (by rw [hb]))⟩ (by omega) ?_)
       repeat' (first | exact trivial | exact rfl | exact Or.inl rfl | exact cwi (by omega) (by omega) (by omega) | refine And.intro ?_ ?_)
   · have h : ¬ i < p.length := by simpa using h
     exact xr rfl (z6 rfl ⟨⟨rfl, zr (by rw [show i = p.length by omega, List.take_length] at he; rw [he, hl, List.take_length]), trivial⟩, z1 rfl⟩)
theorem z6e (x0 : Int) (x1 : Int) (x2 : Int) (x3 : Int) (x4 : Int) (x5 : List (List Cell)) (y0 : Int) (y1 : Int) (y2 : Int) (y3 : Int) (y4 : Int) (y5 : List (List Cell)) (h5 : WR 9000000000000000000 qn x5) (k5 : WR 9000000000000000000 qn y5) : PC Tryz.prog 280 [.agg [.s (.int .i64 x0), .s (.int .i64 x1), .s (.int .i64 x2), .s (.int .i64 x3), .s (.int .i64 x4), .l x5], .agg [.s (.int .i64 y0), .s (.int .i64 y1), .s (.int .i64 y2), .s (.int .i64 y3), .s (.int .i64 y4), .l y5]] (rB (dE (α := List Cell) [.s (.int .i64 x0), .s (.int .i64 x1), .s (.int .i64 x2), .s (.int .i64 x3), .s (.int .i64 x4), .l x5] [.s (.int .i64 y0), .s (.int .i64 y1), .s (.int .i64 y2), .s (.int .i64 y3), .s (.int .i64 y4), .l y5])) := by
 refine PC.begin Tryz.func280 rfl (by kernel_rfl) ?_
 refine xb rfl (fun h => ?_) (fun e0 => ?_)
 · exact xr rfl (z6 rfl ⟨⟨rfl, yh (fun e => by simp only [List.cons.injEq, Cell.s.injEq, Value.int.injEq, Value.bool.injEq, Value.string.injEq] at e; simp [e] at h), trivial⟩, z1 rfl⟩)
 have e0 : x0 = y0 := by simpa using e0
 refine xb rfl (fun h => ?_) (fun e1 => ?_)
 · exact xr rfl (z6 rfl ⟨⟨rfl, yh (fun e => by simp only [List.cons.injEq, Cell.s.injEq, Value.int.injEq, Value.bool.injEq, Value.string.injEq] at e; simp [e] at h), trivial⟩, z1 rfl⟩)
 have e1 : x1 = y1 := by simpa using e1
 refine xb rfl (fun h => ?_) (fun e2 => ?_)
 · exact xr rfl (z6 rfl ⟨⟨rfl, yh (fun e => by simp only [List.cons.injEq, Cell.s.injEq, Value.int.injEq, Value.bool.injEq, Value.string.injEq] at e; simp [e] at h), trivial⟩, z1 rfl⟩)
 have e2 : x2 = y2 := by simpa using e2
 refine z2 rfl (q2f _ _ _ _) rfl ⟨⟨trivial, trivial, trivial⟩, ⟨trivial, trivial, trivial⟩, trivial⟩ ?_
 refine xb rfl (fun h => ?_) (fun e3 => ?_)
 · exact xr rfl (z6 rfl ⟨⟨rfl, yh (fun e => q01 h (by simp only [List.cons.injEq, Cell.l.injEq] at e ⊢; simp only [e]; try trivial)), trivial⟩, z1 rfl⟩)
 have e3 := y01 e3
 simp only [List.cons.injEq, Cell.s.injEq, Cell.l.injEq, Value.int.injEq, Value.bool.injEq, and_true, true_and] at e3
 refine z2 rfl (z33 _ _ h5 k5) rfl ⟨trivial, trivial, trivial⟩ ?_
 refine xb rfl (fun h => ?_) (fun e5 => ?_)
 · exact xr rfl (z6 rfl ⟨⟨rfl, yh (fun e => q01 h (by simp only [List.cons.injEq, Cell.l.injEq] at e ⊢; simp only [e]; try trivial)), trivial⟩, z1 rfl⟩)
 have e5 := y01 e5
 exact xr rfl (z6 rfl ⟨⟨rfl, zr (by simp [e0, e1, e2, e3, e5]), trivial⟩, z1 rfl⟩)
theorem q5m (p q : List (List Cell)) (hp : WR 9000000000000000000 yn p) (hq : WR 9000000000000000000 yn q) : PC Tryz.prog 217 [.one (.l p), .one (.l q)] (rB (dE p q)) := by
 refine PC.begin Tryz.func217 rfl (by kernel_rfl) ?_
 have hpl := hp.1
 have hql := hq.1
 refine xb rfl (fun h => ?_) (fun h => ?_)
 · exact xr rfl (z6 rfl ⟨⟨rfl, yh (fun e => by subst e; simp at h), trivial⟩, z1 rfl⟩)
 have hl : p.length = q.length := by simpa [Int.ofNat_inj] using h
 refine qb rfl (ι := Nat) (fun i => i ≤ p.length ∧ p.take i = q.take i) (fun i => ⟨[(5, sV (.int .i64 i)), (0, .one (.b (.l p))), (1, .one (.b (.l q)))], []⟩) (fun i => p.length - i) 0 ⟨Nat.zero_le _, rfl⟩ ?_ ?_
 · repeat' (first | exact trivial | exact rfl | exact Or.inl rfl | refine And.intro ?_ ?_)
 · intro i ⟨hi, he⟩ J hJ
   refine xb rfl (fun h => ?_) (fun h => ?_)
   · have h : i < p.length := by simpa using h
     obtain ⟨row, hg⟩ : ∃ row, p[i]? = some row := ⟨_, List.getElem?_eq_getElem h⟩
     obtain ⟨row', hg'⟩ : ∃ row, q[i]? = some row := ⟨_, List.getElem?_eq_getElem (by omega)⟩
     obtain ⟨x0, x1, x2, x3, x4, x5, rfl, h5⟩ := y1l (hp.2 row (List.mem_of_getElem? hg))
     obtain ⟨y0, y1, y2, y3, y4, y5, rfl, k5⟩ := y1l (hq.2 row' (List.mem_of_getElem? hg'))
     refine zb rfl [] (.take 0 [] (.take 1 [] (.take 2 [] (.take 3 [8, 9] (.take 4 [] (.take 5 [] (.take 6 [] (.take 7 [8, 9] (.alt 8 (.take 9 [] .done) .nil))))))))) (by kernel_rfl) ?_
     refine xs rfl (Int.natCast_nonneg _) (za rfl _ hg (xs rfl rfl ?_))
     refine xs rfl (Int.natCast_nonneg _) (za rfl _ hg' (xs rfl rfl ?_))
     refine z2 rfl (z6e _ _ _ _ _ _ _ _ _ _ _ _ h5 k5) rfl ⟨⟨trivial, trivial, trivial, trivial, trivial, trivial, trivial⟩, ⟨trivial, trivial, trivial, trivial, trivial, trivial, trivial⟩, trivial⟩ ?_
     refine xb rfl (fun hb => ?_) (fun hb => ?_)
     · exact xr rfl (z6 rfl ⟨⟨rfl, yh (fun e => by subst e; rw [hg] at hg'; cases hg'; exact q01 hb rfl), trivial⟩, z1 rfl⟩)
     · have hb := y01 hb
       refine q9 rfl (hJ _ (i + 1) ⟨by omega, ym he hg (hg'.trans (by rw [hb]))⟩ (by omega) ?_)
       repeat' (first | exact trivial | exact rfl | exact Or.inl rfl | exact cwi (by omega) (by omega) (by omega) | refine And.intro ?_ ?_)
   · have h : ¬ i < p.length := by simpa using h
     exact xr rfl (z6 rfl ⟨⟨rfl, zr (by rw [show i = p.length by omega, List.take_length] at he; rw [he, hl, List.take_length]), trivial⟩, z1 rfl⟩)
theorem z3g (x0 : List (List Cell)) (y0 : List (List Cell)) (h0 : WR 9000000000000000000 yn x0) (k0 : WR 9000000000000000000 yn y0) : PC Tryz.prog 138 [.agg [.l x0], .agg [.l y0]] (rB (dE (α := List Cell) [.l x0] [.l y0])) := by
 refine PC.begin Tryz.func138 rfl (by kernel_rfl) ?_
 refine z2 rfl (q5m _ _ h0 k0) rfl ⟨trivial, trivial, trivial⟩ ?_
 refine xb rfl (fun h => ?_) (fun e0 => ?_)
 · exact xr rfl (z6 rfl ⟨⟨rfl, yh (fun e => q01 h (by simp only [List.cons.injEq, Cell.l.injEq] at e ⊢; simp only [e]; try trivial)), trivial⟩, z1 rfl⟩)
 have e0 := y01 e0
 exact xr rfl (z6 rfl ⟨⟨rfl, zr (by simp [e0]), trivial⟩, z1 rfl⟩)
theorem q2w (p q : List (List Cell)) (hp : WR 9000000000000000000 qa p) (hq : WR 9000000000000000000 qa q) : PC Tryz.prog 69 [.one (.l p), .one (.l q)] (rB (dE p q)) := by
 refine PC.begin Tryz.func69 rfl (by kernel_rfl) ?_
 have hpl := hp.1
 have hql := hq.1
 refine xb rfl (fun h => ?_) (fun h => ?_)
 · exact xr rfl (z6 rfl ⟨⟨rfl, yh (fun e => by subst e; simp at h), trivial⟩, z1 rfl⟩)
 have hl : p.length = q.length := by simpa [Int.ofNat_inj] using h
 refine qb rfl (ι := Nat) (fun i => i ≤ p.length ∧ p.take i = q.take i) (fun i => ⟨[(5, sV (.int .i64 i)), (0, .one (.b (.l p))), (1, .one (.b (.l q)))], []⟩) (fun i => p.length - i) 0 ⟨Nat.zero_le _, rfl⟩ ?_ ?_
 · repeat' (first | exact trivial | exact rfl | exact Or.inl rfl | refine And.intro ?_ ?_)
 · intro i ⟨hi, he⟩ J hJ
   refine xb rfl (fun h => ?_) (fun h => ?_)
   · have h : i < p.length := by simpa using h
     obtain ⟨row, hg⟩ : ∃ row, p[i]? = some row := ⟨_, List.getElem?_eq_getElem h⟩
     obtain ⟨row', hg'⟩ : ∃ row, q[i]? = some row := ⟨_, List.getElem?_eq_getElem (by omega)⟩
     obtain ⟨x0, rfl, h0⟩ := q0a (hp.2 row (List.mem_of_getElem? hg))
     obtain ⟨y0, rfl, k0⟩ := q0a (hq.2 row' (List.mem_of_getElem? hg'))
     refine zb rfl [] (.take 0 [] (.take 1 [] (.take 2 [] (.take 3 [8, 9] (.take 4 [] (.take 5 [] (.take 6 [] (.take 7 [8, 9] (.alt 8 (.take 9 [] .done) .nil))))))))) (by kernel_rfl) ?_
     refine xs rfl (Int.natCast_nonneg _) (za rfl _ hg (xs rfl rfl ?_))
     refine xs rfl (Int.natCast_nonneg _) (za rfl _ hg' (xs rfl rfl ?_))
     refine z2 rfl (z3g _ _ h0 k0) rfl ⟨⟨trivial, trivial⟩, ⟨trivial, trivial⟩, trivial⟩ ?_
     refine xb rfl (fun hb => ?_) (fun hb => ?_)
     · exact xr rfl (z6 rfl ⟨⟨rfl, yh (fun e => by subst e; rw [hg] at hg'; cases hg'; exact q01 hb rfl), trivial⟩, z1 rfl⟩)
     · have hb := y01 hb
       refine q9 rfl (hJ _ (i + 1) ⟨by omega, ym he hg (hg'.trans (by rw [hb]))⟩ (by omega) ?_)
       repeat' (first | exact trivial | exact rfl | exact Or.inl rfl | exact cwi (by omega) (by omega) (by omega) | refine And.intro ?_ ?_)
   · have h : ¬ i < p.length := by simpa using h
     exact xr rfl (z6 rfl ⟨⟨rfl, zr (by rw [show i = p.length by omega, List.take_length] at he; rw [he, hl, List.take_length]), trivial⟩, z1 rfl⟩)
theorem z7d (x0 : Int) (x1 : Int) (x2 : Int) (x3 : Int) (x4 : List (List Cell)) (x5 : List (List Cell)) (y0 : Int) (y1 : Int) (y2 : Int) (y3 : Int) (y4 : List (List Cell)) (y5 : List (List Cell)) (h4 : WR 9000000000000000000 (.i .i64 .nil) x4) (h5 : WR 9000000000000000000 qn x5) (k4 : WR 9000000000000000000 (.i .i64 .nil) y4) (k5 : WR 9000000000000000000 qn y5) : PC Tryz.prog 281 [.agg [.s (.int .i64 x0), .s (.int .i64 x1), .s (.int .i64 x2), .s (.int .i64 x3), .l x4, .l x5], .agg [.s (.int .i64 y0), .s (.int .i64 y1), .s (.int .i64 y2), .s (.int .i64 y3), .l y4, .l y5]] (rB (dE (α := List Cell) [.s (.int .i64 x0), .s (.int .i64 x1), .s (.int .i64 x2), .s (.int .i64 x3), .l x4, .l x5] [.s (.int .i64 y0), .s (.int .i64 y1), .s (.int .i64 y2), .s (.int .i64 y3), .l y4, .l y5])) := by
 refine PC.begin Tryz.func281 rfl (by kernel_rfl) ?_
 refine xb rfl (fun h => ?_) (fun e0 => ?_)
 · exact xr rfl (z6 rfl ⟨⟨rfl, yh (fun e => by simp only [List.cons.injEq, Cell.s.injEq, Value.int.injEq, Value.bool.injEq, Value.string.injEq] at e; simp [e] at h), trivial⟩, z1 rfl⟩)
 have e0 : x0 = y0 := by simpa using e0
 refine xb rfl (fun h => ?_) (fun e1 => ?_)
 · exact xr rfl (z6 rfl ⟨⟨rfl, yh (fun e => by simp only [List.cons.injEq, Cell.s.injEq, Value.int.injEq, Value.bool.injEq, Value.string.injEq] at e; simp [e] at h), trivial⟩, z1 rfl⟩)
 have e1 : x1 = y1 := by simpa using e1
 refine xb rfl (fun h => ?_) (fun e2 => ?_)
 · exact xr rfl (z6 rfl ⟨⟨rfl, yh (fun e => by simp only [List.cons.injEq, Cell.s.injEq, Value.int.injEq, Value.bool.injEq, Value.string.injEq] at e; simp [e] at h), trivial⟩, z1 rfl⟩)
 have e2 : x2 = y2 := by simpa using e2
 refine xb rfl (fun h => ?_) (fun e3 => ?_)
 · exact xr rfl (z6 rfl ⟨⟨rfl, yh (fun e => by simp only [List.cons.injEq, Cell.s.injEq, Value.int.injEq, Value.bool.injEq, Value.string.injEq] at e; simp [e] at h), trivial⟩, z1 rfl⟩)
 have e3 : x3 = y3 := by simpa using e3
 refine z2 rfl (y2f _ _ h4 k4) rfl ⟨trivial, trivial, trivial⟩ ?_
 refine xb rfl (fun h => ?_) (fun e4 => ?_)
 · exact xr rfl (z6 rfl ⟨⟨rfl, yh (fun e => q01 h (by simp only [List.cons.injEq, Cell.l.injEq] at e ⊢; simp only [e]; try trivial)), trivial⟩, z1 rfl⟩)
 have e4 := y01 e4
 refine z2 rfl (z33 _ _ h5 k5) rfl ⟨trivial, trivial, trivial⟩ ?_
 refine xb rfl (fun h => ?_) (fun e5 => ?_)
 · exact xr rfl (z6 rfl ⟨⟨rfl, yh (fun e => q01 h (by simp only [List.cons.injEq, Cell.l.injEq] at e ⊢; simp only [e]; try trivial)), trivial⟩, z1 rfl⟩)
 have e5 := y01 e5
 exact xr rfl (z6 rfl ⟨⟨rfl, zr (by simp [e0, e1, e2, e3, e4, e5]), trivial⟩, z1 rfl⟩)
theorem y6e (p q : List (List Cell)) (hp : WR 9000000000000000000 yp p) (hq : WR 9000000000000000000 yp q) : PC Tryz.prog 218 [.one (.l p), .one (.l q)] (rB (dE p q)) := by
 refine PC.begin Tryz.func218 rfl (by kernel_rfl) ?_
 have hpl := hp.1
 have hql := hq.1
 refine xb rfl (fun h => ?_) (fun h => ?_)
 · exact xr rfl (z6 rfl ⟨⟨rfl, yh (fun e => by subst e; simp at h), trivial⟩, z1 rfl⟩)
 have hl : p.length = q.length := by simpa [Int.ofNat_inj] using h
 refine qb rfl (ι := Nat) (fun i => i ≤ p.length ∧ p.take i = q.take i) (fun i => ⟨[(5, sV (.int .i64 i)), (0, .one (.b (.l p))), (1, .one (.b (.l q)))], []⟩) (fun i => p.length - i) 0 ⟨Nat.zero_le _, rfl⟩ ?_ ?_
 · repeat' (first | exact trivial | exact rfl | exact Or.inl rfl | refine And.intro ?_ ?_)
 · intro i ⟨hi, he⟩ J hJ
   refine xb rfl (fun h => ?_) (fun h => ?_)
   · have h : i < p.length := by simpa using h
     obtain ⟨row, hg⟩ : ∃ row, p[i]? = some row := ⟨_, List.getElem?_eq_getElem h⟩
     obtain ⟨row', hg'⟩ : ∃ row, q[i]? = some row := ⟨_, List.getElem?_eq_getElem (by omega)⟩
     obtain ⟨x0, x1, x2, x3, x4, x5, rfl, h4, h5⟩ := q2j (hp.2 row (List.mem_of_getElem? hg))
     obtain ⟨y0, y1, y2, y3, y4, y5, rfl, k4, k5⟩ := q2j (hq.2 row' (List.mem_of_getElem? hg'))
     refine zb rfl [] (.take 0 [] (.take 1 [] (.take 2 [] (.take 3 [8, 9] (.take 4 [] (.take 5 [] (.take 6 [] (.take 7 [8, 9] (.alt 8 (.take 9 [] .done) .nil))))))))) (by kernel_rfl) ?_
     refine xs rfl (Int.natCast_nonneg _) (za rfl _ hg (xs rfl rfl ?_))
     refine xs rfl (Int.natCast_nonneg _) (za rfl _ hg' (xs rfl rfl ?_))
     refine z2 rfl (z7d _ _ _ _ _ _ _ _ _ _ _ _ h4 h5 k4 k5) rfl ⟨⟨trivial, trivial, trivial, trivial, trivial, trivial, trivial⟩, ⟨trivial, trivial, trivial, trivial, trivial, trivial, trivial⟩, trivial⟩ ?_
     refine xb rfl (fun hb => ?_) (fun hb => ?_)
     · exact xr rfl (z6 rfl ⟨⟨rfl, yh (fun e => by subst e; rw [hg] at hg'; cases hg'; exact q01 hb rfl), trivial⟩, z1 rfl⟩)
     · have hb := y01 hb
       refine q9 rfl (hJ _ (i + 1) ⟨by omega, ym he hg (hg'.trans (by rw [hb]))⟩ (by omega) ?_)
       repeat' (first | exact trivial | exact rfl | exact Or.inl rfl | exact cwi (by omega) (by omega) (by omega) | refine And.intro ?_ ?_)
   · have h : ¬ i < p.length := by simpa using h
     exact xr rfl (z6 rfl ⟨⟨rfl, zr (by rw [show i = p.length by omega, List.take_length] at he; rw [he, hl, List.take_length]), trivial⟩, z1 rfl⟩)
theorem z5m (x0 : Int) (x1 : Int) (x2 : Int) (x3 : Int) (x4 : Int) (y0 : Int) (y1 : Int) (y2 : Int) (y3 : Int) (y4 : Int)   : PC Tryz.prog 282 [.agg [.s (.int .i64 x0), .s (.int .i64 x1), .s (.int .i64 x2), .s (.int .i64 x3), .s (.int .i64 x4)], .agg [.s (.int .i64 y0), .s (.int .i64 y1), .s (.int .i64 y2), .s (.int .i64 y3), .s (.int .i64 y4)]] (rB (dE (α := List Cell) [.s (.int .i64 x0), .s (.int .i64 x1), .s (.int .i64 x2), .s (.int .i64 x3), .s (.int .i64 x4)] [.s (.int .i64 y0), .s (.int .i64 y1), .s (.int .i64 y2), .s (.int .i64 y3), .s (.int .i64 y4)])) := by
 refine PC.begin Tryz.func282 rfl (by kernel_rfl) ?_
 refine xb rfl (fun h => ?_) (fun e0 => ?_)
 · exact xr rfl (z6 rfl ⟨⟨rfl, yh (fun e => by simp only [List.cons.injEq, Cell.s.injEq, Value.int.injEq, Value.bool.injEq, Value.string.injEq] at e; simp [e] at h), trivial⟩, z1 rfl⟩)
 have e0 : x0 = y0 := by simpa using e0
 refine xb rfl (fun h => ?_) (fun e1 => ?_)
 · exact xr rfl (z6 rfl ⟨⟨rfl, yh (fun e => by simp only [List.cons.injEq, Cell.s.injEq, Value.int.injEq, Value.bool.injEq, Value.string.injEq] at e; simp [e] at h), trivial⟩, z1 rfl⟩)
 have e1 : x1 = y1 := by simpa using e1
 refine xb rfl (fun h => ?_) (fun e2 => ?_)
 · exact xr rfl (z6 rfl ⟨⟨rfl, yh (fun e => by simp only [List.cons.injEq, Cell.s.injEq, Value.int.injEq, Value.bool.injEq, Value.string.injEq] at e; simp [e] at h), trivial⟩, z1 rfl⟩)
 have e2 : x2 = y2 := by simpa using e2
 refine xb rfl (fun h => ?_) (fun e3 => ?_)
 · exact xr rfl (z6 rfl ⟨⟨rfl, yh (fun e => by simp only [List.cons.injEq, Cell.s.injEq, Value.int.injEq, Value.bool.injEq, Value.string.injEq] at e; simp [e] at h), trivial⟩, z1 rfl⟩)
 have e3 : x3 = y3 := by simpa using e3
 refine xb rfl (fun h => ?_) (fun e4 => ?_)
 · exact xr rfl (z6 rfl ⟨⟨rfl, yh (fun e => by simp only [List.cons.injEq, Cell.s.injEq, Value.int.injEq, Value.bool.injEq, Value.string.injEq] at e; simp [e] at h), trivial⟩, z1 rfl⟩)
 have e4 : x4 = y4 := by simpa using e4
 exact xr rfl (z6 rfl ⟨⟨rfl, zr (by simp [e0, e1, e2, e3, e4]), trivial⟩, z1 rfl⟩)
theorem q4n (p q : List (List Cell)) (hp : WR 9000000000000000000 yq p) (hq : WR 9000000000000000000 yq q) : PC Tryz.prog 219 [.one (.l p), .one (.l q)] (rB (dE p q)) := by
 refine PC.begin Tryz.func219 rfl (by kernel_rfl) ?_
 have hpl := hp.1
 have hql := hq.1
 refine xb rfl (fun h => ?_) (fun h => ?_)
 · exact xr rfl (z6 rfl ⟨⟨rfl, yh (fun e => by subst e; simp at h), trivial⟩, z1 rfl⟩)
 have hl : p.length = q.length := by simpa [Int.ofNat_inj] using h
 refine qb rfl (ι := Nat) (fun i => i ≤ p.length ∧ p.take i = q.take i) (fun i => ⟨[(5, sV (.int .i64 i)), (0, .one (.b (.l p))), (1, .one (.b (.l q)))], []⟩) (fun i => p.length - i) 0 ⟨Nat.zero_le _, rfl⟩ ?_ ?_
 · repeat' (first | exact trivial | exact rfl | exact Or.inl rfl | refine And.intro ?_ ?_)
 · intro i ⟨hi, he⟩ J hJ
   refine xb rfl (fun h => ?_) (fun h => ?_)
   · have h : i < p.length := by simpa using h
     obtain ⟨row, hg⟩ : ∃ row, p[i]? = some row := ⟨_, List.getElem?_eq_getElem h⟩
     obtain ⟨row', hg'⟩ : ∃ row, q[i]? = some row := ⟨_, List.getElem?_eq_getElem (by omega)⟩
     obtain ⟨x0, x1, x2, x3, x4, rfl⟩ := q0y (hp.2 row (List.mem_of_getElem? hg))
     obtain ⟨y0, y1, y2, y3, y4, rfl⟩ := q0y (hq.2 row' (List.mem_of_getElem? hg'))
     refine zb rfl [] (.take 0 [] (.take 1 [] (.take 2 [] (.take 3 [8, 9] (.take 4 [] (.take 5 [] (.take 6 [] (.take 7 [8, 9] (.alt 8 (.take 9 [] .done) .nil))))))))) (by kernel_rfl) ?_
     refine xs rfl (Int.natCast_nonneg _) (za rfl _ hg (xs rfl rfl ?_))
     refine xs rfl (Int.natCast_nonneg _) (za rfl _ hg' (xs rfl rfl ?_))
     refine z2 rfl (z5m _ _ _ _ _ _ _ _ _ _) rfl ⟨⟨trivial, trivial, trivial, trivial, trivial, trivial⟩, ⟨trivial, trivial, trivial, trivial, trivial, trivial⟩, trivial⟩ ?_
     refine xb rfl (fun hb => ?_) (fun hb => ?_)
     · exact xr rfl (z6 rfl ⟨⟨rfl, yh (fun e => by subst e; rw [hg] at hg'; cases hg'; exact q01 hb rfl), trivial⟩, z1 rfl⟩)
     · have hb := y01 hb
       refine q9 rfl (hJ _ (i + 1) ⟨by omega, ym he hg (hg'.trans (by rw [hb]))⟩ (by omega) ?_)
       repeat' (first | exact trivial | exact rfl | exact Or.inl rfl | exact cwi (by omega) (by omega) (by omega) | refine And.intro ?_ ?_)
   · have h : ¬ i < p.length := by simpa using h
     exact xr rfl (z6 rfl ⟨⟨rfl, zr (by rw [show i = p.length by omega, List.take_length] at he; rw [he, hl, List.take_length]), trivial⟩, z1 rfl⟩)
theorem z4o (x0 : Int) (x1 : List (List Cell)) (x2 : List (List Cell)) (y0 : Int) (y1 : List (List Cell)) (y2 : List (List Cell)) (h1 : WR 9000000000000000000 yp x1) (h2 : WR 9000000000000000000 yq x2) (k1 : WR 9000000000000000000 yp y1) (k2 : WR 9000000000000000000 yq y2) : PC Tryz.prog 139 [.agg [.s (.int .i64 x0), .l x1, .l x2], .agg [.s (.int .i64 y0), .l y1, .l y2]] (rB (dE (α := List Cell) [.s (.int .i64 x0), .l x1, .l x2] [.s (.int .i64 y0), .l y1, .l y2])) := by
 refine PC.begin Tryz.func139 rfl (by kernel_rfl) ?_
 refine xb rfl (fun h => ?_) (fun e0 => ?_)
 · exact xr rfl (z6 rfl ⟨⟨rfl, yh (fun e => by simp only [List.cons.injEq, Cell.s.injEq, Value.int.injEq, Value.bool.injEq, Value.string.injEq] at e; simp [e] at h), trivial⟩, z1 rfl⟩)
 have e0 : x0 = y0 := by simpa using e0
 refine z2 rfl (y6e _ _ h1 k1) rfl ⟨trivial, trivial, trivial⟩ ?_
 refine xb rfl (fun h => ?_) (fun e1 => ?_)
 · exact xr rfl (z6 rfl ⟨⟨rfl, yh (fun e => q01 h (by simp only [List.cons.injEq, Cell.l.injEq] at e ⊢; simp only [e]; try trivial)), trivial⟩, z1 rfl⟩)
 have e1 := y01 e1
 refine z2 rfl (q4n _ _ h2 k2) rfl ⟨trivial, trivial, trivial⟩ ?_
 refine xb rfl (fun h => ?_) (fun e2 => ?_)
 · exact xr rfl (z6 rfl ⟨⟨rfl, yh (fun e => q01 h (by simp only [List.cons.injEq, Cell.l.injEq] at e ⊢; simp only [e]; try trivial)), trivial⟩, z1 rfl⟩)
 have e2 := y01 e2
 exact xr rfl (z6 rfl ⟨⟨rfl, zr (by simp [e0, e1, e2]), trivial⟩, z1 rfl⟩)
theorem q40 (p q : List (List Cell)) (hp : WR 9000000000000000000 yf p) (hq : WR 9000000000000000000 yf q) : PC Tryz.prog 70 [.one (.l p), .one (.l q)] (rB (dE p q)) := by
 refine PC.begin Tryz.func70 rfl (by kernel_rfl) ?_
 have hpl := hp.1
 have hql := hq.1
 refine xb rfl (fun h => ?_) (fun h => ?_)
 · exact xr rfl (z6 rfl ⟨⟨rfl, yh (fun e => by subst e; simp at h), trivial⟩, z1 rfl⟩)
 have hl : p.length = q.length := by simpa [Int.ofNat_inj] using h
 refine qb rfl (ι := Nat) (fun i => i ≤ p.length ∧ p.take i = q.take i) (fun i => ⟨[(5, sV (.int .i64 i)), (0, .one (.b (.l p))), (1, .one (.b (.l q)))], []⟩) (fun i => p.length - i) 0 ⟨Nat.zero_le _, rfl⟩ ?_ ?_
 · repeat' (first | exact trivial | exact rfl | exact Or.inl rfl | refine And.intro ?_ ?_)
 · intro i ⟨hi, he⟩ J hJ
   refine xb rfl (fun h => ?_) (fun h => ?_)
   · have h : i < p.length := by simpa using h
     obtain ⟨row, hg⟩ : ∃ row, p[i]? = some row := ⟨_, List.getElem?_eq_getElem h⟩
     obtain ⟨row', hg'⟩ : ∃ row, q[i]? = some row := ⟨_, List.getElem?_eq_getElem (by omega)⟩
     obtain ⟨x0, x1, x2, rfl, h1, h2⟩ := y0p (hp.2 row (List.mem_of_getElem? hg))
     obtain ⟨y0, y1, y2, rfl, k1, k2⟩ := y0p (hq.2 row' (List.mem_of_getElem? hg'))
     refine zb rfl [] (.take 0 [] (.take 1 [] (.take 2 [] (.take 3 [8, 9] (.take 4 [] (.take 5 [] (.take 6 [] (.take 7 [8, 9] (.alt 8 (.take 9 [] .done) .nil))))))))) (by kernel_rfl) ?_
     refine xs rfl (Int.natCast_nonneg _) (za rfl _ hg (xs rfl rfl ?_))
     refine xs rfl (Int.natCast_nonneg _) (za rfl _ hg' (xs rfl rfl ?_))
     refine z2 rfl (z4o _ _ _ _ _ _ h1 h2 k1 k2) rfl ⟨⟨trivial, trivial, trivial, trivial⟩, ⟨trivial, trivial, trivial, trivial⟩, trivial⟩ ?_
     refine xb rfl (fun hb => ?_) (fun hb => ?_)
     · exact xr rfl (z6 rfl ⟨⟨rfl, yh (fun e => by subst e; rw [hg] at hg'; cases hg'; exact q01 hb rfl), trivial⟩, z1 rfl⟩)
     · have hb := y01 hb
       refine q9 rfl (hJ _ (i + 1) ⟨by omega, ym he hg (hg'.trans (by rw [hb]))⟩ (by omega) ?_)
       repeat' (first | exact trivial | exact rfl | exact Or.inl rfl | exact cwi (by omega) (by omega) (by omega) | refine And.intro ?_ ?_)
   · have h : ¬ i < p.length := by simpa using h
     exact xr rfl (z6 rfl ⟨⟨rfl, zr (by rw [show i = p.length by omega, List.take_length] at he; rw [he, hl, List.take_length]), trivial⟩, z1 rfl⟩)
theorem z41 (x0 : Int) (x1 : Int) (x2 : Int) (x3 : Int) (x4 : Int) (x5 : Int) (x6 : Int) (x7 : Int) (x8 : Int) (y0 : Int) (y1 : Int) (y2 : Int) (y3 : Int) (y4 : Int) (y5 : Int) (y6 : Int) (y7 : Int) (y8 : Int)   : PC Tryz.prog 140 [.agg [.s (.int .i64 x0), .s (.int .i64 x1), .s (.int .i64 x2), .s (.int .i64 x3), .s (.int .i64 x4), .s (.int .i64 x5), .s (.int .i64 x6), .s (.int .i64 x7), .s (.int .i64 x8)], .agg [.s (.int .i64 y0), .s (.int .i64 y1), .s (.int .i64 y2), .s (.int .i64 y3), .s (.int .i64 y4), .s (.int .i64 y5), .s (.int .i64 y6), .s (.int .i64 y7), .s (.int .i64 y8)]] (rB (dE (α := List Cell) [.s (.int .i64 x0), .s (.int .i64 x1), .s (.int .i64 x2), .s (.int .i64 x3), .s (.int .i64 x4), .s (.int .i64 x5), .s (.int .i64 x6), .s (.int .i64 x7), .s (.int .i64 x8)] [.s (.int .i64 y0), .s (.int .i64 y1), .s (.int .i64 y2), .s (.int .i64 y3), .s (.int .i64 y4), .s (.int .i64 y5), .s (.int .i64 y6), .s (.int .i64 y7), .s (.int .i64 y8)])) := by
 refine PC.begin Tryz.func140 rfl (by kernel_rfl) ?_
 refine xb rfl (fun h => ?_) (fun e0 => ?_)
 · exact xr rfl (z6 rfl ⟨⟨rfl, yh (fun e => by simp only [List.cons.injEq, Cell.s.injEq, Value.int.injEq, Value.bool.injEq, Value.string.injEq] at e; simp [e] at h), trivial⟩, z1 rfl⟩)
 have e0 : x0 = y0 := by simpa using e0
 refine xb rfl (fun h => ?_) (fun e1 => ?_)
 · exact xr rfl (z6 rfl ⟨⟨rfl, yh (fun e => by simp only [List.cons.injEq, Cell.s.injEq, Value.int.injEq, Value.bool.injEq, Value.string.injEq] at e; simp [e] at h), trivial⟩, z1 rfl⟩)
 have e1 : x1 = y1 := by simpa using e1
 refine xb rfl (fun h => ?_) (fun e2 => ?_)
 · exact xr rfl (z6 rfl ⟨⟨rfl, yh (fun e => by simp only [List.cons.injEq, Cell.s.injEq, Value.int.injEq, Value.bool.injEq, Value.string.injEq] at e; simp [e] at h), trivial⟩, z1 rfl⟩)
 have e2 : x2 = y2 := by simpa using e2
 refine xb rfl (fun h => ?_) (fun e3 => ?_)
 · exact xr rfl (z6 rfl ⟨⟨rfl, yh (fun e => by simp only [List.cons.injEq, Cell.s.injEq, Value.int.injEq, Value.bool.injEq, Value.string.injEq] at e; simp [e] at h), trivial⟩, z1 rfl⟩)
 have e3 : x3 = y3 := by simpa using e3
 refine xb rfl (fun h => ?_) (fun e4 => ?_)
 · exact xr rfl (z6 rfl ⟨⟨rfl, yh (fun e => by simp only [List.cons.injEq, Cell.s.injEq, Value.int.injEq, Value.bool.injEq, Value.string.injEq] at e; simp [e] at h), trivial⟩, z1 rfl⟩)
 have e4 : x4 = y4 := by simpa using e4
 refine xb rfl (fun h => ?_) (fun e5 => ?_)
 · exact xr rfl (z6 rfl ⟨⟨rfl, yh (fun e => by simp only [List.cons.injEq, Cell.s.injEq, Value.int.injEq, Value.bool.injEq, Value.string.injEq] at e; simp [e] at h), trivial⟩, z1 rfl⟩)
 have e5 : x5 = y5 := by simpa using e5
 refine xb rfl (fun h => ?_) (fun e6 => ?_)
 · exact xr rfl (z6 rfl ⟨⟨rfl, yh (fun e => by simp only [List.cons.injEq, Cell.s.injEq, Value.int.injEq, Value.bool.injEq, Value.string.injEq] at e; simp [e] at h), trivial⟩, z1 rfl⟩)
 have e6 : x6 = y6 := by simpa using e6
 refine z2 rfl (q2f _ _ _ _) rfl ⟨⟨trivial, trivial, trivial⟩, ⟨trivial, trivial, trivial⟩, trivial⟩ ?_
 refine xb rfl (fun h => ?_) (fun e7 => ?_)
 · exact xr rfl (z6 rfl ⟨⟨rfl, yh (fun e => q01 h (by simp only [List.cons.injEq, Cell.l.injEq] at e ⊢; simp only [e]; try trivial)), trivial⟩, z1 rfl⟩)
 have e7 := y01 e7
 simp only [List.cons.injEq, Cell.s.injEq, Cell.l.injEq, Value.int.injEq, Value.bool.injEq, and_true, true_and] at e7
 exact xr rfl (z6 rfl ⟨⟨rfl, zr (by simp [e0, e1, e2, e3, e4, e5, e6, e7]), trivial⟩, z1 rfl⟩)
theorem y3h (p q : List (List Cell)) (hp : WR 9000000000000000000 yl p) (hq : WR 9000000000000000000 yl q) : PC Tryz.prog 71 [.one (.l p), .one (.l q)] (rB (dE p q)) := by
 refine PC.begin Tryz.func71 rfl (by kernel_rfl) ?_
 have hpl := hp.1
 have hql := hq.1
 refine xb rfl (fun h => ?_) (fun h => ?_)
 · exact xr rfl (z6 rfl ⟨⟨rfl, yh (fun e => by subst e; simp at h), trivial⟩, z1 rfl⟩)
 have hl : p.length = q.length := by simpa [Int.ofNat_inj] using h
 refine qb rfl (ι := Nat) (fun i => i ≤ p.length ∧ p.take i = q.take i) (fun i => ⟨[(5, sV (.int .i64 i)), (0, .one (.b (.l p))), (1, .one (.b (.l q)))], []⟩) (fun i => p.length - i) 0 ⟨Nat.zero_le _, rfl⟩ ?_ ?_
 · repeat' (first | exact trivial | exact rfl | exact Or.inl rfl | refine And.intro ?_ ?_)
 · intro i ⟨hi, he⟩ J hJ
   refine xb rfl (fun h => ?_) (fun h => ?_)
   · have h : i < p.length := by simpa using h
     obtain ⟨row, hg⟩ : ∃ row, p[i]? = some row := ⟨_, List.getElem?_eq_getElem h⟩
     obtain ⟨row', hg'⟩ : ∃ row, q[i]? = some row := ⟨_, List.getElem?_eq_getElem (by omega)⟩
     obtain ⟨x0, x1, x2, x3, x4, x5, x6, x7, x8, rfl⟩ := y0h (hp.2 row (List.mem_of_getElem? hg))
     obtain ⟨y0, y1, y2, y3, y4, y5, y6, y7, y8, rfl⟩ := y0h (hq.2 row' (List.mem_of_getElem? hg'))
     refine zb rfl [] (.take 0 [] (.take 1 [] (.take 2 [] (.take 3 [8, 9] (.take 4 [] (.take 5 [] (.take 6 [] (.take 7 [8, 9] (.alt 8 (.take 9 [] .done) .nil))))))))) (by kernel_rfl) ?_
     refine xs rfl (Int.natCast_nonneg _) (za rfl _ hg (xs rfl rfl ?_))
     refine xs rfl (Int.natCast_nonneg _) (za rfl _ hg' (xs rfl rfl ?_))
     refine z2 rfl (z41 _ _ _ _ _ _ _ _ _ _ _ _ _ _ _ _ _ _) rfl ⟨⟨trivial, trivial, trivial, trivial, trivial, trivial, trivial, trivial, trivial, trivial⟩, ⟨trivial, trivial, trivial, trivial, trivial, trivial, trivial, trivial, trivial, trivial⟩, trivial⟩ ?_
     refine xb rfl (fun hb => ?_) (fun hb => ?_)
     · exact xr rfl (z6 rfl ⟨⟨rfl, yh (fun e => by subst e; rw [hg] at hg'; cases hg'; exact q01 hb rfl), trivial⟩, z1 rfl⟩)
     · have hb := y01 hb
       refine q9 rfl (hJ _ (i + 1) ⟨by omega, ym he hg (hg'.trans (by rw [hb]))⟩ (by omega) ?_)
       repeat' (first | exact trivial | exact rfl | exact Or.inl rfl | exact cwi (by omega) (by omega) (by omega) | refine And.intro ?_ ?_)
   · have h : ¬ i < p.length := by simpa using h
     exact xr rfl (z6 rfl ⟨⟨rfl, zr (by rw [show i = p.length by omega, List.take_length] at he; rw [he, hl, List.take_length]), trivial⟩, z1 rfl⟩)
theorem y40 (x0 : List (List Cell)) (x1 : List (List Cell)) (x2 : List (List Cell)) (x3 : List (List Cell)) (x4 : List (List Cell)) (y0 : List (List Cell)) (y1 : List (List Cell)) (y2 : List (List Cell)) (y3 : List (List Cell)) (y4 : List (List Cell)) (h0 : WR 9000000000000000000 q7 x0) (h1 : WR 9000000000000000000 qf x1) (h2 : WR 9000000000000000000 qa x2) (h3 : WR 9000000000000000000 yf x3) (h4 : WR 9000000000000000000 yl x4) (k0 : WR 9000000000000000000 q7 y0) (k1 : WR 9000000000000000000 qf y1) (k2 : WR 9000000000000000000 qa y2) (k3 : WR 9000000000000000000 yf y3) (k4 : WR 9000000000000000000 yl y4) : PC Tryz.prog 17 [.agg [.l x0, .l x1, .l x2, .l x3, .l x4], .agg [.l y0, .l y1, .l y2, .l y3, .l y4]] (rB (dE (α := List Cell) [.l x0, .l x1, .l x2, .l x3, .l x4] [.l y0, .l y1, .l y2, .l y3, .l y4])) := by
 refine PC.begin Tryz.func17 rfl (by kernel_rfl) ?_
 refine z2 rfl (y1b _ _ h0 k0) rfl ⟨trivial, trivial, trivial⟩ ?_
 refine xb rfl (fun h => ?_) (fun e0 => ?_)
 · exact xr rfl (z6 rfl ⟨⟨rfl, yh (fun e => q01 h (by simp only [List.cons.injEq, Cell.l.injEq] at e ⊢; simp only [e]; try trivial)), trivial⟩, z1 rfl⟩)
 have e0 := y01 e0
 refine z2 rfl (y4o _ _ h1 k1) rfl ⟨trivial, trivial, trivial⟩ ?_
 refine xb rfl (fun h => ?_) (fun e1 => ?_)
 · exact xr rfl (z6 rfl ⟨⟨rfl, yh (fun e => q01 h (by simp only [List.cons.injEq, Cell.l.injEq] at e ⊢; simp only [e]; try trivial)), trivial⟩, z1 rfl⟩)
 have e1 := y01 e1
 refine z2 rfl (q2w _ _ h2 k2) rfl ⟨trivial, trivial, trivial⟩ ?_
 refine xb rfl (fun h => ?_) (fun e2 => ?_)
 · exact xr rfl (z6 rfl ⟨⟨rfl, yh (fun e => q01 h (by simp only [List.cons.injEq, Cell.l.injEq] at e ⊢; simp only [e]; try trivial)), trivial⟩, z1 rfl⟩)
 have e2 := y01 e2
 refine z2 rfl (q40 _ _ h3 k3) rfl ⟨trivial, trivial, trivial⟩ ?_
 refine xb rfl (fun h => ?_) (fun e3 => ?_)
 · exact xr rfl (z6 rfl ⟨⟨rfl, yh (fun e => q01 h (by simp only [List.cons.injEq, Cell.l.injEq] at e ⊢; simp only [e]; try trivial)), trivial⟩, z1 rfl⟩)
 have e3 := y01 e3
 refine z2 rfl (y3h _ _ h4 k4) rfl ⟨trivial, trivial, trivial⟩ ?_
 refine xb rfl (fun h => ?_) (fun e4 => ?_)
 · exact xr rfl (z6 rfl ⟨⟨rfl, yh (fun e => q01 h (by simp only [List.cons.injEq, Cell.l.injEq] at e ⊢; simp only [e]; try trivial)), trivial⟩, z1 rfl⟩)
 have e4 := y01 e4
 exact xr rfl (z6 rfl ⟨⟨rfl, zr (by simp [e0, e1, e2, e3, e4]), trivial⟩, z1 rfl⟩)
end Go.Proofs.YthljegacamgnnaaGreat
end
section
namespace Go.Proofs.YthljegacamgnnaaGreat
open Go Go.Sx
set_option maxRecDepth 20000
theorem z70 (rr : List (List Cell)) (b : Int) (hw : WR 9223372036854775807 z05 rr) (p0 : 0 ≤ b) (p1 : b ≤ 1048576) : PC Tryz.prog 174 [.one (.l rr), .one (.s (.int .i64 b))] (rI (szn b (qi z05 rr))) := by
 refine PC.begin Tryz.func174 rfl (by kernel_rfl) ?_
 have hlen := hw.1
 have w1 : IntKind.i64.wrap (b - rr.length) = b - rr.length := wrap_i64 (by omega) (by omega)
 rw [q0j (fun row hr => by obtain ⟨x0, x1, x2, x3, rfl⟩ := y2j hr; rfl) hw]
 refine xb rfl (fun h => ?_) (fun h => ?_)
 · simp only [w1, decide_eq_true_eq] at h
   exact xr rfl (z6 rfl ⟨⟨rfl, (by show Value.int _ _ = Value.int _ _; rw [szn, if_pos h]), trivial⟩, z1 rfl⟩)
 · simp only [w1, decide_eq_false_iff_not] at h
   exact xr rfl (z6 rfl ⟨⟨rfl, (by show Value.int .i64 (IntKind.i64.wrap (b - rr.length)) = Value.int _ _; rw [szn, if_neg h, w1]), trivial⟩, z1 rfl⟩)
theorem q3s (x0 : Int) (x1 : List (List Cell)) (b : Int) (h1 : WR 9223372036854775807 z05 x1) (hb0 : 0 ≤ b) (hb1 : b ≤ 1048576) : PC Tryz.prog 109 [.agg [.s (.int .i64 x0), .l x1], .one (.s (.int .i64 b))] (rI (szn b (tot q7 [.s (.int .i64 x0), .l x1]))) := by
 refine PC.begin Tryz.func109 rfl (by kernel_rfl) ?_
 have ht : tot q7 [.s (.int .i64 x0), .l x1] = qi z05 x1 := by simp only [tot, qi] <;> omega
 refine z2 rfl (z70 x1 b h1 hb0 hb1) rfl ⟨trivial, trivial, trivial⟩ ?_
 refine xb rfl (fun h => ?_) (fun e0 => ?_)
 · have h : szn b (qi z05 x1) < 0 := by simpa using h
   exact xr rfl (z6 rfl ⟨⟨rfl, (by show Value.int _ _ = Value.int _ _; congr 1; rw [ht]; unfold szn at *; split at h <;> rw [if_pos] <;> omega), trivial⟩, z1 rfl⟩)
 have e0 : 0 ≤ szn b (qi z05 x1) := by simpa using e0
 exact xr rfl (z6 rfl ⟨⟨rfl, (by show Value.int _ _ = Value.int _ _; rw [ht]), trivial⟩, z1 rfl⟩)
theorem q1c (rr : List (List Cell)) (b : Int) (hw : WR 9223372036854775807 q7 rr) (p0 : 0 ≤ b) (p1 : b ≤ 1048576) : PC Tryz.prog 50 [.one (.l rr), .one (.s (.int .i64 b))] (rI (szn b (qi q7 rr))) := by
 refine PC.begin Tryz.func50 rfl (by kernel_rfl) ?_
 have hlen := hw.1
 have w1 : IntKind.i64.wrap (b - rr.length) = b - rr.length := wrap_i64 (by omega) (by omega)
 refine xb rfl (fun h => ?_) (fun h => ?_)
 · simp only [w1, decide_eq_true_eq] at h
   exact xr rfl (z6 rfl ⟨⟨rfl, (by show Value.int _ _ = Value.int _ _; unfold szn qi; rw [if_pos (by omega)]), trivial⟩, z1 rfl⟩)
 simp only [w1, decide_eq_false_iff_not] at h
 have hs : szn b rr.length = b - rr.length := by unfold szn; rw [if_neg h]
 refine qb rfl (ι := Nat) (fun i => i ≤ rr.length ∧ 0 ≤ szn b (rr.length + y0a (tot q7) (rr.take i))) (fun i => ⟨[(5, sV (.int .i64 i)), (1, sV (.int .i64 (szn b (rr.length + y0a (tot q7) (rr.take i))))), (0, .one (.b (.l rr)))], []⟩) (fun i => rr.length - i) 0 ⟨Nat.zero_le _, by simp only [List.take_zero, y0a, Nat.add_zero, hs]; omega⟩ ?_ ?_
 · refine ⟨⟨rfl, ?_, rfl, trivial⟩, trivial, rfl⟩
   show Cell.s (.int .i64 (IntKind.i64.wrap (b - rr.length))) = Cell.s (.int .i64 (szn b (rr.length + 0)))
   rw [w1, Nat.add_zero, hs]
 · intro i ⟨hi, hb⟩ J hJ
   refine xb rfl (fun h => ?_) (fun h => ?_)
   · have h : i < rr.length := by simpa using h
     obtain ⟨row, hg⟩ : ∃ row, rr[i]? = some row := ⟨_, List.getElem?_eq_getElem h⟩
     have hc := y0o (f := tot q7) hg
     have hc2 := z0f (tot q7) rr (i + 1)
     obtain ⟨x0, x1, rfl, h1⟩ := z0b (hw.2 row (List.mem_of_getElem? hg))
     refine xs rfl (Int.natCast_nonneg _) (za rfl _ hg (xs rfl rfl ?_))
     refine z2 rfl (q3s _ _ _ h1 hb (q0c p1 p0)) rfl ⟨⟨trivial, trivial, trivial⟩, trivial, trivial⟩ ?_
     refine xb rfl (fun hn => ?_) (fun hn => ?_)
     · have hn : szn (szn b (rr.length + y0a (tot q7) (rr.take i))) (tot q7 [.s (.int .i64 x0), .l x1]) < 0 := by simpa using hn
       rw [zg hb] at hn
       exact xr rfl (z6 rfl ⟨⟨rfl, (by show Value.int _ _ = Value.int _ _; congr 1; unfold szn qi at *; split at hn <;> rw [if_pos] <;> omega), trivial⟩, z1 rfl⟩)
     · have hn : ¬ szn (szn b (rr.length + y0a (tot q7) (rr.take i))) (tot q7 [.s (.int .i64 x0), .l x1]) < 0 := by simpa using hn
       have he := zg (n := tot q7 [.s (.int .i64 x0), .l x1]) hb
       rw [he] at hn
       rw [Nat.add_assoc, ← hc] at he hn
       refine q9 rfl (hJ _ (i + 1) ⟨by omega, by omega⟩ (by omega) ?_)
       refine ⟨⟨cwi (by omega) (by omega) (by omega), ?_, rfl, trivial⟩, trivial, rfl⟩
       exact congrArg (fun n => Cell.s (.int .i64 n)) he
   · have h : ¬ i < rr.length := by simpa using h
     have : i = rr.length := by omega
     subst this
     exact xr rfl (z6 rfl ⟨⟨rfl, (by show Value.int _ _ = Value.int _ _; rw [List.take_length]; rfl), trivial⟩, z1 rfl⟩)
theorem y3s (rr : List (List Cell)) (b : Int) (hw : WR 9223372036854775807 qd rr) (p0 : 0 ≤ b) (p1 : b ≤ 1048576) : PC Tryz.prog 147 [.one (.l rr), .one (.s (.int .i64 b))] (rI (szn b (qi qd rr))) := by
 refine PC.begin Tryz.func147 rfl (by kernel_rfl) ?_
 have hlen := hw.1
 have w1 : IntKind.i64.wrap (b - rr.length) = b - rr.length := wrap_i64 (by omega) (by omega)
 rw [q0j (fun row hr => by obtain ⟨x0, x1, x2, rfl⟩ := z0h hr; rfl) hw]
 refine xb rfl (fun h => ?_) (fun h => ?_)
 · simp only [w1, decide_eq_true_eq] at h
   exact xr rfl (z6 rfl ⟨⟨rfl, (by show Value.int _ _ = Value.int _ _; rw [szn, if_pos h]), trivial⟩, z1 rfl⟩)
 · simp only [w1, decide_eq_false_iff_not] at h
   exact xr rfl (z6 rfl ⟨⟨rfl, (by show Value.int .i64 (IntKind.i64.wrap (b - rr.length)) = Value.int _ _; rw [szn, if_neg h, w1]), trivial⟩, z1 rfl⟩)
theorem q39 (rr : List (List Cell)) (b : Int) (hw : WR 9223372036854775807 zi rr) (p0 : 0 ≤ b) (p1 : b ≤ 1048576) : PC Tryz.prog 175 [.one (.l rr), .one (.s (.int .i64 b))] (rI (szn b (qi zi rr))) := by
 refine PC.begin Tryz.func175 rfl (by kernel_rfl) ?_
 have hlen := hw.1
 have w1 : IntKind.i64.wrap (b - rr.length) = b - rr.length := wrap_i64 (by omega) (by omega)
 rw [q0j (fun row hr => by obtain ⟨x0, x1, rfl⟩ := z1l hr; rfl) hw]
 refine xb rfl (fun h => ?_) (fun h => ?_)
 · simp only [w1, decide_eq_true_eq] at h
   exact xr rfl (z6 rfl ⟨⟨rfl, (by show Value.int _ _ = Value.int _ _; rw [szn, if_pos h]), trivial⟩, z1 rfl⟩)
 · simp only [w1, decide_eq_false_iff_not] at h
   exact xr rfl (z6 rfl ⟨⟨rfl, (by show Value.int .i64 (IntKind.i64.wrap (b - rr.length)) = Value.int _ _; rw [szn, if_neg h, w1]), trivial⟩, z1 rfl⟩)
theorem z2s (rr : List (List Cell)) (b : Int) (hw : WR 9223372036854775807 (.i .i64 .nil) rr) (p0 : 0 ≤ b) (p1 : b ≤ 1048576) : PC Tryz.prog 176 [.one (.l rr), .one (.s (.int .i64 b))] (rI (szn b (qi (.i .i64 .nil) rr))) := by
 refine PC.begin Tryz.func176 rfl (by kernel_rfl) ?_
 have hlen := hw.1
 have w1 : IntKind.i64.wrap (b - rr.length) = b - rr.length := wrap_i64 (by omega) (by omega)
 rw [q0j (fun row hr => by obtain ⟨x0, _, rfl, hnil⟩ := (hr).qt; obtain rfl := hnil.yw; rfl) hw]
 refine xb rfl (fun h => ?_) (fun h => ?_)
 · simp only [w1, decide_eq_true_eq] at h
   exact xr rfl (z6 rfl ⟨⟨rfl, (by show Value.int _ _ = Value.int _ _; rw [szn, if_pos h]), trivial⟩, z1 rfl⟩)
 · simp only [w1, decide_eq_false_iff_not] at h
   exact xr rfl (z6 rfl ⟨⟨rfl, (by show Value.int .i64 (IntKind.i64.wrap (b - rr.length)) = Value.int _ _; rw [szn, if_neg h, w1]), trivial⟩, z1 rfl⟩)
theorem q5x (x0 : Int) (x1 : List (List Cell)) (x2 : List (List Cell)) (x3 : List (List Cell)) (x4 : List (List Cell)) (x5 : List (List Cell)) (b : Int) (h1 : WR 9223372036854775807 qd x1) (h2 : WR 9223372036854775807 zi x2) (h3 : WR 9223372036854775807 q7 x3) (h4 : WR 9223372036854775807 zi x4) (h5 : WR 9223372036854775807 (.i .i64 .nil) x5) (hb0 : 0 ≤ b) (hb1 : b ≤ 1048576) : PC Tryz.prog 110 [.agg [.s (.int .i64 x0), .l x1, .l x2, .l x3, .l x4, .l x5], .one (.s (.int .i64 b))] (rI (szn b (tot qf [.s (.int .i64 x0), .l x1, .l x2, .l x3, .l x4, .l x5]))) := by
 refine PC.begin Tryz.func110 rfl (by kernel_rfl) ?_
 have ht : tot qf [.s (.int .i64 x0), .l x1, .l x2, .l x3, .l x4, .l x5] = qi qd x1 + qi zi x2 + qi q7 x3 + qi zi x4 + qi (.i .i64 .nil) x5 := by simp only [tot, qi] <;> omega
 refine z2 rfl (y3s x1 b h1 hb0 hb1) rfl ⟨trivial, trivial, trivial⟩ ?_
 refine xb rfl (fun h => ?_) (fun e0 => ?_)
 · have h : szn b (qi qd x1) < 0 := by simpa using h
   exact xr rfl (z6 rfl ⟨⟨rfl, (by show Value.int _ _ = Value.int _ _; congr 1; rw [ht]; unfold szn at *; split at h <;> rw [if_pos] <;> omega), trivial⟩, z1 rfl⟩)
 have e0 : 0 ≤ szn b (qi qd x1) := by simpa using e0
 refine z2 rfl (q39 x2 (szn b (qi qd x1)) h2 e0 (q0c hb1 hb0)) rfl ⟨trivial, trivial, trivial⟩ ?_
 refine xb rfl (fun h => ?_) (fun e1 => ?_)
 · have h : szn (szn b (qi qd x1)) (qi zi x2) < 0 := by simpa using h
   rw [zg e0] at h
   exact xr rfl (z6 rfl ⟨⟨rfl, (by show Value.int _ _ = Value.int _ _; congr 1; rw [ht]; unfold szn at *; split at h <;> rw [if_pos] <;> omega), trivial⟩, z1 rfl⟩)
 have e1 : 0 ≤ szn b (qi qd x1 + qi zi x2) := by rw [← zg e0]; simpa using e1
 rw [zg e0]
 refine z2 rfl (q1c x3 (szn b (qi qd x1 + qi zi x2)) h3 e1 (q0c hb1 hb0)) rfl ⟨trivial, trivial, trivial⟩ ?_
 refine xb rfl (fun h => ?_) (fun e2 => ?_)
 · have h : szn (szn b (qi qd x1 + qi zi x2)) (qi q7 x3) < 0 := by simpa using h
   rw [zg e1] at h
   exact xr rfl (z6 rfl ⟨⟨rfl, (by show Value.int _ _ = Value.int _ _; congr 1; rw [ht]; unfold szn at *; split at h <;> rw [if_pos] <;> omega), trivial⟩, z1 rfl⟩)
 have e2 : 0 ≤ szn b (qi qd x1 + qi zi x2 + qi q7 x3) := by rw [← zg e1]; simpa using e2
 rw [zg e1]
 refine z2 rfl (q39 x4 (szn b (qi qd x1 + qi zi x2 + qi q7 x3)) h4 e2 (q0c hb1 hb0)) rfl ⟨trivial, trivial, trivial⟩ ?_
 refine xb rfl (fun h => ?_) (fun e3 => ?_)
 · have h : szn (szn b (qi qd x1 + qi zi x2 + qi q7 x3)) (qi zi x4) < 0 := by simpa using h
   rw [zg e2] at h
   exact xr rfl (z6 rfl ⟨⟨rfl, (by show Value.int _ _ = Value.int _ _; congr 1; rw [ht]; unfold szn at *; split at h <;> rw [if_pos] <;> omega), trivial⟩, z1 rfl⟩)
 have e3 : 0 ≤ szn b (qi qd x1 + qi zi x2 + qi q7 x3 + qi zi x4) := by rw [← zg e2]; simpa using e3
 rw [zg e2]
 refine z2 rfl (z2s x5 (szn b (qi qd x1 + qi zi x2 + qi q7 x3 + qi zi x4)) h5 e3 (q0c hb1 hb0)) rfl ⟨trivial, trivial, trivial⟩ ?_
 refine xb rfl (fun h => ?_) (fun e4 => ?_)
 · have h : szn (szn b (qi qd x1 + qi zi x2 + qi q7 x3 + qi zi x4)) (qi (.i .i64 .nil) x5) < 0 := by simpa using h
   rw [zg e3] at h
   exact xr rfl (z6 rfl ⟨⟨rfl, (by show Value.int _ _ = Value.int _ _; congr 1; rw [ht]; unfold szn at *; split at h <;> rw [if_pos] <;> omega), trivial⟩, z1 rfl⟩)
 have e4 : 0 ≤ szn b (qi qd x1 + qi zi x2 + qi q7 x3 + qi zi x4 + qi (.i .i64 .nil) x5) := by rw [← zg e3]; simpa using e4
 rw [zg e3]
 exact xr rfl (z6 rfl ⟨⟨rfl, (by show Value.int _ _ = Value.int _ _; rw [ht]), trivial⟩, z1 rfl⟩)
theorem y50 (rr : List (List Cell)) (b : Int) (hw : WR 9223372036854775807 qf rr) (p0 : 0 ≤ b) (p1 : b ≤ 1048576) : PC Tryz.prog 51 [.one (.l rr), .one (.s (.int .i64 b))] (rI (szn b (qi qf rr))) := by
 refine PC.begin Tryz.func51 rfl (by kernel_rfl) ?_
 have hlen := hw.1
 have w1 : IntKind.i64.wrap (b - rr.length) = b - rr.length := wrap_i64 (by omega) (by omega)
 refine xb rfl (fun h => ?_) (fun h => ?_)
 · simp only [w1, decide_eq_true_eq] at h
   exact xr rfl (z6 rfl ⟨⟨rfl, (by show Value.int _ _ = Value.int _ _; unfold szn qi; rw [if_pos (by omega)]), trivial⟩, z1 rfl⟩)
 simp only [w1, decide_eq_false_iff_not] at h
 have hs : szn b rr.length = b - rr.length := by unfold szn; rw [if_neg h]
 refine qb rfl (ι := Nat) (fun i => i ≤ rr.length ∧ 0 ≤ szn b (rr.length + y0a (tot qf) (rr.take i))) (fun i => ⟨[(5, sV (.int .i64 i)), (1, sV (.int .i64 (szn b (rr.length + y0a (tot qf) (rr.take i))))), (0, .one (.b (.l rr)))], []⟩) (fun i => rr.length - i) 0 ⟨Nat.zero_le _, by simp only [List.take_zero, y0a, Nat.add_zero, hs]; omega⟩ ?_ ?_
 · refine ⟨⟨rfl, ?_, rfl, trivial⟩, trivial, rfl⟩
   show Cell.s (.int .i64 (IntKind.i64.wrap (b - rr.length))) = Cell.s (.int .i64 (szn b (rr.length + 0)))
   rw [w1, Nat.add_zero, hs]
 · intro i ⟨hi, hb⟩ J hJ
   refine xb rfl (fun h => ?_) (fun h => ?_)
   · have h : i < rr.length := by simpa using h
     obtain ⟨row, hg⟩ : ∃ row, rr[i]? = some row := ⟨_, List.getElem?_eq_getElem h⟩
     have hc := y0o (f := tot qf) hg
     have hc2 := z0f (tot qf) rr (i + 1)
     obtain ⟨x0, x1, x2, x3, x4, x5, rfl, h1, h2, h3, h4, h5⟩ := z0z (hw.2 row (List.mem_of_getElem? hg))
     refine xs rfl (Int.natCast_nonneg _) (za rfl _ hg (xs rfl rfl ?_))
     refine z2 rfl (q5x _ _ _ _ _ _ _ h1 h2 h3 h4 h5 hb (q0c p1 p0)) rfl ⟨⟨trivial, trivial, trivial, trivial, trivial, trivial, trivial⟩, trivial, trivial⟩ ?_
     refine xb rfl (fun hn => ?_) (fun hn => ?_)
     · have hn : szn (szn b (rr.length + y0a (tot qf) (rr.take i))) (tot qf [.s (.int .i64 x0), .l x1, .l x2, .l x3, .l x4, .l x5]) < 0 := by simpa using hn
       rw [zg hb] at hn
       exact xr rfl (z6 rfl ⟨⟨rfl, (by show Value.int _ _ = Value.int _ _; congr 1; unfold szn qi at *; split at hn <;> rw [if_pos] <;> omega), trivial⟩, z1 rfl⟩)
     · have hn : ¬ szn (szn b (rr.length + y0a (tot qf) (rr.take i))) (tot qf [.s (.int .i64 x0), .l x1, .l x2, .l x3, .l x4, .l x5]) < 0 := by simpa using hn
       have he := zg (n := tot qf [.s (.int .i64 x0), .l x1, .l x2, .l x3, .l x4, .l x5]) hb
       rw [he] at hn
       rw [Nat.add_assoc, ← hc] at he hn
       refine q9 rfl (hJ _ (i + 1) ⟨by omega, by omega⟩ (by omega) ?_)
       refine ⟨⟨cwi (by omega) (by omega) (by omega), ?_, rfl, trivial⟩, trivial, rfl⟩
       exact congrArg (fun n => Cell.s (.int .i64 n)) he
   · have h : ¬ i < rr.length := by simpa using h
     have : i = rr.length := by omega
     subst this
     exact xr rfl (z6 rfl ⟨⟨rfl, (by show Value.int _ _ = Value.int _ _; rw [List.take_length]; rfl), trivial⟩, z1 rfl⟩)
theorem z3a (rr : List (List Cell)) (b : Int) (hw : WR 9223372036854775807 qn rr) (p0 : 0 ≤ b) (p1 : b ≤ 1048576) : PC Tryz.prog 300 [.one (.l rr), .one (.s (.int .i64 b))] (rI (szn b (qi qn rr))) := by
 refine PC.begin Tryz.func300 rfl (by kernel_rfl) ?_
 have hlen := hw.1
 have w1 : IntKind.i64.wrap (b - rr.length) = b - rr.length := wrap_i64 (by omega) (by omega)
 rw [q0j (fun row hr => by obtain ⟨x0, x1, rfl⟩ := q1l hr; rfl) hw]
 refine xb rfl (fun h => ?_) (fun h => ?_)
 · simp only [w1, decide_eq_true_eq] at h
   exact xr rfl (z6 rfl ⟨⟨rfl, (by show Value.int _ _ = Value.int _ _; rw [szn, if_pos h]), trivial⟩, z1 rfl⟩)
 · simp only [w1, decide_eq_false_iff_not] at h
   exact xr rfl (z6 rfl ⟨⟨rfl, (by show Value.int .i64 (IntKind.i64.wrap (b - rr.length)) = Value.int _ _; rw [szn, if_neg h, w1]), trivial⟩, z1 rfl⟩)
theorem y70 (x0 : Int) (x1 : Int) (x2 : Int) (x3 : Int) (x4 : Int) (x5 : List (List Cell)) (b : Int) (h5 : WR 9223372036854775807 qn x5) (hb0 : 0 ≤ b) (hb1 : b ≤ 1048576) : PC Tryz.prog 236 [.agg [.s (.int .i64 x0), .s (.int .i64 x1), .s (.int .i64 x2), .s (.int .i64 x3), .s (.int .i64 x4), .l x5], .one (.s (.int .i64 b))] (rI (szn b (tot yn [.s (.int .i64 x0), .s (.int .i64 x1), .s (.int .i64 x2), .s (.int .i64 x3), .s (.int .i64 x4), .l x5]))) := by
 refine PC.begin Tryz.func236 rfl (by kernel_rfl) ?_
 have ht : tot yn [.s (.int .i64 x0), .s (.int .i64 x1), .s (.int .i64 x2), .s (.int .i64 x3), .s (.int .i64 x4), .l x5] = qi qn x5 := by simp only [tot, qi] <;> omega
 refine z2 rfl (z3a x5 b h5 hb0 hb1) rfl ⟨trivial, trivial, trivial⟩ ?_
 refine xb rfl (fun h => ?_) (fun e0 => ?_)
 · have h : szn b (qi qn x5) < 0 := by simpa using h
   exact xr rfl (z6 rfl ⟨⟨rfl, (by show Value.int _ _ = Value.int _ _; congr 1; rw [ht]; unfold szn at *; split at h <;> rw [if_pos] <;> omega), trivial⟩, z1 rfl⟩)
 have e0 : 0 ≤ szn b (qi qn x5) := by simpa using e0
 exact xr rfl (z6 rfl ⟨⟨rfl, (by show Value.int _ _ = Value.int _ _; rw [ht]), trivial⟩, z1 rfl⟩)
theorem z5y (rr : List (List Cell)) (b : Int) (hw : WR 9223372036854775807 yn rr) (p0 : 0 ≤ b) (p1 : b ≤ 1048576) : PC Tryz.prog 177 [.one (.l rr), .one (.s (.int .i64 b))] (rI (szn b (qi yn rr))) := by
 refine PC.begin Tryz.func177 rfl (by kernel_rfl) ?_
 have hlen := hw.1
 have w1 : IntKind.i64.wrap (b - rr.length) = b - rr.length := wrap_i64 (by omega) (by omega)
 refine xb rfl (fun h => ?_) (fun h => ?_)
 · simp only [w1, decide_eq_true_eq] at h
   exact xr rfl (z6 rfl ⟨⟨rfl, (by show Value.int _ _ = Value.int _ _; unfold szn qi; rw [if_pos (by omega)]), trivial⟩, z1 rfl⟩)
 simp only [w1, decide_eq_false_iff_not] at h
 have hs : szn b rr.length = b - rr.length := by unfold szn; rw [if_neg h]
 refine qb rfl (ι := Nat) (fun i => i ≤ rr.length ∧ 0 ≤ szn b (rr.length + y0a (tot yn) (rr.take i))) (fun i => ⟨[(5, sV (.int .i64 i)), (1, sV (.int .i64 (szn b (rr.length + y0a (tot yn) (rr.take i))))), (0, .one (.b (.l rr)))], []⟩) (fun i => rr.length - i) 0 ⟨Nat.zero_le _, by simp only [List.take_zero, y0a, Nat.add_zero, hs]; omega⟩ ?_ ?_
 · refine ⟨⟨rfl, ?_, rfl, trivial⟩, trivial, rfl⟩
   show Cell.s (.int .i64 (IntKind.i64.wrap (b - rr.length))) = Cell.s (.int .i64 (szn b (rr.length + 0)))
   rw [w1, Nat.add_zero, hs]
 · intro i ⟨hi, hb⟩ J hJ
   refine xb rfl (fun h => ?_) (fun h => ?_)
   · have h : i < rr.length := by simpa using h
     obtain ⟨row, hg⟩ : ∃ row, rr[i]? = some row := ⟨_, List.getElem?_eq_getElem h⟩
     have hc := y0o (f := tot yn) hg
     have hc2 := z0f (tot yn) rr (i + 1)
     obtain ⟨x0, x1, x2, x3, x4, x5, rfl, h5⟩ := y1l (hw.2 row (List.mem_of_getElem? hg))
     refine xs rfl (Int.natCast_nonneg _) (za rfl _ hg (xs rfl rfl ?_))
     refine z2 rfl (y70 _ _ _ _ _ _ _ h5 hb (q0c p1 p0)) rfl ⟨⟨trivial, trivial, trivial, trivial, trivial, trivial, trivial⟩, trivial, trivial⟩ ?_
     refine xb rfl (fun hn => ?_) (fun hn => ?_)
     · have hn : szn (szn b (rr.length + y0a (tot yn) (rr.take i))) (tot yn [.s (.int .i64 x0), .s (.int .i64 x1), .s (.int .i64 x2), .s (.int .i64 x3), .s (.int .i64 x4), .l x5]) < 0 := by simpa using hn
       rw [zg hb] at hn
       exact xr rfl (z6 rfl ⟨⟨rfl, (by show Value.int _ _ = Value.int _ _; congr 1; unfold szn qi at *; split at hn <;> rw [if_pos] <;> omega), trivial⟩, z1 rfl⟩)
     · have hn : ¬ szn (szn b (rr.length + y0a (tot yn) (rr.take i))) (tot yn [.s (.int .i64 x0), .s (.int .i64 x1), .s (.int .i64 x2), .s (.int .i64 x3), .s (.int .i64 x4), .l x5]) < 0 := by simpa using hn
       have he := zg (n := tot yn [.s (.int .i64 x0), .s (.int .i64 x1), .s (.int .i64 x2), .s (.int .i64 x3), .s (.int .i64 x4), .l x5]) hb
       rw [he] at hn
       rw [Nat.add_assoc, ← hc] at he hn
       refine q9 rfl (hJ _ (i + 1) ⟨by omega, by omega⟩ (by omega) ?_)
       refine ⟨⟨cwi (by omega) (by omega) (by omega), ?_, rfl, trivial⟩, trivial, rfl⟩
       exact congrArg (fun n => Cell.s (.int .i64 n)) he
   · have h : ¬ i < rr.length := by simpa using h
     have : i = rr.length := by omega
     subst this
     exact xr rfl (z6 rfl ⟨⟨rfl, (by show Value.int _ _ = Value.int _ _; rw [List.take_length]; rfl), trivial⟩, z1 rfl⟩)
theorem z3s (x0 : List (List Cell)) (b : Int) (h0 : WR 9223372036854775807 yn x0) (hb0 : 0 ≤ b) (hb1 : b ≤ 1048576) : PC Tryz.prog 111 [.agg [.l x0], .one (.s (.int .i64 b))] (rI (szn b (tot qa [.l x0]))) := by
 refine PC.begin Tryz.func111 rfl (by kernel_rfl) ?_
 have ht : tot qa [.l x0] = qi yn x0 := by simp only [tot, qi] <;> omega
 refine z2 rfl (z5y x0 b h0 hb0 hb1) rfl ⟨trivial, trivial, trivial⟩ ?_
 refine xb rfl (fun h => ?_) (fun e0 => ?_)
 · have h : szn b (qi yn x0) < 0 := by simpa using h
   exact xr rfl (z6 rfl ⟨⟨rfl, (by show Value.int _ _ = Value.int _ _; congr 1; rw [ht]; unfold szn at *; split at h <;> rw [if_pos] <;> omega), trivial⟩, z1 rfl⟩)
 have e0 : 0 ≤ szn b (qi yn x0) := by simpa using e0
 exact xr rfl (z6 rfl ⟨⟨rfl, (by show Value.int _ _ = Value.int _ _; rw [ht]), trivial⟩, z1 rfl⟩)
theorem z31 (rr : List (List Cell)) (b : Int) (hw : WR 9223372036854775807 qa rr) (p0 : 0 ≤ b) (p1 : b ≤ 1048576) : PC Tryz.prog 52 [.one (.l rr), .one (.s (.int .i64 b))] (rI (szn b (qi qa rr))) := by
 refine PC.begin Tryz.func52 rfl (by kernel_rfl) ?_
 have hlen := hw.1
 have w1 : IntKind.i64.wrap (b - rr.length) = b - rr.length := wrap_i64 (by omega) (by omega)
 refine xb rfl (fun h => ?_) (fun h => ?_)
 · simp only [w1, decide_eq_true_eq] at h
   exact xr rfl (z6 rfl ⟨⟨rfl, (by show Value.int _ _ = Value.int _ _; unfold szn qi; rw [if_pos (by omega)]), trivial⟩, z1 rfl⟩)
 simp only [w1, decide_eq_false_iff_not] at h
 have hs : szn b rr.length = b - rr.length := by unfold szn; rw [if_neg h]
 refine qb rfl (ι := Nat) (fun i => i ≤ rr.length ∧ 0 ≤ szn b (rr.length + y0a (tot qa) (rr.take i))) (fun i => ⟨[(5, sV (.int .i64 i)), (1, sV (.int .i64 (szn b (rr.length + y0a (tot qa) (rr.take i))))), (0, .one (.b (.l rr)))], []⟩) (fun i => rr.length - i) 0 ⟨Nat.zero_le _, by simp only [List.take_zero, y0a, Nat.add_zero, hs]; omega⟩ ?_ ?_
 · refine ⟨⟨rfl, ?_, rfl, trivial⟩, trivial, rfl⟩
   show Cell.s (.int .i64 (IntKind.i64.wrap (b - rr.length))) = Cell.s (.int .i64 (szn b (rr.length + 0)))
   rw [w1, Nat.add_zero, hs]
 · intro i ⟨hi, hb⟩ J hJ
   refine xb rfl (fun h => ?_) (fun h => ?_)
   · have h : i < rr.length := by simpa using h
     obtain ⟨row, hg⟩ : ∃ row, rr[i]? = some row := ⟨_, List.getElem?_eq_getElem h⟩
     have hc := y0o (f := tot qa) hg
     have hc2 := z0f (tot qa) rr (i + 1)
     obtain ⟨x0, rfl, h0⟩ := q0a (hw.2 row (List.mem_of_getElem? hg))
     refine xs rfl (Int.natCast_nonneg _) (za rfl _ hg (xs rfl rfl ?_))
     refine z2 rfl (z3s _ _ h0 hb (q0c p1 p0)) rfl ⟨⟨trivial, trivial⟩, trivial, trivial⟩ ?_
     refine xb rfl (fun hn => ?_) (fun hn => ?_)
     · have hn : szn (szn b (rr.length + y0a (tot qa) (rr.take i))) (tot qa [.l x0]) < 0 := by simpa using hn
       rw [zg hb] at hn
       exact xr rfl (z6 rfl ⟨⟨rfl, (by show Value.int _ _ = Value.int _ _; congr 1; unfold szn qi at *; split at hn <;> rw [if_pos] <;> omega), trivial⟩, z1 rfl⟩)
     · have hn : ¬ szn (szn b (rr.length + y0a (tot qa) (rr.take i))) (tot qa [.l x0]) < 0 := by simpa using hn
       have he := zg (n := tot qa [.l x0]) hb
       rw [he] at hn
       rw [Nat.add_assoc, ← hc] at he hn
       refine q9 rfl (hJ _ (i + 1) ⟨by omega, by omega⟩ (by omega) ?_)
       refine ⟨⟨cwi (by omega) (by omega) (by omega), ?_, rfl, trivial⟩, trivial, rfl⟩
       exact congrArg (fun n => Cell.s (.int .i64 n)) he
   · have h : ¬ i < rr.length := by simpa using h
     have : i = rr.length := by omega
     subst this
     exact xr rfl (z6 rfl ⟨⟨rfl, (by show Value.int _ _ = Value.int _ _; rw [List.take_length]; rfl), trivial⟩, z1 rfl⟩)
theorem z7s (x0 : Int) (x1 : Int) (x2 : Int) (x3 : Int) (x4 : List (List Cell)) (x5 : List (List Cell)) (b : Int) (h4 : WR 9223372036854775807 (.i .i64 .nil) x4) (h5 : WR 9223372036854775807 qn x5) (hb0 : 0 ≤ b) (hb1 : b ≤ 1048576) : PC Tryz.prog 237 [.agg [.s (.int .i64 x0), .s (.int .i64 x1), .s (.int .i64 x2), .s (.int .i64 x3), .l x4, .l x5], .one (.s (.int .i64 b))] (rI (szn b (tot yp [.s (.int .i64 x0), .s (.int .i64 x1), .s (.int .i64 x2), .s (.int .i64 x3), .l x4, .l x5]))) := by
 refine PC.begin Tryz.func237 rfl (by kernel_rfl) ?_
 have ht : tot yp [.s (.int .i64 x0), .s (.int .i64 x1), .s (.int .i64 x2), .s (.int .i64 x3), .l x4, .l x5] = qi (.i .i64 .nil) x4 + qi qn x5 := by simp only [tot, qi] <;> omega
 refine z2 rfl (z2s x4 b h4 hb0 hb1) rfl ⟨trivial, trivial, trivial⟩ ?_
 refine xb rfl (fun h => ?_) (fun e0 => ?_)
 · have h : szn b (qi (.i .i64 .nil) x4) < 0 := by simpa using h
   exact xr rfl (z6 rfl ⟨⟨rfl, (by show Value.int _ _ = Value.int _ _; congr 1; rw [ht]; unfold szn at *; split at h <;> rw [if_pos] <;> omega), trivial⟩, z1 rfl⟩)
 have e0 : 0 ≤ szn b (qi (.i .i64 .nil) x4) := by simpa using e0
 refine z2 rfl (z3a x5 (szn b (qi (.i .i64 .nil) x4)) h5 e0 (q0c hb1 hb0)) rfl ⟨trivial, trivial, trivial⟩ ?_
 refine xb rfl (fun h => ?_) (fun e1 => ?_)
 · have h : szn (szn b (qi (.i .i64 .nil) x4)) (qi qn x5) < 0 := by simpa using h
   rw [zg e0] at h
   exact xr rfl (z6 rfl ⟨⟨rfl, (by show Value.int _ _ = Value.int _ _; congr 1; rw [ht]; unfold szn at *; split at h <;> rw [if_pos] <;> omega), trivial⟩, z1 rfl⟩)
 have e1 : 0 ≤ szn b (qi (.i .i64 .nil) x4 + qi qn x5) := by rw [← zg e0]; simpa using e1
 rw [zg e0]
 exact xr rfl (z6 rfl ⟨⟨rfl, (by show Value.int _ _ = Value.int _ _; rw [ht]), trivial⟩, z1 rfl⟩)
theorem q70 (rr : List (List Cell)) (b : Int) (hw : WR 9223372036854775807 yp rr) (p0 : 0 ≤ b) (p1 : b ≤ 1048576) : PC Tryz.prog 178 [.one (.l rr), .one (.s (.int .i64 b))] (rI (szn b (qi yp rr))) := by
 refine PC.begin Tryz.func178 rfl (by kernel_rfl) ?_
 have hlen := hw.1
 have w1 : IntKind.i64.wrap (b - rr.length) = b - rr.length := wrap_i64 (by omega) (by omega)
 refine xb rfl (fun h => ?_) (fun h => ?_)
 · simp only [w1, decide_eq_true_eq] at h
   exact xr rfl (z6 rfl ⟨⟨rfl, (by show Value.int _ _ = Value.int _ _; unfold szn qi; rw [if_pos (by omega)]), trivial⟩, z1 rfl⟩)
 simp only [w1, decide_eq_false_iff_not] at h
 have hs : szn b rr.length = b - rr.length := by unfold szn; rw [if_neg h]
 refine qb rfl (ι := Nat) (fun i => i ≤ rr.length ∧ 0 ≤ szn b (rr.length + y0a (tot yp) (rr.take i))) (fun i => ⟨[(5, sV (.int .i64 i)), (1, sV (.int .i64 (szn b (rr.length + y0a (tot yp) (rr.take i))))), (0, .one (.b (.l rr)))], []⟩) (fun i => rr.length - i) 0 ⟨Nat.zero_le _, by simp only [List.take_zero, y0a, Nat.add_zero, hs]; omega⟩ ?_ ?_
 · refine ⟨⟨rfl, ?_, rfl, trivial⟩, trivial, rfl⟩
   show Cell.s (.int .i64 (IntKind.i64.wrap (b - rr.length))) = Cell.s (.int .i64 (szn b (rr.length + 0)))
   rw [w1, Nat.add_zero, hs]
 · intro i ⟨hi, hb⟩ J hJ
   refine xb rfl (fun h => ?_) (fun h => ?_)
   · have h : i < rr.length := by simpa using h
     obtain ⟨row, hg⟩ : ∃ row, rr[i]? = some row := ⟨_, List.getElem?_eq_getElem h⟩
     have hc := y0o (f := tot yp) hg
     have hc2 := z0f (tot yp) rr (i + 1)
     obtain ⟨x0, x1, x2, x3, x4, x5, rfl, h4, h5⟩ := q2j (hw.2 row (List.mem_of_getElem? hg))
     refine xs rfl (Int.natCast_nonneg _) (za rfl _ hg (xs rfl rfl ?_))
     refine z2 rfl (z7s _ _ _ _ _ _ _ h4 h5 hb (q0c p1 p0)) rfl ⟨⟨trivial, trivial, trivial, trivial, trivial, trivial, trivial⟩, trivial, trivial⟩ ?_
     refine xb rfl (fun hn => ?_) (fun hn => ?_)
     · have hn : szn (szn b (rr.length + y0a (tot yp) (rr.take i))) (tot yp [.s (.int .i64 x0), .s (.int .i64 x1), .s (.int .i64 x2), .s (.int .i64 x3), .l x4, .l x5]) < 0 := by simpa using hn
       rw [zg hb] at hn
       exact xr rfl (z6 rfl ⟨⟨rfl, (by show Value.int _ _ = Value.int _ _; congr 1; unfold szn qi at *; split at hn <;> rw [if_pos] <;> omega), trivial⟩, z1 rfl⟩)
     · have hn : ¬ szn (szn b (rr.length + y0a (tot yp) (rr.take i))) (tot yp [.s (.int .i64 x0), .s (.int .i64 x1), .s (.int .i64 x2), .s (.int .i64 x3), .l x4, .l x5]) < 0 := by simpa using hn
       have he := zg (n := tot yp [.s (.int .i64 x0), .s (.int .i64 x1), .s (.int .i64 x2), .s (.int .i64 x3), .l x4, .l x5]) hb
       rw [he] at hn
       rw [Nat.add_assoc, ← hc] at he hn
       refine q9 rfl (hJ _ (i + 1) ⟨by omega, by omega⟩ (by omega) ?_)
       refine ⟨⟨cwi (by omega) (by omega) (by omega), ?_, rfl, trivial⟩, trivial, rfl⟩
       exact congrArg (fun n => Cell.s (.int .i64 n)) he
   · have h : ¬ i < rr.length := by simpa using h
     have : i = rr.length := by omega
     subst this
     exact xr rfl (z6 rfl ⟨⟨rfl, (by show Value.int _ _ = Value.int _ _; rw [List.take_length]; rfl), trivial⟩, z1 rfl⟩)
theorem q4z (rr : List (List Cell)) (b : Int) (hw : WR 9223372036854775807 yq rr) (p0 : 0 ≤ b) (p1 : b ≤ 1048576) : PC Tryz.prog 179 [.one (.l rr), .one (.s (.int .i64 b))] (rI (szn b (qi yq rr))) := by
 refine PC.begin Tryz.func179 rfl (by kernel_rfl) ?_
 have hlen := hw.1
 have w1 : IntKind.i64.wrap (b - rr.length) = b - rr.length := wrap_i64 (by omega) (by omega)
 rw [q0j (fun row hr => by obtain ⟨x0, x1, x2, x3, x4, rfl⟩ := q0y hr; rfl) hw]
 refine xb rfl (fun h => ?_) (fun h => ?_)
 · simp only [w1, decide_eq_true_eq] at h
   exact xr rfl (z6 rfl ⟨⟨rfl, (by show Value.int _ _ = Value.int _ _; rw [szn, if_pos h]), trivial⟩, z1 rfl⟩)
 · simp only [w1, decide_eq_false_iff_not] at h
   exact xr rfl (z6 rfl ⟨⟨rfl, (by show Value.int .i64 (IntKind.i64.wrap (b - rr.length)) = Value.int _ _; rw [szn, if_neg h, w1]), trivial⟩, z1 rfl⟩)
theorem z50 (x0 : Int) (x1 : List (List Cell)) (x2 : List (List Cell)) (b : Int) (h1 : WR 9223372036854775807 yp x1) (h2 : WR 9223372036854775807 yq x2) (hb0 : 0 ≤ b) (hb1 : b ≤ 1048576) : PC Tryz.prog 112 [.agg [.s (.int .i64 x0), .l x1, .l x2], .one (.s (.int .i64 b))] (rI (szn b (tot yf [.s (.int .i64 x0), .l x1, .l x2]))) := by
 refine PC.begin Tryz.func112 rfl (by kernel_rfl) ?_
 have ht : tot yf [.s (.int .i64 x0), .l x1, .l x2] = qi yp x1 + qi yq x2 := by simp only [tot, qi] <;> omega
 refine z2 rfl (q70 x1 b h1 hb0 hb1) rfl ⟨trivial, trivial, trivial⟩ ?_
 refine xb rfl (fun h => ?_) (fun e0 => ?_)
 · have h : szn b (qi yp x1) < 0 := by simpa using h
   exact xr rfl (z6 rfl ⟨⟨rfl, (by show Value.int _ _ = Value.int _ _; congr 1; rw [ht]; unfold szn at *; split at h <;> rw [if_pos] <;> omega), trivial⟩, z1 rfl⟩)
 have e0 : 0 ≤ szn b (qi yp x1) := by simpa using e0
 refine z2 rfl (q4z x2 (szn b (qi yp x1)) h2 e0 (q0c hb1 hb0)) rfl ⟨trivial, trivial, trivial⟩ ?_
 refine xb rfl (fun h => ?_) (fun e1 => ?_)
 · have h : szn (szn b (qi yp x1)) (qi yq x2) < 0 := by simpa using h
   rw [zg e0] at h
   exact xr rfl (z6 rfl ⟨⟨rfl, (by show Value.int _ _ = Value.int _ _; congr 1; rw [ht]; unfold szn at *; split at h <;> rw [if_pos] <;> omega), trivial⟩, z1 rfl⟩)
 have e1 : 0 ≤ szn b (qi yp x1 + qi yq x2) := by rw [← zg e0]; simpa using e1
 rw [zg e0]
 exact xr rfl (z6 rfl ⟨⟨rfl, (by show Value.int _ _ = Value.int _ _; rw [ht]), trivial⟩, z1 rfl⟩)
theorem q4f (rr : List (List Cell)) (b : Int) (hw : WR 9223372036854775807 yf rr) (p0 : 0 ≤ b) (p1 : b ≤ 1048576) : PC Tryz.prog 53 [.one (.l rr), .one (.s (.int .i64 b))] (rI (szn b (qi yf rr))) := by
 refine PC.begin Tryz.func53 rfl (by kernel_rfl) ?_
 have hlen := hw.1
 have w1 : IntKind.i64.wrap (b - rr.length) = b - rr.length := wrap_i64 (by omega) (by omega)
 refine xb rfl (fun h => ?_) (fun h => ?_)
 · simp only [w1, decide_eq_true_eq] at h
   exact xr rfl (z6 rfl ⟨⟨rfl, (by show Value.int _ _ = Value.int _ _; unfold szn qi; rw [if_pos (by omega)]), trivial⟩, z1 rfl⟩)
 simp only [w1, decide_eq_false_iff_not] at h
 have hs : szn b rr.length = b - rr.length := by unfold szn; rw [if_neg h]
 refine qb rfl (ι := Nat) (fun i => i ≤ rr.length ∧ 0 ≤ szn b (rr.length + y0a (tot yf) (rr.take i))) (fun i => ⟨[(5, sV (.int .i64 i)), (1, sV (.int .i64 (szn b (rr.length + y0a (tot yf) (rr.take i))))), (0, .one (.b (.l rr)))], []⟩) (fun i => rr.length - i) 0 ⟨Nat.zero_le _, by simp only [List.take_zero, y0a, Nat.add_zero, hs]; omega⟩ ?_ ?_
 · refine ⟨⟨rfl, ?_, rfl, trivial⟩, trivial, rfl⟩
   show Cell.s (.int .i64 (IntKind.i64.wrap (b - rr.length))) = Cell.s (.int .i64 (szn b (rr.length + 0)))
   rw [w1, Nat.add_zero, hs]
 · intro i ⟨hi, hb⟩ J hJ
   refine xb rfl (fun h => ?_) (fun h => ?_)
   · have h : i < rr.length := by simpa using h
     obtain ⟨row, hg⟩ : ∃ row, rr[i]? = some row := ⟨_, List.getElem?_eq_getElem h⟩
     have hc := y0o (f := tot yf) hg
     have hc2 := z0f (tot yf) rr (i + 1)
     obtain ⟨x0, x1, x2, rfl, h1, h2⟩ := y0p (hw.2 row (List.mem_of_getElem? hg))
     refine xs rfl (Int.natCast_nonneg _) (za rfl _ hg (xs rfl rfl ?_))
     refine z2 rfl (z50 _ _ _ _ h1 h2 hb (q0c p1 p0)) rfl ⟨⟨trivial, trivial, trivial, trivial⟩, trivial, trivial⟩ ?_
     refine xb rfl (fun hn => ?_) (fun hn => ?_)
     · have hn : szn (szn b (rr.length + y0a (tot yf) (rr.take i))) (tot yf [.s (.int .i64 x0), .l x1, .l x2]) < 0 := by simpa using hn
       rw [zg hb] at hn
       exact xr rfl (z6 rfl ⟨⟨rfl, (by show Value.int _ _ = Value.int _ _; congr 1; unfold szn qi at *; split at hn <;> rw [if_pos] <;> omega), trivial⟩, z1 rfl⟩)
     · have hn : ¬ szn (szn b (rr.length + y0a (tot yf) (rr.take i))) (tot yf [.s (.int .i64 x0), .l x1, .l x2]) < 0 := by simpa using hn
       have he := zg (n := tot yf [.s (.int .i64 x0), .l x1, .l x2]) hb
       rw [he] at hn
       rw [Nat.add_assoc, ← hc] at he hn
       refine q9 rfl (hJ _ (i + 1) ⟨by omega, by omega⟩ (by omega) ?_)
       refine ⟨⟨cwi (by omega) (by omega) (by omega), ?_, rfl, trivial⟩, trivial, rfl⟩
       exact congrArg (fun n => Cell.s (.int .i64 n)) he
   · have h : ¬ i < rr.length := by simpa using h
     have : i = rr.length := by omega
     subst this
     exact xr rfl (z6 rfl ⟨⟨rfl, (by show Value.int _ _ = Value.int _ _; rw [List.take_length]; rfl), trivial⟩, z1 rfl⟩)
theorem z3t (rr : List (List Cell)) (b : Int) (hw : WR 9223372036854775807 yl rr) (p0 : 0 ≤ b) (p1 : b ≤ 1048576) : PC Tryz.prog 54 [.one (.l rr), .one (.s (.int .i64 b))] (rI (szn b (qi yl rr))) := by
 refine PC.begin Tryz.func54 rfl (by kernel_rfl) ?_
 have hlen := hw.1
 have w1 : IntKind.i64.wrap (b - rr.length) = b - rr.length := wrap_i64 (by omega) (by omega)
 rw [q0j (fun row hr => by obtain ⟨x0, x1, x2, x3, x4, x5, x6, x7, x8, rfl⟩ := y0h hr; rfl) hw]
 refine xb rfl (fun h => ?_) (fun h => ?_)
 · simp only [w1, decide_eq_true_eq] at h
   exact xr rfl (z6 rfl ⟨⟨rfl, (by show Value.int _ _ = Value.int _ _; rw [szn, if_pos h]), trivial⟩, z1 rfl⟩)
 · simp only [w1, decide_eq_false_iff_not] at h
   exact xr rfl (z6 rfl ⟨⟨rfl, (by show Value.int .i64 (IntKind.i64.wrap (b - rr.length)) = Value.int _ _; rw [szn, if_neg h, w1]), trivial⟩, z1 rfl⟩)
theorem y4f (x0 : List (List Cell)) (x1 : List (List Cell)) (x2 : List (List Cell)) (x3 : List (List Cell)) (x4 : List (List Cell)) (b : Int) (h0 : WR 9223372036854775807 q7 x0) (h1 : WR 9223372036854775807 qf x1) (h2 : WR 9223372036854775807 qa x2) (h3 : WR 9223372036854775807 yf x3) (h4 : WR 9223372036854775807 yl x4) (hb0 : 0 ≤ b) (hb1 : b ≤ 1048576) : PC Tryz.prog 12 [.agg [.l x0, .l x1, .l x2, .l x3, .l x4], .one (.s (.int .i64 b))] (rI (szn b (tot zq [.l x0, .l x1, .l x2, .l x3, .l x4]))) := by
 refine PC.begin Tryz.func12 rfl (by kernel_rfl) ?_
 have ht : tot zq [.l x0, .l x1, .l x2, .l x3, .l x4] = qi q7 x0 + qi qf x1 + qi qa x2 + qi yf x3 + qi yl x4 := by simp only [tot, qi] <;> omega
 refine z2 rfl (q1c x0 b h0 hb0 hb1) rfl ⟨trivial, trivial, trivial⟩ ?_
 refine xb rfl (fun h => ?_) (fun e0 => ?_)
 · have h : szn b (qi q7 x0) < 0 := by simpa using h
   exact xr rfl (z6 rfl ⟨⟨rfl, (by show Value.int _ _ = Value.int _ _; congr 1; rw [ht]; unfold szn at *; split at h <;> rw [if_pos] <;> omega), trivial⟩, z1 rfl⟩)
 have e0 : 0 ≤ szn b (qi q7 x0) := by simpa using e0
 refine z2 rfl (y50 x1 (szn b (qi q7 x0)) h1 e0 (q0c hb1 hb0)) rfl ⟨trivial, trivial, trivial⟩ ?_
 refine xb rfl (fun h => ?_) (fun e1 => ?_)
 · have h : szn (szn b (qi q7 x0)) (qi qf x1) < 0 := by simpa using h
   rw [zg e0] at h
   exact xr rfl (z6 rfl ⟨⟨rfl, (by show Value.int _ _ = Value.int _ _; congr 1; rw [ht]; unfold szn at *; split at h <;> rw [if_pos] <;> omega), trivial⟩, z1 rfl⟩)
 have e1 : 0 ≤ szn b (qi q7 x0 + qi qf x1) := by rw [← zg e0]; simpa using e1
 rw [zg e0]
 refine z2 rfl (z31 x2 (szn b (qi q7 x0 + qi qf x1)) h2 e1 (q0c hb1 hb0)) rfl ⟨trivial, trivial, trivial⟩ ?_
 refine xb rfl (fun h => ?_) (fun e2 => ?_)
 · have h : szn (szn b (qi q7 x0 + qi qf x1)) (qi qa x2) < 0 := by simpa using h
   rw [zg e1] at h
   exact xr rfl (z6 rfl ⟨⟨rfl, (by show Value.int _ _ = Value.int _ _; congr 1; rw [ht]; unfold szn at *; split at h <;> rw [if_pos] <;> omega), trivial⟩, z1 rfl⟩)
 have e2 : 0 ≤ szn b (qi q7 x0 + qi qf x1 + qi qa x2) := by rw [← zg e1]; simpa using e2
 rw [zg e1]
 refine z2 rfl (q4f x3 (szn b (qi q7 x0 + qi qf x1 + qi qa x2)) h3 e2 (q0c hb1 hb0)) rfl ⟨trivial, trivial, trivial⟩ ?_
 refine xb rfl (fun h => ?_) (fun e3 => ?_)
 · have h : szn (szn b (qi q7 x0 + qi qf x1 + qi qa x2)) (qi yf x3) < 0 := by simpa using h
   rw [zg e2] at h
   exact xr rfl (z6 rfl ⟨⟨rfl, (by show Value.int _ _ = Value.int _ _; congr 1; rw [ht]; unfold szn at *; split at h <;> rw [if_pos] <;> omega), trivial⟩, z1 rfl⟩)
 have e3 : 0 ≤ szn b (qi q7 x0 + qi qf x1 + qi qa x2 + qi yf x3) := by rw [← zg e2]; simpa using e3
 rw [zg e2]
 refine z2 rfl (z3t x4 (szn b (qi q7 x0 + qi qf x1 + qi qa x2 + qi yf x3)) h4 e3 (q0c hb1 hb0)) rfl ⟨trivial, trivial, trivial⟩ ?_
 refine xb rfl (fun h => ?_) (fun e4 => ?_)
 · have h : szn (szn b (qi q7 x0 + qi qf x1 + qi qa x2 + qi yf x3)) (qi yl x4) < 0 := by simpa using h
   rw [zg e3] at h
   exact xr rfl (z6 rfl ⟨⟨rfl, (by show Value.int _ _ = Value.int _ _; congr 1; rw [ht]; unfold szn at *; split at h <;> rw [if_pos] <;> omega), trivial⟩, z1 rfl⟩)
 have e4 : 0 ≤ szn b (qi q7 x0 + qi qf x1 + qi qa x2 + qi yf x3 + qi yl x4) := by rw [← zg e3]; simpa using e4
 rw [zg e3]
 exact xr rfl (z6 rfl ⟨⟨rfl, (by show Value.int _ _ = Value.int _ _; rw [ht]), trivial⟩, z1 rfl⟩)
end Go.Proofs.YthljegacamgnnaaGreat
end
section
namespace Go.Proofs.YthljegacamgnnaaGreat
open Go Go.Sx
set_option maxRecDepth 20000
set_option maxHeartbeats 4000000
theorem z96 (x0 x1 x2 x3 x4 : List (List Cell)) (hw : WT 9223372036854775807 zq [.l x0, .l x1, .l x2, .l x3, .l x4]) (b : Nat) (hb : b ≤ 1048576) :
 PC Tryz.prog 12 [.agg [.l x0, .l x1, .l x2, .l x3, .l x4], .one (i64 b)] (rI (-1)) ∨ ∃ c : Clu, x0 = c.cons.map Con.cs ∧ x1 = c.shs.map Shd.cs ∧ x2 = c.accs.map Acc.cs ∧ x3 = c.ldrs.map Ldr.cs ∧ x4 = c.msgs.map Msg.cs ∧ qv c ∧ (WT 1048576 zq c.cs ∧ tot zq c.cs ≤ b) ∧
  (∃ n : Nat, n ≤ b ∧ PC Tryz.prog 12 [.agg c.cs, .one (i64 b)] (rI n)) ∧ PC Tryz.prog 14 [.agg c.cs] (.one (.own true [.l 2 (c.cons.map Con.cs), .l 6 (c.shs.map Shd.cs), .l 1 (c.accs.map Acc.cs), .l 3 (c.ldrs.map Ldr.cs), .l 9 (c.msgs.map Msg.cs)])) ∧
  PC Tryz.prog 17 [.agg c.cs, .agg c.cs] (rB true) := by
 obtain ⟨_, _, _, _, _, e, k0, k1, k2, k3, k4⟩ := q0s hw
 cases e
 have hsz := y4f x0 x1 x2 x3 x4 b k0 k1 k2 k3 k4 (by omega) (by omega)
 by_cases ht : tot zq [.l x0, .l x1, .l x2, .l x3, .l x4] ≤ b
 · right
   have hs : szn b (tot zq [.l x0, .l x1, .l x2, .l x3, .l x4]) = ((b - tot zq [.l x0, .l x1, .l x2, .l x3, .l x4] : Nat) : Int) := by
    unfold szn; rw [if_neg (by omega)]; omega
   rw [hs] at hsz
   have hwt := y9f hw (Nat.le_trans ht hb)
   obtain ⟨_, _, _, _, _, e, m0, m1, m2, m3, m4⟩ := q0s hwt
   cases e
   obtain ⟨c, ec, ho⟩ := q3y _ hwt
   have up : ∀ {e : Sh} {r : List (List Cell)}, WR 1048576 e r → WR 9000000000000000000 e r := fun h => h.mono (by omega)
   have heq := y40 x0 x1 x2 x3 x4 x0 x1 x2 x3 x4 (up m0) (up m1) (up m2) (up m3) (up m4) (up m0) (up m1) (up m2) (up m3) (up m4)
   rw [show dE (α := List Cell) [.l x0, .l x1, .l x2, .l x3, .l x4] [.l x0, .l x1, .l x2, .l x3, .l x4] = true from (Value.bool.inj (zr rfl)).symm] at heq
   have hto := q4g x0 x1 x2 x3 x4 m0 m1 m2 m3 m4
   simp only [Clu.cs, List.cons.injEq, Cell.l.injEq, and_true] at ec
   obtain ⟨rfl, rfl, rfl, rfl, rfl⟩ := ec
   exact ⟨c, rfl, rfl, rfl, rfl, rfl, ho, ⟨hwt, ht⟩, ⟨_, Nat.sub_le _ _, hsz⟩, hto, heq⟩
 · left
   have hs : szn b (tot zq [.l x0, .l x1, .l x2, .l x3, .l x4]) = -1 := by
    unfold szn; rw [if_pos (by omega)]
   rw [hs] at hsz
   exact hsz
end Go.Proofs.YthljegacamgnnaaGreat
end
section
namespace Go.Proofs.YthljegacamgnnaaGreat
open Go Go.Sx
set_option maxRecDepth 20000
theorem z2x (x0 : Int) (x1 : Int) (y0 : Int) (y1 : Int)   : PC Tryz.prog 16 [.agg [.s (.int .i64 x0), .s (.int .i64 x1)], .agg [.s (.int .i64 y0), .s (.int .i64 y1)]] (rB (dE (α := List Cell) [.s (.int .i64 x0), .s (.int .i64 x1)] [.s (.int .i64 y0), .s (.int .i64 y1)])) := by
 refine PC.begin Tryz.func16 rfl (by kernel_rfl) ?_
 refine xb rfl (fun h => ?_) (fun e0 => ?_)
 · exact xr rfl (z6 rfl ⟨⟨rfl, yh (fun e => by simp only [List.cons.injEq, Cell.s.injEq, Value.int.injEq, Value.bool.injEq, Value.string.injEq] at e; simp [e] at h), trivial⟩, z1 rfl⟩)
 have e0 : x0 = y0 := by simpa using e0
 refine xb rfl (fun h => ?_) (fun e1 => ?_)
 · exact xr rfl (z6 rfl ⟨⟨rfl, yh (fun e => by simp only [List.cons.injEq, Cell.s.injEq, Value.int.injEq, Value.bool.injEq, Value.string.injEq] at e; simp [e] at h), trivial⟩, z1 rfl⟩)
 have e1 : x1 = y1 := by simpa using e1
 exact xr rfl (z6 rfl ⟨⟨rfl, zr (by simp [e0, e1]), trivial⟩, z1 rfl⟩)
end Go.Proofs.YthljegacamgnnaaGreat
end
section
namespace Go.Proofs.YthljegacamgnnaaGreat
open Go Go.Sx
set_option maxRecDepth 20000
set_option maxHeartbeats 4000000
theorem z7i (cs : List Cell) (hw : WT 9223372036854775807 zq cs) : PC Tryz.prog 5 [.agg cs] (rB true) := by
 refine PC.begin Tryz.func5 rfl (by kernel_rfl) ?_
 obtain ⟨x0, x1, x2, x3, x4, rfl, _⟩ := q0s hw
 rcases z96 x0 x1 x2 x3 x4 hw 1048576 (Nat.le_refl _) with hsz | ⟨c, rfl, rfl, rfl, rfl, rfl, ho, _, ⟨n, _, hsz⟩, hto, heq⟩
 · skip
   refine z2 rfl (hsz) rfl ⟨⟨trivial, trivial, trivial, trivial, trivial, trivial⟩, trivial, trivial⟩ ?_
   refine xj (k := 1) rfl ?_
   refine xr rfl (z6 rfl ⟨⟨rfl, rfl, trivial⟩, z1 rfl⟩)
 · have hI := q5o c ho
   have hS := z5w c ho
   have hr := z2x (zm c).1 (zm c).2 (zm c).1 (zm c).2
   rw [show dE (α := List Cell) [.s (.int .i64 (zm c).1), .s (.int .i64 (zm c).2)] [.s (.int .i64 (zm c).1), .s (.int .i64 (zm c).2)] = true from (Value.bool.inj (zr rfl)).symm] at hr
   refine z2 rfl (hsz) rfl ⟨⟨trivial, trivial, trivial, trivial, trivial, trivial⟩, trivial, trivial⟩ ?_
   refine xj (k := 1) rfl ?_
   refine z2 rfl (hto) rfl ⟨⟨trivial, trivial, trivial, trivial, trivial, trivial⟩, trivial⟩ ?_
   refine z2 rfl (hS) rfl ⟨⟨rfl, rfl, rfl, rfl, rfl, trivial⟩, trivial⟩ ?_
   refine z2 rfl (hto) rfl ⟨⟨trivial, trivial, trivial, trivial, trivial, trivial⟩, trivial⟩ ?_
   refine z2 rfl (hI) rfl ⟨⟨rfl, rfl, rfl, rfl, rfl, trivial⟩, trivial⟩ ?_
   refine z2 rfl (hr) rfl ⟨⟨trivial, trivial, trivial⟩, ⟨trivial, trivial, trivial⟩, trivial⟩ ?_
   refine xj (k := 1) rfl ?_
   refine zb rfl [] (.take 0 [3, 4] (.take 1 [2, 3, 4] (.alt 2 (.alt 3 (.take 4 [] .done) .nil) .nil))) (by kernel_rfl) ?_
   refine z2 rfl (hto) rfl ⟨⟨trivial, trivial, trivial, trivial, trivial, trivial⟩, trivial⟩ ?_
   refine z2 rfl (heq) rfl ⟨⟨rfl, rfl, rfl, rfl, rfl, trivial⟩, ⟨rfl, rfl, rfl, rfl, rfl, trivial⟩, trivial⟩ ?_
   refine xj (k := 1) rfl ?_
   refine xr rfl (z6 rfl ⟨⟨rfl, rfl, trivial⟩, z1 rfl⟩)
end Go.Proofs.YthljegacamgnnaaGreat
end
section
namespace Go.Proofs.YthljegacamgnnaaGreat.fnExactRoundsFor
open Go.ChangeShapes Go.WideShapes Go.ChangeAt Go.RowKit
set_option maxRecDepth 100000 in
set_option maxHeartbeats 40000000 in
theorem closed : joinedFacts Tryz.pinned.checked.prog 5 Tryz.f5 Rows.fnExactRoundsForSpec Rows.fnExactRoundsForRow = true := by
 unfold joinedFacts
 simp only [Bool.and_eq_true]
 repeat' refine And.intro ?_ ?_
 all_goals as_aux_lemma => kernel_rfl
end Go.Proofs.YthljegacamgnnaaGreat.fnExactRoundsFor
end
section
namespace Go.Proofs.YthljegacamgnnaaGreat.fnExactRoundsFor
open Go.ChangeShapes Go.WideShapes Go.ChangeAt Go.RowKit Go.Sx
open Go.ChangeMaps (open_string shut_string)
theorem own : ownKnob Tryz.prog.godebug = none := by kernel_rfl
theorem laidOut : laidOutB Tryz.prog = true := by kernel_rfl
theorem q2 : OS Tryz.prog 2 (.i .i64 .nil) := z9c Tryz.underlying2 (by kernel_rfl)
theorem zaa : OS Tryz.prog 294 z05 := yu Tryz.underlying294 (by kernel_rfl) (.cons (by kernel_rfl) (.cons (by kernel_rfl) (.cons (by kernel_rfl) (.cons (by kernel_rfl) (.nil _))))) (zf q2 (zf q2 (zf q2 (q07 q2) rfl rfl) rfl rfl) rfl rfl)
theorem qa5 : OS Tryz.prog 151 (.l z05 .nil) := yy Tryz.underlying151 (by kernel_rfl) zaa
theorem za6 : OS Tryz.prog 153 q7 := yu Tryz.underlying153 (by kernel_rfl) (.cons (by kernel_rfl) (.cons (by kernel_rfl) (.nil _))) (zf q2 (q07 qa5) rfl rfl)
theorem q22 : OS Tryz.prog 22 (.l q7 .nil) := yy Tryz.underlying22 (by kernel_rfl) za6
theorem za9 : OS Tryz.prog 269 qd := yu Tryz.underlying269 (by kernel_rfl) (.cons (by kernel_rfl) (.cons (by kernel_rfl) (.cons (by kernel_rfl) (.nil _)))) (zf q2 (zf q2 (q07 q2) rfl rfl) rfl rfl)
theorem ya6 : OS Tryz.prog 155 (.l qd .nil) := yy Tryz.underlying155 (by kernel_rfl) za9
theorem yaa : OS Tryz.prog 296 zi := yu Tryz.underlying296 (by kernel_rfl) (.cons (by kernel_rfl) (.cons (by kernel_rfl) (.nil _))) (zf q2 (q07 q2) rfl rfl)
theorem ya2 : OS Tryz.prog 156 (.l zi .nil) := yy Tryz.underlying156 (by kernel_rfl) yaa
theorem q66 : OS Tryz.prog 66 (.l (.i .i64 .nil) .nil) := yy Tryz.underlying66 (by kernel_rfl) q2
theorem qa6 : OS Tryz.prog 158 qf := yu Tryz.underlying158 (by kernel_rfl) (.cons (by kernel_rfl) (.cons (by kernel_rfl) (.cons (by kernel_rfl) (.cons (by kernel_rfl) (.cons (by kernel_rfl) (.cons (by kernel_rfl) (.nil _))))))) (zf q2 (zf ya6 (zf ya2 (zf q22 (zf ya2 (q07 q66) rfl rfl) rfl rfl) rfl rfl) rfl rfl) rfl rfl)
theorem q23 : OS Tryz.prog 23 (.l qf .nil) := yy Tryz.underlying23 (by kernel_rfl) qa6
theorem q9w : OS Tryz.prog 182 qn := yu Tryz.underlying182 (by kernel_rfl) (.cons (by kernel_rfl) (.cons (by kernel_rfl) (.nil _))) (zf q2 (q07 q2) rfl rfl)
theorem qa2 : OS Tryz.prog 282 (.l qn .nil) := yy Tryz.underlying282 (by kernel_rfl) q9w
theorem ya9 : OS Tryz.prog 284 yn := yu Tryz.underlying284 (by kernel_rfl) (.cons (by kernel_rfl) (.cons (by kernel_rfl) (.cons (by kernel_rfl) (.cons (by kernel_rfl) (.cons (by kernel_rfl) (.nil _)))))) (zf q2 (zf q2 (zf q2 (zf q9w (q07 qa2) rfl rfl) rfl rfl) rfl rfl) rfl rfl)
theorem za7 : OS Tryz.prog 160 (.l yn .nil) := yy Tryz.underlying160 (by kernel_rfl) ya9
theorem ya7 : OS Tryz.prog 162 qa := yu Tryz.underlying162 (by kernel_rfl) (.cons (by kernel_rfl) (.nil _)) (q07 za7)
theorem q24 : OS Tryz.prog 24 (.l qa .nil) := yy Tryz.underlying24 (by kernel_rfl) ya7
theorem qa9 : OS Tryz.prog 287 yp := yu Tryz.underlying287 (by kernel_rfl) (.cons (by kernel_rfl) (.cons (by kernel_rfl) (.cons (by kernel_rfl) (.cons (by kernel_rfl) (.cons (by kernel_rfl) (.cons (by kernel_rfl) (.nil _))))))) (zf q2 (zf q2 (zf q2 (zf q2 (zf q66 (q07 qa2) rfl rfl) rfl rfl) rfl rfl) rfl rfl) rfl rfl)
theorem qa7 : OS Tryz.prog 164 (.l yp .nil) := yy Tryz.underlying164 (by kernel_rfl) qa9
theorem qaa : OS Tryz.prog 300 yq := yu Tryz.underlying300 (by kernel_rfl) (.cons (by kernel_rfl) (.cons (by kernel_rfl) (.cons (by kernel_rfl) (.cons (by kernel_rfl) (.cons (by kernel_rfl) (.nil _)))))) (zf q2 (zf q2 (zf q2 (zf q2 (q07 q2) rfl rfl) rfl rfl) rfl rfl) rfl rfl)
theorem za8 : OS Tryz.prog 165 (.l yq .nil) := yy Tryz.underlying165 (by kernel_rfl) qaa
theorem ya8 : OS Tryz.prog 167 yf := yu Tryz.underlying167 (by kernel_rfl) (.cons (by kernel_rfl) (.cons (by kernel_rfl) (.cons (by kernel_rfl) (.nil _)))) (zf q2 (zf qa7 (q07 za8) rfl rfl) rfl rfl)
theorem q25 : OS Tryz.prog 25 (.l yf .nil) := yy Tryz.underlying25 (by kernel_rfl) ya8
theorem qa8 : OS Tryz.prog 184 yl := yu Tryz.underlying184 (by kernel_rfl) (.cons (by kernel_rfl) (.cons (by kernel_rfl) (.cons (by kernel_rfl) (.cons (by kernel_rfl) (.cons (by kernel_rfl) (.cons (by kernel_rfl) (.cons (by kernel_rfl) (.cons (by kernel_rfl) (.nil _))))))))) (zf q2 (zf q2 (zf q2 (zf q2 (zf q2 (zf q2 (zf q2 (q07 q9w) rfl rfl) rfl rfl) rfl rfl) rfl rfl) rfl rfl) rfl rfl) rfl rfl)
theorem q26 : OS Tryz.prog 26 (.l yl .nil) := yy Tryz.underlying26 (by kernel_rfl) qa8
theorem q28 : OS Tryz.prog 28 zq := yu Tryz.underlying28 (by kernel_rfl) (.cons (by kernel_rfl) (.cons (by kernel_rfl) (.cons (by kernel_rfl) (.cons (by kernel_rfl) (.cons (by kernel_rfl) (.nil _)))))) (zf q22 (zf q23 (zf q24 (zf q25 (q07 q26) rfl rfl) rfl rfl) rfl rfl) rfl rfl)
set_option maxRecDepth 100000 in
theorem lifted (os : Os) (started : os.Started) (H : Type) (enc : TypeId × Value → H) :
 ReturnsInHanded {} Tryz.checked os 5 .any (Rows.fnExactRoundsForSpec.pre6 enc Tryz.prog Tryz.f5 Rows.fnExactRoundsForRow.domain false) (Rows.fnExactRoundsForSpec.post enc Tryz.prog Tryz.f5 false true false false) := by
 refine returnsInHanded_of_change_sized (C := Tryz.checked) own started (by kernel_rfl) Tryz.func5
  (ChangeSpec.witness6 (enc := enc) (C := Tryz.checked) false ⟨#[], #[.agg #[.slice none 0 0, .slice none 0 0, .slice none 0 0, .slice none 0 0, .slice none 0 0]], []⟩ 8 (by kernel_rfl) (by kernel_rfl) (by kernel_rfl) (by kernel_rfl)) ?_
 intro W base args ds gs before hval0 hW _ _ _
 have hval : ∀ (j : Nat) t v, Tryz.f5.params[j]? = some t → args[j]? = some v → Value.okWide Tryz.prog W .any base t v := hval0
 have hW' := hW
 obtain ⟨p, q, hA0, hV, rfl, hfz, hnd⟩ := hW
 have hA : DataW.TrodAll enc Tryz.prog W 0 (fun _ => true) true Tryz.f5.params.toList args.toList ds p := hA0
 rw [Tryz.params5] at hA hval
 obtain ⟨v0, vs0, d0, ds0, p0, q0, hargs, rfl, rfl, h0, r0⟩ := trodAll_cons hA
 obtain ⟨rfl, rfl, rfl⟩ := trodAll_nil r0
 obtain rfl : args = #[v0] := by cases args; simp_all
 obtain ⟨rfl, rfl⟩ := trodVars_none hV
 have k0 := h0
 have lt0 : ∀ x ∈ p0, x.block < W.heap.size := by obtain ⟨m, hm⟩ := k0; exact DataW.trod_lt m _ _ _ hm
 obtain ⟨c0, R0, w0⟩ := z95 Tryz.underlying28 q28 (hval 0 28 v0 rfl rfl) h0
 clear hA0 hval0
 refine (PC.law (z7i c0 w0) (y5g.one R0)).mono fun e W' ⟨he, bel⟩ => ?_
 subst he
 exact ⟨_, rfl, _, _, _, [], _, [], hW', trodAll_mk1 (shut_bool Tryz.underlying4 _), (trodAll_cons_mk (Below.trod laidOut (by kernel_rfl) (of_decide_eq_true (by kernel_rfl)) k0 bel lt0) trodAll_mk0), rfl, bel.frame _, fun h => by cases h⟩
theorem ya5 : Rows.fnExactRoundsForRow.holds Tryz.pinned (OpenSpec.ofChange Rows.fnExactRoundsForSpec) :=
 OpenClaim.holds_of_wide 5 Tryz.f5 rfl rfl rfl rfl rfl rfl rfl ⟨rfl, rfl, rfl, rfl, rfl⟩ rfl rfl rfl rfl rfl (by as_aux_lemma => kernel_rfl) Tryz.func5 closed
  (by as_aux_lemma => exact of_decide_eq_true (by kernel_rfl)) (by as_aux_lemma => unfold Func.isWrapper; first | (rw [if_pos (by decide +kernel)]; kernel_rfl) | (rw [if_neg (by decide +kernel)]; exact ⟨rfl, rfl⟩))
  (fun os started H enc _ => lifted os started H enc)
theorem y9c : Rows.FnExactRoundsForSaid := ya5
end Go.Proofs.YthljegacamgnnaaGreat.fnExactRoundsFor
namespace Go.Proofs.YthljegacamgnnaaGreat
theorem fnExactRoundsFor_holds : Rows.FnExactRoundsForSaid := fnExactRoundsFor.y9c
end Go.Proofs.YthljegacamgnnaaGreat
end
