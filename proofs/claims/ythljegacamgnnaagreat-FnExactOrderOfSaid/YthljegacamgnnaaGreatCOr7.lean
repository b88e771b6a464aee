/- WHAT IS PROVED: FnExactOrderOf, for every argument of its parameters' types that can be read as data: the call returns true and its arguments read as before. No condition. -/
import Derived.Test.YthljegacamgnnaaGreatCOr6
import Derived.WalkKit
import Derived.OrdersHeld
import Derived.DeepKeys
import Derived.Maps.RangeWalk
import Derived.Maps.OwnOps
import Derived.Deep.Slices
import Derived.ChangeArms
import Derived.WideShapes
import Derived.Lib.SlicesCompact
import Derived.Test.YthljegacamgnnaaGreatProg
import Derived.Shelf.SortG.Plain
import Derived.Shelf.SortG.SortNone
import Derived.Shelf.SlicesG.CompactI
import Derived.Lib.OwnBridge
import Derived.RangeFuncGives
import Derived.RangeFuncBox
import Derived.RangeFuncLeaves
import Derived.Shelf.Abstract
import Derived.Maps.AppendAt
import Derived.OwnWalkIn
import Derived.TacticsInMore
import Derived.LoopNIn
import Derived.LoopIn
import Derived.Shelf.SlicesG.Delete
import Derived.Test.YthljegacamgnnaaGreatRows
import Derived.ProofKit
import Derived.OpenShut
import Derived.ShutString
import Derived.ChangeOld
import Derived.Below
import Derived.SizedLaws
set_option linter.unusedVariables false
set_option linter.unusedSimpArgs false
section
namespace Go.Proofs.YthljegacamgnnaaGreat
open Go Go.Sx
set_option maxRecDepth 20000
theorem q8k (x0 : Int) (x1 : Int) (x2 : Int) (x3 : Int)  : PC Tryz.prog 246 [.agg [.s (.int .i64 x0), .s (.int .i64 x1), .s (.int .i64 x2), .s (.int .i64 x3)]] (.one (.own true [.s (.int .i64 x0), .s (.int .i64 x1), .s (.int .i64 x2), .s (.int .i64 x3)])) := by
 refine PC.begin Tryz.func246 rfl (by kernel_rfl) ?_
 exact xr rfl (q7 rfl ⟨⟨rfl, rfl, rfl, rfl, rfl, trivial⟩, z6 rfl⟩)
theorem y7r (rr : List (List Cell)) (hw : WR 1048576 yy rr) : PC Tryz.prog 193 [.one (.l rr)] (.one (.own false [.l 4 rr])) := by
 refine PC.begin Tryz.func193 rfl (by kernel_rfl) ?_
 have hlen := hw.1
 refine xs rfl rfl (xs rfl (Int.natCast_nonneg _) (xs rfl (by omega) (xs rfl (by omega) ?_)))
 refine yc rfl (ι := Nat) (fun i => i ≤ rr.length) (fun i => ⟨[(4, sV (.int .i64 i)), (3, .one (.h 7 rr.length)), (0, .one (.b (.l rr)))], [(7, .arr true 4 0 (rr.take i ++ List.replicate (rr.length - i) [.s (.int .i64 0), .s (.int .i64 0), .s (.int .i64 0), .s (.int .i64 0)]))]⟩) (fun i => rr.length - i) 0 (Nat.zero_le _) ?_ ?_
 · repeat' (first | exact trivial | exact rfl | exact Or.inl rfl | refine And.intro ?_ ?_)
 · intro i hi J hJ
   refine xb rfl (fun h => ?_) (fun h => ?_)
   · have h : i < rr.length := by simpa using h
     obtain ⟨row, hg⟩ : ∃ row, rr[i]? = some row := ⟨_, List.getElem?_eq_getElem h⟩
     obtain ⟨x0, x1, x2, x3, rfl⟩ := y28 (hw.2 row (List.mem_of_getElem? hg))
     refine xs rfl (Int.natCast_nonneg _) (y9 rfl _ hg (xs rfl rfl ?_))
     refine z7 rfl (q8k _ _ _ _) rfl ⟨⟨trivial, trivial, trivial, trivial, trivial⟩, trivial⟩ ?_
     refine xs rfl (qg _ _ _ _ (by omega) rfl).symm (xs rfl (Int.natCast_nonneg _) (y9 rfl [.s (.int .i64 0), .s (.int .i64 0), .s (.int .i64 0), .s (.int .i64 0)] (yn _ _ _ _ (by omega) rfl) (xs rfl rfl ?_)))
     refine xs rfl (qg _ _ _ _ (by omega) rfl).symm (y9 rfl [.s (.int .i64 0), .s (.int .i64 0), .s (.int .i64 0), .s (.int .i64 0)] (yn _ _ _ _ (by omega) rfl) (xs rfl (by decide) (xs rfl ⟨trivial, trivial, trivial, trivial, trivial⟩ ?_)))
     refine ya rfl (hJ _ (i + 1) (by omega) (by omega) ?_)
     repeat' (first | exact trivial | exact rfl | exact Or.inl rfl | exact cwi (by omega) (by omega) (by omega) | refine And.intro ?_ ?_)
     exact y03 _ _ _ _ _ hg rfl
   · have h : ¬ i < rr.length := by simpa using h
     have : i = rr.length := by omega
     subst this
     refine xr rfl (q7 rfl ⟨⟨rfl, ⟨(qg _ _ _ _ (by omega) rfl).symm, q01 _ _ _ rfl, Or.inl rfl⟩, trivial⟩, z6 rfl⟩)
theorem y4g (x0 : Int) (x1 : List (List Cell)) (h1 : WR 1048576 yy x1) : PC Tryz.prog 118 [.agg [.s (.int .i64 x0), .l x1]] (.one (.own true [.s (.int .i64 x0), .l 4 x1])) := by
 refine PC.begin Tryz.func118 rfl (by kernel_rfl) ?_
 refine z7 rfl (y7r _ h1) rfl ⟨trivial, trivial⟩ ?_
 exact xr rfl (q7 rfl ⟨⟨rfl, rfl, ⟨rfl, rfl, .inl rfl⟩, trivial⟩, z6 rfl⟩)
theorem y1l (rr : List (List Cell)) (hw : WR 1048576 z8 rr) : PC Tryz.prog 59 [.one (.l rr)] (.one (.own false [.l 2 rr])) := by
 refine PC.begin Tryz.func59 rfl (by kernel_rfl) ?_
 have hlen := hw.1
 refine xs rfl rfl (xs rfl (Int.natCast_nonneg _) (xs rfl (by omega) (xs rfl (by omega) ?_)))
 refine yc rfl (ι := Nat) (fun i => i ≤ rr.length) (fun i => ⟨[(4, sV (.int .i64 i)), (3, .one (.h 7 rr.length)), (0, .one (.b (.l rr)))], [(7, .arr true 2 0 (rr.take i ++ List.replicate (rr.length - i) [.s (.int .i64 0), .l []]))]⟩) (fun i => rr.length - i) 0 (Nat.zero_le _) ?_ ?_
 · repeat' (first | exact trivial | exact rfl | exact Or.inl rfl | refine And.intro ?_ ?_)
 · intro i hi J hJ
   refine xb rfl (fun h => ?_) (fun h => ?_)
   · have h : i < rr.length := by simpa using h
     obtain ⟨row, hg⟩ : ∃ row, rr[i]? = some row := ⟨_, List.getElem?_eq_getElem h⟩
     obtain ⟨x0, x1, rfl, h1⟩ := y07 (hw.2 row (List.mem_of_getElem? hg))
     refine xs rfl (Int.natCast_nonneg _) (y9 rfl _ hg (xs rfl rfl ?_))
     refine z7 rfl (y4g _ _ h1) rfl ⟨⟨trivial, trivial, trivial⟩, trivial⟩ ?_
     refine xs rfl (qg _ _ _ _ (by omega) rfl).symm (xs rfl (Int.natCast_nonneg _) (y9 rfl [.s (.int .i64 0), .l []] (yn _ _ _ _ (by omega) rfl) (xs rfl rfl ?_)))
     refine xs rfl (qg _ _ _ _ (by omega) rfl).symm (y9 rfl [.s (.int .i64 0), .l []] (yn _ _ _ _ (by omega) rfl) (xs rfl (by decide) (xs rfl ⟨trivial, ⟨rfl, rfl⟩, trivial⟩ ?_)))
     refine ya rfl (hJ _ (i + 1) (by omega) (by omega) ?_)
     repeat' (first | exact trivial | exact rfl | exact Or.inl rfl | exact cwi (by omega) (by omega) (by omega) | refine And.intro ?_ ?_)
     exact y03 _ _ _ _ _ hg rfl
   · have h : ¬ i < rr.length := by simpa using h
     have : i = rr.length := by omega
     subst this
     refine xr rfl (q7 rfl ⟨⟨rfl, ⟨(qg _ _ _ _ (by omega) rfl).symm, q01 _ _ _ rfl, Or.inl rfl⟩, trivial⟩, z6 rfl⟩)
theorem z53 (x0 : Int) (x1 : Int) (x2 : Int)  : PC Tryz.prog 223 [.agg [.s (.int .i64 x0), .s (.int .i64 x1), .s (.int .i64 x2)]] (.one (.own true [.s (.int .i64 x0), .s (.int .i64 x1), .s (.int .i64 x2)])) := by
 refine PC.begin Tryz.func223 rfl (by kernel_rfl) ?_
 exact xr rfl (q7 rfl ⟨⟨rfl, rfl, rfl, rfl, trivial⟩, z6 rfl⟩)
theorem z4g (rr : List (List Cell)) (hw : WR 1048576 qc rr) : PC Tryz.prog 151 [.one (.l rr)] (.one (.own false [.l 3 rr])) := by
 refine PC.begin Tryz.func151 rfl (by kernel_rfl) ?_
 have hlen := hw.1
 refine xs rfl rfl (xs rfl (Int.natCast_nonneg _) (xs rfl (by omega) (xs rfl (by omega) ?_)))
 refine yc rfl (ι := Nat) (fun i => i ≤ rr.length) (fun i => ⟨[(4, sV (.int .i64 i)), (3, .one (.h 7 rr.length)), (0, .one (.b (.l rr)))], [(7, .arr true 3 0 (rr.take i ++ List.replicate (rr.length - i) [.s (.int .i64 0), .s (.int .i64 0), .s (.int .i64 0)]))]⟩) (fun i => rr.length - i) 0 (Nat.zero_le _) ?_ ?_
 · repeat' (first | exact trivial | exact rfl | exact Or.inl rfl | refine And.intro ?_ ?_)
 · intro i hi J hJ
   refine xb rfl (fun h => ?_) (fun h => ?_)
   · have h : i < rr.length := by simpa using h
     obtain ⟨row, hg⟩ : ∃ row, rr[i]? = some row := ⟨_, List.getElem?_eq_getElem h⟩
     obtain ⟨x0, x1, x2, rfl⟩ := z0c (hw.2 row (List.mem_of_getElem? hg))
     refine xs rfl (Int.natCast_nonneg _) (y9 rfl _ hg (xs rfl rfl ?_))
     refine z7 rfl (z53 _ _ _) rfl ⟨⟨trivial, trivial, trivial, trivial⟩, trivial⟩ ?_
     refine xs rfl (qg _ _ _ _ (by omega) rfl).symm (xs rfl (Int.natCast_nonneg _) (y9 rfl [.s (.int .i64 0), .s (.int .i64 0), .s (.int .i64 0)] (yn _ _ _ _ (by omega) rfl) (xs rfl rfl ?_)))
     refine xs rfl (qg _ _ _ _ (by omega) rfl).symm (y9 rfl [.s (.int .i64 0), .s (.int .i64 0), .s (.int .i64 0)] (yn _ _ _ _ (by omega) rfl) (xs rfl (by decide) (xs rfl ⟨trivial, trivial, trivial, trivial⟩ ?_)))
     refine ya rfl (hJ _ (i + 1) (by omega) (by omega) ?_)
     repeat' (first | exact trivial | exact rfl | exact Or.inl rfl | exact cwi (by omega) (by omega) (by omega) | refine And.intro ?_ ?_)
     exact y03 _ _ _ _ _ hg rfl
   · have h : ¬ i < rr.length := by simpa using h
     have : i = rr.length := by omega
     subst this
     refine xr rfl (q7 rfl ⟨⟨rfl, ⟨(qg _ _ _ _ (by omega) rfl).symm, q01 _ _ _ rfl, Or.inl rfl⟩, trivial⟩, z6 rfl⟩)
theorem q7r (x0 : Int) (x1 : Int)  : PC Tryz.prog 247 [.agg [.s (.int .i64 x0), .s (.int .i64 x1)]] (.one (.own true [.s (.int .i64 x0), .s (.int .i64 x1)])) := by
 refine PC.begin Tryz.func247 rfl (by kernel_rfl) ?_
 exact xr rfl (q7 rfl ⟨⟨rfl, rfl, rfl, trivial⟩, z6 rfl⟩)
theorem y3r (rr : List (List Cell)) (hw : WR 1048576 yh rr) : PC Tryz.prog 194 [.one (.l rr)] (.one (.own false [.l 2 rr])) := by
 refine PC.begin Tryz.func194 rfl (by kernel_rfl) ?_
 have hlen := hw.1
 refine xs rfl rfl (xs rfl (Int.natCast_nonneg _) (xs rfl (by omega) (xs rfl (by omega) ?_)))
 refine yc rfl (ι := Nat) (fun i => i ≤ rr.length) (fun i => ⟨[(4, sV (.int .i64 i)), (3, .one (.h 7 rr.length)), (0, .one (.b (.l rr)))], [(7, .arr true 2 0 (rr.take i ++ List.replicate (rr.length - i) [.s (.int .i64 0), .s (.int .i64 0)]))]⟩) (fun i => rr.length - i) 0 (Nat.zero_le _) ?_ ?_
 · repeat' (first | exact trivial | exact rfl | exact Or.inl rfl | refine And.intro ?_ ?_)
 · intro i hi J hJ
   refine xb rfl (fun h => ?_) (fun h => ?_)
   · have h : i < rr.length := by simpa using h
     obtain ⟨row, hg⟩ : ∃ row, rr[i]? = some row := ⟨_, List.getElem?_eq_getElem h⟩
     obtain ⟨x0, x1, rfl⟩ := z1f (hw.2 row (List.mem_of_getElem? hg))
     refine xs rfl (Int.natCast_nonneg _) (y9 rfl _ hg (xs rfl rfl ?_))
     refine z7 rfl (q7r _ _) rfl ⟨⟨trivial, trivial, trivial⟩, trivial⟩ ?_
     refine xs rfl (qg _ _ _ _ (by omega) rfl).symm (xs rfl (Int.natCast_nonneg _) (y9 rfl [.s (.int .i64 0), .s (.int .i64 0)] (yn _ _ _ _ (by omega) rfl) (xs rfl rfl ?_)))
     refine xs rfl (qg _ _ _ _ (by omega) rfl).symm (y9 rfl [.s (.int .i64 0), .s (.int .i64 0)] (yn _ _ _ _ (by omega) rfl) (xs rfl (by decide) (xs rfl ⟨trivial, trivial, trivial⟩ ?_)))
     refine ya rfl (hJ _ (i + 1) (by omega) (by omega) ?_)
     repeat' (first | exact trivial | exact rfl | exact Or.inl rfl | exact cwi (by omega) (by omega) (by omega) | refine And.intro ?_ ?_)
     exact y03 _ _ _ _ _ hg rfl
   · have h : ¬ i < rr.length := by simpa using h
     have : i = rr.length := by omega
     subst this
     refine xr rfl (q7 rfl ⟨⟨rfl, ⟨(qg _ _ _ _ (by omega) rfl).symm, q01 _ _ _ rfl, Or.inl rfl⟩, trivial⟩, z6 rfl⟩)
theorem z39 (rr : List (List Cell)) (hw : WR 1048576 (.i .i64 .nil) rr) : PC Tryz.prog 195 [.one (.l rr)] (.one (.own false [.l 1 rr])) := by
 refine PC.begin Tryz.func195 rfl (by kernel_rfl) ?_
 have hlen := hw.1
 refine xs rfl rfl (xs rfl (Int.natCast_nonneg _) (xs rfl (by omega) (xs rfl (by omega) ?_)))
 refine yc rfl (ι := Nat) (fun i => i ≤ rr.length) (fun i => ⟨[(4, sV (.int .i64 i)), (3, .one (.h 7 rr.length)), (0, .one (.b (.l rr)))], [(7, .arr true 1 0 (rr.take i ++ List.replicate (rr.length - i) [.s (.int .i64 0)]))]⟩) (fun i => rr.length - i) 0 (Nat.zero_le _) ?_ ?_
 · repeat' (first | exact trivial | exact rfl | exact Or.inl rfl | refine And.intro ?_ ?_)
 · intro i hi J hJ
   refine xb rfl (fun h => ?_) (fun h => ?_)
   · have h : i < rr.length := by simpa using h
     obtain ⟨row, hg⟩ : ∃ row, rr[i]? = some row := ⟨_, List.getElem?_eq_getElem h⟩
     obtain ⟨x0, _, rfl, hnil⟩ := ((hw.2 row (List.mem_of_getElem? hg))).yv; obtain rfl := hnil.qx
     refine xs rfl (Int.natCast_nonneg _) (y9 rfl _ hg (xs rfl rfl ?_))
     refine xs rfl (qg _ _ _ _ (by omega) rfl).symm (xs rfl (Int.natCast_nonneg _) (y9 rfl [.s (.int .i64 0)] (yn _ _ _ _ (by omega) rfl) (xs rfl rfl ?_)))
     refine xs rfl (qg _ _ _ _ (by omega) rfl).symm (y9 rfl [.s (.int .i64 0)] (yn _ _ _ _ (by omega) rfl) (xs rfl (by decide) (xs rfl ⟨trivial, trivial⟩ ?_)))
     refine ya rfl (hJ _ (i + 1) (by omega) (by omega) ?_)
     repeat' (first | exact trivial | exact rfl | exact Or.inl rfl | exact cwi (by omega) (by omega) (by omega) | refine And.intro ?_ ?_)
     exact y03 _ _ _ _ _ hg rfl
   · have h : ¬ i < rr.length := by simpa using h
     have : i = rr.length := by omega
     subst this
     refine xr rfl (q7 rfl ⟨⟨rfl, ⟨(qg _ _ _ _ (by omega) rfl).symm, q01 _ _ _ rfl, Or.inl rfl⟩, trivial⟩, z6 rfl⟩)
theorem q6m (x0 : Int) (x1 : List (List Cell)) (x2 : List (List Cell)) (x3 : List (List Cell)) (x4 : List (List Cell)) (x5 : List (List Cell)) (h1 : WR 1048576 qc x1) (h2 : WR 1048576 yh x2) (h3 : WR 1048576 z8 x3) (h4 : WR 1048576 yh x4) (h5 : WR 1048576 (.i .i64 .nil) x5) : PC Tryz.prog 119 [.agg [.s (.int .i64 x0), .l x1, .l x2, .l x3, .l x4, .l x5]] (.one (.own true [.s (.int .i64 x0), .l 3 x1, .l 2 x2, .l 2 x3, .l 2 x4, .l 1 x5])) := by
 refine PC.begin Tryz.func119 rfl (by kernel_rfl) ?_
 refine z7 rfl (z4g _ h1) rfl ⟨trivial, trivial⟩ ?_
 refine z7 rfl (y3r _ h2) rfl ⟨trivial, trivial⟩ ?_
 refine z7 rfl (y1l _ h3) rfl ⟨trivial, trivial⟩ ?_
 refine z7 rfl (y3r _ h4) rfl ⟨trivial, trivial⟩ ?_
 refine z7 rfl (z39 _ h5) rfl ⟨trivial, trivial⟩ ?_
 exact xr rfl (q7 rfl ⟨⟨rfl, rfl, ⟨rfl, rfl, .inl rfl⟩, ⟨rfl, rfl, .inl rfl⟩, ⟨rfl, rfl, .inl rfl⟩, ⟨rfl, rfl, .inl rfl⟩, ⟨rfl, rfl, .inl rfl⟩, trivial⟩, z6 rfl⟩)
theorem q5n (rr : List (List Cell)) (hw : WR 1048576 zf rr) : PC Tryz.prog 60 [.one (.l rr)] (.one (.own false [.l 6 rr])) := by
 refine PC.begin Tryz.func60 rfl (by kernel_rfl) ?_
 have hlen := hw.1
 refine xs rfl rfl (xs rfl (Int.natCast_nonneg _) (xs rfl (by omega) (xs rfl (by omega) ?_)))
 refine yc rfl (ι := Nat) (fun i => i ≤ rr.length) (fun i => ⟨[(4, sV (.int .i64 i)), (3, .one (.h 7 rr.length)), (0, .one (.b (.l rr)))], [(7, .arr true 6 0 (rr.take i ++ List.replicate (rr.length - i) [.s (.int .i64 0), .l [], .l [], .l [], .l [], .l []]))]⟩) (fun i => rr.length - i) 0 (Nat.zero_le _) ?_ ?_
 · repeat' (first | exact trivial | exact rfl | exact Or.inl rfl | refine And.intro ?_ ?_)
 · intro i hi J hJ
   refine xb rfl (fun h => ?_) (fun h => ?_)
   · have h : i < rr.length := by simpa using h
     obtain ⟨row, hg⟩ : ∃ row, rr[i]? = some row := ⟨_, List.getElem?_eq_getElem h⟩
     obtain ⟨x0, x1, x2, x3, x4, x5, rfl, h1, h2, h3, h4, h5⟩ := q0w (hw.2 row (List.mem_of_getElem? hg))
     refine xs rfl (Int.natCast_nonneg _) (y9 rfl _ hg (xs rfl rfl ?_))
     refine z7 rfl (q6m _ _ _ _ _ _ h1 h2 h3 h4 h5) rfl ⟨⟨trivial, trivial, trivial, trivial, trivial, trivial, trivial⟩, trivial⟩ ?_
     refine xs rfl (qg _ _ _ _ (by omega) rfl).symm (xs rfl (Int.natCast_nonneg _) (y9 rfl [.s (.int .i64 0), .l [], .l [], .l [], .l [], .l []] (yn _ _ _ _ (by omega) rfl) (xs rfl rfl ?_)))
     refine xs rfl (qg _ _ _ _ (by omega) rfl).symm (y9 rfl [.s (.int .i64 0), .l [], .l [], .l [], .l [], .l []] (yn _ _ _ _ (by omega) rfl) (xs rfl (by decide) (xs rfl ⟨trivial, ⟨rfl, rfl⟩, ⟨rfl, rfl⟩, ⟨rfl, rfl⟩, ⟨rfl, rfl⟩, ⟨rfl, rfl⟩, trivial⟩ ?_)))
     refine ya rfl (hJ _ (i + 1) (by omega) (by omega) ?_)
     repeat' (first | exact trivial | exact rfl | exact Or.inl rfl | exact cwi (by omega) (by omega) (by omega) | refine And.intro ?_ ?_)
     exact y03 _ _ _ _ _ hg rfl
   · have h : ¬ i < rr.length := by simpa using h
     have : i = rr.length := by omega
     subst this
     refine xr rfl (q7 rfl ⟨⟨rfl, ⟨(qg _ _ _ _ (by omega) rfl).symm, q01 _ _ _ rfl, Or.inl rfl⟩, trivial⟩, z6 rfl⟩)
theorem y39 (x0 : Int) (x1 : Int)  : PC Tryz.prog 199 [.agg [.s (.int .i64 x0), .s (.int .i64 x1)]] (.one (.own true [.s (.int .i64 x0), .s (.int .i64 x1)])) := by
 refine PC.begin Tryz.func199 rfl (by kernel_rfl) ?_
 exact xr rfl (q7 rfl ⟨⟨rfl, rfl, rfl, trivial⟩, z6 rfl⟩)
theorem q3r (rr : List (List Cell)) (hw : WR 1048576 ym rr) : PC Tryz.prog 305 [.one (.l rr)] (.one (.own false [.l 2 rr])) := by
 refine PC.begin Tryz.func305 rfl (by kernel_rfl) ?_
 have hlen := hw.1
 refine xs rfl rfl (xs rfl (Int.natCast_nonneg _) (xs rfl (by omega) (xs rfl (by omega) ?_)))
 refine yc rfl (ι := Nat) (fun i => i ≤ rr.length) (fun i => ⟨[(4, sV (.int .i64 i)), (3, .one (.h 7 rr.length)), (0, .one (.b (.l rr)))], [(7, .arr true 2 0 (rr.take i ++ List.replicate (rr.length - i) [.s (.int .i64 0), .s (.int .i64 0)]))]⟩) (fun i => rr.length - i) 0 (Nat.zero_le _) ?_ ?_
 · repeat' (first | exact trivial | exact rfl | exact Or.inl rfl | refine And.intro ?_ ?_)
 · intro i hi J hJ
   refine xb rfl (fun h => ?_) (fun h => ?_)
   · have h : i < rr.length := by simpa using h
     obtain ⟨row, hg⟩ : ∃ row, rr[i]? = some row := ⟨_, List.getElem?_eq_getElem h⟩
     obtain ⟨x0, x1, rfl⟩ := q1f (hw.2 row (List.mem_of_getElem? hg))
     refine xs rfl (Int.natCast_nonneg _) (y9 rfl _ hg (xs rfl rfl ?_))
     refine z7 rfl (y39 _ _) rfl ⟨⟨trivial, trivial, trivial⟩, trivial⟩ ?_
     refine xs rfl (qg _ _ _ _ (by omega) rfl).symm (xs rfl (Int.natCast_nonneg _) (y9 rfl [.s (.int .i64 0), .s (.int .i64 0)] (yn _ _ _ _ (by omega) rfl) (xs rfl rfl ?_)))
     refine xs rfl (qg _ _ _ _ (by omega) rfl).symm (y9 rfl [.s (.int .i64 0), .s (.int .i64 0)] (yn _ _ _ _ (by omega) rfl) (xs rfl (by decide) (xs rfl ⟨trivial, trivial, trivial⟩ ?_)))
     refine ya rfl (hJ _ (i + 1) (by omega) (by omega) ?_)
     repeat' (first | exact trivial | exact rfl | exact Or.inl rfl | exact cwi (by omega) (by omega) (by omega) | refine And.intro ?_ ?_)
     exact y03 _ _ _ _ _ hg rfl
   · have h : ¬ i < rr.length := by simpa using h
     have : i = rr.length := by omega
     subst this
     refine xr rfl (q7 rfl ⟨⟨rfl, ⟨(qg _ _ _ _ (by omega) rfl).symm, q01 _ _ _ rfl, Or.inl rfl⟩, trivial⟩, z6 rfl⟩)
theorem z7s (x0 : Int) (x1 : Int) (x2 : Int) (x3 : Int) (x4 : Int) (x5 : List (List Cell)) (h5 : WR 1048576 ym x5) : PC Tryz.prog 248 [.agg [.s (.int .i64 x0), .s (.int .i64 x1), .s (.int .i64 x2), .s (.int .i64 x3), .s (.int .i64 x4), .l x5]] (.one (.own true [.s (.int .i64 x0), .s (.int .i64 x1), .s (.int .i64 x2), .s (.int .i64 x3), .s (.int .i64 x4), .l 2 x5])) := by
 refine PC.begin Tryz.func248 rfl (by kernel_rfl) ?_
 refine z7 rfl (y39 _ _) rfl ⟨⟨trivial, trivial, trivial⟩, trivial⟩ ?_
 refine z7 rfl (q3r _ h5) rfl ⟨trivial, trivial⟩ ?_
 exact xr rfl (q7 rfl ⟨⟨rfl, rfl, rfl, rfl, rfl, rfl, ⟨rfl, rfl, .inl rfl⟩, trivial⟩, z6 rfl⟩)
theorem z6n (rr : List (List Cell)) (hw : WR 1048576 ql rr) : PC Tryz.prog 196 [.one (.l rr)] (.one (.own false [.l 6 rr])) := by
 refine PC.begin Tryz.func196 rfl (by kernel_rfl) ?_
 have hlen := hw.1
 refine xs rfl rfl (xs rfl (Int.natCast_nonneg _) (xs rfl (by omega) (xs rfl (by omega) ?_)))
 refine yc rfl (ι := Nat) (fun i => i ≤ rr.length) (fun i => ⟨[(4, sV (.int .i64 i)), (3, .one (.h 7 rr.length)), (0, .one (.b (.l rr)))], [(7, .arr true 6 0 (rr.take i ++ List.replicate (rr.length - i) [.s (.int .i64 0), .s (.int .i64 0), .s (.int .i64 0), .s (.int .i64 0), .s (.int .i64 0), .l []]))]⟩) (fun i => rr.length - i) 0 (Nat.zero_le _) ?_ ?_
 · repeat' (first | exact trivial | exact rfl | exact Or.inl rfl | refine And.intro ?_ ?_)
 · intro i hi J hJ
   refine xb rfl (fun h => ?_) (fun h => ?_)
   · have h : i < rr.length := by simpa using h
     obtain ⟨row, hg⟩ : ∃ row, rr[i]? = some row := ⟨_, List.getElem?_eq_getElem h⟩
     obtain ⟨x0, x1, x2, x3, x4, x5, rfl, h5⟩ := y1f (hw.2 row (List.mem_of_getElem? hg))
     refine xs rfl (Int.natCast_nonneg _) (y9 rfl _ hg (xs rfl rfl ?_))
     refine z7 rfl (z7s _ _ _ _ _ _ h5) rfl ⟨⟨trivial, trivial, trivial, trivial, trivial, trivial, trivial⟩, trivial⟩ ?_
     refine xs rfl (qg _ _ _ _ (by omega) rfl).symm (xs rfl (Int.natCast_nonneg _) (y9 rfl [.s (.int .i64 0), .s (.int .i64 0), .s (.int .i64 0), .s (.int .i64 0), .s (.int .i64 0), .l []] (yn _ _ _ _ (by omega) rfl) (xs rfl rfl ?_)))
     refine xs rfl (qg _ _ _ _ (by omega) rfl).symm (y9 rfl [.s (.int .i64 0), .s (.int .i64 0), .s (.int .i64 0), .s (.int .i64 0), .s (.int .i64 0), .l []] (yn _ _ _ _ (by omega) rfl) (xs rfl (by decide) (xs rfl ⟨trivial, trivial, trivial, trivial, trivial, ⟨rfl, rfl⟩, trivial⟩ ?_)))
     refine ya rfl (hJ _ (i + 1) (by omega) (by omega) ?_)
     repeat' (first | exact trivial | exact rfl | exact Or.inl rfl | exact cwi (by omega) (by omega) (by omega) | refine And.intro ?_ ?_)
     exact y03 _ _ _ _ _ hg rfl
   · have h : ¬ i < rr.length := by simpa using h
     have : i = rr.length := by omega
     subst this
     refine xr rfl (q7 rfl ⟨⟨rfl, ⟨(qg _ _ _ _ (by omega) rfl).symm, q01 _ _ _ rfl, Or.inl rfl⟩, trivial⟩, z6 rfl⟩)
theorem q4f (x0 : List (List Cell)) (h0 : WR 1048576 ql x0) : PC Tryz.prog 120 [.agg [.l x0]] (.one (.own true [.l 6 x0])) := by
 refine PC.begin Tryz.func120 rfl (by kernel_rfl) ?_
 refine z7 rfl (z6n _ h0) rfl ⟨trivial, trivial⟩ ?_
 exact xr rfl (q7 rfl ⟨⟨rfl, ⟨rfl, rfl, .inl rfl⟩, trivial⟩, z6 rfl⟩)
theorem y3i (rr : List (List Cell)) (hw : WR 1048576 za rr) : PC Tryz.prog 61 [.one (.l rr)] (.one (.own false [.l 1 rr])) := by
 refine PC.begin Tryz.func61 rfl (by kernel_rfl) ?_
 have hlen := hw.1
 refine xs rfl rfl (xs rfl (Int.natCast_nonneg _) (xs rfl (by omega) (xs rfl (by omega) ?_)))
 refine yc rfl (ι := Nat) (fun i => i ≤ rr.length) (fun i => ⟨[(4, sV (.int .i64 i)), (3, .one (.h 7 rr.length)), (0, .one (.b (.l rr)))], [(7, .arr true 1 0 (rr.take i ++ List.replicate (rr.length - i) [.l []]))]⟩) (fun i => rr.length - i) 0 (Nat.zero_le _) ?_ ?_
 · repeat' (first | exact trivial | exact rfl | exact Or.inl rfl | refine And.intro ?_ ?_)
 · intro i hi J hJ
   refine xb rfl (fun h => ?_) (fun h => ?_)
   · have h : i < rr.length := by simpa using h
     obtain ⟨row, hg⟩ : ∃ row, rr[i]? = some row := ⟨_, List.getElem?_eq_getElem h⟩
     obtain ⟨x0, rfl, h0⟩ := z07 (hw.2 row (List.mem_of_getElem? hg))
     refine xs rfl (Int.natCast_nonneg _) (y9 rfl _ hg (xs rfl rfl ?_))
     refine z7 rfl (q4f _ h0) rfl ⟨⟨trivial, trivial⟩, trivial⟩ ?_
     refine xs rfl (qg _ _ _ _ (by omega) rfl).symm (xs rfl (Int.natCast_nonneg _) (y9 rfl [.l []] (yn _ _ _ _ (by omega) rfl) (xs rfl rfl ?_)))
     refine xs rfl (qg _ _ _ _ (by omega) rfl).symm (y9 rfl [.l []] (yn _ _ _ _ (by omega) rfl) (xs rfl (by decide) (xs rfl ⟨⟨rfl, rfl⟩, trivial⟩ ?_)))
     refine ya rfl (hJ _ (i + 1) (by omega) (by omega) ?_)
     repeat' (first | exact trivial | exact rfl | exact Or.inl rfl | exact cwi (by omega) (by omega) (by omega) | refine And.intro ?_ ?_)
     exact y03 _ _ _ _ _ hg rfl
   · have h : ¬ i < rr.length := by simpa using h
     have : i = rr.length := by omega
     subst this
     refine xr rfl (q7 rfl ⟨⟨rfl, ⟨(qg _ _ _ _ (by omega) rfl).symm, q01 _ _ _ rfl, Or.inl rfl⟩, trivial⟩, z6 rfl⟩)
theorem z8l (x0 : Int) (x1 : Int) (x2 : Int) (x3 : Int) (x4 : List (List Cell)) (x5 : List (List Cell)) (h4 : WR 1048576 (.i .i64 .nil) x4) (h5 : WR 1048576 ym x5) : PC Tryz.prog 249 [.agg [.s (.int .i64 x0), .s (.int .i64 x1), .s (.int .i64 x2), .s (.int .i64 x3), .l x4, .l x5]] (.one (.own true [.s (.int .i64 x0), .s (.int .i64 x1), .s (.int .i64 x2), .s (.int .i64 x3), .l 1 x4, .l 2 x5])) := by
 refine PC.begin Tryz.func249 rfl (by kernel_rfl) ?_
 refine z7 rfl (z39 _ h4) rfl ⟨trivial, trivial⟩ ?_
 refine z7 rfl (q3r _ h5) rfl ⟨trivial, trivial⟩ ?_
 exact xr rfl (q7 rfl ⟨⟨rfl, rfl, rfl, rfl, rfl, ⟨rfl, rfl, .inl rfl⟩, ⟨rfl, rfl, .inl rfl⟩, trivial⟩, z6 rfl⟩)
theorem y7s (rr : List (List Cell)) (hw : WR 1048576 yp rr) : PC Tryz.prog 197 [.one (.l rr)] (.one (.own false [.l 6 rr])) := by
 refine PC.begin Tryz.func197 rfl (by kernel_rfl) ?_
 have hlen := hw.1
 refine xs rfl rfl (xs rfl (Int.natCast_nonneg _) (xs rfl (by omega) (xs rfl (by omega) ?_)))
 refine yc rfl (ι := Nat) (fun i => i ≤ rr.length) (fun i => ⟨[(4, sV (.int .i64 i)), (3, .one (.h 7 rr.length)), (0, .one (.b (.l rr)))], [(7, .arr true 6 0 (rr.take i ++ List.replicate (rr.length - i) [.s (.int .i64 0), .s (.int .i64 0), .s (.int .i64 0), .s (.int .i64 0), .l [], .l []]))]⟩) (fun i => rr.length - i) 0 (Nat.zero_le _) ?_ ?_
 · repeat' (first | exact trivial | exact rfl | exact Or.inl rfl | refine And.intro ?_ ?_)
 · intro i hi J hJ
   refine xb rfl (fun h => ?_) (fun h => ?_)
   · have h : i < rr.length := by simpa using h
     obtain ⟨row, hg⟩ : ∃ row, rr[i]? = some row := ⟨_, List.getElem?_eq_getElem h⟩
     obtain ⟨x0, x1, x2, x3, x4, x5, rfl, h4, h5⟩ := z29 (hw.2 row (List.mem_of_getElem? hg))
     refine xs rfl (Int.natCast_nonneg _) (y9 rfl _ hg (xs rfl rfl ?_))
     refine z7 rfl (z8l _ _ _ _ _ _ h4 h5) rfl ⟨⟨trivial, trivial, trivial, trivial, trivial, trivial, trivial⟩, trivial⟩ ?_
     refine xs rfl (qg _ _ _ _ (by omega) rfl).symm (xs rfl (Int.natCast_nonneg _) (y9 rfl [.s (.int .i64 0), .s (.int .i64 0), .s (.int .i64 0), .s (.int .i64 0), .l [], .l []] (yn _ _ _ _ (by omega) rfl) (xs rfl rfl ?_)))
     refine xs rfl (qg _ _ _ _ (by omega) rfl).symm (y9 rfl [.s (.int .i64 0), .s (.int .i64 0), .s (.int .i64 0), .s (.int .i64 0), .l [], .l []] (yn _ _ _ _ (by omega) rfl) (xs rfl (by decide) (xs rfl ⟨trivial, trivial, trivial, trivial, ⟨rfl, rfl⟩, ⟨rfl, rfl⟩, trivial⟩ ?_)))
     refine ya rfl (hJ _ (i + 1) (by omega) (by omega) ?_)
     repeat' (first | exact trivial | exact rfl | exact Or.inl rfl | exact cwi (by omega) (by omega) (by omega) | refine And.intro ?_ ?_)
     exact y03 _ _ _ _ _ hg rfl
   · have h : ¬ i < rr.length := by simpa using h
     have : i = rr.length := by omega
     subst this
     refine xr rfl (q7 rfl ⟨⟨rfl, ⟨(qg _ _ _ _ (by omega) rfl).symm, q01 _ _ _ rfl, Or.inl rfl⟩, trivial⟩, z6 rfl⟩)
theorem y6m (x0 : Int) (x1 : Int) (x2 : Int) (x3 : Int) (x4 : Int)  : PC Tryz.prog 250 [.agg [.s (.int .i64 x0), .s (.int .i64 x1), .s (.int .i64 x2), .s (.int .i64 x3), .s (.int .i64 x4)]] (.one (.own true [.s (.int .i64 x0), .s (.int .i64 x1), .s (.int .i64 x2), .s (.int .i64 x3), .s (.int .i64 x4)])) := by
 refine PC.begin Tryz.func250 rfl (by kernel_rfl) ?_
 exact xr rfl (q7 rfl ⟨⟨rfl, rfl, rfl, rfl, rfl, rfl, trivial⟩, z6 rfl⟩)
theorem z5n (rr : List (List Cell)) (hw : WR 1048576 qn rr) : PC Tryz.prog 198 [.one (.l rr)] (.one (.own false [.l 5 rr])) := by
 refine PC.begin Tryz.func198 rfl (by kernel_rfl) ?_
 have hlen := hw.1
 refine xs rfl rfl (xs rfl (Int.natCast_nonneg _) (xs rfl (by omega) (xs rfl (by omega) ?_)))
 refine yc rfl (ι := Nat) (fun i => i ≤ rr.length) (fun i => ⟨[(4, sV (.int .i64 i)), (3, .one (.h 7 rr.length)), (0, .one (.b (.l rr)))], [(7, .arr true 5 0 (rr.take i ++ List.replicate (rr.length - i) [.s (.int .i64 0), .s (.int .i64 0), .s (.int .i64 0), .s (.int .i64 0), .s (.int .i64 0)]))]⟩) (fun i => rr.length - i) 0 (Nat.zero_le _) ?_ ?_
 · repeat' (first | exact trivial | exact rfl | exact Or.inl rfl | refine And.intro ?_ ?_)
 · intro i hi J hJ
   refine xb rfl (fun h => ?_) (fun h => ?_)
   · have h : i < rr.length := by simpa using h
     obtain ⟨row, hg⟩ : ∃ row, rr[i]? = some row := ⟨_, List.getElem?_eq_getElem h⟩
     obtain ⟨x0, x1, x2, x3, x4, rfl⟩ := y0w (hw.2 row (List.mem_of_getElem? hg))
     refine xs rfl (Int.natCast_nonneg _) (y9 rfl _ hg (xs rfl rfl ?_))
     refine z7 rfl (y6m _ _ _ _ _) rfl ⟨⟨trivial, trivial, trivial, trivial, trivial, trivial⟩, trivial⟩ ?_
     refine xs rfl (qg _ _ _ _ (by omega) rfl).symm (xs rfl (Int.natCast_nonneg _) (y9 rfl [.s (.int .i64 0), .s (.int .i64 0), .s (.int .i64 0), .s (.int .i64 0), .s (.int .i64 0)] (yn _ _ _ _ (by omega) rfl) (xs rfl rfl ?_)))
     refine xs rfl (qg _ _ _ _ (by omega) rfl).symm (y9 rfl [.s (.int .i64 0), .s (.int .i64 0), .s (.int .i64 0), .s (.int .i64 0), .s (.int .i64 0)] (yn _ _ _ _ (by omega) rfl) (xs rfl (by decide) (xs rfl ⟨trivial, trivial, trivial, trivial, trivial, trivial⟩ ?_)))
     refine ya rfl (hJ _ (i + 1) (by omega) (by omega) ?_)
     repeat' (first | exact trivial | exact rfl | exact Or.inl rfl | exact cwi (by omega) (by omega) (by omega) | refine And.intro ?_ ?_)
     exact y03 _ _ _ _ _ hg rfl
   · have h : ¬ i < rr.length := by simpa using h
     have : i = rr.length := by omega
     subst this
     refine xr rfl (q7 rfl ⟨⟨rfl, ⟨(qg _ _ _ _ (by omega) rfl).symm, q01 _ _ _ rfl, Or.inl rfl⟩, trivial⟩, z6 rfl⟩)
theorem y5n (x0 : Int) (x1 : List (List Cell)) (x2 : List (List Cell)) (h1 : WR 1048576 yp x1) (h2 : WR 1048576 qn x2) : PC Tryz.prog 121 [.agg [.s (.int .i64 x0), .l x1, .l x2]] (.one (.own true [.s (.int .i64 x0), .l 6 x1, .l 5 x2])) := by
 refine PC.begin Tryz.func121 rfl (by kernel_rfl) ?_
 refine z7 rfl (y7s _ h1) rfl ⟨trivial, trivial⟩ ?_
 refine z7 rfl (z5n _ h2) rfl ⟨trivial, trivial⟩ ?_
 exact xr rfl (q7 rfl ⟨⟨rfl, rfl, ⟨rfl, rfl, .inl rfl⟩, ⟨rfl, rfl, .inl rfl⟩, trivial⟩, z6 rfl⟩)
theorem q53 (rr : List (List Cell)) (hw : WR 1048576 qd rr) : PC Tryz.prog 62 [.one (.l rr)] (.one (.own false [.l 3 rr])) := by
 refine PC.begin Tryz.func62 rfl (by kernel_rfl) ?_
 have hlen := hw.1
 refine xs rfl rfl (xs rfl (Int.natCast_nonneg _) (xs rfl (by omega) (xs rfl (by omega) ?_)))
 refine yc rfl (ι := Nat) (fun i => i ≤ rr.length) (fun i => ⟨[(4, sV (.int .i64 i)), (3, .one (.h 7 rr.length)), (0, .one (.b (.l rr)))], [(7, .arr true 3 0 (rr.take i ++ List.replicate (rr.length - i) [.s (.int .i64 0), .l [], .l []]))]⟩) (fun i => rr.length - i) 0 (Nat.zero_le _) ?_ ?_
 · repeat' (first | exact trivial | exact rfl | exact Or.inl rfl | refine And.intro ?_ ?_)
 · intro i hi J hJ
   refine xb rfl (fun h => ?_) (fun h => ?_)
   · have h : i < rr.length := by simpa using h
     obtain ⟨row, hg⟩ : ∃ row, rr[i]? = some row := ⟨_, List.getElem?_eq_getElem h⟩
     obtain ⟨x0, x1, x2, rfl, h1, h2⟩ := y0l (hw.2 row (List.mem_of_getElem? hg))
     refine xs rfl (Int.natCast_nonneg _) (y9 rfl _ hg (xs rfl rfl ?_))
     refine z7 rfl (y5n _ _ _ h1 h2) rfl ⟨⟨trivial, trivial, trivial, trivial⟩, trivial⟩ ?_
     refine xs rfl (qg _ _ _ _ (by omega) rfl).symm (xs rfl (Int.natCast_nonneg _) (y9 rfl [.s (.int .i64 0), .l [], .l []] (yn _ _ _ _ (by omega) rfl) (xs rfl rfl ?_)))
     refine xs rfl (qg _ _ _ _ (by omega) rfl).symm (y9 rfl [.s (.int .i64 0), .l [], .l []] (yn _ _ _ _ (by omega) rfl) (xs rfl (by decide) (xs rfl ⟨trivial, ⟨rfl, rfl⟩, ⟨rfl, rfl⟩, trivial⟩ ?_)))
     refine ya rfl (hJ _ (i + 1) (by omega) (by omega) ?_)
     repeat' (first | exact trivial | exact rfl | exact Or.inl rfl | exact cwi (by omega) (by omega) (by omega) | refine And.intro ?_ ?_)
     exact y03 _ _ _ _ _ hg rfl
   · have h : ¬ i < rr.length := by simpa using h
     have : i = rr.length := by omega
     subst this
     refine xr rfl (q7 rfl ⟨⟨rfl, ⟨(qg _ _ _ _ (by omega) rfl).symm, q01 _ _ _ rfl, Or.inl rfl⟩, trivial⟩, z6 rfl⟩)
theorem z54 (x0 : Int) (x1 : Int) (x2 : Int) (x3 : Int) (x4 : Int) (x5 : Int) (x6 : Int) (x7 : Int) (x8 : Int)  : PC Tryz.prog 122 [.agg [.s (.int .i64 x0), .s (.int .i64 x1), .s (.int .i64 x2), .s (.int .i64 x3), .s (.int .i64 x4), .s (.int .i64 x5), .s (.int .i64 x6), .s (.int .i64 x7), .s (.int .i64 x8)]] (.one (.own true [.s (.int .i64 x0), .s (.int .i64 x1), .s (.int .i64 x2), .s (.int .i64 x3), .s (.int .i64 x4), .s (.int .i64 x5), .s (.int .i64 x6), .s (.int .i64 x7), .s (.int .i64 x8)])) := by
 refine PC.begin Tryz.func122 rfl (by kernel_rfl) ?_
 refine z7 rfl (y39 _ _) rfl ⟨⟨trivial, trivial, trivial⟩, trivial⟩ ?_
 exact xr rfl (q7 rfl ⟨⟨rfl, rfl, rfl, rfl, rfl, rfl, rfl, rfl, rfl, rfl, trivial⟩, z6 rfl⟩)
theorem q4g (rr : List (List Cell)) (hw : WR 1048576 zg rr) : PC Tryz.prog 63 [.one (.l rr)] (.one (.own false [.l 9 rr])) := by
 refine PC.begin Tryz.func63 rfl (by kernel_rfl) ?_
 have hlen := hw.1
 refine xs rfl rfl (xs rfl (Int.natCast_nonneg _) (xs rfl (by omega) (xs rfl (by omega) ?_)))
 refine yc rfl (ι := Nat) (fun i => i ≤ rr.length) (fun i => ⟨[(4, sV (.int .i64 i)), (3, .one (.h 7 rr.length)), (0, .one (.b (.l rr)))], [(7, .arr true 9 0 (rr.take i ++ List.replicate (rr.length - i) [.s (.int .i64 0), .s (.int .i64 0), .s (.int .i64 0), .s (.int .i64 0), .s (.int .i64 0), .s (.int .i64 0), .s (.int .i64 0), .s (.int .i64 0), .s (.int .i64 0)]))]⟩) (fun i => rr.length - i) 0 (Nat.zero_le _) ?_ ?_
 · repeat' (first | exact trivial | exact rfl | exact Or.inl rfl | refine And.intro ?_ ?_)
 · intro i hi J hJ
   refine xb rfl (fun h => ?_) (fun h => ?_)
   · have h : i < rr.length := by simpa using h
     obtain ⟨row, hg⟩ : ∃ row, rr[i]? = some row := ⟨_, List.getElem?_eq_getElem h⟩
     obtain ⟨x0, x1, x2, x3, x4, x5, x6, x7, x8, rfl⟩ := y0c (hw.2 row (List.mem_of_getElem? hg))
     refine xs rfl (Int.natCast_nonneg _) (y9 rfl _ hg (xs rfl rfl ?_))
     refine z7 rfl (z54 _ _ _ _ _ _ _ _ _) rfl ⟨⟨trivial, trivial, trivial, trivial, trivial, trivial, trivial, trivial, trivial, trivial⟩, trivial⟩ ?_
     refine xs rfl (qg _ _ _ _ (by omega) rfl).symm (xs rfl (Int.natCast_nonneg _) (y9 rfl [.s (.int .i64 0), .s (.int .i64 0), .s (.int .i64 0), .s (.int .i64 0), .s (.int .i64 0), .s (.int .i64 0), .s (.int .i64 0), .s (.int .i64 0), .s (.int .i64 0)] (yn _ _ _ _ (by omega) rfl) (xs rfl rfl ?_)))
     refine xs rfl (qg _ _ _ _ (by omega) rfl).symm (y9 rfl [.s (.int .i64 0), .s (.int .i64 0), .s (.int .i64 0), .s (.int .i64 0), .s (.int .i64 0), .s (.int .i64 0), .s (.int .i64 0), .s (.int .i64 0), .s (.int .i64 0)] (yn _ _ _ _ (by omega) rfl) (xs rfl (by decide) (xs rfl ⟨trivial, trivial, trivial, trivial, trivial, trivial, trivial, trivial, trivial, trivial⟩ ?_)))
     refine ya rfl (hJ _ (i + 1) (by omega) (by omega) ?_)
     repeat' (first | exact trivial | exact rfl | exact Or.inl rfl | exact cwi (by omega) (by omega) (by omega) | refine And.intro ?_ ?_)
     exact y03 _ _ _ _ _ hg rfl
   · have h : ¬ i < rr.length := by simpa using h
     have : i = rr.length := by omega
     subst this
     refine xr rfl (q7 rfl ⟨⟨rfl, ⟨(qg _ _ _ _ (by omega) rfl).symm, q01 _ _ _ rfl, Or.inl rfl⟩, trivial⟩, z6 rfl⟩)
theorem y53 (x0 : List (List Cell)) (x1 : List (List Cell)) (x2 : List (List Cell)) (x3 : List (List Cell)) (x4 : List (List Cell)) (h0 : WR 1048576 z8 x0) (h1 : WR 1048576 zf x1) (h2 : WR 1048576 za x2) (h3 : WR 1048576 qd x3) (h4 : WR 1048576 zg x4) : PC Tryz.prog 14 [.agg [.l x0, .l x1, .l x2, .l x3, .l x4]] (.one (.own true [.l 2 x0, .l 6 x1, .l 1 x2, .l 3 x3, .l 9 x4])) := by
 refine PC.begin Tryz.func14 rfl (by kernel_rfl) ?_
 refine z7 rfl (y1l _ h0) rfl ⟨trivial, trivial⟩ ?_
 refine z7 rfl (q5n _ h1) rfl ⟨trivial, trivial⟩ ?_
 refine z7 rfl (y3i _ h2) rfl ⟨trivial, trivial⟩ ?_
 refine z7 rfl (q53 _ h3) rfl ⟨trivial, trivial⟩ ?_
 refine z7 rfl (q4g _ h4) rfl ⟨trivial, trivial⟩ ?_
 exact xr rfl (q7 rfl ⟨⟨rfl, ⟨rfl, rfl, .inl rfl⟩, ⟨rfl, rfl, .inl rfl⟩, ⟨rfl, rfl, .inl rfl⟩, ⟨rfl, rfl, .inl rfl⟩, ⟨rfl, rfl, .inl rfl⟩, trivial⟩, z6 rfl⟩)
end Go.Proofs.YthljegacamgnnaaGreat
end
section
namespace Go.Proofs.YthljegacamgnnaaGreat
open Go Go.Sx
set_option maxRecDepth 20000
theorem y83 (x0 : Int) (x1 : Int) (x2 : Int) (x3 : Int) (y0 : Int) (y1 : Int) (y2 : Int) (y3 : Int)   : PC Tryz.prog 155 [.agg [.s (.int .i64 x0), .s (.int .i64 x1), .s (.int .i64 x2), .s (.int .i64 x3)], .agg [.s (.int .i64 y0), .s (.int .i64 y1), .s (.int .i64 y2), .s (.int .i64 y3)]] (rB (dE (α := List Cell) [.s (.int .i64 x0), .s (.int .i64 x1), .s (.int .i64 x2), .s (.int .i64 x3)] [.s (.int .i64 y0), .s (.int .i64 y1), .s (.int .i64 y2), .s (.int .i64 y3)])) := by
 refine PC.begin Tryz.func155 rfl (by kernel_rfl) ?_
 refine xb rfl (fun h => ?_) (fun e0 => ?_)
 · exact xr rfl (q7 rfl ⟨⟨rfl, yk (fun e => by simp only [List.cons.injEq, Cell.s.injEq, Value.int.injEq, Value.bool.injEq, Value.string.injEq] at e; simp [e] at h), trivial⟩, z6 rfl⟩)
 have e0 : x0 = y0 := by simpa using e0
 refine xb rfl (fun h => ?_) (fun e1 => ?_)
 · exact xr rfl (q7 rfl ⟨⟨rfl, yk (fun e => by simp only [List.cons.injEq, Cell.s.injEq, Value.int.injEq, Value.bool.injEq, Value.string.injEq] at e; simp [e] at h), trivial⟩, z6 rfl⟩)
 have e1 : x1 = y1 := by simpa using e1
 refine xb rfl (fun h => ?_) (fun e2 => ?_)
 · exact xr rfl (q7 rfl ⟨⟨rfl, yk (fun e => by simp only [List.cons.injEq, Cell.s.injEq, Value.int.injEq, Value.bool.injEq, Value.string.injEq] at e; simp [e] at h), trivial⟩, z6 rfl⟩)
 have e2 : x2 = y2 := by simpa using e2
 refine xb rfl (fun h => ?_) (fun e3 => ?_)
 · exact xr rfl (q7 rfl ⟨⟨rfl, yk (fun e => by simp only [List.cons.injEq, Cell.s.injEq, Value.int.injEq, Value.bool.injEq, Value.string.injEq] at e; simp [e] at h), trivial⟩, z6 rfl⟩)
 have e3 : x3 = y3 := by simpa using e3
 exact xr rfl (q7 rfl ⟨⟨rfl, qu (by simp [e0, e1, e2, e3]), trivial⟩, z6 rfl⟩)
theorem q6y (p q : List (List Cell)) (hp : WR 9000000000000000000 yy p) (hq : WR 9000000000000000000 yy q) : PC Tryz.prog 90 [.one (.l p), .one (.l q)] (rB (dE p q)) := by
 refine PC.begin Tryz.func90 rfl (by kernel_rfl) ?_
 have hpl := hp.1
 have hql := hq.1
 refine xb rfl (fun h => ?_) (fun h => ?_)
 · exact xr rfl (q7 rfl ⟨⟨rfl, yk (fun e => by subst e; simp at h), trivial⟩, z6 rfl⟩)
 have hl : p.length = q.length := by simpa [Int.ofNat_inj] using h
 refine yc rfl (ι := Nat) (fun i => i ≤ p.length ∧ p.take i = q.take i) (fun i => ⟨[(5, sV (.int .i64 i)), (0, .one (.b (.l p))), (1, .one (.b (.l q)))], []⟩) (fun i => p.length - i) 0 ⟨Nat.zero_le _, rfl⟩ ?_ ?_
 · repeat' (first | exact trivial | exact rfl | exact Or.inl rfl | refine And.intro ?_ ?_)
 · intro i ⟨hi, he⟩ J hJ
   refine xb rfl (fun h => ?_) (fun h => ?_)
   · have h : i < p.length := by simpa using h
     obtain ⟨row, hg⟩ : ∃ row, p[i]? = some row := ⟨_, List.getElem?_eq_getElem h⟩
     obtain ⟨row', hg'⟩ : ∃ row, q[i]? = some row := ⟨_, List.getElem?_eq_getElem (by omega)⟩
     obtain ⟨x0, x1, x2, x3, rfl⟩ := y28 (hp.2 row (List.mem_of_getElem? hg))
     obtain ⟨y0, y1, y2, y3, rfl⟩ := y28 (hq.2 row' (List.mem_of_getElem? hg'))
     refine zc rfl [] (.take 0 [] (.take 1 [] (.take 2 [] (.take 3 [8, 9] (.take 4 [] (.take 5 [] (.take 6 [] (.take 7 [8, 9] (.alt 8 (.take 9 [] .done) .nil))))))))) (by kernel_rfl) ?_
     refine xs rfl (Int.natCast_nonneg _) (y9 rfl _ hg (xs rfl rfl ?_))
     refine xs rfl (Int.natCast_nonneg _) (y9 rfl _ hg' (xs rfl rfl ?_))
     refine z7 rfl (y83 _ _ _ _ _ _ _ _) rfl ⟨⟨trivial, trivial, trivial, trivial, trivial⟩, ⟨trivial, trivial, trivial, trivial, trivial⟩, trivial⟩ ?_
     refine xb rfl (fun hb => ?_) (fun hb => ?_)
     · exact xr rfl (q7 rfl ⟨⟨rfl, yk (fun e => by subst e; rw [hg] at hg'; cases hg'; exact z05 hb rfl), trivial⟩, z6 rfl⟩)
     · have hb := q04 hb
       refine ya rfl (hJ _ (i + 1) ⟨by omega, qo he hg (hg'.trans (by rw [hb]))⟩ (by omega) ?_)
       repeat' (first | exact trivial | exact rfl | exact Or.inl rfl | exact cwi (by omega) (by omega) (by omega) | refine And.intro ?_ ?_)
   · have h : ¬ i < p.length := by simpa using h
     exact xr rfl (q7 rfl ⟨⟨rfl, qu (by rw [show i = p.length by omega, List.take_length] at he; rw [he, hl, List.take_length]), trivial⟩, z6 rfl⟩)
theorem y3y (x0 : Int) (x1 : List (List Cell)) (y0 : Int) (y1 : List (List Cell)) (h1 : WR 9000000000000000000 yy x1) (k1 : WR 9000000000000000000 yy y1) : PC Tryz.prog 136 [.agg [.s (.int .i64 x0), .l x1], .agg [.s (.int .i64 y0), .l y1]] (rB (dE (α := List Cell) [.s (.int .i64 x0), .l x1] [.s (.int .i64 y0), .l y1])) := by
 refine PC.begin Tryz.func136 rfl (by kernel_rfl) ?_
 refine xb rfl (fun h => ?_) (fun e0 => ?_)
 · exact xr rfl (q7 rfl ⟨⟨rfl, yk (fun e => by simp only [List.cons.injEq, Cell.s.injEq, Value.int.injEq, Value.bool.injEq, Value.string.injEq] at e; simp [e] at h), trivial⟩, z6 rfl⟩)
 have e0 : x0 = y0 := by simpa using e0
 refine z7 rfl (q6y _ _ h1 k1) rfl ⟨trivial, trivial, trivial⟩ ?_
 refine xb rfl (fun h => ?_) (fun e1 => ?_)
 · exact xr rfl (q7 rfl ⟨⟨rfl, yk (fun e => z05 h (by simp only [List.cons.injEq, Cell.l.injEq] at e ⊢; simp only [e]; try trivial)), trivial⟩, z6 rfl⟩)
 have e1 := q04 e1
 exact xr rfl (q7 rfl ⟨⟨rfl, qu (by simp [e0, e1]), trivial⟩, z6 rfl⟩)
theorem y1j (p q : List (List Cell)) (hp : WR 9000000000000000000 z8 p) (hq : WR 9000000000000000000 z8 q) : PC Tryz.prog 67 [.one (.l p), .one (.l q)] (rB (dE p q)) := by
 refine PC.begin Tryz.func67 rfl (by kernel_rfl) ?_
 have hpl := hp.1
 have hql := hq.1
 refine xb rfl (fun h => ?_) (fun h => ?_)
 · exact xr rfl (q7 rfl ⟨⟨rfl, yk (fun e => by subst e; simp at h), trivial⟩, z6 rfl⟩)
 have hl : p.length = q.length := by simpa [Int.ofNat_inj] using h
 refine yc rfl (ι := Nat) (fun i => i ≤ p.length ∧ p.take i = q.take i) (fun i => ⟨[(5, sV (.int .i64 i)), (0, .one (.b (.l p))), (1, .one (.b (.l q)))], []⟩) (fun i => p.length - i) 0 ⟨Nat.zero_le _, rfl⟩ ?_ ?_
 · repeat' (first | exact trivial | exact rfl | exact Or.inl rfl | refine And.intro ?_ ?_)
 · intro i ⟨hi, he⟩ J hJ
   refine xb rfl (fun h => ?_) (fun h => ?_)
   · have h : i < p.length := by simpa using h
     obtain ⟨row, hg⟩ : ∃ row, p[i]? = some row := ⟨_, List.getElem?_eq_getElem h⟩
     obtain ⟨row', hg'⟩ : ∃ row, q[i]? = some row := ⟨_, List.getElem?_eq_getElem (by omega)⟩
     obtain ⟨x0, x1, rfl, h1⟩ := y07 (hp.2 row (List.mem_of_getElem? hg))
     obtain ⟨y0, y1, rfl, k1⟩ := y07 (hq.2 row' (List.mem_of_getElem? hg'))
     refine zc rfl [] (.take 0 [] (.take 1 [] (.take 2 [] (.take 3 [8, 9] (.take 4 [] (.take 5 [] (.take 6 [] (.take 7 [8, 9] (.alt 8 (.take 9 [] .done) .nil))))))))) (by kernel_rfl) ?_
     refine xs rfl (Int.natCast_nonneg _) (y9 rfl _ hg (xs rfl rfl ?_))
     refine xs rfl (Int.natCast_nonneg _) (y9 rfl _ hg' (xs rfl rfl ?_))
     refine z7 rfl (y3y _ _ _ _ h1 k1) rfl ⟨⟨trivial, trivial, trivial⟩, ⟨trivial, trivial, trivial⟩, trivial⟩ ?_
     refine xb rfl (fun hb => ?_) (fun hb => ?_)
     · exact xr rfl (q7 rfl ⟨⟨rfl, yk (fun e => by subst e; rw [hg] at hg'; cases hg'; exact z05 hb rfl), trivial⟩, z6 rfl⟩)
     · have hb := q04 hb
       refine ya rfl (hJ _ (i + 1) ⟨by omega, qo he hg (hg'.trans (by rw [hb]))⟩ (by omega) ?_)
       repeat' (first | exact trivial | exact rfl | exact Or.inl rfl | exact cwi (by omega) (by omega) (by omega) | refine And.intro ?_ ?_)
   · have h : ¬ i < p.length := by simpa using h
     exact xr rfl (q7 rfl ⟨⟨rfl, qu (by rw [show i = p.length by omega, List.take_length] at he; rw [he, hl, List.take_length]), trivial⟩, z6 rfl⟩)
theorem q4m (x0 : Int) (x1 : Int) (x2 : Int) (y0 : Int) (y1 : Int) (y2 : Int)   : PC Tryz.prog 225 [.agg [.s (.int .i64 x0), .s (.int .i64 x1), .s (.int .i64 x2)], .agg [.s (.int .i64 y0), .s (.int .i64 y1), .s (.int .i64 y2)]] (rB (dE (α := List Cell) [.s (.int .i64 x0), .s (.int .i64 x1), .s (.int .i64 x2)] [.s (.int .i64 y0), .s (.int .i64 y1), .s (.int .i64 y2)])) := by
 refine PC.begin Tryz.func225 rfl (by kernel_rfl) ?_
 refine xb rfl (fun h => ?_) (fun e0 => ?_)
 · exact xr rfl (q7 rfl ⟨⟨rfl, yk (fun e => by simp only [List.cons.injEq, Cell.s.injEq, Value.int.injEq, Value.bool.injEq, Value.string.injEq] at e; simp [e] at h), trivial⟩, z6 rfl⟩)
 have e0 : x0 = y0 := by simpa using e0
 refine xb rfl (fun h => ?_) (fun e1 => ?_)
 · exact xr rfl (q7 rfl ⟨⟨rfl, yk (fun e => by simp only [List.cons.injEq, Cell.s.injEq, Value.int.injEq, Value.bool.injEq, Value.string.injEq] at e; simp [e] at h), trivial⟩, z6 rfl⟩)
 have e1 : x1 = y1 := by simpa using e1
 refine xb rfl (fun h => ?_) (fun e2 => ?_)
 · exact xr rfl (q7 rfl ⟨⟨rfl, yk (fun e => by simp only [List.cons.injEq, Cell.s.injEq, Value.int.injEq, Value.bool.injEq, Value.string.injEq] at e; simp [e] at h), trivial⟩, z6 rfl⟩)
 have e2 : x2 = y2 := by simpa using e2
 exact xr rfl (q7 rfl ⟨⟨rfl, qu (by simp [e0, e1, e2]), trivial⟩, z6 rfl⟩)
theorem z3y (p q : List (List Cell)) (hp : WR 9000000000000000000 qc p) (hq : WR 9000000000000000000 qc q) : PC Tryz.prog 154 [.one (.l p), .one (.l q)] (rB (dE p q)) := by
 refine PC.begin Tryz.func154 rfl (by kernel_rfl) ?_
 have hpl := hp.1
 have hql := hq.1
 refine xb rfl (fun h => ?_) (fun h => ?_)
 · exact xr rfl (q7 rfl ⟨⟨rfl, yk (fun e => by subst e; simp at h), trivial⟩, z6 rfl⟩)
 have hl : p.length = q.length := by simpa [Int.ofNat_inj] using h
 refine yc rfl (ι := Nat) (fun i => i ≤ p.length ∧ p.take i = q.take i) (fun i => ⟨[(5, sV (.int .i64 i)), (0, .one (.b (.l p))), (1, .one (.b (.l q)))], []⟩) (fun i => p.length - i) 0 ⟨Nat.zero_le _, rfl⟩ ?_ ?_
 · repeat' (first | exact trivial | exact rfl | exact Or.inl rfl | refine And.intro ?_ ?_)
 · intro i ⟨hi, he⟩ J hJ
   refine xb rfl (fun h => ?_) (fun h => ?_)
   · have h : i < p.length := by simpa using h
     obtain ⟨row, hg⟩ : ∃ row, p[i]? = some row := ⟨_, List.getElem?_eq_getElem h⟩
     obtain ⟨row', hg'⟩ : ∃ row, q[i]? = some row := ⟨_, List.getElem?_eq_getElem (by omega)⟩
     obtain ⟨x0, x1, x2, rfl⟩ := z0c (hp.2 row (List.mem_of_getElem? hg))
     obtain ⟨y0, y1, y2, rfl⟩ := z0c (hq.2 row' (List.mem_of_getElem? hg'))
     refine zc rfl [] (.take 0 [] (.take 1 [] (.take 2 [] (.take 3 [8, 9] (.take 4 [] (.take 5 [] (.take 6 [] (.take 7 [8, 9] (.alt 8 (.take 9 [] .done) .nil))))))))) (by kernel_rfl) ?_
     refine xs rfl (Int.natCast_nonneg _) (y9 rfl _ hg (xs rfl rfl ?_))
     refine xs rfl (Int.natCast_nonneg _) (y9 rfl _ hg' (xs rfl rfl ?_))
     refine z7 rfl (q4m _ _ _ _ _ _) rfl ⟨⟨trivial, trivial, trivial, trivial⟩, ⟨trivial, trivial, trivial, trivial⟩, trivial⟩ ?_
     refine xb rfl (fun hb => ?_) (fun hb => ?_)
     · exact xr rfl (q7 rfl ⟨⟨rfl, yk (fun e => by subst e; rw [hg] at hg'; cases hg'; exact z05 hb rfl), trivial⟩, z6 rfl⟩)
     · have hb := q04 hb
       refine ya rfl (hJ _ (i + 1) ⟨by omega, qo he hg (hg'.trans (by rw [hb]))⟩ (by omega) ?_)
       repeat' (first | exact trivial | exact rfl | exact Or.inl rfl | exact cwi (by omega) (by omega) (by omega) | refine And.intro ?_ ?_)
   · have h : ¬ i < p.length := by simpa using h
     exact xr rfl (q7 rfl ⟨⟨rfl, qu (by rw [show i = p.length by omega, List.take_length] at he; rw [he, hl, List.take_length]), trivial⟩, z6 rfl⟩)
theorem z6z (x0 : Int) (x1 : Int) (y0 : Int) (y1 : Int)   : PC Tryz.prog 279 [.agg [.s (.int .i64 x0), .s (.int .i64 x1)], .agg [.s (.int .i64 y0), .s (.int .i64 y1)]] (rB (dE (α := List Cell) [.s (.int .i64 x0), .s (.int .i64 x1)] [.s (.int .i64 y0), .s (.int .i64 y1)])) := by
 refine PC.begin Tryz.func279 rfl (by kernel_rfl) ?_
 refine xb rfl (fun h => ?_) (fun e0 => ?_)
 · exact xr rfl (q7 rfl ⟨⟨rfl, yk (fun e => by simp only [List.cons.injEq, Cell.s.injEq, Value.int.injEq, Value.bool.injEq, Value.string.injEq] at e; simp [e] at h), trivial⟩, z6 rfl⟩)
 have e0 : x0 = y0 := by simpa using e0
 refine xb rfl (fun h => ?_) (fun e1 => ?_)
 · exact xr rfl (q7 rfl ⟨⟨rfl, yk (fun e => by simp only [List.cons.injEq, Cell.s.injEq, Value.int.injEq, Value.bool.injEq, Value.string.injEq] at e; simp [e] at h), trivial⟩, z6 rfl⟩)
 have e1 : x1 = y1 := by simpa using e1
 exact xr rfl (q7 rfl ⟨⟨rfl, qu (by simp [e0, e1]), trivial⟩, z6 rfl⟩)
theorem q3j (p q : List (List Cell)) (hp : WR 9000000000000000000 yh p) (hq : WR 9000000000000000000 yh q) : PC Tryz.prog 216 [.one (.l p), .one (.l q)] (rB (dE p q)) := by
 refine PC.begin Tryz.func216 rfl (by kernel_rfl) ?_
 have hpl := hp.1
 have hql := hq.1
 refine xb rfl (fun h => ?_) (fun h => ?_)
 · exact xr rfl (q7 rfl ⟨⟨rfl, yk (fun e => by subst e; simp at h), trivial⟩, z6 rfl⟩)
 have hl : p.length = q.length := by simpa [Int.ofNat_inj] using h
 refine yc rfl (ι := Nat) (fun i => i ≤ p.length ∧ p.take i = q.take i) (fun i => ⟨[(5, sV (.int .i64 i)), (0, .one (.b (.l p))), (1, .one (.b (.l q)))], []⟩) (fun i => p.length - i) 0 ⟨Nat.zero_le _, rfl⟩ ?_ ?_
 · repeat' (first | exact trivial | exact rfl | exact Or.inl rfl | refine And.intro ?_ ?_)
 · intro i ⟨hi, he⟩ J hJ
   refine xb rfl (fun h => ?_) (fun h => ?_)
   · have h : i < p.length := by simpa using h
     obtain ⟨row, hg⟩ : ∃ row, p[i]? = some row := ⟨_, List.getElem?_eq_getElem h⟩
     obtain ⟨row', hg'⟩ : ∃ row, q[i]? = some row := ⟨_, List.getElem?_eq_getElem (by omega)⟩
     obtain ⟨x0, x1, rfl⟩ := z1f (hp.2 row (List.mem_of_getElem? hg))
     obtain ⟨y0, y1, rfl⟩ := z1f (hq.2 row' (List.mem_of_getElem? hg'))
     refine zc rfl [] (.take 0 [] (.take 1 [] (.take 2 [] (.take 3 [8, 9] (.take 4 [] (.take 5 [] (.take 6 [] (.take 7 [8, 9] (.alt 8 (.take 9 [] .done) .nil))))))))) (by kernel_rfl) ?_
     refine xs rfl (Int.natCast_nonneg _) (y9 rfl _ hg (xs rfl rfl ?_))
     refine xs rfl (Int.natCast_nonneg _) (y9 rfl _ hg' (xs rfl rfl ?_))
     refine z7 rfl (z6z _ _ _ _) rfl ⟨⟨trivial, trivial, trivial⟩, ⟨trivial, trivial, trivial⟩, trivial⟩ ?_
     refine xb rfl (fun hb => ?_) (fun hb => ?_)
     · exact xr rfl (q7 rfl ⟨⟨rfl, yk (fun e => by subst e; rw [hg] at hg'; cases hg'; exact z05 hb rfl), trivial⟩, z6 rfl⟩)
     · have hb := q04 hb
       refine ya rfl (hJ _ (i + 1) ⟨by omega, qo he hg (hg'.trans (by rw [hb]))⟩ (by omega) ?_)
       repeat' (first | exact trivial | exact rfl | exact Or.inl rfl | exact cwi (by omega) (by omega) (by omega) | refine And.intro ?_ ?_)
   · have h : ¬ i < p.length := by simpa using h
     exact xr rfl (q7 rfl ⟨⟨rfl, qu (by rw [show i = p.length by omega, List.take_length] at he; rw [he, hl, List.take_length]), trivial⟩, z6 rfl⟩)
theorem z1n (p q : List (List Cell)) (hp : WR 9000000000000000000 (.i .i64 .nil) p) (hq : WR 9000000000000000000 (.i .i64 .nil) q) : PC Tryz.prog 100 [.one (.l p), .one (.l q)] (rB (dE p q)) := by
 refine PC.begin Tryz.func100 rfl (by kernel_rfl) ?_
 have hpl := hp.1
 have hql := hq.1
 refine xb rfl (fun h => ?_) (fun h => ?_)
 · exact xr rfl (q7 rfl ⟨⟨rfl, yk (fun e => by subst e; simp at h), trivial⟩, z6 rfl⟩)
 have hl : p.length = q.length := by simpa [Int.ofNat_inj] using h
 refine yc rfl (ι := Nat) (fun i => i ≤ p.length ∧ p.take i = q.take i) (fun i => ⟨[(5, sV (.int .i64 i)), (0, .one (.b (.l p))), (1, .one (.b (.l q)))], []⟩) (fun i => p.length - i) 0 ⟨Nat.zero_le _, rfl⟩ ?_ ?_
 · repeat' (first | exact trivial | exact rfl | exact Or.inl rfl | refine And.intro ?_ ?_)
 · intro i ⟨hi, he⟩ J hJ
   refine xb rfl (fun h => ?_) (fun h => ?_)
   · have h : i < p.length := by simpa using h
     obtain ⟨row, hg⟩ : ∃ row, p[i]? = some row := ⟨_, List.getElem?_eq_getElem h⟩
     obtain ⟨row', hg'⟩ : ∃ row, q[i]? = some row := ⟨_, List.getElem?_eq_getElem (by omega)⟩
     obtain ⟨x0, _, rfl, hnil⟩ := ((hp.2 row (List.mem_of_getElem? hg))).yv; obtain rfl := hnil.qx
     obtain ⟨y0, _, rfl, knil⟩ := ((hq.2 row' (List.mem_of_getElem? hg'))).yv; obtain rfl := knil.qx
     refine zc rfl [] (.take 0 [] (.take 1 [] (.take 2 [] (.take 3 [8] (.take 4 [] (.take 5 [] (.take 6 [] (.take 7 [8] (.take 8 [] .done))))))))) (by kernel_rfl) ?_
     refine xs rfl (Int.natCast_nonneg _) (y9 rfl _ hg (xs rfl rfl ?_))
     refine xs rfl (Int.natCast_nonneg _) (y9 rfl _ hg' (xs rfl rfl ?_))
     refine xb rfl (fun hb => ?_) (fun hb => ?_)
     · exact xr rfl (q7 rfl ⟨⟨rfl, yk (fun e => by subst e; rw [hg] at hg'; cases hg'; simp at hb), trivial⟩, z6 rfl⟩)
     · have hb : x0 = y0 := by simpa using hb
       refine ya rfl (hJ _ (i + 1) ⟨by omega, qo he hg (hg'.trans (by rw [hb]))⟩ (by omega) ?_)
       repeat' (first | exact trivial | exact rfl | exact Or.inl rfl | exact cwi (by omega) (by omega) (by omega) | refine And.intro ?_ ?_)
   · have h : ¬ i < p.length := by simpa using h
     exact xr rfl (q7 rfl ⟨⟨rfl, qu (by rw [show i = p.length by omega, List.take_length] at he; rw [he, hl, List.take_length]), trivial⟩, z6 rfl⟩)
theorem q6a (x0 : Int) (x1 : List (List Cell)) (x2 : List (List Cell)) (x3 : List (List Cell)) (x4 : List (List Cell)) (x5 : List (List Cell)) (y0 : Int) (y1 : List (List Cell)) (y2 : List (List Cell)) (y3 : List (List Cell)) (y4 : List (List Cell)) (y5 : List (List Cell)) (h1 : WR 9000000000000000000 qc x1) (h2 : WR 9000000000000000000 yh x2) (h3 : WR 9000000000000000000 z8 x3) (h4 : WR 9000000000000000000 yh x4) (h5 : WR 9000000000000000000 (.i .i64 .nil) x5) (k1 : WR 9000000000000000000 qc y1) (k2 : WR 9000000000000000000 yh y2) (k3 : WR 9000000000000000000 z8 y3) (k4 : WR 9000000000000000000 yh y4) (k5 : WR 9000000000000000000 (.i .i64 .nil) y5) : PC Tryz.prog 137 [.agg [.s (.int .i64 x0), .l x1, .l x2, .l x3, .l x4, .l x5], .agg [.s (.int .i64 y0), .l y1, .l y2, .l y3, .l y4, .l y5]] (rB (dE (α := List Cell) [.s (.int .i64 x0), .l x1, .l x2, .l x3, .l x4, .l x5] [.s (.int .i64 y0), .l y1, .l y2, .l y3, .l y4, .l y5])) := by
 refine PC.begin Tryz.func137 rfl (by kernel_rfl) ?_
 refine xb rfl (fun h => ?_) (fun e0 => ?_)
 · exact xr rfl (q7 rfl ⟨⟨rfl, yk (fun e => by simp only [List.cons.injEq, Cell.s.injEq, Value.int.injEq, Value.bool.injEq, Value.string.injEq] at e; simp [e] at h), trivial⟩, z6 rfl⟩)
 have e0 : x0 = y0 := by simpa using e0
 refine z7 rfl (z3y _ _ h1 k1) rfl ⟨trivial, trivial, trivial⟩ ?_
 refine xb rfl (fun h => ?_) (fun e1 => ?_)
 · exact xr rfl (q7 rfl ⟨⟨rfl, yk (fun e => z05 h (by simp only [List.cons.injEq, Cell.l.injEq] at e ⊢; simp only [e]; try trivial)), trivial⟩, z6 rfl⟩)
 have e1 := q04 e1
 refine z7 rfl (q3j _ _ h2 k2) rfl ⟨trivial, trivial, trivial⟩ ?_
 refine xb rfl (fun h => ?_) (fun e2 => ?_)
 · exact xr rfl (q7 rfl ⟨⟨rfl, yk (fun e => z05 h (by simp only [List.cons.injEq, Cell.l.injEq] at e ⊢; simp only [e]; try trivial)), trivial⟩, z6 rfl⟩)
 have e2 := q04 e2
 refine z7 rfl (y1j _ _ h3 k3) rfl ⟨trivial, trivial, trivial⟩ ?_
 refine xb rfl (fun h => ?_) (fun e3 => ?_)
 · exact xr rfl (q7 rfl ⟨⟨rfl, yk (fun e => z05 h (by simp only [List.cons.injEq, Cell.l.injEq] at e ⊢; simp only [e]; try trivial)), trivial⟩, z6 rfl⟩)
 have e3 := q04 e3
 refine z7 rfl (q3j _ _ h4 k4) rfl ⟨trivial, trivial, trivial⟩ ?_
 refine xb rfl (fun h => ?_) (fun e4 => ?_)
 · exact xr rfl (q7 rfl ⟨⟨rfl, yk (fun e => z05 h (by simp only [List.cons.injEq, Cell.l.injEq] at e ⊢; simp only [e]; try trivial)), trivial⟩, z6 rfl⟩)
 have e4 := q04 e4
 refine z7 rfl (z1n _ _ h5 k5) rfl ⟨trivial, trivial, trivial⟩ ?_
 refine xb rfl (fun h => ?_) (fun e5 => ?_)
 · exact xr rfl (q7 rfl ⟨⟨rfl, yk (fun e => z05 h (by simp only [List.cons.injEq, Cell.l.injEq] at e ⊢; simp only [e]; try trivial)), trivial⟩, z6 rfl⟩)
 have e5 := q04 e5
 exact xr rfl (q7 rfl ⟨⟨rfl, qu (by simp [e0, e1, e2, e3, e4, e5]), trivial⟩, z6 rfl⟩)
theorem q5a (p q : List (List Cell)) (hp : WR 9000000000000000000 zf p) (hq : WR 9000000000000000000 zf q) : PC Tryz.prog 68 [.one (.l p), .one (.l q)] (rB (dE p q)) := by
 refine PC.begin Tryz.func68 rfl (by kernel_rfl) ?_
 have hpl := hp.1
 have hql := hq.1
 refine xb rfl (fun h => ?_) (fun h => ?_)
 · exact xr rfl (q7 rfl ⟨⟨rfl, yk (fun e => by subst e; simp at h), trivial⟩, z6 rfl⟩)
 have hl : p.length = q.length := by simpa [Int.ofNat_inj] using h
 refine yc rfl (ι := Nat) (fun i => i ≤ p.length ∧ p.take i = q.take i) (fun i => ⟨[(5, sV (.int .i64 i)), (0, .one (.b (.l p))), (1, .one (.b (.l q)))], []⟩) (fun i => p.length - i) 0 ⟨Nat.zero_le _, rfl⟩ ?_ ?_
 · repeat' (first | exact trivial | exact rfl | exact Or.inl rfl | refine And.intro ?_ ?_)
 · intro i ⟨hi, he⟩ J hJ
   refine xb rfl (fun h => ?_) (fun h => ?_)
   · have h : i < p.length := by simpa using h
     obtain ⟨row, hg⟩ : ∃ row, p[i]? = some row := ⟨_, List.getElem?_eq_getElem h⟩
     obtain ⟨row', hg'⟩ : ∃ row, q[i]? = some row := ⟨_, List.getElem?_eq_getElem (by omega)⟩
     obtain ⟨x0, x1, x2, x3, x4, x5, rfl, h1, h2, h3, h4, h5⟩ := q0w (hp.2 row (List.mem_of_getElem? hg))
     obtain ⟨y0, y1, y2, y3, y4, y5, rfl, k1, k2, k3, k4, k5⟩ := q0w (hq.2 row' (List.mem_of_getElem? hg'))
     refine zc rfl [] (.take 0 [] (.take 1 [] (.take 2 [] (.take 3 [8, 9] (.take 4 [] (.take 5 [] (.take 6 [] (.take 7 [8, 9] (.alt 8 (.take 9 [] .done) .nil))))))))) (by kernel_rfl) ?_
     refine xs rfl (Int.natCast_nonneg _) (y9 rfl _ hg (xs rfl rfl ?_))
     refine xs rfl (Int.natCast_nonneg _) (y9 rfl _ hg' (xs rfl rfl ?_))
     refine z7 rfl (q6a _ _ _ _ _ _ _ _ _ _ _ _ h1 h2 h3 h4 h5 k1 k2 k3 k4 k5) rfl ⟨⟨trivial, trivial, trivial, trivial, trivial, trivial, trivial⟩, ⟨trivial, trivial, trivial, trivial, trivial, trivial, trivial⟩, trivial⟩ ?_
     refine xb rfl (fun hb => ?_) (fun hb => ?_)
     · exact xr rfl (q7 rfl ⟨⟨rfl, yk (fun e => by subst e; rw [hg] at hg'; cases hg'; exact z05 hb rfl), trivial⟩, z6 rfl⟩)
     · have hb := q04 hb
       refine ya rfl (hJ _ (i + 1) ⟨by omega, qo he hg (hg'.trans (by rw [hb]))⟩ (by omega) ?_)
       repeat' (first | exact trivial | exact rfl | exact Or.inl rfl | exact cwi (by omega) (by omega) (by omega) | refine And.intro ?_ ?_)
   · have h : ¬ i < p.length := by simpa using h
     exact xr rfl (q7 rfl ⟨⟨rfl, qu (by rw [show i = p.length by omega, List.take_length] at he; rw [he, hl, List.take_length]), trivial⟩, z6 rfl⟩)
theorem q2v (x0 : Int) (x1 : Int) (y0 : Int) (y1 : Int)   : PC Tryz.prog 220 [.agg [.s (.int .i64 x0), .s (.int .i64 x1)], .agg [.s (.int .i64 y0), .s (.int .i64 y1)]] (rB (dE (α := List Cell) [.s (.int .i64 x0), .s (.int .i64 x1)] [.s (.int .i64 y0), .s (.int .i64 y1)])) := by
 refine PC.begin Tryz.func220 rfl (by kernel_rfl) ?_
 refine xb rfl (fun h => ?_) (fun e0 => ?_)
 · exact xr rfl (q7 rfl ⟨⟨rfl, yk (fun e => by simp only [List.cons.injEq, Cell.s.injEq, Value.int.injEq, Value.bool.injEq, Value.string.injEq] at e; simp [e] at h), trivial⟩, z6 rfl⟩)
 have e0 : x0 = y0 := by simpa using e0
 refine xb rfl (fun h => ?_) (fun e1 => ?_)
 · exact xr rfl (q7 rfl ⟨⟨rfl, yk (fun e => by simp only [List.cons.injEq, Cell.s.injEq, Value.int.injEq, Value.bool.injEq, Value.string.injEq] at e; simp [e] at h), trivial⟩, z6 rfl⟩)
 have e1 : x1 = y1 := by simpa using e1
 exact xr rfl (q7 rfl ⟨⟨rfl, qu (by simp [e0, e1]), trivial⟩, z6 rfl⟩)
theorem z3k (p q : List (List Cell)) (hp : WR 9000000000000000000 ym p) (hq : WR 9000000000000000000 ym q) : PC Tryz.prog 320 [.one (.l p), .one (.l q)] (rB (dE p q)) := by
 refine PC.begin Tryz.func320 rfl (by kernel_rfl) ?_
 have hpl := hp.1
 have hql := hq.1
 refine xb rfl (fun h => ?_) (fun h => ?_)
 · exact xr rfl (q7 rfl ⟨⟨rfl, yk (fun e => by subst e; simp at h), trivial⟩, z6 rfl⟩)
 have hl : p.length = q.length := by simpa [Int.ofNat_inj] using h
 refine yc rfl (ι := Nat) (fun i => i ≤ p.length ∧ p.take i = q.take i) (fun i => ⟨[(5, sV (.int .i64 i)), (0, .one (.b (.l p))), (1, .one (.b (.l q)))], []⟩) (fun i => p.length - i) 0 ⟨Nat.zero_le _, rfl⟩ ?_ ?_
 · repeat' (first | exact trivial | exact rfl | exact Or.inl rfl | refine And.intro ?_ ?_)
 · intro i ⟨hi, he⟩ J hJ
   refine xb rfl (fun h => ?_) (fun h => ?_)
   · have h : i < p.length := by simpa using h
     obtain ⟨row, hg⟩ : ∃ row, p[i]? = some row := ⟨_, List.getElem?_eq_getElem h⟩
     obtain ⟨row', hg'⟩ : ∃ row, q[i]? = some row := ⟨_, List.getElem?_eq_getElem (by omega)⟩
     obtain ⟨x0, x1, rfl⟩ := q1f (hp.2 row (List.mem_of_getElem? hg))
     obtain ⟨y0, y1, rfl⟩ := q1f (hq.2 row' (List.mem_of_getElem? hg'))
     refine zc rfl [] (.take 0 [] (.take 1 [] (.take 2 [] (.take 3 [8, 9] (.take 4 [] (.take 5 [] (.take 6 [] (.take 7 [8, 9] (.alt 8 (.take 9 [] .done) .nil))))))))) (by kernel_rfl) ?_
     refine xs rfl (Int.natCast_nonneg _) (y9 rfl _ hg (xs rfl rfl ?_))
     refine xs rfl (Int.natCast_nonneg _) (y9 rfl _ hg' (xs rfl rfl ?_))
     refine z7 rfl (q2v _ _ _ _) rfl ⟨⟨trivial, trivial, trivial⟩, ⟨trivial, trivial, trivial⟩, trivial⟩ ?_
     refine xb rfl (fun hb => ?_) (fun hb => ?_)
     · exact xr rfl (q7 rfl ⟨⟨rfl, yk (fun e => by subst e; rw [hg] at hg'; cases hg'; exact z05 hb rfl), trivial⟩, z6 rfl⟩)
     · have hb := q04 hb
       refine ya rfl (hJ _ (i + 1) ⟨by omega, qo he hg (hg'.trans (by rw [hb]))⟩ (by omega) ?_)
       repeat' (first | exact trivial | exact rfl | exact Or.inl rfl | exact cwi (by omega) (by omega) (by omega) | refine And.intro ?_ ?_)
   · have h : ¬ i < p.length := by simpa using h
     exact xr rfl (q7 rfl ⟨⟨rfl, qu (by rw [show i = p.length by omega, List.take_length] at he; rw [he, hl, List.take_length]), trivial⟩, z6 rfl⟩)
theorem y6z (x0 : Int) (x1 : Int) (x2 : Int) (x3 : Int) (x4 : Int) (x5 : List (List Cell)) (y0 : Int) (y1 : Int) (y2 : Int) (y3 : Int) (y4 : Int) (y5 : List (List Cell)) (h5 : WR 9000000000000000000 ym x5) (k5 : WR 9000000000000000000 ym y5) : PC Tryz.prog 280 [.agg [.s (.int .i64 x0), .s (.int .i64 x1), .s (.int .i64 x2), .s (.int .i64 x3), .s (.int .i64 x4), .l x5], .agg [.s (.int .i64 y0), .s (.int .i64 y1), .s (.int .i64 y2), .s (.int .i64 y3), .s (.int .i64 y4), .l y5]] (rB (dE (α := List Cell) [.s (.int .i64 x0), .s (.int .i64 x1), .s (.int .i64 x2), .s (.int .i64 x3), .s (.int .i64 x4), .l x5] [.s (.int .i64 y0), .s (.int .i64 y1), .s (.int .i64 y2), .s (.int .i64 y3), .s (.int .i64 y4), .l y5])) := by
 refine PC.begin Tryz.func280 rfl (by kernel_rfl) ?_
 refine xb rfl (fun h => ?_) (fun e0 => ?_)
 · exact xr rfl (q7 rfl ⟨⟨rfl, yk (fun e => by simp only [List.cons.injEq, Cell.s.injEq, Value.int.injEq, Value.bool.injEq, Value.string.injEq] at e; simp [e] at h), trivial⟩, z6 rfl⟩)
 have e0 : x0 = y0 := by simpa using e0
 refine xb rfl (fun h => ?_) (fun e1 => ?_)
 · exact xr rfl (q7 rfl ⟨⟨rfl, yk (fun e => by simp only [List.cons.injEq, Cell.s.injEq, Value.int.injEq, Value.bool.injEq, Value.string.injEq] at e; simp [e] at h), trivial⟩, z6 rfl⟩)
 have e1 : x1 = y1 := by simpa using e1
 refine xb rfl (fun h => ?_) (fun e2 => ?_)
 · exact xr rfl (q7 rfl ⟨⟨rfl, yk (fun e => by simp only [List.cons.injEq, Cell.s.injEq, Value.int.injEq, Value.bool.injEq, Value.string.injEq] at e; simp [e] at h), trivial⟩, z6 rfl⟩)
 have e2 : x2 = y2 := by simpa using e2
 refine z7 rfl (q2v _ _ _ _) rfl ⟨⟨trivial, trivial, trivial⟩, ⟨trivial, trivial, trivial⟩, trivial⟩ ?_
 refine xb rfl (fun h => ?_) (fun e3 => ?_)
 · exact xr rfl (q7 rfl ⟨⟨rfl, yk (fun e => z05 h (by simp only [List.cons.injEq, Cell.l.injEq] at e ⊢; simp only [e]; try trivial)), trivial⟩, z6 rfl⟩)
 have e3 := q04 e3
 simp only [List.cons.injEq, Cell.s.injEq, Cell.l.injEq, Value.int.injEq, Value.bool.injEq, and_true, true_and] at e3
 refine z7 rfl (z3k _ _ h5 k5) rfl ⟨trivial, trivial, trivial⟩ ?_
 refine xb rfl (fun h => ?_) (fun e5 => ?_)
 · exact xr rfl (q7 rfl ⟨⟨rfl, yk (fun e => z05 h (by simp only [List.cons.injEq, Cell.l.injEq] at e ⊢; simp only [e]; try trivial)), trivial⟩, z6 rfl⟩)
 have e5 := q04 e5
 exact xr rfl (q7 rfl ⟨⟨rfl, qu (by simp [e0, e1, e2, e3, e5]), trivial⟩, z6 rfl⟩)
theorem z6b (p q : List (List Cell)) (hp : WR 9000000000000000000 ql p) (hq : WR 9000000000000000000 ql q) : PC Tryz.prog 217 [.one (.l p), .one (.l q)] (rB (dE p q)) := by
 refine PC.begin Tryz.func217 rfl (by kernel_rfl) ?_
 have hpl := hp.1
 have hql := hq.1
 refine xb rfl (fun h => ?_) (fun h => ?_)
 · exact xr rfl (q7 rfl ⟨⟨rfl, yk (fun e => by subst e; simp at h), trivial⟩, z6 rfl⟩)
 have hl : p.length = q.length := by simpa [Int.ofNat_inj] using h
 refine yc rfl (ι := Nat) (fun i => i ≤ p.length ∧ p.take i = q.take i) (fun i => ⟨[(5, sV (.int .i64 i)), (0, .one (.b (.l p))), (1, .one (.b (.l q)))], []⟩) (fun i => p.length - i) 0 ⟨Nat.zero_le _, rfl⟩ ?_ ?_
 · repeat' (first | exact trivial | exact rfl | exact Or.inl rfl | refine And.intro ?_ ?_)
 · intro i ⟨hi, he⟩ J hJ
   refine xb rfl (fun h => ?_) (fun h => ?_)
   · have h : i < p.length := by simpa using h
     obtain ⟨row, hg⟩ : ∃ row, p[i]? = some row := ⟨_, List.getElem?_eq_getElem h⟩
     obtain ⟨row', hg'⟩ : ∃ row, q[i]? = some row := ⟨_, List.getElem?_eq_getElem (by omega)⟩
     obtain ⟨x0, x1, x2, x3, x4, x5, rfl, h5⟩ := y1f (hp.2 row (List.mem_of_getElem? hg))
     obtain ⟨y0, y1, y2, y3, y4, y5, rfl, k5⟩ := y1f (hq.2 row' (List.mem_of_getElem? hg'))
     refine zc rfl [] (.take 0 [] (.take 1 [] (.take 2 [] (.take 3 [8, 9] (.take 4 [] (.take 5 [] (.take 6 [] (.take 7 [8, 9] (.alt 8 (.take 9 [] .done) .nil))))))))) (by kernel_rfl) ?_
     refine xs rfl (Int.natCast_nonneg _) (y9 rfl _ hg (xs rfl rfl ?_))
     refine xs rfl (Int.natCast_nonneg _) (y9 rfl _ hg' (xs rfl rfl ?_))
     refine z7 rfl (y6z _ _ _ _ _ _ _ _ _ _ _ _ h5 k5) rfl ⟨⟨trivial, trivial, trivial, trivial, trivial, trivial, trivial⟩, ⟨trivial, trivial, trivial, trivial, trivial, trivial, trivial⟩, trivial⟩ ?_
     refine xb rfl (fun hb => ?_) (fun hb => ?_)
     · exact xr rfl (q7 rfl ⟨⟨rfl, yk (fun e => by subst e; rw [hg] at hg'; cases hg'; exact z05 hb rfl), trivial⟩, z6 rfl⟩)
     · have hb := q04 hb
       refine ya rfl (hJ _ (i + 1) ⟨by omega, qo he hg (hg'.trans (by rw [hb]))⟩ (by omega) ?_)
       repeat' (first | exact trivial | exact rfl | exact Or.inl rfl | exact cwi (by omega) (by omega) (by omega) | refine And.intro ?_ ?_)
   · have h : ¬ i < p.length := by simpa using h
     exact xr rfl (q7 rfl ⟨⟨rfl, qu (by rw [show i = p.length by omega, List.take_length] at he; rw [he, hl, List.take_length]), trivial⟩, z6 rfl⟩)
theorem q3x (x0 : List (List Cell)) (y0 : List (List Cell)) (h0 : WR 9000000000000000000 ql x0) (k0 : WR 9000000000000000000 ql y0) : PC Tryz.prog 138 [.agg [.l x0], .agg [.l y0]] (rB (dE (α := List Cell) [.l x0] [.l y0])) := by
 refine PC.begin Tryz.func138 rfl (by kernel_rfl) ?_
 refine z7 rfl (z6b _ _ h0 k0) rfl ⟨trivial, trivial, trivial⟩ ?_
 refine xb rfl (fun h => ?_) (fun e0 => ?_)
 · exact xr rfl (q7 rfl ⟨⟨rfl, yk (fun e => z05 h (by simp only [List.cons.injEq, Cell.l.injEq] at e ⊢; simp only [e]; try trivial)), trivial⟩, z6 rfl⟩)
 have e0 := q04 e0
 exact xr rfl (q7 rfl ⟨⟨rfl, qu (by simp [e0]), trivial⟩, z6 rfl⟩)
theorem q3d (p q : List (List Cell)) (hp : WR 9000000000000000000 za p) (hq : WR 9000000000000000000 za q) : PC Tryz.prog 69 [.one (.l p), .one (.l q)] (rB (dE p q)) := by
 refine PC.begin Tryz.func69 rfl (by kernel_rfl) ?_
 have hpl := hp.1
 have hql := hq.1
 refine xb rfl (fun h => ?_) (fun h => ?_)
 · exact xr rfl (q7 rfl ⟨⟨rfl, yk (fun e => by subst e; simp at h), trivial⟩, z6 rfl⟩)
 have hl : p.length = q.length := by simpa [Int.ofNat_inj] using h
 refine yc rfl (ι := Nat) (fun i => i ≤ p.length ∧ p.take i = q.take i) (fun i => ⟨[(5, sV (.int .i64 i)), (0, .one (.b (.l p))), (1, .one (.b (.l q)))], []⟩) (fun i => p.length - i) 0 ⟨Nat.zero_le _, rfl⟩ ?_ ?_
 · repeat' (first | exact trivial | exact rfl | exact Or.inl rfl | refine And.intro ?_ ?_)
 · intro i ⟨hi, he⟩ J hJ
   refine xb rfl (fun h => ?_) (fun h => ?_)
   · have h : i < p.length := by simpa using h
     obtain ⟨row, hg⟩ : ∃ row, p[i]? = some row := ⟨_, List.getElem?_eq_getElem h⟩
     obtain ⟨row', hg'⟩ : ∃ row, q[i]? = some row := ⟨_, List.getElem?_eq_getElem (by omega)⟩
     obtain ⟨x0, rfl, h0⟩ := z07 (hp.2 row (List.mem_of_getElem? hg))
     obtain ⟨y0, rfl, k0⟩ := z07 (hq.2 row' (List.mem_of_getElem? hg'))
     refine zc rfl [] (.take 0 [] (.take 1 [] (.take 2 [] (.take 3 [8, 9] (.take 4 [] (.take 5 [] (.take 6 [] (.take 7 [8, 9] (.alt 8 (.take 9 [] .done) .nil))))))))) (by kernel_rfl) ?_
     refine xs rfl (Int.natCast_nonneg _) (y9 rfl _ hg (xs rfl rfl ?_))
     refine xs rfl (Int.natCast_nonneg _) (y9 rfl _ hg' (xs rfl rfl ?_))
     refine z7 rfl (q3x _ _ h0 k0) rfl ⟨⟨trivial, trivial⟩, ⟨trivial, trivial⟩, trivial⟩ ?_
     refine xb rfl (fun hb => ?_) (fun hb => ?_)
     · exact xr rfl (q7 rfl ⟨⟨rfl, yk (fun e => by subst e; rw [hg] at hg'; cases hg'; exact z05 hb rfl), trivial⟩, z6 rfl⟩)
     · have hb := q04 hb
       refine ya rfl (hJ _ (i + 1) ⟨by omega, qo he hg (hg'.trans (by rw [hb]))⟩ (by omega) ?_)
       repeat' (first | exact trivial | exact rfl | exact Or.inl rfl | exact cwi (by omega) (by omega) (by omega) | refine And.intro ?_ ?_)
   · have h : ¬ i < p.length := by simpa using h
     exact xr rfl (q7 rfl ⟨⟨rfl, qu (by rw [show i = p.length by omega, List.take_length] at he; rw [he, hl, List.take_length]), trivial⟩, z6 rfl⟩)
theorem q83 (x0 : Int) (x1 : Int) (x2 : Int) (x3 : Int) (x4 : List (List Cell)) (x5 : List (List Cell)) (y0 : Int) (y1 : Int) (y2 : Int) (y3 : Int) (y4 : List (List Cell)) (y5 : List (List Cell)) (h4 : WR 9000000000000000000 (.i .i64 .nil) x4) (h5 : WR 9000000000000000000 ym x5) (k4 : WR 9000000000000000000 (.i .i64 .nil) y4) (k5 : WR 9000000000000000000 ym y5) : PC Tryz.prog 281 [.agg [.s (.int .i64 x0), .s (.int .i64 x1), .s (.int .i64 x2), .s (.int .i64 x3), .l x4, .l x5], .agg [.s (.int .i64 y0), .s (.int .i64 y1), .s (.int .i64 y2), .s (.int .i64 y3), .l y4, .l y5]] (rB (dE (α := List Cell) [.s (.int .i64 x0), .s (.int .i64 x1), .s (.int .i64 x2), .s (.int .i64 x3), .l x4, .l x5] [.s (.int .i64 y0), .s (.int .i64 y1), .s (.int .i64 y2), .s (.int .i64 y3), .l y4, .l y5])) := by
 refine PC.begin Tryz.func281 rfl (by kernel_rfl) ?_
 refine xb rfl (fun h => ?_) (fun e0 => ?_)
 · exact xr rfl (q7 rfl ⟨⟨rfl, yk (fun e => by simp only [List.cons.injEq, Cell.s.injEq, Value.int.injEq, Value.bool.injEq, Value.string.injEq] at e; simp [e] at h), trivial⟩, z6 rfl⟩)
 have e0 : x0 = y0 := by simpa using e0
 refine xb rfl (fun h => ?_) (fun e1 => ?_)
 · exact xr rfl (q7 rfl ⟨⟨rfl, yk (fun e => by simp only [List.cons.injEq, Cell.s.injEq, Value.int.injEq, Value.bool.injEq, Value.string.injEq] at e; simp [e] at h), trivial⟩, z6 rfl⟩)
 have e1 : x1 = y1 := by simpa using e1
 refine xb rfl (fun h => ?_) (fun e2 => ?_)
 · exact xr rfl (q7 rfl ⟨⟨rfl, yk (fun e => by simp only [List.cons.injEq, Cell.s.injEq, Value.int.injEq, Value.bool.injEq, Value.string.injEq] at e; simp [e] at h), trivial⟩, z6 rfl⟩)
 have e2 : x2 = y2 := by simpa using e2
 refine xb rfl (fun h => ?_) (fun e3 => ?_)
 · exact xr rfl (q7 rfl ⟨⟨rfl, yk (fun e => by simp only [List.cons.injEq, Cell.s.injEq, Value.int.injEq, Value.bool.injEq, Value.string.injEq] at e; simp [e] at h), trivial⟩, z6 rfl⟩)
 have e3 : x3 = y3 := by simpa using e3
 refine z7 rfl (z1n _ _ h4 k4) rfl ⟨trivial, trivial, trivial⟩ ?_
 refine xb rfl (fun h => ?_) (fun e4 => ?_)
 · exact xr rfl (q7 rfl ⟨⟨rfl, yk (fun e => z05 h (by simp only [List.cons.injEq, Cell.l.injEq] at e ⊢; simp only [e]; try trivial)), trivial⟩, z6 rfl⟩)
 have e4 := q04 e4
 refine z7 rfl (z3k _ _ h5 k5) rfl ⟨trivial, trivial, trivial⟩ ?_
 refine xb rfl (fun h => ?_) (fun e5 => ?_)
 · exact xr rfl (q7 rfl ⟨⟨rfl, yk (fun e => z05 h (by simp only [List.cons.injEq, Cell.l.injEq] at e ⊢; simp only [e]; try trivial)), trivial⟩, z6 rfl⟩)
 have e5 := q04 e5
 exact xr rfl (q7 rfl ⟨⟨rfl, qu (by simp [e0, e1, e2, e3, e4, e5]), trivial⟩, z6 rfl⟩)
theorem q6z (p q : List (List Cell)) (hp : WR 9000000000000000000 yp p) (hq : WR 9000000000000000000 yp q) : PC Tryz.prog 218 [.one (.l p), .one (.l q)] (rB (dE p q)) := by
 refine PC.begin Tryz.func218 rfl (by kernel_rfl) ?_
 have hpl := hp.1
 have hql := hq.1
 refine xb rfl (fun h => ?_) (fun h => ?_)
 · exact xr rfl (q7 rfl ⟨⟨rfl, yk (fun e => by subst e; simp at h), trivial⟩, z6 rfl⟩)
 have hl : p.length = q.length := by simpa [Int.ofNat_inj] using h
 refine yc rfl (ι := Nat) (fun i => i ≤ p.length ∧ p.take i = q.take i) (fun i => ⟨[(5, sV (.int .i64 i)), (0, .one (.b (.l p))), (1, .one (.b (.l q)))], []⟩) (fun i => p.length - i) 0 ⟨Nat.zero_le _, rfl⟩ ?_ ?_
 · repeat' (first | exact trivial | exact rfl | exact Or.inl rfl | refine And.intro ?_ ?_)
 · intro i ⟨hi, he⟩ J hJ
   refine xb rfl (fun h => ?_) (fun h => ?_)
   · have h : i < p.length := by simpa using h
     obtain ⟨row, hg⟩ : ∃ row, p[i]? = some row := ⟨_, List.getElem?_eq_getElem h⟩
     obtain ⟨row', hg'⟩ : ∃ row, q[i]? = some row := ⟨_, List.getElem?_eq_getElem (by omega)⟩
     obtain ⟨x0, x1, x2, x3, x4, x5, rfl, h4, h5⟩ := z29 (hp.2 row (List.mem_of_getElem? hg))
     obtain ⟨y0, y1, y2, y3, y4, y5, rfl, k4, k5⟩ := z29 (hq.2 row' (List.mem_of_getElem? hg'))
     refine zc rfl [] (.take 0 [] (.take 1 [] (.take 2 [] (.take 3 [8, 9] (.take 4 [] (.take 5 [] (.take 6 [] (.take 7 [8, 9] (.alt 8 (.take 9 [] .done) .nil))))))))) (by kernel_rfl) ?_
     refine xs rfl (Int.natCast_nonneg _) (y9 rfl _ hg (xs rfl rfl ?_))
     refine xs rfl (Int.natCast_nonneg _) (y9 rfl _ hg' (xs rfl rfl ?_))
     refine z7 rfl (q83 _ _ _ _ _ _ _ _ _ _ _ _ h4 h5 k4 k5) rfl ⟨⟨trivial, trivial, trivial, trivial, trivial, trivial, trivial⟩, ⟨trivial, trivial, trivial, trivial, trivial, trivial, trivial⟩, trivial⟩ ?_
     refine xb rfl (fun hb => ?_) (fun hb => ?_)
     · exact xr rfl (q7 rfl ⟨⟨rfl, yk (fun e => by subst e; rw [hg] at hg'; cases hg'; exact z05 hb rfl), trivial⟩, z6 rfl⟩)
     · have hb := q04 hb
       refine ya rfl (hJ _ (i + 1) ⟨by omega, qo he hg (hg'.trans (by rw [hb]))⟩ (by omega) ?_)
       repeat' (first | exact trivial | exact rfl | exact Or.inl rfl | exact cwi (by omega) (by omega) (by omega) | refine And.intro ?_ ?_)
   · have h : ¬ i < p.length := by simpa using h
     exact xr rfl (q7 rfl ⟨⟨rfl, qu (by rw [show i = p.length by omega, List.take_length] at he; rw [he, hl, List.take_length]), trivial⟩, z6 rfl⟩)
theorem y6a (x0 : Int) (x1 : Int) (x2 : Int) (x3 : Int) (x4 : Int) (y0 : Int) (y1 : Int) (y2 : Int) (y3 : Int) (y4 : Int)   : PC Tryz.prog 282 [.agg [.s (.int .i64 x0), .s (.int .i64 x1), .s (.int .i64 x2), .s (.int .i64 x3), .s (.int .i64 x4)], .agg [.s (.int .i64 y0), .s (.int .i64 y1), .s (.int .i64 y2), .s (.int .i64 y3), .s (.int .i64 y4)]] (rB (dE (α := List Cell) [.s (.int .i64 x0), .s (.int .i64 x1), .s (.int .i64 x2), .s (.int .i64 x3), .s (.int .i64 x4)] [.s (.int .i64 y0), .s (.int .i64 y1), .s (.int .i64 y2), .s (.int .i64 y3), .s (.int .i64 y4)])) := by
 refine PC.begin Tryz.func282 rfl (by kernel_rfl) ?_
 refine xb rfl (fun h => ?_) (fun e0 => ?_)
 · exact xr rfl (q7 rfl ⟨⟨rfl, yk (fun e => by simp only [List.cons.injEq, Cell.s.injEq, Value.int.injEq, Value.bool.injEq, Value.string.injEq] at e; simp [e] at h), trivial⟩, z6 rfl⟩)
 have e0 : x0 = y0 := by simpa using e0
 refine xb rfl (fun h => ?_) (fun e1 => ?_)
 · exact xr rfl (q7 rfl ⟨⟨rfl, yk (fun e => by simp only [List.cons.injEq, Cell.s.injEq, Value.int.injEq, Value.bool.injEq, Value.string.injEq] at e; simp [e] at h), trivial⟩, z6 rfl⟩)
 have e1 : x1 = y1 := by simpa using e1
 refine xb rfl (fun h => ?_) (fun e2 => ?_)
 · exact xr rfl (q7 rfl ⟨⟨rfl, yk (fun e => by simp only [List.cons.injEq, Cell.s.injEq, Value.int.injEq, Value.bool.injEq, Value.string.injEq] at e; simp [e] at h), trivial⟩, z6 rfl⟩)
 have e2 : x2 = y2 := by simpa using e2
 refine xb rfl (fun h => ?_) (fun e3 => ?_)
 · exact xr rfl (q7 rfl ⟨⟨rfl, yk (fun e => by simp only [List.cons.injEq, Cell.s.injEq, Value.int.injEq, Value.bool.injEq, Value.string.injEq] at e; simp [e] at h), trivial⟩, z6 rfl⟩)
 have e3 : x3 = y3 := by simpa using e3
 refine xb rfl (fun h => ?_) (fun e4 => ?_)
 · exact xr rfl (q7 rfl ⟨⟨rfl, yk (fun e => by simp only [List.cons.injEq, Cell.s.injEq, Value.int.injEq, Value.bool.injEq, Value.string.injEq] at e; simp [e] at h), trivial⟩, z6 rfl⟩)
 have e4 : x4 = y4 := by simpa using e4
 exact xr rfl (q7 rfl ⟨⟨rfl, qu (by simp [e0, e1, e2, e3, e4]), trivial⟩, z6 rfl⟩)
theorem z5a (p q : List (List Cell)) (hp : WR 9000000000000000000 qn p) (hq : WR 9000000000000000000 qn q) : PC Tryz.prog 219 [.one (.l p), .one (.l q)] (rB (dE p q)) := by
 refine PC.begin Tryz.func219 rfl (by kernel_rfl) ?_
 have hpl := hp.1
 have hql := hq.1
 refine xb rfl (fun h => ?_) (fun h => ?_)
 · exact xr rfl (q7 rfl ⟨⟨rfl, yk (fun e => by subst e; simp at h), trivial⟩, z6 rfl⟩)
 have hl : p.length = q.length := by simpa [Int.ofNat_inj] using h
 refine yc rfl (ι := Nat) (fun i => i ≤ p.length ∧ p.take i = q.take i) (fun i => ⟨[(5, sV (.int .i64 i)), (0, .one (.b (.l p))), (1, .one (.b (.l q)))], []⟩) (fun i => p.length - i) 0 ⟨Nat.zero_le _, rfl⟩ ?_ ?_
 · repeat' (first | exact trivial | exact rfl | exact Or.inl rfl | refine And.intro ?_ ?_)
 · intro i ⟨hi, he⟩ J hJ
   refine xb rfl (fun h => ?_) (fun h => ?_)
   · have h : i < p.length := by simpa using h
     obtain ⟨row, hg⟩ : ∃ row, p[i]? = some row := ⟨_, List.getElem?_eq_getElem h⟩
     obtain ⟨row', hg'⟩ : ∃ row, q[i]? = some row := ⟨_, List.getElem?_eq_getElem (by omega)⟩
     obtain ⟨x0, x1, x2, x3, x4, rfl⟩ := y0w (hp.2 row (List.mem_of_getElem? hg))
     obtain ⟨y0, y1, y2, y3, y4, rfl⟩ := y0w (hq.2 row' (List.mem_of_getElem? hg'))
     refine zc rfl [] (.take 0 [] (.take 1 [] (.take 2 [] (.take 3 [8, 9] (.take 4 [] (.take 5 [] (.take 6 [] (.take 7 [8, 9] (.alt 8 (.take 9 [] .done) .nil))))))))) (by kernel_rfl) ?_
     refine xs rfl (Int.natCast_nonneg _) (y9 rfl _ hg (xs rfl rfl ?_))
     refine xs rfl (Int.natCast_nonneg _) (y9 rfl _ hg' (xs rfl rfl ?_))
     refine z7 rfl (y6a _ _ _ _ _ _ _ _ _ _) rfl ⟨⟨trivial, trivial, trivial, trivial, trivial, trivial⟩, ⟨trivial, trivial, trivial, trivial, trivial, trivial⟩, trivial⟩ ?_
     refine xb rfl (fun hb => ?_) (fun hb => ?_)
     · exact xr rfl (q7 rfl ⟨⟨rfl, yk (fun e => by subst e; rw [hg] at hg'; cases hg'; exact z05 hb rfl), trivial⟩, z6 rfl⟩)
     · have hb := q04 hb
       refine ya rfl (hJ _ (i + 1) ⟨by omega, qo he hg (hg'.trans (by rw [hb]))⟩ (by omega) ?_)
       repeat' (first | exact trivial | exact rfl | exact Or.inl rfl | exact cwi (by omega) (by omega) (by omega) | refine And.intro ?_ ?_)
   · have h : ¬ i < p.length := by simpa using h
     exact xr rfl (q7 rfl ⟨⟨rfl, qu (by rw [show i = p.length by omega, List.take_length] at he; rw [he, hl, List.take_length]), trivial⟩, z6 rfl⟩)
theorem y5a (x0 : Int) (x1 : List (List Cell)) (x2 : List (List Cell)) (y0 : Int) (y1 : List (List Cell)) (y2 : List (List Cell)) (h1 : WR 9000000000000000000 yp x1) (h2 : WR 9000000000000000000 qn x2) (k1 : WR 9000000000000000000 yp y1) (k2 : WR 9000000000000000000 qn y2) : PC Tryz.prog 139 [.agg [.s (.int .i64 x0), .l x1, .l x2], .agg [.s (.int .i64 y0), .l y1, .l y2]] (rB (dE (α := List Cell) [.s (.int .i64 x0), .l x1, .l x2] [.s (.int .i64 y0), .l y1, .l y2])) := by
 refine PC.begin Tryz.func139 rfl (by kernel_rfl) ?_
 refine xb rfl (fun h => ?_) (fun e0 => ?_)
 · exact xr rfl (q7 rfl ⟨⟨rfl, yk (fun e => by simp only [List.cons.injEq, Cell.s.injEq, Value.int.injEq, Value.bool.injEq, Value.string.injEq] at e; simp [e] at h), trivial⟩, z6 rfl⟩)
 have e0 : x0 = y0 := by simpa using e0
 refine z7 rfl (q6z _ _ h1 k1) rfl ⟨trivial, trivial, trivial⟩ ?_
 refine xb rfl (fun h => ?_) (fun e1 => ?_)
 · exact xr rfl (q7 rfl ⟨⟨rfl, yk (fun e => z05 h (by simp only [List.cons.injEq, Cell.l.injEq] at e ⊢; simp only [e]; try trivial)), trivial⟩, z6 rfl⟩)
 have e1 := q04 e1
 refine z7 rfl (z5a _ _ h2 k2) rfl ⟨trivial, trivial, trivial⟩ ?_
 refine xb rfl (fun h => ?_) (fun e2 => ?_)
 · exact xr rfl (q7 rfl ⟨⟨rfl, yk (fun e => z05 h (by simp only [List.cons.injEq, Cell.l.injEq] at e ⊢; simp only [e]; try trivial)), trivial⟩, z6 rfl⟩)
 have e2 := q04 e2
 exact xr rfl (q7 rfl ⟨⟨rfl, qu (by simp [e0, e1, e2]), trivial⟩, z6 rfl⟩)
theorem y4n (p q : List (List Cell)) (hp : WR 9000000000000000000 qd p) (hq : WR 9000000000000000000 qd q) : PC Tryz.prog 70 [.one (.l p), .one (.l q)] (rB (dE p q)) := by
 refine PC.begin Tryz.func70 rfl (by kernel_rfl) ?_
 have hpl := hp.1
 have hql := hq.1
 refine xb rfl (fun h => ?_) (fun h => ?_)
 · exact xr rfl (q7 rfl ⟨⟨rfl, yk (fun e => by subst e; simp at h), trivial⟩, z6 rfl⟩)
 have hl : p.length = q.length := by simpa [Int.ofNat_inj] using h
 refine yc rfl (ι := Nat) (fun i => i ≤ p.length ∧ p.take i = q.take i) (fun i => ⟨[(5, sV (.int .i64 i)), (0, .one (.b (.l p))), (1, .one (.b (.l q)))], []⟩) (fun i => p.length - i) 0 ⟨Nat.zero_le _, rfl⟩ ?_ ?_
 · repeat' (first | exact trivial | exact rfl | exact Or.inl rfl | refine And.intro ?_ ?_)
 · intro i ⟨hi, he⟩ J hJ
   refine xb rfl (fun h => ?_) (fun h => ?_)
   · have h : i < p.length := by simpa using h
     obtain ⟨row, hg⟩ : ∃ row, p[i]? = some row := ⟨_, List.getElem?_eq_getElem h⟩
     obtain ⟨row', hg'⟩ : ∃ row, q[i]? = some row := ⟨_, List.getElem?_eq_getElem (by omega)⟩
     obtain ⟨x0, x1, x2, rfl, h1, h2⟩ := y0l (hp.2 row (List.mem_of_getElem? hg))
     obtain ⟨y0, y1, y2, rfl, k1, k2⟩ := y0l (hq.2 row' (List.mem_of_getElem? hg'))
     refine zc rfl [] (.take 0 [] (.take 1 [] (.take 2 [] (.take 3 [8, 9] (.take 4 [] (.take 5 [] (.take 6 [] (.take 7 [8, 9] (.alt 8 (.take 9 [] .done) .nil))))))))) (by kernel_rfl) ?_
     refine xs rfl (Int.natCast_nonneg _) (y9 rfl _ hg (xs rfl rfl ?_))
     refine xs rfl (Int.natCast_nonneg _) (y9 rfl _ hg' (xs rfl rfl ?_))
     refine z7 rfl (y5a _ _ _ _ _ _ h1 h2 k1 k2) rfl ⟨⟨trivial, trivial, trivial, trivial⟩, ⟨trivial, trivial, trivial, trivial⟩, trivial⟩ ?_
     refine xb rfl (fun hb => ?_) (fun hb => ?_)
     · exact xr rfl (q7 rfl ⟨⟨rfl, yk (fun e => by subst e; rw [hg] at hg'; cases hg'; exact z05 hb rfl), trivial⟩, z6 rfl⟩)
     · have hb := q04 hb
       refine ya rfl (hJ _ (i + 1) ⟨by omega, qo he hg (hg'.trans (by rw [hb]))⟩ (by omega) ?_)
       repeat' (first | exact trivial | exact rfl | exact Or.inl rfl | exact cwi (by omega) (by omega) (by omega) | refine And.intro ?_ ?_)
   · have h : ¬ i < p.length := by simpa using h
     exact xr rfl (q7 rfl ⟨⟨rfl, qu (by rw [show i = p.length by omega, List.take_length] at he; rw [he, hl, List.take_length]), trivial⟩, z6 rfl⟩)
theorem q4n (x0 : Int) (x1 : Int) (x2 : Int) (x3 : Int) (x4 : Int) (x5 : Int) (x6 : Int) (x7 : Int) (x8 : Int) (y0 : Int) (y1 : Int) (y2 : Int) (y3 : Int) (y4 : Int) (y5 : Int) (y6 : Int) (y7 : Int) (y8 : Int)   : PC Tryz.prog 140 [.agg [.s (.int .i64 x0), .s (.int .i64 x1), .s (.int .i64 x2), .s (.int .i64 x3), .s (.int .i64 x4), .s (.int .i64 x5), .s (.int .i64 x6), .s (.int .i64 x7), .s (.int .i64 x8)], .agg [.s (.int .i64 y0), .s (.int .i64 y1), .s (.int .i64 y2), .s (.int .i64 y3), .s (.int .i64 y4), .s (.int .i64 y5), .s (.int .i64 y6), .s (.int .i64 y7), .s (.int .i64 y8)]] (rB (dE (α := List Cell) [.s (.int .i64 x0), .s (.int .i64 x1), .s (.int .i64 x2), .s (.int .i64 x3), .s (.int .i64 x4), .s (.int .i64 x5), .s (.int .i64 x6), .s (.int .i64 x7), .s (.int .i64 x8)] [.s (.int .i64 y0), .s (.int .i64 y1), .s (.int .i64 y2), .s (.int .i64 y3), .s (.int .i64 y4), .s (.int .i64 y5), .s (.int .i64 y6), .s (.int .i64 y7), .s (.int .i64 y8)])) := by
 refine PC.begin Tryz.func140 rfl (by kernel_rfl) ?_
 refine xb rfl (fun h => ?_) (fun e0 => ?_)
 · exact xr rfl (q7 rfl ⟨⟨rfl, yk (fun e => by simp only [List.cons.injEq, Cell.s.injEq, Value.int.injEq, Value.bool.injEq, Value.string.injEq] at e; simp [e] at h), trivial⟩, z6 rfl⟩)
 have e0 : x0 = y0 := by simpa using e0
 refine xb rfl (fun h => ?_) (fun e1 => ?_)
 · exact xr rfl (q7 rfl ⟨⟨rfl, yk (fun e => by simp only [List.cons.injEq, Cell.s.injEq, Value.int.injEq, Value.bool.injEq, Value.string.injEq] at e; simp [e] at h), trivial⟩, z6 rfl⟩)
 have e1 : x1 = y1 := by simpa using e1
 refine xb rfl (fun h => ?_) (fun e2 => ?_)
 · exact xr rfl (q7 rfl ⟨⟨rfl, yk (fun e => by simp only [List.cons.injEq, Cell.s.injEq, Value.int.injEq, Value.bool.injEq, Value.string.injEq] at e; simp [e] at h), trivial⟩, z6 rfl⟩)
 have e2 : x2 = y2 := by simpa using e2
 refine xb rfl (fun h => ?_) (fun e3 => ?_)
 · exact xr rfl (q7 rfl ⟨⟨rfl, yk (fun e => by simp only [List.cons.injEq, Cell.s.injEq, Value.int.injEq, Value.bool.injEq, Value.string.injEq] at e; simp [e] at h), trivial⟩, z6 rfl⟩)
 have e3 : x3 = y3 := by simpa using e3
 refine xb rfl (fun h => ?_) (fun e4 => ?_)
 · exact xr rfl (q7 rfl ⟨⟨rfl, yk (fun e => by simp only [List.cons.injEq, Cell.s.injEq, Value.int.injEq, Value.bool.injEq, Value.string.injEq] at e; simp [e] at h), trivial⟩, z6 rfl⟩)
 have e4 : x4 = y4 := by simpa using e4
 refine xb rfl (fun h => ?_) (fun e5 => ?_)
 · exact xr rfl (q7 rfl ⟨⟨rfl, yk (fun e => by simp only [List.cons.injEq, Cell.s.injEq, Value.int.injEq, Value.bool.injEq, Value.string.injEq] at e; simp [e] at h), trivial⟩, z6 rfl⟩)
 have e5 : x5 = y5 := by simpa using e5
 refine xb rfl (fun h => ?_) (fun e6 => ?_)
 · exact xr rfl (q7 rfl ⟨⟨rfl, yk (fun e => by simp only [List.cons.injEq, Cell.s.injEq, Value.int.injEq, Value.bool.injEq, Value.string.injEq] at e; simp [e] at h), trivial⟩, z6 rfl⟩)
 have e6 : x6 = y6 := by simpa using e6
 refine z7 rfl (q2v _ _ _ _) rfl ⟨⟨trivial, trivial, trivial⟩, ⟨trivial, trivial, trivial⟩, trivial⟩ ?_
 refine xb rfl (fun h => ?_) (fun e7 => ?_)
 · exact xr rfl (q7 rfl ⟨⟨rfl, yk (fun e => z05 h (by simp only [List.cons.injEq, Cell.l.injEq] at e ⊢; simp only [e]; try trivial)), trivial⟩, z6 rfl⟩)
 have e7 := q04 e7
 simp only [List.cons.injEq, Cell.s.injEq, Cell.l.injEq, Value.int.injEq, Value.bool.injEq, and_true, true_and] at e7
 exact xr rfl (q7 rfl ⟨⟨rfl, qu (by simp [e0, e1, e2, e3, e4, e5, e6, e7]), trivial⟩, z6 rfl⟩)
theorem z3z (p q : List (List Cell)) (hp : WR 9000000000000000000 zg p) (hq : WR 9000000000000000000 zg q) : PC Tryz.prog 71 [.one (.l p), .one (.l q)] (rB (dE p q)) := by
 refine PC.begin Tryz.func71 rfl (by kernel_rfl) ?_
 have hpl := hp.1
 have hql := hq.1
 refine xb rfl (fun h => ?_) (fun h => ?_)
 · exact xr rfl (q7 rfl ⟨⟨rfl, yk (fun e => by subst e; simp at h), trivial⟩, z6 rfl⟩)
 have hl : p.length = q.length := by simpa [Int.ofNat_inj] using h
 refine yc rfl (ι := Nat) (fun i => i ≤ p.length ∧ p.take i = q.take i) (fun i => ⟨[(5, sV (.int .i64 i)), (0, .one (.b (.l p))), (1, .one (.b (.l q)))], []⟩) (fun i => p.length - i) 0 ⟨Nat.zero_le _, rfl⟩ ?_ ?_
 · repeat' (first | exact trivial | exact rfl | exact Or.inl rfl | refine And.intro ?_ ?_)
 · intro i ⟨hi, he⟩ J hJ
   refine xb rfl (fun h => ?_) (fun h => ?_)
   · have h : i < p.length := by simpa using h
     obtain ⟨row, hg⟩ : ∃ row, p[i]? = some row := ⟨_, List.getElem?_eq_getElem h⟩
     obtain ⟨row', hg'⟩ : ∃ row, q[i]? = some row := ⟨_, List.getElem?_eq_getElem (by omega)⟩
     obtain ⟨x0, x1, x2, x3, x4, x5, x6, x7, x8, rfl⟩ := y0c (hp.2 row (List.mem_of_getElem? hg))
     obtain ⟨y0, y1, y2, y3, y4, y5, y6, y7, y8, rfl⟩ := y0c (hq.2 row' (List.mem_of_getElem? hg'))
     refine zc rfl [] (.take 0 [] (.take 1 [] (.take 2 [] (.take 3 [8, 9] (.take 4 [] (.take 5 [] (.take 6 [] (.take 7 [8, 9] (.alt 8 (.take 9 [] .done) .nil))))))))) (by kernel_rfl) ?_
     refine xs rfl (Int.natCast_nonneg _) (y9 rfl _ hg (xs rfl rfl ?_))
     refine xs rfl (Int.natCast_nonneg _) (y9 rfl _ hg' (xs rfl rfl ?_))
     refine z7 rfl (q4n _ _ _ _ _ _ _ _ _ _ _ _ _ _ _ _ _ _) rfl ⟨⟨trivial, trivial, trivial, trivial, trivial, trivial, trivial, trivial, trivial, trivial⟩, ⟨trivial, trivial, trivial, trivial, trivial, trivial, trivial, trivial, trivial, trivial⟩, trivial⟩ ?_
     refine xb rfl (fun hb => ?_) (fun hb => ?_)
     · exact xr rfl (q7 rfl ⟨⟨rfl, yk (fun e => by subst e; rw [hg] at hg'; cases hg'; exact z05 hb rfl), trivial⟩, z6 rfl⟩)
     · have hb := q04 hb
       refine ya rfl (hJ _ (i + 1) ⟨by omega, qo he hg (hg'.trans (by rw [hb]))⟩ (by omega) ?_)
       repeat' (first | exact trivial | exact rfl | exact Or.inl rfl | exact cwi (by omega) (by omega) (by omega) | refine And.intro ?_ ?_)
   · have h : ¬ i < p.length := by simpa using h
     exact xr rfl (q7 rfl ⟨⟨rfl, qu (by rw [show i = p.length by omega, List.take_length] at he; rw [he, hl, List.take_length]), trivial⟩, z6 rfl⟩)
theorem z4n (x0 : List (List Cell)) (x1 : List (List Cell)) (x2 : List (List Cell)) (x3 : List (List Cell)) (x4 : List (List Cell)) (y0 : List (List Cell)) (y1 : List (List Cell)) (y2 : List (List Cell)) (y3 : List (List Cell)) (y4 : List (List Cell)) (h0 : WR 9000000000000000000 z8 x0) (h1 : WR 9000000000000000000 zf x1) (h2 : WR 9000000000000000000 za x2) (h3 : WR 9000000000000000000 qd x3) (h4 : WR 9000000000000000000 zg x4) (k0 : WR 9000000000000000000 z8 y0) (k1 : WR 9000000000000000000 zf y1) (k2 : WR 9000000000000000000 za y2) (k3 : WR 9000000000000000000 qd y3) (k4 : WR 9000000000000000000 zg y4) : PC Tryz.prog 17 [.agg [.l x0, .l x1, .l x2, .l x3, .l x4], .agg [.l y0, .l y1, .l y2, .l y3, .l y4]] (rB (dE (α := List Cell) [.l x0, .l x1, .l x2, .l x3, .l x4] [.l y0, .l y1, .l y2, .l y3, .l y4])) := by
 refine PC.begin Tryz.func17 rfl (by kernel_rfl) ?_
 refine z7 rfl (y1j _ _ h0 k0) rfl ⟨trivial, trivial, trivial⟩ ?_
 refine xb rfl (fun h => ?_) (fun e0 => ?_)
 · exact xr rfl (q7 rfl ⟨⟨rfl, yk (fun e => z05 h (by simp only [List.cons.injEq, Cell.l.injEq] at e ⊢; simp only [e]; try trivial)), trivial⟩, z6 rfl⟩)
 have e0 := q04 e0
 refine z7 rfl (q5a _ _ h1 k1) rfl ⟨trivial, trivial, trivial⟩ ?_
 refine xb rfl (fun h => ?_) (fun e1 => ?_)
 · exact xr rfl (q7 rfl ⟨⟨rfl, yk (fun e => z05 h (by simp only [List.cons.injEq, Cell.l.injEq] at e ⊢; simp only [e]; try trivial)), trivial⟩, z6 rfl⟩)
 have e1 := q04 e1
 refine z7 rfl (q3d _ _ h2 k2) rfl ⟨trivial, trivial, trivial⟩ ?_
 refine xb rfl (fun h => ?_) (fun e2 => ?_)
 · exact xr rfl (q7 rfl ⟨⟨rfl, yk (fun e => z05 h (by simp only [List.cons.injEq, Cell.l.injEq] at e ⊢; simp only [e]; try trivial)), trivial⟩, z6 rfl⟩)
 have e2 := q04 e2
 refine z7 rfl (y4n _ _ h3 k3) rfl ⟨trivial, trivial, trivial⟩ ?_
 refine xb rfl (fun h => ?_) (fun e3 => ?_)
 · exact xr rfl (q7 rfl ⟨⟨rfl, yk (fun e => z05 h (by simp only [List.cons.injEq, Cell.l.injEq] at e ⊢; simp only [e]; try trivial)), trivial⟩, z6 rfl⟩)
 have e3 := q04 e3
 refine z7 rfl (z3z _ _ h4 k4) rfl ⟨trivial, trivial, trivial⟩ ?_
 refine xb rfl (fun h => ?_) (fun e4 => ?_)
 · exact xr rfl (q7 rfl ⟨⟨rfl, yk (fun e => z05 h (by simp only [List.cons.injEq, Cell.l.injEq] at e ⊢; simp only [e]; try trivial)), trivial⟩, z6 rfl⟩)
 have e4 := q04 e4
 exact xr rfl (q7 rfl ⟨⟨rfl, qu (by simp [e0, e1, e2, e3, e4]), trivial⟩, z6 rfl⟩)
end Go.Proofs.YthljegacamgnnaaGreat
end
section
namespace Go.Proofs.YthljegacamgnnaaGreat
open Go Go.Sx
set_option maxRecDepth 20000
theorem q7p (rr : List (List Cell)) (b : Int) (hw : WR 9223372036854775807 yy rr) (p0 : 0 ≤ b) (p1 : b ≤ 1048576) : PC Tryz.prog 174 [.one (.l rr), .one (.s (.int .i64 b))] (rI (szn b (zm yy rr))) := by
 refine PC.begin Tryz.func174 rfl (by kernel_rfl) ?_
 have hlen := hw.1
 have w1 : IntKind.i64.wrap (b - rr.length) = b - rr.length := wrap_i64 (by omega) (by omega)
 rw [z0p (fun row hr => by obtain ⟨x0, x1, x2, x3, rfl⟩ := y28 hr; rfl) hw]
 refine xb rfl (fun h => ?_) (fun h => ?_)
 · simp only [w1, decide_eq_true_eq] at h
   exact xr rfl (q7 rfl ⟨⟨rfl, (by show Value.int _ _ = Value.int _ _; rw [szn, if_pos h]), trivial⟩, z6 rfl⟩)
 · simp only [w1, decide_eq_false_iff_not] at h
   exact xr rfl (q7 rfl ⟨⟨rfl, (by show Value.int .i64 (IntKind.i64.wrap (b - rr.length)) = Value.int _ _; rw [szn, if_neg h, w1]), trivial⟩, z6 rfl⟩)
theorem z4f (x0 : Int) (x1 : List (List Cell)) (b : Int) (h1 : WR 9223372036854775807 yy x1) (hb0 : 0 ≤ b) (hb1 : b ≤ 1048576) : PC Tryz.prog 109 [.agg [.s (.int .i64 x0), .l x1], .one (.s (.int .i64 b))] (rI (szn b (tot z8 [.s (.int .i64 x0), .l x1]))) := by
 refine PC.begin Tryz.func109 rfl (by kernel_rfl) ?_
 have ht : tot z8 [.s (.int .i64 x0), .l x1] = zm yy x1 := by simp only [tot, zm] <;> omega
 refine z7 rfl (q7p x1 b h1 hb0 hb1) rfl ⟨trivial, trivial, trivial⟩ ?_
 refine xb rfl (fun h => ?_) (fun e0 => ?_)
 · have h : szn b (zm yy x1) < 0 := by simpa using h
   exact xr rfl (q7 rfl ⟨⟨rfl, (by show Value.int _ _ = Value.int _ _; congr 1; rw [ht]; unfold szn at *; split at h <;> rw [if_pos] <;> omega), trivial⟩, z6 rfl⟩)
 have e0 : 0 ≤ szn b (zm yy x1) := by simpa using e0
 exact xr rfl (q7 rfl ⟨⟨rfl, (by show Value.int _ _ = Value.int _ _; rw [ht]), trivial⟩, z6 rfl⟩)
theorem z1l (rr : List (List Cell)) (b : Int) (hw : WR 9223372036854775807 z8 rr) (p0 : 0 ≤ b) (p1 : b ≤ 1048576) : PC Tryz.prog 50 [.one (.l rr), .one (.s (.int .i64 b))] (rI (szn b (zm z8 rr))) := by
 refine PC.begin Tryz.func50 rfl (by kernel_rfl) ?_
 have hlen := hw.1
 have w1 : IntKind.i64.wrap (b - rr.length) = b - rr.length := wrap_i64 (by omega) (by omega)
 refine xb rfl (fun h => ?_) (fun h => ?_)
 · simp only [w1, decide_eq_true_eq] at h
   exact xr rfl (q7 rfl ⟨⟨rfl, (by show Value.int _ _ = Value.int _ _; unfold szn zm; rw [if_pos (by omega)]), trivial⟩, z6 rfl⟩)
 simp only [w1, decide_eq_false_iff_not] at h
 have hs : szn b rr.length = b - rr.length := by unfold szn; rw [if_neg h]
 refine yc rfl (ι := Nat) (fun i => i ≤ rr.length ∧ 0 ≤ szn b (rr.length + z01 (tot z8) (rr.take i))) (fun i => ⟨[(5, sV (.int .i64 i)), (1, sV (.int .i64 (szn b (rr.length + z01 (tot z8) (rr.take i))))), (0, .one (.b (.l rr)))], []⟩) (fun i => rr.length - i) 0 ⟨Nat.zero_le _, by simp only [List.take_zero, z01, Nat.add_zero, hs]; omega⟩ ?_ ?_
 · refine ⟨⟨rfl, ?_, rfl, trivial⟩, trivial, rfl⟩
   show Cell.s (.int .i64 (IntKind.i64.wrap (b - rr.length))) = Cell.s (.int .i64 (szn b (rr.length + 0)))
   rw [w1, Nat.add_zero, hs]
 · intro i ⟨hi, hb⟩ J hJ
   refine xb rfl (fun h => ?_) (fun h => ?_)
   · have h : i < rr.length := by simpa using h
     obtain ⟨row, hg⟩ : ∃ row, rr[i]? = some row := ⟨_, List.getElem?_eq_getElem h⟩
     have hc := z0v (f := tot z8) hg
     have hc2 := z0l (tot z8) rr (i + 1)
     obtain ⟨x0, x1, rfl, h1⟩ := y07 (hw.2 row (List.mem_of_getElem? hg))
     refine xs rfl (Int.natCast_nonneg _) (y9 rfl _ hg (xs rfl rfl ?_))
     refine z7 rfl (z4f _ _ _ h1 hb (z0j p1 p0)) rfl ⟨⟨trivial, trivial, trivial⟩, trivial, trivial⟩ ?_
     refine xb rfl (fun hn => ?_) (fun hn => ?_)
     · have hn : szn (szn b (rr.length + z01 (tot z8) (rr.take i))) (tot z8 [.s (.int .i64 x0), .l x1]) < 0 := by simpa using hn
       rw [yi hb] at hn
       exact xr rfl (q7 rfl ⟨⟨rfl, (by show Value.int _ _ = Value.int _ _; congr 1; unfold szn zm at *; split at hn <;> rw [if_pos] <;> omega), trivial⟩, z6 rfl⟩)
     · have hn : ¬ szn (szn b (rr.length + z01 (tot z8) (rr.take i))) (tot z8 [.s (.int .i64 x0), .l x1]) < 0 := by simpa using hn
       have he := yi (n := tot z8 [.s (.int .i64 x0), .l x1]) hb
       rw [he] at hn
       rw [Nat.add_assoc, ← hc] at he hn
       refine ya rfl (hJ _ (i + 1) ⟨by omega, by omega⟩ (by omega) ?_)
       refine ⟨⟨cwi (by omega) (by omega) (by omega), ?_, rfl, trivial⟩, trivial, rfl⟩
       exact congrArg (fun n => Cell.s (.int .i64 n)) he
   · have h : ¬ i < rr.length := by simpa using h
     have : i = rr.length := by omega
     subst this
     exact xr rfl (q7 rfl ⟨⟨rfl, (by show Value.int _ _ = Value.int _ _; rw [List.take_length]; rfl), trivial⟩, z6 rfl⟩)
theorem q4e (rr : List (List Cell)) (b : Int) (hw : WR 9223372036854775807 qc rr) (p0 : 0 ≤ b) (p1 : b ≤ 1048576) : PC Tryz.prog 147 [.one (.l rr), .one (.s (.int .i64 b))] (rI (szn b (zm qc rr))) := by
 refine PC.begin Tryz.func147 rfl (by kernel_rfl) ?_
 have hlen := hw.1
 have w1 : IntKind.i64.wrap (b - rr.length) = b - rr.length := wrap_i64 (by omega) (by omega)
 rw [z0p (fun row hr => by obtain ⟨x0, x1, x2, rfl⟩ := z0c hr; rfl) hw]
 refine xb rfl (fun h => ?_) (fun h => ?_)
 · simp only [w1, decide_eq_true_eq] at h
   exact xr rfl (q7 rfl ⟨⟨rfl, (by show Value.int _ _ = Value.int _ _; rw [szn, if_pos h]), trivial⟩, z6 rfl⟩)
 · simp only [w1, decide_eq_false_iff_not] at h
   exact xr rfl (q7 rfl ⟨⟨rfl, (by show Value.int .i64 (IntKind.i64.wrap (b - rr.length)) = Value.int _ _; rw [szn, if_neg h, w1]), trivial⟩, z6 rfl⟩)
theorem q3q (rr : List (List Cell)) (b : Int) (hw : WR 9223372036854775807 yh rr) (p0 : 0 ≤ b) (p1 : b ≤ 1048576) : PC Tryz.prog 175 [.one (.l rr), .one (.s (.int .i64 b))] (rI (szn b (zm yh rr))) := by
 refine PC.begin Tryz.func175 rfl (by kernel_rfl) ?_
 have hlen := hw.1
 have w1 : IntKind.i64.wrap (b - rr.length) = b - rr.length := wrap_i64 (by omega) (by omega)
 rw [z0p (fun row hr => by obtain ⟨x0, x1, rfl⟩ := z1f hr; rfl) hw]
 refine xb rfl (fun h => ?_) (fun h => ?_)
 · simp only [w1, decide_eq_true_eq] at h
   exact xr rfl (q7 rfl ⟨⟨rfl, (by show Value.int _ _ = Value.int _ _; rw [szn, if_pos h]), trivial⟩, z6 rfl⟩)
 · simp only [w1, decide_eq_false_iff_not] at h
   exact xr rfl (q7 rfl ⟨⟨rfl, (by show Value.int .i64 (IntKind.i64.wrap (b - rr.length)) = Value.int _ _; rw [szn, if_neg h, w1]), trivial⟩, z6 rfl⟩)
theorem q38 (rr : List (List Cell)) (b : Int) (hw : WR 9223372036854775807 (.i .i64 .nil) rr) (p0 : 0 ≤ b) (p1 : b ≤ 1048576) : PC Tryz.prog 176 [.one (.l rr), .one (.s (.int .i64 b))] (rI (szn b (zm (.i .i64 .nil) rr))) := by
 refine PC.begin Tryz.func176 rfl (by kernel_rfl) ?_
 have hlen := hw.1
 have w1 : IntKind.i64.wrap (b - rr.length) = b - rr.length := wrap_i64 (by omega) (by omega)
 rw [z0p (fun row hr => by obtain ⟨x0, _, rfl, hnil⟩ := (hr).yv; obtain rfl := hnil.qx; rfl) hw]
 refine xb rfl (fun h => ?_) (fun h => ?_)
 · simp only [w1, decide_eq_true_eq] at h
   exact xr rfl (q7 rfl ⟨⟨rfl, (by show Value.int _ _ = Value.int _ _; rw [szn, if_pos h]), trivial⟩, z6 rfl⟩)
 · simp only [w1, decide_eq_false_iff_not] at h
   exact xr rfl (q7 rfl ⟨⟨rfl, (by show Value.int .i64 (IntKind.i64.wrap (b - rr.length)) = Value.int _ _; rw [szn, if_neg h, w1]), trivial⟩, z6 rfl⟩)
theorem q6l (x0 : Int) (x1 : List (List Cell)) (x2 : List (List Cell)) (x3 : List (List Cell)) (x4 : List (List Cell)) (x5 : List (List Cell)) (b : Int) (h1 : WR 9223372036854775807 qc x1) (h2 : WR 9223372036854775807 yh x2) (h3 : WR 9223372036854775807 z8 x3) (h4 : WR 9223372036854775807 yh x4) (h5 : WR 9223372036854775807 (.i .i64 .nil) x5) (hb0 : 0 ≤ b) (hb1 : b ≤ 1048576) : PC Tryz.prog 110 [.agg [.s (.int .i64 x0), .l x1, .l x2, .l x3, .l x4, .l x5], .one (.s (.int .i64 b))] (rI (szn b (tot zf [.s (.int .i64 x0), .l x1, .l x2, .l x3, .l x4, .l x5]))) := by
 refine PC.begin Tryz.func110 rfl (by kernel_rfl) ?_
 have ht : tot zf [.s (.int .i64 x0), .l x1, .l x2, .l x3, .l x4, .l x5] = zm qc x1 + zm yh x2 + zm z8 x3 + zm yh x4 + zm (.i .i64 .nil) x5 := by simp only [tot, zm] <;> omega
 refine z7 rfl (q4e x1 b h1 hb0 hb1) rfl ⟨trivial, trivial, trivial⟩ ?_
 refine xb rfl (fun h => ?_) (fun e0 => ?_)
 · have h : szn b (zm qc x1) < 0 := by simpa using h
   exact xr rfl (q7 rfl ⟨⟨rfl, (by show Value.int _ _ = Value.int _ _; congr 1; rw [ht]; unfold szn at *; split at h <;> rw [if_pos] <;> omega), trivial⟩, z6 rfl⟩)
 have e0 : 0 ≤ szn b (zm qc x1) := by simpa using e0
 refine z7 rfl (q3q x2 (szn b (zm qc x1)) h2 e0 (z0j hb1 hb0)) rfl ⟨trivial, trivial, trivial⟩ ?_
 refine xb rfl (fun h => ?_) (fun e1 => ?_)
 · have h : szn (szn b (zm qc x1)) (zm yh x2) < 0 := by simpa using h
   rw [yi e0] at h
   exact xr rfl (q7 rfl ⟨⟨rfl, (by show Value.int _ _ = Value.int _ _; congr 1; rw [ht]; unfold szn at *; split at h <;> rw [if_pos] <;> omega), trivial⟩, z6 rfl⟩)
 have e1 : 0 ≤ szn b (zm qc x1 + zm yh x2) := by rw [← yi e0]; simpa using e1
 rw [yi e0]
 refine z7 rfl (z1l x3 (szn b (zm qc x1 + zm yh x2)) h3 e1 (z0j hb1 hb0)) rfl ⟨trivial, trivial, trivial⟩ ?_
 refine xb rfl (fun h => ?_) (fun e2 => ?_)
 · have h : szn (szn b (zm qc x1 + zm yh x2)) (zm z8 x3) < 0 := by simpa using h
   rw [yi e1] at h
   exact xr rfl (q7 rfl ⟨⟨rfl, (by show Value.int _ _ = Value.int _ _; congr 1; rw [ht]; unfold szn at *; split at h <;> rw [if_pos] <;> omega), trivial⟩, z6 rfl⟩)
 have e2 : 0 ≤ szn b (zm qc x1 + zm yh x2 + zm z8 x3) := by rw [← yi e1]; simpa using e2
 rw [yi e1]
 refine z7 rfl (q3q x4 (szn b (zm qc x1 + zm yh x2 + zm z8 x3)) h4 e2 (z0j hb1 hb0)) rfl ⟨trivial, trivial, trivial⟩ ?_
 refine xb rfl (fun h => ?_) (fun e3 => ?_)
 · have h : szn (szn b (zm qc x1 + zm yh x2 + zm z8 x3)) (zm yh x4) < 0 := by simpa using h
   rw [yi e2] at h
   exact xr rfl (q7 rfl ⟨⟨rfl, (by show Value.int _ _ = Value.int _ _; congr 1; rw [ht]; unfold szn at *; split at h <;> rw [if_pos] <;> omega), trivial⟩, z6 rfl⟩)
 have e3 : 0 ≤ szn b (zm qc x1 + zm yh x2 + zm z8 x3 + zm yh x4) := by rw [← yi e2]; simpa using e3
 rw [yi e2]
 refine z7 rfl (q38 x5 (szn b (zm qc x1 + zm yh x2 + zm z8 x3 + zm yh x4)) h5 e3 (z0j hb1 hb0)) rfl ⟨trivial, trivial, trivial⟩ ?_
 refine xb rfl (fun h => ?_) (fun e4 => ?_)
 · have h : szn (szn b (zm qc x1 + zm yh x2 + zm z8 x3 + zm yh x4)) (zm (.i .i64 .nil) x5) < 0 := by simpa using h
   rw [yi e3] at h
   exact xr rfl (q7 rfl ⟨⟨rfl, (by show Value.int _ _ = Value.int _ _; congr 1; rw [ht]; unfold szn at *; split at h <;> rw [if_pos] <;> omega), trivial⟩, z6 rfl⟩)
 have e4 : 0 ≤ szn b (zm qc x1 + zm yh x2 + zm z8 x3 + zm yh x4 + zm (.i .i64 .nil) x5) := by rw [← yi e3]; simpa using e4
 rw [yi e3]
 exact xr rfl (q7 rfl ⟨⟨rfl, (by show Value.int _ _ = Value.int _ _; rw [ht]), trivial⟩, z6 rfl⟩)
theorem q5m (rr : List (List Cell)) (b : Int) (hw : WR 9223372036854775807 zf rr) (p0 : 0 ≤ b) (p1 : b ≤ 1048576) : PC Tryz.prog 51 [.one (.l rr), .one (.s (.int .i64 b))] (rI (szn b (zm zf rr))) := by
 refine PC.begin Tryz.func51 rfl (by kernel_rfl) ?_
 have hlen := hw.1
 have w1 : IntKind.i64.wrap (b - rr.length) = b - rr.length := wrap_i64 (by omega) (by omega)
 refine xb rfl (fun h => ?_) (fun h => ?_)
 · simp only [w1, decide_eq_true_eq] at h
   exact xr rfl (q7 rfl ⟨⟨rfl, (by show Value.int _ _ = Value.int _ _; unfold szn zm; rw [if_pos (by omega)]), trivial⟩, z6 rfl⟩)
 simp only [w1, decide_eq_false_iff_not] at h
 have hs : szn b rr.length = b - rr.length := by unfold szn; rw [if_neg h]
 refine yc rfl (ι := Nat) (fun i => i ≤ rr.length ∧ 0 ≤ szn b (rr.length + z01 (tot zf) (rr.take i))) (fun i => ⟨[(5, sV (.int .i64 i)), (1, sV (.int .i64 (szn b (rr.length + z01 (tot zf) (rr.take i))))), (0, .one (.b (.l rr)))], []⟩) (fun i => rr.length - i) 0 ⟨Nat.zero_le _, by simp only [List.take_zero, z01, Nat.add_zero, hs]; omega⟩ ?_ ?_
 · refine ⟨⟨rfl, ?_, rfl, trivial⟩, trivial, rfl⟩
   show Cell.s (.int .i64 (IntKind.i64.wrap (b - rr.length))) = Cell.s (.int .i64 (szn b (rr.length + 0)))
   rw [w1, Nat.add_zero, hs]
 · intro i ⟨hi, hb⟩ J hJ
   refine xb rfl (fun h => ?_) (fun h => ?_)
   · have h : i < rr.length := by simpa using h
     obtain ⟨row, hg⟩ : ∃ row, rr[i]? = some row := ⟨_, List.getElem?_eq_getElem h⟩
     have hc := z0v (f := tot zf) hg
     have hc2 := z0l (tot zf) rr (i + 1)
     obtain ⟨x0, x1, x2, x3, x4, x5, rfl, h1, h2, h3, h4, h5⟩ := q0w (hw.2 row (List.mem_of_getElem? hg))
     refine xs rfl (Int.natCast_nonneg _) (y9 rfl _ hg (xs rfl rfl ?_))
     refine z7 rfl (q6l _ _ _ _ _ _ _ h1 h2 h3 h4 h5 hb (z0j p1 p0)) rfl ⟨⟨trivial, trivial, trivial, trivial, trivial, trivial, trivial⟩, trivial, trivial⟩ ?_
     refine xb rfl (fun hn => ?_) (fun hn => ?_)
     · have hn : szn (szn b (rr.length + z01 (tot zf) (rr.take i))) (tot zf [.s (.int .i64 x0), .l x1, .l x2, .l x3, .l x4, .l x5]) < 0 := by simpa using hn
       rw [yi hb] at hn
       exact xr rfl (q7 rfl ⟨⟨rfl, (by show Value.int _ _ = Value.int _ _; congr 1; unfold szn zm at *; split at hn <;> rw [if_pos] <;> omega), trivial⟩, z6 rfl⟩)
     · have hn : ¬ szn (szn b (rr.length + z01 (tot zf) (rr.take i))) (tot zf [.s (.int .i64 x0), .l x1, .l x2, .l x3, .l x4, .l x5]) < 0 := by simpa using hn
       have he := yi (n := tot zf [.s (.int .i64 x0), .l x1, .l x2, .l x3, .l x4, .l x5]) hb
       rw [he] at hn
       rw [Nat.add_assoc, ← hc] at he hn
       refine ya rfl (hJ _ (i + 1) ⟨by omega, by omega⟩ (by omega) ?_)
       refine ⟨⟨cwi (by omega) (by omega) (by omega), ?_, rfl, trivial⟩, trivial, rfl⟩
       exact congrArg (fun n => Cell.s (.int .i64 n)) he
   · have h : ¬ i < rr.length := by simpa using h
     have : i = rr.length := by omega
     subst this
     exact xr rfl (q7 rfl ⟨⟨rfl, (by show Value.int _ _ = Value.int _ _; rw [List.take_length]; rfl), trivial⟩, z6 rfl⟩)
theorem z3r (rr : List (List Cell)) (b : Int) (hw : WR 9223372036854775807 ym rr) (p0 : 0 ≤ b) (p1 : b ≤ 1048576) : PC Tryz.prog 300 [.one (.l rr), .one (.s (.int .i64 b))] (rI (szn b (zm ym rr))) := by
 refine PC.begin Tryz.func300 rfl (by kernel_rfl) ?_
 have hlen := hw.1
 have w1 : IntKind.i64.wrap (b - rr.length) = b - rr.length := wrap_i64 (by omega) (by omega)
 rw [z0p (fun row hr => by obtain ⟨x0, x1, rfl⟩ := q1f hr; rfl) hw]
 refine xb rfl (fun h => ?_) (fun h => ?_)
 · simp only [w1, decide_eq_true_eq] at h
   exact xr rfl (q7 rfl ⟨⟨rfl, (by show Value.int _ _ = Value.int _ _; rw [szn, if_pos h]), trivial⟩, z6 rfl⟩)
 · simp only [w1, decide_eq_false_iff_not] at h
   exact xr rfl (q7 rfl ⟨⟨rfl, (by show Value.int .i64 (IntKind.i64.wrap (b - rr.length)) = Value.int _ _; rw [szn, if_neg h, w1]), trivial⟩, z6 rfl⟩)
theorem z7q (x0 : Int) (x1 : Int) (x2 : Int) (x3 : Int) (x4 : Int) (x5 : List (List Cell)) (b : Int) (h5 : WR 9223372036854775807 ym x5) (hb0 : 0 ≤ b) (hb1 : b ≤ 1048576) : PC Tryz.prog 236 [.agg [.s (.int .i64 x0), .s (.int .i64 x1), .s (.int .i64 x2), .s (.int .i64 x3), .s (.int .i64 x4), .l x5], .one (.s (.int .i64 b))] (rI (szn b (tot ql [.s (.int .i64 x0), .s (.int .i64 x1), .s (.int .i64 x2), .s (.int .i64 x3), .s (.int .i64 x4), .l x5]))) := by
 refine PC.begin Tryz.func236 rfl (by kernel_rfl) ?_
 have ht : tot ql [.s (.int .i64 x0), .s (.int .i64 x1), .s (.int .i64 x2), .s (.int .i64 x3), .s (.int .i64 x4), .l x5] = zm ym x5 := by simp only [tot, zm] <;> omega
 refine z7 rfl (z3r x5 b h5 hb0 hb1) rfl ⟨trivial, trivial, trivial⟩ ?_
 refine xb rfl (fun h => ?_) (fun e0 => ?_)
 · have h : szn b (zm ym x5) < 0 := by simpa using h
   exact xr rfl (q7 rfl ⟨⟨rfl, (by show Value.int _ _ = Value.int _ _; congr 1; rw [ht]; unfold szn at *; split at h <;> rw [if_pos] <;> omega), trivial⟩, z6 rfl⟩)
 have e0 : 0 ≤ szn b (zm ym x5) := by simpa using e0
 exact xr rfl (q7 rfl ⟨⟨rfl, (by show Value.int _ _ = Value.int _ _; rw [ht]), trivial⟩, z6 rfl⟩)
theorem z6m (rr : List (List Cell)) (b : Int) (hw : WR 9223372036854775807 ql rr) (p0 : 0 ≤ b) (p1 : b ≤ 1048576) : PC Tryz.prog 177 [.one (.l rr), .one (.s (.int .i64 b))] (rI (szn b (zm ql rr))) := by
 refine PC.begin Tryz.func177 rfl (by kernel_rfl) ?_
 have hlen := hw.1
 have w1 : IntKind.i64.wrap (b - rr.length) = b - rr.length := wrap_i64 (by omega) (by omega)
 refine xb rfl (fun h => ?_) (fun h => ?_)
 · simp only [w1, decide_eq_true_eq] at h
   exact xr rfl (q7 rfl ⟨⟨rfl, (by show Value.int _ _ = Value.int _ _; unfold szn zm; rw [if_pos (by omega)]), trivial⟩, z6 rfl⟩)
 simp only [w1, decide_eq_false_iff_not] at h
 have hs : szn b rr.length = b - rr.length := by unfold szn; rw [if_neg h]
 refine yc rfl (ι := Nat) (fun i => i ≤ rr.length ∧ 0 ≤ szn b (rr.length + z01 (tot ql) (rr.take i))) (fun i => ⟨[(5, sV (.int .i64 i)), (1, sV (.int .i64 (szn b (rr.length + z01 (tot ql) (rr.take i))))), (0, .one (.b (.l rr)))], []⟩) (fun i => rr.length - i) 0 ⟨Nat.zero_le _, by simp only [List.take_zero, z01, Nat.add_zero, hs]; omega⟩ ?_ ?_
 · refine ⟨⟨rfl, ?_, rfl, trivial⟩, trivial, rfl⟩
   show Cell.s (.int .i64 (IntKind.i64.wrap (b - rr.length))) = Cell.s (.int .i64 (szn b (rr.length + 0)))
   rw [w1, Nat.add_zero, hs]
 · intro i ⟨hi, hb⟩ J hJ
   refine xb rfl (fun h => ?_) (fun h => ?_)
   · have h : i < rr.length := by simpa using h
     obtain ⟨row, hg⟩ : ∃ row, rr[i]? = some row := ⟨_, List.getElem?_eq_getElem h⟩
     have hc := z0v (f := tot ql) hg
     have hc2 := z0l (tot ql) rr (i + 1)
     obtain ⟨x0, x1, x2, x3, x4, x5, rfl, h5⟩ := y1f (hw.2 row (List.mem_of_getElem? hg))
     refine xs rfl (Int.natCast_nonneg _) (y9 rfl _ hg (xs rfl rfl ?_))
     refine z7 rfl (z7q _ _ _ _ _ _ _ h5 hb (z0j p1 p0)) rfl ⟨⟨trivial, trivial, trivial, trivial, trivial, trivial, trivial⟩, trivial, trivial⟩ ?_
     refine xb rfl (fun hn => ?_) (fun hn => ?_)
     · have hn : szn (szn b (rr.length + z01 (tot ql) (rr.take i))) (tot ql [.s (.int .i64 x0), .s (.int .i64 x1), .s (.int .i64 x2), .s (.int .i64 x3), .s (.int .i64 x4), .l x5]) < 0 := by simpa using hn
       rw [yi hb] at hn
       exact xr rfl (q7 rfl ⟨⟨rfl, (by show Value.int _ _ = Value.int _ _; congr 1; unfold szn zm at *; split at hn <;> rw [if_pos] <;> omega), trivial⟩, z6 rfl⟩)
     · have hn : ¬ szn (szn b (rr.length + z01 (tot ql) (rr.take i))) (tot ql [.s (.int .i64 x0), .s (.int .i64 x1), .s (.int .i64 x2), .s (.int .i64 x3), .s (.int .i64 x4), .l x5]) < 0 := by simpa using hn
       have he := yi (n := tot ql [.s (.int .i64 x0), .s (.int .i64 x1), .s (.int .i64 x2), .s (.int .i64 x3), .s (.int .i64 x4), .l x5]) hb
       rw [he] at hn
       rw [Nat.add_assoc, ← hc] at he hn
       refine ya rfl (hJ _ (i + 1) ⟨by omega, by omega⟩ (by omega) ?_)
       refine ⟨⟨cwi (by omega) (by omega) (by omega), ?_, rfl, trivial⟩, trivial, rfl⟩
       exact congrArg (fun n => Cell.s (.int .i64 n)) he
   · have h : ¬ i < rr.length := by simpa using h
     have : i = rr.length := by omega
     subst this
     exact xr rfl (q7 rfl ⟨⟨rfl, (by show Value.int _ _ = Value.int _ _; rw [List.take_length]; rfl), trivial⟩, z6 rfl⟩)
theorem y4e (x0 : List (List Cell)) (b : Int) (h0 : WR 9223372036854775807 ql x0) (hb0 : 0 ≤ b) (hb1 : b ≤ 1048576) : PC Tryz.prog 111 [.agg [.l x0], .one (.s (.int .i64 b))] (rI (szn b (tot za [.l x0]))) := by
 refine PC.begin Tryz.func111 rfl (by kernel_rfl) ?_
 have ht : tot za [.l x0] = zm ql x0 := by simp only [tot, zm] <;> omega
 refine z7 rfl (z6m x0 b h0 hb0 hb1) rfl ⟨trivial, trivial, trivial⟩ ?_
 refine xb rfl (fun h => ?_) (fun e0 => ?_)
 · have h : szn b (zm ql x0) < 0 := by simpa using h
   exact xr rfl (q7 rfl ⟨⟨rfl, (by show Value.int _ _ = Value.int _ _; congr 1; rw [ht]; unfold szn at *; split at h <;> rw [if_pos] <;> omega), trivial⟩, z6 rfl⟩)
 have e0 : 0 ≤ szn b (zm ql x0) := by simpa using e0
 exact xr rfl (q7 rfl ⟨⟨rfl, (by show Value.int _ _ = Value.int _ _; rw [ht]), trivial⟩, z6 rfl⟩)
theorem z3i (rr : List (List Cell)) (b : Int) (hw : WR 9223372036854775807 za rr) (p0 : 0 ≤ b) (p1 : b ≤ 1048576) : PC Tryz.prog 52 [.one (.l rr), .one (.s (.int .i64 b))] (rI (szn b (zm za rr))) := by
 refine PC.begin Tryz.func52 rfl (by kernel_rfl) ?_
 have hlen := hw.1
 have w1 : IntKind.i64.wrap (b - rr.length) = b - rr.length := wrap_i64 (by omega) (by omega)
 refine xb rfl (fun h => ?_) (fun h => ?_)
 · simp only [w1, decide_eq_true_eq] at h
   exact xr rfl (q7 rfl ⟨⟨rfl, (by show Value.int _ _ = Value.int _ _; unfold szn zm; rw [if_pos (by omega)]), trivial⟩, z6 rfl⟩)
 simp only [w1, decide_eq_false_iff_not] at h
 have hs : szn b rr.length = b - rr.length := by unfold szn; rw [if_neg h]
 refine yc rfl (ι := Nat) (fun i => i ≤ rr.length ∧ 0 ≤ szn b (rr.length + z01 (tot za) (rr.take i))) (fun i => ⟨[(5, sV (.int .i64 i)), (1, sV (.int .i64 (szn b (rr.length + z01 (tot za) (rr.take i))))), (0, .one (.b (.l rr)))], []⟩) (fun i => rr.length - i) 0 ⟨Nat.zero_le _, by simp only [List.take_zero, z01, Nat.add_zero, hs]; omega⟩ ?_ ?_
 · refine ⟨⟨rfl, ?_, rfl, trivial⟩, trivial, rfl⟩
   show Cell.s (.int .i64 (IntKind.i64.wrap (b - rr.length))) = Cell.s (.int .i64 (szn b (rr.length + 0)))
   rw [w1, Nat.add_zero, hs]
 · intro i ⟨hi, hb⟩ J hJ
   refine xb rfl (fun h => ?_) (fun h => ?_)
   · have h : i < rr.length := by simpa using h
     obtain ⟨row, hg⟩ : ∃ row, rr[i]? = some row := ⟨_, List.getElem?_eq_getElem h⟩
     have hc := z0v (f := tot za) hg
     have hc2 := z0l (tot za) rr (i + 1)
     obtain ⟨x0, rfl, h0⟩ := z07 (hw.2 row (List.mem_of_getElem? hg))
     refine xs rfl (Int.natCast_nonneg _) (y9 rfl _ hg (xs rfl rfl ?_))
     refine z7 rfl (y4e _ _ h0 hb (z0j p1 p0)) rfl ⟨⟨trivial, trivial⟩, trivial, trivial⟩ ?_
     refine xb rfl (fun hn => ?_) (fun hn => ?_)
     · have hn : szn (szn b (rr.length + z01 (tot za) (rr.take i))) (tot za [.l x0]) < 0 := by simpa using hn
       rw [yi hb] at hn
       exact xr rfl (q7 rfl ⟨⟨rfl, (by show Value.int _ _ = Value.int _ _; congr 1; unfold szn zm at *; split at hn <;> rw [if_pos] <;> omega), trivial⟩, z6 rfl⟩)
     · have hn : ¬ szn (szn b (rr.length + z01 (tot za) (rr.take i))) (tot za [.l x0]) < 0 := by simpa using hn
       have he := yi (n := tot za [.l x0]) hb
       rw [he] at hn
       rw [Nat.add_assoc, ← hc] at he hn
       refine ya rfl (hJ _ (i + 1) ⟨by omega, by omega⟩ (by omega) ?_)
       refine ⟨⟨cwi (by omega) (by omega) (by omega), ?_, rfl, trivial⟩, trivial, rfl⟩
       exact congrArg (fun n => Cell.s (.int .i64 n)) he
   · have h : ¬ i < rr.length := by simpa using h
     have : i = rr.length := by omega
     subst this
     exact xr rfl (q7 rfl ⟨⟨rfl, (by show Value.int _ _ = Value.int _ _; rw [List.take_length]; rfl), trivial⟩, z6 rfl⟩)
theorem y8k (x0 : Int) (x1 : Int) (x2 : Int) (x3 : Int) (x4 : List (List Cell)) (x5 : List (List Cell)) (b : Int) (h4 : WR 9223372036854775807 (.i .i64 .nil) x4) (h5 : WR 9223372036854775807 ym x5) (hb0 : 0 ≤ b) (hb1 : b ≤ 1048576) : PC Tryz.prog 237 [.agg [.s (.int .i64 x0), .s (.int .i64 x1), .s (.int .i64 x2), .s (.int .i64 x3), .l x4, .l x5], .one (.s (.int .i64 b))] (rI (szn b (tot yp [.s (.int .i64 x0), .s (.int .i64 x1), .s (.int .i64 x2), .s (.int .i64 x3), .l x4, .l x5]))) := by
 refine PC.begin Tryz.func237 rfl (by kernel_rfl) ?_
 have ht : tot yp [.s (.int .i64 x0), .s (.int .i64 x1), .s (.int .i64 x2), .s (.int .i64 x3), .l x4, .l x5] = zm (.i .i64 .nil) x4 + zm ym x5 := by simp only [tot, zm] <;> omega
 refine z7 rfl (q38 x4 b h4 hb0 hb1) rfl ⟨trivial, trivial, trivial⟩ ?_
 refine xb rfl (fun h => ?_) (fun e0 => ?_)
 · have h : szn b (zm (.i .i64 .nil) x4) < 0 := by simpa using h
   exact xr rfl (q7 rfl ⟨⟨rfl, (by show Value.int _ _ = Value.int _ _; congr 1; rw [ht]; unfold szn at *; split at h <;> rw [if_pos] <;> omega), trivial⟩, z6 rfl⟩)
 have e0 : 0 ≤ szn b (zm (.i .i64 .nil) x4) := by simpa using e0
 refine z7 rfl (z3r x5 (szn b (zm (.i .i64 .nil) x4)) h5 e0 (z0j hb1 hb0)) rfl ⟨trivial, trivial, trivial⟩ ?_
 refine xb rfl (fun h => ?_) (fun e1 => ?_)
 · have h : szn (szn b (zm (.i .i64 .nil) x4)) (zm ym x5) < 0 := by simpa using h
   rw [yi e0] at h
   exact xr rfl (q7 rfl ⟨⟨rfl, (by show Value.int _ _ = Value.int _ _; congr 1; rw [ht]; unfold szn at *; split at h <;> rw [if_pos] <;> omega), trivial⟩, z6 rfl⟩)
 have e1 : 0 ≤ szn b (zm (.i .i64 .nil) x4 + zm ym x5) := by rw [← yi e0]; simpa using e1
 rw [yi e0]
 exact xr rfl (q7 rfl ⟨⟨rfl, (by show Value.int _ _ = Value.int _ _; rw [ht]), trivial⟩, z6 rfl⟩)
theorem y7q (rr : List (List Cell)) (b : Int) (hw : WR 9223372036854775807 yp rr) (p0 : 0 ≤ b) (p1 : b ≤ 1048576) : PC Tryz.prog 178 [.one (.l rr), .one (.s (.int .i64 b))] (rI (szn b (zm yp rr))) := by
 refine PC.begin Tryz.func178 rfl (by kernel_rfl) ?_
 have hlen := hw.1
 have w1 : IntKind.i64.wrap (b - rr.length) = b - rr.length := wrap_i64 (by omega) (by omega)
 refine xb rfl (fun h => ?_) (fun h => ?_)
 · simp only [w1, decide_eq_true_eq] at h
   exact xr rfl (q7 rfl ⟨⟨rfl, (by show Value.int _ _ = Value.int _ _; unfold szn zm; rw [if_pos (by omega)]), trivial⟩, z6 rfl⟩)
 simp only [w1, decide_eq_false_iff_not] at h
 have hs : szn b rr.length = b - rr.length := by unfold szn; rw [if_neg h]
 refine yc rfl (ι := Nat) (fun i => i ≤ rr.length ∧ 0 ≤ szn b (rr.length + z01 (tot yp) (rr.take i))) (fun i => ⟨[(5, sV (.int .i64 i)), (1, sV (.int .i64 (szn b (rr.length + z01 (tot yp) (rr.take i))))), (0, .one (.b (.l rr)))], []⟩) (fun i => rr.length - i) 0 ⟨Nat.zero_le _, by simp only [List.take_zero, z01, Nat.add_zero, hs]; omega⟩ ?_ ?_
 · refine ⟨⟨rfl, ?_, rfl, trivial⟩, trivial, rfl⟩
   show Cell.s (.int .i64 (IntKind.i64.wrap (b - rr.length))) = Cell.s (.int .i64 (szn b (rr.length + 0)))
   rw [w1, Nat.add_zero, hs]
 · intro i ⟨hi, hb⟩ J hJ
   refine xb rfl (fun h => ?_) (fun h => ?_)
   · have h : i < rr.length := by simpa using h
     obtain ⟨row, hg⟩ : ∃ row, rr[i]? = some row := ⟨_, List.getElem?_eq_getElem h⟩
     have hc := z0v (f := tot yp) hg
     have hc2 := z0l (tot yp) rr (i + 1)
     obtain ⟨x0, x1, x2, x3, x4, x5, rfl, h4, h5⟩ := z29 (hw.2 row (List.mem_of_getElem? hg))
     refine xs rfl (Int.natCast_nonneg _) (y9 rfl _ hg (xs rfl rfl ?_))
     refine z7 rfl (y8k _ _ _ _ _ _ _ h4 h5 hb (z0j p1 p0)) rfl ⟨⟨trivial, trivial, trivial, trivial, trivial, trivial, trivial⟩, trivial, trivial⟩ ?_
     refine xb rfl (fun hn => ?_) (fun hn => ?_)
     · have hn : szn (szn b (rr.length + z01 (tot yp) (rr.take i))) (tot yp [.s (.int .i64 x0), .s (.int .i64 x1), .s (.int .i64 x2), .s (.int .i64 x3), .l x4, .l x5]) < 0 := by simpa using hn
       rw [yi hb] at hn
       exact xr rfl (q7 rfl ⟨⟨rfl, (by show Value.int _ _ = Value.int _ _; congr 1; unfold szn zm at *; split at hn <;> rw [if_pos] <;> omega), trivial⟩, z6 rfl⟩)
     · have hn : ¬ szn (szn b (rr.length + z01 (tot yp) (rr.take i))) (tot yp [.s (.int .i64 x0), .s (.int .i64 x1), .s (.int .i64 x2), .s (.int .i64 x3), .l x4, .l x5]) < 0 := by simpa using hn
       have he := yi (n := tot yp [.s (.int .i64 x0), .s (.int .i64 x1), .s (.int .i64 x2), .s (.int .i64 x3), .l x4, .l x5]) hb
       rw [he] at hn
       rw [Nat.add_assoc, ← hc] at he hn
       refine ya rfl (hJ _ (i + 1) ⟨by omega, by omega⟩ (by omega) ?_)
       refine ⟨⟨cwi (by omega) (by omega) (by omega), ?_, rfl, trivial⟩, trivial, rfl⟩
       exact congrArg (fun n => Cell.s (.int .i64 n)) he
   · have h : ¬ i < rr.length := by simpa using h
     have : i = rr.length := by omega
     subst this
     exact xr rfl (q7 rfl ⟨⟨rfl, (by show Value.int _ _ = Value.int _ _; rw [List.take_length]; rfl), trivial⟩, z6 rfl⟩)
theorem z5m (rr : List (List Cell)) (b : Int) (hw : WR 9223372036854775807 qn rr) (p0 : 0 ≤ b) (p1 : b ≤ 1048576) : PC Tryz.prog 179 [.one (.l rr), .one (.s (.int .i64 b))] (rI (szn b (zm qn rr))) := by
 refine PC.begin Tryz.func179 rfl (by kernel_rfl) ?_
 have hlen := hw.1
 have w1 : IntKind.i64.wrap (b - rr.length) = b - rr.length := wrap_i64 (by omega) (by omega)
 rw [z0p (fun row hr => by obtain ⟨x0, x1, x2, x3, x4, rfl⟩ := y0w hr; rfl) hw]
 refine xb rfl (fun h => ?_) (fun h => ?_)
 · simp only [w1, decide_eq_true_eq] at h
   exact xr rfl (q7 rfl ⟨⟨rfl, (by show Value.int _ _ = Value.int _ _; rw [szn, if_pos h]), trivial⟩, z6 rfl⟩)
 · simp only [w1, decide_eq_false_iff_not] at h
   exact xr rfl (q7 rfl ⟨⟨rfl, (by show Value.int .i64 (IntKind.i64.wrap (b - rr.length)) = Value.int _ _; rw [szn, if_neg h, w1]), trivial⟩, z6 rfl⟩)
theorem y5m (x0 : Int) (x1 : List (List Cell)) (x2 : List (List Cell)) (b : Int) (h1 : WR 9223372036854775807 yp x1) (h2 : WR 9223372036854775807 qn x2) (hb0 : 0 ≤ b) (hb1 : b ≤ 1048576) : PC Tryz.prog 112 [.agg [.s (.int .i64 x0), .l x1, .l x2], .one (.s (.int .i64 b))] (rI (szn b (tot qd [.s (.int .i64 x0), .l x1, .l x2]))) := by
 refine PC.begin Tryz.func112 rfl (by kernel_rfl) ?_
 have ht : tot qd [.s (.int .i64 x0), .l x1, .l x2] = zm yp x1 + zm qn x2 := by simp only [tot, zm] <;> omega
 refine z7 rfl (y7q x1 b h1 hb0 hb1) rfl ⟨trivial, trivial, trivial⟩ ?_
 refine xb rfl (fun h => ?_) (fun e0 => ?_)
 · have h : szn b (zm yp x1) < 0 := by simpa using h
   exact xr rfl (q7 rfl ⟨⟨rfl, (by show Value.int _ _ = Value.int _ _; congr 1; rw [ht]; unfold szn at *; split at h <;> rw [if_pos] <;> omega), trivial⟩, z6 rfl⟩)
 have e0 : 0 ≤ szn b (zm yp x1) := by simpa using e0
 refine z7 rfl (z5m x2 (szn b (zm yp x1)) h2 e0 (z0j hb1 hb0)) rfl ⟨trivial, trivial, trivial⟩ ?_
 refine xb rfl (fun h => ?_) (fun e1 => ?_)
 · have h : szn (szn b (zm yp x1)) (zm qn x2) < 0 := by simpa using h
   rw [yi e0] at h
   exact xr rfl (q7 rfl ⟨⟨rfl, (by show Value.int _ _ = Value.int _ _; congr 1; rw [ht]; unfold szn at *; split at h <;> rw [if_pos] <;> omega), trivial⟩, z6 rfl⟩)
 have e1 : 0 ≤ szn b (zm yp x1 + zm qn x2) := by rw [← yi e0]; simpa using e1
 rw [yi e0]
 exact xr rfl (q7 rfl ⟨⟨rfl, (by show Value.int _ _ = Value.int _ _; rw [ht]), trivial⟩, z6 rfl⟩)
theorem q52 (rr : List (List Cell)) (b : Int) (hw : WR 9223372036854775807 qd rr) (p0 : 0 ≤ b) (p1 : b ≤ 1048576) : PC Tryz.prog 53 [.one (.l rr), .one (.s (.int .i64 b))] (rI (szn b (zm qd rr))) := by
 refine PC.begin Tryz.func53 rfl (by kernel_rfl) ?_
 have hlen := hw.1
 have w1 : IntKind.i64.wrap (b - rr.length) = b - rr.length := wrap_i64 (by omega) (by omega)
 refine xb rfl (fun h => ?_) (fun h => ?_)
 · simp only [w1, decide_eq_true_eq] at h
   exact xr rfl (q7 rfl ⟨⟨rfl, (by show Value.int _ _ = Value.int _ _; unfold szn zm; rw [if_pos (by omega)]), trivial⟩, z6 rfl⟩)
 simp only [w1, decide_eq_false_iff_not] at h
 have hs : szn b rr.length = b - rr.length := by unfold szn; rw [if_neg h]
 refine yc rfl (ι := Nat) (fun i => i ≤ rr.length ∧ 0 ≤ szn b (rr.length + z01 (tot qd) (rr.take i))) (fun i => ⟨[(5, sV (.int .i64 i)), (1, sV (.int .i64 (szn b (rr.length + z01 (tot qd) (rr.take i))))), (0, .one (.b (.l rr)))], []⟩) (fun i => rr.length - i) 0 ⟨Nat.zero_le _, by simp only [List.take_zero, z01, Nat.add_zero, hs]; omega⟩ ?_ ?_
 · refine ⟨⟨rfl, ?_, rfl, trivial⟩, trivial, rfl⟩
   show Cell.s (.int .i64 (IntKind.i64.wrap (b - rr.length))) = Cell.s (.int .i64 (szn b (rr.length + 0)))
   rw [w1, Nat.add_zero, hs]
 · intro i ⟨hi, hb⟩ J hJ
   refine xb rfl (fun h => ?_) (fun h => ?_)
   · have h : i < rr.length := by simpa using h
     obtain ⟨row, hg⟩ : ∃ row, rr[i]? = some row := ⟨_, List.getElem?_eq_getElem h⟩
     have hc := z0v (f := tot qd) hg
     have hc2 := z0l (tot qd) rr (i + 1)
     obtain ⟨x0, x1, x2, rfl, h1, h2⟩ := y0l (hw.2 row (List.mem_of_getElem? hg))
     refine xs rfl (Int.natCast_nonneg _) (y9 rfl _ hg (xs rfl rfl ?_))
     refine z7 rfl (y5m _ _ _ _ h1 h2 hb (z0j p1 p0)) rfl ⟨⟨trivial, trivial, trivial, trivial⟩, trivial, trivial⟩ ?_
     refine xb rfl (fun hn => ?_) (fun hn => ?_)
     · have hn : szn (szn b (rr.length + z01 (tot qd) (rr.take i))) (tot qd [.s (.int .i64 x0), .l x1, .l x2]) < 0 := by simpa using hn
       rw [yi hb] at hn
       exact xr rfl (q7 rfl ⟨⟨rfl, (by show Value.int _ _ = Value.int _ _; congr 1; unfold szn zm at *; split at hn <;> rw [if_pos] <;> omega), trivial⟩, z6 rfl⟩)
     · have hn : ¬ szn (szn b (rr.length + z01 (tot qd) (rr.take i))) (tot qd [.s (.int .i64 x0), .l x1, .l x2]) < 0 := by simpa using hn
       have he := yi (n := tot qd [.s (.int .i64 x0), .l x1, .l x2]) hb
       rw [he] at hn
       rw [Nat.add_assoc, ← hc] at he hn
       refine ya rfl (hJ _ (i + 1) ⟨by omega, by omega⟩ (by omega) ?_)
       refine ⟨⟨cwi (by omega) (by omega) (by omega), ?_, rfl, trivial⟩, trivial, rfl⟩
       exact congrArg (fun n => Cell.s (.int .i64 n)) he
   · have h : ¬ i < rr.length := by simpa using h
     have : i = rr.length := by omega
     subst this
     exact xr rfl (q7 rfl ⟨⟨rfl, (by show Value.int _ _ = Value.int _ _; rw [List.take_length]; rfl), trivial⟩, z6 rfl⟩)
theorem y4f (rr : List (List Cell)) (b : Int) (hw : WR 9223372036854775807 zg rr) (p0 : 0 ≤ b) (p1 : b ≤ 1048576) : PC Tryz.prog 54 [.one (.l rr), .one (.s (.int .i64 b))] (rI (szn b (zm zg rr))) := by
 refine PC.begin Tryz.func54 rfl (by kernel_rfl) ?_
 have hlen := hw.1
 have w1 : IntKind.i64.wrap (b - rr.length) = b - rr.length := wrap_i64 (by omega) (by omega)
 rw [z0p (fun row hr => by obtain ⟨x0, x1, x2, x3, x4, x5, x6, x7, x8, rfl⟩ := y0c hr; rfl) hw]
 refine xb rfl (fun h => ?_) (fun h => ?_)
 · simp only [w1, decide_eq_true_eq] at h
   exact xr rfl (q7 rfl ⟨⟨rfl, (by show Value.int _ _ = Value.int _ _; rw [szn, if_pos h]), trivial⟩, z6 rfl⟩)
 · simp only [w1, decide_eq_false_iff_not] at h
   exact xr rfl (q7 rfl ⟨⟨rfl, (by show Value.int .i64 (IntKind.i64.wrap (b - rr.length)) = Value.int _ _; rw [szn, if_neg h, w1]), trivial⟩, z6 rfl⟩)
theorem y52 (x0 : List (List Cell)) (x1 : List (List Cell)) (x2 : List (List Cell)) (x3 : List (List Cell)) (x4 : List (List Cell)) (b : Int) (h0 : WR 9223372036854775807 z8 x0) (h1 : WR 9223372036854775807 zf x1) (h2 : WR 9223372036854775807 za x2) (h3 : WR 9223372036854775807 qd x3) (h4 : WR 9223372036854775807 zg x4) (hb0 : 0 ≤ b) (hb1 : b ≤ 1048576) : PC Tryz.prog 12 [.agg [.l x0, .l x1, .l x2, .l x3, .l x4], .one (.s (.int .i64 b))] (rI (szn b (tot zo [.l x0, .l x1, .l x2, .l x3, .l x4]))) := by
 refine PC.begin Tryz.func12 rfl (by kernel_rfl) ?_
 have ht : tot zo [.l x0, .l x1, .l x2, .l x3, .l x4] = zm z8 x0 + zm zf x1 + zm za x2 + zm qd x3 + zm zg x4 := by simp only [tot, zm] <;> omega
 refine z7 rfl (z1l x0 b h0 hb0 hb1) rfl ⟨trivial, trivial, trivial⟩ ?_
 refine xb rfl (fun h => ?_) (fun e0 => ?_)
 · have h : szn b (zm z8 x0) < 0 := by simpa using h
   exact xr rfl (q7 rfl ⟨⟨rfl, (by show Value.int _ _ = Value.int _ _; congr 1; rw [ht]; unfold szn at *; split at h <;> rw [if_pos] <;> omega), trivial⟩, z6 rfl⟩)
 have e0 : 0 ≤ szn b (zm z8 x0) := by simpa using e0
 refine z7 rfl (q5m x1 (szn b (zm z8 x0)) h1 e0 (z0j hb1 hb0)) rfl ⟨trivial, trivial, trivial⟩ ?_
 refine xb rfl (fun h => ?_) (fun e1 => ?_)
 · have h : szn (szn b (zm z8 x0)) (zm zf x1) < 0 := by simpa using h
   rw [yi e0] at h
   exact xr rfl (q7 rfl ⟨⟨rfl, (by show Value.int _ _ = Value.int _ _; congr 1; rw [ht]; unfold szn at *; split at h <;> rw [if_pos] <;> omega), trivial⟩, z6 rfl⟩)
 have e1 : 0 ≤ szn b (zm z8 x0 + zm zf x1) := by rw [← yi e0]; simpa using e1
 rw [yi e0]
 refine z7 rfl (z3i x2 (szn b (zm z8 x0 + zm zf x1)) h2 e1 (z0j hb1 hb0)) rfl ⟨trivial, trivial, trivial⟩ ?_
 refine xb rfl (fun h => ?_) (fun e2 => ?_)
 · have h : szn (szn b (zm z8 x0 + zm zf x1)) (zm za x2) < 0 := by simpa using h
   rw [yi e1] at h
   exact xr rfl (q7 rfl ⟨⟨rfl, (by show Value.int _ _ = Value.int _ _; congr 1; rw [ht]; unfold szn at *; split at h <;> rw [if_pos] <;> omega), trivial⟩, z6 rfl⟩)
 have e2 : 0 ≤ szn b (zm z8 x0 + zm zf x1 + zm za x2) := by rw [← yi e1]; simpa using e2
 rw [yi e1]
 refine z7 rfl (q52 x3 (szn b (zm z8 x0 + zm zf x1 + zm za x2)) h3 e2 (z0j hb1 hb0)) rfl ⟨trivial, trivial, trivial⟩ ?_
 refine xb rfl (fun h => ?_) (fun e3 => ?_)
 · have h : szn (szn b (zm z8 x0 + zm zf x1 + zm za x2)) (zm qd x3) < 0 := by simpa using h
   rw [yi e2] at h
   exact xr rfl (q7 rfl ⟨⟨rfl, (by show Value.int _ _ = Value.int _ _; congr 1; rw [ht]; unfold szn at *; split at h <;> rw [if_pos] <;> omega), trivial⟩, z6 rfl⟩)
 have e3 : 0 ≤ szn b (zm z8 x0 + zm zf x1 + zm za x2 + zm qd x3) := by rw [← yi e2]; simpa using e3
 rw [yi e2]
 refine z7 rfl (y4f x4 (szn b (zm z8 x0 + zm zf x1 + zm za x2 + zm qd x3)) h4 e3 (z0j hb1 hb0)) rfl ⟨trivial, trivial, trivial⟩ ?_
 refine xb rfl (fun h => ?_) (fun e4 => ?_)
 · have h : szn (szn b (zm z8 x0 + zm zf x1 + zm za x2 + zm qd x3)) (zm zg x4) < 0 := by simpa using h
   rw [yi e3] at h
   exact xr rfl (q7 rfl ⟨⟨rfl, (by show Value.int _ _ = Value.int _ _; congr 1; rw [ht]; unfold szn at *; split at h <;> rw [if_pos] <;> omega), trivial⟩, z6 rfl⟩)
 have e4 : 0 ≤ szn b (zm z8 x0 + zm zf x1 + zm za x2 + zm qd x3 + zm zg x4) := by rw [← yi e3]; simpa using e4
 rw [yi e3]
 exact xr rfl (q7 rfl ⟨⟨rfl, (by show Value.int _ _ = Value.int _ _; rw [ht]), trivial⟩, z6 rfl⟩)
end Go.Proofs.YthljegacamgnnaaGreat
end
section
namespace Go.Proofs.YthljegacamgnnaaGreat
open Go Go.Sx
set_option maxRecDepth 20000
set_option maxHeartbeats 4000000
theorem q9z (x0 x1 x2 x3 x4 : List (List Cell)) (hw : WT 9223372036854775807 zo [.l x0, .l x1, .l x2, .l x3, .l x4]) (b : Nat) (hb : b ≤ 1048576) :
 PC Tryz.prog 12 [.agg [.l x0, .l x1, .l x2, .l x3, .l x4], .one (i64 b)] (rI (-1)) ∨ ∃ c : Clu, x0 = c.cons.map Con.cs ∧ x1 = c.shs.map Shd.cs ∧ x2 = c.accs.map Acc.cs ∧ x3 = c.ldrs.map Ldr.cs ∧ x4 = c.msgs.map Msg.cs ∧ yw c ∧ (WT 1048576 zo c.cs ∧ tot zo c.cs ≤ b) ∧
  (∃ n : Nat, n ≤ b ∧ PC Tryz.prog 12 [.agg c.cs, .one (i64 b)] (rI n)) ∧ PC Tryz.prog 14 [.agg c.cs] (.one (.own true [.l 2 (c.cons.map Con.cs), .l 6 (c.shs.map Shd.cs), .l 1 (c.accs.map Acc.cs), .l 3 (c.ldrs.map Ldr.cs), .l 9 (c.msgs.map Msg.cs)])) ∧
  PC Tryz.prog 17 [.agg c.cs, .agg c.cs] (rB true) := by
 obtain ⟨_, _, _, _, _, e, k0, k1, k2, k3, k4⟩ := q0m hw
 cases e
 have hsz := y52 x0 x1 x2 x3 x4 b k0 k1 k2 k3 k4 (by omega) (by omega)
 by_cases ht : tot zo [.l x0, .l x1, .l x2, .l x3, .l x4] ≤ b
 · right
   have hs : szn b (tot zo [.l x0, .l x1, .l x2, .l x3, .l x4]) = ((b - tot zo [.l x0, .l x1, .l x2, .l x3, .l x4] : Nat) : Int) := by
    unfold szn; rw [if_neg (by omega)]; omega
   rw [hs] at hsz
   have hwt := zaa hw (Nat.le_trans ht hb)
   obtain ⟨_, _, _, _, _, e, m0, m1, m2, m3, m4⟩ := q0m hwt
   cases e
   obtain ⟨c, ec, ho⟩ := y4l _ hwt
   have up : ∀ {e : Sh} {r : List (List Cell)}, WR 1048576 e r → WR 9000000000000000000 e r := fun h => h.mono (by omega)
   have heq := z4n x0 x1 x2 x3 x4 x0 x1 x2 x3 x4 (up m0) (up m1) (up m2) (up m3) (up m4) (up m0) (up m1) (up m2) (up m3) (up m4)
   rw [show dE (α := List Cell) [.l x0, .l x1, .l x2, .l x3, .l x4] [.l x0, .l x1, .l x2, .l x3, .l x4] = true from (Value.bool.inj (qu rfl)).symm] at heq
   have hto := y53 x0 x1 x2 x3 x4 m0 m1 m2 m3 m4
   simp only [Clu.cs, List.cons.injEq, Cell.l.injEq, and_true] at ec
   obtain ⟨rfl, rfl, rfl, rfl, rfl⟩ := ec
   exact ⟨c, rfl, rfl, rfl, rfl, rfl, ho, ⟨hwt, ht⟩, ⟨_, Nat.sub_le _ _, hsz⟩, hto, heq⟩
 · left
   have hs : szn b (tot zo [.l x0, .l x1, .l x2, .l x3, .l x4]) = -1 := by
    unfold szn; rw [if_pos (by omega)]
   rw [hs] at hsz
   exact hsz
end Go.Proofs.YthljegacamgnnaaGreat
end
section
namespace Go.Proofs.YthljegacamgnnaaGreat
open Go Go.Sx
set_option maxRecDepth 20000
set_option maxHeartbeats 4000000
theorem z5f (z : Nat) (rr : List (List Cell)) (k : Int) (hw : WR 9000000000000000000 yy rr) : PG Tryz.prog 96 [.one (.giv true z rr), .one (.bor (i64 k))] (rI (mkR (mk yy) rr k).2) [(0, (mkR (mk yy) rr k).1)] := by
 refine PG.begin Tryz.func96 rfl (by kernel_rfl) ?_
 have hlen := hw.1
 refine yc rfl (ι := Nat) (fun i => i ≤ rr.length) (fun i => ⟨[(5, sV (.int .i64 i)), (1, sV (.int .i64 (mdk (mk yy) rr k i))), (0, .one (.h 1000000000 rr.length))], [(1000000000, .arr true z 0 (md (mk yy) rr k i))]⟩) (fun i => rr.length - i) 0 (Nat.zero_le _) ?_ ?_
 · exact ⟨⟨rfl, congrArg (fun n => Cell.s (.int .i64 n)) q02.symm, ⟨rfl, rfl, rfl⟩, trivial⟩, ⟨⟨q0d.symm, .inl rfl, .inl rfl⟩, trivial⟩, rfl⟩
 · intro i hi J hJ
   refine xb rfl (fun h => ?_) (fun h => ?_)
   · have h : i < rr.length := by simpa using h
     obtain ⟨row, hg⟩ : ∃ row, rr[i]? = some row := ⟨_, List.getElem?_eq_getElem h⟩
     obtain ⟨x0, x1, x2, x3, rfl⟩ := y28 (hw.2 row (List.mem_of_getElem? hg))
     have hl := q0x (f := (mk yy)) (k := k) hi
     have hg0 := y0x (f := (mk yy)) (k := k) hg
     have hlt : i < (md (mk yy) rr k i).length := by omega
     refine xs rfl (hl).symm (xs rfl (Int.natCast_nonneg _) (y9 rfl _ hg0 (xs rfl rfl (xs rfl (hl).symm (y9 rfl _ hg0 (xs rfl (by show 0 + 1 ≤ 4; omega) (xs rfl ⟨trivial, trivial⟩ ?_)))))))
     refine xs rfl (yb (hl)).symm (xs rfl (Int.natCast_nonneg _) (y9 rfl _ (qw (hl) h) (xs rfl rfl (xs rfl (yb (hl)).symm (y9 rfl _ (qw (hl) h) (xs rfl (by show 1 + 1 ≤ 4; omega) (xs rfl ⟨trivial, trivial⟩ ?_)))))))
     refine xs rfl (yb (yb (hl))).symm (xs rfl (Int.natCast_nonneg _) (y9 rfl _ (qw (yb (hl)) h) (xs rfl rfl (xs rfl (yb (yb (hl))).symm (y9 rfl _ (qw (yb (hl)) h) (xs rfl (by show 2 + 1 ≤ 4; omega) (xs rfl ⟨trivial, trivial⟩ ?_)))))))
     refine xs rfl (yb (yb (yb (hl)))).symm (xs rfl (Int.natCast_nonneg _) (y9 rfl _ (qw (yb (yb (hl))) h) (xs rfl rfl (xs rfl (yb (yb (yb (hl)))).symm (y9 rfl _ (qw (yb (yb (hl))) h) (xs rfl (by show 3 + 1 ≤ 4; omega) (xs rfl ⟨trivial, trivial⟩ ?_)))))))
     refine ya rfl (hJ _ (i + 1) (by omega) (by omega) ?_)
     refine ⟨⟨cwi (by omega) (by omega) (by omega), ?_, ⟨rfl, rfl, rfl⟩, trivial⟩, ⟨⟨?_, .inl rfl, .inl rfl⟩, trivial⟩, rfl⟩
     · rw [y02 hg]; rfl
     · refine Eq.trans ?_ (z0y hg)
       try simp only [Int.toNat_natCast, qt hg0, ssr hlt, List.set_set]
       rfl
   · have h : ¬ i < rr.length := by simpa using h
     have : i = rr.length := by omega
     subst this
     exact xr rfl (q1r rfl ⟨⟨rfl, congrArg (Value.int .i64) z0e, trivial⟩, z6 rfl⟩ ⟨⟨rfl, rfl, z0x, zq _ _ _, qr hw⟩, trivial⟩)
theorem q13 (z : Nat) (rr : List (List Cell)) (k : Int) (hw : WR 9000000000000000000 z8 rr) : PG Tryz.prog 91 [.one (.giv true z rr), .one (.bor (i64 k))] (rI (mkR (mk z8) rr k).2) [(0, (mkR (mk z8) rr k).1)] := by
 refine PG.begin Tryz.func91 rfl (by kernel_rfl) ?_
 have hlen := hw.1
 refine yc rfl (ι := Nat) (fun i => i ≤ rr.length) (fun i => ⟨[(5, sV (.int .i64 i)), (1, sV (.int .i64 (mdk (mk z8) rr k i))), (0, .one (.h 1000000000 rr.length))], [(1000000000, .arr true z 0 (md (mk z8) rr k i))]⟩) (fun i => rr.length - i) 0 (Nat.zero_le _) ?_ ?_
 · exact ⟨⟨rfl, congrArg (fun n => Cell.s (.int .i64 n)) q02.symm, ⟨rfl, rfl, rfl⟩, trivial⟩, ⟨⟨q0d.symm, .inl rfl, .inl rfl⟩, trivial⟩, rfl⟩
 · intro i hi J hJ
   refine xb rfl (fun h => ?_) (fun h => ?_)
   · have h : i < rr.length := by simpa using h
     obtain ⟨row, hg⟩ : ∃ row, rr[i]? = some row := ⟨_, List.getElem?_eq_getElem h⟩
     obtain ⟨x0, x1, rfl, h1⟩ := y07 (hw.2 row (List.mem_of_getElem? hg))
     have hl := q0x (f := (mk z8)) (k := k) hi
     have hg0 := y0x (f := (mk z8)) (k := k) hg
     have hlt : i < (md (mk z8) rr k i).length := by omega
     refine xs rfl (hl).symm (xs rfl (Int.natCast_nonneg _) (y9 rfl _ hg0 (xs rfl rfl (xs rfl (hl).symm (y9 rfl _ hg0 (xs rfl (by show 0 + 1 ≤ 2; omega) (xs rfl ⟨trivial, trivial⟩ ?_)))))))
     refine xs rfl (yb (hl)).symm (xs rfl (Int.natCast_nonneg _) (y9 rfl _ (qw (hl) h) (xs rfl rfl (xs rfl (yb (hl)).symm (y9 rfl _ (qw (hl) h) ?_)))))
     refine z0i rfl (z5f 0 _ _ h1) ⟨⟨rfl, rfl, rfl, _, (qw (hl) h), rfl⟩, rfl, trivial⟩ rfl ?_
     refine ya rfl (hJ _ (i + 1) (by omega) (by omega) ?_)
     refine ⟨⟨cwi (by omega) (by omega) (by omega), ?_, ⟨rfl, rfl, rfl⟩, trivial⟩, ⟨⟨?_, .inl rfl, .inl rfl⟩, trivial⟩, rfl⟩
     · rw [y02 hg]; rfl
     · refine Eq.trans ?_ (z0y hg)
       try simp only [Int.toNat_natCast, qt hg0, ssr hlt, List.set_set]
       rfl
   · have h : ¬ i < rr.length := by simpa using h
     have : i = rr.length := by omega
     subst this
     exact xr rfl (q1r rfl ⟨⟨rfl, congrArg (Value.int .i64) z0e, trivial⟩, z6 rfl⟩ ⟨⟨rfl, rfl, z0x, zq _ _ _, qr hw⟩, trivial⟩)
theorem q2z (z : Nat) (rr : List (List Cell)) (k : Int) (hw : WR 9000000000000000000 qc rr) : PG Tryz.prog 156 [.one (.giv true z rr), .one (.bor (i64 k))] (rI (mkR (mk qc) rr k).2) [(0, (mkR (mk qc) rr k).1)] := by
 refine PG.begin Tryz.func156 rfl (by kernel_rfl) ?_
 have hlen := hw.1
 refine yc rfl (ι := Nat) (fun i => i ≤ rr.length) (fun i => ⟨[(5, sV (.int .i64 i)), (1, sV (.int .i64 (mdk (mk qc) rr k i))), (0, .one (.h 1000000000 rr.length))], [(1000000000, .arr true z 0 (md (mk qc) rr k i))]⟩) (fun i => rr.length - i) 0 (Nat.zero_le _) ?_ ?_
 · exact ⟨⟨rfl, congrArg (fun n => Cell.s (.int .i64 n)) q02.symm, ⟨rfl, rfl, rfl⟩, trivial⟩, ⟨⟨q0d.symm, .inl rfl, .inl rfl⟩, trivial⟩, rfl⟩
 · intro i hi J hJ
   refine xb rfl (fun h => ?_) (fun h => ?_)
   · have h : i < rr.length := by simpa using h
     obtain ⟨row, hg⟩ : ∃ row, rr[i]? = some row := ⟨_, List.getElem?_eq_getElem h⟩
     obtain ⟨x0, x1, x2, rfl⟩ := z0c (hw.2 row (List.mem_of_getElem? hg))
     have hl := q0x (f := (mk qc)) (k := k) hi
     have hg0 := y0x (f := (mk qc)) (k := k) hg
     have hlt : i < (md (mk qc) rr k i).length := by omega
     refine xs rfl (hl).symm (xs rfl (Int.natCast_nonneg _) (y9 rfl _ hg0 (xs rfl rfl (xs rfl (hl).symm (y9 rfl _ hg0 (xs rfl (by show 0 + 1 ≤ 3; omega) (xs rfl ⟨trivial, trivial⟩ ?_)))))))
     refine xs rfl (yb (hl)).symm (xs rfl (Int.natCast_nonneg _) (y9 rfl _ (qw (hl) h) (xs rfl rfl (xs rfl (yb (hl)).symm (y9 rfl _ (qw (hl) h) (xs rfl (by show 1 + 1 ≤ 3; omega) (xs rfl ⟨trivial, trivial⟩ ?_)))))))
     refine xs rfl (yb (yb (hl))).symm (xs rfl (Int.natCast_nonneg _) (y9 rfl _ (qw (yb (hl)) h) (xs rfl rfl (xs rfl (yb (yb (hl))).symm (y9 rfl _ (qw (yb (hl)) h) (xs rfl (by show 2 + 1 ≤ 3; omega) (xs rfl ⟨trivial, trivial⟩ ?_)))))))
     refine ya rfl (hJ _ (i + 1) (by omega) (by omega) ?_)
     refine ⟨⟨cwi (by omega) (by omega) (by omega), ?_, ⟨rfl, rfl, rfl⟩, trivial⟩, ⟨⟨?_, .inl rfl, .inl rfl⟩, trivial⟩, rfl⟩
     · rw [y02 hg]; rfl
     · refine Eq.trans ?_ (z0y hg)
       try simp only [Int.toNat_natCast, qt hg0, ssr hlt, List.set_set]
       rfl
   · have h : ¬ i < rr.length := by simpa using h
     have : i = rr.length := by omega
     subst this
     exact xr rfl (q1r rfl ⟨⟨rfl, congrArg (Value.int .i64) z0e, trivial⟩, z6 rfl⟩ ⟨⟨rfl, rfl, z0x, zq _ _ _, qr hw⟩, trivial⟩)
theorem q2g (z : Nat) (rr : List (List Cell)) (k : Int) (hw : WR 9000000000000000000 yh rr) : PG Tryz.prog 157 [.one (.giv true z rr), .one (.bor (i64 k))] (rI (mkR (mk yh) rr k).2) [(0, (mkR (mk yh) rr k).1)] := by
 refine PG.begin Tryz.func157 rfl (by kernel_rfl) ?_
 have hlen := hw.1
 refine yc rfl (ι := Nat) (fun i => i ≤ rr.length) (fun i => ⟨[(5, sV (.int .i64 i)), (1, sV (.int .i64 (mdk (mk yh) rr k i))), (0, .one (.h 1000000000 rr.length))], [(1000000000, .arr true z 0 (md (mk yh) rr k i))]⟩) (fun i => rr.length - i) 0 (Nat.zero_le _) ?_ ?_
 · exact ⟨⟨rfl, congrArg (fun n => Cell.s (.int .i64 n)) q02.symm, ⟨rfl, rfl, rfl⟩, trivial⟩, ⟨⟨q0d.symm, .inl rfl, .inl rfl⟩, trivial⟩, rfl⟩
 · intro i hi J hJ
   refine xb rfl (fun h => ?_) (fun h => ?_)
   · have h : i < rr.length := by simpa using h
     obtain ⟨row, hg⟩ : ∃ row, rr[i]? = some row := ⟨_, List.getElem?_eq_getElem h⟩
     obtain ⟨x0, x1, rfl⟩ := z1f (hw.2 row (List.mem_of_getElem? hg))
     have hl := q0x (f := (mk yh)) (k := k) hi
     have hg0 := y0x (f := (mk yh)) (k := k) hg
     have hlt : i < (md (mk yh) rr k i).length := by omega
     refine xs rfl (hl).symm (xs rfl (Int.natCast_nonneg _) (y9 rfl _ hg0 (xs rfl rfl (xs rfl (hl).symm (y9 rfl _ hg0 (xs rfl (by show 0 + 1 ≤ 2; omega) (xs rfl ⟨trivial, trivial⟩ ?_)))))))
     refine xs rfl (yb (hl)).symm (xs rfl (Int.natCast_nonneg _) (y9 rfl _ (qw (hl) h) (xs rfl rfl (xs rfl (yb (hl)).symm (y9 rfl _ (qw (hl) h) (xs rfl (by show 1 + 1 ≤ 2; omega) (xs rfl ⟨trivial, trivial⟩ ?_)))))))
     refine ya rfl (hJ _ (i + 1) (by omega) (by omega) ?_)
     refine ⟨⟨cwi (by omega) (by omega) (by omega), ?_, ⟨rfl, rfl, rfl⟩, trivial⟩, ⟨⟨?_, .inl rfl, .inl rfl⟩, trivial⟩, rfl⟩
     · rw [y02 hg]; rfl
     · refine Eq.trans ?_ (z0y hg)
       try simp only [Int.toNat_natCast, qt hg0, ssr hlt, List.set_set]
       rfl
   · have h : ¬ i < rr.length := by simpa using h
     have : i = rr.length := by omega
     subst this
     exact xr rfl (q1r rfl ⟨⟨rfl, congrArg (Value.int .i64) z0e, trivial⟩, z6 rfl⟩ ⟨⟨rfl, rfl, z0x, zq _ _ _, qr hw⟩, trivial⟩)
theorem q11 (z : Nat) (rr : List (List Cell)) (k : Int) (hw : WR 9000000000000000000 (.i .i64 .nil) rr) : PG Tryz.prog 101 [.one (.giv true z rr), .one (.bor (i64 k))] (rI (mkR (mk (.i .i64 .nil)) rr k).2) [(0, (mkR (mk (.i .i64 .nil)) rr k).1)] := by
 refine PG.begin Tryz.func101 rfl (by kernel_rfl) ?_
 have hlen := hw.1
 refine yc rfl (ι := Nat) (fun i => i ≤ rr.length) (fun i => ⟨[(5, sV (.int .i64 i)), (1, sV (.int .i64 (mdk (mk (.i .i64 .nil)) rr k i))), (0, .one (.h 1000000000 rr.length))], [(1000000000, .arr true z 0 (md (mk (.i .i64 .nil)) rr k i))]⟩) (fun i => rr.length - i) 0 (Nat.zero_le _) ?_ ?_
 · exact ⟨⟨rfl, congrArg (fun n => Cell.s (.int .i64 n)) q02.symm, ⟨rfl, rfl, rfl⟩, trivial⟩, ⟨⟨q0d.symm, .inl rfl, .inl rfl⟩, trivial⟩, rfl⟩
 · intro i hi J hJ
   refine xb rfl (fun h => ?_) (fun h => ?_)
   · have h : i < rr.length := by simpa using h
     obtain ⟨row, hg⟩ : ∃ row, rr[i]? = some row := ⟨_, List.getElem?_eq_getElem h⟩
     obtain ⟨x0, _, rfl, hnil⟩ := ((hw.2 row (List.mem_of_getElem? hg))).yv; obtain rfl := hnil.qx
     have hl := q0x (f := (mk (.i .i64 .nil))) (k := k) hi
     have hg0 := y0x (f := (mk (.i .i64 .nil))) (k := k) hg
     have hlt : i < (md (mk (.i .i64 .nil)) rr k i).length := by omega
     refine xs rfl (hl).symm (xs rfl (Int.natCast_nonneg _) (y9 rfl _ hg0 (xs rfl rfl (xs rfl (hl).symm (y9 rfl _ hg0 (xs rfl (by show 0 + 1 ≤ 1; omega) (xs rfl ⟨trivial, trivial⟩ ?_)))))))
     refine ya rfl (hJ _ (i + 1) (by omega) (by omega) ?_)
     refine ⟨⟨cwi (by omega) (by omega) (by omega), ?_, ⟨rfl, rfl, rfl⟩, trivial⟩, ⟨⟨?_, .inl rfl, .inl rfl⟩, trivial⟩, rfl⟩
     · rw [y02 hg]; rfl
     · refine Eq.trans ?_ (z0y hg)
       try simp only [Int.toNat_natCast, qt hg0, ssr hlt, List.set_set]
       rfl
   · have h : ¬ i < rr.length := by simpa using h
     have : i = rr.length := by omega
     subst this
     exact xr rfl (q1r rfl ⟨⟨rfl, congrArg (Value.int .i64) z0e, trivial⟩, z6 rfl⟩ ⟨⟨rfl, rfl, z0x, zq _ _ _, qr hw⟩, trivial⟩)
theorem z46 (z : Nat) (rr : List (List Cell)) (k : Int) (hw : WR 9000000000000000000 zf rr) : PG Tryz.prog 92 [.one (.giv true z rr), .one (.bor (i64 k))] (rI (mkR (mk zf) rr k).2) [(0, (mkR (mk zf) rr k).1)] := by
 refine PG.begin Tryz.func92 rfl (by kernel_rfl) ?_
 have hlen := hw.1
 refine yc rfl (ι := Nat) (fun i => i ≤ rr.length) (fun i => ⟨[(5, sV (.int .i64 i)), (1, sV (.int .i64 (mdk (mk zf) rr k i))), (0, .one (.h 1000000000 rr.length))], [(1000000000, .arr true z 0 (md (mk zf) rr k i))]⟩) (fun i => rr.length - i) 0 (Nat.zero_le _) ?_ ?_
 · exact ⟨⟨rfl, congrArg (fun n => Cell.s (.int .i64 n)) q02.symm, ⟨rfl, rfl, rfl⟩, trivial⟩, ⟨⟨q0d.symm, .inl rfl, .inl rfl⟩, trivial⟩, rfl⟩
 · intro i hi J hJ
   refine xb rfl (fun h => ?_) (fun h => ?_)
   · have h : i < rr.length := by simpa using h
     obtain ⟨row, hg⟩ : ∃ row, rr[i]? = some row := ⟨_, List.getElem?_eq_getElem h⟩
     obtain ⟨x0, x1, x2, x3, x4, x5, rfl, h1, h2, h3, h4, h5⟩ := q0w (hw.2 row (List.mem_of_getElem? hg))
     have hl := q0x (f := (mk zf)) (k := k) hi
     have hg0 := y0x (f := (mk zf)) (k := k) hg
     have hlt : i < (md (mk zf) rr k i).length := by omega
     refine xs rfl (hl).symm (xs rfl (Int.natCast_nonneg _) (y9 rfl _ hg0 (xs rfl rfl (xs rfl (hl).symm (y9 rfl _ hg0 (xs rfl (by show 0 + 1 ≤ 6; omega) (xs rfl ⟨trivial, trivial⟩ ?_)))))))
     refine xs rfl (yb (hl)).symm (xs rfl (Int.natCast_nonneg _) (y9 rfl _ (qw (hl) h) (xs rfl rfl (xs rfl (yb (hl)).symm (y9 rfl _ (qw (hl) h) ?_)))))
     refine z0i rfl (q2z 0 _ _ h1) ⟨⟨rfl, rfl, rfl, _, (qw (hl) h), rfl⟩, rfl, trivial⟩ rfl ?_
     refine xs rfl (lsr (yb (hl))).symm (xs rfl (Int.natCast_nonneg _) (y9 rfl _ (ze (qw (hl) h)) (xs rfl rfl (xs rfl (lsr (yb (hl))).symm (y9 rfl _ (ze (qw (hl) h)) ?_)))))
     refine z0i rfl (q2g 0 _ _ h2) ⟨⟨rfl, rfl, rfl, _, (ze (qw (hl) h)), rfl⟩, rfl, trivial⟩ rfl ?_
     refine xs rfl (lsr (lsr (yb (hl)))).symm (xs rfl (Int.natCast_nonneg _) (y9 rfl _ (ze (ze (qw (hl) h))) (xs rfl rfl (xs rfl (lsr (lsr (yb (hl)))).symm (y9 rfl _ (ze (ze (qw (hl) h))) ?_)))))
     refine z0i rfl (q13 0 _ _ h3) ⟨⟨rfl, rfl, rfl, _, (ze (ze (qw (hl) h))), rfl⟩, rfl, trivial⟩ rfl ?_
     refine xs rfl (lsr (lsr (lsr (yb (hl))))).symm (xs rfl (Int.natCast_nonneg _) (y9 rfl _ (ze (ze (ze (qw (hl) h)))) (xs rfl rfl (xs rfl (lsr (lsr (lsr (yb (hl))))).symm (y9 rfl _ (ze (ze (ze (qw (hl) h)))) ?_)))))
     refine z0i rfl (q2g 0 _ _ h4) ⟨⟨rfl, rfl, rfl, _, (ze (ze (ze (qw (hl) h)))), rfl⟩, rfl, trivial⟩ rfl ?_
     refine xs rfl (lsr (lsr (lsr (lsr (yb (hl)))))).symm (xs rfl (Int.natCast_nonneg _) (y9 rfl _ (ze (ze (ze (ze (qw (hl) h))))) (xs rfl rfl (xs rfl (lsr (lsr (lsr (lsr (yb (hl)))))).symm (y9 rfl _ (ze (ze (ze (ze (qw (hl) h))))) ?_)))))
     refine z0i rfl (q11 0 _ _ h5) ⟨⟨rfl, rfl, rfl, _, (ze (ze (ze (ze (qw (hl) h))))), rfl⟩, rfl, trivial⟩ rfl ?_
     refine ya rfl (hJ _ (i + 1) (by omega) (by omega) ?_)
     refine ⟨⟨cwi (by omega) (by omega) (by omega), ?_, ⟨rfl, rfl, rfl⟩, trivial⟩, ⟨⟨?_, .inl rfl, .inl rfl⟩, trivial⟩, rfl⟩
     · rw [y02 hg]; rfl
     · refine Eq.trans ?_ (z0y hg)
       try simp only [Int.toNat_natCast, qt hg0, ssr hlt, List.set_set]
       rfl
   · have h : ¬ i < rr.length := by simpa using h
     have : i = rr.length := by omega
     subst this
     exact xr rfl (q1r rfl ⟨⟨rfl, congrArg (Value.int .i64) z0e, trivial⟩, z6 rfl⟩ ⟨⟨rfl, rfl, z0x, zq _ _ _, qr hw⟩, trivial⟩)
theorem z2h (z : Nat) (rr : List (List Cell)) (k : Int) (hw : WR 9000000000000000000 ym rr) : PG Tryz.prog 226 [.one (.giv true z rr), .one (.bor (i64 k))] (rI (mkR (mk ym) rr k).2) [(0, (mkR (mk ym) rr k).1)] := by
 refine PG.begin Tryz.func226 rfl (by kernel_rfl) ?_
 have hlen := hw.1
 refine yc rfl (ι := Nat) (fun i => i ≤ rr.length) (fun i => ⟨[(5, sV (.int .i64 i)), (1, sV (.int .i64 (mdk (mk ym) rr k i))), (0, .one (.h 1000000000 rr.length))], [(1000000000, .arr true z 0 (md (mk ym) rr k i))]⟩) (fun i => rr.length - i) 0 (Nat.zero_le _) ?_ ?_
 · exact ⟨⟨rfl, congrArg (fun n => Cell.s (.int .i64 n)) q02.symm, ⟨rfl, rfl, rfl⟩, trivial⟩, ⟨⟨q0d.symm, .inl rfl, .inl rfl⟩, trivial⟩, rfl⟩
 · intro i hi J hJ
   refine xb rfl (fun h => ?_) (fun h => ?_)
   · have h : i < rr.length := by simpa using h
     obtain ⟨row, hg⟩ : ∃ row, rr[i]? = some row := ⟨_, List.getElem?_eq_getElem h⟩
     obtain ⟨x0, x1, rfl⟩ := q1f (hw.2 row (List.mem_of_getElem? hg))
     have hl := q0x (f := (mk ym)) (k := k) hi
     have hg0 := y0x (f := (mk ym)) (k := k) hg
     have hlt : i < (md (mk ym) rr k i).length := by omega
     refine xs rfl (hl).symm (xs rfl (Int.natCast_nonneg _) (y9 rfl _ hg0 (xs rfl rfl (xs rfl (hl).symm (y9 rfl _ hg0 (xs rfl (by show 0 + 1 ≤ 2; omega) (xs rfl ⟨trivial, trivial⟩ ?_)))))))
     refine xs rfl (yb (hl)).symm (xs rfl (Int.natCast_nonneg _) (y9 rfl _ (qw (hl) h) (xs rfl rfl (xs rfl (yb (hl)).symm (y9 rfl _ (qw (hl) h) (xs rfl (by show 1 + 1 ≤ 2; omega) (xs rfl ⟨trivial, trivial⟩ ?_)))))))
     refine ya rfl (hJ _ (i + 1) (by omega) (by omega) ?_)
     refine ⟨⟨cwi (by omega) (by omega) (by omega), ?_, ⟨rfl, rfl, rfl⟩, trivial⟩, ⟨⟨?_, .inl rfl, .inl rfl⟩, trivial⟩, rfl⟩
     · rw [y02 hg]; rfl
     · refine Eq.trans ?_ (z0y hg)
       try simp only [Int.toNat_natCast, qt hg0, ssr hlt, List.set_set]
       rfl
   · have h : ¬ i < rr.length := by simpa using h
     have : i = rr.length := by omega
     subst this
     exact xr rfl (q1r rfl ⟨⟨rfl, congrArg (Value.int .i64) z0e, trivial⟩, z6 rfl⟩ ⟨⟨rfl, rfl, z0x, zq _ _ _, qr hw⟩, trivial⟩)
theorem z4t (z : Nat) (rr : List (List Cell)) (k : Int) (hw : WR 9000000000000000000 ql rr) : PG Tryz.prog 158 [.one (.giv true z rr), .one (.bor (i64 k))] (rI (mkR (mk ql) rr k).2) [(0, (mkR (mk ql) rr k).1)] := by
 refine PG.begin Tryz.func158 rfl (by kernel_rfl) ?_
 have hlen := hw.1
 refine yc rfl (ι := Nat) (fun i => i ≤ rr.length) (fun i => ⟨[(5, sV (.int .i64 i)), (1, sV (.int .i64 (mdk (mk ql) rr k i))), (0, .one (.h 1000000000 rr.length))], [(1000000000, .arr true z 0 (md (mk ql) rr k i))]⟩) (fun i => rr.length - i) 0 (Nat.zero_le _) ?_ ?_
 · exact ⟨⟨rfl, congrArg (fun n => Cell.s (.int .i64 n)) q02.symm, ⟨rfl, rfl, rfl⟩, trivial⟩, ⟨⟨q0d.symm, .inl rfl, .inl rfl⟩, trivial⟩, rfl⟩
 · intro i hi J hJ
   refine xb rfl (fun h => ?_) (fun h => ?_)
   · have h : i < rr.length := by simpa using h
     obtain ⟨row, hg⟩ : ∃ row, rr[i]? = some row := ⟨_, List.getElem?_eq_getElem h⟩
     obtain ⟨x0, x1, x2, x3, x4, x5, rfl, h5⟩ := y1f (hw.2 row (List.mem_of_getElem? hg))
     have hl := q0x (f := (mk ql)) (k := k) hi
     have hg0 := y0x (f := (mk ql)) (k := k) hg
     have hlt : i < (md (mk ql) rr k i).length := by omega
     refine xs rfl (hl).symm (xs rfl (Int.natCast_nonneg _) (y9 rfl _ hg0 (xs rfl rfl (xs rfl (hl).symm (y9 rfl _ hg0 (xs rfl (by show 0 + 1 ≤ 6; omega) (xs rfl ⟨trivial, trivial⟩ ?_)))))))
     refine xs rfl (yb (hl)).symm (xs rfl (Int.natCast_nonneg _) (y9 rfl _ (qw (hl) h) (xs rfl rfl (xs rfl (yb (hl)).symm (y9 rfl _ (qw (hl) h) (xs rfl (by show 1 + 1 ≤ 6; omega) (xs rfl ⟨trivial, trivial⟩ ?_)))))))
     refine xs rfl (yb (yb (hl))).symm (xs rfl (Int.natCast_nonneg _) (y9 rfl _ (qw (yb (hl)) h) (xs rfl rfl (xs rfl (yb (yb (hl))).symm (y9 rfl _ (qw (yb (hl)) h) (xs rfl (by show 2 + 1 ≤ 6; omega) (xs rfl ⟨trivial, trivial⟩ ?_)))))))
     refine xs rfl (yb (yb (yb (hl)))).symm (xs rfl (Int.natCast_nonneg _) (y9 rfl _ (qw (yb (yb (hl))) h) (xs rfl rfl (xs rfl (yb (yb (yb (hl)))).symm (y9 rfl _ (qw (yb (yb (hl))) h) (xs rfl (by show 3 + 1 ≤ 6; omega) (xs rfl ⟨trivial, trivial⟩ ?_)))))))
     refine xs rfl (yb (yb (yb (yb (hl))))).symm (xs rfl (Int.natCast_nonneg _) (y9 rfl _ (qw (yb (yb (yb (hl)))) h) (xs rfl rfl (xs rfl (yb (yb (yb (yb (hl))))).symm (y9 rfl _ (qw (yb (yb (yb (hl)))) h) (xs rfl (by show 4 + 1 ≤ 6; omega) (xs rfl ⟨trivial, trivial⟩ ?_)))))))
     refine xs rfl (yb (yb (yb (yb (yb (hl)))))).symm (xs rfl (Int.natCast_nonneg _) (y9 rfl _ (qw (yb (yb (yb (yb (hl))))) h) (xs rfl rfl (xs rfl (yb (yb (yb (yb (yb (hl)))))).symm (y9 rfl _ (qw (yb (yb (yb (yb (hl))))) h) ?_)))))
     refine z0i rfl (z2h 0 _ _ h5) ⟨⟨rfl, rfl, rfl, _, (qw (yb (yb (yb (yb (hl))))) h), rfl⟩, rfl, trivial⟩ rfl ?_
     refine ya rfl (hJ _ (i + 1) (by omega) (by omega) ?_)
     refine ⟨⟨cwi (by omega) (by omega) (by omega), ?_, ⟨rfl, rfl, rfl⟩, trivial⟩, ⟨⟨?_, .inl rfl, .inl rfl⟩, trivial⟩, rfl⟩
     · rw [y02 hg]; rfl
     · refine Eq.trans ?_ (z0y hg)
       try simp only [Int.toNat_natCast, qt hg0, ssr hlt, List.set_set]
       rfl
   · have h : ¬ i < rr.length := by simpa using h
     have : i = rr.length := by omega
     subst this
     exact xr rfl (q1r rfl ⟨⟨rfl, congrArg (Value.int .i64) z0e, trivial⟩, z6 rfl⟩ ⟨⟨rfl, rfl, z0x, zq _ _ _, qr hw⟩, trivial⟩)
theorem z2l (z : Nat) (rr : List (List Cell)) (k : Int) (hw : WR 9000000000000000000 za rr) : PG Tryz.prog 93 [.one (.giv true z rr), .one (.bor (i64 k))] (rI (mkR (mk za) rr k).2) [(0, (mkR (mk za) rr k).1)] := by
 refine PG.begin Tryz.func93 rfl (by kernel_rfl) ?_
 have hlen := hw.1
 refine yc rfl (ι := Nat) (fun i => i ≤ rr.length) (fun i => ⟨[(5, sV (.int .i64 i)), (1, sV (.int .i64 (mdk (mk za) rr k i))), (0, .one (.h 1000000000 rr.length))], [(1000000000, .arr true z 0 (md (mk za) rr k i))]⟩) (fun i => rr.length - i) 0 (Nat.zero_le _) ?_ ?_
 · exact ⟨⟨rfl, congrArg (fun n => Cell.s (.int .i64 n)) q02.symm, ⟨rfl, rfl, rfl⟩, trivial⟩, ⟨⟨q0d.symm, .inl rfl, .inl rfl⟩, trivial⟩, rfl⟩
 · intro i hi J hJ
   refine xb rfl (fun h => ?_) (fun h => ?_)
   · have h : i < rr.length := by simpa using h
     obtain ⟨row, hg⟩ : ∃ row, rr[i]? = some row := ⟨_, List.getElem?_eq_getElem h⟩
     obtain ⟨x0, rfl, h0⟩ := z07 (hw.2 row (List.mem_of_getElem? hg))
     have hl := q0x (f := (mk za)) (k := k) hi
     have hg0 := y0x (f := (mk za)) (k := k) hg
     have hlt : i < (md (mk za) rr k i).length := by omega
     refine xs rfl (hl).symm (xs rfl (Int.natCast_nonneg _) (y9 rfl _ hg0 (xs rfl rfl (xs rfl (hl).symm (y9 rfl _ hg0 ?_)))))
     refine z0i rfl (z4t 0 _ _ h0) ⟨⟨rfl, rfl, rfl, _, hg0, rfl⟩, rfl, trivial⟩ rfl ?_
     refine ya rfl (hJ _ (i + 1) (by omega) (by omega) ?_)
     refine ⟨⟨cwi (by omega) (by omega) (by omega), ?_, ⟨rfl, rfl, rfl⟩, trivial⟩, ⟨⟨?_, .inl rfl, .inl rfl⟩, trivial⟩, rfl⟩
     · rw [y02 hg]; rfl
     · refine Eq.trans ?_ (z0y hg)
       try simp only [Int.toNat_natCast, qt hg0, ssr hlt, List.set_set]
       rfl
   · have h : ¬ i < rr.length := by simpa using h
     have : i = rr.length := by omega
     subst this
     exact xr rfl (q1r rfl ⟨⟨rfl, congrArg (Value.int .i64) z0e, trivial⟩, z6 rfl⟩ ⟨⟨rfl, rfl, z0x, zq _ _ _, qr hw⟩, trivial⟩)
theorem y5f (z : Nat) (rr : List (List Cell)) (k : Int) (hw : WR 9000000000000000000 yp rr) : PG Tryz.prog 159 [.one (.giv true z rr), .one (.bor (i64 k))] (rI (mkR (mk yp) rr k).2) [(0, (mkR (mk yp) rr k).1)] := by
 refine PG.begin Tryz.func159 rfl (by kernel_rfl) ?_
 have hlen := hw.1
 refine yc rfl (ι := Nat) (fun i => i ≤ rr.length) (fun i => ⟨[(5, sV (.int .i64 i)), (1, sV (.int .i64 (mdk (mk yp) rr k i))), (0, .one (.h 1000000000 rr.length))], [(1000000000, .arr true z 0 (md (mk yp) rr k i))]⟩) (fun i => rr.length - i) 0 (Nat.zero_le _) ?_ ?_
 · exact ⟨⟨rfl, congrArg (fun n => Cell.s (.int .i64 n)) q02.symm, ⟨rfl, rfl, rfl⟩, trivial⟩, ⟨⟨q0d.symm, .inl rfl, .inl rfl⟩, trivial⟩, rfl⟩
 · intro i hi J hJ
   refine xb rfl (fun h => ?_) (fun h => ?_)
   · have h : i < rr.length := by simpa using h
     obtain ⟨row, hg⟩ : ∃ row, rr[i]? = some row := ⟨_, List.getElem?_eq_getElem h⟩
     obtain ⟨x0, x1, x2, x3, x4, x5, rfl, h4, h5⟩ := z29 (hw.2 row (List.mem_of_getElem? hg))
     have hl := q0x (f := (mk yp)) (k := k) hi
     have hg0 := y0x (f := (mk yp)) (k := k) hg
     have hlt : i < (md (mk yp) rr k i).length := by omega
     refine xs rfl (hl).symm (xs rfl (Int.natCast_nonneg _) (y9 rfl _ hg0 (xs rfl rfl (xs rfl (hl).symm (y9 rfl _ hg0 (xs rfl (by show 0 + 1 ≤ 6; omega) (xs rfl ⟨trivial, trivial⟩ ?_)))))))
     refine xs rfl (yb (hl)).symm (xs rfl (Int.natCast_nonneg _) (y9 rfl _ (qw (hl) h) (xs rfl rfl (xs rfl (yb (hl)).symm (y9 rfl _ (qw (hl) h) (xs rfl (by show 1 + 1 ≤ 6; omega) (xs rfl ⟨trivial, trivial⟩ ?_)))))))
     refine xs rfl (yb (yb (hl))).symm (xs rfl (Int.natCast_nonneg _) (y9 rfl _ (qw (yb (hl)) h) (xs rfl rfl (xs rfl (yb (yb (hl))).symm (y9 rfl _ (qw (yb (hl)) h) (xs rfl (by show 2 + 1 ≤ 6; omega) (xs rfl ⟨trivial, trivial⟩ ?_)))))))
     refine xs rfl (yb (yb (yb (hl)))).symm (xs rfl (Int.natCast_nonneg _) (y9 rfl _ (qw (yb (yb (hl))) h) (xs rfl rfl (xs rfl (yb (yb (yb (hl)))).symm (y9 rfl _ (qw (yb (yb (hl))) h) (xs rfl (by show 3 + 1 ≤ 6; omega) (xs rfl ⟨trivial, trivial⟩ ?_)))))))
     refine xs rfl (yb (yb (yb (yb (hl))))).symm (xs rfl (Int.natCast_nonneg _) (y9 rfl _ (qw (yb (yb (yb (hl)))) h) (xs rfl rfl (xs rfl (yb (yb (yb (yb (hl))))).symm (y9 rfl _ (qw (yb (yb (yb (hl)))) h) ?_)))))
     refine z0i rfl (q11 0 _ _ h4) ⟨⟨rfl, rfl, rfl, _, (qw (yb (yb (yb (hl)))) h), rfl⟩, rfl, trivial⟩ rfl ?_
     refine xs rfl (lsr (yb (yb (yb (yb (hl)))))).symm (xs rfl (Int.natCast_nonneg _) (y9 rfl _ (ze (qw (yb (yb (yb (hl)))) h)) (xs rfl rfl (xs rfl (lsr (yb (yb (yb (yb (hl)))))).symm (y9 rfl _ (ze (qw (yb (yb (yb (hl)))) h)) ?_)))))
     refine z0i rfl (z2h 0 _ _ h5) ⟨⟨rfl, rfl, rfl, _, (ze (qw (yb (yb (yb (hl)))) h)), rfl⟩, rfl, trivial⟩ rfl ?_
     refine ya rfl (hJ _ (i + 1) (by omega) (by omega) ?_)
     refine ⟨⟨cwi (by omega) (by omega) (by omega), ?_, ⟨rfl, rfl, rfl⟩, trivial⟩, ⟨⟨?_, .inl rfl, .inl rfl⟩, trivial⟩, rfl⟩
     · rw [y02 hg]; rfl
     · refine Eq.trans ?_ (z0y hg)
       try simp only [Int.toNat_natCast, qt hg0, ssr hlt, List.set_set]
       rfl
   · have h : ¬ i < rr.length := by simpa using h
     have : i = rr.length := by omega
     subst this
     exact xr rfl (q1r rfl ⟨⟨rfl, congrArg (Value.int .i64) z0e, trivial⟩, z6 rfl⟩ ⟨⟨rfl, rfl, z0x, zq _ _ _, qr hw⟩, trivial⟩)
theorem y45 (z : Nat) (rr : List (List Cell)) (k : Int) (hw : WR 9000000000000000000 qn rr) : PG Tryz.prog 160 [.one (.giv true z rr), .one (.bor (i64 k))] (rI (mkR (mk qn) rr k).2) [(0, (mkR (mk qn) rr k).1)] := by
 refine PG.begin Tryz.func160 rfl (by kernel_rfl) ?_
 have hlen := hw.1
 refine yc rfl (ι := Nat) (fun i => i ≤ rr.length) (fun i => ⟨[(5, sV (.int .i64 i)), (1, sV (.int .i64 (mdk (mk qn) rr k i))), (0, .one (.h 1000000000 rr.length))], [(1000000000, .arr true z 0 (md (mk qn) rr k i))]⟩) (fun i => rr.length - i) 0 (Nat.zero_le _) ?_ ?_
 · exact ⟨⟨rfl, congrArg (fun n => Cell.s (.int .i64 n)) q02.symm, ⟨rfl, rfl, rfl⟩, trivial⟩, ⟨⟨q0d.symm, .inl rfl, .inl rfl⟩, trivial⟩, rfl⟩
 · intro i hi J hJ
   refine xb rfl (fun h => ?_) (fun h => ?_)
   · have h : i < rr.length := by simpa using h
     obtain ⟨row, hg⟩ : ∃ row, rr[i]? = some row := ⟨_, List.getElem?_eq_getElem h⟩
     obtain ⟨x0, x1, x2, x3, x4, rfl⟩ := y0w (hw.2 row (List.mem_of_getElem? hg))
     have hl := q0x (f := (mk qn)) (k := k) hi
     have hg0 := y0x (f := (mk qn)) (k := k) hg
     have hlt : i < (md (mk qn) rr k i).length := by omega
     refine xs rfl (hl).symm (xs rfl (Int.natCast_nonneg _) (y9 rfl _ hg0 (xs rfl rfl (xs rfl (hl).symm (y9 rfl _ hg0 (xs rfl (by show 0 + 1 ≤ 5; omega) (xs rfl ⟨trivial, trivial⟩ ?_)))))))
     refine xs rfl (yb (hl)).symm (xs rfl (Int.natCast_nonneg _) (y9 rfl _ (qw (hl) h) (xs rfl rfl (xs rfl (yb (hl)).symm (y9 rfl _ (qw (hl) h) (xs rfl (by show 1 + 1 ≤ 5; omega) (xs rfl ⟨trivial, trivial⟩ ?_)))))))
     refine xs rfl (yb (yb (hl))).symm (xs rfl (Int.natCast_nonneg _) (y9 rfl _ (qw (yb (hl)) h) (xs rfl rfl (xs rfl (yb (yb (hl))).symm (y9 rfl _ (qw (yb (hl)) h) (xs rfl (by show 2 + 1 ≤ 5; omega) (xs rfl ⟨trivial, trivial⟩ ?_)))))))
     refine xs rfl (yb (yb (yb (hl)))).symm (xs rfl (Int.natCast_nonneg _) (y9 rfl _ (qw (yb (yb (hl))) h) (xs rfl rfl (xs rfl (yb (yb (yb (hl)))).symm (y9 rfl _ (qw (yb (yb (hl))) h) (xs rfl (by show 3 + 1 ≤ 5; omega) (xs rfl ⟨trivial, trivial⟩ ?_)))))))
     refine xs rfl (yb (yb (yb (yb (hl))))).symm (xs rfl (Int.natCast_nonneg _) (y9 rfl _ (qw (yb (yb (yb (hl)))) h) (xs rfl rfl (xs rfl (yb (yb (yb (yb (hl))))).symm (y9 rfl _ (qw (yb (yb (yb (hl)))) h) (xs rfl (by show 4 + 1 ≤ 5; omega) (xs rfl ⟨trivial, trivial⟩ ?_)))))))
     refine ya rfl (hJ _ (i + 1) (by omega) (by omega) ?_)
     refine ⟨⟨cwi (by omega) (by omega) (by omega), ?_, ⟨rfl, rfl, rfl⟩, trivial⟩, ⟨⟨?_, .inl rfl, .inl rfl⟩, trivial⟩, rfl⟩
     · rw [y02 hg]; rfl
     · refine Eq.trans ?_ (z0y hg)
       try simp only [Int.toNat_natCast, qt hg0, ssr hlt, List.set_set]
       rfl
   · have h : ¬ i < rr.length := by simpa using h
     have : i = rr.length := by omega
     subst this
     exact xr rfl (q1r rfl ⟨⟨rfl, congrArg (Value.int .i64) z0e, trivial⟩, z6 rfl⟩ ⟨⟨rfl, rfl, z0x, zq _ _ _, qr hw⟩, trivial⟩)
theorem z3g (z : Nat) (rr : List (List Cell)) (k : Int) (hw : WR 9000000000000000000 qd rr) : PG Tryz.prog 94 [.one (.giv true z rr), .one (.bor (i64 k))] (rI (mkR (mk qd) rr k).2) [(0, (mkR (mk qd) rr k).1)] := by
 refine PG.begin Tryz.func94 rfl (by kernel_rfl) ?_
 have hlen := hw.1
 refine yc rfl (ι := Nat) (fun i => i ≤ rr.length) (fun i => ⟨[(5, sV (.int .i64 i)), (1, sV (.int .i64 (mdk (mk qd) rr k i))), (0, .one (.h 1000000000 rr.length))], [(1000000000, .arr true z 0 (md (mk qd) rr k i))]⟩) (fun i => rr.length - i) 0 (Nat.zero_le _) ?_ ?_
 · exact ⟨⟨rfl, congrArg (fun n => Cell.s (.int .i64 n)) q02.symm, ⟨rfl, rfl, rfl⟩, trivial⟩, ⟨⟨q0d.symm, .inl rfl, .inl rfl⟩, trivial⟩, rfl⟩
 · intro i hi J hJ
   refine xb rfl (fun h => ?_) (fun h => ?_)
   · have h : i < rr.length := by simpa using h
     obtain ⟨row, hg⟩ : ∃ row, rr[i]? = some row := ⟨_, List.getElem?_eq_getElem h⟩
     obtain ⟨x0, x1, x2, rfl, h1, h2⟩ := y0l (hw.2 row (List.mem_of_getElem? hg))
     have hl := q0x (f := (mk qd)) (k := k) hi
     have hg0 := y0x (f := (mk qd)) (k := k) hg
     have hlt : i < (md (mk qd) rr k i).length := by omega
     refine xs rfl (hl).symm (xs rfl (Int.natCast_nonneg _) (y9 rfl _ hg0 (xs rfl rfl (xs rfl (hl).symm (y9 rfl _ hg0 (xs rfl (by show 0 + 1 ≤ 3; omega) (xs rfl ⟨trivial, trivial⟩ ?_)))))))
     refine xs rfl (yb (hl)).symm (xs rfl (Int.natCast_nonneg _) (y9 rfl _ (qw (hl) h) (xs rfl rfl (xs rfl (yb (hl)).symm (y9 rfl _ (qw (hl) h) ?_)))))
     refine z0i rfl (y5f 0 _ _ h1) ⟨⟨rfl, rfl, rfl, _, (qw (hl) h), rfl⟩, rfl, trivial⟩ rfl ?_
     refine xs rfl (lsr (yb (hl))).symm (xs rfl (Int.natCast_nonneg _) (y9 rfl _ (ze (qw (hl) h)) (xs rfl rfl (xs rfl (lsr (yb (hl))).symm (y9 rfl _ (ze (qw (hl) h)) ?_)))))
     refine z0i rfl (y45 0 _ _ h2) ⟨⟨rfl, rfl, rfl, _, (ze (qw (hl) h)), rfl⟩, rfl, trivial⟩ rfl ?_
     refine ya rfl (hJ _ (i + 1) (by omega) (by omega) ?_)
     refine ⟨⟨cwi (by omega) (by omega) (by omega), ?_, ⟨rfl, rfl, rfl⟩, trivial⟩, ⟨⟨?_, .inl rfl, .inl rfl⟩, trivial⟩, rfl⟩
     · rw [y02 hg]; rfl
     · refine Eq.trans ?_ (z0y hg)
       try simp only [Int.toNat_natCast, qt hg0, ssr hlt, List.set_set]
       rfl
   · have h : ¬ i < rr.length := by simpa using h
     have : i = rr.length := by omega
     subst this
     exact xr rfl (q1r rfl ⟨⟨rfl, congrArg (Value.int .i64) z0e, trivial⟩, z6 rfl⟩ ⟨⟨rfl, rfl, z0x, zq _ _ _, qr hw⟩, trivial⟩)
theorem z30 (z : Nat) (rr : List (List Cell)) (k : Int) (hw : WR 9000000000000000000 zg rr) : PG Tryz.prog 95 [.one (.giv true z rr), .one (.bor (i64 k))] (rI (mkR (mk zg) rr k).2) [(0, (mkR (mk zg) rr k).1)] := by
 refine PG.begin Tryz.func95 rfl (by kernel_rfl) ?_
 have hlen := hw.1
 refine yc rfl (ι := Nat) (fun i => i ≤ rr.length) (fun i => ⟨[(5, sV (.int .i64 i)), (1, sV (.int .i64 (mdk (mk zg) rr k i))), (0, .one (.h 1000000000 rr.length))], [(1000000000, .arr true z 0 (md (mk zg) rr k i))]⟩) (fun i => rr.length - i) 0 (Nat.zero_le _) ?_ ?_
 · exact ⟨⟨rfl, congrArg (fun n => Cell.s (.int .i64 n)) q02.symm, ⟨rfl, rfl, rfl⟩, trivial⟩, ⟨⟨q0d.symm, .inl rfl, .inl rfl⟩, trivial⟩, rfl⟩
 · intro i hi J hJ
   refine xb rfl (fun h => ?_) (fun h => ?_)
   · have h : i < rr.length := by simpa using h
     obtain ⟨row, hg⟩ : ∃ row, rr[i]? = some row := ⟨_, List.getElem?_eq_getElem h⟩
     obtain ⟨x0, x1, x2, x3, x4, x5, x6, x7, x8, rfl⟩ := y0c (hw.2 row (List.mem_of_getElem? hg))
     have hl := q0x (f := (mk zg)) (k := k) hi
     have hg0 := y0x (f := (mk zg)) (k := k) hg
     have hlt : i < (md (mk zg) rr k i).length := by omega
     refine xs rfl (hl).symm (xs rfl (Int.natCast_nonneg _) (y9 rfl _ hg0 (xs rfl rfl (xs rfl (hl).symm (y9 rfl _ hg0 (xs rfl (by show 0 + 1 ≤ 9; omega) (xs rfl ⟨trivial, trivial⟩ ?_)))))))
     refine xs rfl (yb (hl)).symm (xs rfl (Int.natCast_nonneg _) (y9 rfl _ (qw (hl) h) (xs rfl rfl (xs rfl (yb (hl)).symm (y9 rfl _ (qw (hl) h) (xs rfl (by show 1 + 1 ≤ 9; omega) (xs rfl ⟨trivial, trivial⟩ ?_)))))))
     refine xs rfl (yb (yb (hl))).symm (xs rfl (Int.natCast_nonneg _) (y9 rfl _ (qw (yb (hl)) h) (xs rfl rfl (xs rfl (yb (yb (hl))).symm (y9 rfl _ (qw (yb (hl)) h) (xs rfl (by show 2 + 1 ≤ 9; omega) (xs rfl ⟨trivial, trivial⟩ ?_)))))))
     refine xs rfl (yb (yb (yb (hl)))).symm (xs rfl (Int.natCast_nonneg _) (y9 rfl _ (qw (yb (yb (hl))) h) (xs rfl rfl (xs rfl (yb (yb (yb (hl)))).symm (y9 rfl _ (qw (yb (yb (hl))) h) (xs rfl (by show 3 + 1 ≤ 9; omega) (xs rfl ⟨trivial, trivial⟩ ?_)))))))
     refine xs rfl (yb (yb (yb (yb (hl))))).symm (xs rfl (Int.natCast_nonneg _) (y9 rfl _ (qw (yb (yb (yb (hl)))) h) (xs rfl rfl (xs rfl (yb (yb (yb (yb (hl))))).symm (y9 rfl _ (qw (yb (yb (yb (hl)))) h) (xs rfl (by show 4 + 1 ≤ 9; omega) (xs rfl ⟨trivial, trivial⟩ ?_)))))))
     refine xs rfl (yb (yb (yb (yb (yb (hl)))))).symm (xs rfl (Int.natCast_nonneg _) (y9 rfl _ (qw (yb (yb (yb (yb (hl))))) h) (xs rfl rfl (xs rfl (yb (yb (yb (yb (yb (hl)))))).symm (y9 rfl _ (qw (yb (yb (yb (yb (hl))))) h) (xs rfl (by show 5 + 1 ≤ 9; omega) (xs rfl ⟨trivial, trivial⟩ ?_)))))))
     refine xs rfl (yb (yb (yb (yb (yb (yb (hl))))))).symm (xs rfl (Int.natCast_nonneg _) (y9 rfl _ (qw (yb (yb (yb (yb (yb (hl)))))) h) (xs rfl rfl (xs rfl (yb (yb (yb (yb (yb (yb (hl))))))).symm (y9 rfl _ (qw (yb (yb (yb (yb (yb (hl)))))) h) (xs rfl (by show 6 + 1 ≤ 9; omega) (xs rfl ⟨trivial, trivial⟩ ?_)))))))
     refine xs rfl (yb (yb (yb (yb (yb (yb (yb (hl)))))))).symm (xs rfl (Int.natCast_nonneg _) (y9 rfl _ (qw (yb (yb (yb (yb (yb (yb (hl))))))) h) (xs rfl rfl (xs rfl (yb (yb (yb (yb (yb (yb (yb (hl)))))))).symm (y9 rfl _ (qw (yb (yb (yb (yb (yb (yb (hl))))))) h) (xs rfl (by show 7 + 1 ≤ 9; omega) (xs rfl ⟨trivial, trivial⟩ ?_)))))))
     refine xs rfl (yb (yb (yb (yb (yb (yb (yb (yb (hl))))))))).symm (xs rfl (Int.natCast_nonneg _) (y9 rfl _ (qw (yb (yb (yb (yb (yb (yb (yb (hl)))))))) h) (xs rfl rfl (xs rfl (yb (yb (yb (yb (yb (yb (yb (yb (hl))))))))).symm (y9 rfl _ (qw (yb (yb (yb (yb (yb (yb (yb (hl)))))))) h) (xs rfl (by show 8 + 1 ≤ 9; omega) (xs rfl ⟨trivial, trivial⟩ ?_)))))))
     refine ya rfl (hJ _ (i + 1) (by omega) (by omega) ?_)
     refine ⟨⟨cwi (by omega) (by omega) (by omega), ?_, ⟨rfl, rfl, rfl⟩, trivial⟩, ⟨⟨?_, .inl rfl, .inl rfl⟩, trivial⟩, rfl⟩
     · rw [y02 hg]; rfl
     · refine Eq.trans ?_ (z0y hg)
       try simp only [Int.toNat_natCast, qt hg0, ssr hlt, List.set_set]
       rfl
   · have h : ¬ i < rr.length := by simpa using h
     have : i = rr.length := by omega
     subst this
     exact xr rfl (q1r rfl ⟨⟨rfl, congrArg (Value.int .i64) z0e, trivial⟩, z6 rfl⟩ ⟨⟨rfl, rfl, z0x, zq _ _ _, qr hw⟩, trivial⟩)
theorem q3f (z0 z1 z2 z3 z4 : Nat) (x0 : List (List Cell)) (x1 : List (List Cell)) (x2 : List (List Cell)) (x3 : List (List Cell)) (x4 : List (List Cell)) (k : Int) (k0 : Int) (k1 : Int) (k2 : Int) (k3 : Int) (k4 : Int) (h0 : WR 9000000000000000000 z8 x0) (h1 : WR 9000000000000000000 zf x1) (h2 : WR 9000000000000000000 za x2) (h3 : WR 9000000000000000000 qd x3) (h4 : WR 9000000000000000000 zg x4) (e0 : (mkR (mk z8) x0 k).2 = k0) (e1 : (mkR (mk zf) x1 k0).2 = k1) (e2 : (mkR (mk za) x2 k1).2 = k2) (e3 : (mkR (mk qd) x3 k2).2 = k3) (e4 : (mkR (mk zg) x4 k3).2 = k4) : PG Tryz.prog 30 [.agg [.giv true z0 x0, .giv true z1 x1, .giv true z2 x2, .giv true z3 x3, .giv true z4 x4], .one (.bor (i64 k))] (rI k4) [(0, (mkR (mk z8) x0 k).1), (1, (mkR (mk zf) x1 k0).1), (2, (mkR (mk za) x2 k1).1), (3, (mkR (mk qd) x3 k2).1), (4, (mkR (mk zg) x4 k3).1)] := by
 refine PG.begin Tryz.func30 rfl (by kernel_rfl) ?_
 refine z0i rfl (q13 z0 x0 k h0) ⟨⟨rfl, rfl, rfl, rfl⟩, rfl, trivial⟩ rfl ?_
 rw [e0]
 refine z0i rfl (z46 z1 x1 k0 h1) ⟨⟨rfl, rfl, rfl, rfl⟩, rfl, trivial⟩ rfl ?_
 rw [e1]
 refine z0i rfl (z2l z2 x2 k1 h2) ⟨⟨rfl, rfl, rfl, rfl⟩, rfl, trivial⟩ rfl ?_
 rw [e2]
 refine z0i rfl (z3g z3 x3 k2 h3) ⟨⟨rfl, rfl, rfl, rfl⟩, rfl, trivial⟩ rfl ?_
 rw [e3]
 refine z0i rfl (z30 z4 x4 k3 h4) ⟨⟨rfl, rfl, rfl, rfl⟩, rfl, trivial⟩ rfl ?_
 rw [e4]
 exact xr rfl (q1r rfl ⟨⟨rfl, rfl, trivial⟩, z6 rfl⟩ ⟨⟨rfl, rfl, rfl, zq _ _ _, qr h0⟩, ⟨rfl, rfl, rfl, zq _ _ _, qr h1⟩, ⟨rfl, rfl, rfl, zq _ _ _, qr h2⟩, ⟨rfl, rfl, rfl, zq _ _ _, qr h3⟩, ⟨rfl, rfl, rfl, zq _ _ _, qr h4⟩, trivial⟩)
end Go.Proofs.YthljegacamgnnaaGreat
end
section
namespace Go.Proofs.YthljegacamgnnaaGreat
open Go Go.Sx
set_option maxRecDepth 20000
set_option maxHeartbeats 4000000
theorem y41 (rr : List (List Cell)) (k : Int) (hw : WR 9000000000000000000 (.i .i64 .nil) rr) : PC Tryz.prog 102 [.one (.l rr), .one (i64 k)] (rI (ng (hdR (hd (.i .i64 .nil)) rr k))) := by
 refine PC.begin Tryz.func102 rfl (by kernel_rfl) ?_
 have hlen := hw.1
 refine yc rfl (ι := Nat × Int) (fun x => x.1 ≤ rr.length ∧ hdR (hd (.i .i64 .nil)) (rr.take x.1) k = some x.2) (fun x => ⟨[(5, sV (.int .i64 x.1)), (1, sV (.int .i64 x.2)), (0, .one (.b (.l rr)))], []⟩) (fun x => rr.length - x.1) (0, k) ⟨Nat.zero_le _, rfl⟩ ?_ ?_
 · exact ⟨⟨rfl, rfl, rfl, trivial⟩, trivial, rfl⟩
 · intro ⟨i, v⟩ ⟨hi, hv⟩ J hJ
   dsimp only at hi hv ⊢
   refine xb rfl (fun h => ?_) (fun h => ?_)
   · have h : i < rr.length := by simpa using h
     obtain ⟨row, hg⟩ : ∃ row, rr[i]? = some row := ⟨_, List.getElem?_eq_getElem h⟩
     obtain ⟨x0, _, rfl, hnil⟩ := ((hw.2 row (List.mem_of_getElem? hg))).yv; obtain rfl := hnil.qx
     have hst := q85 hg hv
     refine xs rfl (Int.natCast_nonneg _) (y9 rfl _ hg (xs rfl rfl ?_))
     refine xb rfl (fun hb => ?_) (fun hb => ?_)
     · have hb : ¬ x0 = mkv .i64 (v) := by simpa [mkv, nx] using hb
       exact xr rfl (q7 rfl ⟨⟨rfl, congrArg (Value.int .i64) (q7d (y85 (i := i + 1) (hst.trans (by simp only [hd, if_neg hb])))).symm, trivial⟩, z6 rfl⟩)
     have hb0 : x0 = mkv .i64 (v) := by simpa [mkv, nx] using hb
     clear hb
     refine ya rfl (hJ _ (i + 1, nx (v)) ⟨by dsimp only; omega, hst.trans (by simp only [hd, if_pos hb0])⟩ (by dsimp only; omega) ?_)
     exact ⟨⟨cwi (by omega) (by omega) (by omega), rfl, rfl, trivial⟩, trivial, rfl⟩
   · have h : ¬ i < rr.length := by simpa using h
     have : i = rr.length := by omega
     subst this
     rw [List.take_length] at hv
     exact xr rfl (q7 rfl ⟨⟨rfl, congrArg (Value.int .i64) (by rw [hv]; rfl), trivial⟩, z6 rfl⟩)
end Go.Proofs.YthljegacamgnnaaGreat
end
section
namespace Go.Sx
theorem y8a {N : Nat} {e : Sh} {rows : List (List Cell)} (hw : WR N e rows) : z01 (cnt e) rows ≤ wid e * rows.length + y48 e * z01 (tot e) rows :=
 z26 fun row hr => z8s (hw.2 row hr)
theorem q8a {N : Nat} {e : Sh} {rows : List (List Cell)} (hw : WR N e rows) (hs : z01 (cnt e) rows ≤ 1000000000000000000) :
 0 ≤ (mkR (mk e) rows 1).2 ∧ ∀ (k0 : IntKind) (c : Cell), ng (ht (.i k0 (.l e .nil)) [c, .l (mkR (mk e) rows 1).1] 1) = (mkR (mk e) rows 1).2 := by
 obtain ⟨h1, h2⟩ := q47 (f := mk e) (g := hd e) (c := cnt e) (rows := rows) (fun row hr k h1 h2 => y7d (hw.2 row hr) k h1 h2) 1 (by omega) (by omega)
 refine ⟨by omega, fun k0 c => ?_⟩
 simp only [ht, h1, h2]
 have : ng (some (1 + (z01 (cnt e) rows : Int))) = 1 + z01 (cnt e) rows := rfl
 rw [this, q9j (by omega)]
 rfl
end Go.Sx
end
section
namespace Go.Proofs.YthljegacamgnnaaGreat
open Go Go.Sx
set_option maxRecDepth 20000
set_option maxHeartbeats 4000000
theorem z81 (c : Clu) (h : WT 1048576 zo c.cs ∧ tot zo c.cs ≤ 1048576) : ∃ (k : Int) (r0 r1 r2 r3 r4 : List (List Cell)), 0 ≤ k ∧
 PG Tryz.prog 30 [.agg [.giv true 2 (c.cons.map Con.cs), .giv true 6 (c.shs.map Shd.cs), .giv true 1 (c.accs.map Acc.cs), .giv true 3 (c.ldrs.map Ldr.cs), .giv true 9 (c.msgs.map Msg.cs)], .one (.bor (i64 1))] (rI k) [(0, r0), (1, r1), (2, r2), (3, r3), (4, r4)] := by
 obtain ⟨h, ht⟩ := h
 obtain ⟨_, _, _, _, _, e, m0, m1, m2, m3, m4⟩ := q0m h
 cases e
 have up : ∀ {e : Sh} {r : List (List Cell)}, WR 1048576 e r → WR 9000000000000000000 e r := fun h => h.mono (by omega)
 have hm := q3f 2 6 1 3 9 _ _ _ _ _ 1 _ _ _ _ _ (up m0) (up m1) (up m2) (up m3) (up m4) rfl rfl rfl rfl rfl
 have hc := z8s h
 have hw : wid zo = 0 := rfl
 have hw2 : y48 zo = 48 := rfl
 rw [hw, hw2] at hc
 have hk := (y7d h 1 (by omega) (by omega)).2
 exact ⟨_, _, _, _, _, _, by
  show 0 ≤ (mk zo c.cs 1).2
  rw [hk]; omega, hm⟩
theorem z77 {us : List Int} {N : Nat} (h : us.length ≤ N) : WR N (.i .i64 .nil) (ints us) := ⟨by simpa using h, fun row hr => by
 simp [ints] at hr
 obtain ⟨n, _, rfl⟩ := hr
 exact .i n .nil⟩
end Go.Proofs.YthljegacamgnnaaGreat
end
section
namespace Go.Proofs.YthljegacamgnnaaGreat
open Go Go.Sx
set_option maxRecDepth 20000
set_option maxHeartbeats 4000000
abbrev rIs (code : Int) (us : List Int) : Res := .one (.own true [.s (.int .i64 code), .l 1 (ints us)])
end Go.Proofs.YthljegacamgnnaaGreat
end
section
namespace Go.Proofs.YthljegacamgnnaaGreat
open Go Go.Sx
set_option maxRecDepth 20000
set_option maxHeartbeats 4000000
abbrev q1k : Sh := (.i .i64 (.l (.i .i64 .nil) .nil))
theorem z2k (x0 : Int) (x1 : List (List Cell)) (y0 : Int) (y1 : List (List Cell)) (h1 : WR 9000000000000000000 (.i .i64 .nil) x1) (k1 : WR 9000000000000000000 (.i .i64 .nil) y1) : PC Tryz.prog 47 [.agg [.s (.int .i64 x0), .l x1], .agg [.s (.int .i64 y0), .l y1]] (rB (dE (α := List Cell) [.s (.int .i64 x0), .l x1] [.s (.int .i64 y0), .l y1])) := by
 refine PC.begin Tryz.func47 rfl (by kernel_rfl) ?_
 refine xb rfl (fun h => ?_) (fun e0 => ?_)
 · exact xr rfl (q7 rfl ⟨⟨rfl, yk (fun e => by simp only [List.cons.injEq, Cell.s.injEq, Value.int.injEq, Value.bool.injEq, Value.string.injEq] at e; simp [e] at h), trivial⟩, z6 rfl⟩)
 have e0 : x0 = y0 := by simpa using e0
 refine z7 rfl (z1n _ _ h1 k1) rfl ⟨trivial, trivial, trivial⟩ ?_
 refine xb rfl (fun h => ?_) (fun e1 => ?_)
 · exact xr rfl (q7 rfl ⟨⟨rfl, yk (fun e => z05 h (by simp only [List.cons.injEq, Cell.l.injEq] at e ⊢; simp only [e]; try trivial)), trivial⟩, z6 rfl⟩)
 have e1 := q04 e1
 exact xr rfl (q7 rfl ⟨⟨rfl, qu (by simp [e0, e1]), trivial⟩, z6 rfl⟩)
theorem y1x (z1 : Nat) (x0 : Int) (x1 : List (List Cell)) (k : Int) (k1 : Int) (h1 : WR 9000000000000000000 (.i .i64 .nil) x1) (e1 : (mkR (mk (.i .i64 .nil)) x1 k).2 = k1) : PG Tryz.prog 48 [.agg [.bor (.s (.int .i64 x0)), .giv true z1 x1], .one (.bor (i64 k))] (rI k1) [(1, (mkR (mk (.i .i64 .nil)) x1 k).1)] := by
 refine PG.begin Tryz.func48 rfl (by kernel_rfl) ?_
 refine z0i rfl (q11 z1 x1 k h1) ⟨⟨rfl, rfl, rfl, rfl⟩, rfl, trivial⟩ rfl ?_
 rw [e1]
 exact xr rfl (q1r rfl ⟨⟨rfl, rfl, trivial⟩, z6 rfl⟩ ⟨⟨rfl, rfl, rfl, zq _ _ _, qr h1⟩, trivial⟩)
theorem q1v (x0 : Int) (x1 : List (List Cell)) (k : Int) (h1 : WR 9000000000000000000 (.i .i64 .nil) x1) (hk : 0 ≤ k) : PC Tryz.prog 49 [.agg [.s (.int .i64 x0), .l x1], .one (i64 k)] (rI (ng (ht q1k [.s (.int .i64 x0), .l x1] k))) := by
 refine PC.begin Tryz.func49 rfl (by kernel_rfl) ?_
 have e : ht q1k [.s (.int .i64 x0), .l x1] k = ((ps (ng (hdR (hd (.i .i64 .nil)) x1 k))).bind fun v1 => some v1) := by simp only [ht, Option.bind_assoc, Option.bind_some]
 rw [e]
 refine z7 rfl (y41 x1 k h1) rfl ⟨trivial, trivial, trivial⟩ ?_
 generalize hk1 : ng (hdR (hd (.i .i64 .nil)) x1 (k)) = k1
 refine xb rfl (fun hb => ?_) (fun hb => ?_)
 · have hb : k1 < 0 := by simpa using hb
   exact xr rfl (q7 rfl ⟨⟨rfl, congrArg (Value.int .i64) (q7d (by simp only [hk1, qar hb]; rfl)).symm, trivial⟩, z6 rfl⟩)
 have hb1 : ¬ k1 < 0 := by simpa using hb
 have hp1 : 0 ≤ k1 := by omega
 clear hb
 exact xr rfl (q7 rfl ⟨⟨rfl, congrArg (Value.int .i64) (by simp only [hk1, q9j hb1, Option.bind_some]; rfl), trivial⟩, z6 rfl⟩)
end Go.Proofs.YthljegacamgnnaaGreat
end
section
namespace Go.Proofs.YthljegacamgnnaaGreat
open Go Go.Sx
set_option maxRecDepth 20000
set_option maxHeartbeats 4000000
theorem y8d (us : List Int) (hl : us.length ≤ 1048576) : ∃ (k : Int) (r : List (List Cell)), 0 ≤ k ∧ r.length = (ints us).length ∧ (∀ (z : Nat) (code : Int), PG Tryz.prog 48 [.agg [.bor (.s (.int .i64 code)), .giv true z (ints us)], .one (.bor (i64 1))] (rI k) [(1, r)]) ∧
 ∀ code : Int, PC Tryz.prog 49 [.agg [.s (.int .i64 code), .l r], .one (i64 1)] (rI k) := by
 have hw := z77 (N := 9000000000000000000) (us := us) (by omega)
 have hc := y8a hw
 have hlen : (ints us).length = us.length := by simp
 rw [show wid (.i .i64 .nil) = 1 from rfl, show y48 (.i .i64 .nil) = 0 from rfl, hlen] at hc
 obtain ⟨h1, h2⟩ := q8a hw (by omega)
 refine ⟨_, _, h1, zq _ _ _, fun z code => y1x z code (ints us) 1 _ hw rfl, fun code => ?_⟩
 have := q1v code (mkR (mk (.i .i64 .nil)) (ints us) 1).1 1 (za5 hw 1) (by omega)
 rw [h2] at this
 exact this
theorem q8d (us : List Int) (hl : us.length ≤ 1048576) (code : Int) : PC Tryz.prog 47 [.agg [.s (.int .i64 code), .l (ints us)], .agg [.s (.int .i64 code), .l (ints us)]] (rB true) := by
 have hw := z77 (N := 9000000000000000000) (us := us) (by omega)
 have h := z2k code (ints us) code (ints us) hw hw
 rwa [show dE (α := List Cell) [.s (.int .i64 code), .l (ints us)] [.s (.int .i64 code), .l (ints us)] = true from (Value.bool.inj (qu rfl)).symm] at h
theorem y75 (c : Clu) (ho : yw c) : PC Tryz.prog 46 [.agg c.cs] (rIs (q3o c).1 (q3o c).2) := by
 refine PC.begin Tryz.func46 rfl (by kernel_rfl) ?_
 by_cases hc : zl c = 0
 · have hop := z8e c ho hc
   cases hO : z32 c with
   | some l =>
     have hR : q3o c = (0, l) := by unfold q3o; rw [if_neg (by simpa using hc), hO]
     rw [hR]
     rw [hO] at hop
     refine z7 rfl (y5c c ho) rfl ⟨⟨trivial, trivial, trivial, trivial, trivial, trivial⟩, trivial⟩ ?_
     refine xb rfl (fun b0 => ?_) (fun b0 => ?_)
     exact absurd b0 (by simp; omega)
     refine z7 rfl (hop) rfl ⟨⟨trivial, trivial, trivial, trivial, trivial, trivial⟩, trivial⟩ ?_
     refine xj (k := 1) rfl ?_
     refine xr rfl (q7 rfl ⟨⟨rfl, rfl, ⟨rfl, rfl, .inl rfl⟩, trivial⟩, z6 rfl⟩)
     all_goals first
      | (exfalso; simp_all; done)
      | skip
   | none =>
     have hR : q3o c = (1, []) := by unfold q3o; rw [if_neg (by simpa using hc), hO]
     rw [hR]
     rw [hO] at hop
     refine z7 rfl (y5c c ho) rfl ⟨⟨trivial, trivial, trivial, trivial, trivial, trivial⟩, trivial⟩ ?_
     refine xb rfl (fun b0 => ?_) (fun b0 => ?_)
     exact absurd b0 (by simp; omega)
     refine z7 rfl (hop) rfl ⟨⟨trivial, trivial, trivial, trivial, trivial, trivial⟩, trivial⟩ ?_
     refine xj (k := 1) rfl ?_
     refine xr rfl (q7 rfl ⟨⟨rfl, rfl, rfl, trivial⟩, z6 rfl⟩)
     all_goals first
      | (exfalso; simp_all; done)
      | skip
 · have hR : q3o c = (zl c, []) := by unfold q3o; rw [if_pos hc]
   rw [hR]
   refine z7 rfl (y5c c ho) rfl ⟨⟨trivial, trivial, trivial, trivial, trivial, trivial⟩, trivial⟩ ?_
   refine xb rfl (fun b0 => ?_) (fun b0 => ?_)
   refine xr rfl (q7 rfl ⟨⟨rfl, rfl, rfl, trivial⟩, z6 rfl⟩)
   exact absurd b0 (by simp; omega)
   all_goals (exfalso; simp_all; done)
theorem z7l (c : Clu) (ho : yw c) : PC Tryz.prog 45 [.agg c.cs] (rIs (q3o c).1 (q3o c).2) := by
 refine PC.begin Tryz.func45 rfl (by kernel_rfl) ?_
 by_cases hc : zl c = 0
 · have hop := y7l c ho hc
   cases hO : z32 c with
   | some l =>
     have hR : q3o c = (0, l) := by unfold q3o; rw [if_neg (by simpa using hc), hO]
     rw [hR]
     rw [hO] at hop
     refine z7 rfl (z5k c ho) rfl ⟨⟨trivial, trivial, trivial, trivial, trivial, trivial⟩, trivial⟩ ?_
     refine xb rfl (fun b0 => ?_) (fun b0 => ?_)
     exact absurd b0 (by simp; omega)
     refine z7 rfl (hop) rfl ⟨⟨trivial, trivial, trivial, trivial, trivial, trivial⟩, trivial⟩ ?_
     refine xj (k := 1) rfl ?_
     refine xr rfl (q7 rfl ⟨⟨rfl, rfl, ⟨rfl, rfl, .inl rfl⟩, trivial⟩, z6 rfl⟩)
     all_goals first
      | (exfalso; simp_all; done)
      | skip
   | none =>
     have hR : q3o c = (1, []) := by unfold q3o; rw [if_neg (by simpa using hc), hO]
     rw [hR]
     rw [hO] at hop
     refine z7 rfl (z5k c ho) rfl ⟨⟨trivial, trivial, trivial, trivial, trivial, trivial⟩, trivial⟩ ?_
     refine xb rfl (fun b0 => ?_) (fun b0 => ?_)
     exact absurd b0 (by simp; omega)
     refine z7 rfl (hop) rfl ⟨⟨trivial, trivial, trivial, trivial, trivial, trivial⟩, trivial⟩ ?_
     refine xj (k := 1) rfl ?_
     refine xr rfl (q7 rfl ⟨⟨rfl, rfl, rfl, trivial⟩, z6 rfl⟩)
     all_goals first
      | (exfalso; simp_all; done)
      | skip
 · have hR : q3o c = (zl c, []) := by unfold q3o; rw [if_pos hc]
   rw [hR]
   refine z7 rfl (z5k c ho) rfl ⟨⟨trivial, trivial, trivial, trivial, trivial, trivial⟩, trivial⟩ ?_
   refine xb rfl (fun b0 => ?_) (fun b0 => ?_)
   refine xr rfl (q7 rfl ⟨⟨rfl, rfl, rfl, trivial⟩, z6 rfl⟩)
   exact absurd b0 (by simp; omega)
   all_goals (exfalso; simp_all; done)
theorem y89 (cs : List Cell) (hw : WT 9223372036854775807 zo cs) : PC Tryz.prog 11 [.agg cs] (rB true) := by
 refine PC.begin Tryz.func11 rfl (by kernel_rfl) ?_
 obtain ⟨x0, x1, x2, x3, x4, rfl, _⟩ := q0m hw
 rcases q9z x0 x1 x2 x3 x4 hw 1048576 (Nat.le_refl _) with hsz | ⟨c, rfl, rfl, rfl, rfl, rfl, ho, hwt, ⟨n, _, hsz⟩, hto, heq⟩
 · skip
   refine z7 rfl (hsz) rfl ⟨⟨trivial, trivial, trivial, trivial, trivial, trivial⟩, trivial, trivial⟩ ?_
   refine xj (k := 1) rfl ?_
   refine xr rfl (q7 rfl ⟨⟨rfl, rfl, trivial⟩, z6 rfl⟩)
 · have hI := y75 c ho
   have hS := z7l c ho
   have hle := z9j c
   generalize (q3o c).1 = code at hI hS
   generalize (q3o c).2 = us at hI hS hle
   have hr := q8d us hle code
   obtain ⟨k, r0, r1, r2, r3, r4, hk, hmk⟩ := z81 c hwt
   obtain ⟨q, rr, hq, hrl, hmr, hhd⟩ := y8d us hle
   refine z7 rfl (hsz) rfl ⟨⟨trivial, trivial, trivial, trivial, trivial, trivial⟩, trivial, trivial⟩ ?_
   refine xj (k := 1) rfl ?_
   refine z7 rfl (hto) rfl ⟨⟨trivial, trivial, trivial, trivial, trivial, trivial⟩, trivial⟩ ?_
   refine z7 rfl (hS) rfl ⟨⟨rfl, rfl, rfl, rfl, rfl, trivial⟩, trivial⟩ ?_
   refine z7 rfl (hto) rfl ⟨⟨trivial, trivial, trivial, trivial, trivial, trivial⟩, trivial⟩ ?_
   refine z7 rfl (hI) rfl ⟨⟨rfl, rfl, rfl, rfl, rfl, trivial⟩, trivial⟩ ?_
   refine z7 rfl (hr) rfl ⟨⟨trivial, rfl, trivial⟩, ⟨trivial, rfl, trivial⟩, trivial⟩ ?_
   refine xj (k := 1) rfl ?_
   refine zc rfl [] (.take 0 [3, 4] (.take 1 [2, 3, 4] (.alt 2 (.alt 3 (.take 4 [] .done) .nil) .nil))) (by kernel_rfl) ?_
   refine z7 rfl (hto) rfl ⟨⟨trivial, trivial, trivial, trivial, trivial, trivial⟩, trivial⟩ ?_
   refine z7 rfl (heq) rfl ⟨⟨rfl, rfl, rfl, rfl, rfl, trivial⟩, ⟨rfl, rfl, rfl, rfl, rfl, trivial⟩, trivial⟩ ?_
   refine xj (k := 1) rfl ?_
   refine z0i rfl (hmk) ⟨⟨⟨rfl, rfl, rfl, rfl⟩, ⟨rfl, rfl, rfl, rfl⟩, ⟨rfl, rfl, rfl, rfl⟩, ⟨rfl, rfl, rfl, rfl⟩, ⟨rfl, rfl, rfl, rfl⟩, trivial⟩, rfl, trivial⟩ rfl ?_
   refine xb rfl (fun b0 => ?_) (fun b0 => ?_)
   exact absurd b0 (by simp; omega)
   refine xj (k := 2) rfl ?_
   refine z7 rfl (hr) rfl ⟨⟨trivial, rfl, trivial⟩, ⟨trivial, rfl, trivial⟩, trivial⟩ ?_
   refine xj (k := 3) rfl ?_
   refine z0i rfl (hmr 1 code) ⟨⟨rfl, ⟨rfl, rfl, rfl, rfl⟩, trivial⟩, rfl, trivial⟩ rfl ?_
   refine z7 rfl (hhd code) rfl ⟨⟨trivial, hrl.symm, trivial⟩, trivial, trivial⟩ ?_
   refine xb rfl (fun b0 => ?_) (fun b0 => ?_)
   exact absurd b0 (by simp; omega)
   refine xb rfl (fun b1 => ?_) (fun b1 => ?_)
   exact absurd b1 (by simp [*])
   refine z7 rfl (hto) rfl ⟨⟨trivial, trivial, trivial, trivial, trivial, trivial⟩, trivial⟩ ?_
   refine z7 rfl (hI) rfl ⟨⟨rfl, rfl, rfl, rfl, rfl, trivial⟩, trivial⟩ ?_
   refine z7 rfl (hr) rfl ⟨⟨trivial, rfl, trivial⟩, ⟨trivial, rfl, trivial⟩, trivial⟩ ?_
   refine xj (k := 1) rfl ?_
   refine z7 rfl (hhd code) rfl ⟨⟨trivial, hrl.symm, trivial⟩, trivial, trivial⟩ ?_
   refine xb rfl (fun b0 => ?_) (fun b0 => ?_)
   exact absurd b0 (by simp; omega)
   refine xb rfl (fun b1 => ?_) (fun b1 => ?_)
   exact absurd b1 (by simp [*])
   refine xr rfl (q7 rfl ⟨⟨rfl, rfl, trivial⟩, z6 rfl⟩)
end Go.Proofs.YthljegacamgnnaaGreat
end
section
namespace Go.Proofs.YthljegacamgnnaaGreat.fnExactOrderOf
open Go.ChangeShapes Go.WideShapes Go.ChangeAt Go.RowKit
set_option maxRecDepth 100000 in
set_option maxHeartbeats 40000000 in
theorem closed : joinedFacts Tryz.pinned.checked.prog 11 Tryz.f11 Rows.fnExactOrderOfSpec Rows.fnExactOrderOfRow = true := by
 unfold joinedFacts
 simp only [Bool.and_eq_true]
 repeat' refine And.intro ?_ ?_
 all_goals as_aux_lemma => kernel_rfl
end Go.Proofs.YthljegacamgnnaaGreat.fnExactOrderOf
end
section
namespace Go.Proofs.YthljegacamgnnaaGreat.fnExactOrderOf
open Go.ChangeShapes Go.WideShapes Go.ChangeAt Go.RowKit Go.Sx
open Go.ChangeMaps (open_string shut_string)
theorem own : ownKnob Tryz.prog.godebug = none := by kernel_rfl
theorem laidOut : laidOutB Tryz.prog = true := by kernel_rfl
theorem q2 : OS Tryz.prog 2 (.i .i64 .nil) := qa6 Tryz.underlying2 (by kernel_rfl)
theorem yb6 : OS Tryz.prog 294 yy := zy Tryz.underlying294 (by kernel_rfl) (.cons (by kernel_rfl) (.cons (by kernel_rfl) (.cons (by kernel_rfl) (.cons (by kernel_rfl) (.nil _))))) (zh q2 (zh q2 (zh q2 (y0e q2) rfl rfl) rfl rfl) rfl rfl)
theorem zb2 : OS Tryz.prog 151 (.l yy .nil) := z03 Tryz.underlying151 (by kernel_rfl) yb6
theorem yb2 : OS Tryz.prog 153 z8 := zy Tryz.underlying153 (by kernel_rfl) (.cons (by kernel_rfl) (.cons (by kernel_rfl) (.nil _))) (zh q2 (y0e zb2) rfl rfl)
theorem q22 : OS Tryz.prog 22 (.l z8 .nil) := z03 Tryz.underlying22 (by kernel_rfl) yb2
theorem yb5 : OS Tryz.prog 269 qc := zy Tryz.underlying269 (by kernel_rfl) (.cons (by kernel_rfl) (.cons (by kernel_rfl) (.cons (by kernel_rfl) (.nil _)))) (zh q2 (zh q2 (y0e q2) rfl rfl) rfl rfl)
theorem qb2 : OS Tryz.prog 155 (.l qc .nil) := z03 Tryz.underlying155 (by kernel_rfl) yb5
theorem qb6 : OS Tryz.prog 296 yh := zy Tryz.underlying296 (by kernel_rfl) (.cons (by kernel_rfl) (.cons (by kernel_rfl) (.nil _))) (zh q2 (y0e q2) rfl rfl)
theorem qax : OS Tryz.prog 156 (.l yh .nil) := z03 Tryz.underlying156 (by kernel_rfl) qb6
theorem q66 : OS Tryz.prog 66 (.l (.i .i64 .nil) .nil) := z03 Tryz.underlying66 (by kernel_rfl) q2
theorem zb3 : OS Tryz.prog 158 zf := zy Tryz.underlying158 (by kernel_rfl) (.cons (by kernel_rfl) (.cons (by kernel_rfl) (.cons (by kernel_rfl) (.cons (by kernel_rfl) (.cons (by kernel_rfl) (.cons (by kernel_rfl) (.nil _))))))) (zh q2 (zh qb2 (zh qax (zh q22 (zh qax (y0e q66) rfl rfl) rfl rfl) rfl rfl) rfl rfl) rfl rfl)
theorem q23 : OS Tryz.prog 23 (.l zf .nil) := z03 Tryz.underlying23 (by kernel_rfl) zb3
theorem yas : OS Tryz.prog 182 ym := zy Tryz.underlying182 (by kernel_rfl) (.cons (by kernel_rfl) (.cons (by kernel_rfl) (.nil _))) (zh q2 (y0e q2) rfl rfl)
theorem zay : OS Tryz.prog 282 (.l ym .nil) := z03 Tryz.underlying282 (by kernel_rfl) yas
theorem qb5 : OS Tryz.prog 284 ql := zy Tryz.underlying284 (by kernel_rfl) (.cons (by kernel_rfl) (.cons (by kernel_rfl) (.cons (by kernel_rfl) (.cons (by kernel_rfl) (.cons (by kernel_rfl) (.nil _)))))) (zh q2 (zh q2 (zh q2 (zh yas (y0e zay) rfl rfl) rfl rfl) rfl rfl) rfl rfl)
theorem yb3 : OS Tryz.prog 160 (.l ql .nil) := z03 Tryz.underlying160 (by kernel_rfl) qb5
theorem qb3 : OS Tryz.prog 162 za := zy Tryz.underlying162 (by kernel_rfl) (.cons (by kernel_rfl) (.nil _)) (y0e yb3)
theorem q24 : OS Tryz.prog 24 (.l za .nil) := z03 Tryz.underlying24 (by kernel_rfl) qb3
theorem zb6 : OS Tryz.prog 287 yp := zy Tryz.underlying287 (by kernel_rfl) (.cons (by kernel_rfl) (.cons (by kernel_rfl) (.cons (by kernel_rfl) (.cons (by kernel_rfl) (.cons (by kernel_rfl) (.cons (by kernel_rfl) (.nil _))))))) (zh q2 (zh q2 (zh q2 (zh q2 (zh q66 (y0e zay) rfl rfl) rfl rfl) rfl rfl) rfl rfl) rfl rfl)
theorem zb4 : OS Tryz.prog 164 (.l yp .nil) := z03 Tryz.underlying164 (by kernel_rfl) zb6
theorem zb7 : OS Tryz.prog 300 qn := zy Tryz.underlying300 (by kernel_rfl) (.cons (by kernel_rfl) (.cons (by kernel_rfl) (.cons (by kernel_rfl) (.cons (by kernel_rfl) (.cons (by kernel_rfl) (.nil _)))))) (zh q2 (zh q2 (zh q2 (zh q2 (y0e q2) rfl rfl) rfl rfl) rfl rfl) rfl rfl)
theorem yb4 : OS Tryz.prog 165 (.l qn .nil) := z03 Tryz.underlying165 (by kernel_rfl) zb7
theorem qb4 : OS Tryz.prog 167 qd := zy Tryz.underlying167 (by kernel_rfl) (.cons (by kernel_rfl) (.cons (by kernel_rfl) (.cons (by kernel_rfl) (.nil _)))) (zh q2 (zh zb4 (y0e yb4) rfl rfl) rfl rfl)
theorem q25 : OS Tryz.prog 25 (.l qd .nil) := z03 Tryz.underlying25 (by kernel_rfl) qb4
theorem zb5 : OS Tryz.prog 184 zg := zy Tryz.underlying184 (by kernel_rfl) (.cons (by kernel_rfl) (.cons (by kernel_rfl) (.cons (by kernel_rfl) (.cons (by kernel_rfl) (.cons (by kernel_rfl) (.cons (by kernel_rfl) (.cons (by kernel_rfl) (.cons (by kernel_rfl) (.nil _))))))))) (zh q2 (zh q2 (zh q2 (zh q2 (zh q2 (zh q2 (zh q2 (y0e yas) rfl rfl) rfl rfl) rfl rfl) rfl rfl) rfl rfl) rfl rfl) rfl rfl)
theorem q26 : OS Tryz.prog 26 (.l zg .nil) := z03 Tryz.underlying26 (by kernel_rfl) zb5
theorem q28 : OS Tryz.prog 28 zo := zy Tryz.underlying28 (by kernel_rfl) (.cons (by kernel_rfl) (.cons (by kernel_rfl) (.cons (by kernel_rfl) (.cons (by kernel_rfl) (.cons (by kernel_rfl) (.nil _)))))) (zh q22 (zh q23 (zh q24 (zh q25 (y0e q26) rfl rfl) rfl rfl) rfl rfl) rfl rfl)
set_option maxRecDepth 100000 in
theorem lifted (os : Os) (started : os.Started) (H : Type) (enc : TypeId × Value → H) :
 ReturnsInHanded {} Tryz.checked os 11 .any (Rows.fnExactOrderOfSpec.pre6 enc Tryz.prog Tryz.f11 Rows.fnExactOrderOfRow.domain false) (Rows.fnExactOrderOfSpec.post enc Tryz.prog Tryz.f11 false true false false) := by
 refine returnsInHanded_of_change_sized (C := Tryz.checked) own started (by kernel_rfl) Tryz.func11
  (ChangeSpec.witness6 (enc := enc) (C := Tryz.checked) false ⟨#[], #[.agg #[.slice none 0 0, .slice none 0 0, .slice none 0 0, .slice none 0 0, .slice none 0 0]], []⟩ 8 (by kernel_rfl) (by kernel_rfl) (by kernel_rfl) (by kernel_rfl)) ?_
 intro W base args ds gs before hval0 hW _ _ _
 have hval : ∀ (j : Nat) t v, Tryz.f11.params[j]? = some t → args[j]? = some v → Value.okWide Tryz.prog W .any base t v := hval0
 have hW' := hW
 obtain ⟨p, q, hA0, hV, rfl, hfz, hnd⟩ := hW
 have hA : DataW.TrodAll enc Tryz.prog W 0 (fun _ => true) true Tryz.f11.params.toList args.toList ds p := hA0
 rw [Tryz.params11] at hA hval
 obtain ⟨v0, vs0, d0, ds0, p0, q0, hargs, rfl, rfl, h0, r0⟩ := trodAll_cons hA
 obtain ⟨rfl, rfl, rfl⟩ := trodAll_nil r0
 obtain rfl : args = #[v0] := by cases args; simp_all
 obtain ⟨rfl, rfl⟩ := trodVars_none hV
 have k0 := h0
 have lt0 : ∀ x ∈ p0, x.block < W.heap.size := by obtain ⟨m, hm⟩ := k0; exact DataW.trod_lt m _ _ _ hm
 obtain ⟨c0, R0, w0⟩ := q9y Tryz.underlying28 q28 (hval 0 28 v0 rfl rfl) h0
 clear hA0 hval0
 refine (PC.law (y89 c0 w0) (y63.one R0)).mono fun e W' ⟨he, bel⟩ => ?_
 subst he
 exact ⟨_, rfl, _, _, _, [], _, [], hW', trodAll_mk1 (shut_bool Tryz.underlying4 _), (trodAll_cons_mk (Below.trod laidOut (by kernel_rfl) (of_decide_eq_true (by kernel_rfl)) k0 bel lt0) trodAll_mk0), rfl, bel.frame _, fun h => by cases h⟩
theorem qb1 : Rows.fnExactOrderOfRow.holds Tryz.pinned (OpenSpec.ofChange Rows.fnExactOrderOfSpec) :=
 OpenClaim.holds_of_wide 11 Tryz.f11 rfl rfl rfl rfl rfl rfl rfl ⟨rfl, rfl, rfl, rfl, rfl⟩ rfl rfl rfl rfl rfl (by as_aux_lemma => kernel_rfl) Tryz.func11 closed
  (by as_aux_lemma => exact of_decide_eq_true (by kernel_rfl)) (by as_aux_lemma => unfold Func.isWrapper; first | (rw [if_pos (by decide +kernel)]; kernel_rfl) | (rw [if_neg (by decide +kernel)]; exact ⟨rfl, rfl⟩))
  (fun os started H enc _ => lifted os started H enc)
theorem za7 : Rows.FnExactOrderOfSaid := qb1
end Go.Proofs.YthljegacamgnnaaGreat.fnExactOrderOf
namespace Go.Proofs.YthljegacamgnnaaGreat
theorem fnExactOrderOf_holds : Rows.FnExactOrderOfSaid := fnExactOrderOf.za7
end Go.Proofs.YthljegacamgnnaaGreat
end
