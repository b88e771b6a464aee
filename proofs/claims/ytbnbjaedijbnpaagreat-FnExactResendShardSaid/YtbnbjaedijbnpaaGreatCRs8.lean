/- WHAT IS PROVED: FnExactResendShard, for every argument of its parameters' types that can be read as data: the call returns true and its arguments read as before. No condition. -/
import Derived.Test.YtbnbjaedijbnpaaGreatCRs7
import Derived.WalkKit
import Derived.OrdersHeld
import Derived.DeepKeys
import Derived.Maps.RangeWalk
import Derived.Maps.OwnOps
import Derived.WideKeyEntry
import Derived.Orders
import Derived.Deep.Slices
import Derived.ChangeArms
import Derived.WideShapes
import Derived.Sort.AssemblyPlain
import Derived.Test.YtbnbjaedijbnpaaGreatProg
import Derived.Shelf.SortG.Plain
import Derived.Shelf.SortG.SortNone
import Derived.Shelf.SlicesG.CompactI
import Derived.Lib.OwnBridge
import Derived.RangeFuncGives
import Derived.RangeFuncBox
import Derived.RangeFuncLeaves
import Derived.Shelf.Abstract
import Derived.Maps.AppendAt
import Derived.OwnWalkIn
import Derived.TacticsInMore
import Derived.LoopNIn
import Derived.LoopIn
import Derived.Test.YtbnbjaedijbnpaaGreatRows
import Derived.ProofKit
import Derived.OpenShut
import Derived.ShutString
import Derived.ChangeOld
import Derived.Below
import Derived.SizedLaws
set_option linter.unusedVariables false
set_option linter.unusedSimpArgs false
section
namespace Go.Proofs.YtbnbjaedijbnpaaGreat
open Go Go.Sx
set_option maxRecDepth 20000
set_option maxHeartbeats 4000000
abbrev pkM (c : Clu) (ms : List Msg) : List PK := [.k (.l (c.cons.map Con.cs)), .k (.l (c.shs.map Shd.cs)), .k (.l (c.accs.map Acc.cs)), .k (.l (c.ldrs.map Ldr.cs)), .n (.l 9 (c.msgs.map Msg.cs)) (.l 9 (ms.map Msg.cs))]
theorem q87 (c : Clu) (m : Msg) (hl : c.msgs.length ≤ 1000000000000) : PP Tryz.prog 153 0 (pkM c (c.msgs ++ [m])) [.agg [], .agg m.cs] (.tup []) := by
 refine PP.begin Tryz.func153 rfl (by kernel_rfl) ?_
 refine qd rfl [] (Tk (Rg 0 4) (.take 4 (Rg 7 4) (.take 5 (Rg 6 5) (.alt 6 (.alt 7 (Tk [8, 9] (.alt 10 .done .nil)) .nil) .nil)))) (by kernel_rfl) (xs rfl tv10 (xs rfl rfl (xs rfl rfl (xs rfl (.inl rfl) (xs rfl (by simp; omega) (xs rfl (by simp; omega) ?_))))))
 refine xr rfl (y3t rfl rfl ⟨⟨rfl, trivial⟩, ⟨rfl, trivial⟩, ⟨rfl, trivial⟩, ⟨rfl, trivial⟩, ⟨?_, ?_, .inl rfl⟩, trivial⟩ ⟨(by decide), trivial, z6 rfl⟩); rotate_left
 rotate_left
 all_goals first | exact List.length_append.symm | simp
theorem q6g (c : Clu) (m : Msg) (hl : c.msgs.length ≤ 1000000000000) : PP Tryz.prog 75 0 (pkM c (c.msgs ++ [m])) [.agg [], .agg m.cs] (.tup []) := by
 refine PP.begin Tryz.func75 rfl (by kernel_rfl) ?_
 refine qd rfl [] (Tk (Rg 0 4) (.take 4 (Rg 7 4) (.take 5 (Rg 6 5) (.alt 6 (.alt 7 (Tk [8, 9] (.alt 10 .done .nil)) .nil) .nil)))) (by kernel_rfl) (xs rfl tv10 (xs rfl rfl (xs rfl rfl (xs rfl (.inl rfl) (xs rfl (by simp; omega) (xs rfl (by simp; omega) ?_))))))
 refine xr rfl (y3t rfl rfl ⟨⟨rfl, trivial⟩, ⟨rfl, trivial⟩, ⟨rfl, trivial⟩, ⟨rfl, trivial⟩, ⟨?_, ?_, .inl rfl⟩, trivial⟩ ⟨(by decide), trivial, z6 rfl⟩); rotate_left
 rotate_left
 all_goals first | exact List.length_append.symm | simp
theorem z6j (c : Clu) (m : Msg) (hl : c.msgs.length ≤ 999990000000) (ha : c.accs.length ≤ 1048576) : PP Tryz.prog 167 0 (pkM c (c.msgs ++ z04 c.accs.length m)) [.agg [], .agg m.cs] (.tup []) := by
 refine PP.begin Tryz.func167 rfl (by kernel_rfl) ?_
 refine q5e rfl (ι := Nat) (fun i => i ≤ c.accs.length) (fun i => match i with | 0 => ⟨[(10, sV (.int .i64 ((0 : Nat) : Int))), (9, sV (.int .i64 (c.accs.map Acc.cs).length)), (3, .one (.a 3 0)), (0, .one (.a 1100000000 0))], [(1100000000, .var [.mx 2 1100000001, .mx 2 1100000002, .mx 2 1100000003, .mx 2 1100000004, .h 1100000005 (c.msgs.map Msg.cs).length]), (1100000005, .arr true 9 0 (c.msgs.map Msg.cs)), (1100000001, .kp (.l (c.cons.map Con.cs))), (1100000002, .kp (.l (c.shs.map Shd.cs))), (1100000003, .kp (.l (c.accs.map Acc.cs))), (1100000004, .kp (.l (c.ldrs.map Ldr.cs))), (3, .var [.b (i64 m.k), .b (i64 m.to), .b (i64 m.fr), .b (i64 m.c), .b (i64 m.s), .b (i64 m.b), .b (i64 m.v), .b (i64 m.ob), .b (i64 m.ov)])]⟩ | k + 1 => ⟨[(10, sV (.int .i64 ((k + 1 : Nat) : Int))), (9, sV (.int .i64 (c.accs.map Acc.cs).length)), (3, .one (.a 3 0)), (0, .one (.a 1100000000 0))], [(1100000000, .var [.mx 2 1100000001, .mx 2 1100000002, .mx 2 1100000003, .mx 2 1100000004, .h 77 ((c.msgs ++ z04 (k + 1) m).map Msg.cs).length]), (77, .arr true 9 0 ((c.msgs ++ z04 (k + 1) m).map Msg.cs)), (1100000005, .dead), (1100000001, .kp (.l (c.cons.map Con.cs))), (1100000002, .kp (.l (c.shs.map Shd.cs))), (1100000003, .kp (.l (c.accs.map Acc.cs))), (1100000004, .kp (.l (c.ldrs.map Ldr.cs))), (3, .var [.b (i64 m.k), .b (i64 k), .b (i64 m.fr), .b (i64 m.c), .b (i64 m.s), .b (i64 m.b), .b (i64 m.v), .b (i64 m.ob), .b (i64 m.ov)])]⟩) (fun i => c.accs.length - i) 0 (Nat.zero_le _) ?_ ?_
 · exact .of ⟨⟨rfl, rfl, ⟨rfl, rfl, rfl⟩, ⟨rfl, rfl, rfl⟩, trivial⟩, ⟨⟨⟨rfl, rfl, rfl⟩, ⟨rfl, rfl, rfl⟩, ⟨rfl, rfl, rfl⟩, ⟨rfl, rfl, rfl⟩, ⟨rfl, rfl, rfl⟩, trivial⟩, ⟨rfl, .inl rfl, .inl rfl⟩, rfl, rfl, rfl, rfl, ⟨rfl, rfl, rfl, rfl, rfl, rfl, rfl, rfl, rfl, trivial⟩, trivial⟩, rfl⟩
 · intro i hi J hJ
   have hn : (c.accs.map Acc.cs).length = c.accs.length := by simp
   have hfin : ∀ k, k = c.accs.length → z04 k m = z04 c.accs.length m := fun k e => by rw [e]
   have hlt : ∀ k, (c.msgs ++ z04 k m).length = c.msgs.length + k := fun k => by rw [List.length_append, q3i]
   cases i with
   | zero =>
     refine xb rfl ?_ ?_ <;> intro h
     · have h : 0 < c.accs.length := by simpa using h
       have hs := q87 c { m with to := 0 } (by omega)
       refine y8g _ 500100100 rfl (hs) rfl rfl rfl ⟨⟨⟨rfl, trivial⟩, rfl⟩, ⟨⟨rfl, trivial⟩, rfl⟩, ⟨⟨rfl, trivial⟩, rfl⟩, ⟨⟨rfl, trivial⟩, rfl⟩, ⟨rfl, rfl, .inl rfl⟩, trivial⟩ ⟨tv10, trivial⟩ rfl ?_
       exact q9 rfl (hJ _ 1 (by omega) (by omega) ⟨[(1800004, 77)], rfl, ⟨rfl, rfl, ⟨rfl, rfl, rfl⟩, ⟨rfl, rfl, rfl⟩, trivial⟩, ⟨⟨⟨rfl, rfl, rfl⟩, ⟨rfl, rfl, rfl⟩, ⟨rfl, rfl, rfl⟩, ⟨rfl, rfl, rfl⟩, ⟨rfl, rfl, rfl⟩, trivial⟩, ⟨rfl, .inl rfl, .inl rfl⟩, trivial, rfl, rfl, rfl, rfl, ⟨rfl, rfl, rfl, rfl, rfl, rfl, rfl, rfl, rfl, trivial⟩, trivial⟩, rfl⟩)
     · have h : c.accs.length = 0 := by have : ¬ 0 < c.accs.length := (by simpa using h); omega
       have e : c.msgs ++ z04 c.accs.length m = c.msgs := by rw [h]; simp [z04]
       rw [e]
       refine xr rfl (y3t rfl rfl ⟨⟨rfl, trivial⟩, ⟨rfl, trivial⟩, ⟨rfl, trivial⟩, ⟨rfl, trivial⟩, ⟨rfl, rfl, .inl rfl⟩, trivial⟩ ⟨(by decide), trivial, z6 rfl⟩)
   | succ k =>
     refine xb rfl ?_ ?_ <;> intro h
     · have h : k + 1 < c.accs.length := by
        have h : (k : Int) + 1 < c.accs.length := by simpa using h
        omega
       have hs := q87 (c.wm (c.msgs ++ z04 (k + 1) m)) { m with to := ((k + 1 : Nat) : Int) } (by show (c.msgs ++ z04 (k + 1) m).length ≤ _; rw [hlt]; omega)
       have hst : (c.wm (c.msgs ++ z04 (k + 1) m)).msgs ++ [{ m with to := ((k + 1 : Nat) : Int) }] = c.msgs ++ z04 (k + 1 + 1) m := by rw [z41 (k + 1)]; show (c.msgs ++ z04 (k + 1) m) ++ _ = _; rw [List.append_assoc]
       rw [hst] at hs
       refine y8g _ 500300100 rfl (hs) rfl rfl rfl ⟨⟨⟨rfl, trivial⟩, rfl⟩, ⟨⟨rfl, trivial⟩, rfl⟩, ⟨⟨rfl, trivial⟩, rfl⟩, ⟨⟨rfl, trivial⟩, rfl⟩, ⟨rfl, rfl, .inl rfl⟩, trivial⟩ ⟨tv10, trivial⟩ rfl ?_
       exact q9 rfl (hJ _ (k + 1 + 1) (by omega) (by omega) ⟨[(1800004, 77)], rfl, ⟨cwi (by omega) (by omega) (by omega), rfl, ⟨rfl, rfl, rfl⟩, ⟨rfl, rfl, rfl⟩, trivial⟩, ⟨⟨⟨rfl, rfl, rfl⟩, ⟨rfl, rfl, rfl⟩, ⟨rfl, rfl, rfl⟩, ⟨rfl, rfl, rfl⟩, ⟨rfl, rfl, rfl⟩, trivial⟩, ⟨rfl, .inl rfl, .inl rfl⟩, trivial, rfl, rfl, rfl, rfl, ⟨rfl, rfl, rfl, rfl, rfl, rfl, rfl, rfl, rfl, trivial⟩, trivial⟩, rfl⟩)
     · have h : k + 1 = c.accs.length := by
        have h : (c.accs.length : Int) ≤ (k : Int) + 1 := by simpa using h
        omega
       rw [← hfin (k + 1) h]
       refine xr rfl (y3t rfl rfl ⟨⟨rfl, trivial⟩, ⟨rfl, trivial⟩, ⟨rfl, trivial⟩, ⟨rfl, trivial⟩, ⟨rfl, rfl, .inl rfl⟩, trivial⟩ ⟨(by decide), trivial, z6 rfl⟩)
theorem ya4 (c : Clu) (m : Msg) (hl : c.msgs.length ≤ 999990000000) (ha : c.accs.length ≤ 1048576) : PP Tryz.prog 87 0 (pkM c (c.msgs ++ z04 c.accs.length m)) [.agg [], .agg m.cs] (.tup []) := by
 refine PP.begin Tryz.func87 rfl (by kernel_rfl) ?_
 refine q5e rfl (ι := Nat) (fun i => i ≤ c.accs.length) (fun i => match i with | 0 => ⟨[(4, sV (.int .i64 ((0 : Nat) : Int))), (3, .one (.a 3 0)), (0, .one (.a 1100000000 0))], [(1100000000, .var [.mx 2 1100000001, .mx 2 1100000002, .mx 2 1100000003, .mx 2 1100000004, .h 1100000005 (c.msgs.map Msg.cs).length]), (1100000005, .arr true 9 0 (c.msgs.map Msg.cs)), (1100000001, .kp (.l (c.cons.map Con.cs))), (1100000002, .kp (.l (c.shs.map Shd.cs))), (1100000003, .kp (.l (c.accs.map Acc.cs))), (1100000004, .kp (.l (c.ldrs.map Ldr.cs))), (3, .var [.b (i64 m.k), .b (i64 m.to), .b (i64 m.fr), .b (i64 m.c), .b (i64 m.s), .b (i64 m.b), .b (i64 m.v), .b (i64 m.ob), .b (i64 m.ov)])]⟩ | k + 1 => ⟨[(4, sV (.int .i64 ((k + 1 : Nat) : Int))), (3, .one (.a 3 0)), (0, .one (.a 1100000000 0))], [(1100000000, .var [.mx 2 1100000001, .mx 2 1100000002, .mx 2 1100000003, .mx 2 1100000004, .h 77 ((c.msgs ++ z04 (k + 1) m).map Msg.cs).length]), (77, .arr true 9 0 ((c.msgs ++ z04 (k + 1) m).map Msg.cs)), (1100000005, .dead), (1100000001, .kp (.l (c.cons.map Con.cs))), (1100000002, .kp (.l (c.shs.map Shd.cs))), (1100000003, .kp (.l (c.accs.map Acc.cs))), (1100000004, .kp (.l (c.ldrs.map Ldr.cs))), (3, .var [.b (i64 m.k), .b (i64 k), .b (i64 m.fr), .b (i64 m.c), .b (i64 m.s), .b (i64 m.b), .b (i64 m.v), .b (i64 m.ob), .b (i64 m.ov)])]⟩) (fun i => c.accs.length - i) 0 (Nat.zero_le _) ?_ ?_
 · exact .of ⟨⟨rfl, ⟨rfl, rfl, rfl⟩, ⟨rfl, rfl, rfl⟩, trivial⟩, ⟨⟨⟨rfl, rfl, rfl⟩, ⟨rfl, rfl, rfl⟩, ⟨rfl, rfl, rfl⟩, ⟨rfl, rfl, rfl⟩, ⟨rfl, rfl, rfl⟩, trivial⟩, ⟨rfl, .inl rfl, .inl rfl⟩, rfl, rfl, rfl, rfl, ⟨rfl, rfl, rfl, rfl, rfl, rfl, rfl, rfl, rfl, trivial⟩, trivial⟩, rfl⟩
 · intro i hi J hJ
   have hn : (c.accs.map Acc.cs).length = c.accs.length := by simp
   have hfin : ∀ k, k = c.accs.length → z04 k m = z04 c.accs.length m := fun k e => by rw [e]
   have hlt : ∀ k, (c.msgs ++ z04 k m).length = c.msgs.length + k := fun k => by rw [List.length_append, q3i]
   cases i with
   | zero =>
     refine xb rfl ?_ ?_ <;> intro h
     · have h : 0 < c.accs.length := by simpa using h
       have hs := q6g c { m with to := 0 } (by omega)
       refine y8g _ 500100100 rfl (hs) rfl rfl rfl ⟨⟨⟨rfl, trivial⟩, rfl⟩, ⟨⟨rfl, trivial⟩, rfl⟩, ⟨⟨rfl, trivial⟩, rfl⟩, ⟨⟨rfl, trivial⟩, rfl⟩, ⟨rfl, rfl, .inl rfl⟩, trivial⟩ ⟨tv10, trivial⟩ rfl ?_
       exact q9 rfl (hJ _ 1 (by omega) (by omega) ⟨[(1900004, 77)], rfl, ⟨rfl, ⟨rfl, rfl, rfl⟩, ⟨rfl, rfl, rfl⟩, trivial⟩, ⟨⟨⟨rfl, rfl, rfl⟩, ⟨rfl, rfl, rfl⟩, ⟨rfl, rfl, rfl⟩, ⟨rfl, rfl, rfl⟩, ⟨rfl, rfl, rfl⟩, trivial⟩, ⟨rfl, .inl rfl, .inl rfl⟩, trivial, rfl, rfl, rfl, rfl, ⟨rfl, rfl, rfl, rfl, rfl, rfl, rfl, rfl, rfl, trivial⟩, trivial⟩, rfl⟩)
     · have h : c.accs.length = 0 := by have : ¬ 0 < c.accs.length := (by simpa using h); omega
       have e : c.msgs ++ z04 c.accs.length m = c.msgs := by rw [h]; simp [z04]
       rw [e]
       refine xr rfl (y3t rfl rfl ⟨⟨rfl, trivial⟩, ⟨rfl, trivial⟩, ⟨rfl, trivial⟩, ⟨rfl, trivial⟩, ⟨rfl, rfl, .inl rfl⟩, trivial⟩ ⟨(by decide), trivial, z6 rfl⟩)
   | succ k =>
     refine xb rfl ?_ ?_ <;> intro h
     · have h : k + 1 < c.accs.length := by
        have h : (k : Int) + 1 < c.accs.length := by simpa using h
        omega
       have hs := q6g (c.wm (c.msgs ++ z04 (k + 1) m)) { m with to := ((k + 1 : Nat) : Int) } (by show (c.msgs ++ z04 (k + 1) m).length ≤ _; rw [hlt]; omega)
       have hst : (c.wm (c.msgs ++ z04 (k + 1) m)).msgs ++ [{ m with to := ((k + 1 : Nat) : Int) }] = c.msgs ++ z04 (k + 1 + 1) m := by rw [z41 (k + 1)]; show (c.msgs ++ z04 (k + 1) m) ++ _ = _; rw [List.append_assoc]
       rw [hst] at hs
       refine y8g _ 500300100 rfl (hs) rfl rfl rfl ⟨⟨⟨rfl, trivial⟩, rfl⟩, ⟨⟨rfl, trivial⟩, rfl⟩, ⟨⟨rfl, trivial⟩, rfl⟩, ⟨⟨rfl, trivial⟩, rfl⟩, ⟨rfl, rfl, .inl rfl⟩, trivial⟩ ⟨tv10, trivial⟩ rfl ?_
       exact q9 rfl (hJ _ (k + 1 + 1) (by omega) (by omega) ⟨[(1900004, 77)], rfl, ⟨cwi (by omega) (by omega) (by omega), ⟨rfl, rfl, rfl⟩, ⟨rfl, rfl, rfl⟩, trivial⟩, ⟨⟨⟨rfl, rfl, rfl⟩, ⟨rfl, rfl, rfl⟩, ⟨rfl, rfl, rfl⟩, ⟨rfl, rfl, rfl⟩, ⟨rfl, rfl, rfl⟩, trivial⟩, ⟨rfl, .inl rfl, .inl rfl⟩, trivial, rfl, rfl, rfl, rfl, ⟨rfl, rfl, rfl, rfl, rfl, rfl, rfl, rfl, rfl, trivial⟩, trivial⟩, rfl⟩)
     · have h : k + 1 = c.accs.length := by
        have h : (c.accs.length : Int) ≤ (k : Int) + 1 := by simpa using h
        omega
       rw [← hfin (k + 1) h]
       refine xr rfl (y3t rfl rfl ⟨⟨rfl, trivial⟩, ⟨rfl, trivial⟩, ⟨rfl, trivial⟩, ⟨rfl, trivial⟩, ⟨rfl, rfl, .inl rfl⟩, trivial⟩ ⟨(by decide), trivial, z6 rfl⟩)
theorem za8 (c : Clu) : PG Tryz.prog 76 [.agg [.giv true 2 (c.cons.map Con.cs), .giv true 6 (c.shs.map Shd.cs), .giv true 1 (c.accs.map Acc.cs), .giv true 3 (c.ldrs.map Ldr.cs), .giv true 9 (c.msgs.map Msg.cs)]] (yab (told c).1 (told c).2) [] := by
 refine PG.begin Tryz.func76 rfl (by kernel_rfl) ?_
 by_cases h : 200 < c.msgs.length
 · have e : told c = (2, y68) := by unfold told; rw [if_pos h]
   rw [e]
   refine xb rfl ?_ ?_ <;> intro b0
   refine xr rfl ?_; rotate_left
   exact absurd b0 (by simp; omega)
   all_goals first | (exfalso; simp_all; omega) | exact y18 rfl ⟨⟨rfl, rfl, rfl, rfl, rfl, rfl, rfl, trivial⟩, z6 rfl⟩ trivial | exact y18 rfl ⟨⟨rfl, rfl, ⟨rfl, rfl, .inl rfl⟩, ⟨rfl, rfl, .inl rfl⟩, ⟨rfl, rfl, .inl rfl⟩, ⟨rfl, rfl, .inl rfl⟩, ⟨rfl, rfl, .inl rfl⟩, trivial⟩, z6 rfl⟩ trivial | skip
 · have e : told c = (0, c) := by unfold told; rw [if_neg h]
   rw [e]
   refine xb rfl ?_ ?_ <;> intro b0
   exact absurd b0 (by simp; omega)
   refine xr rfl ?_
   all_goals first | (exfalso; simp_all; omega) | exact y18 rfl ⟨⟨rfl, rfl, rfl, rfl, rfl, rfl, rfl, trivial⟩, z6 rfl⟩ trivial | exact y18 rfl ⟨⟨rfl, rfl, ⟨rfl, rfl, .inl rfl⟩, ⟨rfl, rfl, .inl rfl⟩, ⟨rfl, rfl, .inl rfl⟩, ⟨rfl, rfl, .inl rfl⟩, ⟨rfl, rfl, .inl rfl⟩, trivial⟩, z6 rfl⟩ trivial | skip
theorem q99 (k : Int) : PC Tryz.prog 73 [.one (i64 k)] (yab k y68) := by
 refine PC.begin Tryz.func73 rfl (by kernel_rfl) ?_
 refine xr rfl (qm rfl ⟨⟨rfl, rfl, rfl, rfl, rfl, rfl, rfl, trivial⟩, z6 rfl⟩)
def y79 (c : Clu) (d : List Msg) (code : Int) : Int × Clu := if code ≠ 0 then (code, y68) else told (c.wm d)
theorem qah (c : Clu) (ho : q00 c) (fn : Nat) (k : Int) (d : List Msg) (code : Int) (hf : PP Tryz.prog fn 0 (pkM c d) [.agg [], .one (.p [i64 k])] (rI code)) : PC Tryz.prog 151 [.agg c.cs, .one (.f fn [.p [i64 k]])] (yab (y79 c d code).1 (y79 c d code).2) := by
 refine PC.begin Tryz.func151 rfl (by kernel_rfl) ?_
 have hn : (d.map Msg.cs).length = d.length := by simp
 have hc := z3n c ho
 by_cases h0 : code = 0
 · subst h0
   by_cases h : 200 < d.length
   · have e : y79 c d 0 = (2, y68) := by unfold y79 told; rw [if_neg (by simp), if_pos (by exact h)]
     rw [e]
     refine z7 rfl (hc) rfl ⟨tv6, trivial⟩ ?_
     refine y8g _ 500100200 rfl (hf) rfl rfl rfl ⟨⟨⟨rfl, rfl⟩, rfl⟩, ⟨⟨rfl, rfl⟩, rfl⟩, ⟨⟨rfl, rfl⟩, rfl⟩, ⟨⟨rfl, rfl⟩, rfl⟩, ⟨rfl, rfl, .inl rfl⟩, trivial⟩ ⟨trivial, trivial⟩ rfl ?_
     refine xj (k := 5) rfl ?_
     refine xb rfl ?_ ?_ <;> intro b0
     refine xj (k := 1) rfl ?_
     refine xr rfl (qm rfl ⟨⟨rfl, rfl, rfl, rfl, rfl, rfl, rfl, trivial⟩, z6 rfl⟩)
     exact absurd b0 (by simp; omega)
     all_goals first | (exfalso; simp_all; done) | (exfalso; simp_all; omega) | skip
   · have e : y79 c d 0 = (0, c.wm d) := by unfold y79 told; rw [if_neg (by simp), if_neg (by exact h)]
     rw [e]
     refine z7 rfl (hc) rfl ⟨tv6, trivial⟩ ?_
     refine y8g _ 500200200 rfl (hf) rfl rfl rfl ⟨⟨⟨rfl, rfl⟩, rfl⟩, ⟨⟨rfl, rfl⟩, rfl⟩, ⟨⟨rfl, rfl⟩, rfl⟩, ⟨⟨rfl, rfl⟩, rfl⟩, ⟨rfl, rfl, .inl rfl⟩, trivial⟩ ⟨trivial, trivial⟩ rfl ?_
     refine xj (k := 5) rfl ?_
     refine xb rfl ?_ ?_ <;> intro b0
     exact absurd b0 (by simp; omega)
     refine xj (k := 1) rfl ?_
     refine xr rfl (qm rfl ⟨⟨rfl, rfl, ⟨rfl, rfl, .inl rfl⟩, ⟨rfl, rfl, .inl rfl⟩, ⟨rfl, rfl, .inl rfl⟩, ⟨rfl, rfl, .inl rfl⟩, ⟨rfl, rfl, .inl rfl⟩, trivial⟩, z6 rfl⟩)
     all_goals first | (exfalso; simp_all; done) | (exfalso; simp_all; omega) | skip
 · have e : y79 c d code = (code, y68) := by unfold y79; rw [if_pos h0]
   rw [e]
   refine z7 rfl (hc) rfl ⟨tv6, trivial⟩ ?_
   refine y8g _ 500300200 rfl (hf) rfl rfl rfl ⟨⟨⟨rfl, rfl⟩, rfl⟩, ⟨⟨rfl, rfl⟩, rfl⟩, ⟨⟨rfl, rfl⟩, rfl⟩, ⟨⟨rfl, rfl⟩, rfl⟩, ⟨rfl, rfl, .inl rfl⟩, trivial⟩ ⟨trivial, trivial⟩ rfl ?_
   refine xb rfl ?_ ?_ <;> intro b0
   exact absurd b0 (by simp; omega)
   refine xj (k := 5) rfl ?_
   refine xb rfl ?_ ?_ <;> intro b1
   refine xr rfl (qm rfl ⟨⟨rfl, rfl, rfl, rfl, rfl, rfl, rfl, trivial⟩, z6 rfl⟩)
   exact absurd b1 (by simp; omega)
   all_goals first | (exfalso; simp_all; done) | (exfalso; simp_all; omega) | skip
def q8h (c : Clu) (d : List Msg) (code : Int) : Int × Clu := if zt c ≠ 0 then (zt c, y68) else y79 c d code
theorem q66 (c : Clu) (ho : q00 c) (fn : Nat) (k : Int) (d : List Msg) (code : Int) (hf : zt c = 0 → PP Tryz.prog fn 0 (pkM c d) [.agg [], .one (.p [i64 k])] (rI code)) : PC Tryz.prog 77 [.agg c.cs, .one (.f fn [.p [i64 k]])] (yab (q8h c d code).1 (q8h c d code).2) := by
 refine PC.begin Tryz.func77 rfl (by kernel_rfl) ?_
 by_cases h : zt c = 0
 · have e : q8h c d code = y79 c d code := by unfold q8h; rw [if_neg (by simpa using h)]
   rw [e]
   have hA := qah c ho fn k d code (hf h)
   refine z7 rfl (z7q c ho) rfl ⟨tv6, trivial⟩ ?_
   refine xb rfl ?_ ?_ <;> intro b0
   exact absurd b0 (by simp; omega)
   refine z7 rfl (hA) rfl ⟨tv6, trivial, trivial⟩ ?_
   refine xr rfl (qm rfl ⟨⟨rfl, rfl, ⟨rfl, rfl, .inl rfl⟩, ⟨rfl, rfl, .inl rfl⟩, ⟨rfl, rfl, .inl rfl⟩, ⟨rfl, rfl, .inl rfl⟩, ⟨rfl, rfl, .inl rfl⟩, trivial⟩, z6 rfl⟩)
   all_goals first | (exfalso; simp_all; done) | skip
 · have e : q8h c d code = (zt c, y68) := by unfold q8h; rw [if_pos h]
   rw [e]
   refine z7 rfl (z7q c ho) rfl ⟨tv6, trivial⟩ ?_
   refine xb rfl ?_ ?_ <;> intro b0
   refine xr rfl (qm rfl ⟨⟨rfl, rfl, rfl, rfl, rfl, rfl, rfl, trivial⟩, z6 rfl⟩)
   exact absurd b0 (by simp; omega)
   all_goals first | (exfalso; simp_all; done) | skip
theorem y71 (c : Clu) (k : Int) (hl : c.shs.length ≤ 1048576) (h : z7a c.shs k = none) : PP Tryz.prog 89 0 (pkM c c.msgs) [.agg [], .one (i64 k)] (rI 3) := by
 refine PP.begin Tryz.func89 rfl (by kernel_rfl) ?_
 have hn : (c.shs.map Shd.cs).length = c.shs.length := by simp
 have hp := q0z (c.shs.map Shd.cs) k (by omega)
 rw [hn, q1v, h] at hp
 refine z7 rfl (hp) rfl tv3 (xj (k := 1) rfl ?_)
 refine xr rfl (y3t rfl rfl ⟨⟨rfl, trivial⟩, ⟨rfl, trivial⟩, ⟨rfl, trivial⟩, ⟨rfl, trivial⟩, ⟨rfl, rfl, .inl rfl⟩, trivial⟩ ⟨⟨rfl, rfl, trivial⟩, z6 rfl⟩)
theorem z72 (c : Clu) (ho : q00 c) (hc : zt c = 0) (k : Int) (s : Shd) (h : z7a c.shs k = some s) : PP Tryz.prog 89 0 (pkM c (c.msgs ++ qs c k s.held)) [.agg [], .one (i64 k)] (rI 0) := by
 refine PP.begin Tryz.func89 rfl (by kernel_rfl) ?_
 have hn : (c.shs.map Shd.cs).length = c.shs.length := by simp
 have hl := ho.2.1.1
 have hp := q0z (c.shs.map Shd.cs) k (by omega)
 rw [hn, q1v, h] at hp
 obtain ⟨h1, h2, h3⟩ := y36 h
 have hg := gm Shd.cs h3
 obtain ⟨q1, q2, q3⟩ := q68 hc
 have hh := (ho.2.1.2 s (List.mem_of_getElem? h3)).2.2.1
 have hrl : ∀ i, (c.msgs ++ qs c k (s.held.take i)).length ≤ 200 + 5 * i := fun i => by
  rw [List.length_append, y2h, List.length_take]
  have : c.accs.length * min i s.held.length ≤ 5 * i := Nat.mul_le_mul q2 (Nat.min_le_left _ _)
  omega
 refine z7 rfl (hp) rfl tv3 (xj (k := 1) rfl (xs rfl (h1) (y9 rfl _ hg (xs rfl rfl ?_))))
 refine q5e rfl (ι := Nat) (fun i => i ≤ s.held.length) (fun i => match i with | 0 => ⟨[(23, sV (.int .i64 ((0 : Nat) : Int))), (22, sV (.int .i64 (s.held.map Con.cs).length)), (21, .one (.b (.l (s.held.map Con.cs)))), (1, sV (.int .i64 k)), (0, .one (.a 1100000000 0))], [(1100000000, .var [.mx 2 1100000001, .mx 2 1100000002, .mx 2 1100000003, .mx 2 1100000004, .h 1100000005 (c.msgs.map Msg.cs).length]), (1100000005, .arr true 9 0 (c.msgs.map Msg.cs)), (1100000001, .kp (.l (c.cons.map Con.cs))), (1100000002, .kp (.l (c.shs.map Shd.cs))), (1100000003, .kp (.l (c.accs.map Acc.cs))), (1100000004, .kp (.l (c.ldrs.map Ldr.cs)))]⟩ | j + 1 => ⟨[(23, sV (.int .i64 ((j + 1 : Nat) : Int))), (22, sV (.int .i64 (s.held.map Con.cs).length)), (21, .one (.b (.l (s.held.map Con.cs)))), (1, sV (.int .i64 k)), (0, .one (.a 1100000000 0))], [(1100000000, .var [.mx 2 1100000001, .mx 2 1100000002, .mx 2 1100000003, .mx 2 1100000004, .h 77 ((c.msgs ++ qs c k (s.held.take (j + 1))).map Msg.cs).length]), (77, .arr true 9 0 ((c.msgs ++ qs c k (s.held.take (j + 1))).map Msg.cs)), (1100000005, .dead), (1100000001, .kp (.l (c.cons.map Con.cs))), (1100000002, .kp (.l (c.shs.map Shd.cs))), (1100000003, .kp (.l (c.accs.map Acc.cs))), (1100000004, .kp (.l (c.ldrs.map Ldr.cs)))]⟩) (fun i => s.held.length - i) 0 (Nat.zero_le _) ?_ ?_
 · exact .of ⟨⟨rfl, rfl, rfl, rfl, ⟨rfl, rfl, rfl⟩, trivial⟩, ⟨⟨⟨rfl, rfl, rfl⟩, ⟨rfl, rfl, rfl⟩, ⟨rfl, rfl, rfl⟩, ⟨rfl, rfl, rfl⟩, ⟨rfl, rfl, rfl⟩, trivial⟩, ⟨rfl, .inl rfl, .inl rfl⟩, rfl, rfl, rfl, rfl, trivial⟩, rfl⟩
 · intro i hi J hJ
   cases i with
   | zero =>
     refine xb rfl ?_ ?_ <;> intro h
     · have h : 0 < s.held.length := by simpa using h
       obtain ⟨x, hx⟩ := gx h
       have hgx := gm Con.cs hx
       have hst := z1z (c := c) (s := k) hx
       have hs := z6j c (z4u x.id k 1) (by omega) (by omega)
       have he : c.msgs ++ z04 c.accs.length (z4u x.id k 1) = c.msgs ++ qs c k (s.held.take (0 + 1)) := by rw [hst]; simp [qs]
       rw [he] at hs
       refine xs rfl (nn_ _) (y9 rfl _ hgx (xs rfl rfl ?_))
       refine y8g _ 500200400 rfl (hs) rfl rfl rfl ⟨⟨⟨rfl, trivial⟩, rfl⟩, ⟨⟨rfl, trivial⟩, rfl⟩, ⟨⟨rfl, trivial⟩, rfl⟩, ⟨⟨rfl, trivial⟩, rfl⟩, ⟨rfl, rfl, .inl rfl⟩, trivial⟩ ⟨tv10, trivial⟩ rfl ?_
       exact q9 rfl (hJ _ 1 (by omega) (by omega) ⟨[(3300004, 77)], rfl, ⟨rfl, rfl, rfl, rfl, ⟨rfl, rfl, rfl⟩, trivial⟩, ⟨⟨⟨rfl, rfl, rfl⟩, ⟨rfl, rfl, rfl⟩, ⟨rfl, rfl, rfl⟩, ⟨rfl, rfl, rfl⟩, ⟨rfl, rfl, rfl⟩, trivial⟩, ⟨rfl, .inl rfl, .inl rfl⟩, trivial, rfl, rfl, rfl, rfl, trivial⟩, rfl⟩)
     · have h : s.held.length = 0 := by have : ¬ 0 < s.held.length := (by simpa using h); omega
       have e : c.msgs ++ qs c k s.held = c.msgs := by rw [List.eq_nil_of_length_eq_zero h]; simp [qs]
       rw [e]
       refine xr rfl (y3t rfl rfl ⟨⟨rfl, trivial⟩, ⟨rfl, trivial⟩, ⟨rfl, trivial⟩, ⟨rfl, trivial⟩, ⟨rfl, rfl, .inl rfl⟩, trivial⟩ ⟨⟨rfl, rfl, trivial⟩, z6 rfl⟩)
   | succ j =>
     refine xb rfl ?_ ?_ <;> intro h
     · have h : j + 1 < s.held.length := by
        have h : (j : Int) + 1 < s.held.length := by simpa using h
        omega
       obtain ⟨x, hx⟩ := gx h
       have hgx := gm Con.cs hx
       have hst := z1z (c := c) (s := k) hx
       have hrj := hrl (j + 1)
       have hs := z6j (c.wm (c.msgs ++ qs c k (s.held.take (j + 1)))) (z4u x.id k 1) (by show (c.msgs ++ qs c k (s.held.take (j + 1))).length ≤ _; omega) (by show c.accs.length ≤ _; omega)
       have he : (c.wm (c.msgs ++ qs c k (s.held.take (j + 1)))).msgs ++ z04 (c.wm (c.msgs ++ qs c k (s.held.take (j + 1)))).accs.length (z4u x.id k 1) = c.msgs ++ qs c k (s.held.take (j + 1 + 1)) := by rw [hst]; show (c.msgs ++ _) ++ _ = _; rw [List.append_assoc]; rfl
       rw [he] at hs
       refine xs rfl (nn_ _) (y9 rfl _ hgx (xs rfl rfl ?_))
       refine y8g _ 500400400 rfl (hs) rfl rfl rfl ⟨⟨⟨rfl, trivial⟩, rfl⟩, ⟨⟨rfl, trivial⟩, rfl⟩, ⟨⟨rfl, trivial⟩, rfl⟩, ⟨⟨rfl, trivial⟩, rfl⟩, ⟨rfl, rfl, .inl rfl⟩, trivial⟩ ⟨tv10, trivial⟩ rfl ?_
       exact q9 rfl (hJ _ (j + 1 + 1) (by omega) (by omega) ⟨[(3300004, 77)], rfl, ⟨cwi (by omega) (by omega) (by omega), rfl, rfl, rfl, ⟨rfl, rfl, rfl⟩, trivial⟩, ⟨⟨⟨rfl, rfl, rfl⟩, ⟨rfl, rfl, rfl⟩, ⟨rfl, rfl, rfl⟩, ⟨rfl, rfl, rfl⟩, ⟨rfl, rfl, rfl⟩, trivial⟩, ⟨rfl, .inl rfl, .inl rfl⟩, trivial, rfl, rfl, rfl, rfl, trivial⟩, rfl⟩)
     · have h : j + 1 = s.held.length := by
        have h : (s.held.length : Int) ≤ (j : Int) + 1 := by simpa using h
        omega
       have ee : qs c k s.held = qs c k (s.held.take (j + 1)) := by rw [h, List.take_length]
       rw [ee]
       refine xr rfl (y3t rfl rfl ⟨⟨rfl, trivial⟩, ⟨rfl, trivial⟩, ⟨rfl, trivial⟩, ⟨rfl, trivial⟩, ⟨rfl, rfl, .inl rfl⟩, trivial⟩ ⟨⟨rfl, rfl, trivial⟩, z6 rfl⟩)
theorem z3e (c : Clu) (k : Int) (d : List Msg) (code : Int) (h : PP Tryz.prog 89 0 (pkM c d) [.agg [], .one (i64 k)] (rI code)) : PP Tryz.prog 88 0 (pkM c d) [.agg [], .one (.p [i64 k])] (rI code) := by
 refine PP.begin Tryz.func88 rfl (by kernel_rfl) ?_
 refine y8g _ 500100100 rfl (h) rfl rfl rfl ⟨⟨⟨rfl, trivial⟩, rfl⟩, ⟨⟨rfl, trivial⟩, rfl⟩, ⟨⟨rfl, trivial⟩, rfl⟩, ⟨⟨rfl, trivial⟩, rfl⟩, ⟨rfl, rfl, .inl rfl⟩, trivial⟩ ⟨trivial, trivial⟩ rfl ?_
 refine xr rfl (y3t rfl rfl ⟨⟨rfl, trivial⟩, ⟨rfl, trivial⟩, ⟨rfl, trivial⟩, ⟨rfl, trivial⟩, ⟨rfl, rfl, .inl rfl⟩, trivial⟩ ⟨⟨rfl, rfl, trivial⟩, z6 rfl⟩)
theorem q6s (c : Clu) (ho : q00 c) (k : Int) : PC Tryz.prog 29 [.agg c.cs, .one (i64 k)] (yab (q01 c k).1 (q01 c k).2) := by
 refine PC.begin Tryz.func29 rfl (by kernel_rfl) ?_
 refine z96 (n := 0) rfl (ι := Unit) (fun _ => True) (fun _ => ⟨[(2, .one (.b (.p c.cs))), (3, .one (.b (.p [i64 k]))), (4, .one (.a 4 0))], [(4, .var [.b (i64 0), .nil, .nil, .nil, .nil, .nil])]⟩) ?_ ?_
 · intro K hK
   exact q9 rfl (hK _ () trivial ⟨⟨⟨rfl, rfl, rfl⟩, ⟨rfl, rfl, rfl⟩, ⟨rfl, rfl, rfl⟩, trivial⟩, ⟨⟨rfl, trivial, trivial, trivial, trivial, trivial, trivial⟩, trivial⟩, rfl⟩)
 intro _ _
 cases h : z7a c.shs k with
 | none =>
   have e : q01 c k = q8h c c.msgs 3 := by unfold q01 q8h y79; rw [h]; rfl
   rw [e]
   have hA := q66 c ho 88 k c.msgs 3 (fun hc => z3e c k c.msgs 3 (y71 c k ho.2.1.1 h))
   refine z7 rfl (hA) rfl ⟨tv6, trivial, trivial⟩ ?_
   refine xr rfl (qm rfl ⟨⟨rfl, rfl, ⟨rfl, rfl, .inl rfl⟩, ⟨rfl, rfl, .inl rfl⟩, ⟨rfl, rfl, .inl rfl⟩, ⟨rfl, rfl, .inl rfl⟩, ⟨rfl, rfl, .inl rfl⟩, trivial⟩, z6 rfl⟩)
 | some s =>
   have e : q01 c k = q8h c (c.msgs ++ qs c k s.held) 0 := by unfold q01 q8h y79; rw [h]; rfl
   rw [e]
   have hA := q66 c ho 88 k (c.msgs ++ qs c k s.held) 0 (fun hc => z3e c k (c.msgs ++ qs c k s.held) 0 (z72 c ho hc k s h))
   refine z7 rfl (hA) rfl ⟨tv6, trivial, trivial⟩ ?_
   refine xr rfl (qm rfl ⟨⟨rfl, rfl, ⟨rfl, rfl, .inl rfl⟩, ⟨rfl, rfl, .inl rfl⟩, ⟨rfl, rfl, .inl rfl⟩, ⟨rfl, rfl, .inl rfl⟩, ⟨rfl, rfl, .inl rfl⟩, trivial⟩, z6 rfl⟩)
theorem y73 (c : Clu) (ho : q00 c) (k : Int) : PC Tryz.prog 28 [.agg c.cs, .one (i64 k)] (yab (q01 c k).1 (q01 c k).2) := by
 refine PC.begin Tryz.func28 rfl (by kernel_rfl) ?_
 refine z96 (n := 0) rfl (ι := Unit) (fun _ => True) (fun _ => ⟨[(2, .one (.b (.p c.cs))), (4, .one (.a 4 0)), (1, sV (.int .i64 k))], [(4, .var [.b (i64 0), .nil, .nil, .nil, .nil, .nil])]⟩) ?_ ?_
 · intro K hK
   exact q9 rfl (hK _ () trivial ⟨⟨⟨rfl, rfl, rfl⟩, ⟨rfl, rfl, rfl⟩, rfl, trivial⟩, ⟨⟨rfl, trivial, trivial, trivial, trivial, trivial, trivial⟩, trivial⟩, rfl⟩)
 intro _ _
 have hl := ho.2.1.1
 have hn : (c.shs.map Shd.cs).length = c.shs.length := by simp
 have hw : IntKind.i64.wrap (((c.shs.map Shd.cs).length : Int) - 1) = (c.shs.length : Int) - 1 := by rw [hn]; exact wrap_i64 (by omega) (by omega)
 have hW : within k 0 (IntKind.i64.wrap (((c.shs.map Shd.cs).length : Int) - 1)) = (z7a c.shs k).isSome := by rw [hw, q1v]
 by_cases hc : zt c = 0
 · cases hm : z7a c.shs k with
   | none =>
     have e : q01 c k = (3, y68) := by unfold q01; rw [if_neg (by simpa using hc), hm]
     rw [e]
     rw [hm] at hW
     have hB := q99 3
     refine z7 rfl (q5w c ho) rfl ⟨tv6, trivial⟩ ?_
     refine xb rfl ?_ ?_ <;> intro b0
     exact absurd b0 (by simp; omega)
     refine z7 rfl (qi _ _ _) rfl tv4 ?_
     refine xb rfl ?_ ?_ <;> intro b1
     refine z7 rfl (hB) rfl ⟨trivial, trivial⟩ ?_
     refine xr rfl (qm rfl ⟨⟨rfl, rfl, ⟨rfl, rfl, .inl rfl⟩, ⟨rfl, rfl, .inl rfl⟩, ⟨rfl, rfl, .inl rfl⟩, ⟨rfl, rfl, .inl rfl⟩, ⟨rfl, rfl, .inl rfl⟩, trivial⟩, z6 rfl⟩)
     all_goals first | (exfalso; rename_i q; rw [hW] at q; exact Bool.noConfusion q) | (exfalso; simp_all; done) | skip
   | some s =>
     have e : q01 c k = told (c.wm (c.msgs ++ qs c k s.held)) := by unfold q01; rw [if_neg (by simpa using hc), hm]
     rw [e]
     rw [hm] at hW
     obtain ⟨h1, h2, h3⟩ := y36 hm
     have hg := gm Shd.cs h3
     obtain ⟨q1, q2, q3⟩ := q68 hc
     have hh := (ho.2.1.2 s (List.mem_of_getElem? h3)).2.2.1
     have hrl : ∀ i, (c.msgs ++ qs c k (s.held.take i)).length ≤ 200 + 5 * i := fun i => by
      rw [List.length_append, y2h, List.length_take]
      have : c.accs.length * min i s.held.length ≤ 5 * i := Nat.mul_le_mul q2 (Nat.min_le_left _ _)
      omega
     have hC := z6u c ho
     refine z7 rfl (q5w c ho) rfl ⟨tv6, trivial⟩ ?_
     refine xb rfl ?_ ?_ <;> intro b0
     exact absurd b0 (by simp; omega)
     refine z7 rfl (qi _ _ _) rfl tv4 ?_
     refine xb rfl (fun b1 => ?_) (fun b1 => ?_); rotate_left
     refine z7 rfl (hC) rfl ⟨tv6, trivial⟩ (xs rfl (h1) (y9 rfl _ hg ?_))
     refine xs rfl rfl ?_; rotate_left
     all_goals first | (exfalso; rename_i q; rw [hW] at q; exact Bool.noConfusion q) | (exfalso; simp_all; done) | skip
     have e0 : c.msgs ++ qs c k (s.held.take 0) = c.msgs := by simp [qs]
     refine q5e rfl (ι := Nat) (fun i => i ≤ s.held.length) (fun i => ⟨[(8, sV (.int .i64 (i : Nat))), (7, .one (.b (.l (s.held.map Con.cs)))), (6, .one (.a 6 0)), (4, .one (.a 4 0)), (1, sV (.int .i64 k))], [(6, .var [.h 2500000 (c.cons.map Con.cs).length, .h 2500001 (c.shs.map Shd.cs).length, .h 2500002 (c.accs.map Acc.cs).length, .h 2500003 (c.ldrs.map Ldr.cs).length, .h 77 ((c.msgs ++ qs c k (s.held.take i)).map Msg.cs).length]), (77, .arr true 9 0 ((c.msgs ++ qs c k (s.held.take i)).map Msg.cs)), (2500000, .arr true 2 0 (c.cons.map Con.cs)), (2500001, .arr true 6 0 (c.shs.map Shd.cs)), (2500002, .arr true 1 0 (c.accs.map Acc.cs)), (2500003, .arr true 3 0 (c.ldrs.map Ldr.cs)), (4, .var [.b (i64 0), .nil, .nil, .nil, .nil, .nil])]⟩) (fun i => s.held.length - i) 0 (Nat.zero_le _) ?_ ?_
     · rw [e0]
       exact ⟨[(2500004, 77)], rfl, ⟨rfl, rfl, ⟨rfl, rfl, rfl⟩, ⟨rfl, rfl, rfl⟩, rfl, trivial⟩, ⟨⟨⟨rfl, rfl, rfl⟩, ⟨rfl, rfl, rfl⟩, ⟨rfl, rfl, rfl⟩, ⟨rfl, rfl, rfl⟩, ⟨rfl, rfl, rfl⟩, trivial⟩, ⟨rfl, .inl rfl, .inl rfl⟩, ⟨rfl, .inl rfl, .inl rfl⟩, ⟨rfl, .inl rfl, .inl rfl⟩, ⟨rfl, .inl rfl, .inl rfl⟩, ⟨rfl, .inl rfl, .inl rfl⟩, ⟨rfl, trivial, trivial, trivial, trivial, trivial, trivial⟩, trivial⟩, rfl⟩
     · intro i hi J hJ
       refine xb rfl ?_ ?_ <;> intro h
       · have h : i < s.held.length := by simpa using h
         obtain ⟨x, hx⟩ := gx h
         have hgx := gm Con.cs hx
         have hst := z1z (c := c) (s := k) hx
         have hrj := hrl i
         have hs := ya4 (c.wm (c.msgs ++ qs c k (s.held.take i))) (z4u x.id k 1) (by show (c.msgs ++ qs c k (s.held.take i)).length ≤ _; omega) (by show c.accs.length ≤ _; omega)
         have he : (c.wm (c.msgs ++ qs c k (s.held.take i))).msgs ++ z04 (c.wm (c.msgs ++ qs c k (s.held.take i))).accs.length (z4u x.id k 1) = c.msgs ++ qs c k (s.held.take (i + 1)) := by rw [hst]; show (c.msgs ++ _) ++ _ = _; rw [List.append_assoc]; rfl
         rw [he] at hs
         refine xs rfl (nn_ _) (y9 rfl _ hgx (xs rfl rfl ?_))
         refine y8g _ 500300400 rfl (hs) rfl rfl rfl ⟨⟨⟨rfl, rfl⟩, rfl⟩, ⟨⟨rfl, rfl⟩, rfl⟩, ⟨⟨rfl, rfl⟩, rfl⟩, ⟨⟨rfl, rfl⟩, rfl⟩, ⟨rfl, rfl, .inl rfl⟩, trivial⟩ ⟨tv10, trivial⟩ rfl ?_
         exact q9 rfl (hJ _ (i + 1) (by omega) (by omega) ⟨[(4500004, 77)], rfl, ⟨cwi (by omega) (by omega) (by omega), rfl, ⟨rfl, rfl, rfl⟩, ⟨rfl, rfl, rfl⟩, rfl, trivial⟩, ⟨⟨⟨rfl, rfl, rfl⟩, ⟨rfl, rfl, rfl⟩, ⟨rfl, rfl, rfl⟩, ⟨rfl, rfl, rfl⟩, ⟨rfl, rfl, rfl⟩, trivial⟩, ⟨rfl, .inl rfl, .inl rfl⟩, ⟨rfl, .inl rfl, .inl rfl⟩, ⟨rfl, .inl rfl, .inl rfl⟩, ⟨rfl, .inl rfl, .inl rfl⟩, ⟨rfl, .inl rfl, .inl rfl⟩, ⟨rfl, trivial, trivial, trivial, trivial, trivial, trivial⟩, trivial⟩, rfl⟩)
       · have h : i = s.held.length := by
          have : ¬ i < s.held.length := by simpa using h
          omega
         subst h
         rw [List.take_length]
         have ht := za8 (c.wm (c.msgs ++ qs c k s.held))
         refine y0u rfl (ht) ⟨⟨⟨rfl, rfl, rfl, rfl⟩, ⟨rfl, rfl, rfl, rfl⟩, ⟨rfl, rfl, rfl, rfl⟩, ⟨rfl, rfl, rfl, rfl⟩, ⟨rfl, rfl, rfl, rfl⟩, trivial⟩, trivial⟩ rfl ?_
         refine xr rfl (qm rfl ⟨⟨rfl, rfl, ⟨rfl, rfl, .inl rfl⟩, ⟨rfl, rfl, .inl rfl⟩, ⟨rfl, rfl, .inl rfl⟩, ⟨rfl, rfl, .inl rfl⟩, ⟨rfl, rfl, .inl rfl⟩, trivial⟩, z6 rfl⟩)
 · have e : q01 c k = (zt c, y68) := by unfold q01; rw [if_pos hc]
   rw [e]
   have hB := q99 (zt c)
   refine z7 rfl (q5w c ho) rfl ⟨tv6, trivial⟩ ?_
   refine xb rfl ?_ ?_ <;> intro b0
   refine z7 rfl (hB) rfl ⟨trivial, trivial⟩ ?_
   refine xr rfl (qm rfl ⟨⟨rfl, rfl, ⟨rfl, rfl, .inl rfl⟩, ⟨rfl, rfl, .inl rfl⟩, ⟨rfl, rfl, .inl rfl⟩, ⟨rfl, rfl, .inl rfl⟩, ⟨rfl, rfl, .inl rfl⟩, trivial⟩, z6 rfl⟩)
   exact absurd b0 (by simp; omega)
   all_goals first | (exfalso; simp_all; done) | skip
theorem z8u (cs : List Cell) (b : Int) (hw : WT 9223372036854775807 yb cs) : PC Tryz.prog 7 [.agg cs, .one (i64 b)] (rB true) := by
 refine PC.begin Tryz.func7 rfl (by kernel_rfl) ?_
 obtain ⟨x0, x1, x2, x3, x4, rfl, _⟩ := z05 hw
 rcases yal x0 x1 x2 x3 x4 hw 1048576 (Nat.le_refl _) with hsz | ⟨c, rfl, rfl, rfl, rfl, rfl, ho, hwt, ⟨n, _, hsz⟩, hto, heq⟩
 · skip
   refine z7 rfl (hsz) rfl ⟨tv6, trivial, trivial⟩ (xj (k := 1) rfl ?_)
   refine xr rfl (qm rfl ⟨⟨rfl, rfl, trivial⟩, z6 rfl⟩)
 · have hI := q6s c ho b
   have hS := y73 c ho b
   obtain ⟨w1, w2⟩ := q71 hwt b
   generalize (q01 c b).1 = code at hI hS
   generalize (q01 c b).2 = d at hI hS w1 w2
   have hr := y9p d w1 code
   obtain ⟨k, r0, r1, r2, r3, r4, hk, hmk⟩ := q8m c hwt
   obtain ⟨q, s0, s1, s2, s3, s4, hq, ⟨l0, l1, l2, l3, l4⟩, hmr, hhd⟩ := z9p d w1 w2
   refine z7 rfl (hsz) rfl ⟨tv6, trivial, trivial⟩ (xj (k := 1) rfl (z7 rfl (hto) rfl ⟨tv6, trivial⟩ (z7 rfl (hS) rfl ⟨⟨rfl, rfl, rfl, rfl, rfl, trivial⟩, trivial, trivial⟩ (z7 rfl (hto) rfl ⟨tv6, trivial⟩ (z7 rfl (hI) rfl ⟨⟨rfl, rfl, rfl, rfl, rfl, trivial⟩, trivial, trivial⟩ (z7 rfl (hr) rfl ⟨⟨trivial, rfl, rfl, rfl, rfl, rfl, trivial⟩, ⟨trivial, rfl, rfl, rfl, rfl, rfl, trivial⟩, trivial⟩ (xj (k := 1) rfl (qd rfl [] (.take 0 [3, 4] (.take 1 (Rg 2 3) (.alt 2 (.alt 3 (.take 4 [] .done) .nil) .nil))) (by kernel_rfl) (z7 rfl (hto) rfl ⟨tv6, trivial⟩ ?_)))))))))
   refine z7 rfl (heq) rfl ⟨⟨rfl, rfl, rfl, rfl, rfl, trivial⟩, ⟨rfl, rfl, rfl, rfl, rfl, trivial⟩, trivial⟩ (xj (k := 1) rfl (y0u rfl (hmk) ⟨⟨⟨rfl, rfl, rfl, rfl⟩, ⟨rfl, rfl, rfl, rfl⟩, ⟨rfl, rfl, rfl, rfl⟩, ⟨rfl, rfl, rfl, rfl⟩, ⟨rfl, rfl, rfl, rfl⟩, trivial⟩, rfl, trivial⟩ rfl ?_))
   refine xb rfl ?_ ?_ <;> intro b0
   exact absurd b0 (by simp; omega)
   refine xj (k := 2) rfl (z7 rfl (hr) rfl ⟨⟨trivial, rfl, rfl, rfl, rfl, rfl, trivial⟩, ⟨trivial, rfl, rfl, rfl, rfl, rfl, trivial⟩, trivial⟩ (xj (k := 3) rfl (y0u rfl (hmr code) ⟨⟨rfl, ⟨rfl, rfl, rfl, rfl⟩, ⟨rfl, rfl, rfl, rfl⟩, ⟨rfl, rfl, rfl, rfl⟩, ⟨rfl, rfl, rfl, rfl⟩, ⟨rfl, rfl, rfl, rfl⟩, trivial⟩, rfl, trivial⟩ rfl (z7 rfl (hhd code) rfl ⟨⟨trivial, l0.symm, l1.symm, l2.symm, l3.symm, l4.symm, trivial⟩, trivial, trivial⟩ ?_))))
   refine xb rfl ?_ ?_ <;> intro b0
   exact absurd b0 (by simp; omega)
   refine xb rfl ?_ ?_ <;> intro b1
   exact absurd b1 (by simp [*])
   refine z7 rfl (hto) rfl ⟨tv6, trivial⟩ (z7 rfl (hI) rfl ⟨⟨rfl, rfl, rfl, rfl, rfl, trivial⟩, trivial, trivial⟩ (z7 rfl (hr) rfl ⟨⟨trivial, rfl, rfl, rfl, rfl, rfl, trivial⟩, ⟨trivial, rfl, rfl, rfl, rfl, rfl, trivial⟩, trivial⟩ (xj (k := 1) rfl (z7 rfl (hhd code) rfl ⟨⟨trivial, l0.symm, l1.symm, l2.symm, l3.symm, l4.symm, trivial⟩, trivial, trivial⟩ ?_))))
   refine xb rfl ?_ ?_ <;> intro b0
   exact absurd b0 (by simp; omega)
   refine xb rfl ?_ ?_ <;> intro b1
   exact absurd b1 (by simp [*])
   refine xr rfl (qm rfl ⟨⟨rfl, rfl, trivial⟩, z6 rfl⟩)
end Go.Proofs.YtbnbjaedijbnpaaGreat
end
section
namespace Go.Proofs.YtbnbjaedijbnpaaGreat.fnExactResendShard
open Go.ChangeShapes Go.WideShapes Go.ChangeAt Go.RowKit
set_option maxRecDepth 100000 in
set_option maxHeartbeats 40000000 in
theorem closed : joinedFacts Tryz.pinned.checked.prog 7 Tryz.f7 Rows.fnExactResendShardSpec Rows.fnExactResendShardRow = true := by
 unfold joinedFacts
 simp only [Bool.and_eq_true]
 repeat' refine And.intro ?_ ?_
 all_goals as_aux_lemma => kernel_rfl
end Go.Proofs.YtbnbjaedijbnpaaGreat.fnExactResendShard
end
section
namespace Go.Proofs.YtbnbjaedijbnpaaGreat.fnExactResendShard
open Go.ChangeShapes Go.WideShapes Go.ChangeAt Go.RowKit Go.Sx
open Go.ChangeMaps (open_string shut_string)
theorem own : ownKnob Tryz.prog.godebug = none := by kernel_rfl
theorem laidOut : laidOutB Tryz.prog = true := by kernel_rfl
theorem q2 : OS Tryz.prog 2 (.i .i64 .nil) := zat Tryz.underlying2 (by kernel_rfl)
theorem zbw : OS Tryz.prog 297 qw := qz Tryz.underlying297 (by kernel_rfl) (.cons (by kernel_rfl) (.cons (by kernel_rfl) (.cons (by kernel_rfl) (.cons (by kernel_rfl) (.nil _))))) (qh q2 (qh q2 (qh q2 (y0g q2) rfl rfl) rfl rfl) rfl rfl)
theorem zbs : OS Tryz.prog 135 (.l qw .nil) := y07 Tryz.underlying135 (by kernel_rfl) zbw
theorem ybs : OS Tryz.prog 137 q7 := qz Tryz.underlying137 (by kernel_rfl) (.cons (by kernel_rfl) (.cons (by kernel_rfl) (.nil _))) (qh q2 (y0g zbs) rfl rfl)
theorem q25 : OS Tryz.prog 25 (.l q7 .nil) := y07 Tryz.underlying25 (by kernel_rfl) ybs
theorem zbv : OS Tryz.prog 241 ze := qz Tryz.underlying241 (by kernel_rfl) (.cons (by kernel_rfl) (.cons (by kernel_rfl) (.cons (by kernel_rfl) (.nil _)))) (qh q2 (qh q2 (y0g q2) rfl rfl) rfl rfl)
theorem qbr : OS Tryz.prog 133 (.l ze .nil) := y07 Tryz.underlying133 (by kernel_rfl) zbv
theorem ybw : OS Tryz.prog 299 zh := qz Tryz.underlying299 (by kernel_rfl) (.cons (by kernel_rfl) (.cons (by kernel_rfl) (.nil _))) (qh q2 (y0g q2) rfl rfl)
theorem qbn : OS Tryz.prog 139 (.l zh .nil) := y07 Tryz.underlying139 (by kernel_rfl) ybw
theorem q73 : OS Tryz.prog 73 (.l (.i .i64 .nil) .nil) := y07 Tryz.underlying73 (by kernel_rfl) q2
theorem qbs : OS Tryz.prog 141 zb := qz Tryz.underlying141 (by kernel_rfl) (.cons (by kernel_rfl) (.cons (by kernel_rfl) (.cons (by kernel_rfl) (.cons (by kernel_rfl) (.cons (by kernel_rfl) (.cons (by kernel_rfl) (.nil _))))))) (qh q2 (qh qbr (qh qbn (qh q25 (qh qbn (y0g q73) rfl rfl) rfl rfl) rfl rfl) rfl rfl) rfl rfl)
theorem q26 : OS Tryz.prog 26 (.l zb .nil) := y07 Tryz.underlying26 (by kernel_rfl) qbs
theorem qbh : OS Tryz.prog 169 yk := qz Tryz.underlying169 (by kernel_rfl) (.cons (by kernel_rfl) (.cons (by kernel_rfl) (.nil _))) (qh q2 (y0g q2) rfl rfl)
theorem zbo : OS Tryz.prog 285 (.l yk .nil) := y07 Tryz.underlying285 (by kernel_rfl) qbh
theorem ybv : OS Tryz.prog 287 qj := qz Tryz.underlying287 (by kernel_rfl) (.cons (by kernel_rfl) (.cons (by kernel_rfl) (.cons (by kernel_rfl) (.cons (by kernel_rfl) (.cons (by kernel_rfl) (.nil _)))))) (qh q2 (qh q2 (qh q2 (qh qbh (y0g zbo) rfl rfl) rfl rfl) rfl rfl) rfl rfl)
theorem zbt : OS Tryz.prog 143 (.l qj .nil) := y07 Tryz.underlying143 (by kernel_rfl) ybv
theorem ybt : OS Tryz.prog 145 z8 := qz Tryz.underlying145 (by kernel_rfl) (.cons (by kernel_rfl) (.nil _)) (y0g zbt)
theorem q27 : OS Tryz.prog 27 (.l z8 .nil) := y07 Tryz.underlying27 (by kernel_rfl) ybt
theorem qbv : OS Tryz.prog 290 zp := qz Tryz.underlying290 (by kernel_rfl) (.cons (by kernel_rfl) (.cons (by kernel_rfl) (.cons (by kernel_rfl) (.cons (by kernel_rfl) (.cons (by kernel_rfl) (.cons (by kernel_rfl) (.nil _))))))) (qh q2 (qh q2 (qh q2 (qh q2 (qh q73 (y0g zbo) rfl rfl) rfl rfl) rfl rfl) rfl rfl) rfl rfl)
theorem qbt : OS Tryz.prog 147 (.l zp .nil) := y07 Tryz.underlying147 (by kernel_rfl) qbv
theorem qbw : OS Tryz.prog 303 zm := qz Tryz.underlying303 (by kernel_rfl) (.cons (by kernel_rfl) (.cons (by kernel_rfl) (.cons (by kernel_rfl) (.cons (by kernel_rfl) (.cons (by kernel_rfl) (.nil _)))))) (qh q2 (qh q2 (qh q2 (qh q2 (y0g q2) rfl rfl) rfl rfl) rfl rfl) rfl rfl)
theorem zbu : OS Tryz.prog 148 (.l zm .nil) := y07 Tryz.underlying148 (by kernel_rfl) qbw
theorem ybu : OS Tryz.prog 150 qa := qz Tryz.underlying150 (by kernel_rfl) (.cons (by kernel_rfl) (.cons (by kernel_rfl) (.cons (by kernel_rfl) (.nil _)))) (qh q2 (qh qbt (y0g zbu) rfl rfl) rfl rfl)
theorem q28 : OS Tryz.prog 28 (.l qa .nil) := y07 Tryz.underlying28 (by kernel_rfl) ybu
theorem qbu : OS Tryz.prog 171 qb := qz Tryz.underlying171 (by kernel_rfl) (.cons (by kernel_rfl) (.cons (by kernel_rfl) (.cons (by kernel_rfl) (.cons (by kernel_rfl) (.cons (by kernel_rfl) (.cons (by kernel_rfl) (.cons (by kernel_rfl) (.cons (by kernel_rfl) (.nil _))))))))) (qh q2 (qh q2 (qh q2 (qh q2 (qh q2 (qh q2 (qh q2 (y0g qbh) rfl rfl) rfl rfl) rfl rfl) rfl rfl) rfl rfl) rfl rfl) rfl rfl)
theorem q29 : OS Tryz.prog 29 (.l qb .nil) := y07 Tryz.underlying29 (by kernel_rfl) qbu
theorem q31 : OS Tryz.prog 31 yb := qz Tryz.underlying31 (by kernel_rfl) (.cons (by kernel_rfl) (.cons (by kernel_rfl) (.cons (by kernel_rfl) (.cons (by kernel_rfl) (.cons (by kernel_rfl) (.nil _)))))) (qh q25 (qh q26 (qh q27 (qh q28 (y0g q29) rfl rfl) rfl rfl) rfl rfl) rfl rfl)
set_option maxRecDepth 100000 in
theorem lifted (os : Os) (started : os.Started) (H : Type) (enc : TypeId × Value → H) :
 ReturnsInHanded {} Tryz.checked os 7 .any (Rows.fnExactResendShardSpec.pre6 enc Tryz.prog Tryz.f7 Rows.fnExactResendShardRow.domain false) (Rows.fnExactResendShardSpec.post enc Tryz.prog Tryz.f7 false true false false) := by
 refine returnsInHanded_of_change_sized (C := Tryz.checked) own started (by kernel_rfl) Tryz.func7
  (ChangeSpec.witness6 (enc := enc) (C := Tryz.checked) false ⟨#[], #[.agg #[.slice none 0 0, .slice none 0 0, .slice none 0 0, .slice none 0 0, .slice none 0 0], .int .i64 0], []⟩ 8 (by kernel_rfl) (by kernel_rfl) (by kernel_rfl) (by kernel_rfl)) ?_
 intro W base args ds gs before hval0 hW _ _ _
 have hval : ∀ (j : Nat) t v, Tryz.f7.params[j]? = some t → args[j]? = some v → Value.okWide Tryz.prog W .any base t v := hval0
 have hW' := hW
 obtain ⟨p, q, hA0, hV, rfl, hfz, hnd⟩ := hW
 have hA : DataW.TrodAll enc Tryz.prog W 0 (fun _ => true) true Tryz.f7.params.toList args.toList ds p := hA0
 rw [Tryz.params7] at hA hval
 obtain ⟨v0, vs0, d0, ds0, p0, q0, hargs, rfl, rfl, h0, r0⟩ := trodAll_cons hA
 obtain ⟨v1, vs1, d1, ds1, p1, q1, rfl, rfl, rfl, h1, r1⟩ := trodAll_cons r0
 obtain ⟨rfl, rfl, rfl⟩ := trodAll_nil r1
 obtain rfl : args = #[v0, v1] := by cases args; simp_all
 obtain ⟨rfl, rfl⟩ := trodVars_none hV
 have k0 := h0
 have lt0 : ∀ x ∈ p0, x.block < W.heap.size := by obtain ⟨m, hm⟩ := k0; exact DataW.trod_lt m _ _ _ hm
 obtain ⟨c0, R0, w0⟩ := zak Tryz.underlying31 q31 (hval 0 31 v0 rfl rfl) h0
 obtain ⟨a1, rfl, rfl, rfl, w1⟩ := open_int Tryz.underlying2 (hval 1 2 v1 rfl rfl) h1
 clear hA0 hval0
 refine (PC.law (z8u c0 a1 w0) (z4q.two R0 (.s _ rfl))).mono fun e W' ⟨he, bel⟩ => ?_
 subst he
 exact ⟨_, rfl, _, _, _, [], _, [], hW', trodAll_mk1 (shut_bool Tryz.underlying4 _), (trodAll_cons_mk (Below.trod laidOut (by kernel_rfl) (of_decide_eq_true (by kernel_rfl)) k0 bel lt0) (trodAll_cons_mk (shut_int Tryz.underlying2 w1) trodAll_mk0)), rfl, bel.frame _, fun h => by cases h⟩
theorem ybr : Rows.fnExactResendShardRow.holds Tryz.pinned (OpenSpec.ofChange Rows.fnExactResendShardSpec) :=
 OpenClaim.holds_of_wide 7 Tryz.f7 rfl rfl rfl rfl rfl rfl rfl ⟨rfl, rfl, rfl, rfl, rfl⟩ rfl rfl rfl rfl rfl (by as_aux_lemma => kernel_rfl) Tryz.func7 closed
  (by as_aux_lemma => exact of_decide_eq_true (by kernel_rfl)) (by as_aux_lemma => unfold Func.isWrapper; first | (rw [if_pos (by decide +kernel)]; kernel_rfl) | (rw [if_neg (by decide +kernel)]; exact ⟨rfl, rfl⟩))
  (fun os started H enc _ => lifted os started H enc)
theorem qat : Rows.FnExactResendShardSaid := ybr
end Go.Proofs.YtbnbjaedijbnpaaGreat.fnExactResendShard
namespace Go.Proofs.YtbnbjaedijbnpaaGreat
theorem fnExactResendShard_holds : Rows.FnExactResendShardSaid := fnExactResendShard.qat
end Go.Proofs.YtbnbjaedijbnpaaGreat
end
