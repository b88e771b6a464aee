/- WHAT IS PROVED: FnExactCopyMessage, for every argument of its parameters' types that can be read as data: the call returns true and its arguments read as before. No condition. -/
import Derived.Test.YtbnbjaedijbnpaaGreatCCm7
import Derived.WalkKit
import Derived.OrdersHeld
import Derived.DeepKeys
import Derived.Maps.RangeWalk
import Derived.Maps.OwnOps
import Derived.WideKeyEntry
import Derived.Orders
import Derived.Deep.Slices
import Derived.ChangeArms
import Derived.WideShapes
import Derived.Sort.AssemblyPlain
import Derived.Test.YtbnbjaedijbnpaaGreatProg
import Derived.Shelf.SortG.Plain
import Derived.Shelf.SortG.SortNone
import Derived.Shelf.SlicesG.CompactI
import Derived.Lib.OwnBridge
import Derived.RangeFuncGives
import Derived.RangeFuncBox
import Derived.RangeFuncLeaves
import Derived.Shelf.Abstract
import Derived.Maps.AppendAt
import Derived.OwnWalkIn
import Derived.TacticsInMore
import Derived.LoopNIn
import Derived.LoopIn
import Derived.Test.YtbnbjaedijbnpaaGreatRows
import Derived.ProofKit
import Derived.OpenShut
import Derived.ShutString
import Derived.ChangeOld
import Derived.Below
import Derived.SizedLaws
set_option linter.unusedVariables false
set_option linter.unusedSimpArgs false
section
namespace Go.Proofs.YtbnbjaedijbnpaaGreat
open Go Go.Sx
set_option maxRecDepth 20000
set_option maxHeartbeats 4000000
abbrev pkM (c : Clu) (ms : List Msg) : List PK := [.k (.l (c.cons.map Con.cs)), .k (.l (c.shs.map Shd.cs)), .k (.l (c.accs.map Acc.cs)), .k (.l (c.ldrs.map Ldr.cs)), .n (.l 9 (c.msgs.map Msg.cs)) (.l 9 (ms.map Msg.cs))]
theorem qa2 (c : Clu) (m : Msg) (hl : c.msgs.length ≤ 1000000000000) : PP Tryz.prog 153 0 (pkM c (c.msgs ++ [m])) [.agg [], .agg m.cs] (.tup []) := by
 refine PP.begin Tryz.func153 rfl (by kernel_rfl) ?_
 refine ze rfl [] (Go.Sx.tk (rg 0 4) (.take 4 (rg 7 4) (.take 5 (rg 6 5) (.alt 6 (.alt 7 (Go.Sx.tk [8, 9] (.alt 10 .done .nil)) .nil) .nil)))) (by kernel_rfl) (xs rfl tv10 (xs rfl rfl (xs rfl rfl (xs rfl (.inl rfl) (xs rfl (by simp; omega) (xs rfl (by simp; omega) ?_))))))
 refine xr rfl (y8b rfl rfl ⟨⟨rfl, trivial⟩, ⟨rfl, trivial⟩, ⟨rfl, trivial⟩, ⟨rfl, trivial⟩, ⟨?_, ?_, .inl rfl⟩, trivial⟩ ⟨(by decide), trivial, z6 rfl⟩)
 rotate_left
 rotate_left
 all_goals first | exact List.length_append.symm | simp
theorem y8x (c : Clu) (m : Msg) (hl : c.msgs.length ≤ 1000000000000) : PP Tryz.prog 75 0 (pkM c (c.msgs ++ [m])) [.agg [], .agg m.cs] (.tup []) := by
 refine PP.begin Tryz.func75 rfl (by kernel_rfl) ?_
 refine ze rfl [] (Go.Sx.tk (rg 0 4) (.take 4 (rg 7 4) (.take 5 (rg 6 5) (.alt 6 (.alt 7 (Go.Sx.tk [8, 9] (.alt 10 .done .nil)) .nil) .nil)))) (by kernel_rfl) (xs rfl tv10 (xs rfl rfl (xs rfl rfl (xs rfl (.inl rfl) (xs rfl (by simp; omega) (xs rfl (by simp; omega) ?_))))))
 refine xr rfl (y8b rfl rfl ⟨⟨rfl, trivial⟩, ⟨rfl, trivial⟩, ⟨rfl, trivial⟩, ⟨rfl, trivial⟩, ⟨?_, ?_, .inl rfl⟩, trivial⟩ ⟨(by decide), trivial, z6 rfl⟩)
 rotate_left
 rotate_left
 all_goals first | exact List.length_append.symm | simp
theorem ya4 (c : Clu) : PG Tryz.prog 76 [.agg [.giv true 2 (c.cons.map Con.cs), .giv true 6 (c.shs.map Shd.cs), .giv true 1 (c.accs.map Acc.cs), .giv true 3 (c.ldrs.map Ldr.cs), .giv true 9 (c.msgs.map Msg.cs)]] (qa7 (told c).1 (told c).2) [] := by
 refine PG.begin Tryz.func76 rfl (by kernel_rfl) ?_
 by_cases h : 200 < c.msgs.length
 · have e : told c = (2, q6k) := by unfold told; rw [if_pos h]
   rw [e]
   refine xb rfl ?_ ?_ <;> intro b0
   refine xr rfl ?_
   rotate_left
   exact absurd b0 (by simp; omega)
   all_goals first | (exfalso; simp_all; omega) | exact z17 rfl ⟨⟨rfl, rfl, rfl, rfl, rfl, rfl, rfl, trivial⟩, z6 rfl⟩ trivial | exact z17 rfl ⟨⟨rfl, rfl, ⟨rfl, rfl, .inl rfl⟩, ⟨rfl, rfl, .inl rfl⟩, ⟨rfl, rfl, .inl rfl⟩, ⟨rfl, rfl, .inl rfl⟩, ⟨rfl, rfl, .inl rfl⟩, trivial⟩, z6 rfl⟩ trivial | skip
 · have e : told c = (0, c) := by unfold told; rw [if_neg h]
   rw [e]
   refine xb rfl ?_ ?_ <;> intro b0
   exact absurd b0 (by simp; omega)
   refine xr rfl ?_
   all_goals first | (exfalso; simp_all; omega) | exact z17 rfl ⟨⟨rfl, rfl, rfl, rfl, rfl, rfl, rfl, trivial⟩, z6 rfl⟩ trivial | exact z17 rfl ⟨⟨rfl, rfl, ⟨rfl, rfl, .inl rfl⟩, ⟨rfl, rfl, .inl rfl⟩, ⟨rfl, rfl, .inl rfl⟩, ⟨rfl, rfl, .inl rfl⟩, ⟨rfl, rfl, .inl rfl⟩, trivial⟩, z6 rfl⟩ trivial | skip
theorem qag (k : Int) : PC Tryz.prog 73 [.one (i64 k)] (qa7 k q6k) := by
 refine PC.begin Tryz.func73 rfl (by kernel_rfl) ?_
 refine xr rfl (q7 rfl ⟨⟨rfl, rfl, rfl, rfl, rfl, rfl, rfl, trivial⟩, z6 rfl⟩)
theorem z70 (rows : List (List Cell)) : PC Tryz.prog 238 [.one (.l rows)] (rI rows.length) := by
 refine PC.begin Tryz.func238 rfl (by kernel_rfl) ?_
 refine xr rfl (q7 rfl ⟨⟨rfl, rfl, trivial⟩, z6 rfl⟩)
theorem z3u (rows : List (List Cell)) (n : Int) (hl : rows.length ≤ 1048576) : PC Tryz.prog 152 [.one (i64 n), .one (.l rows)] (rB (within n 0 ((rows.length : Int) - 1))) := by
 refine PC.begin Tryz.func152 rfl (by kernel_rfl) ?_
 have hw : IntKind.i64.wrap ((rows.length : Int) - 1) = (rows.length : Int) - 1 := wrap_i64 (by omega) (by omega)
 refine z7 rfl (z70 rows) rfl ⟨trivial, trivial⟩ (z7 rfl (zn _ _ _) rfl tv4 ?_)
 refine xr rfl (q7 rfl ⟨⟨rfl, ?_, trivial⟩, z6 rfl⟩)
 all_goals (refine vb ?_; rw [hw])
def q74 (c : Clu) (d : List Msg) (code : Int) : Int × Clu := if code ≠ 0 then (code, q6k) else told (c.wm d)
theorem zae (c : Clu) (ho : y00 c) (fn : Nat) (k : Int) (d : List Msg) (code : Int) (hf : PP Tryz.prog fn 0 (pkM c d) [.agg [], .one (.p [i64 k])] (rI code)) : PC Tryz.prog 151 [.agg c.cs, .one (.f fn [.p [i64 k]])] (qa7 (q74 c d code).1 (q74 c d code).2) := by
 refine PC.begin Tryz.func151 rfl (by kernel_rfl) ?_
 have hn : (d.map Msg.cs).length = d.length := by simp
 have hc := z3l c ho
 by_cases h0 : code = 0
 · subst h0
   by_cases h : 200 < d.length
   · have e : q74 c d 0 = (2, q6k) := by unfold q74 told; rw [if_neg (by simp), if_pos (by exact h)]
     rw [e]
     refine z7 rfl (hc) rfl ⟨tv6, trivial⟩ ?_
     refine qa8 _ 500100200 rfl (hf) rfl rfl rfl ⟨⟨⟨rfl, rfl⟩, rfl⟩, ⟨⟨rfl, rfl⟩, rfl⟩, ⟨⟨rfl, rfl⟩, rfl⟩, ⟨⟨rfl, rfl⟩, rfl⟩, ⟨rfl, rfl, .inl rfl⟩, trivial⟩ ⟨trivial, trivial⟩ rfl ?_
     refine xj (k := 5) rfl ?_
     refine xb rfl ?_ ?_ <;> intro b0
     refine xj (k := 1) rfl ?_
     refine xr rfl (q7 rfl ⟨⟨rfl, rfl, rfl, rfl, rfl, rfl, rfl, trivial⟩, z6 rfl⟩)
     exact absurd b0 (by simp; omega)
     all_goals first | (exfalso; simp_all; done) | (exfalso; simp_all; omega) | skip
   · have e : q74 c d 0 = (0, c.wm d) := by unfold q74 told; rw [if_neg (by simp), if_neg (by exact h)]
     rw [e]
     refine z7 rfl (hc) rfl ⟨tv6, trivial⟩ ?_
     refine qa8 _ 500200200 rfl (hf) rfl rfl rfl ⟨⟨⟨rfl, rfl⟩, rfl⟩, ⟨⟨rfl, rfl⟩, rfl⟩, ⟨⟨rfl, rfl⟩, rfl⟩, ⟨⟨rfl, rfl⟩, rfl⟩, ⟨rfl, rfl, .inl rfl⟩, trivial⟩ ⟨trivial, trivial⟩ rfl ?_
     refine xj (k := 5) rfl ?_
     refine xb rfl ?_ ?_ <;> intro b0
     exact absurd b0 (by simp; omega)
     refine xj (k := 1) rfl ?_
     refine xr rfl (q7 rfl ⟨⟨rfl, rfl, ⟨rfl, rfl, .inl rfl⟩, ⟨rfl, rfl, .inl rfl⟩, ⟨rfl, rfl, .inl rfl⟩, ⟨rfl, rfl, .inl rfl⟩, ⟨rfl, rfl, .inl rfl⟩, trivial⟩, z6 rfl⟩)
     all_goals first | (exfalso; simp_all; done) | (exfalso; simp_all; omega) | skip
 · have e : q74 c d code = (code, q6k) := by unfold q74; rw [if_pos h0]
   rw [e]
   refine z7 rfl (hc) rfl ⟨tv6, trivial⟩ ?_
   refine qa8 _ 500300200 rfl (hf) rfl rfl rfl ⟨⟨⟨rfl, rfl⟩, rfl⟩, ⟨⟨rfl, rfl⟩, rfl⟩, ⟨⟨rfl, rfl⟩, rfl⟩, ⟨⟨rfl, rfl⟩, rfl⟩, ⟨rfl, rfl, .inl rfl⟩, trivial⟩ ⟨trivial, trivial⟩ rfl ?_
   refine xb rfl ?_ ?_ <;> intro b0
   exact absurd b0 (by simp; omega)
   refine xj (k := 5) rfl ?_
   refine xb rfl ?_ ?_ <;> intro b1
   refine xr rfl (q7 rfl ⟨⟨rfl, rfl, rfl, rfl, rfl, rfl, rfl, trivial⟩, z6 rfl⟩)
   exact absurd b1 (by simp; omega)
   all_goals first | (exfalso; simp_all; done) | (exfalso; simp_all; omega) | skip
def q8c (c : Clu) (d : List Msg) (code : Int) : Int × Clu := if yv c ≠ 0 then (yv c, q6k) else q74 c d code
theorem y64 (c : Clu) (ho : y00 c) (fn : Nat) (k : Int) (d : List Msg) (code : Int) (hf : yv c = 0 → PP Tryz.prog fn 0 (pkM c d) [.agg [], .one (.p [i64 k])] (rI code)) : PC Tryz.prog 77 [.agg c.cs, .one (.f fn [.p [i64 k]])] (qa7 (q8c c d code).1 (q8c c d code).2) := by
 refine PC.begin Tryz.func77 rfl (by kernel_rfl) ?_
 by_cases h : yv c = 0
 · have e : q8c c d code = q74 c d code := by unfold q8c; rw [if_neg (by simpa using h)]
   rw [e]
   have hA := zae c ho fn k d code (hf h)
   refine z7 rfl (y7l c ho) rfl ⟨tv6, trivial⟩ ?_
   refine xb rfl ?_ ?_ <;> intro b0
   exact absurd b0 (by simp; omega)
   refine z7 rfl (hA) rfl ⟨tv6, trivial, trivial⟩ ?_
   refine xr rfl (q7 rfl ⟨⟨rfl, rfl, ⟨rfl, rfl, .inl rfl⟩, ⟨rfl, rfl, .inl rfl⟩, ⟨rfl, rfl, .inl rfl⟩, ⟨rfl, rfl, .inl rfl⟩, ⟨rfl, rfl, .inl rfl⟩, trivial⟩, z6 rfl⟩)
   all_goals first | (exfalso; simp_all; done) | skip
 · have e : q8c c d code = (yv c, q6k) := by unfold q8c; rw [if_pos h]
   rw [e]
   refine z7 rfl (y7l c ho) rfl ⟨tv6, trivial⟩ ?_
   refine xb rfl ?_ ?_ <;> intro b0
   refine xr rfl (q7 rfl ⟨⟨rfl, rfl, rfl, rfl, rfl, rfl, rfl, trivial⟩, z6 rfl⟩)
   exact absurd b0 (by simp; omega)
   all_goals first | (exfalso; simp_all; done) | skip
theorem y6m (c : Clu) (k : Int) (hl : c.msgs.length ≤ 1048576) (h : z5k c.msgs k = none) : PP Tryz.prog 79 0 (pkM c c.msgs) [.agg [], .one (i64 k)] (rI 3) := by
 refine PP.begin Tryz.func79 rfl (by kernel_rfl) ?_
 have hn : (c.msgs.map Msg.cs).length = c.msgs.length := by simp
 have hp := z3u (c.msgs.map Msg.cs) k (by omega)
 rw [hn, q1u, h] at hp
 refine z7 rfl (hp) rfl ⟨trivial, rfl, trivial⟩ (xj (k := 1) rfl ?_)
 refine xr rfl (y8b rfl rfl ⟨⟨rfl, trivial⟩, ⟨rfl, trivial⟩, ⟨rfl, trivial⟩, ⟨rfl, trivial⟩, ⟨rfl, rfl, .inl rfl⟩, trivial⟩ ⟨⟨rfl, rfl, trivial⟩, z6 rfl⟩)
theorem q6m (c : Clu) (k : Int) (m : Msg) (hl : c.msgs.length ≤ 1048576) (h : z5k c.msgs k = some m) : PP Tryz.prog 79 0 (pkM c (c.msgs ++ [m])) [.agg [], .one (i64 k)] (rI 0) := by
 refine PP.begin Tryz.func79 rfl (by kernel_rfl) ?_
 have hn : (c.msgs.map Msg.cs).length = c.msgs.length := by simp
 have hp := z3u (c.msgs.map Msg.cs) k (by omega)
 rw [hn, q1u, h] at hp
 obtain ⟨h1, h2, h3⟩ := q34 h
 have hg := gm Msg.cs h3
 have hs := qa2 c m (by omega)
 refine z7 rfl (hp) rfl ⟨trivial, rfl, trivial⟩ (xj (k := 1) rfl (xs rfl rfl (xs rfl (h1) (q9 rfl _ hg (xs rfl rfl (xs rfl rfl (q9 rfl _ hg ?_)))))))
 refine qa8 _ 500100900 rfl (hs) rfl rfl rfl ⟨⟨⟨rfl, trivial⟩, rfl⟩, ⟨⟨rfl, trivial⟩, rfl⟩, ⟨⟨rfl, trivial⟩, rfl⟩, ⟨⟨rfl, trivial⟩, rfl⟩, ⟨rfl, rfl, .inl rfl⟩, trivial⟩ ⟨tv10, trivial⟩ rfl ?_
 refine xr rfl (y8b rfl rfl ⟨⟨rfl, trivial⟩, ⟨rfl, trivial⟩, ⟨rfl, trivial⟩, ⟨rfl, trivial⟩, ⟨rfl, rfl, .inl rfl⟩, trivial⟩ ⟨⟨rfl, rfl, trivial⟩, z6 rfl⟩)
theorem z4t (c : Clu) (k : Int) (d : List Msg) (code : Int) (h : PP Tryz.prog 79 0 (pkM c d) [.agg [], .one (i64 k)] (rI code)) : PP Tryz.prog 78 0 (pkM c d) [.agg [], .one (.p [i64 k])] (rI code) := by
 refine PP.begin Tryz.func78 rfl (by kernel_rfl) ?_
 refine qa8 _ 500100100 rfl (h) rfl rfl rfl ⟨⟨⟨rfl, trivial⟩, rfl⟩, ⟨⟨rfl, trivial⟩, rfl⟩, ⟨⟨rfl, trivial⟩, rfl⟩, ⟨⟨rfl, trivial⟩, rfl⟩, ⟨rfl, rfl, .inl rfl⟩, trivial⟩ ⟨trivial, trivial⟩ rfl ?_
 refine xr rfl (y8b rfl rfl ⟨⟨rfl, trivial⟩, ⟨rfl, trivial⟩, ⟨rfl, trivial⟩, ⟨rfl, trivial⟩, ⟨rfl, rfl, .inl rfl⟩, trivial⟩ ⟨⟨rfl, rfl, trivial⟩, z6 rfl⟩)
theorem z8n (c : Clu) (ho : y00 c) (k : Int) : PC Tryz.prog 23 [.agg c.cs, .one (i64 k)] (qa7 (z1c c k).1 (z1c c k).2) := by
 refine PC.begin Tryz.func23 rfl (by kernel_rfl) ?_
 refine z8b (n := 0) rfl (ι := Unit) (fun _ => True) (fun _ => ⟨[(2, .one (.b (.p c.cs))), (3, .one (.b (.p [i64 k]))), (4, .one (.a 4 0))], [(4, .var [.b (i64 0), .nil, .nil, .nil, .nil, .nil])]⟩) ?_ ?_
 · intro K hK
   exact za rfl (hK _ () trivial ⟨⟨⟨rfl, rfl, rfl⟩, ⟨rfl, rfl, rfl⟩, ⟨rfl, rfl, rfl⟩, trivial⟩, ⟨⟨rfl, trivial, trivial, trivial, trivial, trivial, trivial⟩, trivial⟩, rfl⟩)
 intro _ _
 cases h : z5k c.msgs k with
 | none =>
   have e : z1c c k = q8c c c.msgs 3 := by unfold z1c q8c q74; rw [h]; rfl
   rw [e]
   have hA := y64 c ho 78 k c.msgs 3 (fun hc => z4t c k c.msgs 3 (y6m c k ho.2.2.2.2 h))
   refine z7 rfl (hA) rfl ⟨tv6, trivial, trivial⟩ ?_
   refine xr rfl (q7 rfl ⟨⟨rfl, rfl, ⟨rfl, rfl, .inl rfl⟩, ⟨rfl, rfl, .inl rfl⟩, ⟨rfl, rfl, .inl rfl⟩, ⟨rfl, rfl, .inl rfl⟩, ⟨rfl, rfl, .inl rfl⟩, trivial⟩, z6 rfl⟩)
 | some m =>
   have e : z1c c k = q8c c (c.msgs ++ [m]) 0 := by unfold z1c q8c q74; rw [h]; rfl
   rw [e]
   have hA := y64 c ho 78 k (c.msgs ++ [m]) 0 (fun hc => z4t c k (c.msgs ++ [m]) 0 (q6m c k m ho.2.2.2.2 h))
   refine z7 rfl (hA) rfl ⟨tv6, trivial, trivial⟩ ?_
   refine xr rfl (q7 rfl ⟨⟨rfl, rfl, ⟨rfl, rfl, .inl rfl⟩, ⟨rfl, rfl, .inl rfl⟩, ⟨rfl, rfl, .inl rfl⟩, ⟨rfl, rfl, .inl rfl⟩, ⟨rfl, rfl, .inl rfl⟩, trivial⟩, z6 rfl⟩)
def atR (c : Clu) (k : Int) : Int := if yv c ≠ 0 then yv c else match z5k c.msgs k with | none => 3 | some _ => 0
theorem y8o (c : Clu) (ho : y00 c) (k : Int) : PC Tryz.prog 72 [.agg c.cs, .one (i64 k)] (rI (atR c k)) := by
 refine PC.begin Tryz.func72 rfl (by kernel_rfl) ?_
 have hl := ho.2.2.2.2
 have hn : (c.msgs.map Msg.cs).length = c.msgs.length := by simp
 have hw : IntKind.i64.wrap (((c.msgs.map Msg.cs).length : Int) - 1) = (c.msgs.length : Int) - 1 := by rw [hn]; exact wrap_i64 (by omega) (by omega)
 have hW : within k 0 (IntKind.i64.wrap (((c.msgs.map Msg.cs).length : Int) - 1)) = (z5k c.msgs k).isSome := by rw [hw, q1u]
 by_cases h : yv c = 0
 · cases hg : z5k c.msgs k with
   | none =>
     have e : atR c k = 3 := by unfold atR; rw [if_neg (by simpa using h), hg]
     rw [e]
     rw [hg] at hW
     refine z8b (n := 0) rfl (ι := Unit) (fun _ => True) (fun _ => ⟨[(2, .one (.b (.p c.cs))), (1, sV (.int .i64 k))], []⟩) ?_ ?_
     · intro K hK
       exact za rfl (hK _ () trivial ⟨⟨⟨rfl, rfl, rfl⟩, rfl, trivial⟩, trivial, rfl⟩)
     intro _ _
     refine z7 rfl (y5u c ho) rfl ⟨tv6, trivial⟩ ?_
     refine xb rfl ?_ ?_ <;> intro b0
     exact absurd b0 (by simp; omega)
     refine z7 rfl (zj _ _ _) rfl tv4 ?_
     refine xb rfl ?_ ?_ <;> intro b1
     refine xr rfl (q7 rfl ⟨⟨rfl, rfl, trivial⟩, z6 rfl⟩)
     refine xr rfl (q7 rfl ⟨⟨rfl, ?_, trivial⟩, z6 rfl⟩)
     all_goals first | (exfalso; rename_i q; rw [hW] at q; exact Bool.noConfusion q) | (exfalso; simp_all; done) | skip
   | some m =>
     have e : atR c k = 0 := by unfold atR; rw [if_neg (by simpa using h), hg]
     rw [e]
     rw [hg] at hW
     refine z8b (n := 0) rfl (ι := Unit) (fun _ => True) (fun _ => ⟨[(2, .one (.b (.p c.cs))), (1, sV (.int .i64 k))], []⟩) ?_ ?_
     · intro K hK
       exact za rfl (hK _ () trivial ⟨⟨⟨rfl, rfl, rfl⟩, rfl, trivial⟩, trivial, rfl⟩)
     intro _ _
     refine z7 rfl (y5u c ho) rfl ⟨tv6, trivial⟩ ?_
     refine xb rfl ?_ ?_ <;> intro b0
     exact absurd b0 (by simp; omega)
     refine z7 rfl (zj _ _ _) rfl tv4 ?_
     refine xb rfl ?_ ?_ <;> intro b1
     refine xr rfl (q7 rfl ⟨⟨rfl, ?_, trivial⟩, z6 rfl⟩)
     rotate_left
     refine xr rfl (q7 rfl ⟨⟨rfl, rfl, trivial⟩, z6 rfl⟩)
     all_goals first | (exfalso; rename_i q; rw [hW] at q; exact Bool.noConfusion q) | (exfalso; simp_all; done) | skip
 · have e : atR c k = yv c := by unfold atR; rw [if_pos h]
   rw [e]
   refine z7 rfl (y5u c ho) rfl ⟨tv6, trivial⟩ ?_
   refine xb rfl ?_ ?_ <;> intro b0
   refine xr rfl (q7 rfl ⟨⟨rfl, rfl, trivial⟩, z6 rfl⟩)
   exact absurd b0 (by simp; omega)
   all_goals first | (exfalso; simp_all; done) | skip
theorem ybm {c : Clu} {k : Int} (h : atR c k = 0) : yv c = 0 ∧ ∃ m, z5k c.msgs k = some m := by
 unfold atR at h
 split at h
 · rename_i h1; exact absurd h h1
 · rename_i h1
   split at h
   · cases h
   · rename_i m hm; exact ⟨by simpa using h1, m, hm⟩
theorem q9k {c : Clu} {k : Int} (h : ¬ atR c k = 0) : z1c c k = (atR c k, q6k) := by
 unfold atR at h ⊢
 unfold z1c
 split
 · rfl
 · rename_i h1
   rw [if_neg h1] at h
   cases hm : z5k c.msgs k with
   | none => rfl
   | some m => rw [hm] at h; exact absurd rfl h
theorem y8w (c : Clu) (ho : y00 c) (k : Int) : PC Tryz.prog 22 [.agg c.cs, .one (i64 k)] (qa7 (z1c c k).1 (z1c c k).2) := by
 refine PC.begin Tryz.func22 rfl (by kernel_rfl) ?_
 refine z8b (n := 0) rfl (ι := Unit) (fun _ => True) (fun _ => ⟨[(2, .one (.b (.p c.cs))), (4, .one (.a 4 0)), (1, sV (.int .i64 k))], [(4, .var [.b (i64 0), .nil, .nil, .nil, .nil, .nil])]⟩) ?_ ?_
 · intro K hK
   exact za rfl (hK _ () trivial ⟨⟨⟨rfl, rfl, rfl⟩, ⟨rfl, rfl, rfl⟩, rfl, trivial⟩, ⟨⟨rfl, trivial, trivial, trivial, trivial, trivial, trivial⟩, trivial⟩, rfl⟩)
 intro _ _
 have hA := y8o c ho k
 by_cases h : atR c k = 0
 · obtain ⟨hc, m, hm⟩ := ybm h
   have e : z1c c k = told (c.wm (c.msgs ++ [m])) := by unfold z1c; rw [if_neg (by simpa using hc), hm]
   rw [e]
   rw [h] at hA
   obtain ⟨h1, h2, h3⟩ := q34 hm
   have hg := gm Msg.cs h3
   have hl := ho.2.2.2.2
   have hs := y8x c m (by omega)
   have ht := ya4 (c.wm (c.msgs ++ [m]))
   have hC := z6r c ho
   refine z7 rfl (hA) rfl ⟨tv6, trivial, trivial⟩ (xj (k := 1) rfl (z7 rfl (hC) rfl ⟨tv6, trivial⟩ (xs rfl (h1) (q9 rfl _ hg (xs rfl rfl ?_)))))
   refine qa8 _ 500100700 rfl (hs) rfl rfl rfl ⟨⟨⟨rfl, rfl⟩, rfl⟩, ⟨⟨rfl, rfl⟩, rfl⟩, ⟨⟨rfl, rfl⟩, rfl⟩, ⟨⟨rfl, rfl⟩, rfl⟩, ⟨rfl, rfl, .inl rfl⟩, trivial⟩ ⟨tv10, trivial⟩ rfl ?_
   refine z0t rfl (ht) ⟨⟨⟨rfl, rfl, rfl, rfl⟩, ⟨rfl, rfl, rfl, rfl⟩, ⟨rfl, rfl, rfl, rfl⟩, ⟨rfl, rfl, rfl, rfl⟩, ⟨rfl, rfl, rfl, rfl⟩, trivial⟩, trivial⟩ rfl ?_
   refine xr rfl (q7 rfl ⟨⟨rfl, rfl, ⟨rfl, rfl, .inl rfl⟩, ⟨rfl, rfl, .inl rfl⟩, ⟨rfl, rfl, .inl rfl⟩, ⟨rfl, rfl, .inl rfl⟩, ⟨rfl, rfl, .inl rfl⟩, trivial⟩, z6 rfl⟩)
   all_goals first | (exfalso; simp_all; done) | skip
 · rw [q9k h]
   have hB := qag (atR c k)
   refine z7 rfl (hA) rfl ⟨tv6, trivial, trivial⟩ ?_
   refine xb rfl ?_ ?_ <;> intro b0
   refine z7 rfl (hB) rfl ⟨trivial, trivial⟩ ?_
   refine xr rfl (q7 rfl ⟨⟨rfl, rfl, ⟨rfl, rfl, .inl rfl⟩, ⟨rfl, rfl, .inl rfl⟩, ⟨rfl, rfl, .inl rfl⟩, ⟨rfl, rfl, .inl rfl⟩, ⟨rfl, rfl, .inl rfl⟩, trivial⟩, z6 rfl⟩)
   exact absurd b0 (by simp; omega)
   all_goals first | (exfalso; simp_all; done) | skip
theorem z8q (cs : List Cell) (b : Int) (hw : WT 9223372036854775807 qb cs) : PC Tryz.prog 6 [.agg cs, .one (i64 b)] (rB true) := by
 refine PC.begin Tryz.func6 rfl (by kernel_rfl) ?_
 obtain ⟨x0, x1, x2, x3, x4, rfl, _⟩ := q03 hw
 rcases zai x0 x1 x2 x3 x4 hw 1048576 (Nat.le_refl _) with hsz | ⟨c, rfl, rfl, rfl, rfl, rfl, ho, hwt, ⟨n, _, hsz⟩, hto, heq⟩
 · skip
   refine z7 rfl (hsz) rfl ⟨tv6, trivial, trivial⟩ (xj (k := 1) rfl ?_)
   refine xr rfl (q7 rfl ⟨⟨rfl, rfl, trivial⟩, z6 rfl⟩)
 · have hI := z8n c ho b
   have hS := y8w c ho b
   obtain ⟨w1, w2⟩ := z8j hwt b
   generalize (z1c c b).1 = code at hI hS
   generalize (z1c c b).2 = d at hI hS w1 w2
   have hr := y9l d w1 code
   obtain ⟨k, r0, r1, r2, r3, r4, hk, hmk⟩ := q8h c hwt
   obtain ⟨q, s0, s1, s2, s3, s4, hq, ⟨l0, l1, l2, l3, l4⟩, hmr, hhd⟩ := z9l d w1 w2
   refine z7 rfl (hsz) rfl ⟨tv6, trivial, trivial⟩ (xj (k := 1) rfl (z7 rfl (hto) rfl ⟨tv6, trivial⟩ (z7 rfl (hS) rfl ⟨⟨rfl, rfl, rfl, rfl, rfl, trivial⟩, trivial, trivial⟩ (z7 rfl (hto) rfl ⟨tv6, trivial⟩ (z7 rfl (hI) rfl ⟨⟨rfl, rfl, rfl, rfl, rfl, trivial⟩, trivial, trivial⟩ (z7 rfl (hr) rfl ⟨⟨trivial, rfl, rfl, rfl, rfl, rfl, trivial⟩, ⟨trivial, rfl, rfl, rfl, rfl, rfl, trivial⟩, trivial⟩ (xj (k := 1) rfl (ze rfl [] (.take 0 [3, 4] (.take 1 (rg 2 3) (.alt 2 (.alt 3 (.take 4 [] .done) .nil) .nil))) (by kernel_rfl) (z7 rfl (hto) rfl ⟨tv6, trivial⟩ ?_)))))))))
   refine z7 rfl (heq) rfl ⟨⟨rfl, rfl, rfl, rfl, rfl, trivial⟩, ⟨rfl, rfl, rfl, rfl, rfl, trivial⟩, trivial⟩ (xj (k := 1) rfl (z0t rfl (hmk) ⟨⟨⟨rfl, rfl, rfl, rfl⟩, ⟨rfl, rfl, rfl, rfl⟩, ⟨rfl, rfl, rfl, rfl⟩, ⟨rfl, rfl, rfl, rfl⟩, ⟨rfl, rfl, rfl, rfl⟩, trivial⟩, rfl, trivial⟩ rfl ?_))
   refine xb rfl ?_ ?_ <;> intro b0
   exact absurd b0 (by simp; omega)
   refine xj (k := 2) rfl (z7 rfl (hr) rfl ⟨⟨trivial, rfl, rfl, rfl, rfl, rfl, trivial⟩, ⟨trivial, rfl, rfl, rfl, rfl, rfl, trivial⟩, trivial⟩ (xj (k := 3) rfl (z0t rfl (hmr code) ⟨⟨rfl, ⟨rfl, rfl, rfl, rfl⟩, ⟨rfl, rfl, rfl, rfl⟩, ⟨rfl, rfl, rfl, rfl⟩, ⟨rfl, rfl, rfl, rfl⟩, ⟨rfl, rfl, rfl, rfl⟩, trivial⟩, rfl, trivial⟩ rfl (z7 rfl (hhd code) rfl ⟨⟨trivial, l0.symm, l1.symm, l2.symm, l3.symm, l4.symm, trivial⟩, trivial, trivial⟩ ?_))))
   refine xb rfl ?_ ?_ <;> intro b0
   exact absurd b0 (by simp; omega)
   refine xb rfl ?_ ?_ <;> intro b1
   exact absurd b1 (by simp [*])
   refine z7 rfl (hto) rfl ⟨tv6, trivial⟩ (z7 rfl (hI) rfl ⟨⟨rfl, rfl, rfl, rfl, rfl, trivial⟩, trivial, trivial⟩ (z7 rfl (hr) rfl ⟨⟨trivial, rfl, rfl, rfl, rfl, rfl, trivial⟩, ⟨trivial, rfl, rfl, rfl, rfl, rfl, trivial⟩, trivial⟩ (xj (k := 1) rfl (z7 rfl (hhd code) rfl ⟨⟨trivial, l0.symm, l1.symm, l2.symm, l3.symm, l4.symm, trivial⟩, trivial, trivial⟩ ?_))))
   refine xb rfl ?_ ?_ <;> intro b0
   exact absurd b0 (by simp; omega)
   refine xb rfl ?_ ?_ <;> intro b1
   exact absurd b1 (by simp [*])
   refine xr rfl (q7 rfl ⟨⟨rfl, rfl, trivial⟩, z6 rfl⟩)
end Go.Proofs.YtbnbjaedijbnpaaGreat
end
section
namespace Go.Proofs.YtbnbjaedijbnpaaGreat.fnExactCopyMessage
open Go.ChangeShapes Go.WideShapes Go.ChangeAt Go.RowKit
set_option maxRecDepth 100000 in
set_option maxHeartbeats 40000000 in
theorem closed : joinedFacts Tryz.pinned.checked.prog 6 Tryz.f6 Rows.fnExactCopyMessageSpec Rows.fnExactCopyMessageRow = true := by
 unfold joinedFacts
 simp only [Bool.and_eq_true]
 repeat' refine And.intro ?_ ?_
 all_goals as_aux_lemma => kernel_rfl
end Go.Proofs.YtbnbjaedijbnpaaGreat.fnExactCopyMessage
end
section
namespace Go.Proofs.YtbnbjaedijbnpaaGreat.fnExactCopyMessage
open Go.ChangeShapes Go.WideShapes Go.ChangeAt Go.RowKit Go.Sx
open Go.ChangeMaps (open_string shut_string)
theorem own : ownKnob Tryz.prog.godebug = none := by kernel_rfl
theorem laidOut : laidOutB Tryz.prog = true := by kernel_rfl
theorem q2 : OS Tryz.prog 2 (.i .i64 .nil) := qap Tryz.underlying2 (by kernel_rfl)
theorem zbt : OS Tryz.prog 297 yw := yz Tryz.underlying297 (by kernel_rfl) (.cons (by kernel_rfl) (.cons (by kernel_rfl) (.cons (by kernel_rfl) (.cons (by kernel_rfl) (.nil _))))) (zi q2 (zi q2 (zi q2 (q0e q2) rfl rfl) rfl rfl) rfl rfl)
theorem zbp : OS Tryz.prog 135 (.l yw .nil) := z06 Tryz.underlying135 (by kernel_rfl) zbt
theorem ybp : OS Tryz.prog 137 z8 := yz Tryz.underlying137 (by kernel_rfl) (.cons (by kernel_rfl) (.cons (by kernel_rfl) (.nil _))) (zi q2 (q0e zbp) rfl rfl)
theorem q25 : OS Tryz.prog 25 (.l z8 .nil) := z06 Tryz.underlying25 (by kernel_rfl) ybp
theorem zbs : OS Tryz.prog 241 ye := yz Tryz.underlying241 (by kernel_rfl) (.cons (by kernel_rfl) (.cons (by kernel_rfl) (.cons (by kernel_rfl) (.nil _)))) (zi q2 (zi q2 (q0e q2) rfl rfl) rfl rfl)
theorem qbo : OS Tryz.prog 133 (.l ye .nil) := z06 Tryz.underlying133 (by kernel_rfl) zbs
theorem ybt : OS Tryz.prog 299 yh := yz Tryz.underlying299 (by kernel_rfl) (.cons (by kernel_rfl) (.cons (by kernel_rfl) (.nil _))) (zi q2 (q0e q2) rfl rfl)
theorem ybk : OS Tryz.prog 139 (.l yh .nil) := z06 Tryz.underlying139 (by kernel_rfl) ybt
theorem q73 : OS Tryz.prog 73 (.l (.i .i64 .nil) .nil) := z06 Tryz.underlying73 (by kernel_rfl) q2
theorem qbp : OS Tryz.prog 141 yb := yz Tryz.underlying141 (by kernel_rfl) (.cons (by kernel_rfl) (.cons (by kernel_rfl) (.cons (by kernel_rfl) (.cons (by kernel_rfl) (.cons (by kernel_rfl) (.cons (by kernel_rfl) (.nil _))))))) (zi q2 (zi qbo (zi ybk (zi q25 (zi ybk (q0e q73) rfl rfl) rfl rfl) rfl rfl) rfl rfl) rfl rfl)
theorem q26 : OS Tryz.prog 26 (.l yb .nil) := z06 Tryz.underlying26 (by kernel_rfl) qbp
theorem qbe : OS Tryz.prog 169 zl := yz Tryz.underlying169 (by kernel_rfl) (.cons (by kernel_rfl) (.cons (by kernel_rfl) (.nil _))) (zi q2 (q0e q2) rfl rfl)
theorem qbk : OS Tryz.prog 285 (.l zl .nil) := z06 Tryz.underlying285 (by kernel_rfl) qbe
theorem ybs : OS Tryz.prog 287 zk := yz Tryz.underlying287 (by kernel_rfl) (.cons (by kernel_rfl) (.cons (by kernel_rfl) (.cons (by kernel_rfl) (.cons (by kernel_rfl) (.cons (by kernel_rfl) (.nil _)))))) (zi q2 (zi q2 (zi q2 (zi qbe (q0e qbk) rfl rfl) rfl rfl) rfl rfl) rfl rfl)
theorem zbq : OS Tryz.prog 143 (.l zk .nil) := z06 Tryz.underlying143 (by kernel_rfl) ybs
theorem ybq : OS Tryz.prog 145 q8 := yz Tryz.underlying145 (by kernel_rfl) (.cons (by kernel_rfl) (.nil _)) (q0e zbq)
theorem q27 : OS Tryz.prog 27 (.l q8 .nil) := z06 Tryz.underlying27 (by kernel_rfl) ybq
theorem qbs : OS Tryz.prog 290 zp := yz Tryz.underlying290 (by kernel_rfl) (.cons (by kernel_rfl) (.cons (by kernel_rfl) (.cons (by kernel_rfl) (.cons (by kernel_rfl) (.cons (by kernel_rfl) (.cons (by kernel_rfl) (.nil _))))))) (zi q2 (zi q2 (zi q2 (zi q2 (zi q73 (q0e qbk) rfl rfl) rfl rfl) rfl rfl) rfl rfl) rfl rfl)
theorem qbq : OS Tryz.prog 147 (.l zp .nil) := z06 Tryz.underlying147 (by kernel_rfl) qbs
theorem qbt : OS Tryz.prog 303 ym := yz Tryz.underlying303 (by kernel_rfl) (.cons (by kernel_rfl) (.cons (by kernel_rfl) (.cons (by kernel_rfl) (.cons (by kernel_rfl) (.cons (by kernel_rfl) (.nil _)))))) (zi q2 (zi q2 (zi q2 (zi q2 (q0e q2) rfl rfl) rfl rfl) rfl rfl) rfl rfl)
theorem zbr : OS Tryz.prog 148 (.l ym .nil) := z06 Tryz.underlying148 (by kernel_rfl) qbt
theorem ybr : OS Tryz.prog 150 zb := yz Tryz.underlying150 (by kernel_rfl) (.cons (by kernel_rfl) (.cons (by kernel_rfl) (.cons (by kernel_rfl) (.nil _)))) (zi q2 (zi qbq (q0e zbr) rfl rfl) rfl rfl)
theorem q28 : OS Tryz.prog 28 (.l zb .nil) := z06 Tryz.underlying28 (by kernel_rfl) ybr
theorem qbr : OS Tryz.prog 171 zc := yz Tryz.underlying171 (by kernel_rfl) (.cons (by kernel_rfl) (.cons (by kernel_rfl) (.cons (by kernel_rfl) (.cons (by kernel_rfl) (.cons (by kernel_rfl) (.cons (by kernel_rfl) (.cons (by kernel_rfl) (.cons (by kernel_rfl) (.nil _))))))))) (zi q2 (zi q2 (zi q2 (zi q2 (zi q2 (zi q2 (zi q2 (q0e qbe) rfl rfl) rfl rfl) rfl rfl) rfl rfl) rfl rfl) rfl rfl) rfl rfl)
theorem q29 : OS Tryz.prog 29 (.l zc .nil) := z06 Tryz.underlying29 (by kernel_rfl) qbr
theorem q31 : OS Tryz.prog 31 qb := yz Tryz.underlying31 (by kernel_rfl) (.cons (by kernel_rfl) (.cons (by kernel_rfl) (.cons (by kernel_rfl) (.cons (by kernel_rfl) (.cons (by kernel_rfl) (.nil _)))))) (zi q25 (zi q26 (zi q27 (zi q28 (q0e q29) rfl rfl) rfl rfl) rfl rfl) rfl rfl)
set_option maxRecDepth 100000 in
theorem lifted (os : Os) (started : os.Started) (H : Type) (enc : TypeId × Value → H) :
 ReturnsInHanded {} Tryz.checked os 6 .any (Rows.fnExactCopyMessageSpec.pre6 enc Tryz.prog Tryz.f6 Rows.fnExactCopyMessageRow.domain false) (Rows.fnExactCopyMessageSpec.post enc Tryz.prog Tryz.f6 false true false false) := by
 refine returnsInHanded_of_change_sized (C := Tryz.checked) own started (by kernel_rfl) Tryz.func6
  (ChangeSpec.witness6 (enc := enc) (C := Tryz.checked) false ⟨#[], #[.agg #[.slice none 0 0, .slice none 0 0, .slice none 0 0, .slice none 0 0, .slice none 0 0], .int .i64 0], []⟩ 8 (by kernel_rfl) (by kernel_rfl) (by kernel_rfl) (by kernel_rfl)) ?_
 intro W base args ds gs before hval0 hW _ _ _
 have hval : ∀ (j : Nat) t v, Tryz.f6.params[j]? = some t → args[j]? = some v → Value.okWide Tryz.prog W .any base t v := hval0
 have hW' := hW
 obtain ⟨p, q, hA0, hV, rfl, hfz, hnd⟩ := hW
 have hA : DataW.TrodAll enc Tryz.prog W 0 (fun _ => true) true Tryz.f6.params.toList args.toList ds p := hA0
 rw [Tryz.params6] at hA hval
 obtain ⟨v0, vs0, d0, ds0, p0, q0, hargs, rfl, rfl, h0, r0⟩ := trodAll_cons hA
 obtain ⟨v1, vs1, d1, ds1, p1, q1, rfl, rfl, rfl, h1, r1⟩ := trodAll_cons r0
 obtain ⟨rfl, rfl, rfl⟩ := trodAll_nil r1
 obtain rfl : args = #[v0, v1] := by cases args; simp_all
 obtain ⟨rfl, rfl⟩ := trodVars_none hV
 have k0 := h0
 have lt0 : ∀ x ∈ p0, x.block < W.heap.size := by obtain ⟨m, hm⟩ := k0; exact DataW.trod_lt m _ _ _ hm
 obtain ⟨c0, R0, w0⟩ := yag Tryz.underlying31 q31 (hval 0 31 v0 rfl rfl) h0
 obtain ⟨a1, rfl, rfl, rfl, w1⟩ := open_int Tryz.underlying2 (hval 1 2 v1 rfl rfl) h1
 clear hA0 hval0
 refine (PC.law (z8q c0 a1 w0) (z4n.two R0 (.s _ rfl))).mono fun e W' ⟨he, bel⟩ => ?_
 subst he
 exact ⟨_, rfl, _, _, _, [], _, [], hW', trodAll_mk1 (shut_bool Tryz.underlying4 _), (trodAll_cons_mk (Below.trod laidOut (by kernel_rfl) (of_decide_eq_true (by kernel_rfl)) k0 bel lt0) (trodAll_cons_mk (shut_int Tryz.underlying2 w1) trodAll_mk0)), rfl, bel.frame _, fun h => by cases h⟩
theorem ybo : Rows.fnExactCopyMessageRow.holds Tryz.pinned (OpenSpec.ofChange Rows.fnExactCopyMessageSpec) :=
 OpenClaim.holds_of_wide 6 Tryz.f6 rfl rfl rfl rfl rfl rfl rfl ⟨rfl, rfl, rfl, rfl, rfl⟩ rfl rfl rfl rfl rfl (by as_aux_lemma => kernel_rfl) Tryz.func6 closed
  (by as_aux_lemma => exact of_decide_eq_true (by kernel_rfl)) (by as_aux_lemma => unfold Func.isWrapper; first | (rw [if_pos (by decide +kernel)]; kernel_rfl) | (rw [if_neg (by decide +kernel)]; exact ⟨rfl, rfl⟩))
  (fun os started H enc _ => lifted os started H enc)
theorem yaq : Rows.FnExactCopyMessageSaid := ybo
end Go.Proofs.YtbnbjaedijbnpaaGreat.fnExactCopyMessage
namespace Go.Proofs.YtbnbjaedijbnpaaGreat
theorem fnExactCopyMessage_holds : Rows.FnExactCopyMessageSaid := fnExactCopyMessage.yaq
end Go.Proofs.YtbnbjaedijbnpaaGreat
end
