/- WHAT IS PROVED: FnExactDropMessage, for every argument of its parameters' types that can be read as data: the call returns true and its arguments read as before. No condition. -/
import Derived.Test.YtbnbjaedijbnpaaGreatCDm7
import Derived.WalkKit
import Derived.OrdersHeld
import Derived.DeepKeys
import Derived.Maps.RangeWalk
import Derived.Maps.OwnOps
import Derived.WideKeyEntry
import Derived.Orders
import Derived.Deep.Slices
import Derived.ChangeArms
import Derived.WideShapes
import Derived.Sort.AssemblyPlain
import Derived.Test.YtbnbjaedijbnpaaGreatProg
import Derived.Shelf.SortG.Plain
import Derived.Shelf.SortG.SortNone
import Derived.Shelf.SlicesG.CompactI
import Derived.Lib.OwnBridge
import Derived.RangeFuncGives
import Derived.RangeFuncBox
import Derived.RangeFuncLeaves
import Derived.Shelf.Abstract
import Derived.Maps.AppendAt
import Derived.OwnWalkIn
import Derived.TacticsInMore
import Derived.LoopNIn
import Derived.LoopIn
import Derived.Shelf.SlicesG.Delete
import Derived.Test.YtbnbjaedijbnpaaGreatRows
import Derived.ProofKit
import Derived.OpenShut
import Derived.ShutString
import Derived.ChangeOld
import Derived.Below
import Derived.SizedLaws
set_option linter.unusedVariables false
set_option linter.unusedSimpArgs false
section
namespace Go.Proofs.YtbnbjaedijbnpaaGreat
open Go Go.Sx
set_option maxRecDepth 20000
set_option maxHeartbeats 4000000
theorem q50 (l : Ldr) (ho : q8j l) : PC Tryz.prog 150 [.agg l.cs] (.one (.own true [.s (.int .i64 l.n), .l 6 (l.tries.map Tr.cs), .l 5 (l.known.map Hd.cs)])) := by
 obtain ⟨lt, lk, bt⟩ := ho
 refine PC.begin Tryz.func150 rfl (by kernel_rfl) ?_
 have hsc := qax l.known
 refine z8g (n := 0) rfl (ι := Unit) (fun _ => True) (fun _ => ⟨[(2, .one (.a 2 0)), (1, .one (.b (.p l.cs)))], [(2, .var [.b (i64 0), .nil, .nil])]⟩) ?_ ?_
 · intro K hK
   exact q9 rfl (hK _ () trivial ⟨⟨⟨rfl, rfl, rfl⟩, ⟨rfl, rfl, rfl⟩, trivial⟩, ⟨⟨rfl, trivial, trivial, trivial⟩, trivial⟩, rfl⟩)
 intro _ _
 refine z8g (n := 0) rfl (ι := Unit) (fun _ => True) (fun _ => ⟨[(3, .one (.a 3 0)), (2, .one (.a 2 0)), (1, .one (.b (.p l.cs)))], [(3, .var [.b (i64 l.n), .nil, .h 8 (l.known.map Hd.cs).length]), (8, .arr true 5 0 (l.known.map Hd.cs)), (2, .var [.b (i64 0), .nil, .nil])]⟩) ?_ ?_
 · intro K hK
   refine qd rfl [] (Tk [0, 3] (.take 4 [5, 6, 8] (.alt 1 (.alt 2 (.alt 5 (.take 6 [] (.alt 7 (.alt 8 .done .nil) .nil)) (.alt 7 (.alt 5 (.take 6 [] (.alt 8 .done .nil)) .nil) .nil)) (.alt 7 (.alt 2 (.alt 5 (.take 6 [] (.alt 8 .done .nil)) .nil) .nil) .nil)) (.alt 2 (.alt 1 (.alt 5 (.take 6 [] (.alt 7 (.alt 8 .done .nil) .nil)) (.alt 7 (.alt 5 (.take 6 [] (.alt 8 .done .nil)) .nil) .nil)) (.alt 5 (.take 1 [6, 8] (.take 6 [] (.alt 7 (.alt 8 .done .nil) .nil))) (.alt 7 (.alt 1 (.alt 5 (.take 6 [] (.alt 8 .done .nil)) .nil) (.alt 5 (.take 1 [6, 8] (.take 6 [] (.alt 8 .done .nil))) .nil)) .nil))) (.alt 7 (.alt 1 (.alt 2 (.alt 5 (.take 6 [] (.alt 8 .done .nil)) .nil) .nil) (.alt 2 (.alt 1 (.alt 5 (.take 6 [] (.alt 8 .done .nil)) .nil) (.alt 5 (.take 1 [6, 8] (.take 6 [] (.alt 8 .done .nil))) .nil)) .nil)) .nil))))) (by kernel_rfl) ?_
   refine y03 rfl ?_ ?_
   refine y03 rfl ?_ ?_
   refine xs rfl trivial ?_
   refine y03 rfl ?_ ?_
   refine xs rfl rfl (xs rfl (by simp) (xs rfl (fun _ => hsc) (xs rfl (by simp; omega) ?_)))
   refine xs rfl (by simp; omega) ?_; rotate_left
   refine xs rfl rfl (xs rfl (by simp) (xs rfl (fun _ => hsc) (xs rfl (by simp; omega) ?_)))
   refine xs rfl (by simp; omega) ?_; rotate_left
   refine xs rfl trivial (xs rfl rfl (xs rfl (by simp) (xs rfl (fun _ => hsc) (xs rfl (by simp; omega) ?_))))
   refine xs rfl (by simp; omega) ?_; rotate_left
   refine y03 rfl ?_ ?_
   refine xs rfl trivial ?_
   refine y03 rfl ?_ ?_
   refine y03 rfl ?_ ?_
   refine xs rfl rfl (xs rfl (by simp) (xs rfl (fun _ => hsc) (xs rfl (by simp; omega) ?_)))
   refine xs rfl (by simp; omega) ?_; rotate_left
   refine xs rfl rfl (xs rfl (by simp) (xs rfl (fun _ => hsc) (xs rfl (by simp; omega) ?_)))
   refine xs rfl (by simp; omega) ?_; rotate_left
   refine y03 rfl ?_ ?_
   refine xs rfl rfl (xs rfl (by simp) (xs rfl (fun _ => hsc) (xs rfl (by simp; omega) ?_)))
   refine xs rfl (by simp; omega) ?_; rotate_left
   refine y03 rfl ?_ ?_
   refine xs rfl rfl (xs rfl (by simp) (xs rfl (fun _ => hsc) (xs rfl (by simp; omega) ?_)))
   refine xs rfl (by simp; omega) ?_; rotate_left
   refine xs rfl rfl (xs rfl (by simp) (xs rfl (fun _ => hsc) (xs rfl (by simp; omega) ?_)))
   refine xs rfl (by simp; omega) ?_; rotate_left
   refine y03 rfl ?_ ?_
   refine xs rfl trivial (xs rfl rfl (xs rfl (by simp) (xs rfl (fun _ => hsc) (xs rfl (by simp; omega) ?_))))
   refine xs rfl (by simp; omega) ?_; rotate_left
   refine xs rfl trivial ?_
   refine y03 rfl ?_ ?_
   refine xs rfl rfl (xs rfl (by simp) (xs rfl (fun _ => hsc) (xs rfl (by simp; omega) ?_)))
   refine xs rfl (by simp; omega) ?_; rotate_left
   refine xs rfl rfl (xs rfl (by simp) (xs rfl (fun _ => hsc) (xs rfl (by simp; omega) ?_)))
   refine xs rfl (by simp; omega) ?_; rotate_left
   all_goals exact q9 rfl (hK _ () trivial ⟨⟨⟨rfl, rfl, rfl⟩, ⟨rfl, rfl, rfl⟩, rfl, trivial⟩, ⟨⟨rfl, trivial, ⟨rfl, by simp, rfl⟩, trivial⟩, ⟨rfl, .inl rfl, .inl rfl⟩, ⟨rfl, trivial, trivial, trivial⟩, trivial⟩, rfl⟩)
 intro _ _
 refine qc rfl (ι := Nat) (fun i => i ≤ l.tries.length) (fun i => ⟨[(4, sV (.int .i64 i)), (3, .one (.a 3 0)), (2, .one (.a 2 0)), (1, .one (.b (.p l.cs)))], [(3, .var [.b (i64 l.n), .h 39 ((l.tries.take i).map Tr.cs).length, .h 8 (l.known.map Hd.cs).length]), (39, .arr true 6 0 ((l.tries.take i).map Tr.cs)), (8, .arr true 5 0 (l.known.map Hd.cs)), (2, .var [.b (i64 0), .nil, .nil])]⟩) (fun i => l.tries.length - i) 0 (Nat.zero_le _) ?_ ?_
 · exact ⟨⟨rfl, ⟨rfl, rfl, rfl⟩, ⟨rfl, rfl, rfl⟩, rfl, trivial⟩, ⟨⟨rfl, ⟨rfl, rfl, rfl⟩, ⟨rfl, rfl, rfl⟩, trivial⟩, rfl, ⟨rfl, .inl rfl, .inl rfl⟩, ⟨rfl, trivial, trivial, trivial⟩, trivial⟩, rfl⟩
 · intro i hi J hJ
   refine xb rfl ?_ ?_ <;> intro h
   · have h : i < l.tries.length := by simpa using h
     obtain ⟨x, hx⟩ := gx h
     have hg := gm Tr.cs hx
     obtain ⟨b1, b2⟩ := bt x (List.mem_of_getElem? hx)
     have h1 := z5w x.fr
     have h2 := qa8 x.olds
     have hst := tk Tr.cs hx
     refine xs rfl (nn_ _) (y9 rfl _ hg (xs rfl rfl (xs rfl trivial (xs rfl rfl (xs rfl (by simp) (xs rfl (fun _ => h1) (xs rfl (by simp; omega) (xs rfl (by simp; omega) (xs rfl trivial ?_)))))))))
     refine xs rfl rfl (xs rfl (by simp) (xs rfl (fun _ => h2) (xs rfl (by simp; omega) (xs rfl (by simp; omega) (xs rfl (⟨trivial, trivial, trivial, trivial, ⟨rfl, List.length_append.symm⟩, ⟨rfl, List.length_append.symm⟩, trivial⟩) (xs rfl rfl (xs rfl rfl (xs rfl (.inl rfl) (xs rfl (by simp; omega) ?_)))))))))
     refine xs rfl (by simp; omega) ?_
     all_goals exact q9 rfl (hJ _ (i + 1) (by omega) (by omega) ⟨⟨cwi (by omega) (by omega) (by omega), ⟨rfl, rfl, rfl⟩, ⟨rfl, rfl, rfl⟩, rfl, trivial⟩, ⟨⟨rfl, ⟨rfl, by rw [hst]; exact List.length_append.symm, rfl⟩, ⟨rfl, rfl, rfl⟩, trivial⟩, ⟨hst.symm, .inl rfl, .inl rfl⟩, ⟨rfl, .inl rfl, .inl rfl⟩, ⟨rfl, trivial, trivial, trivial⟩, trivial⟩, rfl⟩)
   · have h : i = l.tries.length := by have : ¬ i < l.tries.length := (by simpa using h); omega
     subst h
     rw [List.take_length]
     refine xr rfl (qm rfl ⟨⟨rfl, rfl, ⟨rfl, rfl, .inl rfl⟩, ⟨rfl, rfl, .inl rfl⟩, trivial⟩, z6 rfl⟩)
theorem q6s (c : Clu) (ho : y00 c) : PC Tryz.prog 74 [.agg c.cs] (.one (.own true [.l 2 (c.cons.map Con.cs), .l 6 (c.shs.map Shd.cs), .l 1 (c.accs.map Acc.cs), .l 3 (c.ldrs.map Ldr.cs), .l 9 (c.msgs.map Msg.cs)])) := by
 refine PC.begin Tryz.func74 rfl (by kernel_rfl) ?_
 obtain ⟨⟨lc, bc⟩, ⟨ls, bs⟩, ⟨la, ba⟩, ⟨ll, bl⟩, lm⟩ := ho
 have h1 := y8t c.accs la ba
 have hsc := y86 c.msgs
 refine z8g (n := 0) rfl (ι := Unit) (fun _ => True) (fun _ => ⟨[(2, .one (.a 2 0)), (1, .one (.b (.p c.cs)))], [(2, .var [.nil, .nil, .nil, .nil, .nil])]⟩) ?_ ?_
 · intro K hK
   exact q9 rfl (hK _ () trivial ⟨⟨⟨rfl, rfl, rfl⟩, ⟨rfl, rfl, rfl⟩, trivial⟩, ⟨tv6, trivial⟩, rfl⟩)
 intro _ _
 refine z8g (n := 0) rfl (ι := Unit) (fun _ => True) (fun _ => ⟨[(3, .one (.a 3 0)), (2, .one (.a 2 0)), (1, .one (.b (.p c.cs)))], [(3, .var [.nil, .nil, .h 1000000 (c.accs.map Acc.cs).length, .nil, .h 10 (c.msgs.map Msg.cs).length]), (1000000, .arr true 1 0 (c.accs.map Acc.cs)), (10, .arr true 9 0 (c.msgs.map Msg.cs)), (2, .var [.nil, .nil, .nil, .nil, .nil])]⟩) ?_ ?_
 · intro K hK
   refine qd rfl [] (.take 0 [] (.take 1 [2, 6, 7, 9] (.take 4 [] (.take 5 [6, 7, 9] (.alt 2 (.alt 3 (.alt 6 (.take 7 [] (.alt 8 (.alt 9 .done .nil) .nil)) (.alt 8 (.alt 6 (.take 7 [] (.alt 9 .done .nil)) .nil) .nil)) (.alt 8 (.alt 3 (.alt 6 (.take 7 [] (.alt 9 .done .nil)) .nil) .nil) .nil)) (.alt 3 (.alt 2 (.alt 6 (.take 7 [] (.alt 8 (.alt 9 .done .nil) .nil)) (.alt 8 (.alt 6 (.take 7 [] (.alt 9 .done .nil)) .nil) .nil)) (.alt 8 (.alt 2 (.alt 6 (.take 7 [] (.alt 9 .done .nil)) .nil) .nil) .nil)) (.alt 8 (.alt 2 (.alt 3 (.alt 6 (.take 7 [] (.alt 9 .done .nil)) .nil) .nil) (.alt 3 (.alt 2 (.alt 6 (.take 7 [] (.alt 9 .done .nil)) .nil) .nil) .nil)) .nil))))))) (by kernel_rfl) ?_
   refine y03 rfl ?_ ?_
   refine z7 rfl (h1) rfl ⟨trivial, trivial⟩ ?_
   refine y03 rfl ?_ ?_
   refine xs rfl trivial ?_
   refine y03 rfl ?_ ?_
   refine xs rfl rfl (xs rfl (by simp) (xs rfl (fun _ => hsc) (xs rfl (by simp; omega) ?_)))
   refine xs rfl (by simp; omega) ?_; rotate_left
   refine xs rfl rfl (xs rfl (by simp) (xs rfl (fun _ => hsc) (xs rfl (by simp; omega) ?_)))
   refine xs rfl (by simp; omega) ?_; rotate_left
   refine xs rfl trivial (xs rfl rfl (xs rfl (by simp) (xs rfl (fun _ => hsc) (xs rfl (by simp; omega) ?_))))
   refine xs rfl (by simp; omega) ?_; rotate_left
   refine y03 rfl ?_ ?_
   refine xs rfl trivial ?_
   refine y03 rfl ?_ ?_
   refine z7 rfl (h1) rfl ⟨trivial, trivial⟩ ?_
   refine y03 rfl ?_ ?_
   refine xs rfl rfl (xs rfl (by simp) (xs rfl (fun _ => hsc) (xs rfl (by simp; omega) ?_)))
   refine xs rfl (by simp; omega) ?_; rotate_left
   refine xs rfl rfl (xs rfl (by simp) (xs rfl (fun _ => hsc) (xs rfl (by simp; omega) ?_)))
   refine xs rfl (by simp; omega) ?_; rotate_left
   refine z7 rfl (h1) rfl ⟨trivial, trivial⟩ (xs rfl rfl (xs rfl (by simp) (xs rfl (fun _ => hsc) (xs rfl (by simp; omega) ?_))))
   refine xs rfl (by simp; omega) ?_; rotate_left
   refine y03 rfl ?_ ?_
   refine z7 rfl (h1) rfl ⟨trivial, trivial⟩ (xs rfl trivial (xs rfl rfl (xs rfl (by simp) (xs rfl (fun _ => hsc) (xs rfl (by simp; omega) ?_)))))
   refine xs rfl (by simp; omega) ?_; rotate_left
   refine xs rfl trivial (z7 rfl (h1) rfl ⟨trivial, trivial⟩ (xs rfl rfl (xs rfl (by simp) (xs rfl (fun _ => hsc) (xs rfl (by simp; omega) ?_)))))
   refine xs rfl (by simp; omega) ?_; rotate_left
   all_goals exact q9 rfl (hK _ () trivial ⟨⟨⟨rfl, rfl, rfl⟩, ⟨rfl, rfl, rfl⟩, rfl, trivial⟩, ⟨⟨trivial, trivial, ⟨rfl, rfl, rfl⟩, trivial, ⟨rfl, by simp, rfl⟩, trivial⟩, ⟨rfl, .inl rfl, .inl rfl⟩, ⟨rfl, .inl rfl, .inl rfl⟩, tv6, trivial⟩, rfl⟩)
 intro _ _
 refine qc rfl (ι := Nat) (fun i => i ≤ c.cons.length) (fun i => ⟨[(4, sV (.int .i64 i)), (3, .one (.a 3 0)), (2, .one (.a 2 0)), (1, .one (.b (.p c.cs)))], [(3, .var [.h 31 ((c.cons.take i).map Con.cs).length, .nil, .h 1000000 (c.accs.map Acc.cs).length, .nil, .h 10 (c.msgs.map Msg.cs).length]), (31, .arr true 2 0 ((c.cons.take i).map Con.cs)), (1000000, .arr true 1 0 (c.accs.map Acc.cs)), (10, .arr true 9 0 (c.msgs.map Msg.cs)), (2, .var [.nil, .nil, .nil, .nil, .nil])]⟩) (fun i => c.cons.length - i) 0 (Nat.zero_le _) ?_ ?_
 · exact ⟨⟨rfl, ⟨rfl, rfl, rfl⟩, ⟨rfl, rfl, rfl⟩, rfl, trivial⟩, ⟨⟨⟨rfl, rfl, rfl⟩, trivial, ⟨rfl, rfl, rfl⟩, trivial, ⟨rfl, rfl, rfl⟩, trivial⟩, rfl, ⟨rfl, .inl rfl, .inl rfl⟩, ⟨rfl, .inl rfl, .inl rfl⟩, tv6, trivial⟩, rfl⟩
 · intro i hi J hJ
   refine xb rfl ?_ ?_ <;> intro h
   · have h : i < c.cons.length := by simpa using h
     obtain ⟨x, hx⟩ := gx h
     have hg := gm Con.cs hx
     have hc := y1q x (bc x (List.mem_of_getElem? hx))
     have hst := tk Con.cs hx
     refine qd rfl [] (.take 0 [] (.take 1 (Rg 9 3) (.take 2 [] (.take 3 (Rg 5 7) (Tk [4, 5] (.take 6 (Rg 7 5) (.alt 7 (.alt 8 (.alt 9 (.take 10 [] (.alt 11 .done .nil)) .nil) .nil) .nil))))))) (by kernel_rfl) (xs rfl (nn_ _) (y9 rfl _ hg (xs rfl rfl (z7 rfl (hc) rfl ⟨tv3, trivial⟩ (xs rfl ⟨trivial, ⟨rfl, rfl⟩, trivial⟩ (xs rfl rfl (xs rfl rfl (xs rfl (.inl rfl) (xs rfl (by simp; omega) ?_)))))))))
     refine xs rfl (by simp; omega) ?_
     all_goals exact q9 rfl (hJ _ (i + 1) (by omega) (by omega) ⟨⟨cwi (by omega) (by omega) (by omega), ⟨rfl, rfl, rfl⟩, ⟨rfl, rfl, rfl⟩, rfl, trivial⟩, ⟨⟨⟨rfl, by rw [hst]; exact List.length_append.symm, rfl⟩, trivial, ⟨rfl, rfl, rfl⟩, trivial, ⟨rfl, rfl, rfl⟩, trivial⟩, ⟨hst.symm, .inl rfl, .inl rfl⟩, ⟨rfl, .inl rfl, .inl rfl⟩, ⟨rfl, .inl rfl, .inl rfl⟩, tv6, trivial⟩, rfl⟩)
   · have h : i = c.cons.length := by have : ¬ i < c.cons.length := (by simpa using h); omega
     subst h
     rw [List.take_length]
     refine qc rfl (ι := Nat) (fun i => i ≤ c.shs.length) (fun i => ⟨[(5, sV (.int .i64 i)), (3, .one (.a 3 0)), (2, .one (.a 2 0)), (1, .one (.b (.p c.cs)))], [(3, .var [.h 31 (c.cons.map Con.cs).length, .h 49 ((c.shs.take i).map Shd.cs).length, .h 1000000 (c.accs.map Acc.cs).length, .nil, .h 10 (c.msgs.map Msg.cs).length]), (49, .arr true 6 0 ((c.shs.take i).map Shd.cs)), (31, .arr true 2 0 (c.cons.map Con.cs)), (1000000, .arr true 1 0 (c.accs.map Acc.cs)), (10, .arr true 9 0 (c.msgs.map Msg.cs)), (2, .var [.nil, .nil, .nil, .nil, .nil])]⟩) (fun i => c.shs.length - i) 0 (Nat.zero_le _) ?_ ?_
     · exact ⟨⟨rfl, ⟨rfl, rfl, rfl⟩, ⟨rfl, rfl, rfl⟩, rfl, trivial⟩, ⟨⟨⟨rfl, rfl, rfl⟩, ⟨rfl, rfl, rfl⟩, ⟨rfl, rfl, rfl⟩, trivial, ⟨rfl, rfl, rfl⟩, trivial⟩, rfl, ⟨rfl, .inl rfl, .inl rfl⟩, ⟨rfl, .inl rfl, .inl rfl⟩, ⟨rfl, .inl rfl, .inl rfl⟩, tv6, trivial⟩, rfl⟩
     · intro i hi J hJ
       refine xb rfl ?_ ?_ <;> intro h
       · have h : i < c.shs.length := by simpa using h
         obtain ⟨x, hx⟩ := gx h
         have hg := gm Shd.cs hx
         have hc := y6s x (bs x (List.mem_of_getElem? hx))
         have hst := tk Shd.cs hx
         refine qd rfl [] (.take 0 [] (.take 1 (Rg 9 3) (.take 2 [] (.take 3 (Rg 5 7) (Tk [4, 5] (.take 6 (Rg 7 5) (.alt 7 (.alt 8 (.alt 9 (.take 10 [] (.alt 11 .done .nil)) .nil) .nil) .nil))))))) (by kernel_rfl) (xs rfl (nn_ _) (y9 rfl _ hg (xs rfl rfl (z7 rfl (hc) rfl ⟨tv7, trivial⟩ (xs rfl ⟨trivial, ⟨rfl, rfl⟩, ⟨rfl, rfl⟩, ⟨rfl, rfl⟩, ⟨rfl, rfl⟩, ⟨rfl, rfl⟩, trivial⟩ (xs rfl rfl (xs rfl rfl (xs rfl (.inl rfl) (xs rfl (by simp; omega) ?_)))))))))
         refine xs rfl (by simp; omega) ?_
         all_goals exact q9 rfl (hJ _ (i + 1) (by omega) (by omega) ⟨⟨cwi (by omega) (by omega) (by omega), ⟨rfl, rfl, rfl⟩, ⟨rfl, rfl, rfl⟩, rfl, trivial⟩, ⟨⟨⟨rfl, rfl, rfl⟩, ⟨rfl, by rw [hst]; exact List.length_append.symm, rfl⟩, ⟨rfl, rfl, rfl⟩, trivial, ⟨rfl, rfl, rfl⟩, trivial⟩, ⟨hst.symm, .inl rfl, .inl rfl⟩, ⟨rfl, .inl rfl, .inl rfl⟩, ⟨rfl, .inl rfl, .inl rfl⟩, ⟨rfl, .inl rfl, .inl rfl⟩, tv6, trivial⟩, rfl⟩)
       · have h : i = c.shs.length := by have : ¬ i < c.shs.length := (by simpa using h); omega
         subst h
         rw [List.take_length]
         refine qc rfl (ι := Nat) (fun i => i ≤ c.ldrs.length) (fun i => ⟨[(6, sV (.int .i64 i)), (3, .one (.a 3 0)), (2, .one (.a 2 0)), (1, .one (.b (.p c.cs)))], [(3, .var [.h 31 (c.cons.map Con.cs).length, .h 49 (c.shs.map Shd.cs).length, .h 1000000 (c.accs.map Acc.cs).length, .h 67 ((c.ldrs.take i).map Ldr.cs).length, .h 10 (c.msgs.map Msg.cs).length]), (67, .arr true 3 0 ((c.ldrs.take i).map Ldr.cs)), (31, .arr true 2 0 (c.cons.map Con.cs)), (49, .arr true 6 0 (c.shs.map Shd.cs)), (1000000, .arr true 1 0 (c.accs.map Acc.cs)), (10, .arr true 9 0 (c.msgs.map Msg.cs)), (2, .var [.nil, .nil, .nil, .nil, .nil])]⟩) (fun i => c.ldrs.length - i) 0 (Nat.zero_le _) ?_ ?_
         · exact ⟨⟨rfl, ⟨rfl, rfl, rfl⟩, ⟨rfl, rfl, rfl⟩, rfl, trivial⟩, ⟨⟨⟨rfl, rfl, rfl⟩, ⟨rfl, rfl, rfl⟩, ⟨rfl, rfl, rfl⟩, ⟨rfl, rfl, rfl⟩, ⟨rfl, rfl, rfl⟩, trivial⟩, rfl, ⟨rfl, .inl rfl, .inl rfl⟩, ⟨rfl, .inl rfl, .inl rfl⟩, ⟨rfl, .inl rfl, .inl rfl⟩, ⟨rfl, .inl rfl, .inl rfl⟩, tv6, trivial⟩, rfl⟩
         · intro i hi J hJ
           refine xb rfl ?_ ?_ <;> intro h
           · have h : i < c.ldrs.length := by simpa using h
             obtain ⟨x, hx⟩ := gx h
             have hg := gm Ldr.cs hx
             have hc := q50 x (bl x (List.mem_of_getElem? hx))
             have hst := tk Ldr.cs hx
             refine qd rfl [] (.take 0 [] (.take 1 (Rg 9 3) (.take 2 [] (.take 3 (Rg 5 7) (Tk [4, 5] (.take 6 (Rg 7 5) (.alt 7 (.alt 8 (.alt 9 (.take 10 [] (.alt 11 .done .nil)) .nil) .nil) .nil))))))) (by kernel_rfl) (xs rfl (nn_ _) (y9 rfl _ hg (xs rfl rfl (z7 rfl (hc) rfl ⟨tv4, trivial⟩ (xs rfl ⟨trivial, ⟨rfl, rfl⟩, ⟨rfl, rfl⟩, trivial⟩ (xs rfl rfl (xs rfl rfl (xs rfl (.inl rfl) (xs rfl (by simp; omega) ?_)))))))))
             refine xs rfl (by simp; omega) ?_
             all_goals exact q9 rfl (hJ _ (i + 1) (by omega) (by omega) ⟨⟨cwi (by omega) (by omega) (by omega), ⟨rfl, rfl, rfl⟩, ⟨rfl, rfl, rfl⟩, rfl, trivial⟩, ⟨⟨⟨rfl, rfl, rfl⟩, ⟨rfl, rfl, rfl⟩, ⟨rfl, rfl, rfl⟩, ⟨rfl, by rw [hst]; exact List.length_append.symm, rfl⟩, ⟨rfl, rfl, rfl⟩, trivial⟩, ⟨hst.symm, .inl rfl, .inl rfl⟩, ⟨rfl, .inl rfl, .inl rfl⟩, ⟨rfl, .inl rfl, .inl rfl⟩, ⟨rfl, .inl rfl, .inl rfl⟩, ⟨rfl, .inl rfl, .inl rfl⟩, tv6, trivial⟩, rfl⟩)
           · have h : i = c.ldrs.length := by have : ¬ i < c.ldrs.length := (by simpa using h); omega
             subst h
             rw [List.take_length]
             refine xr rfl (qm rfl ⟨⟨rfl, ⟨rfl, rfl, .inl rfl⟩, ⟨rfl, rfl, .inl rfl⟩, ⟨rfl, rfl, .inl rfl⟩, ⟨rfl, rfl, .inl rfl⟩, ⟨rfl, rfl, .inl rfl⟩, trivial⟩, z6 rfl⟩)
theorem z3l (c : Clu) (ho : y00 c) : PC Tryz.prog 237 [.agg c.cs] (.one (.own true [.l 2 (c.cons.map Con.cs), .l 6 (c.shs.map Shd.cs), .l 1 (c.accs.map Acc.cs), .l 3 (c.ldrs.map Ldr.cs), .l 9 (c.msgs.map Msg.cs)])) := by
 refine PC.begin Tryz.func237 rfl (by kernel_rfl) ?_
 obtain ⟨⟨lc, bc⟩, ⟨ls, bs⟩, ⟨la, ba⟩, ⟨ll, bl⟩, lm⟩ := ho
 have h1 := z17 c.cons lc bc
 have h2 := q2p c.accs la ba
 have h3 := z2y c.msgs lm
 refine z8g (n := 0) rfl (ι := Unit) (fun _ => True) (fun _ => ⟨[(2, .one (.a 2 0)), (1, .one (.b (.p c.cs)))], [(2, .var [.nil, .nil, .nil, .nil, .nil])]⟩) ?_ ?_
 · intro K hK
   exact q9 rfl (hK _ () trivial ⟨⟨⟨rfl, rfl, rfl⟩, ⟨rfl, rfl, rfl⟩, trivial⟩, ⟨tv6, trivial⟩, rfl⟩)
 intro _ _
 refine z8g (n := 0) rfl (ι := Unit) (fun _ => True) (fun _ => ⟨[(3, .one (.a 3 0)), (2, .one (.a 2 0)), (1, .one (.b (.p c.cs)))], [(3, .var [.h 1400000 (c.cons.map Con.cs).length, .nil, .h 1700000 (c.accs.map Acc.cs).length, .nil, .h 2000000 (c.msgs.map Msg.cs).length]), (1400000, .arr true 2 0 (c.cons.map Con.cs)), (1700000, .arr true 1 0 (c.accs.map Acc.cs)), (2000000, .arr true 9 0 (c.msgs.map Msg.cs)), (2, .var [.nil, .nil, .nil, .nil, .nil])]⟩) ?_ ?_
 · intro K hK
   refine qd rfl [] (.take 0 [] (.take 1 [2, 5, 8, 9, 11] (.take 3 [] (.take 4 [5, 8, 9, 11] (.take 6 [] (.take 7 [8, 9, 11] (.alt 2 (.alt 5 (.alt 8 (.take 9 [] (.alt 10 (.alt 11 .done .nil) .nil)) (.alt 10 (.alt 8 (.take 9 [] (.alt 11 .done .nil)) .nil) .nil)) (.alt 10 (.alt 5 (.alt 8 (.take 9 [] (.alt 11 .done .nil)) .nil) .nil) .nil)) (.alt 10 (.alt 2 (.alt 5 (.alt 8 (.take 9 [] (.alt 11 .done .nil)) .nil) .nil) .nil) .nil)))))))) (by kernel_rfl) ?_
   refine y03 rfl ?_ ?_
   refine z7 rfl (h1) rfl ⟨trivial, trivial⟩ ?_
   refine y03 rfl ?_ ?_
   refine z7 rfl (h2) rfl ⟨trivial, trivial⟩ ?_
   refine y03 rfl ?_ ?_
   refine z7 rfl (h3) rfl ⟨trivial, trivial⟩ ?_; rotate_left
   refine z7 rfl (h3) rfl ⟨trivial, trivial⟩ ?_; rotate_left
   refine z7 rfl (h2) rfl ⟨trivial, trivial⟩ ?_
   refine z7 rfl (h3) rfl ⟨trivial, trivial⟩ ?_; rotate_left
   refine z7 rfl (h1) rfl ⟨trivial, trivial⟩ (z7 rfl (h2) rfl ⟨trivial, trivial⟩ ?_)
   refine z7 rfl (h3) rfl ⟨trivial, trivial⟩ ?_; rotate_left
   all_goals exact q9 rfl (hK _ () trivial ⟨⟨⟨rfl, rfl, rfl⟩, ⟨rfl, rfl, rfl⟩, rfl, trivial⟩, ⟨⟨⟨rfl, rfl, rfl⟩, trivial, ⟨rfl, rfl, rfl⟩, trivial, ⟨rfl, rfl, rfl⟩, trivial⟩, ⟨rfl, .inl rfl, .inl rfl⟩, ⟨rfl, .inl rfl, .inl rfl⟩, ⟨rfl, .inl rfl, .inl rfl⟩, tv6, trivial⟩, rfl⟩)
 intro _ _
 refine qc rfl (ι := Nat) (fun i => i ≤ c.shs.length) (fun i => ⟨[(24, sV (.int .i64 i)), (23, sV (.int .i64 (c.shs.map Shd.cs).length)), (22, .one (.b (.l (c.shs.map Shd.cs)))), (3, .one (.a 3 0)), (2, .one (.a 2 0)), (1, .one (.b (.p c.cs)))], [(3, .var [.h 1400000 (c.cons.map Con.cs).length, .h 33 ((c.shs.take i).map Shd.cs).length, .h 1700000 (c.accs.map Acc.cs).length, .nil, .h 2000000 (c.msgs.map Msg.cs).length]), (33, .arr true 6 0 ((c.shs.take i).map Shd.cs)), (1400000, .arr true 2 0 (c.cons.map Con.cs)), (1700000, .arr true 1 0 (c.accs.map Acc.cs)), (2000000, .arr true 9 0 (c.msgs.map Msg.cs)), (2, .var [.nil, .nil, .nil, .nil, .nil])]⟩) (fun i => c.shs.length - i) 0 (Nat.zero_le _) ?_ ?_
 · exact ⟨⟨rfl, rfl, rfl, ⟨rfl, rfl, rfl⟩, ⟨rfl, rfl, rfl⟩, rfl, trivial⟩, ⟨⟨⟨rfl, rfl, rfl⟩, ⟨rfl, rfl, rfl⟩, ⟨rfl, rfl, rfl⟩, trivial, ⟨rfl, rfl, rfl⟩, trivial⟩, rfl, ⟨rfl, .inl rfl, .inl rfl⟩, ⟨rfl, .inl rfl, .inl rfl⟩, ⟨rfl, .inl rfl, .inl rfl⟩, tv6, trivial⟩, rfl⟩
 · intro i hi J hJ
   refine xb rfl ?_ ?_ <;> intro h
   · have h : i < c.shs.length := by simpa using h
     obtain ⟨x, hx⟩ := gx h
     have hg := gm Shd.cs hx
     have hc := z4u x (bs x (List.mem_of_getElem? hx))
     have hst := tk Shd.cs hx
     refine xs rfl (by simp) (y9 rfl _ hg (xs rfl rfl (qd rfl [] (.take 0 [] (.take 1 (Rg 5 3) (.take 2 (Rg 3 5) (.alt 3 (.alt 4 (.alt 5 (.take 6 [] (.alt 7 .done .nil)) .nil) .nil) .nil)))) (by kernel_rfl) (z7 rfl (hc) rfl ⟨tv7, trivial⟩ (xs rfl ⟨trivial, ⟨rfl, rfl⟩, ⟨rfl, rfl⟩, ⟨rfl, rfl⟩, ⟨rfl, rfl⟩, ⟨rfl, rfl⟩, trivial⟩ (xs rfl rfl (xs rfl rfl (xs rfl (.inl rfl) (xs rfl (by simp; omega) ?_)))))))))
     refine xs rfl (by simp; omega) ?_
     all_goals exact q9 rfl (hJ _ (i + 1) (by omega) (by omega) ⟨⟨cwi (by omega) (by omega) (by omega), rfl, rfl, ⟨rfl, rfl, rfl⟩, ⟨rfl, rfl, rfl⟩, rfl, trivial⟩, ⟨⟨⟨rfl, rfl, rfl⟩, ⟨rfl, by rw [hst]; exact List.length_append.symm, rfl⟩, ⟨rfl, rfl, rfl⟩, trivial, ⟨rfl, rfl, rfl⟩, trivial⟩, ⟨hst.symm, .inl rfl, .inl rfl⟩, ⟨rfl, .inl rfl, .inl rfl⟩, ⟨rfl, .inl rfl, .inl rfl⟩, ⟨rfl, .inl rfl, .inl rfl⟩, tv6, trivial⟩, rfl⟩)
   · have h : i = c.shs.length := by have : ¬ i < c.shs.length := (by simpa using h); omega
     subst h
     rw [List.take_length]
     refine qc rfl (ι := Nat) (fun i => i ≤ c.ldrs.length) (fun i => ⟨[(39, sV (.int .i64 i)), (38, sV (.int .i64 (c.ldrs.map Ldr.cs).length)), (37, .one (.b (.l (c.ldrs.map Ldr.cs)))), (3, .one (.a 3 0)), (2, .one (.a 2 0)), (1, .one (.b (.p c.cs)))], [(3, .var [.h 1400000 (c.cons.map Con.cs).length, .h 33 (c.shs.map Shd.cs).length, .h 1700000 (c.accs.map Acc.cs).length, .h 74 ((c.ldrs.take i).map Ldr.cs).length, .h 2000000 (c.msgs.map Msg.cs).length]), (33, .arr true 6 0 (c.shs.map Shd.cs)), (74, .arr true 3 0 ((c.ldrs.take i).map Ldr.cs)), (1400000, .arr true 2 0 (c.cons.map Con.cs)), (1700000, .arr true 1 0 (c.accs.map Acc.cs)), (2000000, .arr true 9 0 (c.msgs.map Msg.cs)), (2, .var [.nil, .nil, .nil, .nil, .nil])]⟩) (fun i => c.ldrs.length - i) 0 (Nat.zero_le _) ?_ ?_
     · exact ⟨⟨rfl, rfl, rfl, ⟨rfl, rfl, rfl⟩, ⟨rfl, rfl, rfl⟩, rfl, trivial⟩, ⟨⟨⟨rfl, rfl, rfl⟩, ⟨rfl, rfl, rfl⟩, ⟨rfl, rfl, rfl⟩, ⟨rfl, rfl, rfl⟩, ⟨rfl, rfl, rfl⟩, trivial⟩, ⟨rfl, .inl rfl, .inl rfl⟩, rfl, ⟨rfl, .inl rfl, .inl rfl⟩, ⟨rfl, .inl rfl, .inl rfl⟩, ⟨rfl, .inl rfl, .inl rfl⟩, tv6, trivial⟩, rfl⟩
     · intro i hi J hJ
       refine xb rfl ?_ ?_ <;> intro h
       · have h : i < c.ldrs.length := by simpa using h
         obtain ⟨x, hx⟩ := gx h
         have hg := gm Ldr.cs hx
         obtain ⟨lt, lk, bt⟩ := bl x (List.mem_of_getElem? hx)
         have hst := tk Ldr.cs hx
         have hk := q45 x.known lk
         refine xs rfl (nn_ _) (y9 rfl _ hg (xs rfl rfl (xs rfl trivial ?_)))
         refine qc rfl (ι := Nat) (fun k => k ≤ x.tries.length) (fun k => ⟨[(47, sV (.int .i64 k)), (46, sV (.int .i64 (x.tries.map Tr.cs).length)), (45, .one (.b (.l (x.tries.map Tr.cs)))), (8, .one (.h 43 ((x.tries.take k).map Tr.cs).length)), (7, .one (.a 7 0)), (39, sV (.int .i64 i)), (38, sV (.int .i64 (c.ldrs.map Ldr.cs).length)), (37, .one (.b (.l (c.ldrs.map Ldr.cs)))), (3, .one (.a 3 0)), (2, .one (.a 2 0)), (1, .one (.b (.p c.cs)))], [(43, .arr true 6 0 ((x.tries.take k).map Tr.cs)), (7, .var [.b (i64 x.n), .b (.l (x.tries.map Tr.cs)), .b (.l (x.known.map Hd.cs))]), (3, .var [.h 1400000 (c.cons.map Con.cs).length, .h 33 (c.shs.map Shd.cs).length, .h 1700000 (c.accs.map Acc.cs).length, .h 74 ((c.ldrs.take i).map Ldr.cs).length, .h 2000000 (c.msgs.map Msg.cs).length]), (33, .arr true 6 0 (c.shs.map Shd.cs)), (74, .arr true 3 0 ((c.ldrs.take i).map Ldr.cs)), (1400000, .arr true 2 0 (c.cons.map Con.cs)), (1700000, .arr true 1 0 (c.accs.map Acc.cs)), (2000000, .arr true 9 0 (c.msgs.map Msg.cs)), (2, .var [.nil, .nil, .nil, .nil, .nil])]⟩) (fun k => x.tries.length - k) 0 (Nat.zero_le _) ?_ ?_
         · exact ⟨⟨rfl, rfl, rfl, ⟨rfl, rfl, rfl⟩, ⟨rfl, rfl, rfl⟩, rfl, rfl, rfl, ⟨rfl, rfl, rfl⟩, ⟨rfl, rfl, rfl⟩, rfl, trivial⟩, ⟨⟨rfl, .inl rfl, .inl rfl⟩, ⟨rfl, rfl, rfl, trivial⟩, ⟨⟨rfl, rfl, rfl⟩, ⟨rfl, rfl, rfl⟩, ⟨rfl, rfl, rfl⟩, ⟨rfl, rfl, rfl⟩, ⟨rfl, rfl, rfl⟩, trivial⟩, ⟨rfl, .inl rfl, .inl rfl⟩, ⟨rfl, .inl rfl, .inl rfl⟩, ⟨rfl, .inl rfl, .inl rfl⟩, ⟨rfl, .inl rfl, .inl rfl⟩, ⟨rfl, .inl rfl, .inl rfl⟩, tv6, trivial⟩, rfl⟩
         · intro k hk' J' hJ'
           refine xb rfl (fun h' => ?_) (fun h' => ?_)
           · have h' : k < x.tries.length := by simpa using h'
             obtain ⟨t, ht⟩ := gx h'
             have hgt := gm Tr.cs ht
             obtain ⟨b1, b2⟩ := bt t (List.mem_of_getElem? ht)
             have hf := q2x t.fr b1
             have hv := y2i t.olds b2
             have hst' := tk Tr.cs ht
             refine xs rfl (by simp) (y9 rfl _ hgt (xs rfl rfl (qd rfl [] (.take 0 [] (.take 1 (Rg 2 1 ++ Rg 5 5) (.take 3 [] (.take 4 (Rg 5 5) (.alt 2 (.take 6 [] (.alt 5 (.alt 7 (.take 8 [] (.alt 9 .done .nil)) .nil) .nil)) .nil))))) (by kernel_rfl) (z7 rfl (hf) rfl ⟨trivial, trivial⟩ (z7 rfl (hv) rfl ⟨trivial, trivial⟩ (xs rfl ⟨trivial, trivial, trivial, trivial, ⟨rfl, rfl⟩, ⟨rfl, rfl⟩, trivial⟩ (xs rfl rfl (xs rfl rfl (xs rfl (.inl rfl) ?_)))))))))
             refine xs rfl (by simp; omega) (xs rfl (by simp; omega) ?_)
             all_goals exact q9 rfl (hJ' _ (k + 1) (by omega) (by omega) ⟨⟨cwi (by omega) (by omega) (by omega), rfl, rfl, ⟨rfl, by rw [hst']; exact List.length_append.symm, rfl⟩, ⟨rfl, rfl, rfl⟩, rfl, rfl, rfl, ⟨rfl, rfl, rfl⟩, ⟨rfl, rfl, rfl⟩, rfl, trivial⟩, ⟨⟨hst'.symm, .inl rfl, .inl rfl⟩, ⟨rfl, rfl, rfl, trivial⟩, ⟨⟨rfl, rfl, rfl⟩, ⟨rfl, rfl, rfl⟩, ⟨rfl, rfl, rfl⟩, ⟨rfl, rfl, rfl⟩, ⟨rfl, rfl, rfl⟩, trivial⟩, ⟨rfl, .inl rfl, .inl rfl⟩, ⟨rfl, .inl rfl, .inl rfl⟩, ⟨rfl, .inl rfl, .inl rfl⟩, ⟨rfl, .inl rfl, .inl rfl⟩, ⟨rfl, .inl rfl, .inl rfl⟩, tv6, trivial⟩, rfl⟩)
           · have h' : k = x.tries.length := by have : ¬ k < x.tries.length := by simpa using h'
                                                omega
             subst h'
             rw [List.take_length]
             refine qd rfl [] (.take 0 [] (.take 1 (Rg 10 3) (.take 2 [] (.take 3 (Rg 8 5) (Tk [4, 5] (.take 6 (Rg 7 6) (.alt 7 (.take 8 [] (.alt 9 (.alt 10 (.take 11 [] (.alt 12 .done .nil)) .nil) .nil)) .nil))))))) (by kernel_rfl) (z7 rfl (hk) rfl ⟨trivial, trivial⟩ (xs rfl ⟨trivial, ⟨rfl, rfl⟩, ⟨rfl, rfl⟩, trivial⟩ (xs rfl rfl (xs rfl rfl (xs rfl (.inl rfl) (xs rfl (by simp; omega) (xs rfl (by simp; omega) ?_)))))))
             all_goals exact q9 rfl (hJ _ (i + 1) (by omega) (by omega) ⟨⟨cwi (by omega) (by omega) (by omega), rfl, rfl, ⟨rfl, rfl, rfl⟩, ⟨rfl, rfl, rfl⟩, rfl, trivial⟩, ⟨⟨⟨rfl, rfl, rfl⟩, ⟨rfl, rfl, rfl⟩, ⟨rfl, rfl, rfl⟩, ⟨rfl, by rw [hst]; exact List.length_append.symm, rfl⟩, ⟨rfl, rfl, rfl⟩, trivial⟩, ⟨rfl, .inl rfl, .inl rfl⟩, ⟨hst.symm, .inl rfl, .inl rfl⟩, ⟨rfl, .inl rfl, .inl rfl⟩, ⟨rfl, .inl rfl, .inl rfl⟩, ⟨rfl, .inl rfl, .inl rfl⟩, tv6, trivial⟩, rfl⟩)
       · have h : i = c.ldrs.length := by have : ¬ i < c.ldrs.length := (by simpa using h); omega
         subst h
         rw [List.take_length]
         refine xr rfl (qm rfl ⟨⟨rfl, ⟨rfl, rfl, .inl rfl⟩, ⟨rfl, rfl, .inl rfl⟩, ⟨rfl, rfl, .inl rfl⟩, ⟨rfl, rfl, .inl rfl⟩, ⟨rfl, rfl, .inl rfl⟩, trivial⟩, z6 rfl⟩)
abbrev pkM (c : Clu) (ms : List Msg) : List PK := [.k (.l (c.cons.map Con.cs)), .k (.l (c.shs.map Shd.cs)), .k (.l (c.accs.map Acc.cs)), .k (.l (c.ldrs.map Ldr.cs)), .n (.l 9 (c.msgs.map Msg.cs)) (.l 9 (ms.map Msg.cs))]
theorem qal (k : Int) : PC Tryz.prog 73 [.one (i64 k)] (qaw k y67) := by
 refine PC.begin Tryz.func73 rfl (by kernel_rfl) ?_
 refine xr rfl (qm rfl ⟨⟨rfl, rfl, rfl, rfl, rfl, rfl, rfl, trivial⟩, z6 rfl⟩)
theorem z72 (rows : List (List Cell)) : PC Tryz.prog 238 [.one (.l rows)] (rI rows.length) := by
 refine PC.begin Tryz.func238 rfl (by kernel_rfl) ?_
 refine xr rfl (qm rfl ⟨⟨rfl, rfl, trivial⟩, z6 rfl⟩)
theorem z3u (rows : List (List Cell)) (n : Int) (hl : rows.length ≤ 1048576) : PC Tryz.prog 152 [.one (i64 n), .one (.l rows)] (rB (within n 0 ((rows.length : Int) - 1))) := by
 refine PC.begin Tryz.func152 rfl (by kernel_rfl) ?_
 have hw : IntKind.i64.wrap ((rows.length : Int) - 1) = (rows.length : Int) - 1 := wrap_i64 (by omega) (by omega)
 refine z7 rfl (z72 rows) rfl ⟨trivial, trivial⟩ (z7 rfl (zn _ _ _) rfl tv4 (xv rfl rfl rfl ?_))
 all_goals (refine vb ?_; rw [hw])
def y77 (c : Clu) (d : List Msg) (code : Int) : Int × Clu := if code ≠ 0 then (code, y67) else told (c.wm d)
theorem zaj (c : Clu) (ho : y00 c) (fn : Nat) (k : Int) (d : List Msg) (code : Int) (hf : PP Tryz.prog fn 0 (pkM c d) [.agg [], .one (.p [i64 k])] (rI code)) : PC Tryz.prog 151 [.agg c.cs, .one (.f fn [.p [i64 k]])] (qaw (y77 c d code).1 (y77 c d code).2) := by
 refine PC.begin Tryz.func151 rfl (by kernel_rfl) ?_
 have hn : (d.map Msg.cs).length = d.length := by simp
 have hc := z3l c ho
 by_cases h0 : code = 0
 · subst h0
   by_cases h : 200 < d.length
   · have e : y77 c d 0 = (2, y67) := by unfold y77 told; rw [if_neg (by simp), if_pos (by exact h)]
     rw [e]
     refine z7 rfl (hc) rfl ⟨tv6, trivial⟩ ?_
     refine yb2 _ 500100200 rfl (hf) rfl rfl rfl ⟨⟨⟨rfl, rfl⟩, rfl⟩, ⟨⟨rfl, rfl⟩, rfl⟩, ⟨⟨rfl, rfl⟩, rfl⟩, ⟨⟨rfl, rfl⟩, rfl⟩, ⟨rfl, rfl, .inl rfl⟩, trivial⟩ ⟨trivial, trivial⟩ rfl ?_
     refine xj (k := 5) rfl ?_
     refine xb rfl ?_ ?_ <;> intro b0
     refine xj (k := 1) rfl ?_
     refine xr rfl (qm rfl ⟨⟨rfl, rfl, rfl, rfl, rfl, rfl, rfl, trivial⟩, z6 rfl⟩)
     exact absurd b0 (by simp; omega)
     all_goals first | (exfalso; simp_all; done) | (exfalso; simp_all; omega) | skip
   · have e : y77 c d 0 = (0, c.wm d) := by unfold y77 told; rw [if_neg (by simp), if_neg (by exact h)]
     rw [e]
     refine z7 rfl (hc) rfl ⟨tv6, trivial⟩ ?_
     refine yb2 _ 500200200 rfl (hf) rfl rfl rfl ⟨⟨⟨rfl, rfl⟩, rfl⟩, ⟨⟨rfl, rfl⟩, rfl⟩, ⟨⟨rfl, rfl⟩, rfl⟩, ⟨⟨rfl, rfl⟩, rfl⟩, ⟨rfl, rfl, .inl rfl⟩, trivial⟩ ⟨trivial, trivial⟩ rfl ?_
     refine xj (k := 5) rfl ?_
     refine xb rfl ?_ ?_ <;> intro b0
     exact absurd b0 (by simp; omega)
     refine xj (k := 1) rfl ?_
     refine xr rfl (qm rfl ⟨⟨rfl, rfl, ⟨rfl, rfl, .inl rfl⟩, ⟨rfl, rfl, .inl rfl⟩, ⟨rfl, rfl, .inl rfl⟩, ⟨rfl, rfl, .inl rfl⟩, ⟨rfl, rfl, .inl rfl⟩, trivial⟩, z6 rfl⟩)
     all_goals first | (exfalso; simp_all; done) | (exfalso; simp_all; omega) | skip
 · have e : y77 c d code = (code, y67) := by unfold y77; rw [if_pos h0]
   rw [e]
   refine z7 rfl (hc) rfl ⟨tv6, trivial⟩ ?_
   refine yb2 _ 500300200 rfl (hf) rfl rfl rfl ⟨⟨⟨rfl, rfl⟩, rfl⟩, ⟨⟨rfl, rfl⟩, rfl⟩, ⟨⟨rfl, rfl⟩, rfl⟩, ⟨⟨rfl, rfl⟩, rfl⟩, ⟨rfl, rfl, .inl rfl⟩, trivial⟩ ⟨trivial, trivial⟩ rfl ?_
   refine xb rfl ?_ ?_ <;> intro b0
   exact absurd b0 (by simp; omega)
   refine xj (k := 5) rfl ?_
   refine xb rfl ?_ ?_ <;> intro b1
   refine xr rfl (qm rfl ⟨⟨rfl, rfl, rfl, rfl, rfl, rfl, rfl, trivial⟩, z6 rfl⟩)
   exact absurd b1 (by simp; omega)
   all_goals first | (exfalso; simp_all; done) | (exfalso; simp_all; omega) | skip
def y8h (c : Clu) (d : List Msg) (code : Int) : Int × Clu := if qq c ≠ 0 then (qq c, y67) else y77 c d code
theorem q65 (c : Clu) (ho : y00 c) (fn : Nat) (k : Int) (d : List Msg) (code : Int) (hf : qq c = 0 → PP Tryz.prog fn 0 (pkM c d) [.agg [], .one (.p [i64 k])] (rI code)) : PC Tryz.prog 77 [.agg c.cs, .one (.f fn [.p [i64 k]])] (qaw (y8h c d code).1 (y8h c d code).2) := by
 refine PC.begin Tryz.func77 rfl (by kernel_rfl) ?_
 by_cases h : qq c = 0
 · have e : y8h c d code = y77 c d code := by unfold y8h; rw [if_neg (by simpa using h)]
   rw [e]
   have hA := zaj c ho fn k d code (hf h)
   refine z7 rfl (z7p c ho) rfl ⟨tv6, trivial⟩ ?_
   refine xb rfl ?_ ?_ <;> intro b0
   exact absurd b0 (by simp; omega)
   refine z7 rfl (hA) rfl ⟨tv6, trivial, trivial⟩ ?_
   refine xr rfl (qm rfl ⟨⟨rfl, rfl, ⟨rfl, rfl, .inl rfl⟩, ⟨rfl, rfl, .inl rfl⟩, ⟨rfl, rfl, .inl rfl⟩, ⟨rfl, rfl, .inl rfl⟩, ⟨rfl, rfl, .inl rfl⟩, trivial⟩, z6 rfl⟩)
   all_goals first | (exfalso; simp_all; done) | skip
 · have e : y8h c d code = (qq c, y67) := by unfold y8h; rw [if_pos h]
   rw [e]
   refine z7 rfl (z7p c ho) rfl ⟨tv6, trivial⟩ ?_
   refine xb rfl ?_ ?_ <;> intro b0
   refine xr rfl (qm rfl ⟨⟨rfl, rfl, rfl, rfl, rfl, rfl, rfl, trivial⟩, z6 rfl⟩)
   exact absurd b0 (by simp; omega)
   all_goals first | (exfalso; simp_all; done) | skip
def atR (c : Clu) (k : Int) : Int := if qq c ≠ 0 then qq c else match q4w c.msgs k with | none => 3 | some _ => 0
theorem z8t (c : Clu) (ho : y00 c) (k : Int) : PC Tryz.prog 72 [.agg c.cs, .one (i64 k)] (rI (atR c k)) := by
 refine PC.begin Tryz.func72 rfl (by kernel_rfl) ?_
 have hl := ho.2.2.2.2
 have hn : (c.msgs.map Msg.cs).length = c.msgs.length := by simp
 have hw : IntKind.i64.wrap (((c.msgs.map Msg.cs).length : Int) - 1) = (c.msgs.length : Int) - 1 := by rw [hn]; exact wrap_i64 (by omega) (by omega)
 have hW : within k 0 (IntKind.i64.wrap (((c.msgs.map Msg.cs).length : Int) - 1)) = (q4w c.msgs k).isSome := by rw [hw, y1u]
 by_cases h : qq c = 0
 · cases hg : q4w c.msgs k with
   | none =>
     have e : atR c k = 3 := by unfold atR; rw [if_neg (by simpa using h), hg]
     rw [e]
     rw [hg] at hW
     refine z8g (n := 0) rfl (ι := Unit) (fun _ => True) (fun _ => ⟨[(2, .one (.b (.p c.cs))), (1, sV (.int .i64 k))], []⟩) ?_ ?_
     · intro K hK
       exact q9 rfl (hK _ () trivial ⟨⟨⟨rfl, rfl, rfl⟩, rfl, trivial⟩, trivial, rfl⟩)
     intro _ _
     refine z7 rfl (q5v c ho) rfl ⟨tv6, trivial⟩ ?_
     refine xb rfl ?_ ?_ <;> intro b0
     exact absurd b0 (by simp; omega)
     refine z7 rfl (qi _ _ _) rfl tv4 ?_
     refine xb rfl ?_ ?_ <;> intro b1
     refine xr rfl (qm rfl ⟨⟨rfl, rfl, trivial⟩, z6 rfl⟩)
     refine xv rfl rfl rfl ?_
     all_goals first | (exfalso; rename_i q; rw [hW] at q; exact Bool.noConfusion q) | (exfalso; simp_all; done) | skip
   | some m =>
     have e : atR c k = 0 := by unfold atR; rw [if_neg (by simpa using h), hg]
     rw [e]
     rw [hg] at hW
     refine z8g (n := 0) rfl (ι := Unit) (fun _ => True) (fun _ => ⟨[(2, .one (.b (.p c.cs))), (1, sV (.int .i64 k))], []⟩) ?_ ?_
     · intro K hK
       exact q9 rfl (hK _ () trivial ⟨⟨⟨rfl, rfl, rfl⟩, rfl, trivial⟩, trivial, rfl⟩)
     intro _ _
     refine z7 rfl (q5v c ho) rfl ⟨tv6, trivial⟩ ?_
     refine xb rfl ?_ ?_ <;> intro b0
     exact absurd b0 (by simp; omega)
     refine z7 rfl (qi _ _ _) rfl tv4 ?_
     refine xb rfl ?_ ?_ <;> intro b1
     refine xv rfl rfl rfl ?_; rotate_left
     refine xr rfl (qm rfl ⟨⟨rfl, rfl, trivial⟩, z6 rfl⟩)
     all_goals first | (exfalso; rename_i q; rw [hW] at q; exact Bool.noConfusion q) | (exfalso; simp_all; done) | skip
 · have e : atR c k = qq c := by unfold atR; rw [if_pos h]
   rw [e]
   refine z7 rfl (q5v c ho) rfl ⟨tv6, trivial⟩ ?_
   refine xb rfl ?_ ?_ <;> intro b0
   refine xr rfl (qm rfl ⟨⟨rfl, rfl, trivial⟩, z6 rfl⟩)
   exact absurd b0 (by simp; omega)
   all_goals first | (exfalso; simp_all; done) | skip
theorem qbs {c : Clu} {k : Int} (h : atR c k = 0) : qq c = 0 ∧ ∃ m, q4w c.msgs k = some m := by
 unfold atR at h
 split at h
 · rename_i h1; exact absurd h h1
 · rename_i h1
   split at h
   · cases h
   · rename_i m hm; exact ⟨by simpa using h1, m, hm⟩
abbrev zbi (m : Msg) : List OC := [.s (.int .i64 m.k), .s (.int .i64 m.to), .s (.int .i64 m.fr), .s (.int .i64 m.c), .s (.int .i64 m.s), .s (.int .i64 m.b), .s (.int .i64 m.v), .s (.int .i64 m.ob), .s (.int .i64 m.ov)]
def z9e (us : List Msg) (k : Int) : List Msg := us.take k.toNat ++ us.drop (k.toNat + 1)
theorem q94 (c : Clu) (k : Int) (hl : c.msgs.length ≤ 1048576) (h : q4w c.msgs k = none) : PP Tryz.prog 168 0 (pkM c c.msgs) [.agg [], .one (i64 k)] (.tup [.own true (zbi ⟨0, 0, 0, 0, 0, 0, 0, 0, 0⟩), .own false [.s (.int .i64 3)]]) := by
 refine PP.begin Tryz.func168 rfl (by kernel_rfl) ?_
 have hn : (c.msgs.map Msg.cs).length = c.msgs.length := by simp
 have hp := z3u (c.msgs.map Msg.cs) k (by omega)
 rw [hn, y1u, h] at hp
 refine z7 rfl (hp) rfl ⟨trivial, rfl, trivial⟩ (xj (k := 1) rfl ?_)
 refine xr rfl (q97 rfl rfl ⟨⟨rfl, trivial⟩, ⟨rfl, trivial⟩, ⟨rfl, trivial⟩, ⟨rfl, trivial⟩, ⟨rfl, rfl, .inl rfl⟩, trivial⟩ ⟨(by decide), ⟨⟨rfl, rfl, rfl, rfl, rfl, rfl, rfl, rfl, rfl, rfl, trivial⟩, ⟨rfl, rfl, trivial⟩, trivial⟩, z6 rfl⟩)
theorem z95 (c : Clu) (k : Int) (m : Msg) (hl : c.msgs.length ≤ 1048576) (h : q4w c.msgs k = some m) : PP Tryz.prog 168 0 (pkM c (z9e c.msgs k)) [.agg [], .one (i64 k)] (.tup [.own true (zbi m), .own false [.s (.int .i64 0)]]) := by
 refine PP.begin Tryz.func168 rfl (by kernel_rfl) ?_
 have hn : (c.msgs.map Msg.cs).length = c.msgs.length := by simp
 have hp := z3u (c.msgs.map Msg.cs) k (by omega)
 rw [hn, y1u, h] at hp
 obtain ⟨h1, h2, h3⟩ := z35 h
 have hg := gm Msg.cs h3
 have ek : ((k.toNat : Nat) : Int) = k := by omega
 have hw : IntKind.i64.wrap (k + 1) = (k.toNat : Int) + 1 := by rw [wrap_i64 (by omega) (by omega)]; omega
 have hD := y9r c.msgs k.toNat (IntKind.i64.wrap (k + 1)) (by omega) hw
 rw [ek] at hD
 refine z7 rfl (hp) rfl ⟨trivial, rfl, trivial⟩ (xj (k := 1) rfl (xs rfl rfl (xs rfl (h1) (y9 rfl _ hg (xs rfl rfl (xs rfl rfl (y9 rfl _ hg (y0t rfl (hD) ⟨⟨rfl, rfl, rfl, rfl⟩, rfl, rfl, trivial⟩ rfl ?_))))))))
 refine xr rfl (q97 rfl rfl ⟨⟨rfl, trivial⟩, ⟨rfl, trivial⟩, ⟨rfl, trivial⟩, ⟨rfl, trivial⟩, ⟨rfl, rfl, .inl rfl⟩, trivial⟩ ⟨(by decide), ⟨⟨rfl, rfl, rfl, rfl, rfl, rfl, rfl, rfl, rfl, rfl, trivial⟩, ⟨rfl, rfl, trivial⟩, trivial⟩, z6 rfl⟩)
theorem q4u (c : Clu) (k : Int) (d : List Msg) (m : Msg) (code : Int) (h : PP Tryz.prog 168 0 (pkM c d) [.agg [], .one (i64 k)] (.tup [.own true (zbi m), .own false [.s (.int .i64 code)]])) : PP Tryz.prog 92 0 (pkM c d) [.agg [], .one (i64 k)] (rI code) := by
 refine PP.begin Tryz.func92 rfl (by kernel_rfl) ?_
 refine yb2 _ 500100100 rfl (h) rfl rfl rfl ⟨⟨⟨rfl, trivial⟩, rfl⟩, ⟨⟨rfl, trivial⟩, rfl⟩, ⟨⟨rfl, trivial⟩, rfl⟩, ⟨⟨rfl, trivial⟩, rfl⟩, ⟨rfl, rfl, .inl rfl⟩, trivial⟩ ⟨trivial, trivial⟩ rfl ?_
 refine xr rfl (q97 rfl rfl ⟨⟨rfl, trivial⟩, ⟨rfl, trivial⟩, ⟨rfl, trivial⟩, ⟨rfl, trivial⟩, ⟨rfl, rfl, .inl rfl⟩, trivial⟩ ⟨⟨rfl, rfl, trivial⟩, z6 rfl⟩)
theorem z4v (c : Clu) (k : Int) (d : List Msg) (code : Int) (h : PP Tryz.prog 92 0 (pkM c d) [.agg [], .one (i64 k)] (rI code)) : PP Tryz.prog 91 0 (pkM c d) [.agg [], .one (.p [i64 k])] (rI code) := by
 refine PP.begin Tryz.func91 rfl (by kernel_rfl) ?_
 refine yb2 _ 500100100 rfl (h) rfl rfl rfl ⟨⟨⟨rfl, trivial⟩, rfl⟩, ⟨⟨rfl, trivial⟩, rfl⟩, ⟨⟨rfl, trivial⟩, rfl⟩, ⟨⟨rfl, trivial⟩, rfl⟩, ⟨rfl, rfl, .inl rfl⟩, trivial⟩ ⟨trivial, trivial⟩ rfl ?_
 refine xr rfl (q97 rfl rfl ⟨⟨rfl, trivial⟩, ⟨rfl, trivial⟩, ⟨rfl, trivial⟩, ⟨rfl, trivial⟩, ⟨rfl, rfl, .inl rfl⟩, trivial⟩ ⟨⟨rfl, rfl, trivial⟩, z6 rfl⟩)
theorem q8r (c : Clu) (ho : y00 c) (k : Int) : PC Tryz.prog 31 [.agg c.cs, .one (i64 k)] (qaw (q1b c k).1 (q1b c k).2) := by
 refine PC.begin Tryz.func31 rfl (by kernel_rfl) ?_
 refine z8g (n := 0) rfl (ι := Unit) (fun _ => True) (fun _ => ⟨[(2, .one (.b (.p c.cs))), (3, .one (.b (.p [i64 k]))), (4, .one (.a 4 0))], [(4, .var [.b (i64 0), .nil, .nil, .nil, .nil, .nil])]⟩) ?_ ?_
 · intro K hK
   exact q9 rfl (hK _ () trivial ⟨⟨⟨rfl, rfl, rfl⟩, ⟨rfl, rfl, rfl⟩, ⟨rfl, rfl, rfl⟩, trivial⟩, ⟨⟨rfl, trivial, trivial, trivial, trivial, trivial, trivial⟩, trivial⟩, rfl⟩)
 intro _ _
 have hl := ho.2.2.2.2
 cases h : q4w c.msgs k with
 | none =>
   have e : q1b c k = y8h c c.msgs 3 := by unfold q1b y8h y77; rw [h]; rfl
   rw [e]
   have hA := q65 c ho 91 k c.msgs 3 (fun hc => z4v c k c.msgs 3 (q4u c k c.msgs _ 3 (q94 c k hl h)))
   refine z7 rfl (hA) rfl ⟨tv6, trivial, trivial⟩ ?_
   refine xr rfl (qm rfl ⟨⟨rfl, rfl, ⟨rfl, rfl, .inl rfl⟩, ⟨rfl, rfl, .inl rfl⟩, ⟨rfl, rfl, .inl rfl⟩, ⟨rfl, rfl, .inl rfl⟩, ⟨rfl, rfl, .inl rfl⟩, trivial⟩, z6 rfl⟩)
 | some m =>
   have e : q1b c k = y8h c (z9e c.msgs k) 0 := by
    unfold q1b y8h y77
    rw [h]
    split
    · rfl
    · rename_i hc
      have := (q67 (c := c) (by simpa using hc)).1
      rw [if_neg (by simp)]
      unfold told
      rw [if_neg]
      · rfl
      · show ¬ 200 < (c.msgs.take k.toNat ++ c.msgs.drop (k.toNat + 1)).length
        simp only [List.length_append, List.length_take, List.length_drop]
        omega
   rw [e]
   have hA := q65 c ho 91 k (z9e c.msgs k) 0 (fun hc => z4v c k (z9e c.msgs k) 0 (q4u c k (z9e c.msgs k) m 0 (z95 c k m hl h)))
   refine z7 rfl (hA) rfl ⟨tv6, trivial, trivial⟩ ?_
   refine xr rfl (qm rfl ⟨⟨rfl, rfl, ⟨rfl, rfl, .inl rfl⟩, ⟨rfl, rfl, .inl rfl⟩, ⟨rfl, rfl, .inl rfl⟩, ⟨rfl, rfl, .inl rfl⟩, ⟨rfl, rfl, .inl rfl⟩, trivial⟩, z6 rfl⟩)
theorem y76 (us : List Msg) (k : Int) (m : Msg) (hl : us.length ≤ 1048576) (h : q4w us k = some m) : PC Tryz.prog 90 [.one (.l (us.map Msg.cs)), .one (i64 k)] (.one (.own false [.l 9 ((z9e us k).map Msg.cs)])) := by
 refine PC.begin Tryz.func90 rfl (by kernel_rfl) ?_
 obtain ⟨h1, h2, h3⟩ := z35 h
 have hw : IntKind.i64.wrap (k + 1) = k + 1 := wrap_i64 (by omega) (by omega)
 have hn : (us.map Msg.cs).length = us.length := by simp
 have hr9 : ∀ row ∈ us.map Msg.cs, row.length = 9 := fun row hr => by obtain ⟨x, _, rfl⟩ := List.mem_map.1 hr; rfl
 have hrow : ∀ (a b : Nat), ∀ row ∈ List.drop a (List.take b (us.map Msg.cs)), row.length = 9 := fun a b row hr => hr9 row (List.mem_of_mem_take (List.mem_of_mem_drop hr))
 have hsca : ∀ (a b : Nat), yp (List.drop a (List.take b (us.map Msg.cs))) := fun a b row hr => y86 us row (List.mem_of_mem_take (List.mem_of_mem_drop hr))
 have k1 : (k + 1).toNat = k.toNat + 1 := by omega
 refine qd rfl [] (Tk [1, 2, 3, 5, 6, 7, 8] (.alt 0 (.alt 4 (.alt 9 (.take 10 [] .done) .nil) .nil) .nil)) (by kernel_rfl) (xs rfl (.inl rfl) (xs rfl (Int.le_refl _) (xs rfl (by simp; omega) (xs rfl (by simp; omega) (xs rfl (.inr hr9) (xs rfl (by simp; omega) (xs rfl (by simp; omega) (xs rfl (Int.le_refl _) (xs rfl trivial ?_)))))))))
 refine xs rfl rfl (xs rfl (hrow _ _) (xs rfl (fun _ => hsca _ _) (xs rfl (by simp; omega) (xs rfl (by simp; omega) (xs rfl (List.length_append.symm) (xs rfl (hrow _ _) (xs rfl (fun _ => hsca _ _) (xs rfl (by simp; omega) (xs rfl (by simp; omega) ?_)))))))))
 refine xr rfl (qm rfl ⟨⟨rfl, ⟨?_, ?_, .inl rfl⟩, trivial⟩, z6 rfl⟩); rotate_left
 rotate_left
 all_goals first
  | exact List.length_append.symm
  | (show [] ++ List.drop 0 (List.take k.toNat (us.map Msg.cs)) ++ List.drop (IntKind.i64.wrap (k + 1)).toNat (List.take (((us.map Msg.cs).length : Int)).toNat (us.map Msg.cs)) = _; rw [hw, k1, Int.toNat_natCast, List.take_length, List.drop_zero, List.nil_append]; simp only [z9e, List.map_append, List.map_take, List.map_drop]; done)
  | skip
theorem z9s {c : Clu} {k : Int} (h : ¬ atR c k = 0) : q1b c k = (atR c k, y67) := by
 unfold atR at h ⊢
 unfold q1b
 split
 · rfl
 · rename_i h1
   rw [if_neg h1] at h
   cases hm : q4w c.msgs k with
   | none => rfl
   | some m => rw [hm] at h; exact absurd rfl h
theorem z91 (c : Clu) (ho : y00 c) (k : Int) : PC Tryz.prog 30 [.agg c.cs, .one (i64 k)] (qaw (q1b c k).1 (q1b c k).2) := by
 refine PC.begin Tryz.func30 rfl (by kernel_rfl) ?_
 refine z8g (n := 0) rfl (ι := Unit) (fun _ => True) (fun _ => ⟨[(2, .one (.b (.p c.cs))), (4, .one (.a 4 0)), (1, sV (.int .i64 k))], [(4, .var [.b (i64 0), .nil, .nil, .nil, .nil, .nil])]⟩) ?_ ?_
 · intro K hK
   exact q9 rfl (hK _ () trivial ⟨⟨⟨rfl, rfl, rfl⟩, ⟨rfl, rfl, rfl⟩, rfl, trivial⟩, ⟨⟨rfl, trivial, trivial, trivial, trivial, trivial, trivial⟩, trivial⟩, rfl⟩)
 intro _ _
 have hA := z8t c ho k
 by_cases h : atR c k = 0
 · obtain ⟨hc, m, hm⟩ := qbs h
   have e : q1b c k = (0, c.wm (z9e c.msgs k)) := by unfold q1b; rw [if_neg (by simpa using hc), hm]; rfl
   rw [e]
   rw [h] at hA
   have hl := ho.2.2.2.2
   have hw := y76 c.msgs k m hl hm
   have hC := q6s c ho
   refine z7 rfl (hA) rfl ⟨tv6, trivial, trivial⟩ (xj (k := 1) rfl (z7 rfl (hC) rfl ⟨tv6, trivial⟩ (z7 rfl (hw) rfl ⟨rfl, trivial, trivial⟩ ?_)))
   refine xr rfl (qm rfl ⟨⟨rfl, rfl, ⟨rfl, rfl, .inl rfl⟩, ⟨rfl, rfl, .inl rfl⟩, ⟨rfl, rfl, .inl rfl⟩, ⟨rfl, rfl, .inl rfl⟩, ⟨rfl, rfl, .inl rfl⟩, trivial⟩, z6 rfl⟩)
   all_goals first | (exfalso; simp_all; done) | skip
 · rw [z9s h]
   have hB := qal (atR c k)
   refine z7 rfl (hA) rfl ⟨tv6, trivial, trivial⟩ ?_
   refine xb rfl ?_ ?_ <;> intro b0
   refine z7 rfl (hB) rfl ⟨trivial, trivial⟩ ?_
   refine xr rfl (qm rfl ⟨⟨rfl, rfl, ⟨rfl, rfl, .inl rfl⟩, ⟨rfl, rfl, .inl rfl⟩, ⟨rfl, rfl, .inl rfl⟩, ⟨rfl, rfl, .inl rfl⟩, ⟨rfl, rfl, .inl rfl⟩, trivial⟩, z6 rfl⟩)
   exact absurd b0 (by simp; omega)
   all_goals first | (exfalso; simp_all; done) | skip
theorem q8u (cs : List Cell) (b : Int) (hw : WT 9223372036854775807 yd cs) : PC Tryz.prog 8 [.agg cs, .one (i64 b)] (rB true) := by
 refine PC.begin Tryz.func8 rfl (by kernel_rfl) ?_
 obtain ⟨x0, x1, x2, x3, x4, rfl, _⟩ := z04 hw
 rcases zan x0 x1 x2 x3 x4 hw 1048576 (Nat.le_refl _) with hsz | ⟨c, rfl, rfl, rfl, rfl, rfl, ho, hwt, ⟨n, _, hsz⟩, hto, heq⟩
 · skip
   refine z7 rfl (hsz) rfl ⟨tv6, trivial, trivial⟩ (xj (k := 1) rfl ?_)
   refine xr rfl (qm rfl ⟨⟨rfl, rfl, trivial⟩, z6 rfl⟩)
 · have hI := q8r c ho b
   have hS := z91 c ho b
   obtain ⟨w1, w2⟩ := z8o hwt b
   generalize (q1b c b).1 = code at hI hS
   generalize (q1b c b).2 = d at hI hS w1 w2
   have hr := z9r d w1 code
   obtain ⟨k, r0, r1, r2, r3, r4, hk, hmk⟩ := y8m c hwt
   obtain ⟨q, s0, s1, s2, s3, s4, hq, ⟨l0, l1, l2, l3, l4⟩, hmr, hhd⟩ := q9q d w1 w2
   refine z7 rfl (hsz) rfl ⟨tv6, trivial, trivial⟩ (xj (k := 1) rfl (z7 rfl (hto) rfl ⟨tv6, trivial⟩ (z7 rfl (hS) rfl ⟨⟨rfl, rfl, rfl, rfl, rfl, trivial⟩, trivial, trivial⟩ (z7 rfl (hto) rfl ⟨tv6, trivial⟩ (z7 rfl (hI) rfl ⟨⟨rfl, rfl, rfl, rfl, rfl, trivial⟩, trivial, trivial⟩ (z7 rfl (hr) rfl ⟨⟨trivial, rfl, rfl, rfl, rfl, rfl, trivial⟩, ⟨trivial, rfl, rfl, rfl, rfl, rfl, trivial⟩, trivial⟩ (xj (k := 1) rfl (qd rfl [] (.take 0 [3, 4] (.take 1 (Rg 2 3) (.alt 2 (.alt 3 (.take 4 [] .done) .nil) .nil))) (by kernel_rfl) (z7 rfl (hto) rfl ⟨tv6, trivial⟩ ?_)))))))))
   refine z7 rfl (heq) rfl ⟨⟨rfl, rfl, rfl, rfl, rfl, trivial⟩, ⟨rfl, rfl, rfl, rfl, rfl, trivial⟩, trivial⟩ (xj (k := 1) rfl (y0t rfl (hmk) ⟨⟨⟨rfl, rfl, rfl, rfl⟩, ⟨rfl, rfl, rfl, rfl⟩, ⟨rfl, rfl, rfl, rfl⟩, ⟨rfl, rfl, rfl, rfl⟩, ⟨rfl, rfl, rfl, rfl⟩, trivial⟩, rfl, trivial⟩ rfl ?_))
   refine xb rfl ?_ ?_ <;> intro b0
   exact absurd b0 (by simp; omega)
   refine xj (k := 2) rfl (z7 rfl (hr) rfl ⟨⟨trivial, rfl, rfl, rfl, rfl, rfl, trivial⟩, ⟨trivial, rfl, rfl, rfl, rfl, rfl, trivial⟩, trivial⟩ (xj (k := 3) rfl (y0t rfl (hmr code) ⟨⟨rfl, ⟨rfl, rfl, rfl, rfl⟩, ⟨rfl, rfl, rfl, rfl⟩, ⟨rfl, rfl, rfl, rfl⟩, ⟨rfl, rfl, rfl, rfl⟩, ⟨rfl, rfl, rfl, rfl⟩, trivial⟩, rfl, trivial⟩ rfl (z7 rfl (hhd code) rfl ⟨⟨trivial, l0.symm, l1.symm, l2.symm, l3.symm, l4.symm, trivial⟩, trivial, trivial⟩ ?_))))
   refine xb rfl ?_ ?_ <;> intro b0
   exact absurd b0 (by simp; omega)
   refine xb rfl ?_ ?_ <;> intro b1
   exact absurd b1 (by simp [*])
   refine z7 rfl (hto) rfl ⟨tv6, trivial⟩ (z7 rfl (hI) rfl ⟨⟨rfl, rfl, rfl, rfl, rfl, trivial⟩, trivial, trivial⟩ (z7 rfl (hr) rfl ⟨⟨trivial, rfl, rfl, rfl, rfl, rfl, trivial⟩, ⟨trivial, rfl, rfl, rfl, rfl, rfl, trivial⟩, trivial⟩ (xj (k := 1) rfl (z7 rfl (hhd code) rfl ⟨⟨trivial, l0.symm, l1.symm, l2.symm, l3.symm, l4.symm, trivial⟩, trivial, trivial⟩ ?_))))
   refine xb rfl ?_ ?_ <;> intro b0
   exact absurd b0 (by simp; omega)
   refine xb rfl ?_ ?_ <;> intro b1
   exact absurd b1 (by simp [*])
   refine xr rfl (qm rfl ⟨⟨rfl, rfl, trivial⟩, z6 rfl⟩)
end Go.Proofs.YtbnbjaedijbnpaaGreat
end
section
namespace Go.Proofs.YtbnbjaedijbnpaaGreat.fnExactDropMessage
open Go.ChangeShapes Go.WideShapes Go.ChangeAt Go.RowKit
set_option maxRecDepth 100000 in
set_option maxHeartbeats 40000000 in
theorem closed : joinedFacts Tryz.pinned.checked.prog 8 Tryz.f8 Rows.fnExactDropMessageSpec Rows.fnExactDropMessageRow = true := by
 unfold joinedFacts
 simp only [Bool.and_eq_true]
 repeat' refine And.intro ?_ ?_
 all_goals as_aux_lemma => kernel_rfl
end Go.Proofs.YtbnbjaedijbnpaaGreat.fnExactDropMessage
end
section
namespace Go.Proofs.YtbnbjaedijbnpaaGreat.fnExactDropMessage
open Go.ChangeShapes Go.WideShapes Go.ChangeAt Go.RowKit Go.Sx
open Go.ChangeMaps (open_string shut_string)
theorem own : ownKnob Tryz.prog.godebug = none := by kernel_rfl
theorem laidOut : laidOutB Tryz.prog = true := by kernel_rfl
theorem q2 : OS Tryz.prog 2 (.i .i64 .nil) := qau Tryz.underlying2 (by kernel_rfl)
theorem ybz : OS Tryz.prog 297 yw := yz Tryz.underlying297 (by kernel_rfl) (.cons (by kernel_rfl) (.cons (by kernel_rfl) (.cons (by kernel_rfl) (.cons (by kernel_rfl) (.nil _))))) (qh q2 (qh q2 (qh q2 (y0f q2) rfl rfl) rfl rfl) rfl rfl)
theorem ybv : OS Tryz.prog 135 (.l yw .nil) := y06 Tryz.underlying135 (by kernel_rfl) ybz
theorem qbv : OS Tryz.prog 137 q7 := yz Tryz.underlying137 (by kernel_rfl) (.cons (by kernel_rfl) (.cons (by kernel_rfl) (.nil _))) (qh q2 (y0f ybv) rfl rfl)
theorem q25 : OS Tryz.prog 25 (.l q7 .nil) := y06 Tryz.underlying25 (by kernel_rfl) qbv
theorem yby : OS Tryz.prog 241 ze := yz Tryz.underlying241 (by kernel_rfl) (.cons (by kernel_rfl) (.cons (by kernel_rfl) (.cons (by kernel_rfl) (.nil _)))) (qh q2 (qh q2 (y0f q2) rfl rfl) rfl rfl)
theorem zbv : OS Tryz.prog 133 (.l ze .nil) := y06 Tryz.underlying133 (by kernel_rfl) yby
theorem qbz : OS Tryz.prog 299 zh := yz Tryz.underlying299 (by kernel_rfl) (.cons (by kernel_rfl) (.cons (by kernel_rfl) (.nil _))) (qh q2 (y0f q2) rfl rfl)
theorem ybq : OS Tryz.prog 139 (.l zh .nil) := y06 Tryz.underlying139 (by kernel_rfl) qbz
theorem q73 : OS Tryz.prog 73 (.l (.i .i64 .nil) .nil) := y06 Tryz.underlying73 (by kernel_rfl) q2
theorem zbw : OS Tryz.prog 141 zb := yz Tryz.underlying141 (by kernel_rfl) (.cons (by kernel_rfl) (.cons (by kernel_rfl) (.cons (by kernel_rfl) (.cons (by kernel_rfl) (.cons (by kernel_rfl) (.cons (by kernel_rfl) (.nil _))))))) (qh q2 (qh zbv (qh ybq (qh q25 (qh ybq (y0f q73) rfl rfl) rfl rfl) rfl rfl) rfl rfl) rfl rfl)
theorem q26 : OS Tryz.prog 26 (.l zb .nil) := y06 Tryz.underlying26 (by kernel_rfl) zbw
theorem qbk : OS Tryz.prog 169 yk := yz Tryz.underlying169 (by kernel_rfl) (.cons (by kernel_rfl) (.cons (by kernel_rfl) (.nil _))) (qh q2 (y0f q2) rfl rfl)
theorem qbq : OS Tryz.prog 285 (.l yk .nil) := y06 Tryz.underlying285 (by kernel_rfl) qbk
theorem qby : OS Tryz.prog 287 qj := yz Tryz.underlying287 (by kernel_rfl) (.cons (by kernel_rfl) (.cons (by kernel_rfl) (.cons (by kernel_rfl) (.cons (by kernel_rfl) (.cons (by kernel_rfl) (.nil _)))))) (qh q2 (qh q2 (qh q2 (qh qbk (y0f qbq) rfl rfl) rfl rfl) rfl rfl) rfl rfl)
theorem ybw : OS Tryz.prog 143 (.l qj .nil) := y06 Tryz.underlying143 (by kernel_rfl) qby
theorem qbw : OS Tryz.prog 145 z8 := yz Tryz.underlying145 (by kernel_rfl) (.cons (by kernel_rfl) (.nil _)) (y0f ybw)
theorem q27 : OS Tryz.prog 27 (.l z8 .nil) := y06 Tryz.underlying27 (by kernel_rfl) qbw
theorem zbz : OS Tryz.prog 290 zp := yz Tryz.underlying290 (by kernel_rfl) (.cons (by kernel_rfl) (.cons (by kernel_rfl) (.cons (by kernel_rfl) (.cons (by kernel_rfl) (.cons (by kernel_rfl) (.cons (by kernel_rfl) (.nil _))))))) (qh q2 (qh q2 (qh q2 (qh q2 (qh q73 (y0f qbq) rfl rfl) rfl rfl) rfl rfl) rfl rfl) rfl rfl)
theorem zbx : OS Tryz.prog 147 (.l zp .nil) := y06 Tryz.underlying147 (by kernel_rfl) zbz
theorem zc0 : OS Tryz.prog 303 zm := yz Tryz.underlying303 (by kernel_rfl) (.cons (by kernel_rfl) (.cons (by kernel_rfl) (.cons (by kernel_rfl) (.cons (by kernel_rfl) (.cons (by kernel_rfl) (.nil _)))))) (qh q2 (qh q2 (qh q2 (qh q2 (y0f q2) rfl rfl) rfl rfl) rfl rfl) rfl rfl)
theorem ybx : OS Tryz.prog 148 (.l zm .nil) := y06 Tryz.underlying148 (by kernel_rfl) zc0
theorem qbx : OS Tryz.prog 150 qa := yz Tryz.underlying150 (by kernel_rfl) (.cons (by kernel_rfl) (.cons (by kernel_rfl) (.cons (by kernel_rfl) (.nil _)))) (qh q2 (qh zbx (y0f ybx) rfl rfl) rfl rfl)
theorem q28 : OS Tryz.prog 28 (.l qa .nil) := y06 Tryz.underlying28 (by kernel_rfl) qbx
theorem zby : OS Tryz.prog 171 yb := yz Tryz.underlying171 (by kernel_rfl) (.cons (by kernel_rfl) (.cons (by kernel_rfl) (.cons (by kernel_rfl) (.cons (by kernel_rfl) (.cons (by kernel_rfl) (.cons (by kernel_rfl) (.cons (by kernel_rfl) (.cons (by kernel_rfl) (.nil _))))))))) (qh q2 (qh q2 (qh q2 (qh q2 (qh q2 (qh q2 (qh q2 (y0f qbk) rfl rfl) rfl rfl) rfl rfl) rfl rfl) rfl rfl) rfl rfl) rfl rfl)
theorem q29 : OS Tryz.prog 29 (.l yb .nil) := y06 Tryz.underlying29 (by kernel_rfl) zby
theorem q31 : OS Tryz.prog 31 yd := yz Tryz.underlying31 (by kernel_rfl) (.cons (by kernel_rfl) (.cons (by kernel_rfl) (.cons (by kernel_rfl) (.cons (by kernel_rfl) (.cons (by kernel_rfl) (.nil _)))))) (qh q25 (qh q26 (qh q27 (qh q28 (y0f q29) rfl rfl) rfl rfl) rfl rfl) rfl rfl)
set_option maxRecDepth 100000 in
theorem lifted (os : Os) (started : os.Started) (H : Type) (enc : TypeId × Value → H) :
 ReturnsInHanded {} Tryz.checked os 8 .any (Rows.fnExactDropMessageSpec.pre6 enc Tryz.prog Tryz.f8 Rows.fnExactDropMessageRow.domain false) (Rows.fnExactDropMessageSpec.post enc Tryz.prog Tryz.f8 false true false false) := by
 refine returnsInHanded_of_change_sized (C := Tryz.checked) own started (by kernel_rfl) Tryz.func8
  (ChangeSpec.witness6 (enc := enc) (C := Tryz.checked) false ⟨#[], #[.agg #[.slice none 0 0, .slice none 0 0, .slice none 0 0, .slice none 0 0, .slice none 0 0], .int .i64 0], []⟩ 8 (by kernel_rfl) (by kernel_rfl) (by kernel_rfl) (by kernel_rfl)) ?_
 intro W base args ds gs before hval0 hW _ _ _
 have hval : ∀ (j : Nat) t v, Tryz.f8.params[j]? = some t → args[j]? = some v → Value.okWide Tryz.prog W .any base t v := hval0
 have hW' := hW
 obtain ⟨p, q, hA0, hV, rfl, hfz, hnd⟩ := hW
 have hA : DataW.TrodAll enc Tryz.prog W 0 (fun _ => true) true Tryz.f8.params.toList args.toList ds p := hA0
 rw [Tryz.params8] at hA hval
 obtain ⟨v0, vs0, d0, ds0, p0, q0, hargs, rfl, rfl, h0, r0⟩ := trodAll_cons hA
 obtain ⟨v1, vs1, d1, ds1, p1, q1, rfl, rfl, rfl, h1, r1⟩ := trodAll_cons r0
 obtain ⟨rfl, rfl, rfl⟩ := trodAll_nil r1
 obtain rfl : args = #[v0, v1] := by cases args; simp_all
 obtain ⟨rfl, rfl⟩ := trodVars_none hV
 have k0 := h0
 have lt0 : ∀ x ∈ p0, x.block < W.heap.size := by obtain ⟨m, hm⟩ := k0; exact DataW.trod_lt m _ _ _ hm
 obtain ⟨c0, R0, w0⟩ := yal Tryz.underlying31 q31 (hval 0 31 v0 rfl rfl) h0
 obtain ⟨a1, rfl, rfl, rfl, w1⟩ := open_int Tryz.underlying2 (hval 1 2 v1 rfl rfl) h1
 clear hA0 hval0
 refine (PC.law (q8u c0 a1 w0) (z4o.two R0 (.s _ rfl))).mono fun e W' ⟨he, bel⟩ => ?_
 subst he
 exact ⟨_, rfl, _, _, _, [], _, [], hW', trodAll_mk1 (shut_bool Tryz.underlying4 _), (trodAll_cons_mk (Below.trod laidOut (by kernel_rfl) (of_decide_eq_true (by kernel_rfl)) k0 bel lt0) (trodAll_cons_mk (shut_int Tryz.underlying2 w1) trodAll_mk0)), rfl, bel.frame _, fun h => by cases h⟩
theorem qbu : Rows.fnExactDropMessageRow.holds Tryz.pinned (OpenSpec.ofChange Rows.fnExactDropMessageSpec) :=
 OpenClaim.holds_of_wide 8 Tryz.f8 rfl rfl rfl rfl rfl rfl rfl ⟨rfl, rfl, rfl, rfl, rfl⟩ rfl rfl rfl rfl rfl (by as_aux_lemma => kernel_rfl) Tryz.func8 closed
  (by as_aux_lemma => exact of_decide_eq_true (by kernel_rfl)) (by as_aux_lemma => unfold Func.isWrapper; first | (rw [if_pos (by decide +kernel)]; kernel_rfl) | (rw [if_neg (by decide +kernel)]; exact ⟨rfl, rfl⟩))
  (fun os started H enc _ => lifted os started H enc)
theorem qav : Rows.FnExactDropMessageSaid := qbu
end Go.Proofs.YtbnbjaedijbnpaaGreat.fnExactDropMessage
namespace Go.Proofs.YtbnbjaedijbnpaaGreat
theorem fnExactDropMessage_holds : Rows.FnExactDropMessageSaid := fnExactDropMessage.qav
end Go.Proofs.YtbnbjaedijbnpaaGreat
end
