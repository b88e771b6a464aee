/- WHAT IS PROVED: parts of the proof of fnExactCopyMessage_holds: a frame for walks, what each Go function that it reaches answers, and plain lemmas; no condition beyond those that each theorem names. -/
import Derived.Test.YtbnbjaedijbnpaaGreatCCm5
import Derived.WalkKit
import Derived.OrdersHeld
import Derived.DeepKeys
import Derived.Maps.RangeWalk
import Derived.Maps.OwnOps
import Derived.WideKeyEntry
import Derived.Orders
import Derived.Deep.Slices
import Derived.ChangeArms
import Derived.WideShapes
import Derived.Sort.AssemblyPlain
import Derived.Test.YtbnbjaedijbnpaaGreatProg
import Derived.Shelf.SortG.Plain
import Derived.Shelf.SortG.SortNone
import Derived.Shelf.SlicesG.CompactI
import Derived.Lib.OwnBridge
import Derived.RangeFuncGives
import Derived.RangeFuncBox
import Derived.RangeFuncLeaves
import Derived.Shelf.Abstract
import Derived.Maps.AppendAt
import Derived.OwnWalkIn
import Derived.TacticsInMore
import Derived.LoopNIn
import Derived.LoopIn
set_option linter.unusedVariables false
set_option linter.unusedSimpArgs false
section
namespace Go.Proofs.YtbnbjaedijbnpaaGreat
open Go Go.Sx
set_option maxRecDepth 20000
set_option maxHeartbeats 4000000
theorem z0v (us : List Mk) (c : Int) (hl : us.length ≤ 1048576) : PC Tryz.prog 66 [.one (.l (us.map Mk.cs)), .one (i64 c)] (rI (y0l us c)) := by
 refine PC.begin Tryz.func66 rfl (by kernel_rfl) ?_
 refine qd rfl (ι := Nat) (fun i => i ≤ us.length ∧ ∀ j y, j < i → us[j]? = some y → ¬ y.c = c) (fun i => ⟨[(5, sV (.int .i64 i)), (0, .one (.b (.l (us.map Mk.cs)))), (1, sV (.int .i64 c))], []⟩) (fun i => us.length - i) 0 ⟨Nat.zero_le _, fun j y hj => by omega⟩ ?_ ?_
 · exact ⟨⟨rfl, rfl, rfl, trivial⟩, trivial, rfl⟩
 · intro i ⟨hi, h0⟩ J hJ
   refine xb rfl ?_ ?_ <;> intro h
   · have h : i < us.length := by simpa using h
     obtain ⟨x, hx⟩ := gx h
     have hg := gm Mk.cs hx
     refine xs rfl (nn_ _) (q9 rfl _ hg (xs rfl rfl ?_))
     refine xb rfl ?_ ?_ <;> intro b0
     refine xs rfl (nn_ _) (q9 rfl _ hg (xs rfl rfl ?_))
     refine xr rfl (q7 rfl ⟨⟨rfl, ?_, trivial⟩, z6 rfl⟩)
     rotate_left
     rotate_left
     · exact vi (q1c hx h0 (by simpa using b0)).symm
     · exact za rfl (hJ _ (i + 1) ⟨by omega, zh hx h0 (by simpa using b0)⟩ (by omega) ⟨⟨cwi (by omega) (by omega) (by omega), rfl, rfl, trivial⟩, trivial, rfl⟩)
   · have h : ¬ i < us.length := by simpa using h
     refine xr rfl (q7 rfl ⟨⟨rfl, ?_, trivial⟩, z6 rfl⟩)
     exact vi (y1k (yk (by omega) h0)).symm
theorem q8v (us : List Bal) (hl : us.length ≤ 1048576) : PC Tryz.prog 103 [.one (.l (us.map Bal.cs))] (rI (zm us)) := by
 refine PC.begin Tryz.func103 rfl (by kernel_rfl) ?_
 refine xb rfl ?_ ?_ <;> intro hn
 · have hn : 18 < us.length := by simp at hn; omega
   refine xr rfl (q7 rfl ⟨⟨rfl, ?_, trivial⟩, z6 rfl⟩)
   exact vi (by rw [zm, if_pos hn])
 have hn : ¬ 18 < us.length := by simp at hn; omega
 have hr : zm us = scan (z2h us) us.length := by rw [zm, if_neg hn]
 rw [hr]
 refine qd rfl (ι := Nat) (fun i => i ≤ us.length ∧ ∀ j, j < i → z2h us j = 0) (fun i => ⟨[(3, sV (.int .i64 i)), (0, .one (.b (.l (us.map Bal.cs))))], []⟩) (fun i => us.length - i) 0 ⟨Nat.zero_le _, fun j hj => by omega⟩ ?_ ?_
 · exact ⟨⟨rfl, rfl, trivial⟩, trivial, rfl⟩
 · intro i ⟨hi, h0⟩ J hJ
   refine xb rfl ?_ ?_ <;> intro h
   · have h : i < us.length := by simpa using h
     obtain ⟨x, hx⟩ := gx h
     have hg := gm Bal.cs hx
     rcases Nat.eq_zero_or_pos i with hz | hz
     · subst hz
       refine xs rfl (nn_ _) (q9 rfl _ hg (xs rfl rfl (z7 rfl (y69 _ _) rfl tv3 ?_)))
       refine xb rfl ?_ ?_ <;> intro b0
       refine xj (k := 5) rfl ?_
       refine xr rfl (q7 rfl ⟨⟨rfl, ?_, trivial⟩, z6 rfl⟩)
       rotate_left
       refine xj (k := 2) rfl (z7 rfl (zj _ _ _) rfl tv4 (xj (k := 2) rfl ?_))
       refine xb rfl ?_ ?_ <;> intro b1
       refine xr rfl (q7 rfl ⟨⟨rfl, ?_, trivial⟩, z6 rfl⟩)
       rotate_left
       refine ze rfl [] (tk (rg 0 4) (.take 4 [5, 8, 23, 24] (tk [5, 6] (.take 7 [8, 23, 24] (tk (rg 8 6) (.take 14 [15, 22, 23, 24] (tk (rg 15 6) (.take 21 (rg 22 3) (tk [22, 23, 24] .done))))))))) (by kernel_rfl) (xj (k := 23) rfl ?_)
       rotate_left
       all_goals (first | (refine vi (y9 h h0 ?_ (by first | decide | decide | simp_all)); clear hJ h0 hg; first | (simp_all [z2h, Bal.bad, ahead_zero]; done) | (have hxb : x.bad = false := (by simp_all [Bal.bad]); simp only [Bal.y0u hxb, Bal.y0u hpb] at *; simp_all [z2h, qa hz hp]; done)) | (refine za rfl (hJ _ 1 ⟨by omega, yc h0 ?_⟩ (by omega) ⟨⟨cwi (by omega) (by omega) (by omega), rfl, trivial⟩, trivial, rfl⟩); clear hJ h0 hg; first | (simp_all [z2h, Bal.bad, ahead_zero]; done) | (have hxb : x.bad = false := (by simp_all [Bal.bad]); simp only [Bal.y0u hxb, Bal.y0u hpb] at *; simp_all [z2h, qa hz hp]; done)))
     · obtain ⟨p, hp⟩ := gx (xs := us) (i := i - 1) (by omega)
       have hgp := z1a Bal.cs hz (by omega) hp
       have hpb := q5e hp (h0 (i - 1) (by omega))
       refine xs rfl (nn_ _) (q9 rfl _ hg (xs rfl rfl (z7 rfl (y69 _ _) rfl tv3 ?_)))
       refine xb rfl ?_ ?_ <;> intro b0
       refine xj (k := 5) rfl ?_
       refine xr rfl (q7 rfl ⟨⟨rfl, ?_, trivial⟩, z6 rfl⟩)
       rotate_left
       refine xj (k := 2) rfl (z7 rfl (zj _ _ _) rfl tv4 (xj (k := 2) rfl ?_))
       refine xb rfl ?_ ?_ <;> intro b1
       refine xr rfl (q7 rfl ⟨⟨rfl, ?_, trivial⟩, z6 rfl⟩)
       rotate_left
       refine ze rfl [] (tk (rg 0 4) (.take 4 [5, 8, 23, 24] (tk [5, 6] (.take 7 [8, 23, 24] (tk (rg 8 6) (.take 14 [15, 22, 23, 24] (tk (rg 15 6) (.take 21 (rg 22 3) (tk [22, 23, 24] .done))))))))) (by kernel_rfl) ?_
       refine xb rfl ?_ ?_ <;> intro b2
       refine xj (k := 9) rfl (xs rfl (q0m hz (by omega)) (q9 rfl _ hgp (xs rfl rfl (xj (k := 7) rfl (xs rfl (q0m hz (by omega)) (q9 rfl _ hgp (xs rfl rfl (xj (k := 5) rfl ?_))))))))
       refine xb rfl ?_ ?_ <;> intro b3
       refine xr rfl (q7 rfl ⟨⟨rfl, ?_, trivial⟩, z6 rfl⟩)
       rotate_left
       rotate_left
       refine xj (k := 22) rfl ?_
       rotate_left
       all_goals (first | (refine vi (y9 h h0 ?_ (by first | decide | decide | simp_all)); clear hJ h0 hg hgp; first | (simp_all [qa hz hp, z2h, Bal.bad, ahead_zero]; done) | (have hxb : x.bad = false := (by simp_all [Bal.bad]); simp only [Bal.y0u hxb, Bal.y0u hpb] at *; simp_all [z2h, qa hz hp]; done)) | (refine za rfl (hJ _ (i + 1) ⟨by omega, yc h0 ?_⟩ (by omega) ⟨⟨cwi (by omega) (by omega) (by omega), rfl, trivial⟩, trivial, rfl⟩); clear hJ h0 hg hgp; first | (simp_all [qa hz hp, z2h, Bal.bad, ahead_zero]; done) | (have hxb : x.bad = false := (by simp_all [Bal.bad]); simp only [Bal.y0u hxb, Bal.y0u hpb] at *; simp_all [z2h, qa hz hp]; done)))
   · have h : ¬ i < us.length := by simpa using h
     have hz := yg (f := z2h us) (n := us.length) (fun j hj => h0 j (by omega))
     refine xr rfl (q7 rfl ⟨⟨rfl, ?_, trivial⟩, z6 rfl⟩)
     exact vi (hz.symm)
theorem y0i (p x : Bal) : PC Tryz.prog 214 [.agg p.cs, .agg x.cs] (rI (y0b p x)) := by
 refine PC.begin Tryz.func214 rfl (by kernel_rfl) ?_
 refine ze rfl [] (.take 0 [] (.take 1 [4, 9, 10, 11, 12] (.take 2 [] (.take 3 [4, 9, 10, 11, 12] (.take 5 [] (.take 6 (rg 9 4) (.take 7 [] (.take 8 (rg 9 4) (.alt 4 (.alt 9 (.alt 10 (.alt 11 (.take 12 [] .done) .nil) .nil) .nil) .nil))))))))) (by kernel_rfl) (z7 rfl (zu _ _) rfl tv3 (z7 rfl (zu _ _) rfl tv3 (xs rfl tv3 (z7 rfl (q8s [_, _] (by simp)) rfl ⟨rfl, trivial⟩ ?_))))
 refine xr rfl (q7 rfl ⟨⟨rfl, rfl, trivial⟩, z6 rfl⟩)
theorem y8m (us : List Bal) (hl : us.length ≤ 1048576) : PC Tryz.prog 126 [.one (.l (us.map Bal.cs))] (rI (zm us)) := by
 refine PC.begin Tryz.func126 rfl (by kernel_rfl) ?_
 refine xb rfl ?_ ?_ <;> intro hn
 · have hn : 18 < us.length := by simp at hn; omega
   refine xr rfl (q7 rfl ⟨⟨rfl, ?_, trivial⟩, z6 rfl⟩)
   exact vi (by rw [zm, if_pos hn])
 have hn : ¬ 18 < us.length := by simp at hn; omega
 have hr : zm us = scan (z2h us) us.length := by rw [zm, if_neg hn]
 rw [hr]
 have hle : (us.map Bal.cs).length = us.length := by simp
 refine qd rfl (ι := Nat) (fun i => i ≤ us.length ∧ ∀ j, j < i → z2h us j = 0) (fun i => ⟨[(10, sV (.int .i64 i)), (9, sV (.int .i64 (us.map Bal.cs).length)), (8, .one (.b (.l (us.map Bal.cs)))), (0, .one (.b (.l (us.map Bal.cs))))], []⟩) (fun i => us.length - i) 0 ⟨Nat.zero_le _, fun j hj => by omega⟩ ?_ ?_
 · exact ⟨⟨rfl, rfl, rfl, rfl, trivial⟩, trivial, rfl⟩
 · intro i ⟨hi, h0⟩ J hJ
   refine xb rfl ?_ ?_ <;> intro h
   · have h : i < us.length := by simpa using h
     obtain ⟨x, hx⟩ := gx h
     have hg := gm Bal.cs hx
     rcases Nat.eq_zero_or_pos i with hz | hz
     · subst hz
       refine xs rfl (nn_ _) (q9 rfl _ hg (xs rfl rfl (z7 rfl (z2e _ _) rfl tv3 ?_)))
       refine xb rfl ?_ ?_ <;> intro b0
       refine xj (k := 5) rfl ?_
       refine xr rfl (q7 rfl ⟨⟨rfl, ?_, trivial⟩, z6 rfl⟩)
       rotate_left
       refine xj (k := 2) rfl (z7 rfl (zn _ _ _) rfl tv4 (xj (k := 2) rfl ?_))
       refine xb rfl ?_ ?_ <;> intro b1
       refine xr rfl (q7 rfl ⟨⟨rfl, ?_, trivial⟩, z6 rfl⟩)
       rotate_left
       refine ze rfl [] (tk (rg 0 7) (.take 7 (rg 9 4) (.take 8 (rg 9 4) (.alt 9 (tk [10, 11, 12] .done) .nil)))) (by kernel_rfl) (xj (k := 10) rfl ?_)
       rotate_left
       all_goals (first | (refine vi (y9 h h0 ?_ (by first | decide | decide | simp_all)); clear hJ h0 hg; first | (simp_all [z2h, Bal.bad, ahead_zero]; done) | (have hxb : x.bad = false := (by simp_all [Bal.bad]); have hc := y27 hpb hxb; (simp_all [z2h, qa hz hp] <;> omega))) | (refine za rfl (hJ _ 1 ⟨by omega, yc h0 ?_⟩ (by omega) ⟨⟨cwi (by omega) (by omega) (by omega), rfl, rfl, rfl, trivial⟩, trivial, rfl⟩); clear hJ h0 hg; first | (simp_all [z2h, Bal.bad, ahead_zero]; done) | (have hxb : x.bad = false := (by simp_all [Bal.bad]); have hc := y27 hpb hxb; (simp_all [z2h, qa hz hp] <;> omega))))
     · obtain ⟨p, hp⟩ := gx (xs := us) (i := i - 1) (by omega)
       have hgp := z1a Bal.cs hz (by omega) hp
       have hpb := q5e hp (h0 (i - 1) (by omega))
       refine xs rfl (nn_ _) (q9 rfl _ hg (xs rfl rfl (z7 rfl (z2e _ _) rfl tv3 ?_)))
       refine xb rfl ?_ ?_ <;> intro b0
       refine xj (k := 5) rfl ?_
       refine xr rfl (q7 rfl ⟨⟨rfl, ?_, trivial⟩, z6 rfl⟩)
       rotate_left
       refine xj (k := 2) rfl (z7 rfl (zn _ _ _) rfl tv4 (xj (k := 2) rfl ?_))
       refine xb rfl ?_ ?_ <;> intro b1
       refine xr rfl (q7 rfl ⟨⟨rfl, ?_, trivial⟩, z6 rfl⟩)
       rotate_left
       refine ze rfl [] (tk (rg 0 7) (.take 7 (rg 9 4) (.take 8 (rg 9 4) (.alt 9 (tk [10, 11, 12] .done) .nil)))) (by kernel_rfl) ?_
       refine xb rfl ?_ ?_ <;> intro b2
       refine xj (k := 3) rfl (xs rfl (q0m hz (by omega)) (q9 rfl _ hgp (xs rfl rfl (xj (k := 3) rfl (z7 rfl (y0i _ _) rfl ⟨tv4, tv4, trivial⟩ (xj (k := 2) rfl ?_))))))
       refine xb rfl ?_ ?_ <;> intro b3
       refine xr rfl (q7 rfl ⟨⟨rfl, ?_, trivial⟩, z6 rfl⟩)
       rotate_left
       rotate_left
       refine xj (k := 9) rfl ?_
       rotate_left
       all_goals (first | (refine vi (y9 h h0 ?_ (by first | decide | decide | simp_all)); clear hJ h0 hg hgp; first | (simp_all [qa hz hp, z2h, Bal.bad, ahead_zero]; done) | (have hxb : x.bad = false := (by simp_all [Bal.bad]); have hc := y27 hpb hxb; (simp_all [z2h, qa hz hp] <;> omega))) | (refine za rfl (hJ _ (i + 1) ⟨by omega, yc h0 ?_⟩ (by omega) ⟨⟨cwi (by omega) (by omega) (by omega), rfl, rfl, rfl, trivial⟩, trivial, rfl⟩); clear hJ h0 hg hgp; first | (simp_all [qa hz hp, z2h, Bal.bad, ahead_zero]; done) | (have hxb : x.bad = false := (by simp_all [Bal.bad]); have hc := y27 hpb hxb; (simp_all [z2h, qa hz hp] <;> omega))))
   · have h : ¬ i < us.length := by simpa using h
     have hz := yg (f := z2h us) (n := us.length) (fun j hj => h0 j (by omega))
     refine xr rfl (q7 rfl ⟨⟨rfl, ?_, trivial⟩, z6 rfl⟩)
     exact vi (hz.symm)
theorem y56 (us : List Mk) (hl : us.length ≤ 1048576) : PC Tryz.prog 253 [.one (.l (us.map Mk.cs))] (rI (qi us)) := by
 refine PC.begin Tryz.func253 rfl (by kernel_rfl) ?_
 refine qd rfl (ι := Nat) (fun i => i ≤ us.length ∧ ∀ j, j < i → z24 us j = 0) (fun i => ⟨[(3, sV (.int .i64 i)), (0, .one (.b (.l (us.map Mk.cs))))], []⟩) (fun i => us.length - i) 0 ⟨Nat.zero_le _, fun j hj => by omega⟩ ?_ ?_
 · exact ⟨⟨rfl, rfl, trivial⟩, trivial, rfl⟩
 · intro i ⟨hi, h0⟩ J hJ
   refine xb rfl ?_ ?_ <;> intro h
   · have h : i < us.length := by simpa using h
     obtain ⟨x, hx⟩ := gx h
     have hg := gm Mk.cs hx
     rcases Nat.eq_zero_or_pos i with hz | hz
     · subst hz
       refine xs rfl (nn_ _) (q9 rfl _ hg (xs rfl rfl (z7 rfl (y4c _) rfl ⟨trivial, trivial⟩ ?_)))
       refine xb rfl ?_ ?_ <;> intro b0
       refine xj (k := 8) rfl ?_
       refine xr rfl (q7 rfl ⟨⟨rfl, ?_, trivial⟩, z6 rfl⟩)
       rotate_left
       refine xj (k := 2) rfl (xs rfl (nn_ _) (q9 rfl _ hg (xs rfl rfl (xj (k := 3) rfl (z7 rfl (zj _ _ _) rfl tv4 (xj (k := 2) rfl ?_))))))
       refine xb rfl ?_ ?_ <;> intro b1
       refine xr rfl (q7 rfl ⟨⟨rfl, ?_, trivial⟩, z6 rfl⟩)
       rotate_left
       refine ze rfl [] (tk (rg 0 7) (.take 7 [14, 15] (tk (rg 8 5) (.take 13 [14, 15] (tk [14, 15] .done))))) (by kernel_rfl) (xj (k := 14) rfl ?_)
       rotate_left
       all_goals (first | (refine vi (y9 h h0 ?_ (by first | decide | decide | simp_all)); clear hJ h0 hg; simp_all [z24, ahead_zero]) | (refine za rfl (hJ _ 1 ⟨by omega, yc h0 ?_⟩ (by omega) ⟨⟨cwi (by omega) (by omega) (by omega), rfl, trivial⟩, trivial, rfl⟩); clear hJ h0 hg; simp_all [z24, ahead_zero]))
     · obtain ⟨p, hp⟩ := gx (xs := us) (i := i - 1) (by omega)
       have hgp := z1a Mk.cs hz (by omega) hp
       refine xs rfl (nn_ _) (q9 rfl _ hg (xs rfl rfl (z7 rfl (y4c _) rfl ⟨trivial, trivial⟩ ?_)))
       refine xb rfl ?_ ?_ <;> intro b0
       refine xj (k := 8) rfl ?_
       refine xr rfl (q7 rfl ⟨⟨rfl, ?_, trivial⟩, z6 rfl⟩)
       rotate_left
       refine xj (k := 2) rfl (xs rfl (nn_ _) (q9 rfl _ hg (xs rfl rfl (xj (k := 3) rfl (z7 rfl (zj _ _ _) rfl tv4 (xj (k := 2) rfl ?_))))))
       refine xb rfl ?_ ?_ <;> intro b1
       refine xr rfl (q7 rfl ⟨⟨rfl, ?_, trivial⟩, z6 rfl⟩)
       rotate_left
       refine ze rfl [] (tk (rg 0 7) (.take 7 [14, 15] (tk (rg 8 5) (.take 13 [14, 15] (tk [14, 15] .done))))) (by kernel_rfl) ?_
       refine xb rfl ?_ ?_ <;> intro b2
       refine xj (k := 2) rfl (xs rfl (nn_ _) (q9 rfl _ hg (xs rfl rfl (xj (k := 6) rfl (xs rfl (q0m hz (by omega)) (q9 rfl _ hgp (xs rfl rfl (xj (k := 4) rfl ?_))))))))
       refine xb rfl ?_ ?_ <;> intro b3
       refine xr rfl (q7 rfl ⟨⟨rfl, ?_, trivial⟩, z6 rfl⟩)
       rotate_left
       rotate_left
       refine xj (k := 13) rfl ?_
       rotate_left
       all_goals (first | (refine vi (y9 h h0 ?_ (by first | decide | decide | simp_all)); clear hJ h0 hg hgp; simp_all [qa hz hp, z24, ahead_zero]) | (refine za rfl (hJ _ (i + 1) ⟨by omega, yc h0 ?_⟩ (by omega) ⟨⟨cwi (by omega) (by omega) (by omega), rfl, trivial⟩, trivial, rfl⟩); clear hJ h0 hg hgp; simp_all [qa hz hp, z24, ahead_zero]))
   · have h : ¬ i < us.length := by simpa using h
     have hz := yg (f := z24 us) (n := us.length) (fun j hj => h0 j (by omega))
     refine xr rfl (q7 rfl ⟨⟨rfl, ?_, trivial⟩, z6 rfl⟩)
     exact vi (hz.symm)
theorem y4x (us : List Mk) (fn : Nat) (hf : ∀ v, PC Tryz.prog fn [.one (i64 v)] (rB (within v 1 2))) (hl : us.length ≤ 1048576) : PC Tryz.prog 270 [.one (.l (us.map Mk.cs)), .one (.f fn [])] (rI (qi us)) := by
 refine PC.begin Tryz.func270 rfl (by kernel_rfl) ?_
 have hle : (us.map Mk.cs).length = us.length := by simp
 refine qd rfl (ι := Nat) (fun i => i ≤ us.length ∧ ∀ j, j < i → z24 us j = 0) (fun i => ⟨[(9, sV (.int .i64 i)), (8, sV (.int .i64 (us.map Mk.cs).length)), (7, .one (.b (.l (us.map Mk.cs)))), (0, .one (.b (.l (us.map Mk.cs)))), (1, .one (.b (.f fn [])))], []⟩) (fun i => us.length - i) 0 ⟨Nat.zero_le _, fun j hj => by omega⟩ ?_ ?_
 · exact ⟨⟨rfl, rfl, rfl, rfl, rfl, trivial⟩, trivial, rfl⟩
 · intro i ⟨hi, h0⟩ J hJ
   refine xb rfl ?_ ?_ <;> intro h
   · have h : i < us.length := by simpa using h
     obtain ⟨x, hx⟩ := gx h
     have hg := gm Mk.cs hx
     rcases Nat.eq_zero_or_pos i with hz | hz
     · subst hz
       refine xs rfl (nn_ _) (q9 rfl _ hg (xs rfl rfl (z7 rfl (z4c _) rfl ⟨trivial, trivial⟩ ?_)))
       refine xb rfl ?_ ?_ <;> intro b0
       refine xj (k := 6) rfl ?_
       refine xr rfl (q7 rfl ⟨⟨rfl, ?_, trivial⟩, z6 rfl⟩)
       rotate_left
       refine xj (k := 3) rfl (z7 rfl (hf _) rfl ⟨trivial, trivial⟩ (xj (k := 2) rfl ?_))
       refine xb rfl ?_ ?_ <;> intro b1
       refine xr rfl (q7 rfl ⟨⟨rfl, ?_, trivial⟩, z6 rfl⟩)
       rotate_left
       refine ze rfl [] (tk (rg 0 8) (.take 8 (rg 11 3) (.take 9 [] (.take 10 (rg 11 3) (tk [11, 12, 13] .done))))) (by kernel_rfl) (xj (k := 11) rfl ?_)
       rotate_left
       all_goals (first | (refine vi (y9 h h0 ?_ (by first | decide | decide | simp_all)); clear hJ h0 hg; simp_all [z24, ahead_zero]) | (refine za rfl (hJ _ 1 ⟨by omega, yc h0 ?_⟩ (by omega) ⟨⟨cwi (by omega) (by omega) (by omega), rfl, rfl, rfl, rfl, trivial⟩, trivial, rfl⟩); clear hJ h0 hg; simp_all [z24, ahead_zero]))
     · obtain ⟨p, hp⟩ := gx (xs := us) (i := i - 1) (by omega)
       have hgp := z1a Mk.cs hz (by omega) hp
       refine xs rfl (nn_ _) (q9 rfl _ hg (xs rfl rfl (z7 rfl (z4c _) rfl ⟨trivial, trivial⟩ ?_)))
       refine xb rfl ?_ ?_ <;> intro b0
       refine xj (k := 6) rfl ?_
       refine xr rfl (q7 rfl ⟨⟨rfl, ?_, trivial⟩, z6 rfl⟩)
       rotate_left
       refine xj (k := 3) rfl (z7 rfl (hf _) rfl ⟨trivial, trivial⟩ (xj (k := 2) rfl ?_))
       refine xb rfl ?_ ?_ <;> intro b1
       refine xr rfl (q7 rfl ⟨⟨rfl, ?_, trivial⟩, z6 rfl⟩)
       rotate_left
       refine ze rfl [] (tk (rg 0 8) (.take 8 (rg 11 3) (.take 9 [] (.take 10 (rg 11 3) (tk [11, 12, 13] .done))))) (by kernel_rfl) ?_
       refine xb rfl ?_ ?_ <;> intro b2
       refine xj (k := 3) rfl (xs rfl (q0m hz (by omega)) (q9 rfl _ hgp (xs rfl rfl (xj (k := 6) rfl ?_))))
       refine xb rfl ?_ ?_ <;> intro b3
       refine xr rfl (q7 rfl ⟨⟨rfl, ?_, trivial⟩, z6 rfl⟩)
       rotate_left
       rotate_left
       refine xj (k := 10) rfl ?_
       rotate_left
       all_goals (first | (refine vi (y9 h h0 ?_ (by first | decide | decide | simp_all)); clear hJ h0 hg hgp; simp_all [qa hz hp, z24, ahead_zero]) | (refine za rfl (hJ _ (i + 1) ⟨by omega, yc h0 ?_⟩ (by omega) ⟨⟨cwi (by omega) (by omega) (by omega), rfl, rfl, rfl, rfl, trivial⟩, trivial, rfl⟩); clear hJ h0 hg hgp; simp_all [qa hz hp, z24, ahead_zero]))
   · have h : ¬ i < us.length := by simpa using h
     have hz := yg (f := z24 us) (n := us.length) (fun j hj => h0 j (by omega))
     refine xr rfl (q7 rfl ⟨⟨rfl, ?_, trivial⟩, z6 rfl⟩)
     exact vi (hz.symm)
theorem q0n (v : Int) : PC Tryz.prog 271 [.one (i64 v)] (rB (within v 1 2)) := by
 refine PC.begin Tryz.func271 rfl (by kernel_rfl) ?_
 refine xb rfl ?_ ?_ <;> intro b0
 refine xj (k := 2) rfl ?_
 refine xr rfl (q7 rfl ⟨⟨rfl, ?_, trivial⟩, z6 rfl⟩)
 rotate_left
 refine xj (k := 2) rfl ?_
 refine xr rfl (q7 rfl ⟨⟨rfl, ?_, trivial⟩, z6 rfl⟩)
 rotate_left
 all_goals (refine vb ?_; rw [Bool.eq_iff_iff]; (simp_all [within] <;> omega))
theorem q2l (v : Int) : PC Tryz.prog 272 [.one (i64 v)] (rB (within v 1 2)) := by
 refine PC.begin Tryz.func272 rfl (by kernel_rfl) ?_
 refine xb rfl ?_ ?_ <;> intro b0
 refine xj (k := 2) rfl ?_
 refine xr rfl (q7 rfl ⟨⟨rfl, ?_, trivial⟩, z6 rfl⟩)
 rotate_left
 refine xj (k := 2) rfl ?_
 refine xr rfl (q7 rfl ⟨⟨rfl, ?_, trivial⟩, z6 rfl⟩)
 rotate_left
 all_goals (refine vb ?_; rw [Bool.eq_iff_iff]; (simp_all [within] <;> omega))
theorem q1m (c : Con) (s : Int) (hl : c.legs.length ≤ 1048576) : PC Tryz.prog 41 [.agg c.cs, .one (i64 s)] (.one (.own false [.l 4 ((yn c s).map Leg.cs)])) := by
 refine PC.begin Tryz.func41 rfl (by kernel_rfl) ?_
 refine xs rfl trivial ?_
 refine qd rfl (ι := Nat) (fun i => i ≤ c.legs.length) (fun i => ⟨[(6, sV (.int .i64 i)), (5, .one (.h 7 ((c.legs.take i).filter (fun l => l.s == s)).length)), (1, sV (.int .i64 s)), (2, .one (.a 2 0))], [(7, .arr true 4 0 (((c.legs.take i).filter (fun l => l.s == s)).map Leg.cs)), (2, .var (c.cs.map .b))]⟩) (fun i => c.legs.length - i) 0 (Nat.zero_le _) ?_ ?_
 · exact ⟨⟨rfl, ⟨rfl, rfl, rfl⟩, rfl, ⟨rfl, rfl, rfl⟩, trivial⟩, ⟨⟨rfl, .inl rfl, .inl rfl⟩, lcr, trivial⟩, rfl⟩
 · intro i hi J hJ
   refine xb rfl ?_ ?_ <;> intro h
   · have h : i < c.legs.length := by simpa using h
     obtain ⟨x, hx⟩ := gx h
     have hg := gm Leg.cs hx
     have hf := y13 (p := fun l : Leg => l.s == s) hx
     have hfl : ((c.legs.take i).filter (fun l => l.s == s)).length ≤ i := Nat.le_trans (List.length_filter_le _ _) (by simp; omega)
     refine xs rfl (by simp) (q9 rfl _ hg (xs rfl rfl ?_))
     refine xb rfl ?_ ?_ <;> intro b0
     refine xs rfl (by simp) (q9 rfl _ hg (xs rfl rfl (xs rfl tv5 (xs rfl (by simp) (xs rfl rfl (xs rfl (.inl rfl) (xs rfl (by simp; omega) (xs rfl (by simp; omega) ?_))))))))
     rotate_left
     rotate_left
     · refine za rfl (hJ _ (i + 1) (by omega) (by omega) ⟨⟨cwi (by omega) (by omega) (by omega), ⟨rfl, ?_, rfl⟩, rfl, ⟨rfl, rfl, rfl⟩, trivial⟩, ⟨⟨?_, .inl rfl, .inl rfl⟩, lcr, trivial⟩, rfl⟩)
       · rw [hf, if_pos (by simpa using b0)]; simp
       · rw [hf, if_pos (by simpa using b0)]; simp
     · refine za rfl (hJ _ (i + 1) (by omega) (by omega) ⟨⟨cwi (by omega) (by omega) (by omega), ⟨rfl, ?_, rfl⟩, rfl, ⟨rfl, rfl, rfl⟩, trivial⟩, ⟨⟨?_, .inl rfl, .inl rfl⟩, lcr, trivial⟩, rfl⟩)
       · rw [hf, if_neg (by simpa using b0)]; simp
       · rw [hf, if_neg (by simpa using b0)]; simp
   · have h : ¬ i < c.legs.length := by simpa using h
     have e : i = c.legs.length := by omega
     subst e
     refine xr rfl (q7 rfl ⟨⟨rfl, ⟨?_, ?_, .inl rfl⟩, trivial⟩, z6 rfl⟩)
     rotate_left
     rotate_left
     all_goals first | (simp [yn]; done) | skip
theorem z15 (c : Con) (s : Int) (hl : c.legs.length ≤ 1048576) : PC Tryz.prog 127 [.agg c.cs, .one (i64 s)] (.one (.own false [.l 4 ((yn c s).map Leg.cs)])) := by
 refine PC.begin Tryz.func127 rfl (by kernel_rfl) ?_
 have hle : (c.legs.map Leg.cs).length = c.legs.length := by simp
 refine xs rfl trivial ?_
 refine qd rfl (ι := Nat) (fun i => i ≤ c.legs.length) (fun i => ⟨[(12, sV (.int .i64 i)), (5, .one (.h 8 ((c.legs.take i).filter (fun l => l.s == s)).length)), (1, sV (.int .i64 s)), (10, .one (.b (.l (c.legs.map Leg.cs)))), (11, sV (.int .i64 (c.legs.map Leg.cs).length))], [(8, .arr true 4 0 (((c.legs.take i).filter (fun l => l.s == s)).map Leg.cs))]⟩) (fun i => c.legs.length - i) 0 (Nat.zero_le _) ?_ ?_
 · exact ⟨⟨rfl, ⟨rfl, rfl, rfl⟩, rfl, rfl, rfl, trivial⟩, ⟨⟨rfl, .inl rfl, .inl rfl⟩, trivial⟩, rfl⟩
 · intro i hi J hJ
   refine xb rfl ?_ ?_ <;> intro h
   · have h : i < c.legs.length := by simpa using h
     obtain ⟨x, hx⟩ := gx h
     have hg := gm Leg.cs hx
     have hf := y13 (p := fun l : Leg => l.s == s) hx
     have hfl : ((c.legs.take i).filter (fun l => l.s == s)).length ≤ i := Nat.le_trans (List.length_filter_le _ _) (by simp; omega)
     refine xs rfl (by simp) (q9 rfl _ hg (xs rfl rfl ?_))
     refine xb rfl ?_ ?_ <;> intro b0
     refine xs rfl tv5 (xs rfl (by simp) (xs rfl rfl (xs rfl (.inl rfl) (xs rfl (by simp; omega) (xs rfl (by simp; omega) ?_)))))
     rotate_left
     rotate_left
     · refine za rfl (hJ _ (i + 1) (by omega) (by omega) ⟨⟨cwi (by omega) (by omega) (by omega), ⟨rfl, ?_, rfl⟩, rfl, rfl, rfl, trivial⟩, ⟨⟨?_, .inl rfl, .inl rfl⟩, trivial⟩, rfl⟩)
       · rw [hf, if_pos (by simpa using b0)]; simp
       · rw [hf, if_pos (by simpa using b0)]; simp
     · refine za rfl (hJ _ (i + 1) (by omega) (by omega) ⟨⟨cwi (by omega) (by omega) (by omega), ⟨rfl, ?_, rfl⟩, rfl, rfl, rfl, trivial⟩, ⟨⟨?_, .inl rfl, .inl rfl⟩, trivial⟩, rfl⟩)
       · rw [hf, if_neg (by simpa using b0)]; simp
       · rw [hf, if_neg (by simpa using b0)]; simp
   · have h : ¬ i < c.legs.length := by simpa using h
     have e : i = c.legs.length := by omega
     subst e
     refine xr rfl (q7 rfl ⟨⟨rfl, ⟨?_, ?_, .inl rfl⟩, trivial⟩, z6 rfl⟩)
     rotate_left
     rotate_left
     all_goals first | (simp [yn]; done) | skip
theorem y5d (us : List Bal) (a b : Int) (hl : us.length ≤ 1048576) : PC Tryz.prog 383 [.one (.l (us.map Bal.cs)), .one (i64 a), .one (i64 b)] (rI (y4m us a b)) := by
 refine PC.begin Tryz.func383 rfl (by kernel_rfl) ?_
 have hbs := fun fn hf => z8g us (fun x => y0b x ⟨a, b, 0⟩) fn ⟨a, b, 0⟩ hf hl
 cases hq : us[bsP (fun x => y0b x ⟨a, b, 0⟩) us]? with
 | none =>
   have hF : bsF (fun x => y0b x ⟨a, b, 0⟩) us = false := y96 hq
   refine z7 rfl (hbs _ (fun x _ => y0i x _)) rfl ⟨trivial, tv4, (fun _ h => nomatch h), trivial⟩ ?_
   refine xb rfl ?_ ?_ <;> intro b0
   refine xr rfl (q7 rfl ⟨⟨rfl, ?_, trivial⟩, z6 rfl⟩)
   rotate_left
   refine xs rfl (nn_ _) ?_
   rotate_left
   all_goals first | (exfalso; rw [hF] at b0; cases b0; done) | exact vi (q5d hF)
 | some x =>
   have hg : (us.map Bal.cs)[((bsP (fun x => y0b x ⟨a, b, 0⟩) us : Nat) : Int).toNat]? = some x.cs := gm Bal.cs hq
   refine z7 rfl (hbs _ (fun x _ => y0i x _)) rfl ⟨trivial, tv4, (fun _ h => nomatch h), trivial⟩ ?_
   refine xb rfl ?_ ?_ <;> intro b0
   refine xr rfl (q7 rfl ⟨⟨rfl, ?_, trivial⟩, z6 rfl⟩)
   rotate_left
   refine xs rfl (nn_ _) (q9 rfl _ hg (xs rfl rfl ?_))
   refine xr rfl (q7 rfl ⟨⟨rfl, ?_, trivial⟩, z6 rfl⟩)
   rotate_left
   · exact vi (q5d (by simpa using b0))
   · exact vi (z63 (by simpa using b0) hq)
theorem z6t (us : List Bal) (l : Leg) (hl : us.length ≤ 1048576) (hb : -9000000000000000000 ≤ y4m us l.a l.b + l.v ∧ y4m us l.a l.b + l.v ≤ 9000000000000000000) : PC Tryz.prog 370 [.one (.l (us.map Bal.cs)), .agg l.cs] (rI (y8q us l)) := by
 refine PC.begin Tryz.func370 rfl (by kernel_rfl) ?_
 have hw : IntKind.i64.wrap (y4m us l.a l.b + l.v) = y4m us l.a l.b + l.v := wrap_i64 (by omega) (by omega)
 refine ze rfl [] (tk [0, 1] (.take 2 [5, 8, 9] (.take 3 [] (.take 4 [5, 8, 9] (.take 6 [] (.take 7 [8, 9] (.alt 5 (tk [8, 9] .done) .nil))))))) (by kernel_rfl) (z7 rfl (y5d _ _ _ (by omega)) rfl tv4 ?_)
 refine xb rfl ?_ ?_ <;> intro b0
 refine xr rfl (q7 rfl ⟨⟨rfl, ?_, trivial⟩, z6 rfl⟩)
 rotate_left
 refine xb rfl ?_ ?_ <;> intro b1
 refine xr rfl (q7 rfl ⟨⟨rfl, ?_, trivial⟩, z6 rfl⟩)
 rotate_left
 refine xr rfl (q7 rfl ⟨⟨rfl, ?_, trivial⟩, z6 rfl⟩)
 rotate_left
 all_goals (refine vi ?_; rw [hw] at *; simp_all [y8q]; try (repeat' split) <;> omega)
theorem y70 (us : List Bal) (ls : List Leg) (hl : us.length ≤ 1048576) (hl2 : ls.length ≤ 1048576) (hb : ∀ l ∈ ls, -9000000000000000000 ≤ hasB us l.a l.b + l.v ∧ hasB us l.a l.b + l.v ≤ 9000000000000000000) : PC Tryz.prog 334 [.one (.l (us.map Bal.cs)), .one (.l (ls.map Leg.cs))] (rI (z3o us ls)) := by
 refine PC.begin Tryz.func334 rfl (by kernel_rfl) ?_
 rw [z3o]
 refine qd rfl (ι := Nat) (fun i => i ≤ ls.length ∧ ∀ j, j < i → q6s us ls j = 0) (fun i => ⟨[(5, sV (.int .i64 i)), (0, .one (.b (.l (us.map Bal.cs)))), (1, .one (.b (.l (ls.map Leg.cs))))], []⟩) (fun i => ls.length - i) 0 ⟨Nat.zero_le _, fun j hj => by omega⟩ ?_ ?_
 · exact ⟨⟨rfl, rfl, rfl, trivial⟩, trivial, rfl⟩
 · intro i ⟨hi, h0⟩ J hJ
   refine xb rfl ?_ ?_ <;> intro h
   · have h : i < ls.length := by simpa using h
     obtain ⟨x, hx⟩ := gx h
     have hg := gm Leg.cs hx
     have hbx := hb x (List.mem_of_getElem? hx)
     have hw : IntKind.i64.wrap (hasB us x.a x.b + x.v) = hasB us x.a x.b + x.v := wrap_i64 (by omega) (by omega)
     refine ze rfl [] (tk (rg 0 5) (.take 5 [11, 17, 18] (tk (rg 6 4) (.take 10 [11, 17, 18] (tk (rg 12 4) (.take 16 [17, 18] (.alt 11 (tk [17, 18] .done) .nil))))))) (by kernel_rfl) (xs rfl (nn_ _) (q9 rfl _ hg (xs rfl rfl (xs rfl (nn_ _) (q9 rfl _ hg (xs rfl rfl (xs rfl (nn_ _) (q9 rfl _ hg (xs rfl rfl ?_)))))))))
     refine z7 rfl (za1 _ _ _ (by assumption)) rfl tv4 ?_
     refine xb rfl ?_ ?_ <;> intro b0
     refine xr rfl (q7 rfl ⟨⟨rfl, ?_, trivial⟩, z6 rfl⟩)
     rotate_left
     refine xb rfl ?_ ?_ <;> intro b1
     refine xr rfl (q7 rfl ⟨⟨rfl, ?_, trivial⟩, z6 rfl⟩)
     rotate_left
     rotate_left
     all_goals (first | (refine vi (y9 h h0 ?_ (by first | decide | decide | simp_all)); clear hJ h0 hg; (simp only [hw] at *; simp_all [q6s, yb1]; try (repeat' split) <;> omega)) | (refine za rfl (hJ _ (i + 1) ⟨by omega, yc h0 ?_⟩ (by omega) ⟨⟨cwi (by omega) (by omega) (by omega), rfl, rfl, trivial⟩, trivial, rfl⟩); clear hJ h0 hg; (simp only [hw] at *; simp_all [q6s, yb1]; try (repeat' split) <;> omega)))
   · have h : ¬ i < ls.length := by simpa using h
     have hz := yg (f := q6s us ls) (n := ls.length) (fun j hj => h0 j (by omega))
     refine xr rfl (q7 rfl ⟨⟨rfl, ?_, trivial⟩, z6 rfl⟩)
     exact vi (hz.symm)
theorem z6u (x : Mk) (c : Int) : PC Tryz.prog 322 [.agg x.cs, .one (i64 c)] (rI (q0g x.c c)) := by
 refine PC.begin Tryz.func322 rfl (by kernel_rfl) ?_
 refine z7 rfl (zu _ _) rfl tv3 ?_
 refine xr rfl (q7 rfl ⟨⟨rfl, rfl, trivial⟩, z6 rfl⟩)
theorem z50 (us : List Mk) (c : Int) (hl : us.length ≤ 1048576) : PC Tryz.prog 235 [.one (.l (us.map Mk.cs)), .one (i64 c)] (bsV (fun x : Mk => q0g x.c c) us) := by
 refine PC.begin Tryz.func235 rfl (by kernel_rfl) ?_
 have hbs := fun fn hf => z9j us (fun x => q0g x.c c) fn c hf hl
 refine z7 rfl (hbs _ (fun x _ => z6u x c)) rfl ⟨trivial, trivial, (fun _ h => nomatch h), trivial⟩ ?_
 refine xr rfl (q7 rfl ⟨(by decide), ⟨⟨rfl, rfl, trivial⟩, ⟨rfl, rfl, trivial⟩, trivial⟩, z6 rfl⟩)
theorem z0p (us : List Mk) (c : Int) (hl : us.length ≤ 1048576) : PC Tryz.prog 146 [.one (.l (us.map Mk.cs)), .one (i64 c)] (rI (y24 us c)) := by
 refine PC.begin Tryz.func146 rfl (by kernel_rfl) ?_
 cases hq : us[bsP (fun x : Mk => q0g x.c c) us]? with
 | none =>
   have hF : bsF (fun x : Mk => q0g x.c c) us = false := y96 hq
   refine z7 rfl (z50 _ _ (by omega)) rfl tv3 ?_
   refine xb rfl ?_ ?_ <;> intro b0
   refine xr rfl (q7 rfl ⟨⟨rfl, ?_, trivial⟩, z6 rfl⟩)
   rotate_left
   refine xs rfl (nn_ _) ?_
   rotate_left
   all_goals first | (exfalso; rw [hF] at b0; cases b0; done) | exact vi (y4e hF)
 | some x =>
   have hg : (us.map Mk.cs)[((bsP (fun x : Mk => q0g x.c c) us : Nat) : Int).toNat]? = some x.cs := gm Mk.cs hq
   refine z7 rfl (z50 _ _ (by omega)) rfl tv3 ?_
   refine xb rfl ?_ ?_ <;> intro b0
   refine xr rfl (q7 rfl ⟨⟨rfl, ?_, trivial⟩, z6 rfl⟩)
   rotate_left
   refine xs rfl (nn_ _) (q9 rfl _ hg (xs rfl rfl ?_))
   refine xr rfl (q7 rfl ⟨⟨rfl, ?_, trivial⟩, z6 rfl⟩)
   rotate_left
   · exact vi (y4e (by simpa using b0))
   · exact vi (y50 (by simpa using b0) hq)
theorem y6p (x : Con) (c : Int) : PC Tryz.prog 365 [.agg x.cs, .one (i64 c)] (rI (q0g x.id c)) := by
 refine PC.begin Tryz.func365 rfl (by kernel_rfl) ?_
 refine z7 rfl (zu _ _) rfl tv3 ?_
 refine xr rfl (q7 rfl ⟨⟨rfl, rfl, trivial⟩, z6 rfl⟩)
theorem q7k (s : Shd) (c : Int) (hl : s.held.length ≤ 1048576) : PC Tryz.prog 337 [.agg s.cs, .one (i64 c)] (bsV (fun x : Con => q0g x.id c) s.held) := by
 refine PC.begin Tryz.func337 rfl (by kernel_rfl) ?_
 have hbs := fun fn hf => y8g s.held (fun x => q0g x.id c) fn c hf hl
 refine z7 rfl (hbs _ (fun x _ => y6p x c)) rfl ⟨trivial, trivial, (fun _ h => nomatch h), trivial⟩ ?_
 refine xr rfl (q7 rfl ⟨(by decide), ⟨⟨rfl, rfl, trivial⟩, ⟨rfl, rfl, trivial⟩, trivial⟩, z6 rfl⟩)
theorem z6z (s : Shd) (c : Int) (hl : s.held.length ≤ 1048576) : PC Tryz.prog 331 [.agg s.cs, .one (i64 c)] (rB (s.held.any (fun x : Con => x.id == c))) := by
 refine PC.begin Tryz.func331 rfl (by kernel_rfl) ?_
 refine qd rfl (ι := Nat) (fun i => i ≤ s.held.length ∧ ∀ j y, j < i → s.held[j]? = some y → (fun x : Con => x.id == c) y = false) (fun i => ⟨[(5, sV (.int .i64 i)), (1, sV (.int .i64 c)), (2, .one (.a 2 0))], [(2, .var (s.cs.map .b))]⟩) (fun i => s.held.length - i) 0 ⟨Nat.zero_le _, fun j y hj => by omega⟩ ?_ ?_
 · exact ⟨⟨rfl, rfl, ⟨rfl, rfl, rfl⟩, trivial⟩, ⟨lcr, trivial⟩, rfl⟩
 · intro i ⟨hi, h0⟩ J hJ
   refine xb rfl ?_ ?_ <;> intro h
   · have h : i < s.held.length := by simpa using h
     obtain ⟨x, hx⟩ := gx h
     have hg := gm Con.cs hx
     refine xs rfl (nn_ _) (q9 rfl _ hg (xs rfl rfl ?_))
     refine xb rfl ?_ ?_ <;> intro b0
     refine xr rfl (q7 rfl ⟨⟨rfl, ?_, trivial⟩, z6 rfl⟩)
     rotate_left
     rotate_left
     all_goals first | exact vb (zt hx (by simp_all)) | exact za rfl (hJ _ (i + 1) ⟨by omega, zh hx h0 (by simp_all)⟩ (by omega) ⟨⟨cwi (by omega) (by omega) (by omega), rfl, ⟨rfl, rfl, rfl⟩, trivial⟩, ⟨lcr, trivial⟩, rfl⟩)
   · have h : ¬ i < s.held.length := by simpa using h
     refine xr rfl (q7 rfl ⟨⟨rfl, ?_, trivial⟩, z6 rfl⟩)
     exact vb (any_none (yk (by omega) h0))
theorem z81 (us ws : List Leg) (hl : us.length ≤ 1048576) (hl2 : ws.length ≤ 1048576) : PC Tryz.prog 333 [.one (.l (us.map Leg.cs)), .one (.l (ws.map Leg.cs))] (rB (q5b us ws)) := by
 refine PC.begin Tryz.func333 rfl (by kernel_rfl) ?_
 rw [q5b]
 refine qd rfl (ι := Nat) (fun i => i ≤ us.length ∧ ∀ j y, j < i → us[j]? = some y → (ws.any fun z => y.a == z.a && y.b == z.b) = false) (fun i => ⟨[(5, sV (.int .i64 i)), (0, .one (.b (.l (us.map Leg.cs)))), (1, .one (.b (.l (ws.map Leg.cs))))], []⟩) (fun i => us.length - i) 0 ⟨Nat.zero_le _, fun j y hj => by omega⟩ ?_ ?_
 · exact ⟨⟨rfl, rfl, rfl, trivial⟩, trivial, rfl⟩
 · intro i ⟨hi, h0⟩ J hJ
   refine xb rfl ?_ ?_ <;> intro h
   · have h : i < us.length := by simpa using h
     obtain ⟨x, hx⟩ := gx h
     have hg := gm Leg.cs hx
     refine qd rfl (ι := Nat) (fun k => k ≤ ws.length ∧ ∀ j y, j < k → ws[j]? = some y → (x.a == y.a && x.b == y.b) = false) (fun k => ⟨[(6, sV (.int .i64 k)), (5, sV (.int .i64 i)), (0, .one (.b (.l (us.map Leg.cs)))), (1, .one (.b (.l (ws.map Leg.cs))))], []⟩) (fun k => ws.length - k) 0 ⟨Nat.zero_le _, fun j y hj => by omega⟩ ?_ ?_
     · exact ⟨⟨rfl, rfl, rfl, rfl, trivial⟩, trivial, rfl⟩
     · intro k ⟨hk, h1⟩ J2 hJ2
       refine xb rfl (fun h' => ?_) (fun h' => ?_)
       · have h' : k < ws.length := by simpa using h'
         obtain ⟨y, hy⟩ := gx h'
         have hg2 := gm Leg.cs hy
         refine ze rfl [] (tk (rg 0 4) (.take 4 (rg 10 14) (tk (rg 5 4) (.take 9 (rg 10 14) (tk (rg 10 6) (.take 16 [22, 23] (tk (rg 17 4) (.take 21 [22, 23] (tk [22, 23] .done))))))))) (by kernel_rfl) (xs rfl (nn_ _) (q9 rfl _ hg (xs rfl rfl (xs rfl (nn_ _) (q9 rfl _ hg2 (xs rfl rfl ?_))))))
         refine xb rfl ?_ ?_ <;> intro b0
         refine xj (k := 2) rfl (xs rfl (nn_ _) (q9 rfl _ hg (xs rfl rfl (xj (k := 5) rfl (xs rfl (nn_ _) (q9 rfl _ hg2 (xs rfl rfl (xj (k := 4) rfl ?_))))))))
         refine xb rfl ?_ ?_ <;> intro b1
         refine xr rfl (q7 rfl ⟨⟨rfl, ?_, trivial⟩, z6 rfl⟩)
         rotate_left
         rotate_left
         refine xj (k := 12) rfl ?_
         rotate_left
         all_goals first | (refine vb (zt hx (zt hy ?_).symm); simp_all; done) | exact za rfl (hJ2 _ (k + 1) ⟨by omega, zh hy h1 (by simp_all)⟩ (by omega) ⟨⟨cwi (by omega) (by omega) (by omega), rfl, rfl, rfl, trivial⟩, trivial, rfl⟩)
       · have h' : ¬ k < ws.length := by simpa using h'
         skip
         exact za rfl (hJ _ (i + 1) ⟨by omega, zh hx h0 (any_none (yk (by omega) h1)).symm⟩ (by omega) ⟨⟨cwi (by omega) (by omega) (by omega), rfl, rfl, trivial⟩, trivial, rfl⟩)
   · have h : ¬ i < us.length := by simpa using h
     refine xr rfl (q7 rfl ⟨⟨rfl, ?_, trivial⟩, z6 rfl⟩)
     exact vb (any_none (yk (by omega) h0))
theorem z8i (x y : Leg) : PC Tryz.prog 266 [.agg x.cs, .one (.p y.cs)] (rB (x.same y)) := by
 refine PC.begin Tryz.func266 rfl (by kernel_rfl) ?_
 refine z7 rfl (z2o _ _) rfl ⟨tv5, tv5, trivial⟩ ?_
 refine xr rfl (q7 rfl ⟨⟨rfl, rfl, trivial⟩, z6 rfl⟩)
theorem z4b (c : Con) (hl : c.legs.length ≤ 1048576) : PC Tryz.prog 197 [.agg c.cs] (rI (zq c)) := by
 refine PC.begin Tryz.func197 rfl (by kernel_rfl) ?_
 have hKd : Maps.Keyed Tryz.prog 2 := Maps.int_keyed Tryz.underlying2
 have hz : ∀ w, (zeroValue 2).run Tryz.prog w = .ok (.int .i64 0) w := fun w => by kernel_rfl
 have hsz : (Go.Sx.within (((c.legs.map Leg.cs).length : Nat) : Int) 2 8 = true) = (2 ≤ c.legs.length ∧ c.legs.length ≤ 8) := by rw [Go.Sx.within_iff, List.length_map]; apply propext; omega
 unfold zq
 refine z7 rfl (z4c _) rfl ⟨trivial, trivial⟩ ?_
 refine xb rfl ?_ ?_ <;> intro b0
 refine xr rfl (q7 rfl ⟨⟨rfl, ?_, trivial⟩, z6 rfl⟩)
 rotate_left
 refine z7 rfl (q6z _) rfl ⟨trivial, trivial⟩ (z7 rfl (zn _ _ _) rfl tv4 ?_)
 refine xb rfl ?_ ?_ <;> intro b1
 refine xr rfl (q7 rfl ⟨⟨rfl, ?_, trivial⟩, z6 rfl⟩)
 rotate_left
 rotate_left
 · refine vi ?_; simp_all
 · refine vi ?_
   have hid : Go.Sx.within c.id 1 1000000000 = true := by simpa using b0
   have hn : ¬ (2 ≤ c.legs.length ∧ c.legs.length ≤ 8) := by rw [← hsz]; simpa using b1
   rw [if_pos hid, if_neg hn]
 have hid : Go.Sx.within c.id 1 1000000000 = true := by simpa using b0
 have hn : 2 ≤ c.legs.length ∧ c.legs.length ≤ 8 := by rw [← hsz]; simpa using b1
 rw [if_pos hid, if_pos hn]
 clear b0 b1 hsz hid
 refine zaw rfl rfl rfl Tryz.underlying305 rfl ?_
 refine qd rfl (ι := Nat × DataW Unit) (fun p => p.1 ≤ c.legs.length ∧ (∀ j, j < p.1 → z3j c.legs j = 0) ∧ SM (c.legs.take p.1) p.2) (fun p => ⟨[(24, sV (.int .i64 p.1)), (1, .one (.a 1 0)), (3, .one (.mx 0 20)), (22, .one (.b (.l (c.legs.map Leg.cs)))), (23, sV (.int .i64 c.legs.length))], [(1, .var (c.cs.map .b)), (20, .mp 2 2 p.1 p.2 none)]⟩) (fun p => c.legs.length - p.1) (0, .map []) ⟨Nat.zero_le _, fun j hj => (by omega), qac⟩ ?_ ?_
 · exact ⟨⟨rfl, ⟨rfl, rfl, rfl⟩, ⟨rfl, rfl, rfl⟩, rfl, (by rw [List.length_map]; rfl), trivial⟩, ⟨lcr, ⟨rfl, rfl, rfl, rfl, rfl⟩, trivial⟩, rfl⟩
 · intro ⟨i, D⟩ ⟨hi, h0, hS⟩ J hJ
   dsimp only at hi h0 hS hJ ⊢
   refine xb rfl ?_ ?_ <;> intro h
   · have h : i < c.legs.length := by simpa using h
     obtain ⟨x, hx⟩ := gx h
     have hg := gm Leg.cs hx
     have hd : ∀ y ∈ c.legs.take i, y.fault = 0 := z1k h0
     refine xs rfl (nn_ _) (q9 rfl _ hg (xs rfl rfl (z7 rfl (z4x _) rfl ⟨tv5, trivial⟩ ?_)))
     refine xb rfl ?_ ?_ <;> intro b0
     refine xr rfl (q7 rfl ⟨⟨rfl, ?_, trivial⟩, z6 rfl⟩)
     rotate_left
     refine xs rfl (.inl rfl) (xs rfl (nn_ _) (xs rfl (nn_ _) (xs rfl (by simp; omega) (z7 rfl (z5e _ (c.legs.take i) (fun y => y.same x) _ _ (by simp [List.map_take]) (fun y _ => z8i y x) (by rw [List.length_take]; omega)) rfl ⟨trivial, (List.forall_mem_cons.2 ⟨tv5, (fun _ h => nomatch h)⟩), trivial⟩ ?_))))
     refine xb rfl ?_ ?_ <;> intro b1
     refine xr rfl (q7 rfl ⟨⟨rfl, ?_, trivial⟩, z6 rfl⟩)
     rotate_left
     rotate_left
     · refine vi ?_
       rw [y0v h0 (by simp_all [z3j]) h]; simp_all [z3j]
     · refine vi ?_
       rw [y0v h0 (by simp_all [z3j]) h]; simp_all [z3j]
     have hxf : x.fault = 0 := by simpa using b0
     have hok := Leg.q0f hxf
     have hkey : keyOf Tryz.prog 2 (.int .i64 x.b) = some (.int .i64 x.b) := Maps.keyOf_int_mk Tryz.underlying2 (wfi (by omega) (by omega))
     refine zbh rfl rfl rfl rfl Tryz.underlying305 Tryz.underlying2 hKd hz rfl rfl hkey (fun cc hat hwc => ?_)
     have hw := z77 hS hxf hd (by omega) hat
     have hb := y4j (c.legs.take i) x.b (fun y hy => (Leg.q0f (hd y hy)).2.2.2.1)
     have hsm := hok.2.2.2.1
     have hlen : (c.legs.take i).length ≤ 8 := by rw [List.length_take]; omega
     unfold Leg.small at hsm
     have hwf : (Lit.int .i64 (IntKind.i64.wrap (cc + x.v))).wf = true := by rw [hw.2]; exact wfi (by omega) (by omega)
     skip
     refine qbu rfl rfl rfl rfl rfl Tryz.underlying305 Tryz.underlying2 hKd (show i < maxLen by unfold maxLen; omega) rfl rfl hkey rfl hwf ?_
     skip
     exact za rfl (hJ _ (i + 1, _) ⟨by omega, yc h0 (by simp_all [z3j]), q9f hS hx hxf hd (by omega) hat⟩ (by dsimp only; omega) ⟨⟨cwi (by omega) (by omega) (by omega), ⟨rfl, rfl, rfl⟩, ⟨rfl, rfl, rfl⟩, rfl, rfl, trivial⟩, ⟨lcr, ⟨rfl, rfl, rfl, rfl, rfl⟩, trivial⟩, rfl⟩)
   · have h : i = c.legs.length := by have : ¬ i < c.legs.length := (by simpa using h); omega
     have hd : ∀ y ∈ c.legs, y.fault = 0 := by have := z1k h0; rwa [h, List.take_length] at this
     have hz2 := yg (f := z3j c.legs) (n := c.legs.length) (fun j hj => h0 j (by omega))
     rw [h, List.take_length] at hS
     rw [hz2]
     skip
     refine qaw rfl rfl rfl rfl rfl rfl Tryz.underlying305 hKd ?_
     refine qd rfl (ι := (Lit → Bool) × Nat × Option (Value × Value)) (fun p => ∀ a : Int, p.1 (.int .i64 a) = false → q1a c.legs a = 0) (fun p => ⟨[(49, .one (.mx 1 49))], [(49, .mp 2 2 i D (some p))]⟩) (fun p => p.2.1) (Maps.has D, Maps.size D, none) (y9f hS) ?_ ?_
     · exact ⟨⟨⟨rfl, rfl, rfl⟩, trivial⟩, ⟨⟨rfl, rfl, rfl, rfl, rfl⟩, trivial⟩, rfl⟩
     · intro ⟨left, cnt, cur⟩ hL J2 hJ2
       dsimp only at hL hJ2 ⊢
       refine yaw rfl rfl rfl rfl rfl hKd Tryz.underlying2 Tryz.underlying2 (fun _ hall => ?_) (fun y cc cnt' hl hat hwc hlt => ?_)
       · skip
         refine xj (k := 1) rfl ?_
         refine xr rfl (q7 rfl ⟨⟨rfl, ?_, trivial⟩, z6 rfl⟩)
         exact vi (by rw [q70 (fun a => hL a (hall _))]; rfl)
       · have hy := yb5 hS hat
         refine xj (k := 1) rfl (yav rfl rfl rfl rfl rfl rfl rfl (fun vs h => (nomatch h)) (fun vs h => (nomatch h)) ?_)
         refine xb rfl ?_ ?_ <;> intro b0
         refine xr rfl (q7 rfl ⟨⟨rfl, ?_, trivial⟩, z6 rfl⟩)
         rotate_left
         rotate_left
         · exact vi (by rw [y3g hd (a := y) (by rw [hy]; simpa using b0)]; rfl)
         · exact za rfl (hJ2 _ (_, cnt', _) (zap hL hy (by simpa using b0)) hlt ⟨⟨⟨rfl, rfl, rfl⟩, trivial⟩, ⟨⟨rfl, rfl, rfl, rfl, rfl⟩, trivial⟩, rfl⟩)
theorem z4h (c : Con) (hl : c.legs.length ≤ 1048576) : PC Tryz.prog 175 [.agg c.cs] (rI (zq c)) := by
 refine PC.begin Tryz.func175 rfl (by kernel_rfl) ?_
 have fin : ∀ n : Int, (Go.Sx.within c.id 1 1000000000 = true → (2 ≤ c.legs.length ∧ c.legs.length ≤ 8) → n = (if scan (z3j c.legs) c.legs.length ≠ 0 then scan (z3j c.legs) c.legs.length else if z1z c.legs then 1 else 0)) → (Go.Sx.within c.id 1 1000000000 = true) → (2 ≤ c.legs.length ∧ c.legs.length ≤ 8) → n = zq c := fun n h1 h2 h3 => by
  unfold zq; rw [if_pos h2, if_pos h3]; exact h1 h2 h3
 refine z7 rfl (y4c _) rfl ⟨trivial, trivial⟩ ?_
 refine xb rfl ?_ ?_ <;> intro b0
 refine xr rfl (q7 rfl ⟨⟨rfl, ?_, trivial⟩, z6 rfl⟩)
 rotate_left
 refine xb rfl ?_ ?_ <;> intro b1
 refine xj (k := 5) rfl ?_
 refine xr rfl (q7 rfl ⟨⟨rfl, ?_, trivial⟩, z6 rfl⟩)
 rotate_left
 refine xj (k := 4) rfl ?_
 refine xb rfl ?_ ?_ <;> intro b2
 refine xr rfl (q7 rfl ⟨⟨rfl, ?_, trivial⟩, z6 rfl⟩)
 rotate_left
 refine xs rfl rfl (xs rfl (nn_ _) (xs rfl (nn_ _) (xs rfl (nn_ _) ?_)))
 rotate_left
 · refine vi ?_; unfold zq; simp_all
 · refine vi ?_
   have hid : Go.Sx.within c.id 1 1000000000 = true := by simpa using b0
   unfold zq
   rw [if_pos hid, if_neg (by simp at b1; omega)]
 · refine vi ?_
   have hid : Go.Sx.within c.id 1 1000000000 = true := by simpa using b0
   unfold zq
   rw [if_pos hid, if_neg (by simp at b2; omega)]
 have hid : Go.Sx.within c.id 1 1000000000 = true := by simpa using b0
 have hn : 2 ≤ c.legs.length ∧ c.legs.length ≤ 8 := by
  simp at b1 b2; omega
 clear b0 b1 b2
 refine qd rfl (ι := Nat) (fun i => i ≤ c.legs.length ∧ ∀ j, j < i → z3j c.legs j = 0) (fun i => ⟨[(4, sV (.int .i64 i)), (1, .one (.a 1 0)), (3, .one (.h 24 3))], [(1, .var (c.cs.map .b)), (24, .arr true 1 0 (y55 (c.legs.take i)))]⟩) (fun i => c.legs.length - i) 0 ⟨Nat.zero_le _, fun j hj => (by omega)⟩ ?_ ?_
 · exact ⟨⟨rfl, ⟨rfl, rfl, rfl⟩, ⟨rfl, rfl, rfl⟩, trivial⟩, ⟨lcr, ⟨rfl, .inl rfl, .inl rfl⟩, trivial⟩, rfl⟩
 · intro i ⟨hi, h0⟩ J hJ
   have hd : ∀ y ∈ c.legs.take i, y.fault = 0 := z1k h0
   refine xb rfl ?_ ?_ <;> intro h
   · have h : i < c.legs.length := by simpa using h
     obtain ⟨x, hx⟩ := gx h
     have hg := gm Leg.cs hx
     refine xs rfl (nn_ _) (q9 rfl _ hg (xs rfl rfl (z7 rfl (z56 _) rfl ⟨tv5, trivial⟩ ?_)))
     refine xb rfl ?_ ?_ <;> intro b0
     refine xr rfl (q7 rfl ⟨⟨rfl, ?_, trivial⟩, z6 rfl⟩)
     rotate_left
     rotate_left
     · refine vi (fin _ (fun _ _ => ?_) hid hn)
       rw [y0v h0 (by simp_all [z3j]) h]; simp_all [z3j]
     have hxf : x.fault = 0 := by simpa using b0
     have hok := Leg.q0f hxf
     refine qd rfl (ι := Nat) (fun k => k ≤ i ∧ ∀ j y, j < k → c.legs[j]? = some y → y.same x = false) (fun k => ⟨[(7, sV (.int .i64 k)), (4, sV (.int .i64 i)), (1, .one (.a 1 0)), (3, .one (.h 24 3)), (5, .one (.a 5 0))], [(1, .var (c.cs.map .b)), (24, .arr true 1 0 (y55 (c.legs.take i))), (5, .var (x.cs.map .b))]⟩) (fun k => i - k) 0 ⟨Nat.zero_le _, fun j y hj => (by omega)⟩ ?_ ?_
     · exact ⟨⟨rfl, rfl, ⟨rfl, rfl, rfl⟩, ⟨rfl, rfl, rfl⟩, ⟨rfl, rfl, rfl⟩, trivial⟩, ⟨lcr, ⟨rfl, .inl rfl, .inl rfl⟩, ⟨rfl, rfl, rfl, rfl, trivial⟩, trivial⟩, rfl⟩
     · intro k ⟨hk, h1⟩ J2 hJ2
       refine xb rfl (fun h' => ?_) (fun h' => ?_)
       · have h' : k < i := by simpa using h'
         obtain ⟨y, hy⟩ := gx (xs := c.legs) (i := k) (by omega)
         have hg2 := gm Leg.cs hy
         have hyt : (c.legs.take i)[k]? = some y := by rw [List.getElem?_take, if_pos h', hy]
         refine xs rfl (nn_ _) (q9 rfl _ hg2 (xs rfl rfl ?_))
         refine xb rfl ?_ ?_ <;> intro b0
         refine xj (k := 5) rfl ?_
         refine xb rfl ?_ ?_ <;> intro b1
         refine xj (k := 5) rfl ?_
         refine xb rfl ?_ ?_ <;> intro b2
         refine xr rfl (q7 rfl ⟨⟨rfl, ?_, trivial⟩, z6 rfl⟩)
         rotate_left
         rotate_left
         refine xj (k := 6) rfl ?_
         rotate_left
         refine xj (k := 12) rfl ?_
         rotate_left
         all_goals first | (refine vi (fin _ (fun _ _ => ?_) hid hn); have hsame : y.same x = true := (by simp_all [Leg.same]); have ha := (zt (p := fun y : Leg => y.same x) hyt hsame).symm; have hc7 : z3j c.legs i = 7 := (by simp only [z3j, hx, hxf]; rw [if_neg (by simp), if_pos ha]); rw [y0v h0 (by rw [hc7]; decide) h, hc7]; rfl) | exact za rfl (hJ2 _ (k + 1) ⟨by omega, zh hy h1 (by simp_all [Leg.same])⟩ (by omega) ⟨⟨cwi (by omega) (by omega) (by omega), rfl, ⟨rfl, rfl, rfl⟩, ⟨rfl, rfl, rfl⟩, ⟨rfl, rfl, rfl⟩, trivial⟩, ⟨lcr, ⟨rfl, .inl rfl, .inl rfl⟩, ⟨rfl, rfl, rfl, rfl, trivial⟩, trivial⟩, rfl⟩)
       · have h' : ¬ k < i := by simpa using h'
         have hnone := any_none (p := fun y : Leg => y.same x) (l := c.legs.take i) (fun j y hj => by
          rw [List.getElem?_take] at hj
          split at hj
          · exact h1 j y (by omega) hj
          · cases hj)
         have hc0 : z3j c.legs i = 0 := by
          simp only [z3j, hx, hxf]; rw [if_neg (by simp), if_neg (by rw [← hnone]; decide)]
         have hrow := q55 (l := c.legs.take i) (b := x.b) (by omega) (by omega)
         have hb0 : 0 ≤ x.b := by omega
         refine ze rfl [] (tk [0, 1] (.take 2 [11, 12] (tk [3, 4] (.take 5 [6, 7, 10, 11, 12] (.take 6 [] (.take 7 (rg 10 3) (.take 8 [] (.take 9 (rg 10 3) (tk [10, 11] (.alt 12 .done .nil)))))))))) (by kernel_rfl) (xs rfl rfl (xs rfl (hb0) (q9 rfl _ hrow (xs rfl rfl (xs rfl rfl (q9 rfl _ hrow (xs rfl rfl (xs rfl (hb0) (q9 rfl _ hrow ?_)))))))))
         refine xs rfl rfl (xs rfl rfl (q9 rfl _ hrow (xs rfl (Nat.le_refl _) (xs rfl ⟨trivial, trivial⟩ ?_))))
         exact za rfl (hJ _ (i + 1) ⟨by omega, yc h0 hc0⟩ (by omega) ⟨⟨cwi (by omega) (by omega) (by omega), ⟨rfl, rfl, rfl⟩, ⟨rfl, rfl, rfl⟩, trivial⟩, ⟨lcr, ⟨y6y hx (by omega) (by omega) hd hxf (by omega), .inl rfl, .inl rfl⟩, trivial⟩, rfl⟩)
   · have h : i = c.legs.length := by have : ¬ i < c.legs.length := (by simpa using h); omega
     have hz2 := yg (f := z3j c.legs) (n := c.legs.length) (fun j hj => h0 j (by omega))
     rw [h, List.take_length] at hd
     rw [h, List.take_length]
     skip
     refine qd rfl (ι := Nat) (fun k => k ≤ 3 ∧ ∀ j : Nat, j < k → q1a c.legs j = 0) (fun k => ⟨[(9, sV (.int .i64 k)), (3, .one (.h 24 3))], [(24, .arr true 1 0 (y55 c.legs))]⟩) (fun k => 3 - k) 0 ⟨by omega, fun j hj => (by omega)⟩ ?_ ?_
     · exact ⟨⟨rfl, ⟨rfl, rfl, rfl⟩, trivial⟩, ⟨⟨rfl, .inl rfl, .inl rfl⟩, trivial⟩, rfl⟩
     · intro k ⟨hk, h1⟩ J2 hJ2
       refine xb rfl (fun h' => ?_) (fun h' => ?_)
       · have h' : k < 3 := by simp at h'; omega
         have hrow : (y55 c.legs)[(k : Int).toNat]? = some [i64 (q1a c.legs k)] := q55 (by omega) (by omega)
         refine xs rfl rfl (xs rfl (nn_ _) (q9 rfl _ hrow (xs rfl rfl (xs rfl rfl (q9 rfl _ hrow ?_)))))
         refine xb rfl ?_ ?_ <;> intro b0
         refine xr rfl (q7 rfl ⟨⟨rfl, ?_, trivial⟩, z6 rfl⟩)
         rotate_left
         rotate_left
         · refine vi (fin _ (fun _ _ => ?_) hid hn)
           rw [hz2, y3g hd (a := k) (by simpa using b0)]; rfl
         · exact za rfl (hJ2 _ (k + 1) ⟨by omega, fun j hj => by
            by_cases e : j = k
            · subst e; simpa using b0
            · exact h1 j (by omega)⟩ (by omega) ⟨⟨cwi (by omega) (by omega) (by omega), ⟨rfl, rfl, rfl⟩, trivial⟩, ⟨⟨rfl, .inl rfl, .inl rfl⟩, trivial⟩, rfl⟩)
       · have h' : k = 3 := by simp at h'; omega
         subst h'
         refine xr rfl (q7 rfl ⟨⟨rfl, ?_, trivial⟩, z6 rfl⟩)
         refine vi (fin _ (fun _ _ => ?_) hid hn)
         have a0 := h1 0 (by omega)
         have a1 := h1 1 (by omega)
         have a2 := h1 2 (by omega)
         rw [hz2]
         simp at a0 a1 a2
         simp [z1z, a0, a1, a2]
def q4n (s : Shd) : Prop := s.bals.length ≤ 1048576 ∧ s.votes.length ≤ 1048576 ∧ s.held.length ≤ 1048576 ∧ s.done.length ≤ 1048576 ∧ s.app.length ≤ 1048576 ∧ ∀ c ∈ s.held, c.legs.length ≤ 1048576
theorem yal (rr : List (List Cell)) (us : List Mk) (p : Mk → Bool) (fn : Nat) (s : Shd) (hr : rr = us.map Mk.cs) (hf : ∀ x ∈ us, PC Tryz.prog fn [.agg s.cs, .agg x.cs] (rB (p x))) (hl : us.length ≤ 1048576) : PC Tryz.prog 277 [.one (.l rr), .one (.m fn true s.cs)] (rI (y1d p us)) := by
 refine PC.begin Tryz.func277 rfl (by kernel_rfl) ?_
 subst hr
 have hn : (us.map Mk.cs).length = us.length := by simp
 refine qd rfl (ι := Nat) (fun i => i ≤ us.length ∧ ∀ j y, j < i → us[j]? = some y → p y = false) (fun i => ⟨[(8, sV (.int .i64 i)), (7, sV (.int .i64 (us.map Mk.cs).length)), (0, .one (.b (.l (us.map Mk.cs)))), (1, .one (.b (.m fn true s.cs)))], []⟩) (fun i => us.length - i) 0 ⟨Nat.zero_le _, fun j y hj => by omega⟩ ?_ ?_
 · exact ⟨⟨rfl, rfl, rfl, rfl, trivial⟩, trivial, rfl⟩
 · intro i ⟨hi, h0⟩ J hJ
   refine xb rfl ?_ ?_ <;> intro h
   · have h : i < us.length := by simpa using h
     obtain ⟨x, hx⟩ := gx h
     have hg := gm Mk.cs hx
     have hxm := List.mem_of_getElem? hx
     refine xs rfl (nn_ _) (q9 rfl _ hg (xs rfl rfl (z7 rfl (hf _ hxm) rfl ⟨tv7, tv3, trivial⟩ ?_)))
     refine xb rfl ?_ ?_ <;> intro b0
     refine xr rfl (q7 rfl ⟨⟨rfl, ?_, trivial⟩, z6 rfl⟩)
     rotate_left
     rotate_left
     · exact vi (y07 hx h0 b0).symm
     · exact za rfl (hJ _ (i + 1) ⟨by omega, zh hx h0 b0⟩ (by omega) ⟨⟨cwi (by omega) (by omega) (by omega), rfl, rfl, rfl, trivial⟩, trivial, rfl⟩)
   · have h : ¬ i < us.length := by simpa using h
     refine xr rfl (q7 rfl ⟨⟨rfl, ?_, trivial⟩, z6 rfl⟩)
     exact vi (q01 (yk (by omega) h0)).symm
theorem qaf (rr : List (List Cell)) (us : List Mk) (p : Mk → Bool) (fn : Nat) (s : Shd) (hr : rr = us.map Mk.cs) (hf : ∀ x ∈ us, PC Tryz.prog fn [.agg s.cs, .agg x.cs] (rB (p x))) (hl : us.length ≤ 1048576) : PC Tryz.prog 202 [.one (.l rr), .one (.m fn true s.cs)] (rB (us.any p)) := by
 refine PC.begin Tryz.func202 rfl (by kernel_rfl) ?_
 have hi := yal rr us p fn s hr hf hl
 refine z7 rfl (hi) rfl tv3 ?_
 refine xr rfl (q7 rfl ⟨⟨rfl, ?_, trivial⟩, z6 rfl⟩)
 exact vb z0g
theorem y4w (s : Shd) (ho : q4n s) : PC Tryz.prog 273 [.agg s.cs] (rI (yq y24 s)) := by
 refine PC.begin Tryz.func273 rfl (by kernel_rfl) ?_
 have ho' := ho
 obtain ⟨o1, o2, o3, o4, o5, o6⟩ := ho'
 rw [yq]
 refine qd rfl (ι := Nat) (fun i => i ≤ s.held.length ∧ ∀ j, j < i → q1o y24 s j = 0) (fun i => ⟨[(9, sV (.int .i64 i)), (1, .one (.a 1 0)), (7, .one (.b (.l (s.held.map Con.cs)))), (8, sV (.int .i64 (s.held.map Con.cs).length))], [(1, .var (s.cs.map .b))]⟩) (fun i => s.held.length - i) 0 ⟨Nat.zero_le _, fun j hj => by omega⟩ ?_ ?_
 · exact ⟨⟨rfl, ⟨rfl, rfl, rfl⟩, rfl, rfl, trivial⟩, ⟨lcr, trivial⟩, rfl⟩
 · intro i ⟨hi, h0⟩ J hJ
   refine xb rfl ?_ ?_ <;> intro h
   · have h : i < s.held.length := by simpa using h
     obtain ⟨x, hx⟩ := gx h
     have hg := gm Con.cs hx
     have hcl := o6 x (List.mem_of_getElem? hx)
     rcases Nat.eq_zero_or_pos i with hz | hz
     · subst hz
       refine xs rfl (nn_ _) (q9 rfl _ hg (xs rfl rfl (z7 rfl (z4b _ (by assumption)) rfl ⟨tv3, trivial⟩ ?_)))
       refine xb rfl ?_ ?_ <;> intro b0
       refine xr rfl (q7 rfl ⟨⟨rfl, ?_, trivial⟩, z6 rfl⟩)
       rotate_left
       refine ze rfl [] (tk (rg 0 4) (.take 4 (rg 7 3 ++ rg 12 26) (tk (rg 5 4) (.take 9 (rg 12 26) (.take 10 [] (.take 11 (rg 12 26) (tk [12, 13, 14] (.take 15 (rg 18 20) (.take 16 [] (.take 17 (rg 18 20) (.alt 18 (tk (rg 19 5) (.take 24 (rg 27 11) (.take 25 [] (.take 26 (rg 27 11) (.alt 27 (tk (rg 28 4) (.take 32 (rg 35 3) (.take 33 [] (.take 34 (rg 35 3) (.alt 35 (tk [36, 37] .done) .nil))))) .nil))))) .nil))))))))))) (by kernel_rfl) (xj (k := 15) rfl (z7 rfl (z15 _ _ (by omega)) rfl ⟨tv3, trivial, trivial⟩ (xj (k := 3) rfl ?_)))
       refine xb rfl ?_ ?_ <;> intro b1
       refine xj (k := 14) rfl ?_
       refine xr rfl (q7 rfl ⟨⟨rfl, ?_, trivial⟩, z6 rfl⟩)
       rotate_left
       refine xj (k := 4) rfl (z7 rfl (z0p _ _ (by omega)) rfl tv3 (xj (k := 2) rfl ?_))
       refine xb rfl ?_ ?_ <;> intro b2
       refine xj (k := 7) rfl ?_
       refine xr rfl (q7 rfl ⟨⟨rfl, ?_, trivial⟩, z6 rfl⟩)
       rotate_left
       refine xj (k := 4) rfl (z7 rfl (z0p _ _ (by omega)) rfl tv3 (xj (k := 2) rfl ?_))
       refine xb rfl ?_ ?_ <;> intro b3
       refine xr rfl (q7 rfl ⟨⟨rfl, ?_, trivial⟩, z6 rfl⟩)
       rotate_left
       rotate_left
       all_goals (first | (refine vi (y9 h h0 ?_ (by first | decide | decide | simp_all)); clear hJ h0 hg; simp_all [q1o, ahead_zero]) | (refine za rfl (hJ _ 1 ⟨by omega, yc h0 ?_⟩ (by omega) ⟨⟨cwi (by omega) (by omega) (by omega), ⟨rfl, rfl, rfl⟩, rfl, rfl, trivial⟩, ⟨lcr, trivial⟩, rfl⟩); clear hJ h0 hg; simp_all [q1o, ahead_zero]))
     · obtain ⟨p, hp⟩ := gx (xs := s.held) (i := i - 1) (by omega)
       have hgp := z1a Con.cs hz (by omega) hp
       refine xs rfl (nn_ _) (q9 rfl _ hg (xs rfl rfl (z7 rfl (z4b _ (by assumption)) rfl ⟨tv3, trivial⟩ ?_)))
       refine xb rfl ?_ ?_ <;> intro b0
       refine xr rfl (q7 rfl ⟨⟨rfl, ?_, trivial⟩, z6 rfl⟩)
       rotate_left
       refine ze rfl [] (tk (rg 0 4) (.take 4 (rg 7 3 ++ rg 12 26) (tk (rg 5 4) (.take 9 (rg 12 26) (.take 10 [] (.take 11 (rg 12 26) (tk [12, 13, 14] (.take 15 (rg 18 20) (.take 16 [] (.take 17 (rg 18 20) (.alt 18 (tk (rg 19 5) (.take 24 (rg 27 11) (.take 25 [] (.take 26 (rg 27 11) (.alt 27 (tk (rg 28 4) (.take 32 (rg 35 3) (.take 33 [] (.take 34 (rg 35 3) (.alt 35 (tk [36, 37] .done) .nil))))) .nil))))) .nil))))))))))) (by kernel_rfl) ?_
       refine xb rfl ?_ ?_ <;> intro b1
       refine xj (k := 4) rfl (xs rfl (q0m hz (by omega)) (q9 rfl _ hgp (xs rfl rfl (xj (k := 6) rfl ?_))))
       refine xb rfl ?_ ?_ <;> intro b2
       refine xj (k := 21) rfl ?_
       refine xr rfl (q7 rfl ⟨⟨rfl, ?_, trivial⟩, z6 rfl⟩)
       rotate_left
       refine xj (k := 3) rfl (z7 rfl (z15 _ _ (by omega)) rfl ⟨tv3, trivial, trivial⟩ (xj (k := 3) rfl ?_))
       refine xb rfl ?_ ?_ <;> intro b3
       refine xj (k := 14) rfl ?_
       refine xr rfl (q7 rfl ⟨⟨rfl, ?_, trivial⟩, z6 rfl⟩)
       rotate_left
       refine xj (k := 4) rfl (z7 rfl (z0p _ _ (by omega)) rfl tv3 (xj (k := 2) rfl ?_))
       refine xb rfl ?_ ?_ <;> intro b4
       refine xj (k := 7) rfl ?_
       refine xr rfl (q7 rfl ⟨⟨rfl, ?_, trivial⟩, z6 rfl⟩)
       rotate_left
       refine xj (k := 4) rfl (z7 rfl (z0p _ _ (by omega)) rfl tv3 (xj (k := 2) rfl ?_))
       refine xb rfl ?_ ?_ <;> intro b5
       refine xr rfl (q7 rfl ⟨⟨rfl, ?_, trivial⟩, z6 rfl⟩)
       rotate_left
       rotate_left
       refine xj (k := 14) rfl (z7 rfl (z15 _ _ (by omega)) rfl ⟨tv3, trivial, trivial⟩ (xj (k := 3) rfl ?_))
       refine xb rfl ?_ ?_ <;> intro b2
       refine xj (k := 14) rfl ?_
       refine xr rfl (q7 rfl ⟨⟨rfl, ?_, trivial⟩, z6 rfl⟩)
       rotate_left
       refine xj (k := 4) rfl (z7 rfl (z0p _ _ (by omega)) rfl tv3 (xj (k := 2) rfl ?_))
       refine xb rfl ?_ ?_ <;> intro b3
       refine xj (k := 7) rfl ?_
       refine xr rfl (q7 rfl ⟨⟨rfl, ?_, trivial⟩, z6 rfl⟩)
       rotate_left
       refine xj (k := 4) rfl (z7 rfl (z0p _ _ (by omega)) rfl tv3 (xj (k := 2) rfl ?_))
       refine xb rfl ?_ ?_ <;> intro b4
       refine xr rfl (q7 rfl ⟨⟨rfl, ?_, trivial⟩, z6 rfl⟩)
       rotate_left
       rotate_left
       all_goals (first | (refine vi (y9 h h0 ?_ (by first | decide | decide | simp_all)); clear hJ h0 hg hgp; simp_all [qa hz hp, q1o, ahead_zero]) | (refine za rfl (hJ _ (i + 1) ⟨by omega, yc h0 ?_⟩ (by omega) ⟨⟨cwi (by omega) (by omega) (by omega), ⟨rfl, rfl, rfl⟩, rfl, rfl, trivial⟩, ⟨lcr, trivial⟩, rfl⟩); clear hJ h0 hg hgp; simp_all [qa hz hp, q1o, ahead_zero]))
   · have h : ¬ i < s.held.length := by simpa using h
     have hz := yg (f := q1o y24 s) (n := s.held.length) (fun j hj => h0 j (by omega))
     refine xr rfl (q7 rfl ⟨⟨rfl, ?_, trivial⟩, z6 rfl⟩)
     exact vi (hz.symm)
theorem q7n (s : Shd) (m : Mk) (ho : q4n s) : PC Tryz.prog 274 [.agg s.cs, .agg m.cs] (rB (z6w s m)) := by
 refine PC.begin Tryz.func274 rfl (by kernel_rfl) ?_
 have ho' := ho
 obtain ⟨o1, o2, o3, o4, o5, o6⟩ := ho'
 refine z7 rfl (q7k _ _ (by assumption)) rfl ⟨tv7, trivial, trivial⟩ ?_
 refine xb rfl ?_ ?_ <;> intro b0
 refine xj (k := 2) rfl ?_
 refine xb rfl ?_ ?_ <;> intro b1
 refine xj (k := 4) rfl (z7 rfl (z0p _ _ (by omega)) rfl tv3 (xj (k := 2) rfl ?_))
 refine xr rfl (q7 rfl ⟨⟨rfl, ?_, trivial⟩, z6 rfl⟩)
 rotate_left
 refine xj (k := 6) rfl ?_
 refine xr rfl (q7 rfl ⟨⟨rfl, ?_, trivial⟩, z6 rfl⟩)
 rotate_left
 refine xj (k := 9) rfl ?_
 refine xr rfl (q7 rfl ⟨⟨rfl, ?_, trivial⟩, z6 rfl⟩)
 rotate_left
 all_goals (refine vb ?_; simp_all [z6w])
theorem y7s (x y : Leg) : PC Tryz.prog 369 [.agg y.cs, .one (.p x.cs)] (rB (x.same y)) := by
 refine PC.begin Tryz.func369 rfl (by kernel_rfl) ?_
 refine z7 rfl (z2o _ _) rfl ⟨tv5, tv5, trivial⟩ ?_
 refine xr rfl (q7 rfl ⟨⟨rfl, rfl, trivial⟩, z6 rfl⟩)
theorem z8r (s : Shd) (b : Con) (x : Leg) (hl : b.legs.length ≤ 1048576) : PC Tryz.prog 368 [.agg x.cs, .one (.p b.cs), .one (.p s.cs)] (rB ((yn b s.idx).any fun m => x.same m)) := by
 refine PC.begin Tryz.func368 rfl (by kernel_rfl) ?_
 have hlb : (yn b s.idx).length ≤ 1048576 := Nat.le_trans (List.length_filter_le _ _) (by omega)
 refine z7 rfl (z15 _ _ (by omega)) rfl ⟨tv3, trivial, trivial⟩ (z7 rfl (z5e _ (yn b s.idx) (fun m => x.same m) _ _ rfl (fun m _ => y7s x m) hlb) rfl ⟨rfl, (List.forall_mem_cons.2 ⟨tv5, (fun _ h => nomatch h)⟩), trivial⟩ ?_)
 refine xr rfl (q7 rfl ⟨⟨rfl, rfl, trivial⟩, z6 rfl⟩)
theorem y5n (s : Shd) (a b : Con) (ha : a.legs.length ≤ 1048576) (hb : b.legs.length ≤ 1048576) : PC Tryz.prog 343 [.agg s.cs, .agg a.cs, .agg b.cs] (rB (y6u s a b)) := by
 refine PC.begin Tryz.func343 rfl (by kernel_rfl) ?_
 have hlb : (yn a s.idx).length ≤ 1048576 := Nat.le_trans (List.length_filter_le _ _) (by omega)
 refine z7 rfl (z15 _ _ (by omega)) rfl ⟨tv3, trivial, trivial⟩ (z7 rfl (y9h _ (yn a s.idx) (fun l => (yn b s.idx).any fun m => l.same m) _ _ _ rfl (fun l _ => z8r s b l hb) hlb) rfl ⟨rfl, (List.forall_mem_cons.2 ⟨tv3, (List.forall_mem_cons.2 ⟨tv7, (fun _ h => nomatch h)⟩)⟩), trivial⟩ ?_)
 refine xr rfl (q7 rfl ⟨⟨rfl, rfl, trivial⟩, z6 rfl⟩)
theorem y5b (s : Shd) (a b : Con) (ha : a.legs.length ≤ 1048576) (hb : b.legs.length ≤ 1048576) : PC Tryz.prog 342 [.agg a.cs, .one (.p s.cs), .one (.p b.cs)] (rB (y6u s a b)) := by
 refine PC.begin Tryz.func342 rfl (by kernel_rfl) ?_
 refine z7 rfl (y5n _ _ _ (by omega) (by omega)) rfl ⟨tv7, tv3, tv3, trivial⟩ ?_
 refine xr rfl (q7 rfl ⟨⟨rfl, rfl, trivial⟩, z6 rfl⟩)
theorem y9m (s : Shd) (c : Con) (hl : s.bals.length ≤ 1048576) (hc : c.legs.length ≤ 1048576) (hb : ∀ l ∈ yn c s.idx, -9000000000000000000 ≤ y4m s.bals l.a l.b + l.v ∧ y4m s.bals l.a l.b + l.v ≤ 9000000000000000000) : PC Tryz.prog 344 [.agg s.cs, .agg c.cs] (rI (z1r s.bals (yn c s.idx))) := by
 refine PC.begin Tryz.func344 rfl (by kernel_rfl) ?_
 have hlb : (yn c s.idx).length ≤ 1048576 := Nat.le_trans (List.length_filter_le _ _) (by omega)
 rw [z1r]
 refine z7 rfl (z15 _ _ (by omega)) rfl ⟨tv3, trivial, trivial⟩ ?_
 refine qd rfl (ι := Nat) (fun i => i ≤ (yn c s.idx).length ∧ ∀ j, j < i → z3v s.bals (yn c s.idx) j = 0) (fun i => ⟨[(13, sV (.int .i64 i)), (2, .one (.a 2 0)), (11, .one (.h 1200000 ((yn c s.idx).map Leg.cs).length)), (12, sV (.int .i64 ((yn c s.idx).map Leg.cs).length))], [(2, .var (s.cs.map .b)), (1200000, .arr true 4 0 ((yn c s.idx).map Leg.cs))]⟩) (fun i => (yn c s.idx).length - i) 0 ⟨Nat.zero_le _, fun j hj => by omega⟩ ?_ ?_
 · exact ⟨⟨rfl, ⟨rfl, rfl, rfl⟩, ⟨rfl, rfl, rfl⟩, rfl, trivial⟩, ⟨lcr, ⟨rfl, .inl rfl, .inl rfl⟩, trivial⟩, rfl⟩
 · intro i ⟨hi, h0⟩ J hJ
   refine xb rfl ?_ ?_ <;> intro h
   · have h : i < (yn c s.idx).length := by simpa using h
     obtain ⟨x, hx⟩ := gx h
     have hg := gm Leg.cs hx
     have hbx := hb x (List.mem_of_getElem? hx)
     refine xs rfl rfl (xs rfl (nn_ _) (q9 rfl _ hg (xs rfl rfl (xs rfl rfl (q9 rfl _ hg (z7 rfl (z6t _ _ (by omega) (by assumption)) rfl ⟨trivial, tv5, trivial⟩ ?_))))))
     refine xb rfl ?_ ?_ <;> intro b0
     refine xr rfl (q7 rfl ⟨⟨rfl, ?_, trivial⟩, z6 rfl⟩)
     rotate_left
     rotate_left
     · exact vi (y9 h h0 (by simp_all [z3v]) (by simpa using b0))
     · exact za rfl (hJ _ (i + 1) ⟨by omega, yc h0 (by simp_all [z3v])⟩ (by omega) ⟨⟨cwi (by omega) (by omega) (by omega), ⟨rfl, rfl, rfl⟩, ⟨rfl, rfl, rfl⟩, rfl, trivial⟩, ⟨lcr, ⟨rfl, .inl rfl, .inl rfl⟩, trivial⟩, rfl⟩)
   · have h : ¬ i < (yn c s.idx).length := by simpa using h
     have hz := yg (f := z3v s.bals (yn c s.idx)) (n := (yn c s.idx).length) (fun j hj => h0 j (by omega))
     refine xr rfl (q7 rfl ⟨⟨rfl, ?_, trivial⟩, z6 rfl⟩)
     exact vi hz.symm
theorem z36 (s : Shd) (ho : q4n s) (hb : ∀ c ∈ s.held, ∀ l ∈ yn c s.idx, -9000000000000000000 ≤ y4m s.bals l.a l.b + l.v ∧ y4m s.bals l.a l.b + l.v ≤ 9000000000000000000) : PC Tryz.prog 276 [.agg s.cs] (rI (q07 q1r z1r s)) := by
 refine PC.begin Tryz.func276 rfl (by kernel_rfl) ?_
 obtain ⟨o1, o2, o3, o4, o5, o6⟩ := ho
 unfold q07
 refine qd rfl (ι := Nat) (fun i => i ≤ s.held.length ∧ ∀ j, j < i → q1r s j = 0) (fun i => ⟨[(11, sV (.int .i64 i)), (1, .one (.a 1 0)), (9, .one (.b (.l (s.held.map Con.cs)))), (10, sV (.int .i64 (s.held.map Con.cs).length))], [(1, .var (s.cs.map .b))]⟩) (fun i => s.held.length - i) 0 ⟨Nat.zero_le _, fun j hj => by omega⟩ ?_ ?_
 · exact ⟨⟨rfl, ⟨rfl, rfl, rfl⟩, rfl, rfl, trivial⟩, ⟨lcr, trivial⟩, rfl⟩
 · intro i ⟨hi, h0⟩ J hJ
   refine xb rfl ?_ ?_ <;> intro h
   · have h : i < s.held.length := by simpa using h
     obtain ⟨x, hx⟩ := gx h
     have hg := gm Con.cs hx
     have hcl := o6 x (List.mem_of_getElem? hx)
     refine xs rfl (nn_ _) (q9 rfl _ hg (xs rfl rfl (xs rfl (.inl rfl) (xs rfl (nn_ _) (xs rfl (nn_ _) (xs rfl (by simp; omega) (z7 rfl (q9g _ (s.held.take i) (fun own => y6u s own x) _ _ _ (by simp [List.map_take]) (fun own hown => y5b s own x (o6 own (List.mem_of_mem_take hown)) hcl) (by rw [List.length_take]; omega)) rfl ⟨trivial, (List.forall_mem_cons.2 ⟨tv7, (List.forall_mem_cons.2 ⟨tv3, (fun _ h => nomatch h)⟩)⟩), trivial⟩ ?_)))))))
     refine xb rfl ?_ ?_ <;> intro b0
     refine xr rfl (q7 rfl ⟨⟨rfl, ?_, trivial⟩, z6 rfl⟩)
     rotate_left
     rotate_left
     · refine vi ?_
       have hc7 : q1r s i = 7 := by simp only [q1r, hx]; rw [if_pos b0]
       rw [y0v h0 (by rw [hc7]; decide) h, hc7]; rfl
     · exact za rfl (hJ _ (i + 1) ⟨by omega, yc h0 (by simp only [q1r, hx]; rw [if_neg (by rw [b0]; decide)])⟩ (by omega) ⟨⟨cwi (by omega) (by omega) (by omega), ⟨rfl, rfl, rfl⟩, rfl, rfl, trivial⟩, ⟨lcr, trivial⟩, rfl⟩)
   · have h : ¬ i < s.held.length := by simpa using h
     have hz := yg (f := q1r s) (n := s.held.length) (fun j hj => h0 j (by omega))
     rw [hz]
     clear hJ h0
     refine qd rfl (ι := Nat) (fun i => i ≤ s.held.length ∧ ∀ j, j < i → q6o z1r s j = 0) (fun i => ⟨[(26, sV (.int .i64 i)), (1, .one (.a 1 0)), (24, .one (.b (.l (s.held.map Con.cs)))), (25, sV (.int .i64 (s.held.map Con.cs).length))], [(1, .var (s.cs.map .b))]⟩) (fun i => s.held.length - i) 0 ⟨Nat.zero_le _, fun j hj => by omega⟩ ?_ ?_
     · exact ⟨⟨rfl, ⟨rfl, rfl, rfl⟩, rfl, rfl, trivial⟩, ⟨lcr, trivial⟩, rfl⟩
     · intro i ⟨hi, h0⟩ J hJ
       refine xb rfl ?_ ?_ <;> intro h
       · have h : i < s.held.length := by simpa using h
         obtain ⟨x, hx⟩ := gx h
         have hg := gm Con.cs hx
         have hxm := List.mem_of_getElem? hx
         have hcl := o6 x hxm
         refine xs rfl (nn_ _) (q9 rfl _ hg (xs rfl rfl (z7 rfl (y9m s x o1 hcl (hb x hxm)) rfl ⟨tv7, tv3, trivial⟩ ?_)))
         refine xb rfl ?_ ?_ <;> intro b0
         refine xr rfl (q7 rfl ⟨⟨rfl, ?_, trivial⟩, z6 rfl⟩)
         rotate_left
         rotate_left
         · exact vi (by rw [if_neg (by decide)]; exact y9 h h0 (by simp_all [q6o]) (by simpa using b0))
         · exact za rfl (hJ _ (i + 1) ⟨by omega, yc h0 (by simp_all [q6o])⟩ (by omega) ⟨⟨cwi (by omega) (by omega) (by omega), ⟨rfl, rfl, rfl⟩, rfl, rfl, trivial⟩, ⟨lcr, trivial⟩, rfl⟩)
       · have h : ¬ i < s.held.length := by simpa using h
         have hz := yg (f := q6o z1r s) (n := s.held.length) (fun j hj => h0 j (by omega))
         refine xr rfl (q7 rfl ⟨⟨rfl, ?_, trivial⟩, z6 rfl⟩)
         exact vi (by rw [hz]; rfl)
theorem y6q (x : Int) (us : List Bal) (hl : us.length ≤ 1048576) : PC Tryz.prog 252 [.one (i64 x), .one (.l (us.map Bal.cs))] (rI (if within x 0 2 then zm us else 3)) := by
 refine PC.begin Tryz.func252 rfl (by kernel_rfl) ?_
 refine z7 rfl (zj _ _ _) rfl tv4 ?_
 refine xb rfl ?_ ?_ <;> intro b0
 refine xr rfl (q7 rfl ⟨⟨rfl, ?_, trivial⟩, z6 rfl⟩)
 rotate_left
 refine z7 rfl (q8v _ (by omega)) rfl ⟨trivial, trivial⟩ ?_
 refine xr rfl (q7 rfl ⟨⟨rfl, ?_, trivial⟩, z6 rfl⟩)
 rotate_left
 all_goals (refine vi ?_; simp_all)
theorem q2u (rr : List (List Cell)) (us : List Int) (c : Int) (hr : rr = ints us) (hl : us.length ≤ 1048576) : PC Tryz.prog 255 [.one (.l rr), .one (i64 c)] (rB (us.any fun y => y == c)) := by
 refine PC.begin Tryz.func255 rfl (by kernel_rfl) ?_
 subst hr
 refine qd rfl (ι := Nat) (fun i => i ≤ us.length ∧ ∀ j y, j < i → us[j]? = some y → (y == c) = false) (fun i => ⟨[(5, sV (.int .i64 i)), (0, .one (.b (.l (ints us)))), (1, sV (.int .i64 c))], []⟩) (fun i => us.length - i) 0 ⟨Nat.zero_le _, fun j y hj => by omega⟩ ?_ ?_
 · exact ⟨⟨rfl, rfl, rfl, trivial⟩, trivial, rfl⟩
 · intro i ⟨hi, h0⟩ J hJ
   refine xb rfl ?_ ?_ <;> intro h
   · have h : i < us.length := by simpa using h
     obtain ⟨x, hx⟩ := gx h
     have hg := gm (fun n => [i64 n]) hx
     refine xs rfl (nn_ _) (q9 rfl _ hg (xs rfl rfl ?_))
     refine xb rfl ?_ ?_ <;> intro b0
     refine xr rfl (q7 rfl ⟨⟨rfl, ?_, trivial⟩, z6 rfl⟩)
     rotate_left
     rotate_left
     · exact vb (zt hx (by simpa using b0))
     · exact za rfl (hJ _ (i + 1) ⟨by omega, zh hx h0 (by simpa using b0)⟩ (by omega) ⟨⟨cwi (by omega) (by omega) (by omega), rfl, rfl, trivial⟩, trivial, rfl⟩)
   · have h : ¬ i < us.length := by simpa using h
     refine xr rfl (q7 rfl ⟨⟨rfl, ?_, trivial⟩, z6 rfl⟩)
     exact vb (any_none (yk (by omega) h0))
theorem qa0 (s : Shd) (ho : q4n s) : PC Tryz.prog 332 [.agg s.cs] (rB (q63 s)) := by
 refine PC.begin Tryz.func332 rfl (by kernel_rfl) ?_
 obtain ⟨o1, o2, o3, o4, o5, o6⟩ := ho
 refine qd rfl (ι := Nat) (fun i => i ≤ s.done.length) (fun i => ⟨[(4, sV (.int .i64 i)), (3, sV (.int .i64 (y3l (s.done.take i)))), (1, .one (.a 1 0))], [(1, .var (s.cs.map .b))]⟩) (fun i => s.done.length - i) 0 (Nat.zero_le _) ?_ ?_
 · exact ⟨⟨rfl, rfl, ⟨rfl, rfl, rfl⟩, trivial⟩, ⟨lcr, trivial⟩, rfl⟩
 · intro i hi J hJ
   refine xb rfl ?_ ?_ <;> intro h
   · have h : i < s.done.length := by simpa using h
     obtain ⟨x, hx⟩ := gx h
     have hg := gm Mk.cs hx
     have hst := z6n hx
     have hle := z66 s.done i
     refine xs rfl (nn_ _) (q9 rfl _ hg (xs rfl rfl ?_))
     refine xb rfl ?_ ?_ <;> intro b0
     rotate_left
     rotate_left
     · rw [if_pos (by simpa using b0)] at hst
       exact za rfl (hJ _ (i + 1) (by omega) (by omega) ⟨⟨cwi (by omega) (by omega) (by omega), (by rw [hst]; exact cwi (by omega) (by omega) (by omega)), ⟨rfl, rfl, rfl⟩, trivial⟩, ⟨lcr, trivial⟩, rfl⟩)
     · rw [if_neg (by simpa using b0)] at hst
       exact za rfl (hJ _ (i + 1) (by omega) (by omega) ⟨⟨cwi (by omega) (by omega) (by omega), (by rw [hst]; rfl), ⟨rfl, rfl, rfl⟩, trivial⟩, ⟨lcr, trivial⟩, rfl⟩)
   · have h : i = s.done.length := by have : ¬ i < s.done.length := (by simpa using h); omega
     rw [h, List.take_length]
     clear hJ
     refine qd rfl (ι := Nat) (fun i => i ≤ s.app.length ∧ ∀ j, j < i → q95 s j = 0) (fun i => ⟨[(5, sV (.int .i64 i)), (3, sV (.int .i64 (y3l s.done))), (1, .one (.a 1 0))], [(1, .var (s.cs.map .b))]⟩) (fun i => s.app.length - i) 0 ⟨Nat.zero_le _, fun j hj => by omega⟩ ?_ ?_
     · exact ⟨⟨rfl, rfl, ⟨rfl, rfl, rfl⟩, trivial⟩, ⟨lcr, trivial⟩, rfl⟩
     · intro i ⟨hi, h0⟩ J hJ
       refine xb rfl ?_ ?_ <;> intro h
       · have h : i < s.app.length := by simpa using h
         obtain ⟨x, hx⟩ := gx h
         have hg := gm (fun n => [i64 n]) hx
         refine ze rfl [] (.take 0 [] (.take 1 (rg 7 14) (.take 2 [] (.take 3 (rg 5 16) (tk [4, 5] (.take 6 (rg 7 14) (.alt 7 (tk [8, 9, 10] (.take 11 [13, 19, 20] (tk [12, 13, 14] (.take 15 (rg 17 4) (tk [16, 17] (.take 18 [19, 20] (.alt 19 (.take 20 [] .done) .nil))))))) .nil))))))) (by kernel_rfl) (xs rfl (nn_ _) (q9 rfl _ hg (xs rfl rfl (z7 rfl (z0v _ _ (by assumption)) rfl tv3 ?_))))
         refine xb rfl ?_ ?_ <;> intro b0
         refine xj (k := 11) rfl ?_
         refine xr rfl (q7 rfl ⟨⟨rfl, ?_, trivial⟩, z6 rfl⟩)
         rotate_left
         refine xj (k := 3) rfl (xs rfl (.inl rfl) (xs rfl (nn_ _) (xs rfl (nn_ _) (xs rfl (by simp; omega) (xj (k := 4) rfl (xs rfl (nn_ _) (q9 rfl _ hg (xs rfl rfl (xj (k := 2) rfl ?_)))))))))
         refine z7 rfl (q2u _ (s.app.take i) x (by simp [ints, List.map_take]) (by rw [List.length_take]; omega)) rfl tv3 (xj (k := 1) rfl ?_)
         refine xb rfl ?_ ?_ <;> intro b1
         refine xr rfl (q7 rfl ⟨⟨rfl, ?_, trivial⟩, z6 rfl⟩)
         rotate_left
         rotate_left
         all_goals first | (refine vb ?_; have hc1 : q95 s i = 1 := (by simp only [q95, hx]; first | (rw [b0, b1]; rfl) | (rw [b0]; rfl)); have := y0v h0 (by rw [hc1]; decide) h; rw [hc1] at this; simp [q63, this]; done) | exact za rfl (hJ _ (i + 1) ⟨by omega, yc h0 (by simp only [q95, hx]; rw [b0, b1]; rfl)⟩ (by omega) ⟨⟨cwi (by omega) (by omega) (by omega), rfl, ⟨rfl, rfl, rfl⟩, trivial⟩, ⟨lcr, trivial⟩, rfl⟩)
       · have h : ¬ i < s.app.length := by simpa using h
         have hz := yg (f := q95 s) (n := s.app.length) (fun j hj => h0 j (by omega))
         refine xr rfl (q7 rfl ⟨⟨rfl, ?_, trivial⟩, z6 rfl⟩)
         exact vb (by simp only [q63, hz, ints, List.length_map]; rw [Bool.eq_iff_iff]; simp; omega)
theorem q8w (s : Shd) (ho : q4n s) (hB : zm s.bals = 0) : PC Tryz.prog 254 [.agg s.cs] (rI (y11 s)) := by
 refine PC.begin Tryz.func254 rfl (by kernel_rfl) ?_
 have ho' := ho
 obtain ⟨o1, o2, o3, o4, o5, o6⟩ := ho'
 refine qd rfl (ι := Nat) (fun i => i ≤ s.held.length ∧ ∀ j, j < i → q1o y0l s j = 0) (fun i => ⟨[(3, sV (.int .i64 i)), (1, .one (.a 1 0))], [(1, .var (s.cs.map .b))]⟩) (fun i => s.held.length - i) 0 ⟨Nat.zero_le _, fun j hj => by omega⟩ ?_ ?_
 · exact ⟨⟨rfl, ⟨rfl, rfl, rfl⟩, trivial⟩, ⟨lcr, trivial⟩, rfl⟩
 · intro i ⟨hi, h0⟩ J hJ
   refine xb rfl ?_ ?_ <;> intro h
   · have h : i < s.held.length := by simpa using h
     obtain ⟨x, hx⟩ := gx h
     have hg := gm Con.cs hx
     have hcl := o6 x (List.mem_of_getElem? hx)
     rcases Nat.eq_zero_or_pos i with hz | hz
     · subst hz
       refine xs rfl (nn_ _) (q9 rfl _ hg (xs rfl rfl (z7 rfl (z4h _ (by assumption)) rfl ⟨tv3, trivial⟩ ?_)))
       refine xb rfl ?_ ?_ <;> intro b0
       refine xr rfl (q7 rfl ⟨⟨rfl, ?_, trivial⟩, z6 rfl⟩)
       rotate_left
       refine ze rfl [] (tk (rg 0 4) (.take 4 (rg 12 26) (.take 5 [] (.take 6 (rg 9 29) (tk (rg 7 4) (.take 11 (rg 12 26) (tk [12, 13, 14] (.take 15 (rg 18 20) (.take 16 [] (.take 17 (rg 18 20) (.alt 18 (tk (rg 19 5) (.take 24 (rg 27 11) (.take 25 [] (.take 26 (rg 27 11) (.alt 27 (tk (rg 28 4) (.take 32 (rg 35 3) (.take 33 [] (.take 34 (rg 35 3) (.alt 35 (tk [36, 37] .done) .nil))))) .nil))))) .nil))))))))))) (by kernel_rfl) (xj (k := 15) rfl (z7 rfl (q1m _ _ (by omega)) rfl ⟨tv3, trivial, trivial⟩ (xj (k := 3) rfl ?_)))
       refine xb rfl ?_ ?_ <;> intro b1
       refine xj (k := 14) rfl ?_
       refine xr rfl (q7 rfl ⟨⟨rfl, ?_, trivial⟩, z6 rfl⟩)
       rotate_left
       refine xj (k := 4) rfl (z7 rfl (z0v _ _ (by assumption)) rfl tv3 (xj (k := 2) rfl ?_))
       refine xb rfl ?_ ?_ <;> intro b2
       refine xj (k := 7) rfl ?_
       refine xr rfl (q7 rfl ⟨⟨rfl, ?_, trivial⟩, z6 rfl⟩)
       rotate_left
       refine xj (k := 4) rfl (z7 rfl (z0v _ _ (by assumption)) rfl tv3 (xj (k := 2) rfl ?_))
       refine xb rfl ?_ ?_ <;> intro b3
       refine xr rfl (q7 rfl ⟨⟨rfl, ?_, trivial⟩, z6 rfl⟩)
       rotate_left
       rotate_left
       all_goals (first | (refine vi (q6e (y9 h h0 ?_ (by first | decide | simp_all)) (by first | decide | simp_all)); clear hJ h0 hg; simp_all [q1o, ahead_zero]; done) | (refine za rfl (hJ _ 1 ⟨by omega, yc h0 ?_⟩ (by omega) ⟨⟨cwi (by omega) (by omega) (by omega), ⟨rfl, rfl, rfl⟩, trivial⟩, ⟨lcr, trivial⟩, rfl⟩); clear hJ h0 hg; simp_all [q1o, ahead_zero]))
     · obtain ⟨p, hp⟩ := gx (xs := s.held) (i := i - 1) (by omega)
       have hgp := z1a Con.cs hz (by omega) hp
       refine xs rfl (nn_ _) (q9 rfl _ hg (xs rfl rfl (z7 rfl (z4h _ (by assumption)) rfl ⟨tv3, trivial⟩ ?_)))
       refine xb rfl ?_ ?_ <;> intro b0
       refine xr rfl (q7 rfl ⟨⟨rfl, ?_, trivial⟩, z6 rfl⟩)
       rotate_left
       refine ze rfl [] (tk (rg 0 4) (.take 4 (rg 12 26) (.take 5 [] (.take 6 (rg 9 29) (tk (rg 7 4) (.take 11 (rg 12 26) (tk [12, 13, 14] (.take 15 (rg 18 20) (.take 16 [] (.take 17 (rg 18 20) (.alt 18 (tk (rg 19 5) (.take 24 (rg 27 11) (.take 25 [] (.take 26 (rg 27 11) (.alt 27 (tk (rg 28 4) (.take 32 (rg 35 3) (.take 33 [] (.take 34 (rg 35 3) (.alt 35 (tk [36, 37] .done) .nil))))) .nil))))) .nil))))))))))) (by kernel_rfl) ?_
       refine xb rfl ?_ ?_ <;> intro b1
       refine xj (k := 6) rfl (xs rfl (q0m hz (by omega)) (q9 rfl _ hgp (xs rfl rfl (xj (k := 4) rfl ?_))))
       refine xb rfl ?_ ?_ <;> intro b2
       refine xj (k := 21) rfl ?_
       refine xr rfl (q7 rfl ⟨⟨rfl, ?_, trivial⟩, z6 rfl⟩)
       rotate_left
       refine xj (k := 3) rfl (z7 rfl (q1m _ _ (by omega)) rfl ⟨tv3, trivial, trivial⟩ (xj (k := 3) rfl ?_))
       refine xb rfl ?_ ?_ <;> intro b3
       refine xj (k := 14) rfl ?_
       refine xr rfl (q7 rfl ⟨⟨rfl, ?_, trivial⟩, z6 rfl⟩)
       rotate_left
       refine xj (k := 4) rfl (z7 rfl (z0v _ _ (by assumption)) rfl tv3 (xj (k := 2) rfl ?_))
       refine xb rfl ?_ ?_ <;> intro b4
       refine xj (k := 7) rfl ?_
       refine xr rfl (q7 rfl ⟨⟨rfl, ?_, trivial⟩, z6 rfl⟩)
       rotate_left
       refine xj (k := 4) rfl (z7 rfl (z0v _ _ (by assumption)) rfl tv3 (xj (k := 2) rfl ?_))
       refine xb rfl ?_ ?_ <;> intro b5
       refine xr rfl (q7 rfl ⟨⟨rfl, ?_, trivial⟩, z6 rfl⟩)
       rotate_left
       rotate_left
       refine xj (k := 14) rfl (z7 rfl (q1m _ _ (by omega)) rfl ⟨tv3, trivial, trivial⟩ (xj (k := 3) rfl ?_))
       refine xb rfl ?_ ?_ <;> intro b2
       refine xj (k := 14) rfl ?_
       refine xr rfl (q7 rfl ⟨⟨rfl, ?_, trivial⟩, z6 rfl⟩)
       rotate_left
       refine xj (k := 4) rfl (z7 rfl (z0v _ _ (by assumption)) rfl tv3 (xj (k := 2) rfl ?_))
       refine xb rfl ?_ ?_ <;> intro b3
       refine xj (k := 7) rfl ?_
       refine xr rfl (q7 rfl ⟨⟨rfl, ?_, trivial⟩, z6 rfl⟩)
       rotate_left
       refine xj (k := 4) rfl (z7 rfl (z0v _ _ (by assumption)) rfl tv3 (xj (k := 2) rfl ?_))
       refine xb rfl ?_ ?_ <;> intro b4
       refine xr rfl (q7 rfl ⟨⟨rfl, ?_, trivial⟩, z6 rfl⟩)
       rotate_left
       rotate_left
       all_goals (first | (refine vi (q6e (y9 h h0 ?_ (by first | decide | simp_all)) (by first | decide | simp_all)); clear hJ h0 hg hgp; simp_all [q1o, qa hz hp]; done) | (refine za rfl (hJ _ (i + 1) ⟨by omega, yc h0 ?_⟩ (by omega) ⟨⟨cwi (by omega) (by omega) (by omega), ⟨rfl, rfl, rfl⟩, trivial⟩, ⟨lcr, trivial⟩, rfl⟩); clear hJ h0 hg hgp; simp_all [q1o, qa hz hp]))
   · have h : ¬ i < s.held.length := by simpa using h
     have hH : yq y0l s = 0 := yg (f := q1o y0l s) (n := s.held.length) (fun j hj => h0 j (by omega))
     have hcon := q4a hH
     clear hJ h0
     refine qd rfl (ι := Nat) (fun i => i ≤ s.votes.length ∧ ∀ j y, j < i → s.votes[j]? = some y → q3o s y = false) (fun i => ⟨[(6, sV (.int .i64 i)), (1, .one (.a 1 0))], [(1, .var (s.cs.map .b))]⟩) (fun i => s.votes.length - i) 0 ⟨Nat.zero_le _, fun j y hj => by omega⟩ ?_ ?_
     · exact ⟨⟨rfl, ⟨rfl, rfl, rfl⟩, trivial⟩, ⟨lcr, trivial⟩, rfl⟩
     · intro i ⟨hi, h0⟩ J hJ
       refine xb rfl ?_ ?_ <;> intro h
       · have h : i < s.votes.length := by simpa using h
         obtain ⟨x, hx⟩ := gx h
         have hg := gm Mk.cs hx
         refine xs rfl (nn_ _) (q9 rfl _ hg (xs rfl rfl ?_))
         refine xb rfl ?_ ?_ <;> intro b0
         refine xj (k := 3) rfl (z7 rfl (z6z _ _ (by assumption)) rfl ⟨tv7, trivial, trivial⟩ (xj (k := 2) rfl ?_))
         refine xb rfl ?_ ?_ <;> intro b1
         refine xj (k := 4) rfl (z7 rfl (z0v _ _ (by assumption)) rfl tv3 (xj (k := 2) rfl ?_))
         refine xb rfl ?_ ?_ <;> intro b2
         refine xr rfl (q7 rfl ⟨⟨rfl, ?_, trivial⟩, z6 rfl⟩)
         rotate_left
         rotate_left
         refine xj (k := 7) rfl ?_
         rotate_left
         refine xj (k := 13) rfl ?_
         rotate_left
         all_goals first | (refine vi (z8y hH (zt hx ?_)); clear hJ h0 hg; simp only [q3o, q4b]; generalize (s.held.any fun y => y.id == x.c) = q at *; simp_all; done) | (refine za rfl (hJ _ (i + 1) ⟨by omega, zh hx h0 ?_⟩ (by omega) ⟨⟨cwi (by omega) (by omega) (by omega), ⟨rfl, rfl, rfl⟩, trivial⟩, ⟨lcr, trivial⟩, rfl⟩); clear hJ h0 hg; simp only [q3o, q4b]; generalize (s.held.any fun y => y.id == x.c) = q at *; simp_all)
       · have h : ¬ i < s.votes.length := by simpa using h
         have hO := any_none (yk (by omega) h0)
         clear hJ h0
         refine z7 rfl (qa0 _ (by assumption)) rfl ⟨tv7, trivial⟩ ?_
         refine xb rfl ?_ ?_ <;> intro b0
         refine xr rfl (q7 rfl ⟨⟨rfl, ?_, trivial⟩, z6 rfl⟩)
         rotate_left
         rotate_left
         · exact vi (y8y hH hO (by simpa using b0))
         have hA : q63 s = true := by simpa using b0
         refine qd rfl (ι := Nat) (fun i => i ≤ s.held.length ∧ ∀ j, j < i → z1f s j = 0) (fun i => ⟨[(8, sV (.int .i64 i)), (1, .one (.a 1 0))], [(1, .var (s.cs.map .b))]⟩) (fun i => s.held.length - i) 0 ⟨Nat.zero_le _, fun j hj => by omega⟩ ?_ ?_
         · exact ⟨⟨rfl, ⟨rfl, rfl, rfl⟩, trivial⟩, ⟨lcr, trivial⟩, rfl⟩
         · intro i ⟨hi, h0⟩ J hJ
           refine xb rfl ?_ ?_ <;> intro h
           · have h : i < s.held.length := by simpa using h
             obtain ⟨x, hx⟩ := gx h
             have hg := gm Con.cs hx
             have hcl := o6 x (List.mem_of_getElem? hx)
             have hlx : (yn x s.idx).length ≤ 1048576 := Nat.le_trans (List.length_filter_le _ _) (by omega)
             refine qd rfl (ι := Nat) (fun k => k ≤ i ∧ ∀ j y, j < k → s.held[j]? = some y → q5b (yn x s.idx) (yn y s.idx) = false) (fun k => ⟨[(9, sV (.int .i64 k)), (8, sV (.int .i64 i)), (1, .one (.a 1 0))], [(1, .var (s.cs.map .b))]⟩) (fun k => i - k) 0 ⟨Nat.zero_le _, fun j y hj => by omega⟩ ?_ ?_
             · exact ⟨⟨rfl, rfl, ⟨rfl, rfl, rfl⟩, trivial⟩, ⟨lcr, trivial⟩, rfl⟩
             · intro k ⟨hk, h1⟩ J2 hJ2
               refine xb rfl (fun h' => ?_) (fun h' => ?_)
               · have h' : k < i := by simpa using h'
                 obtain ⟨y, hy⟩ := gx (xs := s.held) (i := k) (by omega)
                 have hg2 := gm Con.cs hy
                 have hcl2 := o6 y (List.mem_of_getElem? hy)
                 have hly : (yn y s.idx).length ≤ 1048576 := Nat.le_trans (List.length_filter_le _ _) (by omega)
                 have hyt : (s.held.take i)[k]? = some y := by rw [List.getElem?_take, if_pos h', hy]
                 refine ze rfl [] (.take 0 [] (.take 1 [3, 4, 7, 15, 16] (tk [2, 3] (.take 4 [7, 15, 16] (.take 5 [] (.take 6 [7, 15, 16] (.take 8 [] (.take 9 [11, 12, 15, 16] (tk [10, 11] (.take 12 [15, 16] (.take 13 [] (.take 14 [15, 16] (.alt 7 (.alt 15 (.alt 16 .done .nil) .nil) .nil))))))))))))) (by kernel_rfl) (xs rfl (nn_ _) (q9 rfl _ hg (xs rfl rfl (xs rfl (nn_ _) (q9 rfl _ hg2 (xs rfl rfl (z7 rfl (q1m _ _ (by omega)) rfl ⟨tv3, trivial, trivial⟩ (z7 rfl (q1m _ _ (by omega)) rfl ⟨tv3, trivial, trivial⟩ (z7 rfl (z81 _ _ (by assumption) (by assumption)) rfl ⟨rfl, rfl, trivial⟩ ?_)))))))))
                 refine xb rfl ?_ ?_ <;> intro b0
                 refine xr rfl (q7 rfl ⟨⟨rfl, ?_, trivial⟩, z6 rfl⟩)
                 rotate_left
                 rotate_left
                 · have ha := (zt (p := fun own : Con => q5b (yn x s.idx) (yn own s.idx)) hyt b0).symm
                   have hc7 : z1f s i = 7 := by simp only [z1f, hx]; rw [if_pos ha]
                   exact vi (y4i hH hO hA (q72 (y9 h h0 hc7 (by decide)) (by decide)))
                 · exact za rfl (hJ2 _ (k + 1) ⟨by omega, zh hy h1 b0⟩ (by omega) ⟨⟨cwi (by omega) (by omega) (by omega), rfl, ⟨rfl, rfl, rfl⟩, trivial⟩, ⟨lcr, trivial⟩, rfl⟩)
               · have h' : ¬ k < i := by simpa using h'
                 have hnone := any_none (p := fun own : Con => q5b (yn x s.idx) (yn own s.idx)) (l := s.held.take i) (fun j y hj => by
                  rw [List.getElem?_take] at hj
                  split at hj
                  · exact h1 j y (by omega) hj
                  · cases hj)
                 have hc0 : z1f s i = 0 := by simp only [z1f, hx]; rw [if_neg (by rw [← hnone]; decide)]
                 skip
                 exact za rfl (hJ _ (i + 1) ⟨by omega, yc h0 hc0⟩ (by omega) ⟨⟨cwi (by omega) (by omega) (by omega), ⟨rfl, rfl, rfl⟩, trivial⟩, ⟨lcr, trivial⟩, rfl⟩)
           · have h : ¬ i < s.held.length := by simpa using h
             have hM := yg (f := z1f s) (n := s.held.length) (fun j hj => h0 j (by omega))
             clear hJ h0
             refine qd rfl (ι := Nat) (fun i => i ≤ s.held.length ∧ ∀ j, j < i → q6o z3o s j = 0) (fun i => ⟨[(10, sV (.int .i64 i)), (1, .one (.a 1 0))], [(1, .var (s.cs.map .b))]⟩) (fun i => s.held.length - i) 0 ⟨Nat.zero_le _, fun j hj => by omega⟩ ?_ ?_
             · exact ⟨⟨rfl, ⟨rfl, rfl, rfl⟩, trivial⟩, ⟨lcr, trivial⟩, rfl⟩
             · intro i ⟨hi, h0⟩ J hJ
               refine xb rfl ?_ ?_ <;> intro h
               · have h : i < s.held.length := by simpa using h
                 obtain ⟨x, hx⟩ := gx h
                 have hg := gm Con.cs hx
                 have hxm := List.mem_of_getElem? hx
                 have hcl := o6 x hxm
                 have hlx : (yn x s.idx).length ≤ 1048576 := Nat.le_trans (List.length_filter_le _ _) (by omega)
                 refine ze rfl [] (.take 0 [] (.take 1 [10, 11] (.take 2 [] (.take 3 [5, 6, 9, 10, 11] (tk [4, 5] (.take 6 (rg 9 3) (.take 7 [] (.take 8 (rg 9 3) (.alt 9 (.alt 10 (.take 11 [] .done) .nil) .nil))))))))) (by kernel_rfl) (xs rfl (nn_ _) (q9 rfl _ hg (xs rfl rfl (z7 rfl (q1m _ _ (by omega)) rfl ⟨tv3, trivial, trivial⟩ (z7 rfl (y70 s.bals (yn x s.idx) o1 hlx (z7l hB (hcon x hxm))) rfl ⟨trivial, rfl, trivial⟩ ?_)))))
                 refine xb rfl ?_ ?_ <;> intro b0
                 refine xr rfl (q7 rfl ⟨⟨rfl, ?_, trivial⟩, z6 rfl⟩)
                 rotate_left
                 rotate_left
                 · exact vi (y4i hH hO hA (q3z hM (y9 h h0 (by simp_all [q6o]) (by simpa using b0))))
                 · exact za rfl (hJ _ (i + 1) ⟨by omega, yc h0 (by simp_all [q6o])⟩ (by omega) ⟨⟨cwi (by omega) (by omega) (by omega), ⟨rfl, rfl, rfl⟩, trivial⟩, ⟨lcr, trivial⟩, rfl⟩)
               · have h : ¬ i < s.held.length := by simpa using h
                 have hF := yg (f := q6o z3o s) (n := s.held.length) (fun j hj => h0 j (by omega))
                 refine xr rfl (q7 rfl ⟨⟨rfl, ?_, trivial⟩, z6 rfl⟩)
                 exact vi (y4i hH hO hA (q3z hM hF.symm))
theorem q80 (s : Shd) (ho : q4n s) : PC Tryz.prog 176 [.agg s.cs] (rI (yp s)) := by
 refine PC.begin Tryz.func176 rfl (by kernel_rfl) ?_
 have ho' := ho
 obtain ⟨o1, o2, o3, o4, o5, o6⟩ := ho'
 refine z7 rfl (y6q _ _ (by assumption)) rfl tv3 ?_
 refine xb rfl ?_ ?_ <;> intro b0
 refine xr rfl (q7 rfl ⟨⟨rfl, ?_, trivial⟩, z6 rfl⟩)
 rotate_left
 refine xb rfl ?_ ?_ <;> intro b1
 refine xj (k := 15) rfl ?_
 refine xr rfl (q7 rfl ⟨⟨rfl, ?_, trivial⟩, z6 rfl⟩)
 rotate_left
 refine xj (k := 4) rfl ?_
 refine xb rfl ?_ ?_ <;> intro b2
 refine xj (k := 10) rfl ?_
 refine xr rfl (q7 rfl ⟨⟨rfl, ?_, trivial⟩, z6 rfl⟩)
 rotate_left
 refine xj (k := 4) rfl ?_
 refine xb rfl ?_ ?_ <;> intro b3
 refine xj (k := 5) rfl ?_
 refine xr rfl (q7 rfl ⟨⟨rfl, ?_, trivial⟩, z6 rfl⟩)
 rotate_left
 refine xj (k := 4) rfl ?_
 refine xb rfl ?_ ?_ <;> intro b4
 refine xr rfl (q7 rfl ⟨⟨rfl, ?_, trivial⟩, z6 rfl⟩)
 rotate_left
 refine z7 rfl (y56 _ (by omega)) rfl ⟨trivial, trivial⟩ ?_
 refine xb rfl ?_ ?_ <;> intro b5
 refine xr rfl (q7 rfl ⟨⟨rfl, ?_, trivial⟩, z6 rfl⟩)
 rotate_left
 refine z7 rfl (y56 _ (by omega)) rfl ⟨trivial, trivial⟩ ?_
 refine xb rfl ?_ ?_ <;> intro b6
 refine xr rfl (q7 rfl ⟨⟨rfl, ?_, trivial⟩, z6 rfl⟩)
 rotate_left
 refine z7 rfl (q8w s ho (z96 b0).2) rfl ⟨tv7, trivial⟩ ?_
 refine xr rfl (q7 rfl ⟨⟨rfl, ?_, trivial⟩, z6 rfl⟩)
 rotate_left
 · exact vi (q56 b0)
 all_goals (have e : ∀ n : Nat, (100 < (n : Int)) = (100 < n) := fun n => by apply propext; omega)
 all_goals (have e' : ∀ n : Nat, ((n : Int) ≤ 100) = (n ≤ 100) := fun n => by apply propext; omega)
 all_goals (refine vi (z57 (z96 b0) ?_); clear b0; simp_all [many]; try (intros; exfalso; omega))
theorem q83 (us : List Int) (hu : us.length < 65536) : PC Tryz.prog 339 [.one (.f 367 [.p [.l (ints us)]])] (.one (.own false [.l 1 (ints (y1a us))])) := by
 refine PC.begin Tryz.func339 rfl (by kernel_rfl) ?_
 have hc := y6l us (by omega)
 have hq := z8z us (by omega)
 have hms : (ints us).length = (ints (y1a us)).length := by simp [ints, y1a]
 refine z7 rfl (hc) rfl ⟨trivial, trivial⟩ (z0t rfl (hq) ⟨⟨rfl, rfl, rfl, rfl⟩, trivial⟩ rfl ?_)
 refine xr rfl (q7 rfl ⟨⟨rfl, ⟨?_, rfl, .inl rfl⟩, trivial⟩, z6 rfl⟩)
 exact hms
theorem q7g (us vs : List Int) (hx : us.length ≤ 1048576) : PC Tryz.prog 338 [.one (.l (ints us)), .one (.l (ints vs))] (rB (us == vs)) := by
 refine PC.begin Tryz.func338 rfl (by kernel_rfl) ?_
 have hle : (ints us).length = us.length := by simp
 have hle2 : (ints vs).length = vs.length := by simp
 refine xb rfl ?_ ?_ <;> intro h0
 · have hne : ¬ us.length = vs.length := by simp at h0; omega
   refine xr rfl (q7 rfl ⟨⟨rfl, ?_, trivial⟩, z6 rfl⟩)
   all_goals (refine vb ?_; rw [eq_comm, beq_eq_false_iff_ne]; exact fun e => hne (by rw [e]))
 · have he : us.length = vs.length := by simp at h0; omega
   refine qd rfl (ι := Nat) (fun i => i ≤ us.length ∧ us.take i = vs.take i) (fun i => ⟨[(13, sV (.int .i64 i)), (12, sV (.int .i64 (ints us).length)), (0, .one (.b (.l (ints us)))), (1, .one (.b (.l (ints vs))))], []⟩) (fun i => us.length - i) 0 ⟨Nat.zero_le _, rfl⟩ ?_ ?_
   · exact ⟨⟨rfl, rfl, rfl, rfl, trivial⟩, trivial, rfl⟩
   · intro i ⟨hi, hq⟩ J hJ
     refine xb rfl ?_ ?_ <;> intro h
     · have h : i < us.length := by simpa using h
       obtain ⟨x, hx1⟩ := gx h
       obtain ⟨y, hy1⟩ := gx (xs := vs) (i := i) (by omega)
       have hg := gm (fun n => [i64 n]) hx1
       have hg2 := gm (fun n => [i64 n]) hy1
       refine ze rfl [] (tk [0, 1, 2] (.take 3 [8] (tk [4, 5, 6] (.take 7 [8] (.take 8 [] .done))))) (by kernel_rfl) (xs rfl (nn_ _) (q9 rfl _ hg (xs rfl rfl (xs rfl (nn_ _) (q9 rfl _ hg2 (xs rfl rfl ?_))))))
       refine xb rfl ?_ ?_ <;> intro b0
       refine xr rfl (q7 rfl ⟨⟨rfl, ?_, trivial⟩, z6 rfl⟩)
       rotate_left
       rotate_left
       · refine vb ?_; rw [eq_comm, beq_eq_false_iff_ne]; intro e; subst e; rw [hx1] at hy1; cases hy1; simp at b0
       · have e : x = y := by simpa using b0
         exact za rfl (hJ _ (i + 1) ⟨by omega, by rw [List.take_add_one, List.take_add_one, hx1, hy1, hq, e]⟩ (by omega) ⟨⟨cwi (by omega) (by omega) (by omega), rfl, rfl, rfl, trivial⟩, trivial, rfl⟩)
     · have h : i = us.length := by have : ¬ i < us.length := (by simpa using h); omega
       rw [h, List.take_length, he, List.take_length] at hq
       refine xr rfl (q7 rfl ⟨⟨rfl, ?_, trivial⟩, z6 rfl⟩)
       all_goals (refine vb ?_; rw [hq]; simp)
theorem z4p (s : Shd) (ho : q4n s) (ha : s.app.length < 65536) (hd : qi s.done = 0) : PC Tryz.prog 275 [.agg s.cs] (rB (q63 s)) := by
 refine PC.begin Tryz.func275 rfl (by kernel_rfl) ?_
 obtain ⟨o1, o2, o3, o4, o5, o6⟩ := ho
 rw [← z6j hd]
 have hle : (s.done.map Mk.cs).length = s.done.length := by simp
 have hms : (y1a s.app).length = s.app.length := (List.mergeSort_perm s.app _).length_eq
 have hv := z8a (ints s.app)
 have hso := q83 s.app ha
 have hq := q7g (y1a s.app) (dnI s.done) (by omega)
 refine xs rfl trivial ?_
 refine qd rfl (ι := Nat) (fun i => i ≤ s.done.length) (fun i => ⟨[(10, sV (.int .i64 i)), (3, .one (.h 6 (dnI (s.done.take i)).length)), (1, .one (.a 1 0)), (8, .one (.b (.l (s.done.map Mk.cs)))), (9, sV (.int .i64 (s.done.map Mk.cs).length))], [(6, .arr true 1 0 (ints (dnI (s.done.take i)))), (1, .var (s.cs.map .b))]⟩) (fun i => s.done.length - i) 0 (Nat.zero_le _) ?_ ?_
 · exact ⟨⟨rfl, ⟨rfl, rfl, rfl⟩, ⟨rfl, rfl, rfl⟩, rfl, rfl, trivial⟩, ⟨⟨rfl, .inl rfl, .inl rfl⟩, lcr, trivial⟩, rfl⟩
 · intro i hi J hJ
   refine xb rfl ?_ ?_ <;> intro h
   · have h : i < s.done.length := by simpa using h
     obtain ⟨x, hx⟩ := gx h
     have hg := gm Mk.cs hx
     have hf := y8j hx
     have hfl : (dnI (s.done.take i)).length ≤ i := by rw [q7e]; exact z66 _ _
     refine xs rfl (by simp) (q9 rfl _ hg (xs rfl rfl ?_))
     refine xb rfl ?_ ?_ <;> intro b0
     refine xs rfl ⟨trivial, trivial⟩ (xs rfl (by simp) (xs rfl rfl (xs rfl (.inl rfl) (xs rfl (by simp; omega) (xs rfl (by simp; omega) ?_)))))
     rotate_left
     rotate_left
     · rw [if_pos (by simpa using b0)] at hf
       exact za rfl (hJ _ (i + 1) (by omega) (by omega) ⟨⟨cwi (by omega) (by omega) (by omega), ⟨rfl, by rw [hf]; simp, rfl⟩, ⟨rfl, rfl, rfl⟩, rfl, rfl, trivial⟩, ⟨⟨by rw [hf]; simp, .inl rfl, .inl rfl⟩, lcr, trivial⟩, rfl⟩)
     · rw [if_neg (by simpa using b0)] at hf
       exact za rfl (hJ _ (i + 1) (by omega) (by omega) ⟨⟨cwi (by omega) (by omega) (by omega), ⟨rfl, by rw [hf], rfl⟩, ⟨rfl, rfl, rfl⟩, rfl, rfl, trivial⟩, ⟨⟨by rw [hf], .inl rfl, .inl rfl⟩, lcr, trivial⟩, rfl⟩)
   · have h : i = s.done.length := by have : ¬ i < s.done.length := (by simpa using h); omega
     subst h
     rw [List.take_length]
     have hdl : (ints (dnI s.done)).length = (dnI s.done).length := by simp
     refine z7 rfl (hv) rfl ⟨trivial, trivial⟩ (z7 rfl (hso) rfl ⟨trivial, trivial⟩ (z7 rfl hq rfl ⟨rfl, hdl.symm, trivial⟩ ?_))
     exact xr rfl (q7 rfl ⟨⟨rfl, rfl, trivial⟩, z6 rfl⟩)
theorem z82 (s : Shd) (ho : q4n s) : PC Tryz.prog 199 [.agg s.cs] (rI (yp s)) := by
 rw [← z4i s]
 have hA : many s = false → qi s.done = 0 → PC Tryz.prog 275 [.agg s.cs] (rB (q63 s)) := fun h1 h2 => z4p s ho (by simp [many] at h1; omega) h2
 refine PC.begin Tryz.func199 rfl (by kernel_rfl) ?_
 have ho' := ho
 obtain ⟨o1, o2, o3, o4, o5, o6⟩ := ho'
 have hm := y9w s
 refine z7 rfl (y2e _) rfl ⟨trivial, trivial⟩ ?_
 refine xb rfl ?_ ?_ <;> intro b0
 refine xr rfl (q7 rfl ⟨⟨rfl, ?_, trivial⟩, z6 rfl⟩)
 rotate_left
 refine z7 rfl (y8m _ (by omega)) rfl ⟨trivial, trivial⟩ ?_
 refine xb rfl ?_ ?_ <;> intro b1
 refine xr rfl (q7 rfl ⟨⟨rfl, ?_, trivial⟩, z6 rfl⟩)
 rotate_left
 refine xb rfl ?_ ?_ <;> intro b2
 refine xr rfl (q7 rfl ⟨⟨rfl, ?_, trivial⟩, z6 rfl⟩)
 rotate_left
 refine ze rfl [] (.take 0 [] (.take 1 [2, 5, 7, 8, 9, 10] (.take 3 [] (.take 4 [5, 7, 8, 9, 10] (.take 6 (rg 7 4) (.alt 2 (.alt 5 (.alt 7 (.alt 8 (.alt 9 (.take 10 [] .done) .nil) .nil) .nil) .nil) .nil)))))) (by kernel_rfl) (z7 rfl (y4x _ _ q0n o2) rfl ⟨trivial, (fun _ h => nomatch h), trivial⟩ (z7 rfl (y4x _ _ q2l o4) rfl ⟨trivial, (fun _ h => nomatch h), trivial⟩ (z7 rfl (y4w _ (by assumption)) rfl ⟨tv7, trivial⟩ (xs rfl tv4 (z7 rfl (q2b [_, _, _] (by simp)) rfl ⟨rfl, trivial⟩ ?_)))))
 refine xb rfl ?_ ?_ <;> intro b3
 refine xr rfl (q7 rfl ⟨⟨rfl, ?_, trivial⟩, z6 rfl⟩)
 rotate_left
 refine z7 rfl (qaf _ s.votes (z6w s) _ s rfl (fun m _ => q7n s m ho) o2) rfl tv3 ?_
 refine xb rfl ?_ ?_ <;> intro b4
 refine xj (k := 4) rfl ?_
 refine xr rfl (q7 rfl ⟨⟨rfl, ?_, trivial⟩, z6 rfl⟩)
 rotate_left
 refine xj (k := 1) rfl (z7 rfl (hA (hm.symm.trans b2) (zbk b3).2.1) rfl ⟨tv7, trivial⟩ (xj (k := 2) rfl ?_))
 refine xb rfl ?_ ?_ <;> intro b5
 refine xr rfl (q7 rfl ⟨⟨rfl, ?_, trivial⟩, z6 rfl⟩)
 rotate_left
 refine z7 rfl (z36 s ho (fun c hc => q8l (by simpa using b1) (q4a (mk := y24) (zbk b3).2.2 c hc))) rfl ⟨tv7, trivial⟩ ?_
 refine xr rfl (q7 rfl ⟨⟨rfl, ?_, trivial⟩, z6 rfl⟩)
 rotate_left
 all_goals (refine vi ?_; unfold y1y; simp_all)
theorem z09 (v : Int) : PC Tryz.prog 284 [.one (i64 v)] (rB (within v 0 1000)) := by
 refine PC.begin Tryz.func284 rfl (by kernel_rfl) ?_
 refine z7 rfl (zn _ _ _) rfl tv4 ?_
 refine xr rfl (q7 rfl ⟨⟨rfl, rfl, trivial⟩, z6 rfl⟩)
theorem z01 (v : Int) : PC Tryz.prog 181 [.one (i64 v)] (rB (within v 0 1000)) := by
 refine PC.begin Tryz.func181 rfl (by kernel_rfl) ?_
 refine z7 rfl (zj _ _ _) rfl tv4 ?_
 refine xr rfl (q7 rfl ⟨⟨rfl, rfl, trivial⟩, z6 rfl⟩)
theorem z0a (v : Int) : PC Tryz.prog 182 [.one (i64 v)] (rB (within v 1 2)) := by
 refine PC.begin Tryz.func182 rfl (by kernel_rfl) ?_
 refine xb rfl ?_ ?_ <;> intro b0
 refine xj (k := 2) rfl ?_
 refine xr rfl (q7 rfl ⟨⟨rfl, ?_, trivial⟩, z6 rfl⟩)
 rotate_left
 refine xj (k := 2) rfl ?_
 refine xr rfl (q7 rfl ⟨⟨rfl, ?_, trivial⟩, z6 rfl⟩)
 rotate_left
 all_goals (refine vb ?_; rw [Bool.eq_iff_iff]; (simp_all [within] <;> omega))
theorem y23 (x : Vt) : PC Tryz.prog 289 [.agg x.cs] (rB x.ok) := by
 refine PC.begin Tryz.func289 rfl (by kernel_rfl) ?_
 refine z7 rfl (z09 _) rfl ⟨trivial, trivial⟩ ?_
 refine xb rfl ?_ ?_ <;> intro b0
 refine xj (k := 2) rfl (z7 rfl (q0n _) rfl ⟨trivial, trivial⟩ (xj (k := 1) rfl ?_))
 refine xr rfl (q7 rfl ⟨⟨rfl, ?_, trivial⟩, z6 rfl⟩)
 rotate_left
 refine xj (k := 3) rfl ?_
 refine xr rfl (q7 rfl ⟨⟨rfl, ?_, trivial⟩, z6 rfl⟩)
 rotate_left
 all_goals (refine vb ?_; simp_all [Vt.ok])
theorem q1w (x : Vt) : PC Tryz.prog 186 [.agg x.cs] (rB x.ok) := by
 refine PC.begin Tryz.func186 rfl (by kernel_rfl) ?_
 refine z7 rfl (z01 _) rfl ⟨trivial, trivial⟩ ?_
 refine xb rfl ?_ ?_ <;> intro b0
 refine xj (k := 2) rfl (z7 rfl (z0a _) rfl ⟨trivial, trivial⟩ (xj (k := 1) rfl ?_))
 refine xr rfl (q7 rfl ⟨⟨rfl, ?_, trivial⟩, z6 rfl⟩)
 rotate_left
 refine xj (k := 3) rfl ?_
 refine xr rfl (q7 rfl ⟨⟨rfl, ?_, trivial⟩, z6 rfl⟩)
 rotate_left
 all_goals (refine vb ?_; simp_all [Vt.ok])
theorem z21 {a b c d : Int} : y1c [.int .i64 a, .int .i64 b] [.int .i64 c, .int .i64 d] = (a == c && b == d) := by simp [y1c]
abbrev rVt (x : Vt) : Res := .one (.own true [.s (.int .i64 x.b), .s (.int .i64 x.v)])
theorem q38 : PC Tryz.prog 288 [] (rVt Vt.none) := by
 refine PC.begin Tryz.func288 rfl (by kernel_rfl) ?_
 refine xr rfl (q7 rfl ⟨⟨rfl, rfl, rfl, trivial⟩, z6 rfl⟩)
theorem q23 : PC Tryz.prog 185 [] (rVt Vt.none) := by
 refine PC.begin Tryz.func185 rfl (by kernel_rfl) ?_
 refine xr rfl (q7 rfl ⟨⟨rfl, rfl, rfl, trivial⟩, z6 rfl⟩)
theorem zak {α β : Type} {us : List α} {x : α} (f : α → β) (h0 : 0 < us.length) (h : us.length ≤ 1048576) (hx : us[us.length - 1]? = some x) : (us.map f)[(IntKind.i64.wrap (((us.map f).length : Int) - 1)).toNat]? = some (f x) := by
 rw [List.length_map]; exact z1a f h0 (by omega) hx
theorem yat {α β : Type} {us : List α} (f : α → β) (h0 : 0 < us.length) (h : us.length ≤ 1048576) : 0 ≤ IntKind.i64.wrap (((us.map f).length : Int) - 1) := by rw [List.length_map]; exact q0m h0 (by omega)
theorem q5m (us : List Vt) (hl : us.length ≤ 1048576) : PC Tryz.prog 346 [.one (.l (us.map Vt.cs))] (rVt (y3n us)) := by
 refine PC.begin Tryz.func346 rfl (by kernel_rfl) ?_
 by_cases h0 : us.length = 0
 · have e : us = [] := List.eq_nil_of_length_eq_zero h0
   have e2 : y3n us = Vt.none := by rw [e]; rfl
   rw [e2]
   refine xb rfl ?_ ?_ <;> intro b0
   refine z7 rfl (q38) rfl trivial ?_
   refine xr rfl (q7 rfl ⟨⟨rfl, rfl, rfl, trivial⟩, z6 rfl⟩)
   exact absurd b0 (by simp; omega)
   all_goals first | done | (exfalso; simp_all; done) | skip
 · obtain ⟨x, hx⟩ := gx (xs := us) (i := us.length - 1) (by omega)
   have e2 : y3n us = x := by unfold y3n; rw [hx]; rfl
   rw [e2]
   have hg := zak Vt.cs (by omega) hl hx
   refine xb rfl ?_ ?_ <;> intro b0
   exact absurd b0 (by simp [*])
   refine xs rfl (yat Vt.cs (by omega) hl) (q9 rfl _ hg (xs rfl rfl ?_))
   refine xr rfl (q7 rfl ⟨⟨rfl, rfl, rfl, trivial⟩, z6 rfl⟩)
   all_goals first | done | (exfalso; simp_all; done) | skip
theorem q7o (s : Slt) (hl : s.cast.length ≤ 1048576) : PC Tryz.prog 308 [.agg s.cs] (rVt (y3n s.cast)) := by
 refine PC.begin Tryz.func308 rfl (by kernel_rfl) ?_
 by_cases h0 : s.cast.length = 0
 · have e : s.cast = [] := List.eq_nil_of_length_eq_zero h0
   have e2 : y3n s.cast = Vt.none := by rw [e]; rfl
   rw [e2]
   refine xb rfl ?_ ?_ <;> intro b0
   refine z7 rfl (q23) rfl trivial ?_
   refine xr rfl (q7 rfl ⟨⟨rfl, rfl, rfl, trivial⟩, z6 rfl⟩)
   exact absurd b0 (by simp; omega)
   all_goals first | done | (exfalso; simp_all; done) | skip
 · obtain ⟨x, hx⟩ := gx (xs := s.cast) (i := s.cast.length - 1) (by omega)
   have e2 : y3n s.cast = x := by unfold y3n; rw [hx]; rfl
   rw [e2]
   have hg := zak Vt.cs (by omega) hl hx
   refine xb rfl ?_ ?_ <;> intro b0
   exact absurd b0 (by simp [*])
   refine xs rfl (yat Vt.cs (by omega) hl) (q9 rfl _ hg (xs rfl rfl ?_))
   refine xr rfl (q7 rfl ⟨⟨rfl, rfl, rfl, trivial⟩, z6 rfl⟩)
   all_goals first | done | (exfalso; simp_all; done) | skip
theorem q4q (us : List Vt) (hl : us.length ≤ 1048576) : PC Tryz.prog 345 [.one (.l (us.map Vt.cs))] (rI (scan (z12 us) us.length)) := by
 refine PC.begin Tryz.func345 rfl (by kernel_rfl) ?_
 have hle : (us.map Vt.cs).length = us.length := by simp
 refine qd rfl (ι := Nat) (fun i => i ≤ us.length ∧ ∀ j, j < i → z12 us j = 0) (fun i => ⟨[(7, sV (.int .i64 i)), (6, sV (.int .i64 (us.map Vt.cs).length)), (5, .one (.b (.l (us.map Vt.cs)))), (0, .one (.b (.l (us.map Vt.cs))))], []⟩) (fun i => us.length - i) 0 ⟨Nat.zero_le _, fun j hj => by omega⟩ ?_ ?_
 · exact ⟨⟨rfl, rfl, rfl, rfl, trivial⟩, trivial, rfl⟩
 · intro i ⟨hi, h0⟩ J hJ
   refine xb rfl ?_ ?_ <;> intro h
   · have h : i < us.length := by simpa using h
     obtain ⟨x, hx⟩ := gx h
     have hg := gm Vt.cs hx
     rcases Nat.eq_zero_or_pos i with hz | hz
     · subst hz
       refine xs rfl (nn_ _) (q9 rfl _ hg (xs rfl rfl (z7 rfl (y23 _) rfl ⟨tv3, trivial⟩ ?_)))
       refine xb rfl ?_ ?_ <;> intro b0
       refine xr rfl (q7 rfl ⟨⟨rfl, ?_, trivial⟩, z6 rfl⟩)
       rotate_left
       refine ze rfl [] (tk (rg 0 4) (.take 4 (rg 11 25) (tk (rg 5 5) (.take 10 (rg 11 25) (tk [11, 12, 13] (.take 14 (rg 21 15) (tk (rg 15 5) (.take 20 (rg 21 15) (tk [21, 22, 23] (.take 24 (rg 31 5) (tk (rg 25 5) (.take 30 (rg 31 5) (tk (rg 31 5) .done))))))))))))) (by kernel_rfl) (xj (k := 13) rfl ?_)
       rotate_left
       all_goals (first | (refine vi (y9 h h0 ?_ (by first | decide | decide | simp_all)); clear hJ h0 hg; simp_all [z12, ahead_zero]; done) | (refine za rfl (hJ _ 1 ⟨by omega, yc h0 ?_⟩ (by omega) ⟨⟨cwi (by omega) (by omega) (by omega), rfl, rfl, rfl, trivial⟩, trivial, rfl⟩); clear hJ h0 hg; simp_all [z12, ahead_zero]; done) | skip)
     · obtain ⟨p, hp⟩ := gx (xs := us) (i := i - 1) (by omega)
       have hgp := z1a Vt.cs hz (by omega) hp
       refine xs rfl (nn_ _) (q9 rfl _ hg (xs rfl rfl (z7 rfl (y23 _) rfl ⟨tv3, trivial⟩ ?_)))
       refine xb rfl ?_ ?_ <;> intro b0
       refine xr rfl (q7 rfl ⟨⟨rfl, ?_, trivial⟩, z6 rfl⟩)
       rotate_left
       refine ze rfl [] (tk (rg 0 4) (.take 4 (rg 11 25) (tk (rg 5 5) (.take 10 (rg 11 25) (tk [11, 12, 13] (.take 14 (rg 21 15) (tk (rg 15 5) (.take 20 (rg 21 15) (tk [21, 22, 23] (.take 24 (rg 31 5) (tk (rg 25 5) (.take 30 (rg 31 5) (tk (rg 31 5) .done))))))))))))) (by kernel_rfl) ?_
       refine xb rfl ?_ ?_ <;> intro b1
       refine xj (k := 5) rfl (xs rfl (q0m hz (by omega)) (q9 rfl _ hgp (xs rfl rfl (xj (k := 4) rfl ?_))))
       refine xb rfl ?_ ?_ <;> intro b2
       refine xj (k := 14) rfl ?_
       refine xr rfl (q7 rfl ⟨⟨rfl, ?_, trivial⟩, z6 rfl⟩)
       rotate_left
       refine xj (k := 5) rfl (xs rfl (q0m hz (by omega)) (q9 rfl _ hgp (xs rfl rfl (xj (k := 4) rfl ?_))))
       refine xb rfl ?_ ?_ <;> intro b3
       refine xj (k := 5) rfl (xs rfl (q0m hz (by omega)) (q9 rfl _ hgp (xs rfl rfl (xj (k := 8) rfl ?_))))
       refine xb rfl ?_ ?_ <;> intro b4
       refine xr rfl (q7 rfl ⟨⟨rfl, ?_, trivial⟩, z6 rfl⟩)
       rotate_left
       rotate_left
       refine xj (k := 14) rfl ?_
       rotate_left
       refine xj (k := 12) rfl ?_
       rotate_left
       all_goals (first | (refine vi (y9 h h0 ?_ (by first | decide | decide | simp_all)); clear hJ h0 hg hgp; simp_all [z12, qa hz hp]; done) | (refine za rfl (hJ _ (i + 1) ⟨by omega, yc h0 ?_⟩ (by omega) ⟨⟨cwi (by omega) (by omega) (by omega), rfl, rfl, rfl, trivial⟩, trivial, rfl⟩); clear hJ h0 hg hgp; simp_all [z12, qa hz hp]; done) | skip)
   · have h : ¬ i < us.length := by simpa using h
     have hz := yg (f := z12 us) (n := us.length) (fun j hj => h0 j (by omega))
     clear hJ
     refine xr rfl (q7 rfl ⟨⟨rfl, ?_, trivial⟩, z6 rfl⟩)
     exact vi (hz.symm)
theorem z68 (s : Slt) (hl : s.cast.length ≤ 1048576) : PC Tryz.prog 279 [.agg s.cs] (rI s.fault) := by
 refine PC.begin Tryz.func279 rfl (by kernel_rfl) ?_
 have hle : (s.cast.map Vt.cs).length = s.cast.length := by simp
 refine z7 rfl (z4c _) rfl ⟨trivial, trivial⟩ ?_
 refine xb rfl ?_ ?_ <;> intro b0
 refine xj (k := 10) rfl ?_
 refine xr rfl (q7 rfl ⟨⟨rfl, ?_, trivial⟩, z6 rfl⟩)
 rotate_left
 refine xj (k := 2) rfl (z7 rfl (y2e _) rfl ⟨trivial, trivial⟩ (xj (k := 2) rfl ?_))
 refine xb rfl ?_ ?_ <;> intro b1
 refine xj (k := 5) rfl ?_
 refine xr rfl (q7 rfl ⟨⟨rfl, ?_, trivial⟩, z6 rfl⟩)
 rotate_left
 refine xj (k := 2) rfl (z7 rfl (zn _ _ _) rfl tv4 (xj (k := 2) rfl ?_))
 refine xb rfl ?_ ?_ <;> intro b2
 refine xr rfl (q7 rfl ⟨⟨rfl, ?_, trivial⟩, z6 rfl⟩)
 rotate_left
 refine xb rfl ?_ ?_ <;> intro b3
 refine xr rfl (q7 rfl ⟨⟨rfl, ?_, trivial⟩, z6 rfl⟩)
 rotate_left
 refine z7 rfl (q4q _ hl) rfl ⟨trivial, trivial⟩ ?_
 refine xb rfl ?_ ?_ <;> intro b4
 refine xr rfl (q7 rfl ⟨⟨rfl, ?_, trivial⟩, z6 rfl⟩)
 rotate_left
 refine ze rfl [] (.take 0 [] (.take 1 (rg 5 9) (.take 2 [] (.take 3 (rg 4 10) (.alt 4 (tk (rg 5 4) (.take 9 [12, 13] (.take 10 [] (.take 11 [12, 13] (tk [12, 13] .done))))) .nil))))) (by kernel_rfl) (z7 rfl (q5m _ hl) rfl ⟨trivial, trivial⟩ ?_)
 refine xb rfl ?_ ?_ <;> intro b5
 refine xj (k := 7) rfl ?_
 refine xr rfl (q7 rfl ⟨⟨rfl, ?_, trivial⟩, z6 rfl⟩)
 rotate_left
 refine xj (k := 6) rfl ?_
 refine xb rfl ?_ ?_ <;> intro b6
 refine xr rfl (q7 rfl ⟨⟨rfl, ?_, trivial⟩, z6 rfl⟩)
 rotate_left
 refine xr rfl (q7 rfl ⟨⟨rfl, ?_, trivial⟩, z6 rfl⟩)
 rotate_left
 all_goals ((refine vi ?_; unfold Slt.fault; simp only [hle] at *; simp_all [z21]; first | done | omega | ((repeat' split) <;> first | rfl | omega | (simp_all; done) | (simp_all; omega))))
theorem q6d (s : Slt) (hl : s.cast.length ≤ 1048576) : PC Tryz.prog 226 [.agg s.cs] (rI s.fault) := by
 refine PC.begin Tryz.func226 rfl (by kernel_rfl) ?_
 have hle : (s.cast.map Vt.cs).length = s.cast.length := by simp
 refine z7 rfl (y4c _) rfl ⟨trivial, trivial⟩ ?_
 refine xb rfl ?_ ?_ <;> intro b0
 refine xj (k := 10) rfl ?_
 refine xr rfl (q7 rfl ⟨⟨rfl, ?_, trivial⟩, z6 rfl⟩)
 rotate_left
 refine xj (k := 2) rfl (z7 rfl (zj _ _ _) rfl tv4 (xj (k := 2) rfl ?_))
 refine xb rfl ?_ ?_ <;> intro b1
 refine xj (k := 5) rfl ?_
 refine xr rfl (q7 rfl ⟨⟨rfl, ?_, trivial⟩, z6 rfl⟩)
 rotate_left
 refine xj (k := 2) rfl (z7 rfl (zj _ _ _) rfl tv4 (xj (k := 2) rfl ?_))
 refine xb rfl ?_ ?_ <;> intro b2
 refine xr rfl (q7 rfl ⟨⟨rfl, ?_, trivial⟩, z6 rfl⟩)
 rotate_left
 refine xb rfl ?_ ?_ <;> intro b3
 refine xr rfl (q7 rfl ⟨⟨rfl, ?_, trivial⟩, z6 rfl⟩)
 rotate_left
 rotate_left
 all_goals first | ((refine vi ?_; unfold Slt.fault; simp only [hle] at *; simp_all [z21]; first | done | omega | ((repeat' split) <;> first | rfl | omega | (simp_all; done) | (simp_all; omega))); done) | skip
 refine qd rfl (ι := Nat) (fun i => i ≤ s.cast.length ∧ ∀ j, j < i → z12 s.cast j = 0) (fun i => ⟨[(3, sV (.int .i64 i)), (1, .one (.a 1 0))], [(1, .var (s.cs.map .b))]⟩) (fun i => s.cast.length - i) 0 ⟨Nat.zero_le _, fun j hj => by omega⟩ ?_ ?_
 · exact ⟨⟨rfl, ⟨rfl, rfl, rfl⟩, trivial⟩, ⟨lcr, trivial⟩, rfl⟩
 · intro i ⟨hi, h0⟩ J hJ
   refine xb rfl ?_ ?_ <;> intro h
   · have h : i < s.cast.length := by simpa using h
     obtain ⟨x, hx⟩ := gx h
     have hg := gm Vt.cs hx
     rcases Nat.eq_zero_or_pos i with hz | hz
     · subst hz
       refine xs rfl (nn_ _) (q9 rfl _ hg (xs rfl rfl (z7 rfl (z01 _) rfl ⟨trivial, trivial⟩ ?_)))
       refine xb rfl ?_ ?_ <;> intro b0
       refine xj (k := 5) rfl ?_
       refine xr rfl (q7 rfl ⟨⟨rfl, ?_, trivial⟩, z6 rfl⟩)
       rotate_left
       refine xj (k := 2) rfl (z7 rfl (z0a _) rfl ⟨trivial, trivial⟩ (xj (k := 2) rfl ?_))
       refine xb rfl ?_ ?_ <;> intro b1
       refine xr rfl (q7 rfl ⟨⟨rfl, ?_, trivial⟩, z6 rfl⟩)
       rotate_left
       refine ze rfl [] (tk (rg 0 4) (.take 4 (rg 12 26) (.take 5 [] (.take 6 (rg 9 29) (tk (rg 7 4) (.take 11 (rg 12 26) (tk [12, 13, 14] (.take 15 (rg 23 15) (.take 16 [] (.take 17 (rg 20 18) (tk (rg 18 4) (.take 22 (rg 23 15) (tk [23, 24, 25] (.take 26 (rg 34 4) (.take 27 [] (.take 28 (rg 31 7) (tk (rg 29 4) (.take 33 (rg 34 4) (tk (rg 34 4) .done))))))))))))))))))) (by kernel_rfl) (xj (k := 14) rfl ?_)
       rotate_left
       all_goals (first | (have hsc := y9 (c := 3) h h0 (by clear hJ h0 hg; simp_all [z12, ahead_zero, Vt.ok]; done) (by decide); clear hJ h0 hg; (refine vi ?_; unfold Slt.fault; simp only [hle] at *; simp_all [z21]; first | done | omega | ((repeat' split) <;> first | rfl | omega | (simp_all; done) | (simp_all; omega))); done) | (have hsc := y9 (c := 1) h h0 (by clear hJ h0 hg; simp_all [z12, ahead_zero, Vt.ok]; done) (by decide); clear hJ h0 hg; (refine vi ?_; unfold Slt.fault; simp only [hle] at *; simp_all [z21]; first | done | omega | ((repeat' split) <;> first | rfl | omega | (simp_all; done) | (simp_all; omega))); done) | (refine vi (y9 h h0 ?_ (by first | decide | decide | simp_all)); clear hJ h0 hg; simp_all [z12, ahead_zero, Vt.ok]; done) | (refine za rfl (hJ _ 1 ⟨by omega, yc h0 ?_⟩ (by omega) ⟨⟨cwi (by omega) (by omega) (by omega), ⟨rfl, rfl, rfl⟩, trivial⟩, ⟨lcr, trivial⟩, rfl⟩); clear hJ h0 hg; simp_all [z12, ahead_zero, Vt.ok]; done) | skip)
     · obtain ⟨p, hp⟩ := gx (xs := s.cast) (i := i - 1) (by omega)
       have hgp := z1a Vt.cs hz (by omega) hp
       refine xs rfl (nn_ _) (q9 rfl _ hg (xs rfl rfl (z7 rfl (z01 _) rfl ⟨trivial, trivial⟩ ?_)))
       refine xb rfl ?_ ?_ <;> intro b0
       refine xj (k := 5) rfl ?_
       refine xr rfl (q7 rfl ⟨⟨rfl, ?_, trivial⟩, z6 rfl⟩)
       rotate_left
       refine xj (k := 2) rfl (z7 rfl (z0a _) rfl ⟨trivial, trivial⟩ (xj (k := 2) rfl ?_))
       refine xb rfl ?_ ?_ <;> intro b1
       refine xr rfl (q7 rfl ⟨⟨rfl, ?_, trivial⟩, z6 rfl⟩)
       rotate_left
       refine ze rfl [] (tk (rg 0 4) (.take 4 (rg 12 26) (.take 5 [] (.take 6 (rg 9 29) (tk (rg 7 4) (.take 11 (rg 12 26) (tk [12, 13, 14] (.take 15 (rg 23 15) (.take 16 [] (.take 17 (rg 20 18) (tk (rg 18 4) (.take 22 (rg 23 15) (tk [23, 24, 25] (.take 26 (rg 34 4) (.take 27 [] (.take 28 (rg 31 7) (tk (rg 29 4) (.take 33 (rg 34 4) (tk (rg 34 4) .done))))))))))))))))))) (by kernel_rfl) ?_
       refine xb rfl ?_ ?_ <;> intro b2
       refine xj (k := 6) rfl (xs rfl (q0m hz (by omega)) (q9 rfl _ hgp (xs rfl rfl (xj (k := 4) rfl ?_))))
       refine xb rfl ?_ ?_ <;> intro b3
       refine xj (k := 15) rfl ?_
       refine xr rfl (q7 rfl ⟨⟨rfl, ?_, trivial⟩, z6 rfl⟩)
       rotate_left
       refine xj (k := 6) rfl (xs rfl (q0m hz (by omega)) (q9 rfl _ hgp (xs rfl rfl (xj (k := 4) rfl ?_))))
       refine xb rfl ?_ ?_ <;> intro b4
       refine xj (k := 6) rfl (xs rfl (q0m hz (by omega)) (q9 rfl _ hgp (xs rfl rfl (xj (k := 8) rfl ?_))))
       refine xb rfl ?_ ?_ <;> intro b5
       refine xr rfl (q7 rfl ⟨⟨rfl, ?_, trivial⟩, z6 rfl⟩)
       rotate_left
       rotate_left
       refine xj (k := 15) rfl ?_
       rotate_left
       refine xj (k := 13) rfl ?_
       rotate_left
       all_goals (first | (have hsc := y9 (c := 3) h h0 (by clear hJ h0 hg hgp; simp_all [z12, qa hz hp, Vt.ok]; done) (by decide); clear hJ h0 hg; (refine vi ?_; unfold Slt.fault; simp only [hle] at *; simp_all [z21]; first | done | omega | ((repeat' split) <;> first | rfl | omega | (simp_all; done) | (simp_all; omega))); done) | (have hsc := y9 (c := 1) h h0 (by clear hJ h0 hg hgp; simp_all [z12, qa hz hp, Vt.ok]; done) (by decide); clear hJ h0 hg; (refine vi ?_; unfold Slt.fault; simp only [hle] at *; simp_all [z21]; first | done | omega | ((repeat' split) <;> first | rfl | omega | (simp_all; done) | (simp_all; omega))); done) | (refine vi (y9 h h0 ?_ (by first | decide | decide | simp_all)); clear hJ h0 hg hgp; simp_all [z12, qa hz hp, Vt.ok]; done) | (refine za rfl (hJ _ (i + 1) ⟨by omega, yc h0 ?_⟩ (by omega) ⟨⟨cwi (by omega) (by omega) (by omega), ⟨rfl, rfl, rfl⟩, trivial⟩, ⟨lcr, trivial⟩, rfl⟩); clear hJ h0 hg hgp; simp_all [z12, qa hz hp, Vt.ok]; done) | skip)
   · have h : ¬ i < s.cast.length := by simpa using h
     have hz := yg (f := z12 s.cast) (n := s.cast.length) (fun j hj => h0 j (by omega))
     clear hJ
     refine ze rfl [] (.take 0 [] (.take 1 (rg 4 9) (.take 2 (rg 3 10) (.alt 3 (tk (rg 4 4) (.take 8 [11, 12] (.take 9 [] (.take 10 [11, 12] (tk [11, 12] .done))))) .nil)))) (by kernel_rfl) (z7 rfl (q7o _ hl) rfl ⟨tv7, trivial⟩ ?_)
     refine xb rfl ?_ ?_ <;> intro b0
     refine xj (k := 7) rfl ?_
     refine xr rfl (q7 rfl ⟨⟨rfl, ?_, trivial⟩, z6 rfl⟩)
     rotate_left
     refine xj (k := 6) rfl ?_
     refine xb rfl ?_ ?_ <;> intro b1
     refine xr rfl (q7 rfl ⟨⟨rfl, ?_, trivial⟩, z6 rfl⟩)
     rotate_left
     refine xr rfl (q7 rfl ⟨⟨rfl, ?_, trivial⟩, z6 rfl⟩)
     rotate_left
     all_goals ((refine vi ?_; unfold Slt.fault; simp only [hle] at *; simp_all [z21]; first | done | omega | ((repeat' split) <;> first | rfl | omega | (simp_all; done) | (simp_all; omega))))
theorem q2y (a b : Slt) : PC Tryz.prog 280 [.agg a.cs, .agg b.cs] (rI (orr [q0g a.c b.c, q0g a.s b.s])) := by
 refine PC.begin Tryz.func280 rfl (by kernel_rfl) ?_
 refine ze rfl [] (.take 0 [] (.take 1 [4, 9, 10, 11, 12] (.take 2 [] (.take 3 [4, 9, 10, 11, 12] (.take 5 [] (.take 6 (rg 9 4) (.take 7 [] (.take 8 (rg 9 4) (.alt 4 (.alt 9 (.alt 10 (.alt 11 (.take 12 [] .done) .nil) .nil) .nil) .nil))))))))) (by kernel_rfl) (z7 rfl (zu _ _) rfl tv3 (z7 rfl (zu _ _) rfl tv3 (xs rfl tv3 (z7 rfl (q8s [_, _] (by simp)) rfl ⟨rfl, trivial⟩ ?_))))
 refine xr rfl (q7 rfl ⟨⟨rfl, rfl, trivial⟩, z6 rfl⟩)
theorem q3u (a b : Slt) : PC Tryz.prog 256 [.agg a.cs, .agg b.cs] (rB (Slt.lt a b)) := by
 refine PC.begin Tryz.func256 rfl (by kernel_rfl) ?_
 refine xb rfl ?_ ?_ <;> intro b0
 refine xr rfl (q7 rfl ⟨⟨rfl, ?_, trivial⟩, z6 rfl⟩)
 rotate_left
 refine xr rfl (q7 rfl ⟨⟨rfl, ?_, trivial⟩, z6 rfl⟩)
 rotate_left
 all_goals (refine vb ?_; simp_all [Slt.lt])
theorem q97 {p x : Slt} : 0 ≤ orr [q0g p.c x.c, q0g p.s x.s] ↔ Slt.lt p x = false := by
 unfold orr orr orr q0g Slt.lt
 repeat' split
 all_goals (simp; try omega)
theorem z9p (a : Acc) (ho : z41 a) : PC Tryz.prog 204 [.agg a.cs] (rI a.fault) := by
 refine PC.begin Tryz.func204 rfl (by kernel_rfl) ?_
 have hle : (a.slots.map Slt.cs).length = a.slots.length := by simp
 obtain ⟨ho1, ho2⟩ := ho
 refine xb rfl ?_ ?_ <;> intro b0
 refine xr rfl (q7 rfl ⟨⟨rfl, ?_, trivial⟩, z6 rfl⟩)
 rotate_left
 rotate_left
 all_goals first | ((refine vi ?_; unfold Acc.fault; simp only [hle] at *; simp_all; first | done | omega | ((repeat' split) <;> first | rfl | omega | (simp_all; done) | (simp_all; omega))); done) | skip
 refine qd rfl (ι := Nat) (fun i => i ≤ a.slots.length ∧ ∀ j, j < i → q3k a.slots j = 0) (fun i => ⟨[(13, sV (.int .i64 i)), (12, sV (.int .i64 (a.slots.map Slt.cs).length)), (11, .one (.b (.l (a.slots.map Slt.cs)))), (1, .one (.a 1 0))], [(1, .var (a.cs.map .b))]⟩) (fun i => a.slots.length - i) 0 ⟨Nat.zero_le _, fun j hj => by omega⟩ ?_ ?_
 · exact ⟨⟨rfl, rfl, rfl, ⟨rfl, rfl, rfl⟩, trivial⟩, ⟨lcr, trivial⟩, rfl⟩
 · intro i ⟨hi, h0⟩ J hJ
   refine xb rfl ?_ ?_ <;> intro h
   · have h : i < a.slots.length := by simpa using h
     obtain ⟨x, hx⟩ := gx h
     have hg := gm Slt.cs hx
     have hxc := ho2 x (List.mem_of_getElem? hx)
     rcases Nat.eq_zero_or_pos i with hz | hz
     · subst hz
       refine xs rfl (nn_ _) (q9 rfl _ hg (xs rfl rfl (z7 rfl (z68 _ (by assumption)) rfl ⟨tv7, trivial⟩ ?_)))
       refine xb rfl ?_ ?_ <;> intro b0
       refine xr rfl (q7 rfl ⟨⟨rfl, ?_, trivial⟩, z6 rfl⟩)
       rotate_left
       refine ze rfl [] (tk (rg 0 4) (.take 4 [7, 8, 10, 11, 12] (tk [5, 6, 7] (.take 8 (rg 10 3) (.take 9 (rg 10 3) (.alt 10 (tk [11, 12] .done) .nil)))))) (by kernel_rfl) (xj (k := 11) rfl ?_)
       rotate_left
       all_goals (first | (have hsc := y9 (c := 1) h h0 (by clear hJ h0 hg; simp_all [q3k, ahead_zero, q97]; done) (by decide); clear hJ h0 hg; (refine vi ?_; unfold Acc.fault; simp only [hle] at *; simp_all; first | done | omega | ((repeat' split) <;> first | rfl | omega | (simp_all; done) | (simp_all; omega))); done) | (have hsc := y9 (c := x.fault) h h0 (by clear hJ h0 hg; simp_all [q3k, ahead_zero, q97]; done) (by clear hJ h0; simp_all); clear hJ h0 hg; (refine vi ?_; unfold Acc.fault; simp only [hle] at *; simp_all; first | done | omega | ((repeat' split) <;> first | rfl | omega | (simp_all; done) | (simp_all; omega))); done) | (refine vi (y9 h h0 ?_ (by first | decide | decide | simp_all)); clear hJ h0 hg; simp_all [q3k, ahead_zero, q97]; done) | (refine za rfl (hJ _ 1 ⟨by omega, yc h0 ?_⟩ (by omega) ⟨⟨cwi (by omega) (by omega) (by omega), rfl, rfl, ⟨rfl, rfl, rfl⟩, trivial⟩, ⟨lcr, trivial⟩, rfl⟩); clear hJ h0 hg; simp_all [q3k, ahead_zero, q97]; done) | skip)
     · obtain ⟨p, hp⟩ := gx (xs := a.slots) (i := i - 1) (by omega)
       have hgp := z1a Slt.cs hz (by omega) hp
       refine xs rfl (nn_ _) (q9 rfl _ hg (xs rfl rfl (z7 rfl (z68 _ (by assumption)) rfl ⟨tv7, trivial⟩ ?_)))
       refine xb rfl ?_ ?_ <;> intro b0
       refine xr rfl (q7 rfl ⟨⟨rfl, ?_, trivial⟩, z6 rfl⟩)
       rotate_left
       refine ze rfl [] (tk (rg 0 4) (.take 4 [7, 8, 10, 11, 12] (tk [5, 6, 7] (.take 8 (rg 10 3) (.take 9 (rg 10 3) (.alt 10 (tk [11, 12] .done) .nil)))))) (by kernel_rfl) ?_
       refine xb rfl ?_ ?_ <;> intro b1
       refine xj (k := 4) rfl (xs rfl (q0m hz (by omega)) (q9 rfl _ hgp (xs rfl rfl (xj (k := 3) rfl (z7 rfl (q2y _ _) rfl ⟨tv7, tv7, trivial⟩ (xj (k := 2) rfl ?_))))))
       refine xb rfl ?_ ?_ <;> intro b2
       refine xr rfl (q7 rfl ⟨⟨rfl, ?_, trivial⟩, z6 rfl⟩)
       rotate_left
       rotate_left
       refine xj (k := 10) rfl ?_
       rotate_left
       all_goals (first | (have hsc := y9 (c := 1) h h0 (by clear hJ h0 hg hgp; simp_all [q3k, qa hz hp, q97]; done) (by decide); clear hJ h0 hg; (refine vi ?_; unfold Acc.fault; simp only [hle] at *; simp_all; first | done | omega | ((repeat' split) <;> first | rfl | omega | (simp_all; done) | (simp_all; omega))); done) | (have hsc := y9 (c := x.fault) h h0 (by clear hJ h0 hg hgp; simp_all [q3k, qa hz hp, q97]; done) (by clear hJ h0; simp_all); clear hJ h0 hg; (refine vi ?_; unfold Acc.fault; simp only [hle] at *; simp_all; first | done | omega | ((repeat' split) <;> first | rfl | omega | (simp_all; done) | (simp_all; omega))); done) | (refine vi (y9 h h0 ?_ (by first | decide | decide | simp_all)); clear hJ h0 hg hgp; simp_all [q3k, qa hz hp, q97]; done) | (refine za rfl (hJ _ (i + 1) ⟨by omega, yc h0 ?_⟩ (by omega) ⟨⟨cwi (by omega) (by omega) (by omega), rfl, rfl, ⟨rfl, rfl, rfl⟩, trivial⟩, ⟨lcr, trivial⟩, rfl⟩); clear hJ h0 hg hgp; simp_all [q3k, qa hz hp, q97]; done) | skip)
   · have h : ¬ i < a.slots.length := by simpa using h
     have hz := yg (f := q3k a.slots) (n := a.slots.length) (fun j hj => h0 j (by omega))
     clear hJ
     refine xr rfl (q7 rfl ⟨⟨rfl, ?_, trivial⟩, z6 rfl⟩)
     all_goals ((refine vi ?_; unfold Acc.fault; simp only [hle] at *; simp_all; first | done | omega | ((repeat' split) <;> first | rfl | omega | (simp_all; done) | (simp_all; omega))))
theorem ya0 (a : Acc) (ho : z41 a) : PC Tryz.prog 179 [.agg a.cs] (rI a.fault) := by
 refine PC.begin Tryz.func179 rfl (by kernel_rfl) ?_
 have hle : (a.slots.map Slt.cs).length = a.slots.length := by simp
 obtain ⟨ho1, ho2⟩ := ho
 refine xb rfl ?_ ?_ <;> intro b0
 refine xr rfl (q7 rfl ⟨⟨rfl, ?_, trivial⟩, z6 rfl⟩)
 rotate_left
 rotate_left
 all_goals first | ((refine vi ?_; unfold Acc.fault; simp only [hle] at *; simp_all; first | done | omega | ((repeat' split) <;> first | rfl | omega | (simp_all; done) | (simp_all; omega))); done) | skip
 refine qd rfl (ι := Nat) (fun i => i ≤ a.slots.length ∧ ∀ j, j < i → q3k a.slots j = 0) (fun i => ⟨[(3, sV (.int .i64 i)), (1, .one (.a 1 0))], [(1, .var (a.cs.map .b))]⟩) (fun i => a.slots.length - i) 0 ⟨Nat.zero_le _, fun j hj => by omega⟩ ?_ ?_
 · exact ⟨⟨rfl, ⟨rfl, rfl, rfl⟩, trivial⟩, ⟨lcr, trivial⟩, rfl⟩
 · intro i ⟨hi, h0⟩ J hJ
   refine xb rfl ?_ ?_ <;> intro h
   · have h : i < a.slots.length := by simpa using h
     obtain ⟨x, hx⟩ := gx h
     have hg := gm Slt.cs hx
     have hxc := ho2 x (List.mem_of_getElem? hx)
     rcases Nat.eq_zero_or_pos i with hz | hz
     · subst hz
       refine xs rfl (nn_ _) (q9 rfl _ hg (xs rfl rfl (z7 rfl (q6d _ (by assumption)) rfl ⟨tv7, trivial⟩ ?_)))
       refine xb rfl ?_ ?_ <;> intro b0
       refine xr rfl (q7 rfl ⟨⟨rfl, ?_, trivial⟩, z6 rfl⟩)
       rotate_left
       refine ze rfl [] (tk (rg 0 4) (.take 4 [7, 8, 14, 15, 16] (tk [5, 6, 7] (.take 8 (rg 14 3) (.take 9 [] (.take 10 (rg 12 5) (tk [11, 12] (.take 13 (rg 14 3) (.alt 14 (tk [15, 16] .done) .nil))))))))) (by kernel_rfl) (xj (k := 15) rfl ?_)
       rotate_left
       all_goals (first | (have hsc := y9 (c := 1) h h0 (by clear hJ h0 hg; simp_all [q3k, ahead_zero]; done) (by decide); clear hJ h0 hg; (refine vi ?_; unfold Acc.fault; simp only [hle] at *; simp_all; first | done | omega | ((repeat' split) <;> first | rfl | omega | (simp_all; done) | (simp_all; omega))); done) | (have hsc := y9 (c := x.fault) h h0 (by clear hJ h0 hg; simp_all [q3k, ahead_zero]; done) (by clear hJ h0; simp_all); clear hJ h0 hg; (refine vi ?_; unfold Acc.fault; simp only [hle] at *; simp_all; first | done | omega | ((repeat' split) <;> first | rfl | omega | (simp_all; done) | (simp_all; omega))); done) | (refine vi (y9 h h0 ?_ (by first | decide | decide | simp_all)); clear hJ h0 hg; simp_all [q3k, ahead_zero]; done) | (refine za rfl (hJ _ 1 ⟨by omega, yc h0 ?_⟩ (by omega) ⟨⟨cwi (by omega) (by omega) (by omega), ⟨rfl, rfl, rfl⟩, trivial⟩, ⟨lcr, trivial⟩, rfl⟩); clear hJ h0 hg; simp_all [q3k, ahead_zero]; done) | skip)
     · obtain ⟨p, hp⟩ := gx (xs := a.slots) (i := i - 1) (by omega)
       have hgp := z1a Slt.cs hz (by omega) hp
       refine xs rfl (nn_ _) (q9 rfl _ hg (xs rfl rfl (z7 rfl (q6d _ (by assumption)) rfl ⟨tv7, trivial⟩ ?_)))
       refine xb rfl ?_ ?_ <;> intro b0
       refine xr rfl (q7 rfl ⟨⟨rfl, ?_, trivial⟩, z6 rfl⟩)
       rotate_left
       refine ze rfl [] (tk (rg 0 4) (.take 4 [7, 8, 14, 15, 16] (tk [5, 6, 7] (.take 8 (rg 14 3) (.take 9 [] (.take 10 (rg 12 5) (tk [11, 12] (.take 13 (rg 14 3) (.alt 14 (tk [15, 16] .done) .nil))))))))) (by kernel_rfl) ?_
       refine xb rfl ?_ ?_ <;> intro b1
       refine xj (k := 4) rfl (xs rfl (q0m hz (by omega)) (q9 rfl _ hgp (xs rfl rfl (xj (k := 5) rfl (xs rfl (nn_ _) (q9 rfl _ hg (xs rfl rfl (xj (k := 2) rfl (z7 rfl (q3u _ _) rfl ⟨tv7, tv7, trivial⟩ ?_)))))))))
       refine xj (k := 2) rfl ?_
       refine xb rfl ?_ ?_ <;> intro b2
       refine xr rfl (q7 rfl ⟨⟨rfl, ?_, trivial⟩, z6 rfl⟩)
       rotate_left
       rotate_left
       refine xj (k := 14) rfl ?_
       rotate_left
       all_goals (first | (have hsc := y9 (c := 1) h h0 (by clear hJ h0 hg hgp; simp_all [q3k, qa hz hp]; done) (by decide); clear hJ h0 hg; (refine vi ?_; unfold Acc.fault; simp only [hle] at *; simp_all; first | done | omega | ((repeat' split) <;> first | rfl | omega | (simp_all; done) | (simp_all; omega))); done) | (have hsc := y9 (c := x.fault) h h0 (by clear hJ h0 hg hgp; simp_all [q3k, qa hz hp]; done) (by clear hJ h0; simp_all); clear hJ h0 hg; (refine vi ?_; unfold Acc.fault; simp only [hle] at *; simp_all; first | done | omega | ((repeat' split) <;> first | rfl | omega | (simp_all; done) | (simp_all; omega))); done) | (refine vi (y9 h h0 ?_ (by first | decide | decide | simp_all)); clear hJ h0 hg hgp; simp_all [q3k, qa hz hp]; done) | (refine za rfl (hJ _ (i + 1) ⟨by omega, yc h0 ?_⟩ (by omega) ⟨⟨cwi (by omega) (by omega) (by omega), ⟨rfl, rfl, rfl⟩, trivial⟩, ⟨lcr, trivial⟩, rfl⟩); clear hJ h0 hg hgp; simp_all [q3k, qa hz hp]; done) | skip)
   · have h : ¬ i < a.slots.length := by simpa using h
     have hz := yg (f := q3k a.slots) (n := a.slots.length) (fun j hj => h0 j (by omega))
     clear hJ
     refine xr rfl (q7 rfl ⟨⟨rfl, ?_, trivial⟩, z6 rfl⟩)
     all_goals ((refine vi ?_; unfold Acc.fault; simp only [hle] at *; simp_all; first | done | omega | ((repeat' split) <;> first | rfl | omega | (simp_all; done) | (simp_all; omega))))
theorem y7m (rr : List (List Cell)) (us : List Con) (p : Con → Bool) (fn : Nat) (c0 : Cell) (hr : rr = us.map Con.cs) (hf : ∀ x ∈ us, PC Tryz.prog fn [.agg x.cs, .one c0] (rB (p x))) (hl : us.length ≤ 1048576) : PC Tryz.prog 134 [.one (.l rr), .one (.f fn [c0])] (rI (y1d p us)) := by
 refine PC.begin Tryz.func134 rfl (by kernel_rfl) ?_
 subst hr
 have hn : (us.map Con.cs).length = us.length := by simp
 refine qd rfl (ι := Nat) (fun i => i ≤ us.length ∧ ∀ j y, j < i → us[j]? = some y → p y = false) (fun i => ⟨[(8, sV (.int .i64 i)), (7, sV (.int .i64 (us.map Con.cs).length)), (0, .one (.b (.l (us.map Con.cs)))), (1, .one (.b (.f fn [c0])))], []⟩) (fun i => us.length - i) 0 ⟨Nat.zero_le _, fun j y hj => by omega⟩ ?_ ?_
 · exact ⟨⟨rfl, rfl, rfl, rfl, trivial⟩, trivial, rfl⟩
 · intro i ⟨hi, h0⟩ J hJ
   refine xb rfl ?_ ?_ <;> intro h
   · have h : i < us.length := by simpa using h
     obtain ⟨x, hx⟩ := gx h
     have hg := gm Con.cs hx
     have hxm := List.mem_of_getElem? hx
     refine xs rfl (nn_ _) (q9 rfl _ hg (xs rfl rfl (z7 rfl (hf _ hxm) rfl ⟨tv3, trivial, trivial⟩ ?_)))
     refine xb rfl ?_ ?_ <;> intro b0
     refine xr rfl (q7 rfl ⟨⟨rfl, ?_, trivial⟩, z6 rfl⟩)
     rotate_left
     rotate_left
     · exact vi (y07 hx h0 b0).symm
     · exact za rfl (hJ _ (i + 1) ⟨by omega, zh hx h0 b0⟩ (by omega) ⟨⟨cwi (by omega) (by omega) (by omega), rfl, rfl, rfl, trivial⟩, trivial, rfl⟩)
   · have h : ¬ i < us.length := by simpa using h
     refine xr rfl (q7 rfl ⟨⟨rfl, ?_, trivial⟩, z6 rfl⟩)
     exact vi (q01 (yk (by omega) h0)).symm
theorem y0y (c : Clu) (id : Int) (hl : c.cons.length ≤ 1048576) : PC Tryz.prog 42 [.one (.p c.cs), .one (i64 id)] (rI (y1d (fun x : Con => x.id == id) c.cons)) := by
 refine PC.begin Tryz.func42 rfl (by kernel_rfl) ?_
 refine qd rfl (ι := Nat) (fun i => i ≤ c.cons.length ∧ ∀ j y, j < i → c.cons[j]? = some y → (y.id == id) = false) (fun i => ⟨[(5, sV (.int .i64 i)), (0, .one (.b (.p c.cs))), (1, sV (.int .i64 id))], []⟩) (fun i => c.cons.length - i) 0 ⟨Nat.zero_le _, fun j y hj => by omega⟩ ?_ ?_
 · exact ⟨⟨rfl, rfl, rfl, trivial⟩, trivial, rfl⟩
 · intro i ⟨hi, h0⟩ J hJ
   refine xb rfl ?_ ?_ <;> intro h
   · have h : i < c.cons.length := by simpa using h
     obtain ⟨x, hx⟩ := gx h
     have hg := gm Con.cs hx
     refine xs rfl (nn_ _) (q9 rfl _ hg (xs rfl rfl ?_))
     refine xb rfl ?_ ?_ <;> intro b0
     refine xr rfl (q7 rfl ⟨⟨rfl, ?_, trivial⟩, z6 rfl⟩)
     rotate_left
     rotate_left
     · exact vi (y07 hx h0 b0).symm
     · exact za rfl (hJ _ (i + 1) ⟨by omega, zh hx h0 b0⟩ (by omega) ⟨⟨cwi (by omega) (by omega) (by omega), rfl, rfl, trivial⟩, trivial, rfl⟩)
   · have h : ¬ i < c.cons.length := by simpa using h
     refine xr rfl (q7 rfl ⟨⟨rfl, ?_, trivial⟩, z6 rfl⟩)
     exact vi (q01 (p := fun x : Con => x.id == id) (yk (by omega) h0)).symm
theorem q0i (l : List Int) (a b : Nat) : ∀ row ∈ ((ints l).take b).drop a, row.length = 1 := fun row h => by
 have h := List.mem_of_mem_take (List.mem_of_mem_drop h)
 simp [ints] at h
 obtain ⟨_, _, rfl⟩ := h; rfl
theorem z0j (l : List Int) (a b : Nat) : zr (((ints l).take b).drop a) := fun row h => by
 have h := List.mem_of_mem_take (List.mem_of_mem_drop h)
 simp [ints] at h
 obtain ⟨x, _, rfl⟩ := h
 intro c hc
 exact ⟨_, by simpa using hc⟩
abbrev zbu (l : List Int) (v : Int) : Bool → Res
 | true => .one (.bor false [.l (ints l)])
 | false => .one (.own false [.l 1 (ints (z3p l v))])
theorem q68 (l : List Int) (v : Int) (b : Bool) (hb : l.contains v = b) (hl : l.length ≤ 1048576) (hs : l.Pairwise (· < ·)) : PC Tryz.prog 138 [.one (.l (ints l)), .one (i64 v)] (zbu l v b) := by
 refine PC.begin Tryz.func138 rfl (by kernel_rfl) ?_
 have hn : (ints l).length = l.length := by simp
 refine qd rfl (ι := Nat) (fun i => i ≤ l.length ∧ ∀ j y, j < i → l[j]? = some y → y < v) (fun i => ⟨[(5, sV (.int .i64 i)), (0, .one (.b (.l (ints l)))), (1, sV (.int .i64 v))], []⟩) (fun i => l.length - i) 0 ⟨Nat.zero_le _, fun j y hj => by omega⟩ ?_ ?_
 · exact ⟨⟨rfl, rfl, rfl, trivial⟩, trivial, rfl⟩
 · intro i ⟨hi, h0⟩ J hJ
   refine xb rfl ?_ ?_ <;> intro h
   · have h : i < l.length := by simpa using h
     obtain ⟨x, hx⟩ := gx h
     have hg := gm (fun n => [i64 n]) hx
     by_cases h1 : x < v
     · skip
       refine xj (k := 2) rfl (xs rfl (nn_ _) (q9 rfl _ hg (xs rfl rfl (xj (k := 4) rfl ?_))))
       refine xb rfl ?_ ?_ <;> intro b0
       rotate_left
       exact absurd b0 (by simp; omega)
       all_goals first
        | exact za rfl (hJ _ (i + 1) ⟨by omega, zh hx h0 (by simpa using b0)⟩ (by omega) ⟨⟨cwi (by omega) (by omega) (by omega), rfl, rfl, trivial⟩, trivial, rfl⟩)
        | (exfalso; simp at b0; omega)
     · have hnx : ∀ y, l[i]? = some y → ¬ y < v := fun y hy => by rw [hx] at hy; cases hy; exact h1
       by_cases h2 : x = v
       · have hbt : b = true := by rw [← hb, z1u hs h0 hnx, hx, h2]; simp
         subst hbt
         refine xj (k := 2) rfl (xs rfl (nn_ _) (q9 rfl _ hg (xs rfl rfl (xj (k := 4) rfl ?_))))
         refine xb rfl ?_ ?_ <;> intro b0
         exact absurd b0 (by simp; omega)
         refine xb rfl ?_ ?_ <;> intro b1
         refine xj (k := 2) rfl (xs rfl (nn_ _) (q9 rfl _ hg (xs rfl rfl (xj (k := 4) rfl ?_))))
         refine xb rfl ?_ ?_ <;> intro b2
         refine xr rfl (q7 rfl ⟨⟨rfl, rfl, trivial⟩, z6 rfl⟩)
         exact absurd b2 (by simp; omega)
         exact absurd b1 (by simp; omega)
         all_goals first
          | (exfalso; simp at b0; omega)
          | (exfalso; simp at b1; omega)
          | (exfalso; simp at b2; omega)
       · have hbt : b = false := by rw [← hb, z1u hs h0 hnx, hx]; simpa using h2
         have hp := y5s (v := v) (Nat.le_of_lt h) h0 hnx
         rw [hx, if_neg (by simpa using h2)] at hp
         subst hbt
         refine xj (k := 2) rfl (xs rfl (nn_ _) (q9 rfl _ hg (xs rfl rfl (xj (k := 4) rfl ?_))))
         refine xb rfl ?_ ?_ <;> intro b0
         exact absurd b0 (by simp; omega)
         refine xb rfl ?_ ?_ <;> intro b1
         refine xj (k := 2) rfl (xs rfl (nn_ _) (q9 rfl _ hg (xs rfl rfl (xj (k := 4) rfl ?_))))
         refine xb rfl ?_ ?_ <;> intro b2
         exact absurd b2 (by simp; omega)
         refine ze rfl [] (tk [1, 2, 3, 5, 8, 9, 10] (.alt 0 (.alt 4 (.alt 6 (.alt 7 (.alt 11 (.take 12 [] .done) .nil) .nil) .nil) (.alt 6 (.alt 4 (.alt 7 (.alt 11 (.take 12 [] .done) .nil) .nil) .nil) .nil)) (.alt 6 (.alt 0 (.alt 4 (.alt 7 (.alt 11 (.take 12 [] .done) .nil) .nil) .nil) .nil) .nil))) (by kernel_rfl) (xs rfl (.inl rfl) (xs rfl (nn_ _) (xs rfl (nn_ _) (xs rfl (by simp; omega) (xs rfl (by simp) (xs rfl (nn_ _) (xs rfl (by simp; omega) (xs rfl (by simp) ?_))))))))
         refine z03 rfl ?_ ?_
         refine xs rfl trivial ?_
         refine z03 rfl ?_ ?_
         refine xs rfl rfl (xs rfl (q0i _ _ _) (xs rfl (fun _ => z0j _ _ _) (xs rfl (by simp; omega) (xs rfl (by simp; omega) (xs rfl ⟨trivial, trivial⟩ (xs rfl (by simp) (xs rfl rfl (xs rfl (.inl rfl) (xs rfl (by simp; omega) ?_)))))))))
         refine xs rfl (by simp; omega) (xs rfl (by simp) (xs rfl (q0i _ _ _) (xs rfl (fun _ => z0j _ _ _) (xs rfl (by simp; omega) (xs rfl (by simp; omega) ?_)))))
         refine xr rfl (q7 rfl ⟨⟨rfl, ⟨?_, ?_, .inl rfl⟩, trivial⟩, z6 rfl⟩)
         rotate_left
         rotate_left
         refine xs rfl ⟨trivial, trivial⟩ (xs rfl rfl (xs rfl (q0i _ _ _) (xs rfl (fun _ => z0j _ _ _) (xs rfl (by simp; omega) (xs rfl (by simp; omega) (xs rfl (by simp) (xs rfl rfl (xs rfl (.inl rfl) (xs rfl (by simp; omega) ?_)))))))))
         refine xs rfl (by simp; omega) (xs rfl (by simp) (xs rfl (q0i _ _ _) (xs rfl (fun _ => z0j _ _ _) (xs rfl (by simp; omega) (xs rfl (by simp; omega) ?_)))))
         refine xr rfl (q7 rfl ⟨⟨rfl, ⟨?_, ?_, .inl rfl⟩, trivial⟩, z6 rfl⟩)
         rotate_left
         rotate_left
         refine xs rfl ⟨trivial, trivial⟩ (xs rfl trivial (xs rfl rfl (xs rfl (q0i _ _ _) (xs rfl (fun _ => z0j _ _ _) (xs rfl (by simp; omega) (xs rfl (by simp; omega) (xs rfl (by simp) (xs rfl rfl (xs rfl (.inl rfl) ?_)))))))))
         refine xs rfl (by simp; omega) (xs rfl (by simp; omega) (xs rfl (by simp) (xs rfl (q0i _ _ _) (xs rfl (fun _ => z0j _ _ _) (xs rfl (by simp; omega) (xs rfl (by simp; omega) ?_))))))
         refine xr rfl (q7 rfl ⟨⟨rfl, ⟨?_, ?_, .inl rfl⟩, trivial⟩, z6 rfl⟩)
         rotate_left
         rotate_left
         exact absurd b1 (by simp; omega)
         all_goals first
          | (exfalso; simp at b0; omega)
          | (exfalso; simp at b1; omega)
          | (exfalso; simp at b2; omega)
          | exact List.length_append.symm
          | (rw [hp]; simp [ints, List.map_take, List.map_drop, List.take_of_length_le]; done)
   · have h : i = l.length := by have : ¬ i < l.length := (by simpa using h); omega
     subst h
     have hc := z1u hs h0 (fun x hx => by rw [List.getElem?_eq_none (Nat.le_refl _)] at hx; cases hx)
     rw [List.getElem?_eq_none (Nat.le_refl _)] at hc
     have hbf : b = false := by rw [← hb, hc]; rfl
     subst hbf
     have hp := y5s (v := v) (Nat.le_refl _) h0 (fun x hx => by rw [List.getElem?_eq_none (Nat.le_refl _)] at hx; cases hx)
     rw [List.getElem?_eq_none (Nat.le_refl _), if_neg (by simp)] at hp
     refine xj (k := 7) rfl ?_
     refine xb rfl ?_ ?_ <;> intro b0
     exact absurd b0 (by simp [*])
     refine xj (k := 7) rfl (ze rfl [] (tk [1, 2, 3, 5, 8, 9, 10] (.alt 0 (.alt 4 (.alt 6 (.alt 7 (.alt 11 (.take 12 [] .done) .nil) .nil) .nil) (.alt 6 (.alt 4 (.alt 7 (.alt 11 (.take 12 [] .done) .nil) .nil) .nil) .nil)) (.alt 6 (.alt 0 (.alt 4 (.alt 7 (.alt 11 (.take 12 [] .done) .nil) .nil) .nil) .nil) .nil))) (by kernel_rfl) (xs rfl (.inl rfl) (xs rfl (nn_ _) (xs rfl (nn_ _) (xs rfl (by simp) (xs rfl (by simp) (xs rfl (nn_ _) (xs rfl (by simp) (xs rfl (by simp) ?_)))))))))
     refine z03 rfl ?_ ?_
     refine xs rfl trivial ?_
     refine z03 rfl ?_ ?_
     refine xs rfl rfl (xs rfl (q0i _ _ _) (xs rfl (fun _ => z0j _ _ _) (xs rfl (by simp; omega) (xs rfl (by simp; omega) (xs rfl ⟨trivial, trivial⟩ (xs rfl (by simp) (xs rfl rfl (xs rfl (.inl rfl) (xs rfl (by simp; omega) ?_)))))))))
     refine xs rfl (by simp; omega) (xs rfl (by simp) (xs rfl (q0i _ _ _) (xs rfl (fun _ => z0j _ _ _) (xs rfl (by simp; omega) (xs rfl (by simp; omega) ?_)))))
     refine xr rfl (q7 rfl ⟨⟨rfl, ⟨?_, ?_, .inl rfl⟩, trivial⟩, z6 rfl⟩)
     rotate_left
     rotate_left
     refine xs rfl ⟨trivial, trivial⟩ (xs rfl rfl (xs rfl (q0i _ _ _) (xs rfl (fun _ => z0j _ _ _) (xs rfl (by simp; omega) (xs rfl (by simp; omega) (xs rfl (by simp) (xs rfl rfl (xs rfl (.inl rfl) (xs rfl (by simp; omega) ?_)))))))))
     refine xs rfl (by simp; omega) (xs rfl (by simp) (xs rfl (q0i _ _ _) (xs rfl (fun _ => z0j _ _ _) (xs rfl (by simp; omega) (xs rfl (by simp; omega) ?_)))))
     refine xr rfl (q7 rfl ⟨⟨rfl, ⟨?_, ?_, .inl rfl⟩, trivial⟩, z6 rfl⟩)
     rotate_left
     rotate_left
     refine xs rfl ⟨trivial, trivial⟩ (xs rfl trivial (xs rfl rfl (xs rfl (q0i _ _ _) (xs rfl (fun _ => z0j _ _ _) (xs rfl (by simp; omega) (xs rfl (by simp; omega) (xs rfl (by simp) (xs rfl rfl (xs rfl (.inl rfl) ?_)))))))))
     refine xs rfl (by simp; omega) (xs rfl (by simp; omega) (xs rfl (by simp) (xs rfl (q0i _ _ _) (xs rfl (fun _ => z0j _ _ _) (xs rfl (by simp; omega) (xs rfl (by simp; omega) ?_))))))
     refine xr rfl (q7 rfl ⟨⟨rfl, ⟨?_, ?_, .inl rfl⟩, trivial⟩, z6 rfl⟩)
     rotate_left
     rotate_left
     all_goals first
      | exact List.length_append.symm
      | (rw [hp]; simp [ints, List.map_take, List.map_drop, List.take_of_length_le]; done)
theorem z1x (x : Con) (hl : x.legs.length ≤ 1048576) : PC Tryz.prog 62 [.agg x.cs] (.one (.bor false [.l (ints (shF x.legs))])) := by
 refine PC.begin Tryz.func62 rfl (by kernel_rfl) ?_
 refine xs rfl trivial ?_
 refine qd rfl (ι := Nat) (fun i => i ≤ x.legs.length) (fun i => ⟨[(4, sV (.int .i64 i)), (3, .one (.b (.l (ints (shF (x.legs.take i)))))), (1, .one (.a 1 0))], [(1, .var (x.cs.map .b))]⟩) (fun i => x.legs.length - i) 0 (Nat.zero_le _) ?_ ?_
 · exact ⟨⟨rfl, ⟨rfl, rfl, rfl⟩, ⟨rfl, rfl, rfl⟩, trivial⟩, ⟨lcr, trivial⟩, rfl⟩
 · intro i hi J hJ
   refine xb rfl ?_ ?_ <;> intro h
   · have h : i < x.legs.length := by simpa using h
     obtain ⟨y, hy⟩ := gx h
     have hg := gm Leg.cs hy
     have hst := y6e hy
     have hlen := y2g x.legs i
     cases hb : (shF (x.legs.take i)).contains y.s with
     | true =>
       have hp := q68 _ _ true hb (by omega) (z6e _)
       have he : z3p (shF (x.legs.take i)) y.s = shF (x.legs.take i) := by
        have := q6c (z6e (x.legs.take i)) hb
        exact this
       rw [he] at hst
       refine xs rfl (nn_ _) (q9 rfl _ hg (xs rfl rfl (z7 rfl (hp) rfl tv3 ?_)))
       exact za rfl (hJ _ (i + 1) (by omega) (by omega) ⟨⟨cwi (by omega) (by omega) (by omega), (by rw [hst]; rfl), ⟨rfl, rfl, rfl⟩, trivial⟩, ⟨lcr, trivial⟩, rfl⟩)
     | false =>
       have hp := q68 _ _ false hb (by omega) (z6e _)
       refine xs rfl (nn_ _) (q9 rfl _ hg (xs rfl rfl (z7 rfl (hp) rfl tv3 ?_)))
       exact za rfl (hJ _ (i + 1) (by omega) (by omega) ⟨⟨cwi (by omega) (by omega) (by omega), ⟨rfl, rfl, (by rw [hst])⟩, ⟨rfl, rfl, rfl⟩, trivial⟩, ⟨lcr, trivial⟩, rfl⟩)
   · have h : i = x.legs.length := by have : ¬ i < x.legs.length := (by simpa using h); omega
     subst h
     rw [List.take_length]
     refine xr rfl (q7 rfl ⟨⟨rfl, rfl, trivial⟩, z6 rfl⟩)
theorem qx (c : Clu) (ho : y00 c) (id s : Int) : PC Tryz.prog 177 [.one (.p c.cs), .one (i64 id), .one (i64 s)] (rB (q14 c.cons id s)) := by
 refine PC.begin Tryz.func177 rfl (by kernel_rfl) ?_
 have hf := y0y c id ho.1.1
 cases h : z0w c.cons id with
 | none =>
   rw [q1v h] at hf
   have e : q14 c.cons id s = false := by unfold q14; rw [h]
   rw [e]
   refine z7 rfl (hf) rfl tv3 (xj (k := 11) rfl ?_)
   refine xr rfl (q7 rfl ⟨⟨rfl, rfl, trivial⟩, z6 rfl⟩)
 | some x =>
   obtain ⟨i, hi, hx⟩ := q1d h
   rw [hi] at hf
   have hg := gm Con.cs hx
   have hxl := ho.1.2 x (List.mem_of_getElem? hx)
   have e : q14 c.cons id s = (shF x.legs).any (fun y => y == s) := by unfold q14; rw [h, ya3]
   rw [e]
   refine z7 rfl (hf) rfl tv3 (xj (k := 6) rfl (xs rfl (nn_ _) (q9 rfl _ hg (xs rfl rfl (xj (k := 2) rfl (z7 rfl (z1x x hxl) rfl ⟨tv3, trivial⟩ (xj (k := 2) rfl (z7 rfl (q2u _ (shF x.legs) s rfl (by have := y2g x.legs x.legs.length; rw [List.take_length] at this; omega)) rfl tv3 (xj (k := 1) rfl ?_)))))))))
   refine xr rfl (q7 rfl ⟨⟨rfl, rfl, trivial⟩, z6 rfl⟩)
   all_goals first
    | (exfalso; simp at b0; omega)
    | skip
theorem y2i (x : Con) (id : Int) : PC Tryz.prog 135 [.agg x.cs, .one (.p [i64 id])] (rB (x.id == id)) := by
 refine PC.begin Tryz.func135 rfl (by kernel_rfl) ?_
 refine xr rfl (q7 rfl ⟨⟨rfl, rfl, trivial⟩, z6 rfl⟩)
theorem y1b (c : Clu) (ho : y00 c) (id : Int) (h : z0w c.cons id = none) : PC Tryz.prog 60 [.one (.p c.cs), .one (i64 id)] (.tup [.bor true [i64 0, .l []], .own false [.s (.bool false)]]) := by
 refine PC.begin Tryz.func60 rfl (by kernel_rfl) ?_
 have hi := y7m _ c.cons (fun x => x.id == id) 135 (.p [i64 id]) rfl (fun x _ => y2i x id) ho.1.1
 rw [q1v h] at hi
 refine z7 rfl (hi) rfl ⟨trivial, (List.forall_mem_cons.2 ⟨⟨trivial, trivial⟩, (fun _ h => nomatch h)⟩), trivial⟩ (xj (k := 1) rfl ?_)
 refine xr rfl (q7 rfl ⟨(by decide), ⟨⟨rfl, rfl, rfl, trivial⟩, ⟨rfl, rfl, trivial⟩, trivial⟩, z6 rfl⟩)
theorem q1b (c : Clu) (ho : y00 c) (id : Int) (x : Con) (h : z0w c.cons id = some x) : PC Tryz.prog 60 [.one (.p c.cs), .one (i64 id)] (.tup [.bor true x.cs, .own false [.s (.bool true)]]) := by
 refine PC.begin Tryz.func60 rfl (by kernel_rfl) ?_
 have hi := y7m _ c.cons (fun x => x.id == id) 135 (.p [i64 id]) rfl (fun x _ => y2i x id) ho.1.1
 obtain ⟨i, hi0, hx⟩ := q1d h
 rw [hi0] at hi
 have hg := gm Con.cs hx
 refine z7 rfl (hi) rfl ⟨trivial, (List.forall_mem_cons.2 ⟨⟨trivial, trivial⟩, (fun _ h => nomatch h)⟩), trivial⟩ (xj (k := 1) rfl (xs rfl (nn_ _) (q9 rfl _ hg (xs rfl rfl ?_))))
 refine xr rfl (q7 rfl ⟨(by decide), ⟨⟨rfl, rfl, rfl, trivial⟩, ⟨rfl, rfl, trivial⟩, trivial⟩, z6 rfl⟩)
 all_goals first
  | (exfalso; simp at b0; omega)
  | skip
theorem q17 (c : Clu) (ho : y00 c) (id s : Int) : PC Tryz.prog 201 [.one (.p c.cs), .one (i64 id), .one (i64 s)] (rB (q14 c.cons id s)) := by
 refine PC.begin Tryz.func201 rfl (by kernel_rfl) ?_
 cases h : z0w c.cons id with
 | none =>
   have e : q14 c.cons id s = false := by unfold q14; rw [h]
   rw [e]
   refine z7 rfl (y1b c ho id h) rfl tv3 (xj (k := 6) rfl ?_)
   refine xr rfl (q7 rfl ⟨⟨rfl, rfl, trivial⟩, z6 rfl⟩)
 | some x =>
   obtain ⟨i, hi, hx⟩ := q1d h
   have hxl := ho.1.2 x (List.mem_of_getElem? hx)
   have e : q14 c.cons id s = decide (0 < (yn x s).length) := by unfold q14; rw [h, y6t]
   rw [e]
   refine z7 rfl (q1b c ho id x h) rfl tv3 (xj (k := 3) rfl (z7 rfl (z15 _ _ (by omega)) rfl ⟨tv3, trivial, trivial⟩ (xj (k := 3) rfl ?_)))
   refine xr rfl (q7 rfl ⟨⟨rfl, ?_, trivial⟩, z6 rfl⟩)
   all_goals (refine vb ?_; simp)
theorem y2o (rr : List (List Cell)) : PC Tryz.prog 113 [.one (.l rr)] (rI rr.length) := by
 refine PC.begin Tryz.func113 rfl (by kernel_rfl) ?_
 refine xr rfl (q7 rfl ⟨⟨rfl, rfl, trivial⟩, z6 rfl⟩)
theorem y1j (rr : List (List Cell)) : PC Tryz.prog 114 [.one (.l rr)] (rI rr.length) := by
 refine PC.begin Tryz.func114 rfl (by kernel_rfl) ?_
 refine xr rfl (q7 rfl ⟨⟨rfl, rfl, trivial⟩, z6 rfl⟩)
theorem z4j (rr : List (List Cell)) : PC Tryz.prog 350 [.one (.l rr)] (rI rr.length) := by
 refine PC.begin Tryz.func350 rfl (by kernel_rfl) ?_
 refine xr rfl (q7 rfl ⟨⟨rfl, rfl, trivial⟩, z6 rfl⟩)
theorem q2d (rows : List (List Cell)) (n : Int) (hl : rows.length ≤ 1048576) : PC Tryz.prog 166 [.one (i64 n), .one (.l rows)] (rB (within n 0 ((rows.length : Int) - 1))) := by
 refine PC.begin Tryz.func166 rfl (by kernel_rfl) ?_
 have hw : IntKind.i64.wrap ((rows.length : Int) - 1) = (rows.length : Int) - 1 := wrap_i64 (by omega) (by omega)
 refine z7 rfl (y2o _) rfl ⟨trivial, trivial⟩ (z7 rfl (zn _ _ _) rfl tv4 ?_)
 refine xr rfl (q7 rfl ⟨⟨rfl, ?_, trivial⟩, z6 rfl⟩)
 all_goals (refine vb ?_; rw [hw])
theorem y0d (rows : List (List Cell)) (n : Int) (hl : rows.length ≤ 1048576) : PC Tryz.prog 285 [.one (i64 n), .one (.l rows)] (rB (within n 0 ((rows.length : Int) - 1))) := by
 refine PC.begin Tryz.func285 rfl (by kernel_rfl) ?_
 have hw : IntKind.i64.wrap ((rows.length : Int) - 1) = (rows.length : Int) - 1 := wrap_i64 (by omega) (by omega)
 refine z7 rfl (y1j _) rfl ⟨trivial, trivial⟩ (z7 rfl (zn _ _ _) rfl tv4 ?_)
 refine xr rfl (q7 rfl ⟨⟨rfl, ?_, trivial⟩, z6 rfl⟩)
 all_goals (refine vb ?_; rw [hw])
theorem y2d (rows : List (List Cell)) (n : Int) (hl : rows.length ≤ 1048576) : PC Tryz.prog 287 [.one (i64 n), .one (.l rows)] (rB (within n 0 ((rows.length : Int) - 1))) := by
 refine PC.begin Tryz.func287 rfl (by kernel_rfl) ?_
 have hw : IntKind.i64.wrap ((rows.length : Int) - 1) = (rows.length : Int) - 1 := wrap_i64 (by omega) (by omega)
 refine z7 rfl (z4j _) rfl ⟨trivial, trivial⟩ (z7 rfl (zn _ _ _) rfl tv4 ?_)
 refine xr rfl (q7 rfl ⟨⟨rfl, ?_, trivial⟩, z6 rfl⟩)
 all_goals (refine vb ?_; rw [hw])
abbrev zbl (m : Msg) : Res := .one (.own true [.s (.int .i64 m.k), .s (.int .i64 m.to), .s (.int .i64 m.fr), .s (.int .i64 m.c), .s (.int .i64 m.s), .s (.int .i64 m.b), .s (.int .i64 m.v), .s (.int .i64 m.ob), .s (.int .i64 m.ov)])
theorem kinds {k : Int} (h : Go.Sx.within k 1 6 = true) : k = 1 ∨ k = 2 ∨ k = 3 ∨ k = 4 ∨ k = 5 ∨ k = 6 := by
 have := Go.Sx.within_iff.1 h
 omega
theorem wl1 {α β : Type} (f : α → β) {us : List α} (h : us.length ≤ 1048576) : IntKind.i64.wrap (((us.map f).length : Int) - 1) = (us.length : Int) - 1 := by rw [List.length_map]; exact wrap_i64 (by omega) (by omega)
theorem y0c {α : Type} {p : α → Bool} {l : List α} : decide (y1d p l < 0) = (l.find? p).isNone := by
 cases h : l.find? p with
 | none => rw [q1v h]; rfl
 | some x =>
   obtain ⟨i, hi, _⟩ := q1d h
   rw [hi]; simp
theorem q0d (m : Msg) (hk : Go.Sx.within m.k 1 6 = true) : PC Tryz.prog 187 [.agg m.cs] (zbl m.bare) := by
 refine PC.begin Tryz.func187 rfl (by kernel_rfl) ?_
 obtain ⟨k, to, fr, c, s, b, v, ob, ov⟩ := m
 rcases kinds hk with h | h | h | h | h | h
 · dsimp only at h
   subst h
   rw [show Msg.bare ⟨1, to, fr, c, s, b, v, ob, ov⟩ = ⟨1, to, 0, c, 0, 0, 0, 0, 0⟩ from rfl]
   refine xj (k := 20) rfl ?_
   refine xr rfl (q7 rfl ⟨⟨rfl, rfl, rfl, rfl, rfl, rfl, rfl, rfl, rfl, rfl, trivial⟩, z6 rfl⟩)
 · dsimp only at h
   subst h
   rw [show Msg.bare ⟨2, to, fr, c, s, b, v, ob, ov⟩ = ⟨2, to, 0, c, s, b, v, 0, 0⟩ from rfl]
   refine xj (k := 20) rfl ?_
   refine xr rfl (q7 rfl ⟨⟨rfl, rfl, rfl, rfl, rfl, rfl, rfl, rfl, rfl, rfl, trivial⟩, z6 rfl⟩)
 · dsimp only at h
   subst h
   rw [show Msg.bare ⟨3, to, fr, c, s, b, v, ob, ov⟩ = ⟨3, to, fr, c, s, b, v, 0, 0⟩ from rfl]
   refine xj (k := 20) rfl ?_
   refine xr rfl (q7 rfl ⟨⟨rfl, rfl, rfl, rfl, rfl, rfl, rfl, rfl, rfl, rfl, trivial⟩, z6 rfl⟩)
 · dsimp only at h
   subst h
   rw [show Msg.bare ⟨4, to, fr, c, s, b, v, ob, ov⟩ = ⟨4, to, fr, c, s, b, 0, 0, 0⟩ from rfl]
   refine xj (k := 20) rfl ?_
   refine xr rfl (q7 rfl ⟨⟨rfl, rfl, rfl, rfl, rfl, rfl, rfl, rfl, rfl, rfl, trivial⟩, z6 rfl⟩)
 · dsimp only at h
   subst h
   rw [show Msg.bare ⟨5, to, fr, c, s, b, v, ob, ov⟩ = ⟨5, to, fr, c, s, b, 0, ob, ov⟩ from rfl]
   refine xj (k := 20) rfl ?_
   refine xr rfl (q7 rfl ⟨⟨rfl, rfl, rfl, rfl, rfl, rfl, rfl, rfl, rfl, rfl, trivial⟩, z6 rfl⟩)
 · dsimp only at h
   subst h
   rw [show Msg.bare ⟨6, to, fr, c, s, b, v, ob, ov⟩ = ⟨6, to, 0, c, 0, 0, v, 0, 0⟩ from rfl]
   refine xj (k := 20) rfl ?_
   refine xr rfl (q7 rfl ⟨⟨rfl, rfl, rfl, rfl, rfl, rfl, rfl, rfl, rfl, rfl, trivial⟩, z6 rfl⟩)
theorem y8t (m : Msg) (hk : Go.Sx.within m.k 1 6 = true) : PC Tryz.prog 212 [.agg m.cs] (zbl m.bare) := by
 refine PC.begin Tryz.func212 rfl (by kernel_rfl) ?_
 obtain ⟨k, to, fr, c, s, b, v, ob, ov⟩ := m
 rcases kinds hk with h | h | h | h | h | h
 · dsimp only at h
   subst h
   rw [show Msg.bare ⟨1, to, fr, c, s, b, v, ob, ov⟩ = ⟨1, to, 0, c, 0, 0, 0, 0, 0⟩ from rfl]
   refine xj (k := 10) rfl ?_
   refine xr rfl (q7 rfl ⟨⟨rfl, rfl, rfl, rfl, rfl, rfl, rfl, rfl, rfl, rfl, trivial⟩, z6 rfl⟩)
 · dsimp only at h
   subst h
   rw [show Msg.bare ⟨2, to, fr, c, s, b, v, ob, ov⟩ = ⟨2, to, 0, c, s, b, v, 0, 0⟩ from rfl]
   refine xj (k := 5) rfl (ze rfl [] (.take 0 [] (.take 1 (rg 4 4) (tk [2, 4] (.alt 3 (.alt 5 (.take 6 [] (.alt 7 .done .nil)) .nil) (.alt 5 (.take 3 [6, 7] (.take 6 [] (.alt 7 .done .nil))) .nil))))) (by kernel_rfl) ?_)
   refine z03 rfl ?_ ?_
   refine xj (k := 2) rfl ?_
   refine xr rfl (q7 rfl ⟨⟨rfl, rfl, rfl, rfl, rfl, rfl, rfl, rfl, rfl, rfl, trivial⟩, z6 rfl⟩)
   refine xj (k := 2) rfl ?_
   refine xr rfl (q7 rfl ⟨⟨rfl, rfl, rfl, rfl, rfl, rfl, rfl, rfl, rfl, rfl, trivial⟩, z6 rfl⟩)
 · dsimp only at h
   subst h
   rw [show Msg.bare ⟨3, to, fr, c, s, b, v, ob, ov⟩ = ⟨3, to, fr, c, s, b, v, 0, 0⟩ from rfl]
   refine xj (k := 5) rfl (ze rfl [] (.take 0 [] (.take 1 (rg 4 4) (tk [2, 4] (.alt 3 (.alt 5 (.take 6 [] (.alt 7 .done .nil)) .nil) (.alt 5 (.take 3 [6, 7] (.take 6 [] (.alt 7 .done .nil))) .nil))))) (by kernel_rfl) ?_)
   refine z03 rfl ?_ ?_
   refine xj (k := 3) rfl (ze rfl [] (.take 0 [] (.take 1 (rg 4 4) (tk [2, 4] (.alt 3 (.alt 5 (.take 6 [] (.alt 7 .done .nil)) .nil) (.alt 5 (.take 3 [6, 7] (.take 6 [] (.alt 7 .done .nil))) .nil))))) (by kernel_rfl) ?_)
   refine z03 rfl ?_ ?_
   refine xr rfl (q7 rfl ⟨⟨rfl, rfl, rfl, rfl, rfl, rfl, rfl, rfl, rfl, rfl, trivial⟩, z6 rfl⟩)
   refine xr rfl (q7 rfl ⟨⟨rfl, rfl, rfl, rfl, rfl, rfl, rfl, rfl, rfl, rfl, trivial⟩, z6 rfl⟩)
   refine xj (k := 3) rfl (ze rfl [] (.take 0 [] (.take 1 (rg 4 4) (tk [2, 4] (.alt 3 (.alt 5 (.take 6 [] (.alt 7 .done .nil)) .nil) (.alt 5 (.take 3 [6, 7] (.take 6 [] (.alt 7 .done .nil))) .nil))))) (by kernel_rfl) ?_)
   refine z03 rfl ?_ ?_
   refine xr rfl (q7 rfl ⟨⟨rfl, rfl, rfl, rfl, rfl, rfl, rfl, rfl, rfl, rfl, trivial⟩, z6 rfl⟩)
   refine xr rfl (q7 rfl ⟨⟨rfl, rfl, rfl, rfl, rfl, rfl, rfl, rfl, rfl, rfl, trivial⟩, z6 rfl⟩)
 · dsimp only at h
   subst h
   rw [show Msg.bare ⟨4, to, fr, c, s, b, v, ob, ov⟩ = ⟨4, to, fr, c, s, b, 0, 0, 0⟩ from rfl]
   refine xj (k := 5) rfl (ze rfl [] (.take 0 [] (.take 1 (rg 4 4) (tk [2, 4] (.alt 3 (.alt 5 (.take 6 [] (.alt 7 .done .nil)) .nil) (.alt 5 (.take 3 [6, 7] (.take 6 [] (.alt 7 .done .nil))) .nil))))) (by kernel_rfl) ?_)
   refine z03 rfl ?_ ?_
   refine xj (k := 4) rfl ?_
   refine xr rfl (q7 rfl ⟨⟨rfl, rfl, rfl, rfl, rfl, rfl, rfl, rfl, rfl, rfl, trivial⟩, z6 rfl⟩)
   refine xj (k := 4) rfl ?_
   refine xr rfl (q7 rfl ⟨⟨rfl, rfl, rfl, rfl, rfl, rfl, rfl, rfl, rfl, rfl, trivial⟩, z6 rfl⟩)
 · dsimp only at h
   subst h
   rw [show Msg.bare ⟨5, to, fr, c, s, b, v, ob, ov⟩ = ⟨5, to, fr, c, s, b, 0, ob, ov⟩ from rfl]
   refine xj (k := 5) rfl (ze rfl [] (.take 0 [] (.take 1 (rg 4 4) (tk [2, 4] (.alt 3 (.alt 5 (.take 6 [] (.alt 7 .done .nil)) .nil) (.alt 5 (.take 3 [6, 7] (.take 6 [] (.alt 7 .done .nil))) .nil))))) (by kernel_rfl) ?_)
   refine z03 rfl ?_ ?_
   refine xj (k := 5) rfl (ze rfl [] (.take 0 [] (.take 1 (rg 4 4) (tk [2, 4] (.alt 3 (.alt 5 (.take 6 [] (.alt 7 .done .nil)) .nil) (.alt 5 (.take 3 [6, 7] (.take 6 [] (.alt 7 .done .nil))) .nil))))) (by kernel_rfl) ?_)
   refine z03 rfl ?_ ?_
   refine xr rfl (q7 rfl ⟨⟨rfl, rfl, rfl, rfl, rfl, rfl, rfl, rfl, rfl, rfl, trivial⟩, z6 rfl⟩)
   refine xr rfl (q7 rfl ⟨⟨rfl, rfl, rfl, rfl, rfl, rfl, rfl, rfl, rfl, rfl, trivial⟩, z6 rfl⟩)
   refine xj (k := 5) rfl (ze rfl [] (.take 0 [] (.take 1 (rg 4 4) (tk [2, 4] (.alt 3 (.alt 5 (.take 6 [] (.alt 7 .done .nil)) .nil) (.alt 5 (.take 3 [6, 7] (.take 6 [] (.alt 7 .done .nil))) .nil))))) (by kernel_rfl) ?_)
   refine z03 rfl ?_ ?_
   refine xr rfl (q7 rfl ⟨⟨rfl, rfl, rfl, rfl, rfl, rfl, rfl, rfl, rfl, rfl, trivial⟩, z6 rfl⟩)
   refine xr rfl (q7 rfl ⟨⟨rfl, rfl, rfl, rfl, rfl, rfl, rfl, rfl, rfl, rfl, trivial⟩, z6 rfl⟩)
 · dsimp only at h
   subst h
   rw [show Msg.bare ⟨6, to, fr, c, s, b, v, ob, ov⟩ = ⟨6, to, 0, c, 0, 0, v, 0, 0⟩ from rfl]
   refine xj (k := 7) rfl ?_
   refine xr rfl (q7 rfl ⟨⟨rfl, rfl, rfl, rfl, rfl, rfl, rfl, rfl, rfl, rfl, trivial⟩, z6 rfl⟩)
theorem y1m (c : Clu) (ho : y00 c) (m : Msg) (hk : Go.Sx.within m.k 1 6 = true) : PC Tryz.prog 184 [.one (.p c.cs), .agg m.cs] (rB (ends c m)) := by
 refine PC.begin Tryz.func184 rfl (by kernel_rfl) ?_
 have q1 := ho.2.1.1
 have q2 := ho.2.2.1.1
 have q3 := ho.2.2.2.1.1
 have p1 : (c.shs.map Shd.cs).length ≤ 1048576 := by simpa using q1
 have p2 : (c.accs.map Acc.cs).length ≤ 1048576 := by simpa using q2
 have p3 : (c.ldrs.map Ldr.cs).length ≤ 1048576 := by simpa using q3
 have w1 := wl1 Shd.cs q1
 have w2 := wl1 Acc.cs q2
 have w3 := wl1 Ldr.cs q3
 obtain ⟨k, to, fr, mc, s, b, v, ob, ov⟩ := m
 rcases kinds hk with h | h | h | h | h | h
 · dsimp only at h
   subst h
   refine xj (k := 11) rfl (z7 rfl (zj _ _ _) rfl tv4 ?_)
   refine xb rfl ?_ ?_ <;> intro b0
   refine xj (k := 17) rfl ?_
   refine xr rfl (q7 rfl ⟨⟨rfl, ?_, trivial⟩, z6 rfl⟩)
   rotate_left
   refine xj (k := 7) rfl ?_
   refine xr rfl (q7 rfl ⟨⟨rfl, ?_, trivial⟩, z6 rfl⟩)
   rotate_left
   all_goals (refine vb ?_; simp_all [ends, toN, frN]; done)
 · dsimp only at h
   subst h
   refine xj (k := 11) rfl (z7 rfl (zj _ _ _) rfl tv4 ?_)
   refine xb rfl ?_ ?_ <;> intro b0
   refine xj (k := 17) rfl ?_
   refine xr rfl (q7 rfl ⟨⟨rfl, ?_, trivial⟩, z6 rfl⟩)
   rotate_left
   refine xj (k := 7) rfl ?_
   refine xr rfl (q7 rfl ⟨⟨rfl, ?_, trivial⟩, z6 rfl⟩)
   rotate_left
   all_goals (refine vb ?_; simp_all [ends, toN, frN]; done)
 · dsimp only at h
   subst h
   refine xj (k := 11) rfl (z7 rfl (zj _ _ _) rfl tv4 ?_)
   refine xb rfl ?_ ?_ <;> intro b0
   refine xj (k := 14) rfl (z7 rfl (zj _ _ _) rfl tv4 (xj (k := 3) rfl ?_))
   refine xr rfl (q7 rfl ⟨⟨rfl, ?_, trivial⟩, z6 rfl⟩)
   rotate_left
   refine xj (k := 7) rfl ?_
   refine xr rfl (q7 rfl ⟨⟨rfl, ?_, trivial⟩, z6 rfl⟩)
   rotate_left
   all_goals (refine vb ?_; simp_all [ends, toN, frN]; done)
 · dsimp only at h
   subst h
   refine xj (k := 11) rfl (z7 rfl (zj _ _ _) rfl tv4 ?_)
   refine xb rfl ?_ ?_ <;> intro b0
   refine xj (k := 14) rfl (z7 rfl (zj _ _ _) rfl tv4 (xj (k := 3) rfl ?_))
   refine xr rfl (q7 rfl ⟨⟨rfl, ?_, trivial⟩, z6 rfl⟩)
   rotate_left
   refine xj (k := 7) rfl ?_
   refine xr rfl (q7 rfl ⟨⟨rfl, ?_, trivial⟩, z6 rfl⟩)
   rotate_left
   all_goals (refine vb ?_; simp_all [ends, toN, frN]; done)
 · dsimp only at h
   subst h
   refine xj (k := 11) rfl (z7 rfl (zj _ _ _) rfl tv4 ?_)
   refine xb rfl ?_ ?_ <;> intro b0
   refine xj (k := 14) rfl (z7 rfl (zj _ _ _) rfl tv4 (xj (k := 3) rfl ?_))
   refine xr rfl (q7 rfl ⟨⟨rfl, ?_, trivial⟩, z6 rfl⟩)
   rotate_left
   refine xj (k := 7) rfl ?_
   refine xr rfl (q7 rfl ⟨⟨rfl, ?_, trivial⟩, z6 rfl⟩)
   rotate_left
   all_goals (refine vb ?_; simp_all [ends, toN, frN]; done)
 · dsimp only at h
   subst h
   refine xj (k := 11) rfl (z7 rfl (zj _ _ _) rfl tv4 ?_)
   refine xb rfl ?_ ?_ <;> intro b0
   refine xj (k := 17) rfl ?_
   refine xr rfl (q7 rfl ⟨⟨rfl, ?_, trivial⟩, z6 rfl⟩)
   rotate_left
   refine xj (k := 7) rfl ?_
   refine xr rfl (q7 rfl ⟨⟨rfl, ?_, trivial⟩, z6 rfl⟩)
   rotate_left
   all_goals (refine vb ?_; simp_all [ends, toN, frN]; done)
theorem y9t (c : Clu) (ho : y00 c) (m : Msg) (hk : Go.Sx.within m.k 1 6 = true) : PC Tryz.prog 209 [.one (.p c.cs), .agg m.cs] (rB (within m.to 0 ((toN c m : Int) - 1))) := by
 refine PC.begin Tryz.func209 rfl (by kernel_rfl) ?_
 have q1 := ho.2.1.1
 have q2 := ho.2.2.1.1
 have q3 := ho.2.2.2.1.1
 have p1 : (c.shs.map Shd.cs).length ≤ 1048576 := by simpa using q1
 have p2 : (c.accs.map Acc.cs).length ≤ 1048576 := by simpa using q2
 have p3 : (c.ldrs.map Ldr.cs).length ≤ 1048576 := by simpa using q3
 have w1 := wl1 Shd.cs q1
 have w2 := wl1 Acc.cs q2
 have w3 := wl1 Ldr.cs q3
 obtain ⟨k, to, fr, mc, s, b, v, ob, ov⟩ := m
 rcases kinds hk with h | h | h | h | h | h
 · dsimp only at h
   subst h
   refine xj (k := 2) rfl (ze rfl [] (.take 0 [] (.take 1 [6, 7] (tk [2, 3, 4] (.take 5 [6, 7] (.alt 6 (.take 7 [] .done) .nil))))) (by kernel_rfl) (z7 rfl (q2d _ _ (by assumption)) rfl tv3 ?_))
   refine xr rfl (q7 rfl ⟨⟨rfl, ?_, trivial⟩, z6 rfl⟩)
   all_goals (refine vb ?_; simp_all [toN]; done)
 · dsimp only at h
   subst h
   refine xj (k := 4) rfl (ze rfl [] (.take 0 [] (.take 1 [6, 7] (tk [2, 3, 4] (.take 5 [6, 7] (.alt 6 (.take 7 [] .done) .nil))))) (by kernel_rfl) (z7 rfl (y0d _ _ (by assumption)) rfl tv3 ?_))
   refine xr rfl (q7 rfl ⟨⟨rfl, ?_, trivial⟩, z6 rfl⟩)
   all_goals (refine vb ?_; simp_all [toN]; done)
 · dsimp only at h
   subst h
   refine xj (k := 4) rfl (ze rfl [] (.take 0 [] (.take 1 [6, 7] (tk [2, 3, 4] (.take 5 [6, 7] (.alt 6 (.take 7 [] .done) .nil))))) (by kernel_rfl) (z7 rfl (y2d _ _ (by assumption)) rfl tv3 ?_))
   refine xr rfl (q7 rfl ⟨⟨rfl, ?_, trivial⟩, z6 rfl⟩)
   all_goals (refine vb ?_; simp_all [toN]; done)
 · dsimp only at h
   subst h
   refine xj (k := 4) rfl (ze rfl [] (.take 0 [] (.take 1 [6, 7] (tk [2, 3, 4] (.take 5 [6, 7] (.alt 6 (.take 7 [] .done) .nil))))) (by kernel_rfl) (z7 rfl (y0d _ _ (by assumption)) rfl tv3 ?_))
   refine xr rfl (q7 rfl ⟨⟨rfl, ?_, trivial⟩, z6 rfl⟩)
   all_goals (refine vb ?_; simp_all [toN]; done)
 · dsimp only at h
   subst h
   refine xj (k := 4) rfl (ze rfl [] (.take 0 [] (.take 1 [6, 7] (tk [2, 3, 4] (.take 5 [6, 7] (.alt 6 (.take 7 [] .done) .nil))))) (by kernel_rfl) (z7 rfl (y2d _ _ (by assumption)) rfl tv3 ?_))
   refine xr rfl (q7 rfl ⟨⟨rfl, ?_, trivial⟩, z6 rfl⟩)
   all_goals (refine vb ?_; simp_all [toN]; done)
 · dsimp only at h
   subst h
   refine xj (k := 2) rfl (ze rfl [] (.take 0 [] (.take 1 [6, 7] (tk [2, 3, 4] (.take 5 [6, 7] (.alt 6 (.take 7 [] .done) .nil))))) (by kernel_rfl) (z7 rfl (q2d _ _ (by assumption)) rfl tv3 ?_))
   refine xr rfl (q7 rfl ⟨⟨rfl, ?_, trivial⟩, z6 rfl⟩)
   all_goals (refine vb ?_; simp_all [toN]; done)
theorem z7n (c : Clu) (ho : y00 c) (m : Msg) (hk : Go.Sx.within m.k 1 6 = true) : PC Tryz.prog 210 [.one (.p c.cs), .agg m.cs] (rB (decide (m.k < 3) || decide (5 < m.k) || within m.fr 0 ((frN c m : Int) - 1))) := by
 refine PC.begin Tryz.func210 rfl (by kernel_rfl) ?_
 have q1 := ho.2.1.1
 have q2 := ho.2.2.1.1
 have q3 := ho.2.2.2.1.1
 have p1 : (c.shs.map Shd.cs).length ≤ 1048576 := by simpa using q1
 have p2 : (c.accs.map Acc.cs).length ≤ 1048576 := by simpa using q2
 have p3 : (c.ldrs.map Ldr.cs).length ≤ 1048576 := by simpa using q3
 have w1 := wl1 Shd.cs q1
 have w2 := wl1 Acc.cs q2
 have w3 := wl1 Ldr.cs q3
 obtain ⟨k, to, fr, mc, s, b, v, ob, ov⟩ := m
 rcases kinds hk with h | h | h | h | h | h
 · dsimp only at h
   subst h
   refine xj (k := 3) rfl ?_
   refine xr rfl (q7 rfl ⟨⟨rfl, rfl, trivial⟩, z6 rfl⟩)
   all_goals (refine vb ?_; simp_all [frN]; done)
 · dsimp only at h
   subst h
   refine xj (k := 3) rfl ?_
   refine xr rfl (q7 rfl ⟨⟨rfl, rfl, trivial⟩, z6 rfl⟩)
   all_goals (refine vb ?_; simp_all [frN]; done)
 · dsimp only at h
   subst h
   refine xj (k := 3) rfl (ze rfl [] (.take 0 [] (.take 1 [6, 7] (tk [2, 3, 4] (.take 5 [6, 7] (.alt 6 (.take 7 [] .done) .nil))))) (by kernel_rfl) (z7 rfl (y0d _ _ (by assumption)) rfl tv3 ?_))
   refine xr rfl (q7 rfl ⟨⟨rfl, ?_, trivial⟩, z6 rfl⟩)
   all_goals (refine vb ?_; simp_all [frN]; done)
 · dsimp only at h
   subst h
   refine xj (k := 1) rfl (ze rfl [] (.take 0 [] (.take 1 [6, 7] (tk [2, 3, 4] (.take 5 [6, 7] (.alt 6 (.take 7 [] .done) .nil))))) (by kernel_rfl) (z7 rfl (y2d _ _ (by assumption)) rfl tv3 ?_))
   refine xr rfl (q7 rfl ⟨⟨rfl, ?_, trivial⟩, z6 rfl⟩)
   all_goals (refine vb ?_; simp_all [frN]; done)
 · dsimp only at h
   subst h
   refine xj (k := 3) rfl (ze rfl [] (.take 0 [] (.take 1 [6, 7] (tk [2, 3, 4] (.take 5 [6, 7] (.alt 6 (.take 7 [] .done) .nil))))) (by kernel_rfl) (z7 rfl (y0d _ _ (by assumption)) rfl tv3 ?_))
   refine xr rfl (q7 rfl ⟨⟨rfl, ?_, trivial⟩, z6 rfl⟩)
   all_goals (refine vb ?_; simp_all [frN]; done)
 · dsimp only at h
   subst h
   refine xj (k := 3) rfl ?_
   refine xr rfl (q7 rfl ⟨⟨rfl, rfl, trivial⟩, z6 rfl⟩)
   all_goals (refine vb ?_; simp_all [frN]; done)
theorem q5s (c : Clu) (ho : y00 c) (m : Msg) (hk : Go.Sx.within m.k 1 6 = true) : PC Tryz.prog 211 [.one (.p c.cs), .agg m.cs] (rB (ranges c m)) := by
 refine PC.begin Tryz.func211 rfl (by kernel_rfl) ?_
 have q1 := ho.2.1.1
 have q2 := ho.2.2.1.1
 have q3 := ho.2.2.2.1.1
 have p1 : (c.shs.map Shd.cs).length ≤ 1048576 := by simpa using q1
 have p2 : (c.accs.map Acc.cs).length ≤ 1048576 := by simpa using q2
 have p3 : (c.ldrs.map Ldr.cs).length ≤ 1048576 := by simpa using q3
 have w1 := wl1 Shd.cs q1
 have w2 := wl1 Acc.cs q2
 have w3 := wl1 Ldr.cs q3
 obtain ⟨k, to, fr, mc, s, b, v, ob, ov⟩ := m
 rcases kinds hk with h | h | h | h | h | h
 · dsimp only at h
   subst h
   refine xj (k := 1) rfl (z7 rfl (q17 _ (by assumption) _ _) rfl tv4 ?_)
   refine xr rfl (q7 rfl ⟨⟨rfl, ?_, trivial⟩, z6 rfl⟩)
   all_goals (refine vb ?_; simp_all [ranges, Msg.shd, z21, Vt.none]; done)
 · dsimp only at h
   subst h
   refine xj (k := 2) rfl (z7 rfl (q17 _ (by assumption) _ _) rfl tv4 ?_)
   refine xb rfl ?_ ?_ <;> intro b0
   refine xj (k := 5) rfl ?_
   refine xr rfl (q7 rfl ⟨⟨rfl, ?_, trivial⟩, z6 rfl⟩)
   rotate_left
   refine xj (k := 2) rfl (z7 rfl (z09 _) rfl ⟨trivial, trivial⟩ (xj (k := 2) rfl ?_))
   refine xb rfl ?_ ?_ <;> intro b1
   refine xr rfl (q7 rfl ⟨⟨rfl, ?_, trivial⟩, z6 rfl⟩)
   rotate_left
   refine xj (k := 2) rfl (z7 rfl (q0n _) rfl ⟨trivial, trivial⟩ ?_)
   refine xr rfl (q7 rfl ⟨⟨rfl, ?_, trivial⟩, z6 rfl⟩)
   rotate_left
   all_goals (refine vb ?_; simp_all [ranges, Msg.shd, z21, Vt.none]; done)
 · dsimp only at h
   subst h
   refine xj (k := 2) rfl (z7 rfl (q17 _ (by assumption) _ _) rfl tv4 ?_)
   refine xb rfl ?_ ?_ <;> intro b0
   refine xj (k := 5) rfl ?_
   refine xr rfl (q7 rfl ⟨⟨rfl, ?_, trivial⟩, z6 rfl⟩)
   rotate_left
   refine xj (k := 2) rfl (z7 rfl (z09 _) rfl ⟨trivial, trivial⟩ (xj (k := 2) rfl ?_))
   refine xb rfl ?_ ?_ <;> intro b1
   refine xr rfl (q7 rfl ⟨⟨rfl, ?_, trivial⟩, z6 rfl⟩)
   rotate_left
   refine xj (k := 2) rfl (z7 rfl (q0n _) rfl ⟨trivial, trivial⟩ ?_)
   refine xr rfl (q7 rfl ⟨⟨rfl, ?_, trivial⟩, z6 rfl⟩)
   rotate_left
   all_goals (refine vb ?_; simp_all [ranges, Msg.shd, z21, Vt.none]; done)
 · dsimp only at h
   subst h
   refine xj (k := 2) rfl (z7 rfl (q17 _ (by assumption) _ _) rfl tv4 ?_)
   refine xb rfl ?_ ?_ <;> intro b0
   refine xj (k := 5) rfl ?_
   refine xr rfl (q7 rfl ⟨⟨rfl, ?_, trivial⟩, z6 rfl⟩)
   rotate_left
   refine xj (k := 2) rfl (z7 rfl (z09 _) rfl ⟨trivial, trivial⟩ (xj (k := 2) rfl ?_))
   refine xb rfl ?_ ?_ <;> intro b1
   refine xr rfl (q7 rfl ⟨⟨rfl, ?_, trivial⟩, z6 rfl⟩)
   rotate_left
   refine xj (k := 3) rfl ?_
   refine xr rfl (q7 rfl ⟨⟨rfl, ?_, trivial⟩, z6 rfl⟩)
   rotate_left
   all_goals (refine vb ?_; simp_all [ranges, Msg.shd, z21, Vt.none]; done)
 · dsimp only at h
   subst h
   refine xj (k := 2) rfl (z7 rfl (q17 _ (by assumption) _ _) rfl tv4 ?_)
   refine xb rfl ?_ ?_ <;> intro b0
   refine xj (k := 5) rfl ?_
   refine xr rfl (q7 rfl ⟨⟨rfl, ?_, trivial⟩, z6 rfl⟩)
   rotate_left
   refine xj (k := 2) rfl (z7 rfl (z09 _) rfl ⟨trivial, trivial⟩ (xj (k := 2) rfl ?_))
   refine xb rfl ?_ ?_ <;> intro b1
   refine xr rfl (q7 rfl ⟨⟨rfl, ?_, trivial⟩, z6 rfl⟩)
   rotate_left
   refine xj (k := 3) rfl (ze rfl [] (.take 0 [] (.take 1 (rg 3 7) (.alt 2 (tk [3, 4, 5] (.take 6 (rg 7 3) (.alt 7 (tk [8, 9] .done) .nil))) .nil))) (by kernel_rfl) (z7 rfl (q38) rfl trivial ?_))
   refine xb rfl ?_ ?_ <;> intro b2
   refine xj (k := 3) rfl ?_
   refine xr rfl (q7 rfl ⟨⟨rfl, ?_, trivial⟩, z6 rfl⟩)
   rotate_left
   refine xj (k := 2) rfl (z7 rfl (y23 ⟨ob, ov⟩) rfl ⟨tv3, trivial⟩ (xj (k := 1) rfl ?_))
   refine xr rfl (q7 rfl ⟨⟨rfl, ?_, trivial⟩, z6 rfl⟩)
   rotate_left
   all_goals (refine vb ?_; simp_all [ranges, Msg.shd, z21, Vt.none]; done)
 · dsimp only at h
   subst h
   refine xj (k := 2) rfl (z7 rfl (q17 _ (by assumption) _ _) rfl tv4 ?_)
   refine xb rfl ?_ ?_ <;> intro b0
   refine xj (k := 2) rfl (z7 rfl (q2l _) rfl ⟨trivial, trivial⟩ (xj (k := 1) rfl ?_))
   refine xr rfl (q7 rfl ⟨⟨rfl, ?_, trivial⟩, z6 rfl⟩)
   rotate_left
   refine xj (k := 3) rfl ?_
   refine xr rfl (q7 rfl ⟨⟨rfl, ?_, trivial⟩, z6 rfl⟩)
   rotate_left
   all_goals (refine vb ?_; simp_all [ranges, Msg.shd, z21, Vt.none]; done)
theorem y5j (m n : Msg) : y1c [.int .i64 m.k, .int .i64 m.to, .int .i64 m.fr, .int .i64 m.c, .int .i64 m.s, .int .i64 m.b, .int .i64 m.v, .int .i64 m.ob, .int .i64 m.ov] [.int .i64 n.k, .int .i64 n.to, .int .i64 n.fr, .int .i64 n.c, .int .i64 n.s, .int .i64 n.b, .int .i64 n.v, .int .i64 n.ob, .int .i64 n.ov] = m.same n := by simp [y1c, Msg.same, Bool.and_assoc]
theorem y6o (a b : Int) : y1c [.int .i64 a, .int .i64 b] [.int .i64 Vt.none.b, .int .i64 Vt.none.v] = (a == -1 && b == 0) := by simp [y1c, Vt.none]
theorem y52 (c : Clu) (m : Msg) (hk : Go.Sx.within m.k 1 6 = true) {e i r z : Bool} (h1 : ends c m = e) (h2 : (z0w c.cons m.c).isNone = i) (h3 : ranges c m = r) (h4 : m.same m.bare = z) : y0g c m = (if e then (if i then 4 else if r then (if z then 0 else 1) else 3) else 3) := by
 unfold y0g
 rw [hk, h1, h2, h3, h4]
 cases e <;> cases i <;> cases r <;> cases z <;> rfl
theorem ya1 (c : Clu) (ho : y00 c) (m : Msg) : PC Tryz.prog 102 [.one (.p c.cs), .agg m.cs] (rI (y0g c m)) := by
 refine PC.begin Tryz.func102 rfl (by kernel_rfl) ?_
 by_cases hk : Go.Sx.within m.k 1 6 = true
 · have hf := y0y c m.c ho.1.1
   obtain ⟨k, to, fr, mc, s, b, v, ob, ov⟩ := m
   dsimp only at hf
   rcases kinds hk with h | h | h | h | h | h
   · dsimp only at h
     subst h
     have hE := y1m c ho ⟨1, to, fr, mc, s, b, v, ob, ov⟩ hk
     have hR : ranges c ⟨1, to, fr, mc, s, b, v, ob, ov⟩ = q14 c.cons mc to := by simp [ranges, Msg.shd]
     refine z7 rfl (zj _ _ _) rfl tv4 (xj (k := 1) rfl (z7 rfl (hE) rfl ⟨trivial, tv10, trivial⟩ ?_))
     refine xb rfl ?_ ?_ <;> intro b0
     refine xr rfl (q7 rfl ⟨⟨rfl, ?_, trivial⟩, z6 rfl⟩)
     rotate_left
     refine z7 rfl (hf) rfl tv3 ?_
     refine xb rfl ?_ ?_ <;> intro b1
     refine xr rfl (q7 rfl ⟨⟨rfl, ?_, trivial⟩, z6 rfl⟩)
     rotate_left
     refine xj (k := 5) rfl (z7 rfl (qx _ (by assumption) _ _) rfl tv4 ?_)
     refine xb rfl ?_ ?_ <;> intro b2
     refine xr rfl (q7 rfl ⟨⟨rfl, ?_, trivial⟩, z6 rfl⟩)
     rotate_left
     refine xj (k := 24) rfl (ze rfl [] (.take 0 [] (.take 1 (rg 2 13) (tk [2, 3, 4] (.take 5 (rg 7 8) (.alt 6 (tk (rg 7 4) (.take 11 (rg 12 3) (.alt 12 (tk [13, 14] .done) .nil))) .nil))))) (by kernel_rfl) (xj (k := 11) rfl (ze rfl [] (.take 0 [3] (.take 1 [2, 3] (.alt 2 (.take 3 [] .done) .nil))) (by kernel_rfl) (z7 rfl (q0d ⟨1, to, fr, mc, s, b, v, ob, ov⟩ hk) rfl ⟨tv10, trivial⟩ ?_))))
     refine xb rfl ?_ ?_ <;> intro b3
     refine xr rfl (q7 rfl ⟨⟨rfl, ?_, trivial⟩, z6 rfl⟩)
     rotate_left
     refine xr rfl (q7 rfl ⟨⟨rfl, ?_, trivial⟩, z6 rfl⟩)
     rotate_left
     all_goals
      refine vi ?_
      have hI : decide (y1d (fun x : Con => x.id == mc) c.cons < 0) = (z0w c.cons mc).isNone := y0c
      rw [y52 c ⟨1, to, fr, mc, s, b, v, ob, ov⟩ hk rfl hI.symm hR (y5j ⟨1, to, fr, mc, s, b, v, ob, ov⟩ (Msg.bare ⟨1, to, fr, mc, s, b, v, ob, ov⟩)).symm]
      have hN := y6o ob ov
      clear hI hR hE hf hk ho
      ((try dsimp only at *); simp_all only [Bool.not_eq_true', Bool.not_eq_false', Bool.not_true, Bool.not_false, Bool.and_true, Bool.true_and, Bool.and_false, Bool.false_and, Bool.and_self, Bool.or_true, Bool.true_or, Bool.or_false, Bool.false_or, Bool.false_eq_true, if_true, if_false, reduceIte]; done)
   · dsimp only at h
     subst h
     have hE := y1m c ho ⟨2, to, fr, mc, s, b, v, ob, ov⟩ hk
     have hR : ranges c ⟨2, to, fr, mc, s, b, v, ob, ov⟩ = (q14 c.cons mc s && Go.Sx.within b 0 1000 && Go.Sx.within v 1 2) := by simp [ranges, Msg.shd]
     refine z7 rfl (zj _ _ _) rfl tv4 (xj (k := 1) rfl (z7 rfl (hE) rfl ⟨trivial, tv10, trivial⟩ ?_))
     refine xb rfl ?_ ?_ <;> intro b0
     refine xr rfl (q7 rfl ⟨⟨rfl, ?_, trivial⟩, z6 rfl⟩)
     rotate_left
     refine z7 rfl (hf) rfl tv3 ?_
     refine xb rfl ?_ ?_ <;> intro b1
     refine xr rfl (q7 rfl ⟨⟨rfl, ?_, trivial⟩, z6 rfl⟩)
     rotate_left
     refine xj (k := 5) rfl (z7 rfl (qx _ (by assumption) _ _) rfl tv4 ?_)
     refine xb rfl ?_ ?_ <;> intro b2
     refine xr rfl (q7 rfl ⟨⟨rfl, ?_, trivial⟩, z6 rfl⟩)
     rotate_left
     refine xj (k := 7) rfl (z7 rfl (z01 _) rfl ⟨trivial, trivial⟩ (xj (k := 2) rfl ?_))
     refine xb rfl ?_ ?_ <;> intro b3
     refine xr rfl (q7 rfl ⟨⟨rfl, ?_, trivial⟩, z6 rfl⟩)
     rotate_left
     refine xj (k := 11) rfl (z7 rfl (z0a _) rfl ⟨trivial, trivial⟩ (xj (k := 2) rfl ?_))
     refine xb rfl ?_ ?_ <;> intro b4
     refine xr rfl (q7 rfl ⟨⟨rfl, ?_, trivial⟩, z6 rfl⟩)
     rotate_left
     refine ze rfl [] (.take 0 [] (.take 1 (rg 2 13) (tk [2, 3, 4] (.take 5 (rg 7 8) (.alt 6 (tk (rg 7 4) (.take 11 (rg 12 3) (.alt 12 (tk [13, 14] .done) .nil))) .nil))))) (by kernel_rfl) (xj (k := 11) rfl (ze rfl [] (.take 0 [3] (.take 1 [2, 3] (.alt 2 (.take 3 [] .done) .nil))) (by kernel_rfl) (z7 rfl (q0d ⟨2, to, fr, mc, s, b, v, ob, ov⟩ hk) rfl ⟨tv10, trivial⟩ ?_)))
     refine xb rfl ?_ ?_ <;> intro b5
     refine xr rfl (q7 rfl ⟨⟨rfl, ?_, trivial⟩, z6 rfl⟩)
     rotate_left
     refine xr rfl (q7 rfl ⟨⟨rfl, ?_, trivial⟩, z6 rfl⟩)
     rotate_left
     all_goals
      refine vi ?_
      have hI : decide (y1d (fun x : Con => x.id == mc) c.cons < 0) = (z0w c.cons mc).isNone := y0c
      rw [y52 c ⟨2, to, fr, mc, s, b, v, ob, ov⟩ hk rfl hI.symm hR (y5j ⟨2, to, fr, mc, s, b, v, ob, ov⟩ (Msg.bare ⟨2, to, fr, mc, s, b, v, ob, ov⟩)).symm]
      have hN := y6o ob ov
      clear hI hR hE hf hk ho
      ((try dsimp only at *); simp_all only [Bool.not_eq_true', Bool.not_eq_false', Bool.not_true, Bool.not_false, Bool.and_true, Bool.true_and, Bool.and_false, Bool.false_and, Bool.and_self, Bool.or_true, Bool.true_or, Bool.or_false, Bool.false_or, Bool.false_eq_true, if_true, if_false, reduceIte]; done)
   · dsimp only at h
     subst h
     have hE := y1m c ho ⟨3, to, fr, mc, s, b, v, ob, ov⟩ hk
     have hR : ranges c ⟨3, to, fr, mc, s, b, v, ob, ov⟩ = (q14 c.cons mc s && Go.Sx.within b 0 1000 && Go.Sx.within v 1 2) := by simp [ranges, Msg.shd]
     refine z7 rfl (zj _ _ _) rfl tv4 (xj (k := 1) rfl (z7 rfl (hE) rfl ⟨trivial, tv10, trivial⟩ ?_))
     refine xb rfl ?_ ?_ <;> intro b0
     refine xr rfl (q7 rfl ⟨⟨rfl, ?_, trivial⟩, z6 rfl⟩)
     rotate_left
     refine z7 rfl (hf) rfl tv3 ?_
     refine xb rfl ?_ ?_ <;> intro b1
     refine xr rfl (q7 rfl ⟨⟨rfl, ?_, trivial⟩, z6 rfl⟩)
     rotate_left
     refine xj (k := 5) rfl (z7 rfl (qx _ (by assumption) _ _) rfl tv4 ?_)
     refine xb rfl ?_ ?_ <;> intro b2
     refine xr rfl (q7 rfl ⟨⟨rfl, ?_, trivial⟩, z6 rfl⟩)
     rotate_left
     refine xj (k := 7) rfl (z7 rfl (z01 _) rfl ⟨trivial, trivial⟩ (xj (k := 2) rfl ?_))
     refine xb rfl ?_ ?_ <;> intro b3
     refine xr rfl (q7 rfl ⟨⟨rfl, ?_, trivial⟩, z6 rfl⟩)
     rotate_left
     refine xj (k := 11) rfl (z7 rfl (z0a _) rfl ⟨trivial, trivial⟩ (xj (k := 2) rfl ?_))
     refine xb rfl ?_ ?_ <;> intro b4
     refine xr rfl (q7 rfl ⟨⟨rfl, ?_, trivial⟩, z6 rfl⟩)
     rotate_left
     refine ze rfl [] (.take 0 [] (.take 1 (rg 2 13) (tk [2, 3, 4] (.take 5 (rg 7 8) (.alt 6 (tk (rg 7 4) (.take 11 (rg 12 3) (.alt 12 (tk [13, 14] .done) .nil))) .nil))))) (by kernel_rfl) (xj (k := 11) rfl (ze rfl [] (.take 0 [3] (.take 1 [2, 3] (.alt 2 (.take 3 [] .done) .nil))) (by kernel_rfl) (z7 rfl (q0d ⟨3, to, fr, mc, s, b, v, ob, ov⟩ hk) rfl ⟨tv10, trivial⟩ ?_)))
     refine xb rfl ?_ ?_ <;> intro b5
     refine xr rfl (q7 rfl ⟨⟨rfl, ?_, trivial⟩, z6 rfl⟩)
     rotate_left
     refine xr rfl (q7 rfl ⟨⟨rfl, ?_, trivial⟩, z6 rfl⟩)
     rotate_left
     all_goals
      refine vi ?_
      have hI : decide (y1d (fun x : Con => x.id == mc) c.cons < 0) = (z0w c.cons mc).isNone := y0c
      rw [y52 c ⟨3, to, fr, mc, s, b, v, ob, ov⟩ hk rfl hI.symm hR (y5j ⟨3, to, fr, mc, s, b, v, ob, ov⟩ (Msg.bare ⟨3, to, fr, mc, s, b, v, ob, ov⟩)).symm]
      have hN := y6o ob ov
      clear hI hR hE hf hk ho
      ((try dsimp only at *); simp_all only [Bool.not_eq_true', Bool.not_eq_false', Bool.not_true, Bool.not_false, Bool.and_true, Bool.true_and, Bool.and_false, Bool.false_and, Bool.and_self, Bool.or_true, Bool.true_or, Bool.or_false, Bool.false_or, Bool.false_eq_true, if_true, if_false, reduceIte]; done)
   · dsimp only at h
     subst h
     have hE := y1m c ho ⟨4, to, fr, mc, s, b, v, ob, ov⟩ hk
     have hR : ranges c ⟨4, to, fr, mc, s, b, v, ob, ov⟩ = (q14 c.cons mc s && Go.Sx.within b 0 1000) := by simp [ranges, Msg.shd]
     refine z7 rfl (zj _ _ _) rfl tv4 (xj (k := 1) rfl (z7 rfl (hE) rfl ⟨trivial, tv10, trivial⟩ ?_))
     refine xb rfl ?_ ?_ <;> intro b0
     refine xr rfl (q7 rfl ⟨⟨rfl, ?_, trivial⟩, z6 rfl⟩)
     rotate_left
     refine z7 rfl (hf) rfl tv3 ?_
     refine xb rfl ?_ ?_ <;> intro b1
     refine xr rfl (q7 rfl ⟨⟨rfl, ?_, trivial⟩, z6 rfl⟩)
     rotate_left
     refine xj (k := 5) rfl (z7 rfl (qx _ (by assumption) _ _) rfl tv4 ?_)
     refine xb rfl ?_ ?_ <;> intro b2
     refine xr rfl (q7 rfl ⟨⟨rfl, ?_, trivial⟩, z6 rfl⟩)
     rotate_left
     refine xj (k := 7) rfl (z7 rfl (z01 _) rfl ⟨trivial, trivial⟩ (xj (k := 2) rfl ?_))
     refine xb rfl ?_ ?_ <;> intro b3
     refine xr rfl (q7 rfl ⟨⟨rfl, ?_, trivial⟩, z6 rfl⟩)
     rotate_left
     refine xj (k := 14) rfl (ze rfl [] (.take 0 [] (.take 1 (rg 2 13) (tk [2, 3, 4] (.take 5 (rg 7 8) (.alt 6 (tk (rg 7 4) (.take 11 (rg 12 3) (.alt 12 (tk [13, 14] .done) .nil))) .nil))))) (by kernel_rfl) (xj (k := 11) rfl (ze rfl [] (.take 0 [3] (.take 1 [2, 3] (.alt 2 (.take 3 [] .done) .nil))) (by kernel_rfl) (z7 rfl (q0d ⟨4, to, fr, mc, s, b, v, ob, ov⟩ hk) rfl ⟨tv10, trivial⟩ ?_))))
     refine xb rfl ?_ ?_ <;> intro b4
     refine xr rfl (q7 rfl ⟨⟨rfl, ?_, trivial⟩, z6 rfl⟩)
     rotate_left
     refine xr rfl (q7 rfl ⟨⟨rfl, ?_, trivial⟩, z6 rfl⟩)
     rotate_left
     all_goals
      refine vi ?_
      have hI : decide (y1d (fun x : Con => x.id == mc) c.cons < 0) = (z0w c.cons mc).isNone := y0c
      rw [y52 c ⟨4, to, fr, mc, s, b, v, ob, ov⟩ hk rfl hI.symm hR (y5j ⟨4, to, fr, mc, s, b, v, ob, ov⟩ (Msg.bare ⟨4, to, fr, mc, s, b, v, ob, ov⟩)).symm]
      have hN := y6o ob ov
      clear hI hR hE hf hk ho
      ((try dsimp only at *); simp_all only [Bool.not_eq_true', Bool.not_eq_false', Bool.not_true, Bool.not_false, Bool.and_true, Bool.true_and, Bool.and_false, Bool.false_and, Bool.and_self, Bool.or_true, Bool.true_or, Bool.or_false, Bool.false_or, Bool.false_eq_true, if_true, if_false, reduceIte]; done)
   · dsimp only at h
     subst h
     have hE := y1m c ho ⟨5, to, fr, mc, s, b, v, ob, ov⟩ hk
     have hR : ranges c ⟨5, to, fr, mc, s, b, v, ob, ov⟩ = (q14 c.cons mc s && Go.Sx.within b 0 1000 && ((ob == -1 && ov == 0) || Vt.ok ⟨ob, ov⟩)) := by simp [ranges, Msg.shd]
     refine z7 rfl (zj _ _ _) rfl tv4 (xj (k := 1) rfl (z7 rfl (hE) rfl ⟨trivial, tv10, trivial⟩ ?_))
     refine xb rfl ?_ ?_ <;> intro b0
     refine xr rfl (q7 rfl ⟨⟨rfl, ?_, trivial⟩, z6 rfl⟩)
     rotate_left
     refine z7 rfl (hf) rfl tv3 ?_
     refine xb rfl ?_ ?_ <;> intro b1
     refine xr rfl (q7 rfl ⟨⟨rfl, ?_, trivial⟩, z6 rfl⟩)
     rotate_left
     refine xj (k := 5) rfl (z7 rfl (qx _ (by assumption) _ _) rfl tv4 ?_)
     refine xb rfl ?_ ?_ <;> intro b2
     refine xr rfl (q7 rfl ⟨⟨rfl, ?_, trivial⟩, z6 rfl⟩)
     rotate_left
     refine xj (k := 7) rfl (z7 rfl (z01 _) rfl ⟨trivial, trivial⟩ (xj (k := 2) rfl ?_))
     refine xb rfl ?_ ?_ <;> intro b3
     refine xr rfl (q7 rfl ⟨⟨rfl, ?_, trivial⟩, z6 rfl⟩)
     rotate_left
     refine xj (k := 14) rfl (ze rfl [] (.take 0 [] (.take 1 (rg 2 13) (tk [2, 3, 4] (.take 5 (rg 7 8) (.alt 6 (tk (rg 7 4) (.take 11 (rg 12 3) (.alt 12 (tk [13, 14] .done) .nil))) .nil))))) (by kernel_rfl) (xj (k := 3) rfl (z7 rfl (q23) rfl trivial (xj (k := 2) rfl ?_))))
     refine xb rfl ?_ ?_ <;> intro b4
     refine xj (k := 2) rfl (z7 rfl (q1w ⟨ob, ov⟩) rfl ⟨tv3, trivial⟩ (xj (k := 2) rfl ?_))
     refine xb rfl ?_ ?_ <;> intro b5
     refine xr rfl (q7 rfl ⟨⟨rfl, ?_, trivial⟩, z6 rfl⟩)
     rotate_left
     refine ze rfl [] (.take 0 [3] (.take 1 [2, 3] (.alt 2 (.take 3 [] .done) .nil))) (by kernel_rfl) (z7 rfl (q0d ⟨5, to, fr, mc, s, b, v, ob, ov⟩ hk) rfl ⟨tv10, trivial⟩ ?_)
     refine xb rfl ?_ ?_ <;> intro b6
     refine xr rfl (q7 rfl ⟨⟨rfl, ?_, trivial⟩, z6 rfl⟩)
     rotate_left
     refine xr rfl (q7 rfl ⟨⟨rfl, ?_, trivial⟩, z6 rfl⟩)
     rotate_left
     refine xj (k := 5) rfl (ze rfl [] (.take 0 [3] (.take 1 [2, 3] (.alt 2 (.take 3 [] .done) .nil))) (by kernel_rfl) (z7 rfl (q0d ⟨5, to, fr, mc, s, b, v, ob, ov⟩ hk) rfl ⟨tv10, trivial⟩ ?_))
     refine xb rfl ?_ ?_ <;> intro b5
     refine xr rfl (q7 rfl ⟨⟨rfl, ?_, trivial⟩, z6 rfl⟩)
     rotate_left
     refine xr rfl (q7 rfl ⟨⟨rfl, ?_, trivial⟩, z6 rfl⟩)
     rotate_left
     all_goals
      refine vi ?_
      have hI : decide (y1d (fun x : Con => x.id == mc) c.cons < 0) = (z0w c.cons mc).isNone := y0c
      rw [y52 c ⟨5, to, fr, mc, s, b, v, ob, ov⟩ hk rfl hI.symm hR (y5j ⟨5, to, fr, mc, s, b, v, ob, ov⟩ (Msg.bare ⟨5, to, fr, mc, s, b, v, ob, ov⟩)).symm]
      have hN := y6o ob ov
      clear hI hR hE hf hk ho
      ((try dsimp only at *); simp_all only [Bool.not_eq_true', Bool.not_eq_false', Bool.not_true, Bool.not_false, Bool.and_true, Bool.true_and, Bool.and_false, Bool.false_and, Bool.and_self, Bool.or_true, Bool.true_or, Bool.or_false, Bool.false_or, Bool.false_eq_true, if_true, if_false, reduceIte]; done)
   · dsimp only at h
     subst h
     have hE := y1m c ho ⟨6, to, fr, mc, s, b, v, ob, ov⟩ hk
     have hR : ranges c ⟨6, to, fr, mc, s, b, v, ob, ov⟩ = (q14 c.cons mc to && Go.Sx.within v 1 2) := by simp [ranges, Msg.shd]
     refine z7 rfl (zj _ _ _) rfl tv4 (xj (k := 1) rfl (z7 rfl (hE) rfl ⟨trivial, tv10, trivial⟩ ?_))
     refine xb rfl ?_ ?_ <;> intro b0
     refine xr rfl (q7 rfl ⟨⟨rfl, ?_, trivial⟩, z6 rfl⟩)
     rotate_left
     refine z7 rfl (hf) rfl tv3 ?_
     refine xb rfl ?_ ?_ <;> intro b1
     refine xr rfl (q7 rfl ⟨⟨rfl, ?_, trivial⟩, z6 rfl⟩)
     rotate_left
     refine xj (k := 5) rfl (z7 rfl (qx _ (by assumption) _ _) rfl tv4 ?_)
     refine xb rfl ?_ ?_ <;> intro b2
     refine xr rfl (q7 rfl ⟨⟨rfl, ?_, trivial⟩, z6 rfl⟩)
     rotate_left
     refine xj (k := 21) rfl (z7 rfl (z0a _) rfl ⟨trivial, trivial⟩ (xj (k := 2) rfl ?_))
     refine xb rfl ?_ ?_ <;> intro b3
     refine xr rfl (q7 rfl ⟨⟨rfl, ?_, trivial⟩, z6 rfl⟩)
     rotate_left
     refine ze rfl [] (.take 0 [] (.take 1 (rg 2 13) (tk [2, 3, 4] (.take 5 (rg 7 8) (.alt 6 (tk (rg 7 4) (.take 11 (rg 12 3) (.alt 12 (tk [13, 14] .done) .nil))) .nil))))) (by kernel_rfl) (xj (k := 11) rfl (ze rfl [] (.take 0 [3] (.take 1 [2, 3] (.alt 2 (.take 3 [] .done) .nil))) (by kernel_rfl) (z7 rfl (q0d ⟨6, to, fr, mc, s, b, v, ob, ov⟩ hk) rfl ⟨tv10, trivial⟩ ?_)))
     refine xb rfl ?_ ?_ <;> intro b4
     refine xr rfl (q7 rfl ⟨⟨rfl, ?_, trivial⟩, z6 rfl⟩)
     rotate_left
     refine xr rfl (q7 rfl ⟨⟨rfl, ?_, trivial⟩, z6 rfl⟩)
     rotate_left
     all_goals
      refine vi ?_
      have hI : decide (y1d (fun x : Con => x.id == mc) c.cons < 0) = (z0w c.cons mc).isNone := y0c
      rw [y52 c ⟨6, to, fr, mc, s, b, v, ob, ov⟩ hk rfl hI.symm hR (y5j ⟨6, to, fr, mc, s, b, v, ob, ov⟩ (Msg.bare ⟨6, to, fr, mc, s, b, v, ob, ov⟩)).symm]
      have hN := y6o ob ov
      clear hI hR hE hf hk ho
      ((try dsimp only at *); simp_all only [Bool.not_eq_true', Bool.not_eq_false', Bool.not_true, Bool.not_false, Bool.and_true, Bool.true_and, Bool.and_false, Bool.false_and, Bool.and_self, Bool.or_true, Bool.true_or, Bool.or_false, Bool.false_or, Bool.false_eq_true, if_true, if_false, reduceIte]; done)
 · have hk : Go.Sx.within m.k 1 6 = false := by simpa using hk
   refine z7 rfl (zj _ _ _) rfl tv4 ?_
   refine xb rfl ?_ ?_ <;> intro b0
   refine xr rfl (q7 rfl ⟨⟨rfl, ?_, trivial⟩, z6 rfl⟩)
   rotate_left
   exact absurd b0 (by simp; omega)
   all_goals first
    | (refine vi ?_; unfold y0g; rw [hk]; rfl)
    | (exfalso; simp_all; done)
theorem q9p (c : Clu) (ho : y00 c) (m : Msg) : PC Tryz.prog 124 [.agg c.cs, .agg m.cs] (rI (y0g c m)) := by
 refine PC.begin Tryz.func124 rfl (by kernel_rfl) ?_
 by_cases hk : Go.Sx.within m.k 1 6 = true
 · have hT := y9t c ho m hk
   have hF := z7n c ho m hk
   have hR := q5s c ho m hk
   have hP := y8t m hk
   refine z8b (n := 0) rfl (ι := Unit) (fun _ => True) (fun _ => ⟨[(2, .one (.b (.p c.cs))), (3, .one (.a 3 0))], [(3, .var (m.cs.map .b))]⟩) ?_ ?_
   · intro K hK
     exact za rfl (hK _ () trivial ⟨⟨⟨rfl, rfl, rfl⟩, ⟨rfl, rfl, rfl⟩, trivial⟩, ⟨lcr, trivial⟩, rfl⟩)
   intro _ _
   cases h : z0w c.cons m.c with
   | none =>
     refine z7 rfl (zn _ _ _) rfl tv4 ?_
     refine xb rfl ?_ ?_ <;> intro b0
     exact absurd b0 (by simp; omega)
     refine z7 rfl (hT) rfl ⟨trivial, tv10, trivial⟩ ?_
     refine xb rfl ?_ ?_ <;> intro b1
     refine xj (k := 4) rfl ?_
     refine xr rfl (q7 rfl ⟨⟨rfl, ?_, trivial⟩, z6 rfl⟩)
     rotate_left
     refine xj (k := 1) rfl (z7 rfl (hF) rfl ⟨trivial, tv10, trivial⟩ (xj (k := 2) rfl ?_))
     refine xb rfl ?_ ?_ <;> intro b2
     refine xr rfl (q7 rfl ⟨⟨rfl, ?_, trivial⟩, z6 rfl⟩)
     rotate_left
     refine z7 rfl (y1b c ho m.c h) rfl tv3 (xj (k := 1) rfl ?_)
     refine xr rfl (q7 rfl ⟨⟨rfl, ?_, trivial⟩, z6 rfl⟩)
     rotate_left
     all_goals
      refine vi ?_
      rw [y52 c m hk rfl (show (z0w c.cons m.c).isNone = true by rw [h]; rfl) rfl rfl]
      unfold ends
      clear hT hF hR hP ho h hk
      ((try dsimp only at *); simp_all only [Bool.not_eq_true', Bool.not_eq_false', Bool.not_true, Bool.not_false, Bool.and_true, Bool.true_and, Bool.and_false, Bool.false_and, Bool.and_self, Bool.or_true, Bool.true_or, Bool.or_false, Bool.false_or, Bool.false_eq_true, if_true, if_false, reduceIte]; done)
   | some x =>
     refine z7 rfl (zn _ _ _) rfl tv4 ?_
     refine xb rfl ?_ ?_ <;> intro b0
     exact absurd b0 (by simp; omega)
     refine z7 rfl (hT) rfl ⟨trivial, tv10, trivial⟩ ?_
     refine xb rfl ?_ ?_ <;> intro b1
     refine xj (k := 4) rfl ?_
     refine xr rfl (q7 rfl ⟨⟨rfl, ?_, trivial⟩, z6 rfl⟩)
     rotate_left
     refine xj (k := 1) rfl (z7 rfl (hF) rfl ⟨trivial, tv10, trivial⟩ (xj (k := 2) rfl ?_))
     refine xb rfl ?_ ?_ <;> intro b2
     refine xr rfl (q7 rfl ⟨⟨rfl, ?_, trivial⟩, z6 rfl⟩)
     rotate_left
     refine z7 rfl (q1b c ho m.c x h) rfl tv3 (xj (k := 1) rfl (z7 rfl (hR) rfl ⟨trivial, tv10, trivial⟩ ?_))
     refine xb rfl ?_ ?_ <;> intro b3
     refine xr rfl (q7 rfl ⟨⟨rfl, ?_, trivial⟩, z6 rfl⟩)
     rotate_left
     refine ze rfl [] (.take 0 [3, 4] (.take 1 (rg 2 3) (.alt 2 (tk [3, 4] .done) .nil))) (by kernel_rfl) (z7 rfl (hP) rfl ⟨tv10, trivial⟩ ?_)
     refine xb rfl ?_ ?_ <;> intro b4
     refine xr rfl (q7 rfl ⟨⟨rfl, ?_, trivial⟩, z6 rfl⟩)
     rotate_left
     refine xr rfl (q7 rfl ⟨⟨rfl, ?_, trivial⟩, z6 rfl⟩)
     rotate_left
     all_goals
      refine vi ?_
      rw [y52 c m hk rfl (show (z0w c.cons m.c).isNone = false by rw [h]; rfl) rfl (y5j m m.bare).symm]
      unfold ends
      clear hT hF hR hP ho h hk
      ((try dsimp only at *); simp_all only [Bool.not_eq_true', Bool.not_eq_false', Bool.not_true, Bool.not_false, Bool.and_true, Bool.true_and, Bool.and_false, Bool.false_and, Bool.and_self, Bool.or_true, Bool.true_or, Bool.or_false, Bool.false_or, Bool.false_eq_true, if_true, if_false, reduceIte]; done)
 · have hk : Go.Sx.within m.k 1 6 = false := by simpa using hk
   refine z7 rfl (zn _ _ _) rfl tv4 ?_
   refine xb rfl ?_ ?_ <;> intro b0
   refine xr rfl (q7 rfl ⟨⟨rfl, ?_, trivial⟩, z6 rfl⟩)
   rotate_left
   exact absurd b0 (by simp; omega)
   all_goals first
    | (refine vi ?_; unfold y0g; rw [hk]; rfl)
    | (exfalso; simp_all; done)
theorem y8k {a b c d a' b' c' d' : Int} : y1c [.int .i64 a, .int .i64 b, .int .i64 c, .int .i64 d] [.int .i64 a', .int .i64 b', .int .i64 c', .int .i64 d'] = decide (Leg.mk a b c d = Leg.mk a' b' c' d') := by
 rw [Bool.eq_iff_iff]; simp [y1c]
theorem z7h (us vs : List Leg) (hx : us.length ≤ 1048576) : PC Tryz.prog 278 [.one (.l (us.map Leg.cs)), .one (.l (vs.map Leg.cs))] (rB (decide (us = vs))) := by
 refine PC.begin Tryz.func278 rfl (by kernel_rfl) ?_
 refine xb rfl ?_ ?_ <;> intro h0
 · have hne : ¬ us.length = vs.length := by simp at h0; omega
   refine xr rfl (q7 rfl ⟨⟨rfl, ?_, trivial⟩, z6 rfl⟩)
   all_goals (refine vb ?_; rw [eq_comm, decide_eq_false_iff_not]; exact fun e => hne (by rw [e]))
 · have he : us.length = vs.length := by simp at h0; omega
   refine qd rfl (ι := Nat) (fun i => i ≤ us.length ∧ us.take i = vs.take i) (fun i => ⟨[(13, sV (.int .i64 i)), (12, sV (.int .i64 (us.map Leg.cs).length)), (0, .one (.b (.l (us.map Leg.cs)))), (1, .one (.b (.l (vs.map Leg.cs))))], []⟩) (fun i => us.length - i) 0 ⟨Nat.zero_le _, rfl⟩ ?_ ?_
   · exact ⟨⟨rfl, rfl, rfl, rfl, trivial⟩, trivial, rfl⟩
   · intro i ⟨hi, hq⟩ J hJ
     refine xb rfl ?_ ?_ <;> intro h
     · have h : i < us.length := by simpa using h
       obtain ⟨x, hx1⟩ := gx h
       obtain ⟨y, hy1⟩ := gx (xs := vs) (i := i) (by omega)
       have hg := gm Leg.cs hx1
       have hg2 := gm Leg.cs hy1
       refine ze rfl [] (tk [0, 1, 2] (.take 3 [8] (tk [4, 5, 6] (.take 7 [8] (.take 8 [] .done))))) (by kernel_rfl) (xs rfl (nn_ _) (q9 rfl _ hg (xs rfl rfl (xs rfl (nn_ _) (q9 rfl _ hg2 (xs rfl rfl ?_))))))
       refine xb rfl ?_ ?_ <;> intro b0
       refine xr rfl (q7 rfl ⟨⟨rfl, ?_, trivial⟩, z6 rfl⟩)
       rotate_left
       rotate_left
       · rw [y8k] at b0
         refine vb ?_; rw [eq_comm, decide_eq_false_iff_not]; intro e; subst e; rw [hx1] at hy1; cases hy1; simp at b0
       · rw [y8k] at b0
         have e : x = y := by simpa only [Bool.not_eq_false', decide_eq_true_eq] using b0
         exact za rfl (hJ _ (i + 1) ⟨by omega, by rw [List.take_add_one, List.take_add_one, hx1, hy1, hq, e]⟩ (by omega) ⟨⟨cwi (by omega) (by omega) (by omega), rfl, rfl, rfl, trivial⟩, trivial, rfl⟩)
     · have h : i = us.length := by have : ¬ i < us.length := (by simpa using h); omega
       rw [h, List.take_length, he, List.take_length] at hq
       refine xr rfl (q7 rfl ⟨⟨rfl, ?_, trivial⟩, z6 rfl⟩)
       all_goals (refine vb ?_; rw [hq]; simp)
theorem q67 (a b : Con) (ha : a.legs.length ≤ 1048576) : PC Tryz.prog 203 [.agg a.cs, .agg b.cs] (rB (a.same b)) := by
 refine PC.begin Tryz.func203 rfl (by kernel_rfl) ?_
 refine xb rfl ?_ ?_ <;> intro b0
 refine xj (k := 4) rfl (z7 rfl (z7h a.legs b.legs ha) rfl tv3 (xj (k := 1) rfl ?_))
 refine xr rfl (q7 rfl ⟨⟨rfl, ?_, trivial⟩, z6 rfl⟩)
 rotate_left
 refine xj (k := 5) rfl ?_
 refine xr rfl (q7 rfl ⟨⟨rfl, ?_, trivial⟩, z6 rfl⟩)
 rotate_left
 all_goals (refine vb ?_; unfold Con.same; simp_all)
theorem y4h (a b : Con) (ha : a.legs.length ≤ 1048576) : PC Tryz.prog 178 [.agg a.cs, .agg b.cs] (rB (a.same b)) := by
 refine PC.begin Tryz.func178 rfl (by kernel_rfl) ?_
 refine xb rfl ?_ ?_ <;> intro b0
 refine xj (k := 8) rfl ?_
 refine xr rfl (q7 rfl ⟨⟨rfl, ?_, trivial⟩, z6 rfl⟩)
 rotate_left
 refine xj (k := 7) rfl ?_
 refine xb rfl ?_ ?_ <;> intro b1
 refine xr rfl (q7 rfl ⟨⟨rfl, ?_, trivial⟩, z6 rfl⟩)
 rotate_left
 rotate_left
 · have h0 : ¬ a.id = b.id := by simpa using b0
   refine vb ?_; simp [Con.same, h0]
 · have hne : ¬ a.legs.length = b.legs.length := by simp at b1; omega
   refine vb ?_; unfold Con.same; rw [eq_comm, Bool.and_eq_false_iff]; exact .inr (decide_eq_false (fun e => hne (by rw [e])))
 · skip
   · have h0 : a.id = b.id := by simpa using b0
     have he : a.legs.length = b.legs.length := by simp at b1; omega
     clear b0 b1
     refine qd rfl (ι := Nat) (fun i => i ≤ a.legs.length ∧ a.legs.take i = b.legs.take i) (fun i => ⟨[(5, sV (.int .i64 i)), (2, .one (.a 2 0)), (3, .one (.a 3 0))], [(2, .var (a.cs.map .b)), (3, .var (b.cs.map .b))]⟩) (fun i => a.legs.length - i) 0 ⟨Nat.zero_le _, rfl⟩ ?_ ?_
     · exact ⟨⟨rfl, ⟨rfl, rfl, rfl⟩, ⟨rfl, rfl, rfl⟩, trivial⟩, ⟨lcr, lcr, trivial⟩, rfl⟩
     · intro i ⟨hi, hq⟩ J hJ
       refine xb rfl ?_ ?_ <;> intro h
       · have h : i < a.legs.length := by simpa using h
         obtain ⟨x, hx1⟩ := gx h
         obtain ⟨y, hy1⟩ := gx (xs := b.legs) (i := i) (by omega)
         have hg := gm Leg.cs hx1
         have hg2 := gm Leg.cs hy1
         refine ze rfl [] (.take 0 [] (.take 1 [3, 4, 10] (tk [2, 3] (.take 4 [10] (.take 5 [] (.take 6 (rg 8 3) (tk [7, 8] (.take 9 [10] (.take 10 [] .done))))))))) (by kernel_rfl) (xs rfl (nn_ _) (q9 rfl _ hg (xs rfl rfl (xs rfl (nn_ _) (q9 rfl _ hg2 (xs rfl rfl ?_))))))
         refine xb rfl ?_ ?_ <;> intro b0
         refine xr rfl (q7 rfl ⟨⟨rfl, ?_, trivial⟩, z6 rfl⟩)
         rotate_left
         rotate_left
         · rw [y8k] at b0
           refine vb ?_; unfold Con.same; rw [eq_comm, Bool.and_eq_false_iff]; refine .inr (decide_eq_false (fun e => ?_)); rw [e, hy1] at hx1; cases hx1; simp at b0
         · rw [y8k] at b0
           have e : x = y := by simpa only [Bool.not_eq_false', decide_eq_true_eq] using b0
           exact za rfl (hJ _ (i + 1) ⟨by omega, by rw [List.take_add_one, List.take_add_one, hx1, hy1, hq, e]⟩ (by omega) ⟨⟨cwi (by omega) (by omega) (by omega), ⟨rfl, rfl, rfl⟩, ⟨rfl, rfl, rfl⟩, trivial⟩, ⟨lcr, lcr, trivial⟩, rfl⟩)
       · have h : i = a.legs.length := by have : ¬ i < a.legs.length := (by simpa using h); omega
         rw [h, List.take_length, he, List.take_length] at hq
         refine xr rfl (q7 rfl ⟨⟨rfl, ?_, trivial⟩, z6 rfl⟩)
         all_goals (refine vb ?_; simp [Con.same, h0, hq])
theorem q49 (c : Clu) (ho : y00 c) (l : Leg) : PC Tryz.prog 268 [.agg l.cs, .one (.p [.p c.cs])] (rB (!(Go.Sx.within l.s 0 ((c.shs.length : Int) - 1)))) := by
 refine PC.begin Tryz.func268 rfl (by kernel_rfl) ?_
 have q1 := ho.2.1.1
 have p1 : (c.shs.map Shd.cs).length ≤ 1048576 := by simpa using q1
 refine ze rfl [] (.take 0 [] (.take 1 (rg 6 3) (.take 2 (rg 3 6) (tk [3, 4] (.take 5 (rg 6 3) (.alt 6 (tk [7, 8] .done) .nil)))))) (by kernel_rfl) (z7 rfl (q2d _ _ (by assumption)) rfl tv3 ?_)
 refine xr rfl (q7 rfl ⟨⟨rfl, ?_, trivial⟩, z6 rfl⟩)
 all_goals (refine vb ?_; rw [List.length_map])
theorem y2k (c : Clu) (ho : y00 c) (x : Con) (hl : x.legs.length ≤ 1048576) : PC Tryz.prog 198 [.one (.p c.cs), .agg x.cs] (rB (!(qb0 c x))) := by
 refine PC.begin Tryz.func198 rfl (by kernel_rfl) ?_
 have hi := z5e _ x.legs (fun l => !(Go.Sx.within l.s 0 ((c.shs.length : Int) - 1))) 268 (.p [.p c.cs]) rfl (fun l _ => q49 c ho l) hl
 refine z7 rfl (hi) rfl ⟨trivial, (List.forall_mem_cons.2 ⟨⟨trivial, trivial⟩, (fun _ h => nomatch h)⟩), trivial⟩ ?_
 refine xr rfl (q7 rfl ⟨⟨rfl, rfl, trivial⟩, z6 rfl⟩)
theorem q8m (c : Clu) (ho : y00 c) : PC Tryz.prog 115 [.one (.p c.cs)] (rI (scan (z0h c) c.cons.length)) := by
 refine PC.begin Tryz.func115 rfl (by kernel_rfl) ?_
 have hl := ho.1.1
 refine qd rfl (ι := Nat) (fun i => i ≤ c.cons.length ∧ ∀ j, j < i → z0h c j = 0) (fun i => ⟨[(11, sV (.int .i64 i)), (10, sV (.int .i64 (c.cons.map Con.cs).length)), (9, .one (.b (.l (c.cons.map Con.cs)))), (0, .one (.b (.p c.cs)))], []⟩) (fun i => c.cons.length - i) 0 ⟨Nat.zero_le _, fun j hj => by omega⟩ ?_ ?_
 · exact ⟨⟨rfl, rfl, rfl, rfl, trivial⟩, trivial, rfl⟩
 · intro i ⟨hi, h0⟩ J hJ
   refine xb rfl ?_ ?_ <;> intro h
   · have h : i < c.cons.length := by simpa using h
     obtain ⟨x, hx⟩ := gx h
     have hg := gm Con.cs hx
     have hxl := ho.1.2 x (List.mem_of_getElem? hx)
     rcases Nat.eq_zero_or_pos i with hz | hz
     · subst hz
       refine xs rfl (nn_ _) (q9 rfl _ hg (xs rfl rfl (z7 rfl (z4b _ (by assumption)) rfl ⟨tv3, trivial⟩ ?_)))
       refine xb rfl ?_ ?_ <;> intro b0
       refine xr rfl (q7 rfl ⟨⟨rfl, ?_, trivial⟩, z6 rfl⟩)
       rotate_left
       refine z7 rfl (y2k c ho x hxl) rfl ⟨trivial, tv3, trivial⟩ ?_
       refine xb rfl ?_ ?_ <;> intro b1
       refine xr rfl (q7 rfl ⟨⟨rfl, ?_, trivial⟩, z6 rfl⟩)
       rotate_left
       refine ze rfl [] (tk (rg 0 6) (.take 6 (rg 9 3 ++ rg 14 3) (tk (rg 7 4) (.take 11 (rg 14 3) (.take 12 [] (.take 13 (rg 14 3) (tk [14, 15, 16] .done))))))) (by kernel_rfl) (xj (k := 14) rfl ?_)
       rotate_left
       all_goals (first | (refine vi (y9 h h0 ?_ (by first | decide | decide | simp_all)); clear hJ h0 hg; (first | (simp_all [z0h, ahead_zero]; done) | (simp_all [z0h, ahead_zero]; omega)); done) | (refine za rfl (hJ _ 1 ⟨by omega, yc h0 ?_⟩ (by omega) ⟨⟨cwi (by omega) (by omega) (by omega), rfl, rfl, rfl, trivial⟩, trivial, rfl⟩); clear hJ h0 hg; (first | (simp_all [z0h, ahead_zero]; done) | (simp_all [z0h, ahead_zero]; omega)); done) | skip)
     · obtain ⟨p, hp⟩ := gx (xs := c.cons) (i := i - 1) (by omega)
       have hgp := z1a Con.cs hz (by omega) hp
       refine xs rfl (nn_ _) (q9 rfl _ hg (xs rfl rfl (z7 rfl (z4b _ (by assumption)) rfl ⟨tv3, trivial⟩ ?_)))
       refine xb rfl ?_ ?_ <;> intro b0
       refine xr rfl (q7 rfl ⟨⟨rfl, ?_, trivial⟩, z6 rfl⟩)
       rotate_left
       refine z7 rfl (y2k c ho x hxl) rfl ⟨trivial, tv3, trivial⟩ ?_
       refine xb rfl ?_ ?_ <;> intro b1
       refine xr rfl (q7 rfl ⟨⟨rfl, ?_, trivial⟩, z6 rfl⟩)
       rotate_left
       refine ze rfl [] (tk (rg 0 6) (.take 6 (rg 9 3 ++ rg 14 3) (tk (rg 7 4) (.take 11 (rg 14 3) (.take 12 [] (.take 13 (rg 14 3) (tk [14, 15, 16] .done))))))) (by kernel_rfl) ?_
       refine xb rfl ?_ ?_ <;> intro b2
       refine xj (k := 6) rfl (xs rfl (q0m hz (by omega)) (q9 rfl _ hgp (xs rfl rfl (xj (k := 6) rfl ?_))))
       refine xb rfl ?_ ?_ <;> intro b3
       refine xr rfl (q7 rfl ⟨⟨rfl, ?_, trivial⟩, z6 rfl⟩)
       rotate_left
       rotate_left
       refine xj (k := 13) rfl ?_
       rotate_left
       all_goals (first | (refine vi (y9 h h0 ?_ (by first | decide | decide | simp_all)); clear hJ h0 hg hgp; (first | (simp_all [z0h, qa hz hp]; done) | (simp_all [z0h, qa hz hp]; omega)); done) | (refine za rfl (hJ _ (i + 1) ⟨by omega, yc h0 ?_⟩ (by omega) ⟨⟨cwi (by omega) (by omega) (by omega), rfl, rfl, rfl, trivial⟩, trivial, rfl⟩); clear hJ h0 hg hgp; (first | (simp_all [z0h, qa hz hp]; done) | (simp_all [z0h, qa hz hp]; omega)); done) | skip)
   · have h : ¬ i < c.cons.length := by simpa using h
     have hz := yg (f := z0h c) (n := c.cons.length) (fun j hj => h0 j (by omega))
     clear hJ
     refine xr rfl (q7 rfl ⟨⟨rfl, ?_, trivial⟩, z6 rfl⟩)
     exact vi (hz.symm)
theorem z8w (c : Clu) (ho : y00 c) : PC Tryz.prog 98 [.one (.p c.cs)] (rI (scan (z0h c) c.cons.length)) := by
 refine PC.begin Tryz.func98 rfl (by kernel_rfl) ?_
 have hl := ho.1.1
 have q1 := ho.2.1.1
 refine qd rfl (ι := Nat) (fun i => i ≤ c.cons.length ∧ ∀ j, j < i → z0h c j = 0) (fun i => ⟨[(3, sV (.int .i64 i)), (0, .one (.b (.p c.cs)))], []⟩) (fun i => c.cons.length - i) 0 ⟨Nat.zero_le _, fun j hj => by omega⟩ ?_ ?_
 · exact ⟨⟨rfl, rfl, trivial⟩, trivial, rfl⟩
 · intro i ⟨hi, h0⟩ J hJ
   refine xb rfl ?_ ?_ <;> intro h
   · have h : i < c.cons.length := by simpa using h
     obtain ⟨x, hx⟩ := gx h
     have hg := gm Con.cs hx
     have hxl := ho.1.2 x (List.mem_of_getElem? hx)
     have hla : zq x = 0 → _ := fun h => q7p h c
     rcases Nat.eq_zero_or_pos i with hz | hz
     · subst hz
       refine xs rfl (nn_ _) (q9 rfl _ hg (xs rfl rfl (z7 rfl (z4h _ (by assumption)) rfl ⟨tv3, trivial⟩ ?_)))
       refine xb rfl ?_ ?_ <;> intro b0
       refine xr rfl (q7 rfl ⟨⟨rfl, ?_, trivial⟩, z6 rfl⟩)
       rotate_left
       refine z7 rfl (z1x x hxl) rfl ⟨tv3, trivial⟩ (ze rfl [] (tk (rg 0 5) (.take 5 [11] (tk [6, 7, 8] (.take 9 [10, 11] (tk [10, 11] .done))))) (by kernel_rfl) (xs rfl (z7q (by simpa using b0)) (q9 rfl _ (q4z (by simpa using b0)) (xs rfl rfl ?_))))
       refine xb rfl ?_ ?_ <;> intro b1
       refine xr rfl (q7 rfl ⟨⟨rfl, ?_, trivial⟩, z6 rfl⟩)
       rotate_left
       refine ze rfl [] (tk (rg 0 4) (.take 4 [14, 15] (tk [5, 6, 7] (.take 8 (rg 11 5) (tk (rg 9 4) (.take 13 [14, 15] (tk [14, 15] .done))))))) (by kernel_rfl) (xj (k := 14) rfl ?_)
       rotate_left
       all_goals (first | (refine vi (y9 h h0 ?_ (by first | decide | decide | simp_all)); clear hJ h0 hg; (first | (simp_all [z0h, ahead_zero]; done) | (simp_all [z0h, ahead_zero]; omega)); done) | (refine za rfl (hJ _ 1 ⟨by omega, yc h0 ?_⟩ (by omega) ⟨⟨cwi (by omega) (by omega) (by omega), rfl, trivial⟩, trivial, rfl⟩); clear hJ h0 hg; (first | (simp_all [z0h, ahead_zero]; done) | (simp_all [z0h, ahead_zero]; omega)); done) | skip)
     · obtain ⟨p, hp⟩ := gx (xs := c.cons) (i := i - 1) (by omega)
       have hgp := z1a Con.cs hz (by omega) hp
       refine xs rfl (nn_ _) (q9 rfl _ hg (xs rfl rfl (z7 rfl (z4h _ (by assumption)) rfl ⟨tv3, trivial⟩ ?_)))
       refine xb rfl ?_ ?_ <;> intro b0
       refine xr rfl (q7 rfl ⟨⟨rfl, ?_, trivial⟩, z6 rfl⟩)
       rotate_left
       refine z7 rfl (z1x x hxl) rfl ⟨tv3, trivial⟩ (ze rfl [] (tk (rg 0 5) (.take 5 [11] (tk [6, 7, 8] (.take 9 [10, 11] (tk [10, 11] .done))))) (by kernel_rfl) (xs rfl (z7q (by simpa using b0)) (q9 rfl _ (q4z (by simpa using b0)) (xs rfl rfl ?_))))
       refine xb rfl ?_ ?_ <;> intro b1
       refine xr rfl (q7 rfl ⟨⟨rfl, ?_, trivial⟩, z6 rfl⟩)
       rotate_left
       refine ze rfl [] (tk (rg 0 4) (.take 4 [14, 15] (tk [5, 6, 7] (.take 8 (rg 11 5) (tk (rg 9 4) (.take 13 [14, 15] (tk [14, 15] .done))))))) (by kernel_rfl) ?_
       refine xb rfl ?_ ?_ <;> intro b2
       refine xj (k := 8) rfl (xs rfl (q0m hz (by omega)) (q9 rfl _ hgp (xs rfl rfl (xj (k := 4) rfl ?_))))
       refine xb rfl ?_ ?_ <;> intro b3
       refine xr rfl (q7 rfl ⟨⟨rfl, ?_, trivial⟩, z6 rfl⟩)
       rotate_left
       rotate_left
       refine xj (k := 13) rfl ?_
       rotate_left
       all_goals (first | (refine vi (y9 h h0 ?_ (by first | decide | decide | simp_all)); clear hJ h0 hg hgp; (first | (simp_all [z0h, qa hz hp]; done) | (simp_all [z0h, qa hz hp]; omega)); done) | (refine za rfl (hJ _ (i + 1) ⟨by omega, yc h0 ?_⟩ (by omega) ⟨⟨cwi (by omega) (by omega) (by omega), rfl, trivial⟩, trivial, rfl⟩); clear hJ h0 hg hgp; (first | (simp_all [z0h, qa hz hp]; done) | (simp_all [z0h, qa hz hp]; omega)); done) | skip)
   · have h : ¬ i < c.cons.length := by simpa using h
     have hz := yg (f := z0h c) (n := c.cons.length) (fun j hj => h0 j (by omega))
     clear hJ
     refine xr rfl (q7 rfl ⟨⟨rfl, ?_, trivial⟩, z6 rfl⟩)
     exact vi (hz.symm)
theorem zal (rr : List (List Cell)) (us : List Mk) (p : Mk → Bool) (fn : Nat) (c0 : Cell) (c1 : Cell) (hr : rr = us.map Mk.cs) (hf : ∀ x ∈ us, PC Tryz.prog fn [.agg x.cs, .one c0, .one c1] (rB (p x))) (hl : us.length ≤ 1048576) : PC Tryz.prog 277 [.one (.l rr), .one (.f fn [c0, c1])] (rI (y1d p us)) := by
 refine PC.begin Tryz.func277 rfl (by kernel_rfl) ?_
 subst hr
 have hn : (us.map Mk.cs).length = us.length := by simp
 refine qd rfl (ι := Nat) (fun i => i ≤ us.length ∧ ∀ j y, j < i → us[j]? = some y → p y = false) (fun i => ⟨[(8, sV (.int .i64 i)), (7, sV (.int .i64 (us.map Mk.cs).length)), (0, .one (.b (.l (us.map Mk.cs)))), (1, .one (.b (.f fn [c0, c1])))], []⟩) (fun i => us.length - i) 0 ⟨Nat.zero_le _, fun j y hj => by omega⟩ ?_ ?_
 · exact ⟨⟨rfl, rfl, rfl, rfl, trivial⟩, trivial, rfl⟩
 · intro i ⟨hi, h0⟩ J hJ
   refine xb rfl ?_ ?_ <;> intro h
   · have h : i < us.length := by simpa using h
     obtain ⟨x, hx⟩ := gx h
     have hg := gm Mk.cs hx
     have hxm := List.mem_of_getElem? hx
     refine xs rfl (nn_ _) (q9 rfl _ hg (xs rfl rfl (z7 rfl (hf _ hxm) rfl ⟨tv3, trivial, trivial, trivial⟩ ?_)))
     refine xb rfl ?_ ?_ <;> intro b0
     refine xr rfl (q7 rfl ⟨⟨rfl, ?_, trivial⟩, z6 rfl⟩)
     rotate_left
     rotate_left
     · exact vi (y07 hx h0 b0).symm
     · exact za rfl (hJ _ (i + 1) ⟨by omega, zh hx h0 b0⟩ (by omega) ⟨⟨cwi (by omega) (by omega) (by omega), rfl, rfl, rfl, trivial⟩, trivial, rfl⟩)
   · have h : ¬ i < us.length := by simpa using h
     refine xr rfl (q7 rfl ⟨⟨rfl, ?_, trivial⟩, z6 rfl⟩)
     exact vi (q01 (yk (by omega) h0)).symm
theorem z95 (rr : List (List Cell)) (us : List Mk) (p : Mk → Bool) (fn : Nat) (c0 : Cell) (c1 : Cell) (hr : rr = us.map Mk.cs) (hf : ∀ x ∈ us, PC Tryz.prog fn [.agg x.cs, .one c0, .one c1] (rB (p x))) (hl : us.length ≤ 1048576) : PC Tryz.prog 202 [.one (.l rr), .one (.f fn [c0, c1])] (rB (us.any p)) := by
 refine PC.begin Tryz.func202 rfl (by kernel_rfl) ?_
 have hi := zal rr us p fn c0 c1 hr hf hl
 refine z7 rfl (hi) rfl tv3 ?_
 refine xr rfl (q7 rfl ⟨⟨rfl, ?_, trivial⟩, z6 rfl⟩)
 exact vb z0g
theorem z9s (rr : List (List Cell)) (us : List Slt) (p : Slt → Bool) (fn : Nat) (c0 : Cell) (hr : rr = us.map Slt.cs) (hf : ∀ x ∈ us, PC Tryz.prog fn [.agg x.cs, .one c0] (rB (p x))) (hl : us.length ≤ 1048576) : PC Tryz.prog 281 [.one (.l rr), .one (.f fn [c0])] (rI (y1d p us)) := by
 refine PC.begin Tryz.func281 rfl (by kernel_rfl) ?_
 subst hr
 have hn : (us.map Slt.cs).length = us.length := by simp
 refine qd rfl (ι := Nat) (fun i => i ≤ us.length ∧ ∀ j y, j < i → us[j]? = some y → p y = false) (fun i => ⟨[(8, sV (.int .i64 i)), (7, sV (.int .i64 (us.map Slt.cs).length)), (0, .one (.b (.l (us.map Slt.cs)))), (1, .one (.b (.f fn [c0])))], []⟩) (fun i => us.length - i) 0 ⟨Nat.zero_le _, fun j y hj => by omega⟩ ?_ ?_
 · exact ⟨⟨rfl, rfl, rfl, rfl, trivial⟩, trivial, rfl⟩
 · intro i ⟨hi, h0⟩ J hJ
   refine xb rfl ?_ ?_ <;> intro h
   · have h : i < us.length := by simpa using h
     obtain ⟨x, hx⟩ := gx h
     have hg := gm Slt.cs hx
     have hxm := List.mem_of_getElem? hx
     refine xs rfl (nn_ _) (q9 rfl _ hg (xs rfl rfl (z7 rfl (hf _ hxm) rfl ⟨tv7, trivial, trivial⟩ ?_)))
     refine xb rfl ?_ ?_ <;> intro b0
     refine xr rfl (q7 rfl ⟨⟨rfl, ?_, trivial⟩, z6 rfl⟩)
     rotate_left
     rotate_left
     · exact vi (y07 hx h0 b0).symm
     · exact za rfl (hJ _ (i + 1) ⟨by omega, zh hx h0 b0⟩ (by omega) ⟨⟨cwi (by omega) (by omega) (by omega), rfl, rfl, rfl, trivial⟩, trivial, rfl⟩)
   · have h : ¬ i < us.length := by simpa using h
     refine xr rfl (q7 rfl ⟨⟨rfl, ?_, trivial⟩, z6 rfl⟩)
     exact vi (q01 (yk (by omega) h0)).symm
theorem q9h (rr : List (List Cell)) (us : List Slt) (p : Slt → Bool) (fn : Nat) (c0 : Cell) (hr : rr = us.map Slt.cs) (hf : ∀ x ∈ us, PC Tryz.prog fn [.agg x.cs, .one c0] (rB (p x))) (hl : us.length ≤ 1048576) : PC Tryz.prog 205 [.one (.l rr), .one (.f fn [c0])] (rB (us.any p)) := by
 refine PC.begin Tryz.func205 rfl (by kernel_rfl) ?_
 have hi := z9s rr us p fn c0 hr hf hl
 refine z7 rfl (hi) rfl tv3 ?_
 refine xr rfl (q7 rfl ⟨⟨rfl, ?_, trivial⟩, z6 rfl⟩)
 exact vb z0g
theorem y3f (c : Clu) (ho : y00 c) (i : Int) (m : Mk) : PC Tryz.prog 200 [.agg m.cs, .one (.p [.p c.cs]), .one (.p [i64 i])] (rB (!(q14 c.cons m.c i))) := by
 refine PC.begin Tryz.func200 rfl (by kernel_rfl) ?_
 refine z7 rfl (q17 _ (by assumption) _ _) rfl tv4 ?_
 refine xr rfl (q7 rfl ⟨⟨rfl, rfl, trivial⟩, z6 rfl⟩)
theorem y8n (c : Clu) (ho : y00 c) (i : Nat) (s : Shd) (hs : c.shs[i]? = some s) : PC Tryz.prog 116 [.one (.p c.cs), .one (i64 i)] (rI (z9d c i s)) := by
 refine PC.begin Tryz.func116 rfl (by kernel_rfl) ?_
 have hg := gm Shd.cs hs
 have hso := ho.2.1.2 s (List.mem_of_getElem? hs)
 obtain ⟨o1, o2, o3, o4, o5, o6⟩ := id hso
 have hv := z95 _ s.votes (fun m => !(q14 c.cons m.c i)) 200 (.p [.p c.cs]) (.p [i64 i]) rfl (fun m _ => y3f c ho i m) o2
 have hd := z95 _ s.done (fun m => !(q14 c.cons m.c i)) 200 (.p [.p c.cs]) (.p [i64 i]) rfl (fun m _ => y3f c ho i m) o4
 refine ze rfl [] (.take 0 [1, 2, 3, 5, 6, 8] (tk [1, 2] (.take 3 [5, 6, 8] (.take 4 [5, 6, 8] (.take 5 [] (.take 6 [8] (.alt 7 (.alt 8 .done .nil) .nil))))))) (by kernel_rfl) (xs rfl (nn_ _) (q9 rfl _ hg (xs rfl rfl (z7 rfl (z82 s hso) rfl ⟨tv7, trivial⟩ ?_))))
 refine xb rfl ?_ ?_ <;> intro b0
 refine xr rfl (q7 rfl ⟨⟨rfl, ?_, trivial⟩, z6 rfl⟩)
 rotate_left
 refine xb rfl ?_ ?_ <;> intro b1
 refine xj (k := 10) rfl ?_
 refine xr rfl (q7 rfl ⟨⟨rfl, ?_, trivial⟩, z6 rfl⟩)
 rotate_left
 refine xj (k := 3) rfl (z7 rfl (hv) rfl ⟨trivial, (List.forall_mem_cons.2 ⟨⟨trivial, trivial⟩, (List.forall_mem_cons.2 ⟨⟨trivial, trivial⟩, (fun _ h => nomatch h)⟩)⟩), trivial⟩ (xj (k := 1) rfl ?_))
 refine xb rfl ?_ ?_ <;> intro b2
 refine xj (k := 5) rfl ?_
 refine xr rfl (q7 rfl ⟨⟨rfl, ?_, trivial⟩, z6 rfl⟩)
 rotate_left
 refine xj (k := 3) rfl (z7 rfl (hd) rfl ⟨trivial, (List.forall_mem_cons.2 ⟨⟨trivial, trivial⟩, (List.forall_mem_cons.2 ⟨⟨trivial, trivial⟩, (fun _ h => nomatch h)⟩)⟩), trivial⟩ (xj (k := 1) rfl ?_))
 refine xb rfl ?_ ?_ <;> intro b3
 refine xr rfl (q7 rfl ⟨⟨rfl, ?_, trivial⟩, z6 rfl⟩)
 rotate_left
 rotate_left
 all_goals first | (refine vi ?_; unfold z9d; simp_all; done) | skip
 have hsf : yp s = 0 := by simpa using b0
 have hix : s.idx = i := by simpa using b1
 have hvd : ((s.votes.any fun m => !(q14 c.cons m.c i)) || (s.done.any fun m => !(q14 c.cons m.c i))) = false := by rw [b2, b3]; rfl
 rw [q4i hsf hix, hvd]
 have hcon := z2v hsf
 clear hv hd b0 b1 b2 b3 hvd
 refine qd rfl (ι := Nat) (fun i => i ≤ s.held.length ∧ ∀ j y, j < i → s.held[j]? = some y → q3i c y = false) (fun i => ⟨[(44, sV (.int .i64 i)), (43, sV (.int .i64 (s.held.map Con.cs).length)), (42, .one (.b (.l (s.held.map Con.cs)))), (2, .one (.a 2 0))], [(2, .var [.b (.p c.cs)])]⟩) (fun i => s.held.length - i) 0 ⟨Nat.zero_le _, fun j y hj => by omega⟩ ?_ ?_
 · exact ⟨⟨rfl, rfl, rfl, ⟨rfl, rfl, rfl⟩, trivial⟩, ⟨⟨rfl, trivial⟩, trivial⟩, rfl⟩
 · intro k ⟨hk, h0⟩ J hJ
   refine xb rfl ?_ ?_ <;> intro h
   · have h : k < s.held.length := by simpa using h
     obtain ⟨y, hy⟩ := gx h
     have hgy := gm Con.cs hy
     have hym := List.mem_of_getElem? hy
     have hyl := o6 y hym
     have hid := (q12 (hcon y hym)).1.1
     cases hc : z0w c.cons y.id with
     | none =>
       have hb : q3i c y = true := by unfold q3i; rw [hc]
       have hsm : (Con.mk 0 []).same y = false := by unfold Con.same; rw [Bool.and_eq_false_iff]; exact .inl (beq_false_of_ne (fun e => by have : (0 : Int) = y.id := e; omega))
       have hq := q67 ⟨0, []⟩ y (Nat.zero_le _)
       rw [hsm] at hq
       refine xs rfl (nn_ _) (q9 rfl _ hgy (xs rfl rfl (z7 rfl (y1b c ho y.id hc) rfl tv3 (z7 rfl (hq) rfl ⟨tv3, tv3, trivial⟩ (xj (k := 1) rfl ?_)))))
       refine xr rfl (q7 rfl ⟨⟨rfl, ?_, trivial⟩, z6 rfl⟩)
       exact vi (by rw [if_neg (by decide), if_pos (zt hy hb).symm])
     | some x =>
       have hxl := ho.1.2 x (List.mem_of_find?_eq_some hc)
       have hb : q3i c y = !(x.same y) := by unfold q3i; rw [hc]
       refine xs rfl (nn_ _) (q9 rfl _ hgy (xs rfl rfl (z7 rfl (q1b c ho y.id x hc) rfl tv3 (z7 rfl (q67 x y hxl) rfl ⟨tv3, tv3, trivial⟩ ?_))))
       refine xb rfl ?_ ?_ <;> intro b0
       refine xr rfl (q7 rfl ⟨⟨rfl, ?_, trivial⟩, z6 rfl⟩)
       rotate_left
       rotate_left
       · exact vi (by rw [if_neg (by decide), if_pos (zt hy (hb.trans b0)).symm])
       · exact za rfl (hJ _ (k + 1) ⟨by omega, zh hy h0 (hb.trans b0)⟩ (by omega) ⟨⟨cwi (by omega) (by omega) (by omega), rfl, rfl, ⟨rfl, rfl, rfl⟩, trivial⟩, ⟨⟨rfl, trivial⟩, trivial⟩, rfl⟩)
   · have h : ¬ k < s.held.length := by simpa using h
     have hz := any_none (yk (by omega) h0)
     refine xr rfl (q7 rfl ⟨⟨rfl, ?_, trivial⟩, z6 rfl⟩)
     exact vi (by rw [if_neg (by decide), if_neg (by rw [← hz]; decide)])
theorem z5w (c : Clu) (ho : y00 c) (x : Slt) : PC Tryz.prog 206 [.agg x.cs, .one (.p [.p c.cs])] (rB (!(q14 c.cons x.c x.s))) := by
 refine PC.begin Tryz.func206 rfl (by kernel_rfl) ?_
 refine z7 rfl (q17 _ (by assumption) _ _) rfl tv4 ?_
 refine xr rfl (q7 rfl ⟨⟨rfl, rfl, trivial⟩, z6 rfl⟩)
theorem z8m (c : Clu) (ho : y00 c) (a : Acc) (ha : z41 a) : PC Tryz.prog 119 [.one (.p c.cs), .agg a.cs] (rI (z9g c a)) := by
 refine PC.begin Tryz.func119 rfl (by kernel_rfl) ?_
 have hv := q9h _ a.slots (fun x => !(q14 c.cons x.c x.s)) 206 (.p [.p c.cs]) rfl (fun x _ => z5w c ho x) ha.1
 refine z7 rfl (z9p a ha) rfl ⟨⟨trivial, trivial⟩, trivial⟩ ?_
 refine xb rfl ?_ ?_ <;> intro b0
 refine xr rfl (q7 rfl ⟨⟨rfl, ?_, trivial⟩, z6 rfl⟩)
 rotate_left
 refine z7 rfl (hv) rfl ⟨trivial, (List.forall_mem_cons.2 ⟨⟨trivial, trivial⟩, (fun _ h => nomatch h)⟩), trivial⟩ ?_
 refine xb rfl ?_ ?_ <;> intro b1
 refine xr rfl (q7 rfl ⟨⟨rfl, ?_, trivial⟩, z6 rfl⟩)
 rotate_left
 refine xr rfl (q7 rfl ⟨⟨rfl, ?_, trivial⟩, z6 rfl⟩)
 rotate_left
 all_goals (refine vi ?_; unfold z9g; clear hv; simp_all; done)
end Go.Proofs.YtbnbjaedijbnpaaGreat
end
