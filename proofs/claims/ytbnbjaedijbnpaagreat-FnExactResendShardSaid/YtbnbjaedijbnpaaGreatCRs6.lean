/- WHAT IS PROVED: parts of the proof of fnExactResendShard_holds: a frame for walks, what each Go function that it reaches answers, and plain lemmas; no condition beyond those that each theorem names. -/
import Derived.Test.YtbnbjaedijbnpaaGreatCRs5
import Derived.WalkKit
import Derived.OrdersHeld
import Derived.DeepKeys
import Derived.Maps.RangeWalk
import Derived.Maps.OwnOps
import Derived.WideKeyEntry
import Derived.Orders
import Derived.Deep.Slices
import Derived.ChangeArms
import Derived.WideShapes
import Derived.Sort.AssemblyPlain
import Derived.Test.YtbnbjaedijbnpaaGreatProg
import Derived.Shelf.SortG.Plain
import Derived.Shelf.SortG.SortNone
import Derived.Shelf.SlicesG.CompactI
import Derived.Lib.OwnBridge
import Derived.RangeFuncGives
import Derived.RangeFuncBox
import Derived.RangeFuncLeaves
import Derived.Shelf.Abstract
import Derived.Maps.AppendAt
import Derived.OwnWalkIn
import Derived.TacticsInMore
import Derived.LoopNIn
import Derived.LoopIn
set_option linter.unusedVariables false
set_option linter.unusedSimpArgs false
section
namespace Go.Proofs.YtbnbjaedijbnpaaGreat
open Go Go.Sx
set_option maxRecDepth 20000
set_option maxHeartbeats 4000000
theorem y0w (us : List Mk) (c : Int) (hl : us.length ≤ 1048576) : PC Tryz.prog 66 [.one (.l (us.map Mk.cs)), .one (i64 c)] (rI (q0m us c)) := by
 refine PC.begin Tryz.func66 rfl (by kernel_rfl) ?_
 refine yd rfl (ι := Nat) (fun i => i ≤ us.length ∧ ∀ j y, j < i → us[j]? = some y → ¬ y.c = c) (fun i => ⟨[(5, sV (.int .i64 i)), (0, .one (.b (.l (us.map Mk.cs)))), (1, sV (.int .i64 c))], []⟩) (fun i => us.length - i) 0 ⟨Nat.zero_le _, fun j y hj => by omega⟩ ?_ ?_
 · exact ⟨⟨rfl, rfl, rfl, trivial⟩, trivial, rfl⟩
 · intro i ⟨hi, h0⟩ J hJ
   refine xb rfl ?_ ?_ <;> intro h
   · have h : i < us.length := by simpa using h
     obtain ⟨x, hx⟩ := gx h
     have hg := gm Mk.cs hx
     refine xs rfl (nn_ _) (y9 rfl _ hg (xs rfl rfl ?_))
     refine xb rfl ?_ ?_ <;> intro b0
     refine xs rfl (nn_ _) (y9 rfl _ hg (xs rfl rfl ?_))
     refine xv rfl rfl rfl ?_; rotate_left
     rotate_left
     · exact vi (q1d hx h0 (by simpa using b0)).symm
     · exact q9 rfl (hJ _ (i + 1) ⟨by omega, qg hx h0 (by simpa using b0)⟩ (by omega) ⟨⟨cwi (by omega) (by omega) (by omega), rfl, rfl, trivial⟩, trivial, rfl⟩)
   · have h : ¬ i < us.length := by simpa using h
     refine xv rfl rfl rfl ?_
     exact vi (y1l (zk (by omega) h0)).symm
theorem q8z (us : List Bal) (hl : us.length ≤ 1048576) : PC Tryz.prog 103 [.one (.l (us.map Bal.cs))] (rI (ql us)) := by
 refine PC.begin Tryz.func103 rfl (by kernel_rfl) ?_
 refine xb rfl ?_ ?_ <;> intro hn
 · have hn : 18 < us.length := by simp at hn; omega
   refine xv rfl rfl rfl ?_
   exact vi (by rw [ql, if_pos hn])
 have hn : ¬ 18 < us.length := by simp at hn; omega
 have hr : ql us = scan (q2i us) us.length := by rw [ql, if_neg hn]
 rw [hr]
 refine yd rfl (ι := Nat) (fun i => i ≤ us.length ∧ ∀ j, j < i → q2i us j = 0) (fun i => ⟨[(3, sV (.int .i64 i)), (0, .one (.b (.l (us.map Bal.cs))))], []⟩) (fun i => us.length - i) 0 ⟨Nat.zero_le _, fun j hj => by omega⟩ ?_ ?_
 · exact ⟨⟨rfl, rfl, trivial⟩, trivial, rfl⟩
 · intro i ⟨hi, h0⟩ J hJ
   refine xb rfl ?_ ?_ <;> intro h
   · have h : i < us.length := by simpa using h
     obtain ⟨x, hx⟩ := gx h
     have hg := gm Bal.cs hx
     rcases Nat.eq_zero_or_pos i with hz | hz
     · subst hz
       refine xs rfl (nn_ _) (y9 rfl _ hg (xs rfl rfl (z7 rfl (y6c _ _) rfl tv3 ?_)))
       refine xb rfl ?_ ?_ <;> intro b0
       refine xj (k := 5) rfl ?_
       refine xv rfl rfl rfl ?_; rotate_left
       refine xj (k := 2) rfl (z7 rfl (qi _ _ _) rfl tv4 (xj (k := 2) rfl ?_))
       refine xb rfl ?_ ?_ <;> intro b1
       refine xv rfl rfl rfl ?_; rotate_left
       refine qd rfl [] (Tk (Rg 0 4) (.take 4 [5, 8, 23, 24] (Tk [5, 6] (.take 7 [8, 23, 24] (Tk (Rg 8 6) (.take 14 [15, 22, 23, 24] (Tk (Rg 15 6) (.take 21 (Rg 22 3) (Tk [22, 23, 24] .done))))))))) (by kernel_rfl) ?_
       refine xj (k := 23) rfl ?_; rotate_left
       all_goals (first | (refine vi (q8 h h0 ?_ (by first | decide | decide | simp_all)); clear hJ h0 hg; first | (simp_all [q2i, Bal.bad, ahead_zero]; done) | (have hxb : x.bad = false := (by simp_all [Bal.bad]); simp only [Bal.q0v hxb, Bal.q0v hpb] at *; simp_all [q2i, ya hz hp]; done)) | (refine q9 rfl (hJ _ 1 ⟨by omega, zc h0 ?_⟩ (by omega) ⟨⟨cwi (by omega) (by omega) (by omega), rfl, trivial⟩, trivial, rfl⟩); clear hJ h0 hg; first | (simp_all [q2i, Bal.bad, ahead_zero]; done) | (have hxb : x.bad = false := (by simp_all [Bal.bad]); simp only [Bal.q0v hxb, Bal.q0v hpb] at *; simp_all [q2i, ya hz hp]; done)))
     · obtain ⟨p, hp⟩ := gx (xs := us) (i := i - 1) (by omega)
       have hgp := y1b Bal.cs hz (by omega) hp
       have hpb := y5h hp (h0 (i - 1) (by omega))
       refine xs rfl (nn_ _) (y9 rfl _ hg (xs rfl rfl (z7 rfl (y6c _ _) rfl tv3 ?_)))
       refine xb rfl ?_ ?_ <;> intro b0
       refine xj (k := 5) rfl ?_
       refine xv rfl rfl rfl ?_; rotate_left
       refine xj (k := 2) rfl (z7 rfl (qi _ _ _) rfl tv4 (xj (k := 2) rfl ?_))
       refine xb rfl ?_ ?_ <;> intro b1
       refine xv rfl rfl rfl ?_; rotate_left
       refine qd rfl [] (Tk (Rg 0 4) (.take 4 [5, 8, 23, 24] (Tk [5, 6] (.take 7 [8, 23, 24] (Tk (Rg 8 6) (.take 14 [15, 22, 23, 24] (Tk (Rg 15 6) (.take 21 (Rg 22 3) (Tk [22, 23, 24] .done))))))))) (by kernel_rfl) ?_
       refine xb rfl ?_ ?_ <;> intro b2
       refine xj (k := 9) rfl (xs rfl (q0n hz (by omega)) (y9 rfl _ hgp (xs rfl rfl (xj (k := 7) rfl (xs rfl (q0n hz (by omega)) (y9 rfl _ hgp (xs rfl rfl (xj (k := 5) rfl ?_))))))))
       refine xb rfl ?_ ?_ <;> intro b3
       refine xv rfl rfl rfl ?_; rotate_left
       rotate_left
       refine xj (k := 22) rfl ?_; rotate_left
       all_goals (first | (refine vi (q8 h h0 ?_ (by first | decide | decide | simp_all)); clear hJ h0 hg hgp; first | (simp_all [ya hz hp, q2i, Bal.bad, ahead_zero]; done) | (have hxb : x.bad = false := (by simp_all [Bal.bad]); simp only [Bal.q0v hxb, Bal.q0v hpb] at *; simp_all [q2i, ya hz hp]; done)) | (refine q9 rfl (hJ _ (i + 1) ⟨by omega, zc h0 ?_⟩ (by omega) ⟨⟨cwi (by omega) (by omega) (by omega), rfl, trivial⟩, trivial, rfl⟩); clear hJ h0 hg hgp; first | (simp_all [ya hz hp, q2i, Bal.bad, ahead_zero]; done) | (have hxb : x.bad = false := (by simp_all [Bal.bad]); simp only [Bal.q0v hxb, Bal.q0v hpb] at *; simp_all [q2i, ya hz hp]; done)))
   · have h : ¬ i < us.length := by simpa using h
     have hz := zg (f := q2i us) (n := us.length) (fun j hj => h0 j (by omega))
     refine xv rfl rfl rfl ?_
     exact vi (hz.symm)
theorem q0j (p x : Bal) : PC Tryz.prog 214 [.agg p.cs, .agg x.cs] (rI (q0c p x)) := by
 refine PC.begin Tryz.func214 rfl (by kernel_rfl) ?_
 refine qd rfl [] (.take 0 [] (.take 1 [4, 9, 10, 11, 12] (.take 2 [] (.take 3 [4, 9, 10, 11, 12] (.take 5 [] (.take 6 (Rg 9 4) (.take 7 [] (.take 8 (Rg 9 4) (.alt 4 (.alt 9 (.alt 10 (.alt 11 (.take 12 [] .done) .nil) .nil) .nil) .nil))))))))) (by kernel_rfl) (z7 rfl (qu _ _) rfl tv3 (z7 rfl (qu _ _) rfl tv3 (xs rfl tv3 (z7 rfl (q8w [_, _] (by simp)) rfl ⟨rfl, trivial⟩ ?_))))
 refine xr rfl (qm rfl ⟨⟨rfl, rfl, trivial⟩, z6 rfl⟩)
theorem z8r (us : List Bal) (hl : us.length ≤ 1048576) : PC Tryz.prog 126 [.one (.l (us.map Bal.cs))] (rI (ql us)) := by
 refine PC.begin Tryz.func126 rfl (by kernel_rfl) ?_
 refine xb rfl ?_ ?_ <;> intro hn
 · have hn : 18 < us.length := by simp at hn; omega
   refine xv rfl rfl rfl ?_
   exact vi (by rw [ql, if_pos hn])
 have hn : ¬ 18 < us.length := by simp at hn; omega
 have hr : ql us = scan (q2i us) us.length := by rw [ql, if_neg hn]
 rw [hr]
 have hle : (us.map Bal.cs).length = us.length := by simp
 refine yd rfl (ι := Nat) (fun i => i ≤ us.length ∧ ∀ j, j < i → q2i us j = 0) (fun i => ⟨[(10, sV (.int .i64 i)), (9, sV (.int .i64 (us.map Bal.cs).length)), (8, .one (.b (.l (us.map Bal.cs)))), (0, .one (.b (.l (us.map Bal.cs))))], []⟩) (fun i => us.length - i) 0 ⟨Nat.zero_le _, fun j hj => by omega⟩ ?_ ?_
 · exact ⟨⟨rfl, rfl, rfl, rfl, trivial⟩, trivial, rfl⟩
 · intro i ⟨hi, h0⟩ J hJ
   refine xb rfl ?_ ?_ <;> intro h
   · have h : i < us.length := by simpa using h
     obtain ⟨x, hx⟩ := gx h
     have hg := gm Bal.cs hx
     rcases Nat.eq_zero_or_pos i with hz | hz
     · subst hz
       refine xs rfl (nn_ _) (y9 rfl _ hg (xs rfl rfl (z7 rfl (z2f _ _) rfl tv3 ?_)))
       refine xb rfl ?_ ?_ <;> intro b0
       refine xj (k := 5) rfl ?_
       refine xv rfl rfl rfl ?_; rotate_left
       refine xj (k := 2) rfl (z7 rfl (zo _ _ _) rfl tv4 (xj (k := 2) rfl ?_))
       refine xb rfl ?_ ?_ <;> intro b1
       refine xv rfl rfl rfl ?_; rotate_left
       refine qd rfl [] (Tk (Rg 0 7) (.take 7 (Rg 9 4) (.take 8 (Rg 9 4) (.alt 9 (Tk [10, 11, 12] .done) .nil)))) (by kernel_rfl) ?_
       refine xj (k := 10) rfl ?_; rotate_left
       all_goals (first | (refine vi (q8 h h0 ?_ (by first | decide | decide | simp_all)); clear hJ h0 hg; first | (simp_all [q2i, Bal.bad, ahead_zero]; done) | (have hxb : x.bad = false := (by simp_all [Bal.bad]); have hc := y29 hpb hxb; (simp_all [q2i, ya hz hp] <;> omega))) | (refine q9 rfl (hJ _ 1 ⟨by omega, zc h0 ?_⟩ (by omega) ⟨⟨cwi (by omega) (by omega) (by omega), rfl, rfl, rfl, trivial⟩, trivial, rfl⟩); clear hJ h0 hg; first | (simp_all [q2i, Bal.bad, ahead_zero]; done) | (have hxb : x.bad = false := (by simp_all [Bal.bad]); have hc := y29 hpb hxb; (simp_all [q2i, ya hz hp] <;> omega))))
     · obtain ⟨p, hp⟩ := gx (xs := us) (i := i - 1) (by omega)
       have hgp := y1b Bal.cs hz (by omega) hp
       have hpb := y5h hp (h0 (i - 1) (by omega))
       refine xs rfl (nn_ _) (y9 rfl _ hg (xs rfl rfl (z7 rfl (z2f _ _) rfl tv3 ?_)))
       refine xb rfl ?_ ?_ <;> intro b0
       refine xj (k := 5) rfl ?_
       refine xv rfl rfl rfl ?_; rotate_left
       refine xj (k := 2) rfl (z7 rfl (zo _ _ _) rfl tv4 (xj (k := 2) rfl ?_))
       refine xb rfl ?_ ?_ <;> intro b1
       refine xv rfl rfl rfl ?_; rotate_left
       refine qd rfl [] (Tk (Rg 0 7) (.take 7 (Rg 9 4) (.take 8 (Rg 9 4) (.alt 9 (Tk [10, 11, 12] .done) .nil)))) (by kernel_rfl) ?_
       refine xb rfl ?_ ?_ <;> intro b2
       refine xj (k := 3) rfl (xs rfl (q0n hz (by omega)) (y9 rfl _ hgp (xs rfl rfl (xj (k := 3) rfl (z7 rfl (q0j _ _) rfl ⟨tv4, tv4, trivial⟩ (xj (k := 2) rfl ?_))))))
       refine xb rfl ?_ ?_ <;> intro b3
       refine xv rfl rfl rfl ?_; rotate_left
       rotate_left
       refine xj (k := 9) rfl ?_; rotate_left
       all_goals (first | (refine vi (q8 h h0 ?_ (by first | decide | decide | simp_all)); clear hJ h0 hg hgp; first | (simp_all [ya hz hp, q2i, Bal.bad, ahead_zero]; done) | (have hxb : x.bad = false := (by simp_all [Bal.bad]); have hc := y29 hpb hxb; (simp_all [q2i, ya hz hp] <;> omega))) | (refine q9 rfl (hJ _ (i + 1) ⟨by omega, zc h0 ?_⟩ (by omega) ⟨⟨cwi (by omega) (by omega) (by omega), rfl, rfl, rfl, trivial⟩, trivial, rfl⟩); clear hJ h0 hg hgp; first | (simp_all [ya hz hp, q2i, Bal.bad, ahead_zero]; done) | (have hxb : x.bad = false := (by simp_all [Bal.bad]); have hc := y29 hpb hxb; (simp_all [q2i, ya hz hp] <;> omega))))
   · have h : ¬ i < us.length := by simpa using h
     have hz := zg (f := q2i us) (n := us.length) (fun j hj => h0 j (by omega))
     refine xv rfl rfl rfl ?_
     exact vi (hz.symm)
theorem q58 (us : List Mk) (hl : us.length ≤ 1048576) : PC Tryz.prog 253 [.one (.l (us.map Mk.cs))] (rI (yi us)) := by
 refine PC.begin Tryz.func253 rfl (by kernel_rfl) ?_
 refine yd rfl (ι := Nat) (fun i => i ≤ us.length ∧ ∀ j, j < i → y25 us j = 0) (fun i => ⟨[(3, sV (.int .i64 i)), (0, .one (.b (.l (us.map Mk.cs))))], []⟩) (fun i => us.length - i) 0 ⟨Nat.zero_le _, fun j hj => by omega⟩ ?_ ?_
 · exact ⟨⟨rfl, rfl, trivial⟩, trivial, rfl⟩
 · intro i ⟨hi, h0⟩ J hJ
   refine xb rfl ?_ ?_ <;> intro h
   · have h : i < us.length := by simpa using h
     obtain ⟨x, hx⟩ := gx h
     have hg := gm Mk.cs hx
     rcases Nat.eq_zero_or_pos i with hz | hz
     · subst hz
       refine xs rfl (nn_ _) (y9 rfl _ hg (xs rfl rfl (z7 rfl (q4e _) rfl ⟨trivial, trivial⟩ ?_)))
       refine xb rfl ?_ ?_ <;> intro b0
       refine xj (k := 8) rfl ?_
       refine xv rfl rfl rfl ?_; rotate_left
       refine xj (k := 2) rfl (xs rfl (nn_ _) (y9 rfl _ hg (xs rfl rfl (xj (k := 3) rfl (z7 rfl (qi _ _ _) rfl tv4 (xj (k := 2) rfl ?_))))))
       refine xb rfl ?_ ?_ <;> intro b1
       refine xv rfl rfl rfl ?_; rotate_left
       refine qd rfl [] (Tk (Rg 0 7) (.take 7 [14, 15] (Tk (Rg 8 5) (.take 13 [14, 15] (Tk [14, 15] .done))))) (by kernel_rfl) ?_
       refine xj (k := 14) rfl ?_; rotate_left
       all_goals (first | (refine vi (q8 h h0 ?_ (by first | decide | decide | simp_all)); clear hJ h0 hg; simp_all [y25, ahead_zero]) | (refine q9 rfl (hJ _ 1 ⟨by omega, zc h0 ?_⟩ (by omega) ⟨⟨cwi (by omega) (by omega) (by omega), rfl, trivial⟩, trivial, rfl⟩); clear hJ h0 hg; simp_all [y25, ahead_zero]))
     · obtain ⟨p, hp⟩ := gx (xs := us) (i := i - 1) (by omega)
       have hgp := y1b Mk.cs hz (by omega) hp
       refine xs rfl (nn_ _) (y9 rfl _ hg (xs rfl rfl (z7 rfl (q4e _) rfl ⟨trivial, trivial⟩ ?_)))
       refine xb rfl ?_ ?_ <;> intro b0
       refine xj (k := 8) rfl ?_
       refine xv rfl rfl rfl ?_; rotate_left
       refine xj (k := 2) rfl (xs rfl (nn_ _) (y9 rfl _ hg (xs rfl rfl (xj (k := 3) rfl (z7 rfl (qi _ _ _) rfl tv4 (xj (k := 2) rfl ?_))))))
       refine xb rfl ?_ ?_ <;> intro b1
       refine xv rfl rfl rfl ?_; rotate_left
       refine qd rfl [] (Tk (Rg 0 7) (.take 7 [14, 15] (Tk (Rg 8 5) (.take 13 [14, 15] (Tk [14, 15] .done))))) (by kernel_rfl) ?_
       refine xb rfl ?_ ?_ <;> intro b2
       refine xj (k := 2) rfl (xs rfl (nn_ _) (y9 rfl _ hg (xs rfl rfl (xj (k := 6) rfl (xs rfl (q0n hz (by omega)) (y9 rfl _ hgp (xs rfl rfl (xj (k := 4) rfl ?_))))))))
       refine xb rfl ?_ ?_ <;> intro b3
       refine xv rfl rfl rfl ?_; rotate_left
       rotate_left
       refine xj (k := 13) rfl ?_; rotate_left
       all_goals (first | (refine vi (q8 h h0 ?_ (by first | decide | decide | simp_all)); clear hJ h0 hg hgp; simp_all [ya hz hp, y25, ahead_zero]) | (refine q9 rfl (hJ _ (i + 1) ⟨by omega, zc h0 ?_⟩ (by omega) ⟨⟨cwi (by omega) (by omega) (by omega), rfl, trivial⟩, trivial, rfl⟩); clear hJ h0 hg hgp; simp_all [ya hz hp, y25, ahead_zero]))
   · have h : ¬ i < us.length := by simpa using h
     have hz := zg (f := y25 us) (n := us.length) (fun j hj => h0 j (by omega))
     refine xv rfl rfl rfl ?_
     exact vi (hz.symm)
theorem y50 (us : List Mk) (fn : Nat) (hf : ∀ v, PC Tryz.prog fn [.one (i64 v)] (rB (within v 1 2))) (hl : us.length ≤ 1048576) : PC Tryz.prog 270 [.one (.l (us.map Mk.cs)), .one (.f fn [])] (rI (yi us)) := by
 refine PC.begin Tryz.func270 rfl (by kernel_rfl) ?_
 have hle : (us.map Mk.cs).length = us.length := by simp
 refine yd rfl (ι := Nat) (fun i => i ≤ us.length ∧ ∀ j, j < i → y25 us j = 0) (fun i => ⟨[(9, sV (.int .i64 i)), (8, sV (.int .i64 (us.map Mk.cs).length)), (7, .one (.b (.l (us.map Mk.cs)))), (0, .one (.b (.l (us.map Mk.cs)))), (1, .one (.b (.f fn [])))], []⟩) (fun i => us.length - i) 0 ⟨Nat.zero_le _, fun j hj => by omega⟩ ?_ ?_
 · exact ⟨⟨rfl, rfl, rfl, rfl, rfl, trivial⟩, trivial, rfl⟩
 · intro i ⟨hi, h0⟩ J hJ
   refine xb rfl ?_ ?_ <;> intro h
   · have h : i < us.length := by simpa using h
     obtain ⟨x, hx⟩ := gx h
     have hg := gm Mk.cs hx
     rcases Nat.eq_zero_or_pos i with hz | hz
     · subst hz
       refine xs rfl (nn_ _) (y9 rfl _ hg (xs rfl rfl (z7 rfl (y4e _) rfl ⟨trivial, trivial⟩ ?_)))
       refine xb rfl ?_ ?_ <;> intro b0
       refine xj (k := 6) rfl ?_
       refine xv rfl rfl rfl ?_; rotate_left
       refine xj (k := 3) rfl (z7 rfl (hf _) rfl ⟨trivial, trivial⟩ (xj (k := 2) rfl ?_))
       refine xb rfl ?_ ?_ <;> intro b1
       refine xv rfl rfl rfl ?_; rotate_left
       refine qd rfl [] (Tk (Rg 0 8) (.take 8 (Rg 11 3) (.take 9 [] (.take 10 (Rg 11 3) (Tk [11, 12, 13] .done))))) (by kernel_rfl) ?_
       refine xj (k := 11) rfl ?_; rotate_left
       all_goals (first | (refine vi (q8 h h0 ?_ (by first | decide | decide | simp_all)); clear hJ h0 hg; simp_all [y25, ahead_zero]) | (refine q9 rfl (hJ _ 1 ⟨by omega, zc h0 ?_⟩ (by omega) ⟨⟨cwi (by omega) (by omega) (by omega), rfl, rfl, rfl, rfl, trivial⟩, trivial, rfl⟩); clear hJ h0 hg; simp_all [y25, ahead_zero]))
     · obtain ⟨p, hp⟩ := gx (xs := us) (i := i - 1) (by omega)
       have hgp := y1b Mk.cs hz (by omega) hp
       refine xs rfl (nn_ _) (y9 rfl _ hg (xs rfl rfl (z7 rfl (y4e _) rfl ⟨trivial, trivial⟩ ?_)))
       refine xb rfl ?_ ?_ <;> intro b0
       refine xj (k := 6) rfl ?_
       refine xv rfl rfl rfl ?_; rotate_left
       refine xj (k := 3) rfl (z7 rfl (hf _) rfl ⟨trivial, trivial⟩ (xj (k := 2) rfl ?_))
       refine xb rfl ?_ ?_ <;> intro b1
       refine xv rfl rfl rfl ?_; rotate_left
       refine qd rfl [] (Tk (Rg 0 8) (.take 8 (Rg 11 3) (.take 9 [] (.take 10 (Rg 11 3) (Tk [11, 12, 13] .done))))) (by kernel_rfl) ?_
       refine xb rfl ?_ ?_ <;> intro b2
       refine xj (k := 3) rfl (xs rfl (q0n hz (by omega)) (y9 rfl _ hgp (xs rfl rfl (xj (k := 6) rfl ?_))))
       refine xb rfl ?_ ?_ <;> intro b3
       refine xv rfl rfl rfl ?_; rotate_left
       rotate_left
       refine xj (k := 10) rfl ?_; rotate_left
       all_goals (first | (refine vi (q8 h h0 ?_ (by first | decide | decide | simp_all)); clear hJ h0 hg hgp; simp_all [ya hz hp, y25, ahead_zero]) | (refine q9 rfl (hJ _ (i + 1) ⟨by omega, zc h0 ?_⟩ (by omega) ⟨⟨cwi (by omega) (by omega) (by omega), rfl, rfl, rfl, rfl, trivial⟩, trivial, rfl⟩); clear hJ h0 hg hgp; simp_all [ya hz hp, y25, ahead_zero]))
   · have h : ¬ i < us.length := by simpa using h
     have hz := zg (f := y25 us) (n := us.length) (fun j hj => h0 j (by omega))
     refine xv rfl rfl rfl ?_
     exact vi (hz.symm)
theorem q0o (v : Int) : PC Tryz.prog 271 [.one (i64 v)] (rB (within v 1 2)) := by
 refine PC.begin Tryz.func271 rfl (by kernel_rfl) ?_
 refine xb rfl ?_ ?_ <;> intro b0
 refine xj (k := 2) rfl ?_
 refine xv rfl rfl rfl ?_; rotate_left
 refine xj (k := 2) rfl ?_
 refine xv rfl rfl rfl ?_; rotate_left
 all_goals (refine vb ?_; rw [Bool.eq_iff_iff]; (simp_all [within] <;> omega))
theorem y2n (v : Int) : PC Tryz.prog 272 [.one (i64 v)] (rB (within v 1 2)) := by
 refine PC.begin Tryz.func272 rfl (by kernel_rfl) ?_
 refine xb rfl ?_ ?_ <;> intro b0
 refine xj (k := 2) rfl ?_
 refine xv rfl rfl rfl ?_; rotate_left
 refine xj (k := 2) rfl ?_
 refine xv rfl rfl rfl ?_; rotate_left
 all_goals (refine vb ?_; rw [Bool.eq_iff_iff]; (simp_all [within] <;> omega))
theorem q1n (c : Con) (s : Int) (hl : c.legs.length ≤ 1048576) : PC Tryz.prog 41 [.agg c.cs, .one (i64 s)] (.one (.own false [.l 4 ((zn c s).map Leg.cs)])) := by
 refine PC.begin Tryz.func41 rfl (by kernel_rfl) ?_
 refine xs rfl trivial ?_
 refine yd rfl (ι := Nat) (fun i => i ≤ c.legs.length) (fun i => ⟨[(6, sV (.int .i64 i)), (5, .one (.h 7 ((c.legs.take i).filter (fun l => l.s == s)).length)), (1, sV (.int .i64 s)), (2, .one (.a 2 0))], [(7, .arr true 4 0 (((c.legs.take i).filter (fun l => l.s == s)).map Leg.cs)), (2, .var (c.cs.map .b))]⟩) (fun i => c.legs.length - i) 0 (Nat.zero_le _) ?_ ?_
 · exact ⟨⟨rfl, ⟨rfl, rfl, rfl⟩, rfl, ⟨rfl, rfl, rfl⟩, trivial⟩, ⟨⟨rfl, .inl rfl, .inl rfl⟩, lcr, trivial⟩, rfl⟩
 · intro i hi J hJ
   refine xb rfl ?_ ?_ <;> intro h
   · have h : i < c.legs.length := by simpa using h
     obtain ⟨x, hx⟩ := gx h
     have hg := gm Leg.cs hx
     have hf := q14 (p := fun l : Leg => l.s == s) hx
     have hfl : ((c.legs.take i).filter (fun l => l.s == s)).length ≤ i := Nat.le_trans (List.length_filter_le _ _) (by simp; omega)
     refine xs rfl (by simp) (y9 rfl _ hg (xs rfl rfl ?_))
     refine xb rfl ?_ ?_ <;> intro b0
     refine xs rfl (by simp) (y9 rfl _ hg (xs rfl rfl (xs rfl tv5 (xs rfl (by simp) (xs rfl rfl (xs rfl (.inl rfl) (xs rfl (by simp; omega) ?_)))))))
     refine xs rfl (by simp; omega) ?_; rotate_left
     rotate_left
     · refine q9 rfl (hJ _ (i + 1) (by omega) (by omega) ⟨⟨cwi (by omega) (by omega) (by omega), ⟨rfl, ?_, rfl⟩, rfl, ⟨rfl, rfl, rfl⟩, trivial⟩, ⟨⟨?_, .inl rfl, .inl rfl⟩, lcr, trivial⟩, rfl⟩)
       · rw [hf, if_pos (by simpa using b0)]; simp
       · rw [hf, if_pos (by simpa using b0)]; simp
     · refine q9 rfl (hJ _ (i + 1) (by omega) (by omega) ⟨⟨cwi (by omega) (by omega) (by omega), ⟨rfl, ?_, rfl⟩, rfl, ⟨rfl, rfl, rfl⟩, trivial⟩, ⟨⟨?_, .inl rfl, .inl rfl⟩, lcr, trivial⟩, rfl⟩)
       · rw [hf, if_neg (by simpa using b0)]; simp
       · rw [hf, if_neg (by simpa using b0)]; simp
   · have h : ¬ i < c.legs.length := by simpa using h
     have e : i = c.legs.length := by omega
     subst e
     refine xr rfl (qm rfl ⟨⟨rfl, ⟨?_, ?_, .inl rfl⟩, trivial⟩, z6 rfl⟩); rotate_left
     rotate_left
     all_goals first | (simp [zn]; done) | skip
theorem y16 (c : Con) (s : Int) (hl : c.legs.length ≤ 1048576) : PC Tryz.prog 127 [.agg c.cs, .one (i64 s)] (.one (.own false [.l 4 ((zn c s).map Leg.cs)])) := by
 refine PC.begin Tryz.func127 rfl (by kernel_rfl) ?_
 have hle : (c.legs.map Leg.cs).length = c.legs.length := by simp
 refine xs rfl trivial ?_
 refine yd rfl (ι := Nat) (fun i => i ≤ c.legs.length) (fun i => ⟨[(12, sV (.int .i64 i)), (5, .one (.h 8 ((c.legs.take i).filter (fun l => l.s == s)).length)), (1, sV (.int .i64 s)), (10, .one (.b (.l (c.legs.map Leg.cs)))), (11, sV (.int .i64 (c.legs.map Leg.cs).length))], [(8, .arr true 4 0 (((c.legs.take i).filter (fun l => l.s == s)).map Leg.cs))]⟩) (fun i => c.legs.length - i) 0 (Nat.zero_le _) ?_ ?_
 · exact ⟨⟨rfl, ⟨rfl, rfl, rfl⟩, rfl, rfl, rfl, trivial⟩, ⟨⟨rfl, .inl rfl, .inl rfl⟩, trivial⟩, rfl⟩
 · intro i hi J hJ
   refine xb rfl ?_ ?_ <;> intro h
   · have h : i < c.legs.length := by simpa using h
     obtain ⟨x, hx⟩ := gx h
     have hg := gm Leg.cs hx
     have hf := q14 (p := fun l : Leg => l.s == s) hx
     have hfl : ((c.legs.take i).filter (fun l => l.s == s)).length ≤ i := Nat.le_trans (List.length_filter_le _ _) (by simp; omega)
     refine xs rfl (by simp) (y9 rfl _ hg (xs rfl rfl ?_))
     refine xb rfl ?_ ?_ <;> intro b0
     refine xs rfl tv5 (xs rfl (by simp) (xs rfl rfl (xs rfl (.inl rfl) (xs rfl (by simp; omega) ?_))))
     refine xs rfl (by simp; omega) ?_; rotate_left
     rotate_left
     · refine q9 rfl (hJ _ (i + 1) (by omega) (by omega) ⟨⟨cwi (by omega) (by omega) (by omega), ⟨rfl, ?_, rfl⟩, rfl, rfl, rfl, trivial⟩, ⟨⟨?_, .inl rfl, .inl rfl⟩, trivial⟩, rfl⟩)
       · rw [hf, if_pos (by simpa using b0)]; simp
       · rw [hf, if_pos (by simpa using b0)]; simp
     · refine q9 rfl (hJ _ (i + 1) (by omega) (by omega) ⟨⟨cwi (by omega) (by omega) (by omega), ⟨rfl, ?_, rfl⟩, rfl, rfl, rfl, trivial⟩, ⟨⟨?_, .inl rfl, .inl rfl⟩, trivial⟩, rfl⟩)
       · rw [hf, if_neg (by simpa using b0)]; simp
       · rw [hf, if_neg (by simpa using b0)]; simp
   · have h : ¬ i < c.legs.length := by simpa using h
     have e : i = c.legs.length := by omega
     subst e
     refine xr rfl (qm rfl ⟨⟨rfl, ⟨?_, ?_, .inl rfl⟩, trivial⟩, z6 rfl⟩); rotate_left
     rotate_left
     all_goals first | (simp [zn]; done) | skip
theorem z5g (us : List Bal) (a b : Int) (hl : us.length ≤ 1048576) : PC Tryz.prog 383 [.one (.l (us.map Bal.cs)), .one (i64 a), .one (i64 b)] (rI (y4p us a b)) := by
 refine PC.begin Tryz.func383 rfl (by kernel_rfl) ?_
 have hbs := fun fn hf => z8l us (fun x => q0c x ⟨a, b, 0⟩) fn ⟨a, b, 0⟩ hf hl
 cases hq : us[bsP (fun x => q0c x ⟨a, b, 0⟩) us]? with
 | none =>
   have hF : bsF (fun x => q0c x ⟨a, b, 0⟩) us = false := y9a hq
   refine z7 rfl (hbs _ (fun x _ => q0j x _)) rfl ⟨trivial, tv4, (fun _ h => nomatch h), trivial⟩ ?_
   refine xb rfl ?_ ?_ <;> intro b0
   refine xv rfl rfl rfl ?_; rotate_left
   refine xs rfl (nn_ _) ?_; rotate_left
   all_goals first | (exfalso; rw [hF] at b0; cases b0; done) | exact vi (y5g hF)
 | some x =>
   have hg : (us.map Bal.cs)[((bsP (fun x => q0c x ⟨a, b, 0⟩) us : Nat) : Int).toNat]? = some x.cs := gm Bal.cs hq
   refine z7 rfl (hbs _ (fun x _ => q0j x _)) rfl ⟨trivial, tv4, (fun _ h => nomatch h), trivial⟩ ?_
   refine xb rfl ?_ ?_ <;> intro b0
   refine xv rfl rfl rfl ?_; rotate_left
   refine xs rfl (nn_ _) (y9 rfl _ hg (xs rfl rfl ?_))
   refine xv rfl rfl rfl ?_; rotate_left
   · exact vi (y5g (by simpa using b0))
   · exact vi (y65 (by simpa using b0) hq)
theorem z6w (us : List Bal) (l : Leg) (hl : us.length ≤ 1048576) (hb : -9000000000000000000 ≤ y4p us l.a l.b + l.v ∧ y4p us l.a l.b + l.v ≤ 9000000000000000000) : PC Tryz.prog 370 [.one (.l (us.map Bal.cs)), .agg l.cs] (rI (y8u us l)) := by
 refine PC.begin Tryz.func370 rfl (by kernel_rfl) ?_
 have hw : IntKind.i64.wrap (y4p us l.a l.b + l.v) = y4p us l.a l.b + l.v := wrap_i64 (by omega) (by omega)
 refine qd rfl [] (Tk [0, 1] (.take 2 [5, 8, 9] (.take 3 [] (.take 4 [5, 8, 9] (.take 6 [] (.take 7 [8, 9] (.alt 5 (Tk [8, 9] .done) .nil))))))) (by kernel_rfl) (z7 rfl (z5g _ _ _ (by omega)) rfl tv4 ?_)
 refine xb rfl ?_ ?_ <;> intro b0
 refine xv rfl rfl rfl ?_; rotate_left
 refine xb rfl ?_ ?_ <;> intro b1
 refine xv rfl rfl rfl ?_; rotate_left
 refine xv rfl rfl rfl ?_; rotate_left
 all_goals (refine vi ?_; rw [hw] at *; simp_all [y8u]; try (repeat' split) <;> omega)
theorem q74 (us : List Bal) (ls : List Leg) (hl : us.length ≤ 1048576) (hl2 : ls.length ≤ 1048576) (hb : ∀ l ∈ ls, -9000000000000000000 ≤ hasB us l.a l.b + l.v ∧ hasB us l.a l.b + l.v ≤ 9000000000000000000) : PC Tryz.prog 334 [.one (.l (us.map Bal.cs)), .one (.l (ls.map Leg.cs))] (rI (z3q us ls)) := by
 refine PC.begin Tryz.func334 rfl (by kernel_rfl) ?_
 rw [z3q]
 refine yd rfl (ι := Nat) (fun i => i ≤ ls.length ∧ ∀ j, j < i → q6v us ls j = 0) (fun i => ⟨[(5, sV (.int .i64 i)), (0, .one (.b (.l (us.map Bal.cs)))), (1, .one (.b (.l (ls.map Leg.cs))))], []⟩) (fun i => ls.length - i) 0 ⟨Nat.zero_le _, fun j hj => by omega⟩ ?_ ?_
 · exact ⟨⟨rfl, rfl, rfl, trivial⟩, trivial, rfl⟩
 · intro i ⟨hi, h0⟩ J hJ
   refine xb rfl ?_ ?_ <;> intro h
   · have h : i < ls.length := by simpa using h
     obtain ⟨x, hx⟩ := gx h
     have hg := gm Leg.cs hx
     have hbx := hb x (List.mem_of_getElem? hx)
     have hw : IntKind.i64.wrap (hasB us x.a x.b + x.v) = hasB us x.a x.b + x.v := wrap_i64 (by omega) (by omega)
     refine qd rfl [] (Tk (Rg 0 5) (.take 5 [11, 17, 18] (Tk (Rg 6 4) (.take 10 [11, 17, 18] (Tk (Rg 12 4) (.take 16 [17, 18] (.alt 11 (Tk [17, 18] .done) .nil))))))) (by kernel_rfl) (xs rfl (nn_ _) (y9 rfl _ hg (xs rfl rfl (xs rfl (nn_ _) (y9 rfl _ hg (xs rfl rfl (xs rfl (nn_ _) (y9 rfl _ hg (xs rfl rfl ?_)))))))))
     refine z7 rfl (za5 _ _ _ (by assumption)) rfl tv4 ?_
     refine xb rfl ?_ ?_ <;> intro b0
     refine xv rfl rfl rfl ?_; rotate_left
     refine xb rfl ?_ ?_ <;> intro b1
     refine xv rfl rfl rfl ?_; rotate_left
     rotate_left
     all_goals (first | (refine vi (q8 h h0 ?_ (by first | decide | decide | simp_all)); clear hJ h0 hg; (simp only [hw] at *; simp_all [q6v, yb4]; try (repeat' split) <;> omega)) | (refine q9 rfl (hJ _ (i + 1) ⟨by omega, zc h0 ?_⟩ (by omega) ⟨⟨cwi (by omega) (by omega) (by omega), rfl, rfl, trivial⟩, trivial, rfl⟩); clear hJ h0 hg; (simp only [hw] at *; simp_all [q6v, yb4]; try (repeat' split) <;> omega)))
   · have h : ¬ i < ls.length := by simpa using h
     have hz := zg (f := q6v us ls) (n := ls.length) (fun j hj => h0 j (by omega))
     refine xv rfl rfl rfl ?_
     exact vi (hz.symm)
theorem z6x (x : Mk) (c : Int) : PC Tryz.prog 322 [.agg x.cs, .one (i64 c)] (rI (y0i x.c c)) := by
 refine PC.begin Tryz.func322 rfl (by kernel_rfl) ?_
 refine z7 rfl (qu _ _) rfl tv3 ?_
 refine xr rfl (qm rfl ⟨⟨rfl, rfl, trivial⟩, z6 rfl⟩)
theorem y53 (us : List Mk) (c : Int) (hl : us.length ≤ 1048576) : PC Tryz.prog 235 [.one (.l (us.map Mk.cs)), .one (i64 c)] (bsV (fun x : Mk => y0i x.c c) us) := by
 refine PC.begin Tryz.func235 rfl (by kernel_rfl) ?_
 have hbs := fun fn hf => y9n us (fun x => y0i x.c c) fn c hf hl
 refine z7 rfl (hbs _ (fun x _ => z6x x c)) rfl ⟨trivial, trivial, (fun _ h => nomatch h), trivial⟩ ?_
 refine xr rfl (qm rfl ⟨(by decide), ⟨⟨rfl, rfl, trivial⟩, ⟨rfl, rfl, trivial⟩, trivial⟩, z6 rfl⟩)
theorem y0q (us : List Mk) (c : Int) (hl : us.length ≤ 1048576) : PC Tryz.prog 146 [.one (.l (us.map Mk.cs)), .one (i64 c)] (rI (z26 us c)) := by
 refine PC.begin Tryz.func146 rfl (by kernel_rfl) ?_
 cases hq : us[bsP (fun x : Mk => y0i x.c c) us]? with
 | none =>
   have hF : bsF (fun x : Mk => y0i x.c c) us = false := y9a hq
   refine z7 rfl (y53 _ _ (by omega)) rfl tv3 ?_
   refine xb rfl ?_ ?_ <;> intro b0
   refine xv rfl rfl rfl ?_; rotate_left
   refine xs rfl (nn_ _) ?_; rotate_left
   all_goals first | (exfalso; rw [hF] at b0; cases b0; done) | exact vi (q4g hF)
 | some x =>
   have hg : (us.map Mk.cs)[((bsP (fun x : Mk => y0i x.c c) us : Nat) : Int).toNat]? = some x.cs := gm Mk.cs hq
   refine z7 rfl (y53 _ _ (by omega)) rfl tv3 ?_
   refine xb rfl ?_ ?_ <;> intro b0
   refine xv rfl rfl rfl ?_; rotate_left
   refine xs rfl (nn_ _) (y9 rfl _ hg (xs rfl rfl ?_))
   refine xv rfl rfl rfl ?_; rotate_left
   · exact vi (q4g (by simpa using b0))
   · exact vi (q53 (by simpa using b0) hq)
theorem z6s (x : Con) (c : Int) : PC Tryz.prog 365 [.agg x.cs, .one (i64 c)] (rI (y0i x.id c)) := by
 refine PC.begin Tryz.func365 rfl (by kernel_rfl) ?_
 refine z7 rfl (qu _ _) rfl tv3 ?_
 refine xr rfl (qm rfl ⟨⟨rfl, rfl, trivial⟩, z6 rfl⟩)
theorem y7p (s : Shd) (c : Int) (hl : s.held.length ≤ 1048576) : PC Tryz.prog 337 [.agg s.cs, .one (i64 c)] (bsV (fun x : Con => y0i x.id c) s.held) := by
 refine PC.begin Tryz.func337 rfl (by kernel_rfl) ?_
 have hbs := fun fn hf => y8l s.held (fun x => y0i x.id c) fn c hf hl
 refine z7 rfl (hbs _ (fun x _ => z6s x c)) rfl ⟨trivial, trivial, (fun _ h => nomatch h), trivial⟩ ?_
 refine xr rfl (qm rfl ⟨(by decide), ⟨⟨rfl, rfl, trivial⟩, ⟨rfl, rfl, trivial⟩, trivial⟩, z6 rfl⟩)
theorem z73 (s : Shd) (c : Int) (hl : s.held.length ≤ 1048576) : PC Tryz.prog 331 [.agg s.cs, .one (i64 c)] (rB (s.held.any (fun x : Con => x.id == c))) := by
 refine PC.begin Tryz.func331 rfl (by kernel_rfl) ?_
 refine yd rfl (ι := Nat) (fun i => i ≤ s.held.length ∧ ∀ j y, j < i → s.held[j]? = some y → (fun x : Con => x.id == c) y = false) (fun i => ⟨[(5, sV (.int .i64 i)), (1, sV (.int .i64 c)), (2, .one (.a 2 0))], [(2, .var (s.cs.map .b))]⟩) (fun i => s.held.length - i) 0 ⟨Nat.zero_le _, fun j y hj => by omega⟩ ?_ ?_
 · exact ⟨⟨rfl, rfl, ⟨rfl, rfl, rfl⟩, trivial⟩, ⟨lcr, trivial⟩, rfl⟩
 · intro i ⟨hi, h0⟩ J hJ
   refine xb rfl ?_ ?_ <;> intro h
   · have h : i < s.held.length := by simpa using h
     obtain ⟨x, hx⟩ := gx h
     have hg := gm Con.cs hx
     refine xs rfl (nn_ _) (y9 rfl _ hg (xs rfl rfl ?_))
     refine xb rfl ?_ ?_ <;> intro b0
     refine xv rfl rfl rfl ?_; rotate_left
     rotate_left
     all_goals first | exact vb (zu hx (by simp_all)) | exact q9 rfl (hJ _ (i + 1) ⟨by omega, qg hx h0 (by simp_all)⟩ (by omega) ⟨⟨cwi (by omega) (by omega) (by omega), rfl, ⟨rfl, rfl, rfl⟩, trivial⟩, ⟨lcr, trivial⟩, rfl⟩)
   · have h : ¬ i < s.held.length := by simpa using h
     refine xv rfl rfl rfl ?_
     exact vb (any_none (zk (by omega) h0))
theorem q86 (us ws : List Leg) (hl : us.length ≤ 1048576) (hl2 : ws.length ≤ 1048576) : PC Tryz.prog 333 [.one (.l (us.map Leg.cs)), .one (.l (ws.map Leg.cs))] (rB (z5e us ws)) := by
 refine PC.begin Tryz.func333 rfl (by kernel_rfl) ?_
 rw [z5e]
 refine yd rfl (ι := Nat) (fun i => i ≤ us.length ∧ ∀ j y, j < i → us[j]? = some y → (ws.any fun z => y.a == z.a && y.b == z.b) = false) (fun i => ⟨[(5, sV (.int .i64 i)), (0, .one (.b (.l (us.map Leg.cs)))), (1, .one (.b (.l (ws.map Leg.cs))))], []⟩) (fun i => us.length - i) 0 ⟨Nat.zero_le _, fun j y hj => by omega⟩ ?_ ?_
 · exact ⟨⟨rfl, rfl, rfl, trivial⟩, trivial, rfl⟩
 · intro i ⟨hi, h0⟩ J hJ
   refine xb rfl ?_ ?_ <;> intro h
   · have h : i < us.length := by simpa using h
     obtain ⟨x, hx⟩ := gx h
     have hg := gm Leg.cs hx
     refine yd rfl (ι := Nat) (fun k => k ≤ ws.length ∧ ∀ j y, j < k → ws[j]? = some y → (x.a == y.a && x.b == y.b) = false) (fun k => ⟨[(6, sV (.int .i64 k)), (5, sV (.int .i64 i)), (0, .one (.b (.l (us.map Leg.cs)))), (1, .one (.b (.l (ws.map Leg.cs))))], []⟩) (fun k => ws.length - k) 0 ⟨Nat.zero_le _, fun j y hj => by omega⟩ ?_ ?_
     · exact ⟨⟨rfl, rfl, rfl, rfl, trivial⟩, trivial, rfl⟩
     · intro k ⟨hk, h1⟩ J2 hJ2
       refine xb rfl (fun h' => ?_) (fun h' => ?_)
       · have h' : k < ws.length := by simpa using h'
         obtain ⟨y, hy⟩ := gx h'
         have hg2 := gm Leg.cs hy
         refine qd rfl [] (Tk (Rg 0 4) (.take 4 (Rg 10 14) (Tk (Rg 5 4) (.take 9 (Rg 10 14) (Tk (Rg 10 6) (.take 16 [22, 23] (Tk (Rg 17 4) (.take 21 [22, 23] (Tk [22, 23] .done))))))))) (by kernel_rfl) (xs rfl (nn_ _) (y9 rfl _ hg (xs rfl rfl (xs rfl (nn_ _) (y9 rfl _ hg2 (xs rfl rfl ?_))))))
         refine xb rfl ?_ ?_ <;> intro b0
         refine xj (k := 2) rfl (xs rfl (nn_ _) (y9 rfl _ hg (xs rfl rfl (xj (k := 5) rfl (xs rfl (nn_ _) (y9 rfl _ hg2 (xs rfl rfl (xj (k := 4) rfl ?_))))))))
         refine xb rfl ?_ ?_ <;> intro b1
         refine xv rfl rfl rfl ?_; rotate_left
         rotate_left
         refine xj (k := 12) rfl ?_; rotate_left
         all_goals first | (refine vb (zu hx (zu hy ?_).symm); simp_all; done) | exact q9 rfl (hJ2 _ (k + 1) ⟨by omega, qg hy h1 (by simp_all)⟩ (by omega) ⟨⟨cwi (by omega) (by omega) (by omega), rfl, rfl, rfl, trivial⟩, trivial, rfl⟩)
       · have h' : ¬ k < ws.length := by simpa using h'
         skip
         exact q9 rfl (hJ _ (i + 1) ⟨by omega, qg hx h0 (any_none (zk (by omega) h1)).symm⟩ (by omega) ⟨⟨cwi (by omega) (by omega) (by omega), rfl, rfl, trivial⟩, trivial, rfl⟩)
   · have h : ¬ i < us.length := by simpa using h
     refine xv rfl rfl rfl ?_
     exact vb (any_none (zk (by omega) h0))
theorem z8n (x y : Leg) : PC Tryz.prog 266 [.agg x.cs, .one (.p y.cs)] (rB (x.same y)) := by
 refine PC.begin Tryz.func266 rfl (by kernel_rfl) ?_
 refine z7 rfl (q2p _ _) rfl ⟨tv5, tv5, trivial⟩ ?_
 refine xr rfl (qm rfl ⟨⟨rfl, rfl, trivial⟩, z6 rfl⟩)
theorem y4d (c : Con) (hl : c.legs.length ≤ 1048576) : PC Tryz.prog 197 [.agg c.cs] (rI (zq c)) := by
 refine PC.begin Tryz.func197 rfl (by kernel_rfl) ?_
 have hKd : Maps.Keyed Tryz.prog 2 := Maps.int_keyed Tryz.underlying2
 have hz : ∀ w, (zeroValue 2).run Tryz.prog w = .ok (.int .i64 0) w := fun w => by kernel_rfl
 have hsz : (Go.Sx.within (((c.legs.map Leg.cs).length : Nat) : Int) 2 8 = true) = (2 ≤ c.legs.length ∧ c.legs.length ≤ 8) := by rw [Go.Sx.within_iff, List.length_map]; apply propext; omega
 unfold zq
 refine z7 rfl (y4e _) rfl ⟨trivial, trivial⟩ ?_
 refine xb rfl ?_ ?_ <;> intro b0
 refine xv rfl rfl rfl ?_; rotate_left
 refine z7 rfl (y74 _) rfl ⟨trivial, trivial⟩ (z7 rfl (zo _ _ _) rfl tv4 ?_)
 refine xb rfl ?_ ?_ <;> intro b1
 refine xv rfl rfl rfl ?_; rotate_left
 rotate_left
 · refine vi ?_; simp_all
 · refine vi ?_
   have hid : Go.Sx.within c.id 1 1000000000 = true := by simpa using b0
   have hn : ¬ (2 ≤ c.legs.length ∧ c.legs.length ≤ 8) := by rw [← hsz]; simpa using b1
   rw [if_pos hid, if_neg hn]
 have hid : Go.Sx.within c.id 1 1000000000 = true := by simpa using b0
 have hn : 2 ≤ c.legs.length ∧ c.legs.length ≤ 8 := by rw [← hsz]; simpa using b1
 rw [if_pos hid, if_pos hn]
 clear b0 b1 hsz hid
 refine zaz rfl rfl rfl Tryz.underlying305 rfl ?_
 refine yd rfl (ι := Nat × DataW Unit) (fun p => p.1 ≤ c.legs.length ∧ (∀ j, j < p.1 → z3l c.legs j = 0) ∧ SM (c.legs.take p.1) p.2) (fun p => ⟨[(24, sV (.int .i64 p.1)), (1, .one (.a 1 0)), (3, .one (.mx 0 20)), (22, .one (.b (.l (c.legs.map Leg.cs)))), (23, sV (.int .i64 c.legs.length))], [(1, .var (c.cs.map .b)), (20, .mp 2 2 p.1 p.2 none)]⟩) (fun p => c.legs.length - p.1) (0, .map []) ⟨Nat.zero_le _, fun j hj => (by omega), yag⟩ ?_ ?_
 · exact ⟨⟨rfl, ⟨rfl, rfl, rfl⟩, ⟨rfl, rfl, rfl⟩, rfl, (by rw [List.length_map]; rfl), trivial⟩, ⟨lcr, ⟨rfl, rfl, rfl, rfl, rfl⟩, trivial⟩, rfl⟩
 · intro ⟨i, D⟩ ⟨hi, h0, hS⟩ J hJ
   dsimp only at hi h0 hS hJ ⊢
   refine xb rfl ?_ ?_ <;> intro h
   · have h : i < c.legs.length := by simpa using h
     obtain ⟨x, hx⟩ := gx h
     have hg := gm Leg.cs hx
     have hd : ∀ y ∈ c.legs.take i, y.fault = 0 := z1l h0
     refine xs rfl (nn_ _) (y9 rfl _ hg (xs rfl rfl (z7 rfl (z50 _) rfl ⟨tv5, trivial⟩ ?_)))
     refine xb rfl ?_ ?_ <;> intro b0
     refine xv rfl rfl rfl ?_; rotate_left
     refine xs rfl (.inl rfl) (xs rfl (nn_ _) (xs rfl (nn_ _) (xs rfl (by simp; omega) (z7 rfl (q5g _ (c.legs.take i) (fun y => y.same x) _ _ (by simp [List.map_take]) (fun y _ => z8n y x) (by rw [List.length_take]; omega)) rfl ⟨trivial, (List.forall_mem_cons.2 ⟨tv5, (fun _ h => nomatch h)⟩), trivial⟩ ?_))))
     refine xb rfl ?_ ?_ <;> intro b1
     refine xv rfl rfl rfl ?_; rotate_left
     rotate_left
     · refine vi ?_
       rw [q0w h0 (by simp_all [z3l]) h]; simp_all [z3l]
     · refine vi ?_
       rw [q0w h0 (by simp_all [z3l]) h]; simp_all [z3l]
     have hxf : x.fault = 0 := by simpa using b0
     have hok := Leg.y0h hxf
     have hkey : keyOf Tryz.prog 2 (.int .i64 x.b) = some (.int .i64 x.b) := Maps.keyOf_int_mk Tryz.underlying2 (wfi (by omega) (by omega))
     refine zbk rfl rfl rfl rfl Tryz.underlying305 Tryz.underlying2 hKd hz rfl rfl hkey (fun cc hat hwc => ?_)
     have hw := q7b hS hxf hd (by omega) hat
     have hb := y4m (c.legs.take i) x.b (fun y hy => (Leg.y0h (hd y hy)).2.2.2.1)
     have hsm := hok.2.2.2.1
     have hlen : (c.legs.take i).length ≤ 8 := by rw [List.length_take]; omega
     unfold Leg.small at hsm
     have hwf : (Lit.int .i64 (IntKind.i64.wrap (cc + x.v))).wf = true := by rw [hw.2]; exact wfi (by omega) (by omega)
     skip
     refine qbx rfl rfl rfl rfl rfl Tryz.underlying305 Tryz.underlying2 hKd (show i < maxLen by unfold maxLen; omega) rfl rfl hkey rfl hwf ?_
     skip
     exact q9 rfl (hJ _ (i + 1, _) ⟨by omega, zc h0 (by simp_all [z3l]), z9k hS hx hxf hd (by omega) hat⟩ (by dsimp only; omega) ⟨⟨cwi (by omega) (by omega) (by omega), ⟨rfl, rfl, rfl⟩, ⟨rfl, rfl, rfl⟩, rfl, rfl, trivial⟩, ⟨lcr, ⟨rfl, rfl, rfl, rfl, rfl⟩, trivial⟩, rfl⟩)
   · have h : i = c.legs.length := by have : ¬ i < c.legs.length := (by simpa using h); omega
     have hd : ∀ y ∈ c.legs, y.fault = 0 := by have := z1l h0; rwa [h, List.take_length] at this
     have hz2 := zg (f := z3l c.legs) (n := c.legs.length) (fun j hj => h0 j (by omega))
     rw [h, List.take_length] at hS
     rw [hz2]
     skip
     refine qaz rfl rfl rfl rfl rfl rfl Tryz.underlying305 hKd ?_
     refine yd rfl (ι := (Lit → Bool) × Nat × Option (Value × Value)) (fun p => ∀ a : Int, p.1 (.int .i64 a) = false → z1c c.legs a = 0) (fun p => ⟨[(49, .one (.mx 1 49))], [(49, .mp 2 2 i D (some p))]⟩) (fun p => p.2.1) (Maps.has D, Maps.size D, none) (q9j hS) ?_ ?_
     · exact ⟨⟨⟨rfl, rfl, rfl⟩, trivial⟩, ⟨⟨rfl, rfl, rfl, rfl, rfl⟩, trivial⟩, rfl⟩
     · intro ⟨left, cnt, cur⟩ hL J2 hJ2
       dsimp only at hL hJ2 ⊢
       refine yaz rfl rfl rfl rfl rfl hKd Tryz.underlying2 Tryz.underlying2 (fun _ hall => ?_) (fun y cc cnt' hl hat hwc hlt => ?_)
       · skip
         refine xj (k := 1) rfl (xv rfl rfl rfl ?_)
         exact vi (by rw [y75 (fun a => hL a (hall _))]; rfl)
       · have hy := zb8 hS hat
         refine xj (k := 1) rfl (qay rfl rfl rfl rfl rfl rfl rfl (fun vs h => (nomatch h)) (fun vs h => (nomatch h)) ?_)
         refine xb rfl ?_ ?_ <;> intro b0
         refine xv rfl rfl rfl ?_; rotate_left
         rotate_left
         · exact vi (by rw [z3i hd (a := y) (by rw [hy]; simpa using b0)]; rfl)
         · exact q9 rfl (hJ2 _ (_, cnt', _) (yas hL hy (by simpa using b0)) hlt ⟨⟨⟨rfl, rfl, rfl⟩, trivial⟩, ⟨⟨rfl, rfl, rfl, rfl, rfl⟩, trivial⟩, rfl⟩)
theorem z4k (c : Con) (hl : c.legs.length ≤ 1048576) : PC Tryz.prog 175 [.agg c.cs] (rI (zq c)) := by
 refine PC.begin Tryz.func175 rfl (by kernel_rfl) ?_
 have fin : ∀ n : Int, (Go.Sx.within c.id 1 1000000000 = true → (2 ≤ c.legs.length ∧ c.legs.length ≤ 8) → n = (if scan (z3l c.legs) c.legs.length ≠ 0 then scan (z3l c.legs) c.legs.length else if y20 c.legs then 1 else 0)) → (Go.Sx.within c.id 1 1000000000 = true) → (2 ≤ c.legs.length ∧ c.legs.length ≤ 8) → n = zq c := fun n h1 h2 h3 => by
  unfold zq; rw [if_pos h2, if_pos h3]; exact h1 h2 h3
 refine z7 rfl (q4e _) rfl ⟨trivial, trivial⟩ ?_
 refine xb rfl ?_ ?_ <;> intro b0
 refine xv rfl rfl rfl ?_; rotate_left
 refine xb rfl ?_ ?_ <;> intro b1
 refine xj (k := 5) rfl ?_
 refine xv rfl rfl rfl ?_; rotate_left
 refine xj (k := 4) rfl ?_
 refine xb rfl ?_ ?_ <;> intro b2
 refine xv rfl rfl rfl ?_; rotate_left
 refine xs rfl rfl (xs rfl (nn_ _) (xs rfl (nn_ _) ?_))
 refine xs rfl (nn_ _) ?_; rotate_left
 · refine vi ?_; unfold zq; simp_all
 · refine vi ?_
   have hid : Go.Sx.within c.id 1 1000000000 = true := by simpa using b0
   unfold zq
   rw [if_pos hid, if_neg (by simp at b1; omega)]
 · refine vi ?_
   have hid : Go.Sx.within c.id 1 1000000000 = true := by simpa using b0
   unfold zq
   rw [if_pos hid, if_neg (by simp at b2; omega)]
 have hid : Go.Sx.within c.id 1 1000000000 = true := by simpa using b0
 have hn : 2 ≤ c.legs.length ∧ c.legs.length ≤ 8 := by
  simp at b1 b2; omega
 clear b0 b1 b2
 refine yd rfl (ι := Nat) (fun i => i ≤ c.legs.length ∧ ∀ j, j < i → z3l c.legs j = 0) (fun i => ⟨[(4, sV (.int .i64 i)), (1, .one (.a 1 0)), (3, .one (.h 24 3))], [(1, .var (c.cs.map .b)), (24, .arr true 1 0 (q57 (c.legs.take i)))]⟩) (fun i => c.legs.length - i) 0 ⟨Nat.zero_le _, fun j hj => (by omega)⟩ ?_ ?_
 · exact ⟨⟨rfl, ⟨rfl, rfl, rfl⟩, ⟨rfl, rfl, rfl⟩, trivial⟩, ⟨lcr, ⟨rfl, .inl rfl, .inl rfl⟩, trivial⟩, rfl⟩
 · intro i ⟨hi, h0⟩ J hJ
   have hd : ∀ y ∈ c.legs.take i, y.fault = 0 := z1l h0
   refine xb rfl ?_ ?_ <;> intro h
   · have h : i < c.legs.length := by simpa using h
     obtain ⟨x, hx⟩ := gx h
     have hg := gm Leg.cs hx
     refine xs rfl (nn_ _) (y9 rfl _ hg (xs rfl rfl (z7 rfl (y58 _) rfl ⟨tv5, trivial⟩ ?_)))
     refine xb rfl ?_ ?_ <;> intro b0
     refine xv rfl rfl rfl ?_; rotate_left
     rotate_left
     · refine vi (fin _ (fun _ _ => ?_) hid hn)
       rw [q0w h0 (by simp_all [z3l]) h]; simp_all [z3l]
     have hxf : x.fault = 0 := by simpa using b0
     have hok := Leg.y0h hxf
     refine yd rfl (ι := Nat) (fun k => k ≤ i ∧ ∀ j y, j < k → c.legs[j]? = some y → y.same x = false) (fun k => ⟨[(7, sV (.int .i64 k)), (4, sV (.int .i64 i)), (1, .one (.a 1 0)), (3, .one (.h 24 3)), (5, .one (.a 5 0))], [(1, .var (c.cs.map .b)), (24, .arr true 1 0 (q57 (c.legs.take i))), (5, .var (x.cs.map .b))]⟩) (fun k => i - k) 0 ⟨Nat.zero_le _, fun j y hj => (by omega)⟩ ?_ ?_
     · exact ⟨⟨rfl, rfl, ⟨rfl, rfl, rfl⟩, ⟨rfl, rfl, rfl⟩, ⟨rfl, rfl, rfl⟩, trivial⟩, ⟨lcr, ⟨rfl, .inl rfl, .inl rfl⟩, ⟨rfl, rfl, rfl, rfl, trivial⟩, trivial⟩, rfl⟩
     · intro k ⟨hk, h1⟩ J2 hJ2
       refine xb rfl (fun h' => ?_) (fun h' => ?_)
       · have h' : k < i := by simpa using h'
         obtain ⟨y, hy⟩ := gx (xs := c.legs) (i := k) (by omega)
         have hg2 := gm Leg.cs hy
         have hyt : (c.legs.take i)[k]? = some y := by rw [List.getElem?_take, if_pos h', hy]
         refine xs rfl (nn_ _) (y9 rfl _ hg2 (xs rfl rfl ?_))
         refine xb rfl ?_ ?_ <;> intro b0
         refine xj (k := 5) rfl ?_
         refine xb rfl ?_ ?_ <;> intro b1
         refine xj (k := 5) rfl ?_
         refine xb rfl ?_ ?_ <;> intro b2
         refine xv rfl rfl rfl ?_; rotate_left
         rotate_left
         refine xj (k := 6) rfl ?_; rotate_left
         refine xj (k := 12) rfl ?_; rotate_left
         all_goals first | (refine vi (fin _ (fun _ _ => ?_) hid hn); have hsame : y.same x = true := (by simp_all [Leg.same]); have ha := (zu (p := fun y : Leg => y.same x) hyt hsame).symm; have hc7 : z3l c.legs i = 7 := (by simp only [z3l, hx, hxf]; rw [if_neg (by simp), if_pos ha]); rw [q0w h0 (by rw [hc7]; decide) h, hc7]; rfl) | exact q9 rfl (hJ2 _ (k + 1) ⟨by omega, qg hy h1 (by simp_all [Leg.same])⟩ (by omega) ⟨⟨cwi (by omega) (by omega) (by omega), rfl, ⟨rfl, rfl, rfl⟩, ⟨rfl, rfl, rfl⟩, ⟨rfl, rfl, rfl⟩, trivial⟩, ⟨lcr, ⟨rfl, .inl rfl, .inl rfl⟩, ⟨rfl, rfl, rfl, rfl, trivial⟩, trivial⟩, rfl⟩)
       · have h' : ¬ k < i := by simpa using h'
         have hnone := any_none (p := fun y : Leg => y.same x) (l := c.legs.take i) (fun j y hj => by
          rw [List.getElem?_take] at hj
          split at hj
          · exact h1 j y (by omega) hj
          · cases hj)
         have hc0 : z3l c.legs i = 0 := by
          simp only [z3l, hx, hxf]; rw [if_neg (by simp), if_neg (by rw [← hnone]; decide)]
         have hrow := z58 (l := c.legs.take i) (b := x.b) (by omega) (by omega)
         have hb0 : 0 ≤ x.b := by omega
         refine qd rfl [] (Tk [0, 1] (.take 2 [11, 12] (Tk [3, 4] (.take 5 [6, 7, 10, 11, 12] (.take 6 [] (.take 7 (Rg 10 3) (.take 8 [] (.take 9 (Rg 10 3) (Tk [10, 11] (.alt 12 .done .nil)))))))))) (by kernel_rfl) (xs rfl rfl (xs rfl (hb0) (y9 rfl _ hrow (xs rfl rfl (xs rfl rfl (y9 rfl _ hrow (xs rfl rfl (xs rfl (hb0) (y9 rfl _ hrow ?_)))))))))
         refine xs rfl rfl (xs rfl rfl (y9 rfl _ hrow (xs rfl (Nat.le_refl _) (xs rfl ⟨trivial, trivial⟩ ?_))))
         exact q9 rfl (hJ _ (i + 1) ⟨by omega, zc h0 hc0⟩ (by omega) ⟨⟨cwi (by omega) (by omega) (by omega), ⟨rfl, rfl, rfl⟩, ⟨rfl, rfl, rfl⟩, trivial⟩, ⟨lcr, ⟨y72 hx (by omega) (by omega) hd hxf (by omega), .inl rfl, .inl rfl⟩, trivial⟩, rfl⟩)
   · have h : i = c.legs.length := by have : ¬ i < c.legs.length := (by simpa using h); omega
     have hz2 := zg (f := z3l c.legs) (n := c.legs.length) (fun j hj => h0 j (by omega))
     rw [h, List.take_length] at hd
     rw [h, List.take_length]
     skip
     refine yd rfl (ι := Nat) (fun k => k ≤ 3 ∧ ∀ j : Nat, j < k → z1c c.legs j = 0) (fun k => ⟨[(9, sV (.int .i64 k)), (3, .one (.h 24 3))], [(24, .arr true 1 0 (q57 c.legs))]⟩) (fun k => 3 - k) 0 ⟨by omega, fun j hj => (by omega)⟩ ?_ ?_
     · exact ⟨⟨rfl, ⟨rfl, rfl, rfl⟩, trivial⟩, ⟨⟨rfl, .inl rfl, .inl rfl⟩, trivial⟩, rfl⟩
     · intro k ⟨hk, h1⟩ J2 hJ2
       refine xb rfl (fun h' => ?_) (fun h' => ?_)
       · have h' : k < 3 := by simp at h'; omega
         have hrow : (q57 c.legs)[(k : Int).toNat]? = some [i64 (z1c c.legs k)] := z58 (by omega) (by omega)
         refine xs rfl rfl (xs rfl (nn_ _) (y9 rfl _ hrow (xs rfl rfl (xs rfl rfl (y9 rfl _ hrow ?_)))))
         refine xb rfl ?_ ?_ <;> intro b0
         refine xv rfl rfl rfl ?_; rotate_left
         rotate_left
         · refine vi (fin _ (fun _ _ => ?_) hid hn)
           rw [hz2, z3i hd (a := k) (by simpa using b0)]; rfl
         · exact q9 rfl (hJ2 _ (k + 1) ⟨by omega, fun j hj => by
            by_cases e : j = k
            · subst e; simpa using b0
            · exact h1 j (by omega)⟩ (by omega) ⟨⟨cwi (by omega) (by omega) (by omega), ⟨rfl, rfl, rfl⟩, trivial⟩, ⟨⟨rfl, .inl rfl, .inl rfl⟩, trivial⟩, rfl⟩)
       · have h' : k = 3 := by simp at h'; omega
         subst h'
         refine xv rfl rfl rfl ?_
         refine vi (fin _ (fun _ _ => ?_) hid hn)
         have a0 := h1 0 (by omega)
         have a1 := h1 1 (by omega)
         have a2 := h1 2 (by omega)
         rw [hz2]
         simp at a0 a1 a2
         simp [y20, a0, a1, a2]
def q4q (s : Shd) : Prop := s.bals.length ≤ 1048576 ∧ s.votes.length ≤ 1048576 ∧ s.held.length ≤ 1048576 ∧ s.done.length ≤ 1048576 ∧ s.app.length ≤ 1048576 ∧ ∀ c ∈ s.held, c.legs.length ≤ 1048576
theorem qao (rr : List (List Cell)) (us : List Mk) (p : Mk → Bool) (fn : Nat) (s : Shd) (hr : rr = us.map Mk.cs) (hf : ∀ x ∈ us, PC Tryz.prog fn [.agg s.cs, .agg x.cs] (rB (p x))) (hl : us.length ≤ 1048576) : PC Tryz.prog 277 [.one (.l rr), .one (.m fn true s.cs)] (rI (y1e p us)) := by
 refine PC.begin Tryz.func277 rfl (by kernel_rfl) ?_
 subst hr
 have hn : (us.map Mk.cs).length = us.length := by simp
 refine yd rfl (ι := Nat) (fun i => i ≤ us.length ∧ ∀ j y, j < i → us[j]? = some y → p y = false) (fun i => ⟨[(8, sV (.int .i64 i)), (7, sV (.int .i64 (us.map Mk.cs).length)), (0, .one (.b (.l (us.map Mk.cs)))), (1, .one (.b (.m fn true s.cs)))], []⟩) (fun i => us.length - i) 0 ⟨Nat.zero_le _, fun j y hj => by omega⟩ ?_ ?_
 · exact ⟨⟨rfl, rfl, rfl, rfl, trivial⟩, trivial, rfl⟩
 · intro i ⟨hi, h0⟩ J hJ
   refine xb rfl ?_ ?_ <;> intro h
   · have h : i < us.length := by simpa using h
     obtain ⟨x, hx⟩ := gx h
     have hg := gm Mk.cs hx
     have hxm := List.mem_of_getElem? hx
     refine xs rfl (nn_ _) (y9 rfl _ hg (xs rfl rfl (z7 rfl (hf _ hxm) rfl ⟨tv7, tv3, trivial⟩ ?_)))
     refine xb rfl ?_ ?_ <;> intro b0
     refine xv rfl rfl rfl ?_; rotate_left
     rotate_left
     · exact vi (q08 hx h0 b0).symm
     · exact q9 rfl (hJ _ (i + 1) ⟨by omega, qg hx h0 b0⟩ (by omega) ⟨⟨cwi (by omega) (by omega) (by omega), rfl, rfl, rfl, trivial⟩, trivial, rfl⟩)
   · have h : ¬ i < us.length := by simpa using h
     refine xv rfl rfl rfl ?_
     exact vi (y02 (zk (by omega) h0)).symm
theorem yaj (rr : List (List Cell)) (us : List Mk) (p : Mk → Bool) (fn : Nat) (s : Shd) (hr : rr = us.map Mk.cs) (hf : ∀ x ∈ us, PC Tryz.prog fn [.agg s.cs, .agg x.cs] (rB (p x))) (hl : us.length ≤ 1048576) : PC Tryz.prog 202 [.one (.l rr), .one (.m fn true s.cs)] (rB (us.any p)) := by
 refine PC.begin Tryz.func202 rfl (by kernel_rfl) ?_
 have hi := qao rr us p fn s hr hf hl
 refine z7 rfl (hi) rfl tv3 (xv rfl rfl rfl ?_)
 exact vb q0h
theorem y4z (s : Shd) (ho : q4q s) : PC Tryz.prog 273 [.agg s.cs] (rI (yq z26 s)) := by
 refine PC.begin Tryz.func273 rfl (by kernel_rfl) ?_
 have ho' := ho
 obtain ⟨o1, o2, o3, o4, o5, o6⟩ := ho'
 rw [yq]
 refine yd rfl (ι := Nat) (fun i => i ≤ s.held.length ∧ ∀ j, j < i → q1p z26 s j = 0) (fun i => ⟨[(9, sV (.int .i64 i)), (1, .one (.a 1 0)), (7, .one (.b (.l (s.held.map Con.cs)))), (8, sV (.int .i64 (s.held.map Con.cs).length))], [(1, .var (s.cs.map .b))]⟩) (fun i => s.held.length - i) 0 ⟨Nat.zero_le _, fun j hj => by omega⟩ ?_ ?_
 · exact ⟨⟨rfl, ⟨rfl, rfl, rfl⟩, rfl, rfl, trivial⟩, ⟨lcr, trivial⟩, rfl⟩
 · intro i ⟨hi, h0⟩ J hJ
   refine xb rfl ?_ ?_ <;> intro h
   · have h : i < s.held.length := by simpa using h
     obtain ⟨x, hx⟩ := gx h
     have hg := gm Con.cs hx
     have hcl := o6 x (List.mem_of_getElem? hx)
     rcases Nat.eq_zero_or_pos i with hz | hz
     · subst hz
       refine xs rfl (nn_ _) (y9 rfl _ hg (xs rfl rfl (z7 rfl (y4d _ (by assumption)) rfl ⟨tv3, trivial⟩ ?_)))
       refine xb rfl ?_ ?_ <;> intro b0
       refine xv rfl rfl rfl ?_; rotate_left
       refine qd rfl [] (Tk (Rg 0 4) (.take 4 (Rg 7 3 ++ Rg 12 26) (Tk (Rg 5 4) (.take 9 (Rg 12 26) (.take 10 [] (.take 11 (Rg 12 26) (Tk [12, 13, 14] (.take 15 (Rg 18 20) (.take 16 [] (.take 17 (Rg 18 20) (.alt 18 (Tk (Rg 19 5) (.take 24 (Rg 27 11) (.take 25 [] (.take 26 (Rg 27 11) (.alt 27 (Tk (Rg 28 4) (.take 32 (Rg 35 3) (.take 33 [] (.take 34 (Rg 35 3) (.alt 35 (Tk [36, 37] .done) .nil))))) .nil))))) .nil))))))))))) (by kernel_rfl) (xj (k := 15) rfl (z7 rfl (y16 _ _ (by omega)) rfl ⟨tv3, trivial, trivial⟩ (xj (k := 3) rfl ?_)))
       refine xb rfl ?_ ?_ <;> intro b1
       refine xj (k := 14) rfl ?_
       refine xv rfl rfl rfl ?_; rotate_left
       refine xj (k := 4) rfl (z7 rfl (y0q _ _ (by omega)) rfl tv3 (xj (k := 2) rfl ?_))
       refine xb rfl ?_ ?_ <;> intro b2
       refine xj (k := 7) rfl ?_
       refine xv rfl rfl rfl ?_; rotate_left
       refine xj (k := 4) rfl (z7 rfl (y0q _ _ (by omega)) rfl tv3 (xj (k := 2) rfl ?_))
       refine xb rfl ?_ ?_ <;> intro b3
       refine xv rfl rfl rfl ?_; rotate_left
       rotate_left
       all_goals (first | (refine vi (q8 h h0 ?_ (by first | decide | decide | simp_all)); clear hJ h0 hg; simp_all [q1p, ahead_zero]) | (refine q9 rfl (hJ _ 1 ⟨by omega, zc h0 ?_⟩ (by omega) ⟨⟨cwi (by omega) (by omega) (by omega), ⟨rfl, rfl, rfl⟩, rfl, rfl, trivial⟩, ⟨lcr, trivial⟩, rfl⟩); clear hJ h0 hg; simp_all [q1p, ahead_zero]))
     · obtain ⟨p, hp⟩ := gx (xs := s.held) (i := i - 1) (by omega)
       have hgp := y1b Con.cs hz (by omega) hp
       refine xs rfl (nn_ _) (y9 rfl _ hg (xs rfl rfl (z7 rfl (y4d _ (by assumption)) rfl ⟨tv3, trivial⟩ ?_)))
       refine xb rfl ?_ ?_ <;> intro b0
       refine xv rfl rfl rfl ?_; rotate_left
       refine qd rfl [] (Tk (Rg 0 4) (.take 4 (Rg 7 3 ++ Rg 12 26) (Tk (Rg 5 4) (.take 9 (Rg 12 26) (.take 10 [] (.take 11 (Rg 12 26) (Tk [12, 13, 14] (.take 15 (Rg 18 20) (.take 16 [] (.take 17 (Rg 18 20) (.alt 18 (Tk (Rg 19 5) (.take 24 (Rg 27 11) (.take 25 [] (.take 26 (Rg 27 11) (.alt 27 (Tk (Rg 28 4) (.take 32 (Rg 35 3) (.take 33 [] (.take 34 (Rg 35 3) (.alt 35 (Tk [36, 37] .done) .nil))))) .nil))))) .nil))))))))))) (by kernel_rfl) ?_
       refine xb rfl ?_ ?_ <;> intro b1
       refine xj (k := 4) rfl (xs rfl (q0n hz (by omega)) (y9 rfl _ hgp (xs rfl rfl (xj (k := 6) rfl ?_))))
       refine xb rfl ?_ ?_ <;> intro b2
       refine xj (k := 21) rfl ?_
       refine xv rfl rfl rfl ?_; rotate_left
       refine xj (k := 3) rfl (z7 rfl (y16 _ _ (by omega)) rfl ⟨tv3, trivial, trivial⟩ (xj (k := 3) rfl ?_))
       refine xb rfl ?_ ?_ <;> intro b3
       refine xj (k := 14) rfl ?_
       refine xv rfl rfl rfl ?_; rotate_left
       refine xj (k := 4) rfl (z7 rfl (y0q _ _ (by omega)) rfl tv3 (xj (k := 2) rfl ?_))
       refine xb rfl ?_ ?_ <;> intro b4
       refine xj (k := 7) rfl ?_
       refine xv rfl rfl rfl ?_; rotate_left
       refine xj (k := 4) rfl (z7 rfl (y0q _ _ (by omega)) rfl tv3 (xj (k := 2) rfl ?_))
       refine xb rfl ?_ ?_ <;> intro b5
       refine xv rfl rfl rfl ?_; rotate_left
       rotate_left
       refine xj (k := 14) rfl (z7 rfl (y16 _ _ (by omega)) rfl ⟨tv3, trivial, trivial⟩ (xj (k := 3) rfl ?_))
       refine xb rfl ?_ ?_ <;> intro b2
       refine xj (k := 14) rfl ?_
       refine xv rfl rfl rfl ?_; rotate_left
       refine xj (k := 4) rfl (z7 rfl (y0q _ _ (by omega)) rfl tv3 (xj (k := 2) rfl ?_))
       refine xb rfl ?_ ?_ <;> intro b3
       refine xj (k := 7) rfl ?_
       refine xv rfl rfl rfl ?_; rotate_left
       refine xj (k := 4) rfl (z7 rfl (y0q _ _ (by omega)) rfl tv3 (xj (k := 2) rfl ?_))
       refine xb rfl ?_ ?_ <;> intro b4
       refine xv rfl rfl rfl ?_; rotate_left
       rotate_left
       all_goals (first | (refine vi (q8 h h0 ?_ (by first | decide | decide | simp_all)); clear hJ h0 hg hgp; simp_all [ya hz hp, q1p, ahead_zero]) | (refine q9 rfl (hJ _ (i + 1) ⟨by omega, zc h0 ?_⟩ (by omega) ⟨⟨cwi (by omega) (by omega) (by omega), ⟨rfl, rfl, rfl⟩, rfl, rfl, trivial⟩, ⟨lcr, trivial⟩, rfl⟩); clear hJ h0 hg hgp; simp_all [ya hz hp, q1p, ahead_zero]))
   · have h : ¬ i < s.held.length := by simpa using h
     have hz := zg (f := q1p z26 s) (n := s.held.length) (fun j hj => h0 j (by omega))
     refine xv rfl rfl rfl ?_
     exact vi (hz.symm)
theorem y7s (s : Shd) (m : Mk) (ho : q4q s) : PC Tryz.prog 274 [.agg s.cs, .agg m.cs] (rB (z6z s m)) := by
 refine PC.begin Tryz.func274 rfl (by kernel_rfl) ?_
 have ho' := ho
 obtain ⟨o1, o2, o3, o4, o5, o6⟩ := ho'
 refine z7 rfl (y7p _ _ (by assumption)) rfl ⟨tv7, trivial, trivial⟩ ?_
 refine xb rfl ?_ ?_ <;> intro b0
 refine xj (k := 2) rfl ?_
 refine xb rfl ?_ ?_ <;> intro b1
 refine xj (k := 4) rfl (z7 rfl (y0q _ _ (by omega)) rfl tv3 (xj (k := 2) rfl ?_))
 refine xv rfl rfl rfl ?_; rotate_left
 refine xj (k := 6) rfl ?_
 refine xv rfl rfl rfl ?_; rotate_left
 refine xj (k := 9) rfl ?_
 refine xv rfl rfl rfl ?_; rotate_left
 all_goals (refine vb ?_; simp_all [z6z])
theorem z7x (x y : Leg) : PC Tryz.prog 369 [.agg y.cs, .one (.p x.cs)] (rB (x.same y)) := by
 refine PC.begin Tryz.func369 rfl (by kernel_rfl) ?_
 refine z7 rfl (q2p _ _) rfl ⟨tv5, tv5, trivial⟩ ?_
 refine xr rfl (qm rfl ⟨⟨rfl, rfl, trivial⟩, z6 rfl⟩)
theorem z8v (s : Shd) (b : Con) (x : Leg) (hl : b.legs.length ≤ 1048576) : PC Tryz.prog 368 [.agg x.cs, .one (.p b.cs), .one (.p s.cs)] (rB ((zn b s.idx).any fun m => x.same m)) := by
 refine PC.begin Tryz.func368 rfl (by kernel_rfl) ?_
 have hlb : (zn b s.idx).length ≤ 1048576 := Nat.le_trans (List.length_filter_le _ _) (by omega)
 refine z7 rfl (y16 _ _ (by omega)) rfl ⟨tv3, trivial, trivial⟩ (z7 rfl (q5g _ (zn b s.idx) (fun m => x.same m) _ _ rfl (fun m _ => z7x x m) hlb) rfl ⟨rfl, (List.forall_mem_cons.2 ⟨tv5, (fun _ h => nomatch h)⟩), trivial⟩ ?_)
 refine xr rfl (qm rfl ⟨⟨rfl, rfl, trivial⟩, z6 rfl⟩)
theorem q5p (s : Shd) (a b : Con) (ha : a.legs.length ≤ 1048576) (hb : b.legs.length ≤ 1048576) : PC Tryz.prog 343 [.agg s.cs, .agg a.cs, .agg b.cs] (rB (y6x s a b)) := by
 refine PC.begin Tryz.func343 rfl (by kernel_rfl) ?_
 have hlb : (zn a s.idx).length ≤ 1048576 := Nat.le_trans (List.length_filter_le _ _) (by omega)
 refine z7 rfl (y16 _ _ (by omega)) rfl ⟨tv3, trivial, trivial⟩ (z7 rfl (q9l _ (zn a s.idx) (fun l => (zn b s.idx).any fun m => l.same m) _ _ _ rfl (fun l _ => z8v s b l hb) hlb) rfl ⟨rfl, (List.forall_mem_cons.2 ⟨tv3, (List.forall_mem_cons.2 ⟨tv7, (fun _ h => nomatch h)⟩)⟩), trivial⟩ ?_)
 refine xr rfl (qm rfl ⟨⟨rfl, rfl, trivial⟩, z6 rfl⟩)
theorem q5d (s : Shd) (a b : Con) (ha : a.legs.length ≤ 1048576) (hb : b.legs.length ≤ 1048576) : PC Tryz.prog 342 [.agg a.cs, .one (.p s.cs), .one (.p b.cs)] (rB (y6x s a b)) := by
 refine PC.begin Tryz.func342 rfl (by kernel_rfl) ?_
 refine z7 rfl (q5p _ _ _ (by omega) (by omega)) rfl ⟨tv7, tv3, tv3, trivial⟩ ?_
 refine xr rfl (qm rfl ⟨⟨rfl, rfl, trivial⟩, z6 rfl⟩)
theorem y9q (s : Shd) (c : Con) (hl : s.bals.length ≤ 1048576) (hc : c.legs.length ≤ 1048576) (hb : ∀ l ∈ zn c s.idx, -9000000000000000000 ≤ y4p s.bals l.a l.b + l.v ∧ y4p s.bals l.a l.b + l.v ≤ 9000000000000000000) : PC Tryz.prog 344 [.agg s.cs, .agg c.cs] (rI (z1s s.bals (zn c s.idx))) := by
 refine PC.begin Tryz.func344 rfl (by kernel_rfl) ?_
 have hlb : (zn c s.idx).length ≤ 1048576 := Nat.le_trans (List.length_filter_le _ _) (by omega)
 rw [z1s]
 refine z7 rfl (y16 _ _ (by omega)) rfl ⟨tv3, trivial, trivial⟩ ?_
 refine yd rfl (ι := Nat) (fun i => i ≤ (zn c s.idx).length ∧ ∀ j, j < i → z3x s.bals (zn c s.idx) j = 0) (fun i => ⟨[(13, sV (.int .i64 i)), (2, .one (.a 2 0)), (11, .one (.h 1200000 ((zn c s.idx).map Leg.cs).length)), (12, sV (.int .i64 ((zn c s.idx).map Leg.cs).length))], [(2, .var (s.cs.map .b)), (1200000, .arr true 4 0 ((zn c s.idx).map Leg.cs))]⟩) (fun i => (zn c s.idx).length - i) 0 ⟨Nat.zero_le _, fun j hj => by omega⟩ ?_ ?_
 · exact ⟨⟨rfl, ⟨rfl, rfl, rfl⟩, ⟨rfl, rfl, rfl⟩, rfl, trivial⟩, ⟨lcr, ⟨rfl, .inl rfl, .inl rfl⟩, trivial⟩, rfl⟩
 · intro i ⟨hi, h0⟩ J hJ
   refine xb rfl ?_ ?_ <;> intro h
   · have h : i < (zn c s.idx).length := by simpa using h
     obtain ⟨x, hx⟩ := gx h
     have hg := gm Leg.cs hx
     have hbx := hb x (List.mem_of_getElem? hx)
     refine xs rfl rfl (xs rfl (nn_ _) (y9 rfl _ hg (xs rfl rfl (xs rfl rfl (y9 rfl _ hg (z7 rfl (z6w _ _ (by omega) (by assumption)) rfl ⟨trivial, tv5, trivial⟩ ?_))))))
     refine xb rfl ?_ ?_ <;> intro b0
     refine xv rfl rfl rfl ?_; rotate_left
     rotate_left
     · exact vi (q8 h h0 (by simp_all [z3x]) (by simpa using b0))
     · exact q9 rfl (hJ _ (i + 1) ⟨by omega, zc h0 (by simp_all [z3x])⟩ (by omega) ⟨⟨cwi (by omega) (by omega) (by omega), ⟨rfl, rfl, rfl⟩, ⟨rfl, rfl, rfl⟩, rfl, trivial⟩, ⟨lcr, ⟨rfl, .inl rfl, .inl rfl⟩, trivial⟩, rfl⟩)
   · have h : ¬ i < (zn c s.idx).length := by simpa using h
     have hz := zg (f := z3x s.bals (zn c s.idx)) (n := (zn c s.idx).length) (fun j hj => h0 j (by omega))
     refine xv rfl rfl rfl ?_
     exact vi hz.symm
theorem q37 (s : Shd) (ho : q4q s) (hb : ∀ c ∈ s.held, ∀ l ∈ zn c s.idx, -9000000000000000000 ≤ y4p s.bals l.a l.b + l.v ∧ y4p s.bals l.a l.b + l.v ≤ 9000000000000000000) : PC Tryz.prog 276 [.agg s.cs] (rI (z09 q1s z1s s)) := by
 refine PC.begin Tryz.func276 rfl (by kernel_rfl) ?_
 obtain ⟨o1, o2, o3, o4, o5, o6⟩ := ho
 unfold z09
 refine yd rfl (ι := Nat) (fun i => i ≤ s.held.length ∧ ∀ j, j < i → q1s s j = 0) (fun i => ⟨[(11, sV (.int .i64 i)), (1, .one (.a 1 0)), (9, .one (.b (.l (s.held.map Con.cs)))), (10, sV (.int .i64 (s.held.map Con.cs).length))], [(1, .var (s.cs.map .b))]⟩) (fun i => s.held.length - i) 0 ⟨Nat.zero_le _, fun j hj => by omega⟩ ?_ ?_
 · exact ⟨⟨rfl, ⟨rfl, rfl, rfl⟩, rfl, rfl, trivial⟩, ⟨lcr, trivial⟩, rfl⟩
 · intro i ⟨hi, h0⟩ J hJ
   refine xb rfl ?_ ?_ <;> intro h
   · have h : i < s.held.length := by simpa using h
     obtain ⟨x, hx⟩ := gx h
     have hg := gm Con.cs hx
     have hcl := o6 x (List.mem_of_getElem? hx)
     refine xs rfl (nn_ _) (y9 rfl _ hg (xs rfl rfl (xs rfl (.inl rfl) (xs rfl (nn_ _) (xs rfl (nn_ _) (xs rfl (by simp; omega) (z7 rfl (z9l _ (s.held.take i) (fun own => y6x s own x) _ _ _ (by simp [List.map_take]) (fun own hown => q5d s own x (o6 own (List.mem_of_mem_take hown)) hcl) (by rw [List.length_take]; omega)) rfl ⟨trivial, (List.forall_mem_cons.2 ⟨tv7, (List.forall_mem_cons.2 ⟨tv3, (fun _ h => nomatch h)⟩)⟩), trivial⟩ ?_)))))))
     refine xb rfl ?_ ?_ <;> intro b0
     refine xv rfl rfl rfl ?_; rotate_left
     rotate_left
     · refine vi ?_
       have hc7 : q1s s i = 7 := by simp only [q1s, hx]; rw [if_pos b0]
       rw [q0w h0 (by rw [hc7]; decide) h, hc7]; rfl
     · exact q9 rfl (hJ _ (i + 1) ⟨by omega, zc h0 (by simp only [q1s, hx]; rw [if_neg (by rw [b0]; decide)])⟩ (by omega) ⟨⟨cwi (by omega) (by omega) (by omega), ⟨rfl, rfl, rfl⟩, rfl, rfl, trivial⟩, ⟨lcr, trivial⟩, rfl⟩)
   · have h : ¬ i < s.held.length := by simpa using h
     have hz := zg (f := q1s s) (n := s.held.length) (fun j hj => h0 j (by omega))
     rw [hz]
     clear hJ h0
     refine yd rfl (ι := Nat) (fun i => i ≤ s.held.length ∧ ∀ j, j < i → y6r z1s s j = 0) (fun i => ⟨[(26, sV (.int .i64 i)), (1, .one (.a 1 0)), (24, .one (.b (.l (s.held.map Con.cs)))), (25, sV (.int .i64 (s.held.map Con.cs).length))], [(1, .var (s.cs.map .b))]⟩) (fun i => s.held.length - i) 0 ⟨Nat.zero_le _, fun j hj => by omega⟩ ?_ ?_
     · exact ⟨⟨rfl, ⟨rfl, rfl, rfl⟩, rfl, rfl, trivial⟩, ⟨lcr, trivial⟩, rfl⟩
     · intro i ⟨hi, h0⟩ J hJ
       refine xb rfl ?_ ?_ <;> intro h
       · have h : i < s.held.length := by simpa using h
         obtain ⟨x, hx⟩ := gx h
         have hg := gm Con.cs hx
         have hxm := List.mem_of_getElem? hx
         have hcl := o6 x hxm
         refine xs rfl (nn_ _) (y9 rfl _ hg (xs rfl rfl (z7 rfl (y9q s x o1 hcl (hb x hxm)) rfl ⟨tv7, tv3, trivial⟩ ?_)))
         refine xb rfl ?_ ?_ <;> intro b0
         refine xv rfl rfl rfl ?_; rotate_left
         rotate_left
         · exact vi (by rw [if_neg (by decide)]; exact q8 h h0 (by simp_all [y6r]) (by simpa using b0))
         · exact q9 rfl (hJ _ (i + 1) ⟨by omega, zc h0 (by simp_all [y6r])⟩ (by omega) ⟨⟨cwi (by omega) (by omega) (by omega), ⟨rfl, rfl, rfl⟩, rfl, rfl, trivial⟩, ⟨lcr, trivial⟩, rfl⟩)
       · have h : ¬ i < s.held.length := by simpa using h
         have hz := zg (f := y6r z1s s) (n := s.held.length) (fun j hj => h0 j (by omega))
         refine xv rfl rfl rfl ?_
         exact vi (by rw [hz]; rfl)
theorem y6t (x : Int) (us : List Bal) (hl : us.length ≤ 1048576) : PC Tryz.prog 252 [.one (i64 x), .one (.l (us.map Bal.cs))] (rI (if within x 0 2 then ql us else 3)) := by
 refine PC.begin Tryz.func252 rfl (by kernel_rfl) ?_
 refine z7 rfl (qi _ _ _) rfl tv4 ?_
 refine xb rfl ?_ ?_ <;> intro b0
 refine xv rfl rfl rfl ?_; rotate_left
 refine z7 rfl (q8z _ (by omega)) rfl ⟨trivial, trivial⟩ ?_
 refine xv rfl rfl rfl ?_; rotate_left
 all_goals (refine vi ?_; simp_all)
theorem q2w (rr : List (List Cell)) (us : List Int) (c : Int) (hr : rr = ints us) (hl : us.length ≤ 1048576) : PC Tryz.prog 255 [.one (.l rr), .one (i64 c)] (rB (us.any fun y => y == c)) := by
 refine PC.begin Tryz.func255 rfl (by kernel_rfl) ?_
 subst hr
 refine yd rfl (ι := Nat) (fun i => i ≤ us.length ∧ ∀ j y, j < i → us[j]? = some y → (y == c) = false) (fun i => ⟨[(5, sV (.int .i64 i)), (0, .one (.b (.l (ints us)))), (1, sV (.int .i64 c))], []⟩) (fun i => us.length - i) 0 ⟨Nat.zero_le _, fun j y hj => by omega⟩ ?_ ?_
 · exact ⟨⟨rfl, rfl, rfl, trivial⟩, trivial, rfl⟩
 · intro i ⟨hi, h0⟩ J hJ
   refine xb rfl ?_ ?_ <;> intro h
   · have h : i < us.length := by simpa using h
     obtain ⟨x, hx⟩ := gx h
     have hg := gm (fun n => [i64 n]) hx
     refine xs rfl (nn_ _) (y9 rfl _ hg (xs rfl rfl ?_))
     refine xb rfl ?_ ?_ <;> intro b0
     refine xv rfl rfl rfl ?_; rotate_left
     rotate_left
     · exact vb (zu hx (by simpa using b0))
     · exact q9 rfl (hJ _ (i + 1) ⟨by omega, qg hx h0 (by simpa using b0)⟩ (by omega) ⟨⟨cwi (by omega) (by omega) (by omega), rfl, rfl, trivial⟩, trivial, rfl⟩)
   · have h : ¬ i < us.length := by simpa using h
     refine xv rfl rfl rfl ?_
     exact vb (any_none (zk (by omega) h0))
theorem qa4 (s : Shd) (ho : q4q s) : PC Tryz.prog 332 [.agg s.cs] (rB (z66 s)) := by
 refine PC.begin Tryz.func332 rfl (by kernel_rfl) ?_
 obtain ⟨o1, o2, o3, o4, o5, o6⟩ := ho
 refine yd rfl (ι := Nat) (fun i => i ≤ s.done.length) (fun i => ⟨[(4, sV (.int .i64 i)), (3, sV (.int .i64 (y3n (s.done.take i)))), (1, .one (.a 1 0))], [(1, .var (s.cs.map .b))]⟩) (fun i => s.done.length - i) 0 (Nat.zero_le _) ?_ ?_
 · exact ⟨⟨rfl, rfl, ⟨rfl, rfl, rfl⟩, trivial⟩, ⟨lcr, trivial⟩, rfl⟩
 · intro i hi J hJ
   refine xb rfl ?_ ?_ <;> intro h
   · have h : i < s.done.length := by simpa using h
     obtain ⟨x, hx⟩ := gx h
     have hg := gm Mk.cs hx
     have hst := q6p hx
     have hle := q69 s.done i
     refine xs rfl (nn_ _) (y9 rfl _ hg (xs rfl rfl ?_))
     refine xb rfl (fun b0 => ?_) (fun b0 => ?_); rotate_left
     rotate_left
     · rw [if_pos (by simpa using b0)] at hst
       exact q9 rfl (hJ _ (i + 1) (by omega) (by omega) ⟨⟨cwi (by omega) (by omega) (by omega), (by rw [hst]; exact cwi (by omega) (by omega) (by omega)), ⟨rfl, rfl, rfl⟩, trivial⟩, ⟨lcr, trivial⟩, rfl⟩)
     · rw [if_neg (by simpa using b0)] at hst
       exact q9 rfl (hJ _ (i + 1) (by omega) (by omega) ⟨⟨cwi (by omega) (by omega) (by omega), (by rw [hst]; rfl), ⟨rfl, rfl, rfl⟩, trivial⟩, ⟨lcr, trivial⟩, rfl⟩)
   · have h : i = s.done.length := by have : ¬ i < s.done.length := (by simpa using h); omega
     rw [h, List.take_length]
     clear hJ
     refine yd rfl (ι := Nat) (fun i => i ≤ s.app.length ∧ ∀ j, j < i → y99 s j = 0) (fun i => ⟨[(5, sV (.int .i64 i)), (3, sV (.int .i64 (y3n s.done))), (1, .one (.a 1 0))], [(1, .var (s.cs.map .b))]⟩) (fun i => s.app.length - i) 0 ⟨Nat.zero_le _, fun j hj => by omega⟩ ?_ ?_
     · exact ⟨⟨rfl, rfl, ⟨rfl, rfl, rfl⟩, trivial⟩, ⟨lcr, trivial⟩, rfl⟩
     · intro i ⟨hi, h0⟩ J hJ
       refine xb rfl ?_ ?_ <;> intro h
       · have h : i < s.app.length := by simpa using h
         obtain ⟨x, hx⟩ := gx h
         have hg := gm (fun n => [i64 n]) hx
         refine qd rfl [] (.take 0 [] (.take 1 (Rg 7 14) (.take 2 [] (.take 3 (Rg 5 16) (Tk [4, 5] (.take 6 (Rg 7 14) (.alt 7 (Tk [8, 9, 10] (.take 11 [13, 19, 20] (Tk [12, 13, 14] (.take 15 (Rg 17 4) (Tk [16, 17] (.take 18 [19, 20] (.alt 19 (.take 20 [] .done) .nil))))))) .nil))))))) (by kernel_rfl) (xs rfl (nn_ _) (y9 rfl _ hg (xs rfl rfl (z7 rfl (y0w _ _ (by assumption)) rfl tv3 ?_))))
         refine xb rfl ?_ ?_ <;> intro b0
         refine xj (k := 11) rfl ?_
         refine xv rfl rfl rfl ?_; rotate_left
         refine xj (k := 3) rfl (xs rfl (.inl rfl) (xs rfl (nn_ _) (xs rfl (nn_ _) (xs rfl (by simp; omega) (xj (k := 4) rfl (xs rfl (nn_ _) (y9 rfl _ hg (xs rfl rfl (xj (k := 2) rfl ?_)))))))))
         refine z7 rfl (q2w _ (s.app.take i) x (by simp [ints, List.map_take]) (by rw [List.length_take]; omega)) rfl tv3 (xj (k := 1) rfl ?_)
         refine xb rfl ?_ ?_ <;> intro b1
         refine xv rfl rfl rfl ?_; rotate_left
         rotate_left
         all_goals first | (refine vb ?_; have hc1 : y99 s i = 1 := (by simp only [y99, hx]; first | (rw [b0, b1]; rfl) | (rw [b0]; rfl)); have := q0w h0 (by rw [hc1]; decide) h; rw [hc1] at this; simp [z66, this]; done) | exact q9 rfl (hJ _ (i + 1) ⟨by omega, zc h0 (by simp only [y99, hx]; rw [b0, b1]; rfl)⟩ (by omega) ⟨⟨cwi (by omega) (by omega) (by omega), rfl, ⟨rfl, rfl, rfl⟩, trivial⟩, ⟨lcr, trivial⟩, rfl⟩)
       · have h : ¬ i < s.app.length := by simpa using h
         have hz := zg (f := y99 s) (n := s.app.length) (fun j hj => h0 j (by omega))
         refine xv rfl rfl rfl ?_
         exact vb (by simp only [z66, hz, ints, List.length_map]; rw [Bool.eq_iff_iff]; simp; omega)
theorem y90 (s : Shd) (ho : q4q s) (hB : ql s.bals = 0) : PC Tryz.prog 254 [.agg s.cs] (rI (z13 s)) := by
 refine PC.begin Tryz.func254 rfl (by kernel_rfl) ?_
 have ho' := ho
 obtain ⟨o1, o2, o3, o4, o5, o6⟩ := ho'
 refine yd rfl (ι := Nat) (fun i => i ≤ s.held.length ∧ ∀ j, j < i → q1p q0m s j = 0) (fun i => ⟨[(3, sV (.int .i64 i)), (1, .one (.a 1 0))], [(1, .var (s.cs.map .b))]⟩) (fun i => s.held.length - i) 0 ⟨Nat.zero_le _, fun j hj => by omega⟩ ?_ ?_
 · exact ⟨⟨rfl, ⟨rfl, rfl, rfl⟩, trivial⟩, ⟨lcr, trivial⟩, rfl⟩
 · intro i ⟨hi, h0⟩ J hJ
   refine xb rfl ?_ ?_ <;> intro h
   · have h : i < s.held.length := by simpa using h
     obtain ⟨x, hx⟩ := gx h
     have hg := gm Con.cs hx
     have hcl := o6 x (List.mem_of_getElem? hx)
     rcases Nat.eq_zero_or_pos i with hz | hz
     · subst hz
       refine xs rfl (nn_ _) (y9 rfl _ hg (xs rfl rfl (z7 rfl (z4k _ (by assumption)) rfl ⟨tv3, trivial⟩ ?_)))
       refine xb rfl ?_ ?_ <;> intro b0
       refine xv rfl rfl rfl ?_; rotate_left
       refine qd rfl [] (Tk (Rg 0 4) (.take 4 (Rg 12 26) (.take 5 [] (.take 6 (Rg 9 29) (Tk (Rg 7 4) (.take 11 (Rg 12 26) (Tk [12, 13, 14] (.take 15 (Rg 18 20) (.take 16 [] (.take 17 (Rg 18 20) (.alt 18 (Tk (Rg 19 5) (.take 24 (Rg 27 11) (.take 25 [] (.take 26 (Rg 27 11) (.alt 27 (Tk (Rg 28 4) (.take 32 (Rg 35 3) (.take 33 [] (.take 34 (Rg 35 3) (.alt 35 (Tk [36, 37] .done) .nil))))) .nil))))) .nil))))))))))) (by kernel_rfl) (xj (k := 15) rfl (z7 rfl (q1n _ _ (by omega)) rfl ⟨tv3, trivial, trivial⟩ (xj (k := 3) rfl ?_)))
       refine xb rfl ?_ ?_ <;> intro b1
       refine xj (k := 14) rfl ?_
       refine xv rfl rfl rfl ?_; rotate_left
       refine xj (k := 4) rfl (z7 rfl (y0w _ _ (by assumption)) rfl tv3 (xj (k := 2) rfl ?_))
       refine xb rfl ?_ ?_ <;> intro b2
       refine xj (k := 7) rfl ?_
       refine xv rfl rfl rfl ?_; rotate_left
       refine xj (k := 4) rfl (z7 rfl (y0w _ _ (by assumption)) rfl tv3 (xj (k := 2) rfl ?_))
       refine xb rfl ?_ ?_ <;> intro b3
       refine xv rfl rfl rfl ?_; rotate_left
       rotate_left
       all_goals (first | (refine vi (z6i (q8 h h0 ?_ (by first | decide | simp_all)) (by first | decide | simp_all)); clear hJ h0 hg; simp_all [q1p, ahead_zero]; done) | (refine q9 rfl (hJ _ 1 ⟨by omega, zc h0 ?_⟩ (by omega) ⟨⟨cwi (by omega) (by omega) (by omega), ⟨rfl, rfl, rfl⟩, trivial⟩, ⟨lcr, trivial⟩, rfl⟩); clear hJ h0 hg; simp_all [q1p, ahead_zero]))
     · obtain ⟨p, hp⟩ := gx (xs := s.held) (i := i - 1) (by omega)
       have hgp := y1b Con.cs hz (by omega) hp
       refine xs rfl (nn_ _) (y9 rfl _ hg (xs rfl rfl (z7 rfl (z4k _ (by assumption)) rfl ⟨tv3, trivial⟩ ?_)))
       refine xb rfl ?_ ?_ <;> intro b0
       refine xv rfl rfl rfl ?_; rotate_left
       refine qd rfl [] (Tk (Rg 0 4) (.take 4 (Rg 12 26) (.take 5 [] (.take 6 (Rg 9 29) (Tk (Rg 7 4) (.take 11 (Rg 12 26) (Tk [12, 13, 14] (.take 15 (Rg 18 20) (.take 16 [] (.take 17 (Rg 18 20) (.alt 18 (Tk (Rg 19 5) (.take 24 (Rg 27 11) (.take 25 [] (.take 26 (Rg 27 11) (.alt 27 (Tk (Rg 28 4) (.take 32 (Rg 35 3) (.take 33 [] (.take 34 (Rg 35 3) (.alt 35 (Tk [36, 37] .done) .nil))))) .nil))))) .nil))))))))))) (by kernel_rfl) ?_
       refine xb rfl ?_ ?_ <;> intro b1
       refine xj (k := 6) rfl (xs rfl (q0n hz (by omega)) (y9 rfl _ hgp (xs rfl rfl (xj (k := 4) rfl ?_))))
       refine xb rfl ?_ ?_ <;> intro b2
       refine xj (k := 21) rfl ?_
       refine xv rfl rfl rfl ?_; rotate_left
       refine xj (k := 3) rfl (z7 rfl (q1n _ _ (by omega)) rfl ⟨tv3, trivial, trivial⟩ (xj (k := 3) rfl ?_))
       refine xb rfl ?_ ?_ <;> intro b3
       refine xj (k := 14) rfl ?_
       refine xv rfl rfl rfl ?_; rotate_left
       refine xj (k := 4) rfl (z7 rfl (y0w _ _ (by assumption)) rfl tv3 (xj (k := 2) rfl ?_))
       refine xb rfl ?_ ?_ <;> intro b4
       refine xj (k := 7) rfl ?_
       refine xv rfl rfl rfl ?_; rotate_left
       refine xj (k := 4) rfl (z7 rfl (y0w _ _ (by assumption)) rfl tv3 (xj (k := 2) rfl ?_))
       refine xb rfl ?_ ?_ <;> intro b5
       refine xv rfl rfl rfl ?_; rotate_left
       rotate_left
       refine xj (k := 14) rfl (z7 rfl (q1n _ _ (by omega)) rfl ⟨tv3, trivial, trivial⟩ (xj (k := 3) rfl ?_))
       refine xb rfl ?_ ?_ <;> intro b2
       refine xj (k := 14) rfl ?_
       refine xv rfl rfl rfl ?_; rotate_left
       refine xj (k := 4) rfl (z7 rfl (y0w _ _ (by assumption)) rfl tv3 (xj (k := 2) rfl ?_))
       refine xb rfl ?_ ?_ <;> intro b3
       refine xj (k := 7) rfl ?_
       refine xv rfl rfl rfl ?_; rotate_left
       refine xj (k := 4) rfl (z7 rfl (y0w _ _ (by assumption)) rfl tv3 (xj (k := 2) rfl ?_))
       refine xb rfl ?_ ?_ <;> intro b4
       refine xv rfl rfl rfl ?_; rotate_left
       rotate_left
       all_goals (first | (refine vi (z6i (q8 h h0 ?_ (by first | decide | simp_all)) (by first | decide | simp_all)); clear hJ h0 hg hgp; simp_all [q1p, ya hz hp]; done) | (refine q9 rfl (hJ _ (i + 1) ⟨by omega, zc h0 ?_⟩ (by omega) ⟨⟨cwi (by omega) (by omega) (by omega), ⟨rfl, rfl, rfl⟩, trivial⟩, ⟨lcr, trivial⟩, rfl⟩); clear hJ h0 hg hgp; simp_all [q1p, ya hz hp]))
   · have h : ¬ i < s.held.length := by simpa using h
     have hH : yq q0m s = 0 := zg (f := q1p q0m s) (n := s.held.length) (fun j hj => h0 j (by omega))
     have hcon := z4d hH
     clear hJ h0
     refine yd rfl (ι := Nat) (fun i => i ≤ s.votes.length ∧ ∀ j y, j < i → s.votes[j]? = some y → q3q s y = false) (fun i => ⟨[(6, sV (.int .i64 i)), (1, .one (.a 1 0))], [(1, .var (s.cs.map .b))]⟩) (fun i => s.votes.length - i) 0 ⟨Nat.zero_le _, fun j y hj => by omega⟩ ?_ ?_
     · exact ⟨⟨rfl, ⟨rfl, rfl, rfl⟩, trivial⟩, ⟨lcr, trivial⟩, rfl⟩
     · intro i ⟨hi, h0⟩ J hJ
       refine xb rfl ?_ ?_ <;> intro h
       · have h : i < s.votes.length := by simpa using h
         obtain ⟨x, hx⟩ := gx h
         have hg := gm Mk.cs hx
         refine xs rfl (nn_ _) (y9 rfl _ hg (xs rfl rfl ?_))
         refine xb rfl ?_ ?_ <;> intro b0
         refine xj (k := 3) rfl (z7 rfl (z73 _ _ (by assumption)) rfl ⟨tv7, trivial, trivial⟩ (xj (k := 2) rfl ?_))
         refine xb rfl ?_ ?_ <;> intro b1
         refine xj (k := 4) rfl (z7 rfl (y0w _ _ (by assumption)) rfl tv3 (xj (k := 2) rfl ?_))
         refine xb rfl ?_ ?_ <;> intro b2
         refine xv rfl rfl rfl ?_; rotate_left
         rotate_left
         refine xj (k := 7) rfl ?_; rotate_left
         refine xj (k := 13) rfl ?_; rotate_left
         all_goals first | (refine vi (y91 hH (zu hx ?_)); clear hJ h0 hg; simp only [q3q, z4e]; generalize (s.held.any fun y => y.id == x.c) = q at *; simp_all; done) | (refine q9 rfl (hJ _ (i + 1) ⟨by omega, qg hx h0 ?_⟩ (by omega) ⟨⟨cwi (by omega) (by omega) (by omega), ⟨rfl, rfl, rfl⟩, trivial⟩, ⟨lcr, trivial⟩, rfl⟩); clear hJ h0 hg; simp only [q3q, z4e]; generalize (s.held.any fun y => y.id == x.c) = q at *; simp_all)
       · have h : ¬ i < s.votes.length := by simpa using h
         have hO := any_none (zk (by omega) h0)
         clear hJ h0
         refine z7 rfl (qa4 _ (by assumption)) rfl ⟨tv7, trivial⟩ ?_
         refine xb rfl ?_ ?_ <;> intro b0
         refine xv rfl rfl rfl ?_; rotate_left
         rotate_left
         · exact vi (q91 hH hO (by simpa using b0))
         have hA : z66 s = true := by simpa using b0
         refine yd rfl (ι := Nat) (fun i => i ≤ s.held.length ∧ ∀ j, j < i → z1g s j = 0) (fun i => ⟨[(8, sV (.int .i64 i)), (1, .one (.a 1 0))], [(1, .var (s.cs.map .b))]⟩) (fun i => s.held.length - i) 0 ⟨Nat.zero_le _, fun j hj => by omega⟩ ?_ ?_
         · exact ⟨⟨rfl, ⟨rfl, rfl, rfl⟩, trivial⟩, ⟨lcr, trivial⟩, rfl⟩
         · intro i ⟨hi, h0⟩ J hJ
           refine xb rfl ?_ ?_ <;> intro h
           · have h : i < s.held.length := by simpa using h
             obtain ⟨x, hx⟩ := gx h
             have hg := gm Con.cs hx
             have hcl := o6 x (List.mem_of_getElem? hx)
             have hlx : (zn x s.idx).length ≤ 1048576 := Nat.le_trans (List.length_filter_le _ _) (by omega)
             refine yd rfl (ι := Nat) (fun k => k ≤ i ∧ ∀ j y, j < k → s.held[j]? = some y → z5e (zn x s.idx) (zn y s.idx) = false) (fun k => ⟨[(9, sV (.int .i64 k)), (8, sV (.int .i64 i)), (1, .one (.a 1 0))], [(1, .var (s.cs.map .b))]⟩) (fun k => i - k) 0 ⟨Nat.zero_le _, fun j y hj => by omega⟩ ?_ ?_
             · exact ⟨⟨rfl, rfl, ⟨rfl, rfl, rfl⟩, trivial⟩, ⟨lcr, trivial⟩, rfl⟩
             · intro k ⟨hk, h1⟩ J2 hJ2
               refine xb rfl (fun h' => ?_) (fun h' => ?_)
               · have h' : k < i := by simpa using h'
                 obtain ⟨y, hy⟩ := gx (xs := s.held) (i := k) (by omega)
                 have hg2 := gm Con.cs hy
                 have hcl2 := o6 y (List.mem_of_getElem? hy)
                 have hly : (zn y s.idx).length ≤ 1048576 := Nat.le_trans (List.length_filter_le _ _) (by omega)
                 have hyt : (s.held.take i)[k]? = some y := by rw [List.getElem?_take, if_pos h', hy]
                 refine qd rfl [] (.take 0 [] (.take 1 [3, 4, 7, 15, 16] (Tk [2, 3] (.take 4 [7, 15, 16] (.take 5 [] (.take 6 [7, 15, 16] (.take 8 [] (.take 9 [11, 12, 15, 16] (Tk [10, 11] (.take 12 [15, 16] (.take 13 [] (.take 14 [15, 16] (.alt 7 (.alt 15 (.alt 16 .done .nil) .nil) .nil))))))))))))) (by kernel_rfl) (xs rfl (nn_ _) (y9 rfl _ hg (xs rfl rfl (xs rfl (nn_ _) (y9 rfl _ hg2 (xs rfl rfl (z7 rfl (q1n _ _ (by omega)) rfl ⟨tv3, trivial, trivial⟩ (z7 rfl (q1n _ _ (by omega)) rfl ⟨tv3, trivial, trivial⟩ (z7 rfl (q86 _ _ (by assumption) (by assumption)) rfl ⟨rfl, rfl, trivial⟩ ?_)))))))))
                 refine xb rfl ?_ ?_ <;> intro b0
                 refine xv rfl rfl rfl ?_; rotate_left
                 rotate_left
                 · have ha := (zu (p := fun own : Con => z5e (zn x s.idx) (zn own s.idx)) hyt b0).symm
                   have hc7 : z1g s i = 7 := by simp only [z1g, hx]; rw [if_pos ha]
                   exact vi (y4l hH hO hA (y77 (q8 h h0 hc7 (by decide)) (by decide)))
                 · exact q9 rfl (hJ2 _ (k + 1) ⟨by omega, qg hy h1 b0⟩ (by omega) ⟨⟨cwi (by omega) (by omega) (by omega), rfl, ⟨rfl, rfl, rfl⟩, trivial⟩, ⟨lcr, trivial⟩, rfl⟩)
               · have h' : ¬ k < i := by simpa using h'
                 have hnone := any_none (p := fun own : Con => z5e (zn x s.idx) (zn own s.idx)) (l := s.held.take i) (fun j y hj => by
                  rw [List.getElem?_take] at hj
                  split at hj
                  · exact h1 j y (by omega) hj
                  · cases hj)
                 have hc0 : z1g s i = 0 := by simp only [z1g, hx]; rw [if_neg (by rw [← hnone]; decide)]
                 skip
                 exact q9 rfl (hJ _ (i + 1) ⟨by omega, zc h0 hc0⟩ (by omega) ⟨⟨cwi (by omega) (by omega) (by omega), ⟨rfl, rfl, rfl⟩, trivial⟩, ⟨lcr, trivial⟩, rfl⟩)
           · have h : ¬ i < s.held.length := by simpa using h
             have hM := zg (f := z1g s) (n := s.held.length) (fun j hj => h0 j (by omega))
             clear hJ h0
             refine yd rfl (ι := Nat) (fun i => i ≤ s.held.length ∧ ∀ j, j < i → y6r z3q s j = 0) (fun i => ⟨[(10, sV (.int .i64 i)), (1, .one (.a 1 0))], [(1, .var (s.cs.map .b))]⟩) (fun i => s.held.length - i) 0 ⟨Nat.zero_le _, fun j hj => by omega⟩ ?_ ?_
             · exact ⟨⟨rfl, ⟨rfl, rfl, rfl⟩, trivial⟩, ⟨lcr, trivial⟩, rfl⟩
             · intro i ⟨hi, h0⟩ J hJ
               refine xb rfl ?_ ?_ <;> intro h
               · have h : i < s.held.length := by simpa using h
                 obtain ⟨x, hx⟩ := gx h
                 have hg := gm Con.cs hx
                 have hxm := List.mem_of_getElem? hx
                 have hcl := o6 x hxm
                 have hlx : (zn x s.idx).length ≤ 1048576 := Nat.le_trans (List.length_filter_le _ _) (by omega)
                 refine qd rfl [] (.take 0 [] (.take 1 [10, 11] (.take 2 [] (.take 3 [5, 6, 9, 10, 11] (Tk [4, 5] (.take 6 (Rg 9 3) (.take 7 [] (.take 8 (Rg 9 3) (.alt 9 (.alt 10 (.take 11 [] .done) .nil) .nil))))))))) (by kernel_rfl) (xs rfl (nn_ _) (y9 rfl _ hg (xs rfl rfl (z7 rfl (q1n _ _ (by omega)) rfl ⟨tv3, trivial, trivial⟩ (z7 rfl (q74 s.bals (zn x s.idx) o1 hlx (q7p hB (hcon x hxm))) rfl ⟨trivial, rfl, trivial⟩ ?_)))))
                 refine xb rfl ?_ ?_ <;> intro b0
                 refine xv rfl rfl rfl ?_; rotate_left
                 rotate_left
                 · exact vi (y4l hH hO hA (z42 hM (q8 h h0 (by simp_all [y6r]) (by simpa using b0))))
                 · exact q9 rfl (hJ _ (i + 1) ⟨by omega, zc h0 (by simp_all [y6r])⟩ (by omega) ⟨⟨cwi (by omega) (by omega) (by omega), ⟨rfl, rfl, rfl⟩, trivial⟩, ⟨lcr, trivial⟩, rfl⟩)
               · have h : ¬ i < s.held.length := by simpa using h
                 have hF := zg (f := y6r z3q s) (n := s.held.length) (fun j hj => h0 j (by omega))
                 refine xv rfl rfl rfl ?_
                 exact vi (y4l hH hO hA (z42 hM hF.symm))
theorem y86 (s : Shd) (ho : q4q s) : PC Tryz.prog 176 [.agg s.cs] (rI (yp s)) := by
 refine PC.begin Tryz.func176 rfl (by kernel_rfl) ?_
 have ho' := ho
 obtain ⟨o1, o2, o3, o4, o5, o6⟩ := ho'
 refine z7 rfl (y6t _ _ (by assumption)) rfl tv3 ?_
 refine xb rfl ?_ ?_ <;> intro b0
 refine xv rfl rfl rfl ?_; rotate_left
 refine xb rfl ?_ ?_ <;> intro b1
 refine xj (k := 15) rfl ?_
 refine xv rfl rfl rfl ?_; rotate_left
 refine xj (k := 4) rfl ?_
 refine xb rfl ?_ ?_ <;> intro b2
 refine xj (k := 10) rfl ?_
 refine xv rfl rfl rfl ?_; rotate_left
 refine xj (k := 4) rfl ?_
 refine xb rfl ?_ ?_ <;> intro b3
 refine xj (k := 5) rfl ?_
 refine xv rfl rfl rfl ?_; rotate_left
 refine xj (k := 4) rfl ?_
 refine xb rfl ?_ ?_ <;> intro b4
 refine xv rfl rfl rfl ?_; rotate_left
 refine z7 rfl (q58 _ (by omega)) rfl ⟨trivial, trivial⟩ ?_
 refine xb rfl ?_ ?_ <;> intro b5
 refine xv rfl rfl rfl ?_; rotate_left
 refine z7 rfl (q58 _ (by omega)) rfl ⟨trivial, trivial⟩ ?_
 refine xb rfl ?_ ?_ <;> intro b6
 refine xv rfl rfl rfl ?_; rotate_left
 refine z7 rfl (y90 s ho (z9a b0).2) rfl ⟨tv7, trivial⟩ ?_
 refine xv rfl rfl rfl ?_; rotate_left
 · exact vi (z59 b0)
 all_goals (have e : ∀ n : Nat, (100 < (n : Int)) = (100 < n) := fun n => by apply propext; omega)
 all_goals (have e' : ∀ n : Nat, ((n : Int) ≤ 100) = (n ≤ 100) := fun n => by apply propext; omega)
 all_goals (refine vi (y59 (z9a b0) ?_); clear b0; simp_all [many]; try (intros; exfalso; omega))
theorem y89 (us : List Int) (hu : us.length < 65536) : PC Tryz.prog 339 [.one (.f 367 [.p [.l (ints us)]])] (.one (.own false [.l 1 (ints (q1b us))])) := by
 refine PC.begin Tryz.func339 rfl (by kernel_rfl) ?_
 have hc := q6o us (by omega)
 have hq := y92 us (by omega)
 have hms : (ints us).length = (ints (q1b us)).length := by simp [ints, q1b]
 refine z7 rfl (hc) rfl ⟨trivial, trivial⟩ (y0u rfl (hq) ⟨⟨rfl, rfl, rfl, rfl⟩, trivial⟩ rfl ?_)
 refine xr rfl (qm rfl ⟨⟨rfl, ⟨?_, rfl, .inl rfl⟩, trivial⟩, z6 rfl⟩)
 exact hms
theorem y7l (us vs : List Int) (hx : us.length ≤ 1048576) : PC Tryz.prog 338 [.one (.l (ints us)), .one (.l (ints vs))] (rB (us == vs)) := by
 refine PC.begin Tryz.func338 rfl (by kernel_rfl) ?_
 have hle : (ints us).length = us.length := by simp
 have hle2 : (ints vs).length = vs.length := by simp
 refine xb rfl ?_ ?_ <;> intro h0
 · have hne : ¬ us.length = vs.length := by simp at h0; omega
   refine xv rfl rfl rfl ?_
   all_goals (refine vb ?_; rw [eq_comm, beq_eq_false_iff_ne]; exact fun e => hne (by rw [e]))
 · have he : us.length = vs.length := by simp at h0; omega
   refine yd rfl (ι := Nat) (fun i => i ≤ us.length ∧ us.take i = vs.take i) (fun i => ⟨[(13, sV (.int .i64 i)), (12, sV (.int .i64 (ints us).length)), (0, .one (.b (.l (ints us)))), (1, .one (.b (.l (ints vs))))], []⟩) (fun i => us.length - i) 0 ⟨Nat.zero_le _, rfl⟩ ?_ ?_
   · exact ⟨⟨rfl, rfl, rfl, rfl, trivial⟩, trivial, rfl⟩
   · intro i ⟨hi, hq⟩ J hJ
     refine xb rfl ?_ ?_ <;> intro h
     · have h : i < us.length := by simpa using h
       obtain ⟨x, hx1⟩ := gx h
       obtain ⟨y, hy1⟩ := gx (xs := vs) (i := i) (by omega)
       have hg := gm (fun n => [i64 n]) hx1
       have hg2 := gm (fun n => [i64 n]) hy1
       refine qd rfl [] (Tk [0, 1, 2] (.take 3 [8] (Tk [4, 5, 6] (.take 7 [8] (.take 8 [] .done))))) (by kernel_rfl) (xs rfl (nn_ _) (y9 rfl _ hg (xs rfl rfl (xs rfl (nn_ _) (y9 rfl _ hg2 (xs rfl rfl ?_))))))
       refine xb rfl ?_ ?_ <;> intro b0
       refine xv rfl rfl rfl ?_; rotate_left
       rotate_left
       · refine vb ?_; rw [eq_comm, beq_eq_false_iff_ne]; intro e; subst e; rw [hx1] at hy1; cases hy1; simp at b0
       · have e : x = y := by simpa using b0
         exact q9 rfl (hJ _ (i + 1) ⟨by omega, by rw [List.take_add_one, List.take_add_one, hx1, hy1, hq, e]⟩ (by omega) ⟨⟨cwi (by omega) (by omega) (by omega), rfl, rfl, rfl, trivial⟩, trivial, rfl⟩)
     · have h : i = us.length := by have : ¬ i < us.length := (by simpa using h); omega
       rw [h, List.take_length, he, List.take_length] at hq
       refine xv rfl rfl rfl ?_
       all_goals (refine vb ?_; rw [hq]; simp)
theorem z4s (s : Shd) (ho : q4q s) (ha : s.app.length < 65536) (hd : yi s.done = 0) : PC Tryz.prog 275 [.agg s.cs] (rB (z66 s)) := by
 refine PC.begin Tryz.func275 rfl (by kernel_rfl) ?_
 obtain ⟨o1, o2, o3, o4, o5, o6⟩ := ho
 rw [← q6m hd]
 have hle : (s.done.map Mk.cs).length = s.done.length := by simp
 have hms : (q1b s.app).length = s.app.length := (List.mergeSort_perm s.app _).length_eq
 have hv := y8f (ints s.app)
 have hso := y89 s.app ha
 have hq := y7l (q1b s.app) (dnI s.done) (by omega)
 refine xs rfl trivial ?_
 refine yd rfl (ι := Nat) (fun i => i ≤ s.done.length) (fun i => ⟨[(10, sV (.int .i64 i)), (3, .one (.h 6 (dnI (s.done.take i)).length)), (1, .one (.a 1 0)), (8, .one (.b (.l (s.done.map Mk.cs)))), (9, sV (.int .i64 (s.done.map Mk.cs).length))], [(6, .arr true 1 0 (ints (dnI (s.done.take i)))), (1, .var (s.cs.map .b))]⟩) (fun i => s.done.length - i) 0 (Nat.zero_le _) ?_ ?_
 · exact ⟨⟨rfl, ⟨rfl, rfl, rfl⟩, ⟨rfl, rfl, rfl⟩, rfl, rfl, trivial⟩, ⟨⟨rfl, .inl rfl, .inl rfl⟩, lcr, trivial⟩, rfl⟩
 · intro i hi J hJ
   refine xb rfl ?_ ?_ <;> intro h
   · have h : i < s.done.length := by simpa using h
     obtain ⟨x, hx⟩ := gx h
     have hg := gm Mk.cs hx
     have hf := z8o hx
     have hfl : (dnI (s.done.take i)).length ≤ i := by rw [y7j]; exact q69 _ _
     refine xs rfl (by simp) (y9 rfl _ hg (xs rfl rfl ?_))
     refine xb rfl ?_ ?_ <;> intro b0
     refine xs rfl ⟨trivial, trivial⟩ (xs rfl (by simp) (xs rfl rfl (xs rfl (.inl rfl) (xs rfl (by simp; omega) ?_))))
     refine xs rfl (by simp; omega) ?_; rotate_left
     rotate_left
     · rw [if_pos (by simpa using b0)] at hf
       exact q9 rfl (hJ _ (i + 1) (by omega) (by omega) ⟨⟨cwi (by omega) (by omega) (by omega), ⟨rfl, by rw [hf]; simp, rfl⟩, ⟨rfl, rfl, rfl⟩, rfl, rfl, trivial⟩, ⟨⟨by rw [hf]; simp, .inl rfl, .inl rfl⟩, lcr, trivial⟩, rfl⟩)
     · rw [if_neg (by simpa using b0)] at hf
       exact q9 rfl (hJ _ (i + 1) (by omega) (by omega) ⟨⟨cwi (by omega) (by omega) (by omega), ⟨rfl, by rw [hf], rfl⟩, ⟨rfl, rfl, rfl⟩, rfl, rfl, trivial⟩, ⟨⟨by rw [hf], .inl rfl, .inl rfl⟩, lcr, trivial⟩, rfl⟩)
   · have h : i = s.done.length := by have : ¬ i < s.done.length := (by simpa using h); omega
     subst h
     rw [List.take_length]
     have hdl : (ints (dnI s.done)).length = (dnI s.done).length := by simp
     refine z7 rfl (hv) rfl ⟨trivial, trivial⟩ (z7 rfl (hso) rfl ⟨trivial, trivial⟩ (z7 rfl hq rfl ⟨rfl, hdl.symm, trivial⟩ ?_))
     exact xr rfl (qm rfl ⟨⟨rfl, rfl, trivial⟩, z6 rfl⟩)
theorem z88 (s : Shd) (ho : q4q s) : PC Tryz.prog 199 [.agg s.cs] (rI (yp s)) := by
 rw [← z4l s]
 have hA : many s = false → yi s.done = 0 → PC Tryz.prog 275 [.agg s.cs] (rB (z66 s)) := fun h1 h2 => z4s s ho (by simp [many] at h1; omega) h2
 refine PC.begin Tryz.func199 rfl (by kernel_rfl) ?_
 have ho' := ho
 obtain ⟨o1, o2, o3, o4, o5, o6⟩ := ho'
 have hm := ya0 s
 refine z7 rfl (y2f _) rfl ⟨trivial, trivial⟩ ?_
 refine xb rfl ?_ ?_ <;> intro b0
 refine xv rfl rfl rfl ?_; rotate_left
 refine z7 rfl (z8r _ (by omega)) rfl ⟨trivial, trivial⟩ ?_
 refine xb rfl ?_ ?_ <;> intro b1
 refine xv rfl rfl rfl ?_; rotate_left
 refine xb rfl ?_ ?_ <;> intro b2
 refine xv rfl rfl rfl ?_; rotate_left
 refine qd rfl [] (.take 0 [] (.take 1 [2, 5, 7, 8, 9, 10] (.take 3 [] (.take 4 [5, 7, 8, 9, 10] (.take 6 (Rg 7 4) (.alt 2 (.alt 5 (.alt 7 (.alt 8 (.alt 9 (.take 10 [] .done) .nil) .nil) .nil) .nil) .nil)))))) (by kernel_rfl) (z7 rfl (y50 _ _ q0o o2) rfl ⟨trivial, (fun _ h => nomatch h), trivial⟩ (z7 rfl (y50 _ _ y2n o4) rfl ⟨trivial, (fun _ h => nomatch h), trivial⟩ (z7 rfl (y4z _ (by assumption)) rfl ⟨tv7, trivial⟩ (xs rfl tv4 (z7 rfl (z2d [_, _, _] (by simp)) rfl ⟨rfl, trivial⟩ ?_)))))
 refine xb rfl ?_ ?_ <;> intro b3
 refine xv rfl rfl rfl ?_; rotate_left
 refine z7 rfl (yaj _ s.votes (z6z s) _ s rfl (fun m _ => y7s s m ho) o2) rfl tv3 ?_
 refine xb rfl ?_ ?_ <;> intro b4
 refine xj (k := 4) rfl ?_
 refine xv rfl rfl rfl ?_; rotate_left
 refine xj (k := 1) rfl (z7 rfl (hA (hm.symm.trans b2) (ybn b3).2.1) rfl ⟨tv7, trivial⟩ (xj (k := 2) rfl ?_))
 refine xb rfl ?_ ?_ <;> intro b5
 refine xv rfl rfl rfl ?_; rotate_left
 refine z7 rfl (q37 s ho (fun c hc => y8q (by simpa using b1) (z4d (mk := z26) (ybn b3).2.2 c hc))) rfl ⟨tv7, trivial⟩ ?_
 refine xv rfl rfl rfl ?_; rotate_left
 all_goals (refine vi ?_; unfold q1z; simp_all)
theorem y0a (v : Int) : PC Tryz.prog 284 [.one (i64 v)] (rB (within v 0 1000)) := by
 refine PC.begin Tryz.func284 rfl (by kernel_rfl) ?_
 refine z7 rfl (zo _ _ _) rfl tv4 ?_
 refine xr rfl (qm rfl ⟨⟨rfl, rfl, trivial⟩, z6 rfl⟩)
theorem y01 (v : Int) : PC Tryz.prog 181 [.one (i64 v)] (rB (within v 0 1000)) := by
 refine PC.begin Tryz.func181 rfl (by kernel_rfl) ?_
 refine z7 rfl (qi _ _ _) rfl tv4 ?_
 refine xr rfl (qm rfl ⟨⟨rfl, rfl, trivial⟩, z6 rfl⟩)
theorem y0b (v : Int) : PC Tryz.prog 182 [.one (i64 v)] (rB (within v 1 2)) := by
 refine PC.begin Tryz.func182 rfl (by kernel_rfl) ?_
 refine xb rfl ?_ ?_ <;> intro b0
 refine xj (k := 2) rfl ?_
 refine xv rfl rfl rfl ?_; rotate_left
 refine xj (k := 2) rfl ?_
 refine xv rfl rfl rfl ?_; rotate_left
 all_goals (refine vb ?_; rw [Bool.eq_iff_iff]; (simp_all [within] <;> omega))
theorem q24 (x : Vt) : PC Tryz.prog 289 [.agg x.cs] (rB x.ok) := by
 refine PC.begin Tryz.func289 rfl (by kernel_rfl) ?_
 refine z7 rfl (y0a _) rfl ⟨trivial, trivial⟩ ?_
 refine xb rfl ?_ ?_ <;> intro b0
 refine xj (k := 2) rfl (z7 rfl (q0o _) rfl ⟨trivial, trivial⟩ (xj (k := 1) rfl ?_))
 refine xv rfl rfl rfl ?_; rotate_left
 refine xj (k := 3) rfl ?_
 refine xv rfl rfl rfl ?_; rotate_left
 all_goals (refine vb ?_; simp_all [Vt.ok])
theorem q1x (x : Vt) : PC Tryz.prog 186 [.agg x.cs] (rB x.ok) := by
 refine PC.begin Tryz.func186 rfl (by kernel_rfl) ?_
 refine z7 rfl (y01 _) rfl ⟨trivial, trivial⟩ ?_
 refine xb rfl ?_ ?_ <;> intro b0
 refine xj (k := 2) rfl (z7 rfl (y0b _) rfl ⟨trivial, trivial⟩ (xj (k := 1) rfl ?_))
 refine xv rfl rfl rfl ?_; rotate_left
 refine xj (k := 3) rfl ?_
 refine xv rfl rfl rfl ?_; rotate_left
 all_goals (refine vb ?_; simp_all [Vt.ok])
theorem q22 {a b c d : Int} : y1d [.int .i64 a, .int .i64 b] [.int .i64 c, .int .i64 d] = (a == c && b == d) := by simp [y1d]
abbrev rVt (x : Vt) : Res := .one (.own true [.s (.int .i64 x.b), .s (.int .i64 x.v)])
theorem z3a : PC Tryz.prog 288 [] (rVt Vt.none) := by
 refine PC.begin Tryz.func288 rfl (by kernel_rfl) ?_
 refine xr rfl (qm rfl ⟨⟨rfl, rfl, rfl, trivial⟩, z6 rfl⟩)
theorem z25 : PC Tryz.prog 185 [] (rVt Vt.none) := by
 refine PC.begin Tryz.func185 rfl (by kernel_rfl) ?_
 refine xr rfl (qm rfl ⟨⟨rfl, rfl, rfl, trivial⟩, z6 rfl⟩)
theorem yan {α β : Type} {us : List α} {x : α} (f : α → β) (h0 : 0 < us.length) (h : us.length ≤ 1048576) (hx : us[us.length - 1]? = some x) : (us.map f)[(IntKind.i64.wrap (((us.map f).length : Int) - 1)).toNat]? = some (f x) := by
 rw [List.length_map]; exact y1b f h0 (by omega) hx
theorem qaw {α β : Type} {us : List α} (f : α → β) (h0 : 0 < us.length) (h : us.length ≤ 1048576) : 0 ≤ IntKind.i64.wrap (((us.map f).length : Int) - 1) := by rw [List.length_map]; exact q0n h0 (by omega)
theorem z5p (us : List Vt) (hl : us.length ≤ 1048576) : PC Tryz.prog 346 [.one (.l (us.map Vt.cs))] (rVt (y3p us)) := by
 refine PC.begin Tryz.func346 rfl (by kernel_rfl) ?_
 by_cases h0 : us.length = 0
 · have e : us = [] := List.eq_nil_of_length_eq_zero h0
   have e2 : y3p us = Vt.none := by rw [e]; rfl
   rw [e2]
   refine xb rfl ?_ ?_ <;> intro b0
   refine z7 rfl (z3a) rfl trivial ?_
   refine xr rfl (qm rfl ⟨⟨rfl, rfl, rfl, trivial⟩, z6 rfl⟩)
   exact absurd b0 (by simp; omega)
   all_goals first | done | (exfalso; simp_all; done) | skip
 · obtain ⟨x, hx⟩ := gx (xs := us) (i := us.length - 1) (by omega)
   have e2 : y3p us = x := by unfold y3p; rw [hx]; rfl
   rw [e2]
   have hg := yan Vt.cs (by omega) hl hx
   refine xb rfl ?_ ?_ <;> intro b0
   exact absurd b0 (by simp [*])
   refine xs rfl (qaw Vt.cs (by omega) hl) (y9 rfl _ hg (xs rfl rfl ?_))
   refine xr rfl (qm rfl ⟨⟨rfl, rfl, rfl, trivial⟩, z6 rfl⟩)
   all_goals first | done | (exfalso; simp_all; done) | skip
theorem y7t (s : Slt) (hl : s.cast.length ≤ 1048576) : PC Tryz.prog 308 [.agg s.cs] (rVt (y3p s.cast)) := by
 refine PC.begin Tryz.func308 rfl (by kernel_rfl) ?_
 by_cases h0 : s.cast.length = 0
 · have e : s.cast = [] := List.eq_nil_of_length_eq_zero h0
   have e2 : y3p s.cast = Vt.none := by rw [e]; rfl
   rw [e2]
   refine xb rfl ?_ ?_ <;> intro b0
   refine z7 rfl (z25) rfl trivial ?_
   refine xr rfl (qm rfl ⟨⟨rfl, rfl, rfl, trivial⟩, z6 rfl⟩)
   exact absurd b0 (by simp; omega)
   all_goals first | done | (exfalso; simp_all; done) | skip
 · obtain ⟨x, hx⟩ := gx (xs := s.cast) (i := s.cast.length - 1) (by omega)
   have e2 : y3p s.cast = x := by unfold y3p; rw [hx]; rfl
   rw [e2]
   have hg := yan Vt.cs (by omega) hl hx
   refine xb rfl ?_ ?_ <;> intro b0
   exact absurd b0 (by simp [*])
   refine xs rfl (qaw Vt.cs (by omega) hl) (y9 rfl _ hg (xs rfl rfl ?_))
   refine xr rfl (qm rfl ⟨⟨rfl, rfl, rfl, trivial⟩, z6 rfl⟩)
   all_goals first | done | (exfalso; simp_all; done) | skip
theorem q4t (us : List Vt) (hl : us.length ≤ 1048576) : PC Tryz.prog 345 [.one (.l (us.map Vt.cs))] (rI (scan (q13 us) us.length)) := by
 refine PC.begin Tryz.func345 rfl (by kernel_rfl) ?_
 have hle : (us.map Vt.cs).length = us.length := by simp
 refine yd rfl (ι := Nat) (fun i => i ≤ us.length ∧ ∀ j, j < i → q13 us j = 0) (fun i => ⟨[(7, sV (.int .i64 i)), (6, sV (.int .i64 (us.map Vt.cs).length)), (5, .one (.b (.l (us.map Vt.cs)))), (0, .one (.b (.l (us.map Vt.cs))))], []⟩) (fun i => us.length - i) 0 ⟨Nat.zero_le _, fun j hj => by omega⟩ ?_ ?_
 · exact ⟨⟨rfl, rfl, rfl, rfl, trivial⟩, trivial, rfl⟩
 · intro i ⟨hi, h0⟩ J hJ
   refine xb rfl ?_ ?_ <;> intro h
   · have h : i < us.length := by simpa using h
     obtain ⟨x, hx⟩ := gx h
     have hg := gm Vt.cs hx
     rcases Nat.eq_zero_or_pos i with hz | hz
     · subst hz
       refine xs rfl (nn_ _) (y9 rfl _ hg (xs rfl rfl (z7 rfl (q24 _) rfl ⟨tv3, trivial⟩ ?_)))
       refine xb rfl ?_ ?_ <;> intro b0
       refine xv rfl rfl rfl ?_; rotate_left
       refine qd rfl [] (Tk (Rg 0 4) (.take 4 (Rg 11 25) (Tk (Rg 5 5) (.take 10 (Rg 11 25) (Tk [11, 12, 13] (.take 14 (Rg 21 15) (Tk (Rg 15 5) (.take 20 (Rg 21 15) (Tk [21, 22, 23] (.take 24 (Rg 31 5) (Tk (Rg 25 5) (.take 30 (Rg 31 5) (Tk (Rg 31 5) .done))))))))))))) (by kernel_rfl) ?_
       refine xj (k := 13) rfl ?_; rotate_left
       all_goals (first | (refine vi (q8 h h0 ?_ (by first | decide | decide | simp_all)); clear hJ h0 hg; simp_all [q13, ahead_zero]; done) | (refine q9 rfl (hJ _ 1 ⟨by omega, zc h0 ?_⟩ (by omega) ⟨⟨cwi (by omega) (by omega) (by omega), rfl, rfl, rfl, trivial⟩, trivial, rfl⟩); clear hJ h0 hg; simp_all [q13, ahead_zero]; done) | skip)
     · obtain ⟨p, hp⟩ := gx (xs := us) (i := i - 1) (by omega)
       have hgp := y1b Vt.cs hz (by omega) hp
       refine xs rfl (nn_ _) (y9 rfl _ hg (xs rfl rfl (z7 rfl (q24 _) rfl ⟨tv3, trivial⟩ ?_)))
       refine xb rfl ?_ ?_ <;> intro b0
       refine xv rfl rfl rfl ?_; rotate_left
       refine qd rfl [] (Tk (Rg 0 4) (.take 4 (Rg 11 25) (Tk (Rg 5 5) (.take 10 (Rg 11 25) (Tk [11, 12, 13] (.take 14 (Rg 21 15) (Tk (Rg 15 5) (.take 20 (Rg 21 15) (Tk [21, 22, 23] (.take 24 (Rg 31 5) (Tk (Rg 25 5) (.take 30 (Rg 31 5) (Tk (Rg 31 5) .done))))))))))))) (by kernel_rfl) ?_
       refine xb rfl ?_ ?_ <;> intro b1
       refine xj (k := 5) rfl (xs rfl (q0n hz (by omega)) (y9 rfl _ hgp (xs rfl rfl (xj (k := 4) rfl ?_))))
       refine xb rfl ?_ ?_ <;> intro b2
       refine xj (k := 14) rfl ?_
       refine xv rfl rfl rfl ?_; rotate_left
       refine xj (k := 5) rfl (xs rfl (q0n hz (by omega)) (y9 rfl _ hgp (xs rfl rfl (xj (k := 4) rfl ?_))))
       refine xb rfl ?_ ?_ <;> intro b3
       refine xj (k := 5) rfl (xs rfl (q0n hz (by omega)) (y9 rfl _ hgp (xs rfl rfl (xj (k := 8) rfl ?_))))
       refine xb rfl ?_ ?_ <;> intro b4
       refine xv rfl rfl rfl ?_; rotate_left
       rotate_left
       refine xj (k := 14) rfl ?_; rotate_left
       refine xj (k := 12) rfl ?_; rotate_left
       all_goals (first | (refine vi (q8 h h0 ?_ (by first | decide | decide | simp_all)); clear hJ h0 hg hgp; simp_all [q13, ya hz hp]; done) | (refine q9 rfl (hJ _ (i + 1) ⟨by omega, zc h0 ?_⟩ (by omega) ⟨⟨cwi (by omega) (by omega) (by omega), rfl, rfl, rfl, trivial⟩, trivial, rfl⟩); clear hJ h0 hg hgp; simp_all [q13, ya hz hp]; done) | skip)
   · have h : ¬ i < us.length := by simpa using h
     have hz := zg (f := q13 us) (n := us.length) (fun j hj => h0 j (by omega))
     clear hJ
     refine xv rfl rfl rfl ?_
     exact vi (hz.symm)
theorem y6b (s : Slt) (hl : s.cast.length ≤ 1048576) : PC Tryz.prog 279 [.agg s.cs] (rI s.fault) := by
 refine PC.begin Tryz.func279 rfl (by kernel_rfl) ?_
 have hle : (s.cast.map Vt.cs).length = s.cast.length := by simp
 refine z7 rfl (y4e _) rfl ⟨trivial, trivial⟩ ?_
 refine xb rfl ?_ ?_ <;> intro b0
 refine xj (k := 10) rfl ?_
 refine xv rfl rfl rfl ?_; rotate_left
 refine xj (k := 2) rfl (z7 rfl (y2f _) rfl ⟨trivial, trivial⟩ (xj (k := 2) rfl ?_))
 refine xb rfl ?_ ?_ <;> intro b1
 refine xj (k := 5) rfl ?_
 refine xv rfl rfl rfl ?_; rotate_left
 refine xj (k := 2) rfl (z7 rfl (zo _ _ _) rfl tv4 (xj (k := 2) rfl ?_))
 refine xb rfl ?_ ?_ <;> intro b2
 refine xv rfl rfl rfl ?_; rotate_left
 refine xb rfl ?_ ?_ <;> intro b3
 refine xv rfl rfl rfl ?_; rotate_left
 refine z7 rfl (q4t _ hl) rfl ⟨trivial, trivial⟩ ?_
 refine xb rfl ?_ ?_ <;> intro b4
 refine xv rfl rfl rfl ?_; rotate_left
 refine qd rfl [] (.take 0 [] (.take 1 (Rg 5 9) (.take 2 [] (.take 3 (Rg 4 10) (.alt 4 (Tk (Rg 5 4) (.take 9 [12, 13] (.take 10 [] (.take 11 [12, 13] (Tk [12, 13] .done))))) .nil))))) (by kernel_rfl) (z7 rfl (z5p _ hl) rfl ⟨trivial, trivial⟩ ?_)
 refine xb rfl ?_ ?_ <;> intro b5
 refine xj (k := 7) rfl ?_
 refine xv rfl rfl rfl ?_; rotate_left
 refine xj (k := 6) rfl ?_
 refine xb rfl ?_ ?_ <;> intro b6
 refine xv rfl rfl rfl ?_; rotate_left
 refine xv rfl rfl rfl ?_; rotate_left
 all_goals ((refine vi ?_; unfold Slt.fault; simp only [hle] at *; simp_all [q22]; first | done | omega | ((repeat' split) <;> first | rfl | omega | (simp_all; done) | (simp_all; omega))))
theorem z6h (s : Slt) (hl : s.cast.length ≤ 1048576) : PC Tryz.prog 226 [.agg s.cs] (rI s.fault) := by
 refine PC.begin Tryz.func226 rfl (by kernel_rfl) ?_
 have hle : (s.cast.map Vt.cs).length = s.cast.length := by simp
 refine z7 rfl (q4e _) rfl ⟨trivial, trivial⟩ ?_
 refine xb rfl ?_ ?_ <;> intro b0
 refine xj (k := 10) rfl ?_
 refine xv rfl rfl rfl ?_; rotate_left
 refine xj (k := 2) rfl (z7 rfl (qi _ _ _) rfl tv4 (xj (k := 2) rfl ?_))
 refine xb rfl ?_ ?_ <;> intro b1
 refine xj (k := 5) rfl ?_
 refine xv rfl rfl rfl ?_; rotate_left
 refine xj (k := 2) rfl (z7 rfl (qi _ _ _) rfl tv4 (xj (k := 2) rfl ?_))
 refine xb rfl ?_ ?_ <;> intro b2
 refine xv rfl rfl rfl ?_; rotate_left
 refine xb rfl ?_ ?_ <;> intro b3
 refine xv rfl rfl rfl ?_; rotate_left
 rotate_left
 all_goals first | ((refine vi ?_; unfold Slt.fault; simp only [hle] at *; simp_all [q22]; first | done | omega | ((repeat' split) <;> first | rfl | omega | (simp_all; done) | (simp_all; omega))); done) | skip
 refine yd rfl (ι := Nat) (fun i => i ≤ s.cast.length ∧ ∀ j, j < i → q13 s.cast j = 0) (fun i => ⟨[(3, sV (.int .i64 i)), (1, .one (.a 1 0))], [(1, .var (s.cs.map .b))]⟩) (fun i => s.cast.length - i) 0 ⟨Nat.zero_le _, fun j hj => by omega⟩ ?_ ?_
 · exact ⟨⟨rfl, ⟨rfl, rfl, rfl⟩, trivial⟩, ⟨lcr, trivial⟩, rfl⟩
 · intro i ⟨hi, h0⟩ J hJ
   refine xb rfl ?_ ?_ <;> intro h
   · have h : i < s.cast.length := by simpa using h
     obtain ⟨x, hx⟩ := gx h
     have hg := gm Vt.cs hx
     rcases Nat.eq_zero_or_pos i with hz | hz
     · subst hz
       refine xs rfl (nn_ _) (y9 rfl _ hg (xs rfl rfl (z7 rfl (y01 _) rfl ⟨trivial, trivial⟩ ?_)))
       refine xb rfl ?_ ?_ <;> intro b0
       refine xj (k := 5) rfl ?_
       refine xv rfl rfl rfl ?_; rotate_left
       refine xj (k := 2) rfl (z7 rfl (y0b _) rfl ⟨trivial, trivial⟩ (xj (k := 2) rfl ?_))
       refine xb rfl ?_ ?_ <;> intro b1
       refine xv rfl rfl rfl ?_; rotate_left
       refine qd rfl [] (Tk (Rg 0 4) (.take 4 (Rg 12 26) (.take 5 [] (.take 6 (Rg 9 29) (Tk (Rg 7 4) (.take 11 (Rg 12 26) (Tk [12, 13, 14] (.take 15 (Rg 23 15) (.take 16 [] (.take 17 (Rg 20 18) (Tk (Rg 18 4) (.take 22 (Rg 23 15) (Tk [23, 24, 25] (.take 26 (Rg 34 4) (.take 27 [] (.take 28 (Rg 31 7) (Tk (Rg 29 4) (.take 33 (Rg 34 4) (Tk (Rg 34 4) .done))))))))))))))))))) (by kernel_rfl) ?_
       refine xj (k := 14) rfl ?_; rotate_left
       all_goals (first | (have hsc := q8 (c := 3) h h0 (by clear hJ h0 hg; simp_all [q13, ahead_zero, Vt.ok]; done) (by decide); clear hJ h0 hg; (refine vi ?_; unfold Slt.fault; simp only [hle] at *; simp_all [q22]; first | done | omega | ((repeat' split) <;> first | rfl | omega | (simp_all; done) | (simp_all; omega))); done) | (have hsc := q8 (c := 1) h h0 (by clear hJ h0 hg; simp_all [q13, ahead_zero, Vt.ok]; done) (by decide); clear hJ h0 hg; (refine vi ?_; unfold Slt.fault; simp only [hle] at *; simp_all [q22]; first | done | omega | ((repeat' split) <;> first | rfl | omega | (simp_all; done) | (simp_all; omega))); done) | (refine vi (q8 h h0 ?_ (by first | decide | decide | simp_all)); clear hJ h0 hg; simp_all [q13, ahead_zero, Vt.ok]; done) | (refine q9 rfl (hJ _ 1 ⟨by omega, zc h0 ?_⟩ (by omega) ⟨⟨cwi (by omega) (by omega) (by omega), ⟨rfl, rfl, rfl⟩, trivial⟩, ⟨lcr, trivial⟩, rfl⟩); clear hJ h0 hg; simp_all [q13, ahead_zero, Vt.ok]; done) | skip)
     · obtain ⟨p, hp⟩ := gx (xs := s.cast) (i := i - 1) (by omega)
       have hgp := y1b Vt.cs hz (by omega) hp
       refine xs rfl (nn_ _) (y9 rfl _ hg (xs rfl rfl (z7 rfl (y01 _) rfl ⟨trivial, trivial⟩ ?_)))
       refine xb rfl ?_ ?_ <;> intro b0
       refine xj (k := 5) rfl ?_
       refine xv rfl rfl rfl ?_; rotate_left
       refine xj (k := 2) rfl (z7 rfl (y0b _) rfl ⟨trivial, trivial⟩ (xj (k := 2) rfl ?_))
       refine xb rfl ?_ ?_ <;> intro b1
       refine xv rfl rfl rfl ?_; rotate_left
       refine qd rfl [] (Tk (Rg 0 4) (.take 4 (Rg 12 26) (.take 5 [] (.take 6 (Rg 9 29) (Tk (Rg 7 4) (.take 11 (Rg 12 26) (Tk [12, 13, 14] (.take 15 (Rg 23 15) (.take 16 [] (.take 17 (Rg 20 18) (Tk (Rg 18 4) (.take 22 (Rg 23 15) (Tk [23, 24, 25] (.take 26 (Rg 34 4) (.take 27 [] (.take 28 (Rg 31 7) (Tk (Rg 29 4) (.take 33 (Rg 34 4) (Tk (Rg 34 4) .done))))))))))))))))))) (by kernel_rfl) ?_
       refine xb rfl ?_ ?_ <;> intro b2
       refine xj (k := 6) rfl (xs rfl (q0n hz (by omega)) (y9 rfl _ hgp (xs rfl rfl (xj (k := 4) rfl ?_))))
       refine xb rfl ?_ ?_ <;> intro b3
       refine xj (k := 15) rfl ?_
       refine xv rfl rfl rfl ?_; rotate_left
       refine xj (k := 6) rfl (xs rfl (q0n hz (by omega)) (y9 rfl _ hgp (xs rfl rfl (xj (k := 4) rfl ?_))))
       refine xb rfl ?_ ?_ <;> intro b4
       refine xj (k := 6) rfl (xs rfl (q0n hz (by omega)) (y9 rfl _ hgp (xs rfl rfl (xj (k := 8) rfl ?_))))
       refine xb rfl ?_ ?_ <;> intro b5
       refine xv rfl rfl rfl ?_; rotate_left
       rotate_left
       refine xj (k := 15) rfl ?_; rotate_left
       refine xj (k := 13) rfl ?_; rotate_left
       all_goals (first | (have hsc := q8 (c := 3) h h0 (by clear hJ h0 hg hgp; simp_all [q13, ya hz hp, Vt.ok]; done) (by decide); clear hJ h0 hg; (refine vi ?_; unfold Slt.fault; simp only [hle] at *; simp_all [q22]; first | done | omega | ((repeat' split) <;> first | rfl | omega | (simp_all; done) | (simp_all; omega))); done) | (have hsc := q8 (c := 1) h h0 (by clear hJ h0 hg hgp; simp_all [q13, ya hz hp, Vt.ok]; done) (by decide); clear hJ h0 hg; (refine vi ?_; unfold Slt.fault; simp only [hle] at *; simp_all [q22]; first | done | omega | ((repeat' split) <;> first | rfl | omega | (simp_all; done) | (simp_all; omega))); done) | (refine vi (q8 h h0 ?_ (by first | decide | decide | simp_all)); clear hJ h0 hg hgp; simp_all [q13, ya hz hp, Vt.ok]; done) | (refine q9 rfl (hJ _ (i + 1) ⟨by omega, zc h0 ?_⟩ (by omega) ⟨⟨cwi (by omega) (by omega) (by omega), ⟨rfl, rfl, rfl⟩, trivial⟩, ⟨lcr, trivial⟩, rfl⟩); clear hJ h0 hg hgp; simp_all [q13, ya hz hp, Vt.ok]; done) | skip)
   · have h : ¬ i < s.cast.length := by simpa using h
     have hz := zg (f := q13 s.cast) (n := s.cast.length) (fun j hj => h0 j (by omega))
     clear hJ
     refine qd rfl [] (.take 0 [] (.take 1 (Rg 4 9) (.take 2 (Rg 3 10) (.alt 3 (Tk (Rg 4 4) (.take 8 [11, 12] (.take 9 [] (.take 10 [11, 12] (Tk [11, 12] .done))))) .nil)))) (by kernel_rfl) (z7 rfl (y7t _ hl) rfl ⟨tv7, trivial⟩ ?_)
     refine xb rfl ?_ ?_ <;> intro b0
     refine xj (k := 7) rfl ?_
     refine xv rfl rfl rfl ?_; rotate_left
     refine xj (k := 6) rfl ?_
     refine xb rfl ?_ ?_ <;> intro b1
     refine xv rfl rfl rfl ?_; rotate_left
     refine xv rfl rfl rfl ?_; rotate_left
     all_goals ((refine vi ?_; unfold Slt.fault; simp only [hle] at *; simp_all [q22]; first | done | omega | ((repeat' split) <;> first | rfl | omega | (simp_all; done) | (simp_all; omega))))
theorem y30 (a b : Slt) : PC Tryz.prog 280 [.agg a.cs, .agg b.cs] (rI (orr [y0i a.c b.c, y0i a.s b.s])) := by
 refine PC.begin Tryz.func280 rfl (by kernel_rfl) ?_
 refine qd rfl [] (.take 0 [] (.take 1 [4, 9, 10, 11, 12] (.take 2 [] (.take 3 [4, 9, 10, 11, 12] (.take 5 [] (.take 6 (Rg 9 4) (.take 7 [] (.take 8 (Rg 9 4) (.alt 4 (.alt 9 (.alt 10 (.alt 11 (.take 12 [] .done) .nil) .nil) .nil) .nil))))))))) (by kernel_rfl) (z7 rfl (qu _ _) rfl tv3 (z7 rfl (qu _ _) rfl tv3 (xs rfl tv3 (z7 rfl (q8w [_, _] (by simp)) rfl ⟨rfl, trivial⟩ ?_))))
 refine xr rfl (qm rfl ⟨⟨rfl, rfl, trivial⟩, z6 rfl⟩)
theorem q3w (a b : Slt) : PC Tryz.prog 256 [.agg a.cs, .agg b.cs] (rB (Slt.lt a b)) := by
 refine PC.begin Tryz.func256 rfl (by kernel_rfl) ?_
 refine xb rfl ?_ ?_ <;> intro b0
 refine xv rfl rfl rfl ?_; rotate_left
 refine xv rfl rfl rfl ?_; rotate_left
 all_goals (refine vb ?_; simp_all [Slt.lt])
theorem q9b {p x : Slt} : 0 ≤ orr [y0i p.c x.c, y0i p.s x.s] ↔ Slt.lt p x = false := by
 unfold orr orr orr y0i Slt.lt
 repeat' split
 all_goals (simp; try omega)
theorem z9t (a : Acc) (ho : y43 a) : PC Tryz.prog 204 [.agg a.cs] (rI a.fault) := by
 refine PC.begin Tryz.func204 rfl (by kernel_rfl) ?_
 have hle : (a.slots.map Slt.cs).length = a.slots.length := by simp
 obtain ⟨ho1, ho2⟩ := ho
 refine xb rfl ?_ ?_ <;> intro b0
 refine xv rfl rfl rfl ?_; rotate_left
 rotate_left
 all_goals first | ((refine vi ?_; unfold Acc.fault; simp only [hle] at *; simp_all; first | done | omega | ((repeat' split) <;> first | rfl | omega | (simp_all; done) | (simp_all; omega))); done) | skip
 refine yd rfl (ι := Nat) (fun i => i ≤ a.slots.length ∧ ∀ j, j < i → q3m a.slots j = 0) (fun i => ⟨[(13, sV (.int .i64 i)), (12, sV (.int .i64 (a.slots.map Slt.cs).length)), (11, .one (.b (.l (a.slots.map Slt.cs)))), (1, .one (.a 1 0))], [(1, .var (a.cs.map .b))]⟩) (fun i => a.slots.length - i) 0 ⟨Nat.zero_le _, fun j hj => by omega⟩ ?_ ?_
 · exact ⟨⟨rfl, rfl, rfl, ⟨rfl, rfl, rfl⟩, trivial⟩, ⟨lcr, trivial⟩, rfl⟩
 · intro i ⟨hi, h0⟩ J hJ
   refine xb rfl ?_ ?_ <;> intro h
   · have h : i < a.slots.length := by simpa using h
     obtain ⟨x, hx⟩ := gx h
     have hg := gm Slt.cs hx
     have hxc := ho2 x (List.mem_of_getElem? hx)
     rcases Nat.eq_zero_or_pos i with hz | hz
     · subst hz
       refine xs rfl (nn_ _) (y9 rfl _ hg (xs rfl rfl (z7 rfl (y6b _ (by assumption)) rfl ⟨tv7, trivial⟩ ?_)))
       refine xb rfl ?_ ?_ <;> intro b0
       refine xv rfl rfl rfl ?_; rotate_left
       refine qd rfl [] (Tk (Rg 0 4) (.take 4 [7, 8, 10, 11, 12] (Tk [5, 6, 7] (.take 8 (Rg 10 3) (.take 9 (Rg 10 3) (.alt 10 (Tk [11, 12] .done) .nil)))))) (by kernel_rfl) ?_
       refine xj (k := 11) rfl ?_; rotate_left
       all_goals (first | (have hsc := q8 (c := 1) h h0 (by clear hJ h0 hg; simp_all [q3m, ahead_zero, q9b]; done) (by decide); clear hJ h0 hg; (refine vi ?_; unfold Acc.fault; simp only [hle] at *; simp_all; first | done | omega | ((repeat' split) <;> first | rfl | omega | (simp_all; done) | (simp_all; omega))); done) | (have hsc := q8 (c := x.fault) h h0 (by clear hJ h0 hg; simp_all [q3m, ahead_zero, q9b]; done) (by clear hJ h0; simp_all); clear hJ h0 hg; (refine vi ?_; unfold Acc.fault; simp only [hle] at *; simp_all; first | done | omega | ((repeat' split) <;> first | rfl | omega | (simp_all; done) | (simp_all; omega))); done) | (refine vi (q8 h h0 ?_ (by first | decide | decide | simp_all)); clear hJ h0 hg; simp_all [q3m, ahead_zero, q9b]; done) | (refine q9 rfl (hJ _ 1 ⟨by omega, zc h0 ?_⟩ (by omega) ⟨⟨cwi (by omega) (by omega) (by omega), rfl, rfl, ⟨rfl, rfl, rfl⟩, trivial⟩, ⟨lcr, trivial⟩, rfl⟩); clear hJ h0 hg; simp_all [q3m, ahead_zero, q9b]; done) | skip)
     · obtain ⟨p, hp⟩ := gx (xs := a.slots) (i := i - 1) (by omega)
       have hgp := y1b Slt.cs hz (by omega) hp
       refine xs rfl (nn_ _) (y9 rfl _ hg (xs rfl rfl (z7 rfl (y6b _ (by assumption)) rfl ⟨tv7, trivial⟩ ?_)))
       refine xb rfl ?_ ?_ <;> intro b0
       refine xv rfl rfl rfl ?_; rotate_left
       refine qd rfl [] (Tk (Rg 0 4) (.take 4 [7, 8, 10, 11, 12] (Tk [5, 6, 7] (.take 8 (Rg 10 3) (.take 9 (Rg 10 3) (.alt 10 (Tk [11, 12] .done) .nil)))))) (by kernel_rfl) ?_
       refine xb rfl ?_ ?_ <;> intro b1
       refine xj (k := 4) rfl (xs rfl (q0n hz (by omega)) (y9 rfl _ hgp (xs rfl rfl (xj (k := 3) rfl (z7 rfl (y30 _ _) rfl ⟨tv7, tv7, trivial⟩ (xj (k := 2) rfl ?_))))))
       refine xb rfl ?_ ?_ <;> intro b2
       refine xv rfl rfl rfl ?_; rotate_left
       rotate_left
       refine xj (k := 10) rfl ?_; rotate_left
       all_goals (first | (have hsc := q8 (c := 1) h h0 (by clear hJ h0 hg hgp; simp_all [q3m, ya hz hp, q9b]; done) (by decide); clear hJ h0 hg; (refine vi ?_; unfold Acc.fault; simp only [hle] at *; simp_all; first | done | omega | ((repeat' split) <;> first | rfl | omega | (simp_all; done) | (simp_all; omega))); done) | (have hsc := q8 (c := x.fault) h h0 (by clear hJ h0 hg hgp; simp_all [q3m, ya hz hp, q9b]; done) (by clear hJ h0; simp_all); clear hJ h0 hg; (refine vi ?_; unfold Acc.fault; simp only [hle] at *; simp_all; first | done | omega | ((repeat' split) <;> first | rfl | omega | (simp_all; done) | (simp_all; omega))); done) | (refine vi (q8 h h0 ?_ (by first | decide | decide | simp_all)); clear hJ h0 hg hgp; simp_all [q3m, ya hz hp, q9b]; done) | (refine q9 rfl (hJ _ (i + 1) ⟨by omega, zc h0 ?_⟩ (by omega) ⟨⟨cwi (by omega) (by omega) (by omega), rfl, rfl, ⟨rfl, rfl, rfl⟩, trivial⟩, ⟨lcr, trivial⟩, rfl⟩); clear hJ h0 hg hgp; simp_all [q3m, ya hz hp, q9b]; done) | skip)
   · have h : ¬ i < a.slots.length := by simpa using h
     have hz := zg (f := q3m a.slots) (n := a.slots.length) (fun j hj => h0 j (by omega))
     clear hJ
     refine xv rfl rfl rfl ?_
     all_goals ((refine vi ?_; unfold Acc.fault; simp only [hle] at *; simp_all; first | done | omega | ((repeat' split) <;> first | rfl | omega | (simp_all; done) | (simp_all; omega))))
theorem za4 (a : Acc) (ho : y43 a) : PC Tryz.prog 179 [.agg a.cs] (rI a.fault) := by
 refine PC.begin Tryz.func179 rfl (by kernel_rfl) ?_
 have hle : (a.slots.map Slt.cs).length = a.slots.length := by simp
 obtain ⟨ho1, ho2⟩ := ho
 refine xb rfl ?_ ?_ <;> intro b0
 refine xv rfl rfl rfl ?_; rotate_left
 rotate_left
 all_goals first | ((refine vi ?_; unfold Acc.fault; simp only [hle] at *; simp_all; first | done | omega | ((repeat' split) <;> first | rfl | omega | (simp_all; done) | (simp_all; omega))); done) | skip
 refine yd rfl (ι := Nat) (fun i => i ≤ a.slots.length ∧ ∀ j, j < i → q3m a.slots j = 0) (fun i => ⟨[(3, sV (.int .i64 i)), (1, .one (.a 1 0))], [(1, .var (a.cs.map .b))]⟩) (fun i => a.slots.length - i) 0 ⟨Nat.zero_le _, fun j hj => by omega⟩ ?_ ?_
 · exact ⟨⟨rfl, ⟨rfl, rfl, rfl⟩, trivial⟩, ⟨lcr, trivial⟩, rfl⟩
 · intro i ⟨hi, h0⟩ J hJ
   refine xb rfl ?_ ?_ <;> intro h
   · have h : i < a.slots.length := by simpa using h
     obtain ⟨x, hx⟩ := gx h
     have hg := gm Slt.cs hx
     have hxc := ho2 x (List.mem_of_getElem? hx)
     rcases Nat.eq_zero_or_pos i with hz | hz
     · subst hz
       refine xs rfl (nn_ _) (y9 rfl _ hg (xs rfl rfl (z7 rfl (z6h _ (by assumption)) rfl ⟨tv7, trivial⟩ ?_)))
       refine xb rfl ?_ ?_ <;> intro b0
       refine xv rfl rfl rfl ?_; rotate_left
       refine qd rfl [] (Tk (Rg 0 4) (.take 4 [7, 8, 14, 15, 16] (Tk [5, 6, 7] (.take 8 (Rg 14 3) (.take 9 [] (.take 10 (Rg 12 5) (Tk [11, 12] (.take 13 (Rg 14 3) (.alt 14 (Tk [15, 16] .done) .nil))))))))) (by kernel_rfl) ?_
       refine xj (k := 15) rfl ?_; rotate_left
       all_goals (first | (have hsc := q8 (c := 1) h h0 (by clear hJ h0 hg; simp_all [q3m, ahead_zero]; done) (by decide); clear hJ h0 hg; (refine vi ?_; unfold Acc.fault; simp only [hle] at *; simp_all; first | done | omega | ((repeat' split) <;> first | rfl | omega | (simp_all; done) | (simp_all; omega))); done) | (have hsc := q8 (c := x.fault) h h0 (by clear hJ h0 hg; simp_all [q3m, ahead_zero]; done) (by clear hJ h0; simp_all); clear hJ h0 hg; (refine vi ?_; unfold Acc.fault; simp only [hle] at *; simp_all; first | done | omega | ((repeat' split) <;> first | rfl | omega | (simp_all; done) | (simp_all; omega))); done) | (refine vi (q8 h h0 ?_ (by first | decide | decide | simp_all)); clear hJ h0 hg; simp_all [q3m, ahead_zero]; done) | (refine q9 rfl (hJ _ 1 ⟨by omega, zc h0 ?_⟩ (by omega) ⟨⟨cwi (by omega) (by omega) (by omega), ⟨rfl, rfl, rfl⟩, trivial⟩, ⟨lcr, trivial⟩, rfl⟩); clear hJ h0 hg; simp_all [q3m, ahead_zero]; done) | skip)
     · obtain ⟨p, hp⟩ := gx (xs := a.slots) (i := i - 1) (by omega)
       have hgp := y1b Slt.cs hz (by omega) hp
       refine xs rfl (nn_ _) (y9 rfl _ hg (xs rfl rfl (z7 rfl (z6h _ (by assumption)) rfl ⟨tv7, trivial⟩ ?_)))
       refine xb rfl ?_ ?_ <;> intro b0
       refine xv rfl rfl rfl ?_; rotate_left
       refine qd rfl [] (Tk (Rg 0 4) (.take 4 [7, 8, 14, 15, 16] (Tk [5, 6, 7] (.take 8 (Rg 14 3) (.take 9 [] (.take 10 (Rg 12 5) (Tk [11, 12] (.take 13 (Rg 14 3) (.alt 14 (Tk [15, 16] .done) .nil))))))))) (by kernel_rfl) ?_
       refine xb rfl ?_ ?_ <;> intro b1
       refine xj (k := 4) rfl (xs rfl (q0n hz (by omega)) (y9 rfl _ hgp (xs rfl rfl (xj (k := 5) rfl (xs rfl (nn_ _) (y9 rfl _ hg (xs rfl rfl (xj (k := 2) rfl (z7 rfl (q3w _ _) rfl ⟨tv7, tv7, trivial⟩ ?_)))))))))
       refine xj (k := 2) rfl ?_
       refine xb rfl ?_ ?_ <;> intro b2
       refine xv rfl rfl rfl ?_; rotate_left
       rotate_left
       refine xj (k := 14) rfl ?_; rotate_left
       all_goals (first | (have hsc := q8 (c := 1) h h0 (by clear hJ h0 hg hgp; simp_all [q3m, ya hz hp]; done) (by decide); clear hJ h0 hg; (refine vi ?_; unfold Acc.fault; simp only [hle] at *; simp_all; first | done | omega | ((repeat' split) <;> first | rfl | omega | (simp_all; done) | (simp_all; omega))); done) | (have hsc := q8 (c := x.fault) h h0 (by clear hJ h0 hg hgp; simp_all [q3m, ya hz hp]; done) (by clear hJ h0; simp_all); clear hJ h0 hg; (refine vi ?_; unfold Acc.fault; simp only [hle] at *; simp_all; first | done | omega | ((repeat' split) <;> first | rfl | omega | (simp_all; done) | (simp_all; omega))); done) | (refine vi (q8 h h0 ?_ (by first | decide | decide | simp_all)); clear hJ h0 hg hgp; simp_all [q3m, ya hz hp]; done) | (refine q9 rfl (hJ _ (i + 1) ⟨by omega, zc h0 ?_⟩ (by omega) ⟨⟨cwi (by omega) (by omega) (by omega), ⟨rfl, rfl, rfl⟩, trivial⟩, ⟨lcr, trivial⟩, rfl⟩); clear hJ h0 hg hgp; simp_all [q3m, ya hz hp]; done) | skip)
   · have h : ¬ i < a.slots.length := by simpa using h
     have hz := zg (f := q3m a.slots) (n := a.slots.length) (fun j hj => h0 j (by omega))
     clear hJ
     refine xv rfl rfl rfl ?_
     all_goals ((refine vi ?_; unfold Acc.fault; simp only [hle] at *; simp_all; first | done | omega | ((repeat' split) <;> first | rfl | omega | (simp_all; done) | (simp_all; omega))))
theorem z7r (rr : List (List Cell)) (us : List Con) (p : Con → Bool) (fn : Nat) (c0 : Cell) (hr : rr = us.map Con.cs) (hf : ∀ x ∈ us, PC Tryz.prog fn [.agg x.cs, .one c0] (rB (p x))) (hl : us.length ≤ 1048576) : PC Tryz.prog 134 [.one (.l rr), .one (.f fn [c0])] (rI (y1e p us)) := by
 refine PC.begin Tryz.func134 rfl (by kernel_rfl) ?_
 subst hr
 have hn : (us.map Con.cs).length = us.length := by simp
 refine yd rfl (ι := Nat) (fun i => i ≤ us.length ∧ ∀ j y, j < i → us[j]? = some y → p y = false) (fun i => ⟨[(8, sV (.int .i64 i)), (7, sV (.int .i64 (us.map Con.cs).length)), (0, .one (.b (.l (us.map Con.cs)))), (1, .one (.b (.f fn [c0])))], []⟩) (fun i => us.length - i) 0 ⟨Nat.zero_le _, fun j y hj => by omega⟩ ?_ ?_
 · exact ⟨⟨rfl, rfl, rfl, rfl, trivial⟩, trivial, rfl⟩
 · intro i ⟨hi, h0⟩ J hJ
   refine xb rfl ?_ ?_ <;> intro h
   · have h : i < us.length := by simpa using h
     obtain ⟨x, hx⟩ := gx h
     have hg := gm Con.cs hx
     have hxm := List.mem_of_getElem? hx
     refine xs rfl (nn_ _) (y9 rfl _ hg (xs rfl rfl (z7 rfl (hf _ hxm) rfl ⟨tv3, trivial, trivial⟩ ?_)))
     refine xb rfl ?_ ?_ <;> intro b0
     refine xv rfl rfl rfl ?_; rotate_left
     rotate_left
     · exact vi (q08 hx h0 b0).symm
     · exact q9 rfl (hJ _ (i + 1) ⟨by omega, qg hx h0 b0⟩ (by omega) ⟨⟨cwi (by omega) (by omega) (by omega), rfl, rfl, rfl, trivial⟩, trivial, rfl⟩)
   · have h : ¬ i < us.length := by simpa using h
     refine xv rfl rfl rfl ?_
     exact vi (y02 (zk (by omega) h0)).symm
theorem z10 (c : Clu) (id : Int) (hl : c.cons.length ≤ 1048576) : PC Tryz.prog 42 [.one (.p c.cs), .one (i64 id)] (rI (y1e (fun x : Con => x.id == id) c.cons)) := by
 refine PC.begin Tryz.func42 rfl (by kernel_rfl) ?_
 refine yd rfl (ι := Nat) (fun i => i ≤ c.cons.length ∧ ∀ j y, j < i → c.cons[j]? = some y → (y.id == id) = false) (fun i => ⟨[(5, sV (.int .i64 i)), (0, .one (.b (.p c.cs))), (1, sV (.int .i64 id))], []⟩) (fun i => c.cons.length - i) 0 ⟨Nat.zero_le _, fun j y hj => by omega⟩ ?_ ?_
 · exact ⟨⟨rfl, rfl, rfl, trivial⟩, trivial, rfl⟩
 · intro i ⟨hi, h0⟩ J hJ
   refine xb rfl ?_ ?_ <;> intro h
   · have h : i < c.cons.length := by simpa using h
     obtain ⟨x, hx⟩ := gx h
     have hg := gm Con.cs hx
     refine xs rfl (nn_ _) (y9 rfl _ hg (xs rfl rfl ?_))
     refine xb rfl ?_ ?_ <;> intro b0
     refine xv rfl rfl rfl ?_; rotate_left
     rotate_left
     · exact vi (q08 hx h0 b0).symm
     · exact q9 rfl (hJ _ (i + 1) ⟨by omega, qg hx h0 b0⟩ (by omega) ⟨⟨cwi (by omega) (by omega) (by omega), rfl, rfl, trivial⟩, trivial, rfl⟩)
   · have h : ¬ i < c.cons.length := by simpa using h
     refine xv rfl rfl rfl ?_
     exact vi (y02 (p := fun x : Con => x.id == id) (zk (by omega) h0)).symm
theorem z0k (l : List Int) (a b : Nat) : ∀ row ∈ ((ints l).take b).drop a, row.length = 1 := fun row h => by
 have h := List.mem_of_mem_take (List.mem_of_mem_drop h)
 simp [ints] at h
 obtain ⟨_, _, rfl⟩ := h; rfl
theorem y0k (l : List Int) (a b : Nat) : zr (((ints l).take b).drop a) := fun row h => by
 have h := List.mem_of_mem_take (List.mem_of_mem_drop h)
 simp [ints] at h
 obtain ⟨x, _, rfl⟩ := h
 intro c hc
 exact ⟨_, by simpa using hc⟩
abbrev zbx (l : List Int) (v : Int) : Bool → Res
 | true => .one (.bor false [.l (ints l)])
 | false => .one (.own false [.l 1 (ints (z3r l v))])
theorem z6c (l : List Int) (v : Int) (b : Bool) (hb : l.contains v = b) (hl : l.length ≤ 1048576) (hs : l.Pairwise (· < ·)) : PC Tryz.prog 138 [.one (.l (ints l)), .one (i64 v)] (zbx l v b) := by
 refine PC.begin Tryz.func138 rfl (by kernel_rfl) ?_
 have hn : (ints l).length = l.length := by simp
 refine yd rfl (ι := Nat) (fun i => i ≤ l.length ∧ ∀ j y, j < i → l[j]? = some y → y < v) (fun i => ⟨[(5, sV (.int .i64 i)), (0, .one (.b (.l (ints l)))), (1, sV (.int .i64 v))], []⟩) (fun i => l.length - i) 0 ⟨Nat.zero_le _, fun j y hj => by omega⟩ ?_ ?_
 · exact ⟨⟨rfl, rfl, rfl, trivial⟩, trivial, rfl⟩
 · intro i ⟨hi, h0⟩ J hJ
   refine xb rfl ?_ ?_ <;> intro h
   · have h : i < l.length := by simpa using h
     obtain ⟨x, hx⟩ := gx h
     have hg := gm (fun n => [i64 n]) hx
     by_cases h1 : x < v
     · skip
       refine xj (k := 2) rfl (xs rfl (nn_ _) (y9 rfl _ hg (xs rfl rfl (xj (k := 4) rfl ?_))))
       refine xb rfl (fun b0 => ?_) (fun b0 => ?_); rotate_left
       exact absurd b0 (by simp; omega)
       all_goals first
        | exact q9 rfl (hJ _ (i + 1) ⟨by omega, qg hx h0 (by simpa using b0)⟩ (by omega) ⟨⟨cwi (by omega) (by omega) (by omega), rfl, rfl, trivial⟩, trivial, rfl⟩)
        | (exfalso; simp at b0; omega)
     · have hnx : ∀ y, l[i]? = some y → ¬ y < v := fun y hy => by rw [hx] at hy; cases hy; exact h1
       by_cases h2 : x = v
       · have hbt : b = true := by rw [← hb, z1v hs h0 hnx, hx, h2]; simp
         subst hbt
         refine xj (k := 2) rfl (xs rfl (nn_ _) (y9 rfl _ hg (xs rfl rfl (xj (k := 4) rfl ?_))))
         refine xb rfl ?_ ?_ <;> intro b0
         exact absurd b0 (by simp; omega)
         refine xb rfl ?_ ?_ <;> intro b1
         refine xj (k := 2) rfl (xs rfl (nn_ _) (y9 rfl _ hg (xs rfl rfl (xj (k := 4) rfl ?_))))
         refine xb rfl ?_ ?_ <;> intro b2
         refine xr rfl (qm rfl ⟨⟨rfl, rfl, trivial⟩, z6 rfl⟩)
         exact absurd b2 (by simp; omega)
         exact absurd b1 (by simp; omega)
         all_goals first
          | (exfalso; simp at b0; omega)
          | (exfalso; simp at b1; omega)
          | (exfalso; simp at b2; omega)
       · have hbt : b = false := by rw [← hb, z1v hs h0 hnx, hx]; simpa using h2
         have hp := q5u (v := v) (Nat.le_of_lt h) h0 hnx
         rw [hx, if_neg (by simpa using h2)] at hp
         subst hbt
         refine xj (k := 2) rfl (xs rfl (nn_ _) (y9 rfl _ hg (xs rfl rfl (xj (k := 4) rfl ?_))))
         refine xb rfl ?_ ?_ <;> intro b0
         exact absurd b0 (by simp; omega)
         refine xb rfl ?_ ?_ <;> intro b1
         refine xj (k := 2) rfl (xs rfl (nn_ _) (y9 rfl _ hg (xs rfl rfl (xj (k := 4) rfl ?_))))
         refine xb rfl ?_ ?_ <;> intro b2
         exact absurd b2 (by simp; omega)
         refine qd rfl [] (Tk [1, 2, 3, 5, 8, 9, 10] (.alt 0 (.alt 4 (.alt 6 (.alt 7 (.alt 11 (.take 12 [] .done) .nil) .nil) .nil) (.alt 6 (.alt 4 (.alt 7 (.alt 11 (.take 12 [] .done) .nil) .nil) .nil) .nil)) (.alt 6 (.alt 0 (.alt 4 (.alt 7 (.alt 11 (.take 12 [] .done) .nil) .nil) .nil) .nil) .nil))) (by kernel_rfl) (xs rfl (.inl rfl) (xs rfl (nn_ _) (xs rfl (nn_ _) (xs rfl (by simp; omega) (xs rfl (by simp) (xs rfl (nn_ _) (xs rfl (by simp; omega) (xs rfl (by simp) ?_))))))))
         refine y04 rfl ?_ ?_
         refine xs rfl trivial ?_
         refine y04 rfl ?_ ?_
         refine xs rfl rfl (xs rfl (z0k _ _ _) (xs rfl (fun _ => y0k _ _ _) (xs rfl (by simp; omega) (xs rfl (by simp; omega) (xs rfl ⟨trivial, trivial⟩ (xs rfl (by simp) (xs rfl rfl (xs rfl (.inl rfl) (xs rfl (by simp; omega) ?_)))))))))
         refine xs rfl (by simp; omega) (xs rfl (by simp) (xs rfl (z0k _ _ _) (xs rfl (fun _ => y0k _ _ _) (xs rfl (by simp; omega) (xs rfl (by simp; omega) ?_)))))
         refine xr rfl (qm rfl ⟨⟨rfl, ⟨?_, ?_, .inl rfl⟩, trivial⟩, z6 rfl⟩); rotate_left
         rotate_left
         refine xs rfl ⟨trivial, trivial⟩ (xs rfl rfl (xs rfl (z0k _ _ _) (xs rfl (fun _ => y0k _ _ _) (xs rfl (by simp; omega) (xs rfl (by simp; omega) (xs rfl (by simp) (xs rfl rfl (xs rfl (.inl rfl) (xs rfl (by simp; omega) ?_)))))))))
         refine xs rfl (by simp; omega) (xs rfl (by simp) (xs rfl (z0k _ _ _) (xs rfl (fun _ => y0k _ _ _) (xs rfl (by simp; omega) (xs rfl (by simp; omega) ?_)))))
         refine xr rfl (qm rfl ⟨⟨rfl, ⟨?_, ?_, .inl rfl⟩, trivial⟩, z6 rfl⟩); rotate_left
         rotate_left
         refine xs rfl ⟨trivial, trivial⟩ (xs rfl trivial (xs rfl rfl (xs rfl (z0k _ _ _) (xs rfl (fun _ => y0k _ _ _) (xs rfl (by simp; omega) (xs rfl (by simp; omega) (xs rfl (by simp) (xs rfl rfl (xs rfl (.inl rfl) ?_)))))))))
         refine xs rfl (by simp; omega) (xs rfl (by simp; omega) (xs rfl (by simp) (xs rfl (z0k _ _ _) (xs rfl (fun _ => y0k _ _ _) (xs rfl (by simp; omega) (xs rfl (by simp; omega) ?_))))))
         refine xr rfl (qm rfl ⟨⟨rfl, ⟨?_, ?_, .inl rfl⟩, trivial⟩, z6 rfl⟩); rotate_left
         rotate_left
         exact absurd b1 (by simp; omega)
         all_goals first
          | (exfalso; simp at b0; omega)
          | (exfalso; simp at b1; omega)
          | (exfalso; simp at b2; omega)
          | exact List.length_append.symm
          | (rw [hp]; simp [ints, List.map_take, List.map_drop, List.take_of_length_le]; done)
   · have h : i = l.length := by have : ¬ i < l.length := (by simpa using h); omega
     subst h
     have hc := z1v hs h0 (fun x hx => by rw [List.getElem?_eq_none (Nat.le_refl _)] at hx; cases hx)
     rw [List.getElem?_eq_none (Nat.le_refl _)] at hc
     have hbf : b = false := by rw [← hb, hc]; rfl
     subst hbf
     have hp := q5u (v := v) (Nat.le_refl _) h0 (fun x hx => by rw [List.getElem?_eq_none (Nat.le_refl _)] at hx; cases hx)
     rw [List.getElem?_eq_none (Nat.le_refl _), if_neg (by simp)] at hp
     refine xj (k := 7) rfl ?_
     refine xb rfl ?_ ?_ <;> intro b0
     exact absurd b0 (by simp [*])
     refine xj (k := 7) rfl (qd rfl [] (Tk [1, 2, 3, 5, 8, 9, 10] (.alt 0 (.alt 4 (.alt 6 (.alt 7 (.alt 11 (.take 12 [] .done) .nil) .nil) .nil) (.alt 6 (.alt 4 (.alt 7 (.alt 11 (.take 12 [] .done) .nil) .nil) .nil) .nil)) (.alt 6 (.alt 0 (.alt 4 (.alt 7 (.alt 11 (.take 12 [] .done) .nil) .nil) .nil) .nil) .nil))) (by kernel_rfl) (xs rfl (.inl rfl) (xs rfl (nn_ _) (xs rfl (nn_ _) (xs rfl (by simp) (xs rfl (by simp) (xs rfl (nn_ _) (xs rfl (by simp) (xs rfl (by simp) ?_)))))))))
     refine y04 rfl ?_ ?_
     refine xs rfl trivial ?_
     refine y04 rfl ?_ ?_
     refine xs rfl rfl (xs rfl (z0k _ _ _) (xs rfl (fun _ => y0k _ _ _) (xs rfl (by simp; omega) (xs rfl (by simp; omega) (xs rfl ⟨trivial, trivial⟩ (xs rfl (by simp) (xs rfl rfl (xs rfl (.inl rfl) (xs rfl (by simp; omega) ?_)))))))))
     refine xs rfl (by simp; omega) (xs rfl (by simp) (xs rfl (z0k _ _ _) (xs rfl (fun _ => y0k _ _ _) (xs rfl (by simp; omega) (xs rfl (by simp; omega) ?_)))))
     refine xr rfl (qm rfl ⟨⟨rfl, ⟨?_, ?_, .inl rfl⟩, trivial⟩, z6 rfl⟩); rotate_left
     rotate_left
     refine xs rfl ⟨trivial, trivial⟩ (xs rfl rfl (xs rfl (z0k _ _ _) (xs rfl (fun _ => y0k _ _ _) (xs rfl (by simp; omega) (xs rfl (by simp; omega) (xs rfl (by simp) (xs rfl rfl (xs rfl (.inl rfl) (xs rfl (by simp; omega) ?_)))))))))
     refine xs rfl (by simp; omega) (xs rfl (by simp) (xs rfl (z0k _ _ _) (xs rfl (fun _ => y0k _ _ _) (xs rfl (by simp; omega) (xs rfl (by simp; omega) ?_)))))
     refine xr rfl (qm rfl ⟨⟨rfl, ⟨?_, ?_, .inl rfl⟩, trivial⟩, z6 rfl⟩); rotate_left
     rotate_left
     refine xs rfl ⟨trivial, trivial⟩ (xs rfl trivial (xs rfl rfl (xs rfl (z0k _ _ _) (xs rfl (fun _ => y0k _ _ _) (xs rfl (by simp; omega) (xs rfl (by simp; omega) (xs rfl (by simp) (xs rfl rfl (xs rfl (.inl rfl) ?_)))))))))
     refine xs rfl (by simp; omega) (xs rfl (by simp; omega) (xs rfl (by simp) (xs rfl (z0k _ _ _) (xs rfl (fun _ => y0k _ _ _) (xs rfl (by simp; omega) (xs rfl (by simp; omega) ?_))))))
     refine xr rfl (qm rfl ⟨⟨rfl, ⟨?_, ?_, .inl rfl⟩, trivial⟩, z6 rfl⟩); rotate_left
     rotate_left
     all_goals first
      | exact List.length_append.symm
      | (rw [hp]; simp [ints, List.map_take, List.map_drop, List.take_of_length_le]; done)
theorem z1y (x : Con) (hl : x.legs.length ≤ 1048576) : PC Tryz.prog 62 [.agg x.cs] (.one (.bor false [.l (ints (shF x.legs))])) := by
 refine PC.begin Tryz.func62 rfl (by kernel_rfl) ?_
 refine xs rfl trivial ?_
 refine yd rfl (ι := Nat) (fun i => i ≤ x.legs.length) (fun i => ⟨[(4, sV (.int .i64 i)), (3, .one (.b (.l (ints (shF (x.legs.take i)))))), (1, .one (.a 1 0))], [(1, .var (x.cs.map .b))]⟩) (fun i => x.legs.length - i) 0 (Nat.zero_le _) ?_ ?_
 · exact ⟨⟨rfl, ⟨rfl, rfl, rfl⟩, ⟨rfl, rfl, rfl⟩, trivial⟩, ⟨lcr, trivial⟩, rfl⟩
 · intro i hi J hJ
   refine xb rfl ?_ ?_ <;> intro h
   · have h : i < x.legs.length := by simpa using h
     obtain ⟨y, hy⟩ := gx h
     have hg := gm Leg.cs hy
     have hst := q6h hy
     have hlen := q2h x.legs i
     cases hb : (shF (x.legs.take i)).contains y.s with
     | true =>
       have hp := z6c _ _ true hb (by omega) (y6h _)
       have he : z3r (shF (x.legs.take i)) y.s = shF (x.legs.take i) := by
        have := q6f (y6h (x.legs.take i)) hb
        exact this
       rw [he] at hst
       refine xs rfl (nn_ _) (y9 rfl _ hg (xs rfl rfl (z7 rfl (hp) rfl tv3 ?_)))
       exact q9 rfl (hJ _ (i + 1) (by omega) (by omega) ⟨⟨cwi (by omega) (by omega) (by omega), (by rw [hst]; rfl), ⟨rfl, rfl, rfl⟩, trivial⟩, ⟨lcr, trivial⟩, rfl⟩)
     | false =>
       have hp := z6c _ _ false hb (by omega) (y6h _)
       refine xs rfl (nn_ _) (y9 rfl _ hg (xs rfl rfl (z7 rfl (hp) rfl tv3 ?_)))
       exact q9 rfl (hJ _ (i + 1) (by omega) (by omega) ⟨⟨cwi (by omega) (by omega) (by omega), ⟨rfl, rfl, (by rw [hst])⟩, ⟨rfl, rfl, rfl⟩, trivial⟩, ⟨lcr, trivial⟩, rfl⟩)
   · have h : i = x.legs.length := by have : ¬ i < x.legs.length := (by simpa using h); omega
     subst h
     rw [List.take_length]
     refine xr rfl (qm rfl ⟨⟨rfl, rfl, trivial⟩, z6 rfl⟩)
theorem zy (c : Clu) (ho : q00 c) (id s : Int) : PC Tryz.prog 177 [.one (.p c.cs), .one (i64 id), .one (i64 s)] (rB (z16 c.cons id s)) := by
 refine PC.begin Tryz.func177 rfl (by kernel_rfl) ?_
 have hf := z10 c id ho.1.1
 cases h : y0x c.cons id with
 | none =>
   rw [q1w h] at hf
   have e : z16 c.cons id s = false := by unfold z16; rw [h]
   rw [e]
   refine z7 rfl (hf) rfl tv3 (xj (k := 11) rfl ?_)
   refine xr rfl (qm rfl ⟨⟨rfl, rfl, trivial⟩, z6 rfl⟩)
 | some x =>
   obtain ⟨i, hi, hx⟩ := q1e h
   rw [hi] at hf
   have hg := gm Con.cs hx
   have hxl := ho.1.2 x (List.mem_of_getElem? hx)
   have e : z16 c.cons id s = (shF x.legs).any (fun y => y == s) := by unfold z16; rw [h, za7]
   rw [e]
   refine z7 rfl (hf) rfl tv3 (xj (k := 6) rfl (xs rfl (nn_ _) (y9 rfl _ hg (xs rfl rfl (xj (k := 2) rfl (z7 rfl (z1y x hxl) rfl ⟨tv3, trivial⟩ (xj (k := 2) rfl (z7 rfl (q2w _ (shF x.legs) s rfl (by have := q2h x.legs x.legs.length; rw [List.take_length] at this; omega)) rfl tv3 (xj (k := 1) rfl ?_)))))))))
   refine xr rfl (qm rfl ⟨⟨rfl, rfl, trivial⟩, z6 rfl⟩)
   all_goals first
    | (exfalso; simp at b0; omega)
    | skip
theorem z2k (x : Con) (id : Int) : PC Tryz.prog 135 [.agg x.cs, .one (.p [i64 id])] (rB (x.id == id)) := by
 refine PC.begin Tryz.func135 rfl (by kernel_rfl) ?_
 refine xr rfl (qm rfl ⟨⟨rfl, rfl, trivial⟩, z6 rfl⟩)
theorem q1c (c : Clu) (ho : q00 c) (id : Int) (h : y0x c.cons id = none) : PC Tryz.prog 60 [.one (.p c.cs), .one (i64 id)] (.tup [.bor true [i64 0, .l []], .own false [.s (.bool false)]]) := by
 refine PC.begin Tryz.func60 rfl (by kernel_rfl) ?_
 have hi := z7r _ c.cons (fun x => x.id == id) 135 (.p [i64 id]) rfl (fun x _ => z2k x id) ho.1.1
 rw [q1w h] at hi
 refine z7 rfl (hi) rfl ⟨trivial, (List.forall_mem_cons.2 ⟨⟨trivial, trivial⟩, (fun _ h => nomatch h)⟩), trivial⟩ (xj (k := 1) rfl ?_)
 refine xr rfl (qm rfl ⟨(by decide), ⟨⟨rfl, rfl, rfl, trivial⟩, ⟨rfl, rfl, trivial⟩, trivial⟩, z6 rfl⟩)
theorem z1d (c : Clu) (ho : q00 c) (id : Int) (x : Con) (h : y0x c.cons id = some x) : PC Tryz.prog 60 [.one (.p c.cs), .one (i64 id)] (.tup [.bor true x.cs, .own false [.s (.bool true)]]) := by
 refine PC.begin Tryz.func60 rfl (by kernel_rfl) ?_
 have hi := z7r _ c.cons (fun x => x.id == id) 135 (.p [i64 id]) rfl (fun x _ => z2k x id) ho.1.1
 obtain ⟨i, hi0, hx⟩ := q1e h
 rw [hi0] at hi
 have hg := gm Con.cs hx
 refine z7 rfl (hi) rfl ⟨trivial, (List.forall_mem_cons.2 ⟨⟨trivial, trivial⟩, (fun _ h => nomatch h)⟩), trivial⟩ (xj (k := 1) rfl (xs rfl (nn_ _) (y9 rfl _ hg (xs rfl rfl ?_))))
 refine xr rfl (qm rfl ⟨(by decide), ⟨⟨rfl, rfl, rfl, trivial⟩, ⟨rfl, rfl, trivial⟩, trivial⟩, z6 rfl⟩)
 all_goals first
  | (exfalso; simp at b0; omega)
  | skip
theorem z19 (c : Clu) (ho : q00 c) (id s : Int) : PC Tryz.prog 201 [.one (.p c.cs), .one (i64 id), .one (i64 s)] (rB (z16 c.cons id s)) := by
 refine PC.begin Tryz.func201 rfl (by kernel_rfl) ?_
 cases h : y0x c.cons id with
 | none =>
   have e : z16 c.cons id s = false := by unfold z16; rw [h]
   rw [e]
   refine z7 rfl (q1c c ho id h) rfl tv3 (xj (k := 6) rfl ?_)
   refine xr rfl (qm rfl ⟨⟨rfl, rfl, trivial⟩, z6 rfl⟩)
 | some x =>
   obtain ⟨i, hi, hx⟩ := q1e h
   have hxl := ho.1.2 x (List.mem_of_getElem? hx)
   have e : z16 c.cons id s = decide (0 < (zn x s).length) := by unfold z16; rw [h, y6w]
   rw [e]
   refine z7 rfl (z1d c ho id x h) rfl tv3 (xj (k := 3) rfl (z7 rfl (y16 _ _ (by omega)) rfl ⟨tv3, trivial, trivial⟩ (xj (k := 3) rfl (xv rfl rfl rfl ?_))))
   all_goals (refine vb ?_; simp)
theorem z2q (rr : List (List Cell)) : PC Tryz.prog 113 [.one (.l rr)] (rI rr.length) := by
 refine PC.begin Tryz.func113 rfl (by kernel_rfl) ?_
 refine xr rfl (qm rfl ⟨⟨rfl, rfl, trivial⟩, z6 rfl⟩)
theorem y1k (rr : List (List Cell)) : PC Tryz.prog 114 [.one (.l rr)] (rI rr.length) := by
 refine PC.begin Tryz.func114 rfl (by kernel_rfl) ?_
 refine xr rfl (qm rfl ⟨⟨rfl, rfl, trivial⟩, z6 rfl⟩)
theorem z4m (rr : List (List Cell)) : PC Tryz.prog 350 [.one (.l rr)] (rI rr.length) := by
 refine PC.begin Tryz.func350 rfl (by kernel_rfl) ?_
 refine xr rfl (qm rfl ⟨⟨rfl, rfl, trivial⟩, z6 rfl⟩)
theorem q0z (rows : List (List Cell)) (n : Int) (hl : rows.length ≤ 1048576) : PC Tryz.prog 166 [.one (i64 n), .one (.l rows)] (rB (within n 0 ((rows.length : Int) - 1))) := by
 refine PC.begin Tryz.func166 rfl (by kernel_rfl) ?_
 have hw : IntKind.i64.wrap ((rows.length : Int) - 1) = (rows.length : Int) - 1 := wrap_i64 (by omega) (by omega)
 refine z7 rfl (z2q _) rfl ⟨trivial, trivial⟩ (z7 rfl (zo _ _ _) rfl tv4 (xv rfl rfl rfl ?_))
 all_goals (refine vb ?_; rw [hw])
theorem z0f (rows : List (List Cell)) (n : Int) (hl : rows.length ≤ 1048576) : PC Tryz.prog 285 [.one (i64 n), .one (.l rows)] (rB (within n 0 ((rows.length : Int) - 1))) := by
 refine PC.begin Tryz.func285 rfl (by kernel_rfl) ?_
 have hw : IntKind.i64.wrap ((rows.length : Int) - 1) = (rows.length : Int) - 1 := wrap_i64 (by omega) (by omega)
 refine z7 rfl (y1k _) rfl ⟨trivial, trivial⟩ (z7 rfl (zo _ _ _) rfl tv4 (xv rfl rfl rfl ?_))
 all_goals (refine vb ?_; rw [hw])
theorem q2e (rows : List (List Cell)) (n : Int) (hl : rows.length ≤ 1048576) : PC Tryz.prog 287 [.one (i64 n), .one (.l rows)] (rB (within n 0 ((rows.length : Int) - 1))) := by
 refine PC.begin Tryz.func287 rfl (by kernel_rfl) ?_
 have hw : IntKind.i64.wrap ((rows.length : Int) - 1) = (rows.length : Int) - 1 := wrap_i64 (by omega) (by omega)
 refine z7 rfl (z4m _) rfl ⟨trivial, trivial⟩ (z7 rfl (zo _ _ _) rfl tv4 (xv rfl rfl rfl ?_))
 all_goals (refine vb ?_; rw [hw])
abbrev ybo (m : Msg) : Res := .one (.own true [.s (.int .i64 m.k), .s (.int .i64 m.to), .s (.int .i64 m.fr), .s (.int .i64 m.c), .s (.int .i64 m.s), .s (.int .i64 m.b), .s (.int .i64 m.v), .s (.int .i64 m.ob), .s (.int .i64 m.ov)])
theorem kinds {k : Int} (h : Go.Sx.within k 1 6 = true) : k = 1 ∨ k = 2 ∨ k = 3 ∨ k = 4 ∨ k = 5 ∨ k = 6 := by
 have := Go.Sx.within_iff.1 h
 omega
theorem wl1 {α β : Type} (f : α → β) {us : List α} (h : us.length ≤ 1048576) : IntKind.i64.wrap (((us.map f).length : Int) - 1) = (us.length : Int) - 1 := by rw [List.length_map]; exact wrap_i64 (by omega) (by omega)
theorem z0e {α : Type} {p : α → Bool} {l : List α} : decide (y1e p l < 0) = (l.find? p).isNone := by
 cases h : l.find? p with
 | none => rw [q1w h]; rfl
 | some x =>
   obtain ⟨i, hi, _⟩ := q1e h
   rw [hi]; simp
theorem y0f (m : Msg) (hk : Go.Sx.within m.k 1 6 = true) : PC Tryz.prog 187 [.agg m.cs] (ybo m.bare) := by
 refine PC.begin Tryz.func187 rfl (by kernel_rfl) ?_
 obtain ⟨k, to, fr, c, s, b, v, ob, ov⟩ := m
 rcases kinds hk with h | h | h | h | h | h
 · dsimp only at h
   subst h
   rw [show Msg.bare ⟨1, to, fr, c, s, b, v, ob, ov⟩ = ⟨1, to, 0, c, 0, 0, 0, 0, 0⟩ from rfl]
   refine xj (k := 20) rfl ?_
   refine xr rfl (qm rfl ⟨⟨rfl, rfl, rfl, rfl, rfl, rfl, rfl, rfl, rfl, rfl, trivial⟩, z6 rfl⟩)
 · dsimp only at h
   subst h
   rw [show Msg.bare ⟨2, to, fr, c, s, b, v, ob, ov⟩ = ⟨2, to, 0, c, s, b, v, 0, 0⟩ from rfl]
   refine xj (k := 20) rfl ?_
   refine xr rfl (qm rfl ⟨⟨rfl, rfl, rfl, rfl, rfl, rfl, rfl, rfl, rfl, rfl, trivial⟩, z6 rfl⟩)
 · dsimp only at h
   subst h
   rw [show Msg.bare ⟨3, to, fr, c, s, b, v, ob, ov⟩ = ⟨3, to, fr, c, s, b, v, 0, 0⟩ from rfl]
   refine xj (k := 20) rfl ?_
   refine xr rfl (qm rfl ⟨⟨rfl, rfl, rfl, rfl, rfl, rfl, rfl, rfl, rfl, rfl, trivial⟩, z6 rfl⟩)
 · dsimp only at h
   subst h
   rw [show Msg.bare ⟨4, to, fr, c, s, b, v, ob, ov⟩ = ⟨4, to, fr, c, s, b, 0, 0, 0⟩ from rfl]
   refine xj (k := 20) rfl ?_
   refine xr rfl (qm rfl ⟨⟨rfl, rfl, rfl, rfl, rfl, rfl, rfl, rfl, rfl, rfl, trivial⟩, z6 rfl⟩)
 · dsimp only at h
   subst h
   rw [show Msg.bare ⟨5, to, fr, c, s, b, v, ob, ov⟩ = ⟨5, to, fr, c, s, b, 0, ob, ov⟩ from rfl]
   refine xj (k := 20) rfl ?_
   refine xr rfl (qm rfl ⟨⟨rfl, rfl, rfl, rfl, rfl, rfl, rfl, rfl, rfl, rfl, trivial⟩, z6 rfl⟩)
 · dsimp only at h
   subst h
   rw [show Msg.bare ⟨6, to, fr, c, s, b, v, ob, ov⟩ = ⟨6, to, 0, c, 0, 0, v, 0, 0⟩ from rfl]
   refine xj (k := 20) rfl ?_
   refine xr rfl (qm rfl ⟨⟨rfl, rfl, rfl, rfl, rfl, rfl, rfl, rfl, rfl, rfl, trivial⟩, z6 rfl⟩)
theorem y8x (m : Msg) (hk : Go.Sx.within m.k 1 6 = true) : PC Tryz.prog 212 [.agg m.cs] (ybo m.bare) := by
 refine PC.begin Tryz.func212 rfl (by kernel_rfl) ?_
 obtain ⟨k, to, fr, c, s, b, v, ob, ov⟩ := m
 rcases kinds hk with h | h | h | h | h | h
 · dsimp only at h
   subst h
   rw [show Msg.bare ⟨1, to, fr, c, s, b, v, ob, ov⟩ = ⟨1, to, 0, c, 0, 0, 0, 0, 0⟩ from rfl]
   refine xj (k := 10) rfl ?_
   refine xr rfl (qm rfl ⟨⟨rfl, rfl, rfl, rfl, rfl, rfl, rfl, rfl, rfl, rfl, trivial⟩, z6 rfl⟩)
 · dsimp only at h
   subst h
   rw [show Msg.bare ⟨2, to, fr, c, s, b, v, ob, ov⟩ = ⟨2, to, 0, c, s, b, v, 0, 0⟩ from rfl]
   refine xj (k := 5) rfl (qd rfl [] (.take 0 [] (.take 1 (Rg 4 4) (Tk [2, 4] (.alt 3 (.alt 5 (.take 6 [] (.alt 7 .done .nil)) .nil) (.alt 5 (.take 3 [6, 7] (.take 6 [] (.alt 7 .done .nil))) .nil))))) (by kernel_rfl) ?_)
   refine y04 rfl ?_ ?_
   refine xj (k := 2) rfl ?_
   refine xr rfl (qm rfl ⟨⟨rfl, rfl, rfl, rfl, rfl, rfl, rfl, rfl, rfl, rfl, trivial⟩, z6 rfl⟩)
   refine xj (k := 2) rfl ?_
   refine xr rfl (qm rfl ⟨⟨rfl, rfl, rfl, rfl, rfl, rfl, rfl, rfl, rfl, rfl, trivial⟩, z6 rfl⟩)
 · dsimp only at h
   subst h
   rw [show Msg.bare ⟨3, to, fr, c, s, b, v, ob, ov⟩ = ⟨3, to, fr, c, s, b, v, 0, 0⟩ from rfl]
   refine xj (k := 5) rfl (qd rfl [] (.take 0 [] (.take 1 (Rg 4 4) (Tk [2, 4] (.alt 3 (.alt 5 (.take 6 [] (.alt 7 .done .nil)) .nil) (.alt 5 (.take 3 [6, 7] (.take 6 [] (.alt 7 .done .nil))) .nil))))) (by kernel_rfl) ?_)
   refine y04 rfl ?_ ?_
   refine xj (k := 3) rfl (qd rfl [] (.take 0 [] (.take 1 (Rg 4 4) (Tk [2, 4] (.alt 3 (.alt 5 (.take 6 [] (.alt 7 .done .nil)) .nil) (.alt 5 (.take 3 [6, 7] (.take 6 [] (.alt 7 .done .nil))) .nil))))) (by kernel_rfl) ?_)
   refine y04 rfl ?_ ?_
   refine xr rfl (qm rfl ⟨⟨rfl, rfl, rfl, rfl, rfl, rfl, rfl, rfl, rfl, rfl, trivial⟩, z6 rfl⟩)
   refine xr rfl (qm rfl ⟨⟨rfl, rfl, rfl, rfl, rfl, rfl, rfl, rfl, rfl, rfl, trivial⟩, z6 rfl⟩)
   refine xj (k := 3) rfl (qd rfl [] (.take 0 [] (.take 1 (Rg 4 4) (Tk [2, 4] (.alt 3 (.alt 5 (.take 6 [] (.alt 7 .done .nil)) .nil) (.alt 5 (.take 3 [6, 7] (.take 6 [] (.alt 7 .done .nil))) .nil))))) (by kernel_rfl) ?_)
   refine y04 rfl ?_ ?_
   refine xr rfl (qm rfl ⟨⟨rfl, rfl, rfl, rfl, rfl, rfl, rfl, rfl, rfl, rfl, trivial⟩, z6 rfl⟩)
   refine xr rfl (qm rfl ⟨⟨rfl, rfl, rfl, rfl, rfl, rfl, rfl, rfl, rfl, rfl, trivial⟩, z6 rfl⟩)
 · dsimp only at h
   subst h
   rw [show Msg.bare ⟨4, to, fr, c, s, b, v, ob, ov⟩ = ⟨4, to, fr, c, s, b, 0, 0, 0⟩ from rfl]
   refine xj (k := 5) rfl (qd rfl [] (.take 0 [] (.take 1 (Rg 4 4) (Tk [2, 4] (.alt 3 (.alt 5 (.take 6 [] (.alt 7 .done .nil)) .nil) (.alt 5 (.take 3 [6, 7] (.take 6 [] (.alt 7 .done .nil))) .nil))))) (by kernel_rfl) ?_)
   refine y04 rfl ?_ ?_
   refine xj (k := 4) rfl ?_
   refine xr rfl (qm rfl ⟨⟨rfl, rfl, rfl, rfl, rfl, rfl, rfl, rfl, rfl, rfl, trivial⟩, z6 rfl⟩)
   refine xj (k := 4) rfl ?_
   refine xr rfl (qm rfl ⟨⟨rfl, rfl, rfl, rfl, rfl, rfl, rfl, rfl, rfl, rfl, trivial⟩, z6 rfl⟩)
 · dsimp only at h
   subst h
   rw [show Msg.bare ⟨5, to, fr, c, s, b, v, ob, ov⟩ = ⟨5, to, fr, c, s, b, 0, ob, ov⟩ from rfl]
   refine xj (k := 5) rfl (qd rfl [] (.take 0 [] (.take 1 (Rg 4 4) (Tk [2, 4] (.alt 3 (.alt 5 (.take 6 [] (.alt 7 .done .nil)) .nil) (.alt 5 (.take 3 [6, 7] (.take 6 [] (.alt 7 .done .nil))) .nil))))) (by kernel_rfl) ?_)
   refine y04 rfl ?_ ?_
   refine xj (k := 5) rfl (qd rfl [] (.take 0 [] (.take 1 (Rg 4 4) (Tk [2, 4] (.alt 3 (.alt 5 (.take 6 [] (.alt 7 .done .nil)) .nil) (.alt 5 (.take 3 [6, 7] (.take 6 [] (.alt 7 .done .nil))) .nil))))) (by kernel_rfl) ?_)
   refine y04 rfl ?_ ?_
   refine xr rfl (qm rfl ⟨⟨rfl, rfl, rfl, rfl, rfl, rfl, rfl, rfl, rfl, rfl, trivial⟩, z6 rfl⟩)
   refine xr rfl (qm rfl ⟨⟨rfl, rfl, rfl, rfl, rfl, rfl, rfl, rfl, rfl, rfl, trivial⟩, z6 rfl⟩)
   refine xj (k := 5) rfl (qd rfl [] (.take 0 [] (.take 1 (Rg 4 4) (Tk [2, 4] (.alt 3 (.alt 5 (.take 6 [] (.alt 7 .done .nil)) .nil) (.alt 5 (.take 3 [6, 7] (.take 6 [] (.alt 7 .done .nil))) .nil))))) (by kernel_rfl) ?_)
   refine y04 rfl ?_ ?_
   refine xr rfl (qm rfl ⟨⟨rfl, rfl, rfl, rfl, rfl, rfl, rfl, rfl, rfl, rfl, trivial⟩, z6 rfl⟩)
   refine xr rfl (qm rfl ⟨⟨rfl, rfl, rfl, rfl, rfl, rfl, rfl, rfl, rfl, rfl, trivial⟩, z6 rfl⟩)
 · dsimp only at h
   subst h
   rw [show Msg.bare ⟨6, to, fr, c, s, b, v, ob, ov⟩ = ⟨6, to, 0, c, 0, 0, v, 0, 0⟩ from rfl]
   refine xj (k := 7) rfl ?_
   refine xr rfl (qm rfl ⟨⟨rfl, rfl, rfl, rfl, rfl, rfl, rfl, rfl, rfl, rfl, trivial⟩, z6 rfl⟩)
theorem y1n (c : Clu) (ho : q00 c) (m : Msg) (hk : Go.Sx.within m.k 1 6 = true) : PC Tryz.prog 184 [.one (.p c.cs), .agg m.cs] (rB (ends c m)) := by
 refine PC.begin Tryz.func184 rfl (by kernel_rfl) ?_
 have q1 := ho.2.1.1
 have q2 := ho.2.2.1.1
 have q3 := ho.2.2.2.1.1
 have p1 : (c.shs.map Shd.cs).length ≤ 1048576 := by simpa using q1
 have p2 : (c.accs.map Acc.cs).length ≤ 1048576 := by simpa using q2
 have p3 : (c.ldrs.map Ldr.cs).length ≤ 1048576 := by simpa using q3
 have w1 := wl1 Shd.cs q1
 have w2 := wl1 Acc.cs q2
 have w3 := wl1 Ldr.cs q3
 obtain ⟨k, to, fr, mc, s, b, v, ob, ov⟩ := m
 rcases kinds hk with h | h | h | h | h | h
 · dsimp only at h
   subst h
   refine xj (k := 11) rfl (z7 rfl (qi _ _ _) rfl tv4 ?_)
   refine xb rfl ?_ ?_ <;> intro b0
   refine xj (k := 17) rfl ?_
   refine xv rfl rfl rfl ?_; rotate_left
   refine xj (k := 7) rfl ?_
   refine xv rfl rfl rfl ?_; rotate_left
   all_goals (refine vb ?_; simp_all [ends, toN, frN]; done)
 · dsimp only at h
   subst h
   refine xj (k := 11) rfl (z7 rfl (qi _ _ _) rfl tv4 ?_)
   refine xb rfl ?_ ?_ <;> intro b0
   refine xj (k := 17) rfl ?_
   refine xv rfl rfl rfl ?_; rotate_left
   refine xj (k := 7) rfl ?_
   refine xv rfl rfl rfl ?_; rotate_left
   all_goals (refine vb ?_; simp_all [ends, toN, frN]; done)
 · dsimp only at h
   subst h
   refine xj (k := 11) rfl (z7 rfl (qi _ _ _) rfl tv4 ?_)
   refine xb rfl ?_ ?_ <;> intro b0
   refine xj (k := 14) rfl (z7 rfl (qi _ _ _) rfl tv4 (xj (k := 3) rfl ?_))
   refine xv rfl rfl rfl ?_; rotate_left
   refine xj (k := 7) rfl ?_
   refine xv rfl rfl rfl ?_; rotate_left
   all_goals (refine vb ?_; simp_all [ends, toN, frN]; done)
 · dsimp only at h
   subst h
   refine xj (k := 11) rfl (z7 rfl (qi _ _ _) rfl tv4 ?_)
   refine xb rfl ?_ ?_ <;> intro b0
   refine xj (k := 14) rfl (z7 rfl (qi _ _ _) rfl tv4 (xj (k := 3) rfl ?_))
   refine xv rfl rfl rfl ?_; rotate_left
   refine xj (k := 7) rfl ?_
   refine xv rfl rfl rfl ?_; rotate_left
   all_goals (refine vb ?_; simp_all [ends, toN, frN]; done)
 · dsimp only at h
   subst h
   refine xj (k := 11) rfl (z7 rfl (qi _ _ _) rfl tv4 ?_)
   refine xb rfl ?_ ?_ <;> intro b0
   refine xj (k := 14) rfl (z7 rfl (qi _ _ _) rfl tv4 (xj (k := 3) rfl ?_))
   refine xv rfl rfl rfl ?_; rotate_left
   refine xj (k := 7) rfl ?_
   refine xv rfl rfl rfl ?_; rotate_left
   all_goals (refine vb ?_; simp_all [ends, toN, frN]; done)
 · dsimp only at h
   subst h
   refine xj (k := 11) rfl (z7 rfl (qi _ _ _) rfl tv4 ?_)
   refine xb rfl ?_ ?_ <;> intro b0
   refine xj (k := 17) rfl ?_
   refine xv rfl rfl rfl ?_; rotate_left
   refine xj (k := 7) rfl ?_
   refine xv rfl rfl rfl ?_; rotate_left
   all_goals (refine vb ?_; simp_all [ends, toN, frN]; done)
theorem y9x (c : Clu) (ho : q00 c) (m : Msg) (hk : Go.Sx.within m.k 1 6 = true) : PC Tryz.prog 209 [.one (.p c.cs), .agg m.cs] (rB (within m.to 0 ((toN c m : Int) - 1))) := by
 refine PC.begin Tryz.func209 rfl (by kernel_rfl) ?_
 have q1 := ho.2.1.1
 have q2 := ho.2.2.1.1
 have q3 := ho.2.2.2.1.1
 have p1 : (c.shs.map Shd.cs).length ≤ 1048576 := by simpa using q1
 have p2 : (c.accs.map Acc.cs).length ≤ 1048576 := by simpa using q2
 have p3 : (c.ldrs.map Ldr.cs).length ≤ 1048576 := by simpa using q3
 have w1 := wl1 Shd.cs q1
 have w2 := wl1 Acc.cs q2
 have w3 := wl1 Ldr.cs q3
 obtain ⟨k, to, fr, mc, s, b, v, ob, ov⟩ := m
 rcases kinds hk with h | h | h | h | h | h
 · dsimp only at h
   subst h
   refine xj (k := 2) rfl (qd rfl [] (.take 0 [] (.take 1 [6, 7] (Tk [2, 3, 4] (.take 5 [6, 7] (.alt 6 (.take 7 [] .done) .nil))))) (by kernel_rfl) (z7 rfl (q0z _ _ (by assumption)) rfl tv3 (xv rfl rfl rfl ?_)))
   all_goals (refine vb ?_; simp_all [toN]; done)
 · dsimp only at h
   subst h
   refine xj (k := 4) rfl (qd rfl [] (.take 0 [] (.take 1 [6, 7] (Tk [2, 3, 4] (.take 5 [6, 7] (.alt 6 (.take 7 [] .done) .nil))))) (by kernel_rfl) (z7 rfl (z0f _ _ (by assumption)) rfl tv3 (xv rfl rfl rfl ?_)))
   all_goals (refine vb ?_; simp_all [toN]; done)
 · dsimp only at h
   subst h
   refine xj (k := 4) rfl (qd rfl [] (.take 0 [] (.take 1 [6, 7] (Tk [2, 3, 4] (.take 5 [6, 7] (.alt 6 (.take 7 [] .done) .nil))))) (by kernel_rfl) (z7 rfl (q2e _ _ (by assumption)) rfl tv3 (xv rfl rfl rfl ?_)))
   all_goals (refine vb ?_; simp_all [toN]; done)
 · dsimp only at h
   subst h
   refine xj (k := 4) rfl (qd rfl [] (.take 0 [] (.take 1 [6, 7] (Tk [2, 3, 4] (.take 5 [6, 7] (.alt 6 (.take 7 [] .done) .nil))))) (by kernel_rfl) (z7 rfl (z0f _ _ (by assumption)) rfl tv3 (xv rfl rfl rfl ?_)))
   all_goals (refine vb ?_; simp_all [toN]; done)
 · dsimp only at h
   subst h
   refine xj (k := 4) rfl (qd rfl [] (.take 0 [] (.take 1 [6, 7] (Tk [2, 3, 4] (.take 5 [6, 7] (.alt 6 (.take 7 [] .done) .nil))))) (by kernel_rfl) (z7 rfl (q2e _ _ (by assumption)) rfl tv3 (xv rfl rfl rfl ?_)))
   all_goals (refine vb ?_; simp_all [toN]; done)
 · dsimp only at h
   subst h
   refine xj (k := 2) rfl (qd rfl [] (.take 0 [] (.take 1 [6, 7] (Tk [2, 3, 4] (.take 5 [6, 7] (.alt 6 (.take 7 [] .done) .nil))))) (by kernel_rfl) (z7 rfl (q0z _ _ (by assumption)) rfl tv3 (xv rfl rfl rfl ?_)))
   all_goals (refine vb ?_; simp_all [toN]; done)
theorem q7r (c : Clu) (ho : q00 c) (m : Msg) (hk : Go.Sx.within m.k 1 6 = true) : PC Tryz.prog 210 [.one (.p c.cs), .agg m.cs] (rB (decide (m.k < 3) || decide (5 < m.k) || within m.fr 0 ((frN c m : Int) - 1))) := by
 refine PC.begin Tryz.func210 rfl (by kernel_rfl) ?_
 have q1 := ho.2.1.1
 have q2 := ho.2.2.1.1
 have q3 := ho.2.2.2.1.1
 have p1 : (c.shs.map Shd.cs).length ≤ 1048576 := by simpa using q1
 have p2 : (c.accs.map Acc.cs).length ≤ 1048576 := by simpa using q2
 have p3 : (c.ldrs.map Ldr.cs).length ≤ 1048576 := by simpa using q3
 have w1 := wl1 Shd.cs q1
 have w2 := wl1 Acc.cs q2
 have w3 := wl1 Ldr.cs q3
 obtain ⟨k, to, fr, mc, s, b, v, ob, ov⟩ := m
 rcases kinds hk with h | h | h | h | h | h
 · dsimp only at h
   subst h
   refine xj (k := 3) rfl ?_
   refine xr rfl (qm rfl ⟨⟨rfl, rfl, trivial⟩, z6 rfl⟩)
   all_goals (refine vb ?_; simp_all [frN]; done)
 · dsimp only at h
   subst h
   refine xj (k := 3) rfl ?_
   refine xr rfl (qm rfl ⟨⟨rfl, rfl, trivial⟩, z6 rfl⟩)
   all_goals (refine vb ?_; simp_all [frN]; done)
 · dsimp only at h
   subst h
   refine xj (k := 3) rfl (qd rfl [] (.take 0 [] (.take 1 [6, 7] (Tk [2, 3, 4] (.take 5 [6, 7] (.alt 6 (.take 7 [] .done) .nil))))) (by kernel_rfl) (z7 rfl (z0f _ _ (by assumption)) rfl tv3 (xv rfl rfl rfl ?_)))
   all_goals (refine vb ?_; simp_all [frN]; done)
 · dsimp only at h
   subst h
   refine xj (k := 1) rfl (qd rfl [] (.take 0 [] (.take 1 [6, 7] (Tk [2, 3, 4] (.take 5 [6, 7] (.alt 6 (.take 7 [] .done) .nil))))) (by kernel_rfl) (z7 rfl (q2e _ _ (by assumption)) rfl tv3 (xv rfl rfl rfl ?_)))
   all_goals (refine vb ?_; simp_all [frN]; done)
 · dsimp only at h
   subst h
   refine xj (k := 3) rfl (qd rfl [] (.take 0 [] (.take 1 [6, 7] (Tk [2, 3, 4] (.take 5 [6, 7] (.alt 6 (.take 7 [] .done) .nil))))) (by kernel_rfl) (z7 rfl (z0f _ _ (by assumption)) rfl tv3 (xv rfl rfl rfl ?_)))
   all_goals (refine vb ?_; simp_all [frN]; done)
 · dsimp only at h
   subst h
   refine xj (k := 3) rfl ?_
   refine xr rfl (qm rfl ⟨⟨rfl, rfl, trivial⟩, z6 rfl⟩)
   all_goals (refine vb ?_; simp_all [frN]; done)
theorem z5v (c : Clu) (ho : q00 c) (m : Msg) (hk : Go.Sx.within m.k 1 6 = true) : PC Tryz.prog 211 [.one (.p c.cs), .agg m.cs] (rB (ranges c m)) := by
 refine PC.begin Tryz.func211 rfl (by kernel_rfl) ?_
 have q1 := ho.2.1.1
 have q2 := ho.2.2.1.1
 have q3 := ho.2.2.2.1.1
 have p1 : (c.shs.map Shd.cs).length ≤ 1048576 := by simpa using q1
 have p2 : (c.accs.map Acc.cs).length ≤ 1048576 := by simpa using q2
 have p3 : (c.ldrs.map Ldr.cs).length ≤ 1048576 := by simpa using q3
 have w1 := wl1 Shd.cs q1
 have w2 := wl1 Acc.cs q2
 have w3 := wl1 Ldr.cs q3
 obtain ⟨k, to, fr, mc, s, b, v, ob, ov⟩ := m
 rcases kinds hk with h | h | h | h | h | h
 · dsimp only at h
   subst h
   refine xj (k := 1) rfl (z7 rfl (z19 _ (by assumption) _ _) rfl tv4 (xv rfl rfl rfl ?_))
   all_goals (refine vb ?_; simp_all [ranges, Msg.shd, q22, Vt.none]; done)
 · dsimp only at h
   subst h
   refine xj (k := 2) rfl (z7 rfl (z19 _ (by assumption) _ _) rfl tv4 ?_)
   refine xb rfl ?_ ?_ <;> intro b0
   refine xj (k := 5) rfl ?_
   refine xv rfl rfl rfl ?_; rotate_left
   refine xj (k := 2) rfl (z7 rfl (y0a _) rfl ⟨trivial, trivial⟩ (xj (k := 2) rfl ?_))
   refine xb rfl ?_ ?_ <;> intro b1
   refine xv rfl rfl rfl ?_; rotate_left
   refine xj (k := 2) rfl (z7 rfl (q0o _) rfl ⟨trivial, trivial⟩ ?_)
   refine xv rfl rfl rfl ?_; rotate_left
   all_goals (refine vb ?_; simp_all [ranges, Msg.shd, q22, Vt.none]; done)
 · dsimp only at h
   subst h
   refine xj (k := 2) rfl (z7 rfl (z19 _ (by assumption) _ _) rfl tv4 ?_)
   refine xb rfl ?_ ?_ <;> intro b0
   refine xj (k := 5) rfl ?_
   refine xv rfl rfl rfl ?_; rotate_left
   refine xj (k := 2) rfl (z7 rfl (y0a _) rfl ⟨trivial, trivial⟩ (xj (k := 2) rfl ?_))
   refine xb rfl ?_ ?_ <;> intro b1
   refine xv rfl rfl rfl ?_; rotate_left
   refine xj (k := 2) rfl (z7 rfl (q0o _) rfl ⟨trivial, trivial⟩ ?_)
   refine xv rfl rfl rfl ?_; rotate_left
   all_goals (refine vb ?_; simp_all [ranges, Msg.shd, q22, Vt.none]; done)
 · dsimp only at h
   subst h
   refine xj (k := 2) rfl (z7 rfl (z19 _ (by assumption) _ _) rfl tv4 ?_)
   refine xb rfl ?_ ?_ <;> intro b0
   refine xj (k := 5) rfl ?_
   refine xv rfl rfl rfl ?_; rotate_left
   refine xj (k := 2) rfl (z7 rfl (y0a _) rfl ⟨trivial, trivial⟩ (xj (k := 2) rfl ?_))
   refine xb rfl ?_ ?_ <;> intro b1
   refine xv rfl rfl rfl ?_; rotate_left
   refine xj (k := 3) rfl ?_
   refine xv rfl rfl rfl ?_; rotate_left
   all_goals (refine vb ?_; simp_all [ranges, Msg.shd, q22, Vt.none]; done)
 · dsimp only at h
   subst h
   refine xj (k := 2) rfl (z7 rfl (z19 _ (by assumption) _ _) rfl tv4 ?_)
   refine xb rfl ?_ ?_ <;> intro b0
   refine xj (k := 5) rfl ?_
   refine xv rfl rfl rfl ?_; rotate_left
   refine xj (k := 2) rfl (z7 rfl (y0a _) rfl ⟨trivial, trivial⟩ (xj (k := 2) rfl ?_))
   refine xb rfl ?_ ?_ <;> intro b1
   refine xv rfl rfl rfl ?_; rotate_left
   refine xj (k := 3) rfl (qd rfl [] (.take 0 [] (.take 1 (Rg 3 7) (.alt 2 (Tk [3, 4, 5] (.take 6 (Rg 7 3) (.alt 7 (Tk [8, 9] .done) .nil))) .nil))) (by kernel_rfl) (z7 rfl (z3a) rfl trivial ?_))
   refine xb rfl ?_ ?_ <;> intro b2
   refine xj (k := 3) rfl ?_
   refine xv rfl rfl rfl ?_; rotate_left
   refine xj (k := 2) rfl (z7 rfl (q24 ⟨ob, ov⟩) rfl ⟨tv3, trivial⟩ (xj (k := 1) rfl ?_))
   refine xv rfl rfl rfl ?_; rotate_left
   all_goals (refine vb ?_; simp_all [ranges, Msg.shd, q22, Vt.none]; done)
 · dsimp only at h
   subst h
   refine xj (k := 2) rfl (z7 rfl (z19 _ (by assumption) _ _) rfl tv4 ?_)
   refine xb rfl ?_ ?_ <;> intro b0
   refine xj (k := 2) rfl (z7 rfl (y2n _) rfl ⟨trivial, trivial⟩ (xj (k := 1) rfl ?_))
   refine xv rfl rfl rfl ?_; rotate_left
   refine xj (k := 3) rfl ?_
   refine xv rfl rfl rfl ?_; rotate_left
   all_goals (refine vb ?_; simp_all [ranges, Msg.shd, q22, Vt.none]; done)
theorem z5m (m n : Msg) : y1d [.int .i64 m.k, .int .i64 m.to, .int .i64 m.fr, .int .i64 m.c, .int .i64 m.s, .int .i64 m.b, .int .i64 m.v, .int .i64 m.ob, .int .i64 m.ov] [.int .i64 n.k, .int .i64 n.to, .int .i64 n.fr, .int .i64 n.c, .int .i64 n.s, .int .i64 n.b, .int .i64 n.v, .int .i64 n.ob, .int .i64 n.ov] = m.same n := by simp [y1d, Msg.same, Bool.and_assoc]
theorem z6r (a b : Int) : y1d [.int .i64 a, .int .i64 b] [.int .i64 Vt.none.b, .int .i64 Vt.none.v] = (a == -1 && b == 0) := by simp [y1d, Vt.none]
theorem z55 (c : Clu) (m : Msg) (hk : Go.Sx.within m.k 1 6 = true) {e i r z : Bool} (h1 : ends c m = e) (h2 : (y0x c.cons m.c).isNone = i) (h3 : ranges c m = r) (h4 : m.same m.bare = z) : z0i c m = (if e then (if i then 4 else if r then (if z then 0 else 1) else 3) else 3) := by
 unfold z0i
 rw [hk, h1, h2, h3, h4]
 cases e <;> cases i <;> cases r <;> cases z <;> rfl
theorem ya5 (c : Clu) (ho : q00 c) (m : Msg) : PC Tryz.prog 102 [.one (.p c.cs), .agg m.cs] (rI (z0i c m)) := by
 refine PC.begin Tryz.func102 rfl (by kernel_rfl) ?_
 by_cases hk : Go.Sx.within m.k 1 6 = true
 · have hf := z10 c m.c ho.1.1
   obtain ⟨k, to, fr, mc, s, b, v, ob, ov⟩ := m
   dsimp only at hf
   rcases kinds hk with h | h | h | h | h | h
   · dsimp only at h
     subst h
     have hE := y1n c ho ⟨1, to, fr, mc, s, b, v, ob, ov⟩ hk
     have hR : ranges c ⟨1, to, fr, mc, s, b, v, ob, ov⟩ = z16 c.cons mc to := by simp [ranges, Msg.shd]
     refine z7 rfl (qi _ _ _) rfl tv4 (xj (k := 1) rfl (z7 rfl (hE) rfl ⟨trivial, tv10, trivial⟩ ?_))
     refine xb rfl ?_ ?_ <;> intro b0
     refine xv rfl rfl rfl ?_; rotate_left
     refine z7 rfl (hf) rfl tv3 ?_
     refine xb rfl ?_ ?_ <;> intro b1
     refine xv rfl rfl rfl ?_; rotate_left
     refine xj (k := 5) rfl (z7 rfl (zy _ (by assumption) _ _) rfl tv4 ?_)
     refine xb rfl ?_ ?_ <;> intro b2
     refine xv rfl rfl rfl ?_; rotate_left
     refine xj (k := 24) rfl (qd rfl [] (.take 0 [] (.take 1 (Rg 2 13) (Tk [2, 3, 4] (.take 5 (Rg 7 8) (.alt 6 (Tk (Rg 7 4) (.take 11 (Rg 12 3) (.alt 12 (Tk [13, 14] .done) .nil))) .nil))))) (by kernel_rfl) (xj (k := 11) rfl (qd rfl [] (.take 0 [3] (.take 1 [2, 3] (.alt 2 (.take 3 [] .done) .nil))) (by kernel_rfl) (z7 rfl (y0f ⟨1, to, fr, mc, s, b, v, ob, ov⟩ hk) rfl ⟨tv10, trivial⟩ ?_))))
     refine xb rfl ?_ ?_ <;> intro b3
     refine xv rfl rfl rfl ?_; rotate_left
     refine xv rfl rfl rfl ?_; rotate_left
     all_goals
      refine vi ?_
      have hI : decide (y1e (fun x : Con => x.id == mc) c.cons < 0) = (y0x c.cons mc).isNone := z0e
      rw [z55 c ⟨1, to, fr, mc, s, b, v, ob, ov⟩ hk rfl hI.symm hR (z5m ⟨1, to, fr, mc, s, b, v, ob, ov⟩ (Msg.bare ⟨1, to, fr, mc, s, b, v, ob, ov⟩)).symm]
      have hN := z6r ob ov
      clear hI hR hE hf hk ho
      ((try dsimp only at *); simp_all only [Bool.not_eq_true', Bool.not_eq_false', Bool.not_true, Bool.not_false, Bool.and_true, Bool.true_and, Bool.and_false, Bool.false_and, Bool.and_self, Bool.or_true, Bool.true_or, Bool.or_false, Bool.false_or, Bool.false_eq_true, if_true, if_false, reduceIte]; done)
   · dsimp only at h
     subst h
     have hE := y1n c ho ⟨2, to, fr, mc, s, b, v, ob, ov⟩ hk
     have hR : ranges c ⟨2, to, fr, mc, s, b, v, ob, ov⟩ = (z16 c.cons mc s && Go.Sx.within b 0 1000 && Go.Sx.within v 1 2) := by simp [ranges, Msg.shd]
     refine z7 rfl (qi _ _ _) rfl tv4 (xj (k := 1) rfl (z7 rfl (hE) rfl ⟨trivial, tv10, trivial⟩ ?_))
     refine xb rfl ?_ ?_ <;> intro b0
     refine xv rfl rfl rfl ?_; rotate_left
     refine z7 rfl (hf) rfl tv3 ?_
     refine xb rfl ?_ ?_ <;> intro b1
     refine xv rfl rfl rfl ?_; rotate_left
     refine xj (k := 5) rfl (z7 rfl (zy _ (by assumption) _ _) rfl tv4 ?_)
     refine xb rfl ?_ ?_ <;> intro b2
     refine xv rfl rfl rfl ?_; rotate_left
     refine xj (k := 7) rfl (z7 rfl (y01 _) rfl ⟨trivial, trivial⟩ (xj (k := 2) rfl ?_))
     refine xb rfl ?_ ?_ <;> intro b3
     refine xv rfl rfl rfl ?_; rotate_left
     refine xj (k := 11) rfl (z7 rfl (y0b _) rfl ⟨trivial, trivial⟩ (xj (k := 2) rfl ?_))
     refine xb rfl ?_ ?_ <;> intro b4
     refine xv rfl rfl rfl ?_; rotate_left
     refine qd rfl [] (.take 0 [] (.take 1 (Rg 2 13) (Tk [2, 3, 4] (.take 5 (Rg 7 8) (.alt 6 (Tk (Rg 7 4) (.take 11 (Rg 12 3) (.alt 12 (Tk [13, 14] .done) .nil))) .nil))))) (by kernel_rfl) (xj (k := 11) rfl (qd rfl [] (.take 0 [3] (.take 1 [2, 3] (.alt 2 (.take 3 [] .done) .nil))) (by kernel_rfl) (z7 rfl (y0f ⟨2, to, fr, mc, s, b, v, ob, ov⟩ hk) rfl ⟨tv10, trivial⟩ ?_)))
     refine xb rfl ?_ ?_ <;> intro b5
     refine xv rfl rfl rfl ?_; rotate_left
     refine xv rfl rfl rfl ?_; rotate_left
     all_goals
      refine vi ?_
      have hI : decide (y1e (fun x : Con => x.id == mc) c.cons < 0) = (y0x c.cons mc).isNone := z0e
      rw [z55 c ⟨2, to, fr, mc, s, b, v, ob, ov⟩ hk rfl hI.symm hR (z5m ⟨2, to, fr, mc, s, b, v, ob, ov⟩ (Msg.bare ⟨2, to, fr, mc, s, b, v, ob, ov⟩)).symm]
      have hN := z6r ob ov
      clear hI hR hE hf hk ho
      ((try dsimp only at *); simp_all only [Bool.not_eq_true', Bool.not_eq_false', Bool.not_true, Bool.not_false, Bool.and_true, Bool.true_and, Bool.and_false, Bool.false_and, Bool.and_self, Bool.or_true, Bool.true_or, Bool.or_false, Bool.false_or, Bool.false_eq_true, if_true, if_false, reduceIte]; done)
   · dsimp only at h
     subst h
     have hE := y1n c ho ⟨3, to, fr, mc, s, b, v, ob, ov⟩ hk
     have hR : ranges c ⟨3, to, fr, mc, s, b, v, ob, ov⟩ = (z16 c.cons mc s && Go.Sx.within b 0 1000 && Go.Sx.within v 1 2) := by simp [ranges, Msg.shd]
     refine z7 rfl (qi _ _ _) rfl tv4 (xj (k := 1) rfl (z7 rfl (hE) rfl ⟨trivial, tv10, trivial⟩ ?_))
     refine xb rfl ?_ ?_ <;> intro b0
     refine xv rfl rfl rfl ?_; rotate_left
     refine z7 rfl (hf) rfl tv3 ?_
     refine xb rfl ?_ ?_ <;> intro b1
     refine xv rfl rfl rfl ?_; rotate_left
     refine xj (k := 5) rfl (z7 rfl (zy _ (by assumption) _ _) rfl tv4 ?_)
     refine xb rfl ?_ ?_ <;> intro b2
     refine xv rfl rfl rfl ?_; rotate_left
     refine xj (k := 7) rfl (z7 rfl (y01 _) rfl ⟨trivial, trivial⟩ (xj (k := 2) rfl ?_))
     refine xb rfl ?_ ?_ <;> intro b3
     refine xv rfl rfl rfl ?_; rotate_left
     refine xj (k := 11) rfl (z7 rfl (y0b _) rfl ⟨trivial, trivial⟩ (xj (k := 2) rfl ?_))
     refine xb rfl ?_ ?_ <;> intro b4
     refine xv rfl rfl rfl ?_; rotate_left
     refine qd rfl [] (.take 0 [] (.take 1 (Rg 2 13) (Tk [2, 3, 4] (.take 5 (Rg 7 8) (.alt 6 (Tk (Rg 7 4) (.take 11 (Rg 12 3) (.alt 12 (Tk [13, 14] .done) .nil))) .nil))))) (by kernel_rfl) (xj (k := 11) rfl (qd rfl [] (.take 0 [3] (.take 1 [2, 3] (.alt 2 (.take 3 [] .done) .nil))) (by kernel_rfl) (z7 rfl (y0f ⟨3, to, fr, mc, s, b, v, ob, ov⟩ hk) rfl ⟨tv10, trivial⟩ ?_)))
     refine xb rfl ?_ ?_ <;> intro b5
     refine xv rfl rfl rfl ?_; rotate_left
     refine xv rfl rfl rfl ?_; rotate_left
     all_goals
      refine vi ?_
      have hI : decide (y1e (fun x : Con => x.id == mc) c.cons < 0) = (y0x c.cons mc).isNone := z0e
      rw [z55 c ⟨3, to, fr, mc, s, b, v, ob, ov⟩ hk rfl hI.symm hR (z5m ⟨3, to, fr, mc, s, b, v, ob, ov⟩ (Msg.bare ⟨3, to, fr, mc, s, b, v, ob, ov⟩)).symm]
      have hN := z6r ob ov
      clear hI hR hE hf hk ho
      ((try dsimp only at *); simp_all only [Bool.not_eq_true', Bool.not_eq_false', Bool.not_true, Bool.not_false, Bool.and_true, Bool.true_and, Bool.and_false, Bool.false_and, Bool.and_self, Bool.or_true, Bool.true_or, Bool.or_false, Bool.false_or, Bool.false_eq_true, if_true, if_false, reduceIte]; done)
   · dsimp only at h
     subst h
     have hE := y1n c ho ⟨4, to, fr, mc, s, b, v, ob, ov⟩ hk
     have hR : ranges c ⟨4, to, fr, mc, s, b, v, ob, ov⟩ = (z16 c.cons mc s && Go.Sx.within b 0 1000) := by simp [ranges, Msg.shd]
     refine z7 rfl (qi _ _ _) rfl tv4 (xj (k := 1) rfl (z7 rfl (hE) rfl ⟨trivial, tv10, trivial⟩ ?_))
     refine xb rfl ?_ ?_ <;> intro b0
     refine xv rfl rfl rfl ?_; rotate_left
     refine z7 rfl (hf) rfl tv3 ?_
     refine xb rfl ?_ ?_ <;> intro b1
     refine xv rfl rfl rfl ?_; rotate_left
     refine xj (k := 5) rfl (z7 rfl (zy _ (by assumption) _ _) rfl tv4 ?_)
     refine xb rfl ?_ ?_ <;> intro b2
     refine xv rfl rfl rfl ?_; rotate_left
     refine xj (k := 7) rfl (z7 rfl (y01 _) rfl ⟨trivial, trivial⟩ (xj (k := 2) rfl ?_))
     refine xb rfl ?_ ?_ <;> intro b3
     refine xv rfl rfl rfl ?_; rotate_left
     refine xj (k := 14) rfl (qd rfl [] (.take 0 [] (.take 1 (Rg 2 13) (Tk [2, 3, 4] (.take 5 (Rg 7 8) (.alt 6 (Tk (Rg 7 4) (.take 11 (Rg 12 3) (.alt 12 (Tk [13, 14] .done) .nil))) .nil))))) (by kernel_rfl) (xj (k := 11) rfl (qd rfl [] (.take 0 [3] (.take 1 [2, 3] (.alt 2 (.take 3 [] .done) .nil))) (by kernel_rfl) (z7 rfl (y0f ⟨4, to, fr, mc, s, b, v, ob, ov⟩ hk) rfl ⟨tv10, trivial⟩ ?_))))
     refine xb rfl ?_ ?_ <;> intro b4
     refine xv rfl rfl rfl ?_; rotate_left
     refine xv rfl rfl rfl ?_; rotate_left
     all_goals
      refine vi ?_
      have hI : decide (y1e (fun x : Con => x.id == mc) c.cons < 0) = (y0x c.cons mc).isNone := z0e
      rw [z55 c ⟨4, to, fr, mc, s, b, v, ob, ov⟩ hk rfl hI.symm hR (z5m ⟨4, to, fr, mc, s, b, v, ob, ov⟩ (Msg.bare ⟨4, to, fr, mc, s, b, v, ob, ov⟩)).symm]
      have hN := z6r ob ov
      clear hI hR hE hf hk ho
      ((try dsimp only at *); simp_all only [Bool.not_eq_true', Bool.not_eq_false', Bool.not_true, Bool.not_false, Bool.and_true, Bool.true_and, Bool.and_false, Bool.false_and, Bool.and_self, Bool.or_true, Bool.true_or, Bool.or_false, Bool.false_or, Bool.false_eq_true, if_true, if_false, reduceIte]; done)
   · dsimp only at h
     subst h
     have hE := y1n c ho ⟨5, to, fr, mc, s, b, v, ob, ov⟩ hk
     have hR : ranges c ⟨5, to, fr, mc, s, b, v, ob, ov⟩ = (z16 c.cons mc s && Go.Sx.within b 0 1000 && ((ob == -1 && ov == 0) || Vt.ok ⟨ob, ov⟩)) := by simp [ranges, Msg.shd]
     refine z7 rfl (qi _ _ _) rfl tv4 (xj (k := 1) rfl (z7 rfl (hE) rfl ⟨trivial, tv10, trivial⟩ ?_))
     refine xb rfl ?_ ?_ <;> intro b0
     refine xv rfl rfl rfl ?_; rotate_left
     refine z7 rfl (hf) rfl tv3 ?_
     refine xb rfl ?_ ?_ <;> intro b1
     refine xv rfl rfl rfl ?_; rotate_left
     refine xj (k := 5) rfl (z7 rfl (zy _ (by assumption) _ _) rfl tv4 ?_)
     refine xb rfl ?_ ?_ <;> intro b2
     refine xv rfl rfl rfl ?_; rotate_left
     refine xj (k := 7) rfl (z7 rfl (y01 _) rfl ⟨trivial, trivial⟩ (xj (k := 2) rfl ?_))
     refine xb rfl ?_ ?_ <;> intro b3
     refine xv rfl rfl rfl ?_; rotate_left
     refine xj (k := 14) rfl (qd rfl [] (.take 0 [] (.take 1 (Rg 2 13) (Tk [2, 3, 4] (.take 5 (Rg 7 8) (.alt 6 (Tk (Rg 7 4) (.take 11 (Rg 12 3) (.alt 12 (Tk [13, 14] .done) .nil))) .nil))))) (by kernel_rfl) (xj (k := 3) rfl (z7 rfl (z25) rfl trivial (xj (k := 2) rfl ?_))))
     refine xb rfl ?_ ?_ <;> intro b4
     refine xj (k := 2) rfl (z7 rfl (q1x ⟨ob, ov⟩) rfl ⟨tv3, trivial⟩ (xj (k := 2) rfl ?_))
     refine xb rfl ?_ ?_ <;> intro b5
     refine xv rfl rfl rfl ?_; rotate_left
     refine qd rfl [] (.take 0 [3] (.take 1 [2, 3] (.alt 2 (.take 3 [] .done) .nil))) (by kernel_rfl) (z7 rfl (y0f ⟨5, to, fr, mc, s, b, v, ob, ov⟩ hk) rfl ⟨tv10, trivial⟩ ?_)
     refine xb rfl ?_ ?_ <;> intro b6
     refine xv rfl rfl rfl ?_; rotate_left
     refine xv rfl rfl rfl ?_; rotate_left
     refine xj (k := 5) rfl (qd rfl [] (.take 0 [3] (.take 1 [2, 3] (.alt 2 (.take 3 [] .done) .nil))) (by kernel_rfl) (z7 rfl (y0f ⟨5, to, fr, mc, s, b, v, ob, ov⟩ hk) rfl ⟨tv10, trivial⟩ ?_))
     refine xb rfl ?_ ?_ <;> intro b5
     refine xv rfl rfl rfl ?_; rotate_left
     refine xv rfl rfl rfl ?_; rotate_left
     all_goals
      refine vi ?_
      have hI : decide (y1e (fun x : Con => x.id == mc) c.cons < 0) = (y0x c.cons mc).isNone := z0e
      rw [z55 c ⟨5, to, fr, mc, s, b, v, ob, ov⟩ hk rfl hI.symm hR (z5m ⟨5, to, fr, mc, s, b, v, ob, ov⟩ (Msg.bare ⟨5, to, fr, mc, s, b, v, ob, ov⟩)).symm]
      have hN := z6r ob ov
      clear hI hR hE hf hk ho
      ((try dsimp only at *); simp_all only [Bool.not_eq_true', Bool.not_eq_false', Bool.not_true, Bool.not_false, Bool.and_true, Bool.true_and, Bool.and_false, Bool.false_and, Bool.and_self, Bool.or_true, Bool.true_or, Bool.or_false, Bool.false_or, Bool.false_eq_true, if_true, if_false, reduceIte]; done)
   · dsimp only at h
     subst h
     have hE := y1n c ho ⟨6, to, fr, mc, s, b, v, ob, ov⟩ hk
     have hR : ranges c ⟨6, to, fr, mc, s, b, v, ob, ov⟩ = (z16 c.cons mc to && Go.Sx.within v 1 2) := by simp [ranges, Msg.shd]
     refine z7 rfl (qi _ _ _) rfl tv4 (xj (k := 1) rfl (z7 rfl (hE) rfl ⟨trivial, tv10, trivial⟩ ?_))
     refine xb rfl ?_ ?_ <;> intro b0
     refine xv rfl rfl rfl ?_; rotate_left
     refine z7 rfl (hf) rfl tv3 ?_
     refine xb rfl ?_ ?_ <;> intro b1
     refine xv rfl rfl rfl ?_; rotate_left
     refine xj (k := 5) rfl (z7 rfl (zy _ (by assumption) _ _) rfl tv4 ?_)
     refine xb rfl ?_ ?_ <;> intro b2
     refine xv rfl rfl rfl ?_; rotate_left
     refine xj (k := 21) rfl (z7 rfl (y0b _) rfl ⟨trivial, trivial⟩ (xj (k := 2) rfl ?_))
     refine xb rfl ?_ ?_ <;> intro b3
     refine xv rfl rfl rfl ?_; rotate_left
     refine qd rfl [] (.take 0 [] (.take 1 (Rg 2 13) (Tk [2, 3, 4] (.take 5 (Rg 7 8) (.alt 6 (Tk (Rg 7 4) (.take 11 (Rg 12 3) (.alt 12 (Tk [13, 14] .done) .nil))) .nil))))) (by kernel_rfl) (xj (k := 11) rfl (qd rfl [] (.take 0 [3] (.take 1 [2, 3] (.alt 2 (.take 3 [] .done) .nil))) (by kernel_rfl) (z7 rfl (y0f ⟨6, to, fr, mc, s, b, v, ob, ov⟩ hk) rfl ⟨tv10, trivial⟩ ?_)))
     refine xb rfl ?_ ?_ <;> intro b4
     refine xv rfl rfl rfl ?_; rotate_left
     refine xv rfl rfl rfl ?_; rotate_left
     all_goals
      refine vi ?_
      have hI : decide (y1e (fun x : Con => x.id == mc) c.cons < 0) = (y0x c.cons mc).isNone := z0e
      rw [z55 c ⟨6, to, fr, mc, s, b, v, ob, ov⟩ hk rfl hI.symm hR (z5m ⟨6, to, fr, mc, s, b, v, ob, ov⟩ (Msg.bare ⟨6, to, fr, mc, s, b, v, ob, ov⟩)).symm]
      have hN := z6r ob ov
      clear hI hR hE hf hk ho
      ((try dsimp only at *); simp_all only [Bool.not_eq_true', Bool.not_eq_false', Bool.not_true, Bool.not_false, Bool.and_true, Bool.true_and, Bool.and_false, Bool.false_and, Bool.and_self, Bool.or_true, Bool.true_or, Bool.or_false, Bool.false_or, Bool.false_eq_true, if_true, if_false, reduceIte]; done)
 · have hk : Go.Sx.within m.k 1 6 = false := by simpa using hk
   refine z7 rfl (qi _ _ _) rfl tv4 ?_
   refine xb rfl ?_ ?_ <;> intro b0
   refine xv rfl rfl rfl ?_; rotate_left
   exact absurd b0 (by simp; omega)
   all_goals first
    | (refine vi ?_; unfold z0i; rw [hk]; rfl)
    | (exfalso; simp_all; done)
theorem q9t (c : Clu) (ho : q00 c) (m : Msg) : PC Tryz.prog 124 [.agg c.cs, .agg m.cs] (rI (z0i c m)) := by
 refine PC.begin Tryz.func124 rfl (by kernel_rfl) ?_
 by_cases hk : Go.Sx.within m.k 1 6 = true
 · have hT := y9x c ho m hk
   have hF := q7r c ho m hk
   have hR := z5v c ho m hk
   have hP := y8x m hk
   refine z96 (n := 0) rfl (ι := Unit) (fun _ => True) (fun _ => ⟨[(2, .one (.b (.p c.cs))), (3, .one (.a 3 0))], [(3, .var (m.cs.map .b))]⟩) ?_ ?_
   · intro K hK
     exact q9 rfl (hK _ () trivial ⟨⟨⟨rfl, rfl, rfl⟩, ⟨rfl, rfl, rfl⟩, trivial⟩, ⟨lcr, trivial⟩, rfl⟩)
   intro _ _
   cases h : y0x c.cons m.c with
   | none =>
     refine z7 rfl (zo _ _ _) rfl tv4 ?_
     refine xb rfl ?_ ?_ <;> intro b0
     exact absurd b0 (by simp; omega)
     refine z7 rfl (hT) rfl ⟨trivial, tv10, trivial⟩ ?_
     refine xb rfl ?_ ?_ <;> intro b1
     refine xj (k := 4) rfl ?_
     refine xv rfl rfl rfl ?_; rotate_left
     refine xj (k := 1) rfl (z7 rfl (hF) rfl ⟨trivial, tv10, trivial⟩ (xj (k := 2) rfl ?_))
     refine xb rfl ?_ ?_ <;> intro b2
     refine xv rfl rfl rfl ?_; rotate_left
     refine z7 rfl (q1c c ho m.c h) rfl tv3 (xj (k := 1) rfl ?_)
     refine xv rfl rfl rfl ?_; rotate_left
     all_goals
      refine vi ?_
      rw [z55 c m hk rfl (show (y0x c.cons m.c).isNone = true by rw [h]; rfl) rfl rfl]
      unfold ends
      clear hT hF hR hP ho h hk
      ((try dsimp only at *); simp_all only [Bool.not_eq_true', Bool.not_eq_false', Bool.not_true, Bool.not_false, Bool.and_true, Bool.true_and, Bool.and_false, Bool.false_and, Bool.and_self, Bool.or_true, Bool.true_or, Bool.or_false, Bool.false_or, Bool.false_eq_true, if_true, if_false, reduceIte]; done)
   | some x =>
     refine z7 rfl (zo _ _ _) rfl tv4 ?_
     refine xb rfl ?_ ?_ <;> intro b0
     exact absurd b0 (by simp; omega)
     refine z7 rfl (hT) rfl ⟨trivial, tv10, trivial⟩ ?_
     refine xb rfl ?_ ?_ <;> intro b1
     refine xj (k := 4) rfl ?_
     refine xv rfl rfl rfl ?_; rotate_left
     refine xj (k := 1) rfl (z7 rfl (hF) rfl ⟨trivial, tv10, trivial⟩ (xj (k := 2) rfl ?_))
     refine xb rfl ?_ ?_ <;> intro b2
     refine xv rfl rfl rfl ?_; rotate_left
     refine z7 rfl (z1d c ho m.c x h) rfl tv3 (xj (k := 1) rfl (z7 rfl (hR) rfl ⟨trivial, tv10, trivial⟩ ?_))
     refine xb rfl ?_ ?_ <;> intro b3
     refine xv rfl rfl rfl ?_; rotate_left
     refine qd rfl [] (.take 0 [3, 4] (.take 1 (Rg 2 3) (.alt 2 (Tk [3, 4] .done) .nil))) (by kernel_rfl) (z7 rfl (hP) rfl ⟨tv10, trivial⟩ ?_)
     refine xb rfl ?_ ?_ <;> intro b4
     refine xv rfl rfl rfl ?_; rotate_left
     refine xv rfl rfl rfl ?_; rotate_left
     all_goals
      refine vi ?_
      rw [z55 c m hk rfl (show (y0x c.cons m.c).isNone = false by rw [h]; rfl) rfl (z5m m m.bare).symm]
      unfold ends
      clear hT hF hR hP ho h hk
      ((try dsimp only at *); simp_all only [Bool.not_eq_true', Bool.not_eq_false', Bool.not_true, Bool.not_false, Bool.and_true, Bool.true_and, Bool.and_false, Bool.false_and, Bool.and_self, Bool.or_true, Bool.true_or, Bool.or_false, Bool.false_or, Bool.false_eq_true, if_true, if_false, reduceIte]; done)
 · have hk : Go.Sx.within m.k 1 6 = false := by simpa using hk
   refine z7 rfl (zo _ _ _) rfl tv4 ?_
   refine xb rfl ?_ ?_ <;> intro b0
   refine xv rfl rfl rfl ?_; rotate_left
   exact absurd b0 (by simp; omega)
   all_goals first
    | (refine vi ?_; unfold z0i; rw [hk]; rfl)
    | (exfalso; simp_all; done)
theorem z8p {a b c d a' b' c' d' : Int} : y1d [.int .i64 a, .int .i64 b, .int .i64 c, .int .i64 d] [.int .i64 a', .int .i64 b', .int .i64 c', .int .i64 d'] = decide (Leg.mk a b c d = Leg.mk a' b' c' d') := by
 rw [Bool.eq_iff_iff]; simp [y1d]
theorem q7l (us vs : List Leg) (hx : us.length ≤ 1048576) : PC Tryz.prog 278 [.one (.l (us.map Leg.cs)), .one (.l (vs.map Leg.cs))] (rB (decide (us = vs))) := by
 refine PC.begin Tryz.func278 rfl (by kernel_rfl) ?_
 refine xb rfl ?_ ?_ <;> intro h0
 · have hne : ¬ us.length = vs.length := by simp at h0; omega
   refine xv rfl rfl rfl ?_
   all_goals (refine vb ?_; rw [eq_comm, decide_eq_false_iff_not]; exact fun e => hne (by rw [e]))
 · have he : us.length = vs.length := by simp at h0; omega
   refine yd rfl (ι := Nat) (fun i => i ≤ us.length ∧ us.take i = vs.take i) (fun i => ⟨[(13, sV (.int .i64 i)), (12, sV (.int .i64 (us.map Leg.cs).length)), (0, .one (.b (.l (us.map Leg.cs)))), (1, .one (.b (.l (vs.map Leg.cs))))], []⟩) (fun i => us.length - i) 0 ⟨Nat.zero_le _, rfl⟩ ?_ ?_
   · exact ⟨⟨rfl, rfl, rfl, rfl, trivial⟩, trivial, rfl⟩
   · intro i ⟨hi, hq⟩ J hJ
     refine xb rfl ?_ ?_ <;> intro h
     · have h : i < us.length := by simpa using h
       obtain ⟨x, hx1⟩ := gx h
       obtain ⟨y, hy1⟩ := gx (xs := vs) (i := i) (by omega)
       have hg := gm Leg.cs hx1
       have hg2 := gm Leg.cs hy1
       refine qd rfl [] (Tk [0, 1, 2] (.take 3 [8] (Tk [4, 5, 6] (.take 7 [8] (.take 8 [] .done))))) (by kernel_rfl) (xs rfl (nn_ _) (y9 rfl _ hg (xs rfl rfl (xs rfl (nn_ _) (y9 rfl _ hg2 (xs rfl rfl ?_))))))
       refine xb rfl ?_ ?_ <;> intro b0
       refine xv rfl rfl rfl ?_; rotate_left
       rotate_left
       · rw [z8p] at b0
         refine vb ?_; rw [eq_comm, decide_eq_false_iff_not]; intro e; subst e; rw [hx1] at hy1; cases hy1; simp at b0
       · rw [z8p] at b0
         have e : x = y := by simpa only [Bool.not_eq_false', decide_eq_true_eq] using b0
         exact q9 rfl (hJ _ (i + 1) ⟨by omega, by rw [List.take_add_one, List.take_add_one, hx1, hy1, hq, e]⟩ (by omega) ⟨⟨cwi (by omega) (by omega) (by omega), rfl, rfl, rfl, trivial⟩, trivial, rfl⟩)
     · have h : i = us.length := by have : ¬ i < us.length := (by simpa using h); omega
       rw [h, List.take_length, he, List.take_length] at hq
       refine xv rfl rfl rfl ?_
       all_goals (refine vb ?_; rw [hq]; simp)
theorem z6b (a b : Con) (ha : a.legs.length ≤ 1048576) : PC Tryz.prog 203 [.agg a.cs, .agg b.cs] (rB (a.same b)) := by
 refine PC.begin Tryz.func203 rfl (by kernel_rfl) ?_
 refine xb rfl ?_ ?_ <;> intro b0
 refine xj (k := 4) rfl (z7 rfl (q7l a.legs b.legs ha) rfl tv3 (xj (k := 1) rfl ?_))
 refine xv rfl rfl rfl ?_; rotate_left
 refine xj (k := 5) rfl ?_
 refine xv rfl rfl rfl ?_; rotate_left
 all_goals (refine vb ?_; unfold Con.same; simp_all)
theorem y4k (a b : Con) (ha : a.legs.length ≤ 1048576) : PC Tryz.prog 178 [.agg a.cs, .agg b.cs] (rB (a.same b)) := by
 refine PC.begin Tryz.func178 rfl (by kernel_rfl) ?_
 refine xb rfl ?_ ?_ <;> intro b0
 refine xj (k := 8) rfl ?_
 refine xv rfl rfl rfl ?_; rotate_left
 refine xj (k := 7) rfl ?_
 refine xb rfl ?_ ?_ <;> intro b1
 refine xv rfl rfl rfl ?_; rotate_left
 rotate_left
 · have h0 : ¬ a.id = b.id := by simpa using b0
   refine vb ?_; simp [Con.same, h0]
 · have hne : ¬ a.legs.length = b.legs.length := by simp at b1; omega
   refine vb ?_; unfold Con.same; rw [eq_comm, Bool.and_eq_false_iff]; exact .inr (decide_eq_false (fun e => hne (by rw [e])))
 · skip
   · have h0 : a.id = b.id := by simpa using b0
     have he : a.legs.length = b.legs.length := by simp at b1; omega
     clear b0 b1
     refine yd rfl (ι := Nat) (fun i => i ≤ a.legs.length ∧ a.legs.take i = b.legs.take i) (fun i => ⟨[(5, sV (.int .i64 i)), (2, .one (.a 2 0)), (3, .one (.a 3 0))], [(2, .var (a.cs.map .b)), (3, .var (b.cs.map .b))]⟩) (fun i => a.legs.length - i) 0 ⟨Nat.zero_le _, rfl⟩ ?_ ?_
     · exact ⟨⟨rfl, ⟨rfl, rfl, rfl⟩, ⟨rfl, rfl, rfl⟩, trivial⟩, ⟨lcr, lcr, trivial⟩, rfl⟩
     · intro i ⟨hi, hq⟩ J hJ
       refine xb rfl ?_ ?_ <;> intro h
       · have h : i < a.legs.length := by simpa using h
         obtain ⟨x, hx1⟩ := gx h
         obtain ⟨y, hy1⟩ := gx (xs := b.legs) (i := i) (by omega)
         have hg := gm Leg.cs hx1
         have hg2 := gm Leg.cs hy1
         refine qd rfl [] (.take 0 [] (.take 1 [3, 4, 10] (Tk [2, 3] (.take 4 [10] (.take 5 [] (.take 6 (Rg 8 3) (Tk [7, 8] (.take 9 [10] (.take 10 [] .done))))))))) (by kernel_rfl) (xs rfl (nn_ _) (y9 rfl _ hg (xs rfl rfl (xs rfl (nn_ _) (y9 rfl _ hg2 (xs rfl rfl ?_))))))
         refine xb rfl ?_ ?_ <;> intro b0
         refine xv rfl rfl rfl ?_; rotate_left
         rotate_left
         · rw [z8p] at b0
           refine vb ?_; unfold Con.same; rw [eq_comm, Bool.and_eq_false_iff]; refine .inr (decide_eq_false (fun e => ?_)); rw [e, hy1] at hx1; cases hx1; simp at b0
         · rw [z8p] at b0
           have e : x = y := by simpa only [Bool.not_eq_false', decide_eq_true_eq] using b0
           exact q9 rfl (hJ _ (i + 1) ⟨by omega, by rw [List.take_add_one, List.take_add_one, hx1, hy1, hq, e]⟩ (by omega) ⟨⟨cwi (by omega) (by omega) (by omega), ⟨rfl, rfl, rfl⟩, ⟨rfl, rfl, rfl⟩, trivial⟩, ⟨lcr, lcr, trivial⟩, rfl⟩)
       · have h : i = a.legs.length := by have : ¬ i < a.legs.length := (by simpa using h); omega
         rw [h, List.take_length, he, List.take_length] at hq
         refine xv rfl rfl rfl ?_
         all_goals (refine vb ?_; simp [Con.same, h0, hq])
theorem z4c (c : Clu) (ho : q00 c) (l : Leg) : PC Tryz.prog 268 [.agg l.cs, .one (.p [.p c.cs])] (rB (!(Go.Sx.within l.s 0 ((c.shs.length : Int) - 1)))) := by
 refine PC.begin Tryz.func268 rfl (by kernel_rfl) ?_
 have q1 := ho.2.1.1
 have p1 : (c.shs.map Shd.cs).length ≤ 1048576 := by simpa using q1
 refine qd rfl [] (.take 0 [] (.take 1 (Rg 6 3) (.take 2 (Rg 3 6) (Tk [3, 4] (.take 5 (Rg 6 3) (.alt 6 (Tk [7, 8] .done) .nil)))))) (by kernel_rfl) (z7 rfl (q0z _ _ (by assumption)) rfl tv3 (xv rfl rfl rfl ?_))
 all_goals (refine vb ?_; rw [List.length_map])
theorem z2m (c : Clu) (ho : q00 c) (x : Con) (hl : x.legs.length ≤ 1048576) : PC Tryz.prog 198 [.one (.p c.cs), .agg x.cs] (rB (!(qb3 c x))) := by
 refine PC.begin Tryz.func198 rfl (by kernel_rfl) ?_
 have hi := q5g _ x.legs (fun l => !(Go.Sx.within l.s 0 ((c.shs.length : Int) - 1))) 268 (.p [.p c.cs]) rfl (fun l _ => z4c c ho l) hl
 refine z7 rfl (hi) rfl ⟨trivial, (List.forall_mem_cons.2 ⟨⟨trivial, trivial⟩, (fun _ h => nomatch h)⟩), trivial⟩ ?_
 refine xr rfl (qm rfl ⟨⟨rfl, rfl, trivial⟩, z6 rfl⟩)
theorem y8r (c : Clu) (ho : q00 c) : PC Tryz.prog 115 [.one (.p c.cs)] (rI (scan (q0d c) c.cons.length)) := by
 refine PC.begin Tryz.func115 rfl (by kernel_rfl) ?_
 have hl := ho.1.1
 refine yd rfl (ι := Nat) (fun i => i ≤ c.cons.length ∧ ∀ j, j < i → q0d c j = 0) (fun i => ⟨[(11, sV (.int .i64 i)), (10, sV (.int .i64 (c.cons.map Con.cs).length)), (9, .one (.b (.l (c.cons.map Con.cs)))), (0, .one (.b (.p c.cs)))], []⟩) (fun i => c.cons.length - i) 0 ⟨Nat.zero_le _, fun j hj => by omega⟩ ?_ ?_
 · exact ⟨⟨rfl, rfl, rfl, rfl, trivial⟩, trivial, rfl⟩
 · intro i ⟨hi, h0⟩ J hJ
   refine xb rfl ?_ ?_ <;> intro h
   · have h : i < c.cons.length := by simpa using h
     obtain ⟨x, hx⟩ := gx h
     have hg := gm Con.cs hx
     have hxl := ho.1.2 x (List.mem_of_getElem? hx)
     rcases Nat.eq_zero_or_pos i with hz | hz
     · subst hz
       refine xs rfl (nn_ _) (y9 rfl _ hg (xs rfl rfl (z7 rfl (y4d _ (by assumption)) rfl ⟨tv3, trivial⟩ ?_)))
       refine xb rfl ?_ ?_ <;> intro b0
       refine xv rfl rfl rfl ?_; rotate_left
       refine z7 rfl (z2m c ho x hxl) rfl ⟨trivial, tv3, trivial⟩ ?_
       refine xb rfl ?_ ?_ <;> intro b1
       refine xv rfl rfl rfl ?_; rotate_left
       refine qd rfl [] (Tk (Rg 0 6) (.take 6 (Rg 9 3 ++ Rg 14 3) (Tk (Rg 7 4) (.take 11 (Rg 14 3) (.take 12 [] (.take 13 (Rg 14 3) (Tk [14, 15, 16] .done))))))) (by kernel_rfl) ?_
       refine xj (k := 14) rfl ?_; rotate_left
       all_goals (first | (refine vi (q8 h h0 ?_ (by first | decide | decide | simp_all)); clear hJ h0 hg; (first | (simp_all [q0d, ahead_zero]; done) | (simp_all [q0d, ahead_zero]; omega)); done) | (refine q9 rfl (hJ _ 1 ⟨by omega, zc h0 ?_⟩ (by omega) ⟨⟨cwi (by omega) (by omega) (by omega), rfl, rfl, rfl, trivial⟩, trivial, rfl⟩); clear hJ h0 hg; (first | (simp_all [q0d, ahead_zero]; done) | (simp_all [q0d, ahead_zero]; omega)); done) | skip)
     · obtain ⟨p, hp⟩ := gx (xs := c.cons) (i := i - 1) (by omega)
       have hgp := y1b Con.cs hz (by omega) hp
       refine xs rfl (nn_ _) (y9 rfl _ hg (xs rfl rfl (z7 rfl (y4d _ (by assumption)) rfl ⟨tv3, trivial⟩ ?_)))
       refine xb rfl ?_ ?_ <;> intro b0
       refine xv rfl rfl rfl ?_; rotate_left
       refine z7 rfl (z2m c ho x hxl) rfl ⟨trivial, tv3, trivial⟩ ?_
       refine xb rfl ?_ ?_ <;> intro b1
       refine xv rfl rfl rfl ?_; rotate_left
       refine qd rfl [] (Tk (Rg 0 6) (.take 6 (Rg 9 3 ++ Rg 14 3) (Tk (Rg 7 4) (.take 11 (Rg 14 3) (.take 12 [] (.take 13 (Rg 14 3) (Tk [14, 15, 16] .done))))))) (by kernel_rfl) ?_
       refine xb rfl ?_ ?_ <;> intro b2
       refine xj (k := 6) rfl (xs rfl (q0n hz (by omega)) (y9 rfl _ hgp (xs rfl rfl (xj (k := 6) rfl ?_))))
       refine xb rfl ?_ ?_ <;> intro b3
       refine xv rfl rfl rfl ?_; rotate_left
       rotate_left
       refine xj (k := 13) rfl ?_; rotate_left
       all_goals (first | (refine vi (q8 h h0 ?_ (by first | decide | decide | simp_all)); clear hJ h0 hg hgp; (first | (simp_all [q0d, ya hz hp]; done) | (simp_all [q0d, ya hz hp]; omega)); done) | (refine q9 rfl (hJ _ (i + 1) ⟨by omega, zc h0 ?_⟩ (by omega) ⟨⟨cwi (by omega) (by omega) (by omega), rfl, rfl, rfl, trivial⟩, trivial, rfl⟩); clear hJ h0 hg hgp; (first | (simp_all [q0d, ya hz hp]; done) | (simp_all [q0d, ya hz hp]; omega)); done) | skip)
   · have h : ¬ i < c.cons.length := by simpa using h
     have hz := zg (f := q0d c) (n := c.cons.length) (fun j hj => h0 j (by omega))
     clear hJ
     refine xv rfl rfl rfl ?_
     exact vi (hz.symm)
theorem z90 (c : Clu) (ho : q00 c) : PC Tryz.prog 98 [.one (.p c.cs)] (rI (scan (q0d c) c.cons.length)) := by
 refine PC.begin Tryz.func98 rfl (by kernel_rfl) ?_
 have hl := ho.1.1
 have q1 := ho.2.1.1
 refine yd rfl (ι := Nat) (fun i => i ≤ c.cons.length ∧ ∀ j, j < i → q0d c j = 0) (fun i => ⟨[(3, sV (.int .i64 i)), (0, .one (.b (.p c.cs)))], []⟩) (fun i => c.cons.length - i) 0 ⟨Nat.zero_le _, fun j hj => by omega⟩ ?_ ?_
 · exact ⟨⟨rfl, rfl, trivial⟩, trivial, rfl⟩
 · intro i ⟨hi, h0⟩ J hJ
   refine xb rfl ?_ ?_ <;> intro h
   · have h : i < c.cons.length := by simpa using h
     obtain ⟨x, hx⟩ := gx h
     have hg := gm Con.cs hx
     have hxl := ho.1.2 x (List.mem_of_getElem? hx)
     have hla : zq x = 0 → _ := fun h => y7u h c
     rcases Nat.eq_zero_or_pos i with hz | hz
     · subst hz
       refine xs rfl (nn_ _) (y9 rfl _ hg (xs rfl rfl (z7 rfl (z4k _ (by assumption)) rfl ⟨tv3, trivial⟩ ?_)))
       refine xb rfl ?_ ?_ <;> intro b0
       refine xv rfl rfl rfl ?_; rotate_left
       refine z7 rfl (z1y x hxl) rfl ⟨tv3, trivial⟩ (qd rfl [] (Tk (Rg 0 5) (.take 5 [11] (Tk [6, 7, 8] (.take 9 [10, 11] (Tk [10, 11] .done))))) (by kernel_rfl) (xs rfl (q7u (by simpa using b0)) (y9 rfl _ (z53 (by simpa using b0)) (xs rfl rfl ?_))))
       refine xb rfl ?_ ?_ <;> intro b1
       refine xv rfl rfl rfl ?_; rotate_left
       refine qd rfl [] (Tk (Rg 0 4) (.take 4 [14, 15] (Tk [5, 6, 7] (.take 8 (Rg 11 5) (Tk (Rg 9 4) (.take 13 [14, 15] (Tk [14, 15] .done))))))) (by kernel_rfl) ?_
       refine xj (k := 14) rfl ?_; rotate_left
       all_goals (first | (refine vi (q8 h h0 ?_ (by first | decide | decide | simp_all)); clear hJ h0 hg; (first | (simp_all [q0d, ahead_zero]; done) | (simp_all [q0d, ahead_zero]; omega)); done) | (refine q9 rfl (hJ _ 1 ⟨by omega, zc h0 ?_⟩ (by omega) ⟨⟨cwi (by omega) (by omega) (by omega), rfl, trivial⟩, trivial, rfl⟩); clear hJ h0 hg; (first | (simp_all [q0d, ahead_zero]; done) | (simp_all [q0d, ahead_zero]; omega)); done) | skip)
     · obtain ⟨p, hp⟩ := gx (xs := c.cons) (i := i - 1) (by omega)
       have hgp := y1b Con.cs hz (by omega) hp
       refine xs rfl (nn_ _) (y9 rfl _ hg (xs rfl rfl (z7 rfl (z4k _ (by assumption)) rfl ⟨tv3, trivial⟩ ?_)))
       refine xb rfl ?_ ?_ <;> intro b0
       refine xv rfl rfl rfl ?_; rotate_left
       refine z7 rfl (z1y x hxl) rfl ⟨tv3, trivial⟩ (qd rfl [] (Tk (Rg 0 5) (.take 5 [11] (Tk [6, 7, 8] (.take 9 [10, 11] (Tk [10, 11] .done))))) (by kernel_rfl) (xs rfl (q7u (by simpa using b0)) (y9 rfl _ (z53 (by simpa using b0)) (xs rfl rfl ?_))))
       refine xb rfl ?_ ?_ <;> intro b1
       refine xv rfl rfl rfl ?_; rotate_left
       refine qd rfl [] (Tk (Rg 0 4) (.take 4 [14, 15] (Tk [5, 6, 7] (.take 8 (Rg 11 5) (Tk (Rg 9 4) (.take 13 [14, 15] (Tk [14, 15] .done))))))) (by kernel_rfl) ?_
       refine xb rfl ?_ ?_ <;> intro b2
       refine xj (k := 8) rfl (xs rfl (q0n hz (by omega)) (y9 rfl _ hgp (xs rfl rfl (xj (k := 4) rfl ?_))))
       refine xb rfl ?_ ?_ <;> intro b3
       refine xv rfl rfl rfl ?_; rotate_left
       rotate_left
       refine xj (k := 13) rfl ?_; rotate_left
       all_goals (first | (refine vi (q8 h h0 ?_ (by first | decide | decide | simp_all)); clear hJ h0 hg hgp; (first | (simp_all [q0d, ya hz hp]; done) | (simp_all [q0d, ya hz hp]; omega)); done) | (refine q9 rfl (hJ _ (i + 1) ⟨by omega, zc h0 ?_⟩ (by omega) ⟨⟨cwi (by omega) (by omega) (by omega), rfl, trivial⟩, trivial, rfl⟩); clear hJ h0 hg hgp; (first | (simp_all [q0d, ya hz hp]; done) | (simp_all [q0d, ya hz hp]; omega)); done) | skip)
   · have h : ¬ i < c.cons.length := by simpa using h
     have hz := zg (f := q0d c) (n := c.cons.length) (fun j hj => h0 j (by omega))
     clear hJ
     refine xv rfl rfl rfl ?_
     exact vi (hz.symm)
theorem yao (rr : List (List Cell)) (us : List Mk) (p : Mk → Bool) (fn : Nat) (c0 : Cell) (c1 : Cell) (hr : rr = us.map Mk.cs) (hf : ∀ x ∈ us, PC Tryz.prog fn [.agg x.cs, .one c0, .one c1] (rB (p x))) (hl : us.length ≤ 1048576) : PC Tryz.prog 277 [.one (.l rr), .one (.f fn [c0, c1])] (rI (y1e p us)) := by
 refine PC.begin Tryz.func277 rfl (by kernel_rfl) ?_
 subst hr
 have hn : (us.map Mk.cs).length = us.length := by simp
 refine yd rfl (ι := Nat) (fun i => i ≤ us.length ∧ ∀ j y, j < i → us[j]? = some y → p y = false) (fun i => ⟨[(8, sV (.int .i64 i)), (7, sV (.int .i64 (us.map Mk.cs).length)), (0, .one (.b (.l (us.map Mk.cs)))), (1, .one (.b (.f fn [c0, c1])))], []⟩) (fun i => us.length - i) 0 ⟨Nat.zero_le _, fun j y hj => by omega⟩ ?_ ?_
 · exact ⟨⟨rfl, rfl, rfl, rfl, trivial⟩, trivial, rfl⟩
 · intro i ⟨hi, h0⟩ J hJ
   refine xb rfl ?_ ?_ <;> intro h
   · have h : i < us.length := by simpa using h
     obtain ⟨x, hx⟩ := gx h
     have hg := gm Mk.cs hx
     have hxm := List.mem_of_getElem? hx
     refine xs rfl (nn_ _) (y9 rfl _ hg (xs rfl rfl (z7 rfl (hf _ hxm) rfl ⟨tv3, trivial, trivial, trivial⟩ ?_)))
     refine xb rfl ?_ ?_ <;> intro b0
     refine xv rfl rfl rfl ?_; rotate_left
     rotate_left
     · exact vi (q08 hx h0 b0).symm
     · exact q9 rfl (hJ _ (i + 1) ⟨by omega, qg hx h0 b0⟩ (by omega) ⟨⟨cwi (by omega) (by omega) (by omega), rfl, rfl, rfl, trivial⟩, trivial, rfl⟩)
   · have h : ¬ i < us.length := by simpa using h
     refine xv rfl rfl rfl ?_
     exact vi (y02 (zk (by omega) h0)).symm
theorem q98 (rr : List (List Cell)) (us : List Mk) (p : Mk → Bool) (fn : Nat) (c0 : Cell) (c1 : Cell) (hr : rr = us.map Mk.cs) (hf : ∀ x ∈ us, PC Tryz.prog fn [.agg x.cs, .one c0, .one c1] (rB (p x))) (hl : us.length ≤ 1048576) : PC Tryz.prog 202 [.one (.l rr), .one (.f fn [c0, c1])] (rB (us.any p)) := by
 refine PC.begin Tryz.func202 rfl (by kernel_rfl) ?_
 have hi := yao rr us p fn c0 c1 hr hf hl
 refine z7 rfl (hi) rfl tv3 (xv rfl rfl rfl ?_)
 exact vb q0h
theorem z9w (rr : List (List Cell)) (us : List Slt) (p : Slt → Bool) (fn : Nat) (c0 : Cell) (hr : rr = us.map Slt.cs) (hf : ∀ x ∈ us, PC Tryz.prog fn [.agg x.cs, .one c0] (rB (p x))) (hl : us.length ≤ 1048576) : PC Tryz.prog 281 [.one (.l rr), .one (.f fn [c0])] (rI (y1e p us)) := by
 refine PC.begin Tryz.func281 rfl (by kernel_rfl) ?_
 subst hr
 have hn : (us.map Slt.cs).length = us.length := by simp
 refine yd rfl (ι := Nat) (fun i => i ≤ us.length ∧ ∀ j y, j < i → us[j]? = some y → p y = false) (fun i => ⟨[(8, sV (.int .i64 i)), (7, sV (.int .i64 (us.map Slt.cs).length)), (0, .one (.b (.l (us.map Slt.cs)))), (1, .one (.b (.f fn [c0])))], []⟩) (fun i => us.length - i) 0 ⟨Nat.zero_le _, fun j y hj => by omega⟩ ?_ ?_
 · exact ⟨⟨rfl, rfl, rfl, rfl, trivial⟩, trivial, rfl⟩
 · intro i ⟨hi, h0⟩ J hJ
   refine xb rfl ?_ ?_ <;> intro h
   · have h : i < us.length := by simpa using h
     obtain ⟨x, hx⟩ := gx h
     have hg := gm Slt.cs hx
     have hxm := List.mem_of_getElem? hx
     refine xs rfl (nn_ _) (y9 rfl _ hg (xs rfl rfl (z7 rfl (hf _ hxm) rfl ⟨tv7, trivial, trivial⟩ ?_)))
     refine xb rfl ?_ ?_ <;> intro b0
     refine xv rfl rfl rfl ?_; rotate_left
     rotate_left
     · exact vi (q08 hx h0 b0).symm
     · exact q9 rfl (hJ _ (i + 1) ⟨by omega, qg hx h0 b0⟩ (by omega) ⟨⟨cwi (by omega) (by omega) (by omega), rfl, rfl, rfl, trivial⟩, trivial, rfl⟩)
   · have h : ¬ i < us.length := by simpa using h
     refine xv rfl rfl rfl ?_
     exact vi (y02 (zk (by omega) h0)).symm
theorem z9m (rr : List (List Cell)) (us : List Slt) (p : Slt → Bool) (fn : Nat) (c0 : Cell) (hr : rr = us.map Slt.cs) (hf : ∀ x ∈ us, PC Tryz.prog fn [.agg x.cs, .one c0] (rB (p x))) (hl : us.length ≤ 1048576) : PC Tryz.prog 205 [.one (.l rr), .one (.f fn [c0])] (rB (us.any p)) := by
 refine PC.begin Tryz.func205 rfl (by kernel_rfl) ?_
 have hi := z9w rr us p fn c0 hr hf hl
 refine z7 rfl (hi) rfl tv3 (xv rfl rfl rfl ?_)
 exact vb q0h
theorem z3h (c : Clu) (ho : q00 c) (i : Int) (m : Mk) : PC Tryz.prog 200 [.agg m.cs, .one (.p [.p c.cs]), .one (.p [i64 i])] (rB (!(z16 c.cons m.c i))) := by
 refine PC.begin Tryz.func200 rfl (by kernel_rfl) ?_
 refine z7 rfl (z19 _ (by assumption) _ _) rfl tv4 ?_
 refine xr rfl (qm rfl ⟨⟨rfl, rfl, trivial⟩, z6 rfl⟩)
theorem q8r (c : Clu) (ho : q00 c) (i : Nat) (s : Shd) (hs : c.shs[i]? = some s) : PC Tryz.prog 116 [.one (.p c.cs), .one (i64 i)] (rI (y9h c i s)) := by
 refine PC.begin Tryz.func116 rfl (by kernel_rfl) ?_
 have hg := gm Shd.cs hs
 have hso := ho.2.1.2 s (List.mem_of_getElem? hs)
 obtain ⟨o1, o2, o3, o4, o5, o6⟩ := id hso
 have hv := q98 _ s.votes (fun m => !(z16 c.cons m.c i)) 200 (.p [.p c.cs]) (.p [i64 i]) rfl (fun m _ => z3h c ho i m) o2
 have hd := q98 _ s.done (fun m => !(z16 c.cons m.c i)) 200 (.p [.p c.cs]) (.p [i64 i]) rfl (fun m _ => z3h c ho i m) o4
 refine qd rfl [] (.take 0 [1, 2, 3, 5, 6, 8] (Tk [1, 2] (.take 3 [5, 6, 8] (.take 4 [5, 6, 8] (.take 5 [] (.take 6 [8] (.alt 7 (.alt 8 .done .nil) .nil))))))) (by kernel_rfl) (xs rfl (nn_ _) (y9 rfl _ hg (xs rfl rfl (z7 rfl (z88 s hso) rfl ⟨tv7, trivial⟩ ?_))))
 refine xb rfl ?_ ?_ <;> intro b0
 refine xv rfl rfl rfl ?_; rotate_left
 refine xb rfl ?_ ?_ <;> intro b1
 refine xj (k := 10) rfl ?_
 refine xv rfl rfl rfl ?_; rotate_left
 refine xj (k := 3) rfl (z7 rfl (hv) rfl ⟨trivial, (List.forall_mem_cons.2 ⟨⟨trivial, trivial⟩, (List.forall_mem_cons.2 ⟨⟨trivial, trivial⟩, (fun _ h => nomatch h)⟩)⟩), trivial⟩ (xj (k := 1) rfl ?_))
 refine xb rfl ?_ ?_ <;> intro b2
 refine xj (k := 5) rfl ?_
 refine xv rfl rfl rfl ?_; rotate_left
 refine xj (k := 3) rfl (z7 rfl (hd) rfl ⟨trivial, (List.forall_mem_cons.2 ⟨⟨trivial, trivial⟩, (List.forall_mem_cons.2 ⟨⟨trivial, trivial⟩, (fun _ h => nomatch h)⟩)⟩), trivial⟩ (xj (k := 1) rfl ?_))
 refine xb rfl ?_ ?_ <;> intro b3
 refine xv rfl rfl rfl ?_; rotate_left
 rotate_left
 all_goals first | (refine vi ?_; unfold y9h; simp_all; done) | skip
 have hsf : yp s = 0 := by simpa using b0
 have hix : s.idx = i := by simpa using b1
 have hvd : ((s.votes.any fun m => !(z16 c.cons m.c i)) || (s.done.any fun m => !(z16 c.cons m.c i))) = false := by rw [b2, b3]; rfl
 rw [q4l hsf hix, hvd]
 have hcon := z2x hsf
 clear hv hd b0 b1 b2 b3 hvd
 refine yd rfl (ι := Nat) (fun i => i ≤ s.held.length ∧ ∀ j y, j < i → s.held[j]? = some y → q3k c y = false) (fun i => ⟨[(44, sV (.int .i64 i)), (43, sV (.int .i64 (s.held.map Con.cs).length)), (42, .one (.b (.l (s.held.map Con.cs)))), (2, .one (.a 2 0))], [(2, .var [.b (.p c.cs)])]⟩) (fun i => s.held.length - i) 0 ⟨Nat.zero_le _, fun j y hj => by omega⟩ ?_ ?_
 · exact ⟨⟨rfl, rfl, rfl, ⟨rfl, rfl, rfl⟩, trivial⟩, ⟨⟨rfl, trivial⟩, trivial⟩, rfl⟩
 · intro k ⟨hk, h0⟩ J hJ
   refine xb rfl ?_ ?_ <;> intro h
   · have h : k < s.held.length := by simpa using h
     obtain ⟨y, hy⟩ := gx h
     have hgy := gm Con.cs hy
     have hym := List.mem_of_getElem? hy
     have hyl := o6 y hym
     have hid := (z14 (hcon y hym)).1.1
     cases hc : y0x c.cons y.id with
     | none =>
       have hb : q3k c y = true := by unfold q3k; rw [hc]
       have hsm : (Con.mk 0 []).same y = false := by unfold Con.same; rw [Bool.and_eq_false_iff]; exact .inl (beq_false_of_ne (fun e => by have : (0 : Int) = y.id := e; omega))
       have hq := z6b ⟨0, []⟩ y (Nat.zero_le _)
       rw [hsm] at hq
       refine xs rfl (nn_ _) (y9 rfl _ hgy (xs rfl rfl (z7 rfl (q1c c ho y.id hc) rfl tv3 (z7 rfl (hq) rfl ⟨tv3, tv3, trivial⟩ (xj (k := 1) rfl (xv rfl rfl rfl ?_))))))
       exact vi (by rw [if_neg (by decide), if_pos (zu hy hb).symm])
     | some x =>
       have hxl := ho.1.2 x (List.mem_of_find?_eq_some hc)
       have hb : q3k c y = !(x.same y) := by unfold q3k; rw [hc]
       refine xs rfl (nn_ _) (y9 rfl _ hgy (xs rfl rfl (z7 rfl (z1d c ho y.id x hc) rfl tv3 (z7 rfl (z6b x y hxl) rfl ⟨tv3, tv3, trivial⟩ ?_))))
       refine xb rfl ?_ ?_ <;> intro b0
       refine xv rfl rfl rfl ?_; rotate_left
       rotate_left
       · exact vi (by rw [if_neg (by decide), if_pos (zu hy (hb.trans b0)).symm])
       · exact q9 rfl (hJ _ (k + 1) ⟨by omega, qg hy h0 (hb.trans b0)⟩ (by omega) ⟨⟨cwi (by omega) (by omega) (by omega), rfl, rfl, ⟨rfl, rfl, rfl⟩, trivial⟩, ⟨⟨rfl, trivial⟩, trivial⟩, rfl⟩)
   · have h : ¬ k < s.held.length := by simpa using h
     have hz := any_none (zk (by omega) h0)
     refine xv rfl rfl rfl ?_
     exact vi (by rw [if_neg (by decide), if_neg (by rw [← hz]; decide)])
theorem y5y (c : Clu) (ho : q00 c) (x : Slt) : PC Tryz.prog 206 [.agg x.cs, .one (.p [.p c.cs])] (rB (!(z16 c.cons x.c x.s))) := by
 refine PC.begin Tryz.func206 rfl (by kernel_rfl) ?_
 refine z7 rfl (z19 _ (by assumption) _ _) rfl tv4 ?_
 refine xr rfl (qm rfl ⟨⟨rfl, rfl, trivial⟩, z6 rfl⟩)
theorem q8q (c : Clu) (ho : q00 c) (a : Acc) (ha : y43 a) : PC Tryz.prog 119 [.one (.p c.cs), .agg a.cs] (rI (y9k c a)) := by
 refine PC.begin Tryz.func119 rfl (by kernel_rfl) ?_
 have hv := z9m _ a.slots (fun x => !(z16 c.cons x.c x.s)) 206 (.p [.p c.cs]) rfl (fun x _ => y5y c ho x) ha.1
 refine z7 rfl (z9t a ha) rfl ⟨⟨trivial, trivial⟩, trivial⟩ ?_
 refine xb rfl ?_ ?_ <;> intro b0
 refine xv rfl rfl rfl ?_; rotate_left
 refine z7 rfl (hv) rfl ⟨trivial, (List.forall_mem_cons.2 ⟨⟨trivial, trivial⟩, (fun _ h => nomatch h)⟩), trivial⟩ ?_
 refine xb rfl ?_ ?_ <;> intro b1
 refine xv rfl rfl rfl ?_; rotate_left
 refine xv rfl rfl rfl ?_; rotate_left
 all_goals (refine vi ?_; unfold y9k; clear hv; simp_all; done)
end Go.Proofs.YtbnbjaedijbnpaaGreat
end
