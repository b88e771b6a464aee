/- WHAT IS PROVED: parts of the proof of fnExactStatusAs_holds: a frame for walks, what each Go function that it reaches answers, and plain lemmas; no condition beyond those that each theorem names. -/
import Derived.Test.YtohbmmpkcibnpaaGreatCAs5
import Derived.WalkKit
import Derived.OrdersHeld
import Derived.DeepKeys
import Derived.Maps.RangeWalk
import Derived.Maps.OwnOps
import Derived.WideKeyEntry
import Derived.Deep.Slices
import Derived.ChangeArms
import Derived.WideShapes
import Derived.Sort.AssemblyPlain
import Derived.Lib.SlicesCompact
import Derived.Test.YtohbmmpkcibnpaaGreatProg
import Derived.Shelf.SortG.Plain
import Derived.Shelf.SortG.SortNone
import Derived.Shelf.SlicesG.CompactI
import Derived.Lib.OwnBridge
import Derived.RangeFuncGives
import Derived.RangeFuncBox
import Derived.RangeFuncLeaves
import Derived.Shelf.Abstract
import Derived.Maps.AppendAt
import Derived.OwnWalkIn
import Derived.TacticsInMore
import Derived.LoopNIn
import Derived.LoopIn
set_option linter.unusedVariables false
set_option linter.unusedSimpArgs false
section
namespace Go.Proofs.YtohbmmpkcibnpaaGreat
open Go Go.Sx
set_option maxRecDepth 20000
set_option maxHeartbeats 4000000
theorem q07 (v : Int) : PC Tryz.prog 347 [.one (i64 v)] (rB (within v 0 1000)) := by
 refine PC.begin Tryz.func347 rfl (by kernel_rfl) ?_
 refine z6 rfl (zk _ _ _) rfl tv4 ?_
 refine xr rfl (zm rfl ⟨⟨rfl, rfl, trivial⟩, z7 rfl⟩)
theorem qz (v : Int) : PC Tryz.prog 234 [.one (i64 v)] (rB (within v 0 1000)) := by
 refine PC.begin Tryz.func234 rfl (by kernel_rfl) ?_
 refine z6 rfl (zh _ _ _) rfl tv4 ?_
 refine xr rfl (zm rfl ⟨⟨rfl, rfl, trivial⟩, z7 rfl⟩)
theorem y09 (v : Int) : PC Tryz.prog 235 [.one (i64 v)] (rB (within v 1 2)) := by
 refine PC.begin Tryz.func235 rfl (by kernel_rfl) ?_
 refine xb rfl ?_ ?_ <;> intro b0
 refine xj (k := 2) rfl ?_
 refine xv rfl rfl rfl ?_; rotate_left
 refine xj (k := 2) rfl ?_
 refine xv rfl rfl rfl ?_; rotate_left
 all_goals (refine vb ?_; rw [Bool.eq_iff_iff]; (simp_all [within] <;> omega))
theorem z21 (x : Vt) : PC Tryz.prog 351 [.agg x.cs] (rB x.ok) := by
 refine PC.begin Tryz.func351 rfl (by kernel_rfl) ?_
 refine z6 rfl (q07 _) rfl ⟨trivial, trivial⟩ ?_
 refine xb rfl ?_ ?_ <;> intro b0
 refine xj (k := 2) rfl (z6 rfl (z0o _) rfl ⟨trivial, trivial⟩ (xj (k := 1) rfl ?_))
 refine xv rfl rfl rfl ?_; rotate_left
 refine xj (k := 3) rfl ?_
 refine xv rfl rfl rfl ?_; rotate_left
 all_goals (refine vb ?_; simp_all [Vt.ok])
theorem y1u (x : Vt) : PC Tryz.prog 239 [.agg x.cs] (rB x.ok) := by
 refine PC.begin Tryz.func239 rfl (by kernel_rfl) ?_
 refine z6 rfl (qz _) rfl ⟨trivial, trivial⟩ ?_
 refine xb rfl ?_ ?_ <;> intro b0
 refine xj (k := 2) rfl (z6 rfl (y09 _) rfl ⟨trivial, trivial⟩ (xj (k := 1) rfl ?_))
 refine xv rfl rfl rfl ?_; rotate_left
 refine xj (k := 3) rfl ?_
 refine xv rfl rfl rfl ?_; rotate_left
 all_goals (refine vb ?_; simp_all [Vt.ok])
theorem y1z {a b c d : Int} : y1b [.int .i64 a, .int .i64 b] [.int .i64 c, .int .i64 d] = (a == c && b == d) := by simp [y1b]
abbrev rVt (x : Vt) : Res := .one (.own true [.s (.int .i64 x.b), .s (.int .i64 x.v)])
theorem q32 : PC Tryz.prog 350 [] (rVt Vt.none) := by
 refine PC.begin Tryz.func350 rfl (by kernel_rfl) ?_
 refine xr rfl (zm rfl ⟨⟨rfl, rfl, rfl, trivial⟩, z7 rfl⟩)
theorem y21 : PC Tryz.prog 238 [] (rVt Vt.none) := by
 refine PC.begin Tryz.func238 rfl (by kernel_rfl) ?_
 refine xr rfl (zm rfl ⟨⟨rfl, rfl, rfl, trivial⟩, z7 rfl⟩)
theorem za9 {α β : Type} {us : List α} {x : α} (f : α → β) (h0 : 0 < us.length) (h : us.length ≤ 1048576) (hx : us[us.length - 1]? = some x) : (us.map f)[(IntKind.i64.wrap (((us.map f).length : Int) - 1)).toNat]? = some (f x) := by
 rw [List.length_map]; exact q11 f h0 (by omega) hx
theorem yai {α β : Type} {us : List α} (f : α → β) (h0 : 0 < us.length) (h : us.length ≤ 1048576) : 0 ≤ IntKind.i64.wrap (((us.map f).length : Int) - 1) := by rw [List.length_map]; exact z0k h0 (by omega)
theorem q5h (us : List Vt) (hl : us.length ≤ 1048576) : PC Tryz.prog 423 [.one (.l (us.map Vt.cs))] (rVt (z3f us)) := by
 refine PC.begin Tryz.func423 rfl (by kernel_rfl) ?_
 by_cases h0 : us.length = 0
 · have e : us = [] := List.eq_nil_of_length_eq_zero h0
   have e2 : z3f us = Vt.none := by rw [e]; rfl
   rw [e2]
   refine xb rfl ?_ ?_ <;> intro b0
   refine z6 rfl (q32) rfl trivial ?_
   refine xr rfl (zm rfl ⟨⟨rfl, rfl, rfl, trivial⟩, z7 rfl⟩)
   exact absurd b0 (by simp; omega)
   all_goals first | done | (exfalso; simp_all; done) | skip
 · obtain ⟨x, hx⟩ := gx (xs := us) (i := us.length - 1) (by omega)
   have e2 : z3f us = x := by unfold z3f; rw [hx]; rfl
   rw [e2]
   have hg := za9 Vt.cs (by omega) hl hx
   refine xb rfl ?_ ?_ <;> intro b0
   exact absurd b0 (by simp [*])
   refine xs rfl (yai Vt.cs (by omega) hl) (q8 rfl _ hg (xs rfl rfl ?_))
   refine xr rfl (zm rfl ⟨⟨rfl, rfl, rfl, trivial⟩, z7 rfl⟩)
   all_goals first | done | (exfalso; simp_all; done) | skip
theorem z7g (s : Slt) (hl : s.cast.length ≤ 1048576) : PC Tryz.prog 365 [.agg s.cs] (rVt (z3f s.cast)) := by
 refine PC.begin Tryz.func365 rfl (by kernel_rfl) ?_
 by_cases h0 : s.cast.length = 0
 · have e : s.cast = [] := List.eq_nil_of_length_eq_zero h0
   have e2 : z3f s.cast = Vt.none := by rw [e]; rfl
   rw [e2]
   refine xb rfl ?_ ?_ <;> intro b0
   refine z6 rfl (y21) rfl trivial ?_
   refine xr rfl (zm rfl ⟨⟨rfl, rfl, rfl, trivial⟩, z7 rfl⟩)
   exact absurd b0 (by simp; omega)
   all_goals first | done | (exfalso; simp_all; done) | skip
 · obtain ⟨x, hx⟩ := gx (xs := s.cast) (i := s.cast.length - 1) (by omega)
   have e2 : z3f s.cast = x := by unfold z3f; rw [hx]; rfl
   rw [e2]
   have hg := za9 Vt.cs (by omega) hl hx
   refine xb rfl ?_ ?_ <;> intro b0
   exact absurd b0 (by simp [*])
   refine xs rfl (yai Vt.cs (by omega) hl) (q8 rfl _ hg (xs rfl rfl ?_))
   refine xr rfl (zm rfl ⟨⟨rfl, rfl, rfl, trivial⟩, z7 rfl⟩)
   all_goals first | done | (exfalso; simp_all; done) | skip
theorem z4k (us : List Vt) (hl : us.length ≤ 1048576) : PC Tryz.prog 422 [.one (.l (us.map Vt.cs))] (rI (scan (q14 us) us.length)) := by
 refine PC.begin Tryz.func422 rfl (by kernel_rfl) ?_
 have hle : (us.map Vt.cs).length = us.length := by simp
 refine zc rfl (ι := Nat) (fun i => i ≤ us.length ∧ ∀ j, j < i → q14 us j = 0) (fun i => ⟨[(7, sV (.int .i64 i)), (6, sV (.int .i64 (us.map Vt.cs).length)), (5, .one (.b (.l (us.map Vt.cs)))), (0, .one (.b (.l (us.map Vt.cs))))], []⟩) (fun i => us.length - i) 0 ⟨Nat.zero_le _, fun j hj => by omega⟩ ?_ ?_
 · exact ⟨⟨rfl, rfl, rfl, rfl, trivial⟩, trivial, rfl⟩
 · intro i ⟨hi, h0⟩ J hJ
   refine xb rfl ?_ ?_ <;> intro h
   · have h : i < us.length := by simpa using h
     obtain ⟨x, hx⟩ := gx h
     have hg := gm Vt.cs hx
     rcases Nat.eq_zero_or_pos i with hz | hz
     · subst hz
       refine xs rfl (nn_ _) (q8 rfl _ hg (xs rfl rfl (z6 rfl (z21 _) rfl ⟨tv3, trivial⟩ ?_)))
       refine xb rfl ?_ ?_ <;> intro b0
       refine xv rfl rfl rfl ?_; rotate_left
       refine zb rfl [] (Tk (Rg 0 4) (.take 4 (Rg 11 25) (Tk (Rg 5 5) (.take 10 (Rg 11 25) (Tk [11, 12, 13] (.take 14 (Rg 21 15) (Tk (Rg 15 5) (.take 20 (Rg 21 15) (Tk [21, 22, 23] (.take 24 (Rg 31 5) (Tk (Rg 25 5) (.take 30 (Rg 31 5) (Tk (Rg 31 5) .done))))))))))))) (by kernel_rfl) ?_
       refine xj (k := 13) rfl ?_; rotate_left
       all_goals (first | (refine vi (q7 h h0 ?_ (by first | decide | decide | simp_all)); clear hJ h0 hg; simp_all [q14, ahead_zero]; done) | (refine za rfl (hJ _ 1 ⟨by omega, ya h0 ?_⟩ (by omega) ⟨⟨cwi (by omega) (by omega) (by omega), rfl, rfl, rfl, trivial⟩, trivial, rfl⟩); clear hJ h0 hg; simp_all [q14, ahead_zero]; done) | skip)
     · obtain ⟨p, hp⟩ := gx (xs := us) (i := i - 1) (by omega)
       have hgp := q11 Vt.cs hz (by omega) hp
       refine xs rfl (nn_ _) (q8 rfl _ hg (xs rfl rfl (z6 rfl (z21 _) rfl ⟨tv3, trivial⟩ ?_)))
       refine xb rfl ?_ ?_ <;> intro b0
       refine xv rfl rfl rfl ?_; rotate_left
       refine zb rfl [] (Tk (Rg 0 4) (.take 4 (Rg 11 25) (Tk (Rg 5 5) (.take 10 (Rg 11 25) (Tk [11, 12, 13] (.take 14 (Rg 21 15) (Tk (Rg 15 5) (.take 20 (Rg 21 15) (Tk [21, 22, 23] (.take 24 (Rg 31 5) (Tk (Rg 25 5) (.take 30 (Rg 31 5) (Tk (Rg 31 5) .done))))))))))))) (by kernel_rfl) ?_
       refine xb rfl ?_ ?_ <;> intro b1
       refine xj (k := 5) rfl (xs rfl (z0k hz (by omega)) (q8 rfl _ hgp (xs rfl rfl (xj (k := 4) rfl ?_))))
       refine xb rfl ?_ ?_ <;> intro b2
       refine xj (k := 14) rfl ?_
       refine xv rfl rfl rfl ?_; rotate_left
       refine xj (k := 5) rfl (xs rfl (z0k hz (by omega)) (q8 rfl _ hgp (xs rfl rfl (xj (k := 4) rfl ?_))))
       refine xb rfl ?_ ?_ <;> intro b3
       refine xj (k := 5) rfl (xs rfl (z0k hz (by omega)) (q8 rfl _ hgp (xs rfl rfl (xj (k := 8) rfl ?_))))
       refine xb rfl ?_ ?_ <;> intro b4
       refine xv rfl rfl rfl ?_; rotate_left
       rotate_left
       refine xj (k := 14) rfl ?_; rotate_left
       refine xj (k := 12) rfl ?_; rotate_left
       all_goals (first | (refine vi (q7 h h0 ?_ (by first | decide | decide | simp_all)); clear hJ h0 hg hgp; simp_all [q14, y9 hz hp]; done) | (refine za rfl (hJ _ (i + 1) ⟨by omega, ya h0 ?_⟩ (by omega) ⟨⟨cwi (by omega) (by omega) (by omega), rfl, rfl, rfl, trivial⟩, trivial, rfl⟩); clear hJ h0 hg hgp; simp_all [q14, y9 hz hp]; done) | skip)
   · have h : ¬ i < us.length := by simpa using h
     have hz := qe (f := q14 us) (n := us.length) (fun j hj => h0 j (by omega))
     clear hJ
     refine xv rfl rfl rfl ?_
     exact vi (hz.symm)
theorem q62 (s : Slt) (hl : s.cast.length ≤ 1048576) : PC Tryz.prog 343 [.agg s.cs] (rI s.fault) := by
 refine PC.begin Tryz.func343 rfl (by kernel_rfl) ?_
 have hle : (s.cast.map Vt.cs).length = s.cast.length := by simp
 refine z6 rfl (y43 _) rfl ⟨trivial, trivial⟩ ?_
 refine xb rfl ?_ ?_ <;> intro b0
 refine xj (k := 10) rfl ?_
 refine xv rfl rfl rfl ?_; rotate_left
 refine xj (k := 2) rfl (z6 rfl (y2d _) rfl ⟨trivial, trivial⟩ (xj (k := 2) rfl ?_))
 refine xb rfl ?_ ?_ <;> intro b1
 refine xj (k := 5) rfl ?_
 refine xv rfl rfl rfl ?_; rotate_left
 refine xj (k := 2) rfl (z6 rfl (zk _ _ _) rfl tv4 (xj (k := 2) rfl ?_))
 refine xb rfl ?_ ?_ <;> intro b2
 refine xv rfl rfl rfl ?_; rotate_left
 refine xb rfl ?_ ?_ <;> intro b3
 refine xv rfl rfl rfl ?_; rotate_left
 refine z6 rfl (z4k _ hl) rfl ⟨trivial, trivial⟩ ?_
 refine xb rfl ?_ ?_ <;> intro b4
 refine xv rfl rfl rfl ?_; rotate_left
 refine zb rfl [] (.take 0 [] (.take 1 (Rg 5 9) (.take 2 [] (.take 3 (Rg 4 10) (.alt 4 (Tk (Rg 5 4) (.take 9 [12, 13] (.take 10 [] (.take 11 [12, 13] (Tk [12, 13] .done))))) .nil))))) (by kernel_rfl) (z6 rfl (q5h _ hl) rfl ⟨trivial, trivial⟩ ?_)
 refine xb rfl ?_ ?_ <;> intro b5
 refine xj (k := 7) rfl ?_
 refine xv rfl rfl rfl ?_; rotate_left
 refine xj (k := 6) rfl ?_
 refine xb rfl ?_ ?_ <;> intro b6
 refine xv rfl rfl rfl ?_; rotate_left
 refine xv rfl rfl rfl ?_; rotate_left
 all_goals ((refine vi ?_; unfold Slt.fault; simp only [hle] at *; simp_all [y1z]; first | done | omega | ((repeat' split) <;> first | rfl | omega | (simp_all; done) | (simp_all; omega))))
theorem y67 (s : Slt) (hl : s.cast.length ≤ 1048576) : PC Tryz.prog 267 [.agg s.cs] (rI s.fault) := by
 refine PC.begin Tryz.func267 rfl (by kernel_rfl) ?_
 have hle : (s.cast.map Vt.cs).length = s.cast.length := by simp
 refine z6 rfl (q43 _) rfl ⟨trivial, trivial⟩ ?_
 refine xb rfl ?_ ?_ <;> intro b0
 refine xj (k := 10) rfl ?_
 refine xv rfl rfl rfl ?_; rotate_left
 refine xj (k := 2) rfl (z6 rfl (zh _ _ _) rfl tv4 (xj (k := 2) rfl ?_))
 refine xb rfl ?_ ?_ <;> intro b1
 refine xj (k := 5) rfl ?_
 refine xv rfl rfl rfl ?_; rotate_left
 refine xj (k := 2) rfl (z6 rfl (zh _ _ _) rfl tv4 (xj (k := 2) rfl ?_))
 refine xb rfl ?_ ?_ <;> intro b2
 refine xv rfl rfl rfl ?_; rotate_left
 refine xb rfl ?_ ?_ <;> intro b3
 refine xv rfl rfl rfl ?_; rotate_left
 rotate_left
 all_goals first | ((refine vi ?_; unfold Slt.fault; simp only [hle] at *; simp_all [y1z]; first | done | omega | ((repeat' split) <;> first | rfl | omega | (simp_all; done) | (simp_all; omega))); done) | skip
 refine zc rfl (ι := Nat) (fun i => i ≤ s.cast.length ∧ ∀ j, j < i → q14 s.cast j = 0) (fun i => ⟨[(3, sV (.int .i64 i)), (1, .one (.a 1 0))], [(1, .var (s.cs.map .b))]⟩) (fun i => s.cast.length - i) 0 ⟨Nat.zero_le _, fun j hj => by omega⟩ ?_ ?_
 · exact ⟨⟨rfl, ⟨rfl, rfl, rfl⟩, trivial⟩, ⟨lcr, trivial⟩, rfl⟩
 · intro i ⟨hi, h0⟩ J hJ
   refine xb rfl ?_ ?_ <;> intro h
   · have h : i < s.cast.length := by simpa using h
     obtain ⟨x, hx⟩ := gx h
     have hg := gm Vt.cs hx
     rcases Nat.eq_zero_or_pos i with hz | hz
     · subst hz
       refine xs rfl (nn_ _) (q8 rfl _ hg (xs rfl rfl (z6 rfl (qz _) rfl ⟨trivial, trivial⟩ ?_)))
       refine xb rfl ?_ ?_ <;> intro b0
       refine xj (k := 5) rfl ?_
       refine xv rfl rfl rfl ?_; rotate_left
       refine xj (k := 2) rfl (z6 rfl (y09 _) rfl ⟨trivial, trivial⟩ (xj (k := 2) rfl ?_))
       refine xb rfl ?_ ?_ <;> intro b1
       refine xv rfl rfl rfl ?_; rotate_left
       refine zb rfl [] (Tk (Rg 0 4) (.take 4 (Rg 12 26) (.take 5 [] (.take 6 (Rg 9 29) (Tk (Rg 7 4) (.take 11 (Rg 12 26) (Tk [12, 13, 14] (.take 15 (Rg 23 15) (.take 16 [] (.take 17 (Rg 20 18) (Tk (Rg 18 4) (.take 22 (Rg 23 15) (Tk [23, 24, 25] (.take 26 (Rg 34 4) (.take 27 [] (.take 28 (Rg 31 7) (Tk (Rg 29 4) (.take 33 (Rg 34 4) (Tk (Rg 34 4) .done))))))))))))))))))) (by kernel_rfl) ?_
       refine xj (k := 14) rfl ?_; rotate_left
       all_goals (first | (have hsc := q7 (c := 3) h h0 (by clear hJ h0 hg; simp_all [q14, ahead_zero, Vt.ok]; done) (by decide); clear hJ h0 hg; (refine vi ?_; unfold Slt.fault; simp only [hle] at *; simp_all [y1z]; first | done | omega | ((repeat' split) <;> first | rfl | omega | (simp_all; done) | (simp_all; omega))); done) | (have hsc := q7 (c := 1) h h0 (by clear hJ h0 hg; simp_all [q14, ahead_zero, Vt.ok]; done) (by decide); clear hJ h0 hg; (refine vi ?_; unfold Slt.fault; simp only [hle] at *; simp_all [y1z]; first | done | omega | ((repeat' split) <;> first | rfl | omega | (simp_all; done) | (simp_all; omega))); done) | (refine vi (q7 h h0 ?_ (by first | decide | decide | simp_all)); clear hJ h0 hg; simp_all [q14, ahead_zero, Vt.ok]; done) | (refine za rfl (hJ _ 1 ⟨by omega, ya h0 ?_⟩ (by omega) ⟨⟨cwi (by omega) (by omega) (by omega), ⟨rfl, rfl, rfl⟩, trivial⟩, ⟨lcr, trivial⟩, rfl⟩); clear hJ h0 hg; simp_all [q14, ahead_zero, Vt.ok]; done) | skip)
     · obtain ⟨p, hp⟩ := gx (xs := s.cast) (i := i - 1) (by omega)
       have hgp := q11 Vt.cs hz (by omega) hp
       refine xs rfl (nn_ _) (q8 rfl _ hg (xs rfl rfl (z6 rfl (qz _) rfl ⟨trivial, trivial⟩ ?_)))
       refine xb rfl ?_ ?_ <;> intro b0
       refine xj (k := 5) rfl ?_
       refine xv rfl rfl rfl ?_; rotate_left
       refine xj (k := 2) rfl (z6 rfl (y09 _) rfl ⟨trivial, trivial⟩ (xj (k := 2) rfl ?_))
       refine xb rfl ?_ ?_ <;> intro b1
       refine xv rfl rfl rfl ?_; rotate_left
       refine zb rfl [] (Tk (Rg 0 4) (.take 4 (Rg 12 26) (.take 5 [] (.take 6 (Rg 9 29) (Tk (Rg 7 4) (.take 11 (Rg 12 26) (Tk [12, 13, 14] (.take 15 (Rg 23 15) (.take 16 [] (.take 17 (Rg 20 18) (Tk (Rg 18 4) (.take 22 (Rg 23 15) (Tk [23, 24, 25] (.take 26 (Rg 34 4) (.take 27 [] (.take 28 (Rg 31 7) (Tk (Rg 29 4) (.take 33 (Rg 34 4) (Tk (Rg 34 4) .done))))))))))))))))))) (by kernel_rfl) ?_
       refine xb rfl ?_ ?_ <;> intro b2
       refine xj (k := 6) rfl (xs rfl (z0k hz (by omega)) (q8 rfl _ hgp (xs rfl rfl (xj (k := 4) rfl ?_))))
       refine xb rfl ?_ ?_ <;> intro b3
       refine xj (k := 15) rfl ?_
       refine xv rfl rfl rfl ?_; rotate_left
       refine xj (k := 6) rfl (xs rfl (z0k hz (by omega)) (q8 rfl _ hgp (xs rfl rfl (xj (k := 4) rfl ?_))))
       refine xb rfl ?_ ?_ <;> intro b4
       refine xj (k := 6) rfl (xs rfl (z0k hz (by omega)) (q8 rfl _ hgp (xs rfl rfl (xj (k := 8) rfl ?_))))
       refine xb rfl ?_ ?_ <;> intro b5
       refine xv rfl rfl rfl ?_; rotate_left
       rotate_left
       refine xj (k := 15) rfl ?_; rotate_left
       refine xj (k := 13) rfl ?_; rotate_left
       all_goals (first | (have hsc := q7 (c := 3) h h0 (by clear hJ h0 hg hgp; simp_all [q14, y9 hz hp, Vt.ok]; done) (by decide); clear hJ h0 hg; (refine vi ?_; unfold Slt.fault; simp only [hle] at *; simp_all [y1z]; first | done | omega | ((repeat' split) <;> first | rfl | omega | (simp_all; done) | (simp_all; omega))); done) | (have hsc := q7 (c := 1) h h0 (by clear hJ h0 hg hgp; simp_all [q14, y9 hz hp, Vt.ok]; done) (by decide); clear hJ h0 hg; (refine vi ?_; unfold Slt.fault; simp only [hle] at *; simp_all [y1z]; first | done | omega | ((repeat' split) <;> first | rfl | omega | (simp_all; done) | (simp_all; omega))); done) | (refine vi (q7 h h0 ?_ (by first | decide | decide | simp_all)); clear hJ h0 hg hgp; simp_all [q14, y9 hz hp, Vt.ok]; done) | (refine za rfl (hJ _ (i + 1) ⟨by omega, ya h0 ?_⟩ (by omega) ⟨⟨cwi (by omega) (by omega) (by omega), ⟨rfl, rfl, rfl⟩, trivial⟩, ⟨lcr, trivial⟩, rfl⟩); clear hJ h0 hg hgp; simp_all [q14, y9 hz hp, Vt.ok]; done) | skip)
   · have h : ¬ i < s.cast.length := by simpa using h
     have hz := qe (f := q14 s.cast) (n := s.cast.length) (fun j hj => h0 j (by omega))
     clear hJ
     refine zb rfl [] (.take 0 [] (.take 1 (Rg 4 9) (.take 2 (Rg 3 10) (.alt 3 (Tk (Rg 4 4) (.take 8 [11, 12] (.take 9 [] (.take 10 [11, 12] (Tk [11, 12] .done))))) .nil)))) (by kernel_rfl) (z6 rfl (z7g _ hl) rfl ⟨tv7, trivial⟩ ?_)
     refine xb rfl ?_ ?_ <;> intro b0
     refine xj (k := 7) rfl ?_
     refine xv rfl rfl rfl ?_; rotate_left
     refine xj (k := 6) rfl ?_
     refine xb rfl ?_ ?_ <;> intro b1
     refine xv rfl rfl rfl ?_; rotate_left
     refine xv rfl rfl rfl ?_; rotate_left
     all_goals ((refine vi ?_; unfold Slt.fault; simp only [hle] at *; simp_all [y1z]; first | done | omega | ((repeat' split) <;> first | rfl | omega | (simp_all; done) | (simp_all; omega))))
theorem z2v (a b : Slt) : PC Tryz.prog 344 [.agg a.cs, .agg b.cs] (rI (orr [y0c a.c b.c, y0c a.s b.s])) := by
 refine PC.begin Tryz.func344 rfl (by kernel_rfl) ?_
 refine zb rfl [] (.take 0 [] (.take 1 [4, 9, 10, 11, 12] (.take 2 [] (.take 3 [4, 9, 10, 11, 12] (.take 5 [] (.take 6 (Rg 9 4) (.take 7 [] (.take 8 (Rg 9 4) (.alt 4 (.alt 9 (.alt 10 (.alt 11 (.take 12 [] .done) .nil) .nil) .nil) .nil))))))))) (by kernel_rfl) (z6 rfl (qr _ _) rfl tv3 (z6 rfl (qr _ _) rfl tv3 (xs rfl tv3 (z6 rfl (z8k [_, _] (by simp)) rfl ⟨rfl, trivial⟩ ?_))))
 refine xr rfl (zm rfl ⟨⟨rfl, rfl, trivial⟩, z7 rfl⟩)
theorem y3m (a b : Slt) : PC Tryz.prog 316 [.agg a.cs, .agg b.cs] (rB (Slt.lt a b)) := by
 refine PC.begin Tryz.func316 rfl (by kernel_rfl) ?_
 refine xb rfl ?_ ?_ <;> intro b0
 refine xv rfl rfl rfl ?_; rotate_left
 refine xv rfl rfl rfl ?_; rotate_left
 all_goals (refine vb ?_; simp_all [Slt.lt])
theorem q8y {p x : Slt} : 0 ≤ orr [y0c p.c x.c, y0c p.s x.s] ↔ Slt.lt p x = false := by
 unfold orr orr orr y0c Slt.lt
 repeat' split
 all_goals (simp; try omega)
theorem y9f (a : Acc) (ho : y6x a) : PC Tryz.prog 250 [.agg a.cs] (rI a.fault) := by
 refine PC.begin Tryz.func250 rfl (by kernel_rfl) ?_
 have hle : (a.slots.map Slt.cs).length = a.slots.length := by simp
 obtain ⟨ho1, ho2⟩ := ho
 refine xb rfl ?_ ?_ <;> intro b0
 refine xv rfl rfl rfl ?_; rotate_left
 rotate_left
 all_goals first | ((refine vi ?_; unfold Acc.fault; simp only [hle] at *; simp_all; first | done | omega | ((repeat' split) <;> first | rfl | omega | (simp_all; done) | (simp_all; omega))); done) | skip
 refine zc rfl (ι := Nat) (fun i => i ≤ a.slots.length ∧ ∀ j, j < i → z3d a.slots j = 0) (fun i => ⟨[(13, sV (.int .i64 i)), (12, sV (.int .i64 (a.slots.map Slt.cs).length)), (11, .one (.b (.l (a.slots.map Slt.cs)))), (1, .one (.a 1 0))], [(1, .var (a.cs.map .b))]⟩) (fun i => a.slots.length - i) 0 ⟨Nat.zero_le _, fun j hj => by omega⟩ ?_ ?_
 · exact ⟨⟨rfl, rfl, rfl, ⟨rfl, rfl, rfl⟩, trivial⟩, ⟨lcr, trivial⟩, rfl⟩
 · intro i ⟨hi, h0⟩ J hJ
   refine xb rfl ?_ ?_ <;> intro h
   · have h : i < a.slots.length := by simpa using h
     obtain ⟨x, hx⟩ := gx h
     have hg := gm Slt.cs hx
     have hxc := ho2 x (List.mem_of_getElem? hx)
     rcases Nat.eq_zero_or_pos i with hz | hz
     · subst hz
       refine xs rfl (nn_ _) (q8 rfl _ hg (xs rfl rfl (z6 rfl (q62 _ (by assumption)) rfl ⟨tv7, trivial⟩ ?_)))
       refine xb rfl ?_ ?_ <;> intro b0
       refine xv rfl rfl rfl ?_; rotate_left
       refine zb rfl [] (Tk (Rg 0 4) (.take 4 [7, 8, 10, 11, 12] (Tk [5, 6, 7] (.take 8 (Rg 10 3) (.take 9 (Rg 10 3) (.alt 10 (Tk [11, 12] .done) .nil)))))) (by kernel_rfl) ?_
       refine xj (k := 11) rfl ?_; rotate_left
       all_goals (first | (have hsc := q7 (c := 1) h h0 (by clear hJ h0 hg; simp_all [z3d, ahead_zero, q8y]; done) (by decide); clear hJ h0 hg; (refine vi ?_; unfold Acc.fault; simp only [hle] at *; simp_all; first | done | omega | ((repeat' split) <;> first | rfl | omega | (simp_all; done) | (simp_all; omega))); done) | (have hsc := q7 (c := x.fault) h h0 (by clear hJ h0 hg; simp_all [z3d, ahead_zero, q8y]; done) (by clear hJ h0; simp_all); clear hJ h0 hg; (refine vi ?_; unfold Acc.fault; simp only [hle] at *; simp_all; first | done | omega | ((repeat' split) <;> first | rfl | omega | (simp_all; done) | (simp_all; omega))); done) | (refine vi (q7 h h0 ?_ (by first | decide | decide | simp_all)); clear hJ h0 hg; simp_all [z3d, ahead_zero, q8y]; done) | (refine za rfl (hJ _ 1 ⟨by omega, ya h0 ?_⟩ (by omega) ⟨⟨cwi (by omega) (by omega) (by omega), rfl, rfl, ⟨rfl, rfl, rfl⟩, trivial⟩, ⟨lcr, trivial⟩, rfl⟩); clear hJ h0 hg; simp_all [z3d, ahead_zero, q8y]; done) | skip)
     · obtain ⟨p, hp⟩ := gx (xs := a.slots) (i := i - 1) (by omega)
       have hgp := q11 Slt.cs hz (by omega) hp
       refine xs rfl (nn_ _) (q8 rfl _ hg (xs rfl rfl (z6 rfl (q62 _ (by assumption)) rfl ⟨tv7, trivial⟩ ?_)))
       refine xb rfl ?_ ?_ <;> intro b0
       refine xv rfl rfl rfl ?_; rotate_left
       refine zb rfl [] (Tk (Rg 0 4) (.take 4 [7, 8, 10, 11, 12] (Tk [5, 6, 7] (.take 8 (Rg 10 3) (.take 9 (Rg 10 3) (.alt 10 (Tk [11, 12] .done) .nil)))))) (by kernel_rfl) ?_
       refine xb rfl ?_ ?_ <;> intro b1
       refine xj (k := 4) rfl (xs rfl (z0k hz (by omega)) (q8 rfl _ hgp (xs rfl rfl (xj (k := 3) rfl (z6 rfl (z2v _ _) rfl ⟨tv7, tv7, trivial⟩ (xj (k := 2) rfl ?_))))))
       refine xb rfl ?_ ?_ <;> intro b2
       refine xv rfl rfl rfl ?_; rotate_left
       rotate_left
       refine xj (k := 10) rfl ?_; rotate_left
       all_goals (first | (have hsc := q7 (c := 1) h h0 (by clear hJ h0 hg hgp; simp_all [z3d, y9 hz hp, q8y]; done) (by decide); clear hJ h0 hg; (refine vi ?_; unfold Acc.fault; simp only [hle] at *; simp_all; first | done | omega | ((repeat' split) <;> first | rfl | omega | (simp_all; done) | (simp_all; omega))); done) | (have hsc := q7 (c := x.fault) h h0 (by clear hJ h0 hg hgp; simp_all [z3d, y9 hz hp, q8y]; done) (by clear hJ h0; simp_all); clear hJ h0 hg; (refine vi ?_; unfold Acc.fault; simp only [hle] at *; simp_all; first | done | omega | ((repeat' split) <;> first | rfl | omega | (simp_all; done) | (simp_all; omega))); done) | (refine vi (q7 h h0 ?_ (by first | decide | decide | simp_all)); clear hJ h0 hg hgp; simp_all [z3d, y9 hz hp, q8y]; done) | (refine za rfl (hJ _ (i + 1) ⟨by omega, ya h0 ?_⟩ (by omega) ⟨⟨cwi (by omega) (by omega) (by omega), rfl, rfl, ⟨rfl, rfl, rfl⟩, trivial⟩, ⟨lcr, trivial⟩, rfl⟩); clear hJ h0 hg hgp; simp_all [z3d, y9 hz hp, q8y]; done) | skip)
   · have h : ¬ i < a.slots.length := by simpa using h
     have hz := qe (f := z3d a.slots) (n := a.slots.length) (fun j hj => h0 j (by omega))
     clear hJ
     refine xv rfl rfl rfl ?_
     all_goals ((refine vi ?_; unfold Acc.fault; simp only [hle] at *; simp_all; first | done | omega | ((repeat' split) <;> first | rfl | omega | (simp_all; done) | (simp_all; omega))))
theorem z9t (a : Acc) (ho : y6x a) : PC Tryz.prog 232 [.agg a.cs] (rI a.fault) := by
 refine PC.begin Tryz.func232 rfl (by kernel_rfl) ?_
 have hle : (a.slots.map Slt.cs).length = a.slots.length := by simp
 obtain ⟨ho1, ho2⟩ := ho
 refine xb rfl ?_ ?_ <;> intro b0
 refine xv rfl rfl rfl ?_; rotate_left
 rotate_left
 all_goals first | ((refine vi ?_; unfold Acc.fault; simp only [hle] at *; simp_all; first | done | omega | ((repeat' split) <;> first | rfl | omega | (simp_all; done) | (simp_all; omega))); done) | skip
 refine zc rfl (ι := Nat) (fun i => i ≤ a.slots.length ∧ ∀ j, j < i → z3d a.slots j = 0) (fun i => ⟨[(3, sV (.int .i64 i)), (1, .one (.a 1 0))], [(1, .var (a.cs.map .b))]⟩) (fun i => a.slots.length - i) 0 ⟨Nat.zero_le _, fun j hj => by omega⟩ ?_ ?_
 · exact ⟨⟨rfl, ⟨rfl, rfl, rfl⟩, trivial⟩, ⟨lcr, trivial⟩, rfl⟩
 · intro i ⟨hi, h0⟩ J hJ
   refine xb rfl ?_ ?_ <;> intro h
   · have h : i < a.slots.length := by simpa using h
     obtain ⟨x, hx⟩ := gx h
     have hg := gm Slt.cs hx
     have hxc := ho2 x (List.mem_of_getElem? hx)
     rcases Nat.eq_zero_or_pos i with hz | hz
     · subst hz
       refine xs rfl (nn_ _) (q8 rfl _ hg (xs rfl rfl (z6 rfl (y67 _ (by assumption)) rfl ⟨tv7, trivial⟩ ?_)))
       refine xb rfl ?_ ?_ <;> intro b0
       refine xv rfl rfl rfl ?_; rotate_left
       refine zb rfl [] (Tk (Rg 0 4) (.take 4 [7, 8, 14, 15, 16] (Tk [5, 6, 7] (.take 8 (Rg 14 3) (.take 9 [] (.take 10 (Rg 12 5) (Tk [11, 12] (.take 13 (Rg 14 3) (.alt 14 (Tk [15, 16] .done) .nil))))))))) (by kernel_rfl) ?_
       refine xj (k := 15) rfl ?_; rotate_left
       all_goals (first | (have hsc := q7 (c := 1) h h0 (by clear hJ h0 hg; simp_all [z3d, ahead_zero]; done) (by decide); clear hJ h0 hg; (refine vi ?_; unfold Acc.fault; simp only [hle] at *; simp_all; first | done | omega | ((repeat' split) <;> first | rfl | omega | (simp_all; done) | (simp_all; omega))); done) | (have hsc := q7 (c := x.fault) h h0 (by clear hJ h0 hg; simp_all [z3d, ahead_zero]; done) (by clear hJ h0; simp_all); clear hJ h0 hg; (refine vi ?_; unfold Acc.fault; simp only [hle] at *; simp_all; first | done | omega | ((repeat' split) <;> first | rfl | omega | (simp_all; done) | (simp_all; omega))); done) | (refine vi (q7 h h0 ?_ (by first | decide | decide | simp_all)); clear hJ h0 hg; simp_all [z3d, ahead_zero]; done) | (refine za rfl (hJ _ 1 ⟨by omega, ya h0 ?_⟩ (by omega) ⟨⟨cwi (by omega) (by omega) (by omega), ⟨rfl, rfl, rfl⟩, trivial⟩, ⟨lcr, trivial⟩, rfl⟩); clear hJ h0 hg; simp_all [z3d, ahead_zero]; done) | skip)
     · obtain ⟨p, hp⟩ := gx (xs := a.slots) (i := i - 1) (by omega)
       have hgp := q11 Slt.cs hz (by omega) hp
       refine xs rfl (nn_ _) (q8 rfl _ hg (xs rfl rfl (z6 rfl (y67 _ (by assumption)) rfl ⟨tv7, trivial⟩ ?_)))
       refine xb rfl ?_ ?_ <;> intro b0
       refine xv rfl rfl rfl ?_; rotate_left
       refine zb rfl [] (Tk (Rg 0 4) (.take 4 [7, 8, 14, 15, 16] (Tk [5, 6, 7] (.take 8 (Rg 14 3) (.take 9 [] (.take 10 (Rg 12 5) (Tk [11, 12] (.take 13 (Rg 14 3) (.alt 14 (Tk [15, 16] .done) .nil))))))))) (by kernel_rfl) ?_
       refine xb rfl ?_ ?_ <;> intro b1
       refine xj (k := 4) rfl (xs rfl (z0k hz (by omega)) (q8 rfl _ hgp (xs rfl rfl (xj (k := 5) rfl (xs rfl (nn_ _) (q8 rfl _ hg (xs rfl rfl (xj (k := 2) rfl (z6 rfl (y3m _ _) rfl ⟨tv7, tv7, trivial⟩ ?_)))))))))
       refine xj (k := 2) rfl ?_
       refine xb rfl ?_ ?_ <;> intro b2
       refine xv rfl rfl rfl ?_; rotate_left
       rotate_left
       refine xj (k := 14) rfl ?_; rotate_left
       all_goals (first | (have hsc := q7 (c := 1) h h0 (by clear hJ h0 hg hgp; simp_all [z3d, y9 hz hp]; done) (by decide); clear hJ h0 hg; (refine vi ?_; unfold Acc.fault; simp only [hle] at *; simp_all; first | done | omega | ((repeat' split) <;> first | rfl | omega | (simp_all; done) | (simp_all; omega))); done) | (have hsc := q7 (c := x.fault) h h0 (by clear hJ h0 hg hgp; simp_all [z3d, y9 hz hp]; done) (by clear hJ h0; simp_all); clear hJ h0 hg; (refine vi ?_; unfold Acc.fault; simp only [hle] at *; simp_all; first | done | omega | ((repeat' split) <;> first | rfl | omega | (simp_all; done) | (simp_all; omega))); done) | (refine vi (q7 h h0 ?_ (by first | decide | decide | simp_all)); clear hJ h0 hg hgp; simp_all [z3d, y9 hz hp]; done) | (refine za rfl (hJ _ (i + 1) ⟨by omega, ya h0 ?_⟩ (by omega) ⟨⟨cwi (by omega) (by omega) (by omega), ⟨rfl, rfl, rfl⟩, trivial⟩, ⟨lcr, trivial⟩, rfl⟩); clear hJ h0 hg hgp; simp_all [z3d, y9 hz hp]; done) | skip)
   · have h : ¬ i < a.slots.length := by simpa using h
     have hz := qe (f := z3d a.slots) (n := a.slots.length) (fun j hj => h0 j (by omega))
     clear hJ
     refine xv rfl rfl rfl ?_
     all_goals ((refine vi ?_; unfold Acc.fault; simp only [hle] at *; simp_all; first | done | omega | ((repeat' split) <;> first | rfl | omega | (simp_all; done) | (simp_all; omega))))
theorem y7e (rr : List (List Cell)) (us : List Con) (p : Con → Bool) (fn : Nat) (c0 : Cell) (hr : rr = us.map Con.cs) (hf : ∀ x ∈ us, PC Tryz.prog fn [.agg x.cs, .one c0] (rB (p x))) (hl : us.length ≤ 1048576) : PC Tryz.prog 152 [.one (.l rr), .one (.f fn [c0])] (rI (q1a p us)) := by
 refine PC.begin Tryz.func152 rfl (by kernel_rfl) ?_
 subst hr
 have hn : (us.map Con.cs).length = us.length := by simp
 refine zc rfl (ι := Nat) (fun i => i ≤ us.length ∧ ∀ j y, j < i → us[j]? = some y → p y = false) (fun i => ⟨[(8, sV (.int .i64 i)), (7, sV (.int .i64 (us.map Con.cs).length)), (0, .one (.b (.l (us.map Con.cs)))), (1, .one (.b (.f fn [c0])))], []⟩) (fun i => us.length - i) 0 ⟨Nat.zero_le _, fun j y hj => by omega⟩ ?_ ?_
 · exact ⟨⟨rfl, rfl, rfl, rfl, trivial⟩, trivial, rfl⟩
 · intro i ⟨hi, h0⟩ J hJ
   refine xb rfl ?_ ?_ <;> intro h
   · have h : i < us.length := by simpa using h
     obtain ⟨x, hx⟩ := gx h
     have hg := gm Con.cs hx
     have hxm := List.mem_of_getElem? hx
     refine xs rfl (nn_ _) (q8 rfl _ hg (xs rfl rfl (z6 rfl (hf _ hxm) rfl ⟨tv3, trivial, trivial⟩ ?_)))
     refine xb rfl ?_ ?_ <;> intro b0
     refine xv rfl rfl rfl ?_; rotate_left
     rotate_left
     · exact vi (z04 hx h0 b0).symm
     · exact za rfl (hJ _ (i + 1) ⟨by omega, yf hx h0 b0⟩ (by omega) ⟨⟨cwi (by omega) (by omega) (by omega), rfl, rfl, rfl, trivial⟩, trivial, rfl⟩)
   · have h : ¬ i < us.length := by simpa using h
     refine xv rfl rfl rfl ?_
     exact vi (zy (zj (by omega) h0)).symm
theorem y0g (c : Clu) (id : Int) (hl : c.cons.length ≤ 1048576) : PC Tryz.prog 53 [.one (.p c.cs), .one (i64 id)] (rI (q1a (fun x : Con => x.id == id) c.cons)) := by
 refine PC.begin Tryz.func53 rfl (by kernel_rfl) ?_
 refine zc rfl (ι := Nat) (fun i => i ≤ c.cons.length ∧ ∀ j y, j < i → c.cons[j]? = some y → (y.id == id) = false) (fun i => ⟨[(5, sV (.int .i64 i)), (0, .one (.b (.p c.cs))), (1, sV (.int .i64 id))], []⟩) (fun i => c.cons.length - i) 0 ⟨Nat.zero_le _, fun j y hj => by omega⟩ ?_ ?_
 · exact ⟨⟨rfl, rfl, rfl, trivial⟩, trivial, rfl⟩
 · intro i ⟨hi, h0⟩ J hJ
   refine xb rfl ?_ ?_ <;> intro h
   · have h : i < c.cons.length := by simpa using h
     obtain ⟨x, hx⟩ := gx h
     have hg := gm Con.cs hx
     refine xs rfl (nn_ _) (q8 rfl _ hg (xs rfl rfl ?_))
     refine xb rfl ?_ ?_ <;> intro b0
     refine xv rfl rfl rfl ?_; rotate_left
     rotate_left
     · exact vi (z04 hx h0 b0).symm
     · exact za rfl (hJ _ (i + 1) ⟨by omega, yf hx h0 b0⟩ (by omega) ⟨⟨cwi (by omega) (by omega) (by omega), rfl, rfl, trivial⟩, trivial, rfl⟩)
   · have h : ¬ i < c.cons.length := by simpa using h
     refine xv rfl rfl rfl ?_
     exact vi (zy (p := fun x : Con => x.id == id) (zj (by omega) h0)).symm
theorem q0k (l : List Int) (a b : Nat) : ∀ row ∈ ((ints l).take b).drop a, row.length = 1 := fun row h => by
 have h := List.mem_of_mem_take (List.mem_of_mem_drop h)
 simp [ints] at h
 obtain ⟨_, _, rfl⟩ := h; rfl
theorem z0l (l : List Int) (a b : Nat) : zz (((ints l).take b).drop a) := fun row h => by
 have h := List.mem_of_mem_take (List.mem_of_mem_drop h)
 simp [ints] at h
 obtain ⟨x, _, rfl⟩ := h
 intro c hc
 exact ⟨_, by simpa using hc⟩
abbrev qbg (l : List Int) (v : Int) : Bool → Res
 | true => .one (.bor false [.l (ints l)])
 | false => .one (.own false [.l 1 (ints (z3h l v))])
theorem y63 (l : List Int) (v : Int) (b : Bool) (hb : l.contains v = b) (hl : l.length ≤ 1048576) (hs : l.Pairwise (· < ·)) : PC Tryz.prog 160 [.one (.l (ints l)), .one (i64 v)] (qbg l v b) := by
 refine PC.begin Tryz.func160 rfl (by kernel_rfl) ?_
 have hn : (ints l).length = l.length := by simp
 refine zc rfl (ι := Nat) (fun i => i ≤ l.length ∧ ∀ j y, j < i → l[j]? = some y → y < v) (fun i => ⟨[(5, sV (.int .i64 i)), (0, .one (.b (.l (ints l)))), (1, sV (.int .i64 v))], []⟩) (fun i => l.length - i) 0 ⟨Nat.zero_le _, fun j y hj => by omega⟩ ?_ ?_
 · exact ⟨⟨rfl, rfl, rfl, trivial⟩, trivial, rfl⟩
 · intro i ⟨hi, h0⟩ J hJ
   refine xb rfl ?_ ?_ <;> intro h
   · have h : i < l.length := by simpa using h
     obtain ⟨x, hx⟩ := gx h
     have hg := gm (fun n => [i64 n]) hx
     by_cases h1 : x < v
     · skip
       refine xj (k := 2) rfl (xs rfl (nn_ _) (q8 rfl _ hg (xs rfl rfl (xj (k := 4) rfl ?_))))
       refine xb rfl (fun b0 => ?_) (fun b0 => ?_); rotate_left
       exact absurd b0 (by simp; omega)
       all_goals first
        | exact za rfl (hJ _ (i + 1) ⟨by omega, yf hx h0 (by simpa using b0)⟩ (by omega) ⟨⟨cwi (by omega) (by omega) (by omega), rfl, rfl, trivial⟩, trivial, rfl⟩)
        | (exfalso; simp at b0; omega)
     · have hnx : ∀ y, l[i]? = some y → ¬ y < v := fun y hy => by rw [hx] at hy; cases hy; exact h1
       by_cases h2 : x = v
       · have hbt : b = true := by rw [← hb, y1s hs h0 hnx, hx, h2]; simp
         subst hbt
         refine xj (k := 2) rfl (xs rfl (nn_ _) (q8 rfl _ hg (xs rfl rfl (xj (k := 4) rfl ?_))))
         refine xb rfl ?_ ?_ <;> intro b0
         exact absurd b0 (by simp; omega)
         refine xb rfl ?_ ?_ <;> intro b1
         refine xj (k := 2) rfl (xs rfl (nn_ _) (q8 rfl _ hg (xs rfl rfl (xj (k := 4) rfl ?_))))
         refine xb rfl ?_ ?_ <;> intro b2
         refine xr rfl (zm rfl ⟨⟨rfl, rfl, trivial⟩, z7 rfl⟩)
         exact absurd b2 (by simp; omega)
         exact absurd b1 (by simp; omega)
         all_goals first
          | (exfalso; simp at b0; omega)
          | (exfalso; simp at b1; omega)
          | (exfalso; simp at b2; omega)
       · have hbt : b = false := by rw [← hb, y1s hs h0 hnx, hx]; simpa using h2
         have hp := q5m (v := v) (Nat.le_of_lt h) h0 hnx
         rw [hx, if_neg (by simpa using h2)] at hp
         subst hbt
         refine xj (k := 2) rfl (xs rfl (nn_ _) (q8 rfl _ hg (xs rfl rfl (xj (k := 4) rfl ?_))))
         refine xb rfl ?_ ?_ <;> intro b0
         exact absurd b0 (by simp; omega)
         refine xb rfl ?_ ?_ <;> intro b1
         refine xj (k := 2) rfl (xs rfl (nn_ _) (q8 rfl _ hg (xs rfl rfl (xj (k := 4) rfl ?_))))
         refine xb rfl ?_ ?_ <;> intro b2
         exact absurd b2 (by simp; omega)
         refine zb rfl [] (Tk [1, 2, 3, 5, 8, 9, 10] (.alt 0 (.alt 4 (.alt 6 (.alt 7 (.alt 11 (.take 12 [] .done) .nil) .nil) .nil) (.alt 6 (.alt 4 (.alt 7 (.alt 11 (.take 12 [] .done) .nil) .nil) .nil) .nil)) (.alt 6 (.alt 0 (.alt 4 (.alt 7 (.alt 11 (.take 12 [] .done) .nil) .nil) .nil) .nil) .nil))) (by kernel_rfl) (xs rfl (.inl rfl) (xs rfl (nn_ _) (xs rfl (nn_ _) (xs rfl (by simp; omega) (xs rfl (by simp) (xs rfl (nn_ _) (xs rfl (by simp; omega) (xs rfl (by simp) ?_))))))))
         refine y0u rfl ?_ ?_
         refine xs rfl trivial ?_
         refine y0u rfl ?_ ?_
         refine xs rfl rfl (xs rfl (q0k _ _ _) (xs rfl (fun _ => z0l _ _ _) (xs rfl (by simp; omega) (xs rfl (by simp; omega) (xs rfl ⟨trivial, trivial⟩ (xs rfl (by simp) (xs rfl rfl (xs rfl (.inl rfl) (xs rfl (by simp; omega) ?_)))))))))
         refine xs rfl (by simp; omega) (xs rfl (by simp) (xs rfl (q0k _ _ _) (xs rfl (fun _ => z0l _ _ _) (xs rfl (by simp; omega) (xs rfl (by simp; omega) ?_)))))
         refine xr rfl (zm rfl ⟨⟨rfl, ⟨?_, ?_, .inl rfl⟩, trivial⟩, z7 rfl⟩); rotate_left
         rotate_left
         refine xs rfl ⟨trivial, trivial⟩ (xs rfl rfl (xs rfl (q0k _ _ _) (xs rfl (fun _ => z0l _ _ _) (xs rfl (by simp; omega) (xs rfl (by simp; omega) (xs rfl (by simp) (xs rfl rfl (xs rfl (.inl rfl) (xs rfl (by simp; omega) ?_)))))))))
         refine xs rfl (by simp; omega) (xs rfl (by simp) (xs rfl (q0k _ _ _) (xs rfl (fun _ => z0l _ _ _) (xs rfl (by simp; omega) (xs rfl (by simp; omega) ?_)))))
         refine xr rfl (zm rfl ⟨⟨rfl, ⟨?_, ?_, .inl rfl⟩, trivial⟩, z7 rfl⟩); rotate_left
         rotate_left
         refine xs rfl ⟨trivial, trivial⟩ (xs rfl trivial (xs rfl rfl (xs rfl (q0k _ _ _) (xs rfl (fun _ => z0l _ _ _) (xs rfl (by simp; omega) (xs rfl (by simp; omega) (xs rfl (by simp) (xs rfl rfl (xs rfl (.inl rfl) ?_)))))))))
         refine xs rfl (by simp; omega) (xs rfl (by simp; omega) (xs rfl (by simp) (xs rfl (q0k _ _ _) (xs rfl (fun _ => z0l _ _ _) (xs rfl (by simp; omega) (xs rfl (by simp; omega) ?_))))))
         refine xr rfl (zm rfl ⟨⟨rfl, ⟨?_, ?_, .inl rfl⟩, trivial⟩, z7 rfl⟩); rotate_left
         rotate_left
         exact absurd b1 (by simp; omega)
         all_goals first
          | (exfalso; simp at b0; omega)
          | (exfalso; simp at b1; omega)
          | (exfalso; simp at b2; omega)
          | exact List.length_append.symm
          | (rw [hp]; simp [ints, List.map_take, List.map_drop, List.take_of_length_le]; done)
   · have h : i = l.length := by have : ¬ i < l.length := (by simpa using h); omega
     subst h
     have hc := y1s hs h0 (fun x hx => by rw [List.getElem?_eq_none (Nat.le_refl _)] at hx; cases hx)
     rw [List.getElem?_eq_none (Nat.le_refl _)] at hc
     have hbf : b = false := by rw [← hb, hc]; rfl
     subst hbf
     have hp := q5m (v := v) (Nat.le_refl _) h0 (fun x hx => by rw [List.getElem?_eq_none (Nat.le_refl _)] at hx; cases hx)
     rw [List.getElem?_eq_none (Nat.le_refl _), if_neg (by simp)] at hp
     refine xj (k := 7) rfl ?_
     refine xb rfl ?_ ?_ <;> intro b0
     exact absurd b0 (by simp [*])
     refine xj (k := 7) rfl (zb rfl [] (Tk [1, 2, 3, 5, 8, 9, 10] (.alt 0 (.alt 4 (.alt 6 (.alt 7 (.alt 11 (.take 12 [] .done) .nil) .nil) .nil) (.alt 6 (.alt 4 (.alt 7 (.alt 11 (.take 12 [] .done) .nil) .nil) .nil) .nil)) (.alt 6 (.alt 0 (.alt 4 (.alt 7 (.alt 11 (.take 12 [] .done) .nil) .nil) .nil) .nil) .nil))) (by kernel_rfl) (xs rfl (.inl rfl) (xs rfl (nn_ _) (xs rfl (nn_ _) (xs rfl (by simp) (xs rfl (by simp) (xs rfl (nn_ _) (xs rfl (by simp) (xs rfl (by simp) ?_)))))))))
     refine y0u rfl ?_ ?_
     refine xs rfl trivial ?_
     refine y0u rfl ?_ ?_
     refine xs rfl rfl (xs rfl (q0k _ _ _) (xs rfl (fun _ => z0l _ _ _) (xs rfl (by simp; omega) (xs rfl (by simp; omega) (xs rfl ⟨trivial, trivial⟩ (xs rfl (by simp) (xs rfl rfl (xs rfl (.inl rfl) (xs rfl (by simp; omega) ?_)))))))))
     refine xs rfl (by simp; omega) (xs rfl (by simp) (xs rfl (q0k _ _ _) (xs rfl (fun _ => z0l _ _ _) (xs rfl (by simp; omega) (xs rfl (by simp; omega) ?_)))))
     refine xr rfl (zm rfl ⟨⟨rfl, ⟨?_, ?_, .inl rfl⟩, trivial⟩, z7 rfl⟩); rotate_left
     rotate_left
     refine xs rfl ⟨trivial, trivial⟩ (xs rfl rfl (xs rfl (q0k _ _ _) (xs rfl (fun _ => z0l _ _ _) (xs rfl (by simp; omega) (xs rfl (by simp; omega) (xs rfl (by simp) (xs rfl rfl (xs rfl (.inl rfl) (xs rfl (by simp; omega) ?_)))))))))
     refine xs rfl (by simp; omega) (xs rfl (by simp) (xs rfl (q0k _ _ _) (xs rfl (fun _ => z0l _ _ _) (xs rfl (by simp; omega) (xs rfl (by simp; omega) ?_)))))
     refine xr rfl (zm rfl ⟨⟨rfl, ⟨?_, ?_, .inl rfl⟩, trivial⟩, z7 rfl⟩); rotate_left
     rotate_left
     refine xs rfl ⟨trivial, trivial⟩ (xs rfl trivial (xs rfl rfl (xs rfl (q0k _ _ _) (xs rfl (fun _ => z0l _ _ _) (xs rfl (by simp; omega) (xs rfl (by simp; omega) (xs rfl (by simp) (xs rfl rfl (xs rfl (.inl rfl) ?_)))))))))
     refine xs rfl (by simp; omega) (xs rfl (by simp; omega) (xs rfl (by simp) (xs rfl (q0k _ _ _) (xs rfl (fun _ => z0l _ _ _) (xs rfl (by simp; omega) (xs rfl (by simp; omega) ?_))))))
     refine xr rfl (zm rfl ⟨⟨rfl, ⟨?_, ?_, .inl rfl⟩, trivial⟩, z7 rfl⟩); rotate_left
     rotate_left
     all_goals first
      | exact List.length_append.symm
      | (rw [hp]; simp [ints, List.map_take, List.map_drop, List.take_of_length_le]; done)
theorem y0q (x : Con) (hl : x.legs.length ≤ 1048576) : PC Tryz.prog 68 [.agg x.cs] (.one (.bor false [.l (ints (shF x.legs))])) := by
 refine PC.begin Tryz.func68 rfl (by kernel_rfl) ?_
 refine xs rfl trivial ?_
 refine zc rfl (ι := Nat) (fun i => i ≤ x.legs.length) (fun i => ⟨[(4, sV (.int .i64 i)), (3, .one (.b (.l (ints (shF (x.legs.take i)))))), (1, .one (.a 1 0))], [(1, .var (x.cs.map .b))]⟩) (fun i => x.legs.length - i) 0 (Nat.zero_le _) ?_ ?_
 · exact ⟨⟨rfl, ⟨rfl, rfl, rfl⟩, ⟨rfl, rfl, rfl⟩, trivial⟩, ⟨lcr, trivial⟩, rfl⟩
 · intro i hi J hJ
   refine xb rfl ?_ ?_ <;> intro h
   · have h : i < x.legs.length := by simpa using h
     obtain ⟨y, hy⟩ := gx h
     have hg := gm Leg.cs hy
     have hst := y68 hy
     have hlen := y1h x.legs i
     cases hb : (shF (x.legs.take i)).contains y.s with
     | true =>
       have hp := y63 _ _ true hb (by omega) (z52 _)
       have he : z3h (shF (x.legs.take i)) y.s = shF (x.legs.take i) := by
        have := z66 (z52 (x.legs.take i)) hb
        exact this
       rw [he] at hst
       refine xs rfl (nn_ _) (q8 rfl _ hg (xs rfl rfl (z6 rfl (hp) rfl tv3 ?_)))
       exact za rfl (hJ _ (i + 1) (by omega) (by omega) ⟨⟨cwi (by omega) (by omega) (by omega), (by rw [hst]; rfl), ⟨rfl, rfl, rfl⟩, trivial⟩, ⟨lcr, trivial⟩, rfl⟩)
     | false =>
       have hp := y63 _ _ false hb (by omega) (z52 _)
       refine xs rfl (nn_ _) (q8 rfl _ hg (xs rfl rfl (z6 rfl (hp) rfl tv3 ?_)))
       exact za rfl (hJ _ (i + 1) (by omega) (by omega) ⟨⟨cwi (by omega) (by omega) (by omega), ⟨rfl, rfl, (by rw [hst])⟩, ⟨rfl, rfl, rfl⟩, trivial⟩, ⟨lcr, trivial⟩, rfl⟩)
   · have h : i = x.legs.length := by have : ¬ i < x.legs.length := (by simpa using h); omega
     subst h
     rw [List.take_length]
     refine xr rfl (zm rfl ⟨⟨rfl, rfl, trivial⟩, z7 rfl⟩)
theorem yw (c : Clu) (ho : q00 c) (id s : Int) : PC Tryz.prog 231 [.one (.p c.cs), .one (i64 id), .one (i64 s)] (rB (z12 c.cons id s)) := by
 refine PC.begin Tryz.func231 rfl (by kernel_rfl) ?_
 have hf := y0g c id ho.1.1
 cases h : z03 c.cons id with
 | none =>
   rw [q0z h] at hf
   have e : z12 c.cons id s = false := by unfold z12; rw [h]
   rw [e]
   refine z6 rfl (hf) rfl tv3 (xj (k := 11) rfl ?_)
   refine xr rfl (zm rfl ⟨⟨rfl, rfl, trivial⟩, z7 rfl⟩)
 | some x =>
   obtain ⟨i, hi, hx⟩ := y0p h
   rw [hi] at hf
   have hg := gm Con.cs hx
   have hxl := ho.1.2 x (List.mem_of_getElem? hx)
   have e : z12 c.cons id s = (shF x.legs).any (fun y => y == s) := by unfold z12; rw [h, q9v]
   rw [e]
   refine z6 rfl (hf) rfl tv3 (xj (k := 6) rfl (xs rfl (nn_ _) (q8 rfl _ hg (xs rfl rfl (xj (k := 2) rfl (z6 rfl (y0q x hxl) rfl ⟨tv3, trivial⟩ (xj (k := 2) rfl (z6 rfl (z2s _ (shF x.legs) s rfl (by have := y1h x.legs x.legs.length; rw [List.take_length] at this; omega)) rfl tv3 (xj (k := 1) rfl ?_)))))))))
   refine xr rfl (zm rfl ⟨⟨rfl, rfl, trivial⟩, z7 rfl⟩)
   all_goals first
    | (exfalso; simp at b0; omega)
    | skip
theorem q2g (x : Con) (id : Int) : PC Tryz.prog 153 [.agg x.cs, .one (.p [i64 id])] (rB (x.id == id)) := by
 refine PC.begin Tryz.func153 rfl (by kernel_rfl) ?_
 refine xr rfl (zm rfl ⟨⟨rfl, rfl, trivial⟩, z7 rfl⟩)
theorem y0v (c : Clu) (ho : q00 c) (id : Int) (h : z03 c.cons id = none) : PC Tryz.prog 61 [.one (.p c.cs), .one (i64 id)] (.tup [.bor true [i64 0, .l []], .own false [.s (.bool false)]]) := by
 refine PC.begin Tryz.func61 rfl (by kernel_rfl) ?_
 have hi := y7e _ c.cons (fun x => x.id == id) 153 (.p [i64 id]) rfl (fun x _ => q2g x id) ho.1.1
 rw [q0z h] at hi
 refine z6 rfl (hi) rfl ⟨trivial, (List.forall_mem_cons.2 ⟨⟨trivial, trivial⟩, (fun _ h => nomatch h)⟩), trivial⟩ (xj (k := 1) rfl ?_)
 refine xr rfl (zm rfl ⟨(by decide), ⟨⟨rfl, rfl, rfl, trivial⟩, ⟨rfl, rfl, trivial⟩, trivial⟩, z7 rfl⟩)
theorem q0v (c : Clu) (ho : q00 c) (id : Int) (x : Con) (h : z03 c.cons id = some x) : PC Tryz.prog 61 [.one (.p c.cs), .one (i64 id)] (.tup [.bor true x.cs, .own false [.s (.bool true)]]) := by
 refine PC.begin Tryz.func61 rfl (by kernel_rfl) ?_
 have hi := y7e _ c.cons (fun x => x.id == id) 153 (.p [i64 id]) rfl (fun x _ => q2g x id) ho.1.1
 obtain ⟨i, hi0, hx⟩ := y0p h
 rw [hi0] at hi
 have hg := gm Con.cs hx
 refine z6 rfl (hi) rfl ⟨trivial, (List.forall_mem_cons.2 ⟨⟨trivial, trivial⟩, (fun _ h => nomatch h)⟩), trivial⟩ (xj (k := 1) rfl (xs rfl (nn_ _) (q8 rfl _ hg (xs rfl rfl ?_))))
 refine xr rfl (zm rfl ⟨(by decide), ⟨⟨rfl, rfl, rfl, trivial⟩, ⟨rfl, rfl, trivial⟩, trivial⟩, z7 rfl⟩)
 all_goals first
  | (exfalso; simp at b0; omega)
  | skip
theorem y18 (c : Clu) (ho : q00 c) (id s : Int) : PC Tryz.prog 248 [.one (.p c.cs), .one (i64 id), .one (i64 s)] (rB (z12 c.cons id s)) := by
 refine PC.begin Tryz.func248 rfl (by kernel_rfl) ?_
 cases h : z03 c.cons id with
 | none =>
   have e : z12 c.cons id s = false := by unfold z12; rw [h]
   rw [e]
   refine z6 rfl (y0v c ho id h) rfl tv3 (xj (k := 6) rfl ?_)
   refine xr rfl (zm rfl ⟨⟨rfl, rfl, trivial⟩, z7 rfl⟩)
 | some x =>
   obtain ⟨i, hi, hx⟩ := y0p h
   have hxl := ho.1.2 x (List.mem_of_getElem? hx)
   have e : z12 c.cons id s = decide (0 < (ym x s).length) := by unfold z12; rw [h, z6n]
   rw [e]
   refine z6 rfl (q0v c ho id x h) rfl tv3 (xj (k := 3) rfl (z6 rfl (y16 _ _ (by omega)) rfl ⟨tv3, trivial, trivial⟩ (xj (k := 3) rfl (xv rfl rfl rfl ?_))))
   all_goals (refine vb ?_; simp)
theorem y2l (rr : List (List Cell)) : PC Tryz.prog 141 [.one (.l rr)] (rI rr.length) := by
 refine PC.begin Tryz.func141 rfl (by kernel_rfl) ?_
 refine xr rfl (zm rfl ⟨⟨rfl, rfl, trivial⟩, z7 rfl⟩)
theorem q1h (rr : List (List Cell)) : PC Tryz.prog 142 [.one (.l rr)] (rI rr.length) := by
 refine PC.begin Tryz.func142 rfl (by kernel_rfl) ?_
 refine xr rfl (zm rfl ⟨⟨rfl, rfl, trivial⟩, z7 rfl⟩)
theorem q4c (rr : List (List Cell)) : PC Tryz.prog 317 [.one (.l rr)] (rI rr.length) := by
 refine PC.begin Tryz.func317 rfl (by kernel_rfl) ?_
 refine xr rfl (zm rfl ⟨⟨rfl, rfl, trivial⟩, z7 rfl⟩)
theorem q2c (rows : List (List Cell)) (n : Int) (hl : rows.length ≤ 1048576) : PC Tryz.prog 309 [.one (i64 n), .one (.l rows)] (rB (within n 0 ((rows.length : Int) - 1))) := by
 refine PC.begin Tryz.func309 rfl (by kernel_rfl) ?_
 have hw : IntKind.i64.wrap ((rows.length : Int) - 1) = (rows.length : Int) - 1 := wrap_i64 (by omega) (by omega)
 refine z6 rfl (y2l _) rfl ⟨trivial, trivial⟩ (z6 rfl (zk _ _ _) rfl tv4 (xv rfl rfl rfl ?_))
 all_goals (refine vb ?_; rw [hw])
theorem q0f (rows : List (List Cell)) (n : Int) (hl : rows.length ≤ 1048576) : PC Tryz.prog 348 [.one (i64 n), .one (.l rows)] (rB (within n 0 ((rows.length : Int) - 1))) := by
 refine PC.begin Tryz.func348 rfl (by kernel_rfl) ?_
 have hw : IntKind.i64.wrap ((rows.length : Int) - 1) = (rows.length : Int) - 1 := wrap_i64 (by omega) (by omega)
 refine z6 rfl (q1h _) rfl ⟨trivial, trivial⟩ (z6 rfl (zk _ _ _) rfl tv4 (xv rfl rfl rfl ?_))
 all_goals (refine vb ?_; rw [hw])
theorem y2c (rows : List (List Cell)) (n : Int) (hl : rows.length ≤ 1048576) : PC Tryz.prog 221 [.one (i64 n), .one (.l rows)] (rB (within n 0 ((rows.length : Int) - 1))) := by
 refine PC.begin Tryz.func221 rfl (by kernel_rfl) ?_
 have hw : IntKind.i64.wrap ((rows.length : Int) - 1) = (rows.length : Int) - 1 := wrap_i64 (by omega) (by omega)
 refine z6 rfl (q4c _) rfl ⟨trivial, trivial⟩ (z6 rfl (zk _ _ _) rfl tv4 (xv rfl rfl rfl ?_))
 all_goals (refine vb ?_; rw [hw])
abbrev yb8 (m : Msg) : Res := .one (.own true [.s (.int .i64 m.k), .s (.int .i64 m.to), .s (.int .i64 m.fr), .s (.int .i64 m.c), .s (.int .i64 m.s), .s (.int .i64 m.b), .s (.int .i64 m.v), .s (.int .i64 m.ob), .s (.int .i64 m.ov)])
theorem kinds {k : Int} (h : Go.Sx.within k 1 6 = true) : k = 1 ∨ k = 2 ∨ k = 3 ∨ k = 4 ∨ k = 5 ∨ k = 6 := by
 have := Go.Sx.within_iff.1 h
 omega
theorem wl1 {α β : Type} (f : α → β) {us : List α} (h : us.length ≤ 1048576) : IntKind.i64.wrap (((us.map f).length : Int) - 1) = (us.length : Int) - 1 := by rw [List.length_map]; exact wrap_i64 (by omega) (by omega)
theorem z0e {α : Type} {p : α → Bool} {l : List α} : decide (q1a p l < 0) = (l.find? p).isNone := by
 cases h : l.find? p with
 | none => rw [q0z h]; rfl
 | some x =>
   obtain ⟨i, hi, _⟩ := y0p h
   rw [hi]; simp
theorem z0g (m : Msg) (hk : Go.Sx.within m.k 1 6 = true) : PC Tryz.prog 240 [.agg m.cs] (yb8 m.bare) := by
 refine PC.begin Tryz.func240 rfl (by kernel_rfl) ?_
 obtain ⟨k, to, fr, c, s, b, v, ob, ov⟩ := m
 rcases kinds hk with h | h | h | h | h | h
 · dsimp only at h
   subst h
   rw [show Msg.bare ⟨1, to, fr, c, s, b, v, ob, ov⟩ = ⟨1, to, 0, c, 0, 0, 0, 0, 0⟩ from rfl]
   refine xj (k := 20) rfl ?_
   refine xr rfl (zm rfl ⟨⟨rfl, rfl, rfl, rfl, rfl, rfl, rfl, rfl, rfl, rfl, trivial⟩, z7 rfl⟩)
 · dsimp only at h
   subst h
   rw [show Msg.bare ⟨2, to, fr, c, s, b, v, ob, ov⟩ = ⟨2, to, 0, c, s, b, v, 0, 0⟩ from rfl]
   refine xj (k := 20) rfl ?_
   refine xr rfl (zm rfl ⟨⟨rfl, rfl, rfl, rfl, rfl, rfl, rfl, rfl, rfl, rfl, trivial⟩, z7 rfl⟩)
 · dsimp only at h
   subst h
   rw [show Msg.bare ⟨3, to, fr, c, s, b, v, ob, ov⟩ = ⟨3, to, fr, c, s, b, v, 0, 0⟩ from rfl]
   refine xj (k := 20) rfl ?_
   refine xr rfl (zm rfl ⟨⟨rfl, rfl, rfl, rfl, rfl, rfl, rfl, rfl, rfl, rfl, trivial⟩, z7 rfl⟩)
 · dsimp only at h
   subst h
   rw [show Msg.bare ⟨4, to, fr, c, s, b, v, ob, ov⟩ = ⟨4, to, fr, c, s, b, 0, 0, 0⟩ from rfl]
   refine xj (k := 20) rfl ?_
   refine xr rfl (zm rfl ⟨⟨rfl, rfl, rfl, rfl, rfl, rfl, rfl, rfl, rfl, rfl, trivial⟩, z7 rfl⟩)
 · dsimp only at h
   subst h
   rw [show Msg.bare ⟨5, to, fr, c, s, b, v, ob, ov⟩ = ⟨5, to, fr, c, s, b, 0, ob, ov⟩ from rfl]
   refine xj (k := 20) rfl ?_
   refine xr rfl (zm rfl ⟨⟨rfl, rfl, rfl, rfl, rfl, rfl, rfl, rfl, rfl, rfl, trivial⟩, z7 rfl⟩)
 · dsimp only at h
   subst h
   rw [show Msg.bare ⟨6, to, fr, c, s, b, v, ob, ov⟩ = ⟨6, to, 0, c, 0, 0, v, 0, 0⟩ from rfl]
   refine xj (k := 20) rfl ?_
   refine xr rfl (zm rfl ⟨⟨rfl, rfl, rfl, rfl, rfl, rfl, rfl, rfl, rfl, rfl, trivial⟩, z7 rfl⟩)
theorem q8k (m : Msg) (hk : Go.Sx.within m.k 1 6 = true) : PC Tryz.prog 258 [.agg m.cs] (yb8 m.bare) := by
 refine PC.begin Tryz.func258 rfl (by kernel_rfl) ?_
 obtain ⟨k, to, fr, c, s, b, v, ob, ov⟩ := m
 rcases kinds hk with h | h | h | h | h | h
 · dsimp only at h
   subst h
   rw [show Msg.bare ⟨1, to, fr, c, s, b, v, ob, ov⟩ = ⟨1, to, 0, c, 0, 0, 0, 0, 0⟩ from rfl]
   refine xj (k := 10) rfl ?_
   refine xr rfl (zm rfl ⟨⟨rfl, rfl, rfl, rfl, rfl, rfl, rfl, rfl, rfl, rfl, trivial⟩, z7 rfl⟩)
 · dsimp only at h
   subst h
   rw [show Msg.bare ⟨2, to, fr, c, s, b, v, ob, ov⟩ = ⟨2, to, 0, c, s, b, v, 0, 0⟩ from rfl]
   refine xj (k := 5) rfl (zb rfl [] (.take 0 [] (.take 1 (Rg 4 4) (Tk [2, 4] (.alt 3 (.alt 5 (.take 6 [] (.alt 7 .done .nil)) .nil) (.alt 5 (.take 3 [6, 7] (.take 6 [] (.alt 7 .done .nil))) .nil))))) (by kernel_rfl) ?_)
   refine y0u rfl ?_ ?_
   refine xj (k := 2) rfl ?_
   refine xr rfl (zm rfl ⟨⟨rfl, rfl, rfl, rfl, rfl, rfl, rfl, rfl, rfl, rfl, trivial⟩, z7 rfl⟩)
   refine xj (k := 2) rfl ?_
   refine xr rfl (zm rfl ⟨⟨rfl, rfl, rfl, rfl, rfl, rfl, rfl, rfl, rfl, rfl, trivial⟩, z7 rfl⟩)
 · dsimp only at h
   subst h
   rw [show Msg.bare ⟨3, to, fr, c, s, b, v, ob, ov⟩ = ⟨3, to, fr, c, s, b, v, 0, 0⟩ from rfl]
   refine xj (k := 5) rfl (zb rfl [] (.take 0 [] (.take 1 (Rg 4 4) (Tk [2, 4] (.alt 3 (.alt 5 (.take 6 [] (.alt 7 .done .nil)) .nil) (.alt 5 (.take 3 [6, 7] (.take 6 [] (.alt 7 .done .nil))) .nil))))) (by kernel_rfl) ?_)
   refine y0u rfl ?_ ?_
   refine xj (k := 3) rfl (zb rfl [] (.take 0 [] (.take 1 (Rg 4 4) (Tk [2, 4] (.alt 3 (.alt 5 (.take 6 [] (.alt 7 .done .nil)) .nil) (.alt 5 (.take 3 [6, 7] (.take 6 [] (.alt 7 .done .nil))) .nil))))) (by kernel_rfl) ?_)
   refine y0u rfl ?_ ?_
   refine xr rfl (zm rfl ⟨⟨rfl, rfl, rfl, rfl, rfl, rfl, rfl, rfl, rfl, rfl, trivial⟩, z7 rfl⟩)
   refine xr rfl (zm rfl ⟨⟨rfl, rfl, rfl, rfl, rfl, rfl, rfl, rfl, rfl, rfl, trivial⟩, z7 rfl⟩)
   refine xj (k := 3) rfl (zb rfl [] (.take 0 [] (.take 1 (Rg 4 4) (Tk [2, 4] (.alt 3 (.alt 5 (.take 6 [] (.alt 7 .done .nil)) .nil) (.alt 5 (.take 3 [6, 7] (.take 6 [] (.alt 7 .done .nil))) .nil))))) (by kernel_rfl) ?_)
   refine y0u rfl ?_ ?_
   refine xr rfl (zm rfl ⟨⟨rfl, rfl, rfl, rfl, rfl, rfl, rfl, rfl, rfl, rfl, trivial⟩, z7 rfl⟩)
   refine xr rfl (zm rfl ⟨⟨rfl, rfl, rfl, rfl, rfl, rfl, rfl, rfl, rfl, rfl, trivial⟩, z7 rfl⟩)
 · dsimp only at h
   subst h
   rw [show Msg.bare ⟨4, to, fr, c, s, b, v, ob, ov⟩ = ⟨4, to, fr, c, s, b, 0, 0, 0⟩ from rfl]
   refine xj (k := 5) rfl (zb rfl [] (.take 0 [] (.take 1 (Rg 4 4) (Tk [2, 4] (.alt 3 (.alt 5 (.take 6 [] (.alt 7 .done .nil)) .nil) (.alt 5 (.take 3 [6, 7] (.take 6 [] (.alt 7 .done .nil))) .nil))))) (by kernel_rfl) ?_)
   refine y0u rfl ?_ ?_
   refine xj (k := 4) rfl ?_
   refine xr rfl (zm rfl ⟨⟨rfl, rfl, rfl, rfl, rfl, rfl, rfl, rfl, rfl, rfl, trivial⟩, z7 rfl⟩)
   refine xj (k := 4) rfl ?_
   refine xr rfl (zm rfl ⟨⟨rfl, rfl, rfl, rfl, rfl, rfl, rfl, rfl, rfl, rfl, trivial⟩, z7 rfl⟩)
 · dsimp only at h
   subst h
   rw [show Msg.bare ⟨5, to, fr, c, s, b, v, ob, ov⟩ = ⟨5, to, fr, c, s, b, 0, ob, ov⟩ from rfl]
   refine xj (k := 5) rfl (zb rfl [] (.take 0 [] (.take 1 (Rg 4 4) (Tk [2, 4] (.alt 3 (.alt 5 (.take 6 [] (.alt 7 .done .nil)) .nil) (.alt 5 (.take 3 [6, 7] (.take 6 [] (.alt 7 .done .nil))) .nil))))) (by kernel_rfl) ?_)
   refine y0u rfl ?_ ?_
   refine xj (k := 5) rfl (zb rfl [] (.take 0 [] (.take 1 (Rg 4 4) (Tk [2, 4] (.alt 3 (.alt 5 (.take 6 [] (.alt 7 .done .nil)) .nil) (.alt 5 (.take 3 [6, 7] (.take 6 [] (.alt 7 .done .nil))) .nil))))) (by kernel_rfl) ?_)
   refine y0u rfl ?_ ?_
   refine xr rfl (zm rfl ⟨⟨rfl, rfl, rfl, rfl, rfl, rfl, rfl, rfl, rfl, rfl, trivial⟩, z7 rfl⟩)
   refine xr rfl (zm rfl ⟨⟨rfl, rfl, rfl, rfl, rfl, rfl, rfl, rfl, rfl, rfl, trivial⟩, z7 rfl⟩)
   refine xj (k := 5) rfl (zb rfl [] (.take 0 [] (.take 1 (Rg 4 4) (Tk [2, 4] (.alt 3 (.alt 5 (.take 6 [] (.alt 7 .done .nil)) .nil) (.alt 5 (.take 3 [6, 7] (.take 6 [] (.alt 7 .done .nil))) .nil))))) (by kernel_rfl) ?_)
   refine y0u rfl ?_ ?_
   refine xr rfl (zm rfl ⟨⟨rfl, rfl, rfl, rfl, rfl, rfl, rfl, rfl, rfl, rfl, trivial⟩, z7 rfl⟩)
   refine xr rfl (zm rfl ⟨⟨rfl, rfl, rfl, rfl, rfl, rfl, rfl, rfl, rfl, rfl, trivial⟩, z7 rfl⟩)
 · dsimp only at h
   subst h
   rw [show Msg.bare ⟨6, to, fr, c, s, b, v, ob, ov⟩ = ⟨6, to, 0, c, 0, 0, v, 0, 0⟩ from rfl]
   refine xj (k := 7) rfl ?_
   refine xr rfl (zm rfl ⟨⟨rfl, rfl, rfl, rfl, rfl, rfl, rfl, rfl, rfl, rfl, trivial⟩, z7 rfl⟩)
theorem z1m (c : Clu) (ho : q00 c) (m : Msg) (hk : Go.Sx.within m.k 1 6 = true) : PC Tryz.prog 237 [.one (.p c.cs), .agg m.cs] (rB (ends c m)) := by
 refine PC.begin Tryz.func237 rfl (by kernel_rfl) ?_
 have q1 := ho.2.1.1
 have q2 := ho.2.2.1.1
 have q3 := ho.2.2.2.1.1
 have p1 : (c.shs.map Shd.cs).length ≤ 1048576 := by simpa using q1
 have p2 : (c.accs.map Acc.cs).length ≤ 1048576 := by simpa using q2
 have p3 : (c.ldrs.map Ldr.cs).length ≤ 1048576 := by simpa using q3
 have w1 := wl1 Shd.cs q1
 have w2 := wl1 Acc.cs q2
 have w3 := wl1 Ldr.cs q3
 obtain ⟨k, to, fr, mc, s, b, v, ob, ov⟩ := m
 rcases kinds hk with h | h | h | h | h | h
 · dsimp only at h
   subst h
   refine xj (k := 11) rfl (z6 rfl (zh _ _ _) rfl tv4 ?_)
   refine xb rfl ?_ ?_ <;> intro b0
   refine xj (k := 17) rfl ?_
   refine xv rfl rfl rfl ?_; rotate_left
   refine xj (k := 7) rfl ?_
   refine xv rfl rfl rfl ?_; rotate_left
   all_goals (refine vb ?_; simp_all [ends, toN, frN]; done)
 · dsimp only at h
   subst h
   refine xj (k := 11) rfl (z6 rfl (zh _ _ _) rfl tv4 ?_)
   refine xb rfl ?_ ?_ <;> intro b0
   refine xj (k := 17) rfl ?_
   refine xv rfl rfl rfl ?_; rotate_left
   refine xj (k := 7) rfl ?_
   refine xv rfl rfl rfl ?_; rotate_left
   all_goals (refine vb ?_; simp_all [ends, toN, frN]; done)
 · dsimp only at h
   subst h
   refine xj (k := 11) rfl (z6 rfl (zh _ _ _) rfl tv4 ?_)
   refine xb rfl ?_ ?_ <;> intro b0
   refine xj (k := 14) rfl (z6 rfl (zh _ _ _) rfl tv4 (xj (k := 3) rfl ?_))
   refine xv rfl rfl rfl ?_; rotate_left
   refine xj (k := 7) rfl ?_
   refine xv rfl rfl rfl ?_; rotate_left
   all_goals (refine vb ?_; simp_all [ends, toN, frN]; done)
 · dsimp only at h
   subst h
   refine xj (k := 11) rfl (z6 rfl (zh _ _ _) rfl tv4 ?_)
   refine xb rfl ?_ ?_ <;> intro b0
   refine xj (k := 14) rfl (z6 rfl (zh _ _ _) rfl tv4 (xj (k := 3) rfl ?_))
   refine xv rfl rfl rfl ?_; rotate_left
   refine xj (k := 7) rfl ?_
   refine xv rfl rfl rfl ?_; rotate_left
   all_goals (refine vb ?_; simp_all [ends, toN, frN]; done)
 · dsimp only at h
   subst h
   refine xj (k := 11) rfl (z6 rfl (zh _ _ _) rfl tv4 ?_)
   refine xb rfl ?_ ?_ <;> intro b0
   refine xj (k := 14) rfl (z6 rfl (zh _ _ _) rfl tv4 (xj (k := 3) rfl ?_))
   refine xv rfl rfl rfl ?_; rotate_left
   refine xj (k := 7) rfl ?_
   refine xv rfl rfl rfl ?_; rotate_left
   all_goals (refine vb ?_; simp_all [ends, toN, frN]; done)
 · dsimp only at h
   subst h
   refine xj (k := 11) rfl (z6 rfl (zh _ _ _) rfl tv4 ?_)
   refine xb rfl ?_ ?_ <;> intro b0
   refine xj (k := 17) rfl ?_
   refine xv rfl rfl rfl ?_; rotate_left
   refine xj (k := 7) rfl ?_
   refine xv rfl rfl rfl ?_; rotate_left
   all_goals (refine vb ?_; simp_all [ends, toN, frN]; done)
theorem q9k (c : Clu) (ho : q00 c) (m : Msg) (hk : Go.Sx.within m.k 1 6 = true) : PC Tryz.prog 255 [.one (.p c.cs), .agg m.cs] (rB (within m.to 0 ((toN c m : Int) - 1))) := by
 refine PC.begin Tryz.func255 rfl (by kernel_rfl) ?_
 have q1 := ho.2.1.1
 have q2 := ho.2.2.1.1
 have q3 := ho.2.2.2.1.1
 have p1 : (c.shs.map Shd.cs).length ≤ 1048576 := by simpa using q1
 have p2 : (c.accs.map Acc.cs).length ≤ 1048576 := by simpa using q2
 have p3 : (c.ldrs.map Ldr.cs).length ≤ 1048576 := by simpa using q3
 have w1 := wl1 Shd.cs q1
 have w2 := wl1 Acc.cs q2
 have w3 := wl1 Ldr.cs q3
 obtain ⟨k, to, fr, mc, s, b, v, ob, ov⟩ := m
 rcases kinds hk with h | h | h | h | h | h
 · dsimp only at h
   subst h
   refine xj (k := 2) rfl (zb rfl [] (.take 0 [] (.take 1 [6, 7] (Tk [2, 3, 4] (.take 5 [6, 7] (.alt 6 (.take 7 [] .done) .nil))))) (by kernel_rfl) (z6 rfl (q2c _ _ (by assumption)) rfl tv3 (xv rfl rfl rfl ?_)))
   all_goals (refine vb ?_; simp_all [toN]; done)
 · dsimp only at h
   subst h
   refine xj (k := 4) rfl (zb rfl [] (.take 0 [] (.take 1 [6, 7] (Tk [2, 3, 4] (.take 5 [6, 7] (.alt 6 (.take 7 [] .done) .nil))))) (by kernel_rfl) (z6 rfl (q0f _ _ (by assumption)) rfl tv3 (xv rfl rfl rfl ?_)))
   all_goals (refine vb ?_; simp_all [toN]; done)
 · dsimp only at h
   subst h
   refine xj (k := 4) rfl (zb rfl [] (.take 0 [] (.take 1 [6, 7] (Tk [2, 3, 4] (.take 5 [6, 7] (.alt 6 (.take 7 [] .done) .nil))))) (by kernel_rfl) (z6 rfl (y2c _ _ (by assumption)) rfl tv3 (xv rfl rfl rfl ?_)))
   all_goals (refine vb ?_; simp_all [toN]; done)
 · dsimp only at h
   subst h
   refine xj (k := 4) rfl (zb rfl [] (.take 0 [] (.take 1 [6, 7] (Tk [2, 3, 4] (.take 5 [6, 7] (.alt 6 (.take 7 [] .done) .nil))))) (by kernel_rfl) (z6 rfl (q0f _ _ (by assumption)) rfl tv3 (xv rfl rfl rfl ?_)))
   all_goals (refine vb ?_; simp_all [toN]; done)
 · dsimp only at h
   subst h
   refine xj (k := 4) rfl (zb rfl [] (.take 0 [] (.take 1 [6, 7] (Tk [2, 3, 4] (.take 5 [6, 7] (.alt 6 (.take 7 [] .done) .nil))))) (by kernel_rfl) (z6 rfl (y2c _ _ (by assumption)) rfl tv3 (xv rfl rfl rfl ?_)))
   all_goals (refine vb ?_; simp_all [toN]; done)
 · dsimp only at h
   subst h
   refine xj (k := 2) rfl (zb rfl [] (.take 0 [] (.take 1 [6, 7] (Tk [2, 3, 4] (.take 5 [6, 7] (.alt 6 (.take 7 [] .done) .nil))))) (by kernel_rfl) (z6 rfl (q2c _ _ (by assumption)) rfl tv3 (xv rfl rfl rfl ?_)))
   all_goals (refine vb ?_; simp_all [toN]; done)
theorem q7e (c : Clu) (ho : q00 c) (m : Msg) (hk : Go.Sx.within m.k 1 6 = true) : PC Tryz.prog 256 [.one (.p c.cs), .agg m.cs] (rB (decide (m.k < 3) || decide (5 < m.k) || within m.fr 0 ((frN c m : Int) - 1))) := by
 refine PC.begin Tryz.func256 rfl (by kernel_rfl) ?_
 have q1 := ho.2.1.1
 have q2 := ho.2.2.1.1
 have q3 := ho.2.2.2.1.1
 have p1 : (c.shs.map Shd.cs).length ≤ 1048576 := by simpa using q1
 have p2 : (c.accs.map Acc.cs).length ≤ 1048576 := by simpa using q2
 have p3 : (c.ldrs.map Ldr.cs).length ≤ 1048576 := by simpa using q3
 have w1 := wl1 Shd.cs q1
 have w2 := wl1 Acc.cs q2
 have w3 := wl1 Ldr.cs q3
 obtain ⟨k, to, fr, mc, s, b, v, ob, ov⟩ := m
 rcases kinds hk with h | h | h | h | h | h
 · dsimp only at h
   subst h
   refine xj (k := 3) rfl ?_
   refine xr rfl (zm rfl ⟨⟨rfl, rfl, trivial⟩, z7 rfl⟩)
   all_goals (refine vb ?_; simp_all [frN]; done)
 · dsimp only at h
   subst h
   refine xj (k := 3) rfl ?_
   refine xr rfl (zm rfl ⟨⟨rfl, rfl, trivial⟩, z7 rfl⟩)
   all_goals (refine vb ?_; simp_all [frN]; done)
 · dsimp only at h
   subst h
   refine xj (k := 3) rfl (zb rfl [] (.take 0 [] (.take 1 [6, 7] (Tk [2, 3, 4] (.take 5 [6, 7] (.alt 6 (.take 7 [] .done) .nil))))) (by kernel_rfl) (z6 rfl (q0f _ _ (by assumption)) rfl tv3 (xv rfl rfl rfl ?_)))
   all_goals (refine vb ?_; simp_all [frN]; done)
 · dsimp only at h
   subst h
   refine xj (k := 1) rfl (zb rfl [] (.take 0 [] (.take 1 [6, 7] (Tk [2, 3, 4] (.take 5 [6, 7] (.alt 6 (.take 7 [] .done) .nil))))) (by kernel_rfl) (z6 rfl (y2c _ _ (by assumption)) rfl tv3 (xv rfl rfl rfl ?_)))
   all_goals (refine vb ?_; simp_all [frN]; done)
 · dsimp only at h
   subst h
   refine xj (k := 3) rfl (zb rfl [] (.take 0 [] (.take 1 [6, 7] (Tk [2, 3, 4] (.take 5 [6, 7] (.alt 6 (.take 7 [] .done) .nil))))) (by kernel_rfl) (z6 rfl (q0f _ _ (by assumption)) rfl tv3 (xv rfl rfl rfl ?_)))
   all_goals (refine vb ?_; simp_all [frN]; done)
 · dsimp only at h
   subst h
   refine xj (k := 3) rfl ?_
   refine xr rfl (zm rfl ⟨⟨rfl, rfl, trivial⟩, z7 rfl⟩)
   all_goals (refine vb ?_; simp_all [frN]; done)
theorem z5n (c : Clu) (ho : q00 c) (m : Msg) (hk : Go.Sx.within m.k 1 6 = true) : PC Tryz.prog 257 [.one (.p c.cs), .agg m.cs] (rB (ranges c m)) := by
 refine PC.begin Tryz.func257 rfl (by kernel_rfl) ?_
 have q1 := ho.2.1.1
 have q2 := ho.2.2.1.1
 have q3 := ho.2.2.2.1.1
 have p1 : (c.shs.map Shd.cs).length ≤ 1048576 := by simpa using q1
 have p2 : (c.accs.map Acc.cs).length ≤ 1048576 := by simpa using q2
 have p3 : (c.ldrs.map Ldr.cs).length ≤ 1048576 := by simpa using q3
 have w1 := wl1 Shd.cs q1
 have w2 := wl1 Acc.cs q2
 have w3 := wl1 Ldr.cs q3
 obtain ⟨k, to, fr, mc, s, b, v, ob, ov⟩ := m
 rcases kinds hk with h | h | h | h | h | h
 · dsimp only at h
   subst h
   refine xj (k := 1) rfl (z6 rfl (y18 _ (by assumption) _ _) rfl tv4 (xv rfl rfl rfl ?_))
   all_goals (refine vb ?_; simp_all [ranges, Msg.shd, y1z, Vt.none]; done)
 · dsimp only at h
   subst h
   refine xj (k := 2) rfl (z6 rfl (y18 _ (by assumption) _ _) rfl tv4 ?_)
   refine xb rfl ?_ ?_ <;> intro b0
   refine xj (k := 5) rfl ?_
   refine xv rfl rfl rfl ?_; rotate_left
   refine xj (k := 2) rfl (z6 rfl (q07 _) rfl ⟨trivial, trivial⟩ (xj (k := 2) rfl ?_))
   refine xb rfl ?_ ?_ <;> intro b1
   refine xv rfl rfl rfl ?_; rotate_left
   refine xj (k := 2) rfl (z6 rfl (z0o _) rfl ⟨trivial, trivial⟩ ?_)
   refine xv rfl rfl rfl ?_; rotate_left
   all_goals (refine vb ?_; simp_all [ranges, Msg.shd, y1z, Vt.none]; done)
 · dsimp only at h
   subst h
   refine xj (k := 2) rfl (z6 rfl (y18 _ (by assumption) _ _) rfl tv4 ?_)
   refine xb rfl ?_ ?_ <;> intro b0
   refine xj (k := 5) rfl ?_
   refine xv rfl rfl rfl ?_; rotate_left
   refine xj (k := 2) rfl (z6 rfl (q07 _) rfl ⟨trivial, trivial⟩ (xj (k := 2) rfl ?_))
   refine xb rfl ?_ ?_ <;> intro b1
   refine xv rfl rfl rfl ?_; rotate_left
   refine xj (k := 2) rfl (z6 rfl (z0o _) rfl ⟨trivial, trivial⟩ ?_)
   refine xv rfl rfl rfl ?_; rotate_left
   all_goals (refine vb ?_; simp_all [ranges, Msg.shd, y1z, Vt.none]; done)
 · dsimp only at h
   subst h
   refine xj (k := 2) rfl (z6 rfl (y18 _ (by assumption) _ _) rfl tv4 ?_)
   refine xb rfl ?_ ?_ <;> intro b0
   refine xj (k := 5) rfl ?_
   refine xv rfl rfl rfl ?_; rotate_left
   refine xj (k := 2) rfl (z6 rfl (q07 _) rfl ⟨trivial, trivial⟩ (xj (k := 2) rfl ?_))
   refine xb rfl ?_ ?_ <;> intro b1
   refine xv rfl rfl rfl ?_; rotate_left
   refine xj (k := 3) rfl ?_
   refine xv rfl rfl rfl ?_; rotate_left
   all_goals (refine vb ?_; simp_all [ranges, Msg.shd, y1z, Vt.none]; done)
 · dsimp only at h
   subst h
   refine xj (k := 2) rfl (z6 rfl (y18 _ (by assumption) _ _) rfl tv4 ?_)
   refine xb rfl ?_ ?_ <;> intro b0
   refine xj (k := 5) rfl ?_
   refine xv rfl rfl rfl ?_; rotate_left
   refine xj (k := 2) rfl (z6 rfl (q07 _) rfl ⟨trivial, trivial⟩ (xj (k := 2) rfl ?_))
   refine xb rfl ?_ ?_ <;> intro b1
   refine xv rfl rfl rfl ?_; rotate_left
   refine xj (k := 3) rfl (zb rfl [] (.take 0 [] (.take 1 (Rg 3 7) (.alt 2 (Tk [3, 4, 5] (.take 6 (Rg 7 3) (.alt 7 (Tk [8, 9] .done) .nil))) .nil))) (by kernel_rfl) (z6 rfl (q32) rfl trivial ?_))
   refine xb rfl ?_ ?_ <;> intro b2
   refine xj (k := 3) rfl ?_
   refine xv rfl rfl rfl ?_; rotate_left
   refine xj (k := 2) rfl (z6 rfl (z21 ⟨ob, ov⟩) rfl ⟨tv3, trivial⟩ (xj (k := 1) rfl ?_))
   refine xv rfl rfl rfl ?_; rotate_left
   all_goals (refine vb ?_; simp_all [ranges, Msg.shd, y1z, Vt.none]; done)
 · dsimp only at h
   subst h
   refine xj (k := 2) rfl (z6 rfl (y18 _ (by assumption) _ _) rfl tv4 ?_)
   refine xb rfl ?_ ?_ <;> intro b0
   refine xj (k := 2) rfl (z6 rfl (q2i _) rfl ⟨trivial, trivial⟩ (xj (k := 1) rfl ?_))
   refine xv rfl rfl rfl ?_; rotate_left
   refine xj (k := 3) rfl ?_
   refine xv rfl rfl rfl ?_; rotate_left
   all_goals (refine vb ?_; simp_all [ranges, Msg.shd, y1z, Vt.none]; done)
theorem q5f (m n : Msg) : y1b [.int .i64 m.k, .int .i64 m.to, .int .i64 m.fr, .int .i64 m.c, .int .i64 m.s, .int .i64 m.b, .int .i64 m.v, .int .i64 m.ob, .int .i64 m.ov] [.int .i64 n.k, .int .i64 n.to, .int .i64 n.fr, .int .i64 n.c, .int .i64 n.s, .int .i64 n.b, .int .i64 n.v, .int .i64 n.ob, .int .i64 n.ov] = m.same n := by simp [y1b, Msg.same, Bool.and_assoc]
theorem q6i (a b : Int) : y1b [.int .i64 a, .int .i64 b] [.int .i64 Vt.none.b, .int .i64 Vt.none.v] = (a == -1 && b == 0) := by simp [y1b, Vt.none]
theorem y4v (c : Clu) (m : Msg) (hk : Go.Sx.within m.k 1 6 = true) {e i r z : Bool} (h1 : ends c m = e) (h2 : (z03 c.cons m.c).isNone = i) (h3 : ranges c m = r) (h4 : m.same m.bare = z) : y0i c m = (if e then (if i then 4 else if r then (if z then 0 else 1) else 3) else 3) := by
 unfold y0i
 rw [hk, h1, h2, h3, h4]
 cases e <;> cases i <;> cases r <;> cases z <;> rfl
theorem q9u (c : Clu) (ho : q00 c) (m : Msg) : PC Tryz.prog 135 [.one (.p c.cs), .agg m.cs] (rI (y0i c m)) := by
 refine PC.begin Tryz.func135 rfl (by kernel_rfl) ?_
 by_cases hk : Go.Sx.within m.k 1 6 = true
 · have hf := y0g c m.c ho.1.1
   obtain ⟨k, to, fr, mc, s, b, v, ob, ov⟩ := m
   dsimp only at hf
   rcases kinds hk with h | h | h | h | h | h
   · dsimp only at h
     subst h
     have hE := z1m c ho ⟨1, to, fr, mc, s, b, v, ob, ov⟩ hk
     have hR : ranges c ⟨1, to, fr, mc, s, b, v, ob, ov⟩ = z12 c.cons mc to := by simp [ranges, Msg.shd]
     refine z6 rfl (zh _ _ _) rfl tv4 (xj (k := 1) rfl (z6 rfl (hE) rfl ⟨trivial, tv10, trivial⟩ ?_))
     refine xb rfl ?_ ?_ <;> intro b0
     refine xv rfl rfl rfl ?_; rotate_left
     refine z6 rfl (hf) rfl tv3 ?_
     refine xb rfl ?_ ?_ <;> intro b1
     refine xv rfl rfl rfl ?_; rotate_left
     refine xj (k := 5) rfl (z6 rfl (yw _ (by assumption) _ _) rfl tv4 ?_)
     refine xb rfl ?_ ?_ <;> intro b2
     refine xv rfl rfl rfl ?_; rotate_left
     refine xj (k := 24) rfl (zb rfl [] (.take 0 [] (.take 1 (Rg 2 13) (Tk [2, 3, 4] (.take 5 (Rg 7 8) (.alt 6 (Tk (Rg 7 4) (.take 11 (Rg 12 3) (.alt 12 (Tk [13, 14] .done) .nil))) .nil))))) (by kernel_rfl) (xj (k := 11) rfl (zb rfl [] (.take 0 [3] (.take 1 [2, 3] (.alt 2 (.take 3 [] .done) .nil))) (by kernel_rfl) (z6 rfl (z0g ⟨1, to, fr, mc, s, b, v, ob, ov⟩ hk) rfl ⟨tv10, trivial⟩ ?_))))
     refine xb rfl ?_ ?_ <;> intro b3
     refine xv rfl rfl rfl ?_; rotate_left
     refine xv rfl rfl rfl ?_; rotate_left
     all_goals
      refine vi ?_
      have hI : decide (q1a (fun x : Con => x.id == mc) c.cons < 0) = (z03 c.cons mc).isNone := z0e
      rw [y4v c ⟨1, to, fr, mc, s, b, v, ob, ov⟩ hk rfl hI.symm hR (q5f ⟨1, to, fr, mc, s, b, v, ob, ov⟩ (Msg.bare ⟨1, to, fr, mc, s, b, v, ob, ov⟩)).symm]
      have hN := q6i ob ov
      clear hI hR hE hf hk ho
      ((try dsimp only at *); simp_all only [Bool.not_eq_true', Bool.not_eq_false', Bool.not_true, Bool.not_false, Bool.and_true, Bool.true_and, Bool.and_false, Bool.false_and, Bool.and_self, Bool.or_true, Bool.true_or, Bool.or_false, Bool.false_or, Bool.false_eq_true, if_true, if_false, reduceIte]; done)
   · dsimp only at h
     subst h
     have hE := z1m c ho ⟨2, to, fr, mc, s, b, v, ob, ov⟩ hk
     have hR : ranges c ⟨2, to, fr, mc, s, b, v, ob, ov⟩ = (z12 c.cons mc s && Go.Sx.within b 0 1000 && Go.Sx.within v 1 2) := by simp [ranges, Msg.shd]
     refine z6 rfl (zh _ _ _) rfl tv4 (xj (k := 1) rfl (z6 rfl (hE) rfl ⟨trivial, tv10, trivial⟩ ?_))
     refine xb rfl ?_ ?_ <;> intro b0
     refine xv rfl rfl rfl ?_; rotate_left
     refine z6 rfl (hf) rfl tv3 ?_
     refine xb rfl ?_ ?_ <;> intro b1
     refine xv rfl rfl rfl ?_; rotate_left
     refine xj (k := 5) rfl (z6 rfl (yw _ (by assumption) _ _) rfl tv4 ?_)
     refine xb rfl ?_ ?_ <;> intro b2
     refine xv rfl rfl rfl ?_; rotate_left
     refine xj (k := 7) rfl (z6 rfl (qz _) rfl ⟨trivial, trivial⟩ (xj (k := 2) rfl ?_))
     refine xb rfl ?_ ?_ <;> intro b3
     refine xv rfl rfl rfl ?_; rotate_left
     refine xj (k := 11) rfl (z6 rfl (y09 _) rfl ⟨trivial, trivial⟩ (xj (k := 2) rfl ?_))
     refine xb rfl ?_ ?_ <;> intro b4
     refine xv rfl rfl rfl ?_; rotate_left
     refine zb rfl [] (.take 0 [] (.take 1 (Rg 2 13) (Tk [2, 3, 4] (.take 5 (Rg 7 8) (.alt 6 (Tk (Rg 7 4) (.take 11 (Rg 12 3) (.alt 12 (Tk [13, 14] .done) .nil))) .nil))))) (by kernel_rfl) (xj (k := 11) rfl (zb rfl [] (.take 0 [3] (.take 1 [2, 3] (.alt 2 (.take 3 [] .done) .nil))) (by kernel_rfl) (z6 rfl (z0g ⟨2, to, fr, mc, s, b, v, ob, ov⟩ hk) rfl ⟨tv10, trivial⟩ ?_)))
     refine xb rfl ?_ ?_ <;> intro b5
     refine xv rfl rfl rfl ?_; rotate_left
     refine xv rfl rfl rfl ?_; rotate_left
     all_goals
      refine vi ?_
      have hI : decide (q1a (fun x : Con => x.id == mc) c.cons < 0) = (z03 c.cons mc).isNone := z0e
      rw [y4v c ⟨2, to, fr, mc, s, b, v, ob, ov⟩ hk rfl hI.symm hR (q5f ⟨2, to, fr, mc, s, b, v, ob, ov⟩ (Msg.bare ⟨2, to, fr, mc, s, b, v, ob, ov⟩)).symm]
      have hN := q6i ob ov
      clear hI hR hE hf hk ho
      ((try dsimp only at *); simp_all only [Bool.not_eq_true', Bool.not_eq_false', Bool.not_true, Bool.not_false, Bool.and_true, Bool.true_and, Bool.and_false, Bool.false_and, Bool.and_self, Bool.or_true, Bool.true_or, Bool.or_false, Bool.false_or, Bool.false_eq_true, if_true, if_false, reduceIte]; done)
   · dsimp only at h
     subst h
     have hE := z1m c ho ⟨3, to, fr, mc, s, b, v, ob, ov⟩ hk
     have hR : ranges c ⟨3, to, fr, mc, s, b, v, ob, ov⟩ = (z12 c.cons mc s && Go.Sx.within b 0 1000 && Go.Sx.within v 1 2) := by simp [ranges, Msg.shd]
     refine z6 rfl (zh _ _ _) rfl tv4 (xj (k := 1) rfl (z6 rfl (hE) rfl ⟨trivial, tv10, trivial⟩ ?_))
     refine xb rfl ?_ ?_ <;> intro b0
     refine xv rfl rfl rfl ?_; rotate_left
     refine z6 rfl (hf) rfl tv3 ?_
     refine xb rfl ?_ ?_ <;> intro b1
     refine xv rfl rfl rfl ?_; rotate_left
     refine xj (k := 5) rfl (z6 rfl (yw _ (by assumption) _ _) rfl tv4 ?_)
     refine xb rfl ?_ ?_ <;> intro b2
     refine xv rfl rfl rfl ?_; rotate_left
     refine xj (k := 7) rfl (z6 rfl (qz _) rfl ⟨trivial, trivial⟩ (xj (k := 2) rfl ?_))
     refine xb rfl ?_ ?_ <;> intro b3
     refine xv rfl rfl rfl ?_; rotate_left
     refine xj (k := 11) rfl (z6 rfl (y09 _) rfl ⟨trivial, trivial⟩ (xj (k := 2) rfl ?_))
     refine xb rfl ?_ ?_ <;> intro b4
     refine xv rfl rfl rfl ?_; rotate_left
     refine zb rfl [] (.take 0 [] (.take 1 (Rg 2 13) (Tk [2, 3, 4] (.take 5 (Rg 7 8) (.alt 6 (Tk (Rg 7 4) (.take 11 (Rg 12 3) (.alt 12 (Tk [13, 14] .done) .nil))) .nil))))) (by kernel_rfl) (xj (k := 11) rfl (zb rfl [] (.take 0 [3] (.take 1 [2, 3] (.alt 2 (.take 3 [] .done) .nil))) (by kernel_rfl) (z6 rfl (z0g ⟨3, to, fr, mc, s, b, v, ob, ov⟩ hk) rfl ⟨tv10, trivial⟩ ?_)))
     refine xb rfl ?_ ?_ <;> intro b5
     refine xv rfl rfl rfl ?_; rotate_left
     refine xv rfl rfl rfl ?_; rotate_left
     all_goals
      refine vi ?_
      have hI : decide (q1a (fun x : Con => x.id == mc) c.cons < 0) = (z03 c.cons mc).isNone := z0e
      rw [y4v c ⟨3, to, fr, mc, s, b, v, ob, ov⟩ hk rfl hI.symm hR (q5f ⟨3, to, fr, mc, s, b, v, ob, ov⟩ (Msg.bare ⟨3, to, fr, mc, s, b, v, ob, ov⟩)).symm]
      have hN := q6i ob ov
      clear hI hR hE hf hk ho
      ((try dsimp only at *); simp_all only [Bool.not_eq_true', Bool.not_eq_false', Bool.not_true, Bool.not_false, Bool.and_true, Bool.true_and, Bool.and_false, Bool.false_and, Bool.and_self, Bool.or_true, Bool.true_or, Bool.or_false, Bool.false_or, Bool.false_eq_true, if_true, if_false, reduceIte]; done)
   · dsimp only at h
     subst h
     have hE := z1m c ho ⟨4, to, fr, mc, s, b, v, ob, ov⟩ hk
     have hR : ranges c ⟨4, to, fr, mc, s, b, v, ob, ov⟩ = (z12 c.cons mc s && Go.Sx.within b 0 1000) := by simp [ranges, Msg.shd]
     refine z6 rfl (zh _ _ _) rfl tv4 (xj (k := 1) rfl (z6 rfl (hE) rfl ⟨trivial, tv10, trivial⟩ ?_))
     refine xb rfl ?_ ?_ <;> intro b0
     refine xv rfl rfl rfl ?_; rotate_left
     refine z6 rfl (hf) rfl tv3 ?_
     refine xb rfl ?_ ?_ <;> intro b1
     refine xv rfl rfl rfl ?_; rotate_left
     refine xj (k := 5) rfl (z6 rfl (yw _ (by assumption) _ _) rfl tv4 ?_)
     refine xb rfl ?_ ?_ <;> intro b2
     refine xv rfl rfl rfl ?_; rotate_left
     refine xj (k := 7) rfl (z6 rfl (qz _) rfl ⟨trivial, trivial⟩ (xj (k := 2) rfl ?_))
     refine xb rfl ?_ ?_ <;> intro b3
     refine xv rfl rfl rfl ?_; rotate_left
     refine xj (k := 14) rfl (zb rfl [] (.take 0 [] (.take 1 (Rg 2 13) (Tk [2, 3, 4] (.take 5 (Rg 7 8) (.alt 6 (Tk (Rg 7 4) (.take 11 (Rg 12 3) (.alt 12 (Tk [13, 14] .done) .nil))) .nil))))) (by kernel_rfl) (xj (k := 11) rfl (zb rfl [] (.take 0 [3] (.take 1 [2, 3] (.alt 2 (.take 3 [] .done) .nil))) (by kernel_rfl) (z6 rfl (z0g ⟨4, to, fr, mc, s, b, v, ob, ov⟩ hk) rfl ⟨tv10, trivial⟩ ?_))))
     refine xb rfl ?_ ?_ <;> intro b4
     refine xv rfl rfl rfl ?_; rotate_left
     refine xv rfl rfl rfl ?_; rotate_left
     all_goals
      refine vi ?_
      have hI : decide (q1a (fun x : Con => x.id == mc) c.cons < 0) = (z03 c.cons mc).isNone := z0e
      rw [y4v c ⟨4, to, fr, mc, s, b, v, ob, ov⟩ hk rfl hI.symm hR (q5f ⟨4, to, fr, mc, s, b, v, ob, ov⟩ (Msg.bare ⟨4, to, fr, mc, s, b, v, ob, ov⟩)).symm]
      have hN := q6i ob ov
      clear hI hR hE hf hk ho
      ((try dsimp only at *); simp_all only [Bool.not_eq_true', Bool.not_eq_false', Bool.not_true, Bool.not_false, Bool.and_true, Bool.true_and, Bool.and_false, Bool.false_and, Bool.and_self, Bool.or_true, Bool.true_or, Bool.or_false, Bool.false_or, Bool.false_eq_true, if_true, if_false, reduceIte]; done)
   · dsimp only at h
     subst h
     have hE := z1m c ho ⟨5, to, fr, mc, s, b, v, ob, ov⟩ hk
     have hR : ranges c ⟨5, to, fr, mc, s, b, v, ob, ov⟩ = (z12 c.cons mc s && Go.Sx.within b 0 1000 && ((ob == -1 && ov == 0) || Vt.ok ⟨ob, ov⟩)) := by simp [ranges, Msg.shd]
     refine z6 rfl (zh _ _ _) rfl tv4 (xj (k := 1) rfl (z6 rfl (hE) rfl ⟨trivial, tv10, trivial⟩ ?_))
     refine xb rfl ?_ ?_ <;> intro b0
     refine xv rfl rfl rfl ?_; rotate_left
     refine z6 rfl (hf) rfl tv3 ?_
     refine xb rfl ?_ ?_ <;> intro b1
     refine xv rfl rfl rfl ?_; rotate_left
     refine xj (k := 5) rfl (z6 rfl (yw _ (by assumption) _ _) rfl tv4 ?_)
     refine xb rfl ?_ ?_ <;> intro b2
     refine xv rfl rfl rfl ?_; rotate_left
     refine xj (k := 7) rfl (z6 rfl (qz _) rfl ⟨trivial, trivial⟩ (xj (k := 2) rfl ?_))
     refine xb rfl ?_ ?_ <;> intro b3
     refine xv rfl rfl rfl ?_; rotate_left
     refine xj (k := 14) rfl (zb rfl [] (.take 0 [] (.take 1 (Rg 2 13) (Tk [2, 3, 4] (.take 5 (Rg 7 8) (.alt 6 (Tk (Rg 7 4) (.take 11 (Rg 12 3) (.alt 12 (Tk [13, 14] .done) .nil))) .nil))))) (by kernel_rfl) (xj (k := 3) rfl (z6 rfl (y21) rfl trivial (xj (k := 2) rfl ?_))))
     refine xb rfl ?_ ?_ <;> intro b4
     refine xj (k := 2) rfl (z6 rfl (y1u ⟨ob, ov⟩) rfl ⟨tv3, trivial⟩ (xj (k := 2) rfl ?_))
     refine xb rfl ?_ ?_ <;> intro b5
     refine xv rfl rfl rfl ?_; rotate_left
     refine zb rfl [] (.take 0 [3] (.take 1 [2, 3] (.alt 2 (.take 3 [] .done) .nil))) (by kernel_rfl) (z6 rfl (z0g ⟨5, to, fr, mc, s, b, v, ob, ov⟩ hk) rfl ⟨tv10, trivial⟩ ?_)
     refine xb rfl ?_ ?_ <;> intro b6
     refine xv rfl rfl rfl ?_; rotate_left
     refine xv rfl rfl rfl ?_; rotate_left
     refine xj (k := 5) rfl (zb rfl [] (.take 0 [3] (.take 1 [2, 3] (.alt 2 (.take 3 [] .done) .nil))) (by kernel_rfl) (z6 rfl (z0g ⟨5, to, fr, mc, s, b, v, ob, ov⟩ hk) rfl ⟨tv10, trivial⟩ ?_))
     refine xb rfl ?_ ?_ <;> intro b5
     refine xv rfl rfl rfl ?_; rotate_left
     refine xv rfl rfl rfl ?_; rotate_left
     all_goals
      refine vi ?_
      have hI : decide (q1a (fun x : Con => x.id == mc) c.cons < 0) = (z03 c.cons mc).isNone := z0e
      rw [y4v c ⟨5, to, fr, mc, s, b, v, ob, ov⟩ hk rfl hI.symm hR (q5f ⟨5, to, fr, mc, s, b, v, ob, ov⟩ (Msg.bare ⟨5, to, fr, mc, s, b, v, ob, ov⟩)).symm]
      have hN := q6i ob ov
      clear hI hR hE hf hk ho
      ((try dsimp only at *); simp_all only [Bool.not_eq_true', Bool.not_eq_false', Bool.not_true, Bool.not_false, Bool.and_true, Bool.true_and, Bool.and_false, Bool.false_and, Bool.and_self, Bool.or_true, Bool.true_or, Bool.or_false, Bool.false_or, Bool.false_eq_true, if_true, if_false, reduceIte]; done)
   · dsimp only at h
     subst h
     have hE := z1m c ho ⟨6, to, fr, mc, s, b, v, ob, ov⟩ hk
     have hR : ranges c ⟨6, to, fr, mc, s, b, v, ob, ov⟩ = (z12 c.cons mc to && Go.Sx.within v 1 2) := by simp [ranges, Msg.shd]
     refine z6 rfl (zh _ _ _) rfl tv4 (xj (k := 1) rfl (z6 rfl (hE) rfl ⟨trivial, tv10, trivial⟩ ?_))
     refine xb rfl ?_ ?_ <;> intro b0
     refine xv rfl rfl rfl ?_; rotate_left
     refine z6 rfl (hf) rfl tv3 ?_
     refine xb rfl ?_ ?_ <;> intro b1
     refine xv rfl rfl rfl ?_; rotate_left
     refine xj (k := 5) rfl (z6 rfl (yw _ (by assumption) _ _) rfl tv4 ?_)
     refine xb rfl ?_ ?_ <;> intro b2
     refine xv rfl rfl rfl ?_; rotate_left
     refine xj (k := 21) rfl (z6 rfl (y09 _) rfl ⟨trivial, trivial⟩ (xj (k := 2) rfl ?_))
     refine xb rfl ?_ ?_ <;> intro b3
     refine xv rfl rfl rfl ?_; rotate_left
     refine zb rfl [] (.take 0 [] (.take 1 (Rg 2 13) (Tk [2, 3, 4] (.take 5 (Rg 7 8) (.alt 6 (Tk (Rg 7 4) (.take 11 (Rg 12 3) (.alt 12 (Tk [13, 14] .done) .nil))) .nil))))) (by kernel_rfl) (xj (k := 11) rfl (zb rfl [] (.take 0 [3] (.take 1 [2, 3] (.alt 2 (.take 3 [] .done) .nil))) (by kernel_rfl) (z6 rfl (z0g ⟨6, to, fr, mc, s, b, v, ob, ov⟩ hk) rfl ⟨tv10, trivial⟩ ?_)))
     refine xb rfl ?_ ?_ <;> intro b4
     refine xv rfl rfl rfl ?_; rotate_left
     refine xv rfl rfl rfl ?_; rotate_left
     all_goals
      refine vi ?_
      have hI : decide (q1a (fun x : Con => x.id == mc) c.cons < 0) = (z03 c.cons mc).isNone := z0e
      rw [y4v c ⟨6, to, fr, mc, s, b, v, ob, ov⟩ hk rfl hI.symm hR (q5f ⟨6, to, fr, mc, s, b, v, ob, ov⟩ (Msg.bare ⟨6, to, fr, mc, s, b, v, ob, ov⟩)).symm]
      have hN := q6i ob ov
      clear hI hR hE hf hk ho
      ((try dsimp only at *); simp_all only [Bool.not_eq_true', Bool.not_eq_false', Bool.not_true, Bool.not_false, Bool.and_true, Bool.true_and, Bool.and_false, Bool.false_and, Bool.and_self, Bool.or_true, Bool.true_or, Bool.or_false, Bool.false_or, Bool.false_eq_true, if_true, if_false, reduceIte]; done)
 · have hk : Go.Sx.within m.k 1 6 = false := by simpa using hk
   refine z6 rfl (zh _ _ _) rfl tv4 ?_
   refine xb rfl ?_ ?_ <;> intro b0
   refine xv rfl rfl rfl ?_; rotate_left
   exact absurd b0 (by simp; omega)
   all_goals first
    | (refine vi ?_; unfold y0i; rw [hk]; rfl)
    | (exfalso; simp_all; done)
theorem q9g (c : Clu) (ho : q00 c) (m : Msg) : PC Tryz.prog 151 [.agg c.cs, .agg m.cs] (rI (y0i c m)) := by
 refine PC.begin Tryz.func151 rfl (by kernel_rfl) ?_
 by_cases hk : Go.Sx.within m.k 1 6 = true
 · have hT := q9k c ho m hk
   have hF := q7e c ho m hk
   have hR := z5n c ho m hk
   have hP := q8k m hk
   refine yaj (n := 0) rfl (ι := Unit) (fun _ => True) (fun _ => ⟨[(2, .one (.b (.p c.cs))), (3, .one (.a 3 0))], [(3, .var (m.cs.map .b))]⟩) ?_ ?_
   · intro K hK
     exact za rfl (hK _ () trivial ⟨⟨⟨rfl, rfl, rfl⟩, ⟨rfl, rfl, rfl⟩, trivial⟩, ⟨lcr, trivial⟩, rfl⟩)
   intro _ _
   cases h : z03 c.cons m.c with
   | none =>
     refine z6 rfl (zk _ _ _) rfl tv4 ?_
     refine xb rfl ?_ ?_ <;> intro b0
     exact absurd b0 (by simp; omega)
     refine z6 rfl (hT) rfl ⟨trivial, tv10, trivial⟩ ?_
     refine xb rfl ?_ ?_ <;> intro b1
     refine xj (k := 4) rfl ?_
     refine xv rfl rfl rfl ?_; rotate_left
     refine xj (k := 1) rfl (z6 rfl (hF) rfl ⟨trivial, tv10, trivial⟩ (xj (k := 2) rfl ?_))
     refine xb rfl ?_ ?_ <;> intro b2
     refine xv rfl rfl rfl ?_; rotate_left
     refine z6 rfl (y0v c ho m.c h) rfl tv3 (xj (k := 1) rfl ?_)
     refine xv rfl rfl rfl ?_; rotate_left
     all_goals
      refine vi ?_
      rw [y4v c m hk rfl (show (z03 c.cons m.c).isNone = true by rw [h]; rfl) rfl rfl]
      unfold ends
      clear hT hF hR hP ho h hk
      ((try dsimp only at *); simp_all only [Bool.not_eq_true', Bool.not_eq_false', Bool.not_true, Bool.not_false, Bool.and_true, Bool.true_and, Bool.and_false, Bool.false_and, Bool.and_self, Bool.or_true, Bool.true_or, Bool.or_false, Bool.false_or, Bool.false_eq_true, if_true, if_false, reduceIte]; done)
   | some x =>
     refine z6 rfl (zk _ _ _) rfl tv4 ?_
     refine xb rfl ?_ ?_ <;> intro b0
     exact absurd b0 (by simp; omega)
     refine z6 rfl (hT) rfl ⟨trivial, tv10, trivial⟩ ?_
     refine xb rfl ?_ ?_ <;> intro b1
     refine xj (k := 4) rfl ?_
     refine xv rfl rfl rfl ?_; rotate_left
     refine xj (k := 1) rfl (z6 rfl (hF) rfl ⟨trivial, tv10, trivial⟩ (xj (k := 2) rfl ?_))
     refine xb rfl ?_ ?_ <;> intro b2
     refine xv rfl rfl rfl ?_; rotate_left
     refine z6 rfl (q0v c ho m.c x h) rfl tv3 (xj (k := 1) rfl (z6 rfl (hR) rfl ⟨trivial, tv10, trivial⟩ ?_))
     refine xb rfl ?_ ?_ <;> intro b3
     refine xv rfl rfl rfl ?_; rotate_left
     refine zb rfl [] (.take 0 [3, 4] (.take 1 (Rg 2 3) (.alt 2 (Tk [3, 4] .done) .nil))) (by kernel_rfl) (z6 rfl (hP) rfl ⟨tv10, trivial⟩ ?_)
     refine xb rfl ?_ ?_ <;> intro b4
     refine xv rfl rfl rfl ?_; rotate_left
     refine xv rfl rfl rfl ?_; rotate_left
     all_goals
      refine vi ?_
      rw [y4v c m hk rfl (show (z03 c.cons m.c).isNone = false by rw [h]; rfl) rfl (q5f m m.bare).symm]
      unfold ends
      clear hT hF hR hP ho h hk
      ((try dsimp only at *); simp_all only [Bool.not_eq_true', Bool.not_eq_false', Bool.not_true, Bool.not_false, Bool.and_true, Bool.true_and, Bool.and_false, Bool.false_and, Bool.and_self, Bool.or_true, Bool.true_or, Bool.or_false, Bool.false_or, Bool.false_eq_true, if_true, if_false, reduceIte]; done)
 · have hk : Go.Sx.within m.k 1 6 = false := by simpa using hk
   refine z6 rfl (zk _ _ _) rfl tv4 ?_
   refine xb rfl ?_ ?_ <;> intro b0
   refine xv rfl rfl rfl ?_; rotate_left
   exact absurd b0 (by simp; omega)
   all_goals first
    | (refine vi ?_; unfold y0i; rw [hk]; rfl)
    | (exfalso; simp_all; done)
theorem q8a {a b c d a' b' c' d' : Int} : y1b [.int .i64 a, .int .i64 b, .int .i64 c, .int .i64 d] [.int .i64 a', .int .i64 b', .int .i64 c', .int .i64 d'] = decide (Leg.mk a b c d = Leg.mk a' b' c' d') := by
 rw [Bool.eq_iff_iff]; simp [y1b]
theorem q78 (us vs : List Leg) (hx : us.length ≤ 1048576) : PC Tryz.prog 310 [.one (.l (us.map Leg.cs)), .one (.l (vs.map Leg.cs))] (rB (decide (us = vs))) := by
 refine PC.begin Tryz.func310 rfl (by kernel_rfl) ?_
 refine xb rfl ?_ ?_ <;> intro h0
 · have hne : ¬ us.length = vs.length := by simp at h0; omega
   refine xv rfl rfl rfl ?_
   all_goals (refine vb ?_; rw [eq_comm, decide_eq_false_iff_not]; exact fun e => hne (by rw [e]))
 · have he : us.length = vs.length := by simp at h0; omega
   refine zc rfl (ι := Nat) (fun i => i ≤ us.length ∧ us.take i = vs.take i) (fun i => ⟨[(13, sV (.int .i64 i)), (12, sV (.int .i64 (us.map Leg.cs).length)), (0, .one (.b (.l (us.map Leg.cs)))), (1, .one (.b (.l (vs.map Leg.cs))))], []⟩) (fun i => us.length - i) 0 ⟨Nat.zero_le _, rfl⟩ ?_ ?_
   · exact ⟨⟨rfl, rfl, rfl, rfl, trivial⟩, trivial, rfl⟩
   · intro i ⟨hi, hq⟩ J hJ
     refine xb rfl ?_ ?_ <;> intro h
     · have h : i < us.length := by simpa using h
       obtain ⟨x, hx1⟩ := gx h
       obtain ⟨y, hy1⟩ := gx (xs := vs) (i := i) (by omega)
       have hg := gm Leg.cs hx1
       have hg2 := gm Leg.cs hy1
       refine zb rfl [] (Tk [0, 1, 2] (.take 3 [8] (Tk [4, 5, 6] (.take 7 [8] (.take 8 [] .done))))) (by kernel_rfl) (xs rfl (nn_ _) (q8 rfl _ hg (xs rfl rfl (xs rfl (nn_ _) (q8 rfl _ hg2 (xs rfl rfl ?_))))))
       refine xb rfl ?_ ?_ <;> intro b0
       refine xv rfl rfl rfl ?_; rotate_left
       rotate_left
       · rw [q8a] at b0
         refine vb ?_; rw [eq_comm, decide_eq_false_iff_not]; intro e; subst e; rw [hx1] at hy1; cases hy1; simp at b0
       · rw [q8a] at b0
         have e : x = y := by simpa only [Bool.not_eq_false', decide_eq_true_eq] using b0
         exact za rfl (hJ _ (i + 1) ⟨by omega, by rw [List.take_add_one, List.take_add_one, hx1, hy1, hq, e]⟩ (by omega) ⟨⟨cwi (by omega) (by omega) (by omega), rfl, rfl, rfl, trivial⟩, trivial, rfl⟩)
     · have h : i = us.length := by have : ¬ i < us.length := (by simpa using h); omega
       rw [h, List.take_length, he, List.take_length] at hq
       refine xv rfl rfl rfl ?_
       all_goals (refine vb ?_; rw [hq]; simp)
theorem y62 (a b : Con) (ha : a.legs.length ≤ 1048576) : PC Tryz.prog 206 [.agg a.cs, .agg b.cs] (rB (a.same b)) := by
 refine PC.begin Tryz.func206 rfl (by kernel_rfl) ?_
 refine xb rfl ?_ ?_ <;> intro b0
 refine xj (k := 4) rfl (z6 rfl (q78 a.legs b.legs ha) rfl tv3 (xj (k := 1) rfl ?_))
 refine xv rfl rfl rfl ?_; rotate_left
 refine xj (k := 5) rfl ?_
 refine xv rfl rfl rfl ?_; rotate_left
 all_goals (refine vb ?_; unfold Con.same; simp_all)
theorem z4a (a b : Con) (ha : a.legs.length ≤ 1048576) : PC Tryz.prog 117 [.agg a.cs, .agg b.cs] (rB (a.same b)) := by
 refine PC.begin Tryz.func117 rfl (by kernel_rfl) ?_
 refine xb rfl ?_ ?_ <;> intro b0
 refine xj (k := 8) rfl ?_
 refine xv rfl rfl rfl ?_; rotate_left
 refine xj (k := 7) rfl ?_
 refine xb rfl ?_ ?_ <;> intro b1
 refine xv rfl rfl rfl ?_; rotate_left
 rotate_left
 · have h0 : ¬ a.id = b.id := by simpa using b0
   refine vb ?_; simp [Con.same, h0]
 · have hne : ¬ a.legs.length = b.legs.length := by simp at b1; omega
   refine vb ?_; unfold Con.same; rw [eq_comm, Bool.and_eq_false_iff]; exact .inr (decide_eq_false (fun e => hne (by rw [e])))
 · skip
   · have h0 : a.id = b.id := by simpa using b0
     have he : a.legs.length = b.legs.length := by simp at b1; omega
     clear b0 b1
     refine zc rfl (ι := Nat) (fun i => i ≤ a.legs.length ∧ a.legs.take i = b.legs.take i) (fun i => ⟨[(5, sV (.int .i64 i)), (2, .one (.a 2 0)), (3, .one (.a 3 0))], [(2, .var (a.cs.map .b)), (3, .var (b.cs.map .b))]⟩) (fun i => a.legs.length - i) 0 ⟨Nat.zero_le _, rfl⟩ ?_ ?_
     · exact ⟨⟨rfl, ⟨rfl, rfl, rfl⟩, ⟨rfl, rfl, rfl⟩, trivial⟩, ⟨lcr, lcr, trivial⟩, rfl⟩
     · intro i ⟨hi, hq⟩ J hJ
       refine xb rfl ?_ ?_ <;> intro h
       · have h : i < a.legs.length := by simpa using h
         obtain ⟨x, hx1⟩ := gx h
         obtain ⟨y, hy1⟩ := gx (xs := b.legs) (i := i) (by omega)
         have hg := gm Leg.cs hx1
         have hg2 := gm Leg.cs hy1
         refine zb rfl [] (.take 0 [] (.take 1 [3, 4, 10] (Tk [2, 3] (.take 4 [10] (.take 5 [] (.take 6 (Rg 8 3) (Tk [7, 8] (.take 9 [10] (.take 10 [] .done))))))))) (by kernel_rfl) (xs rfl (nn_ _) (q8 rfl _ hg (xs rfl rfl (xs rfl (nn_ _) (q8 rfl _ hg2 (xs rfl rfl ?_))))))
         refine xb rfl ?_ ?_ <;> intro b0
         refine xv rfl rfl rfl ?_; rotate_left
         rotate_left
         · rw [q8a] at b0
           refine vb ?_; unfold Con.same; rw [eq_comm, Bool.and_eq_false_iff]; refine .inr (decide_eq_false (fun e => ?_)); rw [e, hy1] at hx1; cases hx1; simp at b0
         · rw [q8a] at b0
           have e : x = y := by simpa only [Bool.not_eq_false', decide_eq_true_eq] using b0
           exact za rfl (hJ _ (i + 1) ⟨by omega, by rw [List.take_add_one, List.take_add_one, hx1, hy1, hq, e]⟩ (by omega) ⟨⟨cwi (by omega) (by omega) (by omega), ⟨rfl, rfl, rfl⟩, ⟨rfl, rfl, rfl⟩, trivial⟩, ⟨lcr, lcr, trivial⟩, rfl⟩)
       · have h : i = a.legs.length := by have : ¬ i < a.legs.length := (by simpa using h); omega
         rw [h, List.take_length, he, List.take_length] at hq
         refine xv rfl rfl rfl ?_
         all_goals (refine vb ?_; simp [Con.same, h0, hq])
theorem y41 (c : Clu) (ho : q00 c) (l : Leg) : PC Tryz.prog 308 [.agg l.cs, .one (.p [.p c.cs])] (rB (!(Go.Sx.within l.s 0 ((c.shs.length : Int) - 1)))) := by
 refine PC.begin Tryz.func308 rfl (by kernel_rfl) ?_
 have q1 := ho.2.1.1
 have p1 : (c.shs.map Shd.cs).length ≤ 1048576 := by simpa using q1
 refine zb rfl [] (.take 0 [] (.take 1 (Rg 6 3) (.take 2 (Rg 3 6) (Tk [3, 4] (.take 5 (Rg 6 3) (.alt 6 (Tk [7, 8] .done) .nil)))))) (by kernel_rfl) (z6 rfl (q2c _ _ (by assumption)) rfl tv3 (xv rfl rfl rfl ?_))
 all_goals (refine vb ?_; rw [List.length_map])
theorem z2i (c : Clu) (ho : q00 c) (x : Con) (hl : x.legs.length ≤ 1048576) : PC Tryz.prog 205 [.one (.p c.cs), .agg x.cs] (rB (!(z8b c x))) := by
 refine PC.begin Tryz.func205 rfl (by kernel_rfl) ?_
 have hi := z5b _ x.legs (fun l => !(Go.Sx.within l.s 0 ((c.shs.length : Int) - 1))) 308 (.p [.p c.cs]) rfl (fun l _ => y41 c ho l) hl
 refine z6 rfl (hi) rfl ⟨trivial, (List.forall_mem_cons.2 ⟨⟨trivial, trivial⟩, (fun _ h => nomatch h)⟩), trivial⟩ ?_
 refine xr rfl (zm rfl ⟨⟨rfl, rfl, trivial⟩, z7 rfl⟩)
theorem y8e (c : Clu) (ho : q00 c) : PC Tryz.prog 143 [.one (.p c.cs)] (rI (scan (q0c c) c.cons.length)) := by
 refine PC.begin Tryz.func143 rfl (by kernel_rfl) ?_
 have hl := ho.1.1
 refine zc rfl (ι := Nat) (fun i => i ≤ c.cons.length ∧ ∀ j, j < i → q0c c j = 0) (fun i => ⟨[(11, sV (.int .i64 i)), (10, sV (.int .i64 (c.cons.map Con.cs).length)), (9, .one (.b (.l (c.cons.map Con.cs)))), (0, .one (.b (.p c.cs)))], []⟩) (fun i => c.cons.length - i) 0 ⟨Nat.zero_le _, fun j hj => by omega⟩ ?_ ?_
 · exact ⟨⟨rfl, rfl, rfl, rfl, trivial⟩, trivial, rfl⟩
 · intro i ⟨hi, h0⟩ J hJ
   refine xb rfl ?_ ?_ <;> intro h
   · have h : i < c.cons.length := by simpa using h
     obtain ⟨x, hx⟩ := gx h
     have hg := gm Con.cs hx
     have hxl := ho.1.2 x (List.mem_of_getElem? hx)
     rcases Nat.eq_zero_or_pos i with hz | hz
     · subst hz
       refine xs rfl (nn_ _) (q8 rfl _ hg (xs rfl rfl (z6 rfl (y42 _ (by assumption)) rfl ⟨tv3, trivial⟩ ?_)))
       refine xb rfl ?_ ?_ <;> intro b0
       refine xv rfl rfl rfl ?_; rotate_left
       refine z6 rfl (z2i c ho x hxl) rfl ⟨trivial, tv3, trivial⟩ ?_
       refine xb rfl ?_ ?_ <;> intro b1
       refine xv rfl rfl rfl ?_; rotate_left
       refine zb rfl [] (Tk (Rg 0 6) (.take 6 (Rg 9 3 ++ Rg 14 3) (Tk (Rg 7 4) (.take 11 (Rg 14 3) (.take 12 [] (.take 13 (Rg 14 3) (Tk [14, 15, 16] .done))))))) (by kernel_rfl) ?_
       refine xj (k := 14) rfl ?_; rotate_left
       all_goals (first | (refine vi (q7 h h0 ?_ (by first | decide | decide | simp_all)); clear hJ h0 hg; (first | (simp_all [q0c, ahead_zero]; done) | (simp_all [q0c, ahead_zero]; omega)); done) | (refine za rfl (hJ _ 1 ⟨by omega, ya h0 ?_⟩ (by omega) ⟨⟨cwi (by omega) (by omega) (by omega), rfl, rfl, rfl, trivial⟩, trivial, rfl⟩); clear hJ h0 hg; (first | (simp_all [q0c, ahead_zero]; done) | (simp_all [q0c, ahead_zero]; omega)); done) | skip)
     · obtain ⟨p, hp⟩ := gx (xs := c.cons) (i := i - 1) (by omega)
       have hgp := q11 Con.cs hz (by omega) hp
       refine xs rfl (nn_ _) (q8 rfl _ hg (xs rfl rfl (z6 rfl (y42 _ (by assumption)) rfl ⟨tv3, trivial⟩ ?_)))
       refine xb rfl ?_ ?_ <;> intro b0
       refine xv rfl rfl rfl ?_; rotate_left
       refine z6 rfl (z2i c ho x hxl) rfl ⟨trivial, tv3, trivial⟩ ?_
       refine xb rfl ?_ ?_ <;> intro b1
       refine xv rfl rfl rfl ?_; rotate_left
       refine zb rfl [] (Tk (Rg 0 6) (.take 6 (Rg 9 3 ++ Rg 14 3) (Tk (Rg 7 4) (.take 11 (Rg 14 3) (.take 12 [] (.take 13 (Rg 14 3) (Tk [14, 15, 16] .done))))))) (by kernel_rfl) ?_
       refine xb rfl ?_ ?_ <;> intro b2
       refine xj (k := 6) rfl (xs rfl (z0k hz (by omega)) (q8 rfl _ hgp (xs rfl rfl (xj (k := 6) rfl ?_))))
       refine xb rfl ?_ ?_ <;> intro b3
       refine xv rfl rfl rfl ?_; rotate_left
       rotate_left
       refine xj (k := 13) rfl ?_; rotate_left
       all_goals (first | (refine vi (q7 h h0 ?_ (by first | decide | decide | simp_all)); clear hJ h0 hg hgp; (first | (simp_all [q0c, y9 hz hp]; done) | (simp_all [q0c, y9 hz hp]; omega)); done) | (refine za rfl (hJ _ (i + 1) ⟨by omega, ya h0 ?_⟩ (by omega) ⟨⟨cwi (by omega) (by omega) (by omega), rfl, rfl, rfl, trivial⟩, trivial, rfl⟩); clear hJ h0 hg hgp; (first | (simp_all [q0c, y9 hz hp]; done) | (simp_all [q0c, y9 hz hp]; omega)); done) | skip)
   · have h : ¬ i < c.cons.length := by simpa using h
     have hz := qe (f := q0c c) (n := c.cons.length) (fun j hj => h0 j (by omega))
     clear hJ
     refine xv rfl rfl rfl ?_
     exact vi (hz.symm)
theorem z8n (c : Clu) (ho : q00 c) : PC Tryz.prog 131 [.one (.p c.cs)] (rI (scan (q0c c) c.cons.length)) := by
 refine PC.begin Tryz.func131 rfl (by kernel_rfl) ?_
 have hl := ho.1.1
 have q1 := ho.2.1.1
 refine zc rfl (ι := Nat) (fun i => i ≤ c.cons.length ∧ ∀ j, j < i → q0c c j = 0) (fun i => ⟨[(3, sV (.int .i64 i)), (0, .one (.b (.p c.cs)))], []⟩) (fun i => c.cons.length - i) 0 ⟨Nat.zero_le _, fun j hj => by omega⟩ ?_ ?_
 · exact ⟨⟨rfl, rfl, trivial⟩, trivial, rfl⟩
 · intro i ⟨hi, h0⟩ J hJ
   refine xb rfl ?_ ?_ <;> intro h
   · have h : i < c.cons.length := by simpa using h
     obtain ⟨x, hx⟩ := gx h
     have hg := gm Con.cs hx
     have hxl := ho.1.2 x (List.mem_of_getElem? hx)
     have hla : yo x = 0 → _ := fun h => q7g h c
     rcases Nat.eq_zero_or_pos i with hz | hz
     · subst hz
       refine xs rfl (nn_ _) (q8 rfl _ hg (xs rfl rfl (z6 rfl (q49 _ (by assumption)) rfl ⟨tv3, trivial⟩ ?_)))
       refine xb rfl ?_ ?_ <;> intro b0
       refine xv rfl rfl rfl ?_; rotate_left
       refine z6 rfl (y0q x hxl) rfl ⟨tv3, trivial⟩ (zb rfl [] (Tk (Rg 0 5) (.take 5 [11] (Tk [6, 7, 8] (.take 9 [10, 11] (Tk [10, 11] .done))))) (by kernel_rfl) (xs rfl (z7h (by simpa using b0)) (q8 rfl _ (q4t (by simpa using b0)) (xs rfl rfl ?_))))
       refine xb rfl ?_ ?_ <;> intro b1
       refine xv rfl rfl rfl ?_; rotate_left
       refine zb rfl [] (Tk (Rg 0 4) (.take 4 [14, 15] (Tk [5, 6, 7] (.take 8 (Rg 11 5) (Tk (Rg 9 4) (.take 13 [14, 15] (Tk [14, 15] .done))))))) (by kernel_rfl) ?_
       refine xj (k := 14) rfl ?_; rotate_left
       all_goals (first | (refine vi (q7 h h0 ?_ (by first | decide | decide | simp_all)); clear hJ h0 hg; (first | (simp_all [q0c, ahead_zero]; done) | (simp_all [q0c, ahead_zero]; omega)); done) | (refine za rfl (hJ _ 1 ⟨by omega, ya h0 ?_⟩ (by omega) ⟨⟨cwi (by omega) (by omega) (by omega), rfl, trivial⟩, trivial, rfl⟩); clear hJ h0 hg; (first | (simp_all [q0c, ahead_zero]; done) | (simp_all [q0c, ahead_zero]; omega)); done) | skip)
     · obtain ⟨p, hp⟩ := gx (xs := c.cons) (i := i - 1) (by omega)
       have hgp := q11 Con.cs hz (by omega) hp
       refine xs rfl (nn_ _) (q8 rfl _ hg (xs rfl rfl (z6 rfl (q49 _ (by assumption)) rfl ⟨tv3, trivial⟩ ?_)))
       refine xb rfl ?_ ?_ <;> intro b0
       refine xv rfl rfl rfl ?_; rotate_left
       refine z6 rfl (y0q x hxl) rfl ⟨tv3, trivial⟩ (zb rfl [] (Tk (Rg 0 5) (.take 5 [11] (Tk [6, 7, 8] (.take 9 [10, 11] (Tk [10, 11] .done))))) (by kernel_rfl) (xs rfl (z7h (by simpa using b0)) (q8 rfl _ (q4t (by simpa using b0)) (xs rfl rfl ?_))))
       refine xb rfl ?_ ?_ <;> intro b1
       refine xv rfl rfl rfl ?_; rotate_left
       refine zb rfl [] (Tk (Rg 0 4) (.take 4 [14, 15] (Tk [5, 6, 7] (.take 8 (Rg 11 5) (Tk (Rg 9 4) (.take 13 [14, 15] (Tk [14, 15] .done))))))) (by kernel_rfl) ?_
       refine xb rfl ?_ ?_ <;> intro b2
       refine xj (k := 8) rfl (xs rfl (z0k hz (by omega)) (q8 rfl _ hgp (xs rfl rfl (xj (k := 4) rfl ?_))))
       refine xb rfl ?_ ?_ <;> intro b3
       refine xv rfl rfl rfl ?_; rotate_left
       rotate_left
       refine xj (k := 13) rfl ?_; rotate_left
       all_goals (first | (refine vi (q7 h h0 ?_ (by first | decide | decide | simp_all)); clear hJ h0 hg hgp; (first | (simp_all [q0c, y9 hz hp]; done) | (simp_all [q0c, y9 hz hp]; omega)); done) | (refine za rfl (hJ _ (i + 1) ⟨by omega, ya h0 ?_⟩ (by omega) ⟨⟨cwi (by omega) (by omega) (by omega), rfl, trivial⟩, trivial, rfl⟩); clear hJ h0 hg hgp; (first | (simp_all [q0c, y9 hz hp]; done) | (simp_all [q0c, y9 hz hp]; omega)); done) | skip)
   · have h : ¬ i < c.cons.length := by simpa using h
     have hz := qe (f := q0c c) (n := c.cons.length) (fun j hj => h0 j (by omega))
     clear hJ
     refine xv rfl rfl rfl ?_
     exact vi (hz.symm)
theorem zaa (rr : List (List Cell)) (us : List Mk) (p : Mk → Bool) (fn : Nat) (c0 : Cell) (c1 : Cell) (hr : rr = us.map Mk.cs) (hf : ∀ x ∈ us, PC Tryz.prog fn [.agg x.cs, .one c0, .one c1] (rB (p x))) (hl : us.length ≤ 1048576) : PC Tryz.prog 342 [.one (.l rr), .one (.f fn [c0, c1])] (rI (q1a p us)) := by
 refine PC.begin Tryz.func342 rfl (by kernel_rfl) ?_
 subst hr
 have hn : (us.map Mk.cs).length = us.length := by simp
 refine zc rfl (ι := Nat) (fun i => i ≤ us.length ∧ ∀ j y, j < i → us[j]? = some y → p y = false) (fun i => ⟨[(8, sV (.int .i64 i)), (7, sV (.int .i64 (us.map Mk.cs).length)), (0, .one (.b (.l (us.map Mk.cs)))), (1, .one (.b (.f fn [c0, c1])))], []⟩) (fun i => us.length - i) 0 ⟨Nat.zero_le _, fun j y hj => by omega⟩ ?_ ?_
 · exact ⟨⟨rfl, rfl, rfl, rfl, trivial⟩, trivial, rfl⟩
 · intro i ⟨hi, h0⟩ J hJ
   refine xb rfl ?_ ?_ <;> intro h
   · have h : i < us.length := by simpa using h
     obtain ⟨x, hx⟩ := gx h
     have hg := gm Mk.cs hx
     have hxm := List.mem_of_getElem? hx
     refine xs rfl (nn_ _) (q8 rfl _ hg (xs rfl rfl (z6 rfl (hf _ hxm) rfl ⟨tv3, trivial, trivial, trivial⟩ ?_)))
     refine xb rfl ?_ ?_ <;> intro b0
     refine xv rfl rfl rfl ?_; rotate_left
     rotate_left
     · exact vi (z04 hx h0 b0).symm
     · exact za rfl (hJ _ (i + 1) ⟨by omega, yf hx h0 b0⟩ (by omega) ⟨⟨cwi (by omega) (by omega) (by omega), rfl, rfl, rfl, trivial⟩, trivial, rfl⟩)
   · have h : ¬ i < us.length := by simpa using h
     refine xv rfl rfl rfl ?_
     exact vi (zy (zj (by omega) h0)).symm
theorem y8w (rr : List (List Cell)) (us : List Mk) (p : Mk → Bool) (fn : Nat) (c0 : Cell) (c1 : Cell) (hr : rr = us.map Mk.cs) (hf : ∀ x ∈ us, PC Tryz.prog fn [.agg x.cs, .one c0, .one c1] (rB (p x))) (hl : us.length ≤ 1048576) : PC Tryz.prog 249 [.one (.l rr), .one (.f fn [c0, c1])] (rB (us.any p)) := by
 refine PC.begin Tryz.func249 rfl (by kernel_rfl) ?_
 have hi := zaa rr us p fn c0 c1 hr hf hl
 refine z6 rfl (hi) rfl tv3 (xv rfl rfl rfl ?_)
 exact vb z0i
theorem y9j (rr : List (List Cell)) (us : List Slt) (p : Slt → Bool) (fn : Nat) (c0 : Cell) (hr : rr = us.map Slt.cs) (hf : ∀ x ∈ us, PC Tryz.prog fn [.agg x.cs, .one c0] (rB (p x))) (hl : us.length ≤ 1048576) : PC Tryz.prog 345 [.one (.l rr), .one (.f fn [c0])] (rI (q1a p us)) := by
 refine PC.begin Tryz.func345 rfl (by kernel_rfl) ?_
 subst hr
 have hn : (us.map Slt.cs).length = us.length := by simp
 refine zc rfl (ι := Nat) (fun i => i ≤ us.length ∧ ∀ j y, j < i → us[j]? = some y → p y = false) (fun i => ⟨[(8, sV (.int .i64 i)), (7, sV (.int .i64 (us.map Slt.cs).length)), (0, .one (.b (.l (us.map Slt.cs)))), (1, .one (.b (.f fn [c0])))], []⟩) (fun i => us.length - i) 0 ⟨Nat.zero_le _, fun j y hj => by omega⟩ ?_ ?_
 · exact ⟨⟨rfl, rfl, rfl, rfl, trivial⟩, trivial, rfl⟩
 · intro i ⟨hi, h0⟩ J hJ
   refine xb rfl ?_ ?_ <;> intro h
   · have h : i < us.length := by simpa using h
     obtain ⟨x, hx⟩ := gx h
     have hg := gm Slt.cs hx
     have hxm := List.mem_of_getElem? hx
     refine xs rfl (nn_ _) (q8 rfl _ hg (xs rfl rfl (z6 rfl (hf _ hxm) rfl ⟨tv7, trivial, trivial⟩ ?_)))
     refine xb rfl ?_ ?_ <;> intro b0
     refine xv rfl rfl rfl ?_; rotate_left
     rotate_left
     · exact vi (z04 hx h0 b0).symm
     · exact za rfl (hJ _ (i + 1) ⟨by omega, yf hx h0 b0⟩ (by omega) ⟨⟨cwi (by omega) (by omega) (by omega), rfl, rfl, rfl, trivial⟩, trivial, rfl⟩)
   · have h : ¬ i < us.length := by simpa using h
     refine xv rfl rfl rfl ?_
     exact vi (zy (zj (by omega) h0)).symm
theorem y99 (rr : List (List Cell)) (us : List Slt) (p : Slt → Bool) (fn : Nat) (c0 : Cell) (hr : rr = us.map Slt.cs) (hf : ∀ x ∈ us, PC Tryz.prog fn [.agg x.cs, .one c0] (rB (p x))) (hl : us.length ≤ 1048576) : PC Tryz.prog 251 [.one (.l rr), .one (.f fn [c0])] (rB (us.any p)) := by
 refine PC.begin Tryz.func251 rfl (by kernel_rfl) ?_
 have hi := y9j rr us p fn c0 hr hf hl
 refine z6 rfl (hi) rfl tv3 (xv rfl rfl rfl ?_)
 exact vb z0i
theorem z39 (c : Clu) (ho : q00 c) (i : Int) (m : Mk) : PC Tryz.prog 247 [.agg m.cs, .one (.p [.p c.cs]), .one (.p [i64 i])] (rB (!(z12 c.cons m.c i))) := by
 refine PC.begin Tryz.func247 rfl (by kernel_rfl) ?_
 refine z6 rfl (y18 _ (by assumption) _ _) rfl tv4 ?_
 refine xr rfl (zm rfl ⟨⟨rfl, rfl, trivial⟩, z7 rfl⟩)
theorem q8e (c : Clu) (ho : q00 c) (i : Nat) (s : Shd) (hs : c.shs[i]? = some s) : PC Tryz.prog 144 [.one (.p c.cs), .one (i64 i)] (rI (z8q c i s)) := by
 refine PC.begin Tryz.func144 rfl (by kernel_rfl) ?_
 have hg := gm Shd.cs hs
 have hso := ho.2.1.2 s (List.mem_of_getElem? hs)
 obtain ⟨o1, o2, o3, o4, o5, o6⟩ := id hso
 have hv := y8w _ s.votes (fun m => !(z12 c.cons m.c i)) 247 (.p [.p c.cs]) (.p [i64 i]) rfl (fun m _ => z39 c ho i m) o2
 have hd := y8w _ s.done (fun m => !(z12 c.cons m.c i)) 247 (.p [.p c.cs]) (.p [i64 i]) rfl (fun m _ => z39 c ho i m) o4
 refine zb rfl [] (.take 0 [1, 2, 3, 5, 6, 8] (Tk [1, 2] (.take 3 [5, 6, 8] (.take 4 [5, 6, 8] (.take 5 [] (.take 6 [8] (.alt 7 (.alt 8 .done .nil) .nil))))))) (by kernel_rfl) (xs rfl (nn_ _) (q8 rfl _ hg (xs rfl rfl (z6 rfl (q7s s hso) rfl ⟨tv7, trivial⟩ ?_))))
 refine xb rfl ?_ ?_ <;> intro b0
 refine xv rfl rfl rfl ?_; rotate_left
 refine xb rfl ?_ ?_ <;> intro b1
 refine xj (k := 10) rfl ?_
 refine xv rfl rfl rfl ?_; rotate_left
 refine xj (k := 3) rfl (z6 rfl (hv) rfl ⟨trivial, (List.forall_mem_cons.2 ⟨⟨trivial, trivial⟩, (List.forall_mem_cons.2 ⟨⟨trivial, trivial⟩, (fun _ h => nomatch h)⟩)⟩), trivial⟩ (xj (k := 1) rfl ?_))
 refine xb rfl ?_ ?_ <;> intro b2
 refine xj (k := 5) rfl ?_
 refine xv rfl rfl rfl ?_; rotate_left
 refine xj (k := 3) rfl (z6 rfl (hd) rfl ⟨trivial, (List.forall_mem_cons.2 ⟨⟨trivial, trivial⟩, (List.forall_mem_cons.2 ⟨⟨trivial, trivial⟩, (fun _ h => nomatch h)⟩)⟩), trivial⟩ (xj (k := 1) rfl ?_))
 refine xb rfl ?_ ?_ <;> intro b3
 refine xv rfl rfl rfl ?_; rotate_left
 rotate_left
 all_goals first | (refine vi ?_; unfold z8q; simp_all; done) | skip
 have hsf : qj s = 0 := by simpa using b0
 have hix : s.idx = i := by simpa using b1
 have hvd : ((s.votes.any fun m => !(z12 c.cons m.c i)) || (s.done.any fun m => !(z12 c.cons m.c i))) = false := by rw [b2, b3]; rfl
 rw [y4c hsf hix, hvd]
 have hcon := q2s hsf
 clear hv hd b0 b1 b2 b3 hvd
 refine zc rfl (ι := Nat) (fun i => i ≤ s.held.length ∧ ∀ j y, j < i → s.held[j]? = some y → z2p c y = false) (fun i => ⟨[(44, sV (.int .i64 i)), (43, sV (.int .i64 (s.held.map Con.cs).length)), (42, .one (.b (.l (s.held.map Con.cs)))), (2, .one (.a 2 0))], [(2, .var [.b (.p c.cs)])]⟩) (fun i => s.held.length - i) 0 ⟨Nat.zero_le _, fun j y hj => by omega⟩ ?_ ?_
 · exact ⟨⟨rfl, rfl, rfl, ⟨rfl, rfl, rfl⟩, trivial⟩, ⟨⟨rfl, trivial⟩, trivial⟩, rfl⟩
 · intro k ⟨hk, h0⟩ J hJ
   refine xb rfl ?_ ?_ <;> intro h
   · have h : k < s.held.length := by simpa using h
     obtain ⟨y, hy⟩ := gx h
     have hgy := gm Con.cs hy
     have hym := List.mem_of_getElem? hy
     have hyl := o6 y hym
     have hid := (z15 (hcon y hym)).1.1
     cases hc : z03 c.cons y.id with
     | none =>
       have hb : z2p c y = true := by unfold z2p; rw [hc]
       have hsm : (Con.mk 0 []).same y = false := by unfold Con.same; rw [Bool.and_eq_false_iff]; exact .inl (beq_false_of_ne (fun e => by have : (0 : Int) = y.id := e; omega))
       have hq := y62 ⟨0, []⟩ y (Nat.zero_le _)
       rw [hsm] at hq
       refine xs rfl (nn_ _) (q8 rfl _ hgy (xs rfl rfl (z6 rfl (y0v c ho y.id hc) rfl tv3 (z6 rfl (hq) rfl ⟨tv3, tv3, trivial⟩ (xj (k := 1) rfl (xv rfl rfl rfl ?_))))))
       exact vi (by rw [if_neg (by decide), if_pos (zu hy hb).symm])
     | some x =>
       have hxl := ho.1.2 x (List.mem_of_find?_eq_some hc)
       have hb : z2p c y = !(x.same y) := by unfold z2p; rw [hc]
       refine xs rfl (nn_ _) (q8 rfl _ hgy (xs rfl rfl (z6 rfl (q0v c ho y.id x hc) rfl tv3 (z6 rfl (y62 x y hxl) rfl ⟨tv3, tv3, trivial⟩ ?_))))
       refine xb rfl ?_ ?_ <;> intro b0
       refine xv rfl rfl rfl ?_; rotate_left
       rotate_left
       · exact vi (by rw [if_neg (by decide), if_pos (zu hy (hb.trans b0)).symm])
       · exact za rfl (hJ _ (k + 1) ⟨by omega, yf hy h0 (hb.trans b0)⟩ (by omega) ⟨⟨cwi (by omega) (by omega) (by omega), rfl, rfl, ⟨rfl, rfl, rfl⟩, trivial⟩, ⟨⟨rfl, trivial⟩, trivial⟩, rfl⟩)
   · have h : ¬ k < s.held.length := by simpa using h
     have hz := any_none (zj (by omega) h0)
     refine xv rfl rfl rfl ?_
     exact vi (by rw [if_neg (by decide), if_neg (by rw [← hz]; decide)])
theorem z5r (c : Clu) (ho : q00 c) (x : Slt) : PC Tryz.prog 252 [.agg x.cs, .one (.p [.p c.cs])] (rB (!(z12 c.cons x.c x.s))) := by
 refine PC.begin Tryz.func252 rfl (by kernel_rfl) ?_
 refine z6 rfl (y18 _ (by assumption) _ _) rfl tv4 ?_
 refine xr rfl (zm rfl ⟨⟨rfl, rfl, trivial⟩, z7 rfl⟩)
theorem q8d (c : Clu) (ho : q00 c) (a : Acc) (ha : y6x a) : PC Tryz.prog 146 [.one (.p c.cs), .agg a.cs] (rI (q97 c a)) := by
 refine PC.begin Tryz.func146 rfl (by kernel_rfl) ?_
 have hv := y99 _ a.slots (fun x => !(z12 c.cons x.c x.s)) 252 (.p [.p c.cs]) rfl (fun x _ => z5r c ho x) ha.1
 refine z6 rfl (y9f a ha) rfl ⟨⟨trivial, trivial⟩, trivial⟩ ?_
 refine xb rfl ?_ ?_ <;> intro b0
 refine xv rfl rfl rfl ?_; rotate_left
 refine z6 rfl (hv) rfl ⟨trivial, (List.forall_mem_cons.2 ⟨⟨trivial, trivial⟩, (fun _ h => nomatch h)⟩), trivial⟩ ?_
 refine xb rfl ?_ ?_ <;> intro b1
 refine xv rfl rfl rfl ?_; rotate_left
 refine xv rfl rfl rfl ?_; rotate_left
 all_goals (refine vi ?_; unfold q97; clear hv; simp_all; done)
theorem q2b (us : List Mk) : ∀ row ∈ us.map Mk.cs, row.length = 2 := fun row h => by
 simp at h
 obtain ⟨_, _, rfl⟩ := h; rfl
theorem q6o (us : List Mk) : zz (us.map Mk.cs) := fun row h => by
 simp only [List.mem_map] at h
 obtain ⟨x, _, rfl⟩ := h
 intro c hc
 simp at hc
 rcases hc with rfl | rfl <;> exact ⟨_, rfl⟩
theorem z8o (c : Clu) (ho : q00 c) : PC Tryz.prog 132 [.one (.p c.cs)] (rI (scan (q27 c) c.shs.length)) := by
 refine PC.begin Tryz.func132 rfl (by kernel_rfl) ?_
 have hl := ho.2.1.1
 refine zc rfl (ι := Nat) (fun i => i ≤ c.shs.length ∧ ∀ j, j < i → q27 c j = 0) (fun i => ⟨[(3, sV (.int .i64 i)), (0, .one (.b (.p c.cs)))], []⟩) (fun i => c.shs.length - i) 0 ⟨Nat.zero_le _, fun j hj => by omega⟩ ?_ ?_
 · exact ⟨⟨rfl, rfl, trivial⟩, trivial, rfl⟩
 · intro i ⟨hi, h0⟩ J hJ
   refine xb rfl ?_ ?_ <;> intro h
   · have h : i < c.shs.length := by simpa using h
     obtain ⟨s, hx⟩ := gx h
     have hg := gm Shd.cs hx
     have hso := ho.2.1.2 s (List.mem_of_getElem? hx)
     obtain ⟨o1, o2, o3, o4, o5, o6⟩ := id hso
     have hF : q27 c i = z8q c i s := by unfold q27; rw [hx]
     refine xs rfl (nn_ _) (q8 rfl _ hg (xs rfl rfl (z6 rfl (q7q s hso) rfl ⟨tv7, trivial⟩ ?_)))
     refine xb rfl ?_ ?_ <;> intro b0
     refine xv rfl rfl rfl ?_; rotate_left
     refine xb rfl ?_ ?_ <;> intro b1
     refine xv rfl rfl rfl ?_; rotate_left
     refine zb rfl [] (.take 1 [] (.take 2 [3, 6, 7] (.take 4 [] (.alt 0 (.alt 3 (.take 5 [6, 7] (.alt 6 (.take 7 [] .done) .nil)) (.alt 5 (.alt 3 (.alt 6 (.take 7 [] .done) .nil) .nil) .nil)) (.alt 5 (.alt 0 (.alt 3 (.alt 6 (.take 7 [] .done) .nil) .nil) .nil) .nil))))) (by kernel_rfl) ?_
     refine y0u rfl ?_ ?_
     refine xs rfl trivial ?_
     refine y0u rfl ?_ ?_
     refine xs rfl rfl (xs rfl (q2b _) (xs rfl (fun _ => q6o _) (xs rfl (by simp; omega) (xs rfl (by simp; omega) (xs rfl (by simp) (xs rfl (q2b _) (xs rfl (fun _ => q6o _) (xs rfl (by simp; omega) ?_))))))))
     refine xs rfl (by simp; omega) ?_; rotate_left
     refine xs rfl rfl (xs rfl (q2b _) (xs rfl (fun _ => q6o _) (xs rfl (by simp; omega) (xs rfl (by simp; omega) (xs rfl (by simp) (xs rfl (q2b _) (xs rfl (fun _ => q6o _) (xs rfl (by simp; omega) ?_))))))))
     refine xs rfl (by simp; omega) ?_; rotate_left
     refine xs rfl trivial (xs rfl rfl (xs rfl (q2b _) (xs rfl (fun _ => q6o _) (xs rfl (by simp; omega) (xs rfl (by simp; omega) (xs rfl (by simp) (xs rfl (q2b _) (xs rfl (fun _ => q6o _) (xs rfl (by simp; omega) ?_)))))))))
     refine xs rfl (by simp; omega) ?_; rotate_left
     all_goals first
      | (refine vi (q7 h h0 ?_ (by first | decide | (clear hJ h0; simp_all; done))); clear hJ h0 hg; rw [hF]; unfold z8q; simp_all; done)
      | skip
     · skip
       have hsf : qj s = 0 := by simpa using b0
       have hix : s.idx = i := by simpa using b1
       have hE := y4c (c := c) hsf hix
       have hcon := q2s hsf
       rw [hE] at hF
       obtain ⟨ms, hms⟩ : ∃ ms, ms = s.votes ++ s.done := ⟨_, rfl⟩
       have hml : ms.length ≤ 2097152 := by rw [hms, List.length_append]; omega
       refine zc rfl (ι := Nat) (fun k => k ≤ ms.length ∧ ∀ j y, j < k → ms[j]? = some y → (!(z12 c.cons y.c s.idx)) = false) (fun k => ⟨[(7, sV (.int .i64 k)), (6, .one (.h 35 ms.length)), (4, .one (.a 4 0)), (3, sV (.int .i64 i)), (0, .one (.b (.p c.cs)))], [(35, .arr true 2 0 (ms.map Mk.cs)), (4, .var (s.cs.map .b))]⟩) (fun k => ms.length - k) 0 ⟨Nat.zero_le _, fun j y hj => by omega⟩ ?_ ?_
       · exact ⟨⟨rfl, ⟨rfl, (by rw [hms]; simp), rfl⟩, ⟨rfl, rfl, rfl⟩, rfl, rfl, trivial⟩, ⟨⟨(by rw [hms]; simp), .inl rfl, .inl rfl⟩, ⟨rfl, rfl, rfl, rfl, rfl, rfl, trivial⟩, trivial⟩, rfl⟩
       · intro k ⟨hk, h0k⟩ Jk hJk
         refine xb rfl ?_ ?_ <;> intro hh
         · have hh : k < ms.length := by simpa using hh
           have hkl : k < 2097152 := by omega
           obtain ⟨y, hy⟩ := gx hh
           have hgy := gm Mk.cs hy
           refine zb rfl [] (Tk (Rg 0 5) (.take 5 [8, 9] (.take 6 [] (.take 7 [8, 9] (.alt 8 (.take 9 [] .done) .nil))))) (by kernel_rfl) (xs rfl (by simp) (xs rfl (nn_ _) (q8 rfl _ hgy (xs rfl rfl (xs rfl (by simp) (q8 rfl _ hgy (z6 rfl (yw _ (by assumption) _ _) rfl tv4 ?_)))))))
           refine xb rfl ?_ ?_ <;> intro b0
           refine xv rfl rfl rfl ?_; rotate_left
           rotate_left
           · refine vi (q7 h h0 ?_ (by decide))
             have ha := zu (p := fun y => !(z12 c.cons y.c s.idx)) hy b0
             rw [hms, List.any_append, hix] at ha
             rw [hF, if_pos ha.symm]
           · exact za rfl (hJk _ (k + 1) ⟨by omega, yf hy h0k b0⟩ (by omega) ⟨⟨cwi (by omega) (by omega) (by omega), ⟨rfl, rfl, rfl⟩, ⟨rfl, rfl, rfl⟩, rfl, rfl, trivial⟩, ⟨⟨rfl, .inl rfl, .inl rfl⟩, lcr, trivial⟩, rfl⟩)
         · have hh : ¬ k < ms.length := by simpa using hh
           have ha := any_none (zj (by omega) h0k)
           rw [hms, List.any_append, hix] at ha
           rw [if_neg (by rw [← ha]; decide)] at hF
           clear hJk h0k
           refine zc rfl (ι := Nat) (fun k => k ≤ s.held.length ∧ ∀ j y, j < k → s.held[j]? = some y → z2p c y = false) (fun k => ⟨[(8, sV (.int .i64 k)), (4, .one (.a 4 0)), (3, sV (.int .i64 i)), (0, .one (.b (.p c.cs)))], [(4, .var (s.cs.map .b))]⟩) (fun k => s.held.length - k) 0 ⟨Nat.zero_le _, fun j y hj => by omega⟩ ?_ ?_
           · exact ⟨⟨rfl, ⟨rfl, rfl, rfl⟩, rfl, rfl, trivial⟩, ⟨lcr, trivial⟩, rfl⟩
           · intro k ⟨hk, h0k⟩ Jk hJk
             refine xb rfl ?_ ?_ <;> intro hh
             · have hh : k < s.held.length := by simpa using hh
               obtain ⟨y, hy⟩ := gx hh
               have hgy := gm Con.cs hy
               have hf := y0g c y.id ho.1.1
               cases hc : z03 c.cons y.id with
               | none =>
                 rw [q0z hc] at hf
                 have hb : z2p c y = true := by unfold z2p; rw [hc]
                 refine xs rfl (nn_ _) (q8 rfl _ hgy (xs rfl rfl (z6 rfl (hf) rfl tv3 (zb rfl [] (Tk (Rg 0 6) (.take 6 [8, 9, 15, 16, 17] (Tk [7, 8] (.take 9 (Rg 15 3) (.take 10 [] (.take 11 (Rg 13 5) (Tk [12, 13] (.take 14 (Rg 15 3) (.alt 15 (Tk [16, 17] .done) .nil))))))))) (by kernel_rfl) (xj (k := 16) rfl (xv rfl rfl rfl ?_))))))
                 exact vi (q7 h h0 (by rw [hF, if_pos (zu hy hb).symm]) (by decide))
               | some x =>
                 obtain ⟨q, hq, hqx⟩ := y0p hc
                 rw [hq] at hf
                 have hgq := gm Con.cs hqx
                 have hxl := ho.1.2 x (List.mem_of_find?_eq_some hc)
                 have hb : z2p c y = !(x.same y) := by unfold z2p; rw [hc]
                 refine xs rfl (nn_ _) (q8 rfl _ hgy (xs rfl rfl (z6 rfl (hf) rfl tv3 (zb rfl [] (Tk (Rg 0 6) (.take 6 [8, 9, 15, 16, 17] (Tk [7, 8] (.take 9 (Rg 15 3) (.take 10 [] (.take 11 (Rg 13 5) (Tk [12, 13] (.take 14 (Rg 15 3) (.alt 15 (Tk [16, 17] .done) .nil))))))))) (by kernel_rfl) (xj (k := 6) rfl (xs rfl (nn_ _) (q8 rfl _ hgq (xs rfl rfl (xj (k := 5) rfl ?_)))))))))
                 refine xs rfl (nn_ _) (q8 rfl _ hgy (xs rfl rfl (xj (k := 2) rfl (z6 rfl (z4a x y hxl) rfl ⟨tv3, tv3, trivial⟩ (xj (k := 2) rfl ?_)))))
                 refine xb rfl ?_ ?_ <;> intro b0
                 refine xv rfl rfl rfl ?_; rotate_left
                 rotate_left
                 all_goals first
                  | (exfalso; simp at b0; omega)
                  | exact vi (q7 h h0 (by rw [hF, if_pos (zu hy (hb.trans b0)).symm]) (by decide))
                  | exact za rfl (hJk _ (k + 1) ⟨by omega, yf hy h0k (hb.trans b0)⟩ (by omega) ⟨⟨cwi (by omega) (by omega) (by omega), ⟨rfl, rfl, rfl⟩, rfl, rfl, trivial⟩, ⟨lcr, trivial⟩, rfl⟩)
             · have hh : ¬ k < s.held.length := by simpa using hh
               have hz := any_none (zj (by omega) h0k)
               rw [if_neg (by rw [← hz]; decide)] at hF
               skip
               exact za rfl (hJ _ (i + 1) ⟨by omega, ya h0 hF⟩ (by omega) ⟨⟨cwi (by omega) (by omega) (by omega), rfl, trivial⟩, trivial, rfl⟩)
     · skip
       have hsf : qj s = 0 := by simpa using b0
       have hix : s.idx = i := by simpa using b1
       have hE := y4c (c := c) hsf hix
       have hcon := q2s hsf
       rw [hE] at hF
       obtain ⟨ms, hms⟩ : ∃ ms, ms = s.votes ++ s.done := ⟨_, rfl⟩
       have hml : ms.length ≤ 2097152 := by rw [hms, List.length_append]; omega
       refine zc rfl (ι := Nat) (fun k => k ≤ ms.length ∧ ∀ j y, j < k → ms[j]? = some y → (!(z12 c.cons y.c s.idx)) = false) (fun k => ⟨[(7, sV (.int .i64 k)), (6, .one (.h 35 ms.length)), (4, .one (.a 4 0)), (3, sV (.int .i64 i)), (0, .one (.b (.p c.cs)))], [(35, .arr true 2 0 (ms.map Mk.cs)), (4, .var (s.cs.map .b))]⟩) (fun k => ms.length - k) 0 ⟨Nat.zero_le _, fun j y hj => by omega⟩ ?_ ?_
       · exact ⟨⟨rfl, ⟨rfl, (by rw [hms]; simp), rfl⟩, ⟨rfl, rfl, rfl⟩, rfl, rfl, trivial⟩, ⟨⟨(by rw [hms]; simp), .inl rfl, .inl rfl⟩, ⟨rfl, rfl, rfl, rfl, rfl, rfl, trivial⟩, trivial⟩, rfl⟩
       · intro k ⟨hk, h0k⟩ Jk hJk
         refine xb rfl ?_ ?_ <;> intro hh
         · have hh : k < ms.length := by simpa using hh
           have hkl : k < 2097152 := by omega
           obtain ⟨y, hy⟩ := gx hh
           have hgy := gm Mk.cs hy
           refine zb rfl [] (Tk (Rg 0 5) (.take 5 [8, 9] (.take 6 [] (.take 7 [8, 9] (.alt 8 (.take 9 [] .done) .nil))))) (by kernel_rfl) (xs rfl (by simp) (xs rfl (nn_ _) (q8 rfl _ hgy (xs rfl rfl (xs rfl (by simp) (q8 rfl _ hgy (z6 rfl (yw _ (by assumption) _ _) rfl tv4 ?_)))))))
           refine xb rfl ?_ ?_ <;> intro b0
           refine xv rfl rfl rfl ?_; rotate_left
           rotate_left
           · refine vi (q7 h h0 ?_ (by decide))
             have ha := zu (p := fun y => !(z12 c.cons y.c s.idx)) hy b0
             rw [hms, List.any_append, hix] at ha
             rw [hF, if_pos ha.symm]
           · exact za rfl (hJk _ (k + 1) ⟨by omega, yf hy h0k b0⟩ (by omega) ⟨⟨cwi (by omega) (by omega) (by omega), ⟨rfl, rfl, rfl⟩, ⟨rfl, rfl, rfl⟩, rfl, rfl, trivial⟩, ⟨⟨rfl, .inl rfl, .inl rfl⟩, lcr, trivial⟩, rfl⟩)
         · have hh : ¬ k < ms.length := by simpa using hh
           have ha := any_none (zj (by omega) h0k)
           rw [hms, List.any_append, hix] at ha
           rw [if_neg (by rw [← ha]; decide)] at hF
           clear hJk h0k
           refine zc rfl (ι := Nat) (fun k => k ≤ s.held.length ∧ ∀ j y, j < k → s.held[j]? = some y → z2p c y = false) (fun k => ⟨[(8, sV (.int .i64 k)), (4, .one (.a 4 0)), (3, sV (.int .i64 i)), (0, .one (.b (.p c.cs)))], [(4, .var (s.cs.map .b))]⟩) (fun k => s.held.length - k) 0 ⟨Nat.zero_le _, fun j y hj => by omega⟩ ?_ ?_
           · exact ⟨⟨rfl, ⟨rfl, rfl, rfl⟩, rfl, rfl, trivial⟩, ⟨lcr, trivial⟩, rfl⟩
           · intro k ⟨hk, h0k⟩ Jk hJk
             refine xb rfl ?_ ?_ <;> intro hh
             · have hh : k < s.held.length := by simpa using hh
               obtain ⟨y, hy⟩ := gx hh
               have hgy := gm Con.cs hy
               have hf := y0g c y.id ho.1.1
               cases hc : z03 c.cons y.id with
               | none =>
                 rw [q0z hc] at hf
                 have hb : z2p c y = true := by unfold z2p; rw [hc]
                 refine xs rfl (nn_ _) (q8 rfl _ hgy (xs rfl rfl (z6 rfl (hf) rfl tv3 (zb rfl [] (Tk (Rg 0 6) (.take 6 [8, 9, 15, 16, 17] (Tk [7, 8] (.take 9 (Rg 15 3) (.take 10 [] (.take 11 (Rg 13 5) (Tk [12, 13] (.take 14 (Rg 15 3) (.alt 15 (Tk [16, 17] .done) .nil))))))))) (by kernel_rfl) (xj (k := 16) rfl (xv rfl rfl rfl ?_))))))
                 exact vi (q7 h h0 (by rw [hF, if_pos (zu hy hb).symm]) (by decide))
               | some x =>
                 obtain ⟨q, hq, hqx⟩ := y0p hc
                 rw [hq] at hf
                 have hgq := gm Con.cs hqx
                 have hxl := ho.1.2 x (List.mem_of_find?_eq_some hc)
                 have hb : z2p c y = !(x.same y) := by unfold z2p; rw [hc]
                 refine xs rfl (nn_ _) (q8 rfl _ hgy (xs rfl rfl (z6 rfl (hf) rfl tv3 (zb rfl [] (Tk (Rg 0 6) (.take 6 [8, 9, 15, 16, 17] (Tk [7, 8] (.take 9 (Rg 15 3) (.take 10 [] (.take 11 (Rg 13 5) (Tk [12, 13] (.take 14 (Rg 15 3) (.alt 15 (Tk [16, 17] .done) .nil))))))))) (by kernel_rfl) (xj (k := 6) rfl (xs rfl (nn_ _) (q8 rfl _ hgq (xs rfl rfl (xj (k := 5) rfl ?_)))))))))
                 refine xs rfl (nn_ _) (q8 rfl _ hgy (xs rfl rfl (xj (k := 2) rfl (z6 rfl (z4a x y hxl) rfl ⟨tv3, tv3, trivial⟩ (xj (k := 2) rfl ?_)))))
                 refine xb rfl ?_ ?_ <;> intro b0
                 refine xv rfl rfl rfl ?_; rotate_left
                 rotate_left
                 all_goals first
                  | (exfalso; simp at b0; omega)
                  | exact vi (q7 h h0 (by rw [hF, if_pos (zu hy (hb.trans b0)).symm]) (by decide))
                  | exact za rfl (hJk _ (k + 1) ⟨by omega, yf hy h0k (hb.trans b0)⟩ (by omega) ⟨⟨cwi (by omega) (by omega) (by omega), ⟨rfl, rfl, rfl⟩, rfl, rfl, trivial⟩, ⟨lcr, trivial⟩, rfl⟩)
             · have hh : ¬ k < s.held.length := by simpa using hh
               have hz := any_none (zj (by omega) h0k)
               rw [if_neg (by rw [← hz]; decide)] at hF
               skip
               exact za rfl (hJ _ (i + 1) ⟨by omega, ya h0 hF⟩ (by omega) ⟨⟨cwi (by omega) (by omega) (by omega), rfl, trivial⟩, trivial, rfl⟩)
     · skip
       have hsf : qj s = 0 := by simpa using b0
       have hix : s.idx = i := by simpa using b1
       have hE := y4c (c := c) hsf hix
       have hcon := q2s hsf
       rw [hE] at hF
       obtain ⟨ms, hms⟩ : ∃ ms, ms = s.votes ++ s.done := ⟨_, rfl⟩
       have hml : ms.length ≤ 2097152 := by rw [hms, List.length_append]; omega
       refine zc rfl (ι := Nat) (fun k => k ≤ ms.length ∧ ∀ j y, j < k → ms[j]? = some y → (!(z12 c.cons y.c s.idx)) = false) (fun k => ⟨[(7, sV (.int .i64 k)), (6, .one (.h 35 ms.length)), (4, .one (.a 4 0)), (3, sV (.int .i64 i)), (0, .one (.b (.p c.cs)))], [(35, .arr true 2 0 (ms.map Mk.cs)), (4, .var (s.cs.map .b))]⟩) (fun k => ms.length - k) 0 ⟨Nat.zero_le _, fun j y hj => by omega⟩ ?_ ?_
       · exact ⟨⟨rfl, ⟨rfl, (by rw [hms]; simp), rfl⟩, ⟨rfl, rfl, rfl⟩, rfl, rfl, trivial⟩, ⟨⟨(by rw [hms]; simp), .inl rfl, .inl rfl⟩, ⟨rfl, rfl, rfl, rfl, rfl, rfl, trivial⟩, trivial⟩, rfl⟩
       · intro k ⟨hk, h0k⟩ Jk hJk
         refine xb rfl ?_ ?_ <;> intro hh
         · have hh : k < ms.length := by simpa using hh
           have hkl : k < 2097152 := by omega
           obtain ⟨y, hy⟩ := gx hh
           have hgy := gm Mk.cs hy
           refine zb rfl [] (Tk (Rg 0 5) (.take 5 [8, 9] (.take 6 [] (.take 7 [8, 9] (.alt 8 (.take 9 [] .done) .nil))))) (by kernel_rfl) (xs rfl (by simp) (xs rfl (nn_ _) (q8 rfl _ hgy (xs rfl rfl (xs rfl (by simp) (q8 rfl _ hgy (z6 rfl (yw _ (by assumption) _ _) rfl tv4 ?_)))))))
           refine xb rfl ?_ ?_ <;> intro b0
           refine xv rfl rfl rfl ?_; rotate_left
           rotate_left
           · refine vi (q7 h h0 ?_ (by decide))
             have ha := zu (p := fun y => !(z12 c.cons y.c s.idx)) hy b0
             rw [hms, List.any_append, hix] at ha
             rw [hF, if_pos ha.symm]
           · exact za rfl (hJk _ (k + 1) ⟨by omega, yf hy h0k b0⟩ (by omega) ⟨⟨cwi (by omega) (by omega) (by omega), ⟨rfl, rfl, rfl⟩, ⟨rfl, rfl, rfl⟩, rfl, rfl, trivial⟩, ⟨⟨rfl, .inl rfl, .inl rfl⟩, lcr, trivial⟩, rfl⟩)
         · have hh : ¬ k < ms.length := by simpa using hh
           have ha := any_none (zj (by omega) h0k)
           rw [hms, List.any_append, hix] at ha
           rw [if_neg (by rw [← ha]; decide)] at hF
           clear hJk h0k
           refine zc rfl (ι := Nat) (fun k => k ≤ s.held.length ∧ ∀ j y, j < k → s.held[j]? = some y → z2p c y = false) (fun k => ⟨[(8, sV (.int .i64 k)), (4, .one (.a 4 0)), (3, sV (.int .i64 i)), (0, .one (.b (.p c.cs)))], [(4, .var (s.cs.map .b))]⟩) (fun k => s.held.length - k) 0 ⟨Nat.zero_le _, fun j y hj => by omega⟩ ?_ ?_
           · exact ⟨⟨rfl, ⟨rfl, rfl, rfl⟩, rfl, rfl, trivial⟩, ⟨lcr, trivial⟩, rfl⟩
           · intro k ⟨hk, h0k⟩ Jk hJk
             refine xb rfl ?_ ?_ <;> intro hh
             · have hh : k < s.held.length := by simpa using hh
               obtain ⟨y, hy⟩ := gx hh
               have hgy := gm Con.cs hy
               have hf := y0g c y.id ho.1.1
               cases hc : z03 c.cons y.id with
               | none =>
                 rw [q0z hc] at hf
                 have hb : z2p c y = true := by unfold z2p; rw [hc]
                 refine xs rfl (nn_ _) (q8 rfl _ hgy (xs rfl rfl (z6 rfl (hf) rfl tv3 (zb rfl [] (Tk (Rg 0 6) (.take 6 [8, 9, 15, 16, 17] (Tk [7, 8] (.take 9 (Rg 15 3) (.take 10 [] (.take 11 (Rg 13 5) (Tk [12, 13] (.take 14 (Rg 15 3) (.alt 15 (Tk [16, 17] .done) .nil))))))))) (by kernel_rfl) (xj (k := 16) rfl (xv rfl rfl rfl ?_))))))
                 exact vi (q7 h h0 (by rw [hF, if_pos (zu hy hb).symm]) (by decide))
               | some x =>
                 obtain ⟨q, hq, hqx⟩ := y0p hc
                 rw [hq] at hf
                 have hgq := gm Con.cs hqx
                 have hxl := ho.1.2 x (List.mem_of_find?_eq_some hc)
                 have hb : z2p c y = !(x.same y) := by unfold z2p; rw [hc]
                 refine xs rfl (nn_ _) (q8 rfl _ hgy (xs rfl rfl (z6 rfl (hf) rfl tv3 (zb rfl [] (Tk (Rg 0 6) (.take 6 [8, 9, 15, 16, 17] (Tk [7, 8] (.take 9 (Rg 15 3) (.take 10 [] (.take 11 (Rg 13 5) (Tk [12, 13] (.take 14 (Rg 15 3) (.alt 15 (Tk [16, 17] .done) .nil))))))))) (by kernel_rfl) (xj (k := 6) rfl (xs rfl (nn_ _) (q8 rfl _ hgq (xs rfl rfl (xj (k := 5) rfl ?_)))))))))
                 refine xs rfl (nn_ _) (q8 rfl _ hgy (xs rfl rfl (xj (k := 2) rfl (z6 rfl (z4a x y hxl) rfl ⟨tv3, tv3, trivial⟩ (xj (k := 2) rfl ?_)))))
                 refine xb rfl ?_ ?_ <;> intro b0
                 refine xv rfl rfl rfl ?_; rotate_left
                 rotate_left
                 all_goals first
                  | (exfalso; simp at b0; omega)
                  | exact vi (q7 h h0 (by rw [hF, if_pos (zu hy (hb.trans b0)).symm]) (by decide))
                  | exact za rfl (hJk _ (k + 1) ⟨by omega, yf hy h0k (hb.trans b0)⟩ (by omega) ⟨⟨cwi (by omega) (by omega) (by omega), ⟨rfl, rfl, rfl⟩, rfl, rfl, trivial⟩, ⟨lcr, trivial⟩, rfl⟩)
             · have hh : ¬ k < s.held.length := by simpa using hh
               have hz := any_none (zj (by omega) h0k)
               rw [if_neg (by rw [← hz]; decide)] at hF
               skip
               exact za rfl (hJ _ (i + 1) ⟨by omega, ya h0 hF⟩ (by omega) ⟨⟨cwi (by omega) (by omega) (by omega), rfl, trivial⟩, trivial, rfl⟩)
   · have h : ¬ i < c.shs.length := by simpa using h
     have hz := qe (f := q27 c) (n := c.shs.length) (fun j hj => h0 j (by omega))
     refine xv rfl rfl rfl ?_
     exact vi (hz.symm)
theorem y8m (c : Clu) (ho : q00 c) : PC Tryz.prog 133 [.one (.p c.cs)] (rI (scan (z2m c) c.accs.length)) := by
 refine PC.begin Tryz.func133 rfl (by kernel_rfl) ?_
 have hl := ho.2.2.1.1
 refine zc rfl (ι := Nat) (fun i => i ≤ c.accs.length ∧ ∀ j, j < i → z2m c j = 0) (fun i => ⟨[(3, sV (.int .i64 i)), (0, .one (.b (.p c.cs)))], []⟩) (fun i => c.accs.length - i) 0 ⟨Nat.zero_le _, fun j hj => by omega⟩ ?_ ?_
 · exact ⟨⟨rfl, rfl, trivial⟩, trivial, rfl⟩
 · intro i ⟨hi, h0⟩ J hJ
   refine xb rfl ?_ ?_ <;> intro h
   · have h : i < c.accs.length := by simpa using h
     obtain ⟨a, hx⟩ := gx h
     have hg := gm Acc.cs hx
     have hao := ho.2.2.1.2 a (List.mem_of_getElem? hx)
     have hF : z2m c i = q97 c a := by unfold z2m; rw [hx]
     have hal := hao.1
     refine xs rfl (nn_ _) (q8 rfl _ hg (xs rfl rfl (z6 rfl (z9t a hao) rfl ⟨⟨trivial, trivial⟩, trivial⟩ ?_)))
     refine xb rfl ?_ ?_ <;> intro b0
     refine xv rfl rfl rfl ?_; rotate_left
     rotate_left
     all_goals first
      | (refine vi (q7 h h0 ?_ (by first | decide | (clear hJ h0; simp_all; done))); clear hJ h0 hg; rw [hF]; unfold q97; simp_all; done)
      | skip
     have haf : a.fault = 0 := by simpa using b0
     unfold q97 at hF
     rw [if_neg (by simpa using haf)] at hF
     refine zc rfl (ι := Nat) (fun k => k ≤ a.slots.length ∧ ∀ j y, j < k → a.slots[j]? = some y → (!(z12 c.cons y.c y.s)) = false) (fun k => ⟨[(5, sV (.int .i64 k)), (3, sV (.int .i64 i)), (0, .one (.b (.p c.cs)))], []⟩) (fun k => a.slots.length - k) 0 ⟨Nat.zero_le _, fun j y hj => by omega⟩ ?_ ?_
     · exact ⟨⟨rfl, rfl, rfl, trivial⟩, trivial, rfl⟩
     · intro k ⟨hk, h0k⟩ Jk hJk
       refine xs rfl (nn_ _) (q8 rfl _ hg (xs rfl rfl ?_))
       refine xb rfl ?_ ?_ <;> intro hh
       · have hh : k < a.slots.length := by simpa using hh
         obtain ⟨y, hy⟩ := gx hh
         have hgy := gm Slt.cs hy
         refine xs rfl (nn_ _) (q8 rfl _ hg (xs rfl rfl (xs rfl (nn_ _) (q8 rfl _ hgy (xs rfl rfl (z6 rfl (yw _ (by assumption) _ _) rfl tv4 ?_))))))
         refine xb rfl ?_ ?_ <;> intro b0
         refine xv rfl rfl rfl ?_; rotate_left
         rotate_left
         · exact vi (q7 h h0 (by rw [hF, if_pos (zu hy b0).symm]) (by decide))
         · exact za rfl (hJk _ (k + 1) ⟨by omega, yf hy h0k b0⟩ (by omega) ⟨⟨cwi (by omega) (by omega) (by omega), rfl, rfl, trivial⟩, trivial, rfl⟩)
       · have hh : ¬ k < a.slots.length := by simpa using hh
         have hz := any_none (zj (by omega) h0k)
         rw [if_neg (by rw [← hz]; decide)] at hF
         skip
         exact za rfl (hJ _ (i + 1) ⟨by omega, ya h0 hF⟩ (by omega) ⟨⟨cwi (by omega) (by omega) (by omega), rfl, trivial⟩, trivial, rfl⟩)
   · have h : ¬ i < c.accs.length := by simpa using h
     have hz := qe (f := z2m c) (n := c.accs.length) (fun j hj => h0 j (by omega))
     refine xv rfl rfl rfl ?_
     exact vi (hz.symm)
theorem qaa (rr : List (List Cell)) (us : List Vt) (p : Vt → Bool) (fn : Nat) (hr : rr = us.map Vt.cs) (hf : ∀ x ∈ us, PC Tryz.prog fn [.agg x.cs] (rB (p x))) (hl : us.length ≤ 1048576) : PC Tryz.prog 377 [.one (.l rr), .one (.f fn [])] (rI (q1a p us)) := by
 refine PC.begin Tryz.func377 rfl (by kernel_rfl) ?_
 subst hr
 have hn : (us.map Vt.cs).length = us.length := by simp
 refine zc rfl (ι := Nat) (fun i => i ≤ us.length ∧ ∀ j y, j < i → us[j]? = some y → p y = false) (fun i => ⟨[(8, sV (.int .i64 i)), (7, sV (.int .i64 (us.map Vt.cs).length)), (0, .one (.b (.l (us.map Vt.cs)))), (1, .one (.b (.f fn [])))], []⟩) (fun i => us.length - i) 0 ⟨Nat.zero_le _, fun j y hj => by omega⟩ ?_ ?_
 · exact ⟨⟨rfl, rfl, rfl, rfl, trivial⟩, trivial, rfl⟩
 · intro i ⟨hi, h0⟩ J hJ
   refine xb rfl ?_ ?_ <;> intro h
   · have h : i < us.length := by simpa using h
     obtain ⟨x, hx⟩ := gx h
     have hg := gm Vt.cs hx
     have hxm := List.mem_of_getElem? hx
     refine xs rfl (nn_ _) (q8 rfl _ hg (xs rfl rfl (z6 rfl (hf _ hxm) rfl ⟨tv3, trivial⟩ ?_)))
     refine xb rfl ?_ ?_ <;> intro b0
     refine xv rfl rfl rfl ?_; rotate_left
     rotate_left
     · exact vi (z04 hx h0 b0).symm
     · exact za rfl (hJ _ (i + 1) ⟨by omega, yf hx h0 b0⟩ (by omega) ⟨⟨cwi (by omega) (by omega) (by omega), rfl, rfl, rfl, trivial⟩, trivial, rfl⟩)
   · have h : ¬ i < us.length := by simpa using h
     refine xv rfl rfl rfl ?_
     exact vi (zy (zj (by omega) h0)).symm
theorem qa6 (rr : List (List Cell)) (us : List Vt) (p : Vt → Bool) (fn : Nat) (hr : rr = us.map Vt.cs) (hf : ∀ x ∈ us, PC Tryz.prog fn [.agg x.cs] (rB (p x))) (hl : us.length ≤ 1048576) : PC Tryz.prog 274 [.one (.l rr), .one (.f fn [])] (rB (us.any p)) := by
 refine PC.begin Tryz.func274 rfl (by kernel_rfl) ?_
 have hi := qaa rr us p fn hr hf hl
 refine z6 rfl (hi) rfl tv3 (xv rfl rfl rfl ?_)
 exact vb z0i
theorem y9i (rr : List (List Cell)) (us : List Int) (p : Int → Bool) (fn : Nat) (c0 : Cell) (hr : rr = ints us) (hf : ∀ x ∈ us, PC Tryz.prog fn [.one (i64 x), .one c0] (rB (p x))) (hl : us.length ≤ 1048576) : PC Tryz.prog 164 [.one (.l rr), .one (.f fn [c0])] (rI (q1a p us)) := by
 refine PC.begin Tryz.func164 rfl (by kernel_rfl) ?_
 subst hr
 have hn : (ints us).length = us.length := by simp
 refine zc rfl (ι := Nat) (fun i => i ≤ us.length ∧ ∀ j y, j < i → us[j]? = some y → p y = false) (fun i => ⟨[(8, sV (.int .i64 i)), (7, sV (.int .i64 (ints us).length)), (0, .one (.b (.l (ints us)))), (1, .one (.b (.f fn [c0])))], []⟩) (fun i => us.length - i) 0 ⟨Nat.zero_le _, fun j y hj => by omega⟩ ?_ ?_
 · exact ⟨⟨rfl, rfl, rfl, rfl, trivial⟩, trivial, rfl⟩
 · intro i ⟨hi, h0⟩ J hJ
   refine xb rfl ?_ ?_ <;> intro h
   · have h : i < us.length := by simpa using h
     obtain ⟨x, hx⟩ := gx h
     have hg := gm (fun n => [i64 n]) hx
     have hxm := List.mem_of_getElem? hx
     refine xs rfl (nn_ _) (q8 rfl _ hg (xs rfl rfl (z6 rfl (hf _ hxm) rfl tv3 ?_)))
     refine xb rfl ?_ ?_ <;> intro b0
     refine xv rfl rfl rfl ?_; rotate_left
     rotate_left
     · exact vi (z04 hx h0 b0).symm
     · exact za rfl (hJ _ (i + 1) ⟨by omega, yf hx h0 b0⟩ (by omega) ⟨⟨cwi (by omega) (by omega) (by omega), rfl, rfl, rfl, trivial⟩, trivial, rfl⟩)
   · have h : ¬ i < us.length := by simpa using h
     refine xv rfl rfl rfl ?_
     exact vi (zy (zj (by omega) h0)).symm
theorem q98 (rr : List (List Cell)) (us : List Int) (p : Int → Bool) (fn : Nat) (c0 : Cell) (hr : rr = ints us) (hf : ∀ x ∈ us, PC Tryz.prog fn [.one (i64 x), .one c0] (rB (p x))) (hl : us.length ≤ 1048576) : PC Tryz.prog 74 [.one (.l rr), .one (.f fn [c0])] (rB (us.any p)) := by
 refine PC.begin Tryz.func74 rfl (by kernel_rfl) ?_
 have hi := y9i rr us p fn c0 hr hf hl
 refine z6 rfl (hi) rfl tv3 (xv rfl rfl rfl ?_)
 exact vb z0i
theorem z9i (us : List Int) (v : Int) (rr : List (List Cell)) (hr : rr = ints us) (hl : us.length ≤ 1048576) : PC Tryz.prog 176 [.one (.l rr), .one (i64 v)] (rI (q1a (fun y => y == v) us)) := by
 refine PC.begin Tryz.func176 rfl (by kernel_rfl) ?_
 subst hr
 have hn : (ints us).length = us.length := by simp
 refine zc rfl (ι := Nat) (fun i => i ≤ us.length ∧ ∀ j y, j < i → us[j]? = some y → (y == v) = false) (fun i => ⟨[(8, sV (.int .i64 i)), (7, sV (.int .i64 (ints us).length)), (0, .one (.b (.l (ints us)))), (1, sV (.int .i64 v))], []⟩) (fun i => us.length - i) 0 ⟨Nat.zero_le _, fun j y hj => by omega⟩ ?_ ?_
 · exact ⟨⟨rfl, rfl, rfl, rfl, trivial⟩, trivial, rfl⟩
 · intro i ⟨hi, h0⟩ J hJ
   refine xb rfl ?_ ?_ <;> intro h
   · have h : i < us.length := by simpa using h
     obtain ⟨x, hx⟩ := gx h
     have hg := gm (fun n => [i64 n]) hx
     refine xs rfl (nn_ _) (q8 rfl _ hg (xs rfl rfl ?_))
     refine xb rfl ?_ ?_ <;> intro b0
     refine xv rfl rfl rfl ?_; rotate_left
     rotate_left
     · exact vi (z04 hx h0 (by rw [beq_iff_eq] at b0 ⊢; exact b0.symm)).symm
     · exact za rfl (hJ _ (i + 1) ⟨by omega, yf hx h0 (by rw [beq_eq_false_iff_ne] at b0 ⊢; exact fun e => b0 e.symm)⟩ (by omega) ⟨⟨cwi (by omega) (by omega) (by omega), rfl, rfl, rfl, trivial⟩, trivial, rfl⟩)
   · have h : ¬ i < us.length := by simpa using h
     refine xv rfl rfl rfl ?_
     exact vi (zy (p := fun y => y == v) (zj (by omega) h0)).symm
theorem y7c (us : List Int) (v : Int) (rr : List (List Cell)) (hr : rr = ints us) (hl : us.length ≤ 1048576) : PC Tryz.prog 88 [.one (.l rr), .one (i64 v)] (rB (us.any fun y => y == v)) := by
 refine PC.begin Tryz.func88 rfl (by kernel_rfl) ?_
 refine z6 rfl (z9i us v _ hr hl) rfl tv3 (xv rfl rfl rfl ?_)
 exact vb z0i
theorem q5q (c : Clu) (ho : q00 c) (p : Int) : PC Tryz.prog 424 [.one (i64 p), .one (.p [.p c.cs])] (rB (z1t c p)) := by
 refine PC.begin Tryz.func424 rfl (by kernel_rfl) ?_
 have q2 := ho.2.2.1.1
 have p2 : (c.accs.map Acc.cs).length ≤ 1048576 := by simpa using q2
 refine z6 rfl (q0f _ _ (by assumption)) rfl tv3 (xv rfl rfl rfl ?_)
 all_goals (refine vb ?_; unfold z1t; rw [List.length_map])
theorem q8t (x : Vt) : PC Tryz.prog 425 [.agg x.cs] (rB (z0r x)) := by
 refine PC.begin Tryz.func425 rfl (by kernel_rfl) ?_
 refine zb rfl [] (.take 0 (Rg 2 7) (.alt 1 (Tk [2, 3] (.take 4 (Rg 5 4) (.alt 5 (Tk [6, 7, 8] .done) .nil))) .nil)) (by kernel_rfl) (z6 rfl (q32) rfl trivial ?_)
 refine xb rfl ?_ ?_ <;> intro b0
 refine xj (k := 1) rfl (z6 rfl (z21 _) rfl ⟨tv3, trivial⟩ (xj (k := 2) rfl ?_))
 refine xv rfl rfl rfl ?_; rotate_left
 refine xj (k := 3) rfl ?_
 refine xv rfl rfl rfl ?_; rotate_left
 all_goals (refine vb ?_; simp_all [z0r, y1z, Vt.none])
theorem z30 (us : List Int) (k : Nat) : List.drop (none.getD 0 : Int).toNat (List.take ((some (k : Int)).getD ((ints us).length : Int)).toNat (ints us)) = ints (us.take k) := by
 simp [ints, List.map_take]
theorem z5u (c : Clu) (ho : q00 c) (t : Tr) (ht : ya4 t) : PC Tryz.prog 346 [.one (.p c.cs), .agg t.cs] (rI (if t.fr.length != t.olds.length then 1 else z6w c t)) := by
 refine PC.begin Tryz.func346 rfl (by kernel_rfl) ?_
 obtain ⟨o1, o2⟩ := ht
 have hf := q98 _ t.fr (z1t c) 424 (.p [.p c.cs]) rfl (fun x _ => q5q c ho x) o1
 have hw := qa6 _ t.olds z0r 425 rfl (fun x _ => q8t x) o2
 refine xb rfl ?_ ?_ <;> intro h0
 · have h0 : ¬ t.fr.length = t.olds.length := by simp at h0; omega
   rw [if_pos (by simpa using h0)]
   refine xr rfl (zm rfl ⟨⟨rfl, rfl, trivial⟩, z7 rfl⟩)
 · have h0 : t.fr.length = t.olds.length := by simp at h0; omega
   rw [if_neg (by simpa using h0)]
   refine z6 rfl (hf) rfl ⟨trivial, (List.forall_mem_cons.2 ⟨⟨trivial, trivial⟩, (fun _ h => nomatch h)⟩), trivial⟩ ?_
   refine xb rfl ?_ ?_ <;> intro b0
   refine xj (k := 5) rfl ?_
   refine xv rfl rfl rfl ?_; rotate_left
   refine xj (k := 3) rfl (z6 rfl (hw) rfl ⟨trivial, (fun _ h => nomatch h), trivial⟩ (xj (k := 1) rfl ?_))
   refine xb rfl ?_ ?_ <;> intro b1
   refine xv rfl rfl rfl ?_; rotate_left
   rotate_left
   all_goals first | (refine vi ?_; clear hf hw; unfold z6w; simp_all; done) | skip
   have hfw : (t.fr.any (z1t c) || t.olds.any z0r) = false := by rw [b0, b1]; rfl
   unfold z6w
   rw [hfw]
   rw [if_neg (by decide)]
   clear hf hw b0 b1 hfw
   refine zc rfl (ι := Nat) (fun i => i ≤ t.fr.length ∧ ∀ j, j < i → y0s t.fr j = 0) (fun i => ⟨[(32, sV (.int .i64 i)), (31, sV (.int .i64 (ints t.fr).length)), (30, .one (.b (.l (ints t.fr)))), (3, .one (.a 3 0))], [(3, .var (t.cs.map .b))]⟩) (fun i => t.fr.length - i) 0 ⟨Nat.zero_le _, fun j hj => by omega⟩ ?_ ?_
   · exact ⟨⟨rfl, rfl, rfl, ⟨rfl, rfl, rfl⟩, trivial⟩, ⟨lcr, trivial⟩, rfl⟩
   · intro i ⟨hi, h0⟩ J hJ
     refine xb rfl ?_ ?_ <;> intro h
     · have h : i < t.fr.length := by simpa using h
       obtain ⟨x, hx⟩ := gx h
       have hg := gm (fun n => [i64 n]) hx
       refine xs rfl (nn_ _) (q8 rfl _ hg (xs rfl rfl (xs rfl (.inl rfl) (xs rfl (nn_ _) (xs rfl (nn_ _) (xs rfl (by simp; omega) (z6 rfl (y7c (t.fr.take i) x _ (z30 _ _) (by rw [List.length_take]; omega)) rfl tv3 ?_)))))))
       refine xb rfl ?_ ?_ <;> intro b0
       refine xv rfl rfl rfl ?_; rotate_left
       rotate_left
       · exact vi (q7 h h0 (by unfold y0s; rw [hx]; exact if_pos b0) (by decide))
       · exact za rfl (hJ _ (i + 1) ⟨by omega, ya h0 (by unfold y0s; rw [hx]; exact if_neg (by rw [b0]; decide))⟩ (by omega) ⟨⟨cwi (by omega) (by omega) (by omega), rfl, rfl, ⟨rfl, rfl, rfl⟩, trivial⟩, ⟨lcr, trivial⟩, rfl⟩)
     · have h : ¬ i < t.fr.length := by simpa using h
       have hz := qe (f := y0s t.fr) (n := t.fr.length) (fun j hj => h0 j (by omega))
       refine xv rfl rfl rfl ?_
       exact vi (hz.symm)
theorem y2v (a b : Tr) : PC Tryz.prog 320 [.agg a.cs, .agg b.cs] (rI (orr [y0c a.c b.c, y0c a.s b.s])) := by
 refine PC.begin Tryz.func320 rfl (by kernel_rfl) ?_
 refine zb rfl [] (.take 0 [] (.take 1 [4, 9, 10, 11, 12] (.take 2 [] (.take 3 [4, 9, 10, 11, 12] (.take 5 [] (.take 6 (Rg 9 4) (.take 7 [] (.take 8 (Rg 9 4) (.alt 4 (.alt 9 (.alt 10 (.alt 11 (.take 12 [] .done) .nil) .nil) .nil) .nil))))))))) (by kernel_rfl) (z6 rfl (qr _ _) rfl tv3 (z6 rfl (qr _ _) rfl tv3 (xs rfl tv3 (z6 rfl (z8k [_, _] (by simp)) rfl ⟨rfl, trivial⟩ ?_))))
 refine xr rfl (zm rfl ⟨⟨rfl, rfl, trivial⟩, z7 rfl⟩)
theorem z8z {p x : Tr} : 0 ≤ orr [y0c p.c x.c, y0c p.s x.s] ↔ Tr.lt p x = false := by
 unfold orr orr orr y0c Tr.lt
 repeat' split
 all_goals (simp; try omega)
theorem q2u (a b : Hd) : PC Tryz.prog 349 [.agg a.cs, .agg b.cs] (rI (Hd.cmp a b)) := by
 refine PC.begin Tryz.func349 rfl (by kernel_rfl) ?_
 refine zb rfl [] (.take 0 [] (.take 1 [4, 9, 14, 19, 24, 25, 26, 27] (.take 2 [] (.take 3 [4, 9, 14, 19, 24, 25, 26, 27] (.take 5 [] (.take 6 [9, 14, 19, 24, 25, 26, 27] (.take 7 [] (.take 8 [9, 14, 19, 24, 25, 26, 27] (.take 10 [] (.take 11 [14, 19, 24, 25, 26, 27] (.take 12 [] (.take 13 [14, 19, 24, 25, 26, 27] (.take 15 [] (.take 16 [19, 24, 25, 26, 27] (.take 17 [] (.take 18 [19, 24, 25, 26, 27] (.take 20 [] (.take 21 (Rg 24 4) (.take 22 [] (.take 23 (Rg 24 4) (.alt 4 (.alt 9 (.alt 14 (.alt 19 (.alt 24 (.alt 25 (.alt 26 (.take 27 [] .done) .nil) .nil) .nil) .nil) .nil) .nil) .nil))))))))))))))))))))) (by kernel_rfl) (z6 rfl (qr _ _) rfl tv3 (z6 rfl (qr _ _) rfl tv3 (z6 rfl (qr _ _) rfl tv3 (z6 rfl (qr _ _) rfl tv3 (z6 rfl (qr _ _) rfl tv3 (xs rfl tv6 (z6 rfl (z8k [_, _, _, _, _] (by simp)) rfl ⟨rfl, trivial⟩ ?_)))))))
 refine xr rfl (zm rfl ⟨⟨rfl, rfl, trivial⟩, z7 rfl⟩)
theorem y8y {p x : Hd} : 0 ≤ Hd.cmp p x ↔ Hd.lt p x = false := by
 unfold Hd.lt
 simp
theorem z7e (c : Clu) (ho : q00 c) (ts : List Tr) (hl : ts.length ≤ 1048576) (ht : ∀ t ∈ ts, ya4 t) : PC Tryz.prog 253 [.one (.p c.cs), .one (.l (ts.map Tr.cs))] (rI (scan (y3c c ts) ts.length)) := by
 refine PC.begin Tryz.func253 rfl (by kernel_rfl) ?_
 refine zc rfl (ι := Nat) (fun i => i ≤ ts.length ∧ ∀ j, j < i → y3c c ts j = 0) (fun i => ⟨[(10, sV (.int .i64 i)), (9, sV (.int .i64 (ts.map Tr.cs).length)), (8, .one (.b (.l (ts.map Tr.cs)))), (0, .one (.b (.p c.cs))), (1, .one (.b (.l (ts.map Tr.cs))))], []⟩) (fun i => ts.length - i) 0 ⟨Nat.zero_le _, fun j hj => by omega⟩ ?_ ?_
 · exact ⟨⟨rfl, rfl, rfl, rfl, rfl, trivial⟩, trivial, rfl⟩
 · intro i ⟨hi, h0⟩ J hJ
   refine xb rfl ?_ ?_ <;> intro h
   · have h : i < ts.length := by simpa using h
     obtain ⟨x, hx⟩ := gx h
     have hg := gm Tr.cs hx
     have hxt := ht x (List.mem_of_getElem? hx)
     rcases Nat.eq_zero_or_pos i with hz | hz
     · subst hz
       refine xs rfl (nn_ _) (q8 rfl _ hg (xs rfl rfl (z6 rfl (y18 _ (by assumption) _ _) rfl tv4 ?_)))
       refine xb rfl ?_ ?_ <;> intro b0
       refine xv rfl rfl rfl ?_; rotate_left
       refine z6 rfl (zk _ _ _) rfl tv4 ?_
       refine xb rfl ?_ ?_ <;> intro b1
       refine xj (k := 5) rfl ?_
       refine xv rfl rfl rfl ?_; rotate_left
       refine xj (k := 2) rfl (z6 rfl (zk _ _ _) rfl tv4 (xj (k := 2) rfl ?_))
       refine xb rfl ?_ ?_ <;> intro b2
       refine xv rfl rfl rfl ?_; rotate_left
       refine zb rfl [] (Tk (Rg 0 7) (.take 7 (Rg 9 4) (.take 8 (Rg 9 4) (.alt 9 (Tk [10, 11, 12] .done) .nil)))) (by kernel_rfl) (xj (k := 10) rfl (z6 rfl (z5u c ho x hxt) rfl ⟨trivial, tv7, trivial⟩ ?_))
       refine xb rfl ?_ ?_ <;> intro b3
       refine xv rfl rfl rfl ?_; rotate_left
       rotate_left
       all_goals (first | (refine vi (q7 h h0 ?_ (by first | decide | decide | simp_all)); clear hJ h0 hg; (first | (simp_all [y3c, ahead_zero, z8z, z59]; done) | (simp_all [y3c, ahead_zero, z8z, z59]; omega)); done) | (refine za rfl (hJ _ 1 ⟨by omega, ya h0 ?_⟩ (by omega) ⟨⟨cwi (by omega) (by omega) (by omega), rfl, rfl, rfl, rfl, trivial⟩, trivial, rfl⟩); clear hJ h0 hg; (first | (simp_all [y3c, ahead_zero, z8z, z59]; done) | (simp_all [y3c, ahead_zero, z8z, z59]; omega)); done) | skip)
     · obtain ⟨p, hp⟩ := gx (xs := ts) (i := i - 1) (by omega)
       have hgp := q11 Tr.cs hz (by omega) hp
       refine xs rfl (nn_ _) (q8 rfl _ hg (xs rfl rfl (z6 rfl (y18 _ (by assumption) _ _) rfl tv4 ?_)))
       refine xb rfl ?_ ?_ <;> intro b0
       refine xv rfl rfl rfl ?_; rotate_left
       refine z6 rfl (zk _ _ _) rfl tv4 ?_
       refine xb rfl ?_ ?_ <;> intro b1
       refine xj (k := 5) rfl ?_
       refine xv rfl rfl rfl ?_; rotate_left
       refine xj (k := 2) rfl (z6 rfl (zk _ _ _) rfl tv4 (xj (k := 2) rfl ?_))
       refine xb rfl ?_ ?_ <;> intro b2
       refine xv rfl rfl rfl ?_; rotate_left
       refine zb rfl [] (Tk (Rg 0 7) (.take 7 (Rg 9 4) (.take 8 (Rg 9 4) (.alt 9 (Tk [10, 11, 12] .done) .nil)))) (by kernel_rfl) ?_
       refine xb rfl ?_ ?_ <;> intro b3
       refine xj (k := 3) rfl (xs rfl (z0k hz (by omega)) (q8 rfl _ hgp (xs rfl rfl (xj (k := 3) rfl (z6 rfl (y2v _ _) rfl ⟨tv7, tv7, trivial⟩ (xj (k := 2) rfl ?_))))))
       refine xb rfl ?_ ?_ <;> intro b4
       refine xv rfl rfl rfl ?_; rotate_left
       refine z6 rfl (z5u c ho x hxt) rfl ⟨trivial, tv7, trivial⟩ ?_
       refine xb rfl ?_ ?_ <;> intro b5
       refine xv rfl rfl rfl ?_; rotate_left
       rotate_left
       refine xj (k := 9) rfl (z6 rfl (z5u c ho x hxt) rfl ⟨trivial, tv7, trivial⟩ ?_)
       refine xb rfl ?_ ?_ <;> intro b4
       refine xv rfl rfl rfl ?_; rotate_left
       rotate_left
       all_goals (first | (refine vi (q7 h h0 ?_ (by first | decide | decide | simp_all)); clear hJ h0 hg hgp; (first | (simp_all [y3c, y9 hz hp, z8z, z59]; done) | (simp_all [y3c, y9 hz hp, z8z, z59]; omega)); done) | (refine za rfl (hJ _ (i + 1) ⟨by omega, ya h0 ?_⟩ (by omega) ⟨⟨cwi (by omega) (by omega) (by omega), rfl, rfl, rfl, rfl, trivial⟩, trivial, rfl⟩); clear hJ h0 hg hgp; (first | (simp_all [y3c, y9 hz hp, z8z, z59]; done) | (simp_all [y3c, y9 hz hp, z8z, z59]; omega)); done) | skip)
   · have h : ¬ i < ts.length := by simpa using h
     have hz := qe (f := y3c c ts) (n := ts.length) (fun j hj => h0 j (by omega))
     clear hJ
     refine xv rfl rfl rfl ?_
     exact vi (hz.symm)
theorem q7d (c : Clu) (ho : q00 c) (ks : List Hd) (hl : ks.length ≤ 1048576) : PC Tryz.prog 254 [.one (.p c.cs), .one (.l (ks.map Hd.cs))] (rI (scan (hdF c ks) ks.length)) := by
 refine PC.begin Tryz.func254 rfl (by kernel_rfl) ?_
 have q2 := ho.2.2.1.1
 have p2 : (c.accs.map Acc.cs).length ≤ 1048576 := by simpa using q2
 refine zc rfl (ι := Nat) (fun i => i ≤ ks.length ∧ ∀ j, j < i → hdF c ks j = 0) (fun i => ⟨[(9, sV (.int .i64 i)), (8, sV (.int .i64 (ks.map Hd.cs).length)), (7, .one (.b (.l (ks.map Hd.cs)))), (0, .one (.b (.p c.cs))), (1, .one (.b (.l (ks.map Hd.cs))))], []⟩) (fun i => ks.length - i) 0 ⟨Nat.zero_le _, fun j hj => by omega⟩ ?_ ?_
 · exact ⟨⟨rfl, rfl, rfl, rfl, rfl, trivial⟩, trivial, rfl⟩
 · intro i ⟨hi, h0⟩ J hJ
   refine xb rfl ?_ ?_ <;> intro h
   · have h : i < ks.length := by simpa using h
     obtain ⟨x, hx⟩ := gx h
     have hg := gm Hd.cs hx
     rcases Nat.eq_zero_or_pos i with hz | hz
     · subst hz
       refine xs rfl (nn_ _) (q8 rfl _ hg (xs rfl rfl (z6 rfl (y18 _ (by assumption) _ _) rfl tv4 ?_)))
       refine xb rfl ?_ ?_ <;> intro b0
       refine xv rfl rfl rfl ?_; rotate_left
       refine zb rfl [] (.take 0 [] (.take 1 (Rg 2 19) (.alt 2 (Tk [3, 4, 5] (.take 6 (Rg 7 14) (.alt 7 (Tk (Rg 8 4) (.take 12 (Rg 17 4) (Tk [13, 14, 15] (.take 16 (Rg 17 4) (.alt 17 (Tk [18, 19, 20] .done) .nil))))) .nil))) .nil))) (by kernel_rfl) (z6 rfl (q07 _) rfl ⟨trivial, trivial⟩ ?_)
       refine xb rfl ?_ ?_ <;> intro b1
       refine xj (k := 14) rfl ?_
       refine xv rfl rfl rfl ?_; rotate_left
       refine xj (k := 2) rfl (z6 rfl (z0o _) rfl ⟨trivial, trivial⟩ (xj (k := 2) rfl ?_))
       refine xb rfl ?_ ?_ <;> intro b2
       refine xj (k := 9) rfl ?_
       refine xv rfl rfl rfl ?_; rotate_left
       refine xj (k := 6) rfl (z6 rfl (q0f _ _ (by assumption)) rfl tv3 (xj (k := 2) rfl ?_))
       refine xb rfl ?_ ?_ <;> intro b3
       refine xv rfl rfl rfl ?_; rotate_left
       refine zb rfl [] (Tk (Rg 0 7) (.take 7 (Rg 9 4) (.take 8 (Rg 9 4) (.alt 9 (Tk [10, 11, 12] .done) .nil)))) (by kernel_rfl) ?_
       refine xj (k := 10) rfl ?_; rotate_left
       all_goals (first | (refine vi (q7 h h0 ?_ (by first | decide | decide | simp_all)); clear hJ h0 hg; (first | (simp_all [hdF, ahead_zero, y8y]; done) | (simp_all [hdF, ahead_zero, y8y]; omega)); done) | (refine za rfl (hJ _ 1 ⟨by omega, ya h0 ?_⟩ (by omega) ⟨⟨cwi (by omega) (by omega) (by omega), rfl, rfl, rfl, rfl, trivial⟩, trivial, rfl⟩); clear hJ h0 hg; (first | (simp_all [hdF, ahead_zero, y8y]; done) | (simp_all [hdF, ahead_zero, y8y]; omega)); done) | skip)
     · obtain ⟨p, hp⟩ := gx (xs := ks) (i := i - 1) (by omega)
       have hgp := q11 Hd.cs hz (by omega) hp
       refine xs rfl (nn_ _) (q8 rfl _ hg (xs rfl rfl (z6 rfl (y18 _ (by assumption) _ _) rfl tv4 ?_)))
       refine xb rfl ?_ ?_ <;> intro b0
       refine xv rfl rfl rfl ?_; rotate_left
       refine zb rfl [] (.take 0 [] (.take 1 (Rg 2 19) (.alt 2 (Tk [3, 4, 5] (.take 6 (Rg 7 14) (.alt 7 (Tk (Rg 8 4) (.take 12 (Rg 17 4) (Tk [13, 14, 15] (.take 16 (Rg 17 4) (.alt 17 (Tk [18, 19, 20] .done) .nil))))) .nil))) .nil))) (by kernel_rfl) (z6 rfl (q07 _) rfl ⟨trivial, trivial⟩ ?_)
       refine xb rfl ?_ ?_ <;> intro b1
       refine xj (k := 14) rfl ?_
       refine xv rfl rfl rfl ?_; rotate_left
       refine xj (k := 2) rfl (z6 rfl (z0o _) rfl ⟨trivial, trivial⟩ (xj (k := 2) rfl ?_))
       refine xb rfl ?_ ?_ <;> intro b2
       refine xj (k := 9) rfl ?_
       refine xv rfl rfl rfl ?_; rotate_left
       refine xj (k := 6) rfl (z6 rfl (q0f _ _ (by assumption)) rfl tv3 (xj (k := 2) rfl ?_))
       refine xb rfl ?_ ?_ <;> intro b3
       refine xv rfl rfl rfl ?_; rotate_left
       refine zb rfl [] (Tk (Rg 0 7) (.take 7 (Rg 9 4) (.take 8 (Rg 9 4) (.alt 9 (Tk [10, 11, 12] .done) .nil)))) (by kernel_rfl) ?_
       refine xb rfl ?_ ?_ <;> intro b4
       refine xj (k := 3) rfl (xs rfl (z0k hz (by omega)) (q8 rfl _ hgp (xs rfl rfl (xj (k := 3) rfl (z6 rfl (q2u _ _) rfl ⟨tv6, tv6, trivial⟩ (xj (k := 2) rfl ?_))))))
       refine xb rfl ?_ ?_ <;> intro b5
       refine xv rfl rfl rfl ?_; rotate_left
       rotate_left
       refine xj (k := 9) rfl ?_; rotate_left
       all_goals (first | (refine vi (q7 h h0 ?_ (by first | decide | decide | simp_all)); clear hJ h0 hg hgp; (first | (simp_all [hdF, y9 hz hp, y8y]; done) | (simp_all [hdF, y9 hz hp, y8y]; omega)); done) | (refine za rfl (hJ _ (i + 1) ⟨by omega, ya h0 ?_⟩ (by omega) ⟨⟨cwi (by omega) (by omega) (by omega), rfl, rfl, rfl, rfl, trivial⟩, trivial, rfl⟩); clear hJ h0 hg hgp; (first | (simp_all [hdF, y9 hz hp, y8y]; done) | (simp_all [hdF, y9 hz hp, y8y]; omega)); done) | skip)
   · have h : ¬ i < ks.length := by simpa using h
     have hz := qe (f := hdF c ks) (n := ks.length) (fun j hj => h0 j (by omega))
     clear hJ
     refine xv rfl rfl rfl ?_
     exact vi (hz.symm)
theorem y9g (c : Clu) (ho : q00 c) (l : Ldr) (hl : q96 l) : PC Tryz.prog 148 [.one (.p c.cs), .agg l.cs] (rI (y7h c l)) := by
 refine PC.begin Tryz.func148 rfl (by kernel_rfl) ?_
 obtain ⟨l1, l2, l3⟩ := hl
 have hT := z7e c ho l.tries l1 l3
 have hK := q7d c ho l.known l2
 refine z6 rfl (zk _ _ _) rfl tv4 ?_
 refine xb rfl ?_ ?_ <;> intro b0
 refine xv rfl rfl rfl ?_; rotate_left
 refine xb rfl ?_ ?_ <;> intro b1
 refine xj (k := 5) rfl ?_
 refine xv rfl rfl rfl ?_; rotate_left
 refine xj (k := 4) rfl ?_
 refine xb rfl ?_ ?_ <;> intro b2
 refine xv rfl rfl rfl ?_; rotate_left
 refine zb rfl [] (Tk [0, 1] (.take 2 [3, 7, 8, 9, 10] (Tk [4, 5] (.take 6 (Rg 7 4) (.alt 3 (.alt 7 (.alt 8 (.alt 9 (.take 10 [] .done) .nil) .nil) .nil) .nil))))) (by kernel_rfl) (z6 rfl (hT) rfl tv3 (z6 rfl (hK) rfl tv3 (xs rfl tv3 (z6 rfl (q03 [_, _] (by simp)) rfl ⟨rfl, trivial⟩ ?_))))
 refine xv rfl rfl rfl ?_; rotate_left
 all_goals (refine vi ?_; clear hT hK; unfold y7h; simp_all; try omega)
theorem z4t (a b : Hd) : PC Tryz.prog 236 [.agg a.cs, .agg b.cs] (rB (Hd.lt a b)) := by
 refine PC.begin Tryz.func236 rfl (by kernel_rfl) ?_
 refine xs rfl tv6 (xs rfl tv6 ?_)
 refine zc rfl (ι := Nat) (fun i => i ≤ 5 ∧ (1 ≤ i → a.c = b.c) ∧ (2 ≤ i → a.s = b.s) ∧ (3 ≤ i → a.b = b.b) ∧ (4 ≤ i → a.v = b.v) ∧ (5 ≤ i → a.f = b.f)) (fun i => ⟨[(7, sV (.int .i64 i)), (5, .one (.h 18 5)), (6, .one (.h 29 5))], [(18, .arr true 1 0 [[i64 a.c], [i64 a.s], [i64 a.b], [i64 a.v], [i64 a.f]]), (29, .arr true 1 0 [[i64 b.c], [i64 b.s], [i64 b.b], [i64 b.v], [i64 b.f]])]⟩) (fun i => 5 - i) 0 ⟨by omega, by omega, by omega, by omega, by omega, by omega⟩ ?_ ?_
 · exact ⟨⟨rfl, ⟨rfl, rfl, rfl⟩, ⟨rfl, rfl, rfl⟩, trivial⟩, ⟨⟨rfl, .inl rfl, .inl rfl⟩, ⟨rfl, .inl rfl, .inl rfl⟩, trivial⟩, rfl⟩
 · intro i ⟨hi, h1, h2, h3, h4, h5⟩ J hJ
   have hc : i = 0 ∨ i = 1 ∨ i = 2 ∨ i = 3 ∨ i = 4 ∨ i = 5 := by omega
   rcases hc with rfl | rfl | rfl | rfl | rfl | rfl
   · skip
     clear h1 h2 h3 h4 h5
     have hga : [[i64 a.c], [i64 a.s], [i64 a.b], [i64 a.v], [i64 a.f]][((0 : Nat) : Int).toNat]? = some [i64 a.c] := rfl
     have hgb : [[i64 b.c], [i64 b.s], [i64 b.b], [i64 b.v], [i64 b.f]][((0 : Nat) : Int).toNat]? = some [i64 b.c] := rfl
     refine xj (k := 1) rfl (zb rfl [] (Tk [0, 1, 2] (.take 3 [8] (Tk [4, 5, 6] (.take 7 [8] (.take 8 [] .done))))) (by kernel_rfl) (xs rfl rfl (xs rfl (by decide) (q8 rfl _ hga (xs rfl rfl (xs rfl rfl (q8 rfl _ hga (xs rfl rfl (xs rfl (by decide) ?_)))))))))
     refine q8 rfl _ hgb (xs rfl rfl (xs rfl rfl (q8 rfl _ hgb ?_)))
     refine xb rfl ?_ ?_ <;> intro b0
     refine zb rfl [] (Tk [0, 1, 2] (.take 3 [8, 9] (Tk [4, 5, 6] (.take 7 [8, 9] (Tk [8, 9] .done))))) (by kernel_rfl) (xs rfl rfl (xs rfl (by decide) (q8 rfl _ hga (xs rfl rfl (xs rfl rfl (q8 rfl _ hga (xs rfl rfl (xs rfl (by decide) (q8 rfl _ hgb ?_)))))))))
     refine xs rfl rfl (xs rfl rfl (q8 rfl _ hgb ?_))
     refine xv rfl rfl rfl ?_; rotate_left
     rotate_left
     · have hn : ¬ a.c = b.c := by simpa using b0
       refine vb ?_
       rw [Bool.eq_iff_iff]
       simp only [Hd.lt, Hd.cmp, orr, y0c, decide_eq_true_eq]
       (repeat' split) <;> first | omega | (simp; omega) | (simp_all; done) | (simp_all; omega)
     · have hn : a.c = b.c := by simpa using b0
       exact za rfl (hJ _ 1 ⟨by omega, by omega, by omega, by omega, by omega, by omega⟩ (by omega) ⟨⟨rfl, ⟨rfl, rfl, rfl⟩, ⟨rfl, rfl, rfl⟩, trivial⟩, ⟨⟨rfl, .inl rfl, .inl rfl⟩, ⟨rfl, .inl rfl, .inl rfl⟩, trivial⟩, rfl⟩)
   · skip
     have e1 := h1 (by omega)
     clear h1 h2 h3 h4 h5
     have hga : [[i64 a.c], [i64 a.s], [i64 a.b], [i64 a.v], [i64 a.f]][((1 : Nat) : Int).toNat]? = some [i64 a.s] := rfl
     have hgb : [[i64 b.c], [i64 b.s], [i64 b.b], [i64 b.v], [i64 b.f]][((1 : Nat) : Int).toNat]? = some [i64 b.s] := rfl
     refine xj (k := 1) rfl (zb rfl [] (Tk [0, 1, 2] (.take 3 [8] (Tk [4, 5, 6] (.take 7 [8] (.take 8 [] .done))))) (by kernel_rfl) (xs rfl rfl (xs rfl (by decide) (q8 rfl _ hga (xs rfl rfl (xs rfl rfl (q8 rfl _ hga (xs rfl rfl (xs rfl (by decide) ?_)))))))))
     refine q8 rfl _ hgb (xs rfl rfl (xs rfl rfl (q8 rfl _ hgb ?_)))
     refine xb rfl ?_ ?_ <;> intro b0
     refine zb rfl [] (Tk [0, 1, 2] (.take 3 [8, 9] (Tk [4, 5, 6] (.take 7 [8, 9] (Tk [8, 9] .done))))) (by kernel_rfl) (xs rfl rfl (xs rfl (by decide) (q8 rfl _ hga (xs rfl rfl (xs rfl rfl (q8 rfl _ hga (xs rfl rfl (xs rfl (by decide) (q8 rfl _ hgb ?_)))))))))
     refine xs rfl rfl (xs rfl rfl (q8 rfl _ hgb ?_))
     refine xv rfl rfl rfl ?_; rotate_left
     rotate_left
     · have hn : ¬ a.s = b.s := by simpa using b0
       refine vb ?_
       rw [Bool.eq_iff_iff]
       simp only [Hd.lt, Hd.cmp, orr, y0c, e1, decide_eq_true_eq]
       (repeat' split) <;> first | omega | (simp; omega) | (simp_all; done) | (simp_all; omega)
     · have hn : a.s = b.s := by simpa using b0
       exact za rfl (hJ _ 2 ⟨by omega, by omega, by omega, by omega, by omega, by omega⟩ (by omega) ⟨⟨rfl, ⟨rfl, rfl, rfl⟩, ⟨rfl, rfl, rfl⟩, trivial⟩, ⟨⟨rfl, .inl rfl, .inl rfl⟩, ⟨rfl, .inl rfl, .inl rfl⟩, trivial⟩, rfl⟩)
   · skip
     have e1 := h1 (by omega)
     have e2 := h2 (by omega)
     clear h1 h2 h3 h4 h5
     have hga : [[i64 a.c], [i64 a.s], [i64 a.b], [i64 a.v], [i64 a.f]][((2 : Nat) : Int).toNat]? = some [i64 a.b] := rfl
     have hgb : [[i64 b.c], [i64 b.s], [i64 b.b], [i64 b.v], [i64 b.f]][((2 : Nat) : Int).toNat]? = some [i64 b.b] := rfl
     refine xj (k := 1) rfl (zb rfl [] (Tk [0, 1, 2] (.take 3 [8] (Tk [4, 5, 6] (.take 7 [8] (.take 8 [] .done))))) (by kernel_rfl) (xs rfl rfl (xs rfl (by decide) (q8 rfl _ hga (xs rfl rfl (xs rfl rfl (q8 rfl _ hga (xs rfl rfl (xs rfl (by decide) ?_)))))))))
     refine q8 rfl _ hgb (xs rfl rfl (xs rfl rfl (q8 rfl _ hgb ?_)))
     refine xb rfl ?_ ?_ <;> intro b0
     refine zb rfl [] (Tk [0, 1, 2] (.take 3 [8, 9] (Tk [4, 5, 6] (.take 7 [8, 9] (Tk [8, 9] .done))))) (by kernel_rfl) (xs rfl rfl (xs rfl (by decide) (q8 rfl _ hga (xs rfl rfl (xs rfl rfl (q8 rfl _ hga (xs rfl rfl (xs rfl (by decide) (q8 rfl _ hgb ?_)))))))))
     refine xs rfl rfl (xs rfl rfl (q8 rfl _ hgb ?_))
     refine xv rfl rfl rfl ?_; rotate_left
     rotate_left
     · have hn : ¬ a.b = b.b := by simpa using b0
       refine vb ?_
       rw [Bool.eq_iff_iff]
       simp only [Hd.lt, Hd.cmp, orr, y0c, e1, e2, decide_eq_true_eq]
       (repeat' split) <;> first | omega | (simp; omega) | (simp_all; done) | (simp_all; omega)
     · have hn : a.b = b.b := by simpa using b0
       exact za rfl (hJ _ 3 ⟨by omega, by omega, by omega, by omega, by omega, by omega⟩ (by omega) ⟨⟨rfl, ⟨rfl, rfl, rfl⟩, ⟨rfl, rfl, rfl⟩, trivial⟩, ⟨⟨rfl, .inl rfl, .inl rfl⟩, ⟨rfl, .inl rfl, .inl rfl⟩, trivial⟩, rfl⟩)
   · skip
     have e1 := h1 (by omega)
     have e2 := h2 (by omega)
     have e3 := h3 (by omega)
     clear h1 h2 h3 h4 h5
     have hga : [[i64 a.c], [i64 a.s], [i64 a.b], [i64 a.v], [i64 a.f]][((3 : Nat) : Int).toNat]? = some [i64 a.v] := rfl
     have hgb : [[i64 b.c], [i64 b.s], [i64 b.b], [i64 b.v], [i64 b.f]][((3 : Nat) : Int).toNat]? = some [i64 b.v] := rfl
     refine xj (k := 1) rfl (zb rfl [] (Tk [0, 1, 2] (.take 3 [8] (Tk [4, 5, 6] (.take 7 [8] (.take 8 [] .done))))) (by kernel_rfl) (xs rfl rfl (xs rfl (by decide) (q8 rfl _ hga (xs rfl rfl (xs rfl rfl (q8 rfl _ hga (xs rfl rfl (xs rfl (by decide) ?_)))))))))
     refine q8 rfl _ hgb (xs rfl rfl (xs rfl rfl (q8 rfl _ hgb ?_)))
     refine xb rfl ?_ ?_ <;> intro b0
     refine zb rfl [] (Tk [0, 1, 2] (.take 3 [8, 9] (Tk [4, 5, 6] (.take 7 [8, 9] (Tk [8, 9] .done))))) (by kernel_rfl) (xs rfl rfl (xs rfl (by decide) (q8 rfl _ hga (xs rfl rfl (xs rfl rfl (q8 rfl _ hga (xs rfl rfl (xs rfl (by decide) (q8 rfl _ hgb ?_)))))))))
     refine xs rfl rfl (xs rfl rfl (q8 rfl _ hgb ?_))
     refine xv rfl rfl rfl ?_; rotate_left
     rotate_left
     · have hn : ¬ a.v = b.v := by simpa using b0
       refine vb ?_
       rw [Bool.eq_iff_iff]
       simp only [Hd.lt, Hd.cmp, orr, y0c, e1, e2, e3, decide_eq_true_eq]
       (repeat' split) <;> first | omega | (simp; omega) | (simp_all; done) | (simp_all; omega)
     · have hn : a.v = b.v := by simpa using b0
       exact za rfl (hJ _ 4 ⟨by omega, by omega, by omega, by omega, by omega, by omega⟩ (by omega) ⟨⟨rfl, ⟨rfl, rfl, rfl⟩, ⟨rfl, rfl, rfl⟩, trivial⟩, ⟨⟨rfl, .inl rfl, .inl rfl⟩, ⟨rfl, .inl rfl, .inl rfl⟩, trivial⟩, rfl⟩)
   · skip
     have e1 := h1 (by omega)
     have e2 := h2 (by omega)
     have e3 := h3 (by omega)
     have e4 := h4 (by omega)
     clear h1 h2 h3 h4 h5
     have hga : [[i64 a.c], [i64 a.s], [i64 a.b], [i64 a.v], [i64 a.f]][((4 : Nat) : Int).toNat]? = some [i64 a.f] := rfl
     have hgb : [[i64 b.c], [i64 b.s], [i64 b.b], [i64 b.v], [i64 b.f]][((4 : Nat) : Int).toNat]? = some [i64 b.f] := rfl
     refine xj (k := 1) rfl (zb rfl [] (Tk [0, 1, 2] (.take 3 [8] (Tk [4, 5, 6] (.take 7 [8] (.take 8 [] .done))))) (by kernel_rfl) (xs rfl rfl (xs rfl (by decide) (q8 rfl _ hga (xs rfl rfl (xs rfl rfl (q8 rfl _ hga (xs rfl rfl (xs rfl (by decide) ?_)))))))))
     refine q8 rfl _ hgb (xs rfl rfl (xs rfl rfl (q8 rfl _ hgb ?_)))
     refine xb rfl ?_ ?_ <;> intro b0
     refine zb rfl [] (Tk [0, 1, 2] (.take 3 [8, 9] (Tk [4, 5, 6] (.take 7 [8, 9] (Tk [8, 9] .done))))) (by kernel_rfl) (xs rfl rfl (xs rfl (by decide) (q8 rfl _ hga (xs rfl rfl (xs rfl rfl (q8 rfl _ hga (xs rfl rfl (xs rfl (by decide) (q8 rfl _ hgb ?_)))))))))
     refine xs rfl rfl (xs rfl rfl (q8 rfl _ hgb ?_))
     refine xv rfl rfl rfl ?_; rotate_left
     rotate_left
     · have hn : ¬ a.f = b.f := by simpa using b0
       refine vb ?_
       rw [Bool.eq_iff_iff]
       simp only [Hd.lt, Hd.cmp, orr, y0c, e1, e2, e3, e4, decide_eq_true_eq]
       (repeat' split) <;> first | omega | (simp; omega) | (simp_all; done) | (simp_all; omega)
     · have hn : a.f = b.f := by simpa using b0
       exact za rfl (hJ _ 5 ⟨by omega, by omega, by omega, by omega, by omega, by omega⟩ (by omega) ⟨⟨rfl, ⟨rfl, rfl, rfl⟩, ⟨rfl, rfl, rfl⟩, trivial⟩, ⟨⟨rfl, .inl rfl, .inl rfl⟩, ⟨rfl, .inl rfl, .inl rfl⟩, trivial⟩, rfl⟩)
   · have e1 := h1 (by omega)
     have e2 := h2 (by omega)
     have e3 := h3 (by omega)
     have e4 := h4 (by omega)
     have e5 := h5 (by omega)
     refine xj (k := 1) rfl (xv rfl rfl rfl ?_)
     refine vb ?_
     simp [Hd.lt, Hd.cmp, orr, y0c, e1, e2, e3, e4, e5]
theorem z3t (c : Clu) (y : Int) : True := trivial
theorem q94 {c : Clu} {ts : List Tr} {i : Nat} {t : Tr} {h w1 w2 a d : Bool} (e1 : z12 c.cons t.c t.s = h) (e2 : Go.Sx.within t.b 1 1000 = w1) (e3 : Go.Sx.within t.v 0 2 = w2) (e4 : Go.Sx.ahead Tr.lt ts i t = a) (e5 : (t.fr.length != t.olds.length) = d) : z59 c ts i t = (bif h then (bif w1 then (bif w2 then (bif a then (bif d then 1 else z6w c t) else 1) else 3) else 3) else 4) := by
 unfold z59
 rw [e1, e2, e3, e4, e5]
 cases h <;> cases w1 <;> cases w2 <;> cases a <;> cases d <;> rfl
theorem qba {us : List Int} {vs : List Vt} : (((ints us).length : Int) != ((vs.map Vt.cs).length : Int)) = (us.length != vs.length) := by
 rw [Bool.eq_iff_iff]
 simp
 omega
theorem y9v (c : Clu) (ho : q00 c) (ts : List Tr) (i : Nat) (t : Tr) (hl : ts.length ≤ 1048576) (ht : ya4 t) (hx : ts[i]? = some t) : PC Tryz.prog 233 [.one (.p c.cs), .one (.l (ts.map Tr.cs)), .one (i64 i)] (rI (z59 c ts i t)) := by
 refine PC.begin Tryz.func233 rfl (by kernel_rfl) ?_
 obtain ⟨o1, o2⟩ := ht
 have hg := gm Tr.cs hx
 have hlt := (List.getElem?_eq_some_iff.1 hx).1
 have w2 := wl1 Acc.cs ho.2.2.1.1
 have hD := (qba (us := t.fr) (vs := t.olds)).symm
 rcases Nat.eq_zero_or_pos i with hz | hz
 · have hA : Go.Sx.ahead Tr.lt ts i t = true := by subst hz; rfl
   have hK := q94 (c := c) rfl rfl rfl hA hD
   subst hz
   refine xs rfl (nn_ _) (q8 rfl _ hg (xs rfl rfl (z6 rfl (yw _ (by assumption) _ _) rfl tv4 ?_)))
   refine xb rfl ?_ ?_ <;> intro b0
   refine xv rfl rfl rfl ?_; rotate_left
   refine z6 rfl (zh _ _ _) rfl tv4 ?_
   refine xb rfl ?_ ?_ <;> intro b1
   refine xj (k := 5) rfl ?_
   refine xv rfl rfl rfl ?_; rotate_left
   refine xj (k := 2) rfl (z6 rfl (zh _ _ _) rfl tv4 (xj (k := 2) rfl ?_))
   refine xb rfl ?_ ?_ <;> intro b2
   refine xv rfl rfl rfl ?_; rotate_left
   refine zb rfl [] (Tk (Rg 0 8) (.take 8 (Rg 15 1 ++ Rg 21 12) (Tk (Rg 9 5) (.take 14 (Rg 15 1 ++ Rg 21 12) (Tk [15, 16] (.take 17 (Rg 20 13) (.take 18 [] (.take 19 (Rg 20 13) (.take 20 [] (.alt 21 (Tk (Rg 22 4) (.take 26 [27, 31, 32] (Tk [27, 28] (.take 29 (Rg 30 3) (Tk [30, 31, 32] .done))))) .nil)))))))))) (by kernel_rfl) (xj (k := 29) rfl ?_)
   refine xb rfl ?_ ?_ <;> intro b3
   refine xv rfl rfl rfl ?_; rotate_left
   rotate_left
   all_goals first | (refine vi ?_; rw [hK]; clear hg hK hA; simp_all only [Bool.not_eq_true', Bool.not_eq_false', cond_true, cond_false]; done) | skip
   have hT : z59 c ts 0 t = z6w c t := by rw [hK]; clear hg hK hA; simp_all only [Bool.not_eq_true', Bool.not_eq_false', cond_true, cond_false]
   have hle : t.fr.length = t.olds.length := by have := hD.trans b3; simpa using this
   clear hK hD b0 b1 b2 b3 hA
   refine zc rfl (ι := Nat) (fun k => k ≤ t.fr.length ∧ (∀ j y, j < k → t.fr[j]? = some y → z1t c y = false) ∧ ∀ j y, j < k → t.olds[j]? = some y → z0r y = false) (fun k => ⟨[(8, sV (.int .i64 k)), (7, .one (.a 7 0)), (0, .one (.b (.p c.cs)))], [(7, .var (t.cs.map .b))]⟩) (fun k => t.fr.length - k) 0 ⟨Nat.zero_le _, fun j y hj => by omega, fun j y hj => by omega⟩ ?_ ?_
   · exact ⟨⟨rfl, ⟨rfl, rfl, rfl⟩, rfl, trivial⟩, ⟨⟨rfl, rfl, rfl, rfl, rfl, rfl, trivial⟩, trivial⟩, rfl⟩
   · intro k ⟨hk, h0k, h1k⟩ Jk hJk
     refine xb rfl ?_ ?_ <;> intro hh
     · have hh : k < t.fr.length := by simpa using hh
       obtain ⟨y, hy⟩ := gx hh
       obtain ⟨v, hv⟩ := gx (xs := t.olds) (i := k) (by omega)
       have hgy := gm (fun n => [i64 n]) hy
       have hgv := gm Vt.cs hv
       have hwq := z3t c y
       refine zb rfl [] (.take 0 [] (.take 1 (Rg 3 2 ++ Rg 11 20) (Tk [2, 3] (.take 4 (Rg 11 20) (Tk [5, 6, 7] (.take 8 (Rg 9 22) (Tk [9, 10] (.alt 11 (Tk [12, 13, 14] (.take 15 (Rg 17 2 ++ Rg 20 11) (Tk [16, 17] (.take 18 (Rg 20 11) (.alt 19 (Tk [20, 21, 22] (.take 23 (Rg 25 6) (Tk [24, 25] (.take 26 (Rg 27 4) (.alt 27 (Tk [28, 29, 30] .done) .nil))))) .nil))))) .nil)))))))) (by kernel_rfl) (xs rfl (nn_ _) (q8 rfl _ hgy (xs rfl rfl (z6 rfl (zh _ _ _) rfl tv4 ?_))))
       refine xb rfl ?_ ?_ <;> intro b0
       refine xj (k := 10) rfl ?_
       refine xv rfl rfl rfl ?_; rotate_left
       refine xj (k := 3) rfl (xs rfl (nn_ _) (q8 rfl _ hgv (xs rfl rfl (xj (k := 2) rfl (z6 rfl (y21) rfl trivial (xj (k := 2) rfl ?_))))))
       refine xb rfl ?_ ?_ <;> intro b1
       refine xj (k := 3) rfl (xs rfl (nn_ _) (q8 rfl _ hgv (xs rfl rfl (xj (k := 2) rfl (z6 rfl (y1u _) rfl ⟨tv3, trivial⟩ (xj (k := 4) rfl ?_))))))
       refine xb rfl ?_ ?_ <;> intro b2
       refine xv rfl rfl rfl ?_; rotate_left
       rotate_left
       refine xj (k := 10) rfl ?_; rotate_left
       all_goals first
        | (refine vi ?_
           have hb : z1t c y = true := by unfold z1t; rw [← w2]; assumption
           rw [hT]; unfold z6w; rw [zu hy hb |>.symm]; rfl)
        | (refine vi ?_
           have hb : z0r v = true := by unfold z0r; simp_all [y1b, Vt.none]
           rw [hT]; unfold z6w; rw [zu hv hb |>.symm, Bool.or_true]; rfl)
        | (have hb : z1t c y = false := by unfold z1t; rw [← w2]; assumption
           have hb2 : z0r v = false := by unfold z0r; simp_all [y1b, Vt.none]
           exact za rfl (hJk _ (k + 1) ⟨by omega, yf hy h0k hb, yf hv h1k hb2⟩ (by omega) ⟨⟨cwi (by omega) (by omega) (by omega), ⟨rfl, rfl, rfl⟩, rfl, trivial⟩, ⟨lcr, trivial⟩, rfl⟩))
        | skip
     · have hh : ¬ k < t.fr.length := by simpa using hh
       have ha := any_none (zj (by omega) h0k)
       have hb := any_none (l := t.olds) (zj (by omega) h1k)
       have hT2 : z59 c ts 0 t = scan (y0s t.fr) t.fr.length := by rw [hT]; unfold z6w; rw [← ha, ← hb]; rfl
       clear hJk h0k h1k ha hb
       refine zc rfl (ι := Nat) (fun k => k ≤ t.fr.length ∧ ∀ j, j < k → y0s t.fr j = 0) (fun k => ⟨[(9, sV (.int .i64 k)), (7, .one (.a 7 0)), (0, .one (.b (.p c.cs)))], [(7, .var (t.cs.map .b))]⟩) (fun k => t.fr.length - k) 0 ⟨Nat.zero_le _, fun j hj => by omega⟩ ?_ ?_
       · exact ⟨⟨rfl, ⟨rfl, rfl, rfl⟩, rfl, trivial⟩, ⟨lcr, trivial⟩, rfl⟩
       · intro k ⟨hk, h0k⟩ Jk hJk
         refine xb rfl ?_ ?_ <;> intro hh
         · have hh : k < t.fr.length := by simpa using hh
           obtain ⟨y, hy⟩ := gx hh
           have hgy := gm (fun n => [i64 n]) hy
           refine zb rfl [] (.take 0 [] (.take 1 [3, 9] (Tk [2, 3, 4] (.take 5 (Rg 7 3) (Tk [6, 7] (.take 8 [9] (.alt 9 .done .nil))))))) (by kernel_rfl) (xs rfl (.inl rfl) (xs rfl (nn_ _) (xs rfl (nn_ _) (xs rfl (by simp; omega) (xs rfl (nn_ _) (q8 rfl _ hgy (xs rfl rfl (z6 rfl (z2s _ (t.fr.take k) y (z30 _ _) (by rw [List.length_take]; omega)) rfl tv3 ?_))))))))
           refine xb rfl ?_ ?_ <;> intro b0
           refine xv rfl rfl rfl ?_; rotate_left
           rotate_left
           · exact vi (by rw [hT2]; exact q7 hh h0k (by unfold y0s; rw [hy]; exact if_pos b0) (by decide))
           · exact za rfl (hJk _ (k + 1) ⟨by omega, ya h0k (by unfold y0s; rw [hy]; exact if_neg (by rw [b0]; decide))⟩ (by omega) ⟨⟨cwi (by omega) (by omega) (by omega), ⟨rfl, rfl, rfl⟩, rfl, trivial⟩, ⟨lcr, trivial⟩, rfl⟩)
         · have hh : ¬ k < t.fr.length := by simpa using hh
           have hz := qe (f := y0s t.fr) (n := t.fr.length) (fun j hj => h0k j (by omega))
           refine xv rfl rfl rfl ?_
           exact vi (by rw [hT2, hz])
 · obtain ⟨p, hp⟩ := gx (xs := ts) (i := i - 1) (by omega)
   have hgp := q11 Tr.cs hz (by omega) hp
   have hA : Go.Sx.ahead Tr.lt ts i t = Slt.lt ⟨p.c, p.s, 0, 0, 0, []⟩ ⟨t.c, t.s, 0, 0, 0, []⟩ := y9 hz hp
   have hK := q94 (c := c) rfl rfl rfl hA hD
   refine xs rfl (nn_ _) (q8 rfl _ hg (xs rfl rfl (z6 rfl (yw _ (by assumption) _ _) rfl tv4 ?_)))
   refine xb rfl ?_ ?_ <;> intro b0
   refine xv rfl rfl rfl ?_; rotate_left
   refine z6 rfl (zh _ _ _) rfl tv4 ?_
   refine xb rfl ?_ ?_ <;> intro b1
   refine xj (k := 5) rfl ?_
   refine xv rfl rfl rfl ?_; rotate_left
   refine xj (k := 2) rfl (z6 rfl (zh _ _ _) rfl tv4 (xj (k := 2) rfl ?_))
   refine xb rfl ?_ ?_ <;> intro b2
   refine xv rfl rfl rfl ?_; rotate_left
   refine zb rfl [] (Tk (Rg 0 8) (.take 8 (Rg 15 1 ++ Rg 21 12) (Tk (Rg 9 5) (.take 14 (Rg 15 1 ++ Rg 21 12) (Tk [15, 16] (.take 17 (Rg 20 13) (.take 18 [] (.take 19 (Rg 20 13) (.take 20 [] (.alt 21 (Tk (Rg 22 4) (.take 26 [27, 31, 32] (Tk [27, 28] (.take 29 (Rg 30 3) (Tk [30, 31, 32] .done))))) .nil)))))))))) (by kernel_rfl) ?_
   refine xb rfl ?_ ?_ <;> intro b3
   refine xj (k := 3) rfl (xs rfl (z0k hz (by omega)) (q8 rfl _ hgp (xs rfl rfl (xj (k := 6) rfl (xs rfl (z0k hz (by omega)) (q8 rfl _ hgp (xs rfl rfl (xj (k := 9) rfl (z6 rfl (y3m ⟨p.c, p.s, 0, 0, 0, []⟩ ⟨t.c, t.s, 0, 0, 0, []⟩) rfl ⟨tv7, tv7, trivial⟩ ?_)))))))))
   refine xj (k := 2) rfl ?_
   refine xb rfl ?_ ?_ <;> intro b4
   refine xj (k := 8) rfl ?_
   refine xv rfl rfl rfl ?_; rotate_left
   refine xj (k := 7) rfl ?_
   refine xb rfl ?_ ?_ <;> intro b5
   refine xv rfl rfl rfl ?_; rotate_left
   rotate_left
   exact absurd b3 (by simp; omega)
   all_goals first | (refine vi ?_; rw [hK]; clear hg hgp hK hA; simp_all only [Bool.not_eq_true', Bool.not_eq_false', cond_true, cond_false]; done) | (exfalso; clear hK; simp at b3; omega) | skip
   have hT : z59 c ts i t = z6w c t := by rw [hK]; clear hg hgp hK hA; simp_all only [Bool.not_eq_true', Bool.not_eq_false', cond_true, cond_false]
   have hle : t.fr.length = t.olds.length := by have := hD.trans b5; simpa using this
   clear hK hD b0 b1 b2 b3 b4 b5 hA
   refine zc rfl (ι := Nat) (fun k => k ≤ t.fr.length ∧ (∀ j y, j < k → t.fr[j]? = some y → z1t c y = false) ∧ ∀ j y, j < k → t.olds[j]? = some y → z0r y = false) (fun k => ⟨[(8, sV (.int .i64 k)), (7, .one (.a 7 0)), (0, .one (.b (.p c.cs)))], [(7, .var (t.cs.map .b))]⟩) (fun k => t.fr.length - k) 0 ⟨Nat.zero_le _, fun j y hj => by omega, fun j y hj => by omega⟩ ?_ ?_
   · exact ⟨⟨rfl, ⟨rfl, rfl, rfl⟩, rfl, trivial⟩, ⟨⟨rfl, rfl, rfl, rfl, rfl, rfl, trivial⟩, trivial⟩, rfl⟩
   · intro k ⟨hk, h0k, h1k⟩ Jk hJk
     refine xb rfl ?_ ?_ <;> intro hh
     · have hh : k < t.fr.length := by simpa using hh
       obtain ⟨y, hy⟩ := gx hh
       obtain ⟨v, hv⟩ := gx (xs := t.olds) (i := k) (by omega)
       have hgy := gm (fun n => [i64 n]) hy
       have hgv := gm Vt.cs hv
       have hwq := z3t c y
       refine zb rfl [] (.take 0 [] (.take 1 (Rg 3 2 ++ Rg 11 20) (Tk [2, 3] (.take 4 (Rg 11 20) (Tk [5, 6, 7] (.take 8 (Rg 9 22) (Tk [9, 10] (.alt 11 (Tk [12, 13, 14] (.take 15 (Rg 17 2 ++ Rg 20 11) (Tk [16, 17] (.take 18 (Rg 20 11) (.alt 19 (Tk [20, 21, 22] (.take 23 (Rg 25 6) (Tk [24, 25] (.take 26 (Rg 27 4) (.alt 27 (Tk [28, 29, 30] .done) .nil))))) .nil))))) .nil)))))))) (by kernel_rfl) (xs rfl (nn_ _) (q8 rfl _ hgy (xs rfl rfl (z6 rfl (zh _ _ _) rfl tv4 ?_))))
       refine xb rfl ?_ ?_ <;> intro b0
       refine xj (k := 10) rfl ?_
       refine xv rfl rfl rfl ?_; rotate_left
       refine xj (k := 3) rfl (xs rfl (nn_ _) (q8 rfl _ hgv (xs rfl rfl (xj (k := 2) rfl (z6 rfl (y21) rfl trivial (xj (k := 2) rfl ?_))))))
       refine xb rfl ?_ ?_ <;> intro b1
       refine xj (k := 3) rfl (xs rfl (nn_ _) (q8 rfl _ hgv (xs rfl rfl (xj (k := 2) rfl (z6 rfl (y1u _) rfl ⟨tv3, trivial⟩ (xj (k := 4) rfl ?_))))))
       refine xb rfl ?_ ?_ <;> intro b2
       refine xv rfl rfl rfl ?_; rotate_left
       rotate_left
       refine xj (k := 10) rfl ?_; rotate_left
       all_goals first
        | (refine vi ?_
           have hb : z1t c y = true := by unfold z1t; rw [← w2]; assumption
           rw [hT]; unfold z6w; rw [zu hy hb |>.symm]; rfl)
        | (refine vi ?_
           have hb : z0r v = true := by unfold z0r; simp_all [y1b, Vt.none]
           rw [hT]; unfold z6w; rw [zu hv hb |>.symm, Bool.or_true]; rfl)
        | (have hb : z1t c y = false := by unfold z1t; rw [← w2]; assumption
           have hb2 : z0r v = false := by unfold z0r; simp_all [y1b, Vt.none]
           exact za rfl (hJk _ (k + 1) ⟨by omega, yf hy h0k hb, yf hv h1k hb2⟩ (by omega) ⟨⟨cwi (by omega) (by omega) (by omega), ⟨rfl, rfl, rfl⟩, rfl, trivial⟩, ⟨lcr, trivial⟩, rfl⟩))
        | skip
     · have hh : ¬ k < t.fr.length := by simpa using hh
       have ha := any_none (zj (by omega) h0k)
       have hb := any_none (l := t.olds) (zj (by omega) h1k)
       have hT2 : z59 c ts i t = scan (y0s t.fr) t.fr.length := by rw [hT]; unfold z6w; rw [← ha, ← hb]; rfl
       clear hJk h0k h1k ha hb
       refine zc rfl (ι := Nat) (fun k => k ≤ t.fr.length ∧ ∀ j, j < k → y0s t.fr j = 0) (fun k => ⟨[(9, sV (.int .i64 k)), (7, .one (.a 7 0)), (0, .one (.b (.p c.cs)))], [(7, .var (t.cs.map .b))]⟩) (fun k => t.fr.length - k) 0 ⟨Nat.zero_le _, fun j hj => by omega⟩ ?_ ?_
       · exact ⟨⟨rfl, ⟨rfl, rfl, rfl⟩, rfl, trivial⟩, ⟨lcr, trivial⟩, rfl⟩
       · intro k ⟨hk, h0k⟩ Jk hJk
         refine xb rfl ?_ ?_ <;> intro hh
         · have hh : k < t.fr.length := by simpa using hh
           obtain ⟨y, hy⟩ := gx hh
           have hgy := gm (fun n => [i64 n]) hy
           refine zb rfl [] (.take 0 [] (.take 1 [3, 9] (Tk [2, 3, 4] (.take 5 (Rg 7 3) (Tk [6, 7] (.take 8 [9] (.alt 9 .done .nil))))))) (by kernel_rfl) (xs rfl (.inl rfl) (xs rfl (nn_ _) (xs rfl (nn_ _) (xs rfl (by simp; omega) (xs rfl (nn_ _) (q8 rfl _ hgy (xs rfl rfl (z6 rfl (z2s _ (t.fr.take k) y (z30 _ _) (by rw [List.length_take]; omega)) rfl tv3 ?_))))))))
           refine xb rfl ?_ ?_ <;> intro b0
           refine xv rfl rfl rfl ?_; rotate_left
           rotate_left
           · exact vi (by rw [hT2]; exact q7 hh h0k (by unfold y0s; rw [hy]; exact if_pos b0) (by decide))
           · exact za rfl (hJk _ (k + 1) ⟨by omega, ya h0k (by unfold y0s; rw [hy]; exact if_neg (by rw [b0]; decide))⟩ (by omega) ⟨⟨cwi (by omega) (by omega) (by omega), ⟨rfl, rfl, rfl⟩, rfl, trivial⟩, ⟨lcr, trivial⟩, rfl⟩)
         · have hh : ¬ k < t.fr.length := by simpa using hh
           have hz := qe (f := y0s t.fr) (n := t.fr.length) (fun j hj => h0k j (by omega))
           refine xv rfl rfl rfl ?_
           exact vi (by rw [hT2, hz])
theorem zaw {c : Clu} {l : Ldr} (hn : Go.Sx.within l.n 0 400 = true) (hm : ¬ (60 < l.tries.length ∨ 300 < l.known.length)) {v : Int} (hv : v = scan (y3c c l.tries) l.tries.length) (h : v ≠ 0) : y7h c l = v := by
 unfold y7h
 rw [hn, if_neg (by decide), if_neg hm, orr, ← hv, if_pos h]
theorem z5i {c : Clu} {l : Ldr} (hn : Go.Sx.within l.n 0 400 = true) (hm : ¬ (60 < l.tries.length ∨ 300 < l.known.length)) (h1 : scan (y3c c l.tries) l.tries.length = 0) {v : Int} (hv : v = scan (hdF c l.known) l.known.length) : y7h c l = v := by
 unfold y7h
 rw [hn, if_neg (by decide), if_neg hm, orr, h1, if_neg (by decide), orr, ← hv, orr]
 split
 · rfl
 · rename_i h; have h : v = 0 := by simpa using h
   exact h.symm
theorem q8n (c : Clu) (ho : q00 c) : PC Tryz.prog 134 [.one (.p c.cs)] (rI (scan (q2m c) c.ldrs.length)) := by
 refine PC.begin Tryz.func134 rfl (by kernel_rfl) ?_
 have hl := ho.2.2.2.1.1
 have w2 := wl1 Acc.cs ho.2.2.1.1
 refine zc rfl (ι := Nat) (fun i => i ≤ c.ldrs.length ∧ ∀ j, j < i → q2m c j = 0) (fun i => ⟨[(3, sV (.int .i64 i)), (0, .one (.b (.p c.cs)))], []⟩) (fun i => c.ldrs.length - i) 0 ⟨Nat.zero_le _, fun j hj => by omega⟩ ?_ ?_
 · exact ⟨⟨rfl, rfl, trivial⟩, trivial, rfl⟩
 · intro io ⟨hio, h0o⟩ Jo hJo
   refine xb rfl ?_ ?_ <;> intro hho
   · have hho : io < c.ldrs.length := by simpa using hho
     obtain ⟨l, hlx⟩ := gx hho
     have hgl := gm Ldr.cs hlx
     obtain ⟨l1, l2, l3⟩ := ho.2.2.2.1.2 l (List.mem_of_getElem? hlx)
     have hF : q2m c io = y7h c l := by unfold q2m; rw [hlx]
     refine xs rfl (nn_ _) (q8 rfl _ hgl (xs rfl rfl (z6 rfl (zh _ _ _) rfl tv4 ?_)))
     refine xb rfl ?_ ?_ <;> intro b0
     refine xv rfl rfl rfl ?_; rotate_left
     refine xb rfl ?_ ?_ <;> intro b1
     refine xj (k := 5) rfl ?_
     refine xv rfl rfl rfl ?_; rotate_left
     refine xj (k := 4) rfl ?_
     refine xb rfl ?_ ?_ <;> intro b2
     refine xv rfl rfl rfl ?_; rotate_left
     rotate_left
     all_goals first
      | (refine vi (q7 hho h0o ?_ (by decide)); clear hJo h0o hgl; rw [hF]; unfold y7h; simp_all; done)
      | (refine vi (q7 hho h0o ?_ (by decide)); clear hJo h0o hgl; rw [hF]; unfold y7h; simp_all; omega)
      | skip
     have hn : Go.Sx.within l.n 0 400 = true := by simpa using b0
     have hm : ¬ (60 < l.tries.length ∨ 300 < l.known.length) := by simp at b1 b2; omega
     clear b0 b1 b2
     refine zc rfl (ι := Nat) (fun i => i ≤ l.tries.length ∧ ∀ j, j < i → y3c c l.tries j = 0) (fun i => ⟨[(5, sV (.int .i64 i)), (4, .one (.a 4 0)), (3, sV (.int .i64 io)), (0, .one (.b (.p c.cs)))], [(4, .var (l.cs.map .b))]⟩) (fun i => l.tries.length - i) 0 ⟨Nat.zero_le _, fun j hj => by omega⟩ ?_ ?_
     · exact ⟨⟨rfl, ⟨rfl, rfl, rfl⟩, rfl, rfl, trivial⟩, ⟨⟨rfl, rfl, rfl, trivial⟩, trivial⟩, rfl⟩
     · intro i ⟨hi, h0⟩ J hJ
       refine xb rfl ?_ ?_ <;> intro h
       · have h : i < l.tries.length := by simpa using h
         obtain ⟨x, hx⟩ := gx h
         have hg := gm Tr.cs hx
         refine z6 rfl (y9v c ho l.tries i x l1 (l3 x (List.mem_of_getElem? hx)) hx) rfl tv4 ?_
         refine xb rfl ?_ ?_ <;> intro b0
         refine xv rfl rfl rfl ?_; rotate_left
         rotate_left
         all_goals (first | (have hsc := q7 (c := z59 c l.tries i x) h h0 (by clear hJ h0 hg; (first | (simp_all [y3c]; done) | (simp_all [y3c]; omega)); done) (by clear hJ h0; simp_all); exact vi (q7 hho h0o (hF.trans (zaw hn hm hsc (by simpa using b0))) (by simpa using b0)); done) | (refine vi (q7 h h0 ?_ (by first | decide | decide | simp_all)); clear hJ h0 hg; (first | (simp_all [y3c]; done) | (simp_all [y3c]; omega)); done) | (refine za rfl (hJ _ (i + 1) ⟨by omega, ya h0 ?_⟩ (by omega) ⟨⟨cwi (by omega) (by omega) (by omega), ⟨rfl, rfl, rfl⟩, rfl, rfl, trivial⟩, ⟨⟨rfl, rfl, rfl, trivial⟩, trivial⟩, rfl⟩); clear hJ h0 hg; (first | (simp_all [y3c]; done) | (simp_all [y3c]; omega)); done) | skip)
       · have h : ¬ i < l.tries.length := by simpa using h
         have hz := qe (f := y3c c l.tries) (n := l.tries.length) (fun j hj => h0 j (by omega))
         clear hJ
         have hz1 := hz
         clear hz h h0
         refine zc rfl (ι := Nat) (fun i => i ≤ l.known.length ∧ ∀ j, j < i → hdF c l.known j = 0) (fun i => ⟨[(7, sV (.int .i64 i)), (4, .one (.a 4 0)), (3, sV (.int .i64 io)), (0, .one (.b (.p c.cs)))], [(4, .var (l.cs.map .b))]⟩) (fun i => l.known.length - i) 0 ⟨Nat.zero_le _, fun j hj => by omega⟩ ?_ ?_
         · exact ⟨⟨rfl, ⟨rfl, rfl, rfl⟩, rfl, rfl, trivial⟩, ⟨⟨rfl, rfl, rfl, trivial⟩, trivial⟩, rfl⟩
         · intro i ⟨hi, h0⟩ J hJ
           refine xb rfl ?_ ?_ <;> intro h
           · have h : i < l.known.length := by simpa using h
             obtain ⟨x, hx⟩ := gx h
             have hg := gm Hd.cs hx
             rcases Nat.eq_zero_or_pos i with hz | hz
             · subst hz
               refine xs rfl (nn_ _) (q8 rfl _ hg (xs rfl rfl (z6 rfl (yw _ (by assumption) _ _) rfl tv4 ?_)))
               refine xb rfl ?_ ?_ <;> intro b0
               refine xv rfl rfl rfl ?_; rotate_left
               refine zb rfl [] (.take 0 [] (.take 1 (Rg 2 20) (.alt 2 (Tk [3, 4, 5] (.take 6 (Rg 7 15) (.alt 7 (Tk (Rg 8 4) (.take 12 (Rg 19 3) (Tk [13, 14, 15] (.take 16 (Rg 17 5) (Tk [17, 18] (.alt 19 (Tk [20, 21] .done) .nil)))))) .nil))) .nil))) (by kernel_rfl) (z6 rfl (qz _) rfl ⟨trivial, trivial⟩ ?_)
               refine xb rfl ?_ ?_ <;> intro b1
               refine xj (k := 16) rfl ?_
               refine xv rfl rfl rfl ?_; rotate_left
               refine xj (k := 2) rfl (z6 rfl (y09 _) rfl ⟨trivial, trivial⟩ (xj (k := 2) rfl ?_))
               refine xb rfl ?_ ?_ <;> intro b2
               refine xj (k := 11) rfl ?_
               refine xv rfl rfl rfl ?_; rotate_left
               refine xj (k := 8) rfl (z6 rfl (zh _ _ _) rfl tv4 (xj (k := 2) rfl ?_))
               refine xb rfl ?_ ?_ <;> intro b3
               refine xv rfl rfl rfl ?_; rotate_left
               refine zb rfl [] (Tk (Rg 0 4) (.take 4 [7, 8, 10, 11, 12] (Tk [5, 6, 7] (.take 8 (Rg 10 3) (.take 9 (Rg 10 3) (.alt 10 (Tk [11, 12] .done) .nil)))))) (by kernel_rfl) ?_
               refine xj (k := 11) rfl ?_; rotate_left
               all_goals (first | (have hsc := q7 (c := 4) h h0 (by clear hJ h0 hg; (first | (simp_all [hdF, ahead_zero]; done) | (simp_all [hdF, ahead_zero]; omega)); done) (by decide); exact vi (q7 hho h0o (hF.trans (z5i hn hm hz1 hsc)) (by decide)); done) | (have hsc := q7 (c := 3) h h0 (by clear hJ h0 hg; (first | (simp_all [hdF, ahead_zero]; done) | (simp_all [hdF, ahead_zero]; omega)); done) (by decide); exact vi (q7 hho h0o (hF.trans (z5i hn hm hz1 hsc)) (by decide)); done) | (have hsc := q7 (c := 1) h h0 (by clear hJ h0 hg; (first | (simp_all [hdF, ahead_zero]; done) | (simp_all [hdF, ahead_zero]; omega)); done) (by decide); exact vi (q7 hho h0o (hF.trans (z5i hn hm hz1 hsc)) (by decide)); done) | (refine vi (q7 h h0 ?_ (by first | decide | decide | simp_all)); clear hJ h0 hg; (first | (simp_all [hdF, ahead_zero]; done) | (simp_all [hdF, ahead_zero]; omega)); done) | (refine za rfl (hJ _ 1 ⟨by omega, ya h0 ?_⟩ (by omega) ⟨⟨cwi (by omega) (by omega) (by omega), ⟨rfl, rfl, rfl⟩, rfl, rfl, trivial⟩, ⟨⟨rfl, rfl, rfl, trivial⟩, trivial⟩, rfl⟩); clear hJ h0 hg; (first | (simp_all [hdF, ahead_zero]; done) | (simp_all [hdF, ahead_zero]; omega)); done) | skip)
             · obtain ⟨p, hp⟩ := gx (xs := l.known) (i := i - 1) (by omega)
               have hgp := q11 Hd.cs hz (by omega) hp
               refine xs rfl (nn_ _) (q8 rfl _ hg (xs rfl rfl (z6 rfl (yw _ (by assumption) _ _) rfl tv4 ?_)))
               refine xb rfl ?_ ?_ <;> intro b0
               refine xv rfl rfl rfl ?_; rotate_left
               refine zb rfl [] (.take 0 [] (.take 1 (Rg 2 20) (.alt 2 (Tk [3, 4, 5] (.take 6 (Rg 7 15) (.alt 7 (Tk (Rg 8 4) (.take 12 (Rg 19 3) (Tk [13, 14, 15] (.take 16 (Rg 17 5) (Tk [17, 18] (.alt 19 (Tk [20, 21] .done) .nil)))))) .nil))) .nil))) (by kernel_rfl) (z6 rfl (qz _) rfl ⟨trivial, trivial⟩ ?_)
               refine xb rfl ?_ ?_ <;> intro b1
               refine xj (k := 16) rfl ?_
               refine xv rfl rfl rfl ?_; rotate_left
               refine xj (k := 2) rfl (z6 rfl (y09 _) rfl ⟨trivial, trivial⟩ (xj (k := 2) rfl ?_))
               refine xb rfl ?_ ?_ <;> intro b2
               refine xj (k := 11) rfl ?_
               refine xv rfl rfl rfl ?_; rotate_left
               refine xj (k := 8) rfl (z6 rfl (zh _ _ _) rfl tv4 (xj (k := 2) rfl ?_))
               refine xb rfl ?_ ?_ <;> intro b3
               refine xv rfl rfl rfl ?_; rotate_left
               refine zb rfl [] (Tk (Rg 0 4) (.take 4 [7, 8, 10, 11, 12] (Tk [5, 6, 7] (.take 8 (Rg 10 3) (.take 9 (Rg 10 3) (.alt 10 (Tk [11, 12] .done) .nil)))))) (by kernel_rfl) ?_
               refine xb rfl ?_ ?_ <;> intro b4
               refine xj (k := 4) rfl (xs rfl (z0k hz (by omega)) (q8 rfl _ hgp (xs rfl rfl (xj (k := 3) rfl (z6 rfl (z4t _ _) rfl ⟨tv6, tv6, trivial⟩ (xj (k := 2) rfl ?_))))))
               refine xb rfl ?_ ?_ <;> intro b5
               refine xv rfl rfl rfl ?_; rotate_left
               rotate_left
               refine xj (k := 10) rfl ?_; rotate_left
               all_goals (first | (have hsc := q7 (c := 4) h h0 (by clear hJ h0 hg hgp; (first | (simp_all [hdF, y9 hz hp]; done) | (simp_all [hdF, y9 hz hp]; omega)); done) (by decide); exact vi (q7 hho h0o (hF.trans (z5i hn hm hz1 hsc)) (by decide)); done) | (have hsc := q7 (c := 3) h h0 (by clear hJ h0 hg hgp; (first | (simp_all [hdF, y9 hz hp]; done) | (simp_all [hdF, y9 hz hp]; omega)); done) (by decide); exact vi (q7 hho h0o (hF.trans (z5i hn hm hz1 hsc)) (by decide)); done) | (have hsc := q7 (c := 1) h h0 (by clear hJ h0 hg hgp; (first | (simp_all [hdF, y9 hz hp]; done) | (simp_all [hdF, y9 hz hp]; omega)); done) (by decide); exact vi (q7 hho h0o (hF.trans (z5i hn hm hz1 hsc)) (by decide)); done) | (refine vi (q7 h h0 ?_ (by first | decide | decide | simp_all)); clear hJ h0 hg hgp; (first | (simp_all [hdF, y9 hz hp]; done) | (simp_all [hdF, y9 hz hp]; omega)); done) | (refine za rfl (hJ _ (i + 1) ⟨by omega, ya h0 ?_⟩ (by omega) ⟨⟨cwi (by omega) (by omega) (by omega), ⟨rfl, rfl, rfl⟩, rfl, rfl, trivial⟩, ⟨⟨rfl, rfl, rfl, trivial⟩, trivial⟩, rfl⟩); clear hJ h0 hg hgp; (first | (simp_all [hdF, y9 hz hp]; done) | (simp_all [hdF, y9 hz hp]; omega)); done) | skip)
           · have h : ¬ i < l.known.length := by simpa using h
             have hz := qe (f := hdF c l.known) (n := l.known.length) (fun j hj => h0 j (by omega))
             clear hJ
             skip
             exact za rfl (hJo _ (io + 1) ⟨by omega, ya h0o (hF.trans (z5i hn hm hz1 hz.symm))⟩ (by omega) ⟨⟨cwi (by omega) (by omega) (by omega), rfl, trivial⟩, trivial, rfl⟩)
   · have hho : ¬ io < c.ldrs.length := by simpa using hho
     have hz := qe (f := q2m c) (n := c.ldrs.length) (fun j hj => h0o j (by omega))
     refine xv rfl rfl rfl ?_
     exact vi (hz.symm)
theorem zbb {a b c d e : Int} : orr [a, b, c, d, e] = if a ≠ 0 then a else if b ≠ 0 then b else if c ≠ 0 then c else if d ≠ 0 then d else e := by
 unfold orr orr orr orr orr orr
 repeat' split
 all_goals first | rfl | omega
theorem y0d {c : Clu} : y0z c = true ↔ (20 < c.cons.length ∨ ¬ (1 ≤ c.shs.length ∧ c.shs.length ≤ 3) ∨ ¬ (1 ≤ c.accs.length ∧ c.accs.length ≤ 5) ∨ c.ldrs.length ≠ 2 ∨ 200 < c.msgs.length) := by
 unfold y0z Go.Sx.within
 simp
 omega
theorem z8y {c : Clu} (h : y0z c = true) : qp c = 2 := by unfold qp; rw [if_pos h]
theorem z88 {c : Clu} (h : ¬ y0z c = true) : qp c = if scan (q0c c) c.cons.length ≠ 0 then scan (q0c c) c.cons.length else if scan (q27 c) c.shs.length ≠ 0 then scan (q27 c) c.shs.length else if scan (z2m c) c.accs.length ≠ 0 then scan (z2m c) c.accs.length else if scan (q2m c) c.ldrs.length ≠ 0 then scan (q2m c) c.ldrs.length else scan (z48 c) c.msgs.length := by
 unfold qp; rw [if_neg h, zbb]
theorem qat (c : Clu) (us : List Acc) (F : Acc → Int) (G : Nat → Int) (fn : Nat) (hG : ∀ i x, us[i]? = some x → G i = F x) (hf : ∀ x ∈ us, PC Tryz.prog fn [.one (.p c.cs), .agg x.cs] (rI (F x))) (hl : us.length ≤ 1048576) : PC Tryz.prog 145 [.one (.l (us.map Acc.cs)), .one (.m fn false [.p c.cs])] (rI (scan G us.length)) := by
 refine PC.begin Tryz.func145 rfl (by kernel_rfl) ?_
 have hn : (us.map Acc.cs).length = us.length := by simp
 refine zc rfl (ι := Nat) (fun i => i ≤ us.length ∧ ∀ j, j < i → G j = 0) (fun i => ⟨[(10, sV (.int .i64 i)), (9, sV (.int .i64 (us.map Acc.cs).length)), (8, .one (.b (.l (us.map Acc.cs)))), (1, .one (.b (.m fn false [.p c.cs])))], []⟩) (fun i => us.length - i) 0 ⟨Nat.zero_le _, fun j hj => by omega⟩ ?_ ?_
 · exact ⟨⟨rfl, rfl, rfl, rfl, trivial⟩, trivial, rfl⟩
 · intro i ⟨hi, h0⟩ J hJ
   refine xb rfl ?_ ?_ <;> intro h
   · have h : i < us.length := by simpa using h
     obtain ⟨x, hx⟩ := gx h
     have hg := gm Acc.cs hx
     have hxm := List.mem_of_getElem? hx
     have hGx := hG i x hx
     refine xs rfl (nn_ _) (q8 rfl _ hg (xs rfl rfl (z6 rfl (hf _ hxm) rfl ⟨trivial, ⟨trivial, trivial⟩, trivial⟩ ?_)))
     refine xb rfl ?_ ?_ <;> intro b0
     refine xv rfl rfl rfl ?_; rotate_left
     rotate_left
     · exact vi (q7 h h0 hGx (by simpa using b0))
     · exact za rfl (hJ _ (i + 1) ⟨by omega, ya h0 (hGx.trans (by simpa using b0))⟩ (by omega) ⟨⟨cwi (by omega) (by omega) (by omega), rfl, rfl, rfl, trivial⟩, trivial, rfl⟩)
   · have h : ¬ i < us.length := by simpa using h
     have hz := qe (f := G) (n := us.length) (fun j hj => h0 j (by omega))
     refine xv rfl rfl rfl ?_
     exact vi (hz.symm)
theorem zau (c : Clu) (us : List Ldr) (F : Ldr → Int) (G : Nat → Int) (fn : Nat) (hG : ∀ i x, us[i]? = some x → G i = F x) (hf : ∀ x ∈ us, PC Tryz.prog fn [.one (.p c.cs), .agg x.cs] (rI (F x))) (hl : us.length ≤ 1048576) : PC Tryz.prog 147 [.one (.l (us.map Ldr.cs)), .one (.m fn false [.p c.cs])] (rI (scan G us.length)) := by
 refine PC.begin Tryz.func147 rfl (by kernel_rfl) ?_
 have hn : (us.map Ldr.cs).length = us.length := by simp
 refine zc rfl (ι := Nat) (fun i => i ≤ us.length ∧ ∀ j, j < i → G j = 0) (fun i => ⟨[(10, sV (.int .i64 i)), (9, sV (.int .i64 (us.map Ldr.cs).length)), (8, .one (.b (.l (us.map Ldr.cs)))), (1, .one (.b (.m fn false [.p c.cs])))], []⟩) (fun i => us.length - i) 0 ⟨Nat.zero_le _, fun j hj => by omega⟩ ?_ ?_
 · exact ⟨⟨rfl, rfl, rfl, rfl, trivial⟩, trivial, rfl⟩
 · intro i ⟨hi, h0⟩ J hJ
   refine xb rfl ?_ ?_ <;> intro h
   · have h : i < us.length := by simpa using h
     obtain ⟨x, hx⟩ := gx h
     have hg := gm Ldr.cs hx
     have hxm := List.mem_of_getElem? hx
     have hGx := hG i x hx
     refine xs rfl (nn_ _) (q8 rfl _ hg (xs rfl rfl (z6 rfl (hf _ hxm) rfl ⟨trivial, tv4, trivial⟩ ?_)))
     refine xb rfl ?_ ?_ <;> intro b0
     refine xv rfl rfl rfl ?_; rotate_left
     rotate_left
     · exact vi (q7 h h0 hGx (by simpa using b0))
     · exact za rfl (hJ _ (i + 1) ⟨by omega, ya h0 (hGx.trans (by simpa using b0))⟩ (by omega) ⟨⟨cwi (by omega) (by omega) (by omega), rfl, rfl, rfl, trivial⟩, trivial, rfl⟩)
   · have h : ¬ i < us.length := by simpa using h
     have hz := qe (f := G) (n := us.length) (fun j hj => h0 j (by omega))
     refine xv rfl rfl rfl ?_
     exact vi (hz.symm)
theorem yau (c : Clu) (us : List Msg) (F : Msg → Int) (G : Nat → Int) (fn : Nat) (hG : ∀ i x, us[i]? = some x → G i = F x) (hf : ∀ x ∈ us, PC Tryz.prog fn [.agg x.cs, .one (.p c.cs)] (rI (F x))) (hl : us.length ≤ 1048576) : PC Tryz.prog 149 [.one (.l (us.map Msg.cs)), .one (.f fn [.p c.cs])] (rI (scan G us.length)) := by
 refine PC.begin Tryz.func149 rfl (by kernel_rfl) ?_
 have hn : (us.map Msg.cs).length = us.length := by simp
 refine zc rfl (ι := Nat) (fun i => i ≤ us.length ∧ ∀ j, j < i → G j = 0) (fun i => ⟨[(10, sV (.int .i64 i)), (9, sV (.int .i64 (us.map Msg.cs).length)), (8, .one (.b (.l (us.map Msg.cs)))), (1, .one (.b (.f fn [.p c.cs])))], []⟩) (fun i => us.length - i) 0 ⟨Nat.zero_le _, fun j hj => by omega⟩ ?_ ?_
 · exact ⟨⟨rfl, rfl, rfl, rfl, trivial⟩, trivial, rfl⟩
 · intro i ⟨hi, h0⟩ J hJ
   refine xb rfl ?_ ?_ <;> intro h
   · have h : i < us.length := by simpa using h
     obtain ⟨x, hx⟩ := gx h
     have hg := gm Msg.cs hx
     have hxm := List.mem_of_getElem? hx
     have hGx := hG i x hx
     refine xs rfl (nn_ _) (q8 rfl _ hg (xs rfl rfl (z6 rfl (hf _ hxm) rfl ⟨tv10, trivial, trivial⟩ ?_)))
     refine xb rfl ?_ ?_ <;> intro b0
     refine xv rfl rfl rfl ?_; rotate_left
     rotate_left
     · exact vi (q7 h h0 hGx (by simpa using b0))
     · exact za rfl (hJ _ (i + 1) ⟨by omega, ya h0 (hGx.trans (by simpa using b0))⟩ (by omega) ⟨⟨cwi (by omega) (by omega) (by omega), rfl, rfl, rfl, trivial⟩, trivial, rfl⟩)
   · have h : ¬ i < us.length := by simpa using h
     have hz := qe (f := G) (n := us.length) (fun j hj => h0 j (by omega))
     refine xv rfl rfl rfl ?_
     exact vi (hz.symm)
theorem y9p (c : Clu) (ho : q00 c) (m : Msg) : PC Tryz.prog 150 [.agg m.cs, .one (.p c.cs)] (rI (y0i c m)) := by
 refine PC.begin Tryz.func150 rfl (by kernel_rfl) ?_
 refine z6 rfl (q9g c ho m) rfl ⟨tv6, tv10, trivial⟩ ?_
 refine xr rfl (zm rfl ⟨⟨rfl, rfl, trivial⟩, z7 rfl⟩)
theorem z9g (c : Clu) (ho : q00 c) : PC Tryz.prog 60 [.agg c.cs] (rI (qp c)) := by
 refine PC.begin Tryz.func60 rfl (by kernel_rfl) ?_
 have hl := ho.2.1.1
 have hA := qat c c.accs (q97 c) (z2m c) 146 (fun i x h => by unfold z2m; rw [h]) (fun a ha => q8d c ho a (ho.2.2.1.2 a ha)) ho.2.2.1.1
 have hL := zau c c.ldrs (y7h c) (q2m c) 148 (fun i x h => by unfold q2m; rw [h]) (fun l hl => y9g c ho l (ho.2.2.2.1.2 l hl)) ho.2.2.2.1.1
 have hM := yau c c.msgs (y0i c) (z48 c) 150 (fun i x h => by unfold z48; rw [h]) (fun m _ => y9p c ho m) ho.2.2.2.2
 refine xb rfl ?_ ?_ <;> intro b0
 refine xj (k := 22) rfl ?_
 refine xv rfl rfl rfl ?_; rotate_left
 refine xj (k := 2) rfl (z6 rfl (y2l _) rfl ⟨trivial, trivial⟩ (xj (k := 1) rfl (z6 rfl (zk _ _ _) rfl tv4 (xj (k := 2) rfl ?_))))
 refine xb rfl ?_ ?_ <;> intro b1
 refine xj (k := 16) rfl ?_
 refine xv rfl rfl rfl ?_; rotate_left
 refine xj (k := 2) rfl (z6 rfl (q1h _) rfl ⟨trivial, trivial⟩ (xj (k := 1) rfl (z6 rfl (zk _ _ _) rfl tv4 (xj (k := 2) rfl ?_))))
 refine xb rfl ?_ ?_ <;> intro b2
 refine xj (k := 10) rfl ?_
 refine xv rfl rfl rfl ?_; rotate_left
 refine xj (k := 4) rfl ?_
 refine xb rfl ?_ ?_ <;> intro b3
 refine xj (k := 5) rfl ?_
 refine xv rfl rfl rfl ?_; rotate_left
 refine xj (k := 4) rfl ?_
 refine xb rfl ?_ ?_ <;> intro b4
 refine xv rfl rfl rfl ?_; rotate_left
 refine z6 rfl (y8e c ho) rfl ⟨tv6, trivial⟩ ?_
 refine xb rfl ?_ ?_ <;> intro b5
 refine xv rfl rfl rfl ?_; rotate_left
 rotate_left
 all_goals first
  | (refine vi (z8y (y0d.2 ?_)).symm; clear hA hL hM ho; (simp only [List.length_map, Go.Sx.within, gt_iff_lt, ge_iff_le] at *; simp at *; omega); done)
  | skip
 · refine vi ?_
   have hm : ¬ y0z c = true := fun h => by rw [y0d] at h; clear hA hL hM ho; (simp only [List.length_map, Go.Sx.within, gt_iff_lt, ge_iff_le] at *; simp at *; omega)
   rw [z88 hm, if_pos (by simpa using b5)]
 · have hm : ¬ y0z c = true := fun h => by rw [y0d] at h; clear hA hL hM ho; (simp only [List.length_map, Go.Sx.within, gt_iff_lt, ge_iff_le] at *; simp at *; omega)
   have h1 : scan (q0c c) c.cons.length = 0 := by simpa using b5
   rw [z88 hm, if_neg (by simpa using h1)]
   clear b0 b1 b2 b3 b4 b5 h1 hm
   refine zc rfl (ι := Nat) (fun i => i ≤ c.shs.length ∧ ∀ j, j < i → q27 c j = 0) (fun i => ⟨[(44, sV (.int .i64 i)), (43, sV (.int .i64 (c.shs.map Shd.cs).length)), (1, .one (.a 1 0))], [(1, .var (c.cs.map .b))]⟩) (fun i => c.shs.length - i) 0 ⟨Nat.zero_le _, fun j hj => by omega⟩ ?_ ?_
   · exact ⟨⟨rfl, rfl, ⟨rfl, rfl, rfl⟩, trivial⟩, ⟨lcr, trivial⟩, rfl⟩
   · intro i ⟨hi, h0⟩ J hJ
     refine xb rfl ?_ ?_ <;> intro h
     · have h : i < c.shs.length := by simpa using h
       obtain ⟨s, hx⟩ := gx h
       have hF : q27 c i = z8q c i s := by unfold q27; rw [hx]
       refine z6 rfl (q8e c ho i s hx) rfl ⟨tv6, trivial, trivial⟩ ?_
       refine xb rfl ?_ ?_ <;> intro b0
       refine xv rfl rfl rfl ?_; rotate_left
       rotate_left
       · have hsc := q7 h h0 hF (by simpa using b0)
         refine vi ?_
         rw [if_pos (by rw [← hsc]; simpa using b0), ← hsc]
       · exact za rfl (hJ _ (i + 1) ⟨by omega, ya h0 (hF.trans (by simpa using b0))⟩ (by omega) ⟨⟨cwi (by omega) (by omega) (by omega), rfl, ⟨rfl, rfl, rfl⟩, trivial⟩, ⟨lcr, trivial⟩, rfl⟩)
     · have h : ¬ i < c.shs.length := by simpa using h
       have hz := qe (f := q27 c) (n := c.shs.length) (fun j hj => h0 j (by omega))
       rw [if_neg (by simpa using hz)]
       clear hJ h0
       refine zb rfl [] (.take 0 [] (.take 1 [3, 7, 8, 9, 10] (Tk [2, 4] (.take 5 (Rg 7 4) (.take 6 [] (.alt 3 (.alt 7 (.alt 8 (.alt 9 (.take 10 [] .done) .nil) .nil) .nil) .nil)))))) (by kernel_rfl) (z6 rfl (hA) rfl ⟨trivial, tv6, trivial⟩ (z6 rfl (hL) rfl ⟨trivial, tv6, trivial⟩ (xs rfl tv3 (z6 rfl (q03 [_, _] (by simp)) rfl ⟨rfl, trivial⟩ ?_))))
       refine xb rfl ?_ ?_ <;> intro b0
       refine xv rfl rfl rfl ?_; rotate_left
       refine z6 rfl (hM) rfl ⟨trivial, (List.forall_mem_cons.2 ⟨tv6, (fun _ h => nomatch h)⟩), trivial⟩ ?_
       refine xv rfl rfl rfl ?_; rotate_left
       all_goals (refine vi ?_; clear hA hL hM ho; unfold orr orr orr at *; by_cases h1 : scan (z2m c) c.accs.length = 0 <;> by_cases h2 : scan (q2m c) c.ldrs.length = 0 <;> simp_all <;> done)
theorem z9u (c : Clu) (ho : q00 c) : PC Tryz.prog 52 [.agg c.cs] (rI (qp c)) := by
 refine PC.begin Tryz.func52 rfl (by kernel_rfl) ?_
 have hl := ho.2.2.2.2
 refine xb rfl ?_ ?_ <;> intro b0
 refine xj (k := 30) rfl ?_
 refine xv rfl rfl rfl ?_; rotate_left
 refine xj (k := 4) rfl ?_
 refine xb rfl ?_ ?_ <;> intro b1
 refine xj (k := 25) rfl ?_
 refine xv rfl rfl rfl ?_; rotate_left
 refine xj (k := 4) rfl ?_
 refine xb rfl ?_ ?_ <;> intro b2
 refine xj (k := 20) rfl ?_
 refine xv rfl rfl rfl ?_; rotate_left
 refine xj (k := 4) rfl ?_
 refine xb rfl ?_ ?_ <;> intro b3
 refine xj (k := 15) rfl ?_
 refine xv rfl rfl rfl ?_; rotate_left
 refine xj (k := 4) rfl ?_
 refine xb rfl ?_ ?_ <;> intro b4
 refine xj (k := 10) rfl ?_
 refine xv rfl rfl rfl ?_; rotate_left
 refine xj (k := 4) rfl ?_
 refine xb rfl ?_ ?_ <;> intro b5
 refine xj (k := 5) rfl ?_
 refine xv rfl rfl rfl ?_; rotate_left
 refine xj (k := 4) rfl ?_
 refine xb rfl ?_ ?_ <;> intro b6
 refine xv rfl rfl rfl ?_; rotate_left
 refine z6 rfl (z8n c ho) rfl ⟨tv6, trivial⟩ ?_
 refine xb rfl ?_ ?_ <;> intro b7
 refine xv rfl rfl rfl ?_; rotate_left
 refine z6 rfl (z8o c ho) rfl ⟨tv6, trivial⟩ ?_
 refine xb rfl ?_ ?_ <;> intro b8
 refine xv rfl rfl rfl ?_; rotate_left
 refine z6 rfl (y8m c ho) rfl ⟨tv6, trivial⟩ ?_
 refine xb rfl ?_ ?_ <;> intro b9
 refine xv rfl rfl rfl ?_; rotate_left
 refine z6 rfl (q8n c ho) rfl ⟨tv6, trivial⟩ ?_
 refine xb rfl ?_ ?_ <;> intro b10
 refine xv rfl rfl rfl ?_; rotate_left
 rotate_left
 all_goals first
  | (refine vi (z8y (y0d.2 ?_)).symm; clear ho; (simp only [List.length_map, Go.Sx.within, gt_iff_lt, ge_iff_le] at *; simp at *; omega); done)
  | (refine vi ?_
     have hm : ¬ y0z c = true := fun h => by rw [y0d] at h; clear ho; (simp only [List.length_map, Go.Sx.within, gt_iff_lt, ge_iff_le] at *; simp at *; omega)
     rw [z88 hm]
     clear hm ho
     simp_all
     done)
  | skip
 have hm : ¬ y0z c = true := fun h => by rw [y0d] at h; clear ho; (simp only [List.length_map, Go.Sx.within, gt_iff_lt, ge_iff_le] at *; simp at *; omega)
 rw [z88 hm, if_neg (by simp_all), if_neg (by simp_all), if_neg (by simp_all), if_neg (by simp_all)]
 refine zc rfl (ι := Nat) (fun i => i ≤ c.msgs.length ∧ ∀ j, j < i → z48 c j = 0) (fun i => ⟨[(7, sV (.int .i64 i)), (1, .one (.a 1 0))], [(1, .var (c.cs.map .b))]⟩) (fun i => c.msgs.length - i) 0 ⟨Nat.zero_le _, fun j hj => by omega⟩ ?_ ?_
 · exact ⟨⟨rfl, ⟨rfl, rfl, rfl⟩, trivial⟩, ⟨lcr, trivial⟩, rfl⟩
 · intro i ⟨hi, h0⟩ J hJ
   refine xb rfl ?_ ?_ <;> intro h
   · have h : i < c.msgs.length := by simpa using h
     obtain ⟨m, hx⟩ := gx h
     have hg := gm Msg.cs hx
     have hF : z48 c i = y0i c m := by unfold z48; rw [hx]
     refine xs rfl (nn_ _) (q8 rfl _ hg (xs rfl rfl (z6 rfl (q9u c ho m) rfl ⟨tv6, tv10, trivial⟩ ?_)))
     refine xb rfl ?_ ?_ <;> intro b0
     refine xv rfl rfl rfl ?_; rotate_left
     rotate_left
     · exact vi (q7 h h0 hF (by simpa using b0))
     · exact za rfl (hJ _ (i + 1) ⟨by omega, ya h0 (hF.trans (by simpa using b0))⟩ (by omega) ⟨⟨cwi (by omega) (by omega) (by omega), ⟨rfl, rfl, rfl⟩, trivial⟩, ⟨lcr, trivial⟩, rfl⟩)
   · have h : ¬ i < c.msgs.length := by simpa using h
     have hz := qe (f := z48 c) (n := c.msgs.length) (fun j hj => h0 j (by omega))
     refine xv rfl rfl rfl ?_
     exact vi (hz.symm)
theorem sc_Vt (us : List Vt) : zz (us.map Vt.cs) := fun row hr => by
 obtain ⟨x, _, rfl⟩ := List.mem_map.1 hr
 intro c hc
 simp only [Vt.cs, List.mem_cons, List.not_mem_nil, or_false] at hc
 rcases hc with rfl | rfl <;> exact ⟨_, rfl⟩
theorem q93 (us : List Leg) : zz (us.map Leg.cs) := fun row hr => by
 obtain ⟨x, _, rfl⟩ := List.mem_map.1 hr
 intro c hc
 simp only [Leg.cs, List.mem_cons, List.not_mem_nil, or_false] at hc
 rcases hc with rfl | rfl | rfl | rfl <;> exact ⟨_, rfl⟩
theorem y5c (us : List Leg) (hl : us.length ≤ 1048576) : PC Tryz.prog 91 [.one (.l (us.map Leg.cs))] (.one (.own false [.l 4 (us.map Leg.cs)])) := by
 refine PC.begin Tryz.func91 rfl (by kernel_rfl) ?_
 have hsc := q93 us
 refine qbh rfl (fun b0 b0' => ?_)
 refine xb rfl ?_ ?_ <;> intro b1
 refine xr rfl (zm rfl ⟨⟨rfl, ?_, trivial⟩, z7 rfl⟩); rotate_left
 refine xs rfl trivial (xs rfl rfl (xs rfl (by simp) (xs rfl (fun _ => hsc) (xs rfl (by simp; omega) (xs rfl (by simp; omega) ?_)))))
 refine xr rfl (zm rfl ⟨⟨rfl, ⟨?_, rfl, .inl rfl⟩, trivial⟩, z7 rfl⟩); rotate_left
 · exact b0' b1
 · simp
theorem q3e (x : Con) (hl : x.legs.length ≤ 1048576) : PC Tryz.prog 82 [.agg x.cs] (.one (.own true [.s (.int .i64 x.id), .l 4 (x.legs.map Leg.cs)])) := by
 refine PC.begin Tryz.func82 rfl (by kernel_rfl) ?_
 have hsc := q93 x.legs
 refine zb rfl [] (Tk [0, 3] (.take 4 (Rg 5 3) (.alt 1 (.alt 2 (.alt 5 (.take 6 [] (.alt 7 .done .nil)) .nil) .nil) (.alt 2 (.alt 1 (.alt 5 (.take 6 [] (.alt 7 .done .nil)) .nil) (.alt 5 (.take 1 [6, 7] (.take 6 [] (.alt 7 .done .nil))) .nil)) .nil)))) (by kernel_rfl) ?_
 refine y0u rfl ?_ ?_
 refine xs rfl trivial (xs rfl rfl (xs rfl (by simp) (xs rfl (fun _ => hsc) (xs rfl (by simp; omega) (xs rfl (by simp; omega) ?_)))))
 refine xr rfl (zm rfl ⟨⟨rfl, rfl, ⟨?_, rfl, .inl rfl⟩, trivial⟩, z7 rfl⟩); rotate_left
 refine xs rfl trivial ?_
 refine y0u rfl ?_ ?_
 refine xs rfl rfl (xs rfl (by simp) (xs rfl (fun _ => hsc) (xs rfl (by simp; omega) (xs rfl (by simp; omega) ?_))))
 refine xr rfl (zm rfl ⟨⟨rfl, rfl, ⟨?_, rfl, .inl rfl⟩, trivial⟩, z7 rfl⟩); rotate_left
 refine xs rfl rfl (xs rfl (by simp) (xs rfl (fun _ => hsc) (xs rfl (by simp; omega) (xs rfl (by simp; omega) ?_))))
 refine xr rfl (zm rfl ⟨⟨rfl, rfl, ⟨?_, rfl, .inl rfl⟩, trivial⟩, z7 rfl⟩); rotate_left
 all_goals exact List.length_append.symm
end Go.Proofs.YtohbmmpkcibnpaaGreat
end
section
namespace Go.Proofs.YtohbmmpkcibnpaaGreat
open Go Go.Sx
set_option maxRecDepth 20000
set_option maxHeartbeats 4000000
open Go.Proofs Go.Shelf Go.RowKit Go.Lib
def zbh : Ren := ⟨fun _ => 166, fun t => bif Nat.beq t 3 then 3 else bif Nat.beq t 4 then 4 else bif Nat.beq t 22 then 64 else bif Nat.beq t 23 then 2 else 0, fun x => x⟩
theorem y9m : SlLaysN.n43 Tryz.prog zbh where
 mixed := by kernel_rfl
 f43 := ⟨ "slices.Compact[[]int64,int64]", by decide, by kernel_rfl⟩
 t0 := Tryz.underlying0
 a0 := Tryz.isAgg0
 z0 := Tryz.sizeOf0
 v0 := Tryz.zeroValue0
 t3 := Tryz.underlying3
 a3 := Tryz.isAgg3
 z3 := Tryz.sizeOf3
 v3 := Tryz.zeroValue3
 t4 := Tryz.underlying4
 a4 := Tryz.isAgg4
 z4 := Tryz.sizeOf4
 v4 := Tryz.zeroValue4
 t22 := Tryz.underlying64
 a22 := Tryz.isAgg64
 z22 := Tryz.sizeOf64
 v22 := Tryz.zeroValue64
 t23 := Tryz.underlying2
 a23 := Tryz.isAgg2
 z23 := Tryz.sizeOf2
 v23 := Tryz.zeroValue2
 i23 := by kernel_rfl
theorem z5d (N : Nat → Prop) (S : Nat → Prop) (us : List Int) (w : World) (v0 : Value) (hu : us.length ≤ 1048576) (hS : ∀ x, S x → x < w.heap.size) (h0 : q0l w (CN w N true) S 1 (ints us) v0) :
 Calls Tryz.prog 166 #[v0] w fun e w' => ∃ (v' : Value) (R : Nat → Prop), e = .returned v' ∧ yr w w' S ∧ q0l w' (Go.Sx.Own w') R 1 (ints (compact us)) v' ∧ ∀ x, R x → S x ∧ x < w'.heap.size := by
 rcases y53 h0 with ⟨rfl, A, rfl⟩ | ⟨e, ho, hSo⟩
 · refine (AnyG.slices_Compact_int_empty y9m A 0 w).mono ?_
   rintro e w' ⟨rfl, rfl⟩
   exact ⟨_, fun _ => False, rfl, yr.refl _ _, .inl ⟨rfl, A, rfl⟩, fun x hx => hx.elim⟩
 · by_cases hn : v0 = .slice none 0 0
   · have hl : us.length = 0 := by
      rcases ho.2 with ⟨_, h⟩ | ⟨g, cap, cur, h, _⟩
      · exact h
      · rw [hn] at h; cases h
     have : us = [] := List.eq_nil_of_length_eq_zero hl
     subst this
     subst hn
     refine (AnyG.slices_Compact_int_empty y9m none 0 w).mono ?_
     rintro e w' ⟨rfl, rfl⟩
     exact ⟨_, fun _ => False, rfl, yr.refl _ _, .inl ⟨rfl, none, rfl⟩, fun x hx => hx.elim⟩
   · obtain ⟨g, cap, rfl, hb, hg, hc1, hc2, hzl, hH⟩ := holds_of_ownsRow ho hn
     refine (AnyG.slices_Compact_int y9m g 0 cap us w hH (by omega) hc1).mono ?_
     rintro e' w' ⟨rfl, q, rfl⟩
     have hcl := q6f us
     have hgS := hSo g rfl
     have hp := ownsRow_putRow (q := q) (k := (compact us).length) (ys := compact us ++ List.replicate (us.length - (compact us).length) 0) ho (by simp; omega) hcl
     rw [List.take_left' rfl] at hp
     refine ⟨_, fun x => x = g, rfl, ⟨rfl, rfl, rfl, by simp [Sort.putRow, Sort.mapBlock, Sort.ahead], fun k hk hnk => ?_⟩, q66 hp (fun g' h => by cases h; rfl), fun x hx => ?_⟩
     · simp [Sort.putRow, Sort.mapBlock, Sort.ahead, Array.getElem?_modify, show g ≠ k from fun h => hnk (h ▸ hgS)]
     · cases hx
       exact ⟨hgS, by simpa [Sort.putRow, Sort.mapBlock, Sort.ahead] using hg⟩
theorem z6g (us : List Int) (hu : us.length ≤ 1048576) : PG Tryz.prog 166 [.one (.giv true 1 (ints us))] (.one (.own false [.l 1 (ints (compact us))])) [] := by
 refine ⟨by kernel_rfl, fun N S w vals hS hSd hsh hc => ?_⟩
 obtain ⟨v0, rfl⟩ : ∃ v0, vals = #[v0] := by
  match vals, hsh with
  | ⟨[v0]⟩, _ => exact ⟨v0, rfl⟩
 obtain ⟨sz, hz, h0⟩ := hc 0 _ v0 rfl rfl
 obtain rfl := hz (by decide)
 refine (z5d N (S 0) us w v0 hu (fun x hx => (hS 0 x hx).1) h0).mono ?_
 rintro e w' ⟨v', R, rfl, hk, hsl, hv⟩
 refine ⟨v', R, fun _ _ => False, rfl, hk.mono fun _ _ h => ⟨0, h⟩, ⟨#[v'], fun k x => k = 0 ∧ R x, rfl, rfl, fun k x hx => hx.2, fun k k' x hx hx' => by rw [hx.1, hx'.1], fun k c u hc hu => ?_⟩, fun x hx => ⟨.inr ⟨0, (hv x hx).1⟩, (hv x hx).2, fun _ h => h⟩, fun _ _ h => h.elim, fun _ _ _ h => h.elim, fun t rows' hb => by cases hb⟩
 cases k with
 | succ k => simp at hc
 | zero =>
   cases hc
   cases hu
   exact ⟨1, fun _ => rfl, q0l.imp hsl (fun _ h => ⟨rfl, h⟩) (fun _ _ _ => rfl) (fun _ _ _ _ h => h)⟩
end Go.Proofs.YtohbmmpkcibnpaaGreat
end
section
namespace Go.Proofs.YtohbmmpkcibnpaaGreat
open Go Go.Sx
set_option maxRecDepth 20000
set_option maxHeartbeats 4000000
open Go.Lib (compact)
def shN (x : Con) (i : Nat) : List Int := (x.legs.take i).map Leg.s
theorem z8p {x : Con} {i : Nat} {l : Leg} (h : x.legs[i]? = some l) : shN x (i + 1) = shN x i ++ [l.s] := by
 unfold shN
 rw [List.take_add_one, h]; simp
theorem y5p (x : Con) (i : Nat) : (shN x i).length ≤ i := by unfold shN; simp; omega
theorem y38 (x : Con) (hl : x.legs.length < 65536) : PC Tryz.prog 75 [.agg x.cs] (.one (.own false [.l 1 (ints (shF x.legs))])) := by
 refine PC.begin Tryz.func75 rfl (by kernel_rfl) ?_
 have hle : (x.legs.map Leg.cs).length = x.legs.length := by simp
 refine xs rfl trivial ?_
 refine zc rfl (ι := Nat) (fun i => i ≤ x.legs.length) (fun i => ⟨[(10, sV (.int .i64 i)), (3, .one (.h 6 (shN x i).length)), (1, .one (.a 1 0)), (8, .one (.b (.l (x.legs.map Leg.cs)))), (9, sV (.int .i64 (x.legs.map Leg.cs).length))], [(6, .arr true 1 0 (ints (shN x i))), (1, .var (x.cs.map .b))]⟩) (fun i => x.legs.length - i) 0 (Nat.zero_le _) ?_ ?_
 · exact ⟨⟨rfl, ⟨rfl, rfl, rfl⟩, ⟨rfl, rfl, rfl⟩, rfl, rfl, trivial⟩, ⟨⟨rfl, .inl rfl, .inl rfl⟩, lcr, trivial⟩, rfl⟩
 · intro i hi J hJ
   refine xb rfl ?_ ?_ <;> intro h
   · have h : i < x.legs.length := by simpa using h
     obtain ⟨l, hx⟩ := gx h
     have hg := gm Leg.cs hx
     have hf := z8p hx
     have hfl := y5p x i
     refine xs rfl (by simp) (q8 rfl _ hg (xs rfl rfl (xs rfl ⟨trivial, trivial⟩ (xs rfl (by simp) (xs rfl rfl (xs rfl (.inl rfl) (xs rfl (by simp; omega) (xs rfl (by simp; omega) ?_))))))))
     exact za rfl (hJ _ (i + 1) (by omega) (by omega) ⟨⟨cwi (by omega) (by omega) (by omega), ⟨rfl, by rw [hf]; simp, rfl⟩, ⟨rfl, rfl, rfl⟩, rfl, rfl, trivial⟩, ⟨⟨by rw [hf]; simp, .inl rfl, .inl rfl⟩, lcr, trivial⟩, rfl⟩)
   · have h : i = x.legs.length := by have : ¬ i < x.legs.length := (by simpa using h); omega
     subst h
     have hs := q69 (shN x x.legs.length) (by have := y5p x x.legs.length; omega)
     have hms : (q0m (shN x x.legs.length)).length = (shN x x.legs.length).length := (List.mergeSort_perm _ _).length_eq
     have hc := z6g (q0m (shN x x.legs.length)) (by have := y5p x x.legs.length; omega)
     have he : compact (q0m (shN x x.legs.length)) = shF x.legs := by unfold shN; rw [List.take_length]; exact zah x.legs
     rw [he] at hc
     refine y0l rfl (hs) ⟨⟨rfl, rfl, rfl, (by first | omega | (simp only [ai_len]; omega) | simp_all)⟩, trivial⟩ rfl (y0l rfl (hc) ⟨⟨rfl, rfl, rfl, (by first | omega | (simp only [ai_len]; omega) | simp_all)⟩, trivial⟩ rfl ?_)
     refine xr rfl (zm rfl ⟨⟨rfl, ⟨rfl, rfl, .inl rfl⟩, trivial⟩, z7 rfl⟩)
end Go.Proofs.YtohbmmpkcibnpaaGreat
end
section
namespace Go.Proofs.YtohbmmpkcibnpaaGreat
open Go Go.Sx
set_option maxRecDepth 20000
theorem qy {α : Type} {f : α → List Cell} {P : α → Prop} {N : Nat} {e : Sh} : ∀ {rr : List (List Cell)}, WR N e rr → (∀ row, WT N e row → ∃ x, row = f x ∧ P x) → ∃ us : List α, rr = us.map f ∧ us.length ≤ N ∧ ∀ x ∈ us, P x
 | [], _, _ => ⟨[], rfl, Nat.zero_le _, fun x hx => by cases hx⟩
 | row :: rr, h, hc => by
   obtain ⟨x, hx, hp⟩ := hc row (h.2 row List.mem_cons_self)
   obtain ⟨us, hu, _, hps⟩ := qy (rr := rr) ⟨by have := h.1; simp at this; omega, fun r hr => h.2 r (List.mem_cons_of_mem _ hr)⟩ hc
   refine ⟨x :: us, by rw [hx, hu]; rfl, by have := h.1; rw [hu] at this; simpa using this, fun y hy => ?_⟩
   rcases List.mem_cons.1 hy with rfl | hy
   · exact hp
   · exact hps y hy
theorem z89 {N : Nat} (row : List Cell) (h : WT N qn row) : ∃ x : Leg, row = x.cs ∧ True := by
 obtain ⟨a0, a1, a2, a3, rfl⟩ := z1u h
 exact ⟨⟨a0, a1, a2, a3⟩, rfl, trivial⟩
theorem y4l {N : Nat} (row : List Cell) (h : WT N yd row) : ∃ x : Bal, row = x.cs ∧ True := by
 obtain ⟨a0, a1, a2, rfl⟩ := q0e h
 exact ⟨⟨a0, a1, a2⟩, rfl, trivial⟩
theorem z4m {N : Nat} (row : List Cell) (h : WT N zi row) : ∃ x : Mk, row = x.cs ∧ True := by
 obtain ⟨a0, a1, rfl⟩ := q1j h
 exact ⟨⟨a0, a1⟩, rfl, trivial⟩
theorem z4n {N : Nat} (row : List Cell) (h : WT N zn row) : ∃ x : Vt, row = x.cs ∧ True := by
 obtain ⟨a0, a1, rfl⟩ := y1k h
 exact ⟨⟨a0, a1⟩, rfl, trivial⟩
theorem q6g {N : Nat} (row : List Cell) (h : WT N qo row) : ∃ x : Hd, row = x.cs ∧ True := by
 obtain ⟨a0, a1, a2, a3, a4, rfl⟩ := y12 h
 exact ⟨⟨a0, a1, a2, a3, a4⟩, rfl, trivial⟩
theorem y4m {N : Nat} (row : List Cell) (h : WT N qg row) : ∃ x : Msg, row = x.cs ∧ True := by
 obtain ⟨a0, a1, a2, a3, a4, a5, a6, a7, a8, rfl⟩ := z0f h
 exact ⟨⟨a0, a1, a2, a3, a4, a5, a6, a7, a8⟩, rfl, trivial⟩
theorem y3x {N : Nat} (row : List Cell) (h : WT N (.i .i64 .nil) row) : ∃ x : Int, row = [i64 x] ∧ True := by
 obtain ⟨x0, _, rfl, hnil⟩ := h.yv
 obtain rfl := hnil.yy
 exact ⟨x0, rfl, trivial⟩
theorem z1z (row : List Cell) (h : WT 1048576 z8 row) : ∃ x : Con, row = x.cs ∧ x.legs.length ≤ 1048576 := by
 obtain ⟨a, b, rfl, h1⟩ := z09 h
 obtain ⟨us, rfl, hl, _⟩ := qy h1 z89
 exact ⟨⟨a, us⟩, rfl, hl⟩
theorem z6h (row : List Cell) (h : WT 1048576 zf row) : ∃ x : Shd, row = x.cs ∧ zb5 x := by
 obtain ⟨a, b, c, d, e, f, rfl, h1, h2, h3, h4, h5⟩ := q12 h
 obtain ⟨u1, rfl, l1, _⟩ := qy h1 y4l
 obtain ⟨u2, rfl, l2, _⟩ := qy h2 z4m
 obtain ⟨u3, rfl, l3, p3⟩ := qy h3 z1z
 obtain ⟨u4, rfl, l4, _⟩ := qy h4 z4m
 obtain ⟨u5, rfl, l5, _⟩ := qy h5 y3x
 exact ⟨⟨a, u1, u2, u3, u4, u5⟩, rfl, l1, l2, l3, l4, l5, p3⟩
theorem q74 (row : List Cell) (h : WT 1048576 ql row) : ∃ x : Slt, row = x.cs ∧ x.cast.length ≤ 1048576 := by
 obtain ⟨a, b, c, d, e, f, rfl, h1⟩ := z1k h
 obtain ⟨u1, rfl, l1, _⟩ := qy h1 z4n
 exact ⟨⟨a, b, c, d, e, u1⟩, rfl, l1⟩
theorem z3x (row : List Cell) (h : WT 1048576 q9 row) : ∃ x : Acc, row = x.cs ∧ y6x x := by
 obtain ⟨a, rfl, h1⟩ := q08 h
 obtain ⟨u1, rfl, l1, p1⟩ := qy h1 q74
 exact ⟨⟨u1⟩, rfl, l1, p1⟩
theorem y89 (row : List Cell) (h : WT 1048576 zq row) : ∃ x : Tr, row = x.cs ∧ ya4 x := by
 obtain ⟨a, b, c, d, e, f, rfl, h1, h2⟩ := z2c h
 obtain ⟨u1, rfl, l1, _⟩ := qy h1 y3x
 obtain ⟨u2, rfl, l2, _⟩ := qy h2 z4n
 exact ⟨⟨a, b, c, d, u1, u2⟩, rfl, l1, l2⟩
theorem y5d (row : List Cell) (h : WT 1048576 qd row) : ∃ x : Ldr, row = x.cs ∧ q96 x := by
 obtain ⟨a, b, c, rfl, h1, h2⟩ := q0n h
 obtain ⟨u1, rfl, l1, p1⟩ := qy h1 y89
 obtain ⟨u2, rfl, l2, _⟩ := qy h2 q6g
 exact ⟨⟨a, u1, u2⟩, rfl, l1, l2, p1⟩
theorem q4l (row : List Cell) (h : WT 1048576 yp row) : ∃ x : Clu, row = x.cs ∧ q00 x := by
 obtain ⟨a, b, c, d, e, rfl, h1, h2, h3, h4, h5⟩ := q0p h
 obtain ⟨u1, rfl, l1, p1⟩ := qy h1 z1z
 obtain ⟨u2, rfl, l2, p2⟩ := qy h2 z6h
 obtain ⟨u3, rfl, l3, p3⟩ := qy h3 z3x
 obtain ⟨u4, rfl, l4, p4⟩ := qy h4 y5d
 obtain ⟨u5, rfl, l5, _⟩ := qy h5 y4m
 exact ⟨⟨u1, u2, u3, u4, u5⟩, rfl, ⟨l1, p1⟩, ⟨l2, p2⟩, ⟨l3, p3⟩, ⟨l4, p4⟩, l5⟩
theorem y2a {f : List Cell → Nat} {row : List Cell} : ∀ {rows : List (List Cell)}, row ∈ rows → f row ≤ y00 f rows
 | r :: rows, h => by
   rw [y00]
   rcases List.mem_cons.1 h with rfl | h
   · omega
   · have := y2a (f := f) h; omega
theorem z95 {N M : Nat} {e : Sh} {cs : List Cell} (hw : WT N e cs) : tot e cs ≤ M → WT M e cs := by
 induction hw with
 | nil => exact fun _ => .nil
 | i n _ ih => exact fun h => .i n (ih h)
 | b x _ ih => exact fun h => .b x (ih h)
 | @l e' r' cs' rows h1 h2 h3 ih1 ih2 =>
   intro h
   simp only [tot] at h
   exact .l rows (by omega) (fun row hr => ih1 row hr (by have := y2a (f := tot e') hr; omega)) (ih2 (by omega))
end Go.Proofs.YtohbmmpkcibnpaaGreat
end
