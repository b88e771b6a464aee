/- WHAT IS PROVED: parts of the proof of fnExactDropMessage_holds: a frame for walks, what each Go function that it reaches answers, and plain lemmas; no condition beyond those that each theorem names. -/
import Derived.Test.YtbnbjaedijbnpaaGreatCDm6
import Derived.WalkKit
import Derived.OrdersHeld
import Derived.DeepKeys
import Derived.Maps.RangeWalk
import Derived.Maps.OwnOps
import Derived.WideKeyEntry
import Derived.Orders
import Derived.Deep.Slices
import Derived.ChangeArms
import Derived.WideShapes
import Derived.Sort.AssemblyPlain
import Derived.Test.YtbnbjaedijbnpaaGreatProg
import Derived.Shelf.SortG.Plain
import Derived.Shelf.SortG.SortNone
import Derived.Shelf.SlicesG.CompactI
import Derived.Lib.OwnBridge
import Derived.RangeFuncGives
import Derived.RangeFuncBox
import Derived.RangeFuncLeaves
import Derived.Shelf.Abstract
import Derived.Maps.AppendAt
import Derived.OwnWalkIn
import Derived.TacticsInMore
import Derived.LoopNIn
import Derived.LoopIn
import Derived.Shelf.SlicesG.Delete
set_option linter.unusedVariables false
set_option linter.unusedSimpArgs false
section
namespace Go.Proofs.YtbnbjaedijbnpaaGreat
open Go Go.Sx
set_option maxRecDepth 20000
theorem y8o (x0 : Int) (x1 : Int) (x2 : Int) (x3 : Int) (y0 : Int) (y1 : Int) (y2 : Int) (y3 : Int)   : PC Tryz.prog 293 [.agg [.s (.int .i64 x0), .s (.int .i64 x1), .s (.int .i64 x2), .s (.int .i64 x3)], .agg [.s (.int .i64 y0), .s (.int .i64 y1), .s (.int .i64 y2), .s (.int .i64 y3)]] (rB (dE (α := List Cell) [.s (.int .i64 x0), .s (.int .i64 x1), .s (.int .i64 x2), .s (.int .i64 x3)] [.s (.int .i64 y0), .s (.int .i64 y1), .s (.int .i64 y2), .s (.int .i64 y3)])) := by
 refine PC.begin Tryz.func293 rfl (by kernel_rfl) ?_
 refine xb rfl (fun h => ?_) (fun e0 => ?_)
 · exact xv rfl rfl rfl (zl (fun e => by simp only [List.cons.injEq, Cell.s.injEq, Value.int.injEq, Value.bool.injEq, Value.string.injEq] at e; simp [e] at h))
 have e0 : x0 = y0 := by simpa using e0
 refine xb rfl (fun h => ?_) (fun e1 => ?_)
 · exact xv rfl rfl rfl (zl (fun e => by simp only [List.cons.injEq, Cell.s.injEq, Value.int.injEq, Value.bool.injEq, Value.string.injEq] at e; simp [e] at h))
 have e1 : x1 = y1 := by simpa using e1
 refine xb rfl (fun h => ?_) (fun e2 => ?_)
 · exact xv rfl rfl rfl (zl (fun e => by simp only [List.cons.injEq, Cell.s.injEq, Value.int.injEq, Value.bool.injEq, Value.string.injEq] at e; simp [e] at h))
 have e2 : x2 = y2 := by simpa using e2
 refine xb rfl (fun h => ?_) (fun e3 => ?_)
 · exact xv rfl rfl rfl (zl (fun e => by simp only [List.cons.injEq, Cell.s.injEq, Value.int.injEq, Value.bool.injEq, Value.string.injEq] at e; simp [e] at h))
 have e3 : x3 = y3 := by simpa using e3
 exact xv rfl rfl rfl (zx (by simp [e0, e1, e2, e3]))
theorem y7i (p q : List (List Cell)) (hp : WR 9000000000000000000 yw p) (hq : WR 9000000000000000000 yw q) : PC Tryz.prog 216 [.one (.l p), .one (.l q)] (rB (dE p q)) := by
 refine PC.begin Tryz.func216 rfl (by kernel_rfl) ?_
 have hpl := hp.1
 have hql := hq.1
 refine xb rfl ?_ ?_ <;> intro h
 · exact xv rfl rfl rfl (zl (fun e => by subst e; simp at h))
 have hl : p.length = q.length := by simpa [Int.ofNat_inj] using h
 refine qc rfl (ι := Nat) (fun i => i ≤ p.length ∧ p.take i = q.take i) (fun i => ⟨[(5, sV (.int .i64 i)), (0, .one (.b (.l p))), (1, .one (.b (.l q)))], []⟩) (fun i => p.length - i) 0 ⟨Nat.zero_le _, rfl⟩ ?_ ?_
 · repeat' (first | exact trivial | exact rfl | exact Or.inl rfl | refine And.intro ?_ ?_)
 · intro i ⟨hi, he⟩ J hJ
   refine xb rfl ?_ ?_ <;> intro h
   · have h : i < p.length := by simpa using h
     obtain ⟨row, hg⟩ : ∃ row, p[i]? = some row := ⟨_, List.getElem?_eq_getElem h⟩
     obtain ⟨row', hg'⟩ : ∃ row, q[i]? = some row := ⟨_, List.getElem?_eq_getElem (by omega)⟩
     obtain ⟨x0, x1, x2, x3, rfl⟩ := q1v (hp.2 row (List.mem_of_getElem? hg))
     obtain ⟨y0, y1, y2, y3, rfl⟩ := q1v (hq.2 row' (List.mem_of_getElem? hg'))
     refine qd rfl [] (Tk [0, 1, 2] (.take 3 [8, 9] (Tk [4, 5, 6] (.take 7 [8, 9] (.alt 8 (.take 9 [] .done) .nil))))) (by kernel_rfl) ?_
     refine xs rfl (nn_ _) (y9 rfl _ hg (xs rfl rfl ?_))
     refine xs rfl (nn_ _) (y9 rfl _ hg' (xs rfl rfl ?_))
     refine z7 rfl (y8o _ _ _ _ _ _ _ _) rfl ⟨tv5, tv5, trivial⟩ ?_
     refine xb rfl ?_ ?_ <;> intro hb
     · exact xv rfl rfl rfl (zl (fun e => by subst e; rw [hg] at hg'; cases hg'; exact y07 hb rfl))
     · have hb := z07 hb
       refine q9 rfl (hJ _ (i + 1) ⟨by omega, zq he hg (hg'.trans (by rw [hb]))⟩ (by omega) ?_)
       repeat' (first | exact trivial | exact rfl | exact Or.inl rfl | exact cwi (by omega) (by omega) (by omega) | refine And.intro ?_ ?_)
   · have h : ¬ i < p.length := by simpa using h
     exact xv rfl rfl rfl (zx (by rw [show i = p.length by omega, List.take_length] at he; rw [he, hl, List.take_length]))
theorem y47 (x0 : Int) (x1 : List (List Cell)) (y0 : Int) (y1 : List (List Cell)) (h1 : WR 9000000000000000000 yw x1) (k1 : WR 9000000000000000000 yw y1) : PC Tryz.prog 129 [.agg [.s (.int .i64 x0), .l x1], .agg [.s (.int .i64 y0), .l y1]] (rB (dE (α := List Cell) [.s (.int .i64 x0), .l x1] [.s (.int .i64 y0), .l y1])) := by
 refine PC.begin Tryz.func129 rfl (by kernel_rfl) ?_
 refine xb rfl (fun h => ?_) (fun e0 => ?_)
 · exact xv rfl rfl rfl (zl (fun e => by simp only [List.cons.injEq, Cell.s.injEq, Value.int.injEq, Value.bool.injEq, Value.string.injEq] at e; simp [e] at h))
 have e0 : x0 = y0 := by simpa using e0
 refine z7 rfl (y7i _ _ h1 k1) rfl tv3 ?_
 refine xb rfl (fun h => ?_) (fun e1 => ?_)
 · exact xv rfl rfl rfl (zl (fun e => y07 h (by simp only [List.cons.injEq, Cell.l.injEq] at e ⊢; simp only [e]; try trivial)))
 have e1 := z07 e1
 exact xv rfl rfl rfl (zx (by simp [e0, e1]))
theorem z1q (p q : List (List Cell)) (hp : WR 9000000000000000000 q7 p) (hq : WR 9000000000000000000 q7 q) : PC Tryz.prog 54 [.one (.l p), .one (.l q)] (rB (dE p q)) := by
 refine PC.begin Tryz.func54 rfl (by kernel_rfl) ?_
 have hpl := hp.1
 have hql := hq.1
 refine xb rfl ?_ ?_ <;> intro h
 · exact xv rfl rfl rfl (zl (fun e => by subst e; simp at h))
 have hl : p.length = q.length := by simpa [Int.ofNat_inj] using h
 refine qc rfl (ι := Nat) (fun i => i ≤ p.length ∧ p.take i = q.take i) (fun i => ⟨[(5, sV (.int .i64 i)), (0, .one (.b (.l p))), (1, .one (.b (.l q)))], []⟩) (fun i => p.length - i) 0 ⟨Nat.zero_le _, rfl⟩ ?_ ?_
 · repeat' (first | exact trivial | exact rfl | exact Or.inl rfl | refine And.intro ?_ ?_)
 · intro i ⟨hi, he⟩ J hJ
   refine xb rfl ?_ ?_ <;> intro h
   · have h : i < p.length := by simpa using h
     obtain ⟨row, hg⟩ : ∃ row, p[i]? = some row := ⟨_, List.getElem?_eq_getElem h⟩
     obtain ⟨row', hg'⟩ : ∃ row, q[i]? = some row := ⟨_, List.getElem?_eq_getElem (by omega)⟩
     obtain ⟨x0, x1, rfl, h1⟩ := y04 (hp.2 row (List.mem_of_getElem? hg))
     obtain ⟨y0, y1, rfl, k1⟩ := y04 (hq.2 row' (List.mem_of_getElem? hg'))
     refine qd rfl [] (Tk [0, 1, 2] (.take 3 [8, 9] (Tk [4, 5, 6] (.take 7 [8, 9] (.alt 8 (.take 9 [] .done) .nil))))) (by kernel_rfl) ?_
     refine xs rfl (nn_ _) (y9 rfl _ hg (xs rfl rfl ?_))
     refine xs rfl (nn_ _) (y9 rfl _ hg' (xs rfl rfl ?_))
     refine z7 rfl (y47 _ _ _ _ h1 k1) rfl ⟨tv3, tv3, trivial⟩ ?_
     refine xb rfl ?_ ?_ <;> intro hb
     · exact xv rfl rfl rfl (zl (fun e => by subst e; rw [hg] at hg'; cases hg'; exact y07 hb rfl))
     · have hb := z07 hb
       refine q9 rfl (hJ _ (i + 1) ⟨by omega, zq he hg (hg'.trans (by rw [hb]))⟩ (by omega) ?_)
       repeat' (first | exact trivial | exact rfl | exact Or.inl rfl | exact cwi (by omega) (by omega) (by omega) | refine And.intro ?_ ?_)
   · have h : ¬ i < p.length := by simpa using h
     exact xv rfl rfl rfl (zx (by rw [show i = p.length by omega, List.take_length] at he; rw [he, hl, List.take_length]))
theorem y4v (x0 : Int) (x1 : Int) (x2 : Int) (y0 : Int) (y1 : Int) (y2 : Int)   : PC Tryz.prog 215 [.agg [.s (.int .i64 x0), .s (.int .i64 x1), .s (.int .i64 x2)], .agg [.s (.int .i64 y0), .s (.int .i64 y1), .s (.int .i64 y2)]] (rB (dE (α := List Cell) [.s (.int .i64 x0), .s (.int .i64 x1), .s (.int .i64 x2)] [.s (.int .i64 y0), .s (.int .i64 y1), .s (.int .i64 y2)])) := by
 refine PC.begin Tryz.func215 rfl (by kernel_rfl) ?_
 refine xb rfl (fun h => ?_) (fun e0 => ?_)
 · exact xv rfl rfl rfl (zl (fun e => by simp only [List.cons.injEq, Cell.s.injEq, Value.int.injEq, Value.bool.injEq, Value.string.injEq] at e; simp [e] at h))
 have e0 : x0 = y0 := by simpa using e0
 refine xb rfl (fun h => ?_) (fun e1 => ?_)
 · exact xv rfl rfl rfl (zl (fun e => by simp only [List.cons.injEq, Cell.s.injEq, Value.int.injEq, Value.bool.injEq, Value.string.injEq] at e; simp [e] at h))
 have e1 : x1 = y1 := by simpa using e1
 refine xb rfl (fun h => ?_) (fun e2 => ?_)
 · exact xv rfl rfl rfl (zl (fun e => by simp only [List.cons.injEq, Cell.s.injEq, Value.int.injEq, Value.bool.injEq, Value.string.injEq] at e; simp [e] at h))
 have e2 : x2 = y2 := by simpa using e2
 exact xv rfl rfl rfl (zx (by simp [e0, e1, e2]))
theorem z47 (p q : List (List Cell)) (hp : WR 9000000000000000000 ze p) (hq : WR 9000000000000000000 ze q) : PC Tryz.prog 128 [.one (.l p), .one (.l q)] (rB (dE p q)) := by
 refine PC.begin Tryz.func128 rfl (by kernel_rfl) ?_
 have hpl := hp.1
 have hql := hq.1
 refine xb rfl ?_ ?_ <;> intro h
 · exact xv rfl rfl rfl (zl (fun e => by subst e; simp at h))
 have hl : p.length = q.length := by simpa [Int.ofNat_inj] using h
 refine qc rfl (ι := Nat) (fun i => i ≤ p.length ∧ p.take i = q.take i) (fun i => ⟨[(5, sV (.int .i64 i)), (0, .one (.b (.l p))), (1, .one (.b (.l q)))], []⟩) (fun i => p.length - i) 0 ⟨Nat.zero_le _, rfl⟩ ?_ ?_
 · repeat' (first | exact trivial | exact rfl | exact Or.inl rfl | refine And.intro ?_ ?_)
 · intro i ⟨hi, he⟩ J hJ
   refine xb rfl ?_ ?_ <;> intro h
   · have h : i < p.length := by simpa using h
     obtain ⟨row, hg⟩ : ∃ row, p[i]? = some row := ⟨_, List.getElem?_eq_getElem h⟩
     obtain ⟨row', hg'⟩ : ∃ row, q[i]? = some row := ⟨_, List.getElem?_eq_getElem (by omega)⟩
     obtain ⟨x0, x1, x2, rfl⟩ := q08 (hp.2 row (List.mem_of_getElem? hg))
     obtain ⟨y0, y1, y2, rfl⟩ := q08 (hq.2 row' (List.mem_of_getElem? hg'))
     refine qd rfl [] (Tk [0, 1, 2] (.take 3 [8, 9] (Tk [4, 5, 6] (.take 7 [8, 9] (.alt 8 (.take 9 [] .done) .nil))))) (by kernel_rfl) ?_
     refine xs rfl (nn_ _) (y9 rfl _ hg (xs rfl rfl ?_))
     refine xs rfl (nn_ _) (y9 rfl _ hg' (xs rfl rfl ?_))
     refine z7 rfl (y4v _ _ _ _ _ _) rfl ⟨tv4, tv4, trivial⟩ ?_
     refine xb rfl ?_ ?_ <;> intro hb
     · exact xv rfl rfl rfl (zl (fun e => by subst e; rw [hg] at hg'; cases hg'; exact y07 hb rfl))
     · have hb := z07 hb
       refine q9 rfl (hJ _ (i + 1) ⟨by omega, zq he hg (hg'.trans (by rw [hb]))⟩ (by omega) ?_)
       repeat' (first | exact trivial | exact rfl | exact Or.inl rfl | exact cwi (by omega) (by omega) (by omega) | refine And.intro ?_ ?_)
   · have h : ¬ i < p.length := by simpa using h
     exact xv rfl rfl rfl (zx (by rw [show i = p.length by omega, List.take_length] at he; rw [he, hl, List.take_length]))
theorem q7i (x0 : Int) (x1 : Int) (y0 : Int) (y1 : Int)   : PC Tryz.prog 294 [.agg [.s (.int .i64 x0), .s (.int .i64 x1)], .agg [.s (.int .i64 y0), .s (.int .i64 y1)]] (rB (dE (α := List Cell) [.s (.int .i64 x0), .s (.int .i64 x1)] [.s (.int .i64 y0), .s (.int .i64 y1)])) := by
 refine PC.begin Tryz.func294 rfl (by kernel_rfl) ?_
 refine xb rfl (fun h => ?_) (fun e0 => ?_)
 · exact xv rfl rfl rfl (zl (fun e => by simp only [List.cons.injEq, Cell.s.injEq, Value.int.injEq, Value.bool.injEq, Value.string.injEq] at e; simp [e] at h))
 have e0 : x0 = y0 := by simpa using e0
 refine xb rfl (fun h => ?_) (fun e1 => ?_)
 · exact xv rfl rfl rfl (zl (fun e => by simp only [List.cons.injEq, Cell.s.injEq, Value.int.injEq, Value.bool.injEq, Value.string.injEq] at e; simp [e] at h))
 have e1 : x1 = y1 := by simpa using e1
 exact xv rfl rfl rfl (zx (by simp [e0, e1]))
theorem q3s (p q : List (List Cell)) (hp : WR 9000000000000000000 zh p) (hq : WR 9000000000000000000 zh q) : PC Tryz.prog 217 [.one (.l p), .one (.l q)] (rB (dE p q)) := by
 refine PC.begin Tryz.func217 rfl (by kernel_rfl) ?_
 have hpl := hp.1
 have hql := hq.1
 refine xb rfl ?_ ?_ <;> intro h
 · exact xv rfl rfl rfl (zl (fun e => by subst e; simp at h))
 have hl : p.length = q.length := by simpa [Int.ofNat_inj] using h
 refine qc rfl (ι := Nat) (fun i => i ≤ p.length ∧ p.take i = q.take i) (fun i => ⟨[(5, sV (.int .i64 i)), (0, .one (.b (.l p))), (1, .one (.b (.l q)))], []⟩) (fun i => p.length - i) 0 ⟨Nat.zero_le _, rfl⟩ ?_ ?_
 · repeat' (first | exact trivial | exact rfl | exact Or.inl rfl | refine And.intro ?_ ?_)
 · intro i ⟨hi, he⟩ J hJ
   refine xb rfl ?_ ?_ <;> intro h
   · have h : i < p.length := by simpa using h
     obtain ⟨row, hg⟩ : ∃ row, p[i]? = some row := ⟨_, List.getElem?_eq_getElem h⟩
     obtain ⟨row', hg'⟩ : ∃ row, q[i]? = some row := ⟨_, List.getElem?_eq_getElem (by omega)⟩
     obtain ⟨x0, x1, rfl⟩ := y15 (hp.2 row (List.mem_of_getElem? hg))
     obtain ⟨y0, y1, rfl⟩ := y15 (hq.2 row' (List.mem_of_getElem? hg'))
     refine qd rfl [] (Tk [0, 1, 2] (.take 3 [8, 9] (Tk [4, 5, 6] (.take 7 [8, 9] (.alt 8 (.take 9 [] .done) .nil))))) (by kernel_rfl) ?_
     refine xs rfl (nn_ _) (y9 rfl _ hg (xs rfl rfl ?_))
     refine xs rfl (nn_ _) (y9 rfl _ hg' (xs rfl rfl ?_))
     refine z7 rfl (q7i _ _ _ _) rfl ⟨tv3, tv3, trivial⟩ ?_
     refine xb rfl ?_ ?_ <;> intro hb
     · exact xv rfl rfl rfl (zl (fun e => by subst e; rw [hg] at hg'; cases hg'; exact y07 hb rfl))
     · have hb := z07 hb
       refine q9 rfl (hJ _ (i + 1) ⟨by omega, zq he hg (hg'.trans (by rw [hb]))⟩ (by omega) ?_)
       repeat' (first | exact trivial | exact rfl | exact Or.inl rfl | exact cwi (by omega) (by omega) (by omega) | refine And.intro ?_ ?_)
   · have h : ¬ i < p.length := by simpa using h
     exact xv rfl rfl rfl (zx (by rw [show i = p.length by omega, List.take_length] at he; rw [he, hl, List.take_length]))
theorem y31 (p q : List (List Cell)) (hp : WR 9000000000000000000 (.i .i64 .nil) p) (hq : WR 9000000000000000000 (.i .i64 .nil) q) : PC Tryz.prog 218 [.one (.l p), .one (.l q)] (rB (dE p q)) := by
 refine PC.begin Tryz.func218 rfl (by kernel_rfl) ?_
 have hpl := hp.1
 have hql := hq.1
 refine xb rfl ?_ ?_ <;> intro h
 · exact xv rfl rfl rfl (zl (fun e => by subst e; simp at h))
 have hl : p.length = q.length := by simpa [Int.ofNat_inj] using h
 refine qc rfl (ι := Nat) (fun i => i ≤ p.length ∧ p.take i = q.take i) (fun i => ⟨[(5, sV (.int .i64 i)), (0, .one (.b (.l p))), (1, .one (.b (.l q)))], []⟩) (fun i => p.length - i) 0 ⟨Nat.zero_le _, rfl⟩ ?_ ?_
 · repeat' (first | exact trivial | exact rfl | exact Or.inl rfl | refine And.intro ?_ ?_)
 · intro i ⟨hi, he⟩ J hJ
   refine xb rfl ?_ ?_ <;> intro h
   · have h : i < p.length := by simpa using h
     obtain ⟨row, hg⟩ : ∃ row, p[i]? = some row := ⟨_, List.getElem?_eq_getElem h⟩
     obtain ⟨row', hg'⟩ : ∃ row, q[i]? = some row := ⟨_, List.getElem?_eq_getElem (by omega)⟩
     obtain ⟨x0, _, rfl, hnil⟩ := ((hp.2 row (List.mem_of_getElem? hg))).yx; obtain rfl := hnil.zz
     obtain ⟨y0, _, rfl, knil⟩ := ((hq.2 row' (List.mem_of_getElem? hg'))).yx; obtain rfl := knil.zz
     refine qd rfl [] (Tk [0, 1, 2] (.take 3 [8] (Tk [4, 5, 6] (.take 7 [8] (.take 8 [] .done))))) (by kernel_rfl) ?_
     refine xs rfl (nn_ _) (y9 rfl _ hg (xs rfl rfl ?_))
     refine xs rfl (nn_ _) (y9 rfl _ hg' (xs rfl rfl ?_))
     refine xb rfl ?_ ?_ <;> intro hb
     · exact xv rfl rfl rfl (zl (fun e => by subst e; rw [hg] at hg'; cases hg'; simp at hb))
     · have hb : x0 = y0 := by simpa using hb
       refine q9 rfl (hJ _ (i + 1) ⟨by omega, zq he hg (hg'.trans (by rw [hb]))⟩ (by omega) ?_)
       repeat' (first | exact trivial | exact rfl | exact Or.inl rfl | exact cwi (by omega) (by omega) (by omega) | refine And.intro ?_ ?_)
   · have h : ¬ i < p.length := by simpa using h
     exact xv rfl rfl rfl (zx (by rw [show i = p.length by omega, List.take_length] at he; rw [he, hl, List.take_length]))
theorem y6p (x0 : Int) (x1 : List (List Cell)) (x2 : List (List Cell)) (x3 : List (List Cell)) (x4 : List (List Cell)) (x5 : List (List Cell)) (y0 : Int) (y1 : List (List Cell)) (y2 : List (List Cell)) (y3 : List (List Cell)) (y4 : List (List Cell)) (y5 : List (List Cell)) (h1 : WR 9000000000000000000 ze x1) (h2 : WR 9000000000000000000 zh x2) (h3 : WR 9000000000000000000 q7 x3) (h4 : WR 9000000000000000000 zh x4) (h5 : WR 9000000000000000000 (.i .i64 .nil) x5) (k1 : WR 9000000000000000000 ze y1) (k2 : WR 9000000000000000000 zh y2) (k3 : WR 9000000000000000000 q7 y3) (k4 : WR 9000000000000000000 zh y4) (k5 : WR 9000000000000000000 (.i .i64 .nil) y5) : PC Tryz.prog 130 [.agg [.s (.int .i64 x0), .l x1, .l x2, .l x3, .l x4, .l x5], .agg [.s (.int .i64 y0), .l y1, .l y2, .l y3, .l y4, .l y5]] (rB (dE (α := List Cell) [.s (.int .i64 x0), .l x1, .l x2, .l x3, .l x4, .l x5] [.s (.int .i64 y0), .l y1, .l y2, .l y3, .l y4, .l y5])) := by
 refine PC.begin Tryz.func130 rfl (by kernel_rfl) ?_
 refine xb rfl (fun h => ?_) (fun e0 => ?_)
 · exact xv rfl rfl rfl (zl (fun e => by simp only [List.cons.injEq, Cell.s.injEq, Value.int.injEq, Value.bool.injEq, Value.string.injEq] at e; simp [e] at h))
 have e0 : x0 = y0 := by simpa using e0
 refine z7 rfl (z47 _ _ h1 k1) rfl tv3 ?_
 refine xb rfl (fun h => ?_) (fun e1 => ?_)
 · exact xv rfl rfl rfl (zl (fun e => y07 h (by simp only [List.cons.injEq, Cell.l.injEq] at e ⊢; simp only [e]; try trivial)))
 have e1 := z07 e1
 refine z7 rfl (q3s _ _ h2 k2) rfl tv3 ?_
 refine xb rfl (fun h => ?_) (fun e2 => ?_)
 · exact xv rfl rfl rfl (zl (fun e => y07 h (by simp only [List.cons.injEq, Cell.l.injEq] at e ⊢; simp only [e]; try trivial)))
 have e2 := z07 e2
 refine z7 rfl (z1q _ _ h3 k3) rfl tv3 ?_
 refine xb rfl (fun h => ?_) (fun e3 => ?_)
 · exact xv rfl rfl rfl (zl (fun e => y07 h (by simp only [List.cons.injEq, Cell.l.injEq] at e ⊢; simp only [e]; try trivial)))
 have e3 := z07 e3
 refine z7 rfl (q3s _ _ h4 k4) rfl tv3 ?_
 refine xb rfl (fun h => ?_) (fun e4 => ?_)
 · exact xv rfl rfl rfl (zl (fun e => y07 h (by simp only [List.cons.injEq, Cell.l.injEq] at e ⊢; simp only [e]; try trivial)))
 have e4 := z07 e4
 refine z7 rfl (y31 _ _ h5 k5) rfl tv3 ?_
 refine xb rfl (fun h => ?_) (fun e5 => ?_)
 · exact xv rfl rfl rfl (zl (fun e => y07 h (by simp only [List.cons.injEq, Cell.l.injEq] at e ⊢; simp only [e]; try trivial)))
 have e5 := z07 e5
 exact xv rfl rfl rfl (zx (by simp [e0, e1, e2, e3, e4, e5]))
theorem y5k (p q : List (List Cell)) (hp : WR 9000000000000000000 zb p) (hq : WR 9000000000000000000 zb q) : PC Tryz.prog 55 [.one (.l p), .one (.l q)] (rB (dE p q)) := by
 refine PC.begin Tryz.func55 rfl (by kernel_rfl) ?_
 have hpl := hp.1
 have hql := hq.1
 refine xb rfl ?_ ?_ <;> intro h
 · exact xv rfl rfl rfl (zl (fun e => by subst e; simp at h))
 have hl : p.length = q.length := by simpa [Int.ofNat_inj] using h
 refine qc rfl (ι := Nat) (fun i => i ≤ p.length ∧ p.take i = q.take i) (fun i => ⟨[(5, sV (.int .i64 i)), (0, .one (.b (.l p))), (1, .one (.b (.l q)))], []⟩) (fun i => p.length - i) 0 ⟨Nat.zero_le _, rfl⟩ ?_ ?_
 · repeat' (first | exact trivial | exact rfl | exact Or.inl rfl | refine And.intro ?_ ?_)
 · intro i ⟨hi, he⟩ J hJ
   refine xb rfl ?_ ?_ <;> intro h
   · have h : i < p.length := by simpa using h
     obtain ⟨row, hg⟩ : ∃ row, p[i]? = some row := ⟨_, List.getElem?_eq_getElem h⟩
     obtain ⟨row', hg'⟩ : ∃ row, q[i]? = some row := ⟨_, List.getElem?_eq_getElem (by omega)⟩
     obtain ⟨x0, x1, x2, x3, x4, x5, rfl, h1, h2, h3, h4, h5⟩ := z0p (hp.2 row (List.mem_of_getElem? hg))
     obtain ⟨y0, y1, y2, y3, y4, y5, rfl, k1, k2, k3, k4, k5⟩ := z0p (hq.2 row' (List.mem_of_getElem? hg'))
     refine qd rfl [] (Tk [0, 1, 2] (.take 3 [8, 9] (Tk [4, 5, 6] (.take 7 [8, 9] (.alt 8 (.take 9 [] .done) .nil))))) (by kernel_rfl) ?_
     refine xs rfl (nn_ _) (y9 rfl _ hg (xs rfl rfl ?_))
     refine xs rfl (nn_ _) (y9 rfl _ hg' (xs rfl rfl ?_))
     refine z7 rfl (y6p _ _ _ _ _ _ _ _ _ _ _ _ h1 h2 h3 h4 h5 k1 k2 k3 k4 k5) rfl ⟨tv7, tv7, trivial⟩ ?_
     refine xb rfl ?_ ?_ <;> intro hb
     · exact xv rfl rfl rfl (zl (fun e => by subst e; rw [hg] at hg'; cases hg'; exact y07 hb rfl))
     · have hb := z07 hb
       refine q9 rfl (hJ _ (i + 1) ⟨by omega, zq he hg (hg'.trans (by rw [hb]))⟩ (by omega) ?_)
       repeat' (first | exact trivial | exact rfl | exact Or.inl rfl | exact cwi (by omega) (by omega) (by omega) | refine And.intro ?_ ?_)
   · have h : ¬ i < p.length := by simpa using h
     exact xv rfl rfl rfl (zx (by rw [show i = p.length by omega, List.take_length] at he; rw [he, hl, List.take_length]))
theorem z32 (x0 : Int) (x1 : Int) (y0 : Int) (y1 : Int)   : PC Tryz.prog 222 [.agg [.s (.int .i64 x0), .s (.int .i64 x1)], .agg [.s (.int .i64 y0), .s (.int .i64 y1)]] (rB (dE (α := List Cell) [.s (.int .i64 x0), .s (.int .i64 x1)] [.s (.int .i64 y0), .s (.int .i64 y1)])) := by
 refine PC.begin Tryz.func222 rfl (by kernel_rfl) ?_
 refine xb rfl (fun h => ?_) (fun e0 => ?_)
 · exact xv rfl rfl rfl (zl (fun e => by simp only [List.cons.injEq, Cell.s.injEq, Value.int.injEq, Value.bool.injEq, Value.string.injEq] at e; simp [e] at h))
 have e0 : x0 = y0 := by simpa using e0
 refine xb rfl (fun h => ?_) (fun e1 => ?_)
 · exact xv rfl rfl rfl (zl (fun e => by simp only [List.cons.injEq, Cell.s.injEq, Value.int.injEq, Value.bool.injEq, Value.string.injEq] at e; simp [e] at h))
 have e1 : x1 = y1 := by simpa using e1
 exact xv rfl rfl rfl (zx (by simp [e0, e1]))
theorem z3t (p q : List (List Cell)) (hp : WR 9000000000000000000 yk p) (hq : WR 9000000000000000000 yk q) : PC Tryz.prog 352 [.one (.l p), .one (.l q)] (rB (dE p q)) := by
 refine PC.begin Tryz.func352 rfl (by kernel_rfl) ?_
 have hpl := hp.1
 have hql := hq.1
 refine xb rfl ?_ ?_ <;> intro h
 · exact xv rfl rfl rfl (zl (fun e => by subst e; simp at h))
 have hl : p.length = q.length := by simpa [Int.ofNat_inj] using h
 refine qc rfl (ι := Nat) (fun i => i ≤ p.length ∧ p.take i = q.take i) (fun i => ⟨[(5, sV (.int .i64 i)), (0, .one (.b (.l p))), (1, .one (.b (.l q)))], []⟩) (fun i => p.length - i) 0 ⟨Nat.zero_le _, rfl⟩ ?_ ?_
 · repeat' (first | exact trivial | exact rfl | exact Or.inl rfl | refine And.intro ?_ ?_)
 · intro i ⟨hi, he⟩ J hJ
   refine xb rfl ?_ ?_ <;> intro h
   · have h : i < p.length := by simpa using h
     obtain ⟨row, hg⟩ : ∃ row, p[i]? = some row := ⟨_, List.getElem?_eq_getElem h⟩
     obtain ⟨row', hg'⟩ : ∃ row, q[i]? = some row := ⟨_, List.getElem?_eq_getElem (by omega)⟩
     obtain ⟨x0, x1, rfl⟩ := z16 (hp.2 row (List.mem_of_getElem? hg))
     obtain ⟨y0, y1, rfl⟩ := z16 (hq.2 row' (List.mem_of_getElem? hg'))
     refine qd rfl [] (Tk [0, 1, 2] (.take 3 [8, 9] (Tk [4, 5, 6] (.take 7 [8, 9] (.alt 8 (.take 9 [] .done) .nil))))) (by kernel_rfl) ?_
     refine xs rfl (nn_ _) (y9 rfl _ hg (xs rfl rfl ?_))
     refine xs rfl (nn_ _) (y9 rfl _ hg' (xs rfl rfl ?_))
     refine z7 rfl (z32 _ _ _ _) rfl ⟨tv3, tv3, trivial⟩ ?_
     refine xb rfl ?_ ?_ <;> intro hb
     · exact xv rfl rfl rfl (zl (fun e => by subst e; rw [hg] at hg'; cases hg'; exact y07 hb rfl))
     · have hb := z07 hb
       refine q9 rfl (hJ _ (i + 1) ⟨by omega, zq he hg (hg'.trans (by rw [hb]))⟩ (by omega) ?_)
       repeat' (first | exact trivial | exact rfl | exact Or.inl rfl | exact cwi (by omega) (by omega) (by omega) | refine And.intro ?_ ?_)
   · have h : ¬ i < p.length := by simpa using h
     exact xv rfl rfl rfl (zx (by rw [show i = p.length by omega, List.take_length] at he; rw [he, hl, List.take_length]))
theorem z7j (x0 : Int) (x1 : Int) (x2 : Int) (x3 : Int) (x4 : Int) (x5 : List (List Cell)) (y0 : Int) (y1 : Int) (y2 : Int) (y3 : Int) (y4 : Int) (y5 : List (List Cell)) (h5 : WR 9000000000000000000 yk x5) (k5 : WR 9000000000000000000 yk y5) : PC Tryz.prog 295 [.agg [.s (.int .i64 x0), .s (.int .i64 x1), .s (.int .i64 x2), .s (.int .i64 x3), .s (.int .i64 x4), .l x5], .agg [.s (.int .i64 y0), .s (.int .i64 y1), .s (.int .i64 y2), .s (.int .i64 y3), .s (.int .i64 y4), .l y5]] (rB (dE (α := List Cell) [.s (.int .i64 x0), .s (.int .i64 x1), .s (.int .i64 x2), .s (.int .i64 x3), .s (.int .i64 x4), .l x5] [.s (.int .i64 y0), .s (.int .i64 y1), .s (.int .i64 y2), .s (.int .i64 y3), .s (.int .i64 y4), .l y5])) := by
 refine PC.begin Tryz.func295 rfl (by kernel_rfl) ?_
 refine xb rfl (fun h => ?_) (fun e0 => ?_)
 · exact xv rfl rfl rfl (zl (fun e => by simp only [List.cons.injEq, Cell.s.injEq, Value.int.injEq, Value.bool.injEq, Value.string.injEq] at e; simp [e] at h))
 have e0 : x0 = y0 := by simpa using e0
 refine xb rfl (fun h => ?_) (fun e1 => ?_)
 · exact xv rfl rfl rfl (zl (fun e => by simp only [List.cons.injEq, Cell.s.injEq, Value.int.injEq, Value.bool.injEq, Value.string.injEq] at e; simp [e] at h))
 have e1 : x1 = y1 := by simpa using e1
 refine xb rfl (fun h => ?_) (fun e2 => ?_)
 · exact xv rfl rfl rfl (zl (fun e => by simp only [List.cons.injEq, Cell.s.injEq, Value.int.injEq, Value.bool.injEq, Value.string.injEq] at e; simp [e] at h))
 have e2 : x2 = y2 := by simpa using e2
 refine z7 rfl (z32 _ _ _ _) rfl ⟨tv3, tv3, trivial⟩ ?_
 refine xb rfl (fun h => ?_) (fun e3 => ?_)
 · exact xv rfl rfl rfl (zl (fun e => y07 h (by simp only [List.cons.injEq, Cell.l.injEq] at e ⊢; simp only [e]; try trivial)))
 have e3 := z07 e3
 simp only [List.cons.injEq, Cell.s.injEq, Cell.l.injEq, Value.int.injEq, Value.bool.injEq, and_true, true_and] at e3
 refine z7 rfl (z3t _ _ h5 k5) rfl tv3 ?_
 refine xb rfl (fun h => ?_) (fun e5 => ?_)
 · exact xv rfl rfl rfl (zl (fun e => y07 h (by simp only [List.cons.injEq, Cell.l.injEq] at e ⊢; simp only [e]; try trivial)))
 have e5 := z07 e5
 exact xv rfl rfl rfl (zx (by simp [e0, e1, e2, e3, e5]))
theorem q6p (p q : List (List Cell)) (hp : WR 9000000000000000000 qj p) (hq : WR 9000000000000000000 qj q) : PC Tryz.prog 219 [.one (.l p), .one (.l q)] (rB (dE p q)) := by
 refine PC.begin Tryz.func219 rfl (by kernel_rfl) ?_
 have hpl := hp.1
 have hql := hq.1
 refine xb rfl ?_ ?_ <;> intro h
 · exact xv rfl rfl rfl (zl (fun e => by subst e; simp at h))
 have hl : p.length = q.length := by simpa [Int.ofNat_inj] using h
 refine qc rfl (ι := Nat) (fun i => i ≤ p.length ∧ p.take i = q.take i) (fun i => ⟨[(5, sV (.int .i64 i)), (0, .one (.b (.l p))), (1, .one (.b (.l q)))], []⟩) (fun i => p.length - i) 0 ⟨Nat.zero_le _, rfl⟩ ?_ ?_
 · repeat' (first | exact trivial | exact rfl | exact Or.inl rfl | refine And.intro ?_ ?_)
 · intro i ⟨hi, he⟩ J hJ
   refine xb rfl ?_ ?_ <;> intro h
   · have h : i < p.length := by simpa using h
     obtain ⟨row, hg⟩ : ∃ row, p[i]? = some row := ⟨_, List.getElem?_eq_getElem h⟩
     obtain ⟨row', hg'⟩ : ∃ row, q[i]? = some row := ⟨_, List.getElem?_eq_getElem (by omega)⟩
     obtain ⟨x0, x1, x2, x3, x4, x5, rfl, h5⟩ := q15 (hp.2 row (List.mem_of_getElem? hg))
     obtain ⟨y0, y1, y2, y3, y4, y5, rfl, k5⟩ := q15 (hq.2 row' (List.mem_of_getElem? hg'))
     refine qd rfl [] (Tk [0, 1, 2] (.take 3 [8, 9] (Tk [4, 5, 6] (.take 7 [8, 9] (.alt 8 (.take 9 [] .done) .nil))))) (by kernel_rfl) ?_
     refine xs rfl (nn_ _) (y9 rfl _ hg (xs rfl rfl ?_))
     refine xs rfl (nn_ _) (y9 rfl _ hg' (xs rfl rfl ?_))
     refine z7 rfl (z7j _ _ _ _ _ _ _ _ _ _ _ _ h5 k5) rfl ⟨tv7, tv7, trivial⟩ ?_
     refine xb rfl ?_ ?_ <;> intro hb
     · exact xv rfl rfl rfl (zl (fun e => by subst e; rw [hg] at hg'; cases hg'; exact y07 hb rfl))
     · have hb := z07 hb
       refine q9 rfl (hJ _ (i + 1) ⟨by omega, zq he hg (hg'.trans (by rw [hb]))⟩ (by omega) ?_)
       repeat' (first | exact trivial | exact rfl | exact Or.inl rfl | exact cwi (by omega) (by omega) (by omega) | refine And.intro ?_ ?_)
   · have h : ¬ i < p.length := by simpa using h
     exact xv rfl rfl rfl (zx (by rw [show i = p.length by omega, List.take_length] at he; rw [he, hl, List.take_length]))
theorem q46 (x0 : List (List Cell)) (y0 : List (List Cell)) (h0 : WR 9000000000000000000 qj x0) (k0 : WR 9000000000000000000 qj y0) : PC Tryz.prog 131 [.agg [.l x0], .agg [.l y0]] (rB (dE (α := List Cell) [.l x0] [.l y0])) := by
 refine PC.begin Tryz.func131 rfl (by kernel_rfl) ?_
 refine z7 rfl (q6p _ _ h0 k0) rfl tv3 ?_
 refine xb rfl (fun h => ?_) (fun e0 => ?_)
 · exact xv rfl rfl rfl (zl (fun e => y07 h (by simp only [List.cons.injEq, Cell.l.injEq] at e ⊢; simp only [e]; try trivial)))
 have e0 := z07 e0
 exact xv rfl rfl rfl (zx (by simp [e0]))
theorem q3l (p q : List (List Cell)) (hp : WR 9000000000000000000 z8 p) (hq : WR 9000000000000000000 z8 q) : PC Tryz.prog 56 [.one (.l p), .one (.l q)] (rB (dE p q)) := by
 refine PC.begin Tryz.func56 rfl (by kernel_rfl) ?_
 have hpl := hp.1
 have hql := hq.1
 refine xb rfl ?_ ?_ <;> intro h
 · exact xv rfl rfl rfl (zl (fun e => by subst e; simp at h))
 have hl : p.length = q.length := by simpa [Int.ofNat_inj] using h
 refine qc rfl (ι := Nat) (fun i => i ≤ p.length ∧ p.take i = q.take i) (fun i => ⟨[(5, sV (.int .i64 i)), (0, .one (.b (.l p))), (1, .one (.b (.l q)))], []⟩) (fun i => p.length - i) 0 ⟨Nat.zero_le _, rfl⟩ ?_ ?_
 · repeat' (first | exact trivial | exact rfl | exact Or.inl rfl | refine And.intro ?_ ?_)
 · intro i ⟨hi, he⟩ J hJ
   refine xb rfl ?_ ?_ <;> intro h
   · have h : i < p.length := by simpa using h
     obtain ⟨row, hg⟩ : ∃ row, p[i]? = some row := ⟨_, List.getElem?_eq_getElem h⟩
     obtain ⟨row', hg'⟩ : ∃ row, q[i]? = some row := ⟨_, List.getElem?_eq_getElem (by omega)⟩
     obtain ⟨x0, rfl, h0⟩ := q03 (hp.2 row (List.mem_of_getElem? hg))
     obtain ⟨y0, rfl, k0⟩ := q03 (hq.2 row' (List.mem_of_getElem? hg'))
     refine qd rfl [] (Tk [0, 1, 2] (.take 3 [8, 9] (Tk [4, 5, 6] (.take 7 [8, 9] (.alt 8 (.take 9 [] .done) .nil))))) (by kernel_rfl) ?_
     refine xs rfl (nn_ _) (y9 rfl _ hg (xs rfl rfl ?_))
     refine xs rfl (nn_ _) (y9 rfl _ hg' (xs rfl rfl ?_))
     refine z7 rfl (q46 _ _ h0 k0) rfl ⟨⟨trivial, trivial⟩, ⟨trivial, trivial⟩, trivial⟩ ?_
     refine xb rfl ?_ ?_ <;> intro hb
     · exact xv rfl rfl rfl (zl (fun e => by subst e; rw [hg] at hg'; cases hg'; exact y07 hb rfl))
     · have hb := z07 hb
       refine q9 rfl (hJ _ (i + 1) ⟨by omega, zq he hg (hg'.trans (by rw [hb]))⟩ (by omega) ?_)
       repeat' (first | exact trivial | exact rfl | exact Or.inl rfl | exact cwi (by omega) (by omega) (by omega) | refine And.intro ?_ ?_)
   · have h : ¬ i < p.length := by simpa using h
     exact xv rfl rfl rfl (zx (by rw [show i = p.length by omega, List.take_length] at he; rw [he, hl, List.take_length]))
theorem q8o (x0 : Int) (x1 : Int) (x2 : Int) (x3 : Int) (x4 : List (List Cell)) (x5 : List (List Cell)) (y0 : Int) (y1 : Int) (y2 : Int) (y3 : Int) (y4 : List (List Cell)) (y5 : List (List Cell)) (h4 : WR 9000000000000000000 (.i .i64 .nil) x4) (h5 : WR 9000000000000000000 yk x5) (k4 : WR 9000000000000000000 (.i .i64 .nil) y4) (k5 : WR 9000000000000000000 yk y5) : PC Tryz.prog 296 [.agg [.s (.int .i64 x0), .s (.int .i64 x1), .s (.int .i64 x2), .s (.int .i64 x3), .l x4, .l x5], .agg [.s (.int .i64 y0), .s (.int .i64 y1), .s (.int .i64 y2), .s (.int .i64 y3), .l y4, .l y5]] (rB (dE (α := List Cell) [.s (.int .i64 x0), .s (.int .i64 x1), .s (.int .i64 x2), .s (.int .i64 x3), .l x4, .l x5] [.s (.int .i64 y0), .s (.int .i64 y1), .s (.int .i64 y2), .s (.int .i64 y3), .l y4, .l y5])) := by
 refine PC.begin Tryz.func296 rfl (by kernel_rfl) ?_
 refine xb rfl (fun h => ?_) (fun e0 => ?_)
 · exact xv rfl rfl rfl (zl (fun e => by simp only [List.cons.injEq, Cell.s.injEq, Value.int.injEq, Value.bool.injEq, Value.string.injEq] at e; simp [e] at h))
 have e0 : x0 = y0 := by simpa using e0
 refine xb rfl (fun h => ?_) (fun e1 => ?_)
 · exact xv rfl rfl rfl (zl (fun e => by simp only [List.cons.injEq, Cell.s.injEq, Value.int.injEq, Value.bool.injEq, Value.string.injEq] at e; simp [e] at h))
 have e1 : x1 = y1 := by simpa using e1
 refine xb rfl (fun h => ?_) (fun e2 => ?_)
 · exact xv rfl rfl rfl (zl (fun e => by simp only [List.cons.injEq, Cell.s.injEq, Value.int.injEq, Value.bool.injEq, Value.string.injEq] at e; simp [e] at h))
 have e2 : x2 = y2 := by simpa using e2
 refine xb rfl (fun h => ?_) (fun e3 => ?_)
 · exact xv rfl rfl rfl (zl (fun e => by simp only [List.cons.injEq, Cell.s.injEq, Value.int.injEq, Value.bool.injEq, Value.string.injEq] at e; simp [e] at h))
 have e3 : x3 = y3 := by simpa using e3
 refine z7 rfl (y31 _ _ h4 k4) rfl tv3 ?_
 refine xb rfl (fun h => ?_) (fun e4 => ?_)
 · exact xv rfl rfl rfl (zl (fun e => y07 h (by simp only [List.cons.injEq, Cell.l.injEq] at e ⊢; simp only [e]; try trivial)))
 have e4 := z07 e4
 refine z7 rfl (z3t _ _ h5 k5) rfl tv3 ?_
 refine xb rfl (fun h => ?_) (fun e5 => ?_)
 · exact xv rfl rfl rfl (zl (fun e => y07 h (by simp only [List.cons.injEq, Cell.l.injEq] at e ⊢; simp only [e]; try trivial)))
 have e5 := z07 e5
 exact xv rfl rfl rfl (zx (by simp [e0, e1, e2, e3, e4, e5]))
theorem y7j (p q : List (List Cell)) (hp : WR 9000000000000000000 zp p) (hq : WR 9000000000000000000 zp q) : PC Tryz.prog 220 [.one (.l p), .one (.l q)] (rB (dE p q)) := by
 refine PC.begin Tryz.func220 rfl (by kernel_rfl) ?_
 have hpl := hp.1
 have hql := hq.1
 refine xb rfl ?_ ?_ <;> intro h
 · exact xv rfl rfl rfl (zl (fun e => by subst e; simp at h))
 have hl : p.length = q.length := by simpa [Int.ofNat_inj] using h
 refine qc rfl (ι := Nat) (fun i => i ≤ p.length ∧ p.take i = q.take i) (fun i => ⟨[(5, sV (.int .i64 i)), (0, .one (.b (.l p))), (1, .one (.b (.l q)))], []⟩) (fun i => p.length - i) 0 ⟨Nat.zero_le _, rfl⟩ ?_ ?_
 · repeat' (first | exact trivial | exact rfl | exact Or.inl rfl | refine And.intro ?_ ?_)
 · intro i ⟨hi, he⟩ J hJ
   refine xb rfl ?_ ?_ <;> intro h
   · have h : i < p.length := by simpa using h
     obtain ⟨row, hg⟩ : ∃ row, p[i]? = some row := ⟨_, List.getElem?_eq_getElem h⟩
     obtain ⟨row', hg'⟩ : ∃ row, q[i]? = some row := ⟨_, List.getElem?_eq_getElem (by omega)⟩
     obtain ⟨x0, x1, x2, x3, x4, x5, rfl, h4, h5⟩ := z1w (hp.2 row (List.mem_of_getElem? hg))
     obtain ⟨y0, y1, y2, y3, y4, y5, rfl, k4, k5⟩ := z1w (hq.2 row' (List.mem_of_getElem? hg'))
     refine qd rfl [] (Tk [0, 1, 2] (.take 3 [8, 9] (Tk [4, 5, 6] (.take 7 [8, 9] (.alt 8 (.take 9 [] .done) .nil))))) (by kernel_rfl) ?_
     refine xs rfl (nn_ _) (y9 rfl _ hg (xs rfl rfl ?_))
     refine xs rfl (nn_ _) (y9 rfl _ hg' (xs rfl rfl ?_))
     refine z7 rfl (q8o _ _ _ _ _ _ _ _ _ _ _ _ h4 h5 k4 k5) rfl ⟨tv7, tv7, trivial⟩ ?_
     refine xb rfl ?_ ?_ <;> intro hb
     · exact xv rfl rfl rfl (zl (fun e => by subst e; rw [hg] at hg'; cases hg'; exact y07 hb rfl))
     · have hb := z07 hb
       refine q9 rfl (hJ _ (i + 1) ⟨by omega, zq he hg (hg'.trans (by rw [hb]))⟩ (by omega) ?_)
       repeat' (first | exact trivial | exact rfl | exact Or.inl rfl | exact cwi (by omega) (by omega) (by omega) | refine And.intro ?_ ?_)
   · have h : ¬ i < p.length := by simpa using h
     exact xv rfl rfl rfl (zx (by rw [show i = p.length by omega, List.take_length] at he; rw [he, hl, List.take_length]))
theorem z6p (x0 : Int) (x1 : Int) (x2 : Int) (x3 : Int) (x4 : Int) (y0 : Int) (y1 : Int) (y2 : Int) (y3 : Int) (y4 : Int)   : PC Tryz.prog 297 [.agg [.s (.int .i64 x0), .s (.int .i64 x1), .s (.int .i64 x2), .s (.int .i64 x3), .s (.int .i64 x4)], .agg [.s (.int .i64 y0), .s (.int .i64 y1), .s (.int .i64 y2), .s (.int .i64 y3), .s (.int .i64 y4)]] (rB (dE (α := List Cell) [.s (.int .i64 x0), .s (.int .i64 x1), .s (.int .i64 x2), .s (.int .i64 x3), .s (.int .i64 x4)] [.s (.int .i64 y0), .s (.int .i64 y1), .s (.int .i64 y2), .s (.int .i64 y3), .s (.int .i64 y4)])) := by
 refine PC.begin Tryz.func297 rfl (by kernel_rfl) ?_
 refine xb rfl (fun h => ?_) (fun e0 => ?_)
 · exact xv rfl rfl rfl (zl (fun e => by simp only [List.cons.injEq, Cell.s.injEq, Value.int.injEq, Value.bool.injEq, Value.string.injEq] at e; simp [e] at h))
 have e0 : x0 = y0 := by simpa using e0
 refine xb rfl (fun h => ?_) (fun e1 => ?_)
 · exact xv rfl rfl rfl (zl (fun e => by simp only [List.cons.injEq, Cell.s.injEq, Value.int.injEq, Value.bool.injEq, Value.string.injEq] at e; simp [e] at h))
 have e1 : x1 = y1 := by simpa using e1
 refine xb rfl (fun h => ?_) (fun e2 => ?_)
 · exact xv rfl rfl rfl (zl (fun e => by simp only [List.cons.injEq, Cell.s.injEq, Value.int.injEq, Value.bool.injEq, Value.string.injEq] at e; simp [e] at h))
 have e2 : x2 = y2 := by simpa using e2
 refine xb rfl (fun h => ?_) (fun e3 => ?_)
 · exact xv rfl rfl rfl (zl (fun e => by simp only [List.cons.injEq, Cell.s.injEq, Value.int.injEq, Value.bool.injEq, Value.string.injEq] at e; simp [e] at h))
 have e3 : x3 = y3 := by simpa using e3
 refine xb rfl (fun h => ?_) (fun e4 => ?_)
 · exact xv rfl rfl rfl (zl (fun e => by simp only [List.cons.injEq, Cell.s.injEq, Value.int.injEq, Value.bool.injEq, Value.string.injEq] at e; simp [e] at h))
 have e4 : x4 = y4 := by simpa using e4
 exact xv rfl rfl rfl (zx (by simp [e0, e1, e2, e3, e4]))
theorem q5j (p q : List (List Cell)) (hp : WR 9000000000000000000 zm p) (hq : WR 9000000000000000000 zm q) : PC Tryz.prog 221 [.one (.l p), .one (.l q)] (rB (dE p q)) := by
 refine PC.begin Tryz.func221 rfl (by kernel_rfl) ?_
 have hpl := hp.1
 have hql := hq.1
 refine xb rfl ?_ ?_ <;> intro h
 · exact xv rfl rfl rfl (zl (fun e => by subst e; simp at h))
 have hl : p.length = q.length := by simpa [Int.ofNat_inj] using h
 refine qc rfl (ι := Nat) (fun i => i ≤ p.length ∧ p.take i = q.take i) (fun i => ⟨[(5, sV (.int .i64 i)), (0, .one (.b (.l p))), (1, .one (.b (.l q)))], []⟩) (fun i => p.length - i) 0 ⟨Nat.zero_le _, rfl⟩ ?_ ?_
 · repeat' (first | exact trivial | exact rfl | exact Or.inl rfl | refine And.intro ?_ ?_)
 · intro i ⟨hi, he⟩ J hJ
   refine xb rfl ?_ ?_ <;> intro h
   · have h : i < p.length := by simpa using h
     obtain ⟨row, hg⟩ : ∃ row, p[i]? = some row := ⟨_, List.getElem?_eq_getElem h⟩
     obtain ⟨row', hg'⟩ : ∃ row, q[i]? = some row := ⟨_, List.getElem?_eq_getElem (by omega)⟩
     obtain ⟨x0, x1, x2, x3, x4, rfl⟩ := q0o (hp.2 row (List.mem_of_getElem? hg))
     obtain ⟨y0, y1, y2, y3, y4, rfl⟩ := q0o (hq.2 row' (List.mem_of_getElem? hg'))
     refine qd rfl [] (Tk [0, 1, 2] (.take 3 [8, 9] (Tk [4, 5, 6] (.take 7 [8, 9] (.alt 8 (.take 9 [] .done) .nil))))) (by kernel_rfl) ?_
     refine xs rfl (nn_ _) (y9 rfl _ hg (xs rfl rfl ?_))
     refine xs rfl (nn_ _) (y9 rfl _ hg' (xs rfl rfl ?_))
     refine z7 rfl (z6p _ _ _ _ _ _ _ _ _ _) rfl ⟨tv6, tv6, trivial⟩ ?_
     refine xb rfl ?_ ?_ <;> intro hb
     · exact xv rfl rfl rfl (zl (fun e => by subst e; rw [hg] at hg'; cases hg'; exact y07 hb rfl))
     · have hb := z07 hb
       refine q9 rfl (hJ _ (i + 1) ⟨by omega, zq he hg (hg'.trans (by rw [hb]))⟩ (by omega) ?_)
       repeat' (first | exact trivial | exact rfl | exact Or.inl rfl | exact cwi (by omega) (by omega) (by omega) | refine And.intro ?_ ?_)
   · have h : ¬ i < p.length := by simpa using h
     exact xv rfl rfl rfl (zx (by rw [show i = p.length by omega, List.take_length] at he; rw [he, hl, List.take_length]))
theorem z5k (x0 : Int) (x1 : List (List Cell)) (x2 : List (List Cell)) (y0 : Int) (y1 : List (List Cell)) (y2 : List (List Cell)) (h1 : WR 9000000000000000000 zp x1) (h2 : WR 9000000000000000000 zm x2) (k1 : WR 9000000000000000000 zp y1) (k2 : WR 9000000000000000000 zm y2) : PC Tryz.prog 132 [.agg [.s (.int .i64 x0), .l x1, .l x2], .agg [.s (.int .i64 y0), .l y1, .l y2]] (rB (dE (α := List Cell) [.s (.int .i64 x0), .l x1, .l x2] [.s (.int .i64 y0), .l y1, .l y2])) := by
 refine PC.begin Tryz.func132 rfl (by kernel_rfl) ?_
 refine xb rfl (fun h => ?_) (fun e0 => ?_)
 · exact xv rfl rfl rfl (zl (fun e => by simp only [List.cons.injEq, Cell.s.injEq, Value.int.injEq, Value.bool.injEq, Value.string.injEq] at e; simp [e] at h))
 have e0 : x0 = y0 := by simpa using e0
 refine z7 rfl (y7j _ _ h1 k1) rfl tv3 ?_
 refine xb rfl (fun h => ?_) (fun e1 => ?_)
 · exact xv rfl rfl rfl (zl (fun e => y07 h (by simp only [List.cons.injEq, Cell.l.injEq] at e ⊢; simp only [e]; try trivial)))
 have e1 := z07 e1
 refine z7 rfl (q5j _ _ h2 k2) rfl tv3 ?_
 refine xb rfl (fun h => ?_) (fun e2 => ?_)
 · exact xv rfl rfl rfl (zl (fun e => y07 h (by simp only [List.cons.injEq, Cell.l.injEq] at e ⊢; simp only [e]; try trivial)))
 have e2 := z07 e2
 exact xv rfl rfl rfl (zx (by simp [e0, e1, e2]))
theorem q4v (p q : List (List Cell)) (hp : WR 9000000000000000000 qa p) (hq : WR 9000000000000000000 qa q) : PC Tryz.prog 57 [.one (.l p), .one (.l q)] (rB (dE p q)) := by
 refine PC.begin Tryz.func57 rfl (by kernel_rfl) ?_
 have hpl := hp.1
 have hql := hq.1
 refine xb rfl ?_ ?_ <;> intro h
 · exact xv rfl rfl rfl (zl (fun e => by subst e; simp at h))
 have hl : p.length = q.length := by simpa [Int.ofNat_inj] using h
 refine qc rfl (ι := Nat) (fun i => i ≤ p.length ∧ p.take i = q.take i) (fun i => ⟨[(5, sV (.int .i64 i)), (0, .one (.b (.l p))), (1, .one (.b (.l q)))], []⟩) (fun i => p.length - i) 0 ⟨Nat.zero_le _, rfl⟩ ?_ ?_
 · repeat' (first | exact trivial | exact rfl | exact Or.inl rfl | refine And.intro ?_ ?_)
 · intro i ⟨hi, he⟩ J hJ
   refine xb rfl ?_ ?_ <;> intro h
   · have h : i < p.length := by simpa using h
     obtain ⟨row, hg⟩ : ∃ row, p[i]? = some row := ⟨_, List.getElem?_eq_getElem h⟩
     obtain ⟨row', hg'⟩ : ∃ row, q[i]? = some row := ⟨_, List.getElem?_eq_getElem (by omega)⟩
     obtain ⟨x0, x1, x2, rfl, h1, h2⟩ := q0d (hp.2 row (List.mem_of_getElem? hg))
     obtain ⟨y0, y1, y2, rfl, k1, k2⟩ := q0d (hq.2 row' (List.mem_of_getElem? hg'))
     refine qd rfl [] (Tk [0, 1, 2] (.take 3 [8, 9] (Tk [4, 5, 6] (.take 7 [8, 9] (.alt 8 (.take 9 [] .done) .nil))))) (by kernel_rfl) ?_
     refine xs rfl (nn_ _) (y9 rfl _ hg (xs rfl rfl ?_))
     refine xs rfl (nn_ _) (y9 rfl _ hg' (xs rfl rfl ?_))
     refine z7 rfl (z5k _ _ _ _ _ _ h1 h2 k1 k2) rfl ⟨tv4, tv4, trivial⟩ ?_
     refine xb rfl ?_ ?_ <;> intro hb
     · exact xv rfl rfl rfl (zl (fun e => by subst e; rw [hg] at hg'; cases hg'; exact y07 hb rfl))
     · have hb := z07 hb
       refine q9 rfl (hJ _ (i + 1) ⟨by omega, zq he hg (hg'.trans (by rw [hb]))⟩ (by omega) ?_)
       repeat' (first | exact trivial | exact rfl | exact Or.inl rfl | exact cwi (by omega) (by omega) (by omega) | refine And.intro ?_ ?_)
   · have h : ¬ i < p.length := by simpa using h
     exact xv rfl rfl rfl (zx (by rw [show i = p.length by omega, List.take_length] at he; rw [he, hl, List.take_length]))
theorem z4w (x0 : Int) (x1 : Int) (x2 : Int) (x3 : Int) (x4 : Int) (x5 : Int) (x6 : Int) (x7 : Int) (x8 : Int) (y0 : Int) (y1 : Int) (y2 : Int) (y3 : Int) (y4 : Int) (y5 : Int) (y6 : Int) (y7 : Int) (y8 : Int)   : PC Tryz.prog 133 [.agg [.s (.int .i64 x0), .s (.int .i64 x1), .s (.int .i64 x2), .s (.int .i64 x3), .s (.int .i64 x4), .s (.int .i64 x5), .s (.int .i64 x6), .s (.int .i64 x7), .s (.int .i64 x8)], .agg [.s (.int .i64 y0), .s (.int .i64 y1), .s (.int .i64 y2), .s (.int .i64 y3), .s (.int .i64 y4), .s (.int .i64 y5), .s (.int .i64 y6), .s (.int .i64 y7), .s (.int .i64 y8)]] (rB (dE (α := List Cell) [.s (.int .i64 x0), .s (.int .i64 x1), .s (.int .i64 x2), .s (.int .i64 x3), .s (.int .i64 x4), .s (.int .i64 x5), .s (.int .i64 x6), .s (.int .i64 x7), .s (.int .i64 x8)] [.s (.int .i64 y0), .s (.int .i64 y1), .s (.int .i64 y2), .s (.int .i64 y3), .s (.int .i64 y4), .s (.int .i64 y5), .s (.int .i64 y6), .s (.int .i64 y7), .s (.int .i64 y8)])) := by
 refine PC.begin Tryz.func133 rfl (by kernel_rfl) ?_
 refine xb rfl (fun h => ?_) (fun e0 => ?_)
 · exact xv rfl rfl rfl (zl (fun e => by simp only [List.cons.injEq, Cell.s.injEq, Value.int.injEq, Value.bool.injEq, Value.string.injEq] at e; simp [e] at h))
 have e0 : x0 = y0 := by simpa using e0
 refine xb rfl (fun h => ?_) (fun e1 => ?_)
 · exact xv rfl rfl rfl (zl (fun e => by simp only [List.cons.injEq, Cell.s.injEq, Value.int.injEq, Value.bool.injEq, Value.string.injEq] at e; simp [e] at h))
 have e1 : x1 = y1 := by simpa using e1
 refine xb rfl (fun h => ?_) (fun e2 => ?_)
 · exact xv rfl rfl rfl (zl (fun e => by simp only [List.cons.injEq, Cell.s.injEq, Value.int.injEq, Value.bool.injEq, Value.string.injEq] at e; simp [e] at h))
 have e2 : x2 = y2 := by simpa using e2
 refine xb rfl (fun h => ?_) (fun e3 => ?_)
 · exact xv rfl rfl rfl (zl (fun e => by simp only [List.cons.injEq, Cell.s.injEq, Value.int.injEq, Value.bool.injEq, Value.string.injEq] at e; simp [e] at h))
 have e3 : x3 = y3 := by simpa using e3
 refine xb rfl (fun h => ?_) (fun e4 => ?_)
 · exact xv rfl rfl rfl (zl (fun e => by simp only [List.cons.injEq, Cell.s.injEq, Value.int.injEq, Value.bool.injEq, Value.string.injEq] at e; simp [e] at h))
 have e4 : x4 = y4 := by simpa using e4
 refine xb rfl (fun h => ?_) (fun e5 => ?_)
 · exact xv rfl rfl rfl (zl (fun e => by simp only [List.cons.injEq, Cell.s.injEq, Value.int.injEq, Value.bool.injEq, Value.string.injEq] at e; simp [e] at h))
 have e5 : x5 = y5 := by simpa using e5
 refine xb rfl (fun h => ?_) (fun e6 => ?_)
 · exact xv rfl rfl rfl (zl (fun e => by simp only [List.cons.injEq, Cell.s.injEq, Value.int.injEq, Value.bool.injEq, Value.string.injEq] at e; simp [e] at h))
 have e6 : x6 = y6 := by simpa using e6
 refine z7 rfl (z32 _ _ _ _) rfl ⟨tv3, tv3, trivial⟩ ?_
 refine xb rfl (fun h => ?_) (fun e7 => ?_)
 · exact xv rfl rfl rfl (zl (fun e => y07 h (by simp only [List.cons.injEq, Cell.l.injEq] at e ⊢; simp only [e]; try trivial)))
 have e7 := z07 e7
 simp only [List.cons.injEq, Cell.s.injEq, Cell.l.injEq, Value.int.injEq, Value.bool.injEq, and_true, true_and] at e7
 exact xv rfl rfl rfl (zx (by simp [e0, e1, e2, e3, e4, e5, e6, e7]))
theorem z48 (p q : List (List Cell)) (hp : WR 9000000000000000000 yb p) (hq : WR 9000000000000000000 yb q) : PC Tryz.prog 58 [.one (.l p), .one (.l q)] (rB (dE p q)) := by
 refine PC.begin Tryz.func58 rfl (by kernel_rfl) ?_
 have hpl := hp.1
 have hql := hq.1
 refine xb rfl ?_ ?_ <;> intro h
 · exact xv rfl rfl rfl (zl (fun e => by subst e; simp at h))
 have hl : p.length = q.length := by simpa [Int.ofNat_inj] using h
 refine qc rfl (ι := Nat) (fun i => i ≤ p.length ∧ p.take i = q.take i) (fun i => ⟨[(5, sV (.int .i64 i)), (0, .one (.b (.l p))), (1, .one (.b (.l q)))], []⟩) (fun i => p.length - i) 0 ⟨Nat.zero_le _, rfl⟩ ?_ ?_
 · repeat' (first | exact trivial | exact rfl | exact Or.inl rfl | refine And.intro ?_ ?_)
 · intro i ⟨hi, he⟩ J hJ
   refine xb rfl ?_ ?_ <;> intro h
   · have h : i < p.length := by simpa using h
     obtain ⟨row, hg⟩ : ∃ row, p[i]? = some row := ⟨_, List.getElem?_eq_getElem h⟩
     obtain ⟨row', hg'⟩ : ∃ row, q[i]? = some row := ⟨_, List.getElem?_eq_getElem (by omega)⟩
     obtain ⟨x0, x1, x2, x3, x4, x5, x6, x7, x8, rfl⟩ := z09 (hp.2 row (List.mem_of_getElem? hg))
     obtain ⟨y0, y1, y2, y3, y4, y5, y6, y7, y8, rfl⟩ := z09 (hq.2 row' (List.mem_of_getElem? hg'))
     refine qd rfl [] (Tk [0, 1, 2] (.take 3 [8, 9] (Tk [4, 5, 6] (.take 7 [8, 9] (.alt 8 (.take 9 [] .done) .nil))))) (by kernel_rfl) ?_
     refine xs rfl (nn_ _) (y9 rfl _ hg (xs rfl rfl ?_))
     refine xs rfl (nn_ _) (y9 rfl _ hg' (xs rfl rfl ?_))
     refine z7 rfl (z4w _ _ _ _ _ _ _ _ _ _ _ _ _ _ _ _ _ _) rfl ⟨tv10, tv10, trivial⟩ ?_
     refine xb rfl ?_ ?_ <;> intro hb
     · exact xv rfl rfl rfl (zl (fun e => by subst e; rw [hg] at hg'; cases hg'; exact y07 hb rfl))
     · have hb := z07 hb
       refine q9 rfl (hJ _ (i + 1) ⟨by omega, zq he hg (hg'.trans (by rw [hb]))⟩ (by omega) ?_)
       repeat' (first | exact trivial | exact rfl | exact Or.inl rfl | exact cwi (by omega) (by omega) (by omega) | refine And.intro ?_ ?_)
   · have h : ¬ i < p.length := by simpa using h
     exact xv rfl rfl rfl (zx (by rw [show i = p.length by omega, List.take_length] at he; rw [he, hl, List.take_length]))
theorem z2j (x0 : List (List Cell)) (x1 : List (List Cell)) (x2 : List (List Cell)) (x3 : List (List Cell)) (x4 : List (List Cell)) (y0 : List (List Cell)) (y1 : List (List Cell)) (y2 : List (List Cell)) (y3 : List (List Cell)) (y4 : List (List Cell)) (h0 : WR 9000000000000000000 q7 x0) (h1 : WR 9000000000000000000 zb x1) (h2 : WR 9000000000000000000 z8 x2) (h3 : WR 9000000000000000000 qa x3) (h4 : WR 9000000000000000000 yb x4) (k0 : WR 9000000000000000000 q7 y0) (k1 : WR 9000000000000000000 zb y1) (k2 : WR 9000000000000000000 z8 y2) (k3 : WR 9000000000000000000 qa y3) (k4 : WR 9000000000000000000 yb y4) : PC Tryz.prog 16 [.agg [.l x0, .l x1, .l x2, .l x3, .l x4], .agg [.l y0, .l y1, .l y2, .l y3, .l y4]] (rB (dE (α := List Cell) [.l x0, .l x1, .l x2, .l x3, .l x4] [.l y0, .l y1, .l y2, .l y3, .l y4])) := by
 refine PC.begin Tryz.func16 rfl (by kernel_rfl) ?_
 refine z7 rfl (z1q _ _ h0 k0) rfl tv3 ?_
 refine xb rfl (fun h => ?_) (fun e0 => ?_)
 · exact xv rfl rfl rfl (zl (fun e => y07 h (by simp only [List.cons.injEq, Cell.l.injEq] at e ⊢; simp only [e]; try trivial)))
 have e0 := z07 e0
 refine z7 rfl (y5k _ _ h1 k1) rfl tv3 ?_
 refine xb rfl (fun h => ?_) (fun e1 => ?_)
 · exact xv rfl rfl rfl (zl (fun e => y07 h (by simp only [List.cons.injEq, Cell.l.injEq] at e ⊢; simp only [e]; try trivial)))
 have e1 := z07 e1
 refine z7 rfl (q3l _ _ h2 k2) rfl tv3 ?_
 refine xb rfl (fun h => ?_) (fun e2 => ?_)
 · exact xv rfl rfl rfl (zl (fun e => y07 h (by simp only [List.cons.injEq, Cell.l.injEq] at e ⊢; simp only [e]; try trivial)))
 have e2 := z07 e2
 refine z7 rfl (q4v _ _ h3 k3) rfl tv3 ?_
 refine xb rfl (fun h => ?_) (fun e3 => ?_)
 · exact xv rfl rfl rfl (zl (fun e => y07 h (by simp only [List.cons.injEq, Cell.l.injEq] at e ⊢; simp only [e]; try trivial)))
 have e3 := z07 e3
 refine z7 rfl (z48 _ _ h4 k4) rfl tv3 ?_
 refine xb rfl (fun h => ?_) (fun e4 => ?_)
 · exact xv rfl rfl rfl (zl (fun e => y07 h (by simp only [List.cons.injEq, Cell.l.injEq] at e ⊢; simp only [e]; try trivial)))
 have e4 := z07 e4
 exact xv rfl rfl rfl (zx (by simp [e0, e1, e2, e3, e4]))
end Go.Proofs.YtbnbjaedijbnpaaGreat
end
section
namespace Go.Proofs.YtbnbjaedijbnpaaGreat
open Go Go.Sx
set_option maxRecDepth 20000
set_option maxHeartbeats 4000000
theorem z5q (z : Nat) (rr : List (List Cell)) (k : Int) (hw : WR 9000000000000000000 yw rr) : PG Tryz.prog 154 [.one (.giv true z rr), .one (.bor (i64 k))] (rI (mkR (mk yw) rr k).2) [(0, (mkR (mk yw) rr k).1)] := by
 refine PG.begin Tryz.func154 rfl (by kernel_rfl) ?_
 have hlen := hw.1
 refine qc rfl (ι := Nat) (fun i => i ≤ rr.length) (fun i => ⟨[(5, sV (.int .i64 i)), (1, sV (.int .i64 (mdk (mk yw) rr k i))), (0, .one (.h 1000000000 rr.length))], [(1000000000, .arr true z 0 (md (mk yw) rr k i))]⟩) (fun i => rr.length - i) 0 (Nat.zero_le _) ?_ ?_
 · exact ⟨⟨rfl, congrArg (fun n => Cell.s (.int .i64 n)) z06.symm, ⟨rfl, rfl, rfl⟩, trivial⟩, ⟨⟨q0e.symm, .inl rfl, .inl rfl⟩, trivial⟩, rfl⟩
 · intro i hi J hJ
   refine xb rfl ?_ ?_ <;> intro h
   · have h : i < rr.length := by simpa using h
     obtain ⟨row, hg⟩ : ∃ row, rr[i]? = some row := ⟨_, List.getElem?_eq_getElem h⟩
     obtain ⟨x0, x1, x2, x3, rfl⟩ := q1v (hw.2 row (List.mem_of_getElem? hg))
     have hl := q0z (f := (mk yw)) (k := k) hi
     have hg0 := y0z (f := (mk yw)) (k := k) hg
     have hlt : i < (md (mk yw) rr k i).length := by omega
     refine xs rfl (hl).symm (xs rfl (nn_ _) (y9 rfl _ hg0 (xs rfl rfl (xs rfl (hl).symm (y9 rfl _ hg0 (xs rfl (by show 0 + 1 ≤ 4; omega) (xs rfl ⟨trivial, trivial⟩ ?_)))))))
     refine xs rfl (yc (hl)).symm (xs rfl (nn_ _) (y9 rfl _ (yy (hl) h) (xs rfl rfl (xs rfl (yc (hl)).symm (y9 rfl _ (yy (hl) h) (xs rfl (by show 1 + 1 ≤ 4; omega) (xs rfl ⟨trivial, trivial⟩ ?_)))))))
     refine xs rfl (yc (yc (hl))).symm (xs rfl (nn_ _) (y9 rfl _ (yy (yc (hl)) h) (xs rfl rfl (xs rfl (yc (yc (hl))).symm (y9 rfl _ (yy (yc (hl)) h) (xs rfl (by show 2 + 1 ≤ 4; omega) (xs rfl ⟨trivial, trivial⟩ ?_)))))))
     refine xs rfl (yc (yc (yc (hl)))).symm (xs rfl (nn_ _) (y9 rfl _ (yy (yc (yc (hl))) h) (xs rfl rfl (xs rfl (yc (yc (yc (hl)))).symm (y9 rfl _ (yy (yc (yc (hl))) h) (xs rfl (by show 3 + 1 ≤ 4; omega) (xs rfl ⟨trivial, trivial⟩ ?_)))))))
     refine q9 rfl (hJ _ (i + 1) (by omega) (by omega) ?_)
     refine ⟨⟨cwi (by omega) (by omega) (by omega), ?_, ⟨rfl, rfl, rfl⟩, trivial⟩, ⟨⟨?_, .inl rfl, .inl rfl⟩, trivial⟩, rfl⟩
     · rw [q05 hg]; rfl
     · refine Eq.trans ?_ (z10 hg)
       try simp only [Int.toNat_natCast, yv hg0, ssr hlt, List.set_set]
       rfl
   · have h : ¬ i < rr.length := by simpa using h
     have : i = rr.length := by omega
     subst this
     exact xr rfl (z1z rfl ⟨⟨rfl, congrArg (Value.int .i64) z0f, trivial⟩, z6 rfl⟩ ⟨⟨rfl, rfl, z0z, zo _ _ _, yr hw⟩, trivial⟩)
theorem y18 (z : Nat) (rr : List (List Cell)) (k : Int) (hw : WR 9000000000000000000 q7 rr) : PG Tryz.prog 80 [.one (.giv true z rr), .one (.bor (i64 k))] (rI (mkR (mk q7) rr k).2) [(0, (mkR (mk q7) rr k).1)] := by
 refine PG.begin Tryz.func80 rfl (by kernel_rfl) ?_
 have hlen := hw.1
 refine qc rfl (ι := Nat) (fun i => i ≤ rr.length) (fun i => ⟨[(5, sV (.int .i64 i)), (1, sV (.int .i64 (mdk (mk q7) rr k i))), (0, .one (.h 1000000000 rr.length))], [(1000000000, .arr true z 0 (md (mk q7) rr k i))]⟩) (fun i => rr.length - i) 0 (Nat.zero_le _) ?_ ?_
 · exact ⟨⟨rfl, congrArg (fun n => Cell.s (.int .i64 n)) z06.symm, ⟨rfl, rfl, rfl⟩, trivial⟩, ⟨⟨q0e.symm, .inl rfl, .inl rfl⟩, trivial⟩, rfl⟩
 · intro i hi J hJ
   refine xb rfl ?_ ?_ <;> intro h
   · have h : i < rr.length := by simpa using h
     obtain ⟨row, hg⟩ : ∃ row, rr[i]? = some row := ⟨_, List.getElem?_eq_getElem h⟩
     obtain ⟨x0, x1, rfl, h1⟩ := y04 (hw.2 row (List.mem_of_getElem? hg))
     have hl := q0z (f := (mk q7)) (k := k) hi
     have hg0 := y0z (f := (mk q7)) (k := k) hg
     have hlt : i < (md (mk q7) rr k i).length := by omega
     refine xs rfl (hl).symm (xs rfl (nn_ _) (y9 rfl _ hg0 (xs rfl rfl (xs rfl (hl).symm (y9 rfl _ hg0 (xs rfl (by show 0 + 1 ≤ 2; omega) (xs rfl ⟨trivial, trivial⟩ ?_)))))))
     refine xs rfl (yc (hl)).symm (xs rfl (nn_ _) (y9 rfl _ (yy (hl) h) (xs rfl rfl (xs rfl (yc (hl)).symm (y9 rfl _ (yy (hl) h) ?_)))))
     refine y0t rfl (z5q 0 _ _ h1) ⟨⟨rfl, rfl, rfl, _, (yy (hl) h), rfl⟩, rfl, trivial⟩ rfl ?_
     refine q9 rfl (hJ _ (i + 1) (by omega) (by omega) ?_)
     refine ⟨⟨cwi (by omega) (by omega) (by omega), ?_, ⟨rfl, rfl, rfl⟩, trivial⟩, ⟨⟨?_, .inl rfl, .inl rfl⟩, trivial⟩, rfl⟩
     · rw [q05 hg]; rfl
     · refine Eq.trans ?_ (z10 hg)
       try simp only [Int.toNat_natCast, yv hg0, ssr hlt, List.set_set]
       rfl
   · have h : ¬ i < rr.length := by simpa using h
     have : i = rr.length := by omega
     subst this
     exact xr rfl (z1z rfl ⟨⟨rfl, congrArg (Value.int .i64) z0f, trivial⟩, z6 rfl⟩ ⟨⟨rfl, rfl, z0z, zo _ _ _, yr hw⟩, trivial⟩)
theorem q37 (z : Nat) (rr : List (List Cell)) (k : Int) (hw : WR 9000000000000000000 ze rr) : PG Tryz.prog 155 [.one (.giv true z rr), .one (.bor (i64 k))] (rI (mkR (mk ze) rr k).2) [(0, (mkR (mk ze) rr k).1)] := by
 refine PG.begin Tryz.func155 rfl (by kernel_rfl) ?_
 have hlen := hw.1
 refine qc rfl (ι := Nat) (fun i => i ≤ rr.length) (fun i => ⟨[(5, sV (.int .i64 i)), (1, sV (.int .i64 (mdk (mk ze) rr k i))), (0, .one (.h 1000000000 rr.length))], [(1000000000, .arr true z 0 (md (mk ze) rr k i))]⟩) (fun i => rr.length - i) 0 (Nat.zero_le _) ?_ ?_
 · exact ⟨⟨rfl, congrArg (fun n => Cell.s (.int .i64 n)) z06.symm, ⟨rfl, rfl, rfl⟩, trivial⟩, ⟨⟨q0e.symm, .inl rfl, .inl rfl⟩, trivial⟩, rfl⟩
 · intro i hi J hJ
   refine xb rfl ?_ ?_ <;> intro h
   · have h : i < rr.length := by simpa using h
     obtain ⟨row, hg⟩ : ∃ row, rr[i]? = some row := ⟨_, List.getElem?_eq_getElem h⟩
     obtain ⟨x0, x1, x2, rfl⟩ := q08 (hw.2 row (List.mem_of_getElem? hg))
     have hl := q0z (f := (mk ze)) (k := k) hi
     have hg0 := y0z (f := (mk ze)) (k := k) hg
     have hlt : i < (md (mk ze) rr k i).length := by omega
     refine xs rfl (hl).symm (xs rfl (nn_ _) (y9 rfl _ hg0 (xs rfl rfl (xs rfl (hl).symm (y9 rfl _ hg0 (xs rfl (by show 0 + 1 ≤ 3; omega) (xs rfl ⟨trivial, trivial⟩ ?_)))))))
     refine xs rfl (yc (hl)).symm (xs rfl (nn_ _) (y9 rfl _ (yy (hl) h) (xs rfl rfl (xs rfl (yc (hl)).symm (y9 rfl _ (yy (hl) h) (xs rfl (by show 1 + 1 ≤ 3; omega) (xs rfl ⟨trivial, trivial⟩ ?_)))))))
     refine xs rfl (yc (yc (hl))).symm (xs rfl (nn_ _) (y9 rfl _ (yy (yc (hl)) h) (xs rfl rfl (xs rfl (yc (yc (hl))).symm (y9 rfl _ (yy (yc (hl)) h) (xs rfl (by show 2 + 1 ≤ 3; omega) (xs rfl ⟨trivial, trivial⟩ ?_)))))))
     refine q9 rfl (hJ _ (i + 1) (by omega) (by omega) ?_)
     refine ⟨⟨cwi (by omega) (by omega) (by omega), ?_, ⟨rfl, rfl, rfl⟩, trivial⟩, ⟨⟨?_, .inl rfl, .inl rfl⟩, trivial⟩, rfl⟩
     · rw [q05 hg]; rfl
     · refine Eq.trans ?_ (z10 hg)
       try simp only [Int.toNat_natCast, yv hg0, ssr hlt, List.set_set]
       rfl
   · have h : ¬ i < rr.length := by simpa using h
     have : i = rr.length := by omega
     subst this
     exact xr rfl (z1z rfl ⟨⟨rfl, congrArg (Value.int .i64) z0f, trivial⟩, z6 rfl⟩ ⟨⟨rfl, rfl, z0z, zo _ _ _, yr hw⟩, trivial⟩)
theorem q2m (z : Nat) (rr : List (List Cell)) (k : Int) (hw : WR 9000000000000000000 zh rr) : PG Tryz.prog 156 [.one (.giv true z rr), .one (.bor (i64 k))] (rI (mkR (mk zh) rr k).2) [(0, (mkR (mk zh) rr k).1)] := by
 refine PG.begin Tryz.func156 rfl (by kernel_rfl) ?_
 have hlen := hw.1
 refine qc rfl (ι := Nat) (fun i => i ≤ rr.length) (fun i => ⟨[(5, sV (.int .i64 i)), (1, sV (.int .i64 (mdk (mk zh) rr k i))), (0, .one (.h 1000000000 rr.length))], [(1000000000, .arr true z 0 (md (mk zh) rr k i))]⟩) (fun i => rr.length - i) 0 (Nat.zero_le _) ?_ ?_
 · exact ⟨⟨rfl, congrArg (fun n => Cell.s (.int .i64 n)) z06.symm, ⟨rfl, rfl, rfl⟩, trivial⟩, ⟨⟨q0e.symm, .inl rfl, .inl rfl⟩, trivial⟩, rfl⟩
 · intro i hi J hJ
   refine xb rfl ?_ ?_ <;> intro h
   · have h : i < rr.length := by simpa using h
     obtain ⟨row, hg⟩ : ∃ row, rr[i]? = some row := ⟨_, List.getElem?_eq_getElem h⟩
     obtain ⟨x0, x1, rfl⟩ := y15 (hw.2 row (List.mem_of_getElem? hg))
     have hl := q0z (f := (mk zh)) (k := k) hi
     have hg0 := y0z (f := (mk zh)) (k := k) hg
     have hlt : i < (md (mk zh) rr k i).length := by omega
     refine xs rfl (hl).symm (xs rfl (nn_ _) (y9 rfl _ hg0 (xs rfl rfl (xs rfl (hl).symm (y9 rfl _ hg0 (xs rfl (by show 0 + 1 ≤ 2; omega) (xs rfl ⟨trivial, trivial⟩ ?_)))))))
     refine xs rfl (yc (hl)).symm (xs rfl (nn_ _) (y9 rfl _ (yy (hl) h) (xs rfl rfl (xs rfl (yc (hl)).symm (y9 rfl _ (yy (hl) h) (xs rfl (by show 1 + 1 ≤ 2; omega) (xs rfl ⟨trivial, trivial⟩ ?_)))))))
     refine q9 rfl (hJ _ (i + 1) (by omega) (by omega) ?_)
     refine ⟨⟨cwi (by omega) (by omega) (by omega), ?_, ⟨rfl, rfl, rfl⟩, trivial⟩, ⟨⟨?_, .inl rfl, .inl rfl⟩, trivial⟩, rfl⟩
     · rw [q05 hg]; rfl
     · refine Eq.trans ?_ (z10 hg)
       try simp only [Int.toNat_natCast, yv hg0, ssr hlt, List.set_set]
       rfl
   · have h : ¬ i < rr.length := by simpa using h
     have : i = rr.length := by omega
     subst this
     exact xr rfl (z1z rfl ⟨⟨rfl, congrArg (Value.int .i64) z0f, trivial⟩, z6 rfl⟩ ⟨⟨rfl, rfl, z0z, zo _ _ _, yr hw⟩, trivial⟩)
theorem q24 (z : Nat) (rr : List (List Cell)) (k : Int) (hw : WR 9000000000000000000 (.i .i64 .nil) rr) : PG Tryz.prog 157 [.one (.giv true z rr), .one (.bor (i64 k))] (rI (mkR (mk (.i .i64 .nil)) rr k).2) [(0, (mkR (mk (.i .i64 .nil)) rr k).1)] := by
 refine PG.begin Tryz.func157 rfl (by kernel_rfl) ?_
 have hlen := hw.1
 refine qc rfl (ι := Nat) (fun i => i ≤ rr.length) (fun i => ⟨[(5, sV (.int .i64 i)), (1, sV (.int .i64 (mdk (mk (.i .i64 .nil)) rr k i))), (0, .one (.h 1000000000 rr.length))], [(1000000000, .arr true z 0 (md (mk (.i .i64 .nil)) rr k i))]⟩) (fun i => rr.length - i) 0 (Nat.zero_le _) ?_ ?_
 · exact ⟨⟨rfl, congrArg (fun n => Cell.s (.int .i64 n)) z06.symm, ⟨rfl, rfl, rfl⟩, trivial⟩, ⟨⟨q0e.symm, .inl rfl, .inl rfl⟩, trivial⟩, rfl⟩
 · intro i hi J hJ
   refine xb rfl ?_ ?_ <;> intro h
   · have h : i < rr.length := by simpa using h
     obtain ⟨row, hg⟩ : ∃ row, rr[i]? = some row := ⟨_, List.getElem?_eq_getElem h⟩
     obtain ⟨x0, _, rfl, hnil⟩ := ((hw.2 row (List.mem_of_getElem? hg))).yx; obtain rfl := hnil.zz
     have hl := q0z (f := (mk (.i .i64 .nil))) (k := k) hi
     have hg0 := y0z (f := (mk (.i .i64 .nil))) (k := k) hg
     have hlt : i < (md (mk (.i .i64 .nil)) rr k i).length := by omega
     refine xs rfl (hl).symm (xs rfl (nn_ _) (y9 rfl _ hg0 (xs rfl rfl (xs rfl (hl).symm (y9 rfl _ hg0 (xs rfl (by show 0 + 1 ≤ 1; omega) (xs rfl ⟨trivial, trivial⟩ ?_)))))))
     refine q9 rfl (hJ _ (i + 1) (by omega) (by omega) ?_)
     refine ⟨⟨cwi (by omega) (by omega) (by omega), ?_, ⟨rfl, rfl, rfl⟩, trivial⟩, ⟨⟨?_, .inl rfl, .inl rfl⟩, trivial⟩, rfl⟩
     · rw [q05 hg]; rfl
     · refine Eq.trans ?_ (z10 hg)
       try simp only [Int.toNat_natCast, yv hg0, ssr hlt, List.set_set]
       rfl
   · have h : ¬ i < rr.length := by simpa using h
     have : i = rr.length := by omega
     subst this
     exact xr rfl (z1z rfl ⟨⟨rfl, congrArg (Value.int .i64) z0f, trivial⟩, z6 rfl⟩ ⟨⟨rfl, rfl, z0z, zo _ _ _, yr hw⟩, trivial⟩)
theorem z4f (z : Nat) (rr : List (List Cell)) (k : Int) (hw : WR 9000000000000000000 zb rr) : PG Tryz.prog 81 [.one (.giv true z rr), .one (.bor (i64 k))] (rI (mkR (mk zb) rr k).2) [(0, (mkR (mk zb) rr k).1)] := by
 refine PG.begin Tryz.func81 rfl (by kernel_rfl) ?_
 have hlen := hw.1
 refine qc rfl (ι := Nat) (fun i => i ≤ rr.length) (fun i => ⟨[(5, sV (.int .i64 i)), (1, sV (.int .i64 (mdk (mk zb) rr k i))), (0, .one (.h 1000000000 rr.length))], [(1000000000, .arr true z 0 (md (mk zb) rr k i))]⟩) (fun i => rr.length - i) 0 (Nat.zero_le _) ?_ ?_
 · exact ⟨⟨rfl, congrArg (fun n => Cell.s (.int .i64 n)) z06.symm, ⟨rfl, rfl, rfl⟩, trivial⟩, ⟨⟨q0e.symm, .inl rfl, .inl rfl⟩, trivial⟩, rfl⟩
 · intro i hi J hJ
   refine xb rfl ?_ ?_ <;> intro h
   · have h : i < rr.length := by simpa using h
     obtain ⟨row, hg⟩ : ∃ row, rr[i]? = some row := ⟨_, List.getElem?_eq_getElem h⟩
     obtain ⟨x0, x1, x2, x3, x4, x5, rfl, h1, h2, h3, h4, h5⟩ := z0p (hw.2 row (List.mem_of_getElem? hg))
     have hl := q0z (f := (mk zb)) (k := k) hi
     have hg0 := y0z (f := (mk zb)) (k := k) hg
     have hlt : i < (md (mk zb) rr k i).length := by omega
     refine xs rfl (hl).symm (xs rfl (nn_ _) (y9 rfl _ hg0 (xs rfl rfl (xs rfl (hl).symm (y9 rfl _ hg0 (xs rfl (by show 0 + 1 ≤ 6; omega) (xs rfl ⟨trivial, trivial⟩ ?_)))))))
     refine xs rfl (yc (hl)).symm (xs rfl (nn_ _) (y9 rfl _ (yy (hl) h) (xs rfl rfl (xs rfl (yc (hl)).symm (y9 rfl _ (yy (hl) h) ?_)))))
     refine y0t rfl (q37 0 _ _ h1) ⟨⟨rfl, rfl, rfl, _, (yy (hl) h), rfl⟩, rfl, trivial⟩ rfl ?_
     refine xs rfl (lsr (yc (hl))).symm (xs rfl (nn_ _) (y9 rfl _ (yf (yy (hl) h)) (xs rfl rfl (xs rfl (lsr (yc (hl))).symm (y9 rfl _ (yf (yy (hl) h)) ?_)))))
     refine y0t rfl (q2m 0 _ _ h2) ⟨⟨rfl, rfl, rfl, _, (yf (yy (hl) h)), rfl⟩, rfl, trivial⟩ rfl ?_
     refine xs rfl (lsr (lsr (yc (hl)))).symm (xs rfl (nn_ _) (y9 rfl _ (yf (yf (yy (hl) h))) (xs rfl rfl (xs rfl (lsr (lsr (yc (hl)))).symm (y9 rfl _ (yf (yf (yy (hl) h))) ?_)))))
     refine y0t rfl (y18 0 _ _ h3) ⟨⟨rfl, rfl, rfl, _, (yf (yf (yy (hl) h))), rfl⟩, rfl, trivial⟩ rfl ?_
     refine xs rfl (lsr (lsr (lsr (yc (hl))))).symm (xs rfl (nn_ _) (y9 rfl _ (yf (yf (yf (yy (hl) h)))) (xs rfl rfl (xs rfl (lsr (lsr (lsr (yc (hl))))).symm (y9 rfl _ (yf (yf (yf (yy (hl) h)))) ?_)))))
     refine y0t rfl (q2m 0 _ _ h4) ⟨⟨rfl, rfl, rfl, _, (yf (yf (yf (yy (hl) h)))), rfl⟩, rfl, trivial⟩ rfl ?_
     refine xs rfl (lsr (lsr (lsr (lsr (yc (hl)))))).symm (xs rfl (nn_ _) (y9 rfl _ (yf (yf (yf (yf (yy (hl) h))))) (xs rfl rfl (xs rfl (lsr (lsr (lsr (lsr (yc (hl)))))).symm (y9 rfl _ (yf (yf (yf (yf (yy (hl) h))))) ?_)))))
     refine y0t rfl (q24 0 _ _ h5) ⟨⟨rfl, rfl, rfl, _, (yf (yf (yf (yf (yy (hl) h))))), rfl⟩, rfl, trivial⟩ rfl ?_
     refine q9 rfl (hJ _ (i + 1) (by omega) (by omega) ?_)
     refine ⟨⟨cwi (by omega) (by omega) (by omega), ?_, ⟨rfl, rfl, rfl⟩, trivial⟩, ⟨⟨?_, .inl rfl, .inl rfl⟩, trivial⟩, rfl⟩
     · rw [q05 hg]; rfl
     · refine Eq.trans ?_ (z10 hg)
       try simp only [Int.toNat_natCast, yv hg0, ssr hlt, List.set_set]
       rfl
   · have h : ¬ i < rr.length := by simpa using h
     have : i = rr.length := by omega
     subst this
     exact xr rfl (z1z rfl ⟨⟨rfl, congrArg (Value.int .i64) z0f, trivial⟩, z6 rfl⟩ ⟨⟨rfl, rfl, z0z, zo _ _ _, yr hw⟩, trivial⟩)
theorem z2n (z : Nat) (rr : List (List Cell)) (k : Int) (hw : WR 9000000000000000000 yk rr) : PG Tryz.prog 239 [.one (.giv true z rr), .one (.bor (i64 k))] (rI (mkR (mk yk) rr k).2) [(0, (mkR (mk yk) rr k).1)] := by
 refine PG.begin Tryz.func239 rfl (by kernel_rfl) ?_
 have hlen := hw.1
 refine qc rfl (ι := Nat) (fun i => i ≤ rr.length) (fun i => ⟨[(5, sV (.int .i64 i)), (1, sV (.int .i64 (mdk (mk yk) rr k i))), (0, .one (.h 1000000000 rr.length))], [(1000000000, .arr true z 0 (md (mk yk) rr k i))]⟩) (fun i => rr.length - i) 0 (Nat.zero_le _) ?_ ?_
 · exact ⟨⟨rfl, congrArg (fun n => Cell.s (.int .i64 n)) z06.symm, ⟨rfl, rfl, rfl⟩, trivial⟩, ⟨⟨q0e.symm, .inl rfl, .inl rfl⟩, trivial⟩, rfl⟩
 · intro i hi J hJ
   refine xb rfl ?_ ?_ <;> intro h
   · have h : i < rr.length := by simpa using h
     obtain ⟨row, hg⟩ : ∃ row, rr[i]? = some row := ⟨_, List.getElem?_eq_getElem h⟩
     obtain ⟨x0, x1, rfl⟩ := z16 (hw.2 row (List.mem_of_getElem? hg))
     have hl := q0z (f := (mk yk)) (k := k) hi
     have hg0 := y0z (f := (mk yk)) (k := k) hg
     have hlt : i < (md (mk yk) rr k i).length := by omega
     refine xs rfl (hl).symm (xs rfl (nn_ _) (y9 rfl _ hg0 (xs rfl rfl (xs rfl (hl).symm (y9 rfl _ hg0 (xs rfl (by show 0 + 1 ≤ 2; omega) (xs rfl ⟨trivial, trivial⟩ ?_)))))))
     refine xs rfl (yc (hl)).symm (xs rfl (nn_ _) (y9 rfl _ (yy (hl) h) (xs rfl rfl (xs rfl (yc (hl)).symm (y9 rfl _ (yy (hl) h) (xs rfl (by show 1 + 1 ≤ 2; omega) (xs rfl ⟨trivial, trivial⟩ ?_)))))))
     refine q9 rfl (hJ _ (i + 1) (by omega) (by omega) ?_)
     refine ⟨⟨cwi (by omega) (by omega) (by omega), ?_, ⟨rfl, rfl, rfl⟩, trivial⟩, ⟨⟨?_, .inl rfl, .inl rfl⟩, trivial⟩, rfl⟩
     · rw [q05 hg]; rfl
     · refine Eq.trans ?_ (z10 hg)
       try simp only [Int.toNat_natCast, yv hg0, ssr hlt, List.set_set]
       rfl
   · have h : ¬ i < rr.length := by simpa using h
     have : i = rr.length := by omega
     subst this
     exact xr rfl (z1z rfl ⟨⟨rfl, congrArg (Value.int .i64) z0f, trivial⟩, z6 rfl⟩ ⟨⟨rfl, rfl, z0z, zo _ _ _, yr hw⟩, trivial⟩)
theorem q52 (z : Nat) (rr : List (List Cell)) (k : Int) (hw : WR 9000000000000000000 qj rr) : PG Tryz.prog 158 [.one (.giv true z rr), .one (.bor (i64 k))] (rI (mkR (mk qj) rr k).2) [(0, (mkR (mk qj) rr k).1)] := by
 refine PG.begin Tryz.func158 rfl (by kernel_rfl) ?_
 have hlen := hw.1
 refine qc rfl (ι := Nat) (fun i => i ≤ rr.length) (fun i => ⟨[(5, sV (.int .i64 i)), (1, sV (.int .i64 (mdk (mk qj) rr k i))), (0, .one (.h 1000000000 rr.length))], [(1000000000, .arr true z 0 (md (mk qj) rr k i))]⟩) (fun i => rr.length - i) 0 (Nat.zero_le _) ?_ ?_
 · exact ⟨⟨rfl, congrArg (fun n => Cell.s (.int .i64 n)) z06.symm, ⟨rfl, rfl, rfl⟩, trivial⟩, ⟨⟨q0e.symm, .inl rfl, .inl rfl⟩, trivial⟩, rfl⟩
 · intro i hi J hJ
   refine xb rfl ?_ ?_ <;> intro h
   · have h : i < rr.length := by simpa using h
     obtain ⟨row, hg⟩ : ∃ row, rr[i]? = some row := ⟨_, List.getElem?_eq_getElem h⟩
     obtain ⟨x0, x1, x2, x3, x4, x5, rfl, h5⟩ := q15 (hw.2 row (List.mem_of_getElem? hg))
     have hl := q0z (f := (mk qj)) (k := k) hi
     have hg0 := y0z (f := (mk qj)) (k := k) hg
     have hlt : i < (md (mk qj) rr k i).length := by omega
     refine xs rfl (hl).symm (xs rfl (nn_ _) (y9 rfl _ hg0 (xs rfl rfl (xs rfl (hl).symm (y9 rfl _ hg0 (xs rfl (by show 0 + 1 ≤ 6; omega) (xs rfl ⟨trivial, trivial⟩ ?_)))))))
     refine xs rfl (yc (hl)).symm (xs rfl (nn_ _) (y9 rfl _ (yy (hl) h) (xs rfl rfl (xs rfl (yc (hl)).symm (y9 rfl _ (yy (hl) h) (xs rfl (by show 1 + 1 ≤ 6; omega) (xs rfl ⟨trivial, trivial⟩ ?_)))))))
     refine xs rfl (yc (yc (hl))).symm (xs rfl (nn_ _) (y9 rfl _ (yy (yc (hl)) h) (xs rfl rfl (xs rfl (yc (yc (hl))).symm (y9 rfl _ (yy (yc (hl)) h) (xs rfl (by show 2 + 1 ≤ 6; omega) (xs rfl ⟨trivial, trivial⟩ ?_)))))))
     refine xs rfl (yc (yc (yc (hl)))).symm (xs rfl (nn_ _) (y9 rfl _ (yy (yc (yc (hl))) h) (xs rfl rfl (xs rfl (yc (yc (yc (hl)))).symm (y9 rfl _ (yy (yc (yc (hl))) h) (xs rfl (by show 3 + 1 ≤ 6; omega) (xs rfl ⟨trivial, trivial⟩ ?_)))))))
     refine xs rfl (yc (yc (yc (yc (hl))))).symm (xs rfl (nn_ _) (y9 rfl _ (yy (yc (yc (yc (hl)))) h) (xs rfl rfl (xs rfl (yc (yc (yc (yc (hl))))).symm (y9 rfl _ (yy (yc (yc (yc (hl)))) h) (xs rfl (by show 4 + 1 ≤ 6; omega) (xs rfl ⟨trivial, trivial⟩ ?_)))))))
     refine xs rfl (yc (yc (yc (yc (yc (hl)))))).symm (xs rfl (nn_ _) (y9 rfl _ (yy (yc (yc (yc (yc (hl))))) h) (xs rfl rfl (xs rfl (yc (yc (yc (yc (yc (hl)))))).symm (y9 rfl _ (yy (yc (yc (yc (yc (hl))))) h) ?_)))))
     refine y0t rfl (z2n 0 _ _ h5) ⟨⟨rfl, rfl, rfl, _, (yy (yc (yc (yc (yc (hl))))) h), rfl⟩, rfl, trivial⟩ rfl ?_
     refine q9 rfl (hJ _ (i + 1) (by omega) (by omega) ?_)
     refine ⟨⟨cwi (by omega) (by omega) (by omega), ?_, ⟨rfl, rfl, rfl⟩, trivial⟩, ⟨⟨?_, .inl rfl, .inl rfl⟩, trivial⟩, rfl⟩
     · rw [q05 hg]; rfl
     · refine Eq.trans ?_ (z10 hg)
       try simp only [Int.toNat_natCast, yv hg0, ssr hlt, List.set_set]
       rfl
   · have h : ¬ i < rr.length := by simpa using h
     have : i = rr.length := by omega
     subst this
     exact xr rfl (z1z rfl ⟨⟨rfl, congrArg (Value.int .i64) z0f, trivial⟩, z6 rfl⟩ ⟨⟨rfl, rfl, z0z, zo _ _ _, yr hw⟩, trivial⟩)
theorem z2r (z : Nat) (rr : List (List Cell)) (k : Int) (hw : WR 9000000000000000000 z8 rr) : PG Tryz.prog 82 [.one (.giv true z rr), .one (.bor (i64 k))] (rI (mkR (mk z8) rr k).2) [(0, (mkR (mk z8) rr k).1)] := by
 refine PG.begin Tryz.func82 rfl (by kernel_rfl) ?_
 have hlen := hw.1
 refine qc rfl (ι := Nat) (fun i => i ≤ rr.length) (fun i => ⟨[(5, sV (.int .i64 i)), (1, sV (.int .i64 (mdk (mk z8) rr k i))), (0, .one (.h 1000000000 rr.length))], [(1000000000, .arr true z 0 (md (mk z8) rr k i))]⟩) (fun i => rr.length - i) 0 (Nat.zero_le _) ?_ ?_
 · exact ⟨⟨rfl, congrArg (fun n => Cell.s (.int .i64 n)) z06.symm, ⟨rfl, rfl, rfl⟩, trivial⟩, ⟨⟨q0e.symm, .inl rfl, .inl rfl⟩, trivial⟩, rfl⟩
 · intro i hi J hJ
   refine xb rfl ?_ ?_ <;> intro h
   · have h : i < rr.length := by simpa using h
     obtain ⟨row, hg⟩ : ∃ row, rr[i]? = some row := ⟨_, List.getElem?_eq_getElem h⟩
     obtain ⟨x0, rfl, h0⟩ := q03 (hw.2 row (List.mem_of_getElem? hg))
     have hl := q0z (f := (mk z8)) (k := k) hi
     have hg0 := y0z (f := (mk z8)) (k := k) hg
     have hlt : i < (md (mk z8) rr k i).length := by omega
     refine xs rfl (hl).symm (xs rfl (nn_ _) (y9 rfl _ hg0 (xs rfl rfl (xs rfl (hl).symm (y9 rfl _ hg0 ?_)))))
     refine y0t rfl (q52 0 _ _ h0) ⟨⟨rfl, rfl, rfl, _, hg0, rfl⟩, rfl, trivial⟩ rfl ?_
     refine q9 rfl (hJ _ (i + 1) (by omega) (by omega) ?_)
     refine ⟨⟨cwi (by omega) (by omega) (by omega), ?_, ⟨rfl, rfl, rfl⟩, trivial⟩, ⟨⟨?_, .inl rfl, .inl rfl⟩, trivial⟩, rfl⟩
     · rw [q05 hg]; rfl
     · refine Eq.trans ?_ (z10 hg)
       try simp only [Int.toNat_natCast, yv hg0, ssr hlt, List.set_set]
       rfl
   · have h : ¬ i < rr.length := by simpa using h
     have : i = rr.length := by omega
     subst this
     exact xr rfl (z1z rfl ⟨⟨rfl, congrArg (Value.int .i64) z0f, trivial⟩, z6 rfl⟩ ⟨⟨rfl, rfl, z0z, zo _ _ _, yr hw⟩, trivial⟩)
theorem y5q (z : Nat) (rr : List (List Cell)) (k : Int) (hw : WR 9000000000000000000 zp rr) : PG Tryz.prog 159 [.one (.giv true z rr), .one (.bor (i64 k))] (rI (mkR (mk zp) rr k).2) [(0, (mkR (mk zp) rr k).1)] := by
 refine PG.begin Tryz.func159 rfl (by kernel_rfl) ?_
 have hlen := hw.1
 refine qc rfl (ι := Nat) (fun i => i ≤ rr.length) (fun i => ⟨[(5, sV (.int .i64 i)), (1, sV (.int .i64 (mdk (mk zp) rr k i))), (0, .one (.h 1000000000 rr.length))], [(1000000000, .arr true z 0 (md (mk zp) rr k i))]⟩) (fun i => rr.length - i) 0 (Nat.zero_le _) ?_ ?_
 · exact ⟨⟨rfl, congrArg (fun n => Cell.s (.int .i64 n)) z06.symm, ⟨rfl, rfl, rfl⟩, trivial⟩, ⟨⟨q0e.symm, .inl rfl, .inl rfl⟩, trivial⟩, rfl⟩
 · intro i hi J hJ
   refine xb rfl ?_ ?_ <;> intro h
   · have h : i < rr.length := by simpa using h
     obtain ⟨row, hg⟩ : ∃ row, rr[i]? = some row := ⟨_, List.getElem?_eq_getElem h⟩
     obtain ⟨x0, x1, x2, x3, x4, x5, rfl, h4, h5⟩ := z1w (hw.2 row (List.mem_of_getElem? hg))
     have hl := q0z (f := (mk zp)) (k := k) hi
     have hg0 := y0z (f := (mk zp)) (k := k) hg
     have hlt : i < (md (mk zp) rr k i).length := by omega
     refine xs rfl (hl).symm (xs rfl (nn_ _) (y9 rfl _ hg0 (xs rfl rfl (xs rfl (hl).symm (y9 rfl _ hg0 (xs rfl (by show 0 + 1 ≤ 6; omega) (xs rfl ⟨trivial, trivial⟩ ?_)))))))
     refine xs rfl (yc (hl)).symm (xs rfl (nn_ _) (y9 rfl _ (yy (hl) h) (xs rfl rfl (xs rfl (yc (hl)).symm (y9 rfl _ (yy (hl) h) (xs rfl (by show 1 + 1 ≤ 6; omega) (xs rfl ⟨trivial, trivial⟩ ?_)))))))
     refine xs rfl (yc (yc (hl))).symm (xs rfl (nn_ _) (y9 rfl _ (yy (yc (hl)) h) (xs rfl rfl (xs rfl (yc (yc (hl))).symm (y9 rfl _ (yy (yc (hl)) h) (xs rfl (by show 2 + 1 ≤ 6; omega) (xs rfl ⟨trivial, trivial⟩ ?_)))))))
     refine xs rfl (yc (yc (yc (hl)))).symm (xs rfl (nn_ _) (y9 rfl _ (yy (yc (yc (hl))) h) (xs rfl rfl (xs rfl (yc (yc (yc (hl)))).symm (y9 rfl _ (yy (yc (yc (hl))) h) (xs rfl (by show 3 + 1 ≤ 6; omega) (xs rfl ⟨trivial, trivial⟩ ?_)))))))
     refine xs rfl (yc (yc (yc (yc (hl))))).symm (xs rfl (nn_ _) (y9 rfl _ (yy (yc (yc (yc (hl)))) h) (xs rfl rfl (xs rfl (yc (yc (yc (yc (hl))))).symm (y9 rfl _ (yy (yc (yc (yc (hl)))) h) ?_)))))
     refine y0t rfl (q24 0 _ _ h4) ⟨⟨rfl, rfl, rfl, _, (yy (yc (yc (yc (hl)))) h), rfl⟩, rfl, trivial⟩ rfl ?_
     refine xs rfl (lsr (yc (yc (yc (yc (hl)))))).symm (xs rfl (nn_ _) (y9 rfl _ (yf (yy (yc (yc (yc (hl)))) h)) (xs rfl rfl (xs rfl (lsr (yc (yc (yc (yc (hl)))))).symm (y9 rfl _ (yf (yy (yc (yc (yc (hl)))) h)) ?_)))))
     refine y0t rfl (z2n 0 _ _ h5) ⟨⟨rfl, rfl, rfl, _, (yf (yy (yc (yc (yc (hl)))) h)), rfl⟩, rfl, trivial⟩ rfl ?_
     refine q9 rfl (hJ _ (i + 1) (by omega) (by omega) ?_)
     refine ⟨⟨cwi (by omega) (by omega) (by omega), ?_, ⟨rfl, rfl, rfl⟩, trivial⟩, ⟨⟨?_, .inl rfl, .inl rfl⟩, trivial⟩, rfl⟩
     · rw [q05 hg]; rfl
     · refine Eq.trans ?_ (z10 hg)
       try simp only [Int.toNat_natCast, yv hg0, ssr hlt, List.set_set]
       rfl
   · have h : ¬ i < rr.length := by simpa using h
     have : i = rr.length := by omega
     subst this
     exact xr rfl (z1z rfl ⟨⟨rfl, congrArg (Value.int .i64) z0f, trivial⟩, z6 rfl⟩ ⟨⟨rfl, rfl, z0z, zo _ _ _, yr hw⟩, trivial⟩)
theorem y4e (z : Nat) (rr : List (List Cell)) (k : Int) (hw : WR 9000000000000000000 zm rr) : PG Tryz.prog 160 [.one (.giv true z rr), .one (.bor (i64 k))] (rI (mkR (mk zm) rr k).2) [(0, (mkR (mk zm) rr k).1)] := by
 refine PG.begin Tryz.func160 rfl (by kernel_rfl) ?_
 have hlen := hw.1
 refine qc rfl (ι := Nat) (fun i => i ≤ rr.length) (fun i => ⟨[(5, sV (.int .i64 i)), (1, sV (.int .i64 (mdk (mk zm) rr k i))), (0, .one (.h 1000000000 rr.length))], [(1000000000, .arr true z 0 (md (mk zm) rr k i))]⟩) (fun i => rr.length - i) 0 (Nat.zero_le _) ?_ ?_
 · exact ⟨⟨rfl, congrArg (fun n => Cell.s (.int .i64 n)) z06.symm, ⟨rfl, rfl, rfl⟩, trivial⟩, ⟨⟨q0e.symm, .inl rfl, .inl rfl⟩, trivial⟩, rfl⟩
 · intro i hi J hJ
   refine xb rfl ?_ ?_ <;> intro h
   · have h : i < rr.length := by simpa using h
     obtain ⟨row, hg⟩ : ∃ row, rr[i]? = some row := ⟨_, List.getElem?_eq_getElem h⟩
     obtain ⟨x0, x1, x2, x3, x4, rfl⟩ := q0o (hw.2 row (List.mem_of_getElem? hg))
     have hl := q0z (f := (mk zm)) (k := k) hi
     have hg0 := y0z (f := (mk zm)) (k := k) hg
     have hlt : i < (md (mk zm) rr k i).length := by omega
     refine xs rfl (hl).symm (xs rfl (nn_ _) (y9 rfl _ hg0 (xs rfl rfl (xs rfl (hl).symm (y9 rfl _ hg0 (xs rfl (by show 0 + 1 ≤ 5; omega) (xs rfl ⟨trivial, trivial⟩ ?_)))))))
     refine xs rfl (yc (hl)).symm (xs rfl (nn_ _) (y9 rfl _ (yy (hl) h) (xs rfl rfl (xs rfl (yc (hl)).symm (y9 rfl _ (yy (hl) h) (xs rfl (by show 1 + 1 ≤ 5; omega) (xs rfl ⟨trivial, trivial⟩ ?_)))))))
     refine xs rfl (yc (yc (hl))).symm (xs rfl (nn_ _) (y9 rfl _ (yy (yc (hl)) h) (xs rfl rfl (xs rfl (yc (yc (hl))).symm (y9 rfl _ (yy (yc (hl)) h) (xs rfl (by show 2 + 1 ≤ 5; omega) (xs rfl ⟨trivial, trivial⟩ ?_)))))))
     refine xs rfl (yc (yc (yc (hl)))).symm (xs rfl (nn_ _) (y9 rfl _ (yy (yc (yc (hl))) h) (xs rfl rfl (xs rfl (yc (yc (yc (hl)))).symm (y9 rfl _ (yy (yc (yc (hl))) h) (xs rfl (by show 3 + 1 ≤ 5; omega) (xs rfl ⟨trivial, trivial⟩ ?_)))))))
     refine xs rfl (yc (yc (yc (yc (hl))))).symm (xs rfl (nn_ _) (y9 rfl _ (yy (yc (yc (yc (hl)))) h) (xs rfl rfl (xs rfl (yc (yc (yc (yc (hl))))).symm (y9 rfl _ (yy (yc (yc (yc (hl)))) h) (xs rfl (by show 4 + 1 ≤ 5; omega) (xs rfl ⟨trivial, trivial⟩ ?_)))))))
     refine q9 rfl (hJ _ (i + 1) (by omega) (by omega) ?_)
     refine ⟨⟨cwi (by omega) (by omega) (by omega), ?_, ⟨rfl, rfl, rfl⟩, trivial⟩, ⟨⟨?_, .inl rfl, .inl rfl⟩, trivial⟩, rfl⟩
     · rw [q05 hg]; rfl
     · refine Eq.trans ?_ (z10 hg)
       try simp only [Int.toNat_natCast, yv hg0, ssr hlt, List.set_set]
       rfl
   · have h : ¬ i < rr.length := by simpa using h
     have : i = rr.length := by omega
     subst this
     exact xr rfl (z1z rfl ⟨⟨rfl, congrArg (Value.int .i64) z0f, trivial⟩, z6 rfl⟩ ⟨⟨rfl, rfl, z0z, zo _ _ _, yr hw⟩, trivial⟩)
theorem y3o (z : Nat) (rr : List (List Cell)) (k : Int) (hw : WR 9000000000000000000 qa rr) : PG Tryz.prog 83 [.one (.giv true z rr), .one (.bor (i64 k))] (rI (mkR (mk qa) rr k).2) [(0, (mkR (mk qa) rr k).1)] := by
 refine PG.begin Tryz.func83 rfl (by kernel_rfl) ?_
 have hlen := hw.1
 refine qc rfl (ι := Nat) (fun i => i ≤ rr.length) (fun i => ⟨[(5, sV (.int .i64 i)), (1, sV (.int .i64 (mdk (mk qa) rr k i))), (0, .one (.h 1000000000 rr.length))], [(1000000000, .arr true z 0 (md (mk qa) rr k i))]⟩) (fun i => rr.length - i) 0 (Nat.zero_le _) ?_ ?_
 · exact ⟨⟨rfl, congrArg (fun n => Cell.s (.int .i64 n)) z06.symm, ⟨rfl, rfl, rfl⟩, trivial⟩, ⟨⟨q0e.symm, .inl rfl, .inl rfl⟩, trivial⟩, rfl⟩
 · intro i hi J hJ
   refine xb rfl ?_ ?_ <;> intro h
   · have h : i < rr.length := by simpa using h
     obtain ⟨row, hg⟩ : ∃ row, rr[i]? = some row := ⟨_, List.getElem?_eq_getElem h⟩
     obtain ⟨x0, x1, x2, rfl, h1, h2⟩ := q0d (hw.2 row (List.mem_of_getElem? hg))
     have hl := q0z (f := (mk qa)) (k := k) hi
     have hg0 := y0z (f := (mk qa)) (k := k) hg
     have hlt : i < (md (mk qa) rr k i).length := by omega
     refine xs rfl (hl).symm (xs rfl (nn_ _) (y9 rfl _ hg0 (xs rfl rfl (xs rfl (hl).symm (y9 rfl _ hg0 (xs rfl (by show 0 + 1 ≤ 3; omega) (xs rfl ⟨trivial, trivial⟩ ?_)))))))
     refine xs rfl (yc (hl)).symm (xs rfl (nn_ _) (y9 rfl _ (yy (hl) h) (xs rfl rfl (xs rfl (yc (hl)).symm (y9 rfl _ (yy (hl) h) ?_)))))
     refine y0t rfl (y5q 0 _ _ h1) ⟨⟨rfl, rfl, rfl, _, (yy (hl) h), rfl⟩, rfl, trivial⟩ rfl ?_
     refine xs rfl (lsr (yc (hl))).symm (xs rfl (nn_ _) (y9 rfl _ (yf (yy (hl) h)) (xs rfl rfl (xs rfl (lsr (yc (hl))).symm (y9 rfl _ (yf (yy (hl) h)) ?_)))))
     refine y0t rfl (y4e 0 _ _ h2) ⟨⟨rfl, rfl, rfl, _, (yf (yy (hl) h)), rfl⟩, rfl, trivial⟩ rfl ?_
     refine q9 rfl (hJ _ (i + 1) (by omega) (by omega) ?_)
     refine ⟨⟨cwi (by omega) (by omega) (by omega), ?_, ⟨rfl, rfl, rfl⟩, trivial⟩, ⟨⟨?_, .inl rfl, .inl rfl⟩, trivial⟩, rfl⟩
     · rw [q05 hg]; rfl
     · refine Eq.trans ?_ (z10 hg)
       try simp only [Int.toNat_natCast, yv hg0, ssr hlt, List.set_set]
       rfl
   · have h : ¬ i < rr.length := by simpa using h
     have : i = rr.length := by omega
     subst this
     exact xr rfl (z1z rfl ⟨⟨rfl, congrArg (Value.int .i64) z0f, trivial⟩, z6 rfl⟩ ⟨⟨rfl, rfl, z0z, zo _ _ _, yr hw⟩, trivial⟩)
theorem z38 (z : Nat) (rr : List (List Cell)) (k : Int) (hw : WR 9000000000000000000 yb rr) : PG Tryz.prog 84 [.one (.giv true z rr), .one (.bor (i64 k))] (rI (mkR (mk yb) rr k).2) [(0, (mkR (mk yb) rr k).1)] := by
 refine PG.begin Tryz.func84 rfl (by kernel_rfl) ?_
 have hlen := hw.1
 refine qc rfl (ι := Nat) (fun i => i ≤ rr.length) (fun i => ⟨[(5, sV (.int .i64 i)), (1, sV (.int .i64 (mdk (mk yb) rr k i))), (0, .one (.h 1000000000 rr.length))], [(1000000000, .arr true z 0 (md (mk yb) rr k i))]⟩) (fun i => rr.length - i) 0 (Nat.zero_le _) ?_ ?_
 · exact ⟨⟨rfl, congrArg (fun n => Cell.s (.int .i64 n)) z06.symm, ⟨rfl, rfl, rfl⟩, trivial⟩, ⟨⟨q0e.symm, .inl rfl, .inl rfl⟩, trivial⟩, rfl⟩
 · intro i hi J hJ
   refine xb rfl ?_ ?_ <;> intro h
   · have h : i < rr.length := by simpa using h
     obtain ⟨row, hg⟩ : ∃ row, rr[i]? = some row := ⟨_, List.getElem?_eq_getElem h⟩
     obtain ⟨x0, x1, x2, x3, x4, x5, x6, x7, x8, rfl⟩ := z09 (hw.2 row (List.mem_of_getElem? hg))
     have hl := q0z (f := (mk yb)) (k := k) hi
     have hg0 := y0z (f := (mk yb)) (k := k) hg
     have hlt : i < (md (mk yb) rr k i).length := by omega
     refine xs rfl (hl).symm (xs rfl (nn_ _) (y9 rfl _ hg0 (xs rfl rfl (xs rfl (hl).symm (y9 rfl _ hg0 (xs rfl (by show 0 + 1 ≤ 9; omega) (xs rfl ⟨trivial, trivial⟩ ?_)))))))
     refine xs rfl (yc (hl)).symm (xs rfl (nn_ _) (y9 rfl _ (yy (hl) h) (xs rfl rfl (xs rfl (yc (hl)).symm (y9 rfl _ (yy (hl) h) (xs rfl (by show 1 + 1 ≤ 9; omega) (xs rfl ⟨trivial, trivial⟩ ?_)))))))
     refine xs rfl (yc (yc (hl))).symm (xs rfl (nn_ _) (y9 rfl _ (yy (yc (hl)) h) (xs rfl rfl (xs rfl (yc (yc (hl))).symm (y9 rfl _ (yy (yc (hl)) h) (xs rfl (by show 2 + 1 ≤ 9; omega) (xs rfl ⟨trivial, trivial⟩ ?_)))))))
     refine xs rfl (yc (yc (yc (hl)))).symm (xs rfl (nn_ _) (y9 rfl _ (yy (yc (yc (hl))) h) (xs rfl rfl (xs rfl (yc (yc (yc (hl)))).symm (y9 rfl _ (yy (yc (yc (hl))) h) (xs rfl (by show 3 + 1 ≤ 9; omega) (xs rfl ⟨trivial, trivial⟩ ?_)))))))
     refine xs rfl (yc (yc (yc (yc (hl))))).symm (xs rfl (nn_ _) (y9 rfl _ (yy (yc (yc (yc (hl)))) h) (xs rfl rfl (xs rfl (yc (yc (yc (yc (hl))))).symm (y9 rfl _ (yy (yc (yc (yc (hl)))) h) (xs rfl (by show 4 + 1 ≤ 9; omega) (xs rfl ⟨trivial, trivial⟩ ?_)))))))
     refine xs rfl (yc (yc (yc (yc (yc (hl)))))).symm (xs rfl (nn_ _) (y9 rfl _ (yy (yc (yc (yc (yc (hl))))) h) (xs rfl rfl (xs rfl (yc (yc (yc (yc (yc (hl)))))).symm (y9 rfl _ (yy (yc (yc (yc (yc (hl))))) h) (xs rfl (by show 5 + 1 ≤ 9; omega) (xs rfl ⟨trivial, trivial⟩ ?_)))))))
     refine xs rfl (yc (yc (yc (yc (yc (yc (hl))))))).symm (xs rfl (nn_ _) (y9 rfl _ (yy (yc (yc (yc (yc (yc (hl)))))) h) (xs rfl rfl (xs rfl (yc (yc (yc (yc (yc (yc (hl))))))).symm (y9 rfl _ (yy (yc (yc (yc (yc (yc (hl)))))) h) (xs rfl (by show 6 + 1 ≤ 9; omega) (xs rfl ⟨trivial, trivial⟩ ?_)))))))
     refine xs rfl (yc (yc (yc (yc (yc (yc (yc (hl)))))))).symm (xs rfl (nn_ _) (y9 rfl _ (yy (yc (yc (yc (yc (yc (yc (hl))))))) h) (xs rfl rfl (xs rfl (yc (yc (yc (yc (yc (yc (yc (hl)))))))).symm (y9 rfl _ (yy (yc (yc (yc (yc (yc (yc (hl))))))) h) (xs rfl (by show 7 + 1 ≤ 9; omega) (xs rfl ⟨trivial, trivial⟩ ?_)))))))
     refine xs rfl (yc (yc (yc (yc (yc (yc (yc (yc (hl))))))))).symm (xs rfl (nn_ _) (y9 rfl _ (yy (yc (yc (yc (yc (yc (yc (yc (hl)))))))) h) (xs rfl rfl (xs rfl (yc (yc (yc (yc (yc (yc (yc (yc (hl))))))))).symm (y9 rfl _ (yy (yc (yc (yc (yc (yc (yc (yc (hl)))))))) h) (xs rfl (by show 8 + 1 ≤ 9; omega) (xs rfl ⟨trivial, trivial⟩ ?_)))))))
     refine q9 rfl (hJ _ (i + 1) (by omega) (by omega) ?_)
     refine ⟨⟨cwi (by omega) (by omega) (by omega), ?_, ⟨rfl, rfl, rfl⟩, trivial⟩, ⟨⟨?_, .inl rfl, .inl rfl⟩, trivial⟩, rfl⟩
     · rw [q05 hg]; rfl
     · refine Eq.trans ?_ (z10 hg)
       try simp only [Int.toNat_natCast, yv hg0, ssr hlt, List.set_set]
       rfl
   · have h : ¬ i < rr.length := by simpa using h
     have : i = rr.length := by omega
     subst this
     exact xr rfl (z1z rfl ⟨⟨rfl, congrArg (Value.int .i64) z0f, trivial⟩, z6 rfl⟩ ⟨⟨rfl, rfl, z0z, zo _ _ _, yr hw⟩, trivial⟩)
theorem z1r (z0 z1 z2 z3 z4 : Nat) (x0 : List (List Cell)) (x1 : List (List Cell)) (x2 : List (List Cell)) (x3 : List (List Cell)) (x4 : List (List Cell)) (k : Int) (k0 : Int) (k1 : Int) (k2 : Int) (k3 : Int) (k4 : Int) (h0 : WR 9000000000000000000 q7 x0) (h1 : WR 9000000000000000000 zb x1) (h2 : WR 9000000000000000000 z8 x2) (h3 : WR 9000000000000000000 qa x3) (h4 : WR 9000000000000000000 yb x4) (e0 : (mkR (mk q7) x0 k).2 = k0) (e1 : (mkR (mk zb) x1 k0).2 = k1) (e2 : (mkR (mk z8) x2 k1).2 = k2) (e3 : (mkR (mk qa) x3 k2).2 = k3) (e4 : (mkR (mk yb) x4 k3).2 = k4) : PG Tryz.prog 25 [.agg [.giv true z0 x0, .giv true z1 x1, .giv true z2 x2, .giv true z3 x3, .giv true z4 x4], .one (.bor (i64 k))] (rI k4) [(0, (mkR (mk q7) x0 k).1), (1, (mkR (mk zb) x1 k0).1), (2, (mkR (mk z8) x2 k1).1), (3, (mkR (mk qa) x3 k2).1), (4, (mkR (mk yb) x4 k3).1)] := by
 refine PG.begin Tryz.func25 rfl (by kernel_rfl) ?_
 refine y0t rfl (y18 z0 x0 k h0) ⟨⟨rfl, rfl, rfl, rfl⟩, rfl, trivial⟩ rfl ?_
 rw [e0]
 refine y0t rfl (z4f z1 x1 k0 h1) ⟨⟨rfl, rfl, rfl, rfl⟩, rfl, trivial⟩ rfl ?_
 rw [e1]
 refine y0t rfl (z2r z2 x2 k1 h2) ⟨⟨rfl, rfl, rfl, rfl⟩, rfl, trivial⟩ rfl ?_
 rw [e2]
 refine y0t rfl (y3o z3 x3 k2 h3) ⟨⟨rfl, rfl, rfl, rfl⟩, rfl, trivial⟩ rfl ?_
 rw [e3]
 refine y0t rfl (z38 z4 x4 k3 h4) ⟨⟨rfl, rfl, rfl, rfl⟩, rfl, trivial⟩ rfl ?_
 rw [e4]
 exact xr rfl (z1z rfl ⟨⟨rfl, rfl, trivial⟩, z6 rfl⟩ ⟨⟨rfl, rfl, rfl, zo _ _ _, yr h0⟩, ⟨rfl, rfl, rfl, zo _ _ _, yr h1⟩, ⟨rfl, rfl, rfl, zo _ _ _, yr h2⟩, ⟨rfl, rfl, rfl, zo _ _ _, yr h3⟩, ⟨rfl, rfl, rfl, zo _ _ _, yr h4⟩, trivial⟩)
theorem q35 (rr : List (List Cell)) (k : Int) (hw : WR 9000000000000000000 ze rr) : PC Tryz.prog 241 [.one (.l rr), .one (i64 k)] (rI (ng (hdR (hd ze) rr k))) := by
 refine PC.begin Tryz.func241 rfl (by kernel_rfl) ?_
 have hlen := hw.1
 refine qc rfl (ι := Nat × Int) (fun x => x.1 ≤ rr.length ∧ hdR (hd ze) (rr.take x.1) k = some x.2) (fun x => ⟨[(5, sV (.int .i64 x.1)), (1, sV (.int .i64 x.2)), (0, .one (.b (.l rr)))], []⟩) (fun x => rr.length - x.1) (0, k) ⟨Nat.zero_le _, rfl⟩ ?_ ?_
 · exact ⟨⟨rfl, rfl, rfl, trivial⟩, trivial, rfl⟩
 · intro ⟨i, v⟩ ⟨hi, hv⟩ J hJ
   dsimp only at hi hv ⊢
   refine xb rfl ?_ ?_ <;> intro h
   · have h : i < rr.length := by simpa using h
     obtain ⟨row, hg⟩ : ∃ row, rr[i]? = some row := ⟨_, List.getElem?_eq_getElem h⟩
     obtain ⟨x0, x1, x2, rfl⟩ := q08 (hw.2 row (List.mem_of_getElem? hg))
     have hst := y05 hg hv
     refine xs rfl (nn_ _) (y9 rfl _ hg (xs rfl rfl ?_))
     refine xb rfl ?_ ?_ <;> intro hb
     · have hb : ¬ x0 = mkv .i64 (v) := by simpa [mkv, nx] using hb
       exact xv rfl rfl rfl (congrArg (Value.int .i64) (yg (qf (i := i + 1) (hst.trans (by simp only [hd, if_neg hb])))).symm)
     have hb0 : x0 = mkv .i64 (v) := by simpa [mkv, nx] using hb
     clear hb
     refine xs rfl (nn_ _) (y9 rfl _ hg (xs rfl rfl ?_))
     refine xb rfl ?_ ?_ <;> intro hb
     · have hb : ¬ x1 = mkv .i64 (nx (v)) := by simpa [mkv, nx] using hb
       exact xv rfl rfl rfl (congrArg (Value.int .i64) (yg (qf (i := i + 1) (hst.trans (by simp only [hd, if_neg hb, if_pos hb0])))).symm)
     have hb1 : x1 = mkv .i64 (nx (v)) := by simpa [mkv, nx] using hb
     clear hb
     refine xs rfl (nn_ _) (y9 rfl _ hg (xs rfl rfl ?_))
     refine xb rfl ?_ ?_ <;> intro hb
     · have hb : ¬ x2 = mkv .i64 (nx (nx (v))) := by simpa [mkv, nx] using hb
       exact xv rfl rfl rfl (congrArg (Value.int .i64) (yg (qf (i := i + 1) (hst.trans (by simp only [hd, if_neg hb, if_pos hb0, if_pos hb1])))).symm)
     have hb2 : x2 = mkv .i64 (nx (nx (v))) := by simpa [mkv, nx] using hb
     clear hb
     refine q9 rfl (hJ _ (i + 1, nx (nx (nx (v)))) ⟨by dsimp only; omega, hst.trans (by simp only [hd, if_pos hb0, if_pos hb1, if_pos hb2])⟩ (by dsimp only; omega) ?_)
     exact ⟨⟨cwi (by omega) (by omega) (by omega), rfl, rfl, trivial⟩, trivial, rfl⟩
   · have h : ¬ i < rr.length := by simpa using h
     have : i = rr.length := by omega
     subst this
     rw [List.take_length] at hv
     exact xv rfl rfl rfl (congrArg (Value.int .i64) (by rw [hv]; rfl))
abbrev y19 : Sh := (.i .i64 (.l q7 (.l zb (.l z8 (.l qa (.l yb .nil))))))
theorem q20 (x0 : Int) (x1 : List (List Cell)) (x2 : List (List Cell)) (x3 : List (List Cell)) (x4 : List (List Cell)) (x5 : List (List Cell)) (y0 : Int) (y1 : List (List Cell)) (y2 : List (List Cell)) (y3 : List (List Cell)) (y4 : List (List Cell)) (y5 : List (List Cell)) (h1 : WR 9000000000000000000 q7 x1) (h2 : WR 9000000000000000000 zb x2) (h3 : WR 9000000000000000000 z8 x3) (h4 : WR 9000000000000000000 qa x4) (h5 : WR 9000000000000000000 yb x5) (k1 : WR 9000000000000000000 q7 y1) (k2 : WR 9000000000000000000 zb y2) (k3 : WR 9000000000000000000 z8 y3) (k4 : WR 9000000000000000000 qa y4) (k5 : WR 9000000000000000000 yb y5) : PC Tryz.prog 24 [.agg [.s (.int .i64 x0), .l x1, .l x2, .l x3, .l x4, .l x5], .agg [.s (.int .i64 y0), .l y1, .l y2, .l y3, .l y4, .l y5]] (rB (dE (α := List Cell) [.s (.int .i64 x0), .l x1, .l x2, .l x3, .l x4, .l x5] [.s (.int .i64 y0), .l y1, .l y2, .l y3, .l y4, .l y5])) := by
 refine PC.begin Tryz.func24 rfl (by kernel_rfl) ?_
 refine xb rfl (fun h => ?_) (fun e0 => ?_)
 · exact xv rfl rfl rfl (zl (fun e => by simp only [List.cons.injEq, Cell.s.injEq, Value.int.injEq, Value.bool.injEq, Value.string.injEq] at e; simp [e] at h))
 have e0 : x0 = y0 := by simpa using e0
 refine z7 rfl (z2j _ _ _ _ _ _ _ _ _ _ h1 h2 h3 h4 h5 k1 k2 k3 k4 k5) rfl ⟨tv6, tv6, trivial⟩ ?_
 refine xb rfl (fun h => ?_) (fun e1 => ?_)
 · exact xv rfl rfl rfl (zl (fun e => y07 h (by simp only [List.cons.injEq, Cell.l.injEq] at e ⊢; simp only [e]; try trivial)))
 have e1 := z07 e1
 simp only [List.cons.injEq, Cell.s.injEq, Cell.l.injEq, Value.int.injEq, Value.bool.injEq, and_true, true_and] at e1
 exact xv rfl rfl rfl (zx (by simp [e0, e1]))
theorem q1o (z1 z2 z3 z4 z5 : Nat) (x0 : Int) (x1 : List (List Cell)) (x2 : List (List Cell)) (x3 : List (List Cell)) (x4 : List (List Cell)) (x5 : List (List Cell)) (k : Int) (k1 : Int) (k2 : Int) (k3 : Int) (k4 : Int) (k5 : Int) (h1 : WR 9000000000000000000 q7 x1) (h2 : WR 9000000000000000000 zb x2) (h3 : WR 9000000000000000000 z8 x3) (h4 : WR 9000000000000000000 qa x4) (h5 : WR 9000000000000000000 yb x5) (e1 : (mkR (mk q7) x1 k).2 = k1) (e2 : (mkR (mk zb) x2 k1).2 = k2) (e3 : (mkR (mk z8) x3 k2).2 = k3) (e4 : (mkR (mk qa) x4 k3).2 = k4) (e5 : (mkR (mk yb) x5 k4).2 = k5) : PG Tryz.prog 26 [.agg [.bor (.s (.int .i64 x0)), .giv true z1 x1, .giv true z2 x2, .giv true z3 x3, .giv true z4 x4, .giv true z5 x5], .one (.bor (i64 k))] (rI k5) [(1, (mkR (mk q7) x1 k).1), (2, (mkR (mk zb) x2 k1).1), (3, (mkR (mk z8) x3 k2).1), (4, (mkR (mk qa) x4 k3).1), (5, (mkR (mk yb) x5 k4).1)] := by
 refine PG.begin Tryz.func26 rfl (by kernel_rfl) ?_
 refine y0t rfl (z1r z1 z2 z3 z4 z5 x1 x2 x3 x4 x5 k k1 k2 k3 k4 k5 h1 h2 h3 h4 h5 e1 e2 e3 e4 e5) ⟨⟨⟨rfl, rfl, rfl, rfl⟩, ⟨rfl, rfl, rfl, rfl⟩, ⟨rfl, rfl, rfl, rfl⟩, ⟨rfl, rfl, rfl, rfl⟩, ⟨rfl, rfl, rfl, rfl⟩, trivial⟩, rfl, trivial⟩ rfl ?_
 exact xr rfl (z1z rfl ⟨⟨rfl, rfl, trivial⟩, z6 rfl⟩ ⟨⟨rfl, rfl, rfl, zo _ _ _, yr h1⟩, ⟨rfl, rfl, rfl, zo _ _ _, yr h2⟩, ⟨rfl, rfl, rfl, zo _ _ _, yr h3⟩, ⟨rfl, rfl, rfl, zo _ _ _, yr h4⟩, ⟨rfl, rfl, rfl, zo _ _ _, yr h5⟩, trivial⟩)
theorem q5m (rr : List (List Cell)) (k : Int) (hw : WR 9000000000000000000 yw rr) : PC Tryz.prog 240 [.one (.l rr), .one (i64 k)] (rI (ng (hdR (hd yw) rr k))) := by
 refine PC.begin Tryz.func240 rfl (by kernel_rfl) ?_
 have hlen := hw.1
 refine qc rfl (ι := Nat × Int) (fun x => x.1 ≤ rr.length ∧ hdR (hd yw) (rr.take x.1) k = some x.2) (fun x => ⟨[(5, sV (.int .i64 x.1)), (1, sV (.int .i64 x.2)), (0, .one (.b (.l rr)))], []⟩) (fun x => rr.length - x.1) (0, k) ⟨Nat.zero_le _, rfl⟩ ?_ ?_
 · exact ⟨⟨rfl, rfl, rfl, trivial⟩, trivial, rfl⟩
 · intro ⟨i, v⟩ ⟨hi, hv⟩ J hJ
   dsimp only at hi hv ⊢
   refine xb rfl ?_ ?_ <;> intro h
   · have h : i < rr.length := by simpa using h
     obtain ⟨row, hg⟩ : ∃ row, rr[i]? = some row := ⟨_, List.getElem?_eq_getElem h⟩
     obtain ⟨x0, x1, x2, x3, rfl⟩ := q1v (hw.2 row (List.mem_of_getElem? hg))
     have hst := y05 hg hv
     refine xs rfl (nn_ _) (y9 rfl _ hg (xs rfl rfl ?_))
     refine xb rfl ?_ ?_ <;> intro hb
     · have hb : ¬ x0 = mkv .i64 (v) := by simpa [mkv, nx] using hb
       exact xv rfl rfl rfl (congrArg (Value.int .i64) (yg (qf (i := i + 1) (hst.trans (by simp only [hd, if_neg hb])))).symm)
     have hb0 : x0 = mkv .i64 (v) := by simpa [mkv, nx] using hb
     clear hb
     refine xs rfl (nn_ _) (y9 rfl _ hg (xs rfl rfl ?_))
     refine xb rfl ?_ ?_ <;> intro hb
     · have hb : ¬ x1 = mkv .i64 (nx (v)) := by simpa [mkv, nx] using hb
       exact xv rfl rfl rfl (congrArg (Value.int .i64) (yg (qf (i := i + 1) (hst.trans (by simp only [hd, if_neg hb, if_pos hb0])))).symm)
     have hb1 : x1 = mkv .i64 (nx (v)) := by simpa [mkv, nx] using hb
     clear hb
     refine xs rfl (nn_ _) (y9 rfl _ hg (xs rfl rfl ?_))
     refine xb rfl ?_ ?_ <;> intro hb
     · have hb : ¬ x2 = mkv .i64 (nx (nx (v))) := by simpa [mkv, nx] using hb
       exact xv rfl rfl rfl (congrArg (Value.int .i64) (yg (qf (i := i + 1) (hst.trans (by simp only [hd, if_neg hb, if_pos hb0, if_pos hb1])))).symm)
     have hb2 : x2 = mkv .i64 (nx (nx (v))) := by simpa [mkv, nx] using hb
     clear hb
     refine xs rfl (nn_ _) (y9 rfl _ hg (xs rfl rfl ?_))
     refine xb rfl ?_ ?_ <;> intro hb
     · have hb : ¬ x3 = mkv .i64 (nx (nx (nx (v)))) := by simpa [mkv, nx] using hb
       exact xv rfl rfl rfl (congrArg (Value.int .i64) (yg (qf (i := i + 1) (hst.trans (by simp only [hd, if_neg hb, if_pos hb0, if_pos hb1, if_pos hb2])))).symm)
     have hb3 : x3 = mkv .i64 (nx (nx (nx (v)))) := by simpa [mkv, nx] using hb
     clear hb
     refine q9 rfl (hJ _ (i + 1, nx (nx (nx (nx (v))))) ⟨by dsimp only; omega, hst.trans (by simp only [hd, if_pos hb0, if_pos hb1, if_pos hb2, if_pos hb3])⟩ (by dsimp only; omega) ?_)
     exact ⟨⟨cwi (by omega) (by omega) (by omega), rfl, rfl, trivial⟩, trivial, rfl⟩
   · have h : ¬ i < rr.length := by simpa using h
     have : i = rr.length := by omega
     subst this
     rw [List.take_length] at hv
     exact xv rfl rfl rfl (congrArg (Value.int .i64) (by rw [hv]; rfl))
theorem q17 (rr : List (List Cell)) (k : Int) (hw : WR 9000000000000000000 q7 rr) : PC Tryz.prog 161 [.one (.l rr), .one (i64 k)] (rI (ng (hdR (hd q7) rr k))) := by
 refine PC.begin Tryz.func161 rfl (by kernel_rfl) ?_
 have hlen := hw.1
 refine qc rfl (ι := Nat × Int) (fun x => x.1 ≤ rr.length ∧ hdR (hd q7) (rr.take x.1) k = some x.2) (fun x => ⟨[(5, sV (.int .i64 x.1)), (1, sV (.int .i64 x.2)), (0, .one (.b (.l rr)))], []⟩) (fun x => rr.length - x.1) (0, k) ⟨Nat.zero_le _, rfl⟩ ?_ ?_
 · exact ⟨⟨rfl, rfl, rfl, trivial⟩, trivial, rfl⟩
 · intro ⟨i, v⟩ ⟨hi, hv⟩ J hJ
   dsimp only at hi hv ⊢
   refine xb rfl ?_ ?_ <;> intro h
   · have h : i < rr.length := by simpa using h
     obtain ⟨row, hg⟩ : ∃ row, rr[i]? = some row := ⟨_, List.getElem?_eq_getElem h⟩
     obtain ⟨x0, x1, rfl, h1⟩ := y04 (hw.2 row (List.mem_of_getElem? hg))
     have hst := y05 hg hv
     refine xs rfl (nn_ _) (y9 rfl _ hg (xs rfl rfl ?_))
     refine xb rfl ?_ ?_ <;> intro hb
     · have hb : ¬ x0 = mkv .i64 (v) := by simpa [mkv, nx] using hb
       exact xv rfl rfl rfl (congrArg (Value.int .i64) (yg (qf (i := i + 1) (hst.trans (by simp only [hd, if_neg hb])))).symm)
     have hb0 : x0 = mkv .i64 (v) := by simpa [mkv, nx] using hb
     clear hb
     refine xs rfl (nn_ _) (y9 rfl _ hg (xs rfl rfl ?_))
     refine z7 rfl (q5m x1 (nx (v)) h1) rfl tv3 ?_
     generalize hk1 : ng (hdR (hd yw) x1 (nx (v))) = k1
     refine xb rfl ?_ ?_ <;> intro hb
     · have hb : k1 < 0 := by simpa using hb
       exact xv rfl rfl rfl (congrArg (Value.int .i64) (yg (qf (i := i + 1) (hst.trans (by simp only [hd, if_pos hb0, hk1, z1h hb]; rfl)))).symm)
     have hb1 : ¬ k1 < 0 := by simpa using hb
     clear hb
     refine q9 rfl (hJ _ (i + 1, k1) ⟨by dsimp only; omega, hst.trans (by simp only [hd, if_pos hb0, hk1, qz hb1, Option.bind_some])⟩ (by dsimp only; omega) ?_)
     exact ⟨⟨cwi (by omega) (by omega) (by omega), rfl, rfl, trivial⟩, trivial, rfl⟩
   · have h : ¬ i < rr.length := by simpa using h
     have : i = rr.length := by omega
     subst this
     rw [List.take_length] at hv
     exact xv rfl rfl rfl (congrArg (Value.int .i64) (by rw [hv]; rfl))
theorem y2l (rr : List (List Cell)) (k : Int) (hw : WR 9000000000000000000 zh rr) : PC Tryz.prog 242 [.one (.l rr), .one (i64 k)] (rI (ng (hdR (hd zh) rr k))) := by
 refine PC.begin Tryz.func242 rfl (by kernel_rfl) ?_
 have hlen := hw.1
 refine qc rfl (ι := Nat × Int) (fun x => x.1 ≤ rr.length ∧ hdR (hd zh) (rr.take x.1) k = some x.2) (fun x => ⟨[(5, sV (.int .i64 x.1)), (1, sV (.int .i64 x.2)), (0, .one (.b (.l rr)))], []⟩) (fun x => rr.length - x.1) (0, k) ⟨Nat.zero_le _, rfl⟩ ?_ ?_
 · exact ⟨⟨rfl, rfl, rfl, trivial⟩, trivial, rfl⟩
 · intro ⟨i, v⟩ ⟨hi, hv⟩ J hJ
   dsimp only at hi hv ⊢
   refine xb rfl ?_ ?_ <;> intro h
   · have h : i < rr.length := by simpa using h
     obtain ⟨row, hg⟩ : ∃ row, rr[i]? = some row := ⟨_, List.getElem?_eq_getElem h⟩
     obtain ⟨x0, x1, rfl⟩ := y15 (hw.2 row (List.mem_of_getElem? hg))
     have hst := y05 hg hv
     refine xs rfl (nn_ _) (y9 rfl _ hg (xs rfl rfl ?_))
     refine xb rfl ?_ ?_ <;> intro hb
     · have hb : ¬ x0 = mkv .i64 (v) := by simpa [mkv, nx] using hb
       exact xv rfl rfl rfl (congrArg (Value.int .i64) (yg (qf (i := i + 1) (hst.trans (by simp only [hd, if_neg hb])))).symm)
     have hb0 : x0 = mkv .i64 (v) := by simpa [mkv, nx] using hb
     clear hb
     refine xs rfl (nn_ _) (y9 rfl _ hg (xs rfl rfl ?_))
     refine xb rfl ?_ ?_ <;> intro hb
     · have hb : ¬ x1 = mkv .i64 (nx (v)) := by simpa [mkv, nx] using hb
       exact xv rfl rfl rfl (congrArg (Value.int .i64) (yg (qf (i := i + 1) (hst.trans (by simp only [hd, if_neg hb, if_pos hb0])))).symm)
     have hb1 : x1 = mkv .i64 (nx (v)) := by simpa [mkv, nx] using hb
     clear hb
     refine q9 rfl (hJ _ (i + 1, nx (nx (v))) ⟨by dsimp only; omega, hst.trans (by simp only [hd, if_pos hb0, if_pos hb1])⟩ (by dsimp only; omega) ?_)
     exact ⟨⟨cwi (by omega) (by omega) (by omega), rfl, rfl, trivial⟩, trivial, rfl⟩
   · have h : ¬ i < rr.length := by simpa using h
     have : i = rr.length := by omega
     subst this
     rw [List.take_length] at hv
     exact xv rfl rfl rfl (congrArg (Value.int .i64) (by rw [hv]; rfl))
theorem q22 (rr : List (List Cell)) (k : Int) (hw : WR 9000000000000000000 (.i .i64 .nil) rr) : PC Tryz.prog 243 [.one (.l rr), .one (i64 k)] (rI (ng (hdR (hd (.i .i64 .nil)) rr k))) := by
 refine PC.begin Tryz.func243 rfl (by kernel_rfl) ?_
 have hlen := hw.1
 refine qc rfl (ι := Nat × Int) (fun x => x.1 ≤ rr.length ∧ hdR (hd (.i .i64 .nil)) (rr.take x.1) k = some x.2) (fun x => ⟨[(5, sV (.int .i64 x.1)), (1, sV (.int .i64 x.2)), (0, .one (.b (.l rr)))], []⟩) (fun x => rr.length - x.1) (0, k) ⟨Nat.zero_le _, rfl⟩ ?_ ?_
 · exact ⟨⟨rfl, rfl, rfl, trivial⟩, trivial, rfl⟩
 · intro ⟨i, v⟩ ⟨hi, hv⟩ J hJ
   dsimp only at hi hv ⊢
   refine xb rfl ?_ ?_ <;> intro h
   · have h : i < rr.length := by simpa using h
     obtain ⟨row, hg⟩ : ∃ row, rr[i]? = some row := ⟨_, List.getElem?_eq_getElem h⟩
     obtain ⟨x0, _, rfl, hnil⟩ := ((hw.2 row (List.mem_of_getElem? hg))).yx; obtain rfl := hnil.zz
     have hst := y05 hg hv
     refine xs rfl (nn_ _) (y9 rfl _ hg (xs rfl rfl ?_))
     refine xb rfl ?_ ?_ <;> intro hb
     · have hb : ¬ x0 = mkv .i64 (v) := by simpa [mkv, nx] using hb
       exact xv rfl rfl rfl (congrArg (Value.int .i64) (yg (qf (i := i + 1) (hst.trans (by simp only [hd, if_neg hb])))).symm)
     have hb0 : x0 = mkv .i64 (v) := by simpa [mkv, nx] using hb
     clear hb
     refine q9 rfl (hJ _ (i + 1, nx (v)) ⟨by dsimp only; omega, hst.trans (by simp only [hd, if_pos hb0])⟩ (by dsimp only; omega) ?_)
     exact ⟨⟨cwi (by omega) (by omega) (by omega), rfl, rfl, trivial⟩, trivial, rfl⟩
   · have h : ¬ i < rr.length := by simpa using h
     have : i = rr.length := by omega
     subst this
     rw [List.take_length] at hv
     exact xv rfl rfl rfl (congrArg (Value.int .i64) (by rw [hv]; rfl))
theorem q4a (rr : List (List Cell)) (k : Int) (hw : WR 9000000000000000000 zb rr) : PC Tryz.prog 162 [.one (.l rr), .one (i64 k)] (rI (ng (hdR (hd zb) rr k))) := by
 refine PC.begin Tryz.func162 rfl (by kernel_rfl) ?_
 have hlen := hw.1
 refine qc rfl (ι := Nat × Int) (fun x => x.1 ≤ rr.length ∧ hdR (hd zb) (rr.take x.1) k = some x.2) (fun x => ⟨[(5, sV (.int .i64 x.1)), (1, sV (.int .i64 x.2)), (0, .one (.b (.l rr)))], []⟩) (fun x => rr.length - x.1) (0, k) ⟨Nat.zero_le _, rfl⟩ ?_ ?_
 · exact ⟨⟨rfl, rfl, rfl, trivial⟩, trivial, rfl⟩
 · intro ⟨i, v⟩ ⟨hi, hv⟩ J hJ
   dsimp only at hi hv ⊢
   refine xb rfl ?_ ?_ <;> intro h
   · have h : i < rr.length := by simpa using h
     obtain ⟨row, hg⟩ : ∃ row, rr[i]? = some row := ⟨_, List.getElem?_eq_getElem h⟩
     obtain ⟨x0, x1, x2, x3, x4, x5, rfl, h1, h2, h3, h4, h5⟩ := z0p (hw.2 row (List.mem_of_getElem? hg))
     have hst := y05 hg hv
     refine xs rfl (nn_ _) (y9 rfl _ hg (xs rfl rfl ?_))
     refine xb rfl ?_ ?_ <;> intro hb
     · have hb : ¬ x0 = mkv .i64 (v) := by simpa [mkv, nx] using hb
       exact xv rfl rfl rfl (congrArg (Value.int .i64) (yg (qf (i := i + 1) (hst.trans (by simp only [hd, if_neg hb])))).symm)
     have hb0 : x0 = mkv .i64 (v) := by simpa [mkv, nx] using hb
     clear hb
     refine xs rfl (nn_ _) (y9 rfl _ hg (xs rfl rfl ?_))
     refine z7 rfl (q35 x1 (nx (v)) h1) rfl tv3 ?_
     generalize hk1 : ng (hdR (hd ze) x1 (nx (v))) = k1
     refine xb rfl ?_ ?_ <;> intro hb
     · have hb : k1 < 0 := by simpa using hb
       exact xv rfl rfl rfl (congrArg (Value.int .i64) (yg (qf (i := i + 1) (hst.trans (by simp only [hd, if_pos hb0, hk1, z1h hb]; rfl)))).symm)
     have hb1 : ¬ k1 < 0 := by simpa using hb
     clear hb
     refine xs rfl (nn_ _) (y9 rfl _ hg (xs rfl rfl ?_))
     refine z7 rfl (y2l x2 (k1) h2) rfl tv3 ?_
     generalize hk2 : ng (hdR (hd zh) x2 (k1)) = k2
     refine xb rfl ?_ ?_ <;> intro hb
     · have hb : k2 < 0 := by simpa using hb
       exact xv rfl rfl rfl (congrArg (Value.int .i64) (yg (qf (i := i + 1) (hst.trans (by simp only [hd, if_pos hb0, hk1, qz hb1, Option.bind_some, hk2, z1h hb]; rfl)))).symm)
     have hb2 : ¬ k2 < 0 := by simpa using hb
     clear hb
     refine xs rfl (nn_ _) (y9 rfl _ hg (xs rfl rfl ?_))
     refine z7 rfl (q17 x3 (k2) h3) rfl tv3 ?_
     generalize hk3 : ng (hdR (hd q7) x3 (k2)) = k3
     refine xb rfl ?_ ?_ <;> intro hb
     · have hb : k3 < 0 := by simpa using hb
       exact xv rfl rfl rfl (congrArg (Value.int .i64) (yg (qf (i := i + 1) (hst.trans (by simp only [hd, if_pos hb0, hk1, qz hb1, Option.bind_some, hk2, qz hb2, Option.bind_some, hk3, z1h hb]; rfl)))).symm)
     have hb3 : ¬ k3 < 0 := by simpa using hb
     clear hb
     refine xs rfl (nn_ _) (y9 rfl _ hg (xs rfl rfl ?_))
     refine z7 rfl (y2l x4 (k3) h4) rfl tv3 ?_
     generalize hk4 : ng (hdR (hd zh) x4 (k3)) = k4
     refine xb rfl ?_ ?_ <;> intro hb
     · have hb : k4 < 0 := by simpa using hb
       exact xv rfl rfl rfl (congrArg (Value.int .i64) (yg (qf (i := i + 1) (hst.trans (by simp only [hd, if_pos hb0, hk1, qz hb1, Option.bind_some, hk2, qz hb2, Option.bind_some, hk3, qz hb3, Option.bind_some, hk4, z1h hb]; rfl)))).symm)
     have hb4 : ¬ k4 < 0 := by simpa using hb
     clear hb
     refine xs rfl (nn_ _) (y9 rfl _ hg (xs rfl rfl ?_))
     refine z7 rfl (q22 x5 (k4) h5) rfl tv3 ?_
     generalize hk5 : ng (hdR (hd (.i .i64 .nil)) x5 (k4)) = k5
     refine xb rfl ?_ ?_ <;> intro hb
     · have hb : k5 < 0 := by simpa using hb
       exact xv rfl rfl rfl (congrArg (Value.int .i64) (yg (qf (i := i + 1) (hst.trans (by simp only [hd, if_pos hb0, hk1, qz hb1, Option.bind_some, hk2, qz hb2, Option.bind_some, hk3, qz hb3, Option.bind_some, hk4, qz hb4, Option.bind_some, hk5, z1h hb]; rfl)))).symm)
     have hb5 : ¬ k5 < 0 := by simpa using hb
     clear hb
     refine q9 rfl (hJ _ (i + 1, k5) ⟨by dsimp only; omega, hst.trans (by simp only [hd, if_pos hb0, hk1, qz hb1, Option.bind_some, hk2, qz hb2, Option.bind_some, hk3, qz hb3, Option.bind_some, hk4, qz hb4, Option.bind_some, hk5, qz hb5, Option.bind_some])⟩ (by dsimp only; omega) ?_)
     exact ⟨⟨cwi (by omega) (by omega) (by omega), rfl, rfl, trivial⟩, trivial, rfl⟩
   · have h : ¬ i < rr.length := by simpa using h
     have : i = rr.length := by omega
     subst this
     rw [List.take_length] at hv
     exact xv rfl rfl rfl (congrArg (Value.int .i64) (by rw [hv]; rfl))
theorem q2l (rr : List (List Cell)) (k : Int) (hw : WR 9000000000000000000 yk rr) : PC Tryz.prog 329 [.one (.l rr), .one (i64 k)] (rI (ng (hdR (hd yk) rr k))) := by
 refine PC.begin Tryz.func329 rfl (by kernel_rfl) ?_
 have hlen := hw.1
 refine qc rfl (ι := Nat × Int) (fun x => x.1 ≤ rr.length ∧ hdR (hd yk) (rr.take x.1) k = some x.2) (fun x => ⟨[(5, sV (.int .i64 x.1)), (1, sV (.int .i64 x.2)), (0, .one (.b (.l rr)))], []⟩) (fun x => rr.length - x.1) (0, k) ⟨Nat.zero_le _, rfl⟩ ?_ ?_
 · exact ⟨⟨rfl, rfl, rfl, trivial⟩, trivial, rfl⟩
 · intro ⟨i, v⟩ ⟨hi, hv⟩ J hJ
   dsimp only at hi hv ⊢
   refine xb rfl ?_ ?_ <;> intro h
   · have h : i < rr.length := by simpa using h
     obtain ⟨row, hg⟩ : ∃ row, rr[i]? = some row := ⟨_, List.getElem?_eq_getElem h⟩
     obtain ⟨x0, x1, rfl⟩ := z16 (hw.2 row (List.mem_of_getElem? hg))
     have hst := y05 hg hv
     refine xs rfl (nn_ _) (y9 rfl _ hg (xs rfl rfl ?_))
     refine xb rfl ?_ ?_ <;> intro hb
     · have hb : ¬ x0 = mkv .i64 (v) := by simpa [mkv, nx] using hb
       exact xv rfl rfl rfl (congrArg (Value.int .i64) (yg (qf (i := i + 1) (hst.trans (by simp only [hd, if_neg hb])))).symm)
     have hb0 : x0 = mkv .i64 (v) := by simpa [mkv, nx] using hb
     clear hb
     refine xs rfl (nn_ _) (y9 rfl _ hg (xs rfl rfl ?_))
     refine xb rfl ?_ ?_ <;> intro hb
     · have hb : ¬ x1 = mkv .i64 (nx (v)) := by simpa [mkv, nx] using hb
       exact xv rfl rfl rfl (congrArg (Value.int .i64) (yg (qf (i := i + 1) (hst.trans (by simp only [hd, if_neg hb, if_pos hb0])))).symm)
     have hb1 : x1 = mkv .i64 (nx (v)) := by simpa [mkv, nx] using hb
     clear hb
     refine q9 rfl (hJ _ (i + 1, nx (nx (v))) ⟨by dsimp only; omega, hst.trans (by simp only [hd, if_pos hb0, if_pos hb1])⟩ (by dsimp only; omega) ?_)
     exact ⟨⟨cwi (by omega) (by omega) (by omega), rfl, rfl, trivial⟩, trivial, rfl⟩
   · have h : ¬ i < rr.length := by simpa using h
     have : i = rr.length := by omega
     subst this
     rw [List.take_length] at hv
     exact xv rfl rfl rfl (congrArg (Value.int .i64) (by rw [hv]; rfl))
theorem y4y (rr : List (List Cell)) (k : Int) (hw : WR 9000000000000000000 qj rr) : PC Tryz.prog 244 [.one (.l rr), .one (i64 k)] (rI (ng (hdR (hd qj) rr k))) := by
 refine PC.begin Tryz.func244 rfl (by kernel_rfl) ?_
 have hlen := hw.1
 refine qc rfl (ι := Nat × Int) (fun x => x.1 ≤ rr.length ∧ hdR (hd qj) (rr.take x.1) k = some x.2) (fun x => ⟨[(5, sV (.int .i64 x.1)), (1, sV (.int .i64 x.2)), (0, .one (.b (.l rr)))], []⟩) (fun x => rr.length - x.1) (0, k) ⟨Nat.zero_le _, rfl⟩ ?_ ?_
 · exact ⟨⟨rfl, rfl, rfl, trivial⟩, trivial, rfl⟩
 · intro ⟨i, v⟩ ⟨hi, hv⟩ J hJ
   dsimp only at hi hv ⊢
   refine xb rfl ?_ ?_ <;> intro h
   · have h : i < rr.length := by simpa using h
     obtain ⟨row, hg⟩ : ∃ row, rr[i]? = some row := ⟨_, List.getElem?_eq_getElem h⟩
     obtain ⟨x0, x1, x2, x3, x4, x5, rfl, h5⟩ := q15 (hw.2 row (List.mem_of_getElem? hg))
     have hst := y05 hg hv
     refine xs rfl (nn_ _) (y9 rfl _ hg (xs rfl rfl ?_))
     refine xb rfl ?_ ?_ <;> intro hb
     · have hb : ¬ x0 = mkv .i64 (v) := by simpa [mkv, nx] using hb
       exact xv rfl rfl rfl (congrArg (Value.int .i64) (yg (qf (i := i + 1) (hst.trans (by simp only [hd, if_neg hb])))).symm)
     have hb0 : x0 = mkv .i64 (v) := by simpa [mkv, nx] using hb
     clear hb
     refine xs rfl (nn_ _) (y9 rfl _ hg (xs rfl rfl ?_))
     refine xb rfl ?_ ?_ <;> intro hb
     · have hb : ¬ x1 = mkv .i64 (nx (v)) := by simpa [mkv, nx] using hb
       exact xv rfl rfl rfl (congrArg (Value.int .i64) (yg (qf (i := i + 1) (hst.trans (by simp only [hd, if_neg hb, if_pos hb0])))).symm)
     have hb1 : x1 = mkv .i64 (nx (v)) := by simpa [mkv, nx] using hb
     clear hb
     refine xs rfl (nn_ _) (y9 rfl _ hg (xs rfl rfl ?_))
     refine xb rfl ?_ ?_ <;> intro hb
     · have hb : ¬ x2 = mkv .i64 (nx (nx (v))) := by simpa [mkv, nx] using hb
       exact xv rfl rfl rfl (congrArg (Value.int .i64) (yg (qf (i := i + 1) (hst.trans (by simp only [hd, if_neg hb, if_pos hb0, if_pos hb1])))).symm)
     have hb2 : x2 = mkv .i64 (nx (nx (v))) := by simpa [mkv, nx] using hb
     clear hb
     refine xs rfl (nn_ _) (y9 rfl _ hg (xs rfl rfl ?_))
     refine xb rfl ?_ ?_ <;> intro hb
     · have hb : ¬ x3 = mkv .i64 (nx (nx (nx (v)))) := by simpa [mkv, nx] using hb
       exact xv rfl rfl rfl (congrArg (Value.int .i64) (yg (qf (i := i + 1) (hst.trans (by simp only [hd, if_neg hb, if_pos hb0, if_pos hb1, if_pos hb2])))).symm)
     have hb3 : x3 = mkv .i64 (nx (nx (nx (v)))) := by simpa [mkv, nx] using hb
     clear hb
     refine xs rfl (nn_ _) (y9 rfl _ hg (xs rfl rfl ?_))
     refine xb rfl ?_ ?_ <;> intro hb
     · have hb : ¬ x4 = mkv .i64 (nx (nx (nx (nx (v))))) := by simpa [mkv, nx] using hb
       exact xv rfl rfl rfl (congrArg (Value.int .i64) (yg (qf (i := i + 1) (hst.trans (by simp only [hd, if_neg hb, if_pos hb0, if_pos hb1, if_pos hb2, if_pos hb3])))).symm)
     have hb4 : x4 = mkv .i64 (nx (nx (nx (nx (v))))) := by simpa [mkv, nx] using hb
     clear hb
     refine xs rfl (nn_ _) (y9 rfl _ hg (xs rfl rfl ?_))
     refine z7 rfl (q2l x5 (nx (nx (nx (nx (nx (v)))))) h5) rfl tv3 ?_
     generalize hk5 : ng (hdR (hd yk) x5 (nx (nx (nx (nx (nx (v))))))) = k5
     refine xb rfl ?_ ?_ <;> intro hb
     · have hb : k5 < 0 := by simpa using hb
       exact xv rfl rfl rfl (congrArg (Value.int .i64) (yg (qf (i := i + 1) (hst.trans (by simp only [hd, if_pos hb0, if_pos hb1, if_pos hb2, if_pos hb3, if_pos hb4, hk5, z1h hb]; rfl)))).symm)
     have hb5 : ¬ k5 < 0 := by simpa using hb
     clear hb
     refine q9 rfl (hJ _ (i + 1, k5) ⟨by dsimp only; omega, hst.trans (by simp only [hd, if_pos hb0, if_pos hb1, if_pos hb2, if_pos hb3, if_pos hb4, hk5, qz hb5, Option.bind_some])⟩ (by dsimp only; omega) ?_)
     exact ⟨⟨cwi (by omega) (by omega) (by omega), rfl, rfl, trivial⟩, trivial, rfl⟩
   · have h : ¬ i < rr.length := by simpa using h
     have : i = rr.length := by omega
     subst this
     rw [List.take_length] at hv
     exact xv rfl rfl rfl (congrArg (Value.int .i64) (by rw [hv]; rfl))
theorem y2q (rr : List (List Cell)) (k : Int) (hw : WR 9000000000000000000 z8 rr) : PC Tryz.prog 163 [.one (.l rr), .one (i64 k)] (rI (ng (hdR (hd z8) rr k))) := by
 refine PC.begin Tryz.func163 rfl (by kernel_rfl) ?_
 have hlen := hw.1
 refine qc rfl (ι := Nat × Int) (fun x => x.1 ≤ rr.length ∧ hdR (hd z8) (rr.take x.1) k = some x.2) (fun x => ⟨[(5, sV (.int .i64 x.1)), (1, sV (.int .i64 x.2)), (0, .one (.b (.l rr)))], []⟩) (fun x => rr.length - x.1) (0, k) ⟨Nat.zero_le _, rfl⟩ ?_ ?_
 · exact ⟨⟨rfl, rfl, rfl, trivial⟩, trivial, rfl⟩
 · intro ⟨i, v⟩ ⟨hi, hv⟩ J hJ
   dsimp only at hi hv ⊢
   refine xb rfl ?_ ?_ <;> intro h
   · have h : i < rr.length := by simpa using h
     obtain ⟨row, hg⟩ : ∃ row, rr[i]? = some row := ⟨_, List.getElem?_eq_getElem h⟩
     obtain ⟨x0, rfl, h0⟩ := q03 (hw.2 row (List.mem_of_getElem? hg))
     have hst := y05 hg hv
     refine xs rfl (nn_ _) (y9 rfl _ hg (xs rfl rfl ?_))
     refine z7 rfl (y4y x0 (v) h0) rfl tv3 ?_
     generalize hk0 : ng (hdR (hd qj) x0 (v)) = k0
     refine xb rfl ?_ ?_ <;> intro hb
     · have hb : k0 < 0 := by simpa using hb
       exact xv rfl rfl rfl (congrArg (Value.int .i64) (yg (qf (i := i + 1) (hst.trans (by simp only [hd, hk0, z1h hb]; rfl)))).symm)
     have hb0 : ¬ k0 < 0 := by simpa using hb
     clear hb
     refine q9 rfl (hJ _ (i + 1, k0) ⟨by dsimp only; omega, hst.trans (by simp only [hd, hk0, qz hb0, Option.bind_some])⟩ (by dsimp only; omega) ?_)
     exact ⟨⟨cwi (by omega) (by omega) (by omega), rfl, rfl, trivial⟩, trivial, rfl⟩
   · have h : ¬ i < rr.length := by simpa using h
     have : i = rr.length := by omega
     subst this
     rw [List.take_length] at hv
     exact xv rfl rfl rfl (congrArg (Value.int .i64) (by rw [hv]; rfl))
theorem z5n (rr : List (List Cell)) (k : Int) (hw : WR 9000000000000000000 zp rr) : PC Tryz.prog 245 [.one (.l rr), .one (i64 k)] (rI (ng (hdR (hd zp) rr k))) := by
 refine PC.begin Tryz.func245 rfl (by kernel_rfl) ?_
 have hlen := hw.1
 refine qc rfl (ι := Nat × Int) (fun x => x.1 ≤ rr.length ∧ hdR (hd zp) (rr.take x.1) k = some x.2) (fun x => ⟨[(5, sV (.int .i64 x.1)), (1, sV (.int .i64 x.2)), (0, .one (.b (.l rr)))], []⟩) (fun x => rr.length - x.1) (0, k) ⟨Nat.zero_le _, rfl⟩ ?_ ?_
 · exact ⟨⟨rfl, rfl, rfl, trivial⟩, trivial, rfl⟩
 · intro ⟨i, v⟩ ⟨hi, hv⟩ J hJ
   dsimp only at hi hv ⊢
   refine xb rfl ?_ ?_ <;> intro h
   · have h : i < rr.length := by simpa using h
     obtain ⟨row, hg⟩ : ∃ row, rr[i]? = some row := ⟨_, List.getElem?_eq_getElem h⟩
     obtain ⟨x0, x1, x2, x3, x4, x5, rfl, h4, h5⟩ := z1w (hw.2 row (List.mem_of_getElem? hg))
     have hst := y05 hg hv
     refine xs rfl (nn_ _) (y9 rfl _ hg (xs rfl rfl ?_))
     refine xb rfl ?_ ?_ <;> intro hb
     · have hb : ¬ x0 = mkv .i64 (v) := by simpa [mkv, nx] using hb
       exact xv rfl rfl rfl (congrArg (Value.int .i64) (yg (qf (i := i + 1) (hst.trans (by simp only [hd, if_neg hb])))).symm)
     have hb0 : x0 = mkv .i64 (v) := by simpa [mkv, nx] using hb
     clear hb
     refine xs rfl (nn_ _) (y9 rfl _ hg (xs rfl rfl ?_))
     refine xb rfl ?_ ?_ <;> intro hb
     · have hb : ¬ x1 = mkv .i64 (nx (v)) := by simpa [mkv, nx] using hb
       exact xv rfl rfl rfl (congrArg (Value.int .i64) (yg (qf (i := i + 1) (hst.trans (by simp only [hd, if_neg hb, if_pos hb0])))).symm)
     have hb1 : x1 = mkv .i64 (nx (v)) := by simpa [mkv, nx] using hb
     clear hb
     refine xs rfl (nn_ _) (y9 rfl _ hg (xs rfl rfl ?_))
     refine xb rfl ?_ ?_ <;> intro hb
     · have hb : ¬ x2 = mkv .i64 (nx (nx (v))) := by simpa [mkv, nx] using hb
       exact xv rfl rfl rfl (congrArg (Value.int .i64) (yg (qf (i := i + 1) (hst.trans (by simp only [hd, if_neg hb, if_pos hb0, if_pos hb1])))).symm)
     have hb2 : x2 = mkv .i64 (nx (nx (v))) := by simpa [mkv, nx] using hb
     clear hb
     refine xs rfl (nn_ _) (y9 rfl _ hg (xs rfl rfl ?_))
     refine xb rfl ?_ ?_ <;> intro hb
     · have hb : ¬ x3 = mkv .i64 (nx (nx (nx (v)))) := by simpa [mkv, nx] using hb
       exact xv rfl rfl rfl (congrArg (Value.int .i64) (yg (qf (i := i + 1) (hst.trans (by simp only [hd, if_neg hb, if_pos hb0, if_pos hb1, if_pos hb2])))).symm)
     have hb3 : x3 = mkv .i64 (nx (nx (nx (v)))) := by simpa [mkv, nx] using hb
     clear hb
     refine xs rfl (nn_ _) (y9 rfl _ hg (xs rfl rfl ?_))
     refine z7 rfl (q22 x4 (nx (nx (nx (nx (v))))) h4) rfl tv3 ?_
     generalize hk4 : ng (hdR (hd (.i .i64 .nil)) x4 (nx (nx (nx (nx (v)))))) = k4
     refine xb rfl ?_ ?_ <;> intro hb
     · have hb : k4 < 0 := by simpa using hb
       exact xv rfl rfl rfl (congrArg (Value.int .i64) (yg (qf (i := i + 1) (hst.trans (by simp only [hd, if_pos hb0, if_pos hb1, if_pos hb2, if_pos hb3, hk4, z1h hb]; rfl)))).symm)
     have hb4 : ¬ k4 < 0 := by simpa using hb
     clear hb
     refine xs rfl (nn_ _) (y9 rfl _ hg (xs rfl rfl ?_))
     refine z7 rfl (q2l x5 (k4) h5) rfl tv3 ?_
     generalize hk5 : ng (hdR (hd yk) x5 (k4)) = k5
     refine xb rfl ?_ ?_ <;> intro hb
     · have hb : k5 < 0 := by simpa using hb
       exact xv rfl rfl rfl (congrArg (Value.int .i64) (yg (qf (i := i + 1) (hst.trans (by simp only [hd, if_pos hb0, if_pos hb1, if_pos hb2, if_pos hb3, hk4, qz hb4, Option.bind_some, hk5, z1h hb]; rfl)))).symm)
     have hb5 : ¬ k5 < 0 := by simpa using hb
     clear hb
     refine q9 rfl (hJ _ (i + 1, k5) ⟨by dsimp only; omega, hst.trans (by simp only [hd, if_pos hb0, if_pos hb1, if_pos hb2, if_pos hb3, hk4, qz hb4, Option.bind_some, hk5, qz hb5, Option.bind_some])⟩ (by dsimp only; omega) ?_)
     exact ⟨⟨cwi (by omega) (by omega) (by omega), rfl, rfl, trivial⟩, trivial, rfl⟩
   · have h : ¬ i < rr.length := by simpa using h
     have : i = rr.length := by omega
     subst this
     rw [List.take_length] at hv
     exact xv rfl rfl rfl (congrArg (Value.int .i64) (by rw [hv]; rfl))
theorem y4a (rr : List (List Cell)) (k : Int) (hw : WR 9000000000000000000 zm rr) : PC Tryz.prog 246 [.one (.l rr), .one (i64 k)] (rI (ng (hdR (hd zm) rr k))) := by
 refine PC.begin Tryz.func246 rfl (by kernel_rfl) ?_
 have hlen := hw.1
 refine qc rfl (ι := Nat × Int) (fun x => x.1 ≤ rr.length ∧ hdR (hd zm) (rr.take x.1) k = some x.2) (fun x => ⟨[(5, sV (.int .i64 x.1)), (1, sV (.int .i64 x.2)), (0, .one (.b (.l rr)))], []⟩) (fun x => rr.length - x.1) (0, k) ⟨Nat.zero_le _, rfl⟩ ?_ ?_
 · exact ⟨⟨rfl, rfl, rfl, trivial⟩, trivial, rfl⟩
 · intro ⟨i, v⟩ ⟨hi, hv⟩ J hJ
   dsimp only at hi hv ⊢
   refine xb rfl ?_ ?_ <;> intro h
   · have h : i < rr.length := by simpa using h
     obtain ⟨row, hg⟩ : ∃ row, rr[i]? = some row := ⟨_, List.getElem?_eq_getElem h⟩
     obtain ⟨x0, x1, x2, x3, x4, rfl⟩ := q0o (hw.2 row (List.mem_of_getElem? hg))
     have hst := y05 hg hv
     refine xs rfl (nn_ _) (y9 rfl _ hg (xs rfl rfl ?_))
     refine xb rfl ?_ ?_ <;> intro hb
     · have hb : ¬ x0 = mkv .i64 (v) := by simpa [mkv, nx] using hb
       exact xv rfl rfl rfl (congrArg (Value.int .i64) (yg (qf (i := i + 1) (hst.trans (by simp only [hd, if_neg hb])))).symm)
     have hb0 : x0 = mkv .i64 (v) := by simpa [mkv, nx] using hb
     clear hb
     refine xs rfl (nn_ _) (y9 rfl _ hg (xs rfl rfl ?_))
     refine xb rfl ?_ ?_ <;> intro hb
     · have hb : ¬ x1 = mkv .i64 (nx (v)) := by simpa [mkv, nx] using hb
       exact xv rfl rfl rfl (congrArg (Value.int .i64) (yg (qf (i := i + 1) (hst.trans (by simp only [hd, if_neg hb, if_pos hb0])))).symm)
     have hb1 : x1 = mkv .i64 (nx (v)) := by simpa [mkv, nx] using hb
     clear hb
     refine xs rfl (nn_ _) (y9 rfl _ hg (xs rfl rfl ?_))
     refine xb rfl ?_ ?_ <;> intro hb
     · have hb : ¬ x2 = mkv .i64 (nx (nx (v))) := by simpa [mkv, nx] using hb
       exact xv rfl rfl rfl (congrArg (Value.int .i64) (yg (qf (i := i + 1) (hst.trans (by simp only [hd, if_neg hb, if_pos hb0, if_pos hb1])))).symm)
     have hb2 : x2 = mkv .i64 (nx (nx (v))) := by simpa [mkv, nx] using hb
     clear hb
     refine xs rfl (nn_ _) (y9 rfl _ hg (xs rfl rfl ?_))
     refine xb rfl ?_ ?_ <;> intro hb
     · have hb : ¬ x3 = mkv .i64 (nx (nx (nx (v)))) := by simpa [mkv, nx] using hb
       exact xv rfl rfl rfl (congrArg (Value.int .i64) (yg (qf (i := i + 1) (hst.trans (by simp only [hd, if_neg hb, if_pos hb0, if_pos hb1, if_pos hb2])))).symm)
     have hb3 : x3 = mkv .i64 (nx (nx (nx (v)))) := by simpa [mkv, nx] using hb
     clear hb
     refine xs rfl (nn_ _) (y9 rfl _ hg (xs rfl rfl ?_))
     refine xb rfl ?_ ?_ <;> intro hb
     · have hb : ¬ x4 = mkv .i64 (nx (nx (nx (nx (v))))) := by simpa [mkv, nx] using hb
       exact xv rfl rfl rfl (congrArg (Value.int .i64) (yg (qf (i := i + 1) (hst.trans (by simp only [hd, if_neg hb, if_pos hb0, if_pos hb1, if_pos hb2, if_pos hb3])))).symm)
     have hb4 : x4 = mkv .i64 (nx (nx (nx (nx (v))))) := by simpa [mkv, nx] using hb
     clear hb
     refine q9 rfl (hJ _ (i + 1, nx (nx (nx (nx (nx (v)))))) ⟨by dsimp only; omega, hst.trans (by simp only [hd, if_pos hb0, if_pos hb1, if_pos hb2, if_pos hb3, if_pos hb4])⟩ (by dsimp only; omega) ?_)
     exact ⟨⟨cwi (by omega) (by omega) (by omega), rfl, rfl, trivial⟩, trivial, rfl⟩
   · have h : ¬ i < rr.length := by simpa using h
     have : i = rr.length := by omega
     subst this
     rw [List.take_length] at hv
     exact xv rfl rfl rfl (congrArg (Value.int .i64) (by rw [hv]; rfl))
theorem q3m (rr : List (List Cell)) (k : Int) (hw : WR 9000000000000000000 qa rr) : PC Tryz.prog 164 [.one (.l rr), .one (i64 k)] (rI (ng (hdR (hd qa) rr k))) := by
 refine PC.begin Tryz.func164 rfl (by kernel_rfl) ?_
 have hlen := hw.1
 refine qc rfl (ι := Nat × Int) (fun x => x.1 ≤ rr.length ∧ hdR (hd qa) (rr.take x.1) k = some x.2) (fun x => ⟨[(5, sV (.int .i64 x.1)), (1, sV (.int .i64 x.2)), (0, .one (.b (.l rr)))], []⟩) (fun x => rr.length - x.1) (0, k) ⟨Nat.zero_le _, rfl⟩ ?_ ?_
 · exact ⟨⟨rfl, rfl, rfl, trivial⟩, trivial, rfl⟩
 · intro ⟨i, v⟩ ⟨hi, hv⟩ J hJ
   dsimp only at hi hv ⊢
   refine xb rfl ?_ ?_ <;> intro h
   · have h : i < rr.length := by simpa using h
     obtain ⟨row, hg⟩ : ∃ row, rr[i]? = some row := ⟨_, List.getElem?_eq_getElem h⟩
     obtain ⟨x0, x1, x2, rfl, h1, h2⟩ := q0d (hw.2 row (List.mem_of_getElem? hg))
     have hst := y05 hg hv
     refine xs rfl (nn_ _) (y9 rfl _ hg (xs rfl rfl ?_))
     refine xb rfl ?_ ?_ <;> intro hb
     · have hb : ¬ x0 = mkv .i64 (v) := by simpa [mkv, nx] using hb
       exact xv rfl rfl rfl (congrArg (Value.int .i64) (yg (qf (i := i + 1) (hst.trans (by simp only [hd, if_neg hb])))).symm)
     have hb0 : x0 = mkv .i64 (v) := by simpa [mkv, nx] using hb
     clear hb
     refine xs rfl (nn_ _) (y9 rfl _ hg (xs rfl rfl ?_))
     refine z7 rfl (z5n x1 (nx (v)) h1) rfl tv3 ?_
     generalize hk1 : ng (hdR (hd zp) x1 (nx (v))) = k1
     refine xb rfl ?_ ?_ <;> intro hb
     · have hb : k1 < 0 := by simpa using hb
       exact xv rfl rfl rfl (congrArg (Value.int .i64) (yg (qf (i := i + 1) (hst.trans (by simp only [hd, if_pos hb0, hk1, z1h hb]; rfl)))).symm)
     have hb1 : ¬ k1 < 0 := by simpa using hb
     clear hb
     refine xs rfl (nn_ _) (y9 rfl _ hg (xs rfl rfl ?_))
     refine z7 rfl (y4a x2 (k1) h2) rfl tv3 ?_
     generalize hk2 : ng (hdR (hd zm) x2 (k1)) = k2
     refine xb rfl ?_ ?_ <;> intro hb
     · have hb : k2 < 0 := by simpa using hb
       exact xv rfl rfl rfl (congrArg (Value.int .i64) (yg (qf (i := i + 1) (hst.trans (by simp only [hd, if_pos hb0, hk1, qz hb1, Option.bind_some, hk2, z1h hb]; rfl)))).symm)
     have hb2 : ¬ k2 < 0 := by simpa using hb
     clear hb
     refine q9 rfl (hJ _ (i + 1, k2) ⟨by dsimp only; omega, hst.trans (by simp only [hd, if_pos hb0, hk1, qz hb1, Option.bind_some, hk2, qz hb2, Option.bind_some])⟩ (by dsimp only; omega) ?_)
     exact ⟨⟨cwi (by omega) (by omega) (by omega), rfl, rfl, trivial⟩, trivial, rfl⟩
   · have h : ¬ i < rr.length := by simpa using h
     have : i = rr.length := by omega
     subst this
     rw [List.take_length] at hv
     exact xv rfl rfl rfl (congrArg (Value.int .i64) (by rw [hv]; rfl))
theorem z36 (rr : List (List Cell)) (k : Int) (hw : WR 9000000000000000000 yb rr) : PC Tryz.prog 165 [.one (.l rr), .one (i64 k)] (rI (ng (hdR (hd yb) rr k))) := by
 refine PC.begin Tryz.func165 rfl (by kernel_rfl) ?_
 have hlen := hw.1
 refine qc rfl (ι := Nat × Int) (fun x => x.1 ≤ rr.length ∧ hdR (hd yb) (rr.take x.1) k = some x.2) (fun x => ⟨[(5, sV (.int .i64 x.1)), (1, sV (.int .i64 x.2)), (0, .one (.b (.l rr)))], []⟩) (fun x => rr.length - x.1) (0, k) ⟨Nat.zero_le _, rfl⟩ ?_ ?_
 · exact ⟨⟨rfl, rfl, rfl, trivial⟩, trivial, rfl⟩
 · intro ⟨i, v⟩ ⟨hi, hv⟩ J hJ
   dsimp only at hi hv ⊢
   refine xb rfl ?_ ?_ <;> intro h
   · have h : i < rr.length := by simpa using h
     obtain ⟨row, hg⟩ : ∃ row, rr[i]? = some row := ⟨_, List.getElem?_eq_getElem h⟩
     obtain ⟨x0, x1, x2, x3, x4, x5, x6, x7, x8, rfl⟩ := z09 (hw.2 row (List.mem_of_getElem? hg))
     have hst := y05 hg hv
     refine xs rfl (nn_ _) (y9 rfl _ hg (xs rfl rfl ?_))
     refine xb rfl ?_ ?_ <;> intro hb
     · have hb : ¬ x0 = mkv .i64 (v) := by simpa [mkv, nx] using hb
       exact xv rfl rfl rfl (congrArg (Value.int .i64) (yg (qf (i := i + 1) (hst.trans (by simp only [hd, if_neg hb])))).symm)
     have hb0 : x0 = mkv .i64 (v) := by simpa [mkv, nx] using hb
     clear hb
     refine xs rfl (nn_ _) (y9 rfl _ hg (xs rfl rfl ?_))
     refine xb rfl ?_ ?_ <;> intro hb
     · have hb : ¬ x1 = mkv .i64 (nx (v)) := by simpa [mkv, nx] using hb
       exact xv rfl rfl rfl (congrArg (Value.int .i64) (yg (qf (i := i + 1) (hst.trans (by simp only [hd, if_neg hb, if_pos hb0])))).symm)
     have hb1 : x1 = mkv .i64 (nx (v)) := by simpa [mkv, nx] using hb
     clear hb
     refine xs rfl (nn_ _) (y9 rfl _ hg (xs rfl rfl ?_))
     refine xb rfl ?_ ?_ <;> intro hb
     · have hb : ¬ x2 = mkv .i64 (nx (nx (v))) := by simpa [mkv, nx] using hb
       exact xv rfl rfl rfl (congrArg (Value.int .i64) (yg (qf (i := i + 1) (hst.trans (by simp only [hd, if_neg hb, if_pos hb0, if_pos hb1])))).symm)
     have hb2 : x2 = mkv .i64 (nx (nx (v))) := by simpa [mkv, nx] using hb
     clear hb
     refine xs rfl (nn_ _) (y9 rfl _ hg (xs rfl rfl ?_))
     refine xb rfl ?_ ?_ <;> intro hb
     · have hb : ¬ x3 = mkv .i64 (nx (nx (nx (v)))) := by simpa [mkv, nx] using hb
       exact xv rfl rfl rfl (congrArg (Value.int .i64) (yg (qf (i := i + 1) (hst.trans (by simp only [hd, if_neg hb, if_pos hb0, if_pos hb1, if_pos hb2])))).symm)
     have hb3 : x3 = mkv .i64 (nx (nx (nx (v)))) := by simpa [mkv, nx] using hb
     clear hb
     refine xs rfl (nn_ _) (y9 rfl _ hg (xs rfl rfl ?_))
     refine xb rfl ?_ ?_ <;> intro hb
     · have hb : ¬ x4 = mkv .i64 (nx (nx (nx (nx (v))))) := by simpa [mkv, nx] using hb
       exact xv rfl rfl rfl (congrArg (Value.int .i64) (yg (qf (i := i + 1) (hst.trans (by simp only [hd, if_neg hb, if_pos hb0, if_pos hb1, if_pos hb2, if_pos hb3])))).symm)
     have hb4 : x4 = mkv .i64 (nx (nx (nx (nx (v))))) := by simpa [mkv, nx] using hb
     clear hb
     refine xs rfl (nn_ _) (y9 rfl _ hg (xs rfl rfl ?_))
     refine xb rfl ?_ ?_ <;> intro hb
     · have hb : ¬ x5 = mkv .i64 (nx (nx (nx (nx (nx (v)))))) := by simpa [mkv, nx] using hb
       exact xv rfl rfl rfl (congrArg (Value.int .i64) (yg (qf (i := i + 1) (hst.trans (by simp only [hd, if_neg hb, if_pos hb0, if_pos hb1, if_pos hb2, if_pos hb3, if_pos hb4])))).symm)
     have hb5 : x5 = mkv .i64 (nx (nx (nx (nx (nx (v)))))) := by simpa [mkv, nx] using hb
     clear hb
     refine xs rfl (nn_ _) (y9 rfl _ hg (xs rfl rfl ?_))
     refine xb rfl ?_ ?_ <;> intro hb
     · have hb : ¬ x6 = mkv .i64 (nx (nx (nx (nx (nx (nx (v))))))) := by simpa [mkv, nx] using hb
       exact xv rfl rfl rfl (congrArg (Value.int .i64) (yg (qf (i := i + 1) (hst.trans (by simp only [hd, if_neg hb, if_pos hb0, if_pos hb1, if_pos hb2, if_pos hb3, if_pos hb4, if_pos hb5])))).symm)
     have hb6 : x6 = mkv .i64 (nx (nx (nx (nx (nx (nx (v))))))) := by simpa [mkv, nx] using hb
     clear hb
     refine xs rfl (nn_ _) (y9 rfl _ hg (xs rfl rfl ?_))
     refine xb rfl ?_ ?_ <;> intro hb
     · have hb : ¬ x7 = mkv .i64 (nx (nx (nx (nx (nx (nx (nx (v)))))))) := by simpa [mkv, nx] using hb
       exact xv rfl rfl rfl (congrArg (Value.int .i64) (yg (qf (i := i + 1) (hst.trans (by simp only [hd, if_neg hb, if_pos hb0, if_pos hb1, if_pos hb2, if_pos hb3, if_pos hb4, if_pos hb5, if_pos hb6])))).symm)
     have hb7 : x7 = mkv .i64 (nx (nx (nx (nx (nx (nx (nx (v)))))))) := by simpa [mkv, nx] using hb
     clear hb
     refine xs rfl (nn_ _) (y9 rfl _ hg (xs rfl rfl ?_))
     refine xb rfl ?_ ?_ <;> intro hb
     · have hb : ¬ x8 = mkv .i64 (nx (nx (nx (nx (nx (nx (nx (nx (v))))))))) := by simpa [mkv, nx] using hb
       exact xv rfl rfl rfl (congrArg (Value.int .i64) (yg (qf (i := i + 1) (hst.trans (by simp only [hd, if_neg hb, if_pos hb0, if_pos hb1, if_pos hb2, if_pos hb3, if_pos hb4, if_pos hb5, if_pos hb6, if_pos hb7])))).symm)
     have hb8 : x8 = mkv .i64 (nx (nx (nx (nx (nx (nx (nx (nx (v))))))))) := by simpa [mkv, nx] using hb
     clear hb
     refine q9 rfl (hJ _ (i + 1, nx (nx (nx (nx (nx (nx (nx (nx (nx (v)))))))))) ⟨by dsimp only; omega, hst.trans (by simp only [hd, if_pos hb0, if_pos hb1, if_pos hb2, if_pos hb3, if_pos hb4, if_pos hb5, if_pos hb6, if_pos hb7, if_pos hb8])⟩ (by dsimp only; omega) ?_)
     exact ⟨⟨cwi (by omega) (by omega) (by omega), rfl, rfl, trivial⟩, trivial, rfl⟩
   · have h : ¬ i < rr.length := by simpa using h
     have : i = rr.length := by omega
     subst this
     rw [List.take_length] at hv
     exact xv rfl rfl rfl (congrArg (Value.int .i64) (by rw [hv]; rfl))
theorem y3m (x0 : List (List Cell)) (x1 : List (List Cell)) (x2 : List (List Cell)) (x3 : List (List Cell)) (x4 : List (List Cell)) (k : Int) (h0 : WR 9000000000000000000 q7 x0) (h1 : WR 9000000000000000000 zb x1) (h2 : WR 9000000000000000000 z8 x2) (h3 : WR 9000000000000000000 qa x3) (h4 : WR 9000000000000000000 yb x4) (hk : 0 ≤ k) : PC Tryz.prog 85 [.agg [.l x0, .l x1, .l x2, .l x3, .l x4], .one (i64 k)] (rI (ng (ht yd [.l x0, .l x1, .l x2, .l x3, .l x4] k))) := by
 refine PC.begin Tryz.func85 rfl (by kernel_rfl) ?_
 have e : ht yd [.l x0, .l x1, .l x2, .l x3, .l x4] k = ((ps (ng (hdR (hd q7) x0 k))).bind fun v1 => (ps (ng (hdR (hd zb) x1 v1))).bind fun v2 => (ps (ng (hdR (hd z8) x2 v2))).bind fun v3 => (ps (ng (hdR (hd qa) x3 v3))).bind fun v4 => (ps (ng (hdR (hd yb) x4 v4))).bind fun v5 => some v5) := by simp only [ht, Option.bind_assoc, Option.bind_some]
 rw [e]
 refine z7 rfl (q17 x0 k h0) rfl tv3 ?_
 generalize hk0 : ng (hdR (hd q7) x0 (k)) = k0
 refine xb rfl ?_ ?_ <;> intro hb
 · have hb : k0 < 0 := by simpa using hb
   exact xv rfl rfl rfl (congrArg (Value.int .i64) (yg (by simp only [hk0, z1h hb]; rfl)).symm)
 have hb0 : ¬ k0 < 0 := by simpa using hb
 have hp0 : 0 ≤ k0 := by omega
 clear hb
 refine z7 rfl (q4a x1 k0 h1) rfl tv3 ?_
 generalize hk1 : ng (hdR (hd zb) x1 (k0)) = k1
 refine xb rfl ?_ ?_ <;> intro hb
 · have hb : k1 < 0 := by simpa using hb
   exact xv rfl rfl rfl (congrArg (Value.int .i64) (yg (by simp only [hk0, qz hb0, Option.bind_some, hk1, z1h hb]; rfl)).symm)
 have hb1 : ¬ k1 < 0 := by simpa using hb
 have hp1 : 0 ≤ k1 := by omega
 clear hb
 refine z7 rfl (y2q x2 k1 h2) rfl tv3 ?_
 generalize hk2 : ng (hdR (hd z8) x2 (k1)) = k2
 refine xb rfl ?_ ?_ <;> intro hb
 · have hb : k2 < 0 := by simpa using hb
   exact xv rfl rfl rfl (congrArg (Value.int .i64) (yg (by simp only [hk0, qz hb0, Option.bind_some, hk1, qz hb1, Option.bind_some, hk2, z1h hb]; rfl)).symm)
 have hb2 : ¬ k2 < 0 := by simpa using hb
 have hp2 : 0 ≤ k2 := by omega
 clear hb
 refine z7 rfl (q3m x3 k2 h3) rfl tv3 ?_
 generalize hk3 : ng (hdR (hd qa) x3 (k2)) = k3
 refine xb rfl ?_ ?_ <;> intro hb
 · have hb : k3 < 0 := by simpa using hb
   exact xv rfl rfl rfl (congrArg (Value.int .i64) (yg (by simp only [hk0, qz hb0, Option.bind_some, hk1, qz hb1, Option.bind_some, hk2, qz hb2, Option.bind_some, hk3, z1h hb]; rfl)).symm)
 have hb3 : ¬ k3 < 0 := by simpa using hb
 have hp3 : 0 ≤ k3 := by omega
 clear hb
 refine z7 rfl (z36 x4 k3 h4) rfl tv3 ?_
 generalize hk4 : ng (hdR (hd yb) x4 (k3)) = k4
 refine xb rfl ?_ ?_ <;> intro hb
 · have hb : k4 < 0 := by simpa using hb
   exact xv rfl rfl rfl (congrArg (Value.int .i64) (yg (by simp only [hk0, qz hb0, Option.bind_some, hk1, qz hb1, Option.bind_some, hk2, qz hb2, Option.bind_some, hk3, qz hb3, Option.bind_some, hk4, z1h hb]; rfl)).symm)
 have hb4 : ¬ k4 < 0 := by simpa using hb
 have hp4 : 0 ≤ k4 := by omega
 clear hb
 exact xv rfl rfl rfl (congrArg (Value.int .i64) (by simp only [hk0, qz hb0, Option.bind_some, hk1, qz hb1, Option.bind_some, hk2, qz hb2, Option.bind_some, hk3, qz hb3, Option.bind_some, hk4, qz hb4, Option.bind_some]; rfl))
theorem z1o (x0 : Int) (x1 : List (List Cell)) (x2 : List (List Cell)) (x3 : List (List Cell)) (x4 : List (List Cell)) (x5 : List (List Cell)) (k : Int) (h1 : WR 9000000000000000000 q7 x1) (h2 : WR 9000000000000000000 zb x2) (h3 : WR 9000000000000000000 z8 x3) (h4 : WR 9000000000000000000 qa x4) (h5 : WR 9000000000000000000 yb x5) (hk : 0 ≤ k) : PC Tryz.prog 27 [.agg [.s (.int .i64 x0), .l x1, .l x2, .l x3, .l x4, .l x5], .one (i64 k)] (rI (ng (ht y19 [.s (.int .i64 x0), .l x1, .l x2, .l x3, .l x4, .l x5] k))) := by
 refine PC.begin Tryz.func27 rfl (by kernel_rfl) ?_
 have e : ht y19 [.s (.int .i64 x0), .l x1, .l x2, .l x3, .l x4, .l x5] k = ((ht yd [.l x1, .l x2, .l x3, .l x4, .l x5] k).bind fun v1 => some v1) := by simp only [ht, Option.bind_assoc, Option.bind_some]
 rw [e]
 refine z7 rfl (y3m x1 x2 x3 x4 x5 k h1 h2 h3 h4 h5 hk) rfl ⟨tv6, trivial, trivial⟩ ?_
 generalize hk1 : ng (ht yd [.l x1, .l x2, .l x3, .l x4, .l x5] (k)) = k1
 refine xb rfl ?_ ?_ <;> intro hb
 · have hb : k1 < 0 := by simpa using hb
   exact xv rfl rfl rfl (congrArg (Value.int .i64) (yg (by simp only [ybe hk hk1 hb]; rfl)).symm)
 have hb1 : ¬ k1 < 0 := by simpa using hb
 have hp1 : 0 ≤ k1 := by omega
 clear hb
 exact xv rfl rfl rfl (congrArg (Value.int .i64) (by simp only [ya4 hk1 hb1, Option.bind_some]; rfl))
end Go.Proofs.YtbnbjaedijbnpaaGreat
end
section
namespace Go.Proofs.YtbnbjaedijbnpaaGreat
open Go Go.Sx
set_option maxRecDepth 20000
theorem z02 {α : Type} {f : α → List Cell} {P : α → Prop} {N : Nat} {e : Sh} : ∀ {rr : List (List Cell)}, WR N e rr → (∀ row, WT N e row → ∃ x, row = f x ∧ P x) → ∃ us : List α, rr = us.map f ∧ us.length ≤ N ∧ ∀ x ∈ us, P x
 | [], _, _ => ⟨[], rfl, Nat.zero_le _, fun x hx => by cases hx⟩
 | row :: rr, h, hc => by
   obtain ⟨x, hx, hp⟩ := hc row (h.2 row List.mem_cons_self)
   obtain ⟨us, hu, _, hps⟩ := z02 (rr := rr) ⟨by have := h.1; simp at this; omega, fun r hr => h.2 r (List.mem_cons_of_mem _ hr)⟩ hc
   refine ⟨x :: us, by rw [hx, hu]; rfl, by have := h.1; rw [hu] at this; simpa using this, fun y hy => ?_⟩
   rcases List.mem_cons.1 hy with rfl | hy
   · exact hp
   · exact hps y hy
theorem z8n {N : Nat} (row : List Cell) (h : WT N yw row) : ∃ x : Leg, row = x.cs ∧ True := by
 obtain ⟨a0, a1, a2, a3, rfl⟩ := q1v h
 exact ⟨⟨a0, a1, a2, a3⟩, rfl, trivial⟩
theorem y4s {N : Nat} (row : List Cell) (h : WT N ze row) : ∃ x : Bal, row = x.cs ∧ True := by
 obtain ⟨a0, a1, a2, rfl⟩ := q08 h
 exact ⟨⟨a0, a1, a2⟩, rfl, trivial⟩
theorem z4t {N : Nat} (row : List Cell) (h : WT N zh row) : ∃ x : Mk, row = x.cs ∧ True := by
 obtain ⟨a0, a1, rfl⟩ := y15 h
 exact ⟨⟨a0, a1⟩, rfl, trivial⟩
theorem q4t {N : Nat} (row : List Cell) (h : WT N yk row) : ∃ x : Vt, row = x.cs ∧ True := by
 obtain ⟨a0, a1, rfl⟩ := z16 h
 exact ⟨⟨a0, a1⟩, rfl, trivial⟩
theorem z6o {N : Nat} (row : List Cell) (h : WT N zm row) : ∃ x : Hd, row = x.cs ∧ True := by
 obtain ⟨a0, a1, a2, a3, a4, rfl⟩ := q0o h
 exact ⟨⟨a0, a1, a2, a3, a4⟩, rfl, trivial⟩
theorem y4t {N : Nat} (row : List Cell) (h : WT N yb row) : ∃ x : Msg, row = x.cs ∧ True := by
 obtain ⟨a0, a1, a2, a3, a4, a5, a6, a7, a8, rfl⟩ := z09 h
 exact ⟨⟨a0, a1, a2, a3, a4, a5, a6, a7, a8⟩, rfl, trivial⟩
theorem z68 {N : Nat} (row : List Cell) (h : WT N (.i .i64 .nil) row) : ∃ x : Int, row = [i64 x] ∧ True := by
 obtain ⟨x0, _, rfl, hnil⟩ := h.yx
 obtain rfl := hnil.zz
 exact ⟨x0, rfl, trivial⟩
theorem y20 (row : List Cell) (h : WT 1048576 q7 row) : ∃ x : Con, row = x.cs ∧ x.legs.length ≤ 1048576 := by
 obtain ⟨a, b, rfl, h1⟩ := y04 h
 obtain ⟨us, rfl, hl, _⟩ := z02 h1 z8n
 exact ⟨⟨a, us⟩, rfl, hl⟩
theorem y6o (row : List Cell) (h : WT 1048576 zb row) : ∃ x : Shd, row = x.cs ∧ yb5 x := by
 obtain ⟨a, b, c, d, e, f, rfl, h1, h2, h3, h4, h5⟩ := z0p h
 obtain ⟨u1, rfl, l1, _⟩ := z02 h1 y4s
 obtain ⟨u2, rfl, l2, _⟩ := z02 h2 z4t
 obtain ⟨u3, rfl, l3, p3⟩ := z02 h3 y20
 obtain ⟨u4, rfl, l4, _⟩ := z02 h4 z4t
 obtain ⟨u5, rfl, l5, _⟩ := z02 h5 z68
 exact ⟨⟨a, u1, u2, u3, u4, u5⟩, rfl, l1, l2, l3, l4, l5, p3⟩
theorem z7g (row : List Cell) (h : WT 1048576 qj row) : ∃ x : Slt, row = x.cs ∧ x.cast.length ≤ 1048576 := by
 obtain ⟨a, b, c, d, e, f, rfl, h1⟩ := q15 h
 obtain ⟨u1, rfl, l1, _⟩ := z02 h1 q4t
 exact ⟨⟨a, b, c, d, e, u1⟩, rfl, l1⟩
theorem y46 (row : List Cell) (h : WT 1048576 z8 row) : ∃ x : Acc, row = x.cs ∧ z41 x := by
 obtain ⟨a, rfl, h1⟩ := q03 h
 obtain ⟨u1, rfl, l1, p1⟩ := z02 h1 z7g
 exact ⟨⟨u1⟩, rfl, l1, p1⟩
theorem y8n (row : List Cell) (h : WT 1048576 zp row) : ∃ x : Tr, row = x.cs ∧ yai x := by
 obtain ⟨a, b, c, d, e, f, rfl, h1, h2⟩ := z1w h
 obtain ⟨u1, rfl, l1, _⟩ := z02 h1 z68
 obtain ⟨u2, rfl, l2, _⟩ := z02 h2 q4t
 exact ⟨⟨a, b, c, d, u1, u2⟩, rfl, l1, l2⟩
theorem y5i (row : List Cell) (h : WT 1048576 qa row) : ∃ x : Ldr, row = x.cs ∧ q8j x := by
 obtain ⟨a, b, c, rfl, h1, h2⟩ := q0d h
 obtain ⟨u1, rfl, l1, p1⟩ := z02 h1 y8n
 obtain ⟨u2, rfl, l2, _⟩ := z02 h2 z6o
 exact ⟨⟨a, u1, u2⟩, rfl, l1, l2, p1⟩
theorem q4s (row : List Cell) (h : WT 1048576 yd row) : ∃ x : Clu, row = x.cs ∧ y00 x := by
 obtain ⟨a, b, c, d, e, rfl, h1, h2, h3, h4, h5⟩ := z04 h
 obtain ⟨u1, rfl, l1, p1⟩ := z02 h1 y20
 obtain ⟨u2, rfl, l2, p2⟩ := z02 h2 y6o
 obtain ⟨u3, rfl, l3, p3⟩ := z02 h3 y46
 obtain ⟨u4, rfl, l4, p4⟩ := z02 h4 y5i
 obtain ⟨u5, rfl, l5, _⟩ := z02 h5 y4t
 exact ⟨⟨u1, u2, u3, u4, u5⟩, rfl, ⟨l1, p1⟩, ⟨l2, p2⟩, ⟨l3, p3⟩, ⟨l4, p4⟩, l5⟩
theorem y2y {f : List Cell → Nat} {row : List Cell} : ∀ {rows : List (List Cell)}, row ∈ rows → f row ≤ z00 f rows
 | r :: rows, h => by
   rw [z00]
   rcases List.mem_cons.1 h with rfl | h
   · omega
   · have := y2y (f := f) h; omega
theorem qb0 {N M : Nat} {e : Sh} {cs : List Cell} (hw : WT N e cs) : tot e cs ≤ M → WT M e cs := by
 induction hw with
 | nil => exact fun _ => .nil
 | i n _ ih => exact fun h => .i n (ih h)
 | b x _ ih => exact fun h => .b x (ih h)
 | @l e' r' cs' rows h1 h2 h3 ih1 ih2 =>
   intro h
   simp only [tot] at h
   exact .l rows (by omega) (fun row hr => ih1 row hr (by have := y2y (f := tot e') hr; omega)) (ih2 (by omega))
theorem y95 (x0 : Int) (x1 : Int) (x2 : Int) (x3 : Int)  : PC Tryz.prog 257 [.agg [.s (.int .i64 x0), .s (.int .i64 x1), .s (.int .i64 x2), .s (.int .i64 x3)]] (.one (.own true [.s (.int .i64 x0), .s (.int .i64 x1), .s (.int .i64 x2), .s (.int .i64 x3)])) := by
 refine PC.begin Tryz.func257 rfl (by kernel_rfl) ?_
 exact xr rfl (qm rfl ⟨⟨rfl, rfl, rfl, rfl, rfl, trivial⟩, z6 rfl⟩)
theorem y8c (rr : List (List Cell)) (hw : WR 1048576 yw rr) : PC Tryz.prog 190 [.one (.l rr)] (.one (.own false [.l 4 rr])) := by
 refine PC.begin Tryz.func190 rfl (by kernel_rfl) ?_
 have hlen := hw.1
 refine xs rfl rfl (xs rfl (nn_ _) (xs rfl (by omega) (xs rfl (by omega) ?_)))
 refine qc rfl (ι := Nat) (fun i => i ≤ rr.length) (fun i => ⟨[(4, sV (.int .i64 i)), (3, .one (.h 7 rr.length)), (0, .one (.b (.l rr)))], [(7, .arr true 4 0 (rr.take i ++ List.replicate (rr.length - i) [.s (.int .i64 0), .s (.int .i64 0), .s (.int .i64 0), .s (.int .i64 0)]))]⟩) (fun i => rr.length - i) 0 (Nat.zero_le _) ?_ ?_
 · repeat' (first | exact trivial | exact rfl | exact Or.inl rfl | refine And.intro ?_ ?_)
 · intro i hi J hJ
   refine xb rfl ?_ ?_ <;> intro h
   · have h : i < rr.length := by simpa using h
     obtain ⟨row, hg⟩ : ∃ row, rr[i]? = some row := ⟨_, List.getElem?_eq_getElem h⟩
     obtain ⟨x0, x1, x2, x3, rfl⟩ := q1v (hw.2 row (List.mem_of_getElem? hg))
     refine xs rfl (nn_ _) (y9 rfl _ hg (xs rfl rfl ?_))
     refine z7 rfl (y95 _ _ _ _) rfl ⟨tv5, trivial⟩ ?_
     refine xs rfl (yh _ _ _ _ (by omega) rfl).symm (xs rfl (nn_ _) (y9 rfl [.s (.int .i64 0), .s (.int .i64 0), .s (.int .i64 0), .s (.int .i64 0)] (qo _ _ _ _ (by omega) rfl) (xs rfl rfl ?_)))
     refine xs rfl (yh _ _ _ _ (by omega) rfl).symm (y9 rfl [.s (.int .i64 0), .s (.int .i64 0), .s (.int .i64 0), .s (.int .i64 0)] (qo _ _ _ _ (by omega) rfl) (xs rfl (by decide) (xs rfl tv5 ?_)))
     refine q9 rfl (hJ _ (i + 1) (by omega) (by omega) ?_)
     repeat' (first | exact trivial | exact rfl | exact Or.inl rfl | exact cwi (by omega) (by omega) (by omega) | refine And.intro ?_ ?_)
     exact q06 _ _ _ _ _ hg rfl
   · have h : ¬ i < rr.length := by simpa using h
     have : i = rr.length := by omega
     subst this
     refine xr rfl (qm rfl ⟨⟨rfl, ⟨(yh _ _ _ _ (by omega) rfl).symm, z05 _ _ _ rfl, Or.inl rfl⟩, trivial⟩, z6 rfl⟩)
theorem q4m (x0 : Int) (x1 : List (List Cell)) (h1 : WR 1048576 yw x1) : PC Tryz.prog 107 [.agg [.s (.int .i64 x0), .l x1]] (.one (.own true [.s (.int .i64 x0), .l 4 x1])) := by
 refine PC.begin Tryz.func107 rfl (by kernel_rfl) ?_
 refine z7 rfl (y8c _ h1) rfl ⟨trivial, trivial⟩ ?_
 exact xr rfl (qm rfl ⟨⟨rfl, rfl, ⟨rfl, rfl, .inl rfl⟩, trivial⟩, z6 rfl⟩)
theorem y1s (rr : List (List Cell)) (hw : WR 1048576 q7 rr) : PC Tryz.prog 45 [.one (.l rr)] (.one (.own false [.l 2 rr])) := by
 refine PC.begin Tryz.func45 rfl (by kernel_rfl) ?_
 have hlen := hw.1
 refine xs rfl rfl (xs rfl (nn_ _) (xs rfl (by omega) (xs rfl (by omega) ?_)))
 refine qc rfl (ι := Nat) (fun i => i ≤ rr.length) (fun i => ⟨[(4, sV (.int .i64 i)), (3, .one (.h 7 rr.length)), (0, .one (.b (.l rr)))], [(7, .arr true 2 0 (rr.take i ++ List.replicate (rr.length - i) [.s (.int .i64 0), .l []]))]⟩) (fun i => rr.length - i) 0 (Nat.zero_le _) ?_ ?_
 · repeat' (first | exact trivial | exact rfl | exact Or.inl rfl | refine And.intro ?_ ?_)
 · intro i hi J hJ
   refine xb rfl ?_ ?_ <;> intro h
   · have h : i < rr.length := by simpa using h
     obtain ⟨row, hg⟩ : ∃ row, rr[i]? = some row := ⟨_, List.getElem?_eq_getElem h⟩
     obtain ⟨x0, x1, rfl, h1⟩ := y04 (hw.2 row (List.mem_of_getElem? hg))
     refine xs rfl (nn_ _) (y9 rfl _ hg (xs rfl rfl ?_))
     refine z7 rfl (q4m _ _ h1) rfl ⟨tv3, trivial⟩ ?_
     refine xs rfl (yh _ _ _ _ (by omega) rfl).symm (xs rfl (nn_ _) (y9 rfl [.s (.int .i64 0), .l []] (qo _ _ _ _ (by omega) rfl) (xs rfl rfl ?_)))
     refine xs rfl (yh _ _ _ _ (by omega) rfl).symm (y9 rfl [.s (.int .i64 0), .l []] (qo _ _ _ _ (by omega) rfl) (xs rfl (by decide) (xs rfl ⟨trivial, ⟨rfl, rfl⟩, trivial⟩ ?_)))
     refine q9 rfl (hJ _ (i + 1) (by omega) (by omega) ?_)
     repeat' (first | exact trivial | exact rfl | exact Or.inl rfl | exact cwi (by omega) (by omega) (by omega) | refine And.intro ?_ ?_)
     exact q06 _ _ _ _ _ hg rfl
   · have h : ¬ i < rr.length := by simpa using h
     have : i = rr.length := by omega
     subst this
     refine xr rfl (qm rfl ⟨⟨rfl, ⟨(yh _ _ _ _ (by omega) rfl).symm, z05 _ _ _ rfl, Or.inl rfl⟩, trivial⟩, z6 rfl⟩)
theorem y5b (x0 : Int) (x1 : Int) (x2 : Int)  : PC Tryz.prog 189 [.agg [.s (.int .i64 x0), .s (.int .i64 x1), .s (.int .i64 x2)]] (.one (.own true [.s (.int .i64 x0), .s (.int .i64 x1), .s (.int .i64 x2)])) := by
 refine PC.begin Tryz.func189 rfl (by kernel_rfl) ?_
 exact xr rfl (qm rfl ⟨⟨rfl, rfl, rfl, rfl, trivial⟩, z6 rfl⟩)
theorem y4m (rr : List (List Cell)) (hw : WR 1048576 ze rr) : PC Tryz.prog 106 [.one (.l rr)] (.one (.own false [.l 3 rr])) := by
 refine PC.begin Tryz.func106 rfl (by kernel_rfl) ?_
 have hlen := hw.1
 refine xs rfl rfl (xs rfl (nn_ _) (xs rfl (by omega) (xs rfl (by omega) ?_)))
 refine qc rfl (ι := Nat) (fun i => i ≤ rr.length) (fun i => ⟨[(4, sV (.int .i64 i)), (3, .one (.h 7 rr.length)), (0, .one (.b (.l rr)))], [(7, .arr true 3 0 (rr.take i ++ List.replicate (rr.length - i) [.s (.int .i64 0), .s (.int .i64 0), .s (.int .i64 0)]))]⟩) (fun i => rr.length - i) 0 (Nat.zero_le _) ?_ ?_
 · repeat' (first | exact trivial | exact rfl | exact Or.inl rfl | refine And.intro ?_ ?_)
 · intro i hi J hJ
   refine xb rfl ?_ ?_ <;> intro h
   · have h : i < rr.length := by simpa using h
     obtain ⟨row, hg⟩ : ∃ row, rr[i]? = some row := ⟨_, List.getElem?_eq_getElem h⟩
     obtain ⟨x0, x1, x2, rfl⟩ := q08 (hw.2 row (List.mem_of_getElem? hg))
     refine xs rfl (nn_ _) (y9 rfl _ hg (xs rfl rfl ?_))
     refine z7 rfl (y5b _ _ _) rfl ⟨tv4, trivial⟩ ?_
     refine xs rfl (yh _ _ _ _ (by omega) rfl).symm (xs rfl (nn_ _) (y9 rfl [.s (.int .i64 0), .s (.int .i64 0), .s (.int .i64 0)] (qo _ _ _ _ (by omega) rfl) (xs rfl rfl ?_)))
     refine xs rfl (yh _ _ _ _ (by omega) rfl).symm (y9 rfl [.s (.int .i64 0), .s (.int .i64 0), .s (.int .i64 0)] (qo _ _ _ _ (by omega) rfl) (xs rfl (by decide) (xs rfl tv4 ?_)))
     refine q9 rfl (hJ _ (i + 1) (by omega) (by omega) ?_)
     repeat' (first | exact trivial | exact rfl | exact Or.inl rfl | exact cwi (by omega) (by omega) (by omega) | refine And.intro ?_ ?_)
     exact q06 _ _ _ _ _ hg rfl
   · have h : ¬ i < rr.length := by simpa using h
     have : i = rr.length := by omega
     subst this
     refine xr rfl (qm rfl ⟨⟨rfl, ⟨(yh _ _ _ _ (by omega) rfl).symm, z05 _ _ _ rfl, Or.inl rfl⟩, trivial⟩, z6 rfl⟩)
theorem q8c (x0 : Int) (x1 : Int)  : PC Tryz.prog 258 [.agg [.s (.int .i64 x0), .s (.int .i64 x1)]] (.one (.own true [.s (.int .i64 x0), .s (.int .i64 x1)])) := by
 refine PC.begin Tryz.func258 rfl (by kernel_rfl) ?_
 exact xr rfl (qm rfl ⟨⟨rfl, rfl, rfl, trivial⟩, z6 rfl⟩)
theorem z3z (rr : List (List Cell)) (hw : WR 1048576 zh rr) : PC Tryz.prog 191 [.one (.l rr)] (.one (.own false [.l 2 rr])) := by
 refine PC.begin Tryz.func191 rfl (by kernel_rfl) ?_
 have hlen := hw.1
 refine xs rfl rfl (xs rfl (nn_ _) (xs rfl (by omega) (xs rfl (by omega) ?_)))
 refine qc rfl (ι := Nat) (fun i => i ≤ rr.length) (fun i => ⟨[(4, sV (.int .i64 i)), (3, .one (.h 7 rr.length)), (0, .one (.b (.l rr)))], [(7, .arr true 2 0 (rr.take i ++ List.replicate (rr.length - i) [.s (.int .i64 0), .s (.int .i64 0)]))]⟩) (fun i => rr.length - i) 0 (Nat.zero_le _) ?_ ?_
 · repeat' (first | exact trivial | exact rfl | exact Or.inl rfl | refine And.intro ?_ ?_)
 · intro i hi J hJ
   refine xb rfl ?_ ?_ <;> intro h
   · have h : i < rr.length := by simpa using h
     obtain ⟨row, hg⟩ : ∃ row, rr[i]? = some row := ⟨_, List.getElem?_eq_getElem h⟩
     obtain ⟨x0, x1, rfl⟩ := y15 (hw.2 row (List.mem_of_getElem? hg))
     refine xs rfl (nn_ _) (y9 rfl _ hg (xs rfl rfl ?_))
     refine z7 rfl (q8c _ _) rfl ⟨tv3, trivial⟩ ?_
     refine xs rfl (yh _ _ _ _ (by omega) rfl).symm (xs rfl (nn_ _) (y9 rfl [.s (.int .i64 0), .s (.int .i64 0)] (qo _ _ _ _ (by omega) rfl) (xs rfl rfl ?_)))
     refine xs rfl (yh _ _ _ _ (by omega) rfl).symm (y9 rfl [.s (.int .i64 0), .s (.int .i64 0)] (qo _ _ _ _ (by omega) rfl) (xs rfl (by decide) (xs rfl tv3 ?_)))
     refine q9 rfl (hJ _ (i + 1) (by omega) (by omega) ?_)
     repeat' (first | exact trivial | exact rfl | exact Or.inl rfl | exact cwi (by omega) (by omega) (by omega) | refine And.intro ?_ ?_)
     exact q06 _ _ _ _ _ hg rfl
   · have h : ¬ i < rr.length := by simpa using h
     have : i = rr.length := by omega
     subst this
     refine xr rfl (qm rfl ⟨⟨rfl, ⟨(yh _ _ _ _ (by omega) rfl).symm, z05 _ _ _ rfl, Or.inl rfl⟩, trivial⟩, z6 rfl⟩)
theorem z3h (rr : List (List Cell)) (hw : WR 1048576 (.i .i64 .nil) rr) : PC Tryz.prog 192 [.one (.l rr)] (.one (.own false [.l 1 rr])) := by
 refine PC.begin Tryz.func192 rfl (by kernel_rfl) ?_
 have hlen := hw.1
 refine xs rfl rfl (xs rfl (nn_ _) (xs rfl (by omega) (xs rfl (by omega) ?_)))
 refine qc rfl (ι := Nat) (fun i => i ≤ rr.length) (fun i => ⟨[(4, sV (.int .i64 i)), (3, .one (.h 7 rr.length)), (0, .one (.b (.l rr)))], [(7, .arr true 1 0 (rr.take i ++ List.replicate (rr.length - i) [.s (.int .i64 0)]))]⟩) (fun i => rr.length - i) 0 (Nat.zero_le _) ?_ ?_
 · repeat' (first | exact trivial | exact rfl | exact Or.inl rfl | refine And.intro ?_ ?_)
 · intro i hi J hJ
   refine xb rfl ?_ ?_ <;> intro h
   · have h : i < rr.length := by simpa using h
     obtain ⟨row, hg⟩ : ∃ row, rr[i]? = some row := ⟨_, List.getElem?_eq_getElem h⟩
     obtain ⟨x0, _, rfl, hnil⟩ := ((hw.2 row (List.mem_of_getElem? hg))).yx; obtain rfl := hnil.zz
     refine xs rfl (nn_ _) (y9 rfl _ hg (xs rfl rfl ?_))
     refine xs rfl (yh _ _ _ _ (by omega) rfl).symm (xs rfl (nn_ _) (y9 rfl [.s (.int .i64 0)] (qo _ _ _ _ (by omega) rfl) (xs rfl rfl ?_)))
     refine xs rfl (yh _ _ _ _ (by omega) rfl).symm (y9 rfl [.s (.int .i64 0)] (qo _ _ _ _ (by omega) rfl) (xs rfl (by decide) (xs rfl ⟨trivial, trivial⟩ ?_)))
     refine q9 rfl (hJ _ (i + 1) (by omega) (by omega) ?_)
     repeat' (first | exact trivial | exact rfl | exact Or.inl rfl | exact cwi (by omega) (by omega) (by omega) | refine And.intro ?_ ?_)
     exact q06 _ _ _ _ _ hg rfl
   · have h : ¬ i < rr.length := by simpa using h
     have : i = rr.length := by omega
     subst this
     refine xr rfl (qm rfl ⟨⟨rfl, ⟨(yh _ _ _ _ (by omega) rfl).symm, z05 _ _ _ rfl, Or.inl rfl⟩, trivial⟩, z6 rfl⟩)
theorem y74 (x0 : Int) (x1 : List (List Cell)) (x2 : List (List Cell)) (x3 : List (List Cell)) (x4 : List (List Cell)) (x5 : List (List Cell)) (h1 : WR 1048576 ze x1) (h2 : WR 1048576 zh x2) (h3 : WR 1048576 q7 x3) (h4 : WR 1048576 zh x4) (h5 : WR 1048576 (.i .i64 .nil) x5) : PC Tryz.prog 108 [.agg [.s (.int .i64 x0), .l x1, .l x2, .l x3, .l x4, .l x5]] (.one (.own true [.s (.int .i64 x0), .l 3 x1, .l 2 x2, .l 2 x3, .l 2 x4, .l 1 x5])) := by
 refine PC.begin Tryz.func108 rfl (by kernel_rfl) ?_
 refine z7 rfl (y4m _ h1) rfl ⟨trivial, trivial⟩ (z7 rfl (z3z _ h2) rfl ⟨trivial, trivial⟩ (z7 rfl (y1s _ h3) rfl ⟨trivial, trivial⟩ (z7 rfl (z3z _ h4) rfl ⟨trivial, trivial⟩ (z7 rfl (z3h _ h5) rfl ⟨trivial, trivial⟩ ?_))))
 exact xr rfl (qm rfl ⟨⟨rfl, rfl, ⟨rfl, rfl, .inl rfl⟩, ⟨rfl, rfl, .inl rfl⟩, ⟨rfl, rfl, .inl rfl⟩, ⟨rfl, rfl, .inl rfl⟩, ⟨rfl, rfl, .inl rfl⟩, trivial⟩, z6 rfl⟩)
theorem q5z (rr : List (List Cell)) (hw : WR 1048576 zb rr) : PC Tryz.prog 46 [.one (.l rr)] (.one (.own false [.l 6 rr])) := by
 refine PC.begin Tryz.func46 rfl (by kernel_rfl) ?_
 have hlen := hw.1
 refine xs rfl rfl (xs rfl (nn_ _) (xs rfl (by omega) (xs rfl (by omega) ?_)))
 refine qc rfl (ι := Nat) (fun i => i ≤ rr.length) (fun i => ⟨[(4, sV (.int .i64 i)), (3, .one (.h 7 rr.length)), (0, .one (.b (.l rr)))], [(7, .arr true 6 0 (rr.take i ++ List.replicate (rr.length - i) [.s (.int .i64 0), .l [], .l [], .l [], .l [], .l []]))]⟩) (fun i => rr.length - i) 0 (Nat.zero_le _) ?_ ?_
 · repeat' (first | exact trivial | exact rfl | exact Or.inl rfl | refine And.intro ?_ ?_)
 · intro i hi J hJ
   refine xb rfl ?_ ?_ <;> intro h
   · have h : i < rr.length := by simpa using h
     obtain ⟨row, hg⟩ : ∃ row, rr[i]? = some row := ⟨_, List.getElem?_eq_getElem h⟩
     obtain ⟨x0, x1, x2, x3, x4, x5, rfl, h1, h2, h3, h4, h5⟩ := z0p (hw.2 row (List.mem_of_getElem? hg))
     refine xs rfl (nn_ _) (y9 rfl _ hg (xs rfl rfl ?_))
     refine z7 rfl (y74 _ _ _ _ _ _ h1 h2 h3 h4 h5) rfl ⟨tv7, trivial⟩ ?_
     refine xs rfl (yh _ _ _ _ (by omega) rfl).symm (xs rfl (nn_ _) (y9 rfl [.s (.int .i64 0), .l [], .l [], .l [], .l [], .l []] (qo _ _ _ _ (by omega) rfl) (xs rfl rfl ?_)))
     refine xs rfl (yh _ _ _ _ (by omega) rfl).symm (y9 rfl [.s (.int .i64 0), .l [], .l [], .l [], .l [], .l []] (qo _ _ _ _ (by omega) rfl) (xs rfl (by decide) (xs rfl ⟨trivial, ⟨rfl, rfl⟩, ⟨rfl, rfl⟩, ⟨rfl, rfl⟩, ⟨rfl, rfl⟩, ⟨rfl, rfl⟩, trivial⟩ ?_)))
     refine q9 rfl (hJ _ (i + 1) (by omega) (by omega) ?_)
     repeat' (first | exact trivial | exact rfl | exact Or.inl rfl | exact cwi (by omega) (by omega) (by omega) | refine And.intro ?_ ?_)
     exact q06 _ _ _ _ _ hg rfl
   · have h : ¬ i < rr.length := by simpa using h
     have : i = rr.length := by omega
     subst this
     refine xr rfl (qm rfl ⟨⟨rfl, ⟨(yh _ _ _ _ (by omega) rfl).symm, z05 _ _ _ rfl, Or.inl rfl⟩, trivial⟩, z6 rfl⟩)
theorem y3h (x0 : Int) (x1 : Int)  : PC Tryz.prog 196 [.agg [.s (.int .i64 x0), .s (.int .i64 x1)]] (.one (.own true [.s (.int .i64 x0), .s (.int .i64 x1)])) := by
 refine PC.begin Tryz.func196 rfl (by kernel_rfl) ?_
 exact xr rfl (qm rfl ⟨⟨rfl, rfl, rfl, trivial⟩, z6 rfl⟩)
theorem y3z (rr : List (List Cell)) (hw : WR 1048576 yk rr) : PC Tryz.prog 335 [.one (.l rr)] (.one (.own false [.l 2 rr])) := by
 refine PC.begin Tryz.func335 rfl (by kernel_rfl) ?_
 have hlen := hw.1
 refine xs rfl rfl (xs rfl (nn_ _) (xs rfl (by omega) (xs rfl (by omega) ?_)))
 refine qc rfl (ι := Nat) (fun i => i ≤ rr.length) (fun i => ⟨[(4, sV (.int .i64 i)), (3, .one (.h 7 rr.length)), (0, .one (.b (.l rr)))], [(7, .arr true 2 0 (rr.take i ++ List.replicate (rr.length - i) [.s (.int .i64 0), .s (.int .i64 0)]))]⟩) (fun i => rr.length - i) 0 (Nat.zero_le _) ?_ ?_
 · repeat' (first | exact trivial | exact rfl | exact Or.inl rfl | refine And.intro ?_ ?_)
 · intro i hi J hJ
   refine xb rfl ?_ ?_ <;> intro h
   · have h : i < rr.length := by simpa using h
     obtain ⟨row, hg⟩ : ∃ row, rr[i]? = some row := ⟨_, List.getElem?_eq_getElem h⟩
     obtain ⟨x0, x1, rfl⟩ := z16 (hw.2 row (List.mem_of_getElem? hg))
     refine xs rfl (nn_ _) (y9 rfl _ hg (xs rfl rfl ?_))
     refine z7 rfl (y3h _ _) rfl ⟨tv3, trivial⟩ ?_
     refine xs rfl (yh _ _ _ _ (by omega) rfl).symm (xs rfl (nn_ _) (y9 rfl [.s (.int .i64 0), .s (.int .i64 0)] (qo _ _ _ _ (by omega) rfl) (xs rfl rfl ?_)))
     refine xs rfl (yh _ _ _ _ (by omega) rfl).symm (y9 rfl [.s (.int .i64 0), .s (.int .i64 0)] (qo _ _ _ _ (by omega) rfl) (xs rfl (by decide) (xs rfl tv3 ?_)))
     refine q9 rfl (hJ _ (i + 1) (by omega) (by omega) ?_)
     repeat' (first | exact trivial | exact rfl | exact Or.inl rfl | exact cwi (by omega) (by omega) (by omega) | refine And.intro ?_ ?_)
     exact q06 _ _ _ _ _ hg rfl
   · have h : ¬ i < rr.length := by simpa using h
     have : i = rr.length := by omega
     subst this
     refine xr rfl (qm rfl ⟨⟨rfl, ⟨(yh _ _ _ _ (by omega) rfl).symm, z05 _ _ _ rfl, Or.inl rfl⟩, trivial⟩, z6 rfl⟩)
theorem z8d (x0 : Int) (x1 : Int) (x2 : Int) (x3 : Int) (x4 : Int) (x5 : List (List Cell)) (h5 : WR 1048576 yk x5) : PC Tryz.prog 259 [.agg [.s (.int .i64 x0), .s (.int .i64 x1), .s (.int .i64 x2), .s (.int .i64 x3), .s (.int .i64 x4), .l x5]] (.one (.own true [.s (.int .i64 x0), .s (.int .i64 x1), .s (.int .i64 x2), .s (.int .i64 x3), .s (.int .i64 x4), .l 2 x5])) := by
 refine PC.begin Tryz.func259 rfl (by kernel_rfl) ?_
 refine z7 rfl (y3h _ _) rfl ⟨tv3, trivial⟩ (z7 rfl (y3z _ h5) rfl ⟨trivial, trivial⟩ ?_)
 exact xr rfl (qm rfl ⟨⟨rfl, rfl, rfl, rfl, rfl, rfl, ⟨rfl, rfl, .inl rfl⟩, trivial⟩, z6 rfl⟩)
theorem q74 (rr : List (List Cell)) (hw : WR 1048576 qj rr) : PC Tryz.prog 193 [.one (.l rr)] (.one (.own false [.l 6 rr])) := by
 refine PC.begin Tryz.func193 rfl (by kernel_rfl) ?_
 have hlen := hw.1
 refine xs rfl rfl (xs rfl (nn_ _) (xs rfl (by omega) (xs rfl (by omega) ?_)))
 refine qc rfl (ι := Nat) (fun i => i ≤ rr.length) (fun i => ⟨[(4, sV (.int .i64 i)), (3, .one (.h 7 rr.length)), (0, .one (.b (.l rr)))], [(7, .arr true 6 0 (rr.take i ++ List.replicate (rr.length - i) [.s (.int .i64 0), .s (.int .i64 0), .s (.int .i64 0), .s (.int .i64 0), .s (.int .i64 0), .l []]))]⟩) (fun i => rr.length - i) 0 (Nat.zero_le _) ?_ ?_
 · repeat' (first | exact trivial | exact rfl | exact Or.inl rfl | refine And.intro ?_ ?_)
 · intro i hi J hJ
   refine xb rfl ?_ ?_ <;> intro h
   · have h : i < rr.length := by simpa using h
     obtain ⟨row, hg⟩ : ∃ row, rr[i]? = some row := ⟨_, List.getElem?_eq_getElem h⟩
     obtain ⟨x0, x1, x2, x3, x4, x5, rfl, h5⟩ := q15 (hw.2 row (List.mem_of_getElem? hg))
     refine xs rfl (nn_ _) (y9 rfl _ hg (xs rfl rfl ?_))
     refine z7 rfl (z8d _ _ _ _ _ _ h5) rfl ⟨tv7, trivial⟩ ?_
     refine xs rfl (yh _ _ _ _ (by omega) rfl).symm (xs rfl (nn_ _) (y9 rfl [.s (.int .i64 0), .s (.int .i64 0), .s (.int .i64 0), .s (.int .i64 0), .s (.int .i64 0), .l []] (qo _ _ _ _ (by omega) rfl) (xs rfl rfl ?_)))
     refine xs rfl (yh _ _ _ _ (by omega) rfl).symm (y9 rfl [.s (.int .i64 0), .s (.int .i64 0), .s (.int .i64 0), .s (.int .i64 0), .s (.int .i64 0), .l []] (qo _ _ _ _ (by omega) rfl) (xs rfl (by decide) (xs rfl ⟨trivial, trivial, trivial, trivial, trivial, ⟨rfl, rfl⟩, trivial⟩ ?_)))
     refine q9 rfl (hJ _ (i + 1) (by omega) (by omega) ?_)
     repeat' (first | exact trivial | exact rfl | exact Or.inl rfl | exact cwi (by omega) (by omega) (by omega) | refine And.intro ?_ ?_)
     exact q06 _ _ _ _ _ hg rfl
   · have h : ¬ i < rr.length := by simpa using h
     have : i = rr.length := by omega
     subst this
     refine xr rfl (qm rfl ⟨⟨rfl, ⟨(yh _ _ _ _ (by omega) rfl).symm, z05 _ _ _ rfl, Or.inl rfl⟩, trivial⟩, z6 rfl⟩)
theorem z4m (x0 : List (List Cell)) (h0 : WR 1048576 qj x0) : PC Tryz.prog 109 [.agg [.l x0]] (.one (.own true [.l 6 x0])) := by
 refine PC.begin Tryz.func109 rfl (by kernel_rfl) ?_
 refine z7 rfl (q74 _ h0) rfl ⟨trivial, trivial⟩ ?_
 exact xr rfl (qm rfl ⟨⟨rfl, ⟨rfl, rfl, .inl rfl⟩, trivial⟩, z6 rfl⟩)
theorem z3r (rr : List (List Cell)) (hw : WR 1048576 z8 rr) : PC Tryz.prog 47 [.one (.l rr)] (.one (.own false [.l 1 rr])) := by
 refine PC.begin Tryz.func47 rfl (by kernel_rfl) ?_
 have hlen := hw.1
 refine xs rfl rfl (xs rfl (nn_ _) (xs rfl (by omega) (xs rfl (by omega) ?_)))
 refine qc rfl (ι := Nat) (fun i => i ≤ rr.length) (fun i => ⟨[(4, sV (.int .i64 i)), (3, .one (.h 7 rr.length)), (0, .one (.b (.l rr)))], [(7, .arr true 1 0 (rr.take i ++ List.replicate (rr.length - i) [.l []]))]⟩) (fun i => rr.length - i) 0 (Nat.zero_le _) ?_ ?_
 · repeat' (first | exact trivial | exact rfl | exact Or.inl rfl | refine And.intro ?_ ?_)
 · intro i hi J hJ
   refine xb rfl ?_ ?_ <;> intro h
   · have h : i < rr.length := by simpa using h
     obtain ⟨row, hg⟩ : ∃ row, rr[i]? = some row := ⟨_, List.getElem?_eq_getElem h⟩
     obtain ⟨x0, rfl, h0⟩ := q03 (hw.2 row (List.mem_of_getElem? hg))
     refine xs rfl (nn_ _) (y9 rfl _ hg (xs rfl rfl ?_))
     refine z7 rfl (z4m _ h0) rfl ⟨⟨trivial, trivial⟩, trivial⟩ ?_
     refine xs rfl (yh _ _ _ _ (by omega) rfl).symm (xs rfl (nn_ _) (y9 rfl [.l []] (qo _ _ _ _ (by omega) rfl) (xs rfl rfl ?_)))
     refine xs rfl (yh _ _ _ _ (by omega) rfl).symm (y9 rfl [.l []] (qo _ _ _ _ (by omega) rfl) (xs rfl (by decide) (xs rfl ⟨⟨rfl, rfl⟩, trivial⟩ ?_)))
     refine q9 rfl (hJ _ (i + 1) (by omega) (by omega) ?_)
     repeat' (first | exact trivial | exact rfl | exact Or.inl rfl | exact cwi (by omega) (by omega) (by omega) | refine And.intro ?_ ?_)
     exact q06 _ _ _ _ _ hg rfl
   · have h : ¬ i < rr.length := by simpa using h
     have : i = rr.length := by omega
     subst this
     refine xr rfl (qm rfl ⟨⟨rfl, ⟨(yh _ _ _ _ (by omega) rfl).symm, z05 _ _ _ rfl, Or.inl rfl⟩, trivial⟩, z6 rfl⟩)
theorem q95 (x0 : Int) (x1 : Int) (x2 : Int) (x3 : Int) (x4 : List (List Cell)) (x5 : List (List Cell)) (h4 : WR 1048576 (.i .i64 .nil) x4) (h5 : WR 1048576 yk x5) : PC Tryz.prog 260 [.agg [.s (.int .i64 x0), .s (.int .i64 x1), .s (.int .i64 x2), .s (.int .i64 x3), .l x4, .l x5]] (.one (.own true [.s (.int .i64 x0), .s (.int .i64 x1), .s (.int .i64 x2), .s (.int .i64 x3), .l 1 x4, .l 2 x5])) := by
 refine PC.begin Tryz.func260 rfl (by kernel_rfl) ?_
 refine z7 rfl (z3h _ h4) rfl ⟨trivial, trivial⟩ (z7 rfl (y3z _ h5) rfl ⟨trivial, trivial⟩ ?_)
 exact xr rfl (qm rfl ⟨⟨rfl, rfl, rfl, rfl, rfl, ⟨rfl, rfl, .inl rfl⟩, ⟨rfl, rfl, .inl rfl⟩, trivial⟩, z6 rfl⟩)
theorem y8d (rr : List (List Cell)) (hw : WR 1048576 zp rr) : PC Tryz.prog 194 [.one (.l rr)] (.one (.own false [.l 6 rr])) := by
 refine PC.begin Tryz.func194 rfl (by kernel_rfl) ?_
 have hlen := hw.1
 refine xs rfl rfl (xs rfl (nn_ _) (xs rfl (by omega) (xs rfl (by omega) ?_)))
 refine qc rfl (ι := Nat) (fun i => i ≤ rr.length) (fun i => ⟨[(4, sV (.int .i64 i)), (3, .one (.h 7 rr.length)), (0, .one (.b (.l rr)))], [(7, .arr true 6 0 (rr.take i ++ List.replicate (rr.length - i) [.s (.int .i64 0), .s (.int .i64 0), .s (.int .i64 0), .s (.int .i64 0), .l [], .l []]))]⟩) (fun i => rr.length - i) 0 (Nat.zero_le _) ?_ ?_
 · repeat' (first | exact trivial | exact rfl | exact Or.inl rfl | refine And.intro ?_ ?_)
 · intro i hi J hJ
   refine xb rfl ?_ ?_ <;> intro h
   · have h : i < rr.length := by simpa using h
     obtain ⟨row, hg⟩ : ∃ row, rr[i]? = some row := ⟨_, List.getElem?_eq_getElem h⟩
     obtain ⟨x0, x1, x2, x3, x4, x5, rfl, h4, h5⟩ := z1w (hw.2 row (List.mem_of_getElem? hg))
     refine xs rfl (nn_ _) (y9 rfl _ hg (xs rfl rfl ?_))
     refine z7 rfl (q95 _ _ _ _ _ _ h4 h5) rfl ⟨tv7, trivial⟩ ?_
     refine xs rfl (yh _ _ _ _ (by omega) rfl).symm (xs rfl (nn_ _) (y9 rfl [.s (.int .i64 0), .s (.int .i64 0), .s (.int .i64 0), .s (.int .i64 0), .l [], .l []] (qo _ _ _ _ (by omega) rfl) (xs rfl rfl ?_)))
     refine xs rfl (yh _ _ _ _ (by omega) rfl).symm (y9 rfl [.s (.int .i64 0), .s (.int .i64 0), .s (.int .i64 0), .s (.int .i64 0), .l [], .l []] (qo _ _ _ _ (by omega) rfl) (xs rfl (by decide) (xs rfl ⟨trivial, trivial, trivial, trivial, ⟨rfl, rfl⟩, ⟨rfl, rfl⟩, trivial⟩ ?_)))
     refine q9 rfl (hJ _ (i + 1) (by omega) (by omega) ?_)
     repeat' (first | exact trivial | exact rfl | exact Or.inl rfl | exact cwi (by omega) (by omega) (by omega) | refine And.intro ?_ ?_)
     exact q06 _ _ _ _ _ hg rfl
   · have h : ¬ i < rr.length := by simpa using h
     have : i = rr.length := by omega
     subst this
     refine xr rfl (qm rfl ⟨⟨rfl, ⟨(yh _ _ _ _ (by omega) rfl).symm, z05 _ _ _ rfl, Or.inl rfl⟩, trivial⟩, z6 rfl⟩)
theorem z74 (x0 : Int) (x1 : Int) (x2 : Int) (x3 : Int) (x4 : Int)  : PC Tryz.prog 261 [.agg [.s (.int .i64 x0), .s (.int .i64 x1), .s (.int .i64 x2), .s (.int .i64 x3), .s (.int .i64 x4)]] (.one (.own true [.s (.int .i64 x0), .s (.int .i64 x1), .s (.int .i64 x2), .s (.int .i64 x3), .s (.int .i64 x4)])) := by
 refine PC.begin Tryz.func261 rfl (by kernel_rfl) ?_
 exact xr rfl (qm rfl ⟨⟨rfl, rfl, rfl, rfl, rfl, rfl, trivial⟩, z6 rfl⟩)
theorem z5z (rr : List (List Cell)) (hw : WR 1048576 zm rr) : PC Tryz.prog 195 [.one (.l rr)] (.one (.own false [.l 5 rr])) := by
 refine PC.begin Tryz.func195 rfl (by kernel_rfl) ?_
 have hlen := hw.1
 refine xs rfl rfl (xs rfl (nn_ _) (xs rfl (by omega) (xs rfl (by omega) ?_)))
 refine qc rfl (ι := Nat) (fun i => i ≤ rr.length) (fun i => ⟨[(4, sV (.int .i64 i)), (3, .one (.h 7 rr.length)), (0, .one (.b (.l rr)))], [(7, .arr true 5 0 (rr.take i ++ List.replicate (rr.length - i) [.s (.int .i64 0), .s (.int .i64 0), .s (.int .i64 0), .s (.int .i64 0), .s (.int .i64 0)]))]⟩) (fun i => rr.length - i) 0 (Nat.zero_le _) ?_ ?_
 · repeat' (first | exact trivial | exact rfl | exact Or.inl rfl | refine And.intro ?_ ?_)
 · intro i hi J hJ
   refine xb rfl ?_ ?_ <;> intro h
   · have h : i < rr.length := by simpa using h
     obtain ⟨row, hg⟩ : ∃ row, rr[i]? = some row := ⟨_, List.getElem?_eq_getElem h⟩
     obtain ⟨x0, x1, x2, x3, x4, rfl⟩ := q0o (hw.2 row (List.mem_of_getElem? hg))
     refine xs rfl (nn_ _) (y9 rfl _ hg (xs rfl rfl ?_))
     refine z7 rfl (z74 _ _ _ _ _) rfl ⟨tv6, trivial⟩ ?_
     refine xs rfl (yh _ _ _ _ (by omega) rfl).symm (xs rfl (nn_ _) (y9 rfl [.s (.int .i64 0), .s (.int .i64 0), .s (.int .i64 0), .s (.int .i64 0), .s (.int .i64 0)] (qo _ _ _ _ (by omega) rfl) (xs rfl rfl ?_)))
     refine xs rfl (yh _ _ _ _ (by omega) rfl).symm (y9 rfl [.s (.int .i64 0), .s (.int .i64 0), .s (.int .i64 0), .s (.int .i64 0), .s (.int .i64 0)] (qo _ _ _ _ (by omega) rfl) (xs rfl (by decide) (xs rfl tv6 ?_)))
     refine q9 rfl (hJ _ (i + 1) (by omega) (by omega) ?_)
     repeat' (first | exact trivial | exact rfl | exact Or.inl rfl | exact cwi (by omega) (by omega) (by omega) | refine And.intro ?_ ?_)
     exact q06 _ _ _ _ _ hg rfl
   · have h : ¬ i < rr.length := by simpa using h
     have : i = rr.length := by omega
     subst this
     refine xr rfl (qm rfl ⟨⟨rfl, ⟨(yh _ _ _ _ (by omega) rfl).symm, z05 _ _ _ rfl, Or.inl rfl⟩, trivial⟩, z6 rfl⟩)
theorem y5z (x0 : Int) (x1 : List (List Cell)) (x2 : List (List Cell)) (h1 : WR 1048576 zp x1) (h2 : WR 1048576 zm x2) : PC Tryz.prog 110 [.agg [.s (.int .i64 x0), .l x1, .l x2]] (.one (.own true [.s (.int .i64 x0), .l 6 x1, .l 5 x2])) := by
 refine PC.begin Tryz.func110 rfl (by kernel_rfl) ?_
 refine z7 rfl (y8d _ h1) rfl ⟨trivial, trivial⟩ (z7 rfl (z5z _ h2) rfl ⟨trivial, trivial⟩ ?_)
 exact xr rfl (qm rfl ⟨⟨rfl, rfl, ⟨rfl, rfl, .inl rfl⟩, ⟨rfl, rfl, .inl rfl⟩, trivial⟩, z6 rfl⟩)
theorem z5c (rr : List (List Cell)) (hw : WR 1048576 qa rr) : PC Tryz.prog 48 [.one (.l rr)] (.one (.own false [.l 3 rr])) := by
 refine PC.begin Tryz.func48 rfl (by kernel_rfl) ?_
 have hlen := hw.1
 refine xs rfl rfl (xs rfl (nn_ _) (xs rfl (by omega) (xs rfl (by omega) ?_)))
 refine qc rfl (ι := Nat) (fun i => i ≤ rr.length) (fun i => ⟨[(4, sV (.int .i64 i)), (3, .one (.h 7 rr.length)), (0, .one (.b (.l rr)))], [(7, .arr true 3 0 (rr.take i ++ List.replicate (rr.length - i) [.s (.int .i64 0), .l [], .l []]))]⟩) (fun i => rr.length - i) 0 (Nat.zero_le _) ?_ ?_
 · repeat' (first | exact trivial | exact rfl | exact Or.inl rfl | refine And.intro ?_ ?_)
 · intro i hi J hJ
   refine xb rfl ?_ ?_ <;> intro h
   · have h : i < rr.length := by simpa using h
     obtain ⟨row, hg⟩ : ∃ row, rr[i]? = some row := ⟨_, List.getElem?_eq_getElem h⟩
     obtain ⟨x0, x1, x2, rfl, h1, h2⟩ := q0d (hw.2 row (List.mem_of_getElem? hg))
     refine xs rfl (nn_ _) (y9 rfl _ hg (xs rfl rfl ?_))
     refine z7 rfl (y5z _ _ _ h1 h2) rfl ⟨tv4, trivial⟩ ?_
     refine xs rfl (yh _ _ _ _ (by omega) rfl).symm (xs rfl (nn_ _) (y9 rfl [.s (.int .i64 0), .l [], .l []] (qo _ _ _ _ (by omega) rfl) (xs rfl rfl ?_)))
     refine xs rfl (yh _ _ _ _ (by omega) rfl).symm (y9 rfl [.s (.int .i64 0), .l [], .l []] (qo _ _ _ _ (by omega) rfl) (xs rfl (by decide) (xs rfl ⟨trivial, ⟨rfl, rfl⟩, ⟨rfl, rfl⟩, trivial⟩ ?_)))
     refine q9 rfl (hJ _ (i + 1) (by omega) (by omega) ?_)
     repeat' (first | exact trivial | exact rfl | exact Or.inl rfl | exact cwi (by omega) (by omega) (by omega) | refine And.intro ?_ ?_)
     exact q06 _ _ _ _ _ hg rfl
   · have h : ¬ i < rr.length := by simpa using h
     have : i = rr.length := by omega
     subst this
     refine xr rfl (qm rfl ⟨⟨rfl, ⟨(yh _ _ _ _ (by omega) rfl).symm, z05 _ _ _ rfl, Or.inl rfl⟩, trivial⟩, z6 rfl⟩)
theorem y5c (x0 : Int) (x1 : Int) (x2 : Int) (x3 : Int) (x4 : Int) (x5 : Int) (x6 : Int) (x7 : Int) (x8 : Int)  : PC Tryz.prog 111 [.agg [.s (.int .i64 x0), .s (.int .i64 x1), .s (.int .i64 x2), .s (.int .i64 x3), .s (.int .i64 x4), .s (.int .i64 x5), .s (.int .i64 x6), .s (.int .i64 x7), .s (.int .i64 x8)]] (.one (.own true [.s (.int .i64 x0), .s (.int .i64 x1), .s (.int .i64 x2), .s (.int .i64 x3), .s (.int .i64 x4), .s (.int .i64 x5), .s (.int .i64 x6), .s (.int .i64 x7), .s (.int .i64 x8)])) := by
 refine PC.begin Tryz.func111 rfl (by kernel_rfl) ?_
 refine z7 rfl (y3h _ _) rfl ⟨tv3, trivial⟩ ?_
 exact xr rfl (qm rfl ⟨⟨rfl, rfl, rfl, rfl, rfl, rfl, rfl, rfl, rfl, rfl, trivial⟩, z6 rfl⟩)
theorem z4n (rr : List (List Cell)) (hw : WR 1048576 yb rr) : PC Tryz.prog 49 [.one (.l rr)] (.one (.own false [.l 9 rr])) := by
 refine PC.begin Tryz.func49 rfl (by kernel_rfl) ?_
 have hlen := hw.1
 refine xs rfl rfl (xs rfl (nn_ _) (xs rfl (by omega) (xs rfl (by omega) ?_)))
 refine qc rfl (ι := Nat) (fun i => i ≤ rr.length) (fun i => ⟨[(4, sV (.int .i64 i)), (3, .one (.h 7 rr.length)), (0, .one (.b (.l rr)))], [(7, .arr true 9 0 (rr.take i ++ List.replicate (rr.length - i) [.s (.int .i64 0), .s (.int .i64 0), .s (.int .i64 0), .s (.int .i64 0), .s (.int .i64 0), .s (.int .i64 0), .s (.int .i64 0), .s (.int .i64 0), .s (.int .i64 0)]))]⟩) (fun i => rr.length - i) 0 (Nat.zero_le _) ?_ ?_
 · repeat' (first | exact trivial | exact rfl | exact Or.inl rfl | refine And.intro ?_ ?_)
 · intro i hi J hJ
   refine xb rfl ?_ ?_ <;> intro h
   · have h : i < rr.length := by simpa using h
     obtain ⟨row, hg⟩ : ∃ row, rr[i]? = some row := ⟨_, List.getElem?_eq_getElem h⟩
     obtain ⟨x0, x1, x2, x3, x4, x5, x6, x7, x8, rfl⟩ := z09 (hw.2 row (List.mem_of_getElem? hg))
     refine xs rfl (nn_ _) (y9 rfl _ hg (xs rfl rfl ?_))
     refine z7 rfl (y5c _ _ _ _ _ _ _ _ _) rfl ⟨tv10, trivial⟩ ?_
     refine xs rfl (yh _ _ _ _ (by omega) rfl).symm (xs rfl (nn_ _) (y9 rfl [.s (.int .i64 0), .s (.int .i64 0), .s (.int .i64 0), .s (.int .i64 0), .s (.int .i64 0), .s (.int .i64 0), .s (.int .i64 0), .s (.int .i64 0), .s (.int .i64 0)] (qo _ _ _ _ (by omega) rfl) (xs rfl rfl ?_)))
     refine xs rfl (yh _ _ _ _ (by omega) rfl).symm (y9 rfl [.s (.int .i64 0), .s (.int .i64 0), .s (.int .i64 0), .s (.int .i64 0), .s (.int .i64 0), .s (.int .i64 0), .s (.int .i64 0), .s (.int .i64 0), .s (.int .i64 0)] (qo _ _ _ _ (by omega) rfl) (xs rfl (by decide) (xs rfl tv10 ?_)))
     refine q9 rfl (hJ _ (i + 1) (by omega) (by omega) ?_)
     repeat' (first | exact trivial | exact rfl | exact Or.inl rfl | exact cwi (by omega) (by omega) (by omega) | refine And.intro ?_ ?_)
     exact q06 _ _ _ _ _ hg rfl
   · have h : ¬ i < rr.length := by simpa using h
     have : i = rr.length := by omega
     subst this
     refine xr rfl (qm rfl ⟨⟨rfl, ⟨(yh _ _ _ _ (by omega) rfl).symm, z05 _ _ _ rfl, Or.inl rfl⟩, trivial⟩, z6 rfl⟩)
theorem q5b (x0 : List (List Cell)) (x1 : List (List Cell)) (x2 : List (List Cell)) (x3 : List (List Cell)) (x4 : List (List Cell)) (h0 : WR 1048576 q7 x0) (h1 : WR 1048576 zb x1) (h2 : WR 1048576 z8 x2) (h3 : WR 1048576 qa x3) (h4 : WR 1048576 yb x4) : PC Tryz.prog 13 [.agg [.l x0, .l x1, .l x2, .l x3, .l x4]] (.one (.own true [.l 2 x0, .l 6 x1, .l 1 x2, .l 3 x3, .l 9 x4])) := by
 refine PC.begin Tryz.func13 rfl (by kernel_rfl) ?_
 refine z7 rfl (y1s _ h0) rfl ⟨trivial, trivial⟩ (z7 rfl (q5z _ h1) rfl ⟨trivial, trivial⟩ (z7 rfl (z3r _ h2) rfl ⟨trivial, trivial⟩ (z7 rfl (z5c _ h3) rfl ⟨trivial, trivial⟩ (z7 rfl (z4n _ h4) rfl ⟨trivial, trivial⟩ ?_))))
 exact xr rfl (qm rfl ⟨⟨rfl, ⟨rfl, rfl, .inl rfl⟩, ⟨rfl, rfl, .inl rfl⟩, ⟨rfl, rfl, .inl rfl⟩, ⟨rfl, rfl, .inl rfl⟩, ⟨rfl, rfl, .inl rfl⟩, trivial⟩, z6 rfl⟩)
theorem z8b (rr : List (List Cell)) (b : Int) (hw : WR 9223372036854775807 yw rr) (p0 : 0 ≤ b) (p1 : b ≤ 1048576) : PC Tryz.prog 169 [.one (.l rr), .one (.s (.int .i64 b))] (rI (szn b (ym yw rr))) := by
 refine PC.begin Tryz.func169 rfl (by kernel_rfl) ?_
 have hlen := hw.1
 have w1 : IntKind.i64.wrap (b - rr.length) = b - rr.length := wrap_i64 (by omega) (by omega)
 rw [y0r (fun row hr => by obtain ⟨x0, x1, x2, x3, rfl⟩ := q1v hr; rfl) hw]
 refine xb rfl ?_ ?_ <;> intro h
 · simp only [w1, decide_eq_true_eq] at h
   exact xv rfl rfl rfl (by show Value.int _ _ = Value.int _ _; rw [szn, if_pos h])
 · simp only [w1, decide_eq_false_iff_not] at h
   exact xv rfl rfl rfl (by show Value.int .i64 (IntKind.i64.wrap (b - rr.length)) = Value.int _ _; rw [szn, if_neg h, w1])
theorem y4l (x0 : Int) (x1 : List (List Cell)) (b : Int) (h1 : WR 9223372036854775807 yw x1) (hb0 : 0 ≤ b) (hb1 : b ≤ 1048576) : PC Tryz.prog 94 [.agg [.s (.int .i64 x0), .l x1], .one (.s (.int .i64 b))] (rI (szn b (tot q7 [.s (.int .i64 x0), .l x1]))) := by
 refine PC.begin Tryz.func94 rfl (by kernel_rfl) ?_
 have ht : tot q7 [.s (.int .i64 x0), .l x1] = ym yw x1 := by simp only [tot, ym] <;> omega
 refine z7 rfl (z8b x1 b h1 hb0 hb1) rfl tv3 ?_
 refine xb rfl (fun h => ?_) (fun e0 => ?_)
 · have h : szn b (ym yw x1) < 0 := by simpa using h
   exact xv rfl rfl rfl (by show Value.int _ _ = Value.int _ _; congr 1; rw [ht]; unfold szn at *; split at h <;> rw [if_pos] <;> omega)
 have e0 : 0 ≤ szn b (ym yw x1) := by simpa using e0
 exact xv rfl rfl rfl (by show Value.int _ _ = Value.int _ _; rw [ht])
theorem z1s (rr : List (List Cell)) (b : Int) (hw : WR 9223372036854775807 q7 rr) (p0 : 0 ≤ b) (p1 : b ≤ 1048576) : PC Tryz.prog 33 [.one (.l rr), .one (.s (.int .i64 b))] (rI (szn b (ym q7 rr))) := by
 refine PC.begin Tryz.func33 rfl (by kernel_rfl) ?_
 have hlen := hw.1
 have w1 : IntKind.i64.wrap (b - rr.length) = b - rr.length := wrap_i64 (by omega) (by omega)
 refine xb rfl ?_ ?_ <;> intro h
 · simp only [w1, decide_eq_true_eq] at h
   exact xv rfl rfl rfl (by show Value.int _ _ = Value.int _ _; unfold szn ym; rw [if_pos (by omega)])
 simp only [w1, decide_eq_false_iff_not] at h
 have hs : szn b rr.length = b - rr.length := by unfold szn; rw [if_neg h]
 refine qc rfl (ι := Nat) (fun i => i ≤ rr.length ∧ 0 ≤ szn b (rr.length + z00 (tot q7) (rr.take i))) (fun i => ⟨[(5, sV (.int .i64 i)), (1, sV (.int .i64 (szn b (rr.length + z00 (tot q7) (rr.take i))))), (0, .one (.b (.l rr)))], []⟩) (fun i => rr.length - i) 0 ⟨Nat.zero_le _, by simp only [List.take_zero, z00, Nat.add_zero, hs]; omega⟩ ?_ ?_
 · refine ⟨⟨rfl, ?_, rfl, trivial⟩, trivial, rfl⟩
   show Cell.s (.int .i64 (IntKind.i64.wrap (b - rr.length))) = Cell.s (.int .i64 (szn b (rr.length + 0)))
   rw [w1, Nat.add_zero, hs]
 · intro i ⟨hi, hb⟩ J hJ
   refine xb rfl ?_ ?_ <;> intro h
   · have h : i < rr.length := by simpa using h
     obtain ⟨row, hg⟩ : ∃ row, rr[i]? = some row := ⟨_, List.getElem?_eq_getElem h⟩
     have hc := q0x (f := tot q7) hg
     have hc2 := y0n (tot q7) rr (i + 1)
     obtain ⟨x0, x1, rfl, h1⟩ := y04 (hw.2 row (List.mem_of_getElem? hg))
     refine xs rfl (nn_ _) (y9 rfl _ hg (xs rfl rfl ?_))
     refine z7 rfl (y4l _ _ _ h1 hb (y0k p1 p0)) rfl ⟨tv3, trivial, trivial⟩ ?_
     refine xb rfl ?_ ?_ <;> intro hn
     · have hn : szn (szn b (rr.length + z00 (tot q7) (rr.take i))) (tot q7 [.s (.int .i64 x0), .l x1]) < 0 := by simpa using hn
       rw [zj hb] at hn
       exact xv rfl rfl rfl (by show Value.int _ _ = Value.int _ _; congr 1; unfold szn ym at *; split at hn <;> rw [if_pos] <;> omega)
     · have hn : ¬ szn (szn b (rr.length + z00 (tot q7) (rr.take i))) (tot q7 [.s (.int .i64 x0), .l x1]) < 0 := by simpa using hn
       have he := zj (n := tot q7 [.s (.int .i64 x0), .l x1]) hb
       rw [he] at hn
       rw [Nat.add_assoc, ← hc] at he hn
       refine q9 rfl (hJ _ (i + 1) ⟨by omega, by omega⟩ (by omega) ?_)
       refine ⟨⟨cwi (by omega) (by omega) (by omega), ?_, rfl, trivial⟩, trivial, rfl⟩
       exact congrArg (fun n => Cell.s (.int .i64 n)) he
   · have h : ¬ i < rr.length := by simpa using h
     have : i = rr.length := by omega
     subst this
     exact xv rfl rfl rfl (by show Value.int _ _ = Value.int _ _; rw [List.take_length]; rfl)
theorem z4l (rr : List (List Cell)) (b : Int) (hw : WR 9223372036854775807 ze rr) (p0 : 0 ≤ b) (p1 : b ≤ 1048576) : PC Tryz.prog 93 [.one (.l rr), .one (.s (.int .i64 b))] (rI (szn b (ym ze rr))) := by
 refine PC.begin Tryz.func93 rfl (by kernel_rfl) ?_
 have hlen := hw.1
 have w1 : IntKind.i64.wrap (b - rr.length) = b - rr.length := wrap_i64 (by omega) (by omega)
 rw [y0r (fun row hr => by obtain ⟨x0, x1, x2, rfl⟩ := q08 hr; rfl) hw]
 refine xb rfl ?_ ?_ <;> intro h
 · simp only [w1, decide_eq_true_eq] at h
   exact xv rfl rfl rfl (by show Value.int _ _ = Value.int _ _; rw [szn, if_pos h])
 · simp only [w1, decide_eq_false_iff_not] at h
   exact xv rfl rfl rfl (by show Value.int .i64 (IntKind.i64.wrap (b - rr.length)) = Value.int _ _; rw [szn, if_neg h, w1])
theorem y3y (rr : List (List Cell)) (b : Int) (hw : WR 9223372036854775807 zh rr) (p0 : 0 ≤ b) (p1 : b ≤ 1048576) : PC Tryz.prog 170 [.one (.l rr), .one (.s (.int .i64 b))] (rI (szn b (ym zh rr))) := by
 refine PC.begin Tryz.func170 rfl (by kernel_rfl) ?_
 have hlen := hw.1
 have w1 : IntKind.i64.wrap (b - rr.length) = b - rr.length := wrap_i64 (by omega) (by omega)
 rw [y0r (fun row hr => by obtain ⟨x0, x1, rfl⟩ := y15 hr; rfl) hw]
 refine xb rfl ?_ ?_ <;> intro h
 · simp only [w1, decide_eq_true_eq] at h
   exact xv rfl rfl rfl (by show Value.int _ _ = Value.int _ _; rw [szn, if_pos h])
 · simp only [w1, decide_eq_false_iff_not] at h
   exact xv rfl rfl rfl (by show Value.int .i64 (IntKind.i64.wrap (b - rr.length)) = Value.int _ _; rw [szn, if_neg h, w1])
theorem q3g (rr : List (List Cell)) (b : Int) (hw : WR 9223372036854775807 (.i .i64 .nil) rr) (p0 : 0 ≤ b) (p1 : b ≤ 1048576) : PC Tryz.prog 171 [.one (.l rr), .one (.s (.int .i64 b))] (rI (szn b (ym (.i .i64 .nil) rr))) := by
 refine PC.begin Tryz.func171 rfl (by kernel_rfl) ?_
 have hlen := hw.1
 have w1 : IntKind.i64.wrap (b - rr.length) = b - rr.length := wrap_i64 (by omega) (by omega)
 rw [y0r (fun row hr => by obtain ⟨x0, _, rfl, hnil⟩ := (hr).yx; obtain rfl := hnil.zz; rfl) hw]
 refine xb rfl ?_ ?_ <;> intro h
 · simp only [w1, decide_eq_true_eq] at h
   exact xv rfl rfl rfl (by show Value.int _ _ = Value.int _ _; rw [szn, if_pos h])
 · simp only [w1, decide_eq_false_iff_not] at h
   exact xv rfl rfl rfl (by show Value.int .i64 (IntKind.i64.wrap (b - rr.length)) = Value.int _ _; rw [szn, if_neg h, w1])
theorem z73 (x0 : Int) (x1 : List (List Cell)) (x2 : List (List Cell)) (x3 : List (List Cell)) (x4 : List (List Cell)) (x5 : List (List Cell)) (b : Int) (h1 : WR 9223372036854775807 ze x1) (h2 : WR 9223372036854775807 zh x2) (h3 : WR 9223372036854775807 q7 x3) (h4 : WR 9223372036854775807 zh x4) (h5 : WR 9223372036854775807 (.i .i64 .nil) x5) (hb0 : 0 ≤ b) (hb1 : b ≤ 1048576) : PC Tryz.prog 95 [.agg [.s (.int .i64 x0), .l x1, .l x2, .l x3, .l x4, .l x5], .one (.s (.int .i64 b))] (rI (szn b (tot zb [.s (.int .i64 x0), .l x1, .l x2, .l x3, .l x4, .l x5]))) := by
 refine PC.begin Tryz.func95 rfl (by kernel_rfl) ?_
 have ht : tot zb [.s (.int .i64 x0), .l x1, .l x2, .l x3, .l x4, .l x5] = ym ze x1 + ym zh x2 + ym q7 x3 + ym zh x4 + ym (.i .i64 .nil) x5 := by simp only [tot, ym] <;> omega
 refine z7 rfl (z4l x1 b h1 hb0 hb1) rfl tv3 ?_
 refine xb rfl (fun h => ?_) (fun e0 => ?_)
 · have h : szn b (ym ze x1) < 0 := by simpa using h
   exact xv rfl rfl rfl (by show Value.int _ _ = Value.int _ _; congr 1; rw [ht]; unfold szn at *; split at h <;> rw [if_pos] <;> omega)
 have e0 : 0 ≤ szn b (ym ze x1) := by simpa using e0
 refine z7 rfl (y3y x2 (szn b (ym ze x1)) h2 e0 (y0k hb1 hb0)) rfl tv3 ?_
 refine xb rfl (fun h => ?_) (fun e1 => ?_)
 · have h : szn (szn b (ym ze x1)) (ym zh x2) < 0 := by simpa using h
   rw [zj e0] at h
   exact xv rfl rfl rfl (by show Value.int _ _ = Value.int _ _; congr 1; rw [ht]; unfold szn at *; split at h <;> rw [if_pos] <;> omega)
 have e1 : 0 ≤ szn b (ym ze x1 + ym zh x2) := by rw [← zj e0]; simpa using e1
 rw [zj e0]
 refine z7 rfl (z1s x3 (szn b (ym ze x1 + ym zh x2)) h3 e1 (y0k hb1 hb0)) rfl tv3 ?_
 refine xb rfl (fun h => ?_) (fun e2 => ?_)
 · have h : szn (szn b (ym ze x1 + ym zh x2)) (ym q7 x3) < 0 := by simpa using h
   rw [zj e1] at h
   exact xv rfl rfl rfl (by show Value.int _ _ = Value.int _ _; congr 1; rw [ht]; unfold szn at *; split at h <;> rw [if_pos] <;> omega)
 have e2 : 0 ≤ szn b (ym ze x1 + ym zh x2 + ym q7 x3) := by rw [← zj e1]; simpa using e2
 rw [zj e1]
 refine z7 rfl (y3y x4 (szn b (ym ze x1 + ym zh x2 + ym q7 x3)) h4 e2 (y0k hb1 hb0)) rfl tv3 ?_
 refine xb rfl (fun h => ?_) (fun e3 => ?_)
 · have h : szn (szn b (ym ze x1 + ym zh x2 + ym q7 x3)) (ym zh x4) < 0 := by simpa using h
   rw [zj e2] at h
   exact xv rfl rfl rfl (by show Value.int _ _ = Value.int _ _; congr 1; rw [ht]; unfold szn at *; split at h <;> rw [if_pos] <;> omega)
 have e3 : 0 ≤ szn b (ym ze x1 + ym zh x2 + ym q7 x3 + ym zh x4) := by rw [← zj e2]; simpa using e3
 rw [zj e2]
 refine z7 rfl (q3g x5 (szn b (ym ze x1 + ym zh x2 + ym q7 x3 + ym zh x4)) h5 e3 (y0k hb1 hb0)) rfl tv3 ?_
 refine xb rfl (fun h => ?_) (fun e4 => ?_)
 · have h : szn (szn b (ym ze x1 + ym zh x2 + ym q7 x3 + ym zh x4)) (ym (.i .i64 .nil) x5) < 0 := by simpa using h
   rw [zj e3] at h
   exact xv rfl rfl rfl (by show Value.int _ _ = Value.int _ _; congr 1; rw [ht]; unfold szn at *; split at h <;> rw [if_pos] <;> omega)
 have e4 : 0 ≤ szn b (ym ze x1 + ym zh x2 + ym q7 x3 + ym zh x4 + ym (.i .i64 .nil) x5) := by rw [← zj e3]; simpa using e4
 rw [zj e3]
 exact xv rfl rfl rfl (by show Value.int _ _ = Value.int _ _; rw [ht])
theorem q5y (rr : List (List Cell)) (b : Int) (hw : WR 9223372036854775807 zb rr) (p0 : 0 ≤ b) (p1 : b ≤ 1048576) : PC Tryz.prog 34 [.one (.l rr), .one (.s (.int .i64 b))] (rI (szn b (ym zb rr))) := by
 refine PC.begin Tryz.func34 rfl (by kernel_rfl) ?_
 have hlen := hw.1
 have w1 : IntKind.i64.wrap (b - rr.length) = b - rr.length := wrap_i64 (by omega) (by omega)
 refine xb rfl ?_ ?_ <;> intro h
 · simp only [w1, decide_eq_true_eq] at h
   exact xv rfl rfl rfl (by show Value.int _ _ = Value.int _ _; unfold szn ym; rw [if_pos (by omega)])
 simp only [w1, decide_eq_false_iff_not] at h
 have hs : szn b rr.length = b - rr.length := by unfold szn; rw [if_neg h]
 refine qc rfl (ι := Nat) (fun i => i ≤ rr.length ∧ 0 ≤ szn b (rr.length + z00 (tot zb) (rr.take i))) (fun i => ⟨[(5, sV (.int .i64 i)), (1, sV (.int .i64 (szn b (rr.length + z00 (tot zb) (rr.take i))))), (0, .one (.b (.l rr)))], []⟩) (fun i => rr.length - i) 0 ⟨Nat.zero_le _, by simp only [List.take_zero, z00, Nat.add_zero, hs]; omega⟩ ?_ ?_
 · refine ⟨⟨rfl, ?_, rfl, trivial⟩, trivial, rfl⟩
   show Cell.s (.int .i64 (IntKind.i64.wrap (b - rr.length))) = Cell.s (.int .i64 (szn b (rr.length + 0)))
   rw [w1, Nat.add_zero, hs]
 · intro i ⟨hi, hb⟩ J hJ
   refine xb rfl ?_ ?_ <;> intro h
   · have h : i < rr.length := by simpa using h
     obtain ⟨row, hg⟩ : ∃ row, rr[i]? = some row := ⟨_, List.getElem?_eq_getElem h⟩
     have hc := q0x (f := tot zb) hg
     have hc2 := y0n (tot zb) rr (i + 1)
     obtain ⟨x0, x1, x2, x3, x4, x5, rfl, h1, h2, h3, h4, h5⟩ := z0p (hw.2 row (List.mem_of_getElem? hg))
     refine xs rfl (nn_ _) (y9 rfl _ hg (xs rfl rfl ?_))
     refine z7 rfl (z73 _ _ _ _ _ _ _ h1 h2 h3 h4 h5 hb (y0k p1 p0)) rfl ⟨tv7, trivial, trivial⟩ ?_
     refine xb rfl ?_ ?_ <;> intro hn
     · have hn : szn (szn b (rr.length + z00 (tot zb) (rr.take i))) (tot zb [.s (.int .i64 x0), .l x1, .l x2, .l x3, .l x4, .l x5]) < 0 := by simpa using hn
       rw [zj hb] at hn
       exact xv rfl rfl rfl (by show Value.int _ _ = Value.int _ _; congr 1; unfold szn ym at *; split at hn <;> rw [if_pos] <;> omega)
     · have hn : ¬ szn (szn b (rr.length + z00 (tot zb) (rr.take i))) (tot zb [.s (.int .i64 x0), .l x1, .l x2, .l x3, .l x4, .l x5]) < 0 := by simpa using hn
       have he := zj (n := tot zb [.s (.int .i64 x0), .l x1, .l x2, .l x3, .l x4, .l x5]) hb
       rw [he] at hn
       rw [Nat.add_assoc, ← hc] at he hn
       refine q9 rfl (hJ _ (i + 1) ⟨by omega, by omega⟩ (by omega) ?_)
       refine ⟨⟨cwi (by omega) (by omega) (by omega), ?_, rfl, trivial⟩, trivial, rfl⟩
       exact congrArg (fun n => Cell.s (.int .i64 n)) he
   · have h : ¬ i < rr.length := by simpa using h
     have : i = rr.length := by omega
     subst this
     exact xv rfl rfl rfl (by show Value.int _ _ = Value.int _ _; rw [List.take_length]; rfl)
theorem q3y (rr : List (List Cell)) (b : Int) (hw : WR 9223372036854775807 yk rr) (p0 : 0 ≤ b) (p1 : b ≤ 1048576) : PC Tryz.prog 330 [.one (.l rr), .one (.s (.int .i64 b))] (rI (szn b (ym yk rr))) := by
 refine PC.begin Tryz.func330 rfl (by kernel_rfl) ?_
 have hlen := hw.1
 have w1 : IntKind.i64.wrap (b - rr.length) = b - rr.length := wrap_i64 (by omega) (by omega)
 rw [y0r (fun row hr => by obtain ⟨x0, x1, rfl⟩ := z16 hr; rfl) hw]
 refine xb rfl ?_ ?_ <;> intro h
 · simp only [w1, decide_eq_true_eq] at h
   exact xv rfl rfl rfl (by show Value.int _ _ = Value.int _ _; rw [szn, if_pos h])
 · simp only [w1, decide_eq_false_iff_not] at h
   exact xv rfl rfl rfl (by show Value.int .i64 (IntKind.i64.wrap (b - rr.length)) = Value.int _ _; rw [szn, if_neg h, w1])
theorem y8b (x0 : Int) (x1 : Int) (x2 : Int) (x3 : Int) (x4 : Int) (x5 : List (List Cell)) (b : Int) (h5 : WR 9223372036854775807 yk x5) (hb0 : 0 ≤ b) (hb1 : b ≤ 1048576) : PC Tryz.prog 248 [.agg [.s (.int .i64 x0), .s (.int .i64 x1), .s (.int .i64 x2), .s (.int .i64 x3), .s (.int .i64 x4), .l x5], .one (.s (.int .i64 b))] (rI (szn b (tot qj [.s (.int .i64 x0), .s (.int .i64 x1), .s (.int .i64 x2), .s (.int .i64 x3), .s (.int .i64 x4), .l x5]))) := by
 refine PC.begin Tryz.func248 rfl (by kernel_rfl) ?_
 have ht : tot qj [.s (.int .i64 x0), .s (.int .i64 x1), .s (.int .i64 x2), .s (.int .i64 x3), .s (.int .i64 x4), .l x5] = ym yk x5 := by simp only [tot, ym] <;> omega
 refine z7 rfl (q3y x5 b h5 hb0 hb1) rfl tv3 ?_
 refine xb rfl (fun h => ?_) (fun e0 => ?_)
 · have h : szn b (ym yk x5) < 0 := by simpa using h
   exact xv rfl rfl rfl (by show Value.int _ _ = Value.int _ _; congr 1; rw [ht]; unfold szn at *; split at h <;> rw [if_pos] <;> omega)
 have e0 : 0 ≤ szn b (ym yk x5) := by simpa using e0
 exact xv rfl rfl rfl (by show Value.int _ _ = Value.int _ _; rw [ht])
theorem y73 (rr : List (List Cell)) (b : Int) (hw : WR 9223372036854775807 qj rr) (p0 : 0 ≤ b) (p1 : b ≤ 1048576) : PC Tryz.prog 172 [.one (.l rr), .one (.s (.int .i64 b))] (rI (szn b (ym qj rr))) := by
 refine PC.begin Tryz.func172 rfl (by kernel_rfl) ?_
 have hlen := hw.1
 have w1 : IntKind.i64.wrap (b - rr.length) = b - rr.length := wrap_i64 (by omega) (by omega)
 refine xb rfl ?_ ?_ <;> intro h
 · simp only [w1, decide_eq_true_eq] at h
   exact xv rfl rfl rfl (by show Value.int _ _ = Value.int _ _; unfold szn ym; rw [if_pos (by omega)])
 simp only [w1, decide_eq_false_iff_not] at h
 have hs : szn b rr.length = b - rr.length := by unfold szn; rw [if_neg h]
 refine qc rfl (ι := Nat) (fun i => i ≤ rr.length ∧ 0 ≤ szn b (rr.length + z00 (tot qj) (rr.take i))) (fun i => ⟨[(5, sV (.int .i64 i)), (1, sV (.int .i64 (szn b (rr.length + z00 (tot qj) (rr.take i))))), (0, .one (.b (.l rr)))], []⟩) (fun i => rr.length - i) 0 ⟨Nat.zero_le _, by simp only [List.take_zero, z00, Nat.add_zero, hs]; omega⟩ ?_ ?_
 · refine ⟨⟨rfl, ?_, rfl, trivial⟩, trivial, rfl⟩
   show Cell.s (.int .i64 (IntKind.i64.wrap (b - rr.length))) = Cell.s (.int .i64 (szn b (rr.length + 0)))
   rw [w1, Nat.add_zero, hs]
 · intro i ⟨hi, hb⟩ J hJ
   refine xb rfl ?_ ?_ <;> intro h
   · have h : i < rr.length := by simpa using h
     obtain ⟨row, hg⟩ : ∃ row, rr[i]? = some row := ⟨_, List.getElem?_eq_getElem h⟩
     have hc := q0x (f := tot qj) hg
     have hc2 := y0n (tot qj) rr (i + 1)
     obtain ⟨x0, x1, x2, x3, x4, x5, rfl, h5⟩ := q15 (hw.2 row (List.mem_of_getElem? hg))
     refine xs rfl (nn_ _) (y9 rfl _ hg (xs rfl rfl ?_))
     refine z7 rfl (y8b _ _ _ _ _ _ _ h5 hb (y0k p1 p0)) rfl ⟨tv7, trivial, trivial⟩ ?_
     refine xb rfl ?_ ?_ <;> intro hn
     · have hn : szn (szn b (rr.length + z00 (tot qj) (rr.take i))) (tot qj [.s (.int .i64 x0), .s (.int .i64 x1), .s (.int .i64 x2), .s (.int .i64 x3), .s (.int .i64 x4), .l x5]) < 0 := by simpa using hn
       rw [zj hb] at hn
       exact xv rfl rfl rfl (by show Value.int _ _ = Value.int _ _; congr 1; unfold szn ym at *; split at hn <;> rw [if_pos] <;> omega)
     · have hn : ¬ szn (szn b (rr.length + z00 (tot qj) (rr.take i))) (tot qj [.s (.int .i64 x0), .s (.int .i64 x1), .s (.int .i64 x2), .s (.int .i64 x3), .s (.int .i64 x4), .l x5]) < 0 := by simpa using hn
       have he := zj (n := tot qj [.s (.int .i64 x0), .s (.int .i64 x1), .s (.int .i64 x2), .s (.int .i64 x3), .s (.int .i64 x4), .l x5]) hb
       rw [he] at hn
       rw [Nat.add_assoc, ← hc] at he hn
       refine q9 rfl (hJ _ (i + 1) ⟨by omega, by omega⟩ (by omega) ?_)
       refine ⟨⟨cwi (by omega) (by omega) (by omega), ?_, rfl, trivial⟩, trivial, rfl⟩
       exact congrArg (fun n => Cell.s (.int .i64 n)) he
   · have h : ¬ i < rr.length := by simpa using h
     have : i = rr.length := by omega
     subst this
     exact xv rfl rfl rfl (by show Value.int _ _ = Value.int _ _; rw [List.take_length]; rfl)
theorem q4k (x0 : List (List Cell)) (b : Int) (h0 : WR 9223372036854775807 qj x0) (hb0 : 0 ≤ b) (hb1 : b ≤ 1048576) : PC Tryz.prog 96 [.agg [.l x0], .one (.s (.int .i64 b))] (rI (szn b (tot z8 [.l x0]))) := by
 refine PC.begin Tryz.func96 rfl (by kernel_rfl) ?_
 have ht : tot z8 [.l x0] = ym qj x0 := by simp only [tot, ym] <;> omega
 refine z7 rfl (y73 x0 b h0 hb0 hb1) rfl tv3 ?_
 refine xb rfl (fun h => ?_) (fun e0 => ?_)
 · have h : szn b (ym qj x0) < 0 := by simpa using h
   exact xv rfl rfl rfl (by show Value.int _ _ = Value.int _ _; congr 1; rw [ht]; unfold szn at *; split at h <;> rw [if_pos] <;> omega)
 have e0 : 0 ≤ szn b (ym qj x0) := by simpa using e0
 exact xv rfl rfl rfl (by show Value.int _ _ = Value.int _ _; rw [ht])
theorem q3q (rr : List (List Cell)) (b : Int) (hw : WR 9223372036854775807 z8 rr) (p0 : 0 ≤ b) (p1 : b ≤ 1048576) : PC Tryz.prog 35 [.one (.l rr), .one (.s (.int .i64 b))] (rI (szn b (ym z8 rr))) := by
 refine PC.begin Tryz.func35 rfl (by kernel_rfl) ?_
 have hlen := hw.1
 have w1 : IntKind.i64.wrap (b - rr.length) = b - rr.length := wrap_i64 (by omega) (by omega)
 refine xb rfl ?_ ?_ <;> intro h
 · simp only [w1, decide_eq_true_eq] at h
   exact xv rfl rfl rfl (by show Value.int _ _ = Value.int _ _; unfold szn ym; rw [if_pos (by omega)])
 simp only [w1, decide_eq_false_iff_not] at h
 have hs : szn b rr.length = b - rr.length := by unfold szn; rw [if_neg h]
 refine qc rfl (ι := Nat) (fun i => i ≤ rr.length ∧ 0 ≤ szn b (rr.length + z00 (tot z8) (rr.take i))) (fun i => ⟨[(5, sV (.int .i64 i)), (1, sV (.int .i64 (szn b (rr.length + z00 (tot z8) (rr.take i))))), (0, .one (.b (.l rr)))], []⟩) (fun i => rr.length - i) 0 ⟨Nat.zero_le _, by simp only [List.take_zero, z00, Nat.add_zero, hs]; omega⟩ ?_ ?_
 · refine ⟨⟨rfl, ?_, rfl, trivial⟩, trivial, rfl⟩
   show Cell.s (.int .i64 (IntKind.i64.wrap (b - rr.length))) = Cell.s (.int .i64 (szn b (rr.length + 0)))
   rw [w1, Nat.add_zero, hs]
 · intro i ⟨hi, hb⟩ J hJ
   refine xb rfl ?_ ?_ <;> intro h
   · have h : i < rr.length := by simpa using h
     obtain ⟨row, hg⟩ : ∃ row, rr[i]? = some row := ⟨_, List.getElem?_eq_getElem h⟩
     have hc := q0x (f := tot z8) hg
     have hc2 := y0n (tot z8) rr (i + 1)
     obtain ⟨x0, rfl, h0⟩ := q03 (hw.2 row (List.mem_of_getElem? hg))
     refine xs rfl (nn_ _) (y9 rfl _ hg (xs rfl rfl ?_))
     refine z7 rfl (q4k _ _ h0 hb (y0k p1 p0)) rfl ⟨⟨trivial, trivial⟩, trivial, trivial⟩ ?_
     refine xb rfl ?_ ?_ <;> intro hn
     · have hn : szn (szn b (rr.length + z00 (tot z8) (rr.take i))) (tot z8 [.l x0]) < 0 := by simpa using hn
       rw [zj hb] at hn
       exact xv rfl rfl rfl (by show Value.int _ _ = Value.int _ _; congr 1; unfold szn ym at *; split at hn <;> rw [if_pos] <;> omega)
     · have hn : ¬ szn (szn b (rr.length + z00 (tot z8) (rr.take i))) (tot z8 [.l x0]) < 0 := by simpa using hn
       have he := zj (n := tot z8 [.l x0]) hb
       rw [he] at hn
       rw [Nat.add_assoc, ← hc] at he hn
       refine q9 rfl (hJ _ (i + 1) ⟨by omega, by omega⟩ (by omega) ?_)
       refine ⟨⟨cwi (by omega) (by omega) (by omega), ?_, rfl, trivial⟩, trivial, rfl⟩
       exact congrArg (fun n => Cell.s (.int .i64 n)) he
   · have h : ¬ i < rr.length := by simpa using h
     have : i = rr.length := by omega
     subst this
     exact xv rfl rfl rfl (by show Value.int _ _ = Value.int _ _; rw [List.take_length]; rfl)
theorem y94 (x0 : Int) (x1 : Int) (x2 : Int) (x3 : Int) (x4 : List (List Cell)) (x5 : List (List Cell)) (b : Int) (h4 : WR 9223372036854775807 (.i .i64 .nil) x4) (h5 : WR 9223372036854775807 yk x5) (hb0 : 0 ≤ b) (hb1 : b ≤ 1048576) : PC Tryz.prog 249 [.agg [.s (.int .i64 x0), .s (.int .i64 x1), .s (.int .i64 x2), .s (.int .i64 x3), .l x4, .l x5], .one (.s (.int .i64 b))] (rI (szn b (tot zp [.s (.int .i64 x0), .s (.int .i64 x1), .s (.int .i64 x2), .s (.int .i64 x3), .l x4, .l x5]))) := by
 refine PC.begin Tryz.func249 rfl (by kernel_rfl) ?_
 have ht : tot zp [.s (.int .i64 x0), .s (.int .i64 x1), .s (.int .i64 x2), .s (.int .i64 x3), .l x4, .l x5] = ym (.i .i64 .nil) x4 + ym yk x5 := by simp only [tot, ym] <;> omega
 refine z7 rfl (q3g x4 b h4 hb0 hb1) rfl tv3 ?_
 refine xb rfl (fun h => ?_) (fun e0 => ?_)
 · have h : szn b (ym (.i .i64 .nil) x4) < 0 := by simpa using h
   exact xv rfl rfl rfl (by show Value.int _ _ = Value.int _ _; congr 1; rw [ht]; unfold szn at *; split at h <;> rw [if_pos] <;> omega)
 have e0 : 0 ≤ szn b (ym (.i .i64 .nil) x4) := by simpa using e0
 refine z7 rfl (q3y x5 (szn b (ym (.i .i64 .nil) x4)) h5 e0 (y0k hb1 hb0)) rfl tv3 ?_
 refine xb rfl (fun h => ?_) (fun e1 => ?_)
 · have h : szn (szn b (ym (.i .i64 .nil) x4)) (ym yk x5) < 0 := by simpa using h
   rw [zj e0] at h
   exact xv rfl rfl rfl (by show Value.int _ _ = Value.int _ _; congr 1; rw [ht]; unfold szn at *; split at h <;> rw [if_pos] <;> omega)
 have e1 : 0 ≤ szn b (ym (.i .i64 .nil) x4 + ym yk x5) := by rw [← zj e0]; simpa using e1
 rw [zj e0]
 exact xv rfl rfl rfl (by show Value.int _ _ = Value.int _ _; rw [ht])
theorem q8b (rr : List (List Cell)) (b : Int) (hw : WR 9223372036854775807 zp rr) (p0 : 0 ≤ b) (p1 : b ≤ 1048576) : PC Tryz.prog 173 [.one (.l rr), .one (.s (.int .i64 b))] (rI (szn b (ym zp rr))) := by
 refine PC.begin Tryz.func173 rfl (by kernel_rfl) ?_
 have hlen := hw.1
 have w1 : IntKind.i64.wrap (b - rr.length) = b - rr.length := wrap_i64 (by omega) (by omega)
 refine xb rfl ?_ ?_ <;> intro h
 · simp only [w1, decide_eq_true_eq] at h
   exact xv rfl rfl rfl (by show Value.int _ _ = Value.int _ _; unfold szn ym; rw [if_pos (by omega)])
 simp only [w1, decide_eq_false_iff_not] at h
 have hs : szn b rr.length = b - rr.length := by unfold szn; rw [if_neg h]
 refine qc rfl (ι := Nat) (fun i => i ≤ rr.length ∧ 0 ≤ szn b (rr.length + z00 (tot zp) (rr.take i))) (fun i => ⟨[(5, sV (.int .i64 i)), (1, sV (.int .i64 (szn b (rr.length + z00 (tot zp) (rr.take i))))), (0, .one (.b (.l rr)))], []⟩) (fun i => rr.length - i) 0 ⟨Nat.zero_le _, by simp only [List.take_zero, z00, Nat.add_zero, hs]; omega⟩ ?_ ?_
 · refine ⟨⟨rfl, ?_, rfl, trivial⟩, trivial, rfl⟩
   show Cell.s (.int .i64 (IntKind.i64.wrap (b - rr.length))) = Cell.s (.int .i64 (szn b (rr.length + 0)))
   rw [w1, Nat.add_zero, hs]
 · intro i ⟨hi, hb⟩ J hJ
   refine xb rfl ?_ ?_ <;> intro h
   · have h : i < rr.length := by simpa using h
     obtain ⟨row, hg⟩ : ∃ row, rr[i]? = some row := ⟨_, List.getElem?_eq_getElem h⟩
     have hc := q0x (f := tot zp) hg
     have hc2 := y0n (tot zp) rr (i + 1)
     obtain ⟨x0, x1, x2, x3, x4, x5, rfl, h4, h5⟩ := z1w (hw.2 row (List.mem_of_getElem? hg))
     refine xs rfl (nn_ _) (y9 rfl _ hg (xs rfl rfl ?_))
     refine z7 rfl (y94 _ _ _ _ _ _ _ h4 h5 hb (y0k p1 p0)) rfl ⟨tv7, trivial, trivial⟩ ?_
     refine xb rfl ?_ ?_ <;> intro hn
     · have hn : szn (szn b (rr.length + z00 (tot zp) (rr.take i))) (tot zp [.s (.int .i64 x0), .s (.int .i64 x1), .s (.int .i64 x2), .s (.int .i64 x3), .l x4, .l x5]) < 0 := by simpa using hn
       rw [zj hb] at hn
       exact xv rfl rfl rfl (by show Value.int _ _ = Value.int _ _; congr 1; unfold szn ym at *; split at hn <;> rw [if_pos] <;> omega)
     · have hn : ¬ szn (szn b (rr.length + z00 (tot zp) (rr.take i))) (tot zp [.s (.int .i64 x0), .s (.int .i64 x1), .s (.int .i64 x2), .s (.int .i64 x3), .l x4, .l x5]) < 0 := by simpa using hn
       have he := zj (n := tot zp [.s (.int .i64 x0), .s (.int .i64 x1), .s (.int .i64 x2), .s (.int .i64 x3), .l x4, .l x5]) hb
       rw [he] at hn
       rw [Nat.add_assoc, ← hc] at he hn
       refine q9 rfl (hJ _ (i + 1) ⟨by omega, by omega⟩ (by omega) ?_)
       refine ⟨⟨cwi (by omega) (by omega) (by omega), ?_, rfl, trivial⟩, trivial, rfl⟩
       exact congrArg (fun n => Cell.s (.int .i64 n)) he
   · have h : ¬ i < rr.length := by simpa using h
     have : i = rr.length := by omega
     subst this
     exact xv rfl rfl rfl (by show Value.int _ _ = Value.int _ _; rw [List.take_length]; rfl)
theorem z5y (rr : List (List Cell)) (b : Int) (hw : WR 9223372036854775807 zm rr) (p0 : 0 ≤ b) (p1 : b ≤ 1048576) : PC Tryz.prog 174 [.one (.l rr), .one (.s (.int .i64 b))] (rI (szn b (ym zm rr))) := by
 refine PC.begin Tryz.func174 rfl (by kernel_rfl) ?_
 have hlen := hw.1
 have w1 : IntKind.i64.wrap (b - rr.length) = b - rr.length := wrap_i64 (by omega) (by omega)
 rw [y0r (fun row hr => by obtain ⟨x0, x1, x2, x3, x4, rfl⟩ := q0o hr; rfl) hw]
 refine xb rfl ?_ ?_ <;> intro h
 · simp only [w1, decide_eq_true_eq] at h
   exact xv rfl rfl rfl (by show Value.int _ _ = Value.int _ _; rw [szn, if_pos h])
 · simp only [w1, decide_eq_false_iff_not] at h
   exact xv rfl rfl rfl (by show Value.int .i64 (IntKind.i64.wrap (b - rr.length)) = Value.int _ _; rw [szn, if_neg h, w1])
theorem y5y (x0 : Int) (x1 : List (List Cell)) (x2 : List (List Cell)) (b : Int) (h1 : WR 9223372036854775807 zp x1) (h2 : WR 9223372036854775807 zm x2) (hb0 : 0 ≤ b) (hb1 : b ≤ 1048576) : PC Tryz.prog 97 [.agg [.s (.int .i64 x0), .l x1, .l x2], .one (.s (.int .i64 b))] (rI (szn b (tot qa [.s (.int .i64 x0), .l x1, .l x2]))) := by
 refine PC.begin Tryz.func97 rfl (by kernel_rfl) ?_
 have ht : tot qa [.s (.int .i64 x0), .l x1, .l x2] = ym zp x1 + ym zm x2 := by simp only [tot, ym] <;> omega
 refine z7 rfl (q8b x1 b h1 hb0 hb1) rfl tv3 ?_
 refine xb rfl (fun h => ?_) (fun e0 => ?_)
 · have h : szn b (ym zp x1) < 0 := by simpa using h
   exact xv rfl rfl rfl (by show Value.int _ _ = Value.int _ _; congr 1; rw [ht]; unfold szn at *; split at h <;> rw [if_pos] <;> omega)
 have e0 : 0 ≤ szn b (ym zp x1) := by simpa using e0
 refine z7 rfl (z5y x2 (szn b (ym zp x1)) h2 e0 (y0k hb1 hb0)) rfl tv3 ?_
 refine xb rfl (fun h => ?_) (fun e1 => ?_)
 · have h : szn (szn b (ym zp x1)) (ym zm x2) < 0 := by simpa using h
   rw [zj e0] at h
   exact xv rfl rfl rfl (by show Value.int _ _ = Value.int _ _; congr 1; rw [ht]; unfold szn at *; split at h <;> rw [if_pos] <;> omega)
 have e1 : 0 ≤ szn b (ym zp x1 + ym zm x2) := by rw [← zj e0]; simpa using e1
 rw [zj e0]
 exact xv rfl rfl rfl (by show Value.int _ _ = Value.int _ _; rw [ht])
theorem z5b (rr : List (List Cell)) (b : Int) (hw : WR 9223372036854775807 qa rr) (p0 : 0 ≤ b) (p1 : b ≤ 1048576) : PC Tryz.prog 36 [.one (.l rr), .one (.s (.int .i64 b))] (rI (szn b (ym qa rr))) := by
 refine PC.begin Tryz.func36 rfl (by kernel_rfl) ?_
 have hlen := hw.1
 have w1 : IntKind.i64.wrap (b - rr.length) = b - rr.length := wrap_i64 (by omega) (by omega)
 refine xb rfl ?_ ?_ <;> intro h
 · simp only [w1, decide_eq_true_eq] at h
   exact xv rfl rfl rfl (by show Value.int _ _ = Value.int _ _; unfold szn ym; rw [if_pos (by omega)])
 simp only [w1, decide_eq_false_iff_not] at h
 have hs : szn b rr.length = b - rr.length := by unfold szn; rw [if_neg h]
 refine qc rfl (ι := Nat) (fun i => i ≤ rr.length ∧ 0 ≤ szn b (rr.length + z00 (tot qa) (rr.take i))) (fun i => ⟨[(5, sV (.int .i64 i)), (1, sV (.int .i64 (szn b (rr.length + z00 (tot qa) (rr.take i))))), (0, .one (.b (.l rr)))], []⟩) (fun i => rr.length - i) 0 ⟨Nat.zero_le _, by simp only [List.take_zero, z00, Nat.add_zero, hs]; omega⟩ ?_ ?_
 · refine ⟨⟨rfl, ?_, rfl, trivial⟩, trivial, rfl⟩
   show Cell.s (.int .i64 (IntKind.i64.wrap (b - rr.length))) = Cell.s (.int .i64 (szn b (rr.length + 0)))
   rw [w1, Nat.add_zero, hs]
 · intro i ⟨hi, hb⟩ J hJ
   refine xb rfl ?_ ?_ <;> intro h
   · have h : i < rr.length := by simpa using h
     obtain ⟨row, hg⟩ : ∃ row, rr[i]? = some row := ⟨_, List.getElem?_eq_getElem h⟩
     have hc := q0x (f := tot qa) hg
     have hc2 := y0n (tot qa) rr (i + 1)
     obtain ⟨x0, x1, x2, rfl, h1, h2⟩ := q0d (hw.2 row (List.mem_of_getElem? hg))
     refine xs rfl (nn_ _) (y9 rfl _ hg (xs rfl rfl ?_))
     refine z7 rfl (y5y _ _ _ _ h1 h2 hb (y0k p1 p0)) rfl ⟨tv4, trivial, trivial⟩ ?_
     refine xb rfl ?_ ?_ <;> intro hn
     · have hn : szn (szn b (rr.length + z00 (tot qa) (rr.take i))) (tot qa [.s (.int .i64 x0), .l x1, .l x2]) < 0 := by simpa using hn
       rw [zj hb] at hn
       exact xv rfl rfl rfl (by show Value.int _ _ = Value.int _ _; congr 1; unfold szn ym at *; split at hn <;> rw [if_pos] <;> omega)
     · have hn : ¬ szn (szn b (rr.length + z00 (tot qa) (rr.take i))) (tot qa [.s (.int .i64 x0), .l x1, .l x2]) < 0 := by simpa using hn
       have he := zj (n := tot qa [.s (.int .i64 x0), .l x1, .l x2]) hb
       rw [he] at hn
       rw [Nat.add_assoc, ← hc] at he hn
       refine q9 rfl (hJ _ (i + 1) ⟨by omega, by omega⟩ (by omega) ?_)
       refine ⟨⟨cwi (by omega) (by omega) (by omega), ?_, rfl, trivial⟩, trivial, rfl⟩
       exact congrArg (fun n => Cell.s (.int .i64 n)) he
   · have h : ¬ i < rr.length := by simpa using h
     have : i = rr.length := by omega
     subst this
     exact xv rfl rfl rfl (by show Value.int _ _ = Value.int _ _; rw [List.take_length]; rfl)
theorem q4l (rr : List (List Cell)) (b : Int) (hw : WR 9223372036854775807 yb rr) (p0 : 0 ≤ b) (p1 : b ≤ 1048576) : PC Tryz.prog 37 [.one (.l rr), .one (.s (.int .i64 b))] (rI (szn b (ym yb rr))) := by
 refine PC.begin Tryz.func37 rfl (by kernel_rfl) ?_
 have hlen := hw.1
 have w1 : IntKind.i64.wrap (b - rr.length) = b - rr.length := wrap_i64 (by omega) (by omega)
 rw [y0r (fun row hr => by obtain ⟨x0, x1, x2, x3, x4, x5, x6, x7, x8, rfl⟩ := z09 hr; rfl) hw]
 refine xb rfl ?_ ?_ <;> intro h
 · simp only [w1, decide_eq_true_eq] at h
   exact xv rfl rfl rfl (by show Value.int _ _ = Value.int _ _; rw [szn, if_pos h])
 · simp only [w1, decide_eq_false_iff_not] at h
   exact xv rfl rfl rfl (by show Value.int .i64 (IntKind.i64.wrap (b - rr.length)) = Value.int _ _; rw [szn, if_neg h, w1])
theorem q5a (x0 : List (List Cell)) (x1 : List (List Cell)) (x2 : List (List Cell)) (x3 : List (List Cell)) (x4 : List (List Cell)) (b : Int) (h0 : WR 9223372036854775807 q7 x0) (h1 : WR 9223372036854775807 zb x1) (h2 : WR 9223372036854775807 z8 x2) (h3 : WR 9223372036854775807 qa x3) (h4 : WR 9223372036854775807 yb x4) (hb0 : 0 ≤ b) (hb1 : b ≤ 1048576) : PC Tryz.prog 10 [.agg [.l x0, .l x1, .l x2, .l x3, .l x4], .one (.s (.int .i64 b))] (rI (szn b (tot yd [.l x0, .l x1, .l x2, .l x3, .l x4]))) := by
 refine PC.begin Tryz.func10 rfl (by kernel_rfl) ?_
 have ht : tot yd [.l x0, .l x1, .l x2, .l x3, .l x4] = ym q7 x0 + ym zb x1 + ym z8 x2 + ym qa x3 + ym yb x4 := by simp only [tot, ym] <;> omega
 refine z7 rfl (z1s x0 b h0 hb0 hb1) rfl tv3 ?_
 refine xb rfl (fun h => ?_) (fun e0 => ?_)
 · have h : szn b (ym q7 x0) < 0 := by simpa using h
   exact xv rfl rfl rfl (by show Value.int _ _ = Value.int _ _; congr 1; rw [ht]; unfold szn at *; split at h <;> rw [if_pos] <;> omega)
 have e0 : 0 ≤ szn b (ym q7 x0) := by simpa using e0
 refine z7 rfl (q5y x1 (szn b (ym q7 x0)) h1 e0 (y0k hb1 hb0)) rfl tv3 ?_
 refine xb rfl (fun h => ?_) (fun e1 => ?_)
 · have h : szn (szn b (ym q7 x0)) (ym zb x1) < 0 := by simpa using h
   rw [zj e0] at h
   exact xv rfl rfl rfl (by show Value.int _ _ = Value.int _ _; congr 1; rw [ht]; unfold szn at *; split at h <;> rw [if_pos] <;> omega)
 have e1 : 0 ≤ szn b (ym q7 x0 + ym zb x1) := by rw [← zj e0]; simpa using e1
 rw [zj e0]
 refine z7 rfl (q3q x2 (szn b (ym q7 x0 + ym zb x1)) h2 e1 (y0k hb1 hb0)) rfl tv3 ?_
 refine xb rfl (fun h => ?_) (fun e2 => ?_)
 · have h : szn (szn b (ym q7 x0 + ym zb x1)) (ym z8 x2) < 0 := by simpa using h
   rw [zj e1] at h
   exact xv rfl rfl rfl (by show Value.int _ _ = Value.int _ _; congr 1; rw [ht]; unfold szn at *; split at h <;> rw [if_pos] <;> omega)
 have e2 : 0 ≤ szn b (ym q7 x0 + ym zb x1 + ym z8 x2) := by rw [← zj e1]; simpa using e2
 rw [zj e1]
 refine z7 rfl (z5b x3 (szn b (ym q7 x0 + ym zb x1 + ym z8 x2)) h3 e2 (y0k hb1 hb0)) rfl tv3 ?_
 refine xb rfl (fun h => ?_) (fun e3 => ?_)
 · have h : szn (szn b (ym q7 x0 + ym zb x1 + ym z8 x2)) (ym qa x3) < 0 := by simpa using h
   rw [zj e2] at h
   exact xv rfl rfl rfl (by show Value.int _ _ = Value.int _ _; congr 1; rw [ht]; unfold szn at *; split at h <;> rw [if_pos] <;> omega)
 have e3 : 0 ≤ szn b (ym q7 x0 + ym zb x1 + ym z8 x2 + ym qa x3) := by rw [← zj e2]; simpa using e3
 rw [zj e2]
 refine z7 rfl (q4l x4 (szn b (ym q7 x0 + ym zb x1 + ym z8 x2 + ym qa x3)) h4 e3 (y0k hb1 hb0)) rfl tv3 ?_
 refine xb rfl (fun h => ?_) (fun e4 => ?_)
 · have h : szn (szn b (ym q7 x0 + ym zb x1 + ym z8 x2 + ym qa x3)) (ym yb x4) < 0 := by simpa using h
   rw [zj e3] at h
   exact xv rfl rfl rfl (by show Value.int _ _ = Value.int _ _; congr 1; rw [ht]; unfold szn at *; split at h <;> rw [if_pos] <;> omega)
 have e4 : 0 ≤ szn b (ym q7 x0 + ym zb x1 + ym z8 x2 + ym qa x3 + ym yb x4) := by rw [← zj e3]; simpa using e4
 rw [zj e3]
 exact xv rfl rfl rfl (by show Value.int _ _ = Value.int _ _; rw [ht])
end Go.Proofs.YtbnbjaedijbnpaaGreat
end
section
namespace Go.Proofs.YtbnbjaedijbnpaaGreat
open Go Go.Sx
set_option maxRecDepth 20000
set_option maxHeartbeats 4000000
theorem zan (x0 x1 x2 x3 x4 : List (List Cell)) (hw : WT 9223372036854775807 yd [.l x0, .l x1, .l x2, .l x3, .l x4]) (b : Nat) (hb : b ≤ 1048576) :
 PC Tryz.prog 10 [.agg [.l x0, .l x1, .l x2, .l x3, .l x4], .one (i64 b)] (rI (-1)) ∨ ∃ c : Clu, x0 = c.cons.map Con.cs ∧ x1 = c.shs.map Shd.cs ∧ x2 = c.accs.map Acc.cs ∧ x3 = c.ldrs.map Ldr.cs ∧ x4 = c.msgs.map Msg.cs ∧ y00 c ∧ (WT 1048576 yd c.cs ∧ tot yd c.cs ≤ b) ∧
  (∃ n : Nat, n ≤ b ∧ PC Tryz.prog 10 [.agg c.cs, .one (i64 b)] (rI n)) ∧ PC Tryz.prog 13 [.agg c.cs] (.one (.own true [.l 2 (c.cons.map Con.cs), .l 6 (c.shs.map Shd.cs), .l 1 (c.accs.map Acc.cs), .l 3 (c.ldrs.map Ldr.cs), .l 9 (c.msgs.map Msg.cs)])) ∧
  PC Tryz.prog 16 [.agg c.cs, .agg c.cs] (rB true) := by
 obtain ⟨_, _, _, _, _, e, k0, k1, k2, k3, k4⟩ := z04 hw
 cases e
 have hsz := q5a x0 x1 x2 x3 x4 b k0 k1 k2 k3 k4 (by omega) (by omega)
 by_cases ht : tot yd [.l x0, .l x1, .l x2, .l x3, .l x4] ≤ b
 · right
   have hs : szn b (tot yd [.l x0, .l x1, .l x2, .l x3, .l x4]) = ((b - tot yd [.l x0, .l x1, .l x2, .l x3, .l x4] : Nat) : Int) := by
    unfold szn; rw [if_neg (by omega)]; omega
   rw [hs] at hsz
   have hwt := qb0 hw (Nat.le_trans ht hb)
   obtain ⟨_, _, _, _, _, e, m0, m1, m2, m3, m4⟩ := z04 hwt
   cases e
   obtain ⟨c, ec, ho⟩ := q4s _ hwt
   have up : ∀ {e : Sh} {r : List (List Cell)}, WR 1048576 e r → WR 9000000000000000000 e r := fun h => h.mono (by omega)
   have heq := z2j x0 x1 x2 x3 x4 x0 x1 x2 x3 x4 (up m0) (up m1) (up m2) (up m3) (up m4) (up m0) (up m1) (up m2) (up m3) (up m4)
   rw [show dE (α := List Cell) [.l x0, .l x1, .l x2, .l x3, .l x4] [.l x0, .l x1, .l x2, .l x3, .l x4] = true from (Value.bool.inj (zx rfl)).symm] at heq
   have hto := q5b x0 x1 x2 x3 x4 m0 m1 m2 m3 m4
   simp only [Clu.cs, List.cons.injEq, Cell.l.injEq, and_true] at ec
   obtain ⟨rfl, rfl, rfl, rfl, rfl⟩ := ec
   exact ⟨c, rfl, rfl, rfl, rfl, rfl, ho, ⟨hwt, ht⟩, ⟨_, Nat.sub_le _ _, hsz⟩, hto, heq⟩
 · left
   have hs : szn b (tot yd [.l x0, .l x1, .l x2, .l x3, .l x4]) = -1 := by
    unfold szn; rw [if_pos (by omega)]
   rw [hs] at hsz
   exact hsz
theorem y8m (c : Clu) (h : WT 1048576 yd c.cs ∧ tot yd c.cs ≤ 1048576) : ∃ (k : Int) (r0 r1 r2 r3 r4 : List (List Cell)), 0 ≤ k ∧
 PG Tryz.prog 25 [.agg [.giv true 2 (c.cons.map Con.cs), .giv true 6 (c.shs.map Shd.cs), .giv true 1 (c.accs.map Acc.cs), .giv true 3 (c.ldrs.map Ldr.cs), .giv true 9 (c.msgs.map Msg.cs)], .one (.bor (i64 1))] (rI k) [(0, r0), (1, r1), (2, r2), (3, r3), (4, r4)] := by
 obtain ⟨h, ht⟩ := h
 obtain ⟨_, _, _, _, _, e, m0, m1, m2, m3, m4⟩ := z04 h
 cases e
 have up : ∀ {e : Sh} {r : List (List Cell)}, WR 1048576 e r → WR 9000000000000000000 e r := fun h => h.mono (by omega)
 have hm := z1r 2 6 1 3 9 _ _ _ _ _ 1 _ _ _ _ _ (up m0) (up m1) (up m2) (up m3) (up m4) rfl rfl rfl rfl rfl
 have hc := q9d h
 have hw : wid yd = 0 := rfl
 have hw2 : q4n yd = 48 := rfl
 rw [hw, hw2] at hc
 have hk := (z7x h 1 (by omega) (by omega)).2
 exact ⟨_, _, _, _, _, _, by
  show 0 ≤ (mk yd c.cs 1).2
  rw [hk]; omega, hm⟩
abbrev zbu (c : Clu) : List OC := [.l 2 (c.cons.map Con.cs), .l 6 (c.shs.map Shd.cs), .l 1 (c.accs.map Acc.cs), .l 3 (c.ldrs.map Ldr.cs), .l 9 (c.msgs.map Msg.cs)]
abbrev qaw (code : Int) (c : Clu) : Res := .one (.own true (.s (.int .i64 code) :: zbu c))
theorem q9q (c : Clu) (h : WT 1048576 yd c.cs) (hsz : tot yd c.cs ≤ 4194304) : ∃ (k : Int) (r0 r1 r2 r3 r4 : List (List Cell)), 0 ≤ k ∧ (r0.length = (c.cons.map Con.cs).length ∧ r1.length = (c.shs.map Shd.cs).length ∧ r2.length = (c.accs.map Acc.cs).length ∧ r3.length = (c.ldrs.map Ldr.cs).length ∧ r4.length = (c.msgs.map Msg.cs).length) ∧
 (∀ code : Int, PG Tryz.prog 26 [.agg [.bor (.s (.int .i64 code)), .giv true 2 (c.cons.map Con.cs), .giv true 6 (c.shs.map Shd.cs), .giv true 1 (c.accs.map Acc.cs), .giv true 3 (c.ldrs.map Ldr.cs), .giv true 9 (c.msgs.map Msg.cs)], .one (.bor (i64 1))] (rI k) [(1, r0), (2, r1), (3, r2), (4, r3), (5, r4)]) ∧
 ∀ code : Int, PC Tryz.prog 27 [.agg [.s (.int .i64 code), .l r0, .l r1, .l r2, .l r3, .l r4], .one (i64 1)] (rI k) := by
 obtain ⟨_, _, _, _, _, e, m0, m1, m2, m3, m4⟩ := z04 h
 cases e
 have up : ∀ {e : Sh} {r : List (List Cell)}, WR 1048576 e r → WR 9000000000000000000 e r := fun h => h.mono (by omega)
 have hc := q9d h
 have hw : wid yd = 0 := rfl
 have hw2 : q4n yd = 48 := rfl
 rw [hw, hw2] at hc
 obtain ⟨h1, h2⟩ := z7x h 1 (by omega) (by omega)
 refine ⟨(mk yd c.cs 1).2, _, _, _, _, _, by rw [h2]; omega, ⟨zo _ _ _, zo _ _ _, zo _ _ _, zo _ _ _, zo _ _ _⟩, fun code => q1o 2 6 1 3 9 code _ _ _ _ _ 1 _ _ _ _ _ (up m0) (up m1) (up m2) (up m3) (up m4) rfl rfl rfl rfl rfl, fun code => ?_⟩
 have hh := z1o code _ _ _ _ _ 1 (z53 (up m0) 1) (z53 (up m1) (mkR (mk q7) (c.cons.map Con.cs) 1).2) (z53 (up m2) (mkR (mk zb) (c.shs.map Shd.cs) (mkR (mk q7) (c.cons.map Con.cs) 1).2).2)
  (z53 (up m3) (mkR (mk z8) (c.accs.map Acc.cs) (mkR (mk zb) (c.shs.map Shd.cs) (mkR (mk q7) (c.cons.map Con.cs) 1).2).2).2)
  (z53 (up m4) (mkR (mk qa) (c.ldrs.map Ldr.cs) (mkR (mk z8) (c.accs.map Acc.cs) (mkR (mk zb) (c.shs.map Shd.cs) (mkR (mk q7) (c.cons.map Con.cs) 1).2).2).2).2) (by omega)
 have e : ng (hd yd (mk yd c.cs 1).1 1) = (mk yd c.cs 1).2 := by rw [h1, h2]; rfl
 rw [← e]
 exact hh
theorem z9r (c : Clu) (h : WT 1048576 yd c.cs) (code : Int) : PC Tryz.prog 24 [.agg (.s (.int .i64 code) :: c.cs), .agg (.s (.int .i64 code) :: c.cs)] (rB true) := by
 obtain ⟨_, _, _, _, _, e, m0, m1, m2, m3, m4⟩ := z04 h
 cases e
 have up : ∀ {e : Sh} {r : List (List Cell)}, WR 1048576 e r → WR 9000000000000000000 e r := fun h => h.mono (by omega)
 have h := q20 code _ _ _ _ _ code _ _ _ _ _ (up m0) (up m1) (up m2) (up m3) (up m4) (up m0) (up m1) (up m2) (up m3) (up m4)
 rwa [show dE (α := List Cell) (.s (.int .i64 code) :: c.cs) (.s (.int .i64 code) :: c.cs) = true from (Value.bool.inj (zx rfl)).symm] at h
theorem yb0 (N : Nat) (m : Msg) : WT N yb m.cs := .i _ (.i _ (.i _ (.i _ (.i _ (.i _ (.i _ (.i _ (.i _ .nil))))))))
theorem y6i : ∀ ms : List Msg, z00 (tot yb) (ms.map Msg.cs) = 0
 | [] => rfl
 | m :: ms => by
   rw [List.map_cons, z00, y6i ms]; rfl
theorem ybm {c : Clu} (h : WT 1048576 yd c.cs ∧ tot yd c.cs ≤ 1048576) {ms : List Msg} (hm : ms.length ≤ 1048576) : WT 1048576 yd (c.wm ms).cs ∧ tot yd (c.wm ms).cs ≤ 4194304 := by
 obtain ⟨h, hs⟩ := h
 obtain ⟨_, _, _, _, _, e, m0, m1, m2, m3, m4⟩ := z04 h
 cases e
 refine ⟨.l _ m0.1 m0.2 (.l _ m1.1 m1.2 (.l _ m2.1 m2.2 (.l _ m3.1 m3.2 (.l _ (by rw [List.length_map]; exact hm) (fun row hr => ?_) .nil)))), ?_⟩
 · obtain ⟨m, _, rfl⟩ := List.mem_map.1 hr
   exact yb0 _ m
 · have e1 : tot yd (c.wm ms).cs = (c.cons.map Con.cs).length + z00 (tot q7) (c.cons.map Con.cs) + ((c.shs.map Shd.cs).length + z00 (tot zb) (c.shs.map Shd.cs) + ((c.accs.map Acc.cs).length + z00 (tot z8) (c.accs.map Acc.cs) + ((c.ldrs.map Ldr.cs).length + z00 (tot qa) (c.ldrs.map Ldr.cs) + ((ms.map Msg.cs).length + z00 (tot yb) (ms.map Msg.cs) + 0)))) := rfl
   have e2 : tot yd c.cs = (c.cons.map Con.cs).length + z00 (tot q7) (c.cons.map Con.cs) + ((c.shs.map Shd.cs).length + z00 (tot zb) (c.shs.map Shd.cs) + ((c.accs.map Acc.cs).length + z00 (tot z8) (c.accs.map Acc.cs) + ((c.ldrs.map Ldr.cs).length + z00 (tot qa) (c.ldrs.map Ldr.cs) + ((c.msgs.map Msg.cs).length + z00 (tot yb) (c.msgs.map Msg.cs) + 0)))) := rfl
   rw [y6i] at e1 e2
   simp only [List.length_map] at e1 e2
   omega
theorem ybs : WT 1048576 yd y67.cs ∧ tot yd y67.cs ≤ 4194304 :=
 ⟨.l _ (Nat.zero_le _) (fun _ h => by cases h) (.l _ (Nat.zero_le _) (fun _ h => by cases h) (.l _ (Nat.zero_le _) (fun _ h => by cases h) (.l _ (Nat.zero_le _) (fun _ h => by cases h) (.l _ (Nat.zero_le _) (fun _ h => by cases h) .nil)))), Nat.zero_le _⟩
theorem z8o {c : Clu} (h : WT 1048576 yd c.cs ∧ tot yd c.cs ≤ 1048576) (k : Int) : WT 1048576 yd (q1b c k).2.cs ∧ tot yd (q1b c k).2.cs ≤ 4194304 := by
 unfold q1b
 split
 · exact ybs
 · rename_i hc
   split
   · exact ybs
   · have := (q67 (c := c) (by simpa using hc)).1
     exact ybm h (by simp only [List.length_append, List.length_take, List.length_drop]; omega)
theorem qa8 (us : List Vt) : yp (us.map Vt.cs) := fun row hr => by
 obtain ⟨x, _, rfl⟩ := List.mem_map.1 hr
 intro c hc
 simp only [Vt.cs, List.mem_cons, List.not_mem_nil, or_false] at hc
 rcases hc with rfl | rfl <;> exact ⟨_, rfl⟩
theorem y86 (us : List Msg) : yp (us.map Msg.cs) := fun row hr => by
 obtain ⟨x, _, rfl⟩ := List.mem_map.1 hr
 intro c hc
 simp only [Msg.cs, List.mem_cons, List.not_mem_nil, or_false] at hc
 rcases hc with rfl | rfl | rfl | rfl | rfl | rfl | rfl | rfl | rfl <;> exact ⟨_, rfl⟩
theorem qax (us : List Hd) : yp (us.map Hd.cs) := fun row hr => by
 obtain ⟨x, _, rfl⟩ := List.mem_map.1 hr
 intro c hc
 simp only [Hd.cs, List.mem_cons, List.not_mem_nil, or_false] at hc
 rcases hc with rfl | rfl | rfl | rfl | rfl <;> exact ⟨_, rfl⟩
theorem y9i (us : List Bal) : yp (us.map Bal.cs) := fun row hr => by
 obtain ⟨x, _, rfl⟩ := List.mem_map.1 hr
 intro c hc
 simp only [Bal.cs, List.mem_cons, List.not_mem_nil, or_false] at hc
 rcases hc with rfl | rfl | rfl <;> exact ⟨_, rfl⟩
theorem ya8 (us : List Mk) : yp (us.map Mk.cs) := fun row hr => by
 obtain ⟨x, _, rfl⟩ := List.mem_map.1 hr
 intro c hc
 simp only [Mk.cs, List.mem_cons, List.not_mem_nil, or_false] at hc
 rcases hc with rfl | rfl <;> exact ⟨_, rfl⟩
theorem q9i (us : List Leg) : yp (us.map Leg.cs) := fun row hr => by
 obtain ⟨x, _, rfl⟩ := List.mem_map.1 hr
 intro c hc
 simp only [Leg.cs, List.mem_cons, List.not_mem_nil, or_false] at hc
 rcases hc with rfl | rfl | rfl | rfl <;> exact ⟨_, rfl⟩
theorem z5w (us : List Int) : yp (ints us) := fun row hr => by
 simp only [ints, List.mem_map] at hr
 obtain ⟨x, _, rfl⟩ := hr
 intro c hc
 exact ⟨_, by simpa using hc⟩
theorem y2i (us : List Vt) (hl : us.length ≤ 1048576) : PC Tryz.prog 301 [.one (.l (us.map Vt.cs))] (.one (.own false [.l 2 (us.map Vt.cs)])) := by
 refine PC.begin Tryz.func301 rfl (by kernel_rfl) ?_
 have hsc := qa8 us
 refine yaa rfl (fun b0 b0' => ?_)
 refine xb rfl ?_ ?_ <;> intro b1
 refine xr rfl (qm rfl ⟨⟨rfl, ?_, trivial⟩, z6 rfl⟩); rotate_left
 refine xs rfl trivial (xs rfl rfl (xs rfl (by simp) (xs rfl (fun _ => hsc) (xs rfl (by simp; omega) (xs rfl (by simp; omega) ?_)))))
 refine xr rfl (qm rfl ⟨⟨rfl, ⟨?_, rfl, .inl rfl⟩, trivial⟩, z6 rfl⟩); rotate_left
 · exact b0' b1
 · simp
theorem z2y (us : List Msg) (hl : us.length ≤ 1048576) : PC Tryz.prog 325 [.one (.l (us.map Msg.cs))] (.one (.own false [.l 9 (us.map Msg.cs)])) := by
 refine PC.begin Tryz.func325 rfl (by kernel_rfl) ?_
 have hsc := y86 us
 refine yaa rfl (fun b0 b0' => ?_)
 refine xb rfl ?_ ?_ <;> intro b1
 refine xr rfl (qm rfl ⟨⟨rfl, ?_, trivial⟩, z6 rfl⟩); rotate_left
 refine xs rfl trivial (xs rfl rfl (xs rfl (by simp) (xs rfl (fun _ => hsc) (xs rfl (by simp; omega) (xs rfl (by simp; omega) ?_)))))
 refine xr rfl (qm rfl ⟨⟨rfl, ⟨?_, rfl, .inl rfl⟩, trivial⟩, z6 rfl⟩); rotate_left
 · exact b0' b1
 · simp
theorem q45 (us : List Hd) (hl : us.length ≤ 1048576) : PC Tryz.prog 328 [.one (.l (us.map Hd.cs))] (.one (.own false [.l 5 (us.map Hd.cs)])) := by
 refine PC.begin Tryz.func328 rfl (by kernel_rfl) ?_
 have hsc := qax us
 refine yaa rfl (fun b0 b0' => ?_)
 refine xb rfl ?_ ?_ <;> intro b1
 refine xr rfl (qm rfl ⟨⟨rfl, ?_, trivial⟩, z6 rfl⟩); rotate_left
 refine xs rfl trivial (xs rfl rfl (xs rfl (by simp) (xs rfl (fun _ => hsc) (xs rfl (by simp; omega) (xs rfl (by simp; omega) ?_)))))
 refine xr rfl (qm rfl ⟨⟨rfl, ⟨?_, rfl, .inl rfl⟩, trivial⟩, z6 rfl⟩); rotate_left
 · exact b0' b1
 · simp
theorem y2x (us : List Bal) (hl : us.length ≤ 1048576) : PC Tryz.prog 362 [.one (.l (us.map Bal.cs))] (.one (.own false [.l 3 (us.map Bal.cs)])) := by
 refine PC.begin Tryz.func362 rfl (by kernel_rfl) ?_
 have hsc := y9i us
 refine yaa rfl (fun b0 b0' => ?_)
 refine xb rfl ?_ ?_ <;> intro b1
 refine xr rfl (qm rfl ⟨⟨rfl, ?_, trivial⟩, z6 rfl⟩); rotate_left
 refine xs rfl trivial (xs rfl rfl (xs rfl (by simp) (xs rfl (fun _ => hsc) (xs rfl (by simp; omega) (xs rfl (by simp; omega) ?_)))))
 refine xr rfl (qm rfl ⟨⟨rfl, ⟨?_, rfl, .inl rfl⟩, trivial⟩, z6 rfl⟩); rotate_left
 · exact b0' b1
 · simp
theorem z2i (us : List Mk) (hl : us.length ≤ 1048576) : PC Tryz.prog 363 [.one (.l (us.map Mk.cs))] (.one (.own false [.l 2 (us.map Mk.cs)])) := by
 refine PC.begin Tryz.func363 rfl (by kernel_rfl) ?_
 have hsc := ya8 us
 refine yaa rfl (fun b0 b0' => ?_)
 refine xb rfl ?_ ?_ <;> intro b1
 refine xr rfl (qm rfl ⟨⟨rfl, ?_, trivial⟩, z6 rfl⟩); rotate_left
 refine xs rfl trivial (xs rfl rfl (xs rfl (by simp) (xs rfl (fun _ => hsc) (xs rfl (by simp; omega) (xs rfl (by simp; omega) ?_)))))
 refine xr rfl (qm rfl ⟨⟨rfl, ⟨?_, rfl, .inl rfl⟩, trivial⟩, z6 rfl⟩); rotate_left
 · exact b0' b1
 · simp
theorem z5i (us : List Leg) (hl : us.length ≤ 1048576) : PC Tryz.prog 381 [.one (.l (us.map Leg.cs))] (.one (.own false [.l 4 (us.map Leg.cs)])) := by
 refine PC.begin Tryz.func381 rfl (by kernel_rfl) ?_
 have hsc := q9i us
 refine yaa rfl (fun b0 b0' => ?_)
 refine xb rfl ?_ ?_ <;> intro b1
 refine xr rfl (qm rfl ⟨⟨rfl, ?_, trivial⟩, z6 rfl⟩); rotate_left
 refine xs rfl trivial (xs rfl rfl (xs rfl (by simp) (xs rfl (fun _ => hsc) (xs rfl (by simp; omega) (xs rfl (by simp; omega) ?_)))))
 refine xr rfl (qm rfl ⟨⟨rfl, ⟨?_, rfl, .inl rfl⟩, trivial⟩, z6 rfl⟩); rotate_left
 · exact b0' b1
 · simp
theorem q2x (us : List Int) (hl : us.length ≤ 1048576) : PC Tryz.prog 327 [.one (.l (ints us))] (.one (.own false [.l 1 (ints us)])) := by
 refine PC.begin Tryz.func327 rfl (by kernel_rfl) ?_
 have hsc := z5w us
 refine yaa rfl (fun b0 b0' => ?_)
 refine xb rfl ?_ ?_ <;> intro b1
 refine xr rfl (qm rfl ⟨⟨rfl, ?_, trivial⟩, z6 rfl⟩); rotate_left
 refine xs rfl trivial (xs rfl rfl (xs rfl (by simp) (xs rfl (fun _ => hsc) (xs rfl (by simp; omega) (xs rfl (by simp; omega) ?_)))))
 refine xr rfl (qm rfl ⟨⟨rfl, ⟨?_, rfl, .inl rfl⟩, trivial⟩, z6 rfl⟩); rotate_left
 · exact b0' b1
 · simp
theorem tk {α : Type} (f : α → List Cell) {us : List α} {i : Nat} {x : α} (hx : us[i]? = some x) : (us.take (i + 1)).map f = (us.take i).map f ++ [f x] := by
 rw [List.take_add_one, hx]; simp
theorem y30 (x : Con) (hl : x.legs.length ≤ 1048576) : PC Tryz.prog 360 [.agg x.cs] (.one (.own true [.s (.int .i64 x.id), .l 4 (x.legs.map Leg.cs)])) := by
 refine PC.begin Tryz.func360 rfl (by kernel_rfl) ?_
 have h1 := z5i x.legs hl
 refine qd rfl [] (.take 0 [] (.take 1 [5, 6] (.take 2 [] (.take 3 (Rg 4 3) (.alt 4 (.take 5 [] (.alt 6 .done .nil)) .nil))))) (by kernel_rfl) (z7 rfl (h1) rfl ⟨trivial, trivial⟩ ?_)
 refine xr rfl (qm rfl ⟨⟨rfl, rfl, ⟨rfl, rfl, .inl rfl⟩, trivial⟩, z6 rfl⟩)
theorem z17 (us : List Con) (hl : us.length ≤ 1048576) (hb : ∀ x ∈ us, x.legs.length ≤ 1048576) : PC Tryz.prog 323 [.one (.l (us.map Con.cs))] (.one (.own false [.l 2 (us.map Con.cs)])) := by
 refine PC.begin Tryz.func323 rfl (by kernel_rfl) ?_
 refine xs rfl trivial ?_
 refine qc rfl (ι := Nat) (fun i => i ≤ us.length) (fun i => ⟨[(9, sV (.int .i64 i)), (8, sV (.int .i64 (us.map Con.cs).length)), (7, .one (.b (.l (us.map Con.cs)))), (3, .one (.h 6 ((us.take i).map Con.cs).length))], [(6, .arr true 2 0 ((us.take i).map Con.cs))]⟩) (fun i => us.length - i) 0 (Nat.zero_le _) ?_ ?_
 · exact ⟨⟨rfl, rfl, rfl, ⟨rfl, rfl, rfl⟩, trivial⟩, ⟨⟨rfl, .inl rfl, .inl rfl⟩, trivial⟩, rfl⟩
 · intro i hi J hJ
   refine xb rfl ?_ ?_ <;> intro h
   · have h : i < us.length := by simpa using h
     obtain ⟨x, hx⟩ := gx h
     have hg := gm Con.cs hx
     have hc := y30 x (hb x (List.mem_of_getElem? hx))
     have hst := tk Con.cs hx
     refine xs rfl (by simp) (y9 rfl _ hg (xs rfl rfl (z7 rfl (hc) rfl ⟨tv3, trivial⟩ (xs rfl ⟨trivial, ⟨rfl, rfl⟩, trivial⟩ (xs rfl rfl (xs rfl rfl (xs rfl (.inl rfl) (xs rfl (by simp; omega) (xs rfl (by simp; omega) ?_)))))))))
     exact q9 rfl (hJ _ (i + 1) (by omega) (by omega) ⟨⟨cwi (by omega) (by omega) (by omega), rfl, rfl, ⟨rfl, by rw [hst]; exact List.length_append.symm, rfl⟩, trivial⟩, ⟨⟨hst.symm, .inl rfl, .inl rfl⟩, trivial⟩, rfl⟩)
   · have h : i = us.length := by have : ¬ i < us.length := (by simpa using h); omega
     subst h
     rw [List.take_length]
     refine xr rfl (qm rfl ⟨⟨rfl, ⟨rfl, rfl, .inl rfl⟩, trivial⟩, z6 rfl⟩)
theorem z4u (s : Shd) (ho : yb5 s) : PC Tryz.prog 326 [.agg s.cs] (.one (.own true [.s (.int .i64 s.idx), .l 3 (s.bals.map Bal.cs), .l 2 (s.votes.map Mk.cs), .l 2 (s.held.map Con.cs), .l 2 (s.done.map Mk.cs), .l 1 (ints s.app)])) := by
 refine PC.begin Tryz.func326 rfl (by kernel_rfl) ?_
 obtain ⟨o1, o2, o3, o4, o5, o6⟩ := ho
 have h1 := y2x s.bals o1
 have h2 := z2i s.votes o2
 have h3 := z17 s.held o3 o6
 have h4 := z2i s.done o4
 have h5 := q2x s.app o5
 refine qd rfl [] (.take 0 [] (.take 1 [17, 18] (.take 2 [] (.take 3 [4, 7, 10, 13, 16, 17, 18] (.take 5 [] (.take 6 [7, 10, 13, 16, 17, 18] (.take 8 [] (.take 9 [10, 13, 16, 17, 18] (.take 11 [] (.take 12 [13, 16, 17, 18] (.take 14 [] (.take 15 (Rg 16 3) (.alt 4 (.alt 7 (.alt 10 (.alt 13 (.alt 16 (.take 17 [] (.alt 18 .done .nil)) .nil) .nil) .nil) .nil) .nil))))))))))))) (by kernel_rfl) (z7 rfl (h1) rfl ⟨trivial, trivial⟩ (z7 rfl (h2) rfl ⟨trivial, trivial⟩ (z7 rfl (h3) rfl ⟨trivial, trivial⟩ (z7 rfl (h4) rfl ⟨trivial, trivial⟩ (z7 rfl (h5) rfl ⟨trivial, trivial⟩ ?_)))))
 refine xr rfl (qm rfl ⟨⟨rfl, rfl, ⟨rfl, rfl, .inl rfl⟩, ⟨rfl, rfl, .inl rfl⟩, ⟨rfl, rfl, .inl rfl⟩, ⟨rfl, rfl, .inl rfl⟩, ⟨rfl, rfl, .inl rfl⟩, trivial⟩, z6 rfl⟩)
theorem q5i (s : Slt) (hl : s.cast.length ≤ 1048576) : PC Tryz.prog 307 [.agg s.cs] (.one (.own true [.s (.int .i64 s.c), .s (.int .i64 s.s), .s (.int .i64 s.p), .s (.int .i64 s.lb), .s (.int .i64 s.lv), .l 2 (s.cast.map Vt.cs)])) := by
 refine PC.begin Tryz.func307 rfl (by kernel_rfl) ?_
 have h1 := y2i s.cast hl
 refine z7 rfl (h1) rfl ⟨trivial, trivial⟩ ?_
 refine xr rfl (qm rfl ⟨⟨rfl, rfl, rfl, rfl, rfl, rfl, ⟨rfl, rfl, .inl rfl⟩, trivial⟩, z6 rfl⟩)
theorem z30 (a : Acc) (ho : z41 a) : PC Tryz.prog 361 [.agg a.cs] (.one (.own true [.l 6 (a.slots.map Slt.cs)])) := by
 refine PC.begin Tryz.func361 rfl (by kernel_rfl) ?_
 obtain ⟨hl, hb⟩ := ho
 refine qc rfl (ι := Nat) (fun i => i ≤ a.slots.length) (fun i => ⟨[(10, sV (.int .i64 i)), (9, sV (.int .i64 (a.slots.map Slt.cs).length)), (8, .one (.b (.l (a.slots.map Slt.cs)))), (3, .one (.a 3 0)), (2, .one (.a 2 0)), (1, .one (.a 1 0))], [(3, .var [.h 19 ((a.slots.take i).map Slt.cs).length]), (19, .arr true 6 0 ((a.slots.take i).map Slt.cs)), (2, .var [.nil]), (1, .var [.b (.l (a.slots.map Slt.cs))])]⟩) (fun i => a.slots.length - i) 0 (Nat.zero_le _) ?_ ?_
 · exact ⟨⟨rfl, rfl, rfl, ⟨rfl, rfl, rfl⟩, ⟨rfl, rfl, rfl⟩, ⟨rfl, rfl, rfl⟩, trivial⟩, ⟨⟨⟨rfl, rfl, rfl⟩, trivial⟩, rfl, ⟨trivial, trivial⟩, ⟨rfl, trivial⟩, trivial⟩, rfl⟩
 · intro i hi J hJ
   refine xb rfl ?_ ?_ <;> intro h
   · have h : i < a.slots.length := by simpa using h
     obtain ⟨x, hx⟩ := gx h
     have hg := gm Slt.cs hx
     have hc := q5i x (hb x (List.mem_of_getElem? hx))
     have hst := tk Slt.cs hx
     refine xs rfl (by simp) (y9 rfl _ hg (xs rfl rfl (qd rfl [] (.take 0 [] (.take 1 (Rg 5 3) (.take 2 (Rg 3 5) (.alt 3 (.alt 4 (.alt 5 (.take 6 [] (.alt 7 .done .nil)) .nil) .nil) .nil)))) (by kernel_rfl) (z7 rfl (hc) rfl ⟨tv7, trivial⟩ (xs rfl ⟨trivial, trivial, trivial, trivial, trivial, ⟨rfl, rfl⟩, trivial⟩ (xs rfl rfl (xs rfl rfl (xs rfl (.inl rfl) (xs rfl (by simp; omega) ?_)))))))))
     refine xs rfl (by simp; omega) ?_
     all_goals exact q9 rfl (hJ _ (i + 1) (by omega) (by omega) ⟨⟨cwi (by omega) (by omega) (by omega), rfl, rfl, ⟨rfl, rfl, rfl⟩, ⟨rfl, rfl, rfl⟩, ⟨rfl, rfl, rfl⟩, trivial⟩, ⟨⟨⟨rfl, by rw [hst]; exact List.length_append.symm, rfl⟩, trivial⟩, ⟨hst.symm, .inl rfl, .inl rfl⟩, ⟨trivial, trivial⟩, ⟨rfl, trivial⟩, trivial⟩, rfl⟩)
   · have h : i = a.slots.length := by have : ¬ i < a.slots.length := (by simpa using h); omega
     subst h
     rw [List.take_length]
     refine xr rfl (qm rfl ⟨⟨rfl, ⟨rfl, rfl, .inl rfl⟩, trivial⟩, z6 rfl⟩)
theorem q2p (us : List Acc) (hl : us.length ≤ 1048576) (hb : ∀ a ∈ us, z41 a) : PC Tryz.prog 324 [.one (.l (us.map Acc.cs))] (.one (.own false [.l 1 (us.map Acc.cs)])) := by
 refine PC.begin Tryz.func324 rfl (by kernel_rfl) ?_
 refine xs rfl trivial ?_
 refine qc rfl (ι := Nat) (fun i => i ≤ us.length) (fun i => ⟨[(9, sV (.int .i64 i)), (8, sV (.int .i64 (us.map Acc.cs).length)), (7, .one (.b (.l (us.map Acc.cs)))), (3, .one (.h 6 ((us.take i).map Acc.cs).length))], [(6, .arr true 1 0 ((us.take i).map Acc.cs))]⟩) (fun i => us.length - i) 0 (Nat.zero_le _) ?_ ?_
 · exact ⟨⟨rfl, rfl, rfl, ⟨rfl, rfl, rfl⟩, trivial⟩, ⟨⟨rfl, .inl rfl, .inl rfl⟩, trivial⟩, rfl⟩
 · intro i hi J hJ
   refine xb rfl ?_ ?_ <;> intro h
   · have h : i < us.length := by simpa using h
     obtain ⟨x, hx⟩ := gx h
     have hg := gm Acc.cs hx
     have hc := z30 x (hb x (List.mem_of_getElem? hx))
     have hst := tk Acc.cs hx
     refine xs rfl (by simp) (y9 rfl _ hg (xs rfl rfl (z7 rfl (hc) rfl ⟨⟨trivial, trivial⟩, trivial⟩ (xs rfl ⟨⟨rfl, rfl⟩, trivial⟩ (xs rfl rfl (xs rfl rfl (xs rfl (.inl rfl) (xs rfl (by simp; omega) (xs rfl (by simp; omega) ?_)))))))))
     exact q9 rfl (hJ _ (i + 1) (by omega) (by omega) ⟨⟨cwi (by omega) (by omega) (by omega), rfl, rfl, ⟨rfl, by rw [hst]; exact List.length_append.symm, rfl⟩, trivial⟩, ⟨⟨hst.symm, .inl rfl, .inl rfl⟩, trivial⟩, rfl⟩)
   · have h : i = us.length := by have : ¬ i < us.length := (by simpa using h); omega
     subst h
     rw [List.take_length]
     refine xr rfl (qm rfl ⟨⟨rfl, ⟨rfl, rfl, .inl rfl⟩, trivial⟩, z6 rfl⟩)
theorem z7s (s : Slt) (hl : s.cast.length ≤ 1048576) : PC Tryz.prog 229 [.agg s.cs] (.one (.own true [.s (.int .i64 s.c), .s (.int .i64 s.s), .s (.int .i64 s.p), .s (.int .i64 s.lb), .s (.int .i64 s.lv), .l 2 (s.cast.map Vt.cs)])) := by
 refine PC.begin Tryz.func229 rfl (by kernel_rfl) ?_
 have hsc := qa8 s.cast
 refine xs rfl trivial (xs rfl rfl (xs rfl (by simp) (xs rfl (fun _ => hsc) (xs rfl (by simp; omega) (xs rfl (by simp; omega) ?_)))))
 refine xr rfl (qm rfl ⟨⟨rfl, rfl, rfl, rfl, rfl, rfl, ⟨?_, rfl, .inl rfl⟩, trivial⟩, z6 rfl⟩)
 all_goals exact List.length_append.symm
theorem q7s (a : Acc) (ho : z41 a) : PC Tryz.prog 236 [.agg a.cs] (.one (.own true [.l 6 (a.slots.map Slt.cs)])) := by
 refine PC.begin Tryz.func236 rfl (by kernel_rfl) ?_
 obtain ⟨hl, hb⟩ := ho
 refine qc rfl (ι := Nat) (fun i => i ≤ a.slots.length) (fun i => ⟨[(4, sV (.int .i64 i)), (3, .one (.a 3 0)), (2, .one (.a 2 0)), (1, .one (.b (.p a.cs)))], [(3, .var [.h 22 ((a.slots.take i).map Slt.cs).length]), (22, .arr true 6 0 ((a.slots.take i).map Slt.cs)), (2, .var [.nil])]⟩) (fun i => a.slots.length - i) 0 (Nat.zero_le _) ?_ ?_
 · exact ⟨⟨rfl, ⟨rfl, rfl, rfl⟩, ⟨rfl, rfl, rfl⟩, ⟨rfl, rfl, rfl⟩, trivial⟩, ⟨⟨⟨rfl, rfl, rfl⟩, trivial⟩, rfl, ⟨trivial, trivial⟩, trivial⟩, rfl⟩
 · intro i hi J hJ
   refine xb rfl ?_ ?_ <;> intro h
   · have h : i < a.slots.length := by simpa using h
     obtain ⟨x, hx⟩ := gx h
     have hg := gm Slt.cs hx
     have hc := z7s x (hb x (List.mem_of_getElem? hx))
     have hst := tk Slt.cs hx
     refine qd rfl [] (.take 0 [] (.take 1 (Rg 9 3) (.take 2 [] (.take 3 (Rg 5 7) (Tk [4, 5] (.take 6 (Rg 7 5) (.alt 7 (.alt 8 (.alt 9 (.take 10 [] (.alt 11 .done .nil)) .nil) .nil) .nil))))))) (by kernel_rfl) (xs rfl (nn_ _) (y9 rfl _ hg (xs rfl rfl (z7 rfl (hc) rfl ⟨tv7, trivial⟩ (xs rfl ⟨trivial, trivial, trivial, trivial, trivial, ⟨rfl, rfl⟩, trivial⟩ (xs rfl rfl (xs rfl rfl (xs rfl (.inl rfl) (xs rfl (by simp; omega) ?_)))))))))
     refine xs rfl (by simp; omega) ?_
     all_goals exact q9 rfl (hJ _ (i + 1) (by omega) (by omega) ⟨⟨cwi (by omega) (by omega) (by omega), ⟨rfl, rfl, rfl⟩, ⟨rfl, rfl, rfl⟩, rfl, trivial⟩, ⟨⟨⟨rfl, by rw [hst]; exact List.length_append.symm, rfl⟩, trivial⟩, ⟨hst.symm, .inl rfl, .inl rfl⟩, ⟨trivial, trivial⟩, trivial⟩, rfl⟩)
   · have h : i = a.slots.length := by have : ¬ i < a.slots.length := (by simpa using h); omega
     subst h
     rw [List.take_length]
     refine xr rfl (qm rfl ⟨⟨rfl, ⟨rfl, rfl, .inl rfl⟩, trivial⟩, z6 rfl⟩)
theorem y8t (us : List Acc) (hl : us.length ≤ 1048576) (hb : ∀ a ∈ us, z41 a) : PC Tryz.prog 147 [.one (.l (us.map Acc.cs))] (.one (.own false [.l 1 (us.map Acc.cs)])) := by
 refine PC.begin Tryz.func147 rfl (by kernel_rfl) ?_
 refine xs rfl trivial ?_
 refine qc rfl (ι := Nat) (fun i => i ≤ us.length) (fun i => ⟨[(4, sV (.int .i64 i)), (3, .one (.h 5 ((us.take i).map Acc.cs).length)), (0, .one (.b (.l (us.map Acc.cs))))], [(5, .arr true 1 0 ((us.take i).map Acc.cs))]⟩) (fun i => us.length - i) 0 (Nat.zero_le _) ?_ ?_
 · exact ⟨⟨rfl, ⟨rfl, rfl, rfl⟩, rfl, trivial⟩, ⟨⟨rfl, .inl rfl, .inl rfl⟩, trivial⟩, rfl⟩
 · intro i hi J hJ
   refine xb rfl ?_ ?_ <;> intro h
   · have h : i < us.length := by simpa using h
     obtain ⟨x, hx⟩ := gx h
     have hg := gm Acc.cs hx
     have hc := q7s x (hb x (List.mem_of_getElem? hx))
     have hst := tk Acc.cs hx
     refine xs rfl (nn_ _) (y9 rfl _ hg (xs rfl rfl (z7 rfl (hc) rfl ⟨⟨trivial, trivial⟩, trivial⟩ (xs rfl ⟨⟨rfl, rfl⟩, trivial⟩ (xs rfl rfl (xs rfl rfl (xs rfl (.inl rfl) (xs rfl (by simp; omega) (xs rfl (by simp; omega) ?_)))))))))
     exact q9 rfl (hJ _ (i + 1) (by omega) (by omega) ⟨⟨cwi (by omega) (by omega) (by omega), ⟨rfl, by rw [hst]; exact List.length_append.symm, rfl⟩, rfl, trivial⟩, ⟨⟨hst.symm, .inl rfl, .inl rfl⟩, trivial⟩, rfl⟩)
   · have h : i = us.length := by have : ¬ i < us.length := (by simpa using h); omega
     subst h
     rw [List.take_length]
     refine xr rfl (qm rfl ⟨⟨rfl, ⟨rfl, rfl, .inl rfl⟩, trivial⟩, z6 rfl⟩)
theorem y1q (x : Con) (hl : x.legs.length ≤ 1048576) : PC Tryz.prog 148 [.agg x.cs] (.one (.own true [.s (.int .i64 x.id), .l 4 (x.legs.map Leg.cs)])) := by
 refine PC.begin Tryz.func148 rfl (by kernel_rfl) ?_
 have hsc := q9i x.legs
 refine qd rfl [] (Tk [0, 3] (.take 4 (Rg 5 3) (.alt 1 (.alt 2 (.alt 5 (.take 6 [] (.alt 7 .done .nil)) .nil) .nil) (.alt 2 (.alt 1 (.alt 5 (.take 6 [] (.alt 7 .done .nil)) .nil) (.alt 5 (.take 1 [6, 7] (.take 6 [] (.alt 7 .done .nil))) .nil)) .nil)))) (by kernel_rfl) ?_
 refine y03 rfl ?_ ?_
 refine xs rfl trivial (xs rfl rfl (xs rfl (by simp) (xs rfl (fun _ => hsc) (xs rfl (by simp; omega) (xs rfl (by simp; omega) ?_)))))
 refine xr rfl (qm rfl ⟨⟨rfl, rfl, ⟨?_, rfl, .inl rfl⟩, trivial⟩, z6 rfl⟩); rotate_left
 refine xs rfl trivial ?_
 refine y03 rfl ?_ ?_
 refine xs rfl rfl (xs rfl (by simp) (xs rfl (fun _ => hsc) (xs rfl (by simp; omega) (xs rfl (by simp; omega) ?_))))
 refine xr rfl (qm rfl ⟨⟨rfl, rfl, ⟨?_, rfl, .inl rfl⟩, trivial⟩, z6 rfl⟩); rotate_left
 refine xs rfl rfl (xs rfl (by simp) (xs rfl (fun _ => hsc) (xs rfl (by simp; omega) (xs rfl (by simp; omega) ?_))))
 refine xr rfl (qm rfl ⟨⟨rfl, rfl, ⟨?_, rfl, .inl rfl⟩, trivial⟩, z6 rfl⟩); rotate_left
 all_goals exact List.length_append.symm
theorem z9u {l : List (Nat × AV)} {n : List (Nat × AV)} (h : ∀ p ∈ n, get l p.1 = some p.2) : ∀ t av, get n t = some av → get l t = some av := by
 induction n with
 | nil => intro t av h; cases h
 | cons p n ih =>
   obtain ⟨k, v⟩ := p
   intro t av hg
   rw [za] at hg
   split at hg
   · rename_i e
     have h1 := h (k, v) (by simp)
     rw [← hg, ← e]; exact h1
   · exact ih (fun p hp => h p (by simp [hp])) t av hg
theorem z5s {ops : Array Oper} {f : Nat → Bool} (hc : ∀ j k, q77 ops j k = true → f j = true → f k = true) {j k : Nat} (hd : q77 ops j k = true) (h : f k = false) : f j = false := by
 cases hj : f j with
 | false => rfl
 | true => rw [hc j k hd hj] at h; cases h
def Lc (s : Shd) : List (Option (Nat × AV)) :=
 [some (5, .one (.b (.p s.cs))), some (6, .one (.b (i64 s.idx))), some (7, .one .em), some (8, .one (.b (.p (s.cs.drop 1)))), some (9, .one (.b (.l (s.bals.map Bal.cs)))), some (10, .one (.h 10 (s.bals.map Bal.cs).length)),
  some (11, .one .em), some (12, .one (.b (.p (s.cs.drop 2)))), some (13, .one (.b (.l (s.votes.map Mk.cs)))), some (14, .one (.h 14 (s.votes.map Mk.cs).length)),
  some (15, .one .em), some (16, .one (.b (.p (s.cs.drop 4)))), some (17, .one (.b (.l (s.done.map Mk.cs)))), some (18, .one (.h 18 (s.done.map Mk.cs).length)),
  some (19, .one .em), some (20, .one (.b (.p (s.cs.drop 5)))), some (21, .one (.b (.l (ints s.app)))), some (22, .one (.h 22 (ints s.app).length)),
  some (23, .agg [.b (i64 s.idx), .h 10 (s.bals.map Bal.cs).length, .h 14 (s.votes.map Mk.cs).length, .nil, .h 18 (s.done.map Mk.cs).length, .h 22 (ints s.app).length]), some (3, .one (.a 3 0)), none]
def Bc (s : Shd) (a5 a9 a13 a17 a19 a20 : Bool) : List (Nat × AB) :=
 (2, .var [.b (i64 0), .nil, .nil, .nil, .nil, .nil]) :: (bif a5 then [(10, .arr true 3 0 (s.bals.map Bal.cs))] else []) ++ (bif a9 then [(14, .arr true 2 0 (s.votes.map Mk.cs))] else []) ++ (bif a13 then [(18, .arr true 2 0 (s.done.map Mk.cs))] else []) ++ (bif a17 then [(22, .arr true 1 0 (ints s.app))] else []) ++
   (bif a19 then [(3, .var (bif a20 then [.b (i64 s.idx), .h 10 (s.bals.map Bal.cs).length, .h 14 (s.votes.map Mk.cs).length, .nil, .h 18 (s.done.map Mk.cs).length, .h 22 (ints s.app).length] else [.b (i64 0), .nil, .nil, .nil, .nil, .nil]))] else [])
def jc : List (List Nat) := [[], [0], [], [], [3], [2, 4], [], [], [7], [6, 8], [], [], [11], [10, 12], [], [], [15], [14, 16], [1, 5, 9, 13, 17], [], [18, 19]]
theorem y6s (s : Shd) (ho : yb5 s) : PC Tryz.prog 149 [.agg s.cs] (.one (.own true [.s (.int .i64 s.idx), .l 3 (s.bals.map Bal.cs), .l 2 (s.votes.map Mk.cs), .l 2 (s.held.map Con.cs), .l 2 (s.done.map Mk.cs), .l 1 (ints s.app)])) := by
 obtain ⟨o1, o2, o3, o4, o5, o6⟩ := ho
 refine PC.zam (by kernel_rfl) Tryz.func149 rfl (by kernel_rfl) (fun σ => Wk0 σ ⟨[(2, .one (.a 2 0)), (1, .one (.b (.p s.cs)))], [(2, .var [.b (i64 0), .nil, .nil, .nil, .nil, .nil])]⟩)
  (fun σ => σ = ⟨[(3, .one (.a 3 0)), (2, .one (.a 2 0)), (1, .one (.b (.p s.cs)))], Bc s true true true true true true⟩) ?_ ?_ ?_
 · exact q9 rfl ⟨⟨⟨rfl, rfl, rfl⟩, ⟨rfl, rfl, rfl⟩, trivial⟩, ⟨⟨rfl, trivial, trivial, trivial, trivial, trivial, trivial⟩, trivial⟩, rfl⟩
 · intro σ hσ
   have b1 := y9i s.bals
   have b2 := ya8 s.votes
   have b3 := ya8 s.done
   have b4 := z5w s.app
   refine qag.table (Lc s) [(2, .one (.a 2 0)), (1, .one (.b (.p s.cs)))] (fun f => Bc s (f 5) (f 9) (f 13) (f 17) (f 19) (f 20)) rfl (by kernel_rfl) (fun i => (jc[i]?).getD []) (by kernel_rfl) (To.wk hσ) ?_ ?_ ?_ rfl
   · refine ⟨?_, ?_, ?_, ?_, ?_, ?_, ?_, ?_, ?_, ?_, ?_, ?_, ?_, ?_, ?_, ?_, ?_, ?_, ?_, ?_, ?_, trivial⟩
     · exact fun R f _ _ _ => zv.run (Q0 := fun _ _ => False) (q9 rfl (To.refl _))
     · exact fun R f _ _ _ => zv.run (Q0 := fun _ _ => False) (q9 rfl (To.refl _))
     · exact fun R f _ _ _ => zv.em rfl rfl rfl rfl (by kernel_rfl) (To.refl _)
     · exact fun R f _ _ _ => zv.run (Q0 := fun _ _ => False) (q9 rfl (To.refl _))
     · exact fun R f _ _ _ => zv.run (Q0 := fun _ _ => False) (q9 rfl (To.refl _))
     · intro R f h0 hd hc
       have e9 : f 9 = false := z5s hc (j := 9) (k := 5) (by kernel_rfl) h0
       have e13 : f 13 = false := z5s hc (j := 13) (k := 9) (by kernel_rfl) e9
       have e17 : f 17 = false := z5s hc (j := 17) (k := 13) (by kernel_rfl) e13
       have e18 : f 18 = false := z5s hc (j := 18) (k := 5) (by kernel_rfl) h0
       have e20 : f 20 = false := z5s hc (j := 20) (k := 18) (by kernel_rfl) e18
       show zv _ _ _ ⟨_, Bc s (f 5) (f 9) (f 13) (f 17) (f 19) (f 20)⟩ (fun σ' => To σ' ⟨_, Bc s true (f 9) (f 13) (f 17) (f 19) (f 20)⟩)
       rw [h0, e9, e13, e17, e20]
       cases f 19 <;> refine zv.run (Q0 := fun _ _ => False) (xs rfl (by simp) (xs rfl b1 (xs rfl (by simp; omega) (xs rfl (by simp; omega) ?_)))) <;> first | exact q9 rfl (To.refl _) | exact q9 rfl (To.q0i fun β => by simp only [Bc, za, get_nil, cond_true, cond_false, List.cons_append, List.nil_append]; (repeat' split) <;> first | rfl | (exfalso; omega))
     · exact fun R f _ _ _ => zv.em rfl rfl rfl rfl (by kernel_rfl) (To.refl _)
     · exact fun R f _ _ _ => zv.run (Q0 := fun _ _ => False) (q9 rfl (To.refl _))
     · exact fun R f _ _ _ => zv.run (Q0 := fun _ _ => False) (q9 rfl (To.refl _))
     · intro R f h0 hd hc
       have e13 : f 13 = false := z5s hc (j := 13) (k := 9) (by kernel_rfl) h0
       have e17 : f 17 = false := z5s hc (j := 17) (k := 13) (by kernel_rfl) e13
       have e18 : f 18 = false := z5s hc (j := 18) (k := 9) (by kernel_rfl) h0
       have e20 : f 20 = false := z5s hc (j := 20) (k := 18) (by kernel_rfl) e18
       have e5 : f 5 = true := hd 5 (by kernel_rfl)
       show zv _ _ _ ⟨_, Bc s (f 5) (f 9) (f 13) (f 17) (f 19) (f 20)⟩ (fun σ' => To σ' ⟨_, Bc s (f 5) true (f 13) (f 17) (f 19) (f 20)⟩)
       rw [h0, e13, e17, e20, e5]
       cases f 19 <;> refine zv.run (Q0 := fun _ _ => False) (xs rfl (by simp) (xs rfl b2 (xs rfl (by simp; omega) (xs rfl (by simp; omega) ?_)))) <;> first | exact q9 rfl (To.refl _) | exact q9 rfl (To.q0i fun β => by simp only [Bc, za, get_nil, cond_true, cond_false, List.cons_append, List.nil_append]; (repeat' split) <;> first | rfl | (exfalso; omega))
     · exact fun R f _ _ _ => zv.em rfl rfl rfl rfl (by kernel_rfl) (To.refl _)
     · exact fun R f _ _ _ => zv.run (Q0 := fun _ _ => False) (q9 rfl (To.refl _))
     · exact fun R f _ _ _ => zv.run (Q0 := fun _ _ => False) (q9 rfl (To.refl _))
     · intro R f h0 hd hc
       have e17 : f 17 = false := z5s hc (j := 17) (k := 13) (by kernel_rfl) h0
       have e18 : f 18 = false := z5s hc (j := 18) (k := 13) (by kernel_rfl) h0
       have e20 : f 20 = false := z5s hc (j := 20) (k := 18) (by kernel_rfl) e18
       have e9 : f 9 = true := hd 9 (by kernel_rfl)
       have e5 : f 5 = true := hc 9 5 (by kernel_rfl) e9
       show zv _ _ _ ⟨_, Bc s (f 5) (f 9) (f 13) (f 17) (f 19) (f 20)⟩ (fun σ' => To σ' ⟨_, Bc s (f 5) (f 9) true (f 17) (f 19) (f 20)⟩)
       rw [h0, e17, e20, e9, e5]
       cases f 19 <;> refine zv.run (Q0 := fun _ _ => False) (xs rfl (by simp) (xs rfl b3 (xs rfl (by simp; omega) (xs rfl (by simp; omega) ?_)))) <;> first | exact q9 rfl (To.refl _) | exact q9 rfl (To.q0i fun β => by simp only [Bc, za, get_nil, cond_true, cond_false, List.cons_append, List.nil_append]; (repeat' split) <;> first | rfl | (exfalso; omega))
     · exact fun R f _ _ _ => zv.em rfl rfl rfl rfl (by kernel_rfl) (To.refl _)
     · exact fun R f _ _ _ => zv.run (Q0 := fun _ _ => False) (q9 rfl (To.refl _))
     · exact fun R f _ _ _ => zv.run (Q0 := fun _ _ => False) (q9 rfl (To.refl _))
     · intro R f h0 hd hc
       have e18 : f 18 = false := z5s hc (j := 18) (k := 17) (by kernel_rfl) h0
       have e20 : f 20 = false := z5s hc (j := 20) (k := 18) (by kernel_rfl) e18
       have e13 : f 13 = true := hd 13 (by kernel_rfl)
       have e9 : f 9 = true := hc 13 9 (by kernel_rfl) e13
       have e5 : f 5 = true := hc 9 5 (by kernel_rfl) e9
       show zv _ _ _ ⟨_, Bc s (f 5) (f 9) (f 13) (f 17) (f 19) (f 20)⟩ (fun σ' => To σ' ⟨_, Bc s (f 5) (f 9) (f 13) true (f 19) (f 20)⟩)
       rw [h0, e20, e13, e9, e5]
       cases f 19 <;> refine zv.run (Q0 := fun _ _ => False) (xs rfl (by simp) (xs rfl b4 (xs rfl (by simp; omega) (xs rfl (by simp; omega) ?_)))) <;> first | exact q9 rfl (To.refl _) | exact q9 rfl (To.q0i fun β => by simp only [Bc, za, get_nil, cond_true, cond_false, List.cons_append, List.nil_append]; (repeat' split) <;> first | rfl | (exfalso; omega))
     · exact fun R f _ _ _ => zv.run (Q0 := fun _ _ => False) (q9 rfl (To.refl _))
     · intro R f h0 hd hc
       have e20 : f 20 = false := z5s hc (j := 20) (k := 19) (by kernel_rfl) h0
       show zv _ _ _ ⟨_, Bc s (f 5) (f 9) (f 13) (f 17) (f 19) (f 20)⟩ (fun σ' => To σ' ⟨_, Bc s (f 5) (f 9) (f 13) (f 17) true (f 20)⟩)
       rw [h0, e20]
       cases f 5 <;> cases f 9 <;> cases f 13 <;> cases f 17 <;> exact zv.run (Q0 := fun _ _ => False) (q9 rfl (To.refl _))
     · intro R f h0 hd hc
       have e18 : f 18 = true := hd 18 (by kernel_rfl)
       show zv _ _ _ ⟨_, Bc s (f 5) (f 9) (f 13) (f 17) (f 19) (f 20)⟩ (fun σ' => To σ' ⟨_, Bc s (f 5) (f 9) (f 13) (f 17) (f 19) true⟩)
       rw [h0, hd 19 (by kernel_rfl), hc 18 5 (by kernel_rfl) e18, hc 18 9 (by kernel_rfl) e18, hc 18 13 (by kernel_rfl) e18, hc 18 17 (by kernel_rfl) e18]
       exact zv.run (Q0 := fun _ _ => False) (q9 rfl (To.refl _))
   · exact fun R hL h0 => ⟨_, To.tmps (z9u fun p hp => by
      rcases List.mem_cons.1 hp with rfl | hp
      · exact hL 19 (3, .one (.a 3 0)) (by decide) rfl
      · exact h0 p hp), rfl⟩
   · intro f hf
     show Bc s (f 5) (f 9) (f 13) (f 17) (f 19) (f 20) = _
     rw [hf 5 (by decide), hf 9 (by decide), hf 13 (by decide), hf 17 (by decide), hf 19 (by decide), hf 20 (by decide)]
 · rintro σ rfl
   refine qc rfl (ι := Nat) (fun i => i ≤ s.held.length) (fun i => ⟨[(4, sV (.int .i64 i)), (3, .one (.a 3 0)), (2, .one (.a 2 0)), (1, .one (.b (.p s.cs)))], [(3, .var [.b (i64 s.idx), .h 10 (s.bals.map Bal.cs).length, .h 14 (s.votes.map Mk.cs).length, .h 40 ((s.held.take i).map Con.cs).length, .h 18 (s.done.map Mk.cs).length, .h 22 (ints s.app).length]), (40, .arr true 2 0 ((s.held.take i).map Con.cs)), (10, .arr true 3 0 (s.bals.map Bal.cs)), (14, .arr true 2 0 (s.votes.map Mk.cs)), (18, .arr true 2 0 (s.done.map Mk.cs)), (22, .arr true 1 0 (ints s.app)), (2, .var [.b (i64 0), .nil, .nil, .nil, .nil, .nil])]⟩) (fun i => s.held.length - i) 0 (Nat.zero_le _) ?_ ?_
   · exact ⟨⟨rfl, ⟨rfl, rfl, rfl⟩, ⟨rfl, rfl, rfl⟩, rfl, trivial⟩, ⟨⟨rfl, ⟨rfl, rfl, rfl⟩, ⟨rfl, rfl, rfl⟩, ⟨rfl, rfl, rfl⟩, ⟨rfl, rfl, rfl⟩, ⟨rfl, rfl, rfl⟩, trivial⟩, rfl, ⟨rfl, .inl rfl, .inl rfl⟩, ⟨rfl, .inl rfl, .inl rfl⟩, ⟨rfl, .inl rfl, .inl rfl⟩, ⟨rfl, .inl rfl, .inl rfl⟩, ⟨rfl, trivial, trivial, trivial, trivial, trivial, trivial⟩, trivial⟩, rfl⟩
   · intro i hi J hJ
     refine xb rfl ?_ ?_ <;> intro h
     · have h : i < s.held.length := by simpa using h
       obtain ⟨x, hx⟩ := gx h
       have hg := gm Con.cs hx
       have hc := y1q x (o6 x (List.mem_of_getElem? hx))
       have hst := tk Con.cs hx
       refine qd rfl [] (.take 0 [] (.take 1 (Rg 9 3) (.take 2 [] (.take 3 (Rg 5 7) (Tk [4, 5] (.take 6 (Rg 7 5) (.alt 7 (.alt 8 (.alt 9 (.take 10 [] (.alt 11 .done .nil)) .nil) .nil) .nil))))))) (by kernel_rfl) (xs rfl (nn_ _) (y9 rfl _ hg (xs rfl rfl (z7 rfl (hc) rfl ⟨tv3, trivial⟩ (xs rfl ⟨trivial, ⟨rfl, rfl⟩, trivial⟩ (xs rfl rfl (xs rfl rfl (xs rfl (.inl rfl) (xs rfl (by simp; omega) ?_)))))))))
       refine xs rfl (by simp; omega) ?_
       all_goals exact q9 rfl (hJ _ (i + 1) (by omega) (by omega) ⟨⟨cwi (by omega) (by omega) (by omega), ⟨rfl, rfl, rfl⟩, ⟨rfl, rfl, rfl⟩, rfl, trivial⟩, ⟨⟨rfl, ⟨rfl, rfl, rfl⟩, ⟨rfl, rfl, rfl⟩, ⟨rfl, by rw [hst]; exact List.length_append.symm, rfl⟩, ⟨rfl, rfl, rfl⟩, ⟨rfl, rfl, rfl⟩, trivial⟩, ⟨hst.symm, .inl rfl, .inl rfl⟩, ⟨rfl, .inl rfl, .inl rfl⟩, ⟨rfl, .inl rfl, .inl rfl⟩, ⟨rfl, .inl rfl, .inl rfl⟩, ⟨rfl, .inl rfl, .inl rfl⟩, ⟨rfl, trivial, trivial, trivial, trivial, trivial, trivial⟩, trivial⟩, rfl⟩)
     · have h : i = s.held.length := by have : ¬ i < s.held.length := (by simpa using h); omega
       subst h
       rw [List.take_length]
       refine xr rfl (qm rfl ⟨⟨rfl, rfl, ⟨rfl, rfl, .inl rfl⟩, ⟨rfl, rfl, .inl rfl⟩, ⟨rfl, rfl, .inl rfl⟩, ⟨rfl, rfl, .inl rfl⟩, ⟨rfl, rfl, .inl rfl⟩, trivial⟩, z6 rfl⟩)
end Go.Proofs.YtbnbjaedijbnpaaGreat
end
