/- WHAT IS PROVED: FnExactLedgerOf, for every argument of its parameters' types that can be read as data: the call returns true and its arguments read as before. No condition. -/
import Derived.Test.YthljegacamgnnaaGreatCLd6
import Derived.WalkKit
import Derived.OrdersHeld
import Derived.DeepKeys
import Derived.Maps.RangeWalk
import Derived.Maps.OwnOps
import Derived.Deep.Slices
import Derived.ChangeArms
import Derived.WideShapes
import Derived.Test.YthljegacamgnnaaGreatProg
import Derived.Shelf.SortG.Plain
import Derived.Shelf.SortG.SortNone
import Derived.Shelf.SlicesG.CompactI
import Derived.Lib.OwnBridge
import Derived.RangeFuncGives
import Derived.RangeFuncBox
import Derived.RangeFuncLeaves
import Derived.Shelf.Abstract
import Derived.Maps.AppendAt
import Derived.OwnWalkIn
import Derived.TacticsInMore
import Derived.LoopNIn
import Derived.LoopIn
import Derived.Test.YthljegacamgnnaaGreatRows
import Derived.ProofKit
import Derived.OpenShut
import Derived.ShutString
import Derived.ChangeOld
import Derived.Below
import Derived.SizedLaws
set_option linter.unusedVariables false
set_option linter.unusedSimpArgs false
section
namespace Go.Proofs.YthljegacamgnnaaGreat
open Go Go.Sx
set_option maxRecDepth 20000
theorem y7r (x0 : Int) (x1 : Int) (x2 : Int) (x3 : Int) (y0 : Int) (y1 : Int) (y2 : Int) (y3 : Int)   : PC Tryz.prog 155 [.agg [.s (.int .i64 x0), .s (.int .i64 x1), .s (.int .i64 x2), .s (.int .i64 x3)], .agg [.s (.int .i64 y0), .s (.int .i64 y1), .s (.int .i64 y2), .s (.int .i64 y3)]] (rB (dE (α := List Cell) [.s (.int .i64 x0), .s (.int .i64 x1), .s (.int .i64 x2), .s (.int .i64 x3)] [.s (.int .i64 y0), .s (.int .i64 y1), .s (.int .i64 y2), .s (.int .i64 y3)])) := by
 refine PC.begin Tryz.func155 rfl (by kernel_rfl) ?_
 refine xb rfl (fun h => ?_) (fun e0 => ?_)
 · exact xr rfl (q7 rfl ⟨⟨rfl, qi (fun e => by simp only [List.cons.injEq, Cell.s.injEq, Value.int.injEq, Value.bool.injEq, Value.string.injEq] at e; simp [e] at h), trivial⟩, z6 rfl⟩)
 have e0 : x0 = y0 := by simpa using e0
 refine xb rfl (fun h => ?_) (fun e1 => ?_)
 · exact xr rfl (q7 rfl ⟨⟨rfl, qi (fun e => by simp only [List.cons.injEq, Cell.s.injEq, Value.int.injEq, Value.bool.injEq, Value.string.injEq] at e; simp [e] at h), trivial⟩, z6 rfl⟩)
 have e1 : x1 = y1 := by simpa using e1
 refine xb rfl (fun h => ?_) (fun e2 => ?_)
 · exact xr rfl (q7 rfl ⟨⟨rfl, qi (fun e => by simp only [List.cons.injEq, Cell.s.injEq, Value.int.injEq, Value.bool.injEq, Value.string.injEq] at e; simp [e] at h), trivial⟩, z6 rfl⟩)
 have e2 : x2 = y2 := by simpa using e2
 refine xb rfl (fun h => ?_) (fun e3 => ?_)
 · exact xr rfl (q7 rfl ⟨⟨rfl, qi (fun e => by simp only [List.cons.injEq, Cell.s.injEq, Value.int.injEq, Value.bool.injEq, Value.string.injEq] at e; simp [e] at h), trivial⟩, z6 rfl⟩)
 have e3 : x3 = y3 := by simpa using e3
 exact xr rfl (q7 rfl ⟨⟨rfl, zu (by simp [e0, e1, e2, e3]), trivial⟩, z6 rfl⟩)
theorem z6q (p q : List (List Cell)) (hp : WR 9000000000000000000 yy p) (hq : WR 9000000000000000000 yy q) : PC Tryz.prog 90 [.one (.l p), .one (.l q)] (rB (dE p q)) := by
 refine PC.begin Tryz.func90 rfl (by kernel_rfl) ?_
 have hpl := hp.1
 have hql := hq.1
 refine xb rfl (fun h => ?_) (fun h => ?_)
 · exact xr rfl (q7 rfl ⟨⟨rfl, qi (fun e => by subst e; simp at h), trivial⟩, z6 rfl⟩)
 have hl : p.length = q.length := by simpa [Int.ofNat_inj] using h
 refine qc rfl (ι := Nat) (fun i => i ≤ p.length ∧ p.take i = q.take i) (fun i => ⟨[(5, sV (.int .i64 i)), (0, .one (.b (.l p))), (1, .one (.b (.l q)))], []⟩) (fun i => p.length - i) 0 ⟨Nat.zero_le _, rfl⟩ ?_ ?_
 · repeat' (first | exact trivial | exact rfl | exact Or.inl rfl | refine And.intro ?_ ?_)
 · intro i ⟨hi, he⟩ J hJ
   refine xb rfl (fun h => ?_) (fun h => ?_)
   · have h : i < p.length := by simpa using h
     obtain ⟨row, hg⟩ : ∃ row, p[i]? = some row := ⟨_, List.getElem?_eq_getElem h⟩
     obtain ⟨row', hg'⟩ : ∃ row, q[i]? = some row := ⟨_, List.getElem?_eq_getElem (by omega)⟩
     obtain ⟨x0, x1, x2, x3, rfl⟩ := z26 (hp.2 row (List.mem_of_getElem? hg))
     obtain ⟨y0, y1, y2, y3, rfl⟩ := z26 (hq.2 row' (List.mem_of_getElem? hg'))
     refine yc rfl [] (.take 0 [] (.take 1 [] (.take 2 [] (.take 3 [8, 9] (.take 4 [] (.take 5 [] (.take 6 [] (.take 7 [8, 9] (.alt 8 (.take 9 [] .done) .nil))))))))) (by kernel_rfl) ?_
     refine xs rfl (Int.natCast_nonneg _) (q9 rfl _ hg (xs rfl rfl ?_))
     refine xs rfl (Int.natCast_nonneg _) (q9 rfl _ hg' (xs rfl rfl ?_))
     refine z7 rfl (y7r _ _ _ _ _ _ _ _) rfl ⟨⟨trivial, trivial, trivial, trivial, trivial⟩, ⟨trivial, trivial, trivial, trivial, trivial⟩, trivial⟩ ?_
     refine xb rfl (fun hb => ?_) (fun hb => ?_)
     · exact xr rfl (q7 rfl ⟨⟨rfl, qi (fun e => by subst e; rw [hg] at hg'; cases hg'; exact z03 hb rfl), trivial⟩, z6 rfl⟩)
     · have hb := q02 hb
       refine qa rfl (hJ _ (i + 1) ⟨by omega, qn he hg (hg'.trans (by rw [hb]))⟩ (by omega) ?_)
       repeat' (first | exact trivial | exact rfl | exact Or.inl rfl | exact cwi (by omega) (by omega) (by omega) | refine And.intro ?_ ?_)
   · have h : ¬ i < p.length := by simpa using h
     exact xr rfl (q7 rfl ⟨⟨rfl, zu (by rw [show i = p.length by omega, List.take_length] at he; rw [he, hl, List.take_length]), trivial⟩, z6 rfl⟩)
theorem z3t (x0 : Int) (x1 : List (List Cell)) (y0 : Int) (y1 : List (List Cell)) (h1 : WR 9000000000000000000 yy x1) (k1 : WR 9000000000000000000 yy y1) : PC Tryz.prog 136 [.agg [.s (.int .i64 x0), .l x1], .agg [.s (.int .i64 y0), .l y1]] (rB (dE (α := List Cell) [.s (.int .i64 x0), .l x1] [.s (.int .i64 y0), .l y1])) := by
 refine PC.begin Tryz.func136 rfl (by kernel_rfl) ?_
 refine xb rfl (fun h => ?_) (fun e0 => ?_)
 · exact xr rfl (q7 rfl ⟨⟨rfl, qi (fun e => by simp only [List.cons.injEq, Cell.s.injEq, Value.int.injEq, Value.bool.injEq, Value.string.injEq] at e; simp [e] at h), trivial⟩, z6 rfl⟩)
 have e0 : x0 = y0 := by simpa using e0
 refine z7 rfl (z6q _ _ h1 k1) rfl ⟨trivial, trivial, trivial⟩ ?_
 refine xb rfl (fun h => ?_) (fun e1 => ?_)
 · exact xr rfl (q7 rfl ⟨⟨rfl, qi (fun e => z03 h (by simp only [List.cons.injEq, Cell.l.injEq] at e ⊢; simp only [e]; try trivial)), trivial⟩, z6 rfl⟩)
 have e1 := q02 e1
 exact xr rfl (q7 rfl ⟨⟨rfl, zu (by simp [e0, e1]), trivial⟩, z6 rfl⟩)
theorem q1i (p q : List (List Cell)) (hp : WR 9000000000000000000 q8 p) (hq : WR 9000000000000000000 q8 q) : PC Tryz.prog 67 [.one (.l p), .one (.l q)] (rB (dE p q)) := by
 refine PC.begin Tryz.func67 rfl (by kernel_rfl) ?_
 have hpl := hp.1
 have hql := hq.1
 refine xb rfl (fun h => ?_) (fun h => ?_)
 · exact xr rfl (q7 rfl ⟨⟨rfl, qi (fun e => by subst e; simp at h), trivial⟩, z6 rfl⟩)
 have hl : p.length = q.length := by simpa [Int.ofNat_inj] using h
 refine qc rfl (ι := Nat) (fun i => i ≤ p.length ∧ p.take i = q.take i) (fun i => ⟨[(5, sV (.int .i64 i)), (0, .one (.b (.l p))), (1, .one (.b (.l q)))], []⟩) (fun i => p.length - i) 0 ⟨Nat.zero_le _, rfl⟩ ?_ ?_
 · repeat' (first | exact trivial | exact rfl | exact Or.inl rfl | refine And.intro ?_ ?_)
 · intro i ⟨hi, he⟩ J hJ
   refine xb rfl (fun h => ?_) (fun h => ?_)
   · have h : i < p.length := by simpa using h
     obtain ⟨row, hg⟩ : ∃ row, p[i]? = some row := ⟨_, List.getElem?_eq_getElem h⟩
     obtain ⟨row', hg'⟩ : ∃ row, q[i]? = some row := ⟨_, List.getElem?_eq_getElem (by omega)⟩
     obtain ⟨x0, x1, rfl, h1⟩ := z07 (hp.2 row (List.mem_of_getElem? hg))
     obtain ⟨y0, y1, rfl, k1⟩ := z07 (hq.2 row' (List.mem_of_getElem? hg'))
     refine yc rfl [] (.take 0 [] (.take 1 [] (.take 2 [] (.take 3 [8, 9] (.take 4 [] (.take 5 [] (.take 6 [] (.take 7 [8, 9] (.alt 8 (.take 9 [] .done) .nil))))))))) (by kernel_rfl) ?_
     refine xs rfl (Int.natCast_nonneg _) (q9 rfl _ hg (xs rfl rfl ?_))
     refine xs rfl (Int.natCast_nonneg _) (q9 rfl _ hg' (xs rfl rfl ?_))
     refine z7 rfl (z3t _ _ _ _ h1 k1) rfl ⟨⟨trivial, trivial, trivial⟩, ⟨trivial, trivial, trivial⟩, trivial⟩ ?_
     refine xb rfl (fun hb => ?_) (fun hb => ?_)
     · exact xr rfl (q7 rfl ⟨⟨rfl, qi (fun e => by subst e; rw [hg] at hg'; cases hg'; exact z03 hb rfl), trivial⟩, z6 rfl⟩)
     · have hb := q02 hb
       refine qa rfl (hJ _ (i + 1) ⟨by omega, qn he hg (hg'.trans (by rw [hb]))⟩ (by omega) ?_)
       repeat' (first | exact trivial | exact rfl | exact Or.inl rfl | exact cwi (by omega) (by omega) (by omega) | refine And.intro ?_ ?_)
   · have h : ¬ i < p.length := by simpa using h
     exact xr rfl (q7 rfl ⟨⟨rfl, zu (by rw [show i = p.length by omega, List.take_length] at he; rw [he, hl, List.take_length]), trivial⟩, z6 rfl⟩)
theorem y4f (x0 : Int) (x1 : Int) (x2 : Int) (y0 : Int) (y1 : Int) (y2 : Int)   : PC Tryz.prog 225 [.agg [.s (.int .i64 x0), .s (.int .i64 x1), .s (.int .i64 x2)], .agg [.s (.int .i64 y0), .s (.int .i64 y1), .s (.int .i64 y2)]] (rB (dE (α := List Cell) [.s (.int .i64 x0), .s (.int .i64 x1), .s (.int .i64 x2)] [.s (.int .i64 y0), .s (.int .i64 y1), .s (.int .i64 y2)])) := by
 refine PC.begin Tryz.func225 rfl (by kernel_rfl) ?_
 refine xb rfl (fun h => ?_) (fun e0 => ?_)
 · exact xr rfl (q7 rfl ⟨⟨rfl, qi (fun e => by simp only [List.cons.injEq, Cell.s.injEq, Value.int.injEq, Value.bool.injEq, Value.string.injEq] at e; simp [e] at h), trivial⟩, z6 rfl⟩)
 have e0 : x0 = y0 := by simpa using e0
 refine xb rfl (fun h => ?_) (fun e1 => ?_)
 · exact xr rfl (q7 rfl ⟨⟨rfl, qi (fun e => by simp only [List.cons.injEq, Cell.s.injEq, Value.int.injEq, Value.bool.injEq, Value.string.injEq] at e; simp [e] at h), trivial⟩, z6 rfl⟩)
 have e1 : x1 = y1 := by simpa using e1
 refine xb rfl (fun h => ?_) (fun e2 => ?_)
 · exact xr rfl (q7 rfl ⟨⟨rfl, qi (fun e => by simp only [List.cons.injEq, Cell.s.injEq, Value.int.injEq, Value.bool.injEq, Value.string.injEq] at e; simp [e] at h), trivial⟩, z6 rfl⟩)
 have e2 : x2 = y2 := by simpa using e2
 exact xr rfl (q7 rfl ⟨⟨rfl, zu (by simp [e0, e1, e2]), trivial⟩, z6 rfl⟩)
theorem y1r (p q : List (List Cell)) (hp : WR 9000000000000000000 z8 p) (hq : WR 9000000000000000000 z8 q) : PC Tryz.prog 154 [.one (.l p), .one (.l q)] (rB (dE p q)) := by
 refine PC.begin Tryz.func154 rfl (by kernel_rfl) ?_
 have hpl := hp.1
 have hql := hq.1
 refine xb rfl (fun h => ?_) (fun h => ?_)
 · exact xr rfl (q7 rfl ⟨⟨rfl, qi (fun e => by subst e; simp at h), trivial⟩, z6 rfl⟩)
 have hl : p.length = q.length := by simpa [Int.ofNat_inj] using h
 refine qc rfl (ι := Nat) (fun i => i ≤ p.length ∧ p.take i = q.take i) (fun i => ⟨[(5, sV (.int .i64 i)), (0, .one (.b (.l p))), (1, .one (.b (.l q)))], []⟩) (fun i => p.length - i) 0 ⟨Nat.zero_le _, rfl⟩ ?_ ?_
 · repeat' (first | exact trivial | exact rfl | exact Or.inl rfl | refine And.intro ?_ ?_)
 · intro i ⟨hi, he⟩ J hJ
   refine xb rfl (fun h => ?_) (fun h => ?_)
   · have h : i < p.length := by simpa using h
     obtain ⟨row, hg⟩ : ∃ row, p[i]? = some row := ⟨_, List.getElem?_eq_getElem h⟩
     obtain ⟨row', hg'⟩ : ∃ row, q[i]? = some row := ⟨_, List.getElem?_eq_getElem (by omega)⟩
     obtain ⟨x0, x1, x2, rfl⟩ := q05 (hp.2 row (List.mem_of_getElem? hg))
     obtain ⟨y0, y1, y2, rfl⟩ := q05 (hq.2 row' (List.mem_of_getElem? hg'))
     refine yc rfl [] (.take 0 [] (.take 1 [] (.take 2 [] (.take 3 [8, 9] (.take 4 [] (.take 5 [] (.take 6 [] (.take 7 [8, 9] (.alt 8 (.take 9 [] .done) .nil))))))))) (by kernel_rfl) ?_
     refine xs rfl (Int.natCast_nonneg _) (q9 rfl _ hg (xs rfl rfl ?_))
     refine xs rfl (Int.natCast_nonneg _) (q9 rfl _ hg' (xs rfl rfl ?_))
     refine z7 rfl (y4f _ _ _ _ _ _) rfl ⟨⟨trivial, trivial, trivial, trivial⟩, ⟨trivial, trivial, trivial, trivial⟩, trivial⟩ ?_
     refine xb rfl (fun hb => ?_) (fun hb => ?_)
     · exact xr rfl (q7 rfl ⟨⟨rfl, qi (fun e => by subst e; rw [hg] at hg'; cases hg'; exact z03 hb rfl), trivial⟩, z6 rfl⟩)
     · have hb := q02 hb
       refine qa rfl (hJ _ (i + 1) ⟨by omega, qn he hg (hg'.trans (by rw [hb]))⟩ (by omega) ?_)
       repeat' (first | exact trivial | exact rfl | exact Or.inl rfl | exact cwi (by omega) (by omega) (by omega) | refine And.intro ?_ ?_)
   · have h : ¬ i < p.length := by simpa using h
     exact xr rfl (q7 rfl ⟨⟨rfl, zu (by rw [show i = p.length by omega, List.take_length] at he; rw [he, hl, List.take_length]), trivial⟩, z6 rfl⟩)
theorem y6q (x0 : Int) (x1 : Int) (y0 : Int) (y1 : Int)   : PC Tryz.prog 279 [.agg [.s (.int .i64 x0), .s (.int .i64 x1)], .agg [.s (.int .i64 y0), .s (.int .i64 y1)]] (rB (dE (α := List Cell) [.s (.int .i64 x0), .s (.int .i64 x1)] [.s (.int .i64 y0), .s (.int .i64 y1)])) := by
 refine PC.begin Tryz.func279 rfl (by kernel_rfl) ?_
 refine xb rfl (fun h => ?_) (fun e0 => ?_)
 · exact xr rfl (q7 rfl ⟨⟨rfl, qi (fun e => by simp only [List.cons.injEq, Cell.s.injEq, Value.int.injEq, Value.bool.injEq, Value.string.injEq] at e; simp [e] at h), trivial⟩, z6 rfl⟩)
 have e0 : x0 = y0 := by simpa using e0
 refine xb rfl (fun h => ?_) (fun e1 => ?_)
 · exact xr rfl (q7 rfl ⟨⟨rfl, qi (fun e => by simp only [List.cons.injEq, Cell.s.injEq, Value.int.injEq, Value.bool.injEq, Value.string.injEq] at e; simp [e] at h), trivial⟩, z6 rfl⟩)
 have e1 : x1 = y1 := by simpa using e1
 exact xr rfl (q7 rfl ⟨⟨rfl, zu (by simp [e0, e1]), trivial⟩, z6 rfl⟩)
theorem y3g (p q : List (List Cell)) (hp : WR 9000000000000000000 yh p) (hq : WR 9000000000000000000 yh q) : PC Tryz.prog 216 [.one (.l p), .one (.l q)] (rB (dE p q)) := by
 refine PC.begin Tryz.func216 rfl (by kernel_rfl) ?_
 have hpl := hp.1
 have hql := hq.1
 refine xb rfl (fun h => ?_) (fun h => ?_)
 · exact xr rfl (q7 rfl ⟨⟨rfl, qi (fun e => by subst e; simp at h), trivial⟩, z6 rfl⟩)
 have hl : p.length = q.length := by simpa [Int.ofNat_inj] using h
 refine qc rfl (ι := Nat) (fun i => i ≤ p.length ∧ p.take i = q.take i) (fun i => ⟨[(5, sV (.int .i64 i)), (0, .one (.b (.l p))), (1, .one (.b (.l q)))], []⟩) (fun i => p.length - i) 0 ⟨Nat.zero_le _, rfl⟩ ?_ ?_
 · repeat' (first | exact trivial | exact rfl | exact Or.inl rfl | refine And.intro ?_ ?_)
 · intro i ⟨hi, he⟩ J hJ
   refine xb rfl (fun h => ?_) (fun h => ?_)
   · have h : i < p.length := by simpa using h
     obtain ⟨row, hg⟩ : ∃ row, p[i]? = some row := ⟨_, List.getElem?_eq_getElem h⟩
     obtain ⟨row', hg'⟩ : ∃ row, q[i]? = some row := ⟨_, List.getElem?_eq_getElem (by omega)⟩
     obtain ⟨x0, x1, rfl⟩ := q1d (hp.2 row (List.mem_of_getElem? hg))
     obtain ⟨y0, y1, rfl⟩ := q1d (hq.2 row' (List.mem_of_getElem? hg'))
     refine yc rfl [] (.take 0 [] (.take 1 [] (.take 2 [] (.take 3 [8, 9] (.take 4 [] (.take 5 [] (.take 6 [] (.take 7 [8, 9] (.alt 8 (.take 9 [] .done) .nil))))))))) (by kernel_rfl) ?_
     refine xs rfl (Int.natCast_nonneg _) (q9 rfl _ hg (xs rfl rfl ?_))
     refine xs rfl (Int.natCast_nonneg _) (q9 rfl _ hg' (xs rfl rfl ?_))
     refine z7 rfl (y6q _ _ _ _) rfl ⟨⟨trivial, trivial, trivial⟩, ⟨trivial, trivial, trivial⟩, trivial⟩ ?_
     refine xb rfl (fun hb => ?_) (fun hb => ?_)
     · exact xr rfl (q7 rfl ⟨⟨rfl, qi (fun e => by subst e; rw [hg] at hg'; cases hg'; exact z03 hb rfl), trivial⟩, z6 rfl⟩)
     · have hb := q02 hb
       refine qa rfl (hJ _ (i + 1) ⟨by omega, qn he hg (hg'.trans (by rw [hb]))⟩ (by omega) ?_)
       repeat' (first | exact trivial | exact rfl | exact Or.inl rfl | exact cwi (by omega) (by omega) (by omega) | refine And.intro ?_ ?_)
   · have h : ¬ i < p.length := by simpa using h
     exact xr rfl (q7 rfl ⟨⟨rfl, zu (by rw [show i = p.length by omega, List.take_length] at he; rw [he, hl, List.take_length]), trivial⟩, z6 rfl⟩)
theorem z2t (p q : List (List Cell)) (hp : WR 9000000000000000000 (.i .i64 .nil) p) (hq : WR 9000000000000000000 (.i .i64 .nil) q) : PC Tryz.prog 100 [.one (.l p), .one (.l q)] (rB (dE p q)) := by
 refine PC.begin Tryz.func100 rfl (by kernel_rfl) ?_
 have hpl := hp.1
 have hql := hq.1
 refine xb rfl (fun h => ?_) (fun h => ?_)
 · exact xr rfl (q7 rfl ⟨⟨rfl, qi (fun e => by subst e; simp at h), trivial⟩, z6 rfl⟩)
 have hl : p.length = q.length := by simpa [Int.ofNat_inj] using h
 refine qc rfl (ι := Nat) (fun i => i ≤ p.length ∧ p.take i = q.take i) (fun i => ⟨[(5, sV (.int .i64 i)), (0, .one (.b (.l p))), (1, .one (.b (.l q)))], []⟩) (fun i => p.length - i) 0 ⟨Nat.zero_le _, rfl⟩ ?_ ?_
 · repeat' (first | exact trivial | exact rfl | exact Or.inl rfl | refine And.intro ?_ ?_)
 · intro i ⟨hi, he⟩ J hJ
   refine xb rfl (fun h => ?_) (fun h => ?_)
   · have h : i < p.length := by simpa using h
     obtain ⟨row, hg⟩ : ∃ row, p[i]? = some row := ⟨_, List.getElem?_eq_getElem h⟩
     obtain ⟨row', hg'⟩ : ∃ row, q[i]? = some row := ⟨_, List.getElem?_eq_getElem (by omega)⟩
     obtain ⟨x0, _, rfl, hnil⟩ := ((hp.2 row (List.mem_of_getElem? hg))).zw; obtain rfl := hnil.yu
     obtain ⟨y0, _, rfl, knil⟩ := ((hq.2 row' (List.mem_of_getElem? hg'))).zw; obtain rfl := knil.yu
     refine yc rfl [] (.take 0 [] (.take 1 [] (.take 2 [] (.take 3 [8] (.take 4 [] (.take 5 [] (.take 6 [] (.take 7 [8] (.take 8 [] .done))))))))) (by kernel_rfl) ?_
     refine xs rfl (Int.natCast_nonneg _) (q9 rfl _ hg (xs rfl rfl ?_))
     refine xs rfl (Int.natCast_nonneg _) (q9 rfl _ hg' (xs rfl rfl ?_))
     refine xb rfl (fun hb => ?_) (fun hb => ?_)
     · exact xr rfl (q7 rfl ⟨⟨rfl, qi (fun e => by subst e; rw [hg] at hg'; cases hg'; simp at hb), trivial⟩, z6 rfl⟩)
     · have hb : x0 = y0 := by simpa using hb
       refine qa rfl (hJ _ (i + 1) ⟨by omega, qn he hg (hg'.trans (by rw [hb]))⟩ (by omega) ?_)
       repeat' (first | exact trivial | exact rfl | exact Or.inl rfl | exact cwi (by omega) (by omega) (by omega) | refine And.intro ?_ ?_)
   · have h : ¬ i < p.length := by simpa using h
     exact xr rfl (q7 rfl ⟨⟨rfl, zu (by rw [show i = p.length by omega, List.take_length] at he; rw [he, hl, List.take_length]), trivial⟩, z6 rfl⟩)
theorem q60 (x0 : Int) (x1 : List (List Cell)) (x2 : List (List Cell)) (x3 : List (List Cell)) (x4 : List (List Cell)) (x5 : List (List Cell)) (y0 : Int) (y1 : List (List Cell)) (y2 : List (List Cell)) (y3 : List (List Cell)) (y4 : List (List Cell)) (y5 : List (List Cell)) (h1 : WR 9000000000000000000 z8 x1) (h2 : WR 9000000000000000000 yh x2) (h3 : WR 9000000000000000000 q8 x3) (h4 : WR 9000000000000000000 yh x4) (h5 : WR 9000000000000000000 (.i .i64 .nil) x5) (k1 : WR 9000000000000000000 z8 y1) (k2 : WR 9000000000000000000 yh y2) (k3 : WR 9000000000000000000 q8 y3) (k4 : WR 9000000000000000000 yh y4) (k5 : WR 9000000000000000000 (.i .i64 .nil) y5) : PC Tryz.prog 137 [.agg [.s (.int .i64 x0), .l x1, .l x2, .l x3, .l x4, .l x5], .agg [.s (.int .i64 y0), .l y1, .l y2, .l y3, .l y4, .l y5]] (rB (dE (α := List Cell) [.s (.int .i64 x0), .l x1, .l x2, .l x3, .l x4, .l x5] [.s (.int .i64 y0), .l y1, .l y2, .l y3, .l y4, .l y5])) := by
 refine PC.begin Tryz.func137 rfl (by kernel_rfl) ?_
 refine xb rfl (fun h => ?_) (fun e0 => ?_)
 · exact xr rfl (q7 rfl ⟨⟨rfl, qi (fun e => by simp only [List.cons.injEq, Cell.s.injEq, Value.int.injEq, Value.bool.injEq, Value.string.injEq] at e; simp [e] at h), trivial⟩, z6 rfl⟩)
 have e0 : x0 = y0 := by simpa using e0
 refine z7 rfl (y1r _ _ h1 k1) rfl ⟨trivial, trivial, trivial⟩ ?_
 refine xb rfl (fun h => ?_) (fun e1 => ?_)
 · exact xr rfl (q7 rfl ⟨⟨rfl, qi (fun e => z03 h (by simp only [List.cons.injEq, Cell.l.injEq] at e ⊢; simp only [e]; try trivial)), trivial⟩, z6 rfl⟩)
 have e1 := q02 e1
 refine z7 rfl (y3g _ _ h2 k2) rfl ⟨trivial, trivial, trivial⟩ ?_
 refine xb rfl (fun h => ?_) (fun e2 => ?_)
 · exact xr rfl (q7 rfl ⟨⟨rfl, qi (fun e => z03 h (by simp only [List.cons.injEq, Cell.l.injEq] at e ⊢; simp only [e]; try trivial)), trivial⟩, z6 rfl⟩)
 have e2 := q02 e2
 refine z7 rfl (q1i _ _ h3 k3) rfl ⟨trivial, trivial, trivial⟩ ?_
 refine xb rfl (fun h => ?_) (fun e3 => ?_)
 · exact xr rfl (q7 rfl ⟨⟨rfl, qi (fun e => z03 h (by simp only [List.cons.injEq, Cell.l.injEq] at e ⊢; simp only [e]; try trivial)), trivial⟩, z6 rfl⟩)
 have e3 := q02 e3
 refine z7 rfl (y3g _ _ h4 k4) rfl ⟨trivial, trivial, trivial⟩ ?_
 refine xb rfl (fun h => ?_) (fun e4 => ?_)
 · exact xr rfl (q7 rfl ⟨⟨rfl, qi (fun e => z03 h (by simp only [List.cons.injEq, Cell.l.injEq] at e ⊢; simp only [e]; try trivial)), trivial⟩, z6 rfl⟩)
 have e4 := q02 e4
 refine z7 rfl (z2t _ _ h5 k5) rfl ⟨trivial, trivial, trivial⟩ ?_
 refine xb rfl (fun h => ?_) (fun e5 => ?_)
 · exact xr rfl (q7 rfl ⟨⟨rfl, qi (fun e => z03 h (by simp only [List.cons.injEq, Cell.l.injEq] at e ⊢; simp only [e]; try trivial)), trivial⟩, z6 rfl⟩)
 have e5 := q02 e5
 exact xr rfl (q7 rfl ⟨⟨rfl, zu (by simp [e0, e1, e2, e3, e4, e5]), trivial⟩, z6 rfl⟩)
theorem z53 (p q : List (List Cell)) (hp : WR 9000000000000000000 qe p) (hq : WR 9000000000000000000 qe q) : PC Tryz.prog 68 [.one (.l p), .one (.l q)] (rB (dE p q)) := by
 refine PC.begin Tryz.func68 rfl (by kernel_rfl) ?_
 have hpl := hp.1
 have hql := hq.1
 refine xb rfl (fun h => ?_) (fun h => ?_)
 · exact xr rfl (q7 rfl ⟨⟨rfl, qi (fun e => by subst e; simp at h), trivial⟩, z6 rfl⟩)
 have hl : p.length = q.length := by simpa [Int.ofNat_inj] using h
 refine qc rfl (ι := Nat) (fun i => i ≤ p.length ∧ p.take i = q.take i) (fun i => ⟨[(5, sV (.int .i64 i)), (0, .one (.b (.l p))), (1, .one (.b (.l q)))], []⟩) (fun i => p.length - i) 0 ⟨Nat.zero_le _, rfl⟩ ?_ ?_
 · repeat' (first | exact trivial | exact rfl | exact Or.inl rfl | refine And.intro ?_ ?_)
 · intro i ⟨hi, he⟩ J hJ
   refine xb rfl (fun h => ?_) (fun h => ?_)
   · have h : i < p.length := by simpa using h
     obtain ⟨row, hg⟩ : ∃ row, p[i]? = some row := ⟨_, List.getElem?_eq_getElem h⟩
     obtain ⟨row', hg'⟩ : ∃ row, q[i]? = some row := ⟨_, List.getElem?_eq_getElem (by omega)⟩
     obtain ⟨x0, x1, x2, x3, x4, x5, rfl, h1, h2, h3, h4, h5⟩ := q0v (hp.2 row (List.mem_of_getElem? hg))
     obtain ⟨y0, y1, y2, y3, y4, y5, rfl, k1, k2, k3, k4, k5⟩ := q0v (hq.2 row' (List.mem_of_getElem? hg'))
     refine yc rfl [] (.take 0 [] (.take 1 [] (.take 2 [] (.take 3 [8, 9] (.take 4 [] (.take 5 [] (.take 6 [] (.take 7 [8, 9] (.alt 8 (.take 9 [] .done) .nil))))))))) (by kernel_rfl) ?_
     refine xs rfl (Int.natCast_nonneg _) (q9 rfl _ hg (xs rfl rfl ?_))
     refine xs rfl (Int.natCast_nonneg _) (q9 rfl _ hg' (xs rfl rfl ?_))
     refine z7 rfl (q60 _ _ _ _ _ _ _ _ _ _ _ _ h1 h2 h3 h4 h5 k1 k2 k3 k4 k5) rfl ⟨⟨trivial, trivial, trivial, trivial, trivial, trivial, trivial⟩, ⟨trivial, trivial, trivial, trivial, trivial, trivial, trivial⟩, trivial⟩ ?_
     refine xb rfl (fun hb => ?_) (fun hb => ?_)
     · exact xr rfl (q7 rfl ⟨⟨rfl, qi (fun e => by subst e; rw [hg] at hg'; cases hg'; exact z03 hb rfl), trivial⟩, z6 rfl⟩)
     · have hb := q02 hb
       refine qa rfl (hJ _ (i + 1) ⟨by omega, qn he hg (hg'.trans (by rw [hb]))⟩ (by omega) ?_)
       repeat' (first | exact trivial | exact rfl | exact Or.inl rfl | exact cwi (by omega) (by omega) (by omega) | refine And.intro ?_ ?_)
   · have h : ¬ i < p.length := by simpa using h
     exact xr rfl (q7 rfl ⟨⟨rfl, zu (by rw [show i = p.length by omega, List.take_length] at he; rw [he, hl, List.take_length]), trivial⟩, z6 rfl⟩)
theorem y2t (x0 : Int) (x1 : Int) (y0 : Int) (y1 : Int)   : PC Tryz.prog 220 [.agg [.s (.int .i64 x0), .s (.int .i64 x1)], .agg [.s (.int .i64 y0), .s (.int .i64 y1)]] (rB (dE (α := List Cell) [.s (.int .i64 x0), .s (.int .i64 x1)] [.s (.int .i64 y0), .s (.int .i64 y1)])) := by
 refine PC.begin Tryz.func220 rfl (by kernel_rfl) ?_
 refine xb rfl (fun h => ?_) (fun e0 => ?_)
 · exact xr rfl (q7 rfl ⟨⟨rfl, qi (fun e => by simp only [List.cons.injEq, Cell.s.injEq, Value.int.injEq, Value.bool.injEq, Value.string.injEq] at e; simp [e] at h), trivial⟩, z6 rfl⟩)
 have e0 : x0 = y0 := by simpa using e0
 refine xb rfl (fun h => ?_) (fun e1 => ?_)
 · exact xr rfl (q7 rfl ⟨⟨rfl, qi (fun e => by simp only [List.cons.injEq, Cell.s.injEq, Value.int.injEq, Value.bool.injEq, Value.string.injEq] at e; simp [e] at h), trivial⟩, z6 rfl⟩)
 have e1 : x1 = y1 := by simpa using e1
 exact xr rfl (q7 rfl ⟨⟨rfl, zu (by simp [e0, e1]), trivial⟩, z6 rfl⟩)
theorem q3g (p q : List (List Cell)) (hp : WR 9000000000000000000 ym p) (hq : WR 9000000000000000000 ym q) : PC Tryz.prog 320 [.one (.l p), .one (.l q)] (rB (dE p q)) := by
 refine PC.begin Tryz.func320 rfl (by kernel_rfl) ?_
 have hpl := hp.1
 have hql := hq.1
 refine xb rfl (fun h => ?_) (fun h => ?_)
 · exact xr rfl (q7 rfl ⟨⟨rfl, qi (fun e => by subst e; simp at h), trivial⟩, z6 rfl⟩)
 have hl : p.length = q.length := by simpa [Int.ofNat_inj] using h
 refine qc rfl (ι := Nat) (fun i => i ≤ p.length ∧ p.take i = q.take i) (fun i => ⟨[(5, sV (.int .i64 i)), (0, .one (.b (.l p))), (1, .one (.b (.l q)))], []⟩) (fun i => p.length - i) 0 ⟨Nat.zero_le _, rfl⟩ ?_ ?_
 · repeat' (first | exact trivial | exact rfl | exact Or.inl rfl | refine And.intro ?_ ?_)
 · intro i ⟨hi, he⟩ J hJ
   refine xb rfl (fun h => ?_) (fun h => ?_)
   · have h : i < p.length := by simpa using h
     obtain ⟨row, hg⟩ : ∃ row, p[i]? = some row := ⟨_, List.getElem?_eq_getElem h⟩
     obtain ⟨row', hg'⟩ : ∃ row, q[i]? = some row := ⟨_, List.getElem?_eq_getElem (by omega)⟩
     obtain ⟨x0, x1, rfl⟩ := y1e (hp.2 row (List.mem_of_getElem? hg))
     obtain ⟨y0, y1, rfl⟩ := y1e (hq.2 row' (List.mem_of_getElem? hg'))
     refine yc rfl [] (.take 0 [] (.take 1 [] (.take 2 [] (.take 3 [8, 9] (.take 4 [] (.take 5 [] (.take 6 [] (.take 7 [8, 9] (.alt 8 (.take 9 [] .done) .nil))))))))) (by kernel_rfl) ?_
     refine xs rfl (Int.natCast_nonneg _) (q9 rfl _ hg (xs rfl rfl ?_))
     refine xs rfl (Int.natCast_nonneg _) (q9 rfl _ hg' (xs rfl rfl ?_))
     refine z7 rfl (y2t _ _ _ _) rfl ⟨⟨trivial, trivial, trivial⟩, ⟨trivial, trivial, trivial⟩, trivial⟩ ?_
     refine xb rfl (fun hb => ?_) (fun hb => ?_)
     · exact xr rfl (q7 rfl ⟨⟨rfl, qi (fun e => by subst e; rw [hg] at hg'; cases hg'; exact z03 hb rfl), trivial⟩, z6 rfl⟩)
     · have hb := q02 hb
       refine qa rfl (hJ _ (i + 1) ⟨by omega, qn he hg (hg'.trans (by rw [hb]))⟩ (by omega) ?_)
       repeat' (first | exact trivial | exact rfl | exact Or.inl rfl | exact cwi (by omega) (by omega) (by omega) | refine And.intro ?_ ?_)
   · have h : ¬ i < p.length := by simpa using h
     exact xr rfl (q7 rfl ⟨⟨rfl, zu (by rw [show i = p.length by omega, List.take_length] at he; rw [he, hl, List.take_length]), trivial⟩, z6 rfl⟩)
theorem q6q (x0 : Int) (x1 : Int) (x2 : Int) (x3 : Int) (x4 : Int) (x5 : List (List Cell)) (y0 : Int) (y1 : Int) (y2 : Int) (y3 : Int) (y4 : Int) (y5 : List (List Cell)) (h5 : WR 9000000000000000000 ym x5) (k5 : WR 9000000000000000000 ym y5) : PC Tryz.prog 280 [.agg [.s (.int .i64 x0), .s (.int .i64 x1), .s (.int .i64 x2), .s (.int .i64 x3), .s (.int .i64 x4), .l x5], .agg [.s (.int .i64 y0), .s (.int .i64 y1), .s (.int .i64 y2), .s (.int .i64 y3), .s (.int .i64 y4), .l y5]] (rB (dE (α := List Cell) [.s (.int .i64 x0), .s (.int .i64 x1), .s (.int .i64 x2), .s (.int .i64 x3), .s (.int .i64 x4), .l x5] [.s (.int .i64 y0), .s (.int .i64 y1), .s (.int .i64 y2), .s (.int .i64 y3), .s (.int .i64 y4), .l y5])) := by
 refine PC.begin Tryz.func280 rfl (by kernel_rfl) ?_
 refine xb rfl (fun h => ?_) (fun e0 => ?_)
 · exact xr rfl (q7 rfl ⟨⟨rfl, qi (fun e => by simp only [List.cons.injEq, Cell.s.injEq, Value.int.injEq, Value.bool.injEq, Value.string.injEq] at e; simp [e] at h), trivial⟩, z6 rfl⟩)
 have e0 : x0 = y0 := by simpa using e0
 refine xb rfl (fun h => ?_) (fun e1 => ?_)
 · exact xr rfl (q7 rfl ⟨⟨rfl, qi (fun e => by simp only [List.cons.injEq, Cell.s.injEq, Value.int.injEq, Value.bool.injEq, Value.string.injEq] at e; simp [e] at h), trivial⟩, z6 rfl⟩)
 have e1 : x1 = y1 := by simpa using e1
 refine xb rfl (fun h => ?_) (fun e2 => ?_)
 · exact xr rfl (q7 rfl ⟨⟨rfl, qi (fun e => by simp only [List.cons.injEq, Cell.s.injEq, Value.int.injEq, Value.bool.injEq, Value.string.injEq] at e; simp [e] at h), trivial⟩, z6 rfl⟩)
 have e2 : x2 = y2 := by simpa using e2
 refine z7 rfl (y2t _ _ _ _) rfl ⟨⟨trivial, trivial, trivial⟩, ⟨trivial, trivial, trivial⟩, trivial⟩ ?_
 refine xb rfl (fun h => ?_) (fun e3 => ?_)
 · exact xr rfl (q7 rfl ⟨⟨rfl, qi (fun e => z03 h (by simp only [List.cons.injEq, Cell.l.injEq] at e ⊢; simp only [e]; try trivial)), trivial⟩, z6 rfl⟩)
 have e3 := q02 e3
 simp only [List.cons.injEq, Cell.s.injEq, Cell.l.injEq, Value.int.injEq, Value.bool.injEq, and_true, true_and] at e3
 refine z7 rfl (q3g _ _ h5 k5) rfl ⟨trivial, trivial, trivial⟩ ?_
 refine xb rfl (fun h => ?_) (fun e5 => ?_)
 · exact xr rfl (q7 rfl ⟨⟨rfl, qi (fun e => z03 h (by simp only [List.cons.injEq, Cell.l.injEq] at e ⊢; simp only [e]; try trivial)), trivial⟩, z6 rfl⟩)
 have e5 := q02 e5
 exact xr rfl (q7 rfl ⟨⟨rfl, zu (by simp [e0, e1, e2, e3, e5]), trivial⟩, z6 rfl⟩)
theorem y61 (p q : List (List Cell)) (hp : WR 9000000000000000000 zl p) (hq : WR 9000000000000000000 zl q) : PC Tryz.prog 217 [.one (.l p), .one (.l q)] (rB (dE p q)) := by
 refine PC.begin Tryz.func217 rfl (by kernel_rfl) ?_
 have hpl := hp.1
 have hql := hq.1
 refine xb rfl (fun h => ?_) (fun h => ?_)
 · exact xr rfl (q7 rfl ⟨⟨rfl, qi (fun e => by subst e; simp at h), trivial⟩, z6 rfl⟩)
 have hl : p.length = q.length := by simpa [Int.ofNat_inj] using h
 refine qc rfl (ι := Nat) (fun i => i ≤ p.length ∧ p.take i = q.take i) (fun i => ⟨[(5, sV (.int .i64 i)), (0, .one (.b (.l p))), (1, .one (.b (.l q)))], []⟩) (fun i => p.length - i) 0 ⟨Nat.zero_le _, rfl⟩ ?_ ?_
 · repeat' (first | exact trivial | exact rfl | exact Or.inl rfl | refine And.intro ?_ ?_)
 · intro i ⟨hi, he⟩ J hJ
   refine xb rfl (fun h => ?_) (fun h => ?_)
   · have h : i < p.length := by simpa using h
     obtain ⟨row, hg⟩ : ∃ row, p[i]? = some row := ⟨_, List.getElem?_eq_getElem h⟩
     obtain ⟨row', hg'⟩ : ∃ row, q[i]? = some row := ⟨_, List.getElem?_eq_getElem (by omega)⟩
     obtain ⟨x0, x1, x2, x3, x4, x5, rfl, h5⟩ := z1e (hp.2 row (List.mem_of_getElem? hg))
     obtain ⟨y0, y1, y2, y3, y4, y5, rfl, k5⟩ := z1e (hq.2 row' (List.mem_of_getElem? hg'))
     refine yc rfl [] (.take 0 [] (.take 1 [] (.take 2 [] (.take 3 [8, 9] (.take 4 [] (.take 5 [] (.take 6 [] (.take 7 [8, 9] (.alt 8 (.take 9 [] .done) .nil))))))))) (by kernel_rfl) ?_
     refine xs rfl (Int.natCast_nonneg _) (q9 rfl _ hg (xs rfl rfl ?_))
     refine xs rfl (Int.natCast_nonneg _) (q9 rfl _ hg' (xs rfl rfl ?_))
     refine z7 rfl (q6q _ _ _ _ _ _ _ _ _ _ _ _ h5 k5) rfl ⟨⟨trivial, trivial, trivial, trivial, trivial, trivial, trivial⟩, ⟨trivial, trivial, trivial, trivial, trivial, trivial, trivial⟩, trivial⟩ ?_
     refine xb rfl (fun hb => ?_) (fun hb => ?_)
     · exact xr rfl (q7 rfl ⟨⟨rfl, qi (fun e => by subst e; rw [hg] at hg'; cases hg'; exact z03 hb rfl), trivial⟩, z6 rfl⟩)
     · have hb := q02 hb
       refine qa rfl (hJ _ (i + 1) ⟨by omega, qn he hg (hg'.trans (by rw [hb]))⟩ (by omega) ?_)
       repeat' (first | exact trivial | exact rfl | exact Or.inl rfl | exact cwi (by omega) (by omega) (by omega) | refine And.intro ?_ ?_)
   · have h : ¬ i < p.length := by simpa using h
     exact xr rfl (q7 rfl ⟨⟨rfl, zu (by rw [show i = p.length by omega, List.take_length] at he; rw [he, hl, List.take_length]), trivial⟩, z6 rfl⟩)
theorem q3s (x0 : List (List Cell)) (y0 : List (List Cell)) (h0 : WR 9000000000000000000 zl x0) (k0 : WR 9000000000000000000 zl y0) : PC Tryz.prog 138 [.agg [.l x0], .agg [.l y0]] (rB (dE (α := List Cell) [.l x0] [.l y0])) := by
 refine PC.begin Tryz.func138 rfl (by kernel_rfl) ?_
 refine z7 rfl (y61 _ _ h0 k0) rfl ⟨trivial, trivial, trivial⟩ ?_
 refine xb rfl (fun h => ?_) (fun e0 => ?_)
 · exact xr rfl (q7 rfl ⟨⟨rfl, qi (fun e => z03 h (by simp only [List.cons.injEq, Cell.l.injEq] at e ⊢; simp only [e]; try trivial)), trivial⟩, z6 rfl⟩)
 have e0 := q02 e0
 exact xr rfl (q7 rfl ⟨⟨rfl, zu (by simp [e0]), trivial⟩, z6 rfl⟩)
theorem q39 (p q : List (List Cell)) (hp : WR 9000000000000000000 ya p) (hq : WR 9000000000000000000 ya q) : PC Tryz.prog 69 [.one (.l p), .one (.l q)] (rB (dE p q)) := by
 refine PC.begin Tryz.func69 rfl (by kernel_rfl) ?_
 have hpl := hp.1
 have hql := hq.1
 refine xb rfl (fun h => ?_) (fun h => ?_)
 · exact xr rfl (q7 rfl ⟨⟨rfl, qi (fun e => by subst e; simp at h), trivial⟩, z6 rfl⟩)
 have hl : p.length = q.length := by simpa [Int.ofNat_inj] using h
 refine qc rfl (ι := Nat) (fun i => i ≤ p.length ∧ p.take i = q.take i) (fun i => ⟨[(5, sV (.int .i64 i)), (0, .one (.b (.l p))), (1, .one (.b (.l q)))], []⟩) (fun i => p.length - i) 0 ⟨Nat.zero_le _, rfl⟩ ?_ ?_
 · repeat' (first | exact trivial | exact rfl | exact Or.inl rfl | refine And.intro ?_ ?_)
 · intro i ⟨hi, he⟩ J hJ
   refine xb rfl (fun h => ?_) (fun h => ?_)
   · have h : i < p.length := by simpa using h
     obtain ⟨row, hg⟩ : ∃ row, p[i]? = some row := ⟨_, List.getElem?_eq_getElem h⟩
     obtain ⟨row', hg'⟩ : ∃ row, q[i]? = some row := ⟨_, List.getElem?_eq_getElem (by omega)⟩
     obtain ⟨x0, rfl, h0⟩ := q06 (hp.2 row (List.mem_of_getElem? hg))
     obtain ⟨y0, rfl, k0⟩ := q06 (hq.2 row' (List.mem_of_getElem? hg'))
     refine yc rfl [] (.take 0 [] (.take 1 [] (.take 2 [] (.take 3 [8, 9] (.take 4 [] (.take 5 [] (.take 6 [] (.take 7 [8, 9] (.alt 8 (.take 9 [] .done) .nil))))))))) (by kernel_rfl) ?_
     refine xs rfl (Int.natCast_nonneg _) (q9 rfl _ hg (xs rfl rfl ?_))
     refine xs rfl (Int.natCast_nonneg _) (q9 rfl _ hg' (xs rfl rfl ?_))
     refine z7 rfl (q3s _ _ h0 k0) rfl ⟨⟨trivial, trivial⟩, ⟨trivial, trivial⟩, trivial⟩ ?_
     refine xb rfl (fun hb => ?_) (fun hb => ?_)
     · exact xr rfl (q7 rfl ⟨⟨rfl, qi (fun e => by subst e; rw [hg] at hg'; cases hg'; exact z03 hb rfl), trivial⟩, z6 rfl⟩)
     · have hb := q02 hb
       refine qa rfl (hJ _ (i + 1) ⟨by omega, qn he hg (hg'.trans (by rw [hb]))⟩ (by omega) ?_)
       repeat' (first | exact trivial | exact rfl | exact Or.inl rfl | exact cwi (by omega) (by omega) (by omega) | refine And.intro ?_ ?_)
   · have h : ¬ i < p.length := by simpa using h
     exact xr rfl (q7 rfl ⟨⟨rfl, zu (by rw [show i = p.length by omega, List.take_length] at he; rw [he, hl, List.take_length]), trivial⟩, z6 rfl⟩)
theorem q7r (x0 : Int) (x1 : Int) (x2 : Int) (x3 : Int) (x4 : List (List Cell)) (x5 : List (List Cell)) (y0 : Int) (y1 : Int) (y2 : Int) (y3 : Int) (y4 : List (List Cell)) (y5 : List (List Cell)) (h4 : WR 9000000000000000000 (.i .i64 .nil) x4) (h5 : WR 9000000000000000000 ym x5) (k4 : WR 9000000000000000000 (.i .i64 .nil) y4) (k5 : WR 9000000000000000000 ym y5) : PC Tryz.prog 281 [.agg [.s (.int .i64 x0), .s (.int .i64 x1), .s (.int .i64 x2), .s (.int .i64 x3), .l x4, .l x5], .agg [.s (.int .i64 y0), .s (.int .i64 y1), .s (.int .i64 y2), .s (.int .i64 y3), .l y4, .l y5]] (rB (dE (α := List Cell) [.s (.int .i64 x0), .s (.int .i64 x1), .s (.int .i64 x2), .s (.int .i64 x3), .l x4, .l x5] [.s (.int .i64 y0), .s (.int .i64 y1), .s (.int .i64 y2), .s (.int .i64 y3), .l y4, .l y5])) := by
 refine PC.begin Tryz.func281 rfl (by kernel_rfl) ?_
 refine xb rfl (fun h => ?_) (fun e0 => ?_)
 · exact xr rfl (q7 rfl ⟨⟨rfl, qi (fun e => by simp only [List.cons.injEq, Cell.s.injEq, Value.int.injEq, Value.bool.injEq, Value.string.injEq] at e; simp [e] at h), trivial⟩, z6 rfl⟩)
 have e0 : x0 = y0 := by simpa using e0
 refine xb rfl (fun h => ?_) (fun e1 => ?_)
 · exact xr rfl (q7 rfl ⟨⟨rfl, qi (fun e => by simp only [List.cons.injEq, Cell.s.injEq, Value.int.injEq, Value.bool.injEq, Value.string.injEq] at e; simp [e] at h), trivial⟩, z6 rfl⟩)
 have e1 : x1 = y1 := by simpa using e1
 refine xb rfl (fun h => ?_) (fun e2 => ?_)
 · exact xr rfl (q7 rfl ⟨⟨rfl, qi (fun e => by simp only [List.cons.injEq, Cell.s.injEq, Value.int.injEq, Value.bool.injEq, Value.string.injEq] at e; simp [e] at h), trivial⟩, z6 rfl⟩)
 have e2 : x2 = y2 := by simpa using e2
 refine xb rfl (fun h => ?_) (fun e3 => ?_)
 · exact xr rfl (q7 rfl ⟨⟨rfl, qi (fun e => by simp only [List.cons.injEq, Cell.s.injEq, Value.int.injEq, Value.bool.injEq, Value.string.injEq] at e; simp [e] at h), trivial⟩, z6 rfl⟩)
 have e3 : x3 = y3 := by simpa using e3
 refine z7 rfl (z2t _ _ h4 k4) rfl ⟨trivial, trivial, trivial⟩ ?_
 refine xb rfl (fun h => ?_) (fun e4 => ?_)
 · exact xr rfl (q7 rfl ⟨⟨rfl, qi (fun e => z03 h (by simp only [List.cons.injEq, Cell.l.injEq] at e ⊢; simp only [e]; try trivial)), trivial⟩, z6 rfl⟩)
 have e4 := q02 e4
 refine z7 rfl (q3g _ _ h5 k5) rfl ⟨trivial, trivial, trivial⟩ ?_
 refine xb rfl (fun h => ?_) (fun e5 => ?_)
 · exact xr rfl (q7 rfl ⟨⟨rfl, qi (fun e => z03 h (by simp only [List.cons.injEq, Cell.l.injEq] at e ⊢; simp only [e]; try trivial)), trivial⟩, z6 rfl⟩)
 have e5 := q02 e5
 exact xr rfl (q7 rfl ⟨⟨rfl, zu (by simp [e0, e1, e2, e3, e4, e5]), trivial⟩, z6 rfl⟩)
theorem z6r (p q : List (List Cell)) (hp : WR 9000000000000000000 yp p) (hq : WR 9000000000000000000 yp q) : PC Tryz.prog 218 [.one (.l p), .one (.l q)] (rB (dE p q)) := by
 refine PC.begin Tryz.func218 rfl (by kernel_rfl) ?_
 have hpl := hp.1
 have hql := hq.1
 refine xb rfl (fun h => ?_) (fun h => ?_)
 · exact xr rfl (q7 rfl ⟨⟨rfl, qi (fun e => by subst e; simp at h), trivial⟩, z6 rfl⟩)
 have hl : p.length = q.length := by simpa [Int.ofNat_inj] using h
 refine qc rfl (ι := Nat) (fun i => i ≤ p.length ∧ p.take i = q.take i) (fun i => ⟨[(5, sV (.int .i64 i)), (0, .one (.b (.l p))), (1, .one (.b (.l q)))], []⟩) (fun i => p.length - i) 0 ⟨Nat.zero_le _, rfl⟩ ?_ ?_
 · repeat' (first | exact trivial | exact rfl | exact Or.inl rfl | refine And.intro ?_ ?_)
 · intro i ⟨hi, he⟩ J hJ
   refine xb rfl (fun h => ?_) (fun h => ?_)
   · have h : i < p.length := by simpa using h
     obtain ⟨row, hg⟩ : ∃ row, p[i]? = some row := ⟨_, List.getElem?_eq_getElem h⟩
     obtain ⟨row', hg'⟩ : ∃ row, q[i]? = some row := ⟨_, List.getElem?_eq_getElem (by omega)⟩
     obtain ⟨x0, x1, x2, x3, x4, x5, rfl, h4, h5⟩ := y26 (hp.2 row (List.mem_of_getElem? hg))
     obtain ⟨y0, y1, y2, y3, y4, y5, rfl, k4, k5⟩ := y26 (hq.2 row' (List.mem_of_getElem? hg'))
     refine yc rfl [] (.take 0 [] (.take 1 [] (.take 2 [] (.take 3 [8, 9] (.take 4 [] (.take 5 [] (.take 6 [] (.take 7 [8, 9] (.alt 8 (.take 9 [] .done) .nil))))))))) (by kernel_rfl) ?_
     refine xs rfl (Int.natCast_nonneg _) (q9 rfl _ hg (xs rfl rfl ?_))
     refine xs rfl (Int.natCast_nonneg _) (q9 rfl _ hg' (xs rfl rfl ?_))
     refine z7 rfl (q7r _ _ _ _ _ _ _ _ _ _ _ _ h4 h5 k4 k5) rfl ⟨⟨trivial, trivial, trivial, trivial, trivial, trivial, trivial⟩, ⟨trivial, trivial, trivial, trivial, trivial, trivial, trivial⟩, trivial⟩ ?_
     refine xb rfl (fun hb => ?_) (fun hb => ?_)
     · exact xr rfl (q7 rfl ⟨⟨rfl, qi (fun e => by subst e; rw [hg] at hg'; cases hg'; exact z03 hb rfl), trivial⟩, z6 rfl⟩)
     · have hb := q02 hb
       refine qa rfl (hJ _ (i + 1) ⟨by omega, qn he hg (hg'.trans (by rw [hb]))⟩ (by omega) ?_)
       repeat' (first | exact trivial | exact rfl | exact Or.inl rfl | exact cwi (by omega) (by omega) (by omega) | refine And.intro ?_ ?_)
   · have h : ¬ i < p.length := by simpa using h
     exact xr rfl (q7 rfl ⟨⟨rfl, zu (by rw [show i = p.length by omega, List.take_length] at he; rw [he, hl, List.take_length]), trivial⟩, z6 rfl⟩)
theorem y60 (x0 : Int) (x1 : Int) (x2 : Int) (x3 : Int) (x4 : Int) (y0 : Int) (y1 : Int) (y2 : Int) (y3 : Int) (y4 : Int)   : PC Tryz.prog 282 [.agg [.s (.int .i64 x0), .s (.int .i64 x1), .s (.int .i64 x2), .s (.int .i64 x3), .s (.int .i64 x4)], .agg [.s (.int .i64 y0), .s (.int .i64 y1), .s (.int .i64 y2), .s (.int .i64 y3), .s (.int .i64 y4)]] (rB (dE (α := List Cell) [.s (.int .i64 x0), .s (.int .i64 x1), .s (.int .i64 x2), .s (.int .i64 x3), .s (.int .i64 x4)] [.s (.int .i64 y0), .s (.int .i64 y1), .s (.int .i64 y2), .s (.int .i64 y3), .s (.int .i64 y4)])) := by
 refine PC.begin Tryz.func282 rfl (by kernel_rfl) ?_
 refine xb rfl (fun h => ?_) (fun e0 => ?_)
 · exact xr rfl (q7 rfl ⟨⟨rfl, qi (fun e => by simp only [List.cons.injEq, Cell.s.injEq, Value.int.injEq, Value.bool.injEq, Value.string.injEq] at e; simp [e] at h), trivial⟩, z6 rfl⟩)
 have e0 : x0 = y0 := by simpa using e0
 refine xb rfl (fun h => ?_) (fun e1 => ?_)
 · exact xr rfl (q7 rfl ⟨⟨rfl, qi (fun e => by simp only [List.cons.injEq, Cell.s.injEq, Value.int.injEq, Value.bool.injEq, Value.string.injEq] at e; simp [e] at h), trivial⟩, z6 rfl⟩)
 have e1 : x1 = y1 := by simpa using e1
 refine xb rfl (fun h => ?_) (fun e2 => ?_)
 · exact xr rfl (q7 rfl ⟨⟨rfl, qi (fun e => by simp only [List.cons.injEq, Cell.s.injEq, Value.int.injEq, Value.bool.injEq, Value.string.injEq] at e; simp [e] at h), trivial⟩, z6 rfl⟩)
 have e2 : x2 = y2 := by simpa using e2
 refine xb rfl (fun h => ?_) (fun e3 => ?_)
 · exact xr rfl (q7 rfl ⟨⟨rfl, qi (fun e => by simp only [List.cons.injEq, Cell.s.injEq, Value.int.injEq, Value.bool.injEq, Value.string.injEq] at e; simp [e] at h), trivial⟩, z6 rfl⟩)
 have e3 : x3 = y3 := by simpa using e3
 refine xb rfl (fun h => ?_) (fun e4 => ?_)
 · exact xr rfl (q7 rfl ⟨⟨rfl, qi (fun e => by simp only [List.cons.injEq, Cell.s.injEq, Value.int.injEq, Value.bool.injEq, Value.string.injEq] at e; simp [e] at h), trivial⟩, z6 rfl⟩)
 have e4 : x4 = y4 := by simpa using e4
 exact xr rfl (q7 rfl ⟨⟨rfl, zu (by simp [e0, e1, e2, e3, e4]), trivial⟩, z6 rfl⟩)
theorem z52 (p q : List (List Cell)) (hp : WR 9000000000000000000 yn p) (hq : WR 9000000000000000000 yn q) : PC Tryz.prog 219 [.one (.l p), .one (.l q)] (rB (dE p q)) := by
 refine PC.begin Tryz.func219 rfl (by kernel_rfl) ?_
 have hpl := hp.1
 have hql := hq.1
 refine xb rfl (fun h => ?_) (fun h => ?_)
 · exact xr rfl (q7 rfl ⟨⟨rfl, qi (fun e => by subst e; simp at h), trivial⟩, z6 rfl⟩)
 have hl : p.length = q.length := by simpa [Int.ofNat_inj] using h
 refine qc rfl (ι := Nat) (fun i => i ≤ p.length ∧ p.take i = q.take i) (fun i => ⟨[(5, sV (.int .i64 i)), (0, .one (.b (.l p))), (1, .one (.b (.l q)))], []⟩) (fun i => p.length - i) 0 ⟨Nat.zero_le _, rfl⟩ ?_ ?_
 · repeat' (first | exact trivial | exact rfl | exact Or.inl rfl | refine And.intro ?_ ?_)
 · intro i ⟨hi, he⟩ J hJ
   refine xb rfl (fun h => ?_) (fun h => ?_)
   · have h : i < p.length := by simpa using h
     obtain ⟨row, hg⟩ : ∃ row, p[i]? = some row := ⟨_, List.getElem?_eq_getElem h⟩
     obtain ⟨row', hg'⟩ : ∃ row, q[i]? = some row := ⟨_, List.getElem?_eq_getElem (by omega)⟩
     obtain ⟨x0, x1, x2, x3, x4, rfl⟩ := y0v (hp.2 row (List.mem_of_getElem? hg))
     obtain ⟨y0, y1, y2, y3, y4, rfl⟩ := y0v (hq.2 row' (List.mem_of_getElem? hg'))
     refine yc rfl [] (.take 0 [] (.take 1 [] (.take 2 [] (.take 3 [8, 9] (.take 4 [] (.take 5 [] (.take 6 [] (.take 7 [8, 9] (.alt 8 (.take 9 [] .done) .nil))))))))) (by kernel_rfl) ?_
     refine xs rfl (Int.natCast_nonneg _) (q9 rfl _ hg (xs rfl rfl ?_))
     refine xs rfl (Int.natCast_nonneg _) (q9 rfl _ hg' (xs rfl rfl ?_))
     refine z7 rfl (y60 _ _ _ _ _ _ _ _ _ _) rfl ⟨⟨trivial, trivial, trivial, trivial, trivial, trivial⟩, ⟨trivial, trivial, trivial, trivial, trivial, trivial⟩, trivial⟩ ?_
     refine xb rfl (fun hb => ?_) (fun hb => ?_)
     · exact xr rfl (q7 rfl ⟨⟨rfl, qi (fun e => by subst e; rw [hg] at hg'; cases hg'; exact z03 hb rfl), trivial⟩, z6 rfl⟩)
     · have hb := q02 hb
       refine qa rfl (hJ _ (i + 1) ⟨by omega, qn he hg (hg'.trans (by rw [hb]))⟩ (by omega) ?_)
       repeat' (first | exact trivial | exact rfl | exact Or.inl rfl | exact cwi (by omega) (by omega) (by omega) | refine And.intro ?_ ?_)
   · have h : ¬ i < p.length := by simpa using h
     exact xr rfl (q7 rfl ⟨⟨rfl, zu (by rw [show i = p.length by omega, List.take_length] at he; rw [he, hl, List.take_length]), trivial⟩, z6 rfl⟩)
theorem y52 (x0 : Int) (x1 : List (List Cell)) (x2 : List (List Cell)) (y0 : Int) (y1 : List (List Cell)) (y2 : List (List Cell)) (h1 : WR 9000000000000000000 yp x1) (h2 : WR 9000000000000000000 yn x2) (k1 : WR 9000000000000000000 yp y1) (k2 : WR 9000000000000000000 yn y2) : PC Tryz.prog 139 [.agg [.s (.int .i64 x0), .l x1, .l x2], .agg [.s (.int .i64 y0), .l y1, .l y2]] (rB (dE (α := List Cell) [.s (.int .i64 x0), .l x1, .l x2] [.s (.int .i64 y0), .l y1, .l y2])) := by
 refine PC.begin Tryz.func139 rfl (by kernel_rfl) ?_
 refine xb rfl (fun h => ?_) (fun e0 => ?_)
 · exact xr rfl (q7 rfl ⟨⟨rfl, qi (fun e => by simp only [List.cons.injEq, Cell.s.injEq, Value.int.injEq, Value.bool.injEq, Value.string.injEq] at e; simp [e] at h), trivial⟩, z6 rfl⟩)
 have e0 : x0 = y0 := by simpa using e0
 refine z7 rfl (z6r _ _ h1 k1) rfl ⟨trivial, trivial, trivial⟩ ?_
 refine xb rfl (fun h => ?_) (fun e1 => ?_)
 · exact xr rfl (q7 rfl ⟨⟨rfl, qi (fun e => z03 h (by simp only [List.cons.injEq, Cell.l.injEq] at e ⊢; simp only [e]; try trivial)), trivial⟩, z6 rfl⟩)
 have e1 := q02 e1
 refine z7 rfl (z52 _ _ h2 k2) rfl ⟨trivial, trivial, trivial⟩ ?_
 refine xb rfl (fun h => ?_) (fun e2 => ?_)
 · exact xr rfl (q7 rfl ⟨⟨rfl, qi (fun e => z03 h (by simp only [List.cons.injEq, Cell.l.injEq] at e ⊢; simp only [e]; try trivial)), trivial⟩, z6 rfl⟩)
 have e2 := q02 e2
 exact xr rfl (q7 rfl ⟨⟨rfl, zu (by simp [e0, e1, e2]), trivial⟩, z6 rfl⟩)
theorem z4g (p q : List (List Cell)) (hp : WR 9000000000000000000 qd p) (hq : WR 9000000000000000000 qd q) : PC Tryz.prog 70 [.one (.l p), .one (.l q)] (rB (dE p q)) := by
 refine PC.begin Tryz.func70 rfl (by kernel_rfl) ?_
 have hpl := hp.1
 have hql := hq.1
 refine xb rfl (fun h => ?_) (fun h => ?_)
 · exact xr rfl (q7 rfl ⟨⟨rfl, qi (fun e => by subst e; simp at h), trivial⟩, z6 rfl⟩)
 have hl : p.length = q.length := by simpa [Int.ofNat_inj] using h
 refine qc rfl (ι := Nat) (fun i => i ≤ p.length ∧ p.take i = q.take i) (fun i => ⟨[(5, sV (.int .i64 i)), (0, .one (.b (.l p))), (1, .one (.b (.l q)))], []⟩) (fun i => p.length - i) 0 ⟨Nat.zero_le _, rfl⟩ ?_ ?_
 · repeat' (first | exact trivial | exact rfl | exact Or.inl rfl | refine And.intro ?_ ?_)
 · intro i ⟨hi, he⟩ J hJ
   refine xb rfl (fun h => ?_) (fun h => ?_)
   · have h : i < p.length := by simpa using h
     obtain ⟨row, hg⟩ : ∃ row, p[i]? = some row := ⟨_, List.getElem?_eq_getElem h⟩
     obtain ⟨row', hg'⟩ : ∃ row, q[i]? = some row := ⟨_, List.getElem?_eq_getElem (by omega)⟩
     obtain ⟨x0, x1, x2, rfl, h1, h2⟩ := z0j (hp.2 row (List.mem_of_getElem? hg))
     obtain ⟨y0, y1, y2, rfl, k1, k2⟩ := z0j (hq.2 row' (List.mem_of_getElem? hg'))
     refine yc rfl [] (.take 0 [] (.take 1 [] (.take 2 [] (.take 3 [8, 9] (.take 4 [] (.take 5 [] (.take 6 [] (.take 7 [8, 9] (.alt 8 (.take 9 [] .done) .nil))))))))) (by kernel_rfl) ?_
     refine xs rfl (Int.natCast_nonneg _) (q9 rfl _ hg (xs rfl rfl ?_))
     refine xs rfl (Int.natCast_nonneg _) (q9 rfl _ hg' (xs rfl rfl ?_))
     refine z7 rfl (y52 _ _ _ _ _ _ h1 h2 k1 k2) rfl ⟨⟨trivial, trivial, trivial, trivial⟩, ⟨trivial, trivial, trivial, trivial⟩, trivial⟩ ?_
     refine xb rfl (fun hb => ?_) (fun hb => ?_)
     · exact xr rfl (q7 rfl ⟨⟨rfl, qi (fun e => by subst e; rw [hg] at hg'; cases hg'; exact z03 hb rfl), trivial⟩, z6 rfl⟩)
     · have hb := q02 hb
       refine qa rfl (hJ _ (i + 1) ⟨by omega, qn he hg (hg'.trans (by rw [hb]))⟩ (by omega) ?_)
       repeat' (first | exact trivial | exact rfl | exact Or.inl rfl | exact cwi (by omega) (by omega) (by omega) | refine And.intro ?_ ?_)
   · have h : ¬ i < p.length := by simpa using h
     exact xr rfl (q7 rfl ⟨⟨rfl, zu (by rw [show i = p.length by omega, List.take_length] at he; rw [he, hl, List.take_length]), trivial⟩, z6 rfl⟩)
theorem y4g (x0 : Int) (x1 : Int) (x2 : Int) (x3 : Int) (x4 : Int) (x5 : Int) (x6 : Int) (x7 : Int) (x8 : Int) (y0 : Int) (y1 : Int) (y2 : Int) (y3 : Int) (y4 : Int) (y5 : Int) (y6 : Int) (y7 : Int) (y8 : Int)   : PC Tryz.prog 140 [.agg [.s (.int .i64 x0), .s (.int .i64 x1), .s (.int .i64 x2), .s (.int .i64 x3), .s (.int .i64 x4), .s (.int .i64 x5), .s (.int .i64 x6), .s (.int .i64 x7), .s (.int .i64 x8)], .agg [.s (.int .i64 y0), .s (.int .i64 y1), .s (.int .i64 y2), .s (.int .i64 y3), .s (.int .i64 y4), .s (.int .i64 y5), .s (.int .i64 y6), .s (.int .i64 y7), .s (.int .i64 y8)]] (rB (dE (α := List Cell) [.s (.int .i64 x0), .s (.int .i64 x1), .s (.int .i64 x2), .s (.int .i64 x3), .s (.int .i64 x4), .s (.int .i64 x5), .s (.int .i64 x6), .s (.int .i64 x7), .s (.int .i64 x8)] [.s (.int .i64 y0), .s (.int .i64 y1), .s (.int .i64 y2), .s (.int .i64 y3), .s (.int .i64 y4), .s (.int .i64 y5), .s (.int .i64 y6), .s (.int .i64 y7), .s (.int .i64 y8)])) := by
 refine PC.begin Tryz.func140 rfl (by kernel_rfl) ?_
 refine xb rfl (fun h => ?_) (fun e0 => ?_)
 · exact xr rfl (q7 rfl ⟨⟨rfl, qi (fun e => by simp only [List.cons.injEq, Cell.s.injEq, Value.int.injEq, Value.bool.injEq, Value.string.injEq] at e; simp [e] at h), trivial⟩, z6 rfl⟩)
 have e0 : x0 = y0 := by simpa using e0
 refine xb rfl (fun h => ?_) (fun e1 => ?_)
 · exact xr rfl (q7 rfl ⟨⟨rfl, qi (fun e => by simp only [List.cons.injEq, Cell.s.injEq, Value.int.injEq, Value.bool.injEq, Value.string.injEq] at e; simp [e] at h), trivial⟩, z6 rfl⟩)
 have e1 : x1 = y1 := by simpa using e1
 refine xb rfl (fun h => ?_) (fun e2 => ?_)
 · exact xr rfl (q7 rfl ⟨⟨rfl, qi (fun e => by simp only [List.cons.injEq, Cell.s.injEq, Value.int.injEq, Value.bool.injEq, Value.string.injEq] at e; simp [e] at h), trivial⟩, z6 rfl⟩)
 have e2 : x2 = y2 := by simpa using e2
 refine xb rfl (fun h => ?_) (fun e3 => ?_)
 · exact xr rfl (q7 rfl ⟨⟨rfl, qi (fun e => by simp only [List.cons.injEq, Cell.s.injEq, Value.int.injEq, Value.bool.injEq, Value.string.injEq] at e; simp [e] at h), trivial⟩, z6 rfl⟩)
 have e3 : x3 = y3 := by simpa using e3
 refine xb rfl (fun h => ?_) (fun e4 => ?_)
 · exact xr rfl (q7 rfl ⟨⟨rfl, qi (fun e => by simp only [List.cons.injEq, Cell.s.injEq, Value.int.injEq, Value.bool.injEq, Value.string.injEq] at e; simp [e] at h), trivial⟩, z6 rfl⟩)
 have e4 : x4 = y4 := by simpa using e4
 refine xb rfl (fun h => ?_) (fun e5 => ?_)
 · exact xr rfl (q7 rfl ⟨⟨rfl, qi (fun e => by simp only [List.cons.injEq, Cell.s.injEq, Value.int.injEq, Value.bool.injEq, Value.string.injEq] at e; simp [e] at h), trivial⟩, z6 rfl⟩)
 have e5 : x5 = y5 := by simpa using e5
 refine xb rfl (fun h => ?_) (fun e6 => ?_)
 · exact xr rfl (q7 rfl ⟨⟨rfl, qi (fun e => by simp only [List.cons.injEq, Cell.s.injEq, Value.int.injEq, Value.bool.injEq, Value.string.injEq] at e; simp [e] at h), trivial⟩, z6 rfl⟩)
 have e6 : x6 = y6 := by simpa using e6
 refine z7 rfl (y2t _ _ _ _) rfl ⟨⟨trivial, trivial, trivial⟩, ⟨trivial, trivial, trivial⟩, trivial⟩ ?_
 refine xb rfl (fun h => ?_) (fun e7 => ?_)
 · exact xr rfl (q7 rfl ⟨⟨rfl, qi (fun e => z03 h (by simp only [List.cons.injEq, Cell.l.injEq] at e ⊢; simp only [e]; try trivial)), trivial⟩, z6 rfl⟩)
 have e7 := q02 e7
 simp only [List.cons.injEq, Cell.s.injEq, Cell.l.injEq, Value.int.injEq, Value.bool.injEq, and_true, true_and] at e7
 exact xr rfl (q7 rfl ⟨⟨rfl, zu (by simp [e0, e1, e2, e3, e4, e5, e6, e7]), trivial⟩, z6 rfl⟩)
theorem q3t (p q : List (List Cell)) (hp : WR 9000000000000000000 zg p) (hq : WR 9000000000000000000 zg q) : PC Tryz.prog 71 [.one (.l p), .one (.l q)] (rB (dE p q)) := by
 refine PC.begin Tryz.func71 rfl (by kernel_rfl) ?_
 have hpl := hp.1
 have hql := hq.1
 refine xb rfl (fun h => ?_) (fun h => ?_)
 · exact xr rfl (q7 rfl ⟨⟨rfl, qi (fun e => by subst e; simp at h), trivial⟩, z6 rfl⟩)
 have hl : p.length = q.length := by simpa [Int.ofNat_inj] using h
 refine qc rfl (ι := Nat) (fun i => i ≤ p.length ∧ p.take i = q.take i) (fun i => ⟨[(5, sV (.int .i64 i)), (0, .one (.b (.l p))), (1, .one (.b (.l q)))], []⟩) (fun i => p.length - i) 0 ⟨Nat.zero_le _, rfl⟩ ?_ ?_
 · repeat' (first | exact trivial | exact rfl | exact Or.inl rfl | refine And.intro ?_ ?_)
 · intro i ⟨hi, he⟩ J hJ
   refine xb rfl (fun h => ?_) (fun h => ?_)
   · have h : i < p.length := by simpa using h
     obtain ⟨row, hg⟩ : ∃ row, p[i]? = some row := ⟨_, List.getElem?_eq_getElem h⟩
     obtain ⟨row', hg'⟩ : ∃ row, q[i]? = some row := ⟨_, List.getElem?_eq_getElem (by omega)⟩
     obtain ⟨x0, x1, x2, x3, x4, x5, x6, x7, x8, rfl⟩ := q0b (hp.2 row (List.mem_of_getElem? hg))
     obtain ⟨y0, y1, y2, y3, y4, y5, y6, y7, y8, rfl⟩ := q0b (hq.2 row' (List.mem_of_getElem? hg'))
     refine yc rfl [] (.take 0 [] (.take 1 [] (.take 2 [] (.take 3 [8, 9] (.take 4 [] (.take 5 [] (.take 6 [] (.take 7 [8, 9] (.alt 8 (.take 9 [] .done) .nil))))))))) (by kernel_rfl) ?_
     refine xs rfl (Int.natCast_nonneg _) (q9 rfl _ hg (xs rfl rfl ?_))
     refine xs rfl (Int.natCast_nonneg _) (q9 rfl _ hg' (xs rfl rfl ?_))
     refine z7 rfl (y4g _ _ _ _ _ _ _ _ _ _ _ _ _ _ _ _ _ _) rfl ⟨⟨trivial, trivial, trivial, trivial, trivial, trivial, trivial, trivial, trivial, trivial⟩, ⟨trivial, trivial, trivial, trivial, trivial, trivial, trivial, trivial, trivial, trivial⟩, trivial⟩ ?_
     refine xb rfl (fun hb => ?_) (fun hb => ?_)
     · exact xr rfl (q7 rfl ⟨⟨rfl, qi (fun e => by subst e; rw [hg] at hg'; cases hg'; exact z03 hb rfl), trivial⟩, z6 rfl⟩)
     · have hb := q02 hb
       refine qa rfl (hJ _ (i + 1) ⟨by omega, qn he hg (hg'.trans (by rw [hb]))⟩ (by omega) ?_)
       repeat' (first | exact trivial | exact rfl | exact Or.inl rfl | exact cwi (by omega) (by omega) (by omega) | refine And.intro ?_ ?_)
   · have h : ¬ i < p.length := by simpa using h
     exact xr rfl (q7 rfl ⟨⟨rfl, zu (by rw [show i = p.length by omega, List.take_length] at he; rw [he, hl, List.take_length]), trivial⟩, z6 rfl⟩)
theorem q4f (x0 : List (List Cell)) (x1 : List (List Cell)) (x2 : List (List Cell)) (x3 : List (List Cell)) (x4 : List (List Cell)) (y0 : List (List Cell)) (y1 : List (List Cell)) (y2 : List (List Cell)) (y3 : List (List Cell)) (y4 : List (List Cell)) (h0 : WR 9000000000000000000 q8 x0) (h1 : WR 9000000000000000000 qe x1) (h2 : WR 9000000000000000000 ya x2) (h3 : WR 9000000000000000000 qd x3) (h4 : WR 9000000000000000000 zg x4) (k0 : WR 9000000000000000000 q8 y0) (k1 : WR 9000000000000000000 qe y1) (k2 : WR 9000000000000000000 ya y2) (k3 : WR 9000000000000000000 qd y3) (k4 : WR 9000000000000000000 zg y4) : PC Tryz.prog 17 [.agg [.l x0, .l x1, .l x2, .l x3, .l x4], .agg [.l y0, .l y1, .l y2, .l y3, .l y4]] (rB (dE (α := List Cell) [.l x0, .l x1, .l x2, .l x3, .l x4] [.l y0, .l y1, .l y2, .l y3, .l y4])) := by
 refine PC.begin Tryz.func17 rfl (by kernel_rfl) ?_
 refine z7 rfl (q1i _ _ h0 k0) rfl ⟨trivial, trivial, trivial⟩ ?_
 refine xb rfl (fun h => ?_) (fun e0 => ?_)
 · exact xr rfl (q7 rfl ⟨⟨rfl, qi (fun e => z03 h (by simp only [List.cons.injEq, Cell.l.injEq] at e ⊢; simp only [e]; try trivial)), trivial⟩, z6 rfl⟩)
 have e0 := q02 e0
 refine z7 rfl (z53 _ _ h1 k1) rfl ⟨trivial, trivial, trivial⟩ ?_
 refine xb rfl (fun h => ?_) (fun e1 => ?_)
 · exact xr rfl (q7 rfl ⟨⟨rfl, qi (fun e => z03 h (by simp only [List.cons.injEq, Cell.l.injEq] at e ⊢; simp only [e]; try trivial)), trivial⟩, z6 rfl⟩)
 have e1 := q02 e1
 refine z7 rfl (q39 _ _ h2 k2) rfl ⟨trivial, trivial, trivial⟩ ?_
 refine xb rfl (fun h => ?_) (fun e2 => ?_)
 · exact xr rfl (q7 rfl ⟨⟨rfl, qi (fun e => z03 h (by simp only [List.cons.injEq, Cell.l.injEq] at e ⊢; simp only [e]; try trivial)), trivial⟩, z6 rfl⟩)
 have e2 := q02 e2
 refine z7 rfl (z4g _ _ h3 k3) rfl ⟨trivial, trivial, trivial⟩ ?_
 refine xb rfl (fun h => ?_) (fun e3 => ?_)
 · exact xr rfl (q7 rfl ⟨⟨rfl, qi (fun e => z03 h (by simp only [List.cons.injEq, Cell.l.injEq] at e ⊢; simp only [e]; try trivial)), trivial⟩, z6 rfl⟩)
 have e3 := q02 e3
 refine z7 rfl (q3t _ _ h4 k4) rfl ⟨trivial, trivial, trivial⟩ ?_
 refine xb rfl (fun h => ?_) (fun e4 => ?_)
 · exact xr rfl (q7 rfl ⟨⟨rfl, qi (fun e => z03 h (by simp only [List.cons.injEq, Cell.l.injEq] at e ⊢; simp only [e]; try trivial)), trivial⟩, z6 rfl⟩)
 have e4 := q02 e4
 exact xr rfl (q7 rfl ⟨⟨rfl, zu (by simp [e0, e1, e2, e3, e4]), trivial⟩, z6 rfl⟩)
end Go.Proofs.YthljegacamgnnaaGreat
end
section
namespace Go.Proofs.YthljegacamgnnaaGreat
open Go Go.Sx
set_option maxRecDepth 20000
theorem y7f (rr : List (List Cell)) (b : Int) (hw : WR 9223372036854775807 yy rr) (p0 : 0 ≤ b) (p1 : b ≤ 1048576) : PC Tryz.prog 174 [.one (.l rr), .one (.s (.int .i64 b))] (rI (szn b (yl yy rr))) := by
 refine PC.begin Tryz.func174 rfl (by kernel_rfl) ?_
 have hlen := hw.1
 have w1 : IntKind.i64.wrap (b - rr.length) = b - rr.length := wrap_i64 (by omega) (by omega)
 rw [z0n (fun row hr => by obtain ⟨x0, x1, x2, x3, rfl⟩ := z26 hr; rfl) hw]
 refine xb rfl (fun h => ?_) (fun h => ?_)
 · simp only [w1, decide_eq_true_eq] at h
   exact xr rfl (q7 rfl ⟨⟨rfl, (by show Value.int _ _ = Value.int _ _; rw [szn, if_pos h]), trivial⟩, z6 rfl⟩)
 · simp only [w1, decide_eq_false_iff_not] at h
   exact xr rfl (q7 rfl ⟨⟨rfl, (by show Value.int .i64 (IntKind.i64.wrap (b - rr.length)) = Value.int _ _; rw [szn, if_neg h, w1]), trivial⟩, z6 rfl⟩)
theorem q47 (x0 : Int) (x1 : List (List Cell)) (b : Int) (h1 : WR 9223372036854775807 yy x1) (hb0 : 0 ≤ b) (hb1 : b ≤ 1048576) : PC Tryz.prog 109 [.agg [.s (.int .i64 x0), .l x1], .one (.s (.int .i64 b))] (rI (szn b (tot q8 [.s (.int .i64 x0), .l x1]))) := by
 refine PC.begin Tryz.func109 rfl (by kernel_rfl) ?_
 have ht : tot q8 [.s (.int .i64 x0), .l x1] = yl yy x1 := by simp only [tot, yl] <;> omega
 refine z7 rfl (y7f x1 b h1 hb0 hb1) rfl ⟨trivial, trivial, trivial⟩ ?_
 refine xb rfl (fun h => ?_) (fun e0 => ?_)
 · have h : szn b (yl yy x1) < 0 := by simpa using h
   exact xr rfl (q7 rfl ⟨⟨rfl, (by show Value.int _ _ = Value.int _ _; congr 1; rw [ht]; unfold szn at *; split at h <;> rw [if_pos] <;> omega), trivial⟩, z6 rfl⟩)
 have e0 : 0 ≤ szn b (yl yy x1) := by simpa using e0
 exact xr rfl (q7 rfl ⟨⟨rfl, (by show Value.int _ _ = Value.int _ _; rw [ht]), trivial⟩, z6 rfl⟩)
theorem z1k (rr : List (List Cell)) (b : Int) (hw : WR 9223372036854775807 q8 rr) (p0 : 0 ≤ b) (p1 : b ≤ 1048576) : PC Tryz.prog 50 [.one (.l rr), .one (.s (.int .i64 b))] (rI (szn b (yl q8 rr))) := by
 refine PC.begin Tryz.func50 rfl (by kernel_rfl) ?_
 have hlen := hw.1
 have w1 : IntKind.i64.wrap (b - rr.length) = b - rr.length := wrap_i64 (by omega) (by omega)
 refine xb rfl (fun h => ?_) (fun h => ?_)
 · simp only [w1, decide_eq_true_eq] at h
   exact xr rfl (q7 rfl ⟨⟨rfl, (by show Value.int _ _ = Value.int _ _; unfold szn yl; rw [if_pos (by omega)]), trivial⟩, z6 rfl⟩)
 simp only [w1, decide_eq_false_iff_not] at h
 have hs : szn b rr.length = b - rr.length := by unfold szn; rw [if_neg h]
 refine qc rfl (ι := Nat) (fun i => i ≤ rr.length ∧ 0 ≤ szn b (rr.length + zz (tot q8) (rr.take i))) (fun i => ⟨[(5, sV (.int .i64 i)), (1, sV (.int .i64 (szn b (rr.length + zz (tot q8) (rr.take i))))), (0, .one (.b (.l rr)))], []⟩) (fun i => rr.length - i) 0 ⟨Nat.zero_le _, by simp only [List.take_zero, zz, Nat.add_zero, hs]; omega⟩ ?_ ?_
 · refine ⟨⟨rfl, ?_, rfl, trivial⟩, trivial, rfl⟩
   show Cell.s (.int .i64 (IntKind.i64.wrap (b - rr.length))) = Cell.s (.int .i64 (szn b (rr.length + 0)))
   rw [w1, Nat.add_zero, hs]
 · intro i ⟨hi, hb⟩ J hJ
   refine xb rfl (fun h => ?_) (fun h => ?_)
   · have h : i < rr.length := by simpa using h
     obtain ⟨row, hg⟩ : ∃ row, rr[i]? = some row := ⟨_, List.getElem?_eq_getElem h⟩
     have hc := y0u (f := tot q8) hg
     have hc2 := q0i (tot q8) rr (i + 1)
     obtain ⟨x0, x1, rfl, h1⟩ := z07 (hw.2 row (List.mem_of_getElem? hg))
     refine xs rfl (Int.natCast_nonneg _) (q9 rfl _ hg (xs rfl rfl ?_))
     refine z7 rfl (q47 _ _ _ h1 hb (q0g p1 p0)) rfl ⟨⟨trivial, trivial, trivial⟩, trivial, trivial⟩ ?_
     refine xb rfl (fun hn => ?_) (fun hn => ?_)
     · have hn : szn (szn b (rr.length + zz (tot q8) (rr.take i))) (tot q8 [.s (.int .i64 x0), .l x1]) < 0 := by simpa using hn
       rw [zi hb] at hn
       exact xr rfl (q7 rfl ⟨⟨rfl, (by show Value.int _ _ = Value.int _ _; congr 1; unfold szn yl at *; split at hn <;> rw [if_pos] <;> omega), trivial⟩, z6 rfl⟩)
     · have hn : ¬ szn (szn b (rr.length + zz (tot q8) (rr.take i))) (tot q8 [.s (.int .i64 x0), .l x1]) < 0 := by simpa using hn
       have he := zi (n := tot q8 [.s (.int .i64 x0), .l x1]) hb
       rw [he] at hn
       rw [Nat.add_assoc, ← hc] at he hn
       refine qa rfl (hJ _ (i + 1) ⟨by omega, by omega⟩ (by omega) ?_)
       refine ⟨⟨cwi (by omega) (by omega) (by omega), ?_, rfl, trivial⟩, trivial, rfl⟩
       exact congrArg (fun n => Cell.s (.int .i64 n)) he
   · have h : ¬ i < rr.length := by simpa using h
     have : i = rr.length := by omega
     subst this
     exact xr rfl (q7 rfl ⟨⟨rfl, (by show Value.int _ _ = Value.int _ _; rw [List.take_length]; rfl), trivial⟩, z6 rfl⟩)
theorem y47 (rr : List (List Cell)) (b : Int) (hw : WR 9223372036854775807 z8 rr) (p0 : 0 ≤ b) (p1 : b ≤ 1048576) : PC Tryz.prog 147 [.one (.l rr), .one (.s (.int .i64 b))] (rI (szn b (yl z8 rr))) := by
 refine PC.begin Tryz.func147 rfl (by kernel_rfl) ?_
 have hlen := hw.1
 have w1 : IntKind.i64.wrap (b - rr.length) = b - rr.length := wrap_i64 (by omega) (by omega)
 rw [z0n (fun row hr => by obtain ⟨x0, x1, x2, rfl⟩ := q05 hr; rfl) hw]
 refine xb rfl (fun h => ?_) (fun h => ?_)
 · simp only [w1, decide_eq_true_eq] at h
   exact xr rfl (q7 rfl ⟨⟨rfl, (by show Value.int _ _ = Value.int _ _; rw [szn, if_pos h]), trivial⟩, z6 rfl⟩)
 · simp only [w1, decide_eq_false_iff_not] at h
   exact xr rfl (q7 rfl ⟨⟨rfl, (by show Value.int .i64 (IntKind.i64.wrap (b - rr.length)) = Value.int _ _; rw [szn, if_neg h, w1]), trivial⟩, z6 rfl⟩)
theorem y3m (rr : List (List Cell)) (b : Int) (hw : WR 9223372036854775807 yh rr) (p0 : 0 ≤ b) (p1 : b ≤ 1048576) : PC Tryz.prog 175 [.one (.l rr), .one (.s (.int .i64 b))] (rI (szn b (yl yh rr))) := by
 refine PC.begin Tryz.func175 rfl (by kernel_rfl) ?_
 have hlen := hw.1
 have w1 : IntKind.i64.wrap (b - rr.length) = b - rr.length := wrap_i64 (by omega) (by omega)
 rw [z0n (fun row hr => by obtain ⟨x0, x1, rfl⟩ := q1d hr; rfl) hw]
 refine xb rfl (fun h => ?_) (fun h => ?_)
 · simp only [w1, decide_eq_true_eq] at h
   exact xr rfl (q7 rfl ⟨⟨rfl, (by show Value.int _ _ = Value.int _ _; rw [szn, if_pos h]), trivial⟩, z6 rfl⟩)
 · simp only [w1, decide_eq_false_iff_not] at h
   exact xr rfl (q7 rfl ⟨⟨rfl, (by show Value.int .i64 (IntKind.i64.wrap (b - rr.length)) = Value.int _ _; rw [szn, if_neg h, w1]), trivial⟩, z6 rfl⟩)
theorem z35 (rr : List (List Cell)) (b : Int) (hw : WR 9223372036854775807 (.i .i64 .nil) rr) (p0 : 0 ≤ b) (p1 : b ≤ 1048576) : PC Tryz.prog 176 [.one (.l rr), .one (.s (.int .i64 b))] (rI (szn b (yl (.i .i64 .nil) rr))) := by
 refine PC.begin Tryz.func176 rfl (by kernel_rfl) ?_
 have hlen := hw.1
 have w1 : IntKind.i64.wrap (b - rr.length) = b - rr.length := wrap_i64 (by omega) (by omega)
 rw [z0n (fun row hr => by obtain ⟨x0, _, rfl, hnil⟩ := (hr).zw; obtain rfl := hnil.yu; rfl) hw]
 refine xb rfl (fun h => ?_) (fun h => ?_)
 · simp only [w1, decide_eq_true_eq] at h
   exact xr rfl (q7 rfl ⟨⟨rfl, (by show Value.int _ _ = Value.int _ _; rw [szn, if_pos h]), trivial⟩, z6 rfl⟩)
 · simp only [w1, decide_eq_false_iff_not] at h
   exact xr rfl (q7 rfl ⟨⟨rfl, (by show Value.int .i64 (IntKind.i64.wrap (b - rr.length)) = Value.int _ _; rw [szn, if_neg h, w1]), trivial⟩, z6 rfl⟩)
theorem y6d (x0 : Int) (x1 : List (List Cell)) (x2 : List (List Cell)) (x3 : List (List Cell)) (x4 : List (List Cell)) (x5 : List (List Cell)) (b : Int) (h1 : WR 9223372036854775807 z8 x1) (h2 : WR 9223372036854775807 yh x2) (h3 : WR 9223372036854775807 q8 x3) (h4 : WR 9223372036854775807 yh x4) (h5 : WR 9223372036854775807 (.i .i64 .nil) x5) (hb0 : 0 ≤ b) (hb1 : b ≤ 1048576) : PC Tryz.prog 110 [.agg [.s (.int .i64 x0), .l x1, .l x2, .l x3, .l x4, .l x5], .one (.s (.int .i64 b))] (rI (szn b (tot qe [.s (.int .i64 x0), .l x1, .l x2, .l x3, .l x4, .l x5]))) := by
 refine PC.begin Tryz.func110 rfl (by kernel_rfl) ?_
 have ht : tot qe [.s (.int .i64 x0), .l x1, .l x2, .l x3, .l x4, .l x5] = yl z8 x1 + yl yh x2 + yl q8 x3 + yl yh x4 + yl (.i .i64 .nil) x5 := by simp only [tot, yl] <;> omega
 refine z7 rfl (y47 x1 b h1 hb0 hb1) rfl ⟨trivial, trivial, trivial⟩ ?_
 refine xb rfl (fun h => ?_) (fun e0 => ?_)
 · have h : szn b (yl z8 x1) < 0 := by simpa using h
   exact xr rfl (q7 rfl ⟨⟨rfl, (by show Value.int _ _ = Value.int _ _; congr 1; rw [ht]; unfold szn at *; split at h <;> rw [if_pos] <;> omega), trivial⟩, z6 rfl⟩)
 have e0 : 0 ≤ szn b (yl z8 x1) := by simpa using e0
 refine z7 rfl (y3m x2 (szn b (yl z8 x1)) h2 e0 (q0g hb1 hb0)) rfl ⟨trivial, trivial, trivial⟩ ?_
 refine xb rfl (fun h => ?_) (fun e1 => ?_)
 · have h : szn (szn b (yl z8 x1)) (yl yh x2) < 0 := by simpa using h
   rw [zi e0] at h
   exact xr rfl (q7 rfl ⟨⟨rfl, (by show Value.int _ _ = Value.int _ _; congr 1; rw [ht]; unfold szn at *; split at h <;> rw [if_pos] <;> omega), trivial⟩, z6 rfl⟩)
 have e1 : 0 ≤ szn b (yl z8 x1 + yl yh x2) := by rw [← zi e0]; simpa using e1
 rw [zi e0]
 refine z7 rfl (z1k x3 (szn b (yl z8 x1 + yl yh x2)) h3 e1 (q0g hb1 hb0)) rfl ⟨trivial, trivial, trivial⟩ ?_
 refine xb rfl (fun h => ?_) (fun e2 => ?_)
 · have h : szn (szn b (yl z8 x1 + yl yh x2)) (yl q8 x3) < 0 := by simpa using h
   rw [zi e1] at h
   exact xr rfl (q7 rfl ⟨⟨rfl, (by show Value.int _ _ = Value.int _ _; congr 1; rw [ht]; unfold szn at *; split at h <;> rw [if_pos] <;> omega), trivial⟩, z6 rfl⟩)
 have e2 : 0 ≤ szn b (yl z8 x1 + yl yh x2 + yl q8 x3) := by rw [← zi e1]; simpa using e2
 rw [zi e1]
 refine z7 rfl (y3m x4 (szn b (yl z8 x1 + yl yh x2 + yl q8 x3)) h4 e2 (q0g hb1 hb0)) rfl ⟨trivial, trivial, trivial⟩ ?_
 refine xb rfl (fun h => ?_) (fun e3 => ?_)
 · have h : szn (szn b (yl z8 x1 + yl yh x2 + yl q8 x3)) (yl yh x4) < 0 := by simpa using h
   rw [zi e2] at h
   exact xr rfl (q7 rfl ⟨⟨rfl, (by show Value.int _ _ = Value.int _ _; congr 1; rw [ht]; unfold szn at *; split at h <;> rw [if_pos] <;> omega), trivial⟩, z6 rfl⟩)
 have e3 : 0 ≤ szn b (yl z8 x1 + yl yh x2 + yl q8 x3 + yl yh x4) := by rw [← zi e2]; simpa using e3
 rw [zi e2]
 refine z7 rfl (z35 x5 (szn b (yl z8 x1 + yl yh x2 + yl q8 x3 + yl yh x4)) h5 e3 (q0g hb1 hb0)) rfl ⟨trivial, trivial, trivial⟩ ?_
 refine xb rfl (fun h => ?_) (fun e4 => ?_)
 · have h : szn (szn b (yl z8 x1 + yl yh x2 + yl q8 x3 + yl yh x4)) (yl (.i .i64 .nil) x5) < 0 := by simpa using h
   rw [zi e3] at h
   exact xr rfl (q7 rfl ⟨⟨rfl, (by show Value.int _ _ = Value.int _ _; congr 1; rw [ht]; unfold szn at *; split at h <;> rw [if_pos] <;> omega), trivial⟩, z6 rfl⟩)
 have e4 : 0 ≤ szn b (yl z8 x1 + yl yh x2 + yl q8 x3 + yl yh x4 + yl (.i .i64 .nil) x5) := by rw [← zi e3]; simpa using e4
 rw [zi e3]
 exact xr rfl (q7 rfl ⟨⟨rfl, (by show Value.int _ _ = Value.int _ _; rw [ht]), trivial⟩, z6 rfl⟩)
theorem y5e (rr : List (List Cell)) (b : Int) (hw : WR 9223372036854775807 qe rr) (p0 : 0 ≤ b) (p1 : b ≤ 1048576) : PC Tryz.prog 51 [.one (.l rr), .one (.s (.int .i64 b))] (rI (szn b (yl qe rr))) := by
 refine PC.begin Tryz.func51 rfl (by kernel_rfl) ?_
 have hlen := hw.1
 have w1 : IntKind.i64.wrap (b - rr.length) = b - rr.length := wrap_i64 (by omega) (by omega)
 refine xb rfl (fun h => ?_) (fun h => ?_)
 · simp only [w1, decide_eq_true_eq] at h
   exact xr rfl (q7 rfl ⟨⟨rfl, (by show Value.int _ _ = Value.int _ _; unfold szn yl; rw [if_pos (by omega)]), trivial⟩, z6 rfl⟩)
 simp only [w1, decide_eq_false_iff_not] at h
 have hs : szn b rr.length = b - rr.length := by unfold szn; rw [if_neg h]
 refine qc rfl (ι := Nat) (fun i => i ≤ rr.length ∧ 0 ≤ szn b (rr.length + zz (tot qe) (rr.take i))) (fun i => ⟨[(5, sV (.int .i64 i)), (1, sV (.int .i64 (szn b (rr.length + zz (tot qe) (rr.take i))))), (0, .one (.b (.l rr)))], []⟩) (fun i => rr.length - i) 0 ⟨Nat.zero_le _, by simp only [List.take_zero, zz, Nat.add_zero, hs]; omega⟩ ?_ ?_
 · refine ⟨⟨rfl, ?_, rfl, trivial⟩, trivial, rfl⟩
   show Cell.s (.int .i64 (IntKind.i64.wrap (b - rr.length))) = Cell.s (.int .i64 (szn b (rr.length + 0)))
   rw [w1, Nat.add_zero, hs]
 · intro i ⟨hi, hb⟩ J hJ
   refine xb rfl (fun h => ?_) (fun h => ?_)
   · have h : i < rr.length := by simpa using h
     obtain ⟨row, hg⟩ : ∃ row, rr[i]? = some row := ⟨_, List.getElem?_eq_getElem h⟩
     have hc := y0u (f := tot qe) hg
     have hc2 := q0i (tot qe) rr (i + 1)
     obtain ⟨x0, x1, x2, x3, x4, x5, rfl, h1, h2, h3, h4, h5⟩ := q0v (hw.2 row (List.mem_of_getElem? hg))
     refine xs rfl (Int.natCast_nonneg _) (q9 rfl _ hg (xs rfl rfl ?_))
     refine z7 rfl (y6d _ _ _ _ _ _ _ h1 h2 h3 h4 h5 hb (q0g p1 p0)) rfl ⟨⟨trivial, trivial, trivial, trivial, trivial, trivial, trivial⟩, trivial, trivial⟩ ?_
     refine xb rfl (fun hn => ?_) (fun hn => ?_)
     · have hn : szn (szn b (rr.length + zz (tot qe) (rr.take i))) (tot qe [.s (.int .i64 x0), .l x1, .l x2, .l x3, .l x4, .l x5]) < 0 := by simpa using hn
       rw [zi hb] at hn
       exact xr rfl (q7 rfl ⟨⟨rfl, (by show Value.int _ _ = Value.int _ _; congr 1; unfold szn yl at *; split at hn <;> rw [if_pos] <;> omega), trivial⟩, z6 rfl⟩)
     · have hn : ¬ szn (szn b (rr.length + zz (tot qe) (rr.take i))) (tot qe [.s (.int .i64 x0), .l x1, .l x2, .l x3, .l x4, .l x5]) < 0 := by simpa using hn
       have he := zi (n := tot qe [.s (.int .i64 x0), .l x1, .l x2, .l x3, .l x4, .l x5]) hb
       rw [he] at hn
       rw [Nat.add_assoc, ← hc] at he hn
       refine qa rfl (hJ _ (i + 1) ⟨by omega, by omega⟩ (by omega) ?_)
       refine ⟨⟨cwi (by omega) (by omega) (by omega), ?_, rfl, trivial⟩, trivial, rfl⟩
       exact congrArg (fun n => Cell.s (.int .i64 n)) he
   · have h : ¬ i < rr.length := by simpa using h
     have : i = rr.length := by omega
     subst this
     exact xr rfl (q7 rfl ⟨⟨rfl, (by show Value.int _ _ = Value.int _ _; rw [List.take_length]; rfl), trivial⟩, z6 rfl⟩)
theorem q3m (rr : List (List Cell)) (b : Int) (hw : WR 9223372036854775807 ym rr) (p0 : 0 ≤ b) (p1 : b ≤ 1048576) : PC Tryz.prog 300 [.one (.l rr), .one (.s (.int .i64 b))] (rI (szn b (yl ym rr))) := by
 refine PC.begin Tryz.func300 rfl (by kernel_rfl) ?_
 have hlen := hw.1
 have w1 : IntKind.i64.wrap (b - rr.length) = b - rr.length := wrap_i64 (by omega) (by omega)
 rw [z0n (fun row hr => by obtain ⟨x0, x1, rfl⟩ := y1e hr; rfl) hw]
 refine xb rfl (fun h => ?_) (fun h => ?_)
 · simp only [w1, decide_eq_true_eq] at h
   exact xr rfl (q7 rfl ⟨⟨rfl, (by show Value.int _ _ = Value.int _ _; rw [szn, if_pos h]), trivial⟩, z6 rfl⟩)
 · simp only [w1, decide_eq_false_iff_not] at h
   exact xr rfl (q7 rfl ⟨⟨rfl, (by show Value.int .i64 (IntKind.i64.wrap (b - rr.length)) = Value.int _ _; rw [szn, if_neg h, w1]), trivial⟩, z6 rfl⟩)
theorem q7f (x0 : Int) (x1 : Int) (x2 : Int) (x3 : Int) (x4 : Int) (x5 : List (List Cell)) (b : Int) (h5 : WR 9223372036854775807 ym x5) (hb0 : 0 ≤ b) (hb1 : b ≤ 1048576) : PC Tryz.prog 236 [.agg [.s (.int .i64 x0), .s (.int .i64 x1), .s (.int .i64 x2), .s (.int .i64 x3), .s (.int .i64 x4), .l x5], .one (.s (.int .i64 b))] (rI (szn b (tot zl [.s (.int .i64 x0), .s (.int .i64 x1), .s (.int .i64 x2), .s (.int .i64 x3), .s (.int .i64 x4), .l x5]))) := by
 refine PC.begin Tryz.func236 rfl (by kernel_rfl) ?_
 have ht : tot zl [.s (.int .i64 x0), .s (.int .i64 x1), .s (.int .i64 x2), .s (.int .i64 x3), .s (.int .i64 x4), .l x5] = yl ym x5 := by simp only [tot, yl] <;> omega
 refine z7 rfl (q3m x5 b h5 hb0 hb1) rfl ⟨trivial, trivial, trivial⟩ ?_
 refine xb rfl (fun h => ?_) (fun e0 => ?_)
 · have h : szn b (yl ym x5) < 0 := by simpa using h
   exact xr rfl (q7 rfl ⟨⟨rfl, (by show Value.int _ _ = Value.int _ _; congr 1; rw [ht]; unfold szn at *; split at h <;> rw [if_pos] <;> omega), trivial⟩, z6 rfl⟩)
 have e0 : 0 ≤ szn b (yl ym x5) := by simpa using e0
 exact xr rfl (q7 rfl ⟨⟨rfl, (by show Value.int _ _ = Value.int _ _; rw [ht]), trivial⟩, z6 rfl⟩)
theorem q6d (rr : List (List Cell)) (b : Int) (hw : WR 9223372036854775807 zl rr) (p0 : 0 ≤ b) (p1 : b ≤ 1048576) : PC Tryz.prog 177 [.one (.l rr), .one (.s (.int .i64 b))] (rI (szn b (yl zl rr))) := by
 refine PC.begin Tryz.func177 rfl (by kernel_rfl) ?_
 have hlen := hw.1
 have w1 : IntKind.i64.wrap (b - rr.length) = b - rr.length := wrap_i64 (by omega) (by omega)
 refine xb rfl (fun h => ?_) (fun h => ?_)
 · simp only [w1, decide_eq_true_eq] at h
   exact xr rfl (q7 rfl ⟨⟨rfl, (by show Value.int _ _ = Value.int _ _; unfold szn yl; rw [if_pos (by omega)]), trivial⟩, z6 rfl⟩)
 simp only [w1, decide_eq_false_iff_not] at h
 have hs : szn b rr.length = b - rr.length := by unfold szn; rw [if_neg h]
 refine qc rfl (ι := Nat) (fun i => i ≤ rr.length ∧ 0 ≤ szn b (rr.length + zz (tot zl) (rr.take i))) (fun i => ⟨[(5, sV (.int .i64 i)), (1, sV (.int .i64 (szn b (rr.length + zz (tot zl) (rr.take i))))), (0, .one (.b (.l rr)))], []⟩) (fun i => rr.length - i) 0 ⟨Nat.zero_le _, by simp only [List.take_zero, zz, Nat.add_zero, hs]; omega⟩ ?_ ?_
 · refine ⟨⟨rfl, ?_, rfl, trivial⟩, trivial, rfl⟩
   show Cell.s (.int .i64 (IntKind.i64.wrap (b - rr.length))) = Cell.s (.int .i64 (szn b (rr.length + 0)))
   rw [w1, Nat.add_zero, hs]
 · intro i ⟨hi, hb⟩ J hJ
   refine xb rfl (fun h => ?_) (fun h => ?_)
   · have h : i < rr.length := by simpa using h
     obtain ⟨row, hg⟩ : ∃ row, rr[i]? = some row := ⟨_, List.getElem?_eq_getElem h⟩
     have hc := y0u (f := tot zl) hg
     have hc2 := q0i (tot zl) rr (i + 1)
     obtain ⟨x0, x1, x2, x3, x4, x5, rfl, h5⟩ := z1e (hw.2 row (List.mem_of_getElem? hg))
     refine xs rfl (Int.natCast_nonneg _) (q9 rfl _ hg (xs rfl rfl ?_))
     refine z7 rfl (q7f _ _ _ _ _ _ _ h5 hb (q0g p1 p0)) rfl ⟨⟨trivial, trivial, trivial, trivial, trivial, trivial, trivial⟩, trivial, trivial⟩ ?_
     refine xb rfl (fun hn => ?_) (fun hn => ?_)
     · have hn : szn (szn b (rr.length + zz (tot zl) (rr.take i))) (tot zl [.s (.int .i64 x0), .s (.int .i64 x1), .s (.int .i64 x2), .s (.int .i64 x3), .s (.int .i64 x4), .l x5]) < 0 := by simpa using hn
       rw [zi hb] at hn
       exact xr rfl (q7 rfl ⟨⟨rfl, (by show Value.int _ _ = Value.int _ _; congr 1; unfold szn yl at *; split at hn <;> rw [if_pos] <;> omega), trivial⟩, z6 rfl⟩)
     · have hn : ¬ szn (szn b (rr.length + zz (tot zl) (rr.take i))) (tot zl [.s (.int .i64 x0), .s (.int .i64 x1), .s (.int .i64 x2), .s (.int .i64 x3), .s (.int .i64 x4), .l x5]) < 0 := by simpa using hn
       have he := zi (n := tot zl [.s (.int .i64 x0), .s (.int .i64 x1), .s (.int .i64 x2), .s (.int .i64 x3), .s (.int .i64 x4), .l x5]) hb
       rw [he] at hn
       rw [Nat.add_assoc, ← hc] at he hn
       refine qa rfl (hJ _ (i + 1) ⟨by omega, by omega⟩ (by omega) ?_)
       refine ⟨⟨cwi (by omega) (by omega) (by omega), ?_, rfl, trivial⟩, trivial, rfl⟩
       exact congrArg (fun n => Cell.s (.int .i64 n)) he
   · have h : ¬ i < rr.length := by simpa using h
     have : i = rr.length := by omega
     subst this
     exact xr rfl (q7 rfl ⟨⟨rfl, (by show Value.int _ _ = Value.int _ _; rw [List.take_length]; rfl), trivial⟩, z6 rfl⟩)
theorem z47 (x0 : List (List Cell)) (b : Int) (h0 : WR 9223372036854775807 zl x0) (hb0 : 0 ≤ b) (hb1 : b ≤ 1048576) : PC Tryz.prog 111 [.agg [.l x0], .one (.s (.int .i64 b))] (rI (szn b (tot ya [.l x0]))) := by
 refine PC.begin Tryz.func111 rfl (by kernel_rfl) ?_
 have ht : tot ya [.l x0] = yl zl x0 := by simp only [tot, yl] <;> omega
 refine z7 rfl (q6d x0 b h0 hb0 hb1) rfl ⟨trivial, trivial, trivial⟩ ?_
 refine xb rfl (fun h => ?_) (fun e0 => ?_)
 · have h : szn b (yl zl x0) < 0 := by simpa using h
   exact xr rfl (q7 rfl ⟨⟨rfl, (by show Value.int _ _ = Value.int _ _; congr 1; rw [ht]; unfold szn at *; split at h <;> rw [if_pos] <;> omega), trivial⟩, z6 rfl⟩)
 have e0 : 0 ≤ szn b (yl zl x0) := by simpa using e0
 exact xr rfl (q7 rfl ⟨⟨rfl, (by show Value.int _ _ = Value.int _ _; rw [ht]), trivial⟩, z6 rfl⟩)
theorem z3f (rr : List (List Cell)) (b : Int) (hw : WR 9223372036854775807 ya rr) (p0 : 0 ≤ b) (p1 : b ≤ 1048576) : PC Tryz.prog 52 [.one (.l rr), .one (.s (.int .i64 b))] (rI (szn b (yl ya rr))) := by
 refine PC.begin Tryz.func52 rfl (by kernel_rfl) ?_
 have hlen := hw.1
 have w1 : IntKind.i64.wrap (b - rr.length) = b - rr.length := wrap_i64 (by omega) (by omega)
 refine xb rfl (fun h => ?_) (fun h => ?_)
 · simp only [w1, decide_eq_true_eq] at h
   exact xr rfl (q7 rfl ⟨⟨rfl, (by show Value.int _ _ = Value.int _ _; unfold szn yl; rw [if_pos (by omega)]), trivial⟩, z6 rfl⟩)
 simp only [w1, decide_eq_false_iff_not] at h
 have hs : szn b rr.length = b - rr.length := by unfold szn; rw [if_neg h]
 refine qc rfl (ι := Nat) (fun i => i ≤ rr.length ∧ 0 ≤ szn b (rr.length + zz (tot ya) (rr.take i))) (fun i => ⟨[(5, sV (.int .i64 i)), (1, sV (.int .i64 (szn b (rr.length + zz (tot ya) (rr.take i))))), (0, .one (.b (.l rr)))], []⟩) (fun i => rr.length - i) 0 ⟨Nat.zero_le _, by simp only [List.take_zero, zz, Nat.add_zero, hs]; omega⟩ ?_ ?_
 · refine ⟨⟨rfl, ?_, rfl, trivial⟩, trivial, rfl⟩
   show Cell.s (.int .i64 (IntKind.i64.wrap (b - rr.length))) = Cell.s (.int .i64 (szn b (rr.length + 0)))
   rw [w1, Nat.add_zero, hs]
 · intro i ⟨hi, hb⟩ J hJ
   refine xb rfl (fun h => ?_) (fun h => ?_)
   · have h : i < rr.length := by simpa using h
     obtain ⟨row, hg⟩ : ∃ row, rr[i]? = some row := ⟨_, List.getElem?_eq_getElem h⟩
     have hc := y0u (f := tot ya) hg
     have hc2 := q0i (tot ya) rr (i + 1)
     obtain ⟨x0, rfl, h0⟩ := q06 (hw.2 row (List.mem_of_getElem? hg))
     refine xs rfl (Int.natCast_nonneg _) (q9 rfl _ hg (xs rfl rfl ?_))
     refine z7 rfl (z47 _ _ h0 hb (q0g p1 p0)) rfl ⟨⟨trivial, trivial⟩, trivial, trivial⟩ ?_
     refine xb rfl (fun hn => ?_) (fun hn => ?_)
     · have hn : szn (szn b (rr.length + zz (tot ya) (rr.take i))) (tot ya [.l x0]) < 0 := by simpa using hn
       rw [zi hb] at hn
       exact xr rfl (q7 rfl ⟨⟨rfl, (by show Value.int _ _ = Value.int _ _; congr 1; unfold szn yl at *; split at hn <;> rw [if_pos] <;> omega), trivial⟩, z6 rfl⟩)
     · have hn : ¬ szn (szn b (rr.length + zz (tot ya) (rr.take i))) (tot ya [.l x0]) < 0 := by simpa using hn
       have he := zi (n := tot ya [.l x0]) hb
       rw [he] at hn
       rw [Nat.add_assoc, ← hc] at he hn
       refine qa rfl (hJ _ (i + 1) ⟨by omega, by omega⟩ (by omega) ?_)
       refine ⟨⟨cwi (by omega) (by omega) (by omega), ?_, rfl, trivial⟩, trivial, rfl⟩
       exact congrArg (fun n => Cell.s (.int .i64 n)) he
   · have h : ¬ i < rr.length := by simpa using h
     have : i = rr.length := by omega
     subst this
     exact xr rfl (q7 rfl ⟨⟨rfl, (by show Value.int _ _ = Value.int _ _; rw [List.take_length]; rfl), trivial⟩, z6 rfl⟩)
theorem q87 (x0 : Int) (x1 : Int) (x2 : Int) (x3 : Int) (x4 : List (List Cell)) (x5 : List (List Cell)) (b : Int) (h4 : WR 9223372036854775807 (.i .i64 .nil) x4) (h5 : WR 9223372036854775807 ym x5) (hb0 : 0 ≤ b) (hb1 : b ≤ 1048576) : PC Tryz.prog 237 [.agg [.s (.int .i64 x0), .s (.int .i64 x1), .s (.int .i64 x2), .s (.int .i64 x3), .l x4, .l x5], .one (.s (.int .i64 b))] (rI (szn b (tot yp [.s (.int .i64 x0), .s (.int .i64 x1), .s (.int .i64 x2), .s (.int .i64 x3), .l x4, .l x5]))) := by
 refine PC.begin Tryz.func237 rfl (by kernel_rfl) ?_
 have ht : tot yp [.s (.int .i64 x0), .s (.int .i64 x1), .s (.int .i64 x2), .s (.int .i64 x3), .l x4, .l x5] = yl (.i .i64 .nil) x4 + yl ym x5 := by simp only [tot, yl] <;> omega
 refine z7 rfl (z35 x4 b h4 hb0 hb1) rfl ⟨trivial, trivial, trivial⟩ ?_
 refine xb rfl (fun h => ?_) (fun e0 => ?_)
 · have h : szn b (yl (.i .i64 .nil) x4) < 0 := by simpa using h
   exact xr rfl (q7 rfl ⟨⟨rfl, (by show Value.int _ _ = Value.int _ _; congr 1; rw [ht]; unfold szn at *; split at h <;> rw [if_pos] <;> omega), trivial⟩, z6 rfl⟩)
 have e0 : 0 ≤ szn b (yl (.i .i64 .nil) x4) := by simpa using e0
 refine z7 rfl (q3m x5 (szn b (yl (.i .i64 .nil) x4)) h5 e0 (q0g hb1 hb0)) rfl ⟨trivial, trivial, trivial⟩ ?_
 refine xb rfl (fun h => ?_) (fun e1 => ?_)
 · have h : szn (szn b (yl (.i .i64 .nil) x4)) (yl ym x5) < 0 := by simpa using h
   rw [zi e0] at h
   exact xr rfl (q7 rfl ⟨⟨rfl, (by show Value.int _ _ = Value.int _ _; congr 1; rw [ht]; unfold szn at *; split at h <;> rw [if_pos] <;> omega), trivial⟩, z6 rfl⟩)
 have e1 : 0 ≤ szn b (yl (.i .i64 .nil) x4 + yl ym x5) := by rw [← zi e0]; simpa using e1
 rw [zi e0]
 exact xr rfl (q7 rfl ⟨⟨rfl, (by show Value.int _ _ = Value.int _ _; rw [ht]), trivial⟩, z6 rfl⟩)
theorem z7g (rr : List (List Cell)) (b : Int) (hw : WR 9223372036854775807 yp rr) (p0 : 0 ≤ b) (p1 : b ≤ 1048576) : PC Tryz.prog 178 [.one (.l rr), .one (.s (.int .i64 b))] (rI (szn b (yl yp rr))) := by
 refine PC.begin Tryz.func178 rfl (by kernel_rfl) ?_
 have hlen := hw.1
 have w1 : IntKind.i64.wrap (b - rr.length) = b - rr.length := wrap_i64 (by omega) (by omega)
 refine xb rfl (fun h => ?_) (fun h => ?_)
 · simp only [w1, decide_eq_true_eq] at h
   exact xr rfl (q7 rfl ⟨⟨rfl, (by show Value.int _ _ = Value.int _ _; unfold szn yl; rw [if_pos (by omega)]), trivial⟩, z6 rfl⟩)
 simp only [w1, decide_eq_false_iff_not] at h
 have hs : szn b rr.length = b - rr.length := by unfold szn; rw [if_neg h]
 refine qc rfl (ι := Nat) (fun i => i ≤ rr.length ∧ 0 ≤ szn b (rr.length + zz (tot yp) (rr.take i))) (fun i => ⟨[(5, sV (.int .i64 i)), (1, sV (.int .i64 (szn b (rr.length + zz (tot yp) (rr.take i))))), (0, .one (.b (.l rr)))], []⟩) (fun i => rr.length - i) 0 ⟨Nat.zero_le _, by simp only [List.take_zero, zz, Nat.add_zero, hs]; omega⟩ ?_ ?_
 · refine ⟨⟨rfl, ?_, rfl, trivial⟩, trivial, rfl⟩
   show Cell.s (.int .i64 (IntKind.i64.wrap (b - rr.length))) = Cell.s (.int .i64 (szn b (rr.length + 0)))
   rw [w1, Nat.add_zero, hs]
 · intro i ⟨hi, hb⟩ J hJ
   refine xb rfl (fun h => ?_) (fun h => ?_)
   · have h : i < rr.length := by simpa using h
     obtain ⟨row, hg⟩ : ∃ row, rr[i]? = some row := ⟨_, List.getElem?_eq_getElem h⟩
     have hc := y0u (f := tot yp) hg
     have hc2 := q0i (tot yp) rr (i + 1)
     obtain ⟨x0, x1, x2, x3, x4, x5, rfl, h4, h5⟩ := y26 (hw.2 row (List.mem_of_getElem? hg))
     refine xs rfl (Int.natCast_nonneg _) (q9 rfl _ hg (xs rfl rfl ?_))
     refine z7 rfl (q87 _ _ _ _ _ _ _ h4 h5 hb (q0g p1 p0)) rfl ⟨⟨trivial, trivial, trivial, trivial, trivial, trivial, trivial⟩, trivial, trivial⟩ ?_
     refine xb rfl (fun hn => ?_) (fun hn => ?_)
     · have hn : szn (szn b (rr.length + zz (tot yp) (rr.take i))) (tot yp [.s (.int .i64 x0), .s (.int .i64 x1), .s (.int .i64 x2), .s (.int .i64 x3), .l x4, .l x5]) < 0 := by simpa using hn
       rw [zi hb] at hn
       exact xr rfl (q7 rfl ⟨⟨rfl, (by show Value.int _ _ = Value.int _ _; congr 1; unfold szn yl at *; split at hn <;> rw [if_pos] <;> omega), trivial⟩, z6 rfl⟩)
     · have hn : ¬ szn (szn b (rr.length + zz (tot yp) (rr.take i))) (tot yp [.s (.int .i64 x0), .s (.int .i64 x1), .s (.int .i64 x2), .s (.int .i64 x3), .l x4, .l x5]) < 0 := by simpa using hn
       have he := zi (n := tot yp [.s (.int .i64 x0), .s (.int .i64 x1), .s (.int .i64 x2), .s (.int .i64 x3), .l x4, .l x5]) hb
       rw [he] at hn
       rw [Nat.add_assoc, ← hc] at he hn
       refine qa rfl (hJ _ (i + 1) ⟨by omega, by omega⟩ (by omega) ?_)
       refine ⟨⟨cwi (by omega) (by omega) (by omega), ?_, rfl, trivial⟩, trivial, rfl⟩
       exact congrArg (fun n => Cell.s (.int .i64 n)) he
   · have h : ¬ i < rr.length := by simpa using h
     have : i = rr.length := by omega
     subst this
     exact xr rfl (q7 rfl ⟨⟨rfl, (by show Value.int _ _ = Value.int _ _; rw [List.take_length]; rfl), trivial⟩, z6 rfl⟩)
theorem q5d (rr : List (List Cell)) (b : Int) (hw : WR 9223372036854775807 yn rr) (p0 : 0 ≤ b) (p1 : b ≤ 1048576) : PC Tryz.prog 179 [.one (.l rr), .one (.s (.int .i64 b))] (rI (szn b (yl yn rr))) := by
 refine PC.begin Tryz.func179 rfl (by kernel_rfl) ?_
 have hlen := hw.1
 have w1 : IntKind.i64.wrap (b - rr.length) = b - rr.length := wrap_i64 (by omega) (by omega)
 rw [z0n (fun row hr => by obtain ⟨x0, x1, x2, x3, x4, rfl⟩ := y0v hr; rfl) hw]
 refine xb rfl (fun h => ?_) (fun h => ?_)
 · simp only [w1, decide_eq_true_eq] at h
   exact xr rfl (q7 rfl ⟨⟨rfl, (by show Value.int _ _ = Value.int _ _; rw [szn, if_pos h]), trivial⟩, z6 rfl⟩)
 · simp only [w1, decide_eq_false_iff_not] at h
   exact xr rfl (q7 rfl ⟨⟨rfl, (by show Value.int .i64 (IntKind.i64.wrap (b - rr.length)) = Value.int _ _; rw [szn, if_neg h, w1]), trivial⟩, z6 rfl⟩)
theorem z5e (x0 : Int) (x1 : List (List Cell)) (x2 : List (List Cell)) (b : Int) (h1 : WR 9223372036854775807 yp x1) (h2 : WR 9223372036854775807 yn x2) (hb0 : 0 ≤ b) (hb1 : b ≤ 1048576) : PC Tryz.prog 112 [.agg [.s (.int .i64 x0), .l x1, .l x2], .one (.s (.int .i64 b))] (rI (szn b (tot qd [.s (.int .i64 x0), .l x1, .l x2]))) := by
 refine PC.begin Tryz.func112 rfl (by kernel_rfl) ?_
 have ht : tot qd [.s (.int .i64 x0), .l x1, .l x2] = yl yp x1 + yl yn x2 := by simp only [tot, yl] <;> omega
 refine z7 rfl (z7g x1 b h1 hb0 hb1) rfl ⟨trivial, trivial, trivial⟩ ?_
 refine xb rfl (fun h => ?_) (fun e0 => ?_)
 · have h : szn b (yl yp x1) < 0 := by simpa using h
   exact xr rfl (q7 rfl ⟨⟨rfl, (by show Value.int _ _ = Value.int _ _; congr 1; rw [ht]; unfold szn at *; split at h <;> rw [if_pos] <;> omega), trivial⟩, z6 rfl⟩)
 have e0 : 0 ≤ szn b (yl yp x1) := by simpa using e0
 refine z7 rfl (q5d x2 (szn b (yl yp x1)) h2 e0 (q0g hb1 hb0)) rfl ⟨trivial, trivial, trivial⟩ ?_
 refine xb rfl (fun h => ?_) (fun e1 => ?_)
 · have h : szn (szn b (yl yp x1)) (yl yn x2) < 0 := by simpa using h
   rw [zi e0] at h
   exact xr rfl (q7 rfl ⟨⟨rfl, (by show Value.int _ _ = Value.int _ _; congr 1; rw [ht]; unfold szn at *; split at h <;> rw [if_pos] <;> omega), trivial⟩, z6 rfl⟩)
 have e1 : 0 ≤ szn b (yl yp x1 + yl yn x2) := by rw [← zi e0]; simpa using e1
 rw [zi e0]
 exact xr rfl (q7 rfl ⟨⟨rfl, (by show Value.int _ _ = Value.int _ _; rw [ht]), trivial⟩, z6 rfl⟩)
theorem y4u (rr : List (List Cell)) (b : Int) (hw : WR 9223372036854775807 qd rr) (p0 : 0 ≤ b) (p1 : b ≤ 1048576) : PC Tryz.prog 53 [.one (.l rr), .one (.s (.int .i64 b))] (rI (szn b (yl qd rr))) := by
 refine PC.begin Tryz.func53 rfl (by kernel_rfl) ?_
 have hlen := hw.1
 have w1 : IntKind.i64.wrap (b - rr.length) = b - rr.length := wrap_i64 (by omega) (by omega)
 refine xb rfl (fun h => ?_) (fun h => ?_)
 · simp only [w1, decide_eq_true_eq] at h
   exact xr rfl (q7 rfl ⟨⟨rfl, (by show Value.int _ _ = Value.int _ _; unfold szn yl; rw [if_pos (by omega)]), trivial⟩, z6 rfl⟩)
 simp only [w1, decide_eq_false_iff_not] at h
 have hs : szn b rr.length = b - rr.length := by unfold szn; rw [if_neg h]
 refine qc rfl (ι := Nat) (fun i => i ≤ rr.length ∧ 0 ≤ szn b (rr.length + zz (tot qd) (rr.take i))) (fun i => ⟨[(5, sV (.int .i64 i)), (1, sV (.int .i64 (szn b (rr.length + zz (tot qd) (rr.take i))))), (0, .one (.b (.l rr)))], []⟩) (fun i => rr.length - i) 0 ⟨Nat.zero_le _, by simp only [List.take_zero, zz, Nat.add_zero, hs]; omega⟩ ?_ ?_
 · refine ⟨⟨rfl, ?_, rfl, trivial⟩, trivial, rfl⟩
   show Cell.s (.int .i64 (IntKind.i64.wrap (b - rr.length))) = Cell.s (.int .i64 (szn b (rr.length + 0)))
   rw [w1, Nat.add_zero, hs]
 · intro i ⟨hi, hb⟩ J hJ
   refine xb rfl (fun h => ?_) (fun h => ?_)
   · have h : i < rr.length := by simpa using h
     obtain ⟨row, hg⟩ : ∃ row, rr[i]? = some row := ⟨_, List.getElem?_eq_getElem h⟩
     have hc := y0u (f := tot qd) hg
     have hc2 := q0i (tot qd) rr (i + 1)
     obtain ⟨x0, x1, x2, rfl, h1, h2⟩ := z0j (hw.2 row (List.mem_of_getElem? hg))
     refine xs rfl (Int.natCast_nonneg _) (q9 rfl _ hg (xs rfl rfl ?_))
     refine z7 rfl (z5e _ _ _ _ h1 h2 hb (q0g p1 p0)) rfl ⟨⟨trivial, trivial, trivial, trivial⟩, trivial, trivial⟩ ?_
     refine xb rfl (fun hn => ?_) (fun hn => ?_)
     · have hn : szn (szn b (rr.length + zz (tot qd) (rr.take i))) (tot qd [.s (.int .i64 x0), .l x1, .l x2]) < 0 := by simpa using hn
       rw [zi hb] at hn
       exact xr rfl (q7 rfl ⟨⟨rfl, (by show Value.int _ _ = Value.int _ _; congr 1; unfold szn yl at *; split at hn <;> rw [if_pos] <;> omega), trivial⟩, z6 rfl⟩)
     · have hn : ¬ szn (szn b (rr.length + zz (tot qd) (rr.take i))) (tot qd [.s (.int .i64 x0), .l x1, .l x2]) < 0 := by simpa using hn
       have he := zi (n := tot qd [.s (.int .i64 x0), .l x1, .l x2]) hb
       rw [he] at hn
       rw [Nat.add_assoc, ← hc] at he hn
       refine qa rfl (hJ _ (i + 1) ⟨by omega, by omega⟩ (by omega) ?_)
       refine ⟨⟨cwi (by omega) (by omega) (by omega), ?_, rfl, trivial⟩, trivial, rfl⟩
       exact congrArg (fun n => Cell.s (.int .i64 n)) he
   · have h : ¬ i < rr.length := by simpa using h
     have : i = rr.length := by omega
     subst this
     exact xr rfl (q7 rfl ⟨⟨rfl, (by show Value.int _ _ = Value.int _ _; rw [List.take_length]; rfl), trivial⟩, z6 rfl⟩)
theorem z48 (rr : List (List Cell)) (b : Int) (hw : WR 9223372036854775807 zg rr) (p0 : 0 ≤ b) (p1 : b ≤ 1048576) : PC Tryz.prog 54 [.one (.l rr), .one (.s (.int .i64 b))] (rI (szn b (yl zg rr))) := by
 refine PC.begin Tryz.func54 rfl (by kernel_rfl) ?_
 have hlen := hw.1
 have w1 : IntKind.i64.wrap (b - rr.length) = b - rr.length := wrap_i64 (by omega) (by omega)
 rw [z0n (fun row hr => by obtain ⟨x0, x1, x2, x3, x4, x5, x6, x7, x8, rfl⟩ := q0b hr; rfl) hw]
 refine xb rfl (fun h => ?_) (fun h => ?_)
 · simp only [w1, decide_eq_true_eq] at h
   exact xr rfl (q7 rfl ⟨⟨rfl, (by show Value.int _ _ = Value.int _ _; rw [szn, if_pos h]), trivial⟩, z6 rfl⟩)
 · simp only [w1, decide_eq_false_iff_not] at h
   exact xr rfl (q7 rfl ⟨⟨rfl, (by show Value.int .i64 (IntKind.i64.wrap (b - rr.length)) = Value.int _ _; rw [szn, if_neg h, w1]), trivial⟩, z6 rfl⟩)
theorem z4u (x0 : List (List Cell)) (x1 : List (List Cell)) (x2 : List (List Cell)) (x3 : List (List Cell)) (x4 : List (List Cell)) (b : Int) (h0 : WR 9223372036854775807 q8 x0) (h1 : WR 9223372036854775807 qe x1) (h2 : WR 9223372036854775807 ya x2) (h3 : WR 9223372036854775807 qd x3) (h4 : WR 9223372036854775807 zg x4) (hb0 : 0 ≤ b) (hb1 : b ≤ 1048576) : PC Tryz.prog 12 [.agg [.l x0, .l x1, .l x2, .l x3, .l x4], .one (.s (.int .i64 b))] (rI (szn b (tot zo [.l x0, .l x1, .l x2, .l x3, .l x4]))) := by
 refine PC.begin Tryz.func12 rfl (by kernel_rfl) ?_
 have ht : tot zo [.l x0, .l x1, .l x2, .l x3, .l x4] = yl q8 x0 + yl qe x1 + yl ya x2 + yl qd x3 + yl zg x4 := by simp only [tot, yl] <;> omega
 refine z7 rfl (z1k x0 b h0 hb0 hb1) rfl ⟨trivial, trivial, trivial⟩ ?_
 refine xb rfl (fun h => ?_) (fun e0 => ?_)
 · have h : szn b (yl q8 x0) < 0 := by simpa using h
   exact xr rfl (q7 rfl ⟨⟨rfl, (by show Value.int _ _ = Value.int _ _; congr 1; rw [ht]; unfold szn at *; split at h <;> rw [if_pos] <;> omega), trivial⟩, z6 rfl⟩)
 have e0 : 0 ≤ szn b (yl q8 x0) := by simpa using e0
 refine z7 rfl (y5e x1 (szn b (yl q8 x0)) h1 e0 (q0g hb1 hb0)) rfl ⟨trivial, trivial, trivial⟩ ?_
 refine xb rfl (fun h => ?_) (fun e1 => ?_)
 · have h : szn (szn b (yl q8 x0)) (yl qe x1) < 0 := by simpa using h
   rw [zi e0] at h
   exact xr rfl (q7 rfl ⟨⟨rfl, (by show Value.int _ _ = Value.int _ _; congr 1; rw [ht]; unfold szn at *; split at h <;> rw [if_pos] <;> omega), trivial⟩, z6 rfl⟩)
 have e1 : 0 ≤ szn b (yl q8 x0 + yl qe x1) := by rw [← zi e0]; simpa using e1
 rw [zi e0]
 refine z7 rfl (z3f x2 (szn b (yl q8 x0 + yl qe x1)) h2 e1 (q0g hb1 hb0)) rfl ⟨trivial, trivial, trivial⟩ ?_
 refine xb rfl (fun h => ?_) (fun e2 => ?_)
 · have h : szn (szn b (yl q8 x0 + yl qe x1)) (yl ya x2) < 0 := by simpa using h
   rw [zi e1] at h
   exact xr rfl (q7 rfl ⟨⟨rfl, (by show Value.int _ _ = Value.int _ _; congr 1; rw [ht]; unfold szn at *; split at h <;> rw [if_pos] <;> omega), trivial⟩, z6 rfl⟩)
 have e2 : 0 ≤ szn b (yl q8 x0 + yl qe x1 + yl ya x2) := by rw [← zi e1]; simpa using e2
 rw [zi e1]
 refine z7 rfl (y4u x3 (szn b (yl q8 x0 + yl qe x1 + yl ya x2)) h3 e2 (q0g hb1 hb0)) rfl ⟨trivial, trivial, trivial⟩ ?_
 refine xb rfl (fun h => ?_) (fun e3 => ?_)
 · have h : szn (szn b (yl q8 x0 + yl qe x1 + yl ya x2)) (yl qd x3) < 0 := by simpa using h
   rw [zi e2] at h
   exact xr rfl (q7 rfl ⟨⟨rfl, (by show Value.int _ _ = Value.int _ _; congr 1; rw [ht]; unfold szn at *; split at h <;> rw [if_pos] <;> omega), trivial⟩, z6 rfl⟩)
 have e3 : 0 ≤ szn b (yl q8 x0 + yl qe x1 + yl ya x2 + yl qd x3) := by rw [← zi e2]; simpa using e3
 rw [zi e2]
 refine z7 rfl (z48 x4 (szn b (yl q8 x0 + yl qe x1 + yl ya x2 + yl qd x3)) h4 e3 (q0g hb1 hb0)) rfl ⟨trivial, trivial, trivial⟩ ?_
 refine xb rfl (fun h => ?_) (fun e4 => ?_)
 · have h : szn (szn b (yl q8 x0 + yl qe x1 + yl ya x2 + yl qd x3)) (yl zg x4) < 0 := by simpa using h
   rw [zi e3] at h
   exact xr rfl (q7 rfl ⟨⟨rfl, (by show Value.int _ _ = Value.int _ _; congr 1; rw [ht]; unfold szn at *; split at h <;> rw [if_pos] <;> omega), trivial⟩, z6 rfl⟩)
 have e4 : 0 ≤ szn b (yl q8 x0 + yl qe x1 + yl ya x2 + yl qd x3 + yl zg x4) := by rw [← zi e3]; simpa using e4
 rw [zi e3]
 exact xr rfl (q7 rfl ⟨⟨rfl, (by show Value.int _ _ = Value.int _ _; rw [ht]), trivial⟩, z6 rfl⟩)
end Go.Proofs.YthljegacamgnnaaGreat
end
section
namespace Go.Proofs.YthljegacamgnnaaGreat
open Go Go.Sx
set_option maxRecDepth 20000
set_option maxHeartbeats 4000000
theorem y9l (x0 x1 x2 x3 x4 : List (List Cell)) (hw : WT 9223372036854775807 zo [.l x0, .l x1, .l x2, .l x3, .l x4]) (b : Nat) (hb : b ≤ 1048576) :
 PC Tryz.prog 12 [.agg [.l x0, .l x1, .l x2, .l x3, .l x4], .one (i64 b)] (rI (-1)) ∨ ∃ c : Clu, x0 = c.cons.map Con.cs ∧ x1 = c.shs.map Shd.cs ∧ x2 = c.accs.map Acc.cs ∧ x3 = c.ldrs.map Ldr.cs ∧ x4 = c.msgs.map Msg.cs ∧ q01 c ∧ (WT 1048576 zo c.cs ∧ tot zo c.cs ≤ b) ∧
  (∃ n : Nat, n ≤ b ∧ PC Tryz.prog 12 [.agg c.cs, .one (i64 b)] (rI n)) ∧ PC Tryz.prog 14 [.agg c.cs] (.one (.own true [.l 2 (c.cons.map Con.cs), .l 6 (c.shs.map Shd.cs), .l 1 (c.accs.map Acc.cs), .l 3 (c.ldrs.map Ldr.cs), .l 9 (c.msgs.map Msg.cs)])) ∧
  PC Tryz.prog 17 [.agg c.cs, .agg c.cs] (rB true) := by
 obtain ⟨_, _, _, _, _, e, k0, k1, k2, k3, k4⟩ := q0k hw
 cases e
 have hsz := z4u x0 x1 x2 x3 x4 b k0 k1 k2 k3 k4 (by omega) (by omega)
 by_cases ht : tot zo [.l x0, .l x1, .l x2, .l x3, .l x4] ≤ b
 · right
   have hs : szn b (tot zo [.l x0, .l x1, .l x2, .l x3, .l x4]) = ((b - tot zo [.l x0, .l x1, .l x2, .l x3, .l x4] : Nat) : Int) := by
    unfold szn; rw [if_neg (by omega)]; omega
   rw [hs] at hsz
   have hwt := y9v hw (Nat.le_trans ht hb)
   obtain ⟨_, _, _, _, _, e, m0, m1, m2, m3, m4⟩ := q0k hwt
   cases e
   obtain ⟨c, ec, ho⟩ := z4e _ hwt
   have up : ∀ {e : Sh} {r : List (List Cell)}, WR 1048576 e r → WR 9000000000000000000 e r := fun h => h.mono (by omega)
   have heq := q4f x0 x1 x2 x3 x4 x0 x1 x2 x3 x4 (up m0) (up m1) (up m2) (up m3) (up m4) (up m0) (up m1) (up m2) (up m3) (up m4)
   rw [show dE (α := List Cell) [.l x0, .l x1, .l x2, .l x3, .l x4] [.l x0, .l x1, .l x2, .l x3, .l x4] = true from (Value.bool.inj (zu rfl)).symm] at heq
   have hto := z4v x0 x1 x2 x3 x4 m0 m1 m2 m3 m4
   simp only [Clu.cs, List.cons.injEq, Cell.l.injEq, and_true] at ec
   obtain ⟨rfl, rfl, rfl, rfl, rfl⟩ := ec
   exact ⟨c, rfl, rfl, rfl, rfl, rfl, ho, ⟨hwt, ht⟩, ⟨_, Nat.sub_le _ _, hsz⟩, hto, heq⟩
 · left
   have hs : szn b (tot zo [.l x0, .l x1, .l x2, .l x3, .l x4]) = -1 := by
    unfold szn; rw [if_pos (by omega)]
   rw [hs] at hsz
   exact hsz
end Go.Proofs.YthljegacamgnnaaGreat
end
section
namespace Go.Proofs.YthljegacamgnnaaGreat
open Go Go.Sx
set_option maxRecDepth 20000
set_option maxHeartbeats 4000000
theorem z57 (z : Nat) (rr : List (List Cell)) (k : Int) (hw : WR 9000000000000000000 yy rr) : PG Tryz.prog 96 [.one (.giv true z rr), .one (.bor (i64 k))] (rI (mkR (mk yy) rr k).2) [(0, (mkR (mk yy) rr k).1)] := by
 refine PG.begin Tryz.func96 rfl (by kernel_rfl) ?_
 have hlen := hw.1
 refine qc rfl (ι := Nat) (fun i => i ≤ rr.length) (fun i => ⟨[(5, sV (.int .i64 i)), (1, sV (.int .i64 (mdk (mk yy) rr k i))), (0, .one (.h 1000000000 rr.length))], [(1000000000, .arr true z 0 (md (mk yy) rr k i))]⟩) (fun i => rr.length - i) 0 (Nat.zero_le _) ?_ ?_
 · exact ⟨⟨rfl, congrArg (fun n => Cell.s (.int .i64 n)) z01.symm, ⟨rfl, rfl, rfl⟩, trivial⟩, ⟨⟨y09.symm, .inl rfl, .inl rfl⟩, trivial⟩, rfl⟩
 · intro i hi J hJ
   refine xb rfl (fun h => ?_) (fun h => ?_)
   · have h : i < rr.length := by simpa using h
     obtain ⟨row, hg⟩ : ∃ row, rr[i]? = some row := ⟨_, List.getElem?_eq_getElem h⟩
     obtain ⟨x0, x1, x2, x3, rfl⟩ := z26 (hw.2 row (List.mem_of_getElem? hg))
     have hl := q0q (f := (mk yy)) (k := k) hi
     have hg0 := y0q (f := (mk yy)) (k := k) hg
     have hlt : i < (md (mk yy) rr k i).length := by omega
     refine xs rfl (hl).symm (xs rfl (Int.natCast_nonneg _) (q9 rfl _ hg0 (xs rfl rfl (xs rfl (hl).symm (q9 rfl _ hg0 (xs rfl (by show 0 + 1 ≤ 4; omega) (xs rfl ⟨trivial, trivial⟩ ?_)))))))
     refine xs rfl (qb (hl)).symm (xs rfl (Int.natCast_nonneg _) (q9 rfl _ (qw (hl) h) (xs rfl rfl (xs rfl (qb (hl)).symm (q9 rfl _ (qw (hl) h) (xs rfl (by show 1 + 1 ≤ 4; omega) (xs rfl ⟨trivial, trivial⟩ ?_)))))))
     refine xs rfl (qb (qb (hl))).symm (xs rfl (Int.natCast_nonneg _) (q9 rfl _ (qw (qb (hl)) h) (xs rfl rfl (xs rfl (qb (qb (hl))).symm (q9 rfl _ (qw (qb (hl)) h) (xs rfl (by show 2 + 1 ≤ 4; omega) (xs rfl ⟨trivial, trivial⟩ ?_)))))))
     refine xs rfl (qb (qb (qb (hl)))).symm (xs rfl (Int.natCast_nonneg _) (q9 rfl _ (qw (qb (qb (hl))) h) (xs rfl rfl (xs rfl (qb (qb (qb (hl)))).symm (q9 rfl _ (qw (qb (qb (hl))) h) (xs rfl (by show 3 + 1 ≤ 4; omega) (xs rfl ⟨trivial, trivial⟩ ?_)))))))
     refine qa rfl (hJ _ (i + 1) (by omega) (by omega) ?_)
     refine ⟨⟨cwi (by omega) (by omega) (by omega), ?_, ⟨rfl, rfl, rfl⟩, trivial⟩, ⟨⟨?_, .inl rfl, .inl rfl⟩, trivial⟩, rfl⟩
     · rw [q00 hg]; rfl
     · refine Eq.trans ?_ (z0r hg)
       try simp only [Int.toNat_natCast, qr hg0, ssr hlt, List.set_set]
       rfl
   · have h : ¬ i < rr.length := by simpa using h
     have : i = rr.length := by omega
     subst this
     exact xr rfl (z1c rfl ⟨⟨rfl, congrArg (Value.int .i64) q09, trivial⟩, z6 rfl⟩ ⟨⟨rfl, rfl, z0q, zq _ _ _, qq hw⟩, trivial⟩)
theorem z11 (z : Nat) (rr : List (List Cell)) (k : Int) (hw : WR 9000000000000000000 q8 rr) : PG Tryz.prog 91 [.one (.giv true z rr), .one (.bor (i64 k))] (rI (mkR (mk q8) rr k).2) [(0, (mkR (mk q8) rr k).1)] := by
 refine PG.begin Tryz.func91 rfl (by kernel_rfl) ?_
 have hlen := hw.1
 refine qc rfl (ι := Nat) (fun i => i ≤ rr.length) (fun i => ⟨[(5, sV (.int .i64 i)), (1, sV (.int .i64 (mdk (mk q8) rr k i))), (0, .one (.h 1000000000 rr.length))], [(1000000000, .arr true z 0 (md (mk q8) rr k i))]⟩) (fun i => rr.length - i) 0 (Nat.zero_le _) ?_ ?_
 · exact ⟨⟨rfl, congrArg (fun n => Cell.s (.int .i64 n)) z01.symm, ⟨rfl, rfl, rfl⟩, trivial⟩, ⟨⟨y09.symm, .inl rfl, .inl rfl⟩, trivial⟩, rfl⟩
 · intro i hi J hJ
   refine xb rfl (fun h => ?_) (fun h => ?_)
   · have h : i < rr.length := by simpa using h
     obtain ⟨row, hg⟩ : ∃ row, rr[i]? = some row := ⟨_, List.getElem?_eq_getElem h⟩
     obtain ⟨x0, x1, rfl, h1⟩ := z07 (hw.2 row (List.mem_of_getElem? hg))
     have hl := q0q (f := (mk q8)) (k := k) hi
     have hg0 := y0q (f := (mk q8)) (k := k) hg
     have hlt : i < (md (mk q8) rr k i).length := by omega
     refine xs rfl (hl).symm (xs rfl (Int.natCast_nonneg _) (q9 rfl _ hg0 (xs rfl rfl (xs rfl (hl).symm (q9 rfl _ hg0 (xs rfl (by show 0 + 1 ≤ 2; omega) (xs rfl ⟨trivial, trivial⟩ ?_)))))))
     refine xs rfl (qb (hl)).symm (xs rfl (Int.natCast_nonneg _) (q9 rfl _ (qw (hl) h) (xs rfl rfl (xs rfl (qb (hl)).symm (q9 rfl _ (qw (hl) h) ?_)))))
     refine y0n rfl (z57 0 _ _ h1) ⟨⟨rfl, rfl, rfl, _, (qw (hl) h), rfl⟩, rfl, trivial⟩ rfl ?_
     refine qa rfl (hJ _ (i + 1) (by omega) (by omega) ?_)
     refine ⟨⟨cwi (by omega) (by omega) (by omega), ?_, ⟨rfl, rfl, rfl⟩, trivial⟩, ⟨⟨?_, .inl rfl, .inl rfl⟩, trivial⟩, rfl⟩
     · rw [q00 hg]; rfl
     · refine Eq.trans ?_ (z0r hg)
       try simp only [Int.toNat_natCast, qr hg0, ssr hlt, List.set_set]
       rfl
   · have h : ¬ i < rr.length := by simpa using h
     have : i = rr.length := by omega
     subst this
     exact xr rfl (z1c rfl ⟨⟨rfl, congrArg (Value.int .i64) q09, trivial⟩, z6 rfl⟩ ⟨⟨rfl, rfl, z0q, zq _ _ _, qq hw⟩, trivial⟩)
theorem y16 (z : Nat) (rr : List (List Cell)) (k : Int) (hw : WR 9000000000000000000 z8 rr) : PG Tryz.prog 156 [.one (.giv true z rr), .one (.bor (i64 k))] (rI (mkR (mk z8) rr k).2) [(0, (mkR (mk z8) rr k).1)] := by
 refine PG.begin Tryz.func156 rfl (by kernel_rfl) ?_
 have hlen := hw.1
 refine qc rfl (ι := Nat) (fun i => i ≤ rr.length) (fun i => ⟨[(5, sV (.int .i64 i)), (1, sV (.int .i64 (mdk (mk z8) rr k i))), (0, .one (.h 1000000000 rr.length))], [(1000000000, .arr true z 0 (md (mk z8) rr k i))]⟩) (fun i => rr.length - i) 0 (Nat.zero_le _) ?_ ?_
 · exact ⟨⟨rfl, congrArg (fun n => Cell.s (.int .i64 n)) z01.symm, ⟨rfl, rfl, rfl⟩, trivial⟩, ⟨⟨y09.symm, .inl rfl, .inl rfl⟩, trivial⟩, rfl⟩
 · intro i hi J hJ
   refine xb rfl (fun h => ?_) (fun h => ?_)
   · have h : i < rr.length := by simpa using h
     obtain ⟨row, hg⟩ : ∃ row, rr[i]? = some row := ⟨_, List.getElem?_eq_getElem h⟩
     obtain ⟨x0, x1, x2, rfl⟩ := q05 (hw.2 row (List.mem_of_getElem? hg))
     have hl := q0q (f := (mk z8)) (k := k) hi
     have hg0 := y0q (f := (mk z8)) (k := k) hg
     have hlt : i < (md (mk z8) rr k i).length := by omega
     refine xs rfl (hl).symm (xs rfl (Int.natCast_nonneg _) (q9 rfl _ hg0 (xs rfl rfl (xs rfl (hl).symm (q9 rfl _ hg0 (xs rfl (by show 0 + 1 ≤ 3; omega) (xs rfl ⟨trivial, trivial⟩ ?_)))))))
     refine xs rfl (qb (hl)).symm (xs rfl (Int.natCast_nonneg _) (q9 rfl _ (qw (hl) h) (xs rfl rfl (xs rfl (qb (hl)).symm (q9 rfl _ (qw (hl) h) (xs rfl (by show 1 + 1 ≤ 3; omega) (xs rfl ⟨trivial, trivial⟩ ?_)))))))
     refine xs rfl (qb (qb (hl))).symm (xs rfl (Int.natCast_nonneg _) (q9 rfl _ (qw (qb (hl)) h) (xs rfl rfl (xs rfl (qb (qb (hl))).symm (q9 rfl _ (qw (qb (hl)) h) (xs rfl (by show 2 + 1 ≤ 3; omega) (xs rfl ⟨trivial, trivial⟩ ?_)))))))
     refine qa rfl (hJ _ (i + 1) (by omega) (by omega) ?_)
     refine ⟨⟨cwi (by omega) (by omega) (by omega), ?_, ⟨rfl, rfl, rfl⟩, trivial⟩, ⟨⟨?_, .inl rfl, .inl rfl⟩, trivial⟩, rfl⟩
     · rw [q00 hg]; rfl
     · refine Eq.trans ?_ (z0r hg)
       try simp only [Int.toNat_natCast, qr hg0, ssr hlt, List.set_set]
       rfl
   · have h : ¬ i < rr.length := by simpa using h
     have : i = rr.length := by omega
     subst this
     exact xr rfl (z1c rfl ⟨⟨rfl, congrArg (Value.int .i64) q09, trivial⟩, z6 rfl⟩ ⟨⟨rfl, rfl, z0q, zq _ _ _, qq hw⟩, trivial⟩)
theorem z2f (z : Nat) (rr : List (List Cell)) (k : Int) (hw : WR 9000000000000000000 yh rr) : PG Tryz.prog 157 [.one (.giv true z rr), .one (.bor (i64 k))] (rI (mkR (mk yh) rr k).2) [(0, (mkR (mk yh) rr k).1)] := by
 refine PG.begin Tryz.func157 rfl (by kernel_rfl) ?_
 have hlen := hw.1
 refine qc rfl (ι := Nat) (fun i => i ≤ rr.length) (fun i => ⟨[(5, sV (.int .i64 i)), (1, sV (.int .i64 (mdk (mk yh) rr k i))), (0, .one (.h 1000000000 rr.length))], [(1000000000, .arr true z 0 (md (mk yh) rr k i))]⟩) (fun i => rr.length - i) 0 (Nat.zero_le _) ?_ ?_
 · exact ⟨⟨rfl, congrArg (fun n => Cell.s (.int .i64 n)) z01.symm, ⟨rfl, rfl, rfl⟩, trivial⟩, ⟨⟨y09.symm, .inl rfl, .inl rfl⟩, trivial⟩, rfl⟩
 · intro i hi J hJ
   refine xb rfl (fun h => ?_) (fun h => ?_)
   · have h : i < rr.length := by simpa using h
     obtain ⟨row, hg⟩ : ∃ row, rr[i]? = some row := ⟨_, List.getElem?_eq_getElem h⟩
     obtain ⟨x0, x1, rfl⟩ := q1d (hw.2 row (List.mem_of_getElem? hg))
     have hl := q0q (f := (mk yh)) (k := k) hi
     have hg0 := y0q (f := (mk yh)) (k := k) hg
     have hlt : i < (md (mk yh) rr k i).length := by omega
     refine xs rfl (hl).symm (xs rfl (Int.natCast_nonneg _) (q9 rfl _ hg0 (xs rfl rfl (xs rfl (hl).symm (q9 rfl _ hg0 (xs rfl (by show 0 + 1 ≤ 2; omega) (xs rfl ⟨trivial, trivial⟩ ?_)))))))
     refine xs rfl (qb (hl)).symm (xs rfl (Int.natCast_nonneg _) (q9 rfl _ (qw (hl) h) (xs rfl rfl (xs rfl (qb (hl)).symm (q9 rfl _ (qw (hl) h) (xs rfl (by show 1 + 1 ≤ 2; omega) (xs rfl ⟨trivial, trivial⟩ ?_)))))))
     refine qa rfl (hJ _ (i + 1) (by omega) (by omega) ?_)
     refine ⟨⟨cwi (by omega) (by omega) (by omega), ?_, ⟨rfl, rfl, rfl⟩, trivial⟩, ⟨⟨?_, .inl rfl, .inl rfl⟩, trivial⟩, rfl⟩
     · rw [q00 hg]; rfl
     · refine Eq.trans ?_ (z0r hg)
       try simp only [Int.toNat_natCast, qr hg0, ssr hlt, List.set_set]
       rfl
   · have h : ¬ i < rr.length := by simpa using h
     have : i = rr.length := by omega
     subst this
     exact xr rfl (z1c rfl ⟨⟨rfl, congrArg (Value.int .i64) q09, trivial⟩, z6 rfl⟩ ⟨⟨rfl, rfl, z0q, zq _ _ _, qq hw⟩, trivial⟩)
theorem z1v (z : Nat) (rr : List (List Cell)) (k : Int) (hw : WR 9000000000000000000 (.i .i64 .nil) rr) : PG Tryz.prog 101 [.one (.giv true z rr), .one (.bor (i64 k))] (rI (mkR (mk (.i .i64 .nil)) rr k).2) [(0, (mkR (mk (.i .i64 .nil)) rr k).1)] := by
 refine PG.begin Tryz.func101 rfl (by kernel_rfl) ?_
 have hlen := hw.1
 refine qc rfl (ι := Nat) (fun i => i ≤ rr.length) (fun i => ⟨[(5, sV (.int .i64 i)), (1, sV (.int .i64 (mdk (mk (.i .i64 .nil)) rr k i))), (0, .one (.h 1000000000 rr.length))], [(1000000000, .arr true z 0 (md (mk (.i .i64 .nil)) rr k i))]⟩) (fun i => rr.length - i) 0 (Nat.zero_le _) ?_ ?_
 · exact ⟨⟨rfl, congrArg (fun n => Cell.s (.int .i64 n)) z01.symm, ⟨rfl, rfl, rfl⟩, trivial⟩, ⟨⟨y09.symm, .inl rfl, .inl rfl⟩, trivial⟩, rfl⟩
 · intro i hi J hJ
   refine xb rfl (fun h => ?_) (fun h => ?_)
   · have h : i < rr.length := by simpa using h
     obtain ⟨row, hg⟩ : ∃ row, rr[i]? = some row := ⟨_, List.getElem?_eq_getElem h⟩
     obtain ⟨x0, _, rfl, hnil⟩ := ((hw.2 row (List.mem_of_getElem? hg))).zw; obtain rfl := hnil.yu
     have hl := q0q (f := (mk (.i .i64 .nil))) (k := k) hi
     have hg0 := y0q (f := (mk (.i .i64 .nil))) (k := k) hg
     have hlt : i < (md (mk (.i .i64 .nil)) rr k i).length := by omega
     refine xs rfl (hl).symm (xs rfl (Int.natCast_nonneg _) (q9 rfl _ hg0 (xs rfl rfl (xs rfl (hl).symm (q9 rfl _ hg0 (xs rfl (by show 0 + 1 ≤ 1; omega) (xs rfl ⟨trivial, trivial⟩ ?_)))))))
     refine qa rfl (hJ _ (i + 1) (by omega) (by omega) ?_)
     refine ⟨⟨cwi (by omega) (by omega) (by omega), ?_, ⟨rfl, rfl, rfl⟩, trivial⟩, ⟨⟨?_, .inl rfl, .inl rfl⟩, trivial⟩, rfl⟩
     · rw [q00 hg]; rfl
     · refine Eq.trans ?_ (z0r hg)
       try simp only [Int.toNat_natCast, qr hg0, ssr hlt, List.set_set]
       rfl
   · have h : ¬ i < rr.length := by simpa using h
     have : i = rr.length := by omega
     subst this
     exact xr rfl (z1c rfl ⟨⟨rfl, congrArg (Value.int .i64) q09, trivial⟩, z6 rfl⟩ ⟨⟨rfl, rfl, z0q, zq _ _ _, qq hw⟩, trivial⟩)
theorem y40 (z : Nat) (rr : List (List Cell)) (k : Int) (hw : WR 9000000000000000000 qe rr) : PG Tryz.prog 92 [.one (.giv true z rr), .one (.bor (i64 k))] (rI (mkR (mk qe) rr k).2) [(0, (mkR (mk qe) rr k).1)] := by
 refine PG.begin Tryz.func92 rfl (by kernel_rfl) ?_
 have hlen := hw.1
 refine qc rfl (ι := Nat) (fun i => i ≤ rr.length) (fun i => ⟨[(5, sV (.int .i64 i)), (1, sV (.int .i64 (mdk (mk qe) rr k i))), (0, .one (.h 1000000000 rr.length))], [(1000000000, .arr true z 0 (md (mk qe) rr k i))]⟩) (fun i => rr.length - i) 0 (Nat.zero_le _) ?_ ?_
 · exact ⟨⟨rfl, congrArg (fun n => Cell.s (.int .i64 n)) z01.symm, ⟨rfl, rfl, rfl⟩, trivial⟩, ⟨⟨y09.symm, .inl rfl, .inl rfl⟩, trivial⟩, rfl⟩
 · intro i hi J hJ
   refine xb rfl (fun h => ?_) (fun h => ?_)
   · have h : i < rr.length := by simpa using h
     obtain ⟨row, hg⟩ : ∃ row, rr[i]? = some row := ⟨_, List.getElem?_eq_getElem h⟩
     obtain ⟨x0, x1, x2, x3, x4, x5, rfl, h1, h2, h3, h4, h5⟩ := q0v (hw.2 row (List.mem_of_getElem? hg))
     have hl := q0q (f := (mk qe)) (k := k) hi
     have hg0 := y0q (f := (mk qe)) (k := k) hg
     have hlt : i < (md (mk qe) rr k i).length := by omega
     refine xs rfl (hl).symm (xs rfl (Int.natCast_nonneg _) (q9 rfl _ hg0 (xs rfl rfl (xs rfl (hl).symm (q9 rfl _ hg0 (xs rfl (by show 0 + 1 ≤ 6; omega) (xs rfl ⟨trivial, trivial⟩ ?_)))))))
     refine xs rfl (qb (hl)).symm (xs rfl (Int.natCast_nonneg _) (q9 rfl _ (qw (hl) h) (xs rfl rfl (xs rfl (qb (hl)).symm (q9 rfl _ (qw (hl) h) ?_)))))
     refine y0n rfl (y16 0 _ _ h1) ⟨⟨rfl, rfl, rfl, _, (qw (hl) h), rfl⟩, rfl, trivial⟩ rfl ?_
     refine xs rfl (lsr (qb (hl))).symm (xs rfl (Int.natCast_nonneg _) (q9 rfl _ (ze (qw (hl) h)) (xs rfl rfl (xs rfl (lsr (qb (hl))).symm (q9 rfl _ (ze (qw (hl) h)) ?_)))))
     refine y0n rfl (z2f 0 _ _ h2) ⟨⟨rfl, rfl, rfl, _, (ze (qw (hl) h)), rfl⟩, rfl, trivial⟩ rfl ?_
     refine xs rfl (lsr (lsr (qb (hl)))).symm (xs rfl (Int.natCast_nonneg _) (q9 rfl _ (ze (ze (qw (hl) h))) (xs rfl rfl (xs rfl (lsr (lsr (qb (hl)))).symm (q9 rfl _ (ze (ze (qw (hl) h))) ?_)))))
     refine y0n rfl (z11 0 _ _ h3) ⟨⟨rfl, rfl, rfl, _, (ze (ze (qw (hl) h))), rfl⟩, rfl, trivial⟩ rfl ?_
     refine xs rfl (lsr (lsr (lsr (qb (hl))))).symm (xs rfl (Int.natCast_nonneg _) (q9 rfl _ (ze (ze (ze (qw (hl) h)))) (xs rfl rfl (xs rfl (lsr (lsr (lsr (qb (hl))))).symm (q9 rfl _ (ze (ze (ze (qw (hl) h)))) ?_)))))
     refine y0n rfl (z2f 0 _ _ h4) ⟨⟨rfl, rfl, rfl, _, (ze (ze (ze (qw (hl) h)))), rfl⟩, rfl, trivial⟩ rfl ?_
     refine xs rfl (lsr (lsr (lsr (lsr (qb (hl)))))).symm (xs rfl (Int.natCast_nonneg _) (q9 rfl _ (ze (ze (ze (ze (qw (hl) h))))) (xs rfl rfl (xs rfl (lsr (lsr (lsr (lsr (qb (hl)))))).symm (q9 rfl _ (ze (ze (ze (ze (qw (hl) h))))) ?_)))))
     refine y0n rfl (z1v 0 _ _ h5) ⟨⟨rfl, rfl, rfl, _, (ze (ze (ze (ze (qw (hl) h))))), rfl⟩, rfl, trivial⟩ rfl ?_
     refine qa rfl (hJ _ (i + 1) (by omega) (by omega) ?_)
     refine ⟨⟨cwi (by omega) (by omega) (by omega), ?_, ⟨rfl, rfl, rfl⟩, trivial⟩, ⟨⟨?_, .inl rfl, .inl rfl⟩, trivial⟩, rfl⟩
     · rw [q00 hg]; rfl
     · refine Eq.trans ?_ (z0r hg)
       try simp only [Int.toNat_natCast, qr hg0, ssr hlt, List.set_set]
       rfl
   · have h : ¬ i < rr.length := by simpa using h
     have : i = rr.length := by omega
     subst this
     exact xr rfl (z1c rfl ⟨⟨rfl, congrArg (Value.int .i64) q09, trivial⟩, z6 rfl⟩ ⟨⟨rfl, rfl, z0q, zq _ _ _, qq hw⟩, trivial⟩)
theorem y2f (z : Nat) (rr : List (List Cell)) (k : Int) (hw : WR 9000000000000000000 ym rr) : PG Tryz.prog 226 [.one (.giv true z rr), .one (.bor (i64 k))] (rI (mkR (mk ym) rr k).2) [(0, (mkR (mk ym) rr k).1)] := by
 refine PG.begin Tryz.func226 rfl (by kernel_rfl) ?_
 have hlen := hw.1
 refine qc rfl (ι := Nat) (fun i => i ≤ rr.length) (fun i => ⟨[(5, sV (.int .i64 i)), (1, sV (.int .i64 (mdk (mk ym) rr k i))), (0, .one (.h 1000000000 rr.length))], [(1000000000, .arr true z 0 (md (mk ym) rr k i))]⟩) (fun i => rr.length - i) 0 (Nat.zero_le _) ?_ ?_
 · exact ⟨⟨rfl, congrArg (fun n => Cell.s (.int .i64 n)) z01.symm, ⟨rfl, rfl, rfl⟩, trivial⟩, ⟨⟨y09.symm, .inl rfl, .inl rfl⟩, trivial⟩, rfl⟩
 · intro i hi J hJ
   refine xb rfl (fun h => ?_) (fun h => ?_)
   · have h : i < rr.length := by simpa using h
     obtain ⟨row, hg⟩ : ∃ row, rr[i]? = some row := ⟨_, List.getElem?_eq_getElem h⟩
     obtain ⟨x0, x1, rfl⟩ := y1e (hw.2 row (List.mem_of_getElem? hg))
     have hl := q0q (f := (mk ym)) (k := k) hi
     have hg0 := y0q (f := (mk ym)) (k := k) hg
     have hlt : i < (md (mk ym) rr k i).length := by omega
     refine xs rfl (hl).symm (xs rfl (Int.natCast_nonneg _) (q9 rfl _ hg0 (xs rfl rfl (xs rfl (hl).symm (q9 rfl _ hg0 (xs rfl (by show 0 + 1 ≤ 2; omega) (xs rfl ⟨trivial, trivial⟩ ?_)))))))
     refine xs rfl (qb (hl)).symm (xs rfl (Int.natCast_nonneg _) (q9 rfl _ (qw (hl) h) (xs rfl rfl (xs rfl (qb (hl)).symm (q9 rfl _ (qw (hl) h) (xs rfl (by show 1 + 1 ≤ 2; omega) (xs rfl ⟨trivial, trivial⟩ ?_)))))))
     refine qa rfl (hJ _ (i + 1) (by omega) (by omega) ?_)
     refine ⟨⟨cwi (by omega) (by omega) (by omega), ?_, ⟨rfl, rfl, rfl⟩, trivial⟩, ⟨⟨?_, .inl rfl, .inl rfl⟩, trivial⟩, rfl⟩
     · rw [q00 hg]; rfl
     · refine Eq.trans ?_ (z0r hg)
       try simp only [Int.toNat_natCast, qr hg0, ssr hlt, List.set_set]
       rfl
   · have h : ¬ i < rr.length := by simpa using h
     have : i = rr.length := by omega
     subst this
     exact xr rfl (z1c rfl ⟨⟨rfl, congrArg (Value.int .i64) q09, trivial⟩, z6 rfl⟩ ⟨⟨rfl, rfl, z0q, zq _ _ _, qq hw⟩, trivial⟩)
theorem q4l (z : Nat) (rr : List (List Cell)) (k : Int) (hw : WR 9000000000000000000 zl rr) : PG Tryz.prog 158 [.one (.giv true z rr), .one (.bor (i64 k))] (rI (mkR (mk zl) rr k).2) [(0, (mkR (mk zl) rr k).1)] := by
 refine PG.begin Tryz.func158 rfl (by kernel_rfl) ?_
 have hlen := hw.1
 refine qc rfl (ι := Nat) (fun i => i ≤ rr.length) (fun i => ⟨[(5, sV (.int .i64 i)), (1, sV (.int .i64 (mdk (mk zl) rr k i))), (0, .one (.h 1000000000 rr.length))], [(1000000000, .arr true z 0 (md (mk zl) rr k i))]⟩) (fun i => rr.length - i) 0 (Nat.zero_le _) ?_ ?_
 · exact ⟨⟨rfl, congrArg (fun n => Cell.s (.int .i64 n)) z01.symm, ⟨rfl, rfl, rfl⟩, trivial⟩, ⟨⟨y09.symm, .inl rfl, .inl rfl⟩, trivial⟩, rfl⟩
 · intro i hi J hJ
   refine xb rfl (fun h => ?_) (fun h => ?_)
   · have h : i < rr.length := by simpa using h
     obtain ⟨row, hg⟩ : ∃ row, rr[i]? = some row := ⟨_, List.getElem?_eq_getElem h⟩
     obtain ⟨x0, x1, x2, x3, x4, x5, rfl, h5⟩ := z1e (hw.2 row (List.mem_of_getElem? hg))
     have hl := q0q (f := (mk zl)) (k := k) hi
     have hg0 := y0q (f := (mk zl)) (k := k) hg
     have hlt : i < (md (mk zl) rr k i).length := by omega
     refine xs rfl (hl).symm (xs rfl (Int.natCast_nonneg _) (q9 rfl _ hg0 (xs rfl rfl (xs rfl (hl).symm (q9 rfl _ hg0 (xs rfl (by show 0 + 1 ≤ 6; omega) (xs rfl ⟨trivial, trivial⟩ ?_)))))))
     refine xs rfl (qb (hl)).symm (xs rfl (Int.natCast_nonneg _) (q9 rfl _ (qw (hl) h) (xs rfl rfl (xs rfl (qb (hl)).symm (q9 rfl _ (qw (hl) h) (xs rfl (by show 1 + 1 ≤ 6; omega) (xs rfl ⟨trivial, trivial⟩ ?_)))))))
     refine xs rfl (qb (qb (hl))).symm (xs rfl (Int.natCast_nonneg _) (q9 rfl _ (qw (qb (hl)) h) (xs rfl rfl (xs rfl (qb (qb (hl))).symm (q9 rfl _ (qw (qb (hl)) h) (xs rfl (by show 2 + 1 ≤ 6; omega) (xs rfl ⟨trivial, trivial⟩ ?_)))))))
     refine xs rfl (qb (qb (qb (hl)))).symm (xs rfl (Int.natCast_nonneg _) (q9 rfl _ (qw (qb (qb (hl))) h) (xs rfl rfl (xs rfl (qb (qb (qb (hl)))).symm (q9 rfl _ (qw (qb (qb (hl))) h) (xs rfl (by show 3 + 1 ≤ 6; omega) (xs rfl ⟨trivial, trivial⟩ ?_)))))))
     refine xs rfl (qb (qb (qb (qb (hl))))).symm (xs rfl (Int.natCast_nonneg _) (q9 rfl _ (qw (qb (qb (qb (hl)))) h) (xs rfl rfl (xs rfl (qb (qb (qb (qb (hl))))).symm (q9 rfl _ (qw (qb (qb (qb (hl)))) h) (xs rfl (by show 4 + 1 ≤ 6; omega) (xs rfl ⟨trivial, trivial⟩ ?_)))))))
     refine xs rfl (qb (qb (qb (qb (qb (hl)))))).symm (xs rfl (Int.natCast_nonneg _) (q9 rfl _ (qw (qb (qb (qb (qb (hl))))) h) (xs rfl rfl (xs rfl (qb (qb (qb (qb (qb (hl)))))).symm (q9 rfl _ (qw (qb (qb (qb (qb (hl))))) h) ?_)))))
     refine y0n rfl (y2f 0 _ _ h5) ⟨⟨rfl, rfl, rfl, _, (qw (qb (qb (qb (qb (hl))))) h), rfl⟩, rfl, trivial⟩ rfl ?_
     refine qa rfl (hJ _ (i + 1) (by omega) (by omega) ?_)
     refine ⟨⟨cwi (by omega) (by omega) (by omega), ?_, ⟨rfl, rfl, rfl⟩, trivial⟩, ⟨⟨?_, .inl rfl, .inl rfl⟩, trivial⟩, rfl⟩
     · rw [q00 hg]; rfl
     · refine Eq.trans ?_ (z0r hg)
       try simp only [Int.toNat_natCast, qr hg0, ssr hlt, List.set_set]
       rfl
   · have h : ¬ i < rr.length := by simpa using h
     have : i = rr.length := by omega
     subst this
     exact xr rfl (z1c rfl ⟨⟨rfl, congrArg (Value.int .i64) q09, trivial⟩, z6 rfl⟩ ⟨⟨rfl, rfl, z0q, zq _ _ _, qq hw⟩, trivial⟩)
theorem y2j (z : Nat) (rr : List (List Cell)) (k : Int) (hw : WR 9000000000000000000 ya rr) : PG Tryz.prog 93 [.one (.giv true z rr), .one (.bor (i64 k))] (rI (mkR (mk ya) rr k).2) [(0, (mkR (mk ya) rr k).1)] := by
 refine PG.begin Tryz.func93 rfl (by kernel_rfl) ?_
 have hlen := hw.1
 refine qc rfl (ι := Nat) (fun i => i ≤ rr.length) (fun i => ⟨[(5, sV (.int .i64 i)), (1, sV (.int .i64 (mdk (mk ya) rr k i))), (0, .one (.h 1000000000 rr.length))], [(1000000000, .arr true z 0 (md (mk ya) rr k i))]⟩) (fun i => rr.length - i) 0 (Nat.zero_le _) ?_ ?_
 · exact ⟨⟨rfl, congrArg (fun n => Cell.s (.int .i64 n)) z01.symm, ⟨rfl, rfl, rfl⟩, trivial⟩, ⟨⟨y09.symm, .inl rfl, .inl rfl⟩, trivial⟩, rfl⟩
 · intro i hi J hJ
   refine xb rfl (fun h => ?_) (fun h => ?_)
   · have h : i < rr.length := by simpa using h
     obtain ⟨row, hg⟩ : ∃ row, rr[i]? = some row := ⟨_, List.getElem?_eq_getElem h⟩
     obtain ⟨x0, rfl, h0⟩ := q06 (hw.2 row (List.mem_of_getElem? hg))
     have hl := q0q (f := (mk ya)) (k := k) hi
     have hg0 := y0q (f := (mk ya)) (k := k) hg
     have hlt : i < (md (mk ya) rr k i).length := by omega
     refine xs rfl (hl).symm (xs rfl (Int.natCast_nonneg _) (q9 rfl _ hg0 (xs rfl rfl (xs rfl (hl).symm (q9 rfl _ hg0 ?_)))))
     refine y0n rfl (q4l 0 _ _ h0) ⟨⟨rfl, rfl, rfl, _, hg0, rfl⟩, rfl, trivial⟩ rfl ?_
     refine qa rfl (hJ _ (i + 1) (by omega) (by omega) ?_)
     refine ⟨⟨cwi (by omega) (by omega) (by omega), ?_, ⟨rfl, rfl, rfl⟩, trivial⟩, ⟨⟨?_, .inl rfl, .inl rfl⟩, trivial⟩, rfl⟩
     · rw [q00 hg]; rfl
     · refine Eq.trans ?_ (z0r hg)
       try simp only [Int.toNat_natCast, qr hg0, ssr hlt, List.set_set]
       rfl
   · have h : ¬ i < rr.length := by simpa using h
     have : i = rr.length := by omega
     subst this
     exact xr rfl (z1c rfl ⟨⟨rfl, congrArg (Value.int .i64) q09, trivial⟩, z6 rfl⟩ ⟨⟨rfl, rfl, z0q, zq _ _ _, qq hw⟩, trivial⟩)
theorem y57 (z : Nat) (rr : List (List Cell)) (k : Int) (hw : WR 9000000000000000000 yp rr) : PG Tryz.prog 159 [.one (.giv true z rr), .one (.bor (i64 k))] (rI (mkR (mk yp) rr k).2) [(0, (mkR (mk yp) rr k).1)] := by
 refine PG.begin Tryz.func159 rfl (by kernel_rfl) ?_
 have hlen := hw.1
 refine qc rfl (ι := Nat) (fun i => i ≤ rr.length) (fun i => ⟨[(5, sV (.int .i64 i)), (1, sV (.int .i64 (mdk (mk yp) rr k i))), (0, .one (.h 1000000000 rr.length))], [(1000000000, .arr true z 0 (md (mk yp) rr k i))]⟩) (fun i => rr.length - i) 0 (Nat.zero_le _) ?_ ?_
 · exact ⟨⟨rfl, congrArg (fun n => Cell.s (.int .i64 n)) z01.symm, ⟨rfl, rfl, rfl⟩, trivial⟩, ⟨⟨y09.symm, .inl rfl, .inl rfl⟩, trivial⟩, rfl⟩
 · intro i hi J hJ
   refine xb rfl (fun h => ?_) (fun h => ?_)
   · have h : i < rr.length := by simpa using h
     obtain ⟨row, hg⟩ : ∃ row, rr[i]? = some row := ⟨_, List.getElem?_eq_getElem h⟩
     obtain ⟨x0, x1, x2, x3, x4, x5, rfl, h4, h5⟩ := y26 (hw.2 row (List.mem_of_getElem? hg))
     have hl := q0q (f := (mk yp)) (k := k) hi
     have hg0 := y0q (f := (mk yp)) (k := k) hg
     have hlt : i < (md (mk yp) rr k i).length := by omega
     refine xs rfl (hl).symm (xs rfl (Int.natCast_nonneg _) (q9 rfl _ hg0 (xs rfl rfl (xs rfl (hl).symm (q9 rfl _ hg0 (xs rfl (by show 0 + 1 ≤ 6; omega) (xs rfl ⟨trivial, trivial⟩ ?_)))))))
     refine xs rfl (qb (hl)).symm (xs rfl (Int.natCast_nonneg _) (q9 rfl _ (qw (hl) h) (xs rfl rfl (xs rfl (qb (hl)).symm (q9 rfl _ (qw (hl) h) (xs rfl (by show 1 + 1 ≤ 6; omega) (xs rfl ⟨trivial, trivial⟩ ?_)))))))
     refine xs rfl (qb (qb (hl))).symm (xs rfl (Int.natCast_nonneg _) (q9 rfl _ (qw (qb (hl)) h) (xs rfl rfl (xs rfl (qb (qb (hl))).symm (q9 rfl _ (qw (qb (hl)) h) (xs rfl (by show 2 + 1 ≤ 6; omega) (xs rfl ⟨trivial, trivial⟩ ?_)))))))
     refine xs rfl (qb (qb (qb (hl)))).symm (xs rfl (Int.natCast_nonneg _) (q9 rfl _ (qw (qb (qb (hl))) h) (xs rfl rfl (xs rfl (qb (qb (qb (hl)))).symm (q9 rfl _ (qw (qb (qb (hl))) h) (xs rfl (by show 3 + 1 ≤ 6; omega) (xs rfl ⟨trivial, trivial⟩ ?_)))))))
     refine xs rfl (qb (qb (qb (qb (hl))))).symm (xs rfl (Int.natCast_nonneg _) (q9 rfl _ (qw (qb (qb (qb (hl)))) h) (xs rfl rfl (xs rfl (qb (qb (qb (qb (hl))))).symm (q9 rfl _ (qw (qb (qb (qb (hl)))) h) ?_)))))
     refine y0n rfl (z1v 0 _ _ h4) ⟨⟨rfl, rfl, rfl, _, (qw (qb (qb (qb (hl)))) h), rfl⟩, rfl, trivial⟩ rfl ?_
     refine xs rfl (lsr (qb (qb (qb (qb (hl)))))).symm (xs rfl (Int.natCast_nonneg _) (q9 rfl _ (ze (qw (qb (qb (qb (hl)))) h)) (xs rfl rfl (xs rfl (lsr (qb (qb (qb (qb (hl)))))).symm (q9 rfl _ (ze (qw (qb (qb (qb (hl)))) h)) ?_)))))
     refine y0n rfl (y2f 0 _ _ h5) ⟨⟨rfl, rfl, rfl, _, (ze (qw (qb (qb (qb (hl)))) h)), rfl⟩, rfl, trivial⟩ rfl ?_
     refine qa rfl (hJ _ (i + 1) (by omega) (by omega) ?_)
     refine ⟨⟨cwi (by omega) (by omega) (by omega), ?_, ⟨rfl, rfl, rfl⟩, trivial⟩, ⟨⟨?_, .inl rfl, .inl rfl⟩, trivial⟩, rfl⟩
     · rw [q00 hg]; rfl
     · refine Eq.trans ?_ (z0r hg)
       try simp only [Int.toNat_natCast, qr hg0, ssr hlt, List.set_set]
       rfl
   · have h : ¬ i < rr.length := by simpa using h
     have : i = rr.length := by omega
     subst this
     exact xr rfl (z1c rfl ⟨⟨rfl, congrArg (Value.int .i64) q09, trivial⟩, z6 rfl⟩ ⟨⟨rfl, rfl, z0q, zq _ _ _, qq hw⟩, trivial⟩)
theorem y3z (z : Nat) (rr : List (List Cell)) (k : Int) (hw : WR 9000000000000000000 yn rr) : PG Tryz.prog 160 [.one (.giv true z rr), .one (.bor (i64 k))] (rI (mkR (mk yn) rr k).2) [(0, (mkR (mk yn) rr k).1)] := by
 refine PG.begin Tryz.func160 rfl (by kernel_rfl) ?_
 have hlen := hw.1
 refine qc rfl (ι := Nat) (fun i => i ≤ rr.length) (fun i => ⟨[(5, sV (.int .i64 i)), (1, sV (.int .i64 (mdk (mk yn) rr k i))), (0, .one (.h 1000000000 rr.length))], [(1000000000, .arr true z 0 (md (mk yn) rr k i))]⟩) (fun i => rr.length - i) 0 (Nat.zero_le _) ?_ ?_
 · exact ⟨⟨rfl, congrArg (fun n => Cell.s (.int .i64 n)) z01.symm, ⟨rfl, rfl, rfl⟩, trivial⟩, ⟨⟨y09.symm, .inl rfl, .inl rfl⟩, trivial⟩, rfl⟩
 · intro i hi J hJ
   refine xb rfl (fun h => ?_) (fun h => ?_)
   · have h : i < rr.length := by simpa using h
     obtain ⟨row, hg⟩ : ∃ row, rr[i]? = some row := ⟨_, List.getElem?_eq_getElem h⟩
     obtain ⟨x0, x1, x2, x3, x4, rfl⟩ := y0v (hw.2 row (List.mem_of_getElem? hg))
     have hl := q0q (f := (mk yn)) (k := k) hi
     have hg0 := y0q (f := (mk yn)) (k := k) hg
     have hlt : i < (md (mk yn) rr k i).length := by omega
     refine xs rfl (hl).symm (xs rfl (Int.natCast_nonneg _) (q9 rfl _ hg0 (xs rfl rfl (xs rfl (hl).symm (q9 rfl _ hg0 (xs rfl (by show 0 + 1 ≤ 5; omega) (xs rfl ⟨trivial, trivial⟩ ?_)))))))
     refine xs rfl (qb (hl)).symm (xs rfl (Int.natCast_nonneg _) (q9 rfl _ (qw (hl) h) (xs rfl rfl (xs rfl (qb (hl)).symm (q9 rfl _ (qw (hl) h) (xs rfl (by show 1 + 1 ≤ 5; omega) (xs rfl ⟨trivial, trivial⟩ ?_)))))))
     refine xs rfl (qb (qb (hl))).symm (xs rfl (Int.natCast_nonneg _) (q9 rfl _ (qw (qb (hl)) h) (xs rfl rfl (xs rfl (qb (qb (hl))).symm (q9 rfl _ (qw (qb (hl)) h) (xs rfl (by show 2 + 1 ≤ 5; omega) (xs rfl ⟨trivial, trivial⟩ ?_)))))))
     refine xs rfl (qb (qb (qb (hl)))).symm (xs rfl (Int.natCast_nonneg _) (q9 rfl _ (qw (qb (qb (hl))) h) (xs rfl rfl (xs rfl (qb (qb (qb (hl)))).symm (q9 rfl _ (qw (qb (qb (hl))) h) (xs rfl (by show 3 + 1 ≤ 5; omega) (xs rfl ⟨trivial, trivial⟩ ?_)))))))
     refine xs rfl (qb (qb (qb (qb (hl))))).symm (xs rfl (Int.natCast_nonneg _) (q9 rfl _ (qw (qb (qb (qb (hl)))) h) (xs rfl rfl (xs rfl (qb (qb (qb (qb (hl))))).symm (q9 rfl _ (qw (qb (qb (qb (hl)))) h) (xs rfl (by show 4 + 1 ≤ 5; omega) (xs rfl ⟨trivial, trivial⟩ ?_)))))))
     refine qa rfl (hJ _ (i + 1) (by omega) (by omega) ?_)
     refine ⟨⟨cwi (by omega) (by omega) (by omega), ?_, ⟨rfl, rfl, rfl⟩, trivial⟩, ⟨⟨?_, .inl rfl, .inl rfl⟩, trivial⟩, rfl⟩
     · rw [q00 hg]; rfl
     · refine Eq.trans ?_ (z0r hg)
       try simp only [Int.toNat_natCast, qr hg0, ssr hlt, List.set_set]
       rfl
   · have h : ¬ i < rr.length := by simpa using h
     have : i = rr.length := by omega
     subst this
     exact xr rfl (z1c rfl ⟨⟨rfl, congrArg (Value.int .i64) q09, trivial⟩, z6 rfl⟩ ⟨⟨rfl, rfl, z0q, zq _ _ _, qq hw⟩, trivial⟩)
theorem q3c (z : Nat) (rr : List (List Cell)) (k : Int) (hw : WR 9000000000000000000 qd rr) : PG Tryz.prog 94 [.one (.giv true z rr), .one (.bor (i64 k))] (rI (mkR (mk qd) rr k).2) [(0, (mkR (mk qd) rr k).1)] := by
 refine PG.begin Tryz.func94 rfl (by kernel_rfl) ?_
 have hlen := hw.1
 refine qc rfl (ι := Nat) (fun i => i ≤ rr.length) (fun i => ⟨[(5, sV (.int .i64 i)), (1, sV (.int .i64 (mdk (mk qd) rr k i))), (0, .one (.h 1000000000 rr.length))], [(1000000000, .arr true z 0 (md (mk qd) rr k i))]⟩) (fun i => rr.length - i) 0 (Nat.zero_le _) ?_ ?_
 · exact ⟨⟨rfl, congrArg (fun n => Cell.s (.int .i64 n)) z01.symm, ⟨rfl, rfl, rfl⟩, trivial⟩, ⟨⟨y09.symm, .inl rfl, .inl rfl⟩, trivial⟩, rfl⟩
 · intro i hi J hJ
   refine xb rfl (fun h => ?_) (fun h => ?_)
   · have h : i < rr.length := by simpa using h
     obtain ⟨row, hg⟩ : ∃ row, rr[i]? = some row := ⟨_, List.getElem?_eq_getElem h⟩
     obtain ⟨x0, x1, x2, rfl, h1, h2⟩ := z0j (hw.2 row (List.mem_of_getElem? hg))
     have hl := q0q (f := (mk qd)) (k := k) hi
     have hg0 := y0q (f := (mk qd)) (k := k) hg
     have hlt : i < (md (mk qd) rr k i).length := by omega
     refine xs rfl (hl).symm (xs rfl (Int.natCast_nonneg _) (q9 rfl _ hg0 (xs rfl rfl (xs rfl (hl).symm (q9 rfl _ hg0 (xs rfl (by show 0 + 1 ≤ 3; omega) (xs rfl ⟨trivial, trivial⟩ ?_)))))))
     refine xs rfl (qb (hl)).symm (xs rfl (Int.natCast_nonneg _) (q9 rfl _ (qw (hl) h) (xs rfl rfl (xs rfl (qb (hl)).symm (q9 rfl _ (qw (hl) h) ?_)))))
     refine y0n rfl (y57 0 _ _ h1) ⟨⟨rfl, rfl, rfl, _, (qw (hl) h), rfl⟩, rfl, trivial⟩ rfl ?_
     refine xs rfl (lsr (qb (hl))).symm (xs rfl (Int.natCast_nonneg _) (q9 rfl _ (ze (qw (hl) h)) (xs rfl rfl (xs rfl (lsr (qb (hl))).symm (q9 rfl _ (ze (qw (hl) h)) ?_)))))
     refine y0n rfl (y3z 0 _ _ h2) ⟨⟨rfl, rfl, rfl, _, (ze (qw (hl) h)), rfl⟩, rfl, trivial⟩ rfl ?_
     refine qa rfl (hJ _ (i + 1) (by omega) (by omega) ?_)
     refine ⟨⟨cwi (by omega) (by omega) (by omega), ?_, ⟨rfl, rfl, rfl⟩, trivial⟩, ⟨⟨?_, .inl rfl, .inl rfl⟩, trivial⟩, rfl⟩
     · rw [q00 hg]; rfl
     · refine Eq.trans ?_ (z0r hg)
       try simp only [Int.toNat_natCast, qr hg0, ssr hlt, List.set_set]
       rfl
   · have h : ¬ i < rr.length := by simpa using h
     have : i = rr.length := by omega
     subst this
     exact xr rfl (z1c rfl ⟨⟨rfl, congrArg (Value.int .i64) q09, trivial⟩, z6 rfl⟩ ⟨⟨rfl, rfl, z0q, zq _ _ _, qq hw⟩, trivial⟩)
theorem z2y (z : Nat) (rr : List (List Cell)) (k : Int) (hw : WR 9000000000000000000 zg rr) : PG Tryz.prog 95 [.one (.giv true z rr), .one (.bor (i64 k))] (rI (mkR (mk zg) rr k).2) [(0, (mkR (mk zg) rr k).1)] := by
 refine PG.begin Tryz.func95 rfl (by kernel_rfl) ?_
 have hlen := hw.1
 refine qc rfl (ι := Nat) (fun i => i ≤ rr.length) (fun i => ⟨[(5, sV (.int .i64 i)), (1, sV (.int .i64 (mdk (mk zg) rr k i))), (0, .one (.h 1000000000 rr.length))], [(1000000000, .arr true z 0 (md (mk zg) rr k i))]⟩) (fun i => rr.length - i) 0 (Nat.zero_le _) ?_ ?_
 · exact ⟨⟨rfl, congrArg (fun n => Cell.s (.int .i64 n)) z01.symm, ⟨rfl, rfl, rfl⟩, trivial⟩, ⟨⟨y09.symm, .inl rfl, .inl rfl⟩, trivial⟩, rfl⟩
 · intro i hi J hJ
   refine xb rfl (fun h => ?_) (fun h => ?_)
   · have h : i < rr.length := by simpa using h
     obtain ⟨row, hg⟩ : ∃ row, rr[i]? = some row := ⟨_, List.getElem?_eq_getElem h⟩
     obtain ⟨x0, x1, x2, x3, x4, x5, x6, x7, x8, rfl⟩ := q0b (hw.2 row (List.mem_of_getElem? hg))
     have hl := q0q (f := (mk zg)) (k := k) hi
     have hg0 := y0q (f := (mk zg)) (k := k) hg
     have hlt : i < (md (mk zg) rr k i).length := by omega
     refine xs rfl (hl).symm (xs rfl (Int.natCast_nonneg _) (q9 rfl _ hg0 (xs rfl rfl (xs rfl (hl).symm (q9 rfl _ hg0 (xs rfl (by show 0 + 1 ≤ 9; omega) (xs rfl ⟨trivial, trivial⟩ ?_)))))))
     refine xs rfl (qb (hl)).symm (xs rfl (Int.natCast_nonneg _) (q9 rfl _ (qw (hl) h) (xs rfl rfl (xs rfl (qb (hl)).symm (q9 rfl _ (qw (hl) h) (xs rfl (by show 1 + 1 ≤ 9; omega) (xs rfl ⟨trivial, trivial⟩ ?_)))))))
     refine xs rfl (qb (qb (hl))).symm (xs rfl (Int.natCast_nonneg _) (q9 rfl _ (qw (qb (hl)) h) (xs rfl rfl (xs rfl (qb (qb (hl))).symm (q9 rfl _ (qw (qb (hl)) h) (xs rfl (by show 2 + 1 ≤ 9; omega) (xs rfl ⟨trivial, trivial⟩ ?_)))))))
     refine xs rfl (qb (qb (qb (hl)))).symm (xs rfl (Int.natCast_nonneg _) (q9 rfl _ (qw (qb (qb (hl))) h) (xs rfl rfl (xs rfl (qb (qb (qb (hl)))).symm (q9 rfl _ (qw (qb (qb (hl))) h) (xs rfl (by show 3 + 1 ≤ 9; omega) (xs rfl ⟨trivial, trivial⟩ ?_)))))))
     refine xs rfl (qb (qb (qb (qb (hl))))).symm (xs rfl (Int.natCast_nonneg _) (q9 rfl _ (qw (qb (qb (qb (hl)))) h) (xs rfl rfl (xs rfl (qb (qb (qb (qb (hl))))).symm (q9 rfl _ (qw (qb (qb (qb (hl)))) h) (xs rfl (by show 4 + 1 ≤ 9; omega) (xs rfl ⟨trivial, trivial⟩ ?_)))))))
     refine xs rfl (qb (qb (qb (qb (qb (hl)))))).symm (xs rfl (Int.natCast_nonneg _) (q9 rfl _ (qw (qb (qb (qb (qb (hl))))) h) (xs rfl rfl (xs rfl (qb (qb (qb (qb (qb (hl)))))).symm (q9 rfl _ (qw (qb (qb (qb (qb (hl))))) h) (xs rfl (by show 5 + 1 ≤ 9; omega) (xs rfl ⟨trivial, trivial⟩ ?_)))))))
     refine xs rfl (qb (qb (qb (qb (qb (qb (hl))))))).symm (xs rfl (Int.natCast_nonneg _) (q9 rfl _ (qw (qb (qb (qb (qb (qb (hl)))))) h) (xs rfl rfl (xs rfl (qb (qb (qb (qb (qb (qb (hl))))))).symm (q9 rfl _ (qw (qb (qb (qb (qb (qb (hl)))))) h) (xs rfl (by show 6 + 1 ≤ 9; omega) (xs rfl ⟨trivial, trivial⟩ ?_)))))))
     refine xs rfl (qb (qb (qb (qb (qb (qb (qb (hl)))))))).symm (xs rfl (Int.natCast_nonneg _) (q9 rfl _ (qw (qb (qb (qb (qb (qb (qb (hl))))))) h) (xs rfl rfl (xs rfl (qb (qb (qb (qb (qb (qb (qb (hl)))))))).symm (q9 rfl _ (qw (qb (qb (qb (qb (qb (qb (hl))))))) h) (xs rfl (by show 7 + 1 ≤ 9; omega) (xs rfl ⟨trivial, trivial⟩ ?_)))))))
     refine xs rfl (qb (qb (qb (qb (qb (qb (qb (qb (hl))))))))).symm (xs rfl (Int.natCast_nonneg _) (q9 rfl _ (qw (qb (qb (qb (qb (qb (qb (qb (hl)))))))) h) (xs rfl rfl (xs rfl (qb (qb (qb (qb (qb (qb (qb (qb (hl))))))))).symm (q9 rfl _ (qw (qb (qb (qb (qb (qb (qb (qb (hl)))))))) h) (xs rfl (by show 8 + 1 ≤ 9; omega) (xs rfl ⟨trivial, trivial⟩ ?_)))))))
     refine qa rfl (hJ _ (i + 1) (by omega) (by omega) ?_)
     refine ⟨⟨cwi (by omega) (by omega) (by omega), ?_, ⟨rfl, rfl, rfl⟩, trivial⟩, ⟨⟨?_, .inl rfl, .inl rfl⟩, trivial⟩, rfl⟩
     · rw [q00 hg]; rfl
     · refine Eq.trans ?_ (z0r hg)
       try simp only [Int.toNat_natCast, qr hg0, ssr hlt, List.set_set]
       rfl
   · have h : ¬ i < rr.length := by simpa using h
     have : i = rr.length := by omega
     subst this
     exact xr rfl (z1c rfl ⟨⟨rfl, congrArg (Value.int .i64) q09, trivial⟩, z6 rfl⟩ ⟨⟨rfl, rfl, z0q, zq _ _ _, qq hw⟩, trivial⟩)
theorem y3c (z0 z1 z2 z3 z4 : Nat) (x0 : List (List Cell)) (x1 : List (List Cell)) (x2 : List (List Cell)) (x3 : List (List Cell)) (x4 : List (List Cell)) (k : Int) (k0 : Int) (k1 : Int) (k2 : Int) (k3 : Int) (k4 : Int) (h0 : WR 9000000000000000000 q8 x0) (h1 : WR 9000000000000000000 qe x1) (h2 : WR 9000000000000000000 ya x2) (h3 : WR 9000000000000000000 qd x3) (h4 : WR 9000000000000000000 zg x4) (e0 : (mkR (mk q8) x0 k).2 = k0) (e1 : (mkR (mk qe) x1 k0).2 = k1) (e2 : (mkR (mk ya) x2 k1).2 = k2) (e3 : (mkR (mk qd) x3 k2).2 = k3) (e4 : (mkR (mk zg) x4 k3).2 = k4) : PG Tryz.prog 30 [.agg [.giv true z0 x0, .giv true z1 x1, .giv true z2 x2, .giv true z3 x3, .giv true z4 x4], .one (.bor (i64 k))] (rI k4) [(0, (mkR (mk q8) x0 k).1), (1, (mkR (mk qe) x1 k0).1), (2, (mkR (mk ya) x2 k1).1), (3, (mkR (mk qd) x3 k2).1), (4, (mkR (mk zg) x4 k3).1)] := by
 refine PG.begin Tryz.func30 rfl (by kernel_rfl) ?_
 refine y0n rfl (z11 z0 x0 k h0) ⟨⟨rfl, rfl, rfl, rfl⟩, rfl, trivial⟩ rfl ?_
 rw [e0]
 refine y0n rfl (y40 z1 x1 k0 h1) ⟨⟨rfl, rfl, rfl, rfl⟩, rfl, trivial⟩ rfl ?_
 rw [e1]
 refine y0n rfl (y2j z2 x2 k1 h2) ⟨⟨rfl, rfl, rfl, rfl⟩, rfl, trivial⟩ rfl ?_
 rw [e2]
 refine y0n rfl (q3c z3 x3 k2 h3) ⟨⟨rfl, rfl, rfl, rfl⟩, rfl, trivial⟩ rfl ?_
 rw [e3]
 refine y0n rfl (z2y z4 x4 k3 h4) ⟨⟨rfl, rfl, rfl, rfl⟩, rfl, trivial⟩ rfl ?_
 rw [e4]
 exact xr rfl (z1c rfl ⟨⟨rfl, rfl, trivial⟩, z6 rfl⟩ ⟨⟨rfl, rfl, rfl, zq _ _ _, qq h0⟩, ⟨rfl, rfl, rfl, zq _ _ _, qq h1⟩, ⟨rfl, rfl, rfl, zq _ _ _, qq h2⟩, ⟨rfl, rfl, rfl, zq _ _ _, qq h3⟩, ⟨rfl, rfl, rfl, zq _ _ _, qq h4⟩, trivial⟩)
end Go.Proofs.YthljegacamgnnaaGreat
end
section
namespace Go.Sx
theorem z7y {N : Nat} {e : Sh} {rows : List (List Cell)} (hw : WR N e rows) : zz (cnt e) rows ≤ wid e * rows.length + z42 e * zz (tot e) rows :=
 q21 fun row hr => q8f (hw.2 row hr)
theorem y7y {N : Nat} {e : Sh} {rows : List (List Cell)} (hw : WR N e rows) (hs : zz (cnt e) rows ≤ 1000000000000000000) :
 0 ≤ (mkR (mk e) rows 1).2 ∧ ∀ (k0 : IntKind) (c : Cell), ng (ht (.i k0 (.l e .nil)) [c, .l (mkR (mk e) rows 1).1] 1) = (mkR (mk e) rows 1).2 := by
 obtain ⟨h1, h2⟩ := y41 (f := mk e) (g := hd e) (c := cnt e) (rows := rows) (fun row hr k h1 h2 => z73 (hw.2 row hr) k h1 h2) 1 (by omega) (by omega)
 refine ⟨by omega, fun k0 c => ?_⟩
 simp only [ht, h1, h2]
 have : ng (some (1 + (zz (cnt e) rows : Int))) = 1 + zz (cnt e) rows := rfl
 rw [this, z81 (by omega)]
 rfl
end Go.Sx
end
section
namespace Go.Proofs.YthljegacamgnnaaGreat
open Go Go.Sx
set_option maxRecDepth 20000
set_option maxHeartbeats 4000000
theorem q7p (c : Clu) (h : WT 1048576 zo c.cs ∧ tot zo c.cs ≤ 1048576) : ∃ (k : Int) (r0 r1 r2 r3 r4 : List (List Cell)), 0 ≤ k ∧
 PG Tryz.prog 30 [.agg [.giv true 2 (c.cons.map Con.cs), .giv true 6 (c.shs.map Shd.cs), .giv true 1 (c.accs.map Acc.cs), .giv true 3 (c.ldrs.map Ldr.cs), .giv true 9 (c.msgs.map Msg.cs)], .one (.bor (i64 1))] (rI k) [(0, r0), (1, r1), (2, r2), (3, r3), (4, r4)] := by
 obtain ⟨h, ht⟩ := h
 obtain ⟨_, _, _, _, _, e, m0, m1, m2, m3, m4⟩ := q0k h
 cases e
 have up : ∀ {e : Sh} {r : List (List Cell)}, WR 1048576 e r → WR 9000000000000000000 e r := fun h => h.mono (by omega)
 have hm := y3c 2 6 1 3 9 _ _ _ _ _ 1 _ _ _ _ _ (up m0) (up m1) (up m2) (up m3) (up m4) rfl rfl rfl rfl rfl
 have hc := q8f h
 have hw : wid zo = 0 := rfl
 have hw2 : z42 zo = 48 := rfl
 rw [hw, hw2] at hc
 have hk := (z73 h 1 (by omega) (by omega)).2
 exact ⟨_, _, _, _, _, _, by
  show 0 ≤ (mk zo c.cs 1).2
  rw [hk]; omega, hm⟩
end Go.Proofs.YthljegacamgnnaaGreat
end
section
namespace Go.Proofs.YthljegacamgnnaaGreat
open Go Go.Sx
set_option maxRecDepth 20000
set_option maxHeartbeats 4000000
abbrev z1b : Sh := (.i .i64 (.l (.l z8 .nil) .nil))
theorem z3a (p q : List (List Cell)) (hp : WR 9000000000000000000 (.l z8 .nil) p) (hq : WR 9000000000000000000 (.l z8 .nil) q) : PC Tryz.prog 87 [.one (.l p), .one (.l q)] (rB (dE p q)) := by
 refine PC.begin Tryz.func87 rfl (by kernel_rfl) ?_
 have hpl := hp.1
 have hql := hq.1
 refine xb rfl (fun h => ?_) (fun h => ?_)
 · exact xr rfl (q7 rfl ⟨⟨rfl, qi (fun e => by subst e; simp at h), trivial⟩, z6 rfl⟩)
 have hl : p.length = q.length := by simpa [Int.ofNat_inj] using h
 refine qc rfl (ι := Nat) (fun i => i ≤ p.length ∧ p.take i = q.take i) (fun i => ⟨[(5, sV (.int .i64 i)), (0, .one (.b (.l p))), (1, .one (.b (.l q)))], []⟩) (fun i => p.length - i) 0 ⟨Nat.zero_le _, rfl⟩ ?_ ?_
 · repeat' (first | exact trivial | exact rfl | exact Or.inl rfl | refine And.intro ?_ ?_)
 · intro i ⟨hi, he⟩ J hJ
   refine xb rfl (fun h => ?_) (fun h => ?_)
   · have h : i < p.length := by simpa using h
     obtain ⟨row, hg⟩ : ∃ row, p[i]? = some row := ⟨_, List.getElem?_eq_getElem h⟩
     obtain ⟨row', hg'⟩ : ∃ row, q[i]? = some row := ⟨_, List.getElem?_eq_getElem (by omega)⟩
     obtain ⟨x0, _, rfl, h0, hnil⟩ := ((hp.2 row (List.mem_of_getElem? hg))).z0t; obtain rfl := hnil.yu
     obtain ⟨y0, _, rfl, k0, knil⟩ := ((hq.2 row' (List.mem_of_getElem? hg'))).z0t; obtain rfl := knil.yu
     refine yc rfl [] (.take 0 [] (.take 1 [] (.take 2 [] (.take 3 [8, 9] (.take 4 [] (.take 5 [] (.take 6 [] (.take 7 [8, 9] (.alt 8 (.take 9 [] .done) .nil))))))))) (by kernel_rfl) ?_
     refine xs rfl (Int.natCast_nonneg _) (q9 rfl _ hg (xs rfl rfl ?_))
     refine xs rfl (Int.natCast_nonneg _) (q9 rfl _ hg' (xs rfl rfl ?_))
     refine z7 rfl (y1r _ _ h0 k0) rfl ⟨trivial, trivial, trivial⟩ ?_
     refine xb rfl (fun hb => ?_) (fun hb => ?_)
     · exact xr rfl (q7 rfl ⟨⟨rfl, qi (fun e => by subst e; rw [hg] at hg'; cases hg'; exact z03 hb rfl), trivial⟩, z6 rfl⟩)
     · have hb := q02 hb
       refine qa rfl (hJ _ (i + 1) ⟨by omega, qn he hg (hg'.trans (by rw [hb]))⟩ (by omega) ?_)
       repeat' (first | exact trivial | exact rfl | exact Or.inl rfl | exact cwi (by omega) (by omega) (by omega) | refine And.intro ?_ ?_)
   · have h : ¬ i < p.length := by simpa using h
     exact xr rfl (q7 rfl ⟨⟨rfl, zu (by rw [show i = p.length by omega, List.take_length] at he; rw [he, hl, List.take_length]), trivial⟩, z6 rfl⟩)
theorem q52 (x0 : List (List Cell)) (y0 : List (List Cell)) (h0 : WR 9000000000000000000 (.l z8 .nil) x0) (k0 : WR 9000000000000000000 (.l z8 .nil) y0) : PC Tryz.prog 26 [.agg [.l x0], .agg [.l y0]] (rB (dE (α := List Cell) [.l x0] [.l y0])) := by
 refine PC.begin Tryz.func26 rfl (by kernel_rfl) ?_
 refine z7 rfl (z3a _ _ h0 k0) rfl ⟨trivial, trivial, trivial⟩ ?_
 refine xb rfl (fun h => ?_) (fun e0 => ?_)
 · exact xr rfl (q7 rfl ⟨⟨rfl, qi (fun e => z03 h (by simp only [List.cons.injEq, Cell.l.injEq] at e ⊢; simp only [e]; try trivial)), trivial⟩, z6 rfl⟩)
 have e0 := q02 e0
 exact xr rfl (q7 rfl ⟨⟨rfl, zu (by simp [e0]), trivial⟩, z6 rfl⟩)
theorem y22 (x0 : Int) (x1 : List (List Cell)) (y0 : Int) (y1 : List (List Cell)) (h1 : WR 9000000000000000000 (.l z8 .nil) x1) (k1 : WR 9000000000000000000 (.l z8 .nil) y1) : PC Tryz.prog 42 [.agg [.s (.int .i64 x0), .l x1], .agg [.s (.int .i64 y0), .l y1]] (rB (dE (α := List Cell) [.s (.int .i64 x0), .l x1] [.s (.int .i64 y0), .l y1])) := by
 refine PC.begin Tryz.func42 rfl (by kernel_rfl) ?_
 refine xb rfl (fun h => ?_) (fun e0 => ?_)
 · exact xr rfl (q7 rfl ⟨⟨rfl, qi (fun e => by simp only [List.cons.injEq, Cell.s.injEq, Value.int.injEq, Value.bool.injEq, Value.string.injEq] at e; simp [e] at h), trivial⟩, z6 rfl⟩)
 have e0 : x0 = y0 := by simpa using e0
 refine z7 rfl (q52 _ _ h1 k1) rfl ⟨⟨trivial, trivial⟩, ⟨trivial, trivial⟩, trivial⟩ ?_
 refine xb rfl (fun h => ?_) (fun e1 => ?_)
 · exact xr rfl (q7 rfl ⟨⟨rfl, qi (fun e => z03 h (by simp only [List.cons.injEq, Cell.l.injEq] at e ⊢; simp only [e]; try trivial)), trivial⟩, z6 rfl⟩)
 have e1 := q02 e1
 simp only [List.cons.injEq, Cell.s.injEq, Cell.l.injEq, Value.int.injEq, Value.bool.injEq, and_true, true_and] at e1
 exact xr rfl (q7 rfl ⟨⟨rfl, zu (by simp [e0, e1]), trivial⟩, z6 rfl⟩)
theorem q2j (z : Nat) (rr : List (List Cell)) (k : Int) (hw : WR 9000000000000000000 (.l z8 .nil) rr) : PG Tryz.prog 165 [.one (.giv true z rr), .one (.bor (i64 k))] (rI (mkR (mk (.l z8 .nil)) rr k).2) [(0, (mkR (mk (.l z8 .nil)) rr k).1)] := by
 refine PG.begin Tryz.func165 rfl (by kernel_rfl) ?_
 have hlen := hw.1
 refine qc rfl (ι := Nat) (fun i => i ≤ rr.length) (fun i => ⟨[(5, sV (.int .i64 i)), (1, sV (.int .i64 (mdk (mk (.l z8 .nil)) rr k i))), (0, .one (.h 1000000000 rr.length))], [(1000000000, .arr true z 0 (md (mk (.l z8 .nil)) rr k i))]⟩) (fun i => rr.length - i) 0 (Nat.zero_le _) ?_ ?_
 · exact ⟨⟨rfl, congrArg (fun n => Cell.s (.int .i64 n)) z01.symm, ⟨rfl, rfl, rfl⟩, trivial⟩, ⟨⟨y09.symm, .inl rfl, .inl rfl⟩, trivial⟩, rfl⟩
 · intro i hi J hJ
   refine xb rfl (fun h => ?_) (fun h => ?_)
   · have h : i < rr.length := by simpa using h
     obtain ⟨row, hg⟩ : ∃ row, rr[i]? = some row := ⟨_, List.getElem?_eq_getElem h⟩
     obtain ⟨x0, _, rfl, h0, hnil⟩ := ((hw.2 row (List.mem_of_getElem? hg))).z0t; obtain rfl := hnil.yu
     have hl := q0q (f := (mk (.l z8 .nil))) (k := k) hi
     have hg0 := y0q (f := (mk (.l z8 .nil))) (k := k) hg
     have hlt : i < (md (mk (.l z8 .nil)) rr k i).length := by omega
     refine xs rfl (hl).symm (xs rfl (Int.natCast_nonneg _) (q9 rfl _ hg0 (xs rfl rfl (xs rfl (hl).symm (q9 rfl _ hg0 ?_)))))
     refine y0n rfl (y16 0 _ _ h0) ⟨⟨rfl, rfl, rfl, _, hg0, rfl⟩, rfl, trivial⟩ rfl ?_
     refine qa rfl (hJ _ (i + 1) (by omega) (by omega) ?_)
     refine ⟨⟨cwi (by omega) (by omega) (by omega), ?_, ⟨rfl, rfl, rfl⟩, trivial⟩, ⟨⟨?_, .inl rfl, .inl rfl⟩, trivial⟩, rfl⟩
     · rw [q00 hg]; rfl
     · refine Eq.trans ?_ (z0r hg)
       try simp only [Int.toNat_natCast, qr hg0, ssr hlt, List.set_set]
       rfl
   · have h : ¬ i < rr.length := by simpa using h
     have : i = rr.length := by omega
     subst this
     exact xr rfl (z1c rfl ⟨⟨rfl, congrArg (Value.int .i64) q09, trivial⟩, z6 rfl⟩ ⟨⟨rfl, rfl, z0q, zq _ _ _, qq hw⟩, trivial⟩)
theorem z40 (z0 : Nat) (x0 : List (List Cell)) (k : Int) (k0 : Int) (h0 : WR 9000000000000000000 (.l z8 .nil) x0) (e0 : (mkR (mk (.l z8 .nil)) x0 k).2 = k0) : PG Tryz.prog 105 [.agg [.giv true z0 x0], .one (.bor (i64 k))] (rI k0) [(0, (mkR (mk (.l z8 .nil)) x0 k).1)] := by
 refine PG.begin Tryz.func105 rfl (by kernel_rfl) ?_
 refine y0n rfl (q2j z0 x0 k h0) ⟨⟨rfl, rfl, rfl, rfl⟩, rfl, trivial⟩ rfl ?_
 rw [e0]
 exact xr rfl (z1c rfl ⟨⟨rfl, rfl, trivial⟩, z6 rfl⟩ ⟨⟨rfl, rfl, rfl, zq _ _ _, qq h0⟩, trivial⟩)
theorem y1o (z1 : Nat) (x0 : Int) (x1 : List (List Cell)) (k : Int) (k1 : Int) (h1 : WR 9000000000000000000 (.l z8 .nil) x1) (e1 : (mkR (mk (.l z8 .nil)) x1 k).2 = k1) : PG Tryz.prog 43 [.agg [.bor (.s (.int .i64 x0)), .giv true z1 x1], .one (.bor (i64 k))] (rI k1) [(1, (mkR (mk (.l z8 .nil)) x1 k).1)] := by
 refine PG.begin Tryz.func43 rfl (by kernel_rfl) ?_
 refine y0n rfl (z40 z1 x1 k k1 h1 e1) ⟨⟨⟨rfl, rfl, rfl, rfl⟩, trivial⟩, rfl, trivial⟩ rfl ?_
 exact xr rfl (z1c rfl ⟨⟨rfl, rfl, trivial⟩, z6 rfl⟩ ⟨⟨rfl, rfl, rfl, zq _ _ _, qq h1⟩, trivial⟩)
theorem z2w (rr : List (List Cell)) (k : Int) (hw : WR 9000000000000000000 z8 rr) : PC Tryz.prog 230 [.one (.l rr), .one (i64 k)] (rI (ng (hdR (hd z8) rr k))) := by
 refine PC.begin Tryz.func230 rfl (by kernel_rfl) ?_
 have hlen := hw.1
 refine qc rfl (ι := Nat × Int) (fun x => x.1 ≤ rr.length ∧ hdR (hd z8) (rr.take x.1) k = some x.2) (fun x => ⟨[(5, sV (.int .i64 x.1)), (1, sV (.int .i64 x.2)), (0, .one (.b (.l rr)))], []⟩) (fun x => rr.length - x.1) (0, k) ⟨Nat.zero_le _, rfl⟩ ?_ ?_
 · exact ⟨⟨rfl, rfl, rfl, trivial⟩, trivial, rfl⟩
 · intro ⟨i, v⟩ ⟨hi, hv⟩ J hJ
   dsimp only at hi hv ⊢
   refine xb rfl (fun h => ?_) (fun h => ?_)
   · have h : i < rr.length := by simpa using h
     obtain ⟨row, hg⟩ : ∃ row, rr[i]? = some row := ⟨_, List.getElem?_eq_getElem h⟩
     obtain ⟨x0, x1, x2, rfl⟩ := q05 (hw.2 row (List.mem_of_getElem? hg))
     have hst := z5n hg hv
     refine xs rfl (Int.natCast_nonneg _) (q9 rfl _ hg (xs rfl rfl ?_))
     refine xb rfl (fun hb => ?_) (fun hb => ?_)
     · have hb : ¬ x0 = mkv .i64 (v) := by simpa [mkv, nx] using hb
       exact xr rfl (q7 rfl ⟨⟨rfl, congrArg (Value.int .i64) (z2a (z2o (i := i + 1) (hst.trans (by simp only [hd, if_neg hb])))).symm, trivial⟩, z6 rfl⟩)
     have hb0 : x0 = mkv .i64 (v) := by simpa [mkv, nx] using hb
     clear hb
     refine xs rfl (Int.natCast_nonneg _) (q9 rfl _ hg (xs rfl rfl ?_))
     refine xb rfl (fun hb => ?_) (fun hb => ?_)
     · have hb : ¬ x1 = mkv .i64 (nx (v)) := by simpa [mkv, nx] using hb
       exact xr rfl (q7 rfl ⟨⟨rfl, congrArg (Value.int .i64) (z2a (z2o (i := i + 1) (hst.trans (by simp only [hd, if_neg hb, if_pos hb0])))).symm, trivial⟩, z6 rfl⟩)
     have hb1 : x1 = mkv .i64 (nx (v)) := by simpa [mkv, nx] using hb
     clear hb
     refine xs rfl (Int.natCast_nonneg _) (q9 rfl _ hg (xs rfl rfl ?_))
     refine xb rfl (fun hb => ?_) (fun hb => ?_)
     · have hb : ¬ x2 = mkv .i64 (nx (nx (v))) := by simpa [mkv, nx] using hb
       exact xr rfl (q7 rfl ⟨⟨rfl, congrArg (Value.int .i64) (z2a (z2o (i := i + 1) (hst.trans (by simp only [hd, if_neg hb, if_pos hb0, if_pos hb1])))).symm, trivial⟩, z6 rfl⟩)
     have hb2 : x2 = mkv .i64 (nx (nx (v))) := by simpa [mkv, nx] using hb
     clear hb
     refine qa rfl (hJ _ (i + 1, nx (nx (nx (v)))) ⟨by dsimp only; omega, hst.trans (by simp only [hd, if_pos hb0, if_pos hb1, if_pos hb2])⟩ (by dsimp only; omega) ?_)
     exact ⟨⟨cwi (by omega) (by omega) (by omega), rfl, rfl, trivial⟩, trivial, rfl⟩
   · have h : ¬ i < rr.length := by simpa using h
     have : i = rr.length := by omega
     subst this
     rw [List.take_length] at hv
     exact xr rfl (q7 rfl ⟨⟨rfl, congrArg (Value.int .i64) (by rw [hv]; rfl), trivial⟩, z6 rfl⟩)
theorem q2i (rr : List (List Cell)) (k : Int) (hw : WR 9000000000000000000 (.l z8 .nil) rr) : PC Tryz.prog 166 [.one (.l rr), .one (i64 k)] (rI (ng (hdR (hd (.l z8 .nil)) rr k))) := by
 refine PC.begin Tryz.func166 rfl (by kernel_rfl) ?_
 have hlen := hw.1
 refine qc rfl (ι := Nat × Int) (fun x => x.1 ≤ rr.length ∧ hdR (hd (.l z8 .nil)) (rr.take x.1) k = some x.2) (fun x => ⟨[(5, sV (.int .i64 x.1)), (1, sV (.int .i64 x.2)), (0, .one (.b (.l rr)))], []⟩) (fun x => rr.length - x.1) (0, k) ⟨Nat.zero_le _, rfl⟩ ?_ ?_
 · exact ⟨⟨rfl, rfl, rfl, trivial⟩, trivial, rfl⟩
 · intro ⟨i, v⟩ ⟨hi, hv⟩ J hJ
   dsimp only at hi hv ⊢
   refine xb rfl (fun h => ?_) (fun h => ?_)
   · have h : i < rr.length := by simpa using h
     obtain ⟨row, hg⟩ : ∃ row, rr[i]? = some row := ⟨_, List.getElem?_eq_getElem h⟩
     obtain ⟨x0, _, rfl, h0, hnil⟩ := ((hw.2 row (List.mem_of_getElem? hg))).z0t; obtain rfl := hnil.yu
     have hst := z5n hg hv
     refine xs rfl (Int.natCast_nonneg _) (q9 rfl _ hg (xs rfl rfl ?_))
     refine z7 rfl (z2w x0 (v) h0) rfl ⟨trivial, trivial, trivial⟩ ?_
     generalize hk0 : ng (hdR (hd z8) x0 (v)) = k0
     refine xb rfl (fun hb => ?_) (fun hb => ?_)
     · have hb : k0 < 0 := by simpa using hb
       exact xr rfl (q7 rfl ⟨⟨rfl, congrArg (Value.int .i64) (z2a (z2o (i := i + 1) (hst.trans (by simp only [hd, hk0, q9s hb]; rfl)))).symm, trivial⟩, z6 rfl⟩)
     have hb0 : ¬ k0 < 0 := by simpa using hb
     clear hb
     refine qa rfl (hJ _ (i + 1, k0) ⟨by dsimp only; omega, hst.trans (by simp only [hd, hk0, z81 hb0, Option.bind_some])⟩ (by dsimp only; omega) ?_)
     exact ⟨⟨cwi (by omega) (by omega) (by omega), rfl, rfl, trivial⟩, trivial, rfl⟩
   · have h : ¬ i < rr.length := by simpa using h
     have : i = rr.length := by omega
     subst this
     rw [List.take_length] at hv
     exact xr rfl (q7 rfl ⟨⟨rfl, congrArg (Value.int .i64) (by rw [hv]; rfl), trivial⟩, z6 rfl⟩)
theorem z3w (x0 : List (List Cell)) (k : Int) (h0 : WR 9000000000000000000 (.l z8 .nil) x0) (hk : 0 ≤ k) : PC Tryz.prog 106 [.agg [.l x0], .one (i64 k)] (rI (ng (ht q1y [.l x0] k))) := by
 refine PC.begin Tryz.func106 rfl (by kernel_rfl) ?_
 have e : ht q1y [.l x0] k = ((ps (ng (hdR (hd (.l z8 .nil)) x0 k))).bind fun v1 => some v1) := by simp only [ht, Option.bind_assoc, Option.bind_some]
 rw [e]
 refine z7 rfl (q2i x0 k h0) rfl ⟨trivial, trivial, trivial⟩ ?_
 generalize hk0 : ng (hdR (hd (.l z8 .nil)) x0 (k)) = k0
 refine xb rfl (fun hb => ?_) (fun hb => ?_)
 · have hb : k0 < 0 := by simpa using hb
   exact xr rfl (q7 rfl ⟨⟨rfl, congrArg (Value.int .i64) (z2a (by simp only [hk0, q9s hb]; rfl)).symm, trivial⟩, z6 rfl⟩)
 have hb0 : ¬ k0 < 0 := by simpa using hb
 have hp0 : 0 ≤ k0 := by omega
 clear hb
 exact xr rfl (q7 rfl ⟨⟨rfl, congrArg (Value.int .i64) (by simp only [hk0, z81 hb0, Option.bind_some]; rfl), trivial⟩, z6 rfl⟩)
theorem z1n (x0 : Int) (x1 : List (List Cell)) (k : Int) (h1 : WR 9000000000000000000 (.l z8 .nil) x1) (hk : 0 ≤ k) : PC Tryz.prog 44 [.agg [.s (.int .i64 x0), .l x1], .one (i64 k)] (rI (ng (ht z1b [.s (.int .i64 x0), .l x1] k))) := by
 refine PC.begin Tryz.func44 rfl (by kernel_rfl) ?_
 have e : ht z1b [.s (.int .i64 x0), .l x1] k = ((ht q1y [.l x1] k).bind fun v1 => some v1) := by simp only [ht, Option.bind_assoc, Option.bind_some]
 rw [e]
 refine z7 rfl (z3w x1 k h1 hk) rfl ⟨⟨trivial, trivial⟩, trivial, trivial⟩ ?_
 generalize hk1 : ng (ht q1y [.l x1] (k)) = k1
 refine xb rfl (fun hb => ?_) (fun hb => ?_)
 · have hb : k1 < 0 := by simpa using hb
   exact xr rfl (q7 rfl ⟨⟨rfl, congrArg (Value.int .i64) (z2a (by simp only [za8 hk hk1 hb]; rfl)).symm, trivial⟩, z6 rfl⟩)
 have hb1 : ¬ k1 < 0 := by simpa using hb
 have hp1 : 0 ≤ k1 := by omega
 clear hb
 exact xr rfl (q7 rfl ⟨⟨rfl, congrArg (Value.int .i64) (by simp only [q94 hk1 hb1, Option.bind_some]; rfl), trivial⟩, z6 rfl⟩)
end Go.Proofs.YthljegacamgnnaaGreat
end
section
namespace Go.Proofs.YthljegacamgnnaaGreat
open Go Go.Sx
set_option maxRecDepth 20000
set_option maxHeartbeats 4000000
abbrev qaj (code : Int) (l : List (List Bal)) : Res := .one (.own true [.s (.int .i64 code), .l 1 (ql l)])
theorem y8h {l : List (List Bal)} {N : Nat} (h : l.length ≤ N) (hb : ∀ us ∈ l, us.length ≤ N) : WR N (.l z8 .nil) (ql l) := ⟨by simpa using h, fun row hr => by
 obtain ⟨us, hu, rfl⟩ := List.mem_map.1 hr
 refine .l _ (by simpa using hb us hu) (fun row hr => ?_) .nil
 obtain ⟨x, _, rfl⟩ := List.mem_map.1 hr
 exact .i _ (.i _ (.i _ .nil))⟩
theorem y70 : ∀ {l : List (List Bal)}, (∀ us ∈ l, us.length ≤ 18) → zz (tot (.l z8 .nil)) (ql l) ≤ 18 * l.length
 | [], _ => by simp [zz]
 | us :: l, h => by
   have h1 := y70 (l := l) fun x hx => h x (List.mem_cons_of_mem _ hx)
   have h2 := h us List.mem_cons_self
   have h3 : zz (tot z8) (us.map Bal.cs) = 0 := by
    clear h h1 h2
    induction us with
    | nil => rfl
    | cons u us ih => simp only [List.map_cons, zz, ih]; rfl
   have h1 : zz (tot (.l z8 .nil)) (l.map q2x) ≤ 18 * l.length := h1
   simp only [List.map_cons, zz, List.length_cons]
   have h4 : tot (.l z8 .nil) (q2x us) = us.length := by simp only [tot, h3, List.length_map]; omega
   omega
theorem q7w (l : List (List Bal)) (hl : l.length ≤ 3) (hb : ∀ us ∈ l, us.length ≤ 18) : ∃ (k : Int) (r : List (List Cell)), 0 ≤ k ∧ r.length = (ql l).length ∧ (∀ (z : Nat) (code : Int), PG Tryz.prog 43 [.agg [.bor (.s (.int .i64 code)), .giv true z (ql l)], .one (.bor (i64 1))] (rI k) [(1, r)]) ∧
 ∀ code : Int, PC Tryz.prog 44 [.agg [.s (.int .i64 code), .l r], .one (i64 1)] (rI k) := by
 have hw := y8h (N := 9000000000000000000) (l := l) (by omega) (fun us hu => by have := hb us hu; omega)
 have hc := z7y hw
 have ht := y70 hb
 have hlen : (ql l).length = l.length := by simp
 rw [show wid (.l z8 .nil) = 0 from rfl, show z42 (.l z8 .nil) = 3 from rfl, hlen] at hc
 obtain ⟨h1, h2⟩ := y7y hw (by omega)
 refine ⟨_, _, h1, zq _ _ _, fun z code => y1o z code (ql l) 1 _ hw rfl, fun code => ?_⟩
 have := z1n code (mkR (mk (.l z8 .nil)) (ql l) 1).1 1 (y9q hw 1) (by omega)
 rw [h2] at this
 exact this
theorem z7x (l : List (List Bal)) (hl : l.length ≤ 3) (hb : ∀ us ∈ l, us.length ≤ 18) (code : Int) : PC Tryz.prog 42 [.agg [.s (.int .i64 code), .l (ql l)], .agg [.s (.int .i64 code), .l (ql l)]] (rB true) := by
 have hw := y8h (N := 9000000000000000000) (l := l) (by omega) (fun us hu => by have := hb us hu; omega)
 have h := y22 code (ql l) code (ql l) hw hw
 rwa [show dE (α := List Cell) [.s (.int .i64 code), .l (ql l)] [.s (.int .i64 code), .l (ql l)] = true from (Value.bool.inj (zu rfl)).symm] at h
theorem z6w (c : Clu) (ho : q01 c) : PC Tryz.prog 41 [.agg c.cs] (qaj (q3b c).1 (q3b c).2) := by
 refine PC.begin Tryz.func41 rfl (by kernel_rfl) ?_
 by_cases hc : zt c = 0
 · have hR : q3b c = (0, y37 c) := by unfold q3b; rw [if_neg (by simpa using hc)]
   rw [hR]
   have hop := q70 c ho hc
   refine z7 rfl (y6v c ho) rfl ⟨⟨trivial, trivial, trivial, trivial, trivial, trivial⟩, trivial⟩ ?_
   refine xb rfl (fun b0 => ?_) (fun b0 => ?_)
   exact absurd b0 (by simp; omega)
   refine z7 rfl (hop) rfl ⟨⟨trivial, trivial, trivial, trivial, trivial, trivial⟩, trivial⟩ ?_
   refine xr rfl (q7 rfl ⟨⟨rfl, rfl, ⟨rfl, rfl, .inl rfl⟩, trivial⟩, z6 rfl⟩)
   all_goals first
    | (exfalso; simp_all; done)
    | skip
 · have hR : q3b c = (zt c, []) := by unfold q3b; rw [if_pos hc]
   rw [hR]
   refine z7 rfl (y6v c ho) rfl ⟨⟨trivial, trivial, trivial, trivial, trivial, trivial⟩, trivial⟩ ?_
   refine xb rfl (fun b0 => ?_) (fun b0 => ?_)
   refine xr rfl (q7 rfl ⟨⟨rfl, rfl, rfl, trivial⟩, z6 rfl⟩)
   exact absurd b0 (by simp; omega)
   all_goals (exfalso; simp_all; done)
theorem y7a (c : Clu) (ho : q01 c) : PC Tryz.prog 40 [.agg c.cs] (qaj (q3b c).1 (q3b c).2) := by
 refine PC.begin Tryz.func40 rfl (by kernel_rfl) ?_
 by_cases hc : zt c = 0
 · have hR : q3b c = (0, y37 c) := by unfold q3b; rw [if_neg (by simpa using hc)]
   rw [hR]
   have hop := q6b c ho hc
   refine z7 rfl (z7a c ho) rfl ⟨⟨trivial, trivial, trivial, trivial, trivial, trivial⟩, trivial⟩ ?_
   refine xb rfl (fun b0 => ?_) (fun b0 => ?_)
   exact absurd b0 (by simp; omega)
   refine z7 rfl (hop) rfl ⟨⟨trivial, trivial, trivial, trivial, trivial, trivial⟩, trivial⟩ ?_
   refine xr rfl (q7 rfl ⟨⟨rfl, rfl, ⟨rfl, rfl, .inl rfl⟩, trivial⟩, z6 rfl⟩)
   all_goals first
    | (exfalso; simp_all; done)
    | skip
 · have hR : q3b c = (zt c, []) := by unfold q3b; rw [if_pos hc]
   rw [hR]
   refine z7 rfl (z7a c ho) rfl ⟨⟨trivial, trivial, trivial, trivial, trivial, trivial⟩, trivial⟩ ?_
   refine xb rfl (fun b0 => ?_) (fun b0 => ?_)
   refine xr rfl (q7 rfl ⟨⟨rfl, rfl, rfl, trivial⟩, z6 rfl⟩)
   exact absurd b0 (by simp; omega)
   all_goals (exfalso; simp_all; done)
theorem y7w (cs : List Cell) (hw : WT 9223372036854775807 zo cs) : PC Tryz.prog 10 [.agg cs] (rB true) := by
 refine PC.begin Tryz.func10 rfl (by kernel_rfl) ?_
 obtain ⟨x0, x1, x2, x3, x4, rfl, _⟩ := q0k hw
 rcases y9l x0 x1 x2 x3 x4 hw 1048576 (Nat.le_refl _) with hsz | ⟨c, rfl, rfl, rfl, rfl, rfl, ho, hwt, ⟨n, _, hsz⟩, hto, heq⟩
 · skip
   refine z7 rfl (hsz) rfl ⟨⟨trivial, trivial, trivial, trivial, trivial, trivial⟩, trivial, trivial⟩ ?_
   refine xj (k := 1) rfl ?_
   refine xr rfl (q7 rfl ⟨⟨rfl, rfl, trivial⟩, z6 rfl⟩)
 · have hI := z6w c ho
   have hS := y7a c ho
   obtain ⟨g1, g2⟩ := q91 c
   have hr := z7x (q3b c).2 g1 g2 (q3b c).1
   obtain ⟨k, r0, r1, r2, r3, r4, hk, hmk⟩ := q7p c hwt
   obtain ⟨q, rr, hq, hrl, hmr, hhd⟩ := q7w (q3b c).2 g1 g2
   refine z7 rfl (hsz) rfl ⟨⟨trivial, trivial, trivial, trivial, trivial, trivial⟩, trivial, trivial⟩ ?_
   refine xj (k := 1) rfl ?_
   refine z7 rfl (hto) rfl ⟨⟨trivial, trivial, trivial, trivial, trivial, trivial⟩, trivial⟩ ?_
   refine z7 rfl (hS) rfl ⟨⟨rfl, rfl, rfl, rfl, rfl, trivial⟩, trivial⟩ ?_
   refine z7 rfl (hto) rfl ⟨⟨trivial, trivial, trivial, trivial, trivial, trivial⟩, trivial⟩ ?_
   refine z7 rfl (hI) rfl ⟨⟨rfl, rfl, rfl, rfl, rfl, trivial⟩, trivial⟩ ?_
   refine z7 rfl (hr) rfl ⟨⟨trivial, rfl, trivial⟩, ⟨trivial, rfl, trivial⟩, trivial⟩ ?_
   refine xj (k := 1) rfl ?_
   refine yc rfl [] (.take 0 [3, 4] (.take 1 [2, 3, 4] (.alt 2 (.alt 3 (.take 4 [] .done) .nil) .nil))) (by kernel_rfl) ?_
   refine z7 rfl (hto) rfl ⟨⟨trivial, trivial, trivial, trivial, trivial, trivial⟩, trivial⟩ ?_
   refine z7 rfl (heq) rfl ⟨⟨rfl, rfl, rfl, rfl, rfl, trivial⟩, ⟨rfl, rfl, rfl, rfl, rfl, trivial⟩, trivial⟩ ?_
   refine xj (k := 1) rfl ?_
   refine y0n rfl (hmk) ⟨⟨⟨rfl, rfl, rfl, rfl⟩, ⟨rfl, rfl, rfl, rfl⟩, ⟨rfl, rfl, rfl, rfl⟩, ⟨rfl, rfl, rfl, rfl⟩, ⟨rfl, rfl, rfl, rfl⟩, trivial⟩, rfl, trivial⟩ rfl ?_
   refine xb rfl (fun b0 => ?_) (fun b0 => ?_)
   exact absurd b0 (by simp; omega)
   refine xj (k := 2) rfl ?_
   refine z7 rfl (hr) rfl ⟨⟨trivial, rfl, trivial⟩, ⟨trivial, rfl, trivial⟩, trivial⟩ ?_
   refine xj (k := 3) rfl ?_
   refine y0n rfl (hmr 1 (q3b c).1) ⟨⟨rfl, ⟨rfl, rfl, rfl, rfl⟩, trivial⟩, rfl, trivial⟩ rfl ?_
   refine z7 rfl (hhd (q3b c).1) rfl ⟨⟨trivial, hrl.symm, trivial⟩, trivial, trivial⟩ ?_
   refine xb rfl (fun b0 => ?_) (fun b0 => ?_)
   exact absurd b0 (by simp; omega)
   refine xb rfl (fun b1 => ?_) (fun b1 => ?_)
   exact absurd b1 (by simp [*])
   refine z7 rfl (hto) rfl ⟨⟨trivial, trivial, trivial, trivial, trivial, trivial⟩, trivial⟩ ?_
   refine z7 rfl (hI) rfl ⟨⟨rfl, rfl, rfl, rfl, rfl, trivial⟩, trivial⟩ ?_
   refine z7 rfl (hr) rfl ⟨⟨trivial, rfl, trivial⟩, ⟨trivial, rfl, trivial⟩, trivial⟩ ?_
   refine xj (k := 1) rfl ?_
   refine z7 rfl (hhd (q3b c).1) rfl ⟨⟨trivial, hrl.symm, trivial⟩, trivial, trivial⟩ ?_
   refine xb rfl (fun b0 => ?_) (fun b0 => ?_)
   exact absurd b0 (by simp; omega)
   refine xb rfl (fun b1 => ?_) (fun b1 => ?_)
   exact absurd b1 (by simp [*])
   refine xr rfl (q7 rfl ⟨⟨rfl, rfl, trivial⟩, z6 rfl⟩)
end Go.Proofs.YthljegacamgnnaaGreat
end
section
namespace Go.Proofs.YthljegacamgnnaaGreat.fnExactLedgerOf
open Go.ChangeShapes Go.WideShapes Go.ChangeAt Go.RowKit
set_option maxRecDepth 100000 in
set_option maxHeartbeats 40000000 in
theorem closed : joinedFacts Tryz.pinned.checked.prog 10 Tryz.f10 Rows.fnExactLedgerOfSpec Rows.fnExactLedgerOfRow = true := by
 unfold joinedFacts
 simp only [Bool.and_eq_true]
 repeat' refine And.intro ?_ ?_
 all_goals as_aux_lemma => kernel_rfl
end Go.Proofs.YthljegacamgnnaaGreat.fnExactLedgerOf
end
section
namespace Go.Proofs.YthljegacamgnnaaGreat.fnExactLedgerOf
open Go.ChangeShapes Go.WideShapes Go.ChangeAt Go.RowKit Go.Sx
open Go.ChangeMaps (open_string shut_string)
theorem own : ownKnob Tryz.prog.godebug = none := by kernel_rfl
theorem laidOut : laidOutB Tryz.prog = true := by kernel_rfl
theorem q2 : OS Tryz.prog 2 (.i .i64 .nil) := z9s Tryz.underlying2 (by kernel_rfl)
theorem yar : OS Tryz.prog 294 yy := qx Tryz.underlying294 (by kernel_rfl) (.cons (by kernel_rfl) (.cons (by kernel_rfl) (.cons (by kernel_rfl) (.cons (by kernel_rfl) (.nil _))))) (zh q2 (zh q2 (zh q2 (q0c q2) rfl rfl) rfl rfl) rfl rfl)
theorem zan : OS Tryz.prog 151 (.l yy .nil) := y03 Tryz.underlying151 (by kernel_rfl) yar
theorem yan : OS Tryz.prog 153 q8 := qx Tryz.underlying153 (by kernel_rfl) (.cons (by kernel_rfl) (.cons (by kernel_rfl) (.nil _))) (zh q2 (q0c zan) rfl rfl)
theorem q22 : OS Tryz.prog 22 (.l q8 .nil) := y03 Tryz.underlying22 (by kernel_rfl) yan
theorem yaq : OS Tryz.prog 269 z8 := qx Tryz.underlying269 (by kernel_rfl) (.cons (by kernel_rfl) (.cons (by kernel_rfl) (.cons (by kernel_rfl) (.nil _)))) (zh q2 (zh q2 (q0c q2) rfl rfl) rfl rfl)
theorem qan : OS Tryz.prog 155 (.l z8 .nil) := y03 Tryz.underlying155 (by kernel_rfl) yaq
theorem qar : OS Tryz.prog 296 yh := qx Tryz.underlying296 (by kernel_rfl) (.cons (by kernel_rfl) (.cons (by kernel_rfl) (.nil _))) (zh q2 (q0c q2) rfl rfl)
theorem zaj : OS Tryz.prog 156 (.l yh .nil) := y03 Tryz.underlying156 (by kernel_rfl) qar
theorem q66 : OS Tryz.prog 66 (.l (.i .i64 .nil) .nil) := y03 Tryz.underlying66 (by kernel_rfl) q2
theorem zao : OS Tryz.prog 158 qe := qx Tryz.underlying158 (by kernel_rfl) (.cons (by kernel_rfl) (.cons (by kernel_rfl) (.cons (by kernel_rfl) (.cons (by kernel_rfl) (.cons (by kernel_rfl) (.cons (by kernel_rfl) (.nil _))))))) (zh q2 (zh qan (zh zaj (zh q22 (zh zaj (q0c q66) rfl rfl) rfl rfl) rfl rfl) rfl rfl) rfl rfl)
theorem q23 : OS Tryz.prog 23 (.l qe .nil) := y03 Tryz.underlying23 (by kernel_rfl) zao
theorem qad : OS Tryz.prog 182 ym := qx Tryz.underlying182 (by kernel_rfl) (.cons (by kernel_rfl) (.cons (by kernel_rfl) (.nil _))) (zh q2 (q0c q2) rfl rfl)
theorem yaj : OS Tryz.prog 282 (.l ym .nil) := y03 Tryz.underlying282 (by kernel_rfl) qad
theorem qaq : OS Tryz.prog 284 zl := qx Tryz.underlying284 (by kernel_rfl) (.cons (by kernel_rfl) (.cons (by kernel_rfl) (.cons (by kernel_rfl) (.cons (by kernel_rfl) (.cons (by kernel_rfl) (.nil _)))))) (zh q2 (zh q2 (zh q2 (zh qad (q0c yaj) rfl rfl) rfl rfl) rfl rfl) rfl rfl)
theorem yao : OS Tryz.prog 160 (.l zl .nil) := y03 Tryz.underlying160 (by kernel_rfl) qaq
theorem qao : OS Tryz.prog 162 ya := qx Tryz.underlying162 (by kernel_rfl) (.cons (by kernel_rfl) (.nil _)) (q0c yao)
theorem q24 : OS Tryz.prog 24 (.l ya .nil) := y03 Tryz.underlying24 (by kernel_rfl) qao
theorem zar : OS Tryz.prog 287 yp := qx Tryz.underlying287 (by kernel_rfl) (.cons (by kernel_rfl) (.cons (by kernel_rfl) (.cons (by kernel_rfl) (.cons (by kernel_rfl) (.cons (by kernel_rfl) (.cons (by kernel_rfl) (.nil _))))))) (zh q2 (zh q2 (zh q2 (zh q2 (zh q66 (q0c yaj) rfl rfl) rfl rfl) rfl rfl) rfl rfl) rfl rfl)
theorem zap : OS Tryz.prog 164 (.l yp .nil) := y03 Tryz.underlying164 (by kernel_rfl) zar
theorem zas : OS Tryz.prog 300 yn := qx Tryz.underlying300 (by kernel_rfl) (.cons (by kernel_rfl) (.cons (by kernel_rfl) (.cons (by kernel_rfl) (.cons (by kernel_rfl) (.cons (by kernel_rfl) (.nil _)))))) (zh q2 (zh q2 (zh q2 (zh q2 (q0c q2) rfl rfl) rfl rfl) rfl rfl) rfl rfl)
theorem yap : OS Tryz.prog 165 (.l yn .nil) := y03 Tryz.underlying165 (by kernel_rfl) zas
theorem qap : OS Tryz.prog 167 qd := qx Tryz.underlying167 (by kernel_rfl) (.cons (by kernel_rfl) (.cons (by kernel_rfl) (.cons (by kernel_rfl) (.nil _)))) (zh q2 (zh zap (q0c yap) rfl rfl) rfl rfl)
theorem q25 : OS Tryz.prog 25 (.l qd .nil) := y03 Tryz.underlying25 (by kernel_rfl) qap
theorem zaq : OS Tryz.prog 184 zg := qx Tryz.underlying184 (by kernel_rfl) (.cons (by kernel_rfl) (.cons (by kernel_rfl) (.cons (by kernel_rfl) (.cons (by kernel_rfl) (.cons (by kernel_rfl) (.cons (by kernel_rfl) (.cons (by kernel_rfl) (.cons (by kernel_rfl) (.nil _))))))))) (zh q2 (zh q2 (zh q2 (zh q2 (zh q2 (zh q2 (zh q2 (q0c qad) rfl rfl) rfl rfl) rfl rfl) rfl rfl) rfl rfl) rfl rfl) rfl rfl)
theorem q26 : OS Tryz.prog 26 (.l zg .nil) := y03 Tryz.underlying26 (by kernel_rfl) zaq
theorem q28 : OS Tryz.prog 28 zo := qx Tryz.underlying28 (by kernel_rfl) (.cons (by kernel_rfl) (.cons (by kernel_rfl) (.cons (by kernel_rfl) (.cons (by kernel_rfl) (.cons (by kernel_rfl) (.nil _)))))) (zh q22 (zh q23 (zh q24 (zh q25 (q0c q26) rfl rfl) rfl rfl) rfl rfl) rfl rfl)
set_option maxRecDepth 100000 in
theorem lifted (os : Os) (started : os.Started) (H : Type) (enc : TypeId × Value → H) :
 ReturnsInHanded {} Tryz.checked os 10 .any (Rows.fnExactLedgerOfSpec.pre6 enc Tryz.prog Tryz.f10 Rows.fnExactLedgerOfRow.domain false) (Rows.fnExactLedgerOfSpec.post enc Tryz.prog Tryz.f10 false true false false) := by
 refine returnsInHanded_of_change_sized (C := Tryz.checked) own started (by kernel_rfl) Tryz.func10
  (ChangeSpec.witness6 (enc := enc) (C := Tryz.checked) false ⟨#[], #[.agg #[.slice none 0 0, .slice none 0 0, .slice none 0 0, .slice none 0 0, .slice none 0 0]], []⟩ 8 (by kernel_rfl) (by kernel_rfl) (by kernel_rfl) (by kernel_rfl)) ?_
 intro W base args ds gs before hval0 hW _ _ _
 have hval : ∀ (j : Nat) t v, Tryz.f10.params[j]? = some t → args[j]? = some v → Value.okWide Tryz.prog W .any base t v := hval0
 have hW' := hW
 obtain ⟨p, q, hA0, hV, rfl, hfz, hnd⟩ := hW
 have hA : DataW.TrodAll enc Tryz.prog W 0 (fun _ => true) true Tryz.f10.params.toList args.toList ds p := hA0
 rw [Tryz.params10] at hA hval
 obtain ⟨v0, vs0, d0, ds0, p0, q0, hargs, rfl, rfl, h0, r0⟩ := trodAll_cons hA
 obtain ⟨rfl, rfl, rfl⟩ := trodAll_nil r0
 obtain rfl : args = #[v0] := by cases args; simp_all
 obtain ⟨rfl, rfl⟩ := trodVars_none hV
 have k0 := h0
 have lt0 : ∀ x ∈ p0, x.block < W.heap.size := by obtain ⟨m, hm⟩ := k0; exact DataW.trod_lt m _ _ _ hm
 obtain ⟨c0, R0, w0⟩ := y9k Tryz.underlying28 q28 (hval 0 28 v0 rfl rfl) h0
 clear hA0 hval0
 refine (PC.law (y7w c0 w0) (z5v.one R0)).mono fun e W' ⟨he, bel⟩ => ?_
 subst he
 exact ⟨_, rfl, _, _, _, [], _, [], hW', trodAll_mk1 (shut_bool Tryz.underlying4 _), (trodAll_cons_mk (Below.trod laidOut (by kernel_rfl) (of_decide_eq_true (by kernel_rfl)) k0 bel lt0) trodAll_mk0), rfl, bel.frame _, fun h => by cases h⟩
theorem qam : Rows.fnExactLedgerOfRow.holds Tryz.pinned (OpenSpec.ofChange Rows.fnExactLedgerOfSpec) :=
 OpenClaim.holds_of_wide 10 Tryz.f10 rfl rfl rfl rfl rfl rfl rfl ⟨rfl, rfl, rfl, rfl, rfl⟩ rfl rfl rfl rfl rfl (by as_aux_lemma => kernel_rfl) Tryz.func10 closed
  (by as_aux_lemma => exact of_decide_eq_true (by kernel_rfl)) (by as_aux_lemma => unfold Func.isWrapper; first | (rw [if_pos (by decide +kernel)]; kernel_rfl) | (rw [if_neg (by decide +kernel)]; exact ⟨rfl, rfl⟩))
  (fun os started H enc _ => lifted os started H enc)
theorem y9s : Rows.FnExactLedgerOfSaid := qam
end Go.Proofs.YthljegacamgnnaaGreat.fnExactLedgerOf
namespace Go.Proofs.YthljegacamgnnaaGreat
theorem fnExactLedgerOf_holds : Rows.FnExactLedgerOfSaid := fnExactLedgerOf.y9s
end Go.Proofs.YthljegacamgnnaaGreat
end
