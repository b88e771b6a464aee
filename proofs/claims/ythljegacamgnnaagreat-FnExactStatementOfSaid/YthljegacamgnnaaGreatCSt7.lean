/- WHAT IS PROVED: FnExactStatementOf, for every argument of its parameters' types that can be read as data: the call returns true and its arguments read as before. No condition. -/
import Derived.Test.YthljegacamgnnaaGreatCSt6
import Derived.WalkKit
import Derived.OrdersHeld
import Derived.DeepKeys
import Derived.Maps.RangeWalk
import Derived.Maps.OwnOps
import Derived.Deep.Slices
import Derived.ChangeArms
import Derived.WideShapes
import Derived.Test.YthljegacamgnnaaGreatProg
import Derived.Shelf.SortG.Plain
import Derived.Shelf.SortG.SortNone
import Derived.Shelf.SlicesG.CompactI
import Derived.Lib.OwnBridge
import Derived.RangeFuncGives
import Derived.RangeFuncBox
import Derived.RangeFuncLeaves
import Derived.Shelf.Abstract
import Derived.Maps.AppendAt
import Derived.OwnWalkIn
import Derived.TacticsInMore
import Derived.LoopNIn
import Derived.LoopIn
import Derived.Test.YthljegacamgnnaaGreatRows
import Derived.ProofKit
import Derived.OpenShut
import Derived.ShutString
import Derived.ChangeOld
import Derived.Below
import Derived.SizedLaws
set_option linter.unusedVariables false
set_option linter.unusedSimpArgs false
section
namespace Go.Proofs.YthljegacamgnnaaGreat
open Go Go.Sx
set_option maxRecDepth 20000
theorem z7q (x0 : Int) (x1 : Int) (x2 : Int) (x3 : Int) (y0 : Int) (y1 : Int) (y2 : Int) (y3 : Int)   : PC Tryz.prog 155 [.agg [.s (.int .i64 x0), .s (.int .i64 x1), .s (.int .i64 x2), .s (.int .i64 x3)], .agg [.s (.int .i64 y0), .s (.int .i64 y1), .s (.int .i64 y2), .s (.int .i64 y3)]] (rB (dE (α := List Cell) [.s (.int .i64 x0), .s (.int .i64 x1), .s (.int .i64 x2), .s (.int .i64 x3)] [.s (.int .i64 y0), .s (.int .i64 y1), .s (.int .i64 y2), .s (.int .i64 y3)])) := by
 refine PC.begin Tryz.func155 rfl (by kernel_rfl) ?_
 refine xb rfl (fun h => ?_) (fun e0 => ?_)
 · exact xr rfl (q7 rfl ⟨⟨rfl, yk (fun e => by simp only [List.cons.injEq, Cell.s.injEq, Value.int.injEq, Value.bool.injEq, Value.string.injEq] at e; simp [e] at h), trivial⟩, z6 rfl⟩)
 have e0 : x0 = y0 := by simpa using e0
 refine xb rfl (fun h => ?_) (fun e1 => ?_)
 · exact xr rfl (q7 rfl ⟨⟨rfl, yk (fun e => by simp only [List.cons.injEq, Cell.s.injEq, Value.int.injEq, Value.bool.injEq, Value.string.injEq] at e; simp [e] at h), trivial⟩, z6 rfl⟩)
 have e1 : x1 = y1 := by simpa using e1
 refine xb rfl (fun h => ?_) (fun e2 => ?_)
 · exact xr rfl (q7 rfl ⟨⟨rfl, yk (fun e => by simp only [List.cons.injEq, Cell.s.injEq, Value.int.injEq, Value.bool.injEq, Value.string.injEq] at e; simp [e] at h), trivial⟩, z6 rfl⟩)
 have e2 : x2 = y2 := by simpa using e2
 refine xb rfl (fun h => ?_) (fun e3 => ?_)
 · exact xr rfl (q7 rfl ⟨⟨rfl, yk (fun e => by simp only [List.cons.injEq, Cell.s.injEq, Value.int.injEq, Value.bool.injEq, Value.string.injEq] at e; simp [e] at h), trivial⟩, z6 rfl⟩)
 have e3 : x3 = y3 := by simpa using e3
 exact xr rfl (q7 rfl ⟨⟨rfl, qu (by simp [e0, e1, e2, e3]), trivial⟩, z6 rfl⟩)
theorem y4f (p q : List (List Cell)) (hp : WR 9000000000000000000 zo p) (hq : WR 9000000000000000000 zo q) : PC Tryz.prog 90 [.one (.l p), .one (.l q)] (rB (dE p q)) := by
 refine PC.begin Tryz.func90 rfl (by kernel_rfl) ?_
 have hpl := hp.1
 have hql := hq.1
 refine xb rfl (fun h => ?_) (fun h => ?_)
 · exact xr rfl (q7 rfl ⟨⟨rfl, yk (fun e => by subst e; simp at h), trivial⟩, z6 rfl⟩)
 have hl : p.length = q.length := by simpa [Int.ofNat_inj] using h
 refine yd rfl (ι := Nat) (fun i => i ≤ p.length ∧ p.take i = q.take i) (fun i => ⟨[(5, sV (.int .i64 i)), (0, .one (.b (.l p))), (1, .one (.b (.l q)))], []⟩) (fun i => p.length - i) 0 ⟨Nat.zero_le _, rfl⟩ ?_ ?_
 · repeat' (first | exact trivial | exact rfl | exact Or.inl rfl | refine And.intro ?_ ?_)
 · intro i ⟨hi, he⟩ J hJ
   refine xb rfl (fun h => ?_) (fun h => ?_)
   · have h : i < p.length := by simpa using h
     obtain ⟨row, hg⟩ : ∃ row, p[i]? = some row := ⟨_, List.getElem?_eq_getElem h⟩
     obtain ⟨row', hg'⟩ : ∃ row, q[i]? = some row := ⟨_, List.getElem?_eq_getElem (by omega)⟩
     obtain ⟨x0, x1, x2, x3, rfl⟩ := z1n (hp.2 row (List.mem_of_getElem? hg))
     obtain ⟨y0, y1, y2, y3, rfl⟩ := z1n (hq.2 row' (List.mem_of_getElem? hg'))
     refine zc rfl [] (.take 0 [] (.take 1 [] (.take 2 [] (.take 3 [8, 9] (.take 4 [] (.take 5 [] (.take 6 [] (.take 7 [8, 9] (.alt 8 (.take 9 [] .done) .nil))))))))) (by kernel_rfl) ?_
     refine xs rfl (Int.natCast_nonneg _) (y9 rfl _ hg (xs rfl rfl ?_))
     refine xs rfl (Int.natCast_nonneg _) (y9 rfl _ hg' (xs rfl rfl ?_))
     refine z7 rfl (z7q _ _ _ _ _ _ _ _) rfl ⟨⟨trivial, trivial, trivial, trivial, trivial⟩, ⟨trivial, trivial, trivial, trivial, trivial⟩, trivial⟩ ?_
     refine xb rfl (fun hb => ?_) (fun hb => ?_)
     · exact xr rfl (q7 rfl ⟨⟨rfl, yk (fun e => by subst e; rw [hg] at hg'; cases hg'; exact q03 hb rfl), trivial⟩, z6 rfl⟩)
     · have hb := y03 hb
       refine ya rfl (hJ _ (i + 1) ⟨by omega, qo he hg (hg'.trans (by rw [hb]))⟩ (by omega) ?_)
       repeat' (first | exact trivial | exact rfl | exact Or.inl rfl | exact cwi (by omega) (by omega) (by omega) | refine And.intro ?_ ?_)
   · have h : ¬ i < p.length := by simpa using h
     exact xr rfl (q7 rfl ⟨⟨rfl, qu (by rw [show i = p.length by omega, List.take_length] at he; rw [he, hl, List.take_length]), trivial⟩, z6 rfl⟩)
theorem q3r (x0 : Int) (x1 : List (List Cell)) (y0 : Int) (y1 : List (List Cell)) (h1 : WR 9000000000000000000 zo x1) (k1 : WR 9000000000000000000 zo y1) : PC Tryz.prog 136 [.agg [.s (.int .i64 x0), .l x1], .agg [.s (.int .i64 y0), .l y1]] (rB (dE (α := List Cell) [.s (.int .i64 x0), .l x1] [.s (.int .i64 y0), .l y1])) := by
 refine PC.begin Tryz.func136 rfl (by kernel_rfl) ?_
 refine xb rfl (fun h => ?_) (fun e0 => ?_)
 · exact xr rfl (q7 rfl ⟨⟨rfl, yk (fun e => by simp only [List.cons.injEq, Cell.s.injEq, Value.int.injEq, Value.bool.injEq, Value.string.injEq] at e; simp [e] at h), trivial⟩, z6 rfl⟩)
 have e0 : x0 = y0 := by simpa using e0
 refine z7 rfl (y4f _ _ h1 k1) rfl ⟨trivial, trivial, trivial⟩ ?_
 refine xb rfl (fun h => ?_) (fun e1 => ?_)
 · exact xr rfl (q7 rfl ⟨⟨rfl, yk (fun e => q03 h (by simp only [List.cons.injEq, Cell.l.injEq] at e ⊢; simp only [e]; try trivial)), trivial⟩, z6 rfl⟩)
 have e1 := y03 e1
 exact xr rfl (q7 rfl ⟨⟨rfl, qu (by simp [e0, e1]), trivial⟩, z6 rfl⟩)
theorem z1i (p q : List (List Cell)) (hp : WR 9000000000000000000 z8 p) (hq : WR 9000000000000000000 z8 q) : PC Tryz.prog 67 [.one (.l p), .one (.l q)] (rB (dE p q)) := by
 refine PC.begin Tryz.func67 rfl (by kernel_rfl) ?_
 have hpl := hp.1
 have hql := hq.1
 refine xb rfl (fun h => ?_) (fun h => ?_)
 · exact xr rfl (q7 rfl ⟨⟨rfl, yk (fun e => by subst e; simp at h), trivial⟩, z6 rfl⟩)
 have hl : p.length = q.length := by simpa [Int.ofNat_inj] using h
 refine yd rfl (ι := Nat) (fun i => i ≤ p.length ∧ p.take i = q.take i) (fun i => ⟨[(5, sV (.int .i64 i)), (0, .one (.b (.l p))), (1, .one (.b (.l q)))], []⟩) (fun i => p.length - i) 0 ⟨Nat.zero_le _, rfl⟩ ?_ ?_
 · repeat' (first | exact trivial | exact rfl | exact Or.inl rfl | refine And.intro ?_ ?_)
 · intro i ⟨hi, he⟩ J hJ
   refine xb rfl (fun h => ?_) (fun h => ?_)
   · have h : i < p.length := by simpa using h
     obtain ⟨row, hg⟩ : ∃ row, p[i]? = some row := ⟨_, List.getElem?_eq_getElem h⟩
     obtain ⟨row', hg'⟩ : ∃ row, q[i]? = some row := ⟨_, List.getElem?_eq_getElem (by omega)⟩
     obtain ⟨x0, x1, rfl, h1⟩ := y06 (hp.2 row (List.mem_of_getElem? hg))
     obtain ⟨y0, y1, rfl, k1⟩ := y06 (hq.2 row' (List.mem_of_getElem? hg'))
     refine zc rfl [] (.take 0 [] (.take 1 [] (.take 2 [] (.take 3 [8, 9] (.take 4 [] (.take 5 [] (.take 6 [] (.take 7 [8, 9] (.alt 8 (.take 9 [] .done) .nil))))))))) (by kernel_rfl) ?_
     refine xs rfl (Int.natCast_nonneg _) (y9 rfl _ hg (xs rfl rfl ?_))
     refine xs rfl (Int.natCast_nonneg _) (y9 rfl _ hg' (xs rfl rfl ?_))
     refine z7 rfl (q3r _ _ _ _ h1 k1) rfl ⟨⟨trivial, trivial, trivial⟩, ⟨trivial, trivial, trivial⟩, trivial⟩ ?_
     refine xb rfl (fun hb => ?_) (fun hb => ?_)
     · exact xr rfl (q7 rfl ⟨⟨rfl, yk (fun e => by subst e; rw [hg] at hg'; cases hg'; exact q03 hb rfl), trivial⟩, z6 rfl⟩)
     · have hb := y03 hb
       refine ya rfl (hJ _ (i + 1) ⟨by omega, qo he hg (hg'.trans (by rw [hb]))⟩ (by omega) ?_)
       repeat' (first | exact trivial | exact rfl | exact Or.inl rfl | exact cwi (by omega) (by omega) (by omega) | refine And.intro ?_ ?_)
   · have h : ¬ i < p.length := by simpa using h
     exact xr rfl (q7 rfl ⟨⟨rfl, qu (by rw [show i = p.length by omega, List.take_length] at he; rw [he, hl, List.take_length]), trivial⟩, z6 rfl⟩)
theorem y4e (x0 : Int) (x1 : Int) (x2 : Int) (y0 : Int) (y1 : Int) (y2 : Int)   : PC Tryz.prog 225 [.agg [.s (.int .i64 x0), .s (.int .i64 x1), .s (.int .i64 x2)], .agg [.s (.int .i64 y0), .s (.int .i64 y1), .s (.int .i64 y2)]] (rB (dE (α := List Cell) [.s (.int .i64 x0), .s (.int .i64 x1), .s (.int .i64 x2)] [.s (.int .i64 y0), .s (.int .i64 y1), .s (.int .i64 y2)])) := by
 refine PC.begin Tryz.func225 rfl (by kernel_rfl) ?_
 refine xb rfl (fun h => ?_) (fun e0 => ?_)
 · exact xr rfl (q7 rfl ⟨⟨rfl, yk (fun e => by simp only [List.cons.injEq, Cell.s.injEq, Value.int.injEq, Value.bool.injEq, Value.string.injEq] at e; simp [e] at h), trivial⟩, z6 rfl⟩)
 have e0 : x0 = y0 := by simpa using e0
 refine xb rfl (fun h => ?_) (fun e1 => ?_)
 · exact xr rfl (q7 rfl ⟨⟨rfl, yk (fun e => by simp only [List.cons.injEq, Cell.s.injEq, Value.int.injEq, Value.bool.injEq, Value.string.injEq] at e; simp [e] at h), trivial⟩, z6 rfl⟩)
 have e1 : x1 = y1 := by simpa using e1
 refine xb rfl (fun h => ?_) (fun e2 => ?_)
 · exact xr rfl (q7 rfl ⟨⟨rfl, yk (fun e => by simp only [List.cons.injEq, Cell.s.injEq, Value.int.injEq, Value.bool.injEq, Value.string.injEq] at e; simp [e] at h), trivial⟩, z6 rfl⟩)
 have e2 : x2 = y2 := by simpa using e2
 exact xr rfl (q7 rfl ⟨⟨rfl, qu (by simp [e0, e1, e2]), trivial⟩, z6 rfl⟩)
theorem y3r (p q : List (List Cell)) (hp : WR 9000000000000000000 yc p) (hq : WR 9000000000000000000 yc q) : PC Tryz.prog 154 [.one (.l p), .one (.l q)] (rB (dE p q)) := by
 refine PC.begin Tryz.func154 rfl (by kernel_rfl) ?_
 have hpl := hp.1
 have hql := hq.1
 refine xb rfl (fun h => ?_) (fun h => ?_)
 · exact xr rfl (q7 rfl ⟨⟨rfl, yk (fun e => by subst e; simp at h), trivial⟩, z6 rfl⟩)
 have hl : p.length = q.length := by simpa [Int.ofNat_inj] using h
 refine yd rfl (ι := Nat) (fun i => i ≤ p.length ∧ p.take i = q.take i) (fun i => ⟨[(5, sV (.int .i64 i)), (0, .one (.b (.l p))), (1, .one (.b (.l q)))], []⟩) (fun i => p.length - i) 0 ⟨Nat.zero_le _, rfl⟩ ?_ ?_
 · repeat' (first | exact trivial | exact rfl | exact Or.inl rfl | refine And.intro ?_ ?_)
 · intro i ⟨hi, he⟩ J hJ
   refine xb rfl (fun h => ?_) (fun h => ?_)
   · have h : i < p.length := by simpa using h
     obtain ⟨row, hg⟩ : ∃ row, p[i]? = some row := ⟨_, List.getElem?_eq_getElem h⟩
     obtain ⟨row', hg'⟩ : ∃ row, q[i]? = some row := ⟨_, List.getElem?_eq_getElem (by omega)⟩
     obtain ⟨x0, x1, x2, rfl⟩ := z0b (hp.2 row (List.mem_of_getElem? hg))
     obtain ⟨y0, y1, y2, rfl⟩ := z0b (hq.2 row' (List.mem_of_getElem? hg'))
     refine zc rfl [] (.take 0 [] (.take 1 [] (.take 2 [] (.take 3 [8, 9] (.take 4 [] (.take 5 [] (.take 6 [] (.take 7 [8, 9] (.alt 8 (.take 9 [] .done) .nil))))))))) (by kernel_rfl) ?_
     refine xs rfl (Int.natCast_nonneg _) (y9 rfl _ hg (xs rfl rfl ?_))
     refine xs rfl (Int.natCast_nonneg _) (y9 rfl _ hg' (xs rfl rfl ?_))
     refine z7 rfl (y4e _ _ _ _ _ _) rfl ⟨⟨trivial, trivial, trivial, trivial⟩, ⟨trivial, trivial, trivial, trivial⟩, trivial⟩ ?_
     refine xb rfl (fun hb => ?_) (fun hb => ?_)
     · exact xr rfl (q7 rfl ⟨⟨rfl, yk (fun e => by subst e; rw [hg] at hg'; cases hg'; exact q03 hb rfl), trivial⟩, z6 rfl⟩)
     · have hb := y03 hb
       refine ya rfl (hJ _ (i + 1) ⟨by omega, qo he hg (hg'.trans (by rw [hb]))⟩ (by omega) ?_)
       repeat' (first | exact trivial | exact rfl | exact Or.inl rfl | exact cwi (by omega) (by omega) (by omega) | refine And.intro ?_ ?_)
   · have h : ¬ i < p.length := by simpa using h
     exact xr rfl (q7 rfl ⟨⟨rfl, qu (by rw [show i = p.length by omega, List.take_length] at he; rw [he, hl, List.take_length]), trivial⟩, z6 rfl⟩)
theorem z6p (x0 : Int) (x1 : Int) (y0 : Int) (y1 : Int)   : PC Tryz.prog 279 [.agg [.s (.int .i64 x0), .s (.int .i64 x1)], .agg [.s (.int .i64 y0), .s (.int .i64 y1)]] (rB (dE (α := List Cell) [.s (.int .i64 x0), .s (.int .i64 x1)] [.s (.int .i64 y0), .s (.int .i64 y1)])) := by
 refine PC.begin Tryz.func279 rfl (by kernel_rfl) ?_
 refine xb rfl (fun h => ?_) (fun e0 => ?_)
 · exact xr rfl (q7 rfl ⟨⟨rfl, yk (fun e => by simp only [List.cons.injEq, Cell.s.injEq, Value.int.injEq, Value.bool.injEq, Value.string.injEq] at e; simp [e] at h), trivial⟩, z6 rfl⟩)
 have e0 : x0 = y0 := by simpa using e0
 refine xb rfl (fun h => ?_) (fun e1 => ?_)
 · exact xr rfl (q7 rfl ⟨⟨rfl, yk (fun e => by simp only [List.cons.injEq, Cell.s.injEq, Value.int.injEq, Value.bool.injEq, Value.string.injEq] at e; simp [e] at h), trivial⟩, z6 rfl⟩)
 have e1 : x1 = y1 := by simpa using e1
 exact xr rfl (q7 rfl ⟨⟨rfl, qu (by simp [e0, e1]), trivial⟩, z6 rfl⟩)
theorem y3e (p q : List (List Cell)) (hp : WR 9000000000000000000 yh p) (hq : WR 9000000000000000000 yh q) : PC Tryz.prog 216 [.one (.l p), .one (.l q)] (rB (dE p q)) := by
 refine PC.begin Tryz.func216 rfl (by kernel_rfl) ?_
 have hpl := hp.1
 have hql := hq.1
 refine xb rfl (fun h => ?_) (fun h => ?_)
 · exact xr rfl (q7 rfl ⟨⟨rfl, yk (fun e => by subst e; simp at h), trivial⟩, z6 rfl⟩)
 have hl : p.length = q.length := by simpa [Int.ofNat_inj] using h
 refine yd rfl (ι := Nat) (fun i => i ≤ p.length ∧ p.take i = q.take i) (fun i => ⟨[(5, sV (.int .i64 i)), (0, .one (.b (.l p))), (1, .one (.b (.l q)))], []⟩) (fun i => p.length - i) 0 ⟨Nat.zero_le _, rfl⟩ ?_ ?_
 · repeat' (first | exact trivial | exact rfl | exact Or.inl rfl | refine And.intro ?_ ?_)
 · intro i ⟨hi, he⟩ J hJ
   refine xb rfl (fun h => ?_) (fun h => ?_)
   · have h : i < p.length := by simpa using h
     obtain ⟨row, hg⟩ : ∃ row, p[i]? = some row := ⟨_, List.getElem?_eq_getElem h⟩
     obtain ⟨row', hg'⟩ : ∃ row, q[i]? = some row := ⟨_, List.getElem?_eq_getElem (by omega)⟩
     obtain ⟨x0, x1, rfl⟩ := y1d (hp.2 row (List.mem_of_getElem? hg))
     obtain ⟨y0, y1, rfl⟩ := y1d (hq.2 row' (List.mem_of_getElem? hg'))
     refine zc rfl [] (.take 0 [] (.take 1 [] (.take 2 [] (.take 3 [8, 9] (.take 4 [] (.take 5 [] (.take 6 [] (.take 7 [8, 9] (.alt 8 (.take 9 [] .done) .nil))))))))) (by kernel_rfl) ?_
     refine xs rfl (Int.natCast_nonneg _) (y9 rfl _ hg (xs rfl rfl ?_))
     refine xs rfl (Int.natCast_nonneg _) (y9 rfl _ hg' (xs rfl rfl ?_))
     refine z7 rfl (z6p _ _ _ _) rfl ⟨⟨trivial, trivial, trivial⟩, ⟨trivial, trivial, trivial⟩, trivial⟩ ?_
     refine xb rfl (fun hb => ?_) (fun hb => ?_)
     · exact xr rfl (q7 rfl ⟨⟨rfl, yk (fun e => by subst e; rw [hg] at hg'; cases hg'; exact q03 hb rfl), trivial⟩, z6 rfl⟩)
     · have hb := y03 hb
       refine ya rfl (hJ _ (i + 1) ⟨by omega, qo he hg (hg'.trans (by rw [hb]))⟩ (by omega) ?_)
       repeat' (first | exact trivial | exact rfl | exact Or.inl rfl | exact cwi (by omega) (by omega) (by omega) | refine And.intro ?_ ?_)
   · have h : ¬ i < p.length := by simpa using h
     exact xr rfl (q7 rfl ⟨⟨rfl, qu (by rw [show i = p.length by omega, List.take_length] at he; rw [he, hl, List.take_length]), trivial⟩, z6 rfl⟩)
theorem z2r (p q : List (List Cell)) (hp : WR 9000000000000000000 (.i .i64 .nil) p) (hq : WR 9000000000000000000 (.i .i64 .nil) q) : PC Tryz.prog 100 [.one (.l p), .one (.l q)] (rB (dE p q)) := by
 refine PC.begin Tryz.func100 rfl (by kernel_rfl) ?_
 have hpl := hp.1
 have hql := hq.1
 refine xb rfl (fun h => ?_) (fun h => ?_)
 · exact xr rfl (q7 rfl ⟨⟨rfl, yk (fun e => by subst e; simp at h), trivial⟩, z6 rfl⟩)
 have hl : p.length = q.length := by simpa [Int.ofNat_inj] using h
 refine yd rfl (ι := Nat) (fun i => i ≤ p.length ∧ p.take i = q.take i) (fun i => ⟨[(5, sV (.int .i64 i)), (0, .one (.b (.l p))), (1, .one (.b (.l q)))], []⟩) (fun i => p.length - i) 0 ⟨Nat.zero_le _, rfl⟩ ?_ ?_
 · repeat' (first | exact trivial | exact rfl | exact Or.inl rfl | refine And.intro ?_ ?_)
 · intro i ⟨hi, he⟩ J hJ
   refine xb rfl (fun h => ?_) (fun h => ?_)
   · have h : i < p.length := by simpa using h
     obtain ⟨row, hg⟩ : ∃ row, p[i]? = some row := ⟨_, List.getElem?_eq_getElem h⟩
     obtain ⟨row', hg'⟩ : ∃ row, q[i]? = some row := ⟨_, List.getElem?_eq_getElem (by omega)⟩
     obtain ⟨x0, _, rfl, hnil⟩ := ((hp.2 row (List.mem_of_getElem? hg))).qv; obtain rfl := hnil.zy
     obtain ⟨y0, _, rfl, knil⟩ := ((hq.2 row' (List.mem_of_getElem? hg'))).qv; obtain rfl := knil.zy
     refine zc rfl [] (.take 0 [] (.take 1 [] (.take 2 [] (.take 3 [8] (.take 4 [] (.take 5 [] (.take 6 [] (.take 7 [8] (.take 8 [] .done))))))))) (by kernel_rfl) ?_
     refine xs rfl (Int.natCast_nonneg _) (y9 rfl _ hg (xs rfl rfl ?_))
     refine xs rfl (Int.natCast_nonneg _) (y9 rfl _ hg' (xs rfl rfl ?_))
     refine xb rfl (fun hb => ?_) (fun hb => ?_)
     · exact xr rfl (q7 rfl ⟨⟨rfl, yk (fun e => by subst e; rw [hg] at hg'; cases hg'; simp at hb), trivial⟩, z6 rfl⟩)
     · have hb : x0 = y0 := by simpa using hb
       refine ya rfl (hJ _ (i + 1) ⟨by omega, qo he hg (hg'.trans (by rw [hb]))⟩ (by omega) ?_)
       repeat' (first | exact trivial | exact rfl | exact Or.inl rfl | exact cwi (by omega) (by omega) (by omega) | refine And.intro ?_ ?_)
   · have h : ¬ i < p.length := by simpa using h
     exact xr rfl (q7 rfl ⟨⟨rfl, qu (by rw [show i = p.length by omega, List.take_length] at he; rw [he, hl, List.take_length]), trivial⟩, z6 rfl⟩)
theorem y5z (x0 : Int) (x1 : List (List Cell)) (x2 : List (List Cell)) (x3 : List (List Cell)) (x4 : List (List Cell)) (x5 : List (List Cell)) (y0 : Int) (y1 : List (List Cell)) (y2 : List (List Cell)) (y3 : List (List Cell)) (y4 : List (List Cell)) (y5 : List (List Cell)) (h1 : WR 9000000000000000000 yc x1) (h2 : WR 9000000000000000000 yh x2) (h3 : WR 9000000000000000000 z8 x3) (h4 : WR 9000000000000000000 yh x4) (h5 : WR 9000000000000000000 (.i .i64 .nil) x5) (k1 : WR 9000000000000000000 yc y1) (k2 : WR 9000000000000000000 yh y2) (k3 : WR 9000000000000000000 z8 y3) (k4 : WR 9000000000000000000 yh y4) (k5 : WR 9000000000000000000 (.i .i64 .nil) y5) : PC Tryz.prog 137 [.agg [.s (.int .i64 x0), .l x1, .l x2, .l x3, .l x4, .l x5], .agg [.s (.int .i64 y0), .l y1, .l y2, .l y3, .l y4, .l y5]] (rB (dE (α := List Cell) [.s (.int .i64 x0), .l x1, .l x2, .l x3, .l x4, .l x5] [.s (.int .i64 y0), .l y1, .l y2, .l y3, .l y4, .l y5])) := by
 refine PC.begin Tryz.func137 rfl (by kernel_rfl) ?_
 refine xb rfl (fun h => ?_) (fun e0 => ?_)
 · exact xr rfl (q7 rfl ⟨⟨rfl, yk (fun e => by simp only [List.cons.injEq, Cell.s.injEq, Value.int.injEq, Value.bool.injEq, Value.string.injEq] at e; simp [e] at h), trivial⟩, z6 rfl⟩)
 have e0 : x0 = y0 := by simpa using e0
 refine z7 rfl (y3r _ _ h1 k1) rfl ⟨trivial, trivial, trivial⟩ ?_
 refine xb rfl (fun h => ?_) (fun e1 => ?_)
 · exact xr rfl (q7 rfl ⟨⟨rfl, yk (fun e => q03 h (by simp only [List.cons.injEq, Cell.l.injEq] at e ⊢; simp only [e]; try trivial)), trivial⟩, z6 rfl⟩)
 have e1 := y03 e1
 refine z7 rfl (y3e _ _ h2 k2) rfl ⟨trivial, trivial, trivial⟩ ?_
 refine xb rfl (fun h => ?_) (fun e2 => ?_)
 · exact xr rfl (q7 rfl ⟨⟨rfl, yk (fun e => q03 h (by simp only [List.cons.injEq, Cell.l.injEq] at e ⊢; simp only [e]; try trivial)), trivial⟩, z6 rfl⟩)
 have e2 := y03 e2
 refine z7 rfl (z1i _ _ h3 k3) rfl ⟨trivial, trivial, trivial⟩ ?_
 refine xb rfl (fun h => ?_) (fun e3 => ?_)
 · exact xr rfl (q7 rfl ⟨⟨rfl, yk (fun e => q03 h (by simp only [List.cons.injEq, Cell.l.injEq] at e ⊢; simp only [e]; try trivial)), trivial⟩, z6 rfl⟩)
 have e3 := y03 e3
 refine z7 rfl (y3e _ _ h4 k4) rfl ⟨trivial, trivial, trivial⟩ ?_
 refine xb rfl (fun h => ?_) (fun e4 => ?_)
 · exact xr rfl (q7 rfl ⟨⟨rfl, yk (fun e => q03 h (by simp only [List.cons.injEq, Cell.l.injEq] at e ⊢; simp only [e]; try trivial)), trivial⟩, z6 rfl⟩)
 have e4 := y03 e4
 refine z7 rfl (z2r _ _ h5 k5) rfl ⟨trivial, trivial, trivial⟩ ?_
 refine xb rfl (fun h => ?_) (fun e5 => ?_)
 · exact xr rfl (q7 rfl ⟨⟨rfl, yk (fun e => q03 h (by simp only [List.cons.injEq, Cell.l.injEq] at e ⊢; simp only [e]; try trivial)), trivial⟩, z6 rfl⟩)
 have e5 := y03 e5
 exact xr rfl (q7 rfl ⟨⟨rfl, qu (by simp [e0, e1, e2, e3, e4, e5]), trivial⟩, z6 rfl⟩)
theorem z52 (p q : List (List Cell)) (hp : WR 9000000000000000000 qe p) (hq : WR 9000000000000000000 qe q) : PC Tryz.prog 68 [.one (.l p), .one (.l q)] (rB (dE p q)) := by
 refine PC.begin Tryz.func68 rfl (by kernel_rfl) ?_
 have hpl := hp.1
 have hql := hq.1
 refine xb rfl (fun h => ?_) (fun h => ?_)
 · exact xr rfl (q7 rfl ⟨⟨rfl, yk (fun e => by subst e; simp at h), trivial⟩, z6 rfl⟩)
 have hl : p.length = q.length := by simpa [Int.ofNat_inj] using h
 refine yd rfl (ι := Nat) (fun i => i ≤ p.length ∧ p.take i = q.take i) (fun i => ⟨[(5, sV (.int .i64 i)), (0, .one (.b (.l p))), (1, .one (.b (.l q)))], []⟩) (fun i => p.length - i) 0 ⟨Nat.zero_le _, rfl⟩ ?_ ?_
 · repeat' (first | exact trivial | exact rfl | exact Or.inl rfl | refine And.intro ?_ ?_)
 · intro i ⟨hi, he⟩ J hJ
   refine xb rfl (fun h => ?_) (fun h => ?_)
   · have h : i < p.length := by simpa using h
     obtain ⟨row, hg⟩ : ∃ row, p[i]? = some row := ⟨_, List.getElem?_eq_getElem h⟩
     obtain ⟨row', hg'⟩ : ∃ row, q[i]? = some row := ⟨_, List.getElem?_eq_getElem (by omega)⟩
     obtain ⟨x0, x1, x2, x3, x4, x5, rfl, h1, h2, h3, h4, h5⟩ := q0v (hp.2 row (List.mem_of_getElem? hg))
     obtain ⟨y0, y1, y2, y3, y4, y5, rfl, k1, k2, k3, k4, k5⟩ := q0v (hq.2 row' (List.mem_of_getElem? hg'))
     refine zc rfl [] (.take 0 [] (.take 1 [] (.take 2 [] (.take 3 [8, 9] (.take 4 [] (.take 5 [] (.take 6 [] (.take 7 [8, 9] (.alt 8 (.take 9 [] .done) .nil))))))))) (by kernel_rfl) ?_
     refine xs rfl (Int.natCast_nonneg _) (y9 rfl _ hg (xs rfl rfl ?_))
     refine xs rfl (Int.natCast_nonneg _) (y9 rfl _ hg' (xs rfl rfl ?_))
     refine z7 rfl (y5z _ _ _ _ _ _ _ _ _ _ _ _ h1 h2 h3 h4 h5 k1 k2 k3 k4 k5) rfl ⟨⟨trivial, trivial, trivial, trivial, trivial, trivial, trivial⟩, ⟨trivial, trivial, trivial, trivial, trivial, trivial, trivial⟩, trivial⟩ ?_
     refine xb rfl (fun hb => ?_) (fun hb => ?_)
     · exact xr rfl (q7 rfl ⟨⟨rfl, yk (fun e => by subst e; rw [hg] at hg'; cases hg'; exact q03 hb rfl), trivial⟩, z6 rfl⟩)
     · have hb := y03 hb
       refine ya rfl (hJ _ (i + 1) ⟨by omega, qo he hg (hg'.trans (by rw [hb]))⟩ (by omega) ?_)
       repeat' (first | exact trivial | exact rfl | exact Or.inl rfl | exact cwi (by omega) (by omega) (by omega) | refine And.intro ?_ ?_)
   · have h : ¬ i < p.length := by simpa using h
     exact xr rfl (q7 rfl ⟨⟨rfl, qu (by rw [show i = p.length by omega, List.take_length] at he; rw [he, hl, List.take_length]), trivial⟩, z6 rfl⟩)
theorem q2r (x0 : Int) (x1 : Int) (y0 : Int) (y1 : Int)   : PC Tryz.prog 220 [.agg [.s (.int .i64 x0), .s (.int .i64 x1)], .agg [.s (.int .i64 y0), .s (.int .i64 y1)]] (rB (dE (α := List Cell) [.s (.int .i64 x0), .s (.int .i64 x1)] [.s (.int .i64 y0), .s (.int .i64 y1)])) := by
 refine PC.begin Tryz.func220 rfl (by kernel_rfl) ?_
 refine xb rfl (fun h => ?_) (fun e0 => ?_)
 · exact xr rfl (q7 rfl ⟨⟨rfl, yk (fun e => by simp only [List.cons.injEq, Cell.s.injEq, Value.int.injEq, Value.bool.injEq, Value.string.injEq] at e; simp [e] at h), trivial⟩, z6 rfl⟩)
 have e0 : x0 = y0 := by simpa using e0
 refine xb rfl (fun h => ?_) (fun e1 => ?_)
 · exact xr rfl (q7 rfl ⟨⟨rfl, yk (fun e => by simp only [List.cons.injEq, Cell.s.injEq, Value.int.injEq, Value.bool.injEq, Value.string.injEq] at e; simp [e] at h), trivial⟩, z6 rfl⟩)
 have e1 : x1 = y1 := by simpa using e1
 exact xr rfl (q7 rfl ⟨⟨rfl, qu (by simp [e0, e1]), trivial⟩, z6 rfl⟩)
theorem q3e (p q : List (List Cell)) (hp : WR 9000000000000000000 zm p) (hq : WR 9000000000000000000 zm q) : PC Tryz.prog 320 [.one (.l p), .one (.l q)] (rB (dE p q)) := by
 refine PC.begin Tryz.func320 rfl (by kernel_rfl) ?_
 have hpl := hp.1
 have hql := hq.1
 refine xb rfl (fun h => ?_) (fun h => ?_)
 · exact xr rfl (q7 rfl ⟨⟨rfl, yk (fun e => by subst e; simp at h), trivial⟩, z6 rfl⟩)
 have hl : p.length = q.length := by simpa [Int.ofNat_inj] using h
 refine yd rfl (ι := Nat) (fun i => i ≤ p.length ∧ p.take i = q.take i) (fun i => ⟨[(5, sV (.int .i64 i)), (0, .one (.b (.l p))), (1, .one (.b (.l q)))], []⟩) (fun i => p.length - i) 0 ⟨Nat.zero_le _, rfl⟩ ?_ ?_
 · repeat' (first | exact trivial | exact rfl | exact Or.inl rfl | refine And.intro ?_ ?_)
 · intro i ⟨hi, he⟩ J hJ
   refine xb rfl (fun h => ?_) (fun h => ?_)
   · have h : i < p.length := by simpa using h
     obtain ⟨row, hg⟩ : ∃ row, p[i]? = some row := ⟨_, List.getElem?_eq_getElem h⟩
     obtain ⟨row', hg'⟩ : ∃ row, q[i]? = some row := ⟨_, List.getElem?_eq_getElem (by omega)⟩
     obtain ⟨x0, x1, rfl⟩ := z1e (hp.2 row (List.mem_of_getElem? hg))
     obtain ⟨y0, y1, rfl⟩ := z1e (hq.2 row' (List.mem_of_getElem? hg'))
     refine zc rfl [] (.take 0 [] (.take 1 [] (.take 2 [] (.take 3 [8, 9] (.take 4 [] (.take 5 [] (.take 6 [] (.take 7 [8, 9] (.alt 8 (.take 9 [] .done) .nil))))))))) (by kernel_rfl) ?_
     refine xs rfl (Int.natCast_nonneg _) (y9 rfl _ hg (xs rfl rfl ?_))
     refine xs rfl (Int.natCast_nonneg _) (y9 rfl _ hg' (xs rfl rfl ?_))
     refine z7 rfl (q2r _ _ _ _) rfl ⟨⟨trivial, trivial, trivial⟩, ⟨trivial, trivial, trivial⟩, trivial⟩ ?_
     refine xb rfl (fun hb => ?_) (fun hb => ?_)
     · exact xr rfl (q7 rfl ⟨⟨rfl, yk (fun e => by subst e; rw [hg] at hg'; cases hg'; exact q03 hb rfl), trivial⟩, z6 rfl⟩)
     · have hb := y03 hb
       refine ya rfl (hJ _ (i + 1) ⟨by omega, qo he hg (hg'.trans (by rw [hb]))⟩ (by omega) ?_)
       repeat' (first | exact trivial | exact rfl | exact Or.inl rfl | exact cwi (by omega) (by omega) (by omega) | refine And.intro ?_ ?_)
   · have h : ¬ i < p.length := by simpa using h
     exact xr rfl (q7 rfl ⟨⟨rfl, qu (by rw [show i = p.length by omega, List.take_length] at he; rw [he, hl, List.take_length]), trivial⟩, z6 rfl⟩)
theorem y6p (x0 : Int) (x1 : Int) (x2 : Int) (x3 : Int) (x4 : Int) (x5 : List (List Cell)) (y0 : Int) (y1 : Int) (y2 : Int) (y3 : Int) (y4 : Int) (y5 : List (List Cell)) (h5 : WR 9000000000000000000 zm x5) (k5 : WR 9000000000000000000 zm y5) : PC Tryz.prog 280 [.agg [.s (.int .i64 x0), .s (.int .i64 x1), .s (.int .i64 x2), .s (.int .i64 x3), .s (.int .i64 x4), .l x5], .agg [.s (.int .i64 y0), .s (.int .i64 y1), .s (.int .i64 y2), .s (.int .i64 y3), .s (.int .i64 y4), .l y5]] (rB (dE (α := List Cell) [.s (.int .i64 x0), .s (.int .i64 x1), .s (.int .i64 x2), .s (.int .i64 x3), .s (.int .i64 x4), .l x5] [.s (.int .i64 y0), .s (.int .i64 y1), .s (.int .i64 y2), .s (.int .i64 y3), .s (.int .i64 y4), .l y5])) := by
 refine PC.begin Tryz.func280 rfl (by kernel_rfl) ?_
 refine xb rfl (fun h => ?_) (fun e0 => ?_)
 · exact xr rfl (q7 rfl ⟨⟨rfl, yk (fun e => by simp only [List.cons.injEq, Cell.s.injEq, Value.int.injEq, Value.bool.injEq, Value.string.injEq] at e; simp [e] at h), trivial⟩, z6 rfl⟩)
 have e0 : x0 = y0 := by simpa using e0
 refine xb rfl (fun h => ?_) (fun e1 => ?_)
 · exact xr rfl (q7 rfl ⟨⟨rfl, yk (fun e => by simp only [List.cons.injEq, Cell.s.injEq, Value.int.injEq, Value.bool.injEq, Value.string.injEq] at e; simp [e] at h), trivial⟩, z6 rfl⟩)
 have e1 : x1 = y1 := by simpa using e1
 refine xb rfl (fun h => ?_) (fun e2 => ?_)
 · exact xr rfl (q7 rfl ⟨⟨rfl, yk (fun e => by simp only [List.cons.injEq, Cell.s.injEq, Value.int.injEq, Value.bool.injEq, Value.string.injEq] at e; simp [e] at h), trivial⟩, z6 rfl⟩)
 have e2 : x2 = y2 := by simpa using e2
 refine z7 rfl (q2r _ _ _ _) rfl ⟨⟨trivial, trivial, trivial⟩, ⟨trivial, trivial, trivial⟩, trivial⟩ ?_
 refine xb rfl (fun h => ?_) (fun e3 => ?_)
 · exact xr rfl (q7 rfl ⟨⟨rfl, yk (fun e => q03 h (by simp only [List.cons.injEq, Cell.l.injEq] at e ⊢; simp only [e]; try trivial)), trivial⟩, z6 rfl⟩)
 have e3 := y03 e3
 simp only [List.cons.injEq, Cell.s.injEq, Cell.l.injEq, Value.int.injEq, Value.bool.injEq, and_true, true_and] at e3
 refine z7 rfl (q3e _ _ h5 k5) rfl ⟨trivial, trivial, trivial⟩ ?_
 refine xb rfl (fun h => ?_) (fun e5 => ?_)
 · exact xr rfl (q7 rfl ⟨⟨rfl, yk (fun e => q03 h (by simp only [List.cons.injEq, Cell.l.injEq] at e ⊢; simp only [e]; try trivial)), trivial⟩, z6 rfl⟩)
 have e5 := y03 e5
 exact xr rfl (q7 rfl ⟨⟨rfl, qu (by simp [e0, e1, e2, e3, e5]), trivial⟩, z6 rfl⟩)
theorem q5z (p q : List (List Cell)) (hp : WR 9000000000000000000 yl p) (hq : WR 9000000000000000000 yl q) : PC Tryz.prog 217 [.one (.l p), .one (.l q)] (rB (dE p q)) := by
 refine PC.begin Tryz.func217 rfl (by kernel_rfl) ?_
 have hpl := hp.1
 have hql := hq.1
 refine xb rfl (fun h => ?_) (fun h => ?_)
 · exact xr rfl (q7 rfl ⟨⟨rfl, yk (fun e => by subst e; simp at h), trivial⟩, z6 rfl⟩)
 have hl : p.length = q.length := by simpa [Int.ofNat_inj] using h
 refine yd rfl (ι := Nat) (fun i => i ≤ p.length ∧ p.take i = q.take i) (fun i => ⟨[(5, sV (.int .i64 i)), (0, .one (.b (.l p))), (1, .one (.b (.l q)))], []⟩) (fun i => p.length - i) 0 ⟨Nat.zero_le _, rfl⟩ ?_ ?_
 · repeat' (first | exact trivial | exact rfl | exact Or.inl rfl | refine And.intro ?_ ?_)
 · intro i ⟨hi, he⟩ J hJ
   refine xb rfl (fun h => ?_) (fun h => ?_)
   · have h : i < p.length := by simpa using h
     obtain ⟨row, hg⟩ : ∃ row, p[i]? = some row := ⟨_, List.getElem?_eq_getElem h⟩
     obtain ⟨row', hg'⟩ : ∃ row, q[i]? = some row := ⟨_, List.getElem?_eq_getElem (by omega)⟩
     obtain ⟨x0, x1, x2, x3, x4, x5, rfl, h5⟩ := q1d (hp.2 row (List.mem_of_getElem? hg))
     obtain ⟨y0, y1, y2, y3, y4, y5, rfl, k5⟩ := q1d (hq.2 row' (List.mem_of_getElem? hg'))
     refine zc rfl [] (.take 0 [] (.take 1 [] (.take 2 [] (.take 3 [8, 9] (.take 4 [] (.take 5 [] (.take 6 [] (.take 7 [8, 9] (.alt 8 (.take 9 [] .done) .nil))))))))) (by kernel_rfl) ?_
     refine xs rfl (Int.natCast_nonneg _) (y9 rfl _ hg (xs rfl rfl ?_))
     refine xs rfl (Int.natCast_nonneg _) (y9 rfl _ hg' (xs rfl rfl ?_))
     refine z7 rfl (y6p _ _ _ _ _ _ _ _ _ _ _ _ h5 k5) rfl ⟨⟨trivial, trivial, trivial, trivial, trivial, trivial, trivial⟩, ⟨trivial, trivial, trivial, trivial, trivial, trivial, trivial⟩, trivial⟩ ?_
     refine xb rfl (fun hb => ?_) (fun hb => ?_)
     · exact xr rfl (q7 rfl ⟨⟨rfl, yk (fun e => by subst e; rw [hg] at hg'; cases hg'; exact q03 hb rfl), trivial⟩, z6 rfl⟩)
     · have hb := y03 hb
       refine ya rfl (hJ _ (i + 1) ⟨by omega, qo he hg (hg'.trans (by rw [hb]))⟩ (by omega) ?_)
       repeat' (first | exact trivial | exact rfl | exact Or.inl rfl | exact cwi (by omega) (by omega) (by omega) | refine And.intro ?_ ?_)
   · have h : ¬ i < p.length := by simpa using h
     exact xr rfl (q7 rfl ⟨⟨rfl, qu (by rw [show i = p.length by omega, List.take_length] at he; rw [he, hl, List.take_length]), trivial⟩, z6 rfl⟩)
theorem z3r (x0 : List (List Cell)) (y0 : List (List Cell)) (h0 : WR 9000000000000000000 yl x0) (k0 : WR 9000000000000000000 yl y0) : PC Tryz.prog 138 [.agg [.l x0], .agg [.l y0]] (rB (dE (α := List Cell) [.l x0] [.l y0])) := by
 refine PC.begin Tryz.func138 rfl (by kernel_rfl) ?_
 refine z7 rfl (q5z _ _ h0 k0) rfl ⟨trivial, trivial, trivial⟩ ?_
 refine xb rfl (fun h => ?_) (fun e0 => ?_)
 · exact xr rfl (q7 rfl ⟨⟨rfl, yk (fun e => q03 h (by simp only [List.cons.injEq, Cell.l.injEq] at e ⊢; simp only [e]; try trivial)), trivial⟩, z6 rfl⟩)
 have e0 := y03 e0
 exact xr rfl (q7 rfl ⟨⟨rfl, qu (by simp [e0]), trivial⟩, z6 rfl⟩)
theorem y38 (p q : List (List Cell)) (hp : WR 9000000000000000000 za p) (hq : WR 9000000000000000000 za q) : PC Tryz.prog 69 [.one (.l p), .one (.l q)] (rB (dE p q)) := by
 refine PC.begin Tryz.func69 rfl (by kernel_rfl) ?_
 have hpl := hp.1
 have hql := hq.1
 refine xb rfl (fun h => ?_) (fun h => ?_)
 · exact xr rfl (q7 rfl ⟨⟨rfl, yk (fun e => by subst e; simp at h), trivial⟩, z6 rfl⟩)
 have hl : p.length = q.length := by simpa [Int.ofNat_inj] using h
 refine yd rfl (ι := Nat) (fun i => i ≤ p.length ∧ p.take i = q.take i) (fun i => ⟨[(5, sV (.int .i64 i)), (0, .one (.b (.l p))), (1, .one (.b (.l q)))], []⟩) (fun i => p.length - i) 0 ⟨Nat.zero_le _, rfl⟩ ?_ ?_
 · repeat' (first | exact trivial | exact rfl | exact Or.inl rfl | refine And.intro ?_ ?_)
 · intro i ⟨hi, he⟩ J hJ
   refine xb rfl (fun h => ?_) (fun h => ?_)
   · have h : i < p.length := by simpa using h
     obtain ⟨row, hg⟩ : ∃ row, p[i]? = some row := ⟨_, List.getElem?_eq_getElem h⟩
     obtain ⟨row', hg'⟩ : ∃ row, q[i]? = some row := ⟨_, List.getElem?_eq_getElem (by omega)⟩
     obtain ⟨x0, rfl, h0⟩ := z06 (hp.2 row (List.mem_of_getElem? hg))
     obtain ⟨y0, rfl, k0⟩ := z06 (hq.2 row' (List.mem_of_getElem? hg'))
     refine zc rfl [] (.take 0 [] (.take 1 [] (.take 2 [] (.take 3 [8, 9] (.take 4 [] (.take 5 [] (.take 6 [] (.take 7 [8, 9] (.alt 8 (.take 9 [] .done) .nil))))))))) (by kernel_rfl) ?_
     refine xs rfl (Int.natCast_nonneg _) (y9 rfl _ hg (xs rfl rfl ?_))
     refine xs rfl (Int.natCast_nonneg _) (y9 rfl _ hg' (xs rfl rfl ?_))
     refine z7 rfl (z3r _ _ h0 k0) rfl ⟨⟨trivial, trivial⟩, ⟨trivial, trivial⟩, trivial⟩ ?_
     refine xb rfl (fun hb => ?_) (fun hb => ?_)
     · exact xr rfl (q7 rfl ⟨⟨rfl, yk (fun e => by subst e; rw [hg] at hg'; cases hg'; exact q03 hb rfl), trivial⟩, z6 rfl⟩)
     · have hb := y03 hb
       refine ya rfl (hJ _ (i + 1) ⟨by omega, qo he hg (hg'.trans (by rw [hb]))⟩ (by omega) ?_)
       repeat' (first | exact trivial | exact rfl | exact Or.inl rfl | exact cwi (by omega) (by omega) (by omega) | refine And.intro ?_ ?_)
   · have h : ¬ i < p.length := by simpa using h
     exact xr rfl (q7 rfl ⟨⟨rfl, qu (by rw [show i = p.length by omega, List.take_length] at he; rw [he, hl, List.take_length]), trivial⟩, z6 rfl⟩)
theorem y7q (x0 : Int) (x1 : Int) (x2 : Int) (x3 : Int) (x4 : List (List Cell)) (x5 : List (List Cell)) (y0 : Int) (y1 : Int) (y2 : Int) (y3 : Int) (y4 : List (List Cell)) (y5 : List (List Cell)) (h4 : WR 9000000000000000000 (.i .i64 .nil) x4) (h5 : WR 9000000000000000000 zm x5) (k4 : WR 9000000000000000000 (.i .i64 .nil) y4) (k5 : WR 9000000000000000000 zm y5) : PC Tryz.prog 281 [.agg [.s (.int .i64 x0), .s (.int .i64 x1), .s (.int .i64 x2), .s (.int .i64 x3), .l x4, .l x5], .agg [.s (.int .i64 y0), .s (.int .i64 y1), .s (.int .i64 y2), .s (.int .i64 y3), .l y4, .l y5]] (rB (dE (α := List Cell) [.s (.int .i64 x0), .s (.int .i64 x1), .s (.int .i64 x2), .s (.int .i64 x3), .l x4, .l x5] [.s (.int .i64 y0), .s (.int .i64 y1), .s (.int .i64 y2), .s (.int .i64 y3), .l y4, .l y5])) := by
 refine PC.begin Tryz.func281 rfl (by kernel_rfl) ?_
 refine xb rfl (fun h => ?_) (fun e0 => ?_)
 · exact xr rfl (q7 rfl ⟨⟨rfl, yk (fun e => by simp only [List.cons.injEq, Cell.s.injEq, Value.int.injEq, Value.bool.injEq, Value.string.injEq] at e; simp [e] at h), trivial⟩, z6 rfl⟩)
 have e0 : x0 = y0 := by simpa using e0
 refine xb rfl (fun h => ?_) (fun e1 => ?_)
 · exact xr rfl (q7 rfl ⟨⟨rfl, yk (fun e => by simp only [List.cons.injEq, Cell.s.injEq, Value.int.injEq, Value.bool.injEq, Value.string.injEq] at e; simp [e] at h), trivial⟩, z6 rfl⟩)
 have e1 : x1 = y1 := by simpa using e1
 refine xb rfl (fun h => ?_) (fun e2 => ?_)
 · exact xr rfl (q7 rfl ⟨⟨rfl, yk (fun e => by simp only [List.cons.injEq, Cell.s.injEq, Value.int.injEq, Value.bool.injEq, Value.string.injEq] at e; simp [e] at h), trivial⟩, z6 rfl⟩)
 have e2 : x2 = y2 := by simpa using e2
 refine xb rfl (fun h => ?_) (fun e3 => ?_)
 · exact xr rfl (q7 rfl ⟨⟨rfl, yk (fun e => by simp only [List.cons.injEq, Cell.s.injEq, Value.int.injEq, Value.bool.injEq, Value.string.injEq] at e; simp [e] at h), trivial⟩, z6 rfl⟩)
 have e3 : x3 = y3 := by simpa using e3
 refine z7 rfl (z2r _ _ h4 k4) rfl ⟨trivial, trivial, trivial⟩ ?_
 refine xb rfl (fun h => ?_) (fun e4 => ?_)
 · exact xr rfl (q7 rfl ⟨⟨rfl, yk (fun e => q03 h (by simp only [List.cons.injEq, Cell.l.injEq] at e ⊢; simp only [e]; try trivial)), trivial⟩, z6 rfl⟩)
 have e4 := y03 e4
 refine z7 rfl (q3e _ _ h5 k5) rfl ⟨trivial, trivial, trivial⟩ ?_
 refine xb rfl (fun h => ?_) (fun e5 => ?_)
 · exact xr rfl (q7 rfl ⟨⟨rfl, yk (fun e => q03 h (by simp only [List.cons.injEq, Cell.l.injEq] at e ⊢; simp only [e]; try trivial)), trivial⟩, z6 rfl⟩)
 have e5 := y03 e5
 exact xr rfl (q7 rfl ⟨⟨rfl, qu (by simp [e0, e1, e2, e3, e4, e5]), trivial⟩, z6 rfl⟩)
theorem q6p (p q : List (List Cell)) (hp : WR 9000000000000000000 yp p) (hq : WR 9000000000000000000 yp q) : PC Tryz.prog 218 [.one (.l p), .one (.l q)] (rB (dE p q)) := by
 refine PC.begin Tryz.func218 rfl (by kernel_rfl) ?_
 have hpl := hp.1
 have hql := hq.1
 refine xb rfl (fun h => ?_) (fun h => ?_)
 · exact xr rfl (q7 rfl ⟨⟨rfl, yk (fun e => by subst e; simp at h), trivial⟩, z6 rfl⟩)
 have hl : p.length = q.length := by simpa [Int.ofNat_inj] using h
 refine yd rfl (ι := Nat) (fun i => i ≤ p.length ∧ p.take i = q.take i) (fun i => ⟨[(5, sV (.int .i64 i)), (0, .one (.b (.l p))), (1, .one (.b (.l q)))], []⟩) (fun i => p.length - i) 0 ⟨Nat.zero_le _, rfl⟩ ?_ ?_
 · repeat' (first | exact trivial | exact rfl | exact Or.inl rfl | refine And.intro ?_ ?_)
 · intro i ⟨hi, he⟩ J hJ
   refine xb rfl (fun h => ?_) (fun h => ?_)
   · have h : i < p.length := by simpa using h
     obtain ⟨row, hg⟩ : ∃ row, p[i]? = some row := ⟨_, List.getElem?_eq_getElem h⟩
     obtain ⟨row', hg'⟩ : ∃ row, q[i]? = some row := ⟨_, List.getElem?_eq_getElem (by omega)⟩
     obtain ⟨x0, x1, x2, x3, x4, x5, rfl, h4, h5⟩ := y25 (hp.2 row (List.mem_of_getElem? hg))
     obtain ⟨y0, y1, y2, y3, y4, y5, rfl, k4, k5⟩ := y25 (hq.2 row' (List.mem_of_getElem? hg'))
     refine zc rfl [] (.take 0 [] (.take 1 [] (.take 2 [] (.take 3 [8, 9] (.take 4 [] (.take 5 [] (.take 6 [] (.take 7 [8, 9] (.alt 8 (.take 9 [] .done) .nil))))))))) (by kernel_rfl) ?_
     refine xs rfl (Int.natCast_nonneg _) (y9 rfl _ hg (xs rfl rfl ?_))
     refine xs rfl (Int.natCast_nonneg _) (y9 rfl _ hg' (xs rfl rfl ?_))
     refine z7 rfl (y7q _ _ _ _ _ _ _ _ _ _ _ _ h4 h5 k4 k5) rfl ⟨⟨trivial, trivial, trivial, trivial, trivial, trivial, trivial⟩, ⟨trivial, trivial, trivial, trivial, trivial, trivial, trivial⟩, trivial⟩ ?_
     refine xb rfl (fun hb => ?_) (fun hb => ?_)
     · exact xr rfl (q7 rfl ⟨⟨rfl, yk (fun e => by subst e; rw [hg] at hg'; cases hg'; exact q03 hb rfl), trivial⟩, z6 rfl⟩)
     · have hb := y03 hb
       refine ya rfl (hJ _ (i + 1) ⟨by omega, qo he hg (hg'.trans (by rw [hb]))⟩ (by omega) ?_)
       repeat' (first | exact trivial | exact rfl | exact Or.inl rfl | exact cwi (by omega) (by omega) (by omega) | refine And.intro ?_ ?_)
   · have h : ¬ i < p.length := by simpa using h
     exact xr rfl (q7 rfl ⟨⟨rfl, qu (by rw [show i = p.length by omega, List.take_length] at he; rw [he, hl, List.take_length]), trivial⟩, z6 rfl⟩)
theorem z5z (x0 : Int) (x1 : Int) (x2 : Int) (x3 : Int) (x4 : Int) (y0 : Int) (y1 : Int) (y2 : Int) (y3 : Int) (y4 : Int)   : PC Tryz.prog 282 [.agg [.s (.int .i64 x0), .s (.int .i64 x1), .s (.int .i64 x2), .s (.int .i64 x3), .s (.int .i64 x4)], .agg [.s (.int .i64 y0), .s (.int .i64 y1), .s (.int .i64 y2), .s (.int .i64 y3), .s (.int .i64 y4)]] (rB (dE (α := List Cell) [.s (.int .i64 x0), .s (.int .i64 x1), .s (.int .i64 x2), .s (.int .i64 x3), .s (.int .i64 x4)] [.s (.int .i64 y0), .s (.int .i64 y1), .s (.int .i64 y2), .s (.int .i64 y3), .s (.int .i64 y4)])) := by
 refine PC.begin Tryz.func282 rfl (by kernel_rfl) ?_
 refine xb rfl (fun h => ?_) (fun e0 => ?_)
 · exact xr rfl (q7 rfl ⟨⟨rfl, yk (fun e => by simp only [List.cons.injEq, Cell.s.injEq, Value.int.injEq, Value.bool.injEq, Value.string.injEq] at e; simp [e] at h), trivial⟩, z6 rfl⟩)
 have e0 : x0 = y0 := by simpa using e0
 refine xb rfl (fun h => ?_) (fun e1 => ?_)
 · exact xr rfl (q7 rfl ⟨⟨rfl, yk (fun e => by simp only [List.cons.injEq, Cell.s.injEq, Value.int.injEq, Value.bool.injEq, Value.string.injEq] at e; simp [e] at h), trivial⟩, z6 rfl⟩)
 have e1 : x1 = y1 := by simpa using e1
 refine xb rfl (fun h => ?_) (fun e2 => ?_)
 · exact xr rfl (q7 rfl ⟨⟨rfl, yk (fun e => by simp only [List.cons.injEq, Cell.s.injEq, Value.int.injEq, Value.bool.injEq, Value.string.injEq] at e; simp [e] at h), trivial⟩, z6 rfl⟩)
 have e2 : x2 = y2 := by simpa using e2
 refine xb rfl (fun h => ?_) (fun e3 => ?_)
 · exact xr rfl (q7 rfl ⟨⟨rfl, yk (fun e => by simp only [List.cons.injEq, Cell.s.injEq, Value.int.injEq, Value.bool.injEq, Value.string.injEq] at e; simp [e] at h), trivial⟩, z6 rfl⟩)
 have e3 : x3 = y3 := by simpa using e3
 refine xb rfl (fun h => ?_) (fun e4 => ?_)
 · exact xr rfl (q7 rfl ⟨⟨rfl, yk (fun e => by simp only [List.cons.injEq, Cell.s.injEq, Value.int.injEq, Value.bool.injEq, Value.string.injEq] at e; simp [e] at h), trivial⟩, z6 rfl⟩)
 have e4 : x4 = y4 := by simpa using e4
 exact xr rfl (q7 rfl ⟨⟨rfl, qu (by simp [e0, e1, e2, e3, e4]), trivial⟩, z6 rfl⟩)
theorem y51 (p q : List (List Cell)) (hp : WR 9000000000000000000 yn p) (hq : WR 9000000000000000000 yn q) : PC Tryz.prog 219 [.one (.l p), .one (.l q)] (rB (dE p q)) := by
 refine PC.begin Tryz.func219 rfl (by kernel_rfl) ?_
 have hpl := hp.1
 have hql := hq.1
 refine xb rfl (fun h => ?_) (fun h => ?_)
 · exact xr rfl (q7 rfl ⟨⟨rfl, yk (fun e => by subst e; simp at h), trivial⟩, z6 rfl⟩)
 have hl : p.length = q.length := by simpa [Int.ofNat_inj] using h
 refine yd rfl (ι := Nat) (fun i => i ≤ p.length ∧ p.take i = q.take i) (fun i => ⟨[(5, sV (.int .i64 i)), (0, .one (.b (.l p))), (1, .one (.b (.l q)))], []⟩) (fun i => p.length - i) 0 ⟨Nat.zero_le _, rfl⟩ ?_ ?_
 · repeat' (first | exact trivial | exact rfl | exact Or.inl rfl | refine And.intro ?_ ?_)
 · intro i ⟨hi, he⟩ J hJ
   refine xb rfl (fun h => ?_) (fun h => ?_)
   · have h : i < p.length := by simpa using h
     obtain ⟨row, hg⟩ : ∃ row, p[i]? = some row := ⟨_, List.getElem?_eq_getElem h⟩
     obtain ⟨row', hg'⟩ : ∃ row, q[i]? = some row := ⟨_, List.getElem?_eq_getElem (by omega)⟩
     obtain ⟨x0, x1, x2, x3, x4, rfl⟩ := y0v (hp.2 row (List.mem_of_getElem? hg))
     obtain ⟨y0, y1, y2, y3, y4, rfl⟩ := y0v (hq.2 row' (List.mem_of_getElem? hg'))
     refine zc rfl [] (.take 0 [] (.take 1 [] (.take 2 [] (.take 3 [8, 9] (.take 4 [] (.take 5 [] (.take 6 [] (.take 7 [8, 9] (.alt 8 (.take 9 [] .done) .nil))))))))) (by kernel_rfl) ?_
     refine xs rfl (Int.natCast_nonneg _) (y9 rfl _ hg (xs rfl rfl ?_))
     refine xs rfl (Int.natCast_nonneg _) (y9 rfl _ hg' (xs rfl rfl ?_))
     refine z7 rfl (z5z _ _ _ _ _ _ _ _ _ _) rfl ⟨⟨trivial, trivial, trivial, trivial, trivial, trivial⟩, ⟨trivial, trivial, trivial, trivial, trivial, trivial⟩, trivial⟩ ?_
     refine xb rfl (fun hb => ?_) (fun hb => ?_)
     · exact xr rfl (q7 rfl ⟨⟨rfl, yk (fun e => by subst e; rw [hg] at hg'; cases hg'; exact q03 hb rfl), trivial⟩, z6 rfl⟩)
     · have hb := y03 hb
       refine ya rfl (hJ _ (i + 1) ⟨by omega, qo he hg (hg'.trans (by rw [hb]))⟩ (by omega) ?_)
       repeat' (first | exact trivial | exact rfl | exact Or.inl rfl | exact cwi (by omega) (by omega) (by omega) | refine And.intro ?_ ?_)
   · have h : ¬ i < p.length := by simpa using h
     exact xr rfl (q7 rfl ⟨⟨rfl, qu (by rw [show i = p.length by omega, List.take_length] at he; rw [he, hl, List.take_length]), trivial⟩, z6 rfl⟩)
theorem q51 (x0 : Int) (x1 : List (List Cell)) (x2 : List (List Cell)) (y0 : Int) (y1 : List (List Cell)) (y2 : List (List Cell)) (h1 : WR 9000000000000000000 yp x1) (h2 : WR 9000000000000000000 yn x2) (k1 : WR 9000000000000000000 yp y1) (k2 : WR 9000000000000000000 yn y2) : PC Tryz.prog 139 [.agg [.s (.int .i64 x0), .l x1, .l x2], .agg [.s (.int .i64 y0), .l y1, .l y2]] (rB (dE (α := List Cell) [.s (.int .i64 x0), .l x1, .l x2] [.s (.int .i64 y0), .l y1, .l y2])) := by
 refine PC.begin Tryz.func139 rfl (by kernel_rfl) ?_
 refine xb rfl (fun h => ?_) (fun e0 => ?_)
 · exact xr rfl (q7 rfl ⟨⟨rfl, yk (fun e => by simp only [List.cons.injEq, Cell.s.injEq, Value.int.injEq, Value.bool.injEq, Value.string.injEq] at e; simp [e] at h), trivial⟩, z6 rfl⟩)
 have e0 : x0 = y0 := by simpa using e0
 refine z7 rfl (q6p _ _ h1 k1) rfl ⟨trivial, trivial, trivial⟩ ?_
 refine xb rfl (fun h => ?_) (fun e1 => ?_)
 · exact xr rfl (q7 rfl ⟨⟨rfl, yk (fun e => q03 h (by simp only [List.cons.injEq, Cell.l.injEq] at e ⊢; simp only [e]; try trivial)), trivial⟩, z6 rfl⟩)
 have e1 := y03 e1
 refine z7 rfl (y51 _ _ h2 k2) rfl ⟨trivial, trivial, trivial⟩ ?_
 refine xb rfl (fun h => ?_) (fun e2 => ?_)
 · exact xr rfl (q7 rfl ⟨⟨rfl, yk (fun e => q03 h (by simp only [List.cons.injEq, Cell.l.injEq] at e ⊢; simp only [e]; try trivial)), trivial⟩, z6 rfl⟩)
 have e2 := y03 e2
 exact xr rfl (q7 rfl ⟨⟨rfl, qu (by simp [e0, e1, e2]), trivial⟩, z6 rfl⟩)
theorem z4f (p q : List (List Cell)) (hp : WR 9000000000000000000 qd p) (hq : WR 9000000000000000000 qd q) : PC Tryz.prog 70 [.one (.l p), .one (.l q)] (rB (dE p q)) := by
 refine PC.begin Tryz.func70 rfl (by kernel_rfl) ?_
 have hpl := hp.1
 have hql := hq.1
 refine xb rfl (fun h => ?_) (fun h => ?_)
 · exact xr rfl (q7 rfl ⟨⟨rfl, yk (fun e => by subst e; simp at h), trivial⟩, z6 rfl⟩)
 have hl : p.length = q.length := by simpa [Int.ofNat_inj] using h
 refine yd rfl (ι := Nat) (fun i => i ≤ p.length ∧ p.take i = q.take i) (fun i => ⟨[(5, sV (.int .i64 i)), (0, .one (.b (.l p))), (1, .one (.b (.l q)))], []⟩) (fun i => p.length - i) 0 ⟨Nat.zero_le _, rfl⟩ ?_ ?_
 · repeat' (first | exact trivial | exact rfl | exact Or.inl rfl | refine And.intro ?_ ?_)
 · intro i ⟨hi, he⟩ J hJ
   refine xb rfl (fun h => ?_) (fun h => ?_)
   · have h : i < p.length := by simpa using h
     obtain ⟨row, hg⟩ : ∃ row, p[i]? = some row := ⟨_, List.getElem?_eq_getElem h⟩
     obtain ⟨row', hg'⟩ : ∃ row, q[i]? = some row := ⟨_, List.getElem?_eq_getElem (by omega)⟩
     obtain ⟨x0, x1, x2, rfl, h1, h2⟩ := y0j (hp.2 row (List.mem_of_getElem? hg))
     obtain ⟨y0, y1, y2, rfl, k1, k2⟩ := y0j (hq.2 row' (List.mem_of_getElem? hg'))
     refine zc rfl [] (.take 0 [] (.take 1 [] (.take 2 [] (.take 3 [8, 9] (.take 4 [] (.take 5 [] (.take 6 [] (.take 7 [8, 9] (.alt 8 (.take 9 [] .done) .nil))))))))) (by kernel_rfl) ?_
     refine xs rfl (Int.natCast_nonneg _) (y9 rfl _ hg (xs rfl rfl ?_))
     refine xs rfl (Int.natCast_nonneg _) (y9 rfl _ hg' (xs rfl rfl ?_))
     refine z7 rfl (q51 _ _ _ _ _ _ h1 h2 k1 k2) rfl ⟨⟨trivial, trivial, trivial, trivial⟩, ⟨trivial, trivial, trivial, trivial⟩, trivial⟩ ?_
     refine xb rfl (fun hb => ?_) (fun hb => ?_)
     · exact xr rfl (q7 rfl ⟨⟨rfl, yk (fun e => by subst e; rw [hg] at hg'; cases hg'; exact q03 hb rfl), trivial⟩, z6 rfl⟩)
     · have hb := y03 hb
       refine ya rfl (hJ _ (i + 1) ⟨by omega, qo he hg (hg'.trans (by rw [hb]))⟩ (by omega) ?_)
       repeat' (first | exact trivial | exact rfl | exact Or.inl rfl | exact cwi (by omega) (by omega) (by omega) | refine And.intro ?_ ?_)
   · have h : ¬ i < p.length := by simpa using h
     exact xr rfl (q7 rfl ⟨⟨rfl, qu (by rw [show i = p.length by omega, List.take_length] at he; rw [he, hl, List.take_length]), trivial⟩, z6 rfl⟩)
theorem q4f (x0 : Int) (x1 : Int) (x2 : Int) (x3 : Int) (x4 : Int) (x5 : Int) (x6 : Int) (x7 : Int) (x8 : Int) (y0 : Int) (y1 : Int) (y2 : Int) (y3 : Int) (y4 : Int) (y5 : Int) (y6 : Int) (y7 : Int) (y8 : Int)   : PC Tryz.prog 140 [.agg [.s (.int .i64 x0), .s (.int .i64 x1), .s (.int .i64 x2), .s (.int .i64 x3), .s (.int .i64 x4), .s (.int .i64 x5), .s (.int .i64 x6), .s (.int .i64 x7), .s (.int .i64 x8)], .agg [.s (.int .i64 y0), .s (.int .i64 y1), .s (.int .i64 y2), .s (.int .i64 y3), .s (.int .i64 y4), .s (.int .i64 y5), .s (.int .i64 y6), .s (.int .i64 y7), .s (.int .i64 y8)]] (rB (dE (α := List Cell) [.s (.int .i64 x0), .s (.int .i64 x1), .s (.int .i64 x2), .s (.int .i64 x3), .s (.int .i64 x4), .s (.int .i64 x5), .s (.int .i64 x6), .s (.int .i64 x7), .s (.int .i64 x8)] [.s (.int .i64 y0), .s (.int .i64 y1), .s (.int .i64 y2), .s (.int .i64 y3), .s (.int .i64 y4), .s (.int .i64 y5), .s (.int .i64 y6), .s (.int .i64 y7), .s (.int .i64 y8)])) := by
 refine PC.begin Tryz.func140 rfl (by kernel_rfl) ?_
 refine xb rfl (fun h => ?_) (fun e0 => ?_)
 · exact xr rfl (q7 rfl ⟨⟨rfl, yk (fun e => by simp only [List.cons.injEq, Cell.s.injEq, Value.int.injEq, Value.bool.injEq, Value.string.injEq] at e; simp [e] at h), trivial⟩, z6 rfl⟩)
 have e0 : x0 = y0 := by simpa using e0
 refine xb rfl (fun h => ?_) (fun e1 => ?_)
 · exact xr rfl (q7 rfl ⟨⟨rfl, yk (fun e => by simp only [List.cons.injEq, Cell.s.injEq, Value.int.injEq, Value.bool.injEq, Value.string.injEq] at e; simp [e] at h), trivial⟩, z6 rfl⟩)
 have e1 : x1 = y1 := by simpa using e1
 refine xb rfl (fun h => ?_) (fun e2 => ?_)
 · exact xr rfl (q7 rfl ⟨⟨rfl, yk (fun e => by simp only [List.cons.injEq, Cell.s.injEq, Value.int.injEq, Value.bool.injEq, Value.string.injEq] at e; simp [e] at h), trivial⟩, z6 rfl⟩)
 have e2 : x2 = y2 := by simpa using e2
 refine xb rfl (fun h => ?_) (fun e3 => ?_)
 · exact xr rfl (q7 rfl ⟨⟨rfl, yk (fun e => by simp only [List.cons.injEq, Cell.s.injEq, Value.int.injEq, Value.bool.injEq, Value.string.injEq] at e; simp [e] at h), trivial⟩, z6 rfl⟩)
 have e3 : x3 = y3 := by simpa using e3
 refine xb rfl (fun h => ?_) (fun e4 => ?_)
 · exact xr rfl (q7 rfl ⟨⟨rfl, yk (fun e => by simp only [List.cons.injEq, Cell.s.injEq, Value.int.injEq, Value.bool.injEq, Value.string.injEq] at e; simp [e] at h), trivial⟩, z6 rfl⟩)
 have e4 : x4 = y4 := by simpa using e4
 refine xb rfl (fun h => ?_) (fun e5 => ?_)
 · exact xr rfl (q7 rfl ⟨⟨rfl, yk (fun e => by simp only [List.cons.injEq, Cell.s.injEq, Value.int.injEq, Value.bool.injEq, Value.string.injEq] at e; simp [e] at h), trivial⟩, z6 rfl⟩)
 have e5 : x5 = y5 := by simpa using e5
 refine xb rfl (fun h => ?_) (fun e6 => ?_)
 · exact xr rfl (q7 rfl ⟨⟨rfl, yk (fun e => by simp only [List.cons.injEq, Cell.s.injEq, Value.int.injEq, Value.bool.injEq, Value.string.injEq] at e; simp [e] at h), trivial⟩, z6 rfl⟩)
 have e6 : x6 = y6 := by simpa using e6
 refine z7 rfl (q2r _ _ _ _) rfl ⟨⟨trivial, trivial, trivial⟩, ⟨trivial, trivial, trivial⟩, trivial⟩ ?_
 refine xb rfl (fun h => ?_) (fun e7 => ?_)
 · exact xr rfl (q7 rfl ⟨⟨rfl, yk (fun e => q03 h (by simp only [List.cons.injEq, Cell.l.injEq] at e ⊢; simp only [e]; try trivial)), trivial⟩, z6 rfl⟩)
 have e7 := y03 e7
 simp only [List.cons.injEq, Cell.s.injEq, Cell.l.injEq, Value.int.injEq, Value.bool.injEq, and_true, true_and] at e7
 exact xr rfl (q7 rfl ⟨⟨rfl, qu (by simp [e0, e1, e2, e3, e4, e5, e6, e7]), trivial⟩, z6 rfl⟩)
theorem y3s (p q : List (List Cell)) (hp : WR 9000000000000000000 zg p) (hq : WR 9000000000000000000 zg q) : PC Tryz.prog 71 [.one (.l p), .one (.l q)] (rB (dE p q)) := by
 refine PC.begin Tryz.func71 rfl (by kernel_rfl) ?_
 have hpl := hp.1
 have hql := hq.1
 refine xb rfl (fun h => ?_) (fun h => ?_)
 · exact xr rfl (q7 rfl ⟨⟨rfl, yk (fun e => by subst e; simp at h), trivial⟩, z6 rfl⟩)
 have hl : p.length = q.length := by simpa [Int.ofNat_inj] using h
 refine yd rfl (ι := Nat) (fun i => i ≤ p.length ∧ p.take i = q.take i) (fun i => ⟨[(5, sV (.int .i64 i)), (0, .one (.b (.l p))), (1, .one (.b (.l q)))], []⟩) (fun i => p.length - i) 0 ⟨Nat.zero_le _, rfl⟩ ?_ ?_
 · repeat' (first | exact trivial | exact rfl | exact Or.inl rfl | refine And.intro ?_ ?_)
 · intro i ⟨hi, he⟩ J hJ
   refine xb rfl (fun h => ?_) (fun h => ?_)
   · have h : i < p.length := by simpa using h
     obtain ⟨row, hg⟩ : ∃ row, p[i]? = some row := ⟨_, List.getElem?_eq_getElem h⟩
     obtain ⟨row', hg'⟩ : ∃ row, q[i]? = some row := ⟨_, List.getElem?_eq_getElem (by omega)⟩
     obtain ⟨x0, x1, x2, x3, x4, x5, x6, x7, x8, rfl⟩ := y0b (hp.2 row (List.mem_of_getElem? hg))
     obtain ⟨y0, y1, y2, y3, y4, y5, y6, y7, y8, rfl⟩ := y0b (hq.2 row' (List.mem_of_getElem? hg'))
     refine zc rfl [] (.take 0 [] (.take 1 [] (.take 2 [] (.take 3 [8, 9] (.take 4 [] (.take 5 [] (.take 6 [] (.take 7 [8, 9] (.alt 8 (.take 9 [] .done) .nil))))))))) (by kernel_rfl) ?_
     refine xs rfl (Int.natCast_nonneg _) (y9 rfl _ hg (xs rfl rfl ?_))
     refine xs rfl (Int.natCast_nonneg _) (y9 rfl _ hg' (xs rfl rfl ?_))
     refine z7 rfl (q4f _ _ _ _ _ _ _ _ _ _ _ _ _ _ _ _ _ _) rfl ⟨⟨trivial, trivial, trivial, trivial, trivial, trivial, trivial, trivial, trivial, trivial⟩, ⟨trivial, trivial, trivial, trivial, trivial, trivial, trivial, trivial, trivial, trivial⟩, trivial⟩ ?_
     refine xb rfl (fun hb => ?_) (fun hb => ?_)
     · exact xr rfl (q7 rfl ⟨⟨rfl, yk (fun e => by subst e; rw [hg] at hg'; cases hg'; exact q03 hb rfl), trivial⟩, z6 rfl⟩)
     · have hb := y03 hb
       refine ya rfl (hJ _ (i + 1) ⟨by omega, qo he hg (hg'.trans (by rw [hb]))⟩ (by omega) ?_)
       repeat' (first | exact trivial | exact rfl | exact Or.inl rfl | exact cwi (by omega) (by omega) (by omega) | refine And.intro ?_ ?_)
   · have h : ¬ i < p.length := by simpa using h
     exact xr rfl (q7 rfl ⟨⟨rfl, qu (by rw [show i = p.length by omega, List.take_length] at he; rw [he, hl, List.take_length]), trivial⟩, z6 rfl⟩)
theorem q4e (x0 : List (List Cell)) (x1 : List (List Cell)) (x2 : List (List Cell)) (x3 : List (List Cell)) (x4 : List (List Cell)) (y0 : List (List Cell)) (y1 : List (List Cell)) (y2 : List (List Cell)) (y3 : List (List Cell)) (y4 : List (List Cell)) (h0 : WR 9000000000000000000 z8 x0) (h1 : WR 9000000000000000000 qe x1) (h2 : WR 9000000000000000000 za x2) (h3 : WR 9000000000000000000 qd x3) (h4 : WR 9000000000000000000 zg x4) (k0 : WR 9000000000000000000 z8 y0) (k1 : WR 9000000000000000000 qe y1) (k2 : WR 9000000000000000000 za y2) (k3 : WR 9000000000000000000 qd y3) (k4 : WR 9000000000000000000 zg y4) : PC Tryz.prog 17 [.agg [.l x0, .l x1, .l x2, .l x3, .l x4], .agg [.l y0, .l y1, .l y2, .l y3, .l y4]] (rB (dE (α := List Cell) [.l x0, .l x1, .l x2, .l x3, .l x4] [.l y0, .l y1, .l y2, .l y3, .l y4])) := by
 refine PC.begin Tryz.func17 rfl (by kernel_rfl) ?_
 refine z7 rfl (z1i _ _ h0 k0) rfl ⟨trivial, trivial, trivial⟩ ?_
 refine xb rfl (fun h => ?_) (fun e0 => ?_)
 · exact xr rfl (q7 rfl ⟨⟨rfl, yk (fun e => q03 h (by simp only [List.cons.injEq, Cell.l.injEq] at e ⊢; simp only [e]; try trivial)), trivial⟩, z6 rfl⟩)
 have e0 := y03 e0
 refine z7 rfl (z52 _ _ h1 k1) rfl ⟨trivial, trivial, trivial⟩ ?_
 refine xb rfl (fun h => ?_) (fun e1 => ?_)
 · exact xr rfl (q7 rfl ⟨⟨rfl, yk (fun e => q03 h (by simp only [List.cons.injEq, Cell.l.injEq] at e ⊢; simp only [e]; try trivial)), trivial⟩, z6 rfl⟩)
 have e1 := y03 e1
 refine z7 rfl (y38 _ _ h2 k2) rfl ⟨trivial, trivial, trivial⟩ ?_
 refine xb rfl (fun h => ?_) (fun e2 => ?_)
 · exact xr rfl (q7 rfl ⟨⟨rfl, yk (fun e => q03 h (by simp only [List.cons.injEq, Cell.l.injEq] at e ⊢; simp only [e]; try trivial)), trivial⟩, z6 rfl⟩)
 have e2 := y03 e2
 refine z7 rfl (z4f _ _ h3 k3) rfl ⟨trivial, trivial, trivial⟩ ?_
 refine xb rfl (fun h => ?_) (fun e3 => ?_)
 · exact xr rfl (q7 rfl ⟨⟨rfl, yk (fun e => q03 h (by simp only [List.cons.injEq, Cell.l.injEq] at e ⊢; simp only [e]; try trivial)), trivial⟩, z6 rfl⟩)
 have e3 := y03 e3
 refine z7 rfl (y3s _ _ h4 k4) rfl ⟨trivial, trivial, trivial⟩ ?_
 refine xb rfl (fun h => ?_) (fun e4 => ?_)
 · exact xr rfl (q7 rfl ⟨⟨rfl, yk (fun e => q03 h (by simp only [List.cons.injEq, Cell.l.injEq] at e ⊢; simp only [e]; try trivial)), trivial⟩, z6 rfl⟩)
 have e4 := y03 e4
 exact xr rfl (q7 rfl ⟨⟨rfl, qu (by simp [e0, e1, e2, e3, e4]), trivial⟩, z6 rfl⟩)
end Go.Proofs.YthljegacamgnnaaGreat
end
section
namespace Go.Proofs.YthljegacamgnnaaGreat
open Go Go.Sx
set_option maxRecDepth 20000
theorem y7d (rr : List (List Cell)) (b : Int) (hw : WR 9223372036854775807 zo rr) (p0 : 0 ≤ b) (p1 : b ≤ 1048576) : PC Tryz.prog 174 [.one (.l rr), .one (.s (.int .i64 b))] (rI (szn b (ql zo rr))) := by
 refine PC.begin Tryz.func174 rfl (by kernel_rfl) ?_
 have hlen := hw.1
 have w1 : IntKind.i64.wrap (b - rr.length) = b - rr.length := wrap_i64 (by omega) (by omega)
 rw [y0n (fun row hr => by obtain ⟨x0, x1, x2, x3, rfl⟩ := z1n hr; rfl) hw]
 refine xb rfl (fun h => ?_) (fun h => ?_)
 · simp only [w1, decide_eq_true_eq] at h
   exact xr rfl (q7 rfl ⟨⟨rfl, (by show Value.int _ _ = Value.int _ _; rw [szn, if_pos h]), trivial⟩, z6 rfl⟩)
 · simp only [w1, decide_eq_false_iff_not] at h
   exact xr rfl (q7 rfl ⟨⟨rfl, (by show Value.int .i64 (IntKind.i64.wrap (b - rr.length)) = Value.int _ _; rw [szn, if_neg h, w1]), trivial⟩, z6 rfl⟩)
theorem q46 (x0 : Int) (x1 : List (List Cell)) (b : Int) (h1 : WR 9223372036854775807 zo x1) (hb0 : 0 ≤ b) (hb1 : b ≤ 1048576) : PC Tryz.prog 109 [.agg [.s (.int .i64 x0), .l x1], .one (.s (.int .i64 b))] (rI (szn b (tot z8 [.s (.int .i64 x0), .l x1]))) := by
 refine PC.begin Tryz.func109 rfl (by kernel_rfl) ?_
 have ht : tot z8 [.s (.int .i64 x0), .l x1] = ql zo x1 := by simp only [tot, ql] <;> omega
 refine z7 rfl (y7d x1 b h1 hb0 hb1) rfl ⟨trivial, trivial, trivial⟩ ?_
 refine xb rfl (fun h => ?_) (fun e0 => ?_)
 · have h : szn b (ql zo x1) < 0 := by simpa using h
   exact xr rfl (q7 rfl ⟨⟨rfl, (by show Value.int _ _ = Value.int _ _; congr 1; rw [ht]; unfold szn at *; split at h <;> rw [if_pos] <;> omega), trivial⟩, z6 rfl⟩)
 have e0 : 0 ≤ szn b (ql zo x1) := by simpa using e0
 exact xr rfl (q7 rfl ⟨⟨rfl, (by show Value.int _ _ = Value.int _ _; rw [ht]), trivial⟩, z6 rfl⟩)
theorem y1j (rr : List (List Cell)) (b : Int) (hw : WR 9223372036854775807 z8 rr) (p0 : 0 ≤ b) (p1 : b ≤ 1048576) : PC Tryz.prog 50 [.one (.l rr), .one (.s (.int .i64 b))] (rI (szn b (ql z8 rr))) := by
 refine PC.begin Tryz.func50 rfl (by kernel_rfl) ?_
 have hlen := hw.1
 have w1 : IntKind.i64.wrap (b - rr.length) = b - rr.length := wrap_i64 (by omega) (by omega)
 refine xb rfl (fun h => ?_) (fun h => ?_)
 · simp only [w1, decide_eq_true_eq] at h
   exact xr rfl (q7 rfl ⟨⟨rfl, (by show Value.int _ _ = Value.int _ _; unfold szn ql; rw [if_pos (by omega)]), trivial⟩, z6 rfl⟩)
 simp only [w1, decide_eq_false_iff_not] at h
 have hs : szn b rr.length = b - rr.length := by unfold szn; rw [if_neg h]
 refine yd rfl (ι := Nat) (fun i => i ≤ rr.length ∧ 0 ≤ szn b (rr.length + z00 (tot z8) (rr.take i))) (fun i => ⟨[(5, sV (.int .i64 i)), (1, sV (.int .i64 (szn b (rr.length + z00 (tot z8) (rr.take i))))), (0, .one (.b (.l rr)))], []⟩) (fun i => rr.length - i) 0 ⟨Nat.zero_le _, by simp only [List.take_zero, z00, Nat.add_zero, hs]; omega⟩ ?_ ?_
 · refine ⟨⟨rfl, ?_, rfl, trivial⟩, trivial, rfl⟩
   show Cell.s (.int .i64 (IntKind.i64.wrap (b - rr.length))) = Cell.s (.int .i64 (szn b (rr.length + 0)))
   rw [w1, Nat.add_zero, hs]
 · intro i ⟨hi, hb⟩ J hJ
   refine xb rfl (fun h => ?_) (fun h => ?_)
   · have h : i < rr.length := by simpa using h
     obtain ⟨row, hg⟩ : ∃ row, rr[i]? = some row := ⟨_, List.getElem?_eq_getElem h⟩
     have hc := y0u (f := tot z8) hg
     have hc2 := z0j (tot z8) rr (i + 1)
     obtain ⟨x0, x1, rfl, h1⟩ := y06 (hw.2 row (List.mem_of_getElem? hg))
     refine xs rfl (Int.natCast_nonneg _) (y9 rfl _ hg (xs rfl rfl ?_))
     refine z7 rfl (q46 _ _ _ h1 hb (y0h p1 p0)) rfl ⟨⟨trivial, trivial, trivial⟩, trivial, trivial⟩ ?_
     refine xb rfl (fun hn => ?_) (fun hn => ?_)
     · have hn : szn (szn b (rr.length + z00 (tot z8) (rr.take i))) (tot z8 [.s (.int .i64 x0), .l x1]) < 0 := by simpa using hn
       rw [yi hb] at hn
       exact xr rfl (q7 rfl ⟨⟨rfl, (by show Value.int _ _ = Value.int _ _; congr 1; unfold szn ql at *; split at hn <;> rw [if_pos] <;> omega), trivial⟩, z6 rfl⟩)
     · have hn : ¬ szn (szn b (rr.length + z00 (tot z8) (rr.take i))) (tot z8 [.s (.int .i64 x0), .l x1]) < 0 := by simpa using hn
       have he := yi (n := tot z8 [.s (.int .i64 x0), .l x1]) hb
       rw [he] at hn
       rw [Nat.add_assoc, ← hc] at he hn
       refine ya rfl (hJ _ (i + 1) ⟨by omega, by omega⟩ (by omega) ?_)
       refine ⟨⟨cwi (by omega) (by omega) (by omega), ?_, rfl, trivial⟩, trivial, rfl⟩
       exact congrArg (fun n => Cell.s (.int .i64 n)) he
   · have h : ¬ i < rr.length := by simpa using h
     have : i = rr.length := by omega
     subst this
     exact xr rfl (q7 rfl ⟨⟨rfl, (by show Value.int _ _ = Value.int _ _; rw [List.take_length]; rfl), trivial⟩, z6 rfl⟩)
theorem y46 (rr : List (List Cell)) (b : Int) (hw : WR 9223372036854775807 yc rr) (p0 : 0 ≤ b) (p1 : b ≤ 1048576) : PC Tryz.prog 147 [.one (.l rr), .one (.s (.int .i64 b))] (rI (szn b (ql yc rr))) := by
 refine PC.begin Tryz.func147 rfl (by kernel_rfl) ?_
 have hlen := hw.1
 have w1 : IntKind.i64.wrap (b - rr.length) = b - rr.length := wrap_i64 (by omega) (by omega)
 rw [y0n (fun row hr => by obtain ⟨x0, x1, x2, rfl⟩ := z0b hr; rfl) hw]
 refine xb rfl (fun h => ?_) (fun h => ?_)
 · simp only [w1, decide_eq_true_eq] at h
   exact xr rfl (q7 rfl ⟨⟨rfl, (by show Value.int _ _ = Value.int _ _; rw [szn, if_pos h]), trivial⟩, z6 rfl⟩)
 · simp only [w1, decide_eq_false_iff_not] at h
   exact xr rfl (q7 rfl ⟨⟨rfl, (by show Value.int .i64 (IntKind.i64.wrap (b - rr.length)) = Value.int _ _; rw [szn, if_neg h, w1]), trivial⟩, z6 rfl⟩)
theorem y3k (rr : List (List Cell)) (b : Int) (hw : WR 9223372036854775807 yh rr) (p0 : 0 ≤ b) (p1 : b ≤ 1048576) : PC Tryz.prog 175 [.one (.l rr), .one (.s (.int .i64 b))] (rI (szn b (ql yh rr))) := by
 refine PC.begin Tryz.func175 rfl (by kernel_rfl) ?_
 have hlen := hw.1
 have w1 : IntKind.i64.wrap (b - rr.length) = b - rr.length := wrap_i64 (by omega) (by omega)
 rw [y0n (fun row hr => by obtain ⟨x0, x1, rfl⟩ := y1d hr; rfl) hw]
 refine xb rfl (fun h => ?_) (fun h => ?_)
 · simp only [w1, decide_eq_true_eq] at h
   exact xr rfl (q7 rfl ⟨⟨rfl, (by show Value.int _ _ = Value.int _ _; rw [szn, if_pos h]), trivial⟩, z6 rfl⟩)
 · simp only [w1, decide_eq_false_iff_not] at h
   exact xr rfl (q7 rfl ⟨⟨rfl, (by show Value.int .i64 (IntKind.i64.wrap (b - rr.length)) = Value.int _ _; rw [szn, if_neg h, w1]), trivial⟩, z6 rfl⟩)
theorem q33 (rr : List (List Cell)) (b : Int) (hw : WR 9223372036854775807 (.i .i64 .nil) rr) (p0 : 0 ≤ b) (p1 : b ≤ 1048576) : PC Tryz.prog 176 [.one (.l rr), .one (.s (.int .i64 b))] (rI (szn b (ql (.i .i64 .nil) rr))) := by
 refine PC.begin Tryz.func176 rfl (by kernel_rfl) ?_
 have hlen := hw.1
 have w1 : IntKind.i64.wrap (b - rr.length) = b - rr.length := wrap_i64 (by omega) (by omega)
 rw [y0n (fun row hr => by obtain ⟨x0, _, rfl, hnil⟩ := (hr).qv; obtain rfl := hnil.zy; rfl) hw]
 refine xb rfl (fun h => ?_) (fun h => ?_)
 · simp only [w1, decide_eq_true_eq] at h
   exact xr rfl (q7 rfl ⟨⟨rfl, (by show Value.int _ _ = Value.int _ _; rw [szn, if_pos h]), trivial⟩, z6 rfl⟩)
 · simp only [w1, decide_eq_false_iff_not] at h
   exact xr rfl (q7 rfl ⟨⟨rfl, (by show Value.int .i64 (IntKind.i64.wrap (b - rr.length)) = Value.int _ _; rw [szn, if_neg h, w1]), trivial⟩, z6 rfl⟩)
theorem z6c (x0 : Int) (x1 : List (List Cell)) (x2 : List (List Cell)) (x3 : List (List Cell)) (x4 : List (List Cell)) (x5 : List (List Cell)) (b : Int) (h1 : WR 9223372036854775807 yc x1) (h2 : WR 9223372036854775807 yh x2) (h3 : WR 9223372036854775807 z8 x3) (h4 : WR 9223372036854775807 yh x4) (h5 : WR 9223372036854775807 (.i .i64 .nil) x5) (hb0 : 0 ≤ b) (hb1 : b ≤ 1048576) : PC Tryz.prog 110 [.agg [.s (.int .i64 x0), .l x1, .l x2, .l x3, .l x4, .l x5], .one (.s (.int .i64 b))] (rI (szn b (tot qe [.s (.int .i64 x0), .l x1, .l x2, .l x3, .l x4, .l x5]))) := by
 refine PC.begin Tryz.func110 rfl (by kernel_rfl) ?_
 have ht : tot qe [.s (.int .i64 x0), .l x1, .l x2, .l x3, .l x4, .l x5] = ql yc x1 + ql yh x2 + ql z8 x3 + ql yh x4 + ql (.i .i64 .nil) x5 := by simp only [tot, ql] <;> omega
 refine z7 rfl (y46 x1 b h1 hb0 hb1) rfl ⟨trivial, trivial, trivial⟩ ?_
 refine xb rfl (fun h => ?_) (fun e0 => ?_)
 · have h : szn b (ql yc x1) < 0 := by simpa using h
   exact xr rfl (q7 rfl ⟨⟨rfl, (by show Value.int _ _ = Value.int _ _; congr 1; rw [ht]; unfold szn at *; split at h <;> rw [if_pos] <;> omega), trivial⟩, z6 rfl⟩)
 have e0 : 0 ≤ szn b (ql yc x1) := by simpa using e0
 refine z7 rfl (y3k x2 (szn b (ql yc x1)) h2 e0 (y0h hb1 hb0)) rfl ⟨trivial, trivial, trivial⟩ ?_
 refine xb rfl (fun h => ?_) (fun e1 => ?_)
 · have h : szn (szn b (ql yc x1)) (ql yh x2) < 0 := by simpa using h
   rw [yi e0] at h
   exact xr rfl (q7 rfl ⟨⟨rfl, (by show Value.int _ _ = Value.int _ _; congr 1; rw [ht]; unfold szn at *; split at h <;> rw [if_pos] <;> omega), trivial⟩, z6 rfl⟩)
 have e1 : 0 ≤ szn b (ql yc x1 + ql yh x2) := by rw [← yi e0]; simpa using e1
 rw [yi e0]
 refine z7 rfl (y1j x3 (szn b (ql yc x1 + ql yh x2)) h3 e1 (y0h hb1 hb0)) rfl ⟨trivial, trivial, trivial⟩ ?_
 refine xb rfl (fun h => ?_) (fun e2 => ?_)
 · have h : szn (szn b (ql yc x1 + ql yh x2)) (ql z8 x3) < 0 := by simpa using h
   rw [yi e1] at h
   exact xr rfl (q7 rfl ⟨⟨rfl, (by show Value.int _ _ = Value.int _ _; congr 1; rw [ht]; unfold szn at *; split at h <;> rw [if_pos] <;> omega), trivial⟩, z6 rfl⟩)
 have e2 : 0 ≤ szn b (ql yc x1 + ql yh x2 + ql z8 x3) := by rw [← yi e1]; simpa using e2
 rw [yi e1]
 refine z7 rfl (y3k x4 (szn b (ql yc x1 + ql yh x2 + ql z8 x3)) h4 e2 (y0h hb1 hb0)) rfl ⟨trivial, trivial, trivial⟩ ?_
 refine xb rfl (fun h => ?_) (fun e3 => ?_)
 · have h : szn (szn b (ql yc x1 + ql yh x2 + ql z8 x3)) (ql yh x4) < 0 := by simpa using h
   rw [yi e2] at h
   exact xr rfl (q7 rfl ⟨⟨rfl, (by show Value.int _ _ = Value.int _ _; congr 1; rw [ht]; unfold szn at *; split at h <;> rw [if_pos] <;> omega), trivial⟩, z6 rfl⟩)
 have e3 : 0 ≤ szn b (ql yc x1 + ql yh x2 + ql z8 x3 + ql yh x4) := by rw [← yi e2]; simpa using e3
 rw [yi e2]
 refine z7 rfl (q33 x5 (szn b (ql yc x1 + ql yh x2 + ql z8 x3 + ql yh x4)) h5 e3 (y0h hb1 hb0)) rfl ⟨trivial, trivial, trivial⟩ ?_
 refine xb rfl (fun h => ?_) (fun e4 => ?_)
 · have h : szn (szn b (ql yc x1 + ql yh x2 + ql z8 x3 + ql yh x4)) (ql (.i .i64 .nil) x5) < 0 := by simpa using h
   rw [yi e3] at h
   exact xr rfl (q7 rfl ⟨⟨rfl, (by show Value.int _ _ = Value.int _ _; congr 1; rw [ht]; unfold szn at *; split at h <;> rw [if_pos] <;> omega), trivial⟩, z6 rfl⟩)
 have e4 : 0 ≤ szn b (ql yc x1 + ql yh x2 + ql z8 x3 + ql yh x4 + ql (.i .i64 .nil) x5) := by rw [← yi e3]; simpa using e4
 rw [yi e3]
 exact xr rfl (q7 rfl ⟨⟨rfl, (by show Value.int _ _ = Value.int _ _; rw [ht]), trivial⟩, z6 rfl⟩)
theorem q5d (rr : List (List Cell)) (b : Int) (hw : WR 9223372036854775807 qe rr) (p0 : 0 ≤ b) (p1 : b ≤ 1048576) : PC Tryz.prog 51 [.one (.l rr), .one (.s (.int .i64 b))] (rI (szn b (ql qe rr))) := by
 refine PC.begin Tryz.func51 rfl (by kernel_rfl) ?_
 have hlen := hw.1
 have w1 : IntKind.i64.wrap (b - rr.length) = b - rr.length := wrap_i64 (by omega) (by omega)
 refine xb rfl (fun h => ?_) (fun h => ?_)
 · simp only [w1, decide_eq_true_eq] at h
   exact xr rfl (q7 rfl ⟨⟨rfl, (by show Value.int _ _ = Value.int _ _; unfold szn ql; rw [if_pos (by omega)]), trivial⟩, z6 rfl⟩)
 simp only [w1, decide_eq_false_iff_not] at h
 have hs : szn b rr.length = b - rr.length := by unfold szn; rw [if_neg h]
 refine yd rfl (ι := Nat) (fun i => i ≤ rr.length ∧ 0 ≤ szn b (rr.length + z00 (tot qe) (rr.take i))) (fun i => ⟨[(5, sV (.int .i64 i)), (1, sV (.int .i64 (szn b (rr.length + z00 (tot qe) (rr.take i))))), (0, .one (.b (.l rr)))], []⟩) (fun i => rr.length - i) 0 ⟨Nat.zero_le _, by simp only [List.take_zero, z00, Nat.add_zero, hs]; omega⟩ ?_ ?_
 · refine ⟨⟨rfl, ?_, rfl, trivial⟩, trivial, rfl⟩
   show Cell.s (.int .i64 (IntKind.i64.wrap (b - rr.length))) = Cell.s (.int .i64 (szn b (rr.length + 0)))
   rw [w1, Nat.add_zero, hs]
 · intro i ⟨hi, hb⟩ J hJ
   refine xb rfl (fun h => ?_) (fun h => ?_)
   · have h : i < rr.length := by simpa using h
     obtain ⟨row, hg⟩ : ∃ row, rr[i]? = some row := ⟨_, List.getElem?_eq_getElem h⟩
     have hc := y0u (f := tot qe) hg
     have hc2 := z0j (tot qe) rr (i + 1)
     obtain ⟨x0, x1, x2, x3, x4, x5, rfl, h1, h2, h3, h4, h5⟩ := q0v (hw.2 row (List.mem_of_getElem? hg))
     refine xs rfl (Int.natCast_nonneg _) (y9 rfl _ hg (xs rfl rfl ?_))
     refine z7 rfl (z6c _ _ _ _ _ _ _ h1 h2 h3 h4 h5 hb (y0h p1 p0)) rfl ⟨⟨trivial, trivial, trivial, trivial, trivial, trivial, trivial⟩, trivial, trivial⟩ ?_
     refine xb rfl (fun hn => ?_) (fun hn => ?_)
     · have hn : szn (szn b (rr.length + z00 (tot qe) (rr.take i))) (tot qe [.s (.int .i64 x0), .l x1, .l x2, .l x3, .l x4, .l x5]) < 0 := by simpa using hn
       rw [yi hb] at hn
       exact xr rfl (q7 rfl ⟨⟨rfl, (by show Value.int _ _ = Value.int _ _; congr 1; unfold szn ql at *; split at hn <;> rw [if_pos] <;> omega), trivial⟩, z6 rfl⟩)
     · have hn : ¬ szn (szn b (rr.length + z00 (tot qe) (rr.take i))) (tot qe [.s (.int .i64 x0), .l x1, .l x2, .l x3, .l x4, .l x5]) < 0 := by simpa using hn
       have he := yi (n := tot qe [.s (.int .i64 x0), .l x1, .l x2, .l x3, .l x4, .l x5]) hb
       rw [he] at hn
       rw [Nat.add_assoc, ← hc] at he hn
       refine ya rfl (hJ _ (i + 1) ⟨by omega, by omega⟩ (by omega) ?_)
       refine ⟨⟨cwi (by omega) (by omega) (by omega), ?_, rfl, trivial⟩, trivial, rfl⟩
       exact congrArg (fun n => Cell.s (.int .i64 n)) he
   · have h : ¬ i < rr.length := by simpa using h
     have : i = rr.length := by omega
     subst this
     exact xr rfl (q7 rfl ⟨⟨rfl, (by show Value.int _ _ = Value.int _ _; rw [List.take_length]; rfl), trivial⟩, z6 rfl⟩)
theorem q3k (rr : List (List Cell)) (b : Int) (hw : WR 9223372036854775807 zm rr) (p0 : 0 ≤ b) (p1 : b ≤ 1048576) : PC Tryz.prog 300 [.one (.l rr), .one (.s (.int .i64 b))] (rI (szn b (ql zm rr))) := by
 refine PC.begin Tryz.func300 rfl (by kernel_rfl) ?_
 have hlen := hw.1
 have w1 : IntKind.i64.wrap (b - rr.length) = b - rr.length := wrap_i64 (by omega) (by omega)
 rw [y0n (fun row hr => by obtain ⟨x0, x1, rfl⟩ := z1e hr; rfl) hw]
 refine xb rfl (fun h => ?_) (fun h => ?_)
 · simp only [w1, decide_eq_true_eq] at h
   exact xr rfl (q7 rfl ⟨⟨rfl, (by show Value.int _ _ = Value.int _ _; rw [szn, if_pos h]), trivial⟩, z6 rfl⟩)
 · simp only [w1, decide_eq_false_iff_not] at h
   exact xr rfl (q7 rfl ⟨⟨rfl, (by show Value.int .i64 (IntKind.i64.wrap (b - rr.length)) = Value.int _ _; rw [szn, if_neg h, w1]), trivial⟩, z6 rfl⟩)
theorem q7d (x0 : Int) (x1 : Int) (x2 : Int) (x3 : Int) (x4 : Int) (x5 : List (List Cell)) (b : Int) (h5 : WR 9223372036854775807 zm x5) (hb0 : 0 ≤ b) (hb1 : b ≤ 1048576) : PC Tryz.prog 236 [.agg [.s (.int .i64 x0), .s (.int .i64 x1), .s (.int .i64 x2), .s (.int .i64 x3), .s (.int .i64 x4), .l x5], .one (.s (.int .i64 b))] (rI (szn b (tot yl [.s (.int .i64 x0), .s (.int .i64 x1), .s (.int .i64 x2), .s (.int .i64 x3), .s (.int .i64 x4), .l x5]))) := by
 refine PC.begin Tryz.func236 rfl (by kernel_rfl) ?_
 have ht : tot yl [.s (.int .i64 x0), .s (.int .i64 x1), .s (.int .i64 x2), .s (.int .i64 x3), .s (.int .i64 x4), .l x5] = ql zm x5 := by simp only [tot, ql] <;> omega
 refine z7 rfl (q3k x5 b h5 hb0 hb1) rfl ⟨trivial, trivial, trivial⟩ ?_
 refine xb rfl (fun h => ?_) (fun e0 => ?_)
 · have h : szn b (ql zm x5) < 0 := by simpa using h
   exact xr rfl (q7 rfl ⟨⟨rfl, (by show Value.int _ _ = Value.int _ _; congr 1; rw [ht]; unfold szn at *; split at h <;> rw [if_pos] <;> omega), trivial⟩, z6 rfl⟩)
 have e0 : 0 ≤ szn b (ql zm x5) := by simpa using e0
 exact xr rfl (q7 rfl ⟨⟨rfl, (by show Value.int _ _ = Value.int _ _; rw [ht]), trivial⟩, z6 rfl⟩)
theorem y6c (rr : List (List Cell)) (b : Int) (hw : WR 9223372036854775807 yl rr) (p0 : 0 ≤ b) (p1 : b ≤ 1048576) : PC Tryz.prog 177 [.one (.l rr), .one (.s (.int .i64 b))] (rI (szn b (ql yl rr))) := by
 refine PC.begin Tryz.func177 rfl (by kernel_rfl) ?_
 have hlen := hw.1
 have w1 : IntKind.i64.wrap (b - rr.length) = b - rr.length := wrap_i64 (by omega) (by omega)
 refine xb rfl (fun h => ?_) (fun h => ?_)
 · simp only [w1, decide_eq_true_eq] at h
   exact xr rfl (q7 rfl ⟨⟨rfl, (by show Value.int _ _ = Value.int _ _; unfold szn ql; rw [if_pos (by omega)]), trivial⟩, z6 rfl⟩)
 simp only [w1, decide_eq_false_iff_not] at h
 have hs : szn b rr.length = b - rr.length := by unfold szn; rw [if_neg h]
 refine yd rfl (ι := Nat) (fun i => i ≤ rr.length ∧ 0 ≤ szn b (rr.length + z00 (tot yl) (rr.take i))) (fun i => ⟨[(5, sV (.int .i64 i)), (1, sV (.int .i64 (szn b (rr.length + z00 (tot yl) (rr.take i))))), (0, .one (.b (.l rr)))], []⟩) (fun i => rr.length - i) 0 ⟨Nat.zero_le _, by simp only [List.take_zero, z00, Nat.add_zero, hs]; omega⟩ ?_ ?_
 · refine ⟨⟨rfl, ?_, rfl, trivial⟩, trivial, rfl⟩
   show Cell.s (.int .i64 (IntKind.i64.wrap (b - rr.length))) = Cell.s (.int .i64 (szn b (rr.length + 0)))
   rw [w1, Nat.add_zero, hs]
 · intro i ⟨hi, hb⟩ J hJ
   refine xb rfl (fun h => ?_) (fun h => ?_)
   · have h : i < rr.length := by simpa using h
     obtain ⟨row, hg⟩ : ∃ row, rr[i]? = some row := ⟨_, List.getElem?_eq_getElem h⟩
     have hc := y0u (f := tot yl) hg
     have hc2 := z0j (tot yl) rr (i + 1)
     obtain ⟨x0, x1, x2, x3, x4, x5, rfl, h5⟩ := q1d (hw.2 row (List.mem_of_getElem? hg))
     refine xs rfl (Int.natCast_nonneg _) (y9 rfl _ hg (xs rfl rfl ?_))
     refine z7 rfl (q7d _ _ _ _ _ _ _ h5 hb (y0h p1 p0)) rfl ⟨⟨trivial, trivial, trivial, trivial, trivial, trivial, trivial⟩, trivial, trivial⟩ ?_
     refine xb rfl (fun hn => ?_) (fun hn => ?_)
     · have hn : szn (szn b (rr.length + z00 (tot yl) (rr.take i))) (tot yl [.s (.int .i64 x0), .s (.int .i64 x1), .s (.int .i64 x2), .s (.int .i64 x3), .s (.int .i64 x4), .l x5]) < 0 := by simpa using hn
       rw [yi hb] at hn
       exact xr rfl (q7 rfl ⟨⟨rfl, (by show Value.int _ _ = Value.int _ _; congr 1; unfold szn ql at *; split at hn <;> rw [if_pos] <;> omega), trivial⟩, z6 rfl⟩)
     · have hn : ¬ szn (szn b (rr.length + z00 (tot yl) (rr.take i))) (tot yl [.s (.int .i64 x0), .s (.int .i64 x1), .s (.int .i64 x2), .s (.int .i64 x3), .s (.int .i64 x4), .l x5]) < 0 := by simpa using hn
       have he := yi (n := tot yl [.s (.int .i64 x0), .s (.int .i64 x1), .s (.int .i64 x2), .s (.int .i64 x3), .s (.int .i64 x4), .l x5]) hb
       rw [he] at hn
       rw [Nat.add_assoc, ← hc] at he hn
       refine ya rfl (hJ _ (i + 1) ⟨by omega, by omega⟩ (by omega) ?_)
       refine ⟨⟨cwi (by omega) (by omega) (by omega), ?_, rfl, trivial⟩, trivial, rfl⟩
       exact congrArg (fun n => Cell.s (.int .i64 n)) he
   · have h : ¬ i < rr.length := by simpa using h
     have : i = rr.length := by omega
     subst this
     exact xr rfl (q7 rfl ⟨⟨rfl, (by show Value.int _ _ = Value.int _ _; rw [List.take_length]; rfl), trivial⟩, z6 rfl⟩)
theorem z46 (x0 : List (List Cell)) (b : Int) (h0 : WR 9223372036854775807 yl x0) (hb0 : 0 ≤ b) (hb1 : b ≤ 1048576) : PC Tryz.prog 111 [.agg [.l x0], .one (.s (.int .i64 b))] (rI (szn b (tot za [.l x0]))) := by
 refine PC.begin Tryz.func111 rfl (by kernel_rfl) ?_
 have ht : tot za [.l x0] = ql yl x0 := by simp only [tot, ql] <;> omega
 refine z7 rfl (y6c x0 b h0 hb0 hb1) rfl ⟨trivial, trivial, trivial⟩ ?_
 refine xb rfl (fun h => ?_) (fun e0 => ?_)
 · have h : szn b (ql yl x0) < 0 := by simpa using h
   exact xr rfl (q7 rfl ⟨⟨rfl, (by show Value.int _ _ = Value.int _ _; congr 1; rw [ht]; unfold szn at *; split at h <;> rw [if_pos] <;> omega), trivial⟩, z6 rfl⟩)
 have e0 : 0 ≤ szn b (ql yl x0) := by simpa using e0
 exact xr rfl (q7 rfl ⟨⟨rfl, (by show Value.int _ _ = Value.int _ _; rw [ht]), trivial⟩, z6 rfl⟩)
theorem z3d (rr : List (List Cell)) (b : Int) (hw : WR 9223372036854775807 za rr) (p0 : 0 ≤ b) (p1 : b ≤ 1048576) : PC Tryz.prog 52 [.one (.l rr), .one (.s (.int .i64 b))] (rI (szn b (ql za rr))) := by
 refine PC.begin Tryz.func52 rfl (by kernel_rfl) ?_
 have hlen := hw.1
 have w1 : IntKind.i64.wrap (b - rr.length) = b - rr.length := wrap_i64 (by omega) (by omega)
 refine xb rfl (fun h => ?_) (fun h => ?_)
 · simp only [w1, decide_eq_true_eq] at h
   exact xr rfl (q7 rfl ⟨⟨rfl, (by show Value.int _ _ = Value.int _ _; unfold szn ql; rw [if_pos (by omega)]), trivial⟩, z6 rfl⟩)
 simp only [w1, decide_eq_false_iff_not] at h
 have hs : szn b rr.length = b - rr.length := by unfold szn; rw [if_neg h]
 refine yd rfl (ι := Nat) (fun i => i ≤ rr.length ∧ 0 ≤ szn b (rr.length + z00 (tot za) (rr.take i))) (fun i => ⟨[(5, sV (.int .i64 i)), (1, sV (.int .i64 (szn b (rr.length + z00 (tot za) (rr.take i))))), (0, .one (.b (.l rr)))], []⟩) (fun i => rr.length - i) 0 ⟨Nat.zero_le _, by simp only [List.take_zero, z00, Nat.add_zero, hs]; omega⟩ ?_ ?_
 · refine ⟨⟨rfl, ?_, rfl, trivial⟩, trivial, rfl⟩
   show Cell.s (.int .i64 (IntKind.i64.wrap (b - rr.length))) = Cell.s (.int .i64 (szn b (rr.length + 0)))
   rw [w1, Nat.add_zero, hs]
 · intro i ⟨hi, hb⟩ J hJ
   refine xb rfl (fun h => ?_) (fun h => ?_)
   · have h : i < rr.length := by simpa using h
     obtain ⟨row, hg⟩ : ∃ row, rr[i]? = some row := ⟨_, List.getElem?_eq_getElem h⟩
     have hc := y0u (f := tot za) hg
     have hc2 := z0j (tot za) rr (i + 1)
     obtain ⟨x0, rfl, h0⟩ := z06 (hw.2 row (List.mem_of_getElem? hg))
     refine xs rfl (Int.natCast_nonneg _) (y9 rfl _ hg (xs rfl rfl ?_))
     refine z7 rfl (z46 _ _ h0 hb (y0h p1 p0)) rfl ⟨⟨trivial, trivial⟩, trivial, trivial⟩ ?_
     refine xb rfl (fun hn => ?_) (fun hn => ?_)
     · have hn : szn (szn b (rr.length + z00 (tot za) (rr.take i))) (tot za [.l x0]) < 0 := by simpa using hn
       rw [yi hb] at hn
       exact xr rfl (q7 rfl ⟨⟨rfl, (by show Value.int _ _ = Value.int _ _; congr 1; unfold szn ql at *; split at hn <;> rw [if_pos] <;> omega), trivial⟩, z6 rfl⟩)
     · have hn : ¬ szn (szn b (rr.length + z00 (tot za) (rr.take i))) (tot za [.l x0]) < 0 := by simpa using hn
       have he := yi (n := tot za [.l x0]) hb
       rw [he] at hn
       rw [Nat.add_assoc, ← hc] at he hn
       refine ya rfl (hJ _ (i + 1) ⟨by omega, by omega⟩ (by omega) ?_)
       refine ⟨⟨cwi (by omega) (by omega) (by omega), ?_, rfl, trivial⟩, trivial, rfl⟩
       exact congrArg (fun n => Cell.s (.int .i64 n)) he
   · have h : ¬ i < rr.length := by simpa using h
     have : i = rr.length := by omega
     subst this
     exact xr rfl (q7 rfl ⟨⟨rfl, (by show Value.int _ _ = Value.int _ _; rw [List.take_length]; rfl), trivial⟩, z6 rfl⟩)
theorem q85 (x0 : Int) (x1 : Int) (x2 : Int) (x3 : Int) (x4 : List (List Cell)) (x5 : List (List Cell)) (b : Int) (h4 : WR 9223372036854775807 (.i .i64 .nil) x4) (h5 : WR 9223372036854775807 zm x5) (hb0 : 0 ≤ b) (hb1 : b ≤ 1048576) : PC Tryz.prog 237 [.agg [.s (.int .i64 x0), .s (.int .i64 x1), .s (.int .i64 x2), .s (.int .i64 x3), .l x4, .l x5], .one (.s (.int .i64 b))] (rI (szn b (tot yp [.s (.int .i64 x0), .s (.int .i64 x1), .s (.int .i64 x2), .s (.int .i64 x3), .l x4, .l x5]))) := by
 refine PC.begin Tryz.func237 rfl (by kernel_rfl) ?_
 have ht : tot yp [.s (.int .i64 x0), .s (.int .i64 x1), .s (.int .i64 x2), .s (.int .i64 x3), .l x4, .l x5] = ql (.i .i64 .nil) x4 + ql zm x5 := by simp only [tot, ql] <;> omega
 refine z7 rfl (q33 x4 b h4 hb0 hb1) rfl ⟨trivial, trivial, trivial⟩ ?_
 refine xb rfl (fun h => ?_) (fun e0 => ?_)
 · have h : szn b (ql (.i .i64 .nil) x4) < 0 := by simpa using h
   exact xr rfl (q7 rfl ⟨⟨rfl, (by show Value.int _ _ = Value.int _ _; congr 1; rw [ht]; unfold szn at *; split at h <;> rw [if_pos] <;> omega), trivial⟩, z6 rfl⟩)
 have e0 : 0 ≤ szn b (ql (.i .i64 .nil) x4) := by simpa using e0
 refine z7 rfl (q3k x5 (szn b (ql (.i .i64 .nil) x4)) h5 e0 (y0h hb1 hb0)) rfl ⟨trivial, trivial, trivial⟩ ?_
 refine xb rfl (fun h => ?_) (fun e1 => ?_)
 · have h : szn (szn b (ql (.i .i64 .nil) x4)) (ql zm x5) < 0 := by simpa using h
   rw [yi e0] at h
   exact xr rfl (q7 rfl ⟨⟨rfl, (by show Value.int _ _ = Value.int _ _; congr 1; rw [ht]; unfold szn at *; split at h <;> rw [if_pos] <;> omega), trivial⟩, z6 rfl⟩)
 have e1 : 0 ≤ szn b (ql (.i .i64 .nil) x4 + ql zm x5) := by rw [← yi e0]; simpa using e1
 rw [yi e0]
 exact xr rfl (q7 rfl ⟨⟨rfl, (by show Value.int _ _ = Value.int _ _; rw [ht]), trivial⟩, z6 rfl⟩)
theorem z7e (rr : List (List Cell)) (b : Int) (hw : WR 9223372036854775807 yp rr) (p0 : 0 ≤ b) (p1 : b ≤ 1048576) : PC Tryz.prog 178 [.one (.l rr), .one (.s (.int .i64 b))] (rI (szn b (ql yp rr))) := by
 refine PC.begin Tryz.func178 rfl (by kernel_rfl) ?_
 have hlen := hw.1
 have w1 : IntKind.i64.wrap (b - rr.length) = b - rr.length := wrap_i64 (by omega) (by omega)
 refine xb rfl (fun h => ?_) (fun h => ?_)
 · simp only [w1, decide_eq_true_eq] at h
   exact xr rfl (q7 rfl ⟨⟨rfl, (by show Value.int _ _ = Value.int _ _; unfold szn ql; rw [if_pos (by omega)]), trivial⟩, z6 rfl⟩)
 simp only [w1, decide_eq_false_iff_not] at h
 have hs : szn b rr.length = b - rr.length := by unfold szn; rw [if_neg h]
 refine yd rfl (ι := Nat) (fun i => i ≤ rr.length ∧ 0 ≤ szn b (rr.length + z00 (tot yp) (rr.take i))) (fun i => ⟨[(5, sV (.int .i64 i)), (1, sV (.int .i64 (szn b (rr.length + z00 (tot yp) (rr.take i))))), (0, .one (.b (.l rr)))], []⟩) (fun i => rr.length - i) 0 ⟨Nat.zero_le _, by simp only [List.take_zero, z00, Nat.add_zero, hs]; omega⟩ ?_ ?_
 · refine ⟨⟨rfl, ?_, rfl, trivial⟩, trivial, rfl⟩
   show Cell.s (.int .i64 (IntKind.i64.wrap (b - rr.length))) = Cell.s (.int .i64 (szn b (rr.length + 0)))
   rw [w1, Nat.add_zero, hs]
 · intro i ⟨hi, hb⟩ J hJ
   refine xb rfl (fun h => ?_) (fun h => ?_)
   · have h : i < rr.length := by simpa using h
     obtain ⟨row, hg⟩ : ∃ row, rr[i]? = some row := ⟨_, List.getElem?_eq_getElem h⟩
     have hc := y0u (f := tot yp) hg
     have hc2 := z0j (tot yp) rr (i + 1)
     obtain ⟨x0, x1, x2, x3, x4, x5, rfl, h4, h5⟩ := y25 (hw.2 row (List.mem_of_getElem? hg))
     refine xs rfl (Int.natCast_nonneg _) (y9 rfl _ hg (xs rfl rfl ?_))
     refine z7 rfl (q85 _ _ _ _ _ _ _ h4 h5 hb (y0h p1 p0)) rfl ⟨⟨trivial, trivial, trivial, trivial, trivial, trivial, trivial⟩, trivial, trivial⟩ ?_
     refine xb rfl (fun hn => ?_) (fun hn => ?_)
     · have hn : szn (szn b (rr.length + z00 (tot yp) (rr.take i))) (tot yp [.s (.int .i64 x0), .s (.int .i64 x1), .s (.int .i64 x2), .s (.int .i64 x3), .l x4, .l x5]) < 0 := by simpa using hn
       rw [yi hb] at hn
       exact xr rfl (q7 rfl ⟨⟨rfl, (by show Value.int _ _ = Value.int _ _; congr 1; unfold szn ql at *; split at hn <;> rw [if_pos] <;> omega), trivial⟩, z6 rfl⟩)
     · have hn : ¬ szn (szn b (rr.length + z00 (tot yp) (rr.take i))) (tot yp [.s (.int .i64 x0), .s (.int .i64 x1), .s (.int .i64 x2), .s (.int .i64 x3), .l x4, .l x5]) < 0 := by simpa using hn
       have he := yi (n := tot yp [.s (.int .i64 x0), .s (.int .i64 x1), .s (.int .i64 x2), .s (.int .i64 x3), .l x4, .l x5]) hb
       rw [he] at hn
       rw [Nat.add_assoc, ← hc] at he hn
       refine ya rfl (hJ _ (i + 1) ⟨by omega, by omega⟩ (by omega) ?_)
       refine ⟨⟨cwi (by omega) (by omega) (by omega), ?_, rfl, trivial⟩, trivial, rfl⟩
       exact congrArg (fun n => Cell.s (.int .i64 n)) he
   · have h : ¬ i < rr.length := by simpa using h
     have : i = rr.length := by omega
     subst this
     exact xr rfl (q7 rfl ⟨⟨rfl, (by show Value.int _ _ = Value.int _ _; rw [List.take_length]; rfl), trivial⟩, z6 rfl⟩)
theorem z5d (rr : List (List Cell)) (b : Int) (hw : WR 9223372036854775807 yn rr) (p0 : 0 ≤ b) (p1 : b ≤ 1048576) : PC Tryz.prog 179 [.one (.l rr), .one (.s (.int .i64 b))] (rI (szn b (ql yn rr))) := by
 refine PC.begin Tryz.func179 rfl (by kernel_rfl) ?_
 have hlen := hw.1
 have w1 : IntKind.i64.wrap (b - rr.length) = b - rr.length := wrap_i64 (by omega) (by omega)
 rw [y0n (fun row hr => by obtain ⟨x0, x1, x2, x3, x4, rfl⟩ := y0v hr; rfl) hw]
 refine xb rfl (fun h => ?_) (fun h => ?_)
 · simp only [w1, decide_eq_true_eq] at h
   exact xr rfl (q7 rfl ⟨⟨rfl, (by show Value.int _ _ = Value.int _ _; rw [szn, if_pos h]), trivial⟩, z6 rfl⟩)
 · simp only [w1, decide_eq_false_iff_not] at h
   exact xr rfl (q7 rfl ⟨⟨rfl, (by show Value.int .i64 (IntKind.i64.wrap (b - rr.length)) = Value.int _ _; rw [szn, if_neg h, w1]), trivial⟩, z6 rfl⟩)
theorem y5d (x0 : Int) (x1 : List (List Cell)) (x2 : List (List Cell)) (b : Int) (h1 : WR 9223372036854775807 yp x1) (h2 : WR 9223372036854775807 yn x2) (hb0 : 0 ≤ b) (hb1 : b ≤ 1048576) : PC Tryz.prog 112 [.agg [.s (.int .i64 x0), .l x1, .l x2], .one (.s (.int .i64 b))] (rI (szn b (tot qd [.s (.int .i64 x0), .l x1, .l x2]))) := by
 refine PC.begin Tryz.func112 rfl (by kernel_rfl) ?_
 have ht : tot qd [.s (.int .i64 x0), .l x1, .l x2] = ql yp x1 + ql yn x2 := by simp only [tot, ql] <;> omega
 refine z7 rfl (z7e x1 b h1 hb0 hb1) rfl ⟨trivial, trivial, trivial⟩ ?_
 refine xb rfl (fun h => ?_) (fun e0 => ?_)
 · have h : szn b (ql yp x1) < 0 := by simpa using h
   exact xr rfl (q7 rfl ⟨⟨rfl, (by show Value.int _ _ = Value.int _ _; congr 1; rw [ht]; unfold szn at *; split at h <;> rw [if_pos] <;> omega), trivial⟩, z6 rfl⟩)
 have e0 : 0 ≤ szn b (ql yp x1) := by simpa using e0
 refine z7 rfl (z5d x2 (szn b (ql yp x1)) h2 e0 (y0h hb1 hb0)) rfl ⟨trivial, trivial, trivial⟩ ?_
 refine xb rfl (fun h => ?_) (fun e1 => ?_)
 · have h : szn (szn b (ql yp x1)) (ql yn x2) < 0 := by simpa using h
   rw [yi e0] at h
   exact xr rfl (q7 rfl ⟨⟨rfl, (by show Value.int _ _ = Value.int _ _; congr 1; rw [ht]; unfold szn at *; split at h <;> rw [if_pos] <;> omega), trivial⟩, z6 rfl⟩)
 have e1 : 0 ≤ szn b (ql yp x1 + ql yn x2) := by rw [← yi e0]; simpa using e1
 rw [yi e0]
 exact xr rfl (q7 rfl ⟨⟨rfl, (by show Value.int _ _ = Value.int _ _; rw [ht]), trivial⟩, z6 rfl⟩)
theorem q4t (rr : List (List Cell)) (b : Int) (hw : WR 9223372036854775807 qd rr) (p0 : 0 ≤ b) (p1 : b ≤ 1048576) : PC Tryz.prog 53 [.one (.l rr), .one (.s (.int .i64 b))] (rI (szn b (ql qd rr))) := by
 refine PC.begin Tryz.func53 rfl (by kernel_rfl) ?_
 have hlen := hw.1
 have w1 : IntKind.i64.wrap (b - rr.length) = b - rr.length := wrap_i64 (by omega) (by omega)
 refine xb rfl (fun h => ?_) (fun h => ?_)
 · simp only [w1, decide_eq_true_eq] at h
   exact xr rfl (q7 rfl ⟨⟨rfl, (by show Value.int _ _ = Value.int _ _; unfold szn ql; rw [if_pos (by omega)]), trivial⟩, z6 rfl⟩)
 simp only [w1, decide_eq_false_iff_not] at h
 have hs : szn b rr.length = b - rr.length := by unfold szn; rw [if_neg h]
 refine yd rfl (ι := Nat) (fun i => i ≤ rr.length ∧ 0 ≤ szn b (rr.length + z00 (tot qd) (rr.take i))) (fun i => ⟨[(5, sV (.int .i64 i)), (1, sV (.int .i64 (szn b (rr.length + z00 (tot qd) (rr.take i))))), (0, .one (.b (.l rr)))], []⟩) (fun i => rr.length - i) 0 ⟨Nat.zero_le _, by simp only [List.take_zero, z00, Nat.add_zero, hs]; omega⟩ ?_ ?_
 · refine ⟨⟨rfl, ?_, rfl, trivial⟩, trivial, rfl⟩
   show Cell.s (.int .i64 (IntKind.i64.wrap (b - rr.length))) = Cell.s (.int .i64 (szn b (rr.length + 0)))
   rw [w1, Nat.add_zero, hs]
 · intro i ⟨hi, hb⟩ J hJ
   refine xb rfl (fun h => ?_) (fun h => ?_)
   · have h : i < rr.length := by simpa using h
     obtain ⟨row, hg⟩ : ∃ row, rr[i]? = some row := ⟨_, List.getElem?_eq_getElem h⟩
     have hc := y0u (f := tot qd) hg
     have hc2 := z0j (tot qd) rr (i + 1)
     obtain ⟨x0, x1, x2, rfl, h1, h2⟩ := y0j (hw.2 row (List.mem_of_getElem? hg))
     refine xs rfl (Int.natCast_nonneg _) (y9 rfl _ hg (xs rfl rfl ?_))
     refine z7 rfl (y5d _ _ _ _ h1 h2 hb (y0h p1 p0)) rfl ⟨⟨trivial, trivial, trivial, trivial⟩, trivial, trivial⟩ ?_
     refine xb rfl (fun hn => ?_) (fun hn => ?_)
     · have hn : szn (szn b (rr.length + z00 (tot qd) (rr.take i))) (tot qd [.s (.int .i64 x0), .l x1, .l x2]) < 0 := by simpa using hn
       rw [yi hb] at hn
       exact xr rfl (q7 rfl ⟨⟨rfl, (by show Value.int _ _ = Value.int _ _; congr 1; unfold szn ql at *; split at hn <;> rw [if_pos] <;> omega), trivial⟩, z6 rfl⟩)
     · have hn : ¬ szn (szn b (rr.length + z00 (tot qd) (rr.take i))) (tot qd [.s (.int .i64 x0), .l x1, .l x2]) < 0 := by simpa using hn
       have he := yi (n := tot qd [.s (.int .i64 x0), .l x1, .l x2]) hb
       rw [he] at hn
       rw [Nat.add_assoc, ← hc] at he hn
       refine ya rfl (hJ _ (i + 1) ⟨by omega, by omega⟩ (by omega) ?_)
       refine ⟨⟨cwi (by omega) (by omega) (by omega), ?_, rfl, trivial⟩, trivial, rfl⟩
       exact congrArg (fun n => Cell.s (.int .i64 n)) he
   · have h : ¬ i < rr.length := by simpa using h
     have : i = rr.length := by omega
     subst this
     exact xr rfl (q7 rfl ⟨⟨rfl, (by show Value.int _ _ = Value.int _ _; rw [List.take_length]; rfl), trivial⟩, z6 rfl⟩)
theorem z47 (rr : List (List Cell)) (b : Int) (hw : WR 9223372036854775807 zg rr) (p0 : 0 ≤ b) (p1 : b ≤ 1048576) : PC Tryz.prog 54 [.one (.l rr), .one (.s (.int .i64 b))] (rI (szn b (ql zg rr))) := by
 refine PC.begin Tryz.func54 rfl (by kernel_rfl) ?_
 have hlen := hw.1
 have w1 : IntKind.i64.wrap (b - rr.length) = b - rr.length := wrap_i64 (by omega) (by omega)
 rw [y0n (fun row hr => by obtain ⟨x0, x1, x2, x3, x4, x5, x6, x7, x8, rfl⟩ := y0b hr; rfl) hw]
 refine xb rfl (fun h => ?_) (fun h => ?_)
 · simp only [w1, decide_eq_true_eq] at h
   exact xr rfl (q7 rfl ⟨⟨rfl, (by show Value.int _ _ = Value.int _ _; rw [szn, if_pos h]), trivial⟩, z6 rfl⟩)
 · simp only [w1, decide_eq_false_iff_not] at h
   exact xr rfl (q7 rfl ⟨⟨rfl, (by show Value.int .i64 (IntKind.i64.wrap (b - rr.length)) = Value.int _ _; rw [szn, if_neg h, w1]), trivial⟩, z6 rfl⟩)
theorem y4t (x0 : List (List Cell)) (x1 : List (List Cell)) (x2 : List (List Cell)) (x3 : List (List Cell)) (x4 : List (List Cell)) (b : Int) (h0 : WR 9223372036854775807 z8 x0) (h1 : WR 9223372036854775807 qe x1) (h2 : WR 9223372036854775807 za x2) (h3 : WR 9223372036854775807 qd x3) (h4 : WR 9223372036854775807 zg x4) (hb0 : 0 ≤ b) (hb1 : b ≤ 1048576) : PC Tryz.prog 12 [.agg [.l x0, .l x1, .l x2, .l x3, .l x4], .one (.s (.int .i64 b))] (rI (szn b (tot qn [.l x0, .l x1, .l x2, .l x3, .l x4]))) := by
 refine PC.begin Tryz.func12 rfl (by kernel_rfl) ?_
 have ht : tot qn [.l x0, .l x1, .l x2, .l x3, .l x4] = ql z8 x0 + ql qe x1 + ql za x2 + ql qd x3 + ql zg x4 := by simp only [tot, ql] <;> omega
 refine z7 rfl (y1j x0 b h0 hb0 hb1) rfl ⟨trivial, trivial, trivial⟩ ?_
 refine xb rfl (fun h => ?_) (fun e0 => ?_)
 · have h : szn b (ql z8 x0) < 0 := by simpa using h
   exact xr rfl (q7 rfl ⟨⟨rfl, (by show Value.int _ _ = Value.int _ _; congr 1; rw [ht]; unfold szn at *; split at h <;> rw [if_pos] <;> omega), trivial⟩, z6 rfl⟩)
 have e0 : 0 ≤ szn b (ql z8 x0) := by simpa using e0
 refine z7 rfl (q5d x1 (szn b (ql z8 x0)) h1 e0 (y0h hb1 hb0)) rfl ⟨trivial, trivial, trivial⟩ ?_
 refine xb rfl (fun h => ?_) (fun e1 => ?_)
 · have h : szn (szn b (ql z8 x0)) (ql qe x1) < 0 := by simpa using h
   rw [yi e0] at h
   exact xr rfl (q7 rfl ⟨⟨rfl, (by show Value.int _ _ = Value.int _ _; congr 1; rw [ht]; unfold szn at *; split at h <;> rw [if_pos] <;> omega), trivial⟩, z6 rfl⟩)
 have e1 : 0 ≤ szn b (ql z8 x0 + ql qe x1) := by rw [← yi e0]; simpa using e1
 rw [yi e0]
 refine z7 rfl (z3d x2 (szn b (ql z8 x0 + ql qe x1)) h2 e1 (y0h hb1 hb0)) rfl ⟨trivial, trivial, trivial⟩ ?_
 refine xb rfl (fun h => ?_) (fun e2 => ?_)
 · have h : szn (szn b (ql z8 x0 + ql qe x1)) (ql za x2) < 0 := by simpa using h
   rw [yi e1] at h
   exact xr rfl (q7 rfl ⟨⟨rfl, (by show Value.int _ _ = Value.int _ _; congr 1; rw [ht]; unfold szn at *; split at h <;> rw [if_pos] <;> omega), trivial⟩, z6 rfl⟩)
 have e2 : 0 ≤ szn b (ql z8 x0 + ql qe x1 + ql za x2) := by rw [← yi e1]; simpa using e2
 rw [yi e1]
 refine z7 rfl (q4t x3 (szn b (ql z8 x0 + ql qe x1 + ql za x2)) h3 e2 (y0h hb1 hb0)) rfl ⟨trivial, trivial, trivial⟩ ?_
 refine xb rfl (fun h => ?_) (fun e3 => ?_)
 · have h : szn (szn b (ql z8 x0 + ql qe x1 + ql za x2)) (ql qd x3) < 0 := by simpa using h
   rw [yi e2] at h
   exact xr rfl (q7 rfl ⟨⟨rfl, (by show Value.int _ _ = Value.int _ _; congr 1; rw [ht]; unfold szn at *; split at h <;> rw [if_pos] <;> omega), trivial⟩, z6 rfl⟩)
 have e3 : 0 ≤ szn b (ql z8 x0 + ql qe x1 + ql za x2 + ql qd x3) := by rw [← yi e2]; simpa using e3
 rw [yi e2]
 refine z7 rfl (z47 x4 (szn b (ql z8 x0 + ql qe x1 + ql za x2 + ql qd x3)) h4 e3 (y0h hb1 hb0)) rfl ⟨trivial, trivial, trivial⟩ ?_
 refine xb rfl (fun h => ?_) (fun e4 => ?_)
 · have h : szn (szn b (ql z8 x0 + ql qe x1 + ql za x2 + ql qd x3)) (ql zg x4) < 0 := by simpa using h
   rw [yi e3] at h
   exact xr rfl (q7 rfl ⟨⟨rfl, (by show Value.int _ _ = Value.int _ _; congr 1; rw [ht]; unfold szn at *; split at h <;> rw [if_pos] <;> omega), trivial⟩, z6 rfl⟩)
 have e4 : 0 ≤ szn b (ql z8 x0 + ql qe x1 + ql za x2 + ql qd x3 + ql zg x4) := by rw [← yi e3]; simpa using e4
 rw [yi e3]
 exact xr rfl (q7 rfl ⟨⟨rfl, (by show Value.int _ _ = Value.int _ _; rw [ht]), trivial⟩, z6 rfl⟩)
end Go.Proofs.YthljegacamgnnaaGreat
end
section
namespace Go.Proofs.YthljegacamgnnaaGreat
open Go Go.Sx
set_option maxRecDepth 20000
set_option maxHeartbeats 4000000
theorem z9j (x0 x1 x2 x3 x4 : List (List Cell)) (hw : WT 9223372036854775807 qn [.l x0, .l x1, .l x2, .l x3, .l x4]) (b : Nat) (hb : b ≤ 1048576) :
 PC Tryz.prog 12 [.agg [.l x0, .l x1, .l x2, .l x3, .l x4], .one (i64 b)] (rI (-1)) ∨ ∃ c : Clu, x0 = c.cons.map Con.cs ∧ x1 = c.shs.map Shd.cs ∧ x2 = c.accs.map Acc.cs ∧ x3 = c.ldrs.map Ldr.cs ∧ x4 = c.msgs.map Msg.cs ∧ q00 c ∧ (WT 1048576 qn c.cs ∧ tot qn c.cs ≤ b) ∧
  (∃ n : Nat, n ≤ b ∧ PC Tryz.prog 12 [.agg c.cs, .one (i64 b)] (rI n)) ∧ PC Tryz.prog 14 [.agg c.cs] (.one (.own true [.l 2 (c.cons.map Con.cs), .l 6 (c.shs.map Shd.cs), .l 1 (c.accs.map Acc.cs), .l 3 (c.ldrs.map Ldr.cs), .l 9 (c.msgs.map Msg.cs)])) ∧
  PC Tryz.prog 17 [.agg c.cs, .agg c.cs] (rB true) := by
 obtain ⟨_, _, _, _, _, e, k0, k1, k2, k3, k4⟩ := z0l hw
 cases e
 have hsz := y4t x0 x1 x2 x3 x4 b k0 k1 k2 k3 k4 (by omega) (by omega)
 by_cases ht : tot qn [.l x0, .l x1, .l x2, .l x3, .l x4] ≤ b
 · right
   have hs : szn b (tot qn [.l x0, .l x1, .l x2, .l x3, .l x4]) = ((b - tot qn [.l x0, .l x1, .l x2, .l x3, .l x4] : Nat) : Int) := by
    unfold szn; rw [if_neg (by omega)]; omega
   rw [hs] at hsz
   have hwt := z9t hw (Nat.le_trans ht hb)
   obtain ⟨_, _, _, _, _, e, m0, m1, m2, m3, m4⟩ := z0l hwt
   cases e
   obtain ⟨c, ec, ho⟩ := z4d _ hwt
   have up : ∀ {e : Sh} {r : List (List Cell)}, WR 1048576 e r → WR 9000000000000000000 e r := fun h => h.mono (by omega)
   have heq := q4e x0 x1 x2 x3 x4 x0 x1 x2 x3 x4 (up m0) (up m1) (up m2) (up m3) (up m4) (up m0) (up m1) (up m2) (up m3) (up m4)
   rw [show dE (α := List Cell) [.l x0, .l x1, .l x2, .l x3, .l x4] [.l x0, .l x1, .l x2, .l x3, .l x4] = true from (Value.bool.inj (qu rfl)).symm] at heq
   have hto := y4u x0 x1 x2 x3 x4 m0 m1 m2 m3 m4
   simp only [Clu.cs, List.cons.injEq, Cell.l.injEq, and_true] at ec
   obtain ⟨rfl, rfl, rfl, rfl, rfl⟩ := ec
   exact ⟨c, rfl, rfl, rfl, rfl, rfl, ho, ⟨hwt, ht⟩, ⟨_, Nat.sub_le _ _, hsz⟩, hto, heq⟩
 · left
   have hs : szn b (tot qn [.l x0, .l x1, .l x2, .l x3, .l x4]) = -1 := by
    unfold szn; rw [if_pos (by omega)]
   rw [hs] at hsz
   exact hsz
end Go.Proofs.YthljegacamgnnaaGreat
end
section
namespace Go.Proofs.YthljegacamgnnaaGreat
open Go Go.Sx
set_option maxRecDepth 20000
set_option maxHeartbeats 4000000
theorem z2w (z : Nat) (rr : List (List Cell)) (k : Int) (hw : WR 9000000000000000000 zo rr) : PG Tryz.prog 96 [.one (.giv true z rr), .one (.bor (i64 k))] (rI (mkR (mk zo) rr k).2) [(0, (mkR (mk zo) rr k).1)] := by
 refine PG.begin Tryz.func96 rfl (by kernel_rfl) ?_
 have hlen := hw.1
 refine yd rfl (ι := Nat) (fun i => i ≤ rr.length) (fun i => ⟨[(5, sV (.int .i64 i)), (1, sV (.int .i64 (mdk (mk zo) rr k i))), (0, .one (.h 1000000000 rr.length))], [(1000000000, .arr true z 0 (md (mk zo) rr k i))]⟩) (fun i => rr.length - i) 0 (Nat.zero_le _) ?_ ?_
 · exact ⟨⟨rfl, congrArg (fun n => Cell.s (.int .i64 n)) q01.symm, ⟨rfl, rfl, rfl⟩, trivial⟩, ⟨⟨y0c.symm, .inl rfl, .inl rfl⟩, trivial⟩, rfl⟩
 · intro i hi J hJ
   refine xb rfl (fun h => ?_) (fun h => ?_)
   · have h : i < rr.length := by simpa using h
     obtain ⟨row, hg⟩ : ∃ row, rr[i]? = some row := ⟨_, List.getElem?_eq_getElem h⟩
     obtain ⟨x0, x1, x2, x3, rfl⟩ := z1n (hw.2 row (List.mem_of_getElem? hg))
     have hl := z0x (f := (mk zo)) (k := k) hi
     have hg0 := q0w (f := (mk zo)) (k := k) hg
     have hlt : i < (md (mk zo) rr k i).length := by omega
     refine xs rfl (hl).symm (xs rfl (Int.natCast_nonneg _) (y9 rfl _ hg0 (xs rfl rfl (xs rfl (hl).symm (y9 rfl _ hg0 (xs rfl (by show 0 + 1 ≤ 4; omega) (xs rfl ⟨trivial, trivial⟩ ?_)))))))
     refine xs rfl (yb (hl)).symm (xs rfl (Int.natCast_nonneg _) (y9 rfl _ (yw (hl) h) (xs rfl rfl (xs rfl (yb (hl)).symm (y9 rfl _ (yw (hl) h) (xs rfl (by show 1 + 1 ≤ 4; omega) (xs rfl ⟨trivial, trivial⟩ ?_)))))))
     refine xs rfl (yb (yb (hl))).symm (xs rfl (Int.natCast_nonneg _) (y9 rfl _ (yw (yb (hl)) h) (xs rfl rfl (xs rfl (yb (yb (hl))).symm (y9 rfl _ (yw (yb (hl)) h) (xs rfl (by show 2 + 1 ≤ 4; omega) (xs rfl ⟨trivial, trivial⟩ ?_)))))))
     refine xs rfl (yb (yb (yb (hl)))).symm (xs rfl (Int.natCast_nonneg _) (y9 rfl _ (yw (yb (yb (hl))) h) (xs rfl rfl (xs rfl (yb (yb (yb (hl)))).symm (y9 rfl _ (yw (yb (yb (hl))) h) (xs rfl (by show 3 + 1 ≤ 4; omega) (xs rfl ⟨trivial, trivial⟩ ?_)))))))
     refine ya rfl (hJ _ (i + 1) (by omega) (by omega) ?_)
     refine ⟨⟨cwi (by omega) (by omega) (by omega), ?_, ⟨rfl, rfl, rfl⟩, trivial⟩, ⟨⟨?_, .inl rfl, .inl rfl⟩, trivial⟩, rfl⟩
     · rw [y01 hg]; rfl
     · refine Eq.trans ?_ (y0x hg)
       try simp only [Int.toNat_natCast, qt hg0, ssr hlt, List.set_set]
       rfl
   · have h : ¬ i < rr.length := by simpa using h
     have : i = rr.length := by omega
     subst this
     exact xr rfl (q1p rfl ⟨⟨rfl, congrArg (Value.int .i64) q0c, trivial⟩, z6 rfl⟩ ⟨⟨rfl, rfl, y0w, zq _ _ _, qs hw⟩, trivial⟩)
theorem z12 (z : Nat) (rr : List (List Cell)) (k : Int) (hw : WR 9000000000000000000 z8 rr) : PG Tryz.prog 91 [.one (.giv true z rr), .one (.bor (i64 k))] (rI (mkR (mk z8) rr k).2) [(0, (mkR (mk z8) rr k).1)] := by
 refine PG.begin Tryz.func91 rfl (by kernel_rfl) ?_
 have hlen := hw.1
 refine yd rfl (ι := Nat) (fun i => i ≤ rr.length) (fun i => ⟨[(5, sV (.int .i64 i)), (1, sV (.int .i64 (mdk (mk z8) rr k i))), (0, .one (.h 1000000000 rr.length))], [(1000000000, .arr true z 0 (md (mk z8) rr k i))]⟩) (fun i => rr.length - i) 0 (Nat.zero_le _) ?_ ?_
 · exact ⟨⟨rfl, congrArg (fun n => Cell.s (.int .i64 n)) q01.symm, ⟨rfl, rfl, rfl⟩, trivial⟩, ⟨⟨y0c.symm, .inl rfl, .inl rfl⟩, trivial⟩, rfl⟩
 · intro i hi J hJ
   refine xb rfl (fun h => ?_) (fun h => ?_)
   · have h : i < rr.length := by simpa using h
     obtain ⟨row, hg⟩ : ∃ row, rr[i]? = some row := ⟨_, List.getElem?_eq_getElem h⟩
     obtain ⟨x0, x1, rfl, h1⟩ := y06 (hw.2 row (List.mem_of_getElem? hg))
     have hl := z0x (f := (mk z8)) (k := k) hi
     have hg0 := q0w (f := (mk z8)) (k := k) hg
     have hlt : i < (md (mk z8) rr k i).length := by omega
     refine xs rfl (hl).symm (xs rfl (Int.natCast_nonneg _) (y9 rfl _ hg0 (xs rfl rfl (xs rfl (hl).symm (y9 rfl _ hg0 (xs rfl (by show 0 + 1 ≤ 2; omega) (xs rfl ⟨trivial, trivial⟩ ?_)))))))
     refine xs rfl (yb (hl)).symm (xs rfl (Int.natCast_nonneg _) (y9 rfl _ (yw (hl) h) (xs rfl rfl (xs rfl (yb (hl)).symm (y9 rfl _ (yw (hl) h) ?_)))))
     refine q0t rfl (z2w 0 _ _ h1) ⟨⟨rfl, rfl, rfl, _, (yw (hl) h), rfl⟩, rfl, trivial⟩ rfl ?_
     refine ya rfl (hJ _ (i + 1) (by omega) (by omega) ?_)
     refine ⟨⟨cwi (by omega) (by omega) (by omega), ?_, ⟨rfl, rfl, rfl⟩, trivial⟩, ⟨⟨?_, .inl rfl, .inl rfl⟩, trivial⟩, rfl⟩
     · rw [y01 hg]; rfl
     · refine Eq.trans ?_ (y0x hg)
       try simp only [Int.toNat_natCast, qt hg0, ssr hlt, List.set_set]
       rfl
   · have h : ¬ i < rr.length := by simpa using h
     have : i = rr.length := by omega
     subst this
     exact xr rfl (q1p rfl ⟨⟨rfl, congrArg (Value.int .i64) q0c, trivial⟩, z6 rfl⟩ ⟨⟨rfl, rfl, y0w, zq _ _ _, qs hw⟩, trivial⟩)
theorem q2v (z : Nat) (rr : List (List Cell)) (k : Int) (hw : WR 9000000000000000000 yc rr) : PG Tryz.prog 156 [.one (.giv true z rr), .one (.bor (i64 k))] (rI (mkR (mk yc) rr k).2) [(0, (mkR (mk yc) rr k).1)] := by
 refine PG.begin Tryz.func156 rfl (by kernel_rfl) ?_
 have hlen := hw.1
 refine yd rfl (ι := Nat) (fun i => i ≤ rr.length) (fun i => ⟨[(5, sV (.int .i64 i)), (1, sV (.int .i64 (mdk (mk yc) rr k i))), (0, .one (.h 1000000000 rr.length))], [(1000000000, .arr true z 0 (md (mk yc) rr k i))]⟩) (fun i => rr.length - i) 0 (Nat.zero_le _) ?_ ?_
 · exact ⟨⟨rfl, congrArg (fun n => Cell.s (.int .i64 n)) q01.symm, ⟨rfl, rfl, rfl⟩, trivial⟩, ⟨⟨y0c.symm, .inl rfl, .inl rfl⟩, trivial⟩, rfl⟩
 · intro i hi J hJ
   refine xb rfl (fun h => ?_) (fun h => ?_)
   · have h : i < rr.length := by simpa using h
     obtain ⟨row, hg⟩ : ∃ row, rr[i]? = some row := ⟨_, List.getElem?_eq_getElem h⟩
     obtain ⟨x0, x1, x2, rfl⟩ := z0b (hw.2 row (List.mem_of_getElem? hg))
     have hl := z0x (f := (mk yc)) (k := k) hi
     have hg0 := q0w (f := (mk yc)) (k := k) hg
     have hlt : i < (md (mk yc) rr k i).length := by omega
     refine xs rfl (hl).symm (xs rfl (Int.natCast_nonneg _) (y9 rfl _ hg0 (xs rfl rfl (xs rfl (hl).symm (y9 rfl _ hg0 (xs rfl (by show 0 + 1 ≤ 3; omega) (xs rfl ⟨trivial, trivial⟩ ?_)))))))
     refine xs rfl (yb (hl)).symm (xs rfl (Int.natCast_nonneg _) (y9 rfl _ (yw (hl) h) (xs rfl rfl (xs rfl (yb (hl)).symm (y9 rfl _ (yw (hl) h) (xs rfl (by show 1 + 1 ≤ 3; omega) (xs rfl ⟨trivial, trivial⟩ ?_)))))))
     refine xs rfl (yb (yb (hl))).symm (xs rfl (Int.natCast_nonneg _) (y9 rfl _ (yw (yb (hl)) h) (xs rfl rfl (xs rfl (yb (yb (hl))).symm (y9 rfl _ (yw (yb (hl)) h) (xs rfl (by show 2 + 1 ≤ 3; omega) (xs rfl ⟨trivial, trivial⟩ ?_)))))))
     refine ya rfl (hJ _ (i + 1) (by omega) (by omega) ?_)
     refine ⟨⟨cwi (by omega) (by omega) (by omega), ?_, ⟨rfl, rfl, rfl⟩, trivial⟩, ⟨⟨?_, .inl rfl, .inl rfl⟩, trivial⟩, rfl⟩
     · rw [y01 hg]; rfl
     · refine Eq.trans ?_ (y0x hg)
       try simp only [Int.toNat_natCast, qt hg0, ssr hlt, List.set_set]
       rfl
   · have h : ¬ i < rr.length := by simpa using h
     have : i = rr.length := by omega
     subst this
     exact xr rfl (q1p rfl ⟨⟨rfl, congrArg (Value.int .i64) q0c, trivial⟩, z6 rfl⟩ ⟨⟨rfl, rfl, y0w, zq _ _ _, qs hw⟩, trivial⟩)
theorem q2d (z : Nat) (rr : List (List Cell)) (k : Int) (hw : WR 9000000000000000000 yh rr) : PG Tryz.prog 157 [.one (.giv true z rr), .one (.bor (i64 k))] (rI (mkR (mk yh) rr k).2) [(0, (mkR (mk yh) rr k).1)] := by
 refine PG.begin Tryz.func157 rfl (by kernel_rfl) ?_
 have hlen := hw.1
 refine yd rfl (ι := Nat) (fun i => i ≤ rr.length) (fun i => ⟨[(5, sV (.int .i64 i)), (1, sV (.int .i64 (mdk (mk yh) rr k i))), (0, .one (.h 1000000000 rr.length))], [(1000000000, .arr true z 0 (md (mk yh) rr k i))]⟩) (fun i => rr.length - i) 0 (Nat.zero_le _) ?_ ?_
 · exact ⟨⟨rfl, congrArg (fun n => Cell.s (.int .i64 n)) q01.symm, ⟨rfl, rfl, rfl⟩, trivial⟩, ⟨⟨y0c.symm, .inl rfl, .inl rfl⟩, trivial⟩, rfl⟩
 · intro i hi J hJ
   refine xb rfl (fun h => ?_) (fun h => ?_)
   · have h : i < rr.length := by simpa using h
     obtain ⟨row, hg⟩ : ∃ row, rr[i]? = some row := ⟨_, List.getElem?_eq_getElem h⟩
     obtain ⟨x0, x1, rfl⟩ := y1d (hw.2 row (List.mem_of_getElem? hg))
     have hl := z0x (f := (mk yh)) (k := k) hi
     have hg0 := q0w (f := (mk yh)) (k := k) hg
     have hlt : i < (md (mk yh) rr k i).length := by omega
     refine xs rfl (hl).symm (xs rfl (Int.natCast_nonneg _) (y9 rfl _ hg0 (xs rfl rfl (xs rfl (hl).symm (y9 rfl _ hg0 (xs rfl (by show 0 + 1 ≤ 2; omega) (xs rfl ⟨trivial, trivial⟩ ?_)))))))
     refine xs rfl (yb (hl)).symm (xs rfl (Int.natCast_nonneg _) (y9 rfl _ (yw (hl) h) (xs rfl rfl (xs rfl (yb (hl)).symm (y9 rfl _ (yw (hl) h) (xs rfl (by show 1 + 1 ≤ 2; omega) (xs rfl ⟨trivial, trivial⟩ ?_)))))))
     refine ya rfl (hJ _ (i + 1) (by omega) (by omega) ?_)
     refine ⟨⟨cwi (by omega) (by omega) (by omega), ?_, ⟨rfl, rfl, rfl⟩, trivial⟩, ⟨⟨?_, .inl rfl, .inl rfl⟩, trivial⟩, rfl⟩
     · rw [y01 hg]; rfl
     · refine Eq.trans ?_ (y0x hg)
       try simp only [Int.toNat_natCast, qt hg0, ssr hlt, List.set_set]
       rfl
   · have h : ¬ i < rr.length := by simpa using h
     have : i = rr.length := by omega
     subst this
     exact xr rfl (q1p rfl ⟨⟨rfl, congrArg (Value.int .i64) q0c, trivial⟩, z6 rfl⟩ ⟨⟨rfl, rfl, y0w, zq _ _ _, qs hw⟩, trivial⟩)
theorem y1u (z : Nat) (rr : List (List Cell)) (k : Int) (hw : WR 9000000000000000000 (.i .i64 .nil) rr) : PG Tryz.prog 101 [.one (.giv true z rr), .one (.bor (i64 k))] (rI (mkR (mk (.i .i64 .nil)) rr k).2) [(0, (mkR (mk (.i .i64 .nil)) rr k).1)] := by
 refine PG.begin Tryz.func101 rfl (by kernel_rfl) ?_
 have hlen := hw.1
 refine yd rfl (ι := Nat) (fun i => i ≤ rr.length) (fun i => ⟨[(5, sV (.int .i64 i)), (1, sV (.int .i64 (mdk (mk (.i .i64 .nil)) rr k i))), (0, .one (.h 1000000000 rr.length))], [(1000000000, .arr true z 0 (md (mk (.i .i64 .nil)) rr k i))]⟩) (fun i => rr.length - i) 0 (Nat.zero_le _) ?_ ?_
 · exact ⟨⟨rfl, congrArg (fun n => Cell.s (.int .i64 n)) q01.symm, ⟨rfl, rfl, rfl⟩, trivial⟩, ⟨⟨y0c.symm, .inl rfl, .inl rfl⟩, trivial⟩, rfl⟩
 · intro i hi J hJ
   refine xb rfl (fun h => ?_) (fun h => ?_)
   · have h : i < rr.length := by simpa using h
     obtain ⟨row, hg⟩ : ∃ row, rr[i]? = some row := ⟨_, List.getElem?_eq_getElem h⟩
     obtain ⟨x0, _, rfl, hnil⟩ := ((hw.2 row (List.mem_of_getElem? hg))).qv; obtain rfl := hnil.zy
     have hl := z0x (f := (mk (.i .i64 .nil))) (k := k) hi
     have hg0 := q0w (f := (mk (.i .i64 .nil))) (k := k) hg
     have hlt : i < (md (mk (.i .i64 .nil)) rr k i).length := by omega
     refine xs rfl (hl).symm (xs rfl (Int.natCast_nonneg _) (y9 rfl _ hg0 (xs rfl rfl (xs rfl (hl).symm (y9 rfl _ hg0 (xs rfl (by show 0 + 1 ≤ 1; omega) (xs rfl ⟨trivial, trivial⟩ ?_)))))))
     refine ya rfl (hJ _ (i + 1) (by omega) (by omega) ?_)
     refine ⟨⟨cwi (by omega) (by omega) (by omega), ?_, ⟨rfl, rfl, rfl⟩, trivial⟩, ⟨⟨?_, .inl rfl, .inl rfl⟩, trivial⟩, rfl⟩
     · rw [y01 hg]; rfl
     · refine Eq.trans ?_ (y0x hg)
       try simp only [Int.toNat_natCast, qt hg0, ssr hlt, List.set_set]
       rfl
   · have h : ¬ i < rr.length := by simpa using h
     have : i = rr.length := by omega
     subst this
     exact xr rfl (q1p rfl ⟨⟨rfl, congrArg (Value.int .i64) q0c, trivial⟩, z6 rfl⟩ ⟨⟨rfl, rfl, y0w, zq _ _ _, qs hw⟩, trivial⟩)
theorem q3y (z : Nat) (rr : List (List Cell)) (k : Int) (hw : WR 9000000000000000000 qe rr) : PG Tryz.prog 92 [.one (.giv true z rr), .one (.bor (i64 k))] (rI (mkR (mk qe) rr k).2) [(0, (mkR (mk qe) rr k).1)] := by
 refine PG.begin Tryz.func92 rfl (by kernel_rfl) ?_
 have hlen := hw.1
 refine yd rfl (ι := Nat) (fun i => i ≤ rr.length) (fun i => ⟨[(5, sV (.int .i64 i)), (1, sV (.int .i64 (mdk (mk qe) rr k i))), (0, .one (.h 1000000000 rr.length))], [(1000000000, .arr true z 0 (md (mk qe) rr k i))]⟩) (fun i => rr.length - i) 0 (Nat.zero_le _) ?_ ?_
 · exact ⟨⟨rfl, congrArg (fun n => Cell.s (.int .i64 n)) q01.symm, ⟨rfl, rfl, rfl⟩, trivial⟩, ⟨⟨y0c.symm, .inl rfl, .inl rfl⟩, trivial⟩, rfl⟩
 · intro i hi J hJ
   refine xb rfl (fun h => ?_) (fun h => ?_)
   · have h : i < rr.length := by simpa using h
     obtain ⟨row, hg⟩ : ∃ row, rr[i]? = some row := ⟨_, List.getElem?_eq_getElem h⟩
     obtain ⟨x0, x1, x2, x3, x4, x5, rfl, h1, h2, h3, h4, h5⟩ := q0v (hw.2 row (List.mem_of_getElem? hg))
     have hl := z0x (f := (mk qe)) (k := k) hi
     have hg0 := q0w (f := (mk qe)) (k := k) hg
     have hlt : i < (md (mk qe) rr k i).length := by omega
     refine xs rfl (hl).symm (xs rfl (Int.natCast_nonneg _) (y9 rfl _ hg0 (xs rfl rfl (xs rfl (hl).symm (y9 rfl _ hg0 (xs rfl (by show 0 + 1 ≤ 6; omega) (xs rfl ⟨trivial, trivial⟩ ?_)))))))
     refine xs rfl (yb (hl)).symm (xs rfl (Int.natCast_nonneg _) (y9 rfl _ (yw (hl) h) (xs rfl rfl (xs rfl (yb (hl)).symm (y9 rfl _ (yw (hl) h) ?_)))))
     refine q0t rfl (q2v 0 _ _ h1) ⟨⟨rfl, rfl, rfl, _, (yw (hl) h), rfl⟩, rfl, trivial⟩ rfl ?_
     refine xs rfl (lsr (yb (hl))).symm (xs rfl (Int.natCast_nonneg _) (y9 rfl _ (ze (yw (hl) h)) (xs rfl rfl (xs rfl (lsr (yb (hl))).symm (y9 rfl _ (ze (yw (hl) h)) ?_)))))
     refine q0t rfl (q2d 0 _ _ h2) ⟨⟨rfl, rfl, rfl, _, (ze (yw (hl) h)), rfl⟩, rfl, trivial⟩ rfl ?_
     refine xs rfl (lsr (lsr (yb (hl)))).symm (xs rfl (Int.natCast_nonneg _) (y9 rfl _ (ze (ze (yw (hl) h))) (xs rfl rfl (xs rfl (lsr (lsr (yb (hl)))).symm (y9 rfl _ (ze (ze (yw (hl) h))) ?_)))))
     refine q0t rfl (z12 0 _ _ h3) ⟨⟨rfl, rfl, rfl, _, (ze (ze (yw (hl) h))), rfl⟩, rfl, trivial⟩ rfl ?_
     refine xs rfl (lsr (lsr (lsr (yb (hl))))).symm (xs rfl (Int.natCast_nonneg _) (y9 rfl _ (ze (ze (ze (yw (hl) h)))) (xs rfl rfl (xs rfl (lsr (lsr (lsr (yb (hl))))).symm (y9 rfl _ (ze (ze (ze (yw (hl) h)))) ?_)))))
     refine q0t rfl (q2d 0 _ _ h4) ⟨⟨rfl, rfl, rfl, _, (ze (ze (ze (yw (hl) h)))), rfl⟩, rfl, trivial⟩ rfl ?_
     refine xs rfl (lsr (lsr (lsr (lsr (yb (hl)))))).symm (xs rfl (Int.natCast_nonneg _) (y9 rfl _ (ze (ze (ze (ze (yw (hl) h))))) (xs rfl rfl (xs rfl (lsr (lsr (lsr (lsr (yb (hl)))))).symm (y9 rfl _ (ze (ze (ze (ze (yw (hl) h))))) ?_)))))
     refine q0t rfl (y1u 0 _ _ h5) ⟨⟨rfl, rfl, rfl, _, (ze (ze (ze (ze (yw (hl) h))))), rfl⟩, rfl, trivial⟩ rfl ?_
     refine ya rfl (hJ _ (i + 1) (by omega) (by omega) ?_)
     refine ⟨⟨cwi (by omega) (by omega) (by omega), ?_, ⟨rfl, rfl, rfl⟩, trivial⟩, ⟨⟨?_, .inl rfl, .inl rfl⟩, trivial⟩, rfl⟩
     · rw [y01 hg]; rfl
     · refine Eq.trans ?_ (y0x hg)
       try simp only [Int.toNat_natCast, qt hg0, ssr hlt, List.set_set]
       rfl
   · have h : ¬ i < rr.length := by simpa using h
     have : i = rr.length := by omega
     subst this
     exact xr rfl (q1p rfl ⟨⟨rfl, congrArg (Value.int .i64) q0c, trivial⟩, z6 rfl⟩ ⟨⟨rfl, rfl, y0w, zq _ _ _, qs hw⟩, trivial⟩)
theorem z2e (z : Nat) (rr : List (List Cell)) (k : Int) (hw : WR 9000000000000000000 zm rr) : PG Tryz.prog 226 [.one (.giv true z rr), .one (.bor (i64 k))] (rI (mkR (mk zm) rr k).2) [(0, (mkR (mk zm) rr k).1)] := by
 refine PG.begin Tryz.func226 rfl (by kernel_rfl) ?_
 have hlen := hw.1
 refine yd rfl (ι := Nat) (fun i => i ≤ rr.length) (fun i => ⟨[(5, sV (.int .i64 i)), (1, sV (.int .i64 (mdk (mk zm) rr k i))), (0, .one (.h 1000000000 rr.length))], [(1000000000, .arr true z 0 (md (mk zm) rr k i))]⟩) (fun i => rr.length - i) 0 (Nat.zero_le _) ?_ ?_
 · exact ⟨⟨rfl, congrArg (fun n => Cell.s (.int .i64 n)) q01.symm, ⟨rfl, rfl, rfl⟩, trivial⟩, ⟨⟨y0c.symm, .inl rfl, .inl rfl⟩, trivial⟩, rfl⟩
 · intro i hi J hJ
   refine xb rfl (fun h => ?_) (fun h => ?_)
   · have h : i < rr.length := by simpa using h
     obtain ⟨row, hg⟩ : ∃ row, rr[i]? = some row := ⟨_, List.getElem?_eq_getElem h⟩
     obtain ⟨x0, x1, rfl⟩ := z1e (hw.2 row (List.mem_of_getElem? hg))
     have hl := z0x (f := (mk zm)) (k := k) hi
     have hg0 := q0w (f := (mk zm)) (k := k) hg
     have hlt : i < (md (mk zm) rr k i).length := by omega
     refine xs rfl (hl).symm (xs rfl (Int.natCast_nonneg _) (y9 rfl _ hg0 (xs rfl rfl (xs rfl (hl).symm (y9 rfl _ hg0 (xs rfl (by show 0 + 1 ≤ 2; omega) (xs rfl ⟨trivial, trivial⟩ ?_)))))))
     refine xs rfl (yb (hl)).symm (xs rfl (Int.natCast_nonneg _) (y9 rfl _ (yw (hl) h) (xs rfl rfl (xs rfl (yb (hl)).symm (y9 rfl _ (yw (hl) h) (xs rfl (by show 1 + 1 ≤ 2; omega) (xs rfl ⟨trivial, trivial⟩ ?_)))))))
     refine ya rfl (hJ _ (i + 1) (by omega) (by omega) ?_)
     refine ⟨⟨cwi (by omega) (by omega) (by omega), ?_, ⟨rfl, rfl, rfl⟩, trivial⟩, ⟨⟨?_, .inl rfl, .inl rfl⟩, trivial⟩, rfl⟩
     · rw [y01 hg]; rfl
     · refine Eq.trans ?_ (y0x hg)
       try simp only [Int.toNat_natCast, qt hg0, ssr hlt, List.set_set]
       rfl
   · have h : ¬ i < rr.length := by simpa using h
     have : i = rr.length := by omega
     subst this
     exact xr rfl (q1p rfl ⟨⟨rfl, congrArg (Value.int .i64) q0c, trivial⟩, z6 rfl⟩ ⟨⟨rfl, rfl, y0w, zq _ _ _, qs hw⟩, trivial⟩)
theorem q4k (z : Nat) (rr : List (List Cell)) (k : Int) (hw : WR 9000000000000000000 yl rr) : PG Tryz.prog 158 [.one (.giv true z rr), .one (.bor (i64 k))] (rI (mkR (mk yl) rr k).2) [(0, (mkR (mk yl) rr k).1)] := by
 refine PG.begin Tryz.func158 rfl (by kernel_rfl) ?_
 have hlen := hw.1
 refine yd rfl (ι := Nat) (fun i => i ≤ rr.length) (fun i => ⟨[(5, sV (.int .i64 i)), (1, sV (.int .i64 (mdk (mk yl) rr k i))), (0, .one (.h 1000000000 rr.length))], [(1000000000, .arr true z 0 (md (mk yl) rr k i))]⟩) (fun i => rr.length - i) 0 (Nat.zero_le _) ?_ ?_
 · exact ⟨⟨rfl, congrArg (fun n => Cell.s (.int .i64 n)) q01.symm, ⟨rfl, rfl, rfl⟩, trivial⟩, ⟨⟨y0c.symm, .inl rfl, .inl rfl⟩, trivial⟩, rfl⟩
 · intro i hi J hJ
   refine xb rfl (fun h => ?_) (fun h => ?_)
   · have h : i < rr.length := by simpa using h
     obtain ⟨row, hg⟩ : ∃ row, rr[i]? = some row := ⟨_, List.getElem?_eq_getElem h⟩
     obtain ⟨x0, x1, x2, x3, x4, x5, rfl, h5⟩ := q1d (hw.2 row (List.mem_of_getElem? hg))
     have hl := z0x (f := (mk yl)) (k := k) hi
     have hg0 := q0w (f := (mk yl)) (k := k) hg
     have hlt : i < (md (mk yl) rr k i).length := by omega
     refine xs rfl (hl).symm (xs rfl (Int.natCast_nonneg _) (y9 rfl _ hg0 (xs rfl rfl (xs rfl (hl).symm (y9 rfl _ hg0 (xs rfl (by show 0 + 1 ≤ 6; omega) (xs rfl ⟨trivial, trivial⟩ ?_)))))))
     refine xs rfl (yb (hl)).symm (xs rfl (Int.natCast_nonneg _) (y9 rfl _ (yw (hl) h) (xs rfl rfl (xs rfl (yb (hl)).symm (y9 rfl _ (yw (hl) h) (xs rfl (by show 1 + 1 ≤ 6; omega) (xs rfl ⟨trivial, trivial⟩ ?_)))))))
     refine xs rfl (yb (yb (hl))).symm (xs rfl (Int.natCast_nonneg _) (y9 rfl _ (yw (yb (hl)) h) (xs rfl rfl (xs rfl (yb (yb (hl))).symm (y9 rfl _ (yw (yb (hl)) h) (xs rfl (by show 2 + 1 ≤ 6; omega) (xs rfl ⟨trivial, trivial⟩ ?_)))))))
     refine xs rfl (yb (yb (yb (hl)))).symm (xs rfl (Int.natCast_nonneg _) (y9 rfl _ (yw (yb (yb (hl))) h) (xs rfl rfl (xs rfl (yb (yb (yb (hl)))).symm (y9 rfl _ (yw (yb (yb (hl))) h) (xs rfl (by show 3 + 1 ≤ 6; omega) (xs rfl ⟨trivial, trivial⟩ ?_)))))))
     refine xs rfl (yb (yb (yb (yb (hl))))).symm (xs rfl (Int.natCast_nonneg _) (y9 rfl _ (yw (yb (yb (yb (hl)))) h) (xs rfl rfl (xs rfl (yb (yb (yb (yb (hl))))).symm (y9 rfl _ (yw (yb (yb (yb (hl)))) h) (xs rfl (by show 4 + 1 ≤ 6; omega) (xs rfl ⟨trivial, trivial⟩ ?_)))))))
     refine xs rfl (yb (yb (yb (yb (yb (hl)))))).symm (xs rfl (Int.natCast_nonneg _) (y9 rfl _ (yw (yb (yb (yb (yb (hl))))) h) (xs rfl rfl (xs rfl (yb (yb (yb (yb (yb (hl)))))).symm (y9 rfl _ (yw (yb (yb (yb (yb (hl))))) h) ?_)))))
     refine q0t rfl (z2e 0 _ _ h5) ⟨⟨rfl, rfl, rfl, _, (yw (yb (yb (yb (yb (hl))))) h), rfl⟩, rfl, trivial⟩ rfl ?_
     refine ya rfl (hJ _ (i + 1) (by omega) (by omega) ?_)
     refine ⟨⟨cwi (by omega) (by omega) (by omega), ?_, ⟨rfl, rfl, rfl⟩, trivial⟩, ⟨⟨?_, .inl rfl, .inl rfl⟩, trivial⟩, rfl⟩
     · rw [y01 hg]; rfl
     · refine Eq.trans ?_ (y0x hg)
       try simp only [Int.toNat_natCast, qt hg0, ssr hlt, List.set_set]
       rfl
   · have h : ¬ i < rr.length := by simpa using h
     have : i = rr.length := by omega
     subst this
     exact xr rfl (q1p rfl ⟨⟨rfl, congrArg (Value.int .i64) q0c, trivial⟩, z6 rfl⟩ ⟨⟨rfl, rfl, y0w, zq _ _ _, qs hw⟩, trivial⟩)
theorem q2h (z : Nat) (rr : List (List Cell)) (k : Int) (hw : WR 9000000000000000000 za rr) : PG Tryz.prog 93 [.one (.giv true z rr), .one (.bor (i64 k))] (rI (mkR (mk za) rr k).2) [(0, (mkR (mk za) rr k).1)] := by
 refine PG.begin Tryz.func93 rfl (by kernel_rfl) ?_
 have hlen := hw.1
 refine yd rfl (ι := Nat) (fun i => i ≤ rr.length) (fun i => ⟨[(5, sV (.int .i64 i)), (1, sV (.int .i64 (mdk (mk za) rr k i))), (0, .one (.h 1000000000 rr.length))], [(1000000000, .arr true z 0 (md (mk za) rr k i))]⟩) (fun i => rr.length - i) 0 (Nat.zero_le _) ?_ ?_
 · exact ⟨⟨rfl, congrArg (fun n => Cell.s (.int .i64 n)) q01.symm, ⟨rfl, rfl, rfl⟩, trivial⟩, ⟨⟨y0c.symm, .inl rfl, .inl rfl⟩, trivial⟩, rfl⟩
 · intro i hi J hJ
   refine xb rfl (fun h => ?_) (fun h => ?_)
   · have h : i < rr.length := by simpa using h
     obtain ⟨row, hg⟩ : ∃ row, rr[i]? = some row := ⟨_, List.getElem?_eq_getElem h⟩
     obtain ⟨x0, rfl, h0⟩ := z06 (hw.2 row (List.mem_of_getElem? hg))
     have hl := z0x (f := (mk za)) (k := k) hi
     have hg0 := q0w (f := (mk za)) (k := k) hg
     have hlt : i < (md (mk za) rr k i).length := by omega
     refine xs rfl (hl).symm (xs rfl (Int.natCast_nonneg _) (y9 rfl _ hg0 (xs rfl rfl (xs rfl (hl).symm (y9 rfl _ hg0 ?_)))))
     refine q0t rfl (q4k 0 _ _ h0) ⟨⟨rfl, rfl, rfl, _, hg0, rfl⟩, rfl, trivial⟩ rfl ?_
     refine ya rfl (hJ _ (i + 1) (by omega) (by omega) ?_)
     refine ⟨⟨cwi (by omega) (by omega) (by omega), ?_, ⟨rfl, rfl, rfl⟩, trivial⟩, ⟨⟨?_, .inl rfl, .inl rfl⟩, trivial⟩, rfl⟩
     · rw [y01 hg]; rfl
     · refine Eq.trans ?_ (y0x hg)
       try simp only [Int.toNat_natCast, qt hg0, ssr hlt, List.set_set]
       rfl
   · have h : ¬ i < rr.length := by simpa using h
     have : i = rr.length := by omega
     subst this
     exact xr rfl (q1p rfl ⟨⟨rfl, congrArg (Value.int .i64) q0c, trivial⟩, z6 rfl⟩ ⟨⟨rfl, rfl, y0w, zq _ _ _, qs hw⟩, trivial⟩)
theorem y56 (z : Nat) (rr : List (List Cell)) (k : Int) (hw : WR 9000000000000000000 yp rr) : PG Tryz.prog 159 [.one (.giv true z rr), .one (.bor (i64 k))] (rI (mkR (mk yp) rr k).2) [(0, (mkR (mk yp) rr k).1)] := by
 refine PG.begin Tryz.func159 rfl (by kernel_rfl) ?_
 have hlen := hw.1
 refine yd rfl (ι := Nat) (fun i => i ≤ rr.length) (fun i => ⟨[(5, sV (.int .i64 i)), (1, sV (.int .i64 (mdk (mk yp) rr k i))), (0, .one (.h 1000000000 rr.length))], [(1000000000, .arr true z 0 (md (mk yp) rr k i))]⟩) (fun i => rr.length - i) 0 (Nat.zero_le _) ?_ ?_
 · exact ⟨⟨rfl, congrArg (fun n => Cell.s (.int .i64 n)) q01.symm, ⟨rfl, rfl, rfl⟩, trivial⟩, ⟨⟨y0c.symm, .inl rfl, .inl rfl⟩, trivial⟩, rfl⟩
 · intro i hi J hJ
   refine xb rfl (fun h => ?_) (fun h => ?_)
   · have h : i < rr.length := by simpa using h
     obtain ⟨row, hg⟩ : ∃ row, rr[i]? = some row := ⟨_, List.getElem?_eq_getElem h⟩
     obtain ⟨x0, x1, x2, x3, x4, x5, rfl, h4, h5⟩ := y25 (hw.2 row (List.mem_of_getElem? hg))
     have hl := z0x (f := (mk yp)) (k := k) hi
     have hg0 := q0w (f := (mk yp)) (k := k) hg
     have hlt : i < (md (mk yp) rr k i).length := by omega
     refine xs rfl (hl).symm (xs rfl (Int.natCast_nonneg _) (y9 rfl _ hg0 (xs rfl rfl (xs rfl (hl).symm (y9 rfl _ hg0 (xs rfl (by show 0 + 1 ≤ 6; omega) (xs rfl ⟨trivial, trivial⟩ ?_)))))))
     refine xs rfl (yb (hl)).symm (xs rfl (Int.natCast_nonneg _) (y9 rfl _ (yw (hl) h) (xs rfl rfl (xs rfl (yb (hl)).symm (y9 rfl _ (yw (hl) h) (xs rfl (by show 1 + 1 ≤ 6; omega) (xs rfl ⟨trivial, trivial⟩ ?_)))))))
     refine xs rfl (yb (yb (hl))).symm (xs rfl (Int.natCast_nonneg _) (y9 rfl _ (yw (yb (hl)) h) (xs rfl rfl (xs rfl (yb (yb (hl))).symm (y9 rfl _ (yw (yb (hl)) h) (xs rfl (by show 2 + 1 ≤ 6; omega) (xs rfl ⟨trivial, trivial⟩ ?_)))))))
     refine xs rfl (yb (yb (yb (hl)))).symm (xs rfl (Int.natCast_nonneg _) (y9 rfl _ (yw (yb (yb (hl))) h) (xs rfl rfl (xs rfl (yb (yb (yb (hl)))).symm (y9 rfl _ (yw (yb (yb (hl))) h) (xs rfl (by show 3 + 1 ≤ 6; omega) (xs rfl ⟨trivial, trivial⟩ ?_)))))))
     refine xs rfl (yb (yb (yb (yb (hl))))).symm (xs rfl (Int.natCast_nonneg _) (y9 rfl _ (yw (yb (yb (yb (hl)))) h) (xs rfl rfl (xs rfl (yb (yb (yb (yb (hl))))).symm (y9 rfl _ (yw (yb (yb (yb (hl)))) h) ?_)))))
     refine q0t rfl (y1u 0 _ _ h4) ⟨⟨rfl, rfl, rfl, _, (yw (yb (yb (yb (hl)))) h), rfl⟩, rfl, trivial⟩ rfl ?_
     refine xs rfl (lsr (yb (yb (yb (yb (hl)))))).symm (xs rfl (Int.natCast_nonneg _) (y9 rfl _ (ze (yw (yb (yb (yb (hl)))) h)) (xs rfl rfl (xs rfl (lsr (yb (yb (yb (yb (hl)))))).symm (y9 rfl _ (ze (yw (yb (yb (yb (hl)))) h)) ?_)))))
     refine q0t rfl (z2e 0 _ _ h5) ⟨⟨rfl, rfl, rfl, _, (ze (yw (yb (yb (yb (hl)))) h)), rfl⟩, rfl, trivial⟩ rfl ?_
     refine ya rfl (hJ _ (i + 1) (by omega) (by omega) ?_)
     refine ⟨⟨cwi (by omega) (by omega) (by omega), ?_, ⟨rfl, rfl, rfl⟩, trivial⟩, ⟨⟨?_, .inl rfl, .inl rfl⟩, trivial⟩, rfl⟩
     · rw [y01 hg]; rfl
     · refine Eq.trans ?_ (y0x hg)
       try simp only [Int.toNat_natCast, qt hg0, ssr hlt, List.set_set]
       rfl
   · have h : ¬ i < rr.length := by simpa using h
     have : i = rr.length := by omega
     subst this
     exact xr rfl (q1p rfl ⟨⟨rfl, congrArg (Value.int .i64) q0c, trivial⟩, z6 rfl⟩ ⟨⟨rfl, rfl, y0w, zq _ _ _, qs hw⟩, trivial⟩)
theorem z3y (z : Nat) (rr : List (List Cell)) (k : Int) (hw : WR 9000000000000000000 yn rr) : PG Tryz.prog 160 [.one (.giv true z rr), .one (.bor (i64 k))] (rI (mkR (mk yn) rr k).2) [(0, (mkR (mk yn) rr k).1)] := by
 refine PG.begin Tryz.func160 rfl (by kernel_rfl) ?_
 have hlen := hw.1
 refine yd rfl (ι := Nat) (fun i => i ≤ rr.length) (fun i => ⟨[(5, sV (.int .i64 i)), (1, sV (.int .i64 (mdk (mk yn) rr k i))), (0, .one (.h 1000000000 rr.length))], [(1000000000, .arr true z 0 (md (mk yn) rr k i))]⟩) (fun i => rr.length - i) 0 (Nat.zero_le _) ?_ ?_
 · exact ⟨⟨rfl, congrArg (fun n => Cell.s (.int .i64 n)) q01.symm, ⟨rfl, rfl, rfl⟩, trivial⟩, ⟨⟨y0c.symm, .inl rfl, .inl rfl⟩, trivial⟩, rfl⟩
 · intro i hi J hJ
   refine xb rfl (fun h => ?_) (fun h => ?_)
   · have h : i < rr.length := by simpa using h
     obtain ⟨row, hg⟩ : ∃ row, rr[i]? = some row := ⟨_, List.getElem?_eq_getElem h⟩
     obtain ⟨x0, x1, x2, x3, x4, rfl⟩ := y0v (hw.2 row (List.mem_of_getElem? hg))
     have hl := z0x (f := (mk yn)) (k := k) hi
     have hg0 := q0w (f := (mk yn)) (k := k) hg
     have hlt : i < (md (mk yn) rr k i).length := by omega
     refine xs rfl (hl).symm (xs rfl (Int.natCast_nonneg _) (y9 rfl _ hg0 (xs rfl rfl (xs rfl (hl).symm (y9 rfl _ hg0 (xs rfl (by show 0 + 1 ≤ 5; omega) (xs rfl ⟨trivial, trivial⟩ ?_)))))))
     refine xs rfl (yb (hl)).symm (xs rfl (Int.natCast_nonneg _) (y9 rfl _ (yw (hl) h) (xs rfl rfl (xs rfl (yb (hl)).symm (y9 rfl _ (yw (hl) h) (xs rfl (by show 1 + 1 ≤ 5; omega) (xs rfl ⟨trivial, trivial⟩ ?_)))))))
     refine xs rfl (yb (yb (hl))).symm (xs rfl (Int.natCast_nonneg _) (y9 rfl _ (yw (yb (hl)) h) (xs rfl rfl (xs rfl (yb (yb (hl))).symm (y9 rfl _ (yw (yb (hl)) h) (xs rfl (by show 2 + 1 ≤ 5; omega) (xs rfl ⟨trivial, trivial⟩ ?_)))))))
     refine xs rfl (yb (yb (yb (hl)))).symm (xs rfl (Int.natCast_nonneg _) (y9 rfl _ (yw (yb (yb (hl))) h) (xs rfl rfl (xs rfl (yb (yb (yb (hl)))).symm (y9 rfl _ (yw (yb (yb (hl))) h) (xs rfl (by show 3 + 1 ≤ 5; omega) (xs rfl ⟨trivial, trivial⟩ ?_)))))))
     refine xs rfl (yb (yb (yb (yb (hl))))).symm (xs rfl (Int.natCast_nonneg _) (y9 rfl _ (yw (yb (yb (yb (hl)))) h) (xs rfl rfl (xs rfl (yb (yb (yb (yb (hl))))).symm (y9 rfl _ (yw (yb (yb (yb (hl)))) h) (xs rfl (by show 4 + 1 ≤ 5; omega) (xs rfl ⟨trivial, trivial⟩ ?_)))))))
     refine ya rfl (hJ _ (i + 1) (by omega) (by omega) ?_)
     refine ⟨⟨cwi (by omega) (by omega) (by omega), ?_, ⟨rfl, rfl, rfl⟩, trivial⟩, ⟨⟨?_, .inl rfl, .inl rfl⟩, trivial⟩, rfl⟩
     · rw [y01 hg]; rfl
     · refine Eq.trans ?_ (y0x hg)
       try simp only [Int.toNat_natCast, qt hg0, ssr hlt, List.set_set]
       rfl
   · have h : ¬ i < rr.length := by simpa using h
     have : i = rr.length := by omega
     subst this
     exact xr rfl (q1p rfl ⟨⟨rfl, congrArg (Value.int .i64) q0c, trivial⟩, z6 rfl⟩ ⟨⟨rfl, rfl, y0w, zq _ _ _, qs hw⟩, trivial⟩)
theorem q3a (z : Nat) (rr : List (List Cell)) (k : Int) (hw : WR 9000000000000000000 qd rr) : PG Tryz.prog 94 [.one (.giv true z rr), .one (.bor (i64 k))] (rI (mkR (mk qd) rr k).2) [(0, (mkR (mk qd) rr k).1)] := by
 refine PG.begin Tryz.func94 rfl (by kernel_rfl) ?_
 have hlen := hw.1
 refine yd rfl (ι := Nat) (fun i => i ≤ rr.length) (fun i => ⟨[(5, sV (.int .i64 i)), (1, sV (.int .i64 (mdk (mk qd) rr k i))), (0, .one (.h 1000000000 rr.length))], [(1000000000, .arr true z 0 (md (mk qd) rr k i))]⟩) (fun i => rr.length - i) 0 (Nat.zero_le _) ?_ ?_
 · exact ⟨⟨rfl, congrArg (fun n => Cell.s (.int .i64 n)) q01.symm, ⟨rfl, rfl, rfl⟩, trivial⟩, ⟨⟨y0c.symm, .inl rfl, .inl rfl⟩, trivial⟩, rfl⟩
 · intro i hi J hJ
   refine xb rfl (fun h => ?_) (fun h => ?_)
   · have h : i < rr.length := by simpa using h
     obtain ⟨row, hg⟩ : ∃ row, rr[i]? = some row := ⟨_, List.getElem?_eq_getElem h⟩
     obtain ⟨x0, x1, x2, rfl, h1, h2⟩ := y0j (hw.2 row (List.mem_of_getElem? hg))
     have hl := z0x (f := (mk qd)) (k := k) hi
     have hg0 := q0w (f := (mk qd)) (k := k) hg
     have hlt : i < (md (mk qd) rr k i).length := by omega
     refine xs rfl (hl).symm (xs rfl (Int.natCast_nonneg _) (y9 rfl _ hg0 (xs rfl rfl (xs rfl (hl).symm (y9 rfl _ hg0 (xs rfl (by show 0 + 1 ≤ 3; omega) (xs rfl ⟨trivial, trivial⟩ ?_)))))))
     refine xs rfl (yb (hl)).symm (xs rfl (Int.natCast_nonneg _) (y9 rfl _ (yw (hl) h) (xs rfl rfl (xs rfl (yb (hl)).symm (y9 rfl _ (yw (hl) h) ?_)))))
     refine q0t rfl (y56 0 _ _ h1) ⟨⟨rfl, rfl, rfl, _, (yw (hl) h), rfl⟩, rfl, trivial⟩ rfl ?_
     refine xs rfl (lsr (yb (hl))).symm (xs rfl (Int.natCast_nonneg _) (y9 rfl _ (ze (yw (hl) h)) (xs rfl rfl (xs rfl (lsr (yb (hl))).symm (y9 rfl _ (ze (yw (hl) h)) ?_)))))
     refine q0t rfl (z3y 0 _ _ h2) ⟨⟨rfl, rfl, rfl, _, (ze (yw (hl) h)), rfl⟩, rfl, trivial⟩ rfl ?_
     refine ya rfl (hJ _ (i + 1) (by omega) (by omega) ?_)
     refine ⟨⟨cwi (by omega) (by omega) (by omega), ?_, ⟨rfl, rfl, rfl⟩, trivial⟩, ⟨⟨?_, .inl rfl, .inl rfl⟩, trivial⟩, rfl⟩
     · rw [y01 hg]; rfl
     · refine Eq.trans ?_ (y0x hg)
       try simp only [Int.toNat_natCast, qt hg0, ssr hlt, List.set_set]
       rfl
   · have h : ¬ i < rr.length := by simpa using h
     have : i = rr.length := by omega
     subst this
     exact xr rfl (q1p rfl ⟨⟨rfl, congrArg (Value.int .i64) q0c, trivial⟩, z6 rfl⟩ ⟨⟨rfl, rfl, y0w, zq _ _ _, qs hw⟩, trivial⟩)
theorem y2w (z : Nat) (rr : List (List Cell)) (k : Int) (hw : WR 9000000000000000000 zg rr) : PG Tryz.prog 95 [.one (.giv true z rr), .one (.bor (i64 k))] (rI (mkR (mk zg) rr k).2) [(0, (mkR (mk zg) rr k).1)] := by
 refine PG.begin Tryz.func95 rfl (by kernel_rfl) ?_
 have hlen := hw.1
 refine yd rfl (ι := Nat) (fun i => i ≤ rr.length) (fun i => ⟨[(5, sV (.int .i64 i)), (1, sV (.int .i64 (mdk (mk zg) rr k i))), (0, .one (.h 1000000000 rr.length))], [(1000000000, .arr true z 0 (md (mk zg) rr k i))]⟩) (fun i => rr.length - i) 0 (Nat.zero_le _) ?_ ?_
 · exact ⟨⟨rfl, congrArg (fun n => Cell.s (.int .i64 n)) q01.symm, ⟨rfl, rfl, rfl⟩, trivial⟩, ⟨⟨y0c.symm, .inl rfl, .inl rfl⟩, trivial⟩, rfl⟩
 · intro i hi J hJ
   refine xb rfl (fun h => ?_) (fun h => ?_)
   · have h : i < rr.length := by simpa using h
     obtain ⟨row, hg⟩ : ∃ row, rr[i]? = some row := ⟨_, List.getElem?_eq_getElem h⟩
     obtain ⟨x0, x1, x2, x3, x4, x5, x6, x7, x8, rfl⟩ := y0b (hw.2 row (List.mem_of_getElem? hg))
     have hl := z0x (f := (mk zg)) (k := k) hi
     have hg0 := q0w (f := (mk zg)) (k := k) hg
     have hlt : i < (md (mk zg) rr k i).length := by omega
     refine xs rfl (hl).symm (xs rfl (Int.natCast_nonneg _) (y9 rfl _ hg0 (xs rfl rfl (xs rfl (hl).symm (y9 rfl _ hg0 (xs rfl (by show 0 + 1 ≤ 9; omega) (xs rfl ⟨trivial, trivial⟩ ?_)))))))
     refine xs rfl (yb (hl)).symm (xs rfl (Int.natCast_nonneg _) (y9 rfl _ (yw (hl) h) (xs rfl rfl (xs rfl (yb (hl)).symm (y9 rfl _ (yw (hl) h) (xs rfl (by show 1 + 1 ≤ 9; omega) (xs rfl ⟨trivial, trivial⟩ ?_)))))))
     refine xs rfl (yb (yb (hl))).symm (xs rfl (Int.natCast_nonneg _) (y9 rfl _ (yw (yb (hl)) h) (xs rfl rfl (xs rfl (yb (yb (hl))).symm (y9 rfl _ (yw (yb (hl)) h) (xs rfl (by show 2 + 1 ≤ 9; omega) (xs rfl ⟨trivial, trivial⟩ ?_)))))))
     refine xs rfl (yb (yb (yb (hl)))).symm (xs rfl (Int.natCast_nonneg _) (y9 rfl _ (yw (yb (yb (hl))) h) (xs rfl rfl (xs rfl (yb (yb (yb (hl)))).symm (y9 rfl _ (yw (yb (yb (hl))) h) (xs rfl (by show 3 + 1 ≤ 9; omega) (xs rfl ⟨trivial, trivial⟩ ?_)))))))
     refine xs rfl (yb (yb (yb (yb (hl))))).symm (xs rfl (Int.natCast_nonneg _) (y9 rfl _ (yw (yb (yb (yb (hl)))) h) (xs rfl rfl (xs rfl (yb (yb (yb (yb (hl))))).symm (y9 rfl _ (yw (yb (yb (yb (hl)))) h) (xs rfl (by show 4 + 1 ≤ 9; omega) (xs rfl ⟨trivial, trivial⟩ ?_)))))))
     refine xs rfl (yb (yb (yb (yb (yb (hl)))))).symm (xs rfl (Int.natCast_nonneg _) (y9 rfl _ (yw (yb (yb (yb (yb (hl))))) h) (xs rfl rfl (xs rfl (yb (yb (yb (yb (yb (hl)))))).symm (y9 rfl _ (yw (yb (yb (yb (yb (hl))))) h) (xs rfl (by show 5 + 1 ≤ 9; omega) (xs rfl ⟨trivial, trivial⟩ ?_)))))))
     refine xs rfl (yb (yb (yb (yb (yb (yb (hl))))))).symm (xs rfl (Int.natCast_nonneg _) (y9 rfl _ (yw (yb (yb (yb (yb (yb (hl)))))) h) (xs rfl rfl (xs rfl (yb (yb (yb (yb (yb (yb (hl))))))).symm (y9 rfl _ (yw (yb (yb (yb (yb (yb (hl)))))) h) (xs rfl (by show 6 + 1 ≤ 9; omega) (xs rfl ⟨trivial, trivial⟩ ?_)))))))
     refine xs rfl (yb (yb (yb (yb (yb (yb (yb (hl)))))))).symm (xs rfl (Int.natCast_nonneg _) (y9 rfl _ (yw (yb (yb (yb (yb (yb (yb (hl))))))) h) (xs rfl rfl (xs rfl (yb (yb (yb (yb (yb (yb (yb (hl)))))))).symm (y9 rfl _ (yw (yb (yb (yb (yb (yb (yb (hl))))))) h) (xs rfl (by show 7 + 1 ≤ 9; omega) (xs rfl ⟨trivial, trivial⟩ ?_)))))))
     refine xs rfl (yb (yb (yb (yb (yb (yb (yb (yb (hl))))))))).symm (xs rfl (Int.natCast_nonneg _) (y9 rfl _ (yw (yb (yb (yb (yb (yb (yb (yb (hl)))))))) h) (xs rfl rfl (xs rfl (yb (yb (yb (yb (yb (yb (yb (yb (hl))))))))).symm (y9 rfl _ (yw (yb (yb (yb (yb (yb (yb (yb (hl)))))))) h) (xs rfl (by show 8 + 1 ≤ 9; omega) (xs rfl ⟨trivial, trivial⟩ ?_)))))))
     refine ya rfl (hJ _ (i + 1) (by omega) (by omega) ?_)
     refine ⟨⟨cwi (by omega) (by omega) (by omega), ?_, ⟨rfl, rfl, rfl⟩, trivial⟩, ⟨⟨?_, .inl rfl, .inl rfl⟩, trivial⟩, rfl⟩
     · rw [y01 hg]; rfl
     · refine Eq.trans ?_ (y0x hg)
       try simp only [Int.toNat_natCast, qt hg0, ssr hlt, List.set_set]
       rfl
   · have h : ¬ i < rr.length := by simpa using h
     have : i = rr.length := by omega
     subst this
     exact xr rfl (q1p rfl ⟨⟨rfl, congrArg (Value.int .i64) q0c, trivial⟩, z6 rfl⟩ ⟨⟨rfl, rfl, y0w, zq _ _ _, qs hw⟩, trivial⟩)
theorem y3a (z0 z1 z2 z3 z4 : Nat) (x0 : List (List Cell)) (x1 : List (List Cell)) (x2 : List (List Cell)) (x3 : List (List Cell)) (x4 : List (List Cell)) (k : Int) (k0 : Int) (k1 : Int) (k2 : Int) (k3 : Int) (k4 : Int) (h0 : WR 9000000000000000000 z8 x0) (h1 : WR 9000000000000000000 qe x1) (h2 : WR 9000000000000000000 za x2) (h3 : WR 9000000000000000000 qd x3) (h4 : WR 9000000000000000000 zg x4) (e0 : (mkR (mk z8) x0 k).2 = k0) (e1 : (mkR (mk qe) x1 k0).2 = k1) (e2 : (mkR (mk za) x2 k1).2 = k2) (e3 : (mkR (mk qd) x3 k2).2 = k3) (e4 : (mkR (mk zg) x4 k3).2 = k4) : PG Tryz.prog 30 [.agg [.giv true z0 x0, .giv true z1 x1, .giv true z2 x2, .giv true z3 x3, .giv true z4 x4], .one (.bor (i64 k))] (rI k4) [(0, (mkR (mk z8) x0 k).1), (1, (mkR (mk qe) x1 k0).1), (2, (mkR (mk za) x2 k1).1), (3, (mkR (mk qd) x3 k2).1), (4, (mkR (mk zg) x4 k3).1)] := by
 refine PG.begin Tryz.func30 rfl (by kernel_rfl) ?_
 refine q0t rfl (z12 z0 x0 k h0) ⟨⟨rfl, rfl, rfl, rfl⟩, rfl, trivial⟩ rfl ?_
 rw [e0]
 refine q0t rfl (q3y z1 x1 k0 h1) ⟨⟨rfl, rfl, rfl, rfl⟩, rfl, trivial⟩ rfl ?_
 rw [e1]
 refine q0t rfl (q2h z2 x2 k1 h2) ⟨⟨rfl, rfl, rfl, rfl⟩, rfl, trivial⟩ rfl ?_
 rw [e2]
 refine q0t rfl (q3a z3 x3 k2 h3) ⟨⟨rfl, rfl, rfl, rfl⟩, rfl, trivial⟩ rfl ?_
 rw [e3]
 refine q0t rfl (y2w z4 x4 k3 h4) ⟨⟨rfl, rfl, rfl, rfl⟩, rfl, trivial⟩ rfl ?_
 rw [e4]
 exact xr rfl (q1p rfl ⟨⟨rfl, rfl, trivial⟩, z6 rfl⟩ ⟨⟨rfl, rfl, rfl, zq _ _ _, qs h0⟩, ⟨rfl, rfl, rfl, zq _ _ _, qs h1⟩, ⟨rfl, rfl, rfl, zq _ _ _, qs h2⟩, ⟨rfl, rfl, rfl, zq _ _ _, qs h3⟩, ⟨rfl, rfl, rfl, zq _ _ _, qs h4⟩, trivial⟩)
end Go.Proofs.YthljegacamgnnaaGreat
end
section
namespace Go.Sx
theorem y7w {N : Nat} {e : Sh} {rows : List (List Cell)} (hw : WR N e rows) : z00 (cnt e) rows ≤ wid e * rows.length + y40 e * z00 (tot e) rows :=
 y21 fun row hr => z8d (hw.2 row hr)
theorem q7w {N : Nat} {e : Sh} {rows : List (List Cell)} (hw : WR N e rows) (hs : z00 (cnt e) rows ≤ 1000000000000000000) :
 0 ≤ (mkR (mk e) rows 1).2 ∧ ∀ (k0 : IntKind) (c : Cell), ng (ht (.i k0 (.l e .nil)) [c, .l (mkR (mk e) rows 1).1] 1) = (mkR (mk e) rows 1).2 := by
 obtain ⟨h1, h2⟩ := q3z (f := mk e) (g := hd e) (c := cnt e) (rows := rows) (fun row hr k h1 h2 => q71 (hw.2 row hr) k h1 h2) 1 (by omega) (by omega)
 refine ⟨by omega, fun k0 c => ?_⟩
 simp only [ht, h1, h2]
 have : ng (some (1 + (z00 (cnt e) rows : Int))) = 1 + z00 (cnt e) rows := rfl
 rw [this, y92 (by omega)]
 rfl
end Go.Sx
end
section
namespace Go.Proofs.YthljegacamgnnaaGreat
open Go Go.Sx
set_option maxRecDepth 20000
set_option maxHeartbeats 4000000
theorem y7o (c : Clu) (h : WT 1048576 qn c.cs ∧ tot qn c.cs ≤ 1048576) : ∃ (k : Int) (r0 r1 r2 r3 r4 : List (List Cell)), 0 ≤ k ∧
 PG Tryz.prog 30 [.agg [.giv true 2 (c.cons.map Con.cs), .giv true 6 (c.shs.map Shd.cs), .giv true 1 (c.accs.map Acc.cs), .giv true 3 (c.ldrs.map Ldr.cs), .giv true 9 (c.msgs.map Msg.cs)], .one (.bor (i64 1))] (rI k) [(0, r0), (1, r1), (2, r2), (3, r3), (4, r4)] := by
 obtain ⟨h, ht⟩ := h
 obtain ⟨_, _, _, _, _, e, m0, m1, m2, m3, m4⟩ := z0l h
 cases e
 have up : ∀ {e : Sh} {r : List (List Cell)}, WR 1048576 e r → WR 9000000000000000000 e r := fun h => h.mono (by omega)
 have hm := y3a 2 6 1 3 9 _ _ _ _ _ 1 _ _ _ _ _ (up m0) (up m1) (up m2) (up m3) (up m4) rfl rfl rfl rfl rfl
 have hc := z8d h
 have hw : wid qn = 0 := rfl
 have hw2 : y40 qn = 48 := rfl
 rw [hw, hw2] at hc
 have hk := (q71 h 1 (by omega) (by omega)).2
 exact ⟨_, _, _, _, _, _, by
  show 0 ≤ (mk qn c.cs 1).2
  rw [hk]; omega, hm⟩
end Go.Proofs.YthljegacamgnnaaGreat
end
section
namespace Go.Proofs.YthljegacamgnnaaGreat
open Go Go.Sx
set_option maxRecDepth 20000
set_option maxHeartbeats 4000000
abbrev z1y : Sh := (.i .i64 (.l zo .nil))
theorem y2r (x0 : Int) (x1 : List (List Cell)) (y0 : Int) (y1 : List (List Cell)) (h1 : WR 9000000000000000000 zo x1) (k1 : WR 9000000000000000000 zo y1) : PC Tryz.prog 29 [.agg [.s (.int .i64 x0), .l x1], .agg [.s (.int .i64 y0), .l y1]] (rB (dE (α := List Cell) [.s (.int .i64 x0), .l x1] [.s (.int .i64 y0), .l y1])) := by
 refine PC.begin Tryz.func29 rfl (by kernel_rfl) ?_
 refine xb rfl (fun h => ?_) (fun e0 => ?_)
 · exact xr rfl (q7 rfl ⟨⟨rfl, yk (fun e => by simp only [List.cons.injEq, Cell.s.injEq, Value.int.injEq, Value.bool.injEq, Value.string.injEq] at e; simp [e] at h), trivial⟩, z6 rfl⟩)
 have e0 : x0 = y0 := by simpa using e0
 refine z7 rfl (y4f _ _ h1 k1) rfl ⟨trivial, trivial, trivial⟩ ?_
 refine xb rfl (fun h => ?_) (fun e1 => ?_)
 · exact xr rfl (q7 rfl ⟨⟨rfl, yk (fun e => q03 h (by simp only [List.cons.injEq, Cell.l.injEq] at e ⊢; simp only [e]; try trivial)), trivial⟩, z6 rfl⟩)
 have e1 := y03 e1
 exact xr rfl (q7 rfl ⟨⟨rfl, qu (by simp [e0, e1]), trivial⟩, z6 rfl⟩)
theorem z28 (z1 : Nat) (x0 : Int) (x1 : List (List Cell)) (k : Int) (k1 : Int) (h1 : WR 9000000000000000000 zo x1) (e1 : (mkR (mk zo) x1 k).2 = k1) : PG Tryz.prog 31 [.agg [.bor (.s (.int .i64 x0)), .giv true z1 x1], .one (.bor (i64 k))] (rI k1) [(1, (mkR (mk zo) x1 k).1)] := by
 refine PG.begin Tryz.func31 rfl (by kernel_rfl) ?_
 refine q0t rfl (z2w z1 x1 k h1) ⟨⟨rfl, rfl, rfl, rfl⟩, rfl, trivial⟩ rfl ?_
 rw [e1]
 exact xr rfl (q1p rfl ⟨⟨rfl, rfl, trivial⟩, z6 rfl⟩ ⟨⟨rfl, rfl, rfl, zq _ _ _, qs h1⟩, trivial⟩)
theorem y53 (rr : List (List Cell)) (k : Int) (hw : WR 9000000000000000000 zo rr) : PC Tryz.prog 97 [.one (.l rr), .one (i64 k)] (rI (ng (hdR (hd zo) rr k))) := by
 refine PC.begin Tryz.func97 rfl (by kernel_rfl) ?_
 have hlen := hw.1
 refine yd rfl (ι := Nat × Int) (fun x => x.1 ≤ rr.length ∧ hdR (hd zo) (rr.take x.1) k = some x.2) (fun x => ⟨[(5, sV (.int .i64 x.1)), (1, sV (.int .i64 x.2)), (0, .one (.b (.l rr)))], []⟩) (fun x => rr.length - x.1) (0, k) ⟨Nat.zero_le _, rfl⟩ ?_ ?_
 · exact ⟨⟨rfl, rfl, rfl, trivial⟩, trivial, rfl⟩
 · intro ⟨i, v⟩ ⟨hi, hv⟩ J hJ
   dsimp only at hi hv ⊢
   refine xb rfl (fun h => ?_) (fun h => ?_)
   · have h : i < rr.length := by simpa using h
     obtain ⟨row, hg⟩ : ∃ row, rr[i]? = some row := ⟨_, List.getElem?_eq_getElem h⟩
     obtain ⟨x0, x1, x2, x3, rfl⟩ := z1n (hw.2 row (List.mem_of_getElem? hg))
     have hst := q7r hg hv
     refine xs rfl (Int.natCast_nonneg _) (y9 rfl _ hg (xs rfl rfl ?_))
     refine xb rfl (fun hb => ?_) (fun hb => ?_)
     · have hb : ¬ x0 = mkv .i64 (v) := by simpa [mkv, nx] using hb
       exact xr rfl (q7 rfl ⟨⟨rfl, congrArg (Value.int .i64) (z2x (z2m (i := i + 1) (hst.trans (by simp only [hd, if_neg hb])))).symm, trivial⟩, z6 rfl⟩)
     have hb0 : x0 = mkv .i64 (v) := by simpa [mkv, nx] using hb
     clear hb
     refine xs rfl (Int.natCast_nonneg _) (y9 rfl _ hg (xs rfl rfl ?_))
     refine xb rfl (fun hb => ?_) (fun hb => ?_)
     · have hb : ¬ x1 = mkv .i64 (nx (v)) := by simpa [mkv, nx] using hb
       exact xr rfl (q7 rfl ⟨⟨rfl, congrArg (Value.int .i64) (z2x (z2m (i := i + 1) (hst.trans (by simp only [hd, if_neg hb, if_pos hb0])))).symm, trivial⟩, z6 rfl⟩)
     have hb1 : x1 = mkv .i64 (nx (v)) := by simpa [mkv, nx] using hb
     clear hb
     refine xs rfl (Int.natCast_nonneg _) (y9 rfl _ hg (xs rfl rfl ?_))
     refine xb rfl (fun hb => ?_) (fun hb => ?_)
     · have hb : ¬ x2 = mkv .i64 (nx (nx (v))) := by simpa [mkv, nx] using hb
       exact xr rfl (q7 rfl ⟨⟨rfl, congrArg (Value.int .i64) (z2x (z2m (i := i + 1) (hst.trans (by simp only [hd, if_neg hb, if_pos hb0, if_pos hb1])))).symm, trivial⟩, z6 rfl⟩)
     have hb2 : x2 = mkv .i64 (nx (nx (v))) := by simpa [mkv, nx] using hb
     clear hb
     refine xs rfl (Int.natCast_nonneg _) (y9 rfl _ hg (xs rfl rfl ?_))
     refine xb rfl (fun hb => ?_) (fun hb => ?_)
     · have hb : ¬ x3 = mkv .i64 (nx (nx (nx (v)))) := by simpa [mkv, nx] using hb
       exact xr rfl (q7 rfl ⟨⟨rfl, congrArg (Value.int .i64) (z2x (z2m (i := i + 1) (hst.trans (by simp only [hd, if_neg hb, if_pos hb0, if_pos hb1, if_pos hb2])))).symm, trivial⟩, z6 rfl⟩)
     have hb3 : x3 = mkv .i64 (nx (nx (nx (v)))) := by simpa [mkv, nx] using hb
     clear hb
     refine ya rfl (hJ _ (i + 1, nx (nx (nx (nx (v))))) ⟨by dsimp only; omega, hst.trans (by simp only [hd, if_pos hb0, if_pos hb1, if_pos hb2, if_pos hb3])⟩ (by dsimp only; omega) ?_)
     exact ⟨⟨cwi (by omega) (by omega) (by omega), rfl, rfl, trivial⟩, trivial, rfl⟩
   · have h : ¬ i < rr.length := by simpa using h
     have : i = rr.length := by omega
     subst this
     rw [List.take_length] at hv
     exact xr rfl (q7 rfl ⟨⟨rfl, congrArg (Value.int .i64) (by rw [hv]; rfl), trivial⟩, z6 rfl⟩)
theorem y24 (x0 : Int) (x1 : List (List Cell)) (k : Int) (h1 : WR 9000000000000000000 zo x1) (hk : 0 ≤ k) : PC Tryz.prog 32 [.agg [.s (.int .i64 x0), .l x1], .one (i64 k)] (rI (ng (ht z1y [.s (.int .i64 x0), .l x1] k))) := by
 refine PC.begin Tryz.func32 rfl (by kernel_rfl) ?_
 have e : ht z1y [.s (.int .i64 x0), .l x1] k = ((ps (ng (hdR (hd zo) x1 k))).bind fun v1 => some v1) := by simp only [ht, Option.bind_assoc, Option.bind_some]
 rw [e]
 refine z7 rfl (y53 x1 k h1) rfl ⟨trivial, trivial, trivial⟩ ?_
 generalize hk1 : ng (hdR (hd zo) x1 (k)) = k1
 refine xb rfl (fun hb => ?_) (fun hb => ?_)
 · have hb : k1 < 0 := by simpa using hb
   exact xr rfl (q7 rfl ⟨⟨rfl, congrArg (Value.int .i64) (z2x (by simp only [hk1, zab hb]; rfl)).symm, trivial⟩, z6 rfl⟩)
 have hb1 : ¬ k1 < 0 := by simpa using hb
 have hp1 : 0 ≤ k1 := by omega
 clear hb
 exact xr rfl (q7 rfl ⟨⟨rfl, congrArg (Value.int .i64) (by simp only [hk1, y92 hb1, Option.bind_some]; rfl), trivial⟩, z6 rfl⟩)
end Go.Proofs.YthljegacamgnnaaGreat
end
section
namespace Go.Proofs.YthljegacamgnnaaGreat
open Go Go.Sx
set_option maxRecDepth 20000
set_option maxHeartbeats 4000000
theorem z6z {ls : List Leg} {N : Nat} (h : ls.length ≤ N) : WR N zo (lr ls) := ⟨by simpa using h, fun row hr => by
 obtain ⟨x, _, rfl⟩ := List.mem_map.1 hr
 exact .i _ (.i _ (.i _ (.i _ .nil)))⟩
theorem y6z (ls : List Leg) (hl : ls.length ≤ 1048576) : ∃ (k : Int) (r : List (List Cell)), 0 ≤ k ∧ r.length = (lr ls).length ∧ (∀ (z : Nat) (code : Int), PG Tryz.prog 31 [.agg [.bor (.s (.int .i64 code)), .giv true z (lr ls)], .one (.bor (i64 1))] (rI k) [(1, r)]) ∧
 ∀ code : Int, PC Tryz.prog 32 [.agg [.s (.int .i64 code), .l r], .one (i64 1)] (rI k) := by
 have hw := z6z (N := 9000000000000000000) (ls := ls) (by omega)
 have hc := y7w hw
 have hlen : (lr ls).length = ls.length := by simp
 rw [show wid zo = 4 from rfl, show y40 zo = 0 from rfl, hlen] at hc
 obtain ⟨h1, h2⟩ := q7w hw (by omega)
 refine ⟨_, _, h1, zq _ _ _, fun z code => z28 z code (lr ls) 1 _ hw rfl, fun code => ?_⟩
 have := y24 code (mkR (mk zo) (lr ls) 1).1 1 (z9o hw 1) (by omega)
 rw [h2] at this
 exact this
theorem q6z (ls : List Leg) (hl : ls.length ≤ 1048576) (code : Int) : PC Tryz.prog 29 [.agg [.s (.int .i64 code), .l (lr ls)], .agg [.s (.int .i64 code), .l (lr ls)]] (rB true) := by
 have hw := z6z (N := 9000000000000000000) (ls := ls) (by omega)
 have h := y2r code (lr ls) code (lr ls) hw hw
 rwa [show dE (α := List Cell) [.s (.int .i64 code), .l (lr ls)] [.s (.int .i64 code), .l (lr ls)] = true from (Value.bool.inj (qu rfl)).symm] at h
theorem y7v (cs : List Cell) (sh ac : Int) (hw : WT 9223372036854775807 qn cs) : PC Tryz.prog 7 [.agg cs, .one (i64 sh), .one (i64 ac)] (rB true) := by
 refine PC.begin Tryz.func7 rfl (by kernel_rfl) ?_
 obtain ⟨x0, x1, x2, x3, x4, rfl, _⟩ := z0l hw
 rcases z9j x0 x1 x2 x3 x4 hw 1048576 (Nat.le_refl _) with hsz | ⟨c, rfl, rfl, rfl, rfl, rfl, ho, hwt, ⟨n, _, hsz⟩, hto, heq⟩
 · skip
   refine z7 rfl (hsz) rfl ⟨⟨trivial, trivial, trivial, trivial, trivial, trivial⟩, trivial, trivial⟩ ?_
   refine xj (k := 1) rfl ?_
   refine xr rfl (q7 rfl ⟨⟨rfl, rfl, trivial⟩, z6 rfl⟩)
 · have hI := y8t c ho sh ac
   have hS := y96 c ho sh ac
   have hle := z98 c sh ac
   generalize (y36 c sh ac).1 = code at hI hS
   generalize (y36 c sh ac).2 = ls at hI hS hle
   have hr := q6z ls (by omega) code
   obtain ⟨k, r0, r1, r2, r3, r4, hk, hmk⟩ := y7o c hwt
   obtain ⟨q, rr, hq, hrl, hmr, hhd⟩ := y6z ls (by omega)
   refine z7 rfl (hsz) rfl ⟨⟨trivial, trivial, trivial, trivial, trivial, trivial⟩, trivial, trivial⟩ ?_
   refine xj (k := 1) rfl ?_
   refine z7 rfl (hto) rfl ⟨⟨trivial, trivial, trivial, trivial, trivial, trivial⟩, trivial⟩ ?_
   refine z7 rfl (hS) rfl ⟨⟨rfl, rfl, rfl, rfl, rfl, trivial⟩, trivial, trivial, trivial⟩ ?_
   refine z7 rfl (hto) rfl ⟨⟨trivial, trivial, trivial, trivial, trivial, trivial⟩, trivial⟩ ?_
   refine z7 rfl (hI) rfl ⟨⟨rfl, rfl, rfl, rfl, rfl, trivial⟩, trivial, trivial, trivial⟩ ?_
   refine z7 rfl (hr) rfl ⟨⟨trivial, rfl, trivial⟩, ⟨trivial, rfl, trivial⟩, trivial⟩ ?_
   refine xj (k := 1) rfl ?_
   refine zc rfl [] (.take 0 [3, 4] (.take 1 [2, 3, 4] (.alt 2 (.alt 3 (.take 4 [] .done) .nil) .nil))) (by kernel_rfl) ?_
   refine z7 rfl (hto) rfl ⟨⟨trivial, trivial, trivial, trivial, trivial, trivial⟩, trivial⟩ ?_
   refine z7 rfl (heq) rfl ⟨⟨rfl, rfl, rfl, rfl, rfl, trivial⟩, ⟨rfl, rfl, rfl, rfl, rfl, trivial⟩, trivial⟩ ?_
   refine xj (k := 1) rfl ?_
   refine q0t rfl (hmk) ⟨⟨⟨rfl, rfl, rfl, rfl⟩, ⟨rfl, rfl, rfl, rfl⟩, ⟨rfl, rfl, rfl, rfl⟩, ⟨rfl, rfl, rfl, rfl⟩, ⟨rfl, rfl, rfl, rfl⟩, trivial⟩, rfl, trivial⟩ rfl ?_
   refine xb rfl (fun b0 => ?_) (fun b0 => ?_)
   exact absurd b0 (by simp; omega)
   refine xj (k := 2) rfl ?_
   refine z7 rfl (hr) rfl ⟨⟨trivial, rfl, trivial⟩, ⟨trivial, rfl, trivial⟩, trivial⟩ ?_
   refine xj (k := 3) rfl ?_
   refine q0t rfl (hmr 4 code) ⟨⟨rfl, ⟨rfl, rfl, rfl, rfl⟩, trivial⟩, rfl, trivial⟩ rfl ?_
   refine z7 rfl (hhd code) rfl ⟨⟨trivial, hrl.symm, trivial⟩, trivial, trivial⟩ ?_
   refine xb rfl (fun b0 => ?_) (fun b0 => ?_)
   exact absurd b0 (by simp; omega)
   refine xb rfl (fun b1 => ?_) (fun b1 => ?_)
   exact absurd b1 (by simp [*])
   refine z7 rfl (hto) rfl ⟨⟨trivial, trivial, trivial, trivial, trivial, trivial⟩, trivial⟩ ?_
   refine z7 rfl (hI) rfl ⟨⟨rfl, rfl, rfl, rfl, rfl, trivial⟩, trivial, trivial, trivial⟩ ?_
   refine z7 rfl (hr) rfl ⟨⟨trivial, rfl, trivial⟩, ⟨trivial, rfl, trivial⟩, trivial⟩ ?_
   refine xj (k := 1) rfl ?_
   refine z7 rfl (hhd code) rfl ⟨⟨trivial, hrl.symm, trivial⟩, trivial, trivial⟩ ?_
   refine xb rfl (fun b0 => ?_) (fun b0 => ?_)
   exact absurd b0 (by simp; omega)
   refine xb rfl (fun b1 => ?_) (fun b1 => ?_)
   exact absurd b1 (by simp [*])
   refine xr rfl (q7 rfl ⟨⟨rfl, rfl, trivial⟩, z6 rfl⟩)
end Go.Proofs.YthljegacamgnnaaGreat
end
section
namespace Go.Proofs.YthljegacamgnnaaGreat.fnExactStatementOf
open Go.ChangeShapes Go.WideShapes Go.ChangeAt Go.RowKit
set_option maxRecDepth 100000 in
set_option maxHeartbeats 40000000 in
theorem closed : joinedFacts Tryz.pinned.checked.prog 7 Tryz.f7 Rows.fnExactStatementOfSpec Rows.fnExactStatementOfRow = true := by
 unfold joinedFacts
 simp only [Bool.and_eq_true]
 repeat' refine And.intro ?_ ?_
 all_goals as_aux_lemma => kernel_rfl
end Go.Proofs.YthljegacamgnnaaGreat.fnExactStatementOf
end
section
namespace Go.Proofs.YthljegacamgnnaaGreat.fnExactStatementOf
open Go.ChangeShapes Go.WideShapes Go.ChangeAt Go.RowKit Go.Sx
open Go.ChangeMaps (open_string shut_string)
theorem own : ownKnob Tryz.prog.godebug = none := by kernel_rfl
theorem laidOut : laidOutB Tryz.prog = true := by kernel_rfl
theorem q2 : OS Tryz.prog 2 (.i .i64 .nil) := q9p Tryz.underlying2 (by kernel_rfl)
theorem zap : OS Tryz.prog 294 zo := yx Tryz.underlying294 (by kernel_rfl) (.cons (by kernel_rfl) (.cons (by kernel_rfl) (.cons (by kernel_rfl) (.cons (by kernel_rfl) (.nil _))))) (zh q2 (zh q2 (zh q2 (z0d q2) rfl rfl) rfl rfl) rfl rfl)
theorem qak : OS Tryz.prog 151 (.l zo .nil) := z02 Tryz.underlying151 (by kernel_rfl) zap
theorem zal : OS Tryz.prog 153 z8 := yx Tryz.underlying153 (by kernel_rfl) (.cons (by kernel_rfl) (.cons (by kernel_rfl) (.nil _))) (zh q2 (z0d qak) rfl rfl)
theorem q22 : OS Tryz.prog 22 (.l z8 .nil) := z02 Tryz.underlying22 (by kernel_rfl) zal
theorem zao : OS Tryz.prog 269 yc := yx Tryz.underlying269 (by kernel_rfl) (.cons (by kernel_rfl) (.cons (by kernel_rfl) (.cons (by kernel_rfl) (.nil _)))) (zh q2 (zh q2 (z0d q2) rfl rfl) rfl rfl)
theorem yal : OS Tryz.prog 155 (.l yc .nil) := z02 Tryz.underlying155 (by kernel_rfl) zao
theorem yap : OS Tryz.prog 296 yh := yx Tryz.underlying296 (by kernel_rfl) (.cons (by kernel_rfl) (.cons (by kernel_rfl) (.nil _))) (zh q2 (z0d q2) rfl rfl)
theorem qag : OS Tryz.prog 156 (.l yh .nil) := z02 Tryz.underlying156 (by kernel_rfl) yap
theorem q66 : OS Tryz.prog 66 (.l (.i .i64 .nil) .nil) := z02 Tryz.underlying66 (by kernel_rfl) q2
theorem qal : OS Tryz.prog 158 qe := yx Tryz.underlying158 (by kernel_rfl) (.cons (by kernel_rfl) (.cons (by kernel_rfl) (.cons (by kernel_rfl) (.cons (by kernel_rfl) (.cons (by kernel_rfl) (.cons (by kernel_rfl) (.nil _))))))) (zh q2 (zh yal (zh qag (zh q22 (zh qag (z0d q66) rfl rfl) rfl rfl) rfl rfl) rfl rfl) rfl rfl)
theorem q23 : OS Tryz.prog 23 (.l qe .nil) := z02 Tryz.underlying23 (by kernel_rfl) qal
theorem yab : OS Tryz.prog 182 zm := yx Tryz.underlying182 (by kernel_rfl) (.cons (by kernel_rfl) (.cons (by kernel_rfl) (.nil _))) (zh q2 (z0d q2) rfl rfl)
theorem zah : OS Tryz.prog 282 (.l zm .nil) := z02 Tryz.underlying282 (by kernel_rfl) yab
theorem yao : OS Tryz.prog 284 yl := yx Tryz.underlying284 (by kernel_rfl) (.cons (by kernel_rfl) (.cons (by kernel_rfl) (.cons (by kernel_rfl) (.cons (by kernel_rfl) (.cons (by kernel_rfl) (.nil _)))))) (zh q2 (zh q2 (zh q2 (zh yab (z0d zah) rfl rfl) rfl rfl) rfl rfl) rfl rfl)
theorem zam : OS Tryz.prog 160 (.l yl .nil) := z02 Tryz.underlying160 (by kernel_rfl) yao
theorem yam : OS Tryz.prog 162 za := yx Tryz.underlying162 (by kernel_rfl) (.cons (by kernel_rfl) (.nil _)) (z0d zam)
theorem q24 : OS Tryz.prog 24 (.l za .nil) := z02 Tryz.underlying24 (by kernel_rfl) yam
theorem qao : OS Tryz.prog 287 yp := yx Tryz.underlying287 (by kernel_rfl) (.cons (by kernel_rfl) (.cons (by kernel_rfl) (.cons (by kernel_rfl) (.cons (by kernel_rfl) (.cons (by kernel_rfl) (.cons (by kernel_rfl) (.nil _))))))) (zh q2 (zh q2 (zh q2 (zh q2 (zh q66 (z0d zah) rfl rfl) rfl rfl) rfl rfl) rfl rfl) rfl rfl)
theorem qam : OS Tryz.prog 164 (.l yp .nil) := z02 Tryz.underlying164 (by kernel_rfl) qao
theorem qap : OS Tryz.prog 300 yn := yx Tryz.underlying300 (by kernel_rfl) (.cons (by kernel_rfl) (.cons (by kernel_rfl) (.cons (by kernel_rfl) (.cons (by kernel_rfl) (.cons (by kernel_rfl) (.nil _)))))) (zh q2 (zh q2 (zh q2 (zh q2 (z0d q2) rfl rfl) rfl rfl) rfl rfl) rfl rfl)
theorem zan : OS Tryz.prog 165 (.l yn .nil) := z02 Tryz.underlying165 (by kernel_rfl) qap
theorem yan : OS Tryz.prog 167 qd := yx Tryz.underlying167 (by kernel_rfl) (.cons (by kernel_rfl) (.cons (by kernel_rfl) (.cons (by kernel_rfl) (.nil _)))) (zh q2 (zh qam (z0d zan) rfl rfl) rfl rfl)
theorem q25 : OS Tryz.prog 25 (.l qd .nil) := z02 Tryz.underlying25 (by kernel_rfl) yan
theorem qan : OS Tryz.prog 184 zg := yx Tryz.underlying184 (by kernel_rfl) (.cons (by kernel_rfl) (.cons (by kernel_rfl) (.cons (by kernel_rfl) (.cons (by kernel_rfl) (.cons (by kernel_rfl) (.cons (by kernel_rfl) (.cons (by kernel_rfl) (.cons (by kernel_rfl) (.nil _))))))))) (zh q2 (zh q2 (zh q2 (zh q2 (zh q2 (zh q2 (zh q2 (z0d yab) rfl rfl) rfl rfl) rfl rfl) rfl rfl) rfl rfl) rfl rfl) rfl rfl)
theorem q26 : OS Tryz.prog 26 (.l zg .nil) := z02 Tryz.underlying26 (by kernel_rfl) qan
theorem q28 : OS Tryz.prog 28 qn := yx Tryz.underlying28 (by kernel_rfl) (.cons (by kernel_rfl) (.cons (by kernel_rfl) (.cons (by kernel_rfl) (.cons (by kernel_rfl) (.cons (by kernel_rfl) (.nil _)))))) (zh q22 (zh q23 (zh q24 (zh q25 (z0d q26) rfl rfl) rfl rfl) rfl rfl) rfl rfl)
set_option maxRecDepth 100000 in
theorem lifted (os : Os) (started : os.Started) (H : Type) (enc : TypeId × Value → H) :
 ReturnsInHanded {} Tryz.checked os 7 .any (Rows.fnExactStatementOfSpec.pre6 enc Tryz.prog Tryz.f7 Rows.fnExactStatementOfRow.domain false) (Rows.fnExactStatementOfSpec.post enc Tryz.prog Tryz.f7 false true false false) := by
 refine returnsInHanded_of_change_sized (C := Tryz.checked) own started (by kernel_rfl) Tryz.func7
  (ChangeSpec.witness6 (enc := enc) (C := Tryz.checked) false ⟨#[], #[.agg #[.slice none 0 0, .slice none 0 0, .slice none 0 0, .slice none 0 0, .slice none 0 0], .int .i64 0, .int .i64 0], []⟩ 8 (by kernel_rfl) (by kernel_rfl) (by kernel_rfl) (by kernel_rfl)) ?_
 intro W base args ds gs before hval0 hW _ _ _
 have hval : ∀ (j : Nat) t v, Tryz.f7.params[j]? = some t → args[j]? = some v → Value.okWide Tryz.prog W .any base t v := hval0
 have hW' := hW
 obtain ⟨p, q, hA0, hV, rfl, hfz, hnd⟩ := hW
 have hA : DataW.TrodAll enc Tryz.prog W 0 (fun _ => true) true Tryz.f7.params.toList args.toList ds p := hA0
 rw [Tryz.params7] at hA hval
 obtain ⟨v0, vs0, d0, ds0, p0, q0, hargs, rfl, rfl, h0, r0⟩ := trodAll_cons hA
 obtain ⟨v1, vs1, d1, ds1, p1, q1, rfl, rfl, rfl, h1, r1⟩ := trodAll_cons r0
 obtain ⟨v2, vs2, d2, ds2, p2, q2, rfl, rfl, rfl, h2, r2⟩ := trodAll_cons r1
 obtain ⟨rfl, rfl, rfl⟩ := trodAll_nil r2
 obtain rfl : args = #[v0, v1, v2] := by cases args; simp_all
 obtain ⟨rfl, rfl⟩ := trodVars_none hV
 have k0 := h0
 have lt0 : ∀ x ∈ p0, x.block < W.heap.size := by obtain ⟨m, hm⟩ := k0; exact DataW.trod_lt m _ _ _ hm
 obtain ⟨c0, R0, w0⟩ := z9i Tryz.underlying28 q28 (hval 0 28 v0 rfl rfl) h0
 obtain ⟨a1, rfl, rfl, rfl, w1⟩ := open_int Tryz.underlying2 (hval 1 2 v1 rfl rfl) h1
 obtain ⟨a2, rfl, rfl, rfl, w2⟩ := open_int Tryz.underlying2 (hval 2 2 v2 rfl rfl) h2
 clear hA0 hval0
 refine (PC.law (y7v c0 a1 a2 w0) (y5u.three R0 (.s _ rfl) (.s _ rfl))).mono fun e W' ⟨he, bel⟩ => ?_
 subst he
 exact ⟨_, rfl, _, _, _, [], _, [], hW', trodAll_mk1 (shut_bool Tryz.underlying4 _), (trodAll_cons_mk (Below.trod laidOut (by kernel_rfl) (of_decide_eq_true (by kernel_rfl)) k0 bel lt0) (trodAll_cons_mk (shut_int Tryz.underlying2 w1) (trodAll_cons_mk (shut_int Tryz.underlying2 w2) trodAll_mk0))), rfl, bel.frame _, fun h => by cases h⟩
theorem yak : Rows.fnExactStatementOfRow.holds Tryz.pinned (OpenSpec.ofChange Rows.fnExactStatementOfSpec) :=
 OpenClaim.holds_of_wide 7 Tryz.f7 rfl rfl rfl rfl rfl rfl rfl ⟨rfl, rfl, rfl, rfl, rfl⟩ rfl rfl rfl rfl rfl (by as_aux_lemma => kernel_rfl) Tryz.func7 closed
  (by as_aux_lemma => exact of_decide_eq_true (by kernel_rfl)) (by as_aux_lemma => unfold Func.isWrapper; first | (rw [if_pos (by decide +kernel)]; kernel_rfl) | (rw [if_neg (by decide +kernel)]; exact ⟨rfl, rfl⟩))
  (fun os started H enc _ => lifted os started H enc)
theorem z9q : Rows.FnExactStatementOfSaid := yak
end Go.Proofs.YthljegacamgnnaaGreat.fnExactStatementOf
namespace Go.Proofs.YthljegacamgnnaaGreat
theorem fnExactStatementOf_holds : Rows.FnExactStatementOfSaid := fnExactStatementOf.z9q
end Go.Proofs.YthljegacamgnnaaGreat
end
