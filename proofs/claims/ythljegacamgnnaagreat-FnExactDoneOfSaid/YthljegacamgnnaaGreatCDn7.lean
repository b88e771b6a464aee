/- WHAT IS PROVED: FnExactDoneOf, for every argument of its parameters' types that can be read as data: the call returns true and its arguments read as before. No condition. -/
import Derived.Test.YthljegacamgnnaaGreatCDn6
import Derived.WalkKit
import Derived.OrdersHeld
import Derived.DeepKeys
import Derived.Maps.RangeWalk
import Derived.Maps.OwnOps
import Derived.Deep.Slices
import Derived.ChangeArms
import Derived.WideShapes
import Derived.Lib.SlicesCompact
import Derived.Test.YthljegacamgnnaaGreatProg
import Derived.Shelf.SortG.Plain
import Derived.Shelf.SortG.SortNone
import Derived.Shelf.SlicesG.CompactI
import Derived.Lib.OwnBridge
import Derived.RangeFuncGives
import Derived.RangeFuncBox
import Derived.RangeFuncLeaves
import Derived.Shelf.Abstract
import Derived.Maps.AppendAt
import Derived.OwnWalkIn
import Derived.TacticsInMore
import Derived.LoopNIn
import Derived.LoopIn
import Derived.Test.YthljegacamgnnaaGreatRows
import Derived.ProofKit
import Derived.OpenShut
import Derived.ShutString
import Derived.ChangeOld
import Derived.Below
import Derived.SizedLaws
set_option linter.unusedVariables false
set_option linter.unusedSimpArgs false
section
namespace Go.Proofs.YthljegacamgnnaaGreat
open Go Go.Sx
set_option maxRecDepth 20000
theorem y7u (x0 : Int) (x1 : Int) (x2 : Int) (x3 : Int) (y0 : Int) (y1 : Int) (y2 : Int) (y3 : Int)   : PC Tryz.prog 155 [.agg [.s (.int .i64 x0), .s (.int .i64 x1), .s (.int .i64 x2), .s (.int .i64 x3)], .agg [.s (.int .i64 y0), .s (.int .i64 y1), .s (.int .i64 y2), .s (.int .i64 y3)]] (rB (dE (α := List Cell) [.s (.int .i64 x0), .s (.int .i64 x1), .s (.int .i64 x2), .s (.int .i64 x3)] [.s (.int .i64 y0), .s (.int .i64 y1), .s (.int .i64 y2), .s (.int .i64 y3)])) := by
 refine PC.begin Tryz.func155 rfl (by kernel_rfl) ?_
 refine xb rfl (fun h => ?_) (fun e0 => ?_)
 · exact xr rfl (q7 rfl ⟨⟨rfl, qj (fun e => by simp only [List.cons.injEq, Cell.s.injEq, Value.int.injEq, Value.bool.injEq, Value.string.injEq] at e; simp [e] at h), trivial⟩, z6 rfl⟩)
 have e0 : x0 = y0 := by simpa using e0
 refine xb rfl (fun h => ?_) (fun e1 => ?_)
 · exact xr rfl (q7 rfl ⟨⟨rfl, qj (fun e => by simp only [List.cons.injEq, Cell.s.injEq, Value.int.injEq, Value.bool.injEq, Value.string.injEq] at e; simp [e] at h), trivial⟩, z6 rfl⟩)
 have e1 : x1 = y1 := by simpa using e1
 refine xb rfl (fun h => ?_) (fun e2 => ?_)
 · exact xr rfl (q7 rfl ⟨⟨rfl, qj (fun e => by simp only [List.cons.injEq, Cell.s.injEq, Value.int.injEq, Value.bool.injEq, Value.string.injEq] at e; simp [e] at h), trivial⟩, z6 rfl⟩)
 have e2 : x2 = y2 := by simpa using e2
 refine xb rfl (fun h => ?_) (fun e3 => ?_)
 · exact xr rfl (q7 rfl ⟨⟨rfl, qj (fun e => by simp only [List.cons.injEq, Cell.s.injEq, Value.int.injEq, Value.bool.injEq, Value.string.injEq] at e; simp [e] at h), trivial⟩, z6 rfl⟩)
 have e3 : x3 = y3 := by simpa using e3
 exact xr rfl (q7 rfl ⟨⟨rfl, yu (by simp [e0, e1, e2, e3]), trivial⟩, z6 rfl⟩)
theorem q6r (p q : List (List Cell)) (hp : WR 9000000000000000000 qx p) (hq : WR 9000000000000000000 qx q) : PC Tryz.prog 90 [.one (.l p), .one (.l q)] (rB (dE p q)) := by
 refine PC.begin Tryz.func90 rfl (by kernel_rfl) ?_
 have hpl := hp.1
 have hql := hq.1
 refine xb rfl (fun h => ?_) (fun h => ?_)
 · exact xr rfl (q7 rfl ⟨⟨rfl, qj (fun e => by subst e; simp at h), trivial⟩, z6 rfl⟩)
 have hl : p.length = q.length := by simpa [Int.ofNat_inj] using h
 refine yd rfl (ι := Nat) (fun i => i ≤ p.length ∧ p.take i = q.take i) (fun i => ⟨[(5, sV (.int .i64 i)), (0, .one (.b (.l p))), (1, .one (.b (.l q)))], []⟩) (fun i => p.length - i) 0 ⟨Nat.zero_le _, rfl⟩ ?_ ?_
 · repeat' (first | exact trivial | exact rfl | exact Or.inl rfl | refine And.intro ?_ ?_)
 · intro i ⟨hi, he⟩ J hJ
   refine xb rfl (fun h => ?_) (fun h => ?_)
   · have h : i < p.length := by simpa using h
     obtain ⟨row, hg⟩ : ∃ row, p[i]? = some row := ⟨_, List.getElem?_eq_getElem h⟩
     obtain ⟨row', hg'⟩ : ∃ row, q[i]? = some row := ⟨_, List.getElem?_eq_getElem (by omega)⟩
     obtain ⟨x0, x1, x2, x3, rfl⟩ := z25 (hp.2 row (List.mem_of_getElem? hg))
     obtain ⟨y0, y1, y2, y3, rfl⟩ := z25 (hq.2 row' (List.mem_of_getElem? hg'))
     refine yc rfl [] (.take 0 [] (.take 1 [] (.take 2 [] (.take 3 [8, 9] (.take 4 [] (.take 5 [] (.take 6 [] (.take 7 [8, 9] (.alt 8 (.take 9 [] .done) .nil))))))))) (by kernel_rfl) ?_
     refine xs rfl (Int.natCast_nonneg _) (y9 rfl _ hg (xs rfl rfl ?_))
     refine xs rfl (Int.natCast_nonneg _) (y9 rfl _ hg' (xs rfl rfl ?_))
     refine z7 rfl (y7u _ _ _ _ _ _ _ _) rfl ⟨⟨trivial, trivial, trivial, trivial, trivial⟩, ⟨trivial, trivial, trivial, trivial, trivial⟩, trivial⟩ ?_
     refine xb rfl (fun hb => ?_) (fun hb => ?_)
     · exact xr rfl (q7 rfl ⟨⟨rfl, qj (fun e => by subst e; rw [hg] at hg'; cases hg'; exact q03 hb rfl), trivial⟩, z6 rfl⟩)
     · have hb := y03 hb
       refine ya rfl (hJ _ (i + 1) ⟨by omega, zo he hg (hg'.trans (by rw [hb]))⟩ (by omega) ?_)
       repeat' (first | exact trivial | exact rfl | exact Or.inl rfl | exact cwi (by omega) (by omega) (by omega) | refine And.intro ?_ ?_)
   · have h : ¬ i < p.length := by simpa using h
     exact xr rfl (q7 rfl ⟨⟨rfl, yu (by rw [show i = p.length by omega, List.take_length] at he; rw [he, hl, List.take_length]), trivial⟩, z6 rfl⟩)
theorem q3r (x0 : Int) (x1 : List (List Cell)) (y0 : Int) (y1 : List (List Cell)) (h1 : WR 9000000000000000000 qx x1) (k1 : WR 9000000000000000000 qx y1) : PC Tryz.prog 136 [.agg [.s (.int .i64 x0), .l x1], .agg [.s (.int .i64 y0), .l y1]] (rB (dE (α := List Cell) [.s (.int .i64 x0), .l x1] [.s (.int .i64 y0), .l y1])) := by
 refine PC.begin Tryz.func136 rfl (by kernel_rfl) ?_
 refine xb rfl (fun h => ?_) (fun e0 => ?_)
 · exact xr rfl (q7 rfl ⟨⟨rfl, qj (fun e => by simp only [List.cons.injEq, Cell.s.injEq, Value.int.injEq, Value.bool.injEq, Value.string.injEq] at e; simp [e] at h), trivial⟩, z6 rfl⟩)
 have e0 : x0 = y0 := by simpa using e0
 refine z7 rfl (q6r _ _ h1 k1) rfl ⟨trivial, trivial, trivial⟩ ?_
 refine xb rfl (fun h => ?_) (fun e1 => ?_)
 · exact xr rfl (q7 rfl ⟨⟨rfl, qj (fun e => q03 h (by simp only [List.cons.injEq, Cell.l.injEq] at e ⊢; simp only [e]; try trivial)), trivial⟩, z6 rfl⟩)
 have e1 := y03 e1
 exact xr rfl (q7 rfl ⟨⟨rfl, yu (by simp [e0, e1]), trivial⟩, z6 rfl⟩)
theorem z1i (p q : List (List Cell)) (hp : WR 9000000000000000000 z8 p) (hq : WR 9000000000000000000 z8 q) : PC Tryz.prog 67 [.one (.l p), .one (.l q)] (rB (dE p q)) := by
 refine PC.begin Tryz.func67 rfl (by kernel_rfl) ?_
 have hpl := hp.1
 have hql := hq.1
 refine xb rfl (fun h => ?_) (fun h => ?_)
 · exact xr rfl (q7 rfl ⟨⟨rfl, qj (fun e => by subst e; simp at h), trivial⟩, z6 rfl⟩)
 have hl : p.length = q.length := by simpa [Int.ofNat_inj] using h
 refine yd rfl (ι := Nat) (fun i => i ≤ p.length ∧ p.take i = q.take i) (fun i => ⟨[(5, sV (.int .i64 i)), (0, .one (.b (.l p))), (1, .one (.b (.l q)))], []⟩) (fun i => p.length - i) 0 ⟨Nat.zero_le _, rfl⟩ ?_ ?_
 · repeat' (first | exact trivial | exact rfl | exact Or.inl rfl | refine And.intro ?_ ?_)
 · intro i ⟨hi, he⟩ J hJ
   refine xb rfl (fun h => ?_) (fun h => ?_)
   · have h : i < p.length := by simpa using h
     obtain ⟨row, hg⟩ : ∃ row, p[i]? = some row := ⟨_, List.getElem?_eq_getElem h⟩
     obtain ⟨row', hg'⟩ : ∃ row, q[i]? = some row := ⟨_, List.getElem?_eq_getElem (by omega)⟩
     obtain ⟨x0, x1, rfl, h1⟩ := y06 (hp.2 row (List.mem_of_getElem? hg))
     obtain ⟨y0, y1, rfl, k1⟩ := y06 (hq.2 row' (List.mem_of_getElem? hg'))
     refine yc rfl [] (.take 0 [] (.take 1 [] (.take 2 [] (.take 3 [8, 9] (.take 4 [] (.take 5 [] (.take 6 [] (.take 7 [8, 9] (.alt 8 (.take 9 [] .done) .nil))))))))) (by kernel_rfl) ?_
     refine xs rfl (Int.natCast_nonneg _) (y9 rfl _ hg (xs rfl rfl ?_))
     refine xs rfl (Int.natCast_nonneg _) (y9 rfl _ hg' (xs rfl rfl ?_))
     refine z7 rfl (q3r _ _ _ _ h1 k1) rfl ⟨⟨trivial, trivial, trivial⟩, ⟨trivial, trivial, trivial⟩, trivial⟩ ?_
     refine xb rfl (fun hb => ?_) (fun hb => ?_)
     · exact xr rfl (q7 rfl ⟨⟨rfl, qj (fun e => by subst e; rw [hg] at hg'; cases hg'; exact q03 hb rfl), trivial⟩, z6 rfl⟩)
     · have hb := y03 hb
       refine ya rfl (hJ _ (i + 1) ⟨by omega, zo he hg (hg'.trans (by rw [hb]))⟩ (by omega) ?_)
       repeat' (first | exact trivial | exact rfl | exact Or.inl rfl | exact cwi (by omega) (by omega) (by omega) | refine And.intro ?_ ?_)
   · have h : ¬ i < p.length := by simpa using h
     exact xr rfl (q7 rfl ⟨⟨rfl, yu (by rw [show i = p.length by omega, List.take_length] at he; rw [he, hl, List.take_length]), trivial⟩, z6 rfl⟩)
theorem z4f (x0 : Int) (x1 : Int) (x2 : Int) (y0 : Int) (y1 : Int) (y2 : Int)   : PC Tryz.prog 225 [.agg [.s (.int .i64 x0), .s (.int .i64 x1), .s (.int .i64 x2)], .agg [.s (.int .i64 y0), .s (.int .i64 y1), .s (.int .i64 y2)]] (rB (dE (α := List Cell) [.s (.int .i64 x0), .s (.int .i64 x1), .s (.int .i64 x2)] [.s (.int .i64 y0), .s (.int .i64 y1), .s (.int .i64 y2)])) := by
 refine PC.begin Tryz.func225 rfl (by kernel_rfl) ?_
 refine xb rfl (fun h => ?_) (fun e0 => ?_)
 · exact xr rfl (q7 rfl ⟨⟨rfl, qj (fun e => by simp only [List.cons.injEq, Cell.s.injEq, Value.int.injEq, Value.bool.injEq, Value.string.injEq] at e; simp [e] at h), trivial⟩, z6 rfl⟩)
 have e0 : x0 = y0 := by simpa using e0
 refine xb rfl (fun h => ?_) (fun e1 => ?_)
 · exact xr rfl (q7 rfl ⟨⟨rfl, qj (fun e => by simp only [List.cons.injEq, Cell.s.injEq, Value.int.injEq, Value.bool.injEq, Value.string.injEq] at e; simp [e] at h), trivial⟩, z6 rfl⟩)
 have e1 : x1 = y1 := by simpa using e1
 refine xb rfl (fun h => ?_) (fun e2 => ?_)
 · exact xr rfl (q7 rfl ⟨⟨rfl, qj (fun e => by simp only [List.cons.injEq, Cell.s.injEq, Value.int.injEq, Value.bool.injEq, Value.string.injEq] at e; simp [e] at h), trivial⟩, z6 rfl⟩)
 have e2 : x2 = y2 := by simpa using e2
 exact xr rfl (q7 rfl ⟨⟨rfl, yu (by simp [e0, e1, e2]), trivial⟩, z6 rfl⟩)
theorem y3r (p q : List (List Cell)) (hp : WR 9000000000000000000 zc p) (hq : WR 9000000000000000000 zc q) : PC Tryz.prog 154 [.one (.l p), .one (.l q)] (rB (dE p q)) := by
 refine PC.begin Tryz.func154 rfl (by kernel_rfl) ?_
 have hpl := hp.1
 have hql := hq.1
 refine xb rfl (fun h => ?_) (fun h => ?_)
 · exact xr rfl (q7 rfl ⟨⟨rfl, qj (fun e => by subst e; simp at h), trivial⟩, z6 rfl⟩)
 have hl : p.length = q.length := by simpa [Int.ofNat_inj] using h
 refine yd rfl (ι := Nat) (fun i => i ≤ p.length ∧ p.take i = q.take i) (fun i => ⟨[(5, sV (.int .i64 i)), (0, .one (.b (.l p))), (1, .one (.b (.l q)))], []⟩) (fun i => p.length - i) 0 ⟨Nat.zero_le _, rfl⟩ ?_ ?_
 · repeat' (first | exact trivial | exact rfl | exact Or.inl rfl | refine And.intro ?_ ?_)
 · intro i ⟨hi, he⟩ J hJ
   refine xb rfl (fun h => ?_) (fun h => ?_)
   · have h : i < p.length := by simpa using h
     obtain ⟨row, hg⟩ : ∃ row, p[i]? = some row := ⟨_, List.getElem?_eq_getElem h⟩
     obtain ⟨row', hg'⟩ : ∃ row, q[i]? = some row := ⟨_, List.getElem?_eq_getElem (by omega)⟩
     obtain ⟨x0, x1, x2, rfl⟩ := y0a (hp.2 row (List.mem_of_getElem? hg))
     obtain ⟨y0, y1, y2, rfl⟩ := y0a (hq.2 row' (List.mem_of_getElem? hg'))
     refine yc rfl [] (.take 0 [] (.take 1 [] (.take 2 [] (.take 3 [8, 9] (.take 4 [] (.take 5 [] (.take 6 [] (.take 7 [8, 9] (.alt 8 (.take 9 [] .done) .nil))))))))) (by kernel_rfl) ?_
     refine xs rfl (Int.natCast_nonneg _) (y9 rfl _ hg (xs rfl rfl ?_))
     refine xs rfl (Int.natCast_nonneg _) (y9 rfl _ hg' (xs rfl rfl ?_))
     refine z7 rfl (z4f _ _ _ _ _ _) rfl ⟨⟨trivial, trivial, trivial, trivial⟩, ⟨trivial, trivial, trivial, trivial⟩, trivial⟩ ?_
     refine xb rfl (fun hb => ?_) (fun hb => ?_)
     · exact xr rfl (q7 rfl ⟨⟨rfl, qj (fun e => by subst e; rw [hg] at hg'; cases hg'; exact q03 hb rfl), trivial⟩, z6 rfl⟩)
     · have hb := y03 hb
       refine ya rfl (hJ _ (i + 1) ⟨by omega, zo he hg (hg'.trans (by rw [hb]))⟩ (by omega) ?_)
       repeat' (first | exact trivial | exact rfl | exact Or.inl rfl | exact cwi (by omega) (by omega) (by omega) | refine And.intro ?_ ?_)
   · have h : ¬ i < p.length := by simpa using h
     exact xr rfl (q7 rfl ⟨⟨rfl, yu (by rw [show i = p.length by omega, List.take_length] at he; rw [he, hl, List.take_length]), trivial⟩, z6 rfl⟩)
theorem z6s (x0 : Int) (x1 : Int) (y0 : Int) (y1 : Int)   : PC Tryz.prog 279 [.agg [.s (.int .i64 x0), .s (.int .i64 x1)], .agg [.s (.int .i64 y0), .s (.int .i64 y1)]] (rB (dE (α := List Cell) [.s (.int .i64 x0), .s (.int .i64 x1)] [.s (.int .i64 y0), .s (.int .i64 y1)])) := by
 refine PC.begin Tryz.func279 rfl (by kernel_rfl) ?_
 refine xb rfl (fun h => ?_) (fun e0 => ?_)
 · exact xr rfl (q7 rfl ⟨⟨rfl, qj (fun e => by simp only [List.cons.injEq, Cell.s.injEq, Value.int.injEq, Value.bool.injEq, Value.string.injEq] at e; simp [e] at h), trivial⟩, z6 rfl⟩)
 have e0 : x0 = y0 := by simpa using e0
 refine xb rfl (fun h => ?_) (fun e1 => ?_)
 · exact xr rfl (q7 rfl ⟨⟨rfl, qj (fun e => by simp only [List.cons.injEq, Cell.s.injEq, Value.int.injEq, Value.bool.injEq, Value.string.injEq] at e; simp [e] at h), trivial⟩, z6 rfl⟩)
 have e1 : x1 = y1 := by simpa using e1
 exact xr rfl (q7 rfl ⟨⟨rfl, yu (by simp [e0, e1]), trivial⟩, z6 rfl⟩)
theorem y3e (p q : List (List Cell)) (hp : WR 9000000000000000000 yh p) (hq : WR 9000000000000000000 yh q) : PC Tryz.prog 216 [.one (.l p), .one (.l q)] (rB (dE p q)) := by
 refine PC.begin Tryz.func216 rfl (by kernel_rfl) ?_
 have hpl := hp.1
 have hql := hq.1
 refine xb rfl (fun h => ?_) (fun h => ?_)
 · exact xr rfl (q7 rfl ⟨⟨rfl, qj (fun e => by subst e; simp at h), trivial⟩, z6 rfl⟩)
 have hl : p.length = q.length := by simpa [Int.ofNat_inj] using h
 refine yd rfl (ι := Nat) (fun i => i ≤ p.length ∧ p.take i = q.take i) (fun i => ⟨[(5, sV (.int .i64 i)), (0, .one (.b (.l p))), (1, .one (.b (.l q)))], []⟩) (fun i => p.length - i) 0 ⟨Nat.zero_le _, rfl⟩ ?_ ?_
 · repeat' (first | exact trivial | exact rfl | exact Or.inl rfl | refine And.intro ?_ ?_)
 · intro i ⟨hi, he⟩ J hJ
   refine xb rfl (fun h => ?_) (fun h => ?_)
   · have h : i < p.length := by simpa using h
     obtain ⟨row, hg⟩ : ∃ row, p[i]? = some row := ⟨_, List.getElem?_eq_getElem h⟩
     obtain ⟨row', hg'⟩ : ∃ row, q[i]? = some row := ⟨_, List.getElem?_eq_getElem (by omega)⟩
     obtain ⟨x0, x1, rfl⟩ := z1d (hp.2 row (List.mem_of_getElem? hg))
     obtain ⟨y0, y1, rfl⟩ := z1d (hq.2 row' (List.mem_of_getElem? hg'))
     refine yc rfl [] (.take 0 [] (.take 1 [] (.take 2 [] (.take 3 [8, 9] (.take 4 [] (.take 5 [] (.take 6 [] (.take 7 [8, 9] (.alt 8 (.take 9 [] .done) .nil))))))))) (by kernel_rfl) ?_
     refine xs rfl (Int.natCast_nonneg _) (y9 rfl _ hg (xs rfl rfl ?_))
     refine xs rfl (Int.natCast_nonneg _) (y9 rfl _ hg' (xs rfl rfl ?_))
     refine z7 rfl (z6s _ _ _ _) rfl ⟨⟨trivial, trivial, trivial⟩, ⟨trivial, trivial, trivial⟩, trivial⟩ ?_
     refine xb rfl (fun hb => ?_) (fun hb => ?_)
     · exact xr rfl (q7 rfl ⟨⟨rfl, qj (fun e => by subst e; rw [hg] at hg'; cases hg'; exact q03 hb rfl), trivial⟩, z6 rfl⟩)
     · have hb := y03 hb
       refine ya rfl (hJ _ (i + 1) ⟨by omega, zo he hg (hg'.trans (by rw [hb]))⟩ (by omega) ?_)
       repeat' (first | exact trivial | exact rfl | exact Or.inl rfl | exact cwi (by omega) (by omega) (by omega) | refine And.intro ?_ ?_)
   · have h : ¬ i < p.length := by simpa using h
     exact xr rfl (q7 rfl ⟨⟨rfl, yu (by rw [show i = p.length by omega, List.take_length] at he; rw [he, hl, List.take_length]), trivial⟩, z6 rfl⟩)
theorem y1l (p q : List (List Cell)) (hp : WR 9000000000000000000 (.i .i64 .nil) p) (hq : WR 9000000000000000000 (.i .i64 .nil) q) : PC Tryz.prog 100 [.one (.l p), .one (.l q)] (rB (dE p q)) := by
 refine PC.begin Tryz.func100 rfl (by kernel_rfl) ?_
 have hpl := hp.1
 have hql := hq.1
 refine xb rfl (fun h => ?_) (fun h => ?_)
 · exact xr rfl (q7 rfl ⟨⟨rfl, qj (fun e => by subst e; simp at h), trivial⟩, z6 rfl⟩)
 have hl : p.length = q.length := by simpa [Int.ofNat_inj] using h
 refine yd rfl (ι := Nat) (fun i => i ≤ p.length ∧ p.take i = q.take i) (fun i => ⟨[(5, sV (.int .i64 i)), (0, .one (.b (.l p))), (1, .one (.b (.l q)))], []⟩) (fun i => p.length - i) 0 ⟨Nat.zero_le _, rfl⟩ ?_ ?_
 · repeat' (first | exact trivial | exact rfl | exact Or.inl rfl | refine And.intro ?_ ?_)
 · intro i ⟨hi, he⟩ J hJ
   refine xb rfl (fun h => ?_) (fun h => ?_)
   · have h : i < p.length := by simpa using h
     obtain ⟨row, hg⟩ : ∃ row, p[i]? = some row := ⟨_, List.getElem?_eq_getElem h⟩
     obtain ⟨row', hg'⟩ : ∃ row, q[i]? = some row := ⟨_, List.getElem?_eq_getElem (by omega)⟩
     obtain ⟨x0, _, rfl, hnil⟩ := ((hp.2 row (List.mem_of_getElem? hg))).zv; obtain rfl := hnil.zx
     obtain ⟨y0, _, rfl, knil⟩ := ((hq.2 row' (List.mem_of_getElem? hg'))).zv; obtain rfl := knil.zx
     refine yc rfl [] (.take 0 [] (.take 1 [] (.take 2 [] (.take 3 [8] (.take 4 [] (.take 5 [] (.take 6 [] (.take 7 [8] (.take 8 [] .done))))))))) (by kernel_rfl) ?_
     refine xs rfl (Int.natCast_nonneg _) (y9 rfl _ hg (xs rfl rfl ?_))
     refine xs rfl (Int.natCast_nonneg _) (y9 rfl _ hg' (xs rfl rfl ?_))
     refine xb rfl (fun hb => ?_) (fun hb => ?_)
     · exact xr rfl (q7 rfl ⟨⟨rfl, qj (fun e => by subst e; rw [hg] at hg'; cases hg'; simp at hb), trivial⟩, z6 rfl⟩)
     · have hb : x0 = y0 := by simpa using hb
       refine ya rfl (hJ _ (i + 1) ⟨by omega, zo he hg (hg'.trans (by rw [hb]))⟩ (by omega) ?_)
       repeat' (first | exact trivial | exact rfl | exact Or.inl rfl | exact cwi (by omega) (by omega) (by omega) | refine And.intro ?_ ?_)
   · have h : ¬ i < p.length := by simpa using h
     exact xr rfl (q7 rfl ⟨⟨rfl, yu (by rw [show i = p.length by omega, List.take_length] at he; rw [he, hl, List.take_length]), trivial⟩, z6 rfl⟩)
theorem q62 (x0 : Int) (x1 : List (List Cell)) (x2 : List (List Cell)) (x3 : List (List Cell)) (x4 : List (List Cell)) (x5 : List (List Cell)) (y0 : Int) (y1 : List (List Cell)) (y2 : List (List Cell)) (y3 : List (List Cell)) (y4 : List (List Cell)) (y5 : List (List Cell)) (h1 : WR 9000000000000000000 zc x1) (h2 : WR 9000000000000000000 yh x2) (h3 : WR 9000000000000000000 z8 x3) (h4 : WR 9000000000000000000 yh x4) (h5 : WR 9000000000000000000 (.i .i64 .nil) x5) (k1 : WR 9000000000000000000 zc y1) (k2 : WR 9000000000000000000 yh y2) (k3 : WR 9000000000000000000 z8 y3) (k4 : WR 9000000000000000000 yh y4) (k5 : WR 9000000000000000000 (.i .i64 .nil) y5) : PC Tryz.prog 137 [.agg [.s (.int .i64 x0), .l x1, .l x2, .l x3, .l x4, .l x5], .agg [.s (.int .i64 y0), .l y1, .l y2, .l y3, .l y4, .l y5]] (rB (dE (α := List Cell) [.s (.int .i64 x0), .l x1, .l x2, .l x3, .l x4, .l x5] [.s (.int .i64 y0), .l y1, .l y2, .l y3, .l y4, .l y5])) := by
 refine PC.begin Tryz.func137 rfl (by kernel_rfl) ?_
 refine xb rfl (fun h => ?_) (fun e0 => ?_)
 · exact xr rfl (q7 rfl ⟨⟨rfl, qj (fun e => by simp only [List.cons.injEq, Cell.s.injEq, Value.int.injEq, Value.bool.injEq, Value.string.injEq] at e; simp [e] at h), trivial⟩, z6 rfl⟩)
 have e0 : x0 = y0 := by simpa using e0
 refine z7 rfl (y3r _ _ h1 k1) rfl ⟨trivial, trivial, trivial⟩ ?_
 refine xb rfl (fun h => ?_) (fun e1 => ?_)
 · exact xr rfl (q7 rfl ⟨⟨rfl, qj (fun e => q03 h (by simp only [List.cons.injEq, Cell.l.injEq] at e ⊢; simp only [e]; try trivial)), trivial⟩, z6 rfl⟩)
 have e1 := y03 e1
 refine z7 rfl (y3e _ _ h2 k2) rfl ⟨trivial, trivial, trivial⟩ ?_
 refine xb rfl (fun h => ?_) (fun e2 => ?_)
 · exact xr rfl (q7 rfl ⟨⟨rfl, qj (fun e => q03 h (by simp only [List.cons.injEq, Cell.l.injEq] at e ⊢; simp only [e]; try trivial)), trivial⟩, z6 rfl⟩)
 have e2 := y03 e2
 refine z7 rfl (z1i _ _ h3 k3) rfl ⟨trivial, trivial, trivial⟩ ?_
 refine xb rfl (fun h => ?_) (fun e3 => ?_)
 · exact xr rfl (q7 rfl ⟨⟨rfl, qj (fun e => q03 h (by simp only [List.cons.injEq, Cell.l.injEq] at e ⊢; simp only [e]; try trivial)), trivial⟩, z6 rfl⟩)
 have e3 := y03 e3
 refine z7 rfl (y3e _ _ h4 k4) rfl ⟨trivial, trivial, trivial⟩ ?_
 refine xb rfl (fun h => ?_) (fun e4 => ?_)
 · exact xr rfl (q7 rfl ⟨⟨rfl, qj (fun e => q03 h (by simp only [List.cons.injEq, Cell.l.injEq] at e ⊢; simp only [e]; try trivial)), trivial⟩, z6 rfl⟩)
 have e4 := y03 e4
 refine z7 rfl (y1l _ _ h5 k5) rfl ⟨trivial, trivial, trivial⟩ ?_
 refine xb rfl (fun h => ?_) (fun e5 => ?_)
 · exact xr rfl (q7 rfl ⟨⟨rfl, qj (fun e => q03 h (by simp only [List.cons.injEq, Cell.l.injEq] at e ⊢; simp only [e]; try trivial)), trivial⟩, z6 rfl⟩)
 have e5 := y03 e5
 exact xr rfl (q7 rfl ⟨⟨rfl, yu (by simp [e0, e1, e2, e3, e4, e5]), trivial⟩, z6 rfl⟩)
theorem z53 (p q : List (List Cell)) (hp : WR 9000000000000000000 qe p) (hq : WR 9000000000000000000 qe q) : PC Tryz.prog 68 [.one (.l p), .one (.l q)] (rB (dE p q)) := by
 refine PC.begin Tryz.func68 rfl (by kernel_rfl) ?_
 have hpl := hp.1
 have hql := hq.1
 refine xb rfl (fun h => ?_) (fun h => ?_)
 · exact xr rfl (q7 rfl ⟨⟨rfl, qj (fun e => by subst e; simp at h), trivial⟩, z6 rfl⟩)
 have hl : p.length = q.length := by simpa [Int.ofNat_inj] using h
 refine yd rfl (ι := Nat) (fun i => i ≤ p.length ∧ p.take i = q.take i) (fun i => ⟨[(5, sV (.int .i64 i)), (0, .one (.b (.l p))), (1, .one (.b (.l q)))], []⟩) (fun i => p.length - i) 0 ⟨Nat.zero_le _, rfl⟩ ?_ ?_
 · repeat' (first | exact trivial | exact rfl | exact Or.inl rfl | refine And.intro ?_ ?_)
 · intro i ⟨hi, he⟩ J hJ
   refine xb rfl (fun h => ?_) (fun h => ?_)
   · have h : i < p.length := by simpa using h
     obtain ⟨row, hg⟩ : ∃ row, p[i]? = some row := ⟨_, List.getElem?_eq_getElem h⟩
     obtain ⟨row', hg'⟩ : ∃ row, q[i]? = some row := ⟨_, List.getElem?_eq_getElem (by omega)⟩
     obtain ⟨x0, x1, x2, x3, x4, x5, rfl, h1, h2, h3, h4, h5⟩ := y0u (hp.2 row (List.mem_of_getElem? hg))
     obtain ⟨y0, y1, y2, y3, y4, y5, rfl, k1, k2, k3, k4, k5⟩ := y0u (hq.2 row' (List.mem_of_getElem? hg'))
     refine yc rfl [] (.take 0 [] (.take 1 [] (.take 2 [] (.take 3 [8, 9] (.take 4 [] (.take 5 [] (.take 6 [] (.take 7 [8, 9] (.alt 8 (.take 9 [] .done) .nil))))))))) (by kernel_rfl) ?_
     refine xs rfl (Int.natCast_nonneg _) (y9 rfl _ hg (xs rfl rfl ?_))
     refine xs rfl (Int.natCast_nonneg _) (y9 rfl _ hg' (xs rfl rfl ?_))
     refine z7 rfl (q62 _ _ _ _ _ _ _ _ _ _ _ _ h1 h2 h3 h4 h5 k1 k2 k3 k4 k5) rfl ⟨⟨trivial, trivial, trivial, trivial, trivial, trivial, trivial⟩, ⟨trivial, trivial, trivial, trivial, trivial, trivial, trivial⟩, trivial⟩ ?_
     refine xb rfl (fun hb => ?_) (fun hb => ?_)
     · exact xr rfl (q7 rfl ⟨⟨rfl, qj (fun e => by subst e; rw [hg] at hg'; cases hg'; exact q03 hb rfl), trivial⟩, z6 rfl⟩)
     · have hb := y03 hb
       refine ya rfl (hJ _ (i + 1) ⟨by omega, zo he hg (hg'.trans (by rw [hb]))⟩ (by omega) ?_)
       repeat' (first | exact trivial | exact rfl | exact Or.inl rfl | exact cwi (by omega) (by omega) (by omega) | refine And.intro ?_ ?_)
   · have h : ¬ i < p.length := by simpa using h
     exact xr rfl (q7 rfl ⟨⟨rfl, yu (by rw [show i = p.length by omega, List.take_length] at he; rw [he, hl, List.take_length]), trivial⟩, z6 rfl⟩)
theorem q2s (x0 : Int) (x1 : Int) (y0 : Int) (y1 : Int)   : PC Tryz.prog 220 [.agg [.s (.int .i64 x0), .s (.int .i64 x1)], .agg [.s (.int .i64 y0), .s (.int .i64 y1)]] (rB (dE (α := List Cell) [.s (.int .i64 x0), .s (.int .i64 x1)] [.s (.int .i64 y0), .s (.int .i64 y1)])) := by
 refine PC.begin Tryz.func220 rfl (by kernel_rfl) ?_
 refine xb rfl (fun h => ?_) (fun e0 => ?_)
 · exact xr rfl (q7 rfl ⟨⟨rfl, qj (fun e => by simp only [List.cons.injEq, Cell.s.injEq, Value.int.injEq, Value.bool.injEq, Value.string.injEq] at e; simp [e] at h), trivial⟩, z6 rfl⟩)
 have e0 : x0 = y0 := by simpa using e0
 refine xb rfl (fun h => ?_) (fun e1 => ?_)
 · exact xr rfl (q7 rfl ⟨⟨rfl, qj (fun e => by simp only [List.cons.injEq, Cell.s.injEq, Value.int.injEq, Value.bool.injEq, Value.string.injEq] at e; simp [e] at h), trivial⟩, z6 rfl⟩)
 have e1 : x1 = y1 := by simpa using e1
 exact xr rfl (q7 rfl ⟨⟨rfl, yu (by simp [e0, e1]), trivial⟩, z6 rfl⟩)
theorem q3e (p q : List (List Cell)) (hp : WR 9000000000000000000 zm p) (hq : WR 9000000000000000000 zm q) : PC Tryz.prog 320 [.one (.l p), .one (.l q)] (rB (dE p q)) := by
 refine PC.begin Tryz.func320 rfl (by kernel_rfl) ?_
 have hpl := hp.1
 have hql := hq.1
 refine xb rfl (fun h => ?_) (fun h => ?_)
 · exact xr rfl (q7 rfl ⟨⟨rfl, qj (fun e => by subst e; simp at h), trivial⟩, z6 rfl⟩)
 have hl : p.length = q.length := by simpa [Int.ofNat_inj] using h
 refine yd rfl (ι := Nat) (fun i => i ≤ p.length ∧ p.take i = q.take i) (fun i => ⟨[(5, sV (.int .i64 i)), (0, .one (.b (.l p))), (1, .one (.b (.l q)))], []⟩) (fun i => p.length - i) 0 ⟨Nat.zero_le _, rfl⟩ ?_ ?_
 · repeat' (first | exact trivial | exact rfl | exact Or.inl rfl | refine And.intro ?_ ?_)
 · intro i ⟨hi, he⟩ J hJ
   refine xb rfl (fun h => ?_) (fun h => ?_)
   · have h : i < p.length := by simpa using h
     obtain ⟨row, hg⟩ : ∃ row, p[i]? = some row := ⟨_, List.getElem?_eq_getElem h⟩
     obtain ⟨row', hg'⟩ : ∃ row, q[i]? = some row := ⟨_, List.getElem?_eq_getElem (by omega)⟩
     obtain ⟨x0, x1, rfl⟩ := q1d (hp.2 row (List.mem_of_getElem? hg))
     obtain ⟨y0, y1, rfl⟩ := q1d (hq.2 row' (List.mem_of_getElem? hg'))
     refine yc rfl [] (.take 0 [] (.take 1 [] (.take 2 [] (.take 3 [8, 9] (.take 4 [] (.take 5 [] (.take 6 [] (.take 7 [8, 9] (.alt 8 (.take 9 [] .done) .nil))))))))) (by kernel_rfl) ?_
     refine xs rfl (Int.natCast_nonneg _) (y9 rfl _ hg (xs rfl rfl ?_))
     refine xs rfl (Int.natCast_nonneg _) (y9 rfl _ hg' (xs rfl rfl ?_))
     refine z7 rfl (q2s _ _ _ _) rfl ⟨⟨trivial, trivial, trivial⟩, ⟨trivial, trivial, trivial⟩, trivial⟩ ?_
     refine xb rfl (fun hb => ?_) (fun hb => ?_)
     · exact xr rfl (q7 rfl ⟨⟨rfl, qj (fun e => by subst e; rw [hg] at hg'; cases hg'; exact q03 hb rfl), trivial⟩, z6 rfl⟩)
     · have hb := y03 hb
       refine ya rfl (hJ _ (i + 1) ⟨by omega, zo he hg (hg'.trans (by rw [hb]))⟩ (by omega) ?_)
       repeat' (first | exact trivial | exact rfl | exact Or.inl rfl | exact cwi (by omega) (by omega) (by omega) | refine And.intro ?_ ?_)
   · have h : ¬ i < p.length := by simpa using h
     exact xr rfl (q7 rfl ⟨⟨rfl, yu (by rw [show i = p.length by omega, List.take_length] at he; rw [he, hl, List.take_length]), trivial⟩, z6 rfl⟩)
theorem y6s (x0 : Int) (x1 : Int) (x2 : Int) (x3 : Int) (x4 : Int) (x5 : List (List Cell)) (y0 : Int) (y1 : Int) (y2 : Int) (y3 : Int) (y4 : Int) (y5 : List (List Cell)) (h5 : WR 9000000000000000000 zm x5) (k5 : WR 9000000000000000000 zm y5) : PC Tryz.prog 280 [.agg [.s (.int .i64 x0), .s (.int .i64 x1), .s (.int .i64 x2), .s (.int .i64 x3), .s (.int .i64 x4), .l x5], .agg [.s (.int .i64 y0), .s (.int .i64 y1), .s (.int .i64 y2), .s (.int .i64 y3), .s (.int .i64 y4), .l y5]] (rB (dE (α := List Cell) [.s (.int .i64 x0), .s (.int .i64 x1), .s (.int .i64 x2), .s (.int .i64 x3), .s (.int .i64 x4), .l x5] [.s (.int .i64 y0), .s (.int .i64 y1), .s (.int .i64 y2), .s (.int .i64 y3), .s (.int .i64 y4), .l y5])) := by
 refine PC.begin Tryz.func280 rfl (by kernel_rfl) ?_
 refine xb rfl (fun h => ?_) (fun e0 => ?_)
 · exact xr rfl (q7 rfl ⟨⟨rfl, qj (fun e => by simp only [List.cons.injEq, Cell.s.injEq, Value.int.injEq, Value.bool.injEq, Value.string.injEq] at e; simp [e] at h), trivial⟩, z6 rfl⟩)
 have e0 : x0 = y0 := by simpa using e0
 refine xb rfl (fun h => ?_) (fun e1 => ?_)
 · exact xr rfl (q7 rfl ⟨⟨rfl, qj (fun e => by simp only [List.cons.injEq, Cell.s.injEq, Value.int.injEq, Value.bool.injEq, Value.string.injEq] at e; simp [e] at h), trivial⟩, z6 rfl⟩)
 have e1 : x1 = y1 := by simpa using e1
 refine xb rfl (fun h => ?_) (fun e2 => ?_)
 · exact xr rfl (q7 rfl ⟨⟨rfl, qj (fun e => by simp only [List.cons.injEq, Cell.s.injEq, Value.int.injEq, Value.bool.injEq, Value.string.injEq] at e; simp [e] at h), trivial⟩, z6 rfl⟩)
 have e2 : x2 = y2 := by simpa using e2
 refine z7 rfl (q2s _ _ _ _) rfl ⟨⟨trivial, trivial, trivial⟩, ⟨trivial, trivial, trivial⟩, trivial⟩ ?_
 refine xb rfl (fun h => ?_) (fun e3 => ?_)
 · exact xr rfl (q7 rfl ⟨⟨rfl, qj (fun e => q03 h (by simp only [List.cons.injEq, Cell.l.injEq] at e ⊢; simp only [e]; try trivial)), trivial⟩, z6 rfl⟩)
 have e3 := y03 e3
 simp only [List.cons.injEq, Cell.s.injEq, Cell.l.injEq, Value.int.injEq, Value.bool.injEq, and_true, true_and] at e3
 refine z7 rfl (q3e _ _ h5 k5) rfl ⟨trivial, trivial, trivial⟩ ?_
 refine xb rfl (fun h => ?_) (fun e5 => ?_)
 · exact xr rfl (q7 rfl ⟨⟨rfl, qj (fun e => q03 h (by simp only [List.cons.injEq, Cell.l.injEq] at e ⊢; simp only [e]; try trivial)), trivial⟩, z6 rfl⟩)
 have e5 := y03 e5
 exact xr rfl (q7 rfl ⟨⟨rfl, yu (by simp [e0, e1, e2, e3, e5]), trivial⟩, z6 rfl⟩)
theorem z63 (p q : List (List Cell)) (hp : WR 9000000000000000000 zl p) (hq : WR 9000000000000000000 zl q) : PC Tryz.prog 217 [.one (.l p), .one (.l q)] (rB (dE p q)) := by
 refine PC.begin Tryz.func217 rfl (by kernel_rfl) ?_
 have hpl := hp.1
 have hql := hq.1
 refine xb rfl (fun h => ?_) (fun h => ?_)
 · exact xr rfl (q7 rfl ⟨⟨rfl, qj (fun e => by subst e; simp at h), trivial⟩, z6 rfl⟩)
 have hl : p.length = q.length := by simpa [Int.ofNat_inj] using h
 refine yd rfl (ι := Nat) (fun i => i ≤ p.length ∧ p.take i = q.take i) (fun i => ⟨[(5, sV (.int .i64 i)), (0, .one (.b (.l p))), (1, .one (.b (.l q)))], []⟩) (fun i => p.length - i) 0 ⟨Nat.zero_le _, rfl⟩ ?_ ?_
 · repeat' (first | exact trivial | exact rfl | exact Or.inl rfl | refine And.intro ?_ ?_)
 · intro i ⟨hi, he⟩ J hJ
   refine xb rfl (fun h => ?_) (fun h => ?_)
   · have h : i < p.length := by simpa using h
     obtain ⟨row, hg⟩ : ∃ row, p[i]? = some row := ⟨_, List.getElem?_eq_getElem h⟩
     obtain ⟨row', hg'⟩ : ∃ row, q[i]? = some row := ⟨_, List.getElem?_eq_getElem (by omega)⟩
     obtain ⟨x0, x1, x2, x3, x4, x5, rfl, h5⟩ := y1d (hp.2 row (List.mem_of_getElem? hg))
     obtain ⟨y0, y1, y2, y3, y4, y5, rfl, k5⟩ := y1d (hq.2 row' (List.mem_of_getElem? hg'))
     refine yc rfl [] (.take 0 [] (.take 1 [] (.take 2 [] (.take 3 [8, 9] (.take 4 [] (.take 5 [] (.take 6 [] (.take 7 [8, 9] (.alt 8 (.take 9 [] .done) .nil))))))))) (by kernel_rfl) ?_
     refine xs rfl (Int.natCast_nonneg _) (y9 rfl _ hg (xs rfl rfl ?_))
     refine xs rfl (Int.natCast_nonneg _) (y9 rfl _ hg' (xs rfl rfl ?_))
     refine z7 rfl (y6s _ _ _ _ _ _ _ _ _ _ _ _ h5 k5) rfl ⟨⟨trivial, trivial, trivial, trivial, trivial, trivial, trivial⟩, ⟨trivial, trivial, trivial, trivial, trivial, trivial, trivial⟩, trivial⟩ ?_
     refine xb rfl (fun hb => ?_) (fun hb => ?_)
     · exact xr rfl (q7 rfl ⟨⟨rfl, qj (fun e => by subst e; rw [hg] at hg'; cases hg'; exact q03 hb rfl), trivial⟩, z6 rfl⟩)
     · have hb := y03 hb
       refine ya rfl (hJ _ (i + 1) ⟨by omega, zo he hg (hg'.trans (by rw [hb]))⟩ (by omega) ?_)
       repeat' (first | exact trivial | exact rfl | exact Or.inl rfl | exact cwi (by omega) (by omega) (by omega) | refine And.intro ?_ ?_)
   · have h : ¬ i < p.length := by simpa using h
     exact xr rfl (q7 rfl ⟨⟨rfl, yu (by rw [show i = p.length by omega, List.take_length] at he; rw [he, hl, List.take_length]), trivial⟩, z6 rfl⟩)
theorem z3r (x0 : List (List Cell)) (y0 : List (List Cell)) (h0 : WR 9000000000000000000 zl x0) (k0 : WR 9000000000000000000 zl y0) : PC Tryz.prog 138 [.agg [.l x0], .agg [.l y0]] (rB (dE (α := List Cell) [.l x0] [.l y0])) := by
 refine PC.begin Tryz.func138 rfl (by kernel_rfl) ?_
 refine z7 rfl (z63 _ _ h0 k0) rfl ⟨trivial, trivial, trivial⟩ ?_
 refine xb rfl (fun h => ?_) (fun e0 => ?_)
 · exact xr rfl (q7 rfl ⟨⟨rfl, qj (fun e => q03 h (by simp only [List.cons.injEq, Cell.l.injEq] at e ⊢; simp only [e]; try trivial)), trivial⟩, z6 rfl⟩)
 have e0 := y03 e0
 exact xr rfl (q7 rfl ⟨⟨rfl, yu (by simp [e0]), trivial⟩, z6 rfl⟩)
theorem y38 (p q : List (List Cell)) (hp : WR 9000000000000000000 za p) (hq : WR 9000000000000000000 za q) : PC Tryz.prog 69 [.one (.l p), .one (.l q)] (rB (dE p q)) := by
 refine PC.begin Tryz.func69 rfl (by kernel_rfl) ?_
 have hpl := hp.1
 have hql := hq.1
 refine xb rfl (fun h => ?_) (fun h => ?_)
 · exact xr rfl (q7 rfl ⟨⟨rfl, qj (fun e => by subst e; simp at h), trivial⟩, z6 rfl⟩)
 have hl : p.length = q.length := by simpa [Int.ofNat_inj] using h
 refine yd rfl (ι := Nat) (fun i => i ≤ p.length ∧ p.take i = q.take i) (fun i => ⟨[(5, sV (.int .i64 i)), (0, .one (.b (.l p))), (1, .one (.b (.l q)))], []⟩) (fun i => p.length - i) 0 ⟨Nat.zero_le _, rfl⟩ ?_ ?_
 · repeat' (first | exact trivial | exact rfl | exact Or.inl rfl | refine And.intro ?_ ?_)
 · intro i ⟨hi, he⟩ J hJ
   refine xb rfl (fun h => ?_) (fun h => ?_)
   · have h : i < p.length := by simpa using h
     obtain ⟨row, hg⟩ : ∃ row, p[i]? = some row := ⟨_, List.getElem?_eq_getElem h⟩
     obtain ⟨row', hg'⟩ : ∃ row, q[i]? = some row := ⟨_, List.getElem?_eq_getElem (by omega)⟩
     obtain ⟨x0, rfl, h0⟩ := z06 (hp.2 row (List.mem_of_getElem? hg))
     obtain ⟨y0, rfl, k0⟩ := z06 (hq.2 row' (List.mem_of_getElem? hg'))
     refine yc rfl [] (.take 0 [] (.take 1 [] (.take 2 [] (.take 3 [8, 9] (.take 4 [] (.take 5 [] (.take 6 [] (.take 7 [8, 9] (.alt 8 (.take 9 [] .done) .nil))))))))) (by kernel_rfl) ?_
     refine xs rfl (Int.natCast_nonneg _) (y9 rfl _ hg (xs rfl rfl ?_))
     refine xs rfl (Int.natCast_nonneg _) (y9 rfl _ hg' (xs rfl rfl ?_))
     refine z7 rfl (z3r _ _ h0 k0) rfl ⟨⟨trivial, trivial⟩, ⟨trivial, trivial⟩, trivial⟩ ?_
     refine xb rfl (fun hb => ?_) (fun hb => ?_)
     · exact xr rfl (q7 rfl ⟨⟨rfl, qj (fun e => by subst e; rw [hg] at hg'; cases hg'; exact q03 hb rfl), trivial⟩, z6 rfl⟩)
     · have hb := y03 hb
       refine ya rfl (hJ _ (i + 1) ⟨by omega, zo he hg (hg'.trans (by rw [hb]))⟩ (by omega) ?_)
       repeat' (first | exact trivial | exact rfl | exact Or.inl rfl | exact cwi (by omega) (by omega) (by omega) | refine And.intro ?_ ?_)
   · have h : ¬ i < p.length := by simpa using h
     exact xr rfl (q7 rfl ⟨⟨rfl, yu (by rw [show i = p.length by omega, List.take_length] at he; rw [he, hl, List.take_length]), trivial⟩, z6 rfl⟩)
theorem q7u (x0 : Int) (x1 : Int) (x2 : Int) (x3 : Int) (x4 : List (List Cell)) (x5 : List (List Cell)) (y0 : Int) (y1 : Int) (y2 : Int) (y3 : Int) (y4 : List (List Cell)) (y5 : List (List Cell)) (h4 : WR 9000000000000000000 (.i .i64 .nil) x4) (h5 : WR 9000000000000000000 zm x5) (k4 : WR 9000000000000000000 (.i .i64 .nil) y4) (k5 : WR 9000000000000000000 zm y5) : PC Tryz.prog 281 [.agg [.s (.int .i64 x0), .s (.int .i64 x1), .s (.int .i64 x2), .s (.int .i64 x3), .l x4, .l x5], .agg [.s (.int .i64 y0), .s (.int .i64 y1), .s (.int .i64 y2), .s (.int .i64 y3), .l y4, .l y5]] (rB (dE (α := List Cell) [.s (.int .i64 x0), .s (.int .i64 x1), .s (.int .i64 x2), .s (.int .i64 x3), .l x4, .l x5] [.s (.int .i64 y0), .s (.int .i64 y1), .s (.int .i64 y2), .s (.int .i64 y3), .l y4, .l y5])) := by
 refine PC.begin Tryz.func281 rfl (by kernel_rfl) ?_
 refine xb rfl (fun h => ?_) (fun e0 => ?_)
 · exact xr rfl (q7 rfl ⟨⟨rfl, qj (fun e => by simp only [List.cons.injEq, Cell.s.injEq, Value.int.injEq, Value.bool.injEq, Value.string.injEq] at e; simp [e] at h), trivial⟩, z6 rfl⟩)
 have e0 : x0 = y0 := by simpa using e0
 refine xb rfl (fun h => ?_) (fun e1 => ?_)
 · exact xr rfl (q7 rfl ⟨⟨rfl, qj (fun e => by simp only [List.cons.injEq, Cell.s.injEq, Value.int.injEq, Value.bool.injEq, Value.string.injEq] at e; simp [e] at h), trivial⟩, z6 rfl⟩)
 have e1 : x1 = y1 := by simpa using e1
 refine xb rfl (fun h => ?_) (fun e2 => ?_)
 · exact xr rfl (q7 rfl ⟨⟨rfl, qj (fun e => by simp only [List.cons.injEq, Cell.s.injEq, Value.int.injEq, Value.bool.injEq, Value.string.injEq] at e; simp [e] at h), trivial⟩, z6 rfl⟩)
 have e2 : x2 = y2 := by simpa using e2
 refine xb rfl (fun h => ?_) (fun e3 => ?_)
 · exact xr rfl (q7 rfl ⟨⟨rfl, qj (fun e => by simp only [List.cons.injEq, Cell.s.injEq, Value.int.injEq, Value.bool.injEq, Value.string.injEq] at e; simp [e] at h), trivial⟩, z6 rfl⟩)
 have e3 : x3 = y3 := by simpa using e3
 refine z7 rfl (y1l _ _ h4 k4) rfl ⟨trivial, trivial, trivial⟩ ?_
 refine xb rfl (fun h => ?_) (fun e4 => ?_)
 · exact xr rfl (q7 rfl ⟨⟨rfl, qj (fun e => q03 h (by simp only [List.cons.injEq, Cell.l.injEq] at e ⊢; simp only [e]; try trivial)), trivial⟩, z6 rfl⟩)
 have e4 := y03 e4
 refine z7 rfl (q3e _ _ h5 k5) rfl ⟨trivial, trivial, trivial⟩ ?_
 refine xb rfl (fun h => ?_) (fun e5 => ?_)
 · exact xr rfl (q7 rfl ⟨⟨rfl, qj (fun e => q03 h (by simp only [List.cons.injEq, Cell.l.injEq] at e ⊢; simp only [e]; try trivial)), trivial⟩, z6 rfl⟩)
 have e5 := y03 e5
 exact xr rfl (q7 rfl ⟨⟨rfl, yu (by simp [e0, e1, e2, e3, e4, e5]), trivial⟩, z6 rfl⟩)
theorem q6s (p q : List (List Cell)) (hp : WR 9000000000000000000 zp p) (hq : WR 9000000000000000000 zp q) : PC Tryz.prog 218 [.one (.l p), .one (.l q)] (rB (dE p q)) := by
 refine PC.begin Tryz.func218 rfl (by kernel_rfl) ?_
 have hpl := hp.1
 have hql := hq.1
 refine xb rfl (fun h => ?_) (fun h => ?_)
 · exact xr rfl (q7 rfl ⟨⟨rfl, qj (fun e => by subst e; simp at h), trivial⟩, z6 rfl⟩)
 have hl : p.length = q.length := by simpa [Int.ofNat_inj] using h
 refine yd rfl (ι := Nat) (fun i => i ≤ p.length ∧ p.take i = q.take i) (fun i => ⟨[(5, sV (.int .i64 i)), (0, .one (.b (.l p))), (1, .one (.b (.l q)))], []⟩) (fun i => p.length - i) 0 ⟨Nat.zero_le _, rfl⟩ ?_ ?_
 · repeat' (first | exact trivial | exact rfl | exact Or.inl rfl | refine And.intro ?_ ?_)
 · intro i ⟨hi, he⟩ J hJ
   refine xb rfl (fun h => ?_) (fun h => ?_)
   · have h : i < p.length := by simpa using h
     obtain ⟨row, hg⟩ : ∃ row, p[i]? = some row := ⟨_, List.getElem?_eq_getElem h⟩
     obtain ⟨row', hg'⟩ : ∃ row, q[i]? = some row := ⟨_, List.getElem?_eq_getElem (by omega)⟩
     obtain ⟨x0, x1, x2, x3, x4, x5, rfl, h4, h5⟩ := y25 (hp.2 row (List.mem_of_getElem? hg))
     obtain ⟨y0, y1, y2, y3, y4, y5, rfl, k4, k5⟩ := y25 (hq.2 row' (List.mem_of_getElem? hg'))
     refine yc rfl [] (.take 0 [] (.take 1 [] (.take 2 [] (.take 3 [8, 9] (.take 4 [] (.take 5 [] (.take 6 [] (.take 7 [8, 9] (.alt 8 (.take 9 [] .done) .nil))))))))) (by kernel_rfl) ?_
     refine xs rfl (Int.natCast_nonneg _) (y9 rfl _ hg (xs rfl rfl ?_))
     refine xs rfl (Int.natCast_nonneg _) (y9 rfl _ hg' (xs rfl rfl ?_))
     refine z7 rfl (q7u _ _ _ _ _ _ _ _ _ _ _ _ h4 h5 k4 k5) rfl ⟨⟨trivial, trivial, trivial, trivial, trivial, trivial, trivial⟩, ⟨trivial, trivial, trivial, trivial, trivial, trivial, trivial⟩, trivial⟩ ?_
     refine xb rfl (fun hb => ?_) (fun hb => ?_)
     · exact xr rfl (q7 rfl ⟨⟨rfl, qj (fun e => by subst e; rw [hg] at hg'; cases hg'; exact q03 hb rfl), trivial⟩, z6 rfl⟩)
     · have hb := y03 hb
       refine ya rfl (hJ _ (i + 1) ⟨by omega, zo he hg (hg'.trans (by rw [hb]))⟩ (by omega) ?_)
       repeat' (first | exact trivial | exact rfl | exact Or.inl rfl | exact cwi (by omega) (by omega) (by omega) | refine And.intro ?_ ?_)
   · have h : ¬ i < p.length := by simpa using h
     exact xr rfl (q7 rfl ⟨⟨rfl, yu (by rw [show i = p.length by omega, List.take_length] at he; rw [he, hl, List.take_length]), trivial⟩, z6 rfl⟩)
theorem y62 (x0 : Int) (x1 : Int) (x2 : Int) (x3 : Int) (x4 : Int) (y0 : Int) (y1 : Int) (y2 : Int) (y3 : Int) (y4 : Int)   : PC Tryz.prog 282 [.agg [.s (.int .i64 x0), .s (.int .i64 x1), .s (.int .i64 x2), .s (.int .i64 x3), .s (.int .i64 x4)], .agg [.s (.int .i64 y0), .s (.int .i64 y1), .s (.int .i64 y2), .s (.int .i64 y3), .s (.int .i64 y4)]] (rB (dE (α := List Cell) [.s (.int .i64 x0), .s (.int .i64 x1), .s (.int .i64 x2), .s (.int .i64 x3), .s (.int .i64 x4)] [.s (.int .i64 y0), .s (.int .i64 y1), .s (.int .i64 y2), .s (.int .i64 y3), .s (.int .i64 y4)])) := by
 refine PC.begin Tryz.func282 rfl (by kernel_rfl) ?_
 refine xb rfl (fun h => ?_) (fun e0 => ?_)
 · exact xr rfl (q7 rfl ⟨⟨rfl, qj (fun e => by simp only [List.cons.injEq, Cell.s.injEq, Value.int.injEq, Value.bool.injEq, Value.string.injEq] at e; simp [e] at h), trivial⟩, z6 rfl⟩)
 have e0 : x0 = y0 := by simpa using e0
 refine xb rfl (fun h => ?_) (fun e1 => ?_)
 · exact xr rfl (q7 rfl ⟨⟨rfl, qj (fun e => by simp only [List.cons.injEq, Cell.s.injEq, Value.int.injEq, Value.bool.injEq, Value.string.injEq] at e; simp [e] at h), trivial⟩, z6 rfl⟩)
 have e1 : x1 = y1 := by simpa using e1
 refine xb rfl (fun h => ?_) (fun e2 => ?_)
 · exact xr rfl (q7 rfl ⟨⟨rfl, qj (fun e => by simp only [List.cons.injEq, Cell.s.injEq, Value.int.injEq, Value.bool.injEq, Value.string.injEq] at e; simp [e] at h), trivial⟩, z6 rfl⟩)
 have e2 : x2 = y2 := by simpa using e2
 refine xb rfl (fun h => ?_) (fun e3 => ?_)
 · exact xr rfl (q7 rfl ⟨⟨rfl, qj (fun e => by simp only [List.cons.injEq, Cell.s.injEq, Value.int.injEq, Value.bool.injEq, Value.string.injEq] at e; simp [e] at h), trivial⟩, z6 rfl⟩)
 have e3 : x3 = y3 := by simpa using e3
 refine xb rfl (fun h => ?_) (fun e4 => ?_)
 · exact xr rfl (q7 rfl ⟨⟨rfl, qj (fun e => by simp only [List.cons.injEq, Cell.s.injEq, Value.int.injEq, Value.bool.injEq, Value.string.injEq] at e; simp [e] at h), trivial⟩, z6 rfl⟩)
 have e4 : x4 = y4 := by simpa using e4
 exact xr rfl (q7 rfl ⟨⟨rfl, yu (by simp [e0, e1, e2, e3, e4]), trivial⟩, z6 rfl⟩)
theorem y52 (p q : List (List Cell)) (hp : WR 9000000000000000000 zn p) (hq : WR 9000000000000000000 zn q) : PC Tryz.prog 219 [.one (.l p), .one (.l q)] (rB (dE p q)) := by
 refine PC.begin Tryz.func219 rfl (by kernel_rfl) ?_
 have hpl := hp.1
 have hql := hq.1
 refine xb rfl (fun h => ?_) (fun h => ?_)
 · exact xr rfl (q7 rfl ⟨⟨rfl, qj (fun e => by subst e; simp at h), trivial⟩, z6 rfl⟩)
 have hl : p.length = q.length := by simpa [Int.ofNat_inj] using h
 refine yd rfl (ι := Nat) (fun i => i ≤ p.length ∧ p.take i = q.take i) (fun i => ⟨[(5, sV (.int .i64 i)), (0, .one (.b (.l p))), (1, .one (.b (.l q)))], []⟩) (fun i => p.length - i) 0 ⟨Nat.zero_le _, rfl⟩ ?_ ?_
 · repeat' (first | exact trivial | exact rfl | exact Or.inl rfl | refine And.intro ?_ ?_)
 · intro i ⟨hi, he⟩ J hJ
   refine xb rfl (fun h => ?_) (fun h => ?_)
   · have h : i < p.length := by simpa using h
     obtain ⟨row, hg⟩ : ∃ row, p[i]? = some row := ⟨_, List.getElem?_eq_getElem h⟩
     obtain ⟨row', hg'⟩ : ∃ row, q[i]? = some row := ⟨_, List.getElem?_eq_getElem (by omega)⟩
     obtain ⟨x0, x1, x2, x3, x4, rfl⟩ := z0u (hp.2 row (List.mem_of_getElem? hg))
     obtain ⟨y0, y1, y2, y3, y4, rfl⟩ := z0u (hq.2 row' (List.mem_of_getElem? hg'))
     refine yc rfl [] (.take 0 [] (.take 1 [] (.take 2 [] (.take 3 [8, 9] (.take 4 [] (.take 5 [] (.take 6 [] (.take 7 [8, 9] (.alt 8 (.take 9 [] .done) .nil))))))))) (by kernel_rfl) ?_
     refine xs rfl (Int.natCast_nonneg _) (y9 rfl _ hg (xs rfl rfl ?_))
     refine xs rfl (Int.natCast_nonneg _) (y9 rfl _ hg' (xs rfl rfl ?_))
     refine z7 rfl (y62 _ _ _ _ _ _ _ _ _ _) rfl ⟨⟨trivial, trivial, trivial, trivial, trivial, trivial⟩, ⟨trivial, trivial, trivial, trivial, trivial, trivial⟩, trivial⟩ ?_
     refine xb rfl (fun hb => ?_) (fun hb => ?_)
     · exact xr rfl (q7 rfl ⟨⟨rfl, qj (fun e => by subst e; rw [hg] at hg'; cases hg'; exact q03 hb rfl), trivial⟩, z6 rfl⟩)
     · have hb := y03 hb
       refine ya rfl (hJ _ (i + 1) ⟨by omega, zo he hg (hg'.trans (by rw [hb]))⟩ (by omega) ?_)
       repeat' (first | exact trivial | exact rfl | exact Or.inl rfl | exact cwi (by omega) (by omega) (by omega) | refine And.intro ?_ ?_)
   · have h : ¬ i < p.length := by simpa using h
     exact xr rfl (q7 rfl ⟨⟨rfl, yu (by rw [show i = p.length by omega, List.take_length] at he; rw [he, hl, List.take_length]), trivial⟩, z6 rfl⟩)
theorem q52 (x0 : Int) (x1 : List (List Cell)) (x2 : List (List Cell)) (y0 : Int) (y1 : List (List Cell)) (y2 : List (List Cell)) (h1 : WR 9000000000000000000 zp x1) (h2 : WR 9000000000000000000 zn x2) (k1 : WR 9000000000000000000 zp y1) (k2 : WR 9000000000000000000 zn y2) : PC Tryz.prog 139 [.agg [.s (.int .i64 x0), .l x1, .l x2], .agg [.s (.int .i64 y0), .l y1, .l y2]] (rB (dE (α := List Cell) [.s (.int .i64 x0), .l x1, .l x2] [.s (.int .i64 y0), .l y1, .l y2])) := by
 refine PC.begin Tryz.func139 rfl (by kernel_rfl) ?_
 refine xb rfl (fun h => ?_) (fun e0 => ?_)
 · exact xr rfl (q7 rfl ⟨⟨rfl, qj (fun e => by simp only [List.cons.injEq, Cell.s.injEq, Value.int.injEq, Value.bool.injEq, Value.string.injEq] at e; simp [e] at h), trivial⟩, z6 rfl⟩)
 have e0 : x0 = y0 := by simpa using e0
 refine z7 rfl (q6s _ _ h1 k1) rfl ⟨trivial, trivial, trivial⟩ ?_
 refine xb rfl (fun h => ?_) (fun e1 => ?_)
 · exact xr rfl (q7 rfl ⟨⟨rfl, qj (fun e => q03 h (by simp only [List.cons.injEq, Cell.l.injEq] at e ⊢; simp only [e]; try trivial)), trivial⟩, z6 rfl⟩)
 have e1 := y03 e1
 refine z7 rfl (y52 _ _ h2 k2) rfl ⟨trivial, trivial, trivial⟩ ?_
 refine xb rfl (fun h => ?_) (fun e2 => ?_)
 · exact xr rfl (q7 rfl ⟨⟨rfl, qj (fun e => q03 h (by simp only [List.cons.injEq, Cell.l.injEq] at e ⊢; simp only [e]; try trivial)), trivial⟩, z6 rfl⟩)
 have e2 := y03 e2
 exact xr rfl (q7 rfl ⟨⟨rfl, yu (by simp [e0, e1, e2]), trivial⟩, z6 rfl⟩)
theorem q4f (p q : List (List Cell)) (hp : WR 9000000000000000000 qd p) (hq : WR 9000000000000000000 qd q) : PC Tryz.prog 70 [.one (.l p), .one (.l q)] (rB (dE p q)) := by
 refine PC.begin Tryz.func70 rfl (by kernel_rfl) ?_
 have hpl := hp.1
 have hql := hq.1
 refine xb rfl (fun h => ?_) (fun h => ?_)
 · exact xr rfl (q7 rfl ⟨⟨rfl, qj (fun e => by subst e; simp at h), trivial⟩, z6 rfl⟩)
 have hl : p.length = q.length := by simpa [Int.ofNat_inj] using h
 refine yd rfl (ι := Nat) (fun i => i ≤ p.length ∧ p.take i = q.take i) (fun i => ⟨[(5, sV (.int .i64 i)), (0, .one (.b (.l p))), (1, .one (.b (.l q)))], []⟩) (fun i => p.length - i) 0 ⟨Nat.zero_le _, rfl⟩ ?_ ?_
 · repeat' (first | exact trivial | exact rfl | exact Or.inl rfl | refine And.intro ?_ ?_)
 · intro i ⟨hi, he⟩ J hJ
   refine xb rfl (fun h => ?_) (fun h => ?_)
   · have h : i < p.length := by simpa using h
     obtain ⟨row, hg⟩ : ∃ row, p[i]? = some row := ⟨_, List.getElem?_eq_getElem h⟩
     obtain ⟨row', hg'⟩ : ∃ row, q[i]? = some row := ⟨_, List.getElem?_eq_getElem (by omega)⟩
     obtain ⟨x0, x1, x2, rfl, h1, h2⟩ := y0j (hp.2 row (List.mem_of_getElem? hg))
     obtain ⟨y0, y1, y2, rfl, k1, k2⟩ := y0j (hq.2 row' (List.mem_of_getElem? hg'))
     refine yc rfl [] (.take 0 [] (.take 1 [] (.take 2 [] (.take 3 [8, 9] (.take 4 [] (.take 5 [] (.take 6 [] (.take 7 [8, 9] (.alt 8 (.take 9 [] .done) .nil))))))))) (by kernel_rfl) ?_
     refine xs rfl (Int.natCast_nonneg _) (y9 rfl _ hg (xs rfl rfl ?_))
     refine xs rfl (Int.natCast_nonneg _) (y9 rfl _ hg' (xs rfl rfl ?_))
     refine z7 rfl (q52 _ _ _ _ _ _ h1 h2 k1 k2) rfl ⟨⟨trivial, trivial, trivial, trivial⟩, ⟨trivial, trivial, trivial, trivial⟩, trivial⟩ ?_
     refine xb rfl (fun hb => ?_) (fun hb => ?_)
     · exact xr rfl (q7 rfl ⟨⟨rfl, qj (fun e => by subst e; rw [hg] at hg'; cases hg'; exact q03 hb rfl), trivial⟩, z6 rfl⟩)
     · have hb := y03 hb
       refine ya rfl (hJ _ (i + 1) ⟨by omega, zo he hg (hg'.trans (by rw [hb]))⟩ (by omega) ?_)
       repeat' (first | exact trivial | exact rfl | exact Or.inl rfl | exact cwi (by omega) (by omega) (by omega) | refine And.intro ?_ ?_)
   · have h : ¬ i < p.length := by simpa using h
     exact xr rfl (q7 rfl ⟨⟨rfl, yu (by rw [show i = p.length by omega, List.take_length] at he; rw [he, hl, List.take_length]), trivial⟩, z6 rfl⟩)
theorem z4g (x0 : Int) (x1 : Int) (x2 : Int) (x3 : Int) (x4 : Int) (x5 : Int) (x6 : Int) (x7 : Int) (x8 : Int) (y0 : Int) (y1 : Int) (y2 : Int) (y3 : Int) (y4 : Int) (y5 : Int) (y6 : Int) (y7 : Int) (y8 : Int)   : PC Tryz.prog 140 [.agg [.s (.int .i64 x0), .s (.int .i64 x1), .s (.int .i64 x2), .s (.int .i64 x3), .s (.int .i64 x4), .s (.int .i64 x5), .s (.int .i64 x6), .s (.int .i64 x7), .s (.int .i64 x8)], .agg [.s (.int .i64 y0), .s (.int .i64 y1), .s (.int .i64 y2), .s (.int .i64 y3), .s (.int .i64 y4), .s (.int .i64 y5), .s (.int .i64 y6), .s (.int .i64 y7), .s (.int .i64 y8)]] (rB (dE (α := List Cell) [.s (.int .i64 x0), .s (.int .i64 x1), .s (.int .i64 x2), .s (.int .i64 x3), .s (.int .i64 x4), .s (.int .i64 x5), .s (.int .i64 x6), .s (.int .i64 x7), .s (.int .i64 x8)] [.s (.int .i64 y0), .s (.int .i64 y1), .s (.int .i64 y2), .s (.int .i64 y3), .s (.int .i64 y4), .s (.int .i64 y5), .s (.int .i64 y6), .s (.int .i64 y7), .s (.int .i64 y8)])) := by
 refine PC.begin Tryz.func140 rfl (by kernel_rfl) ?_
 refine xb rfl (fun h => ?_) (fun e0 => ?_)
 · exact xr rfl (q7 rfl ⟨⟨rfl, qj (fun e => by simp only [List.cons.injEq, Cell.s.injEq, Value.int.injEq, Value.bool.injEq, Value.string.injEq] at e; simp [e] at h), trivial⟩, z6 rfl⟩)
 have e0 : x0 = y0 := by simpa using e0
 refine xb rfl (fun h => ?_) (fun e1 => ?_)
 · exact xr rfl (q7 rfl ⟨⟨rfl, qj (fun e => by simp only [List.cons.injEq, Cell.s.injEq, Value.int.injEq, Value.bool.injEq, Value.string.injEq] at e; simp [e] at h), trivial⟩, z6 rfl⟩)
 have e1 : x1 = y1 := by simpa using e1
 refine xb rfl (fun h => ?_) (fun e2 => ?_)
 · exact xr rfl (q7 rfl ⟨⟨rfl, qj (fun e => by simp only [List.cons.injEq, Cell.s.injEq, Value.int.injEq, Value.bool.injEq, Value.string.injEq] at e; simp [e] at h), trivial⟩, z6 rfl⟩)
 have e2 : x2 = y2 := by simpa using e2
 refine xb rfl (fun h => ?_) (fun e3 => ?_)
 · exact xr rfl (q7 rfl ⟨⟨rfl, qj (fun e => by simp only [List.cons.injEq, Cell.s.injEq, Value.int.injEq, Value.bool.injEq, Value.string.injEq] at e; simp [e] at h), trivial⟩, z6 rfl⟩)
 have e3 : x3 = y3 := by simpa using e3
 refine xb rfl (fun h => ?_) (fun e4 => ?_)
 · exact xr rfl (q7 rfl ⟨⟨rfl, qj (fun e => by simp only [List.cons.injEq, Cell.s.injEq, Value.int.injEq, Value.bool.injEq, Value.string.injEq] at e; simp [e] at h), trivial⟩, z6 rfl⟩)
 have e4 : x4 = y4 := by simpa using e4
 refine xb rfl (fun h => ?_) (fun e5 => ?_)
 · exact xr rfl (q7 rfl ⟨⟨rfl, qj (fun e => by simp only [List.cons.injEq, Cell.s.injEq, Value.int.injEq, Value.bool.injEq, Value.string.injEq] at e; simp [e] at h), trivial⟩, z6 rfl⟩)
 have e5 : x5 = y5 := by simpa using e5
 refine xb rfl (fun h => ?_) (fun e6 => ?_)
 · exact xr rfl (q7 rfl ⟨⟨rfl, qj (fun e => by simp only [List.cons.injEq, Cell.s.injEq, Value.int.injEq, Value.bool.injEq, Value.string.injEq] at e; simp [e] at h), trivial⟩, z6 rfl⟩)
 have e6 : x6 = y6 := by simpa using e6
 refine z7 rfl (q2s _ _ _ _) rfl ⟨⟨trivial, trivial, trivial⟩, ⟨trivial, trivial, trivial⟩, trivial⟩ ?_
 refine xb rfl (fun h => ?_) (fun e7 => ?_)
 · exact xr rfl (q7 rfl ⟨⟨rfl, qj (fun e => q03 h (by simp only [List.cons.injEq, Cell.l.injEq] at e ⊢; simp only [e]; try trivial)), trivial⟩, z6 rfl⟩)
 have e7 := y03 e7
 simp only [List.cons.injEq, Cell.s.injEq, Cell.l.injEq, Value.int.injEq, Value.bool.injEq, and_true, true_and] at e7
 exact xr rfl (q7 rfl ⟨⟨rfl, yu (by simp [e0, e1, e2, e3, e4, e5, e6, e7]), trivial⟩, z6 rfl⟩)
theorem y3s (p q : List (List Cell)) (hp : WR 9000000000000000000 zg p) (hq : WR 9000000000000000000 zg q) : PC Tryz.prog 71 [.one (.l p), .one (.l q)] (rB (dE p q)) := by
 refine PC.begin Tryz.func71 rfl (by kernel_rfl) ?_
 have hpl := hp.1
 have hql := hq.1
 refine xb rfl (fun h => ?_) (fun h => ?_)
 · exact xr rfl (q7 rfl ⟨⟨rfl, qj (fun e => by subst e; simp at h), trivial⟩, z6 rfl⟩)
 have hl : p.length = q.length := by simpa [Int.ofNat_inj] using h
 refine yd rfl (ι := Nat) (fun i => i ≤ p.length ∧ p.take i = q.take i) (fun i => ⟨[(5, sV (.int .i64 i)), (0, .one (.b (.l p))), (1, .one (.b (.l q)))], []⟩) (fun i => p.length - i) 0 ⟨Nat.zero_le _, rfl⟩ ?_ ?_
 · repeat' (first | exact trivial | exact rfl | exact Or.inl rfl | refine And.intro ?_ ?_)
 · intro i ⟨hi, he⟩ J hJ
   refine xb rfl (fun h => ?_) (fun h => ?_)
   · have h : i < p.length := by simpa using h
     obtain ⟨row, hg⟩ : ∃ row, p[i]? = some row := ⟨_, List.getElem?_eq_getElem h⟩
     obtain ⟨row', hg'⟩ : ∃ row, q[i]? = some row := ⟨_, List.getElem?_eq_getElem (by omega)⟩
     obtain ⟨x0, x1, x2, x3, x4, x5, x6, x7, x8, rfl⟩ := q0a (hp.2 row (List.mem_of_getElem? hg))
     obtain ⟨y0, y1, y2, y3, y4, y5, y6, y7, y8, rfl⟩ := q0a (hq.2 row' (List.mem_of_getElem? hg'))
     refine yc rfl [] (.take 0 [] (.take 1 [] (.take 2 [] (.take 3 [8, 9] (.take 4 [] (.take 5 [] (.take 6 [] (.take 7 [8, 9] (.alt 8 (.take 9 [] .done) .nil))))))))) (by kernel_rfl) ?_
     refine xs rfl (Int.natCast_nonneg _) (y9 rfl _ hg (xs rfl rfl ?_))
     refine xs rfl (Int.natCast_nonneg _) (y9 rfl _ hg' (xs rfl rfl ?_))
     refine z7 rfl (z4g _ _ _ _ _ _ _ _ _ _ _ _ _ _ _ _ _ _) rfl ⟨⟨trivial, trivial, trivial, trivial, trivial, trivial, trivial, trivial, trivial, trivial⟩, ⟨trivial, trivial, trivial, trivial, trivial, trivial, trivial, trivial, trivial, trivial⟩, trivial⟩ ?_
     refine xb rfl (fun hb => ?_) (fun hb => ?_)
     · exact xr rfl (q7 rfl ⟨⟨rfl, qj (fun e => by subst e; rw [hg] at hg'; cases hg'; exact q03 hb rfl), trivial⟩, z6 rfl⟩)
     · have hb := y03 hb
       refine ya rfl (hJ _ (i + 1) ⟨by omega, zo he hg (hg'.trans (by rw [hb]))⟩ (by omega) ?_)
       repeat' (first | exact trivial | exact rfl | exact Or.inl rfl | exact cwi (by omega) (by omega) (by omega) | refine And.intro ?_ ?_)
   · have h : ¬ i < p.length := by simpa using h
     exact xr rfl (q7 rfl ⟨⟨rfl, yu (by rw [show i = p.length by omega, List.take_length] at he; rw [he, hl, List.take_length]), trivial⟩, z6 rfl⟩)
theorem y4f (x0 : List (List Cell)) (x1 : List (List Cell)) (x2 : List (List Cell)) (x3 : List (List Cell)) (x4 : List (List Cell)) (y0 : List (List Cell)) (y1 : List (List Cell)) (y2 : List (List Cell)) (y3 : List (List Cell)) (y4 : List (List Cell)) (h0 : WR 9000000000000000000 z8 x0) (h1 : WR 9000000000000000000 qe x1) (h2 : WR 9000000000000000000 za x2) (h3 : WR 9000000000000000000 qd x3) (h4 : WR 9000000000000000000 zg x4) (k0 : WR 9000000000000000000 z8 y0) (k1 : WR 9000000000000000000 qe y1) (k2 : WR 9000000000000000000 za y2) (k3 : WR 9000000000000000000 qd y3) (k4 : WR 9000000000000000000 zg y4) : PC Tryz.prog 17 [.agg [.l x0, .l x1, .l x2, .l x3, .l x4], .agg [.l y0, .l y1, .l y2, .l y3, .l y4]] (rB (dE (α := List Cell) [.l x0, .l x1, .l x2, .l x3, .l x4] [.l y0, .l y1, .l y2, .l y3, .l y4])) := by
 refine PC.begin Tryz.func17 rfl (by kernel_rfl) ?_
 refine z7 rfl (z1i _ _ h0 k0) rfl ⟨trivial, trivial, trivial⟩ ?_
 refine xb rfl (fun h => ?_) (fun e0 => ?_)
 · exact xr rfl (q7 rfl ⟨⟨rfl, qj (fun e => q03 h (by simp only [List.cons.injEq, Cell.l.injEq] at e ⊢; simp only [e]; try trivial)), trivial⟩, z6 rfl⟩)
 have e0 := y03 e0
 refine z7 rfl (z53 _ _ h1 k1) rfl ⟨trivial, trivial, trivial⟩ ?_
 refine xb rfl (fun h => ?_) (fun e1 => ?_)
 · exact xr rfl (q7 rfl ⟨⟨rfl, qj (fun e => q03 h (by simp only [List.cons.injEq, Cell.l.injEq] at e ⊢; simp only [e]; try trivial)), trivial⟩, z6 rfl⟩)
 have e1 := y03 e1
 refine z7 rfl (y38 _ _ h2 k2) rfl ⟨trivial, trivial, trivial⟩ ?_
 refine xb rfl (fun h => ?_) (fun e2 => ?_)
 · exact xr rfl (q7 rfl ⟨⟨rfl, qj (fun e => q03 h (by simp only [List.cons.injEq, Cell.l.injEq] at e ⊢; simp only [e]; try trivial)), trivial⟩, z6 rfl⟩)
 have e2 := y03 e2
 refine z7 rfl (q4f _ _ h3 k3) rfl ⟨trivial, trivial, trivial⟩ ?_
 refine xb rfl (fun h => ?_) (fun e3 => ?_)
 · exact xr rfl (q7 rfl ⟨⟨rfl, qj (fun e => q03 h (by simp only [List.cons.injEq, Cell.l.injEq] at e ⊢; simp only [e]; try trivial)), trivial⟩, z6 rfl⟩)
 have e3 := y03 e3
 refine z7 rfl (y3s _ _ h4 k4) rfl ⟨trivial, trivial, trivial⟩ ?_
 refine xb rfl (fun h => ?_) (fun e4 => ?_)
 · exact xr rfl (q7 rfl ⟨⟨rfl, qj (fun e => q03 h (by simp only [List.cons.injEq, Cell.l.injEq] at e ⊢; simp only [e]; try trivial)), trivial⟩, z6 rfl⟩)
 have e4 := y03 e4
 exact xr rfl (q7 rfl ⟨⟨rfl, yu (by simp [e0, e1, e2, e3, e4]), trivial⟩, z6 rfl⟩)
end Go.Proofs.YthljegacamgnnaaGreat
end
section
namespace Go.Proofs.YthljegacamgnnaaGreat
open Go Go.Sx
set_option maxRecDepth 20000
theorem q7h (rr : List (List Cell)) (b : Int) (hw : WR 9223372036854775807 qx rr) (p0 : 0 ≤ b) (p1 : b ≤ 1048576) : PC Tryz.prog 174 [.one (.l rr), .one (.s (.int .i64 b))] (rI (szn b (yl qx rr))) := by
 refine PC.begin Tryz.func174 rfl (by kernel_rfl) ?_
 have hlen := hw.1
 have w1 : IntKind.i64.wrap (b - rr.length) = b - rr.length := wrap_i64 (by omega) (by omega)
 rw [z0n (fun row hr => by obtain ⟨x0, x1, x2, x3, rfl⟩ := z25 hr; rfl) hw]
 refine xb rfl (fun h => ?_) (fun h => ?_)
 · simp only [w1, decide_eq_true_eq] at h
   exact xr rfl (q7 rfl ⟨⟨rfl, (by show Value.int _ _ = Value.int _ _; rw [szn, if_pos h]), trivial⟩, z6 rfl⟩)
 · simp only [w1, decide_eq_false_iff_not] at h
   exact xr rfl (q7 rfl ⟨⟨rfl, (by show Value.int .i64 (IntKind.i64.wrap (b - rr.length)) = Value.int _ _; rw [szn, if_neg h, w1]), trivial⟩, z6 rfl⟩)
theorem z47 (x0 : Int) (x1 : List (List Cell)) (b : Int) (h1 : WR 9223372036854775807 qx x1) (hb0 : 0 ≤ b) (hb1 : b ≤ 1048576) : PC Tryz.prog 109 [.agg [.s (.int .i64 x0), .l x1], .one (.s (.int .i64 b))] (rI (szn b (tot z8 [.s (.int .i64 x0), .l x1]))) := by
 refine PC.begin Tryz.func109 rfl (by kernel_rfl) ?_
 have ht : tot z8 [.s (.int .i64 x0), .l x1] = yl qx x1 := by simp only [tot, yl] <;> omega
 refine z7 rfl (q7h x1 b h1 hb0 hb1) rfl ⟨trivial, trivial, trivial⟩ ?_
 refine xb rfl (fun h => ?_) (fun e0 => ?_)
 · have h : szn b (yl qx x1) < 0 := by simpa using h
   exact xr rfl (q7 rfl ⟨⟨rfl, (by show Value.int _ _ = Value.int _ _; congr 1; rw [ht]; unfold szn at *; split at h <;> rw [if_pos] <;> omega), trivial⟩, z6 rfl⟩)
 have e0 : 0 ≤ szn b (yl qx x1) := by simpa using e0
 exact xr rfl (q7 rfl ⟨⟨rfl, (by show Value.int _ _ = Value.int _ _; rw [ht]), trivial⟩, z6 rfl⟩)
theorem y1j (rr : List (List Cell)) (b : Int) (hw : WR 9223372036854775807 z8 rr) (p0 : 0 ≤ b) (p1 : b ≤ 1048576) : PC Tryz.prog 50 [.one (.l rr), .one (.s (.int .i64 b))] (rI (szn b (yl z8 rr))) := by
 refine PC.begin Tryz.func50 rfl (by kernel_rfl) ?_
 have hlen := hw.1
 have w1 : IntKind.i64.wrap (b - rr.length) = b - rr.length := wrap_i64 (by omega) (by omega)
 refine xb rfl (fun h => ?_) (fun h => ?_)
 · simp only [w1, decide_eq_true_eq] at h
   exact xr rfl (q7 rfl ⟨⟨rfl, (by show Value.int _ _ = Value.int _ _; unfold szn yl; rw [if_pos (by omega)]), trivial⟩, z6 rfl⟩)
 simp only [w1, decide_eq_false_iff_not] at h
 have hs : szn b rr.length = b - rr.length := by unfold szn; rw [if_neg h]
 refine yd rfl (ι := Nat) (fun i => i ≤ rr.length ∧ 0 ≤ szn b (rr.length + q00 (tot z8) (rr.take i))) (fun i => ⟨[(5, sV (.int .i64 i)), (1, sV (.int .i64 (szn b (rr.length + q00 (tot z8) (rr.take i))))), (0, .one (.b (.l rr)))], []⟩) (fun i => rr.length - i) 0 ⟨Nat.zero_le _, by simp only [List.take_zero, q00, Nat.add_zero, hs]; omega⟩ ?_ ?_
 · refine ⟨⟨rfl, ?_, rfl, trivial⟩, trivial, rfl⟩
   show Cell.s (.int .i64 (IntKind.i64.wrap (b - rr.length))) = Cell.s (.int .i64 (szn b (rr.length + 0)))
   rw [w1, Nat.add_zero, hs]
 · intro i ⟨hi, hb⟩ J hJ
   refine xb rfl (fun h => ?_) (fun h => ?_)
   · have h : i < rr.length := by simpa using h
     obtain ⟨row, hg⟩ : ∃ row, rr[i]? = some row := ⟨_, List.getElem?_eq_getElem h⟩
     have hc := q0s (f := tot z8) hg
     have hc2 := z0j (tot z8) rr (i + 1)
     obtain ⟨x0, x1, rfl, h1⟩ := y06 (hw.2 row (List.mem_of_getElem? hg))
     refine xs rfl (Int.natCast_nonneg _) (y9 rfl _ hg (xs rfl rfl ?_))
     refine z7 rfl (z47 _ _ _ h1 hb (q0g p1 p0)) rfl ⟨⟨trivial, trivial, trivial⟩, trivial, trivial⟩ ?_
     refine xb rfl (fun hn => ?_) (fun hn => ?_)
     · have hn : szn (szn b (rr.length + q00 (tot z8) (rr.take i))) (tot z8 [.s (.int .i64 x0), .l x1]) < 0 := by simpa using hn
       rw [zi hb] at hn
       exact xr rfl (q7 rfl ⟨⟨rfl, (by show Value.int _ _ = Value.int _ _; congr 1; unfold szn yl at *; split at hn <;> rw [if_pos] <;> omega), trivial⟩, z6 rfl⟩)
     · have hn : ¬ szn (szn b (rr.length + q00 (tot z8) (rr.take i))) (tot z8 [.s (.int .i64 x0), .l x1]) < 0 := by simpa using hn
       have he := zi (n := tot z8 [.s (.int .i64 x0), .l x1]) hb
       rw [he] at hn
       rw [Nat.add_assoc, ← hc] at he hn
       refine ya rfl (hJ _ (i + 1) ⟨by omega, by omega⟩ (by omega) ?_)
       refine ⟨⟨cwi (by omega) (by omega) (by omega), ?_, rfl, trivial⟩, trivial, rfl⟩
       exact congrArg (fun n => Cell.s (.int .i64 n)) he
   · have h : ¬ i < rr.length := by simpa using h
     have : i = rr.length := by omega
     subst this
     exact xr rfl (q7 rfl ⟨⟨rfl, (by show Value.int _ _ = Value.int _ _; rw [List.take_length]; rfl), trivial⟩, z6 rfl⟩)
theorem q46 (rr : List (List Cell)) (b : Int) (hw : WR 9223372036854775807 zc rr) (p0 : 0 ≤ b) (p1 : b ≤ 1048576) : PC Tryz.prog 147 [.one (.l rr), .one (.s (.int .i64 b))] (rI (szn b (yl zc rr))) := by
 refine PC.begin Tryz.func147 rfl (by kernel_rfl) ?_
 have hlen := hw.1
 have w1 : IntKind.i64.wrap (b - rr.length) = b - rr.length := wrap_i64 (by omega) (by omega)
 rw [z0n (fun row hr => by obtain ⟨x0, x1, x2, rfl⟩ := y0a hr; rfl) hw]
 refine xb rfl (fun h => ?_) (fun h => ?_)
 · simp only [w1, decide_eq_true_eq] at h
   exact xr rfl (q7 rfl ⟨⟨rfl, (by show Value.int _ _ = Value.int _ _; rw [szn, if_pos h]), trivial⟩, z6 rfl⟩)
 · simp only [w1, decide_eq_false_iff_not] at h
   exact xr rfl (q7 rfl ⟨⟨rfl, (by show Value.int .i64 (IntKind.i64.wrap (b - rr.length)) = Value.int _ _; rw [szn, if_neg h, w1]), trivial⟩, z6 rfl⟩)
theorem q3k (rr : List (List Cell)) (b : Int) (hw : WR 9223372036854775807 yh rr) (p0 : 0 ≤ b) (p1 : b ≤ 1048576) : PC Tryz.prog 175 [.one (.l rr), .one (.s (.int .i64 b))] (rI (szn b (yl yh rr))) := by
 refine PC.begin Tryz.func175 rfl (by kernel_rfl) ?_
 have hlen := hw.1
 have w1 : IntKind.i64.wrap (b - rr.length) = b - rr.length := wrap_i64 (by omega) (by omega)
 rw [z0n (fun row hr => by obtain ⟨x0, x1, rfl⟩ := z1d hr; rfl) hw]
 refine xb rfl (fun h => ?_) (fun h => ?_)
 · simp only [w1, decide_eq_true_eq] at h
   exact xr rfl (q7 rfl ⟨⟨rfl, (by show Value.int _ _ = Value.int _ _; rw [szn, if_pos h]), trivial⟩, z6 rfl⟩)
 · simp only [w1, decide_eq_false_iff_not] at h
   exact xr rfl (q7 rfl ⟨⟨rfl, (by show Value.int .i64 (IntKind.i64.wrap (b - rr.length)) = Value.int _ _; rw [szn, if_neg h, w1]), trivial⟩, z6 rfl⟩)
theorem z34 (rr : List (List Cell)) (b : Int) (hw : WR 9223372036854775807 (.i .i64 .nil) rr) (p0 : 0 ≤ b) (p1 : b ≤ 1048576) : PC Tryz.prog 176 [.one (.l rr), .one (.s (.int .i64 b))] (rI (szn b (yl (.i .i64 .nil) rr))) := by
 refine PC.begin Tryz.func176 rfl (by kernel_rfl) ?_
 have hlen := hw.1
 have w1 : IntKind.i64.wrap (b - rr.length) = b - rr.length := wrap_i64 (by omega) (by omega)
 rw [z0n (fun row hr => by obtain ⟨x0, _, rfl, hnil⟩ := (hr).zv; obtain rfl := hnil.zx; rfl) hw]
 refine xb rfl (fun h => ?_) (fun h => ?_)
 · simp only [w1, decide_eq_true_eq] at h
   exact xr rfl (q7 rfl ⟨⟨rfl, (by show Value.int _ _ = Value.int _ _; rw [szn, if_pos h]), trivial⟩, z6 rfl⟩)
 · simp only [w1, decide_eq_false_iff_not] at h
   exact xr rfl (q7 rfl ⟨⟨rfl, (by show Value.int .i64 (IntKind.i64.wrap (b - rr.length)) = Value.int _ _; rw [szn, if_neg h, w1]), trivial⟩, z6 rfl⟩)
theorem y6f (x0 : Int) (x1 : List (List Cell)) (x2 : List (List Cell)) (x3 : List (List Cell)) (x4 : List (List Cell)) (x5 : List (List Cell)) (b : Int) (h1 : WR 9223372036854775807 zc x1) (h2 : WR 9223372036854775807 yh x2) (h3 : WR 9223372036854775807 z8 x3) (h4 : WR 9223372036854775807 yh x4) (h5 : WR 9223372036854775807 (.i .i64 .nil) x5) (hb0 : 0 ≤ b) (hb1 : b ≤ 1048576) : PC Tryz.prog 110 [.agg [.s (.int .i64 x0), .l x1, .l x2, .l x3, .l x4, .l x5], .one (.s (.int .i64 b))] (rI (szn b (tot qe [.s (.int .i64 x0), .l x1, .l x2, .l x3, .l x4, .l x5]))) := by
 refine PC.begin Tryz.func110 rfl (by kernel_rfl) ?_
 have ht : tot qe [.s (.int .i64 x0), .l x1, .l x2, .l x3, .l x4, .l x5] = yl zc x1 + yl yh x2 + yl z8 x3 + yl yh x4 + yl (.i .i64 .nil) x5 := by simp only [tot, yl] <;> omega
 refine z7 rfl (q46 x1 b h1 hb0 hb1) rfl ⟨trivial, trivial, trivial⟩ ?_
 refine xb rfl (fun h => ?_) (fun e0 => ?_)
 · have h : szn b (yl zc x1) < 0 := by simpa using h
   exact xr rfl (q7 rfl ⟨⟨rfl, (by show Value.int _ _ = Value.int _ _; congr 1; rw [ht]; unfold szn at *; split at h <;> rw [if_pos] <;> omega), trivial⟩, z6 rfl⟩)
 have e0 : 0 ≤ szn b (yl zc x1) := by simpa using e0
 refine z7 rfl (q3k x2 (szn b (yl zc x1)) h2 e0 (q0g hb1 hb0)) rfl ⟨trivial, trivial, trivial⟩ ?_
 refine xb rfl (fun h => ?_) (fun e1 => ?_)
 · have h : szn (szn b (yl zc x1)) (yl yh x2) < 0 := by simpa using h
   rw [zi e0] at h
   exact xr rfl (q7 rfl ⟨⟨rfl, (by show Value.int _ _ = Value.int _ _; congr 1; rw [ht]; unfold szn at *; split at h <;> rw [if_pos] <;> omega), trivial⟩, z6 rfl⟩)
 have e1 : 0 ≤ szn b (yl zc x1 + yl yh x2) := by rw [← zi e0]; simpa using e1
 rw [zi e0]
 refine z7 rfl (y1j x3 (szn b (yl zc x1 + yl yh x2)) h3 e1 (q0g hb1 hb0)) rfl ⟨trivial, trivial, trivial⟩ ?_
 refine xb rfl (fun h => ?_) (fun e2 => ?_)
 · have h : szn (szn b (yl zc x1 + yl yh x2)) (yl z8 x3) < 0 := by simpa using h
   rw [zi e1] at h
   exact xr rfl (q7 rfl ⟨⟨rfl, (by show Value.int _ _ = Value.int _ _; congr 1; rw [ht]; unfold szn at *; split at h <;> rw [if_pos] <;> omega), trivial⟩, z6 rfl⟩)
 have e2 : 0 ≤ szn b (yl zc x1 + yl yh x2 + yl z8 x3) := by rw [← zi e1]; simpa using e2
 rw [zi e1]
 refine z7 rfl (q3k x4 (szn b (yl zc x1 + yl yh x2 + yl z8 x3)) h4 e2 (q0g hb1 hb0)) rfl ⟨trivial, trivial, trivial⟩ ?_
 refine xb rfl (fun h => ?_) (fun e3 => ?_)
 · have h : szn (szn b (yl zc x1 + yl yh x2 + yl z8 x3)) (yl yh x4) < 0 := by simpa using h
   rw [zi e2] at h
   exact xr rfl (q7 rfl ⟨⟨rfl, (by show Value.int _ _ = Value.int _ _; congr 1; rw [ht]; unfold szn at *; split at h <;> rw [if_pos] <;> omega), trivial⟩, z6 rfl⟩)
 have e3 : 0 ≤ szn b (yl zc x1 + yl yh x2 + yl z8 x3 + yl yh x4) := by rw [← zi e2]; simpa using e3
 rw [zi e2]
 refine z7 rfl (z34 x5 (szn b (yl zc x1 + yl yh x2 + yl z8 x3 + yl yh x4)) h5 e3 (q0g hb1 hb0)) rfl ⟨trivial, trivial, trivial⟩ ?_
 refine xb rfl (fun h => ?_) (fun e4 => ?_)
 · have h : szn (szn b (yl zc x1 + yl yh x2 + yl z8 x3 + yl yh x4)) (yl (.i .i64 .nil) x5) < 0 := by simpa using h
   rw [zi e3] at h
   exact xr rfl (q7 rfl ⟨⟨rfl, (by show Value.int _ _ = Value.int _ _; congr 1; rw [ht]; unfold szn at *; split at h <;> rw [if_pos] <;> omega), trivial⟩, z6 rfl⟩)
 have e4 : 0 ≤ szn b (yl zc x1 + yl yh x2 + yl z8 x3 + yl yh x4 + yl (.i .i64 .nil) x5) := by rw [← zi e3]; simpa using e4
 rw [zi e3]
 exact xr rfl (q7 rfl ⟨⟨rfl, (by show Value.int _ _ = Value.int _ _; rw [ht]), trivial⟩, z6 rfl⟩)
theorem z5f (rr : List (List Cell)) (b : Int) (hw : WR 9223372036854775807 qe rr) (p0 : 0 ≤ b) (p1 : b ≤ 1048576) : PC Tryz.prog 51 [.one (.l rr), .one (.s (.int .i64 b))] (rI (szn b (yl qe rr))) := by
 refine PC.begin Tryz.func51 rfl (by kernel_rfl) ?_
 have hlen := hw.1
 have w1 : IntKind.i64.wrap (b - rr.length) = b - rr.length := wrap_i64 (by omega) (by omega)
 refine xb rfl (fun h => ?_) (fun h => ?_)
 · simp only [w1, decide_eq_true_eq] at h
   exact xr rfl (q7 rfl ⟨⟨rfl, (by show Value.int _ _ = Value.int _ _; unfold szn yl; rw [if_pos (by omega)]), trivial⟩, z6 rfl⟩)
 simp only [w1, decide_eq_false_iff_not] at h
 have hs : szn b rr.length = b - rr.length := by unfold szn; rw [if_neg h]
 refine yd rfl (ι := Nat) (fun i => i ≤ rr.length ∧ 0 ≤ szn b (rr.length + q00 (tot qe) (rr.take i))) (fun i => ⟨[(5, sV (.int .i64 i)), (1, sV (.int .i64 (szn b (rr.length + q00 (tot qe) (rr.take i))))), (0, .one (.b (.l rr)))], []⟩) (fun i => rr.length - i) 0 ⟨Nat.zero_le _, by simp only [List.take_zero, q00, Nat.add_zero, hs]; omega⟩ ?_ ?_
 · refine ⟨⟨rfl, ?_, rfl, trivial⟩, trivial, rfl⟩
   show Cell.s (.int .i64 (IntKind.i64.wrap (b - rr.length))) = Cell.s (.int .i64 (szn b (rr.length + 0)))
   rw [w1, Nat.add_zero, hs]
 · intro i ⟨hi, hb⟩ J hJ
   refine xb rfl (fun h => ?_) (fun h => ?_)
   · have h : i < rr.length := by simpa using h
     obtain ⟨row, hg⟩ : ∃ row, rr[i]? = some row := ⟨_, List.getElem?_eq_getElem h⟩
     have hc := q0s (f := tot qe) hg
     have hc2 := z0j (tot qe) rr (i + 1)
     obtain ⟨x0, x1, x2, x3, x4, x5, rfl, h1, h2, h3, h4, h5⟩ := y0u (hw.2 row (List.mem_of_getElem? hg))
     refine xs rfl (Int.natCast_nonneg _) (y9 rfl _ hg (xs rfl rfl ?_))
     refine z7 rfl (y6f _ _ _ _ _ _ _ h1 h2 h3 h4 h5 hb (q0g p1 p0)) rfl ⟨⟨trivial, trivial, trivial, trivial, trivial, trivial, trivial⟩, trivial, trivial⟩ ?_
     refine xb rfl (fun hn => ?_) (fun hn => ?_)
     · have hn : szn (szn b (rr.length + q00 (tot qe) (rr.take i))) (tot qe [.s (.int .i64 x0), .l x1, .l x2, .l x3, .l x4, .l x5]) < 0 := by simpa using hn
       rw [zi hb] at hn
       exact xr rfl (q7 rfl ⟨⟨rfl, (by show Value.int _ _ = Value.int _ _; congr 1; unfold szn yl at *; split at hn <;> rw [if_pos] <;> omega), trivial⟩, z6 rfl⟩)
     · have hn : ¬ szn (szn b (rr.length + q00 (tot qe) (rr.take i))) (tot qe [.s (.int .i64 x0), .l x1, .l x2, .l x3, .l x4, .l x5]) < 0 := by simpa using hn
       have he := zi (n := tot qe [.s (.int .i64 x0), .l x1, .l x2, .l x3, .l x4, .l x5]) hb
       rw [he] at hn
       rw [Nat.add_assoc, ← hc] at he hn
       refine ya rfl (hJ _ (i + 1) ⟨by omega, by omega⟩ (by omega) ?_)
       refine ⟨⟨cwi (by omega) (by omega) (by omega), ?_, rfl, trivial⟩, trivial, rfl⟩
       exact congrArg (fun n => Cell.s (.int .i64 n)) he
   · have h : ¬ i < rr.length := by simpa using h
     have : i = rr.length := by omega
     subst this
     exact xr rfl (q7 rfl ⟨⟨rfl, (by show Value.int _ _ = Value.int _ _; rw [List.take_length]; rfl), trivial⟩, z6 rfl⟩)
theorem z3l (rr : List (List Cell)) (b : Int) (hw : WR 9223372036854775807 zm rr) (p0 : 0 ≤ b) (p1 : b ≤ 1048576) : PC Tryz.prog 300 [.one (.l rr), .one (.s (.int .i64 b))] (rI (szn b (yl zm rr))) := by
 refine PC.begin Tryz.func300 rfl (by kernel_rfl) ?_
 have hlen := hw.1
 have w1 : IntKind.i64.wrap (b - rr.length) = b - rr.length := wrap_i64 (by omega) (by omega)
 rw [z0n (fun row hr => by obtain ⟨x0, x1, rfl⟩ := q1d hr; rfl) hw]
 refine xb rfl (fun h => ?_) (fun h => ?_)
 · simp only [w1, decide_eq_true_eq] at h
   exact xr rfl (q7 rfl ⟨⟨rfl, (by show Value.int _ _ = Value.int _ _; rw [szn, if_pos h]), trivial⟩, z6 rfl⟩)
 · simp only [w1, decide_eq_false_iff_not] at h
   exact xr rfl (q7 rfl ⟨⟨rfl, (by show Value.int .i64 (IntKind.i64.wrap (b - rr.length)) = Value.int _ _; rw [szn, if_neg h, w1]), trivial⟩, z6 rfl⟩)
theorem z7i (x0 : Int) (x1 : Int) (x2 : Int) (x3 : Int) (x4 : Int) (x5 : List (List Cell)) (b : Int) (h5 : WR 9223372036854775807 zm x5) (hb0 : 0 ≤ b) (hb1 : b ≤ 1048576) : PC Tryz.prog 236 [.agg [.s (.int .i64 x0), .s (.int .i64 x1), .s (.int .i64 x2), .s (.int .i64 x3), .s (.int .i64 x4), .l x5], .one (.s (.int .i64 b))] (rI (szn b (tot zl [.s (.int .i64 x0), .s (.int .i64 x1), .s (.int .i64 x2), .s (.int .i64 x3), .s (.int .i64 x4), .l x5]))) := by
 refine PC.begin Tryz.func236 rfl (by kernel_rfl) ?_
 have ht : tot zl [.s (.int .i64 x0), .s (.int .i64 x1), .s (.int .i64 x2), .s (.int .i64 x3), .s (.int .i64 x4), .l x5] = yl zm x5 := by simp only [tot, yl] <;> omega
 refine z7 rfl (z3l x5 b h5 hb0 hb1) rfl ⟨trivial, trivial, trivial⟩ ?_
 refine xb rfl (fun h => ?_) (fun e0 => ?_)
 · have h : szn b (yl zm x5) < 0 := by simpa using h
   exact xr rfl (q7 rfl ⟨⟨rfl, (by show Value.int _ _ = Value.int _ _; congr 1; rw [ht]; unfold szn at *; split at h <;> rw [if_pos] <;> omega), trivial⟩, z6 rfl⟩)
 have e0 : 0 ≤ szn b (yl zm x5) := by simpa using e0
 exact xr rfl (q7 rfl ⟨⟨rfl, (by show Value.int _ _ = Value.int _ _; rw [ht]), trivial⟩, z6 rfl⟩)
theorem q6f (rr : List (List Cell)) (b : Int) (hw : WR 9223372036854775807 zl rr) (p0 : 0 ≤ b) (p1 : b ≤ 1048576) : PC Tryz.prog 177 [.one (.l rr), .one (.s (.int .i64 b))] (rI (szn b (yl zl rr))) := by
 refine PC.begin Tryz.func177 rfl (by kernel_rfl) ?_
 have hlen := hw.1
 have w1 : IntKind.i64.wrap (b - rr.length) = b - rr.length := wrap_i64 (by omega) (by omega)
 refine xb rfl (fun h => ?_) (fun h => ?_)
 · simp only [w1, decide_eq_true_eq] at h
   exact xr rfl (q7 rfl ⟨⟨rfl, (by show Value.int _ _ = Value.int _ _; unfold szn yl; rw [if_pos (by omega)]), trivial⟩, z6 rfl⟩)
 simp only [w1, decide_eq_false_iff_not] at h
 have hs : szn b rr.length = b - rr.length := by unfold szn; rw [if_neg h]
 refine yd rfl (ι := Nat) (fun i => i ≤ rr.length ∧ 0 ≤ szn b (rr.length + q00 (tot zl) (rr.take i))) (fun i => ⟨[(5, sV (.int .i64 i)), (1, sV (.int .i64 (szn b (rr.length + q00 (tot zl) (rr.take i))))), (0, .one (.b (.l rr)))], []⟩) (fun i => rr.length - i) 0 ⟨Nat.zero_le _, by simp only [List.take_zero, q00, Nat.add_zero, hs]; omega⟩ ?_ ?_
 · refine ⟨⟨rfl, ?_, rfl, trivial⟩, trivial, rfl⟩
   show Cell.s (.int .i64 (IntKind.i64.wrap (b - rr.length))) = Cell.s (.int .i64 (szn b (rr.length + 0)))
   rw [w1, Nat.add_zero, hs]
 · intro i ⟨hi, hb⟩ J hJ
   refine xb rfl (fun h => ?_) (fun h => ?_)
   · have h : i < rr.length := by simpa using h
     obtain ⟨row, hg⟩ : ∃ row, rr[i]? = some row := ⟨_, List.getElem?_eq_getElem h⟩
     have hc := q0s (f := tot zl) hg
     have hc2 := z0j (tot zl) rr (i + 1)
     obtain ⟨x0, x1, x2, x3, x4, x5, rfl, h5⟩ := y1d (hw.2 row (List.mem_of_getElem? hg))
     refine xs rfl (Int.natCast_nonneg _) (y9 rfl _ hg (xs rfl rfl ?_))
     refine z7 rfl (z7i _ _ _ _ _ _ _ h5 hb (q0g p1 p0)) rfl ⟨⟨trivial, trivial, trivial, trivial, trivial, trivial, trivial⟩, trivial, trivial⟩ ?_
     refine xb rfl (fun hn => ?_) (fun hn => ?_)
     · have hn : szn (szn b (rr.length + q00 (tot zl) (rr.take i))) (tot zl [.s (.int .i64 x0), .s (.int .i64 x1), .s (.int .i64 x2), .s (.int .i64 x3), .s (.int .i64 x4), .l x5]) < 0 := by simpa using hn
       rw [zi hb] at hn
       exact xr rfl (q7 rfl ⟨⟨rfl, (by show Value.int _ _ = Value.int _ _; congr 1; unfold szn yl at *; split at hn <;> rw [if_pos] <;> omega), trivial⟩, z6 rfl⟩)
     · have hn : ¬ szn (szn b (rr.length + q00 (tot zl) (rr.take i))) (tot zl [.s (.int .i64 x0), .s (.int .i64 x1), .s (.int .i64 x2), .s (.int .i64 x3), .s (.int .i64 x4), .l x5]) < 0 := by simpa using hn
       have he := zi (n := tot zl [.s (.int .i64 x0), .s (.int .i64 x1), .s (.int .i64 x2), .s (.int .i64 x3), .s (.int .i64 x4), .l x5]) hb
       rw [he] at hn
       rw [Nat.add_assoc, ← hc] at he hn
       refine ya rfl (hJ _ (i + 1) ⟨by omega, by omega⟩ (by omega) ?_)
       refine ⟨⟨cwi (by omega) (by omega) (by omega), ?_, rfl, trivial⟩, trivial, rfl⟩
       exact congrArg (fun n => Cell.s (.int .i64 n)) he
   · have h : ¬ i < rr.length := by simpa using h
     have : i = rr.length := by omega
     subst this
     exact xr rfl (q7 rfl ⟨⟨rfl, (by show Value.int _ _ = Value.int _ _; rw [List.take_length]; rfl), trivial⟩, z6 rfl⟩)
theorem y46 (x0 : List (List Cell)) (b : Int) (h0 : WR 9223372036854775807 zl x0) (hb0 : 0 ≤ b) (hb1 : b ≤ 1048576) : PC Tryz.prog 111 [.agg [.l x0], .one (.s (.int .i64 b))] (rI (szn b (tot za [.l x0]))) := by
 refine PC.begin Tryz.func111 rfl (by kernel_rfl) ?_
 have ht : tot za [.l x0] = yl zl x0 := by simp only [tot, yl] <;> omega
 refine z7 rfl (q6f x0 b h0 hb0 hb1) rfl ⟨trivial, trivial, trivial⟩ ?_
 refine xb rfl (fun h => ?_) (fun e0 => ?_)
 · have h : szn b (yl zl x0) < 0 := by simpa using h
   exact xr rfl (q7 rfl ⟨⟨rfl, (by show Value.int _ _ = Value.int _ _; congr 1; rw [ht]; unfold szn at *; split at h <;> rw [if_pos] <;> omega), trivial⟩, z6 rfl⟩)
 have e0 : 0 ≤ szn b (yl zl x0) := by simpa using e0
 exact xr rfl (q7 rfl ⟨⟨rfl, (by show Value.int _ _ = Value.int _ _; rw [ht]), trivial⟩, z6 rfl⟩)
theorem q3c (rr : List (List Cell)) (b : Int) (hw : WR 9223372036854775807 za rr) (p0 : 0 ≤ b) (p1 : b ≤ 1048576) : PC Tryz.prog 52 [.one (.l rr), .one (.s (.int .i64 b))] (rI (szn b (yl za rr))) := by
 refine PC.begin Tryz.func52 rfl (by kernel_rfl) ?_
 have hlen := hw.1
 have w1 : IntKind.i64.wrap (b - rr.length) = b - rr.length := wrap_i64 (by omega) (by omega)
 refine xb rfl (fun h => ?_) (fun h => ?_)
 · simp only [w1, decide_eq_true_eq] at h
   exact xr rfl (q7 rfl ⟨⟨rfl, (by show Value.int _ _ = Value.int _ _; unfold szn yl; rw [if_pos (by omega)]), trivial⟩, z6 rfl⟩)
 simp only [w1, decide_eq_false_iff_not] at h
 have hs : szn b rr.length = b - rr.length := by unfold szn; rw [if_neg h]
 refine yd rfl (ι := Nat) (fun i => i ≤ rr.length ∧ 0 ≤ szn b (rr.length + q00 (tot za) (rr.take i))) (fun i => ⟨[(5, sV (.int .i64 i)), (1, sV (.int .i64 (szn b (rr.length + q00 (tot za) (rr.take i))))), (0, .one (.b (.l rr)))], []⟩) (fun i => rr.length - i) 0 ⟨Nat.zero_le _, by simp only [List.take_zero, q00, Nat.add_zero, hs]; omega⟩ ?_ ?_
 · refine ⟨⟨rfl, ?_, rfl, trivial⟩, trivial, rfl⟩
   show Cell.s (.int .i64 (IntKind.i64.wrap (b - rr.length))) = Cell.s (.int .i64 (szn b (rr.length + 0)))
   rw [w1, Nat.add_zero, hs]
 · intro i ⟨hi, hb⟩ J hJ
   refine xb rfl (fun h => ?_) (fun h => ?_)
   · have h : i < rr.length := by simpa using h
     obtain ⟨row, hg⟩ : ∃ row, rr[i]? = some row := ⟨_, List.getElem?_eq_getElem h⟩
     have hc := q0s (f := tot za) hg
     have hc2 := z0j (tot za) rr (i + 1)
     obtain ⟨x0, rfl, h0⟩ := z06 (hw.2 row (List.mem_of_getElem? hg))
     refine xs rfl (Int.natCast_nonneg _) (y9 rfl _ hg (xs rfl rfl ?_))
     refine z7 rfl (y46 _ _ h0 hb (q0g p1 p0)) rfl ⟨⟨trivial, trivial⟩, trivial, trivial⟩ ?_
     refine xb rfl (fun hn => ?_) (fun hn => ?_)
     · have hn : szn (szn b (rr.length + q00 (tot za) (rr.take i))) (tot za [.l x0]) < 0 := by simpa using hn
       rw [zi hb] at hn
       exact xr rfl (q7 rfl ⟨⟨rfl, (by show Value.int _ _ = Value.int _ _; congr 1; unfold szn yl at *; split at hn <;> rw [if_pos] <;> omega), trivial⟩, z6 rfl⟩)
     · have hn : ¬ szn (szn b (rr.length + q00 (tot za) (rr.take i))) (tot za [.l x0]) < 0 := by simpa using hn
       have he := zi (n := tot za [.l x0]) hb
       rw [he] at hn
       rw [Nat.add_assoc, ← hc] at he hn
       refine ya rfl (hJ _ (i + 1) ⟨by omega, by omega⟩ (by omega) ?_)
       refine ⟨⟨cwi (by omega) (by omega) (by omega), ?_, rfl, trivial⟩, trivial, rfl⟩
       exact congrArg (fun n => Cell.s (.int .i64 n)) he
   · have h : ¬ i < rr.length := by simpa using h
     have : i = rr.length := by omega
     subst this
     exact xr rfl (q7 rfl ⟨⟨rfl, (by show Value.int _ _ = Value.int _ _; rw [List.take_length]; rfl), trivial⟩, z6 rfl⟩)
theorem y8a (x0 : Int) (x1 : Int) (x2 : Int) (x3 : Int) (x4 : List (List Cell)) (x5 : List (List Cell)) (b : Int) (h4 : WR 9223372036854775807 (.i .i64 .nil) x4) (h5 : WR 9223372036854775807 zm x5) (hb0 : 0 ≤ b) (hb1 : b ≤ 1048576) : PC Tryz.prog 237 [.agg [.s (.int .i64 x0), .s (.int .i64 x1), .s (.int .i64 x2), .s (.int .i64 x3), .l x4, .l x5], .one (.s (.int .i64 b))] (rI (szn b (tot zp [.s (.int .i64 x0), .s (.int .i64 x1), .s (.int .i64 x2), .s (.int .i64 x3), .l x4, .l x5]))) := by
 refine PC.begin Tryz.func237 rfl (by kernel_rfl) ?_
 have ht : tot zp [.s (.int .i64 x0), .s (.int .i64 x1), .s (.int .i64 x2), .s (.int .i64 x3), .l x4, .l x5] = yl (.i .i64 .nil) x4 + yl zm x5 := by simp only [tot, yl] <;> omega
 refine z7 rfl (z34 x4 b h4 hb0 hb1) rfl ⟨trivial, trivial, trivial⟩ ?_
 refine xb rfl (fun h => ?_) (fun e0 => ?_)
 · have h : szn b (yl (.i .i64 .nil) x4) < 0 := by simpa using h
   exact xr rfl (q7 rfl ⟨⟨rfl, (by show Value.int _ _ = Value.int _ _; congr 1; rw [ht]; unfold szn at *; split at h <;> rw [if_pos] <;> omega), trivial⟩, z6 rfl⟩)
 have e0 : 0 ≤ szn b (yl (.i .i64 .nil) x4) := by simpa using e0
 refine z7 rfl (z3l x5 (szn b (yl (.i .i64 .nil) x4)) h5 e0 (q0g hb1 hb0)) rfl ⟨trivial, trivial, trivial⟩ ?_
 refine xb rfl (fun h => ?_) (fun e1 => ?_)
 · have h : szn (szn b (yl (.i .i64 .nil) x4)) (yl zm x5) < 0 := by simpa using h
   rw [zi e0] at h
   exact xr rfl (q7 rfl ⟨⟨rfl, (by show Value.int _ _ = Value.int _ _; congr 1; rw [ht]; unfold szn at *; split at h <;> rw [if_pos] <;> omega), trivial⟩, z6 rfl⟩)
 have e1 : 0 ≤ szn b (yl (.i .i64 .nil) x4 + yl zm x5) := by rw [← zi e0]; simpa using e1
 rw [zi e0]
 exact xr rfl (q7 rfl ⟨⟨rfl, (by show Value.int _ _ = Value.int _ _; rw [ht]), trivial⟩, z6 rfl⟩)
theorem y7i (rr : List (List Cell)) (b : Int) (hw : WR 9223372036854775807 zp rr) (p0 : 0 ≤ b) (p1 : b ≤ 1048576) : PC Tryz.prog 178 [.one (.l rr), .one (.s (.int .i64 b))] (rI (szn b (yl zp rr))) := by
 refine PC.begin Tryz.func178 rfl (by kernel_rfl) ?_
 have hlen := hw.1
 have w1 : IntKind.i64.wrap (b - rr.length) = b - rr.length := wrap_i64 (by omega) (by omega)
 refine xb rfl (fun h => ?_) (fun h => ?_)
 · simp only [w1, decide_eq_true_eq] at h
   exact xr rfl (q7 rfl ⟨⟨rfl, (by show Value.int _ _ = Value.int _ _; unfold szn yl; rw [if_pos (by omega)]), trivial⟩, z6 rfl⟩)
 simp only [w1, decide_eq_false_iff_not] at h
 have hs : szn b rr.length = b - rr.length := by unfold szn; rw [if_neg h]
 refine yd rfl (ι := Nat) (fun i => i ≤ rr.length ∧ 0 ≤ szn b (rr.length + q00 (tot zp) (rr.take i))) (fun i => ⟨[(5, sV (.int .i64 i)), (1, sV (.int .i64 (szn b (rr.length + q00 (tot zp) (rr.take i))))), (0, .one (.b (.l rr)))], []⟩) (fun i => rr.length - i) 0 ⟨Nat.zero_le _, by simp only [List.take_zero, q00, Nat.add_zero, hs]; omega⟩ ?_ ?_
 · refine ⟨⟨rfl, ?_, rfl, trivial⟩, trivial, rfl⟩
   show Cell.s (.int .i64 (IntKind.i64.wrap (b - rr.length))) = Cell.s (.int .i64 (szn b (rr.length + 0)))
   rw [w1, Nat.add_zero, hs]
 · intro i ⟨hi, hb⟩ J hJ
   refine xb rfl (fun h => ?_) (fun h => ?_)
   · have h : i < rr.length := by simpa using h
     obtain ⟨row, hg⟩ : ∃ row, rr[i]? = some row := ⟨_, List.getElem?_eq_getElem h⟩
     have hc := q0s (f := tot zp) hg
     have hc2 := z0j (tot zp) rr (i + 1)
     obtain ⟨x0, x1, x2, x3, x4, x5, rfl, h4, h5⟩ := y25 (hw.2 row (List.mem_of_getElem? hg))
     refine xs rfl (Int.natCast_nonneg _) (y9 rfl _ hg (xs rfl rfl ?_))
     refine z7 rfl (y8a _ _ _ _ _ _ _ h4 h5 hb (q0g p1 p0)) rfl ⟨⟨trivial, trivial, trivial, trivial, trivial, trivial, trivial⟩, trivial, trivial⟩ ?_
     refine xb rfl (fun hn => ?_) (fun hn => ?_)
     · have hn : szn (szn b (rr.length + q00 (tot zp) (rr.take i))) (tot zp [.s (.int .i64 x0), .s (.int .i64 x1), .s (.int .i64 x2), .s (.int .i64 x3), .l x4, .l x5]) < 0 := by simpa using hn
       rw [zi hb] at hn
       exact xr rfl (q7 rfl ⟨⟨rfl, (by show Value.int _ _ = Value.int _ _; congr 1; unfold szn yl at *; split at hn <;> rw [if_pos] <;> omega), trivial⟩, z6 rfl⟩)
     · have hn : ¬ szn (szn b (rr.length + q00 (tot zp) (rr.take i))) (tot zp [.s (.int .i64 x0), .s (.int .i64 x1), .s (.int .i64 x2), .s (.int .i64 x3), .l x4, .l x5]) < 0 := by simpa using hn
       have he := zi (n := tot zp [.s (.int .i64 x0), .s (.int .i64 x1), .s (.int .i64 x2), .s (.int .i64 x3), .l x4, .l x5]) hb
       rw [he] at hn
       rw [Nat.add_assoc, ← hc] at he hn
       refine ya rfl (hJ _ (i + 1) ⟨by omega, by omega⟩ (by omega) ?_)
       refine ⟨⟨cwi (by omega) (by omega) (by omega), ?_, rfl, trivial⟩, trivial, rfl⟩
       exact congrArg (fun n => Cell.s (.int .i64 n)) he
   · have h : ¬ i < rr.length := by simpa using h
     have : i = rr.length := by omega
     subst this
     exact xr rfl (q7 rfl ⟨⟨rfl, (by show Value.int _ _ = Value.int _ _; rw [List.take_length]; rfl), trivial⟩, z6 rfl⟩)
theorem y5e (rr : List (List Cell)) (b : Int) (hw : WR 9223372036854775807 zn rr) (p0 : 0 ≤ b) (p1 : b ≤ 1048576) : PC Tryz.prog 179 [.one (.l rr), .one (.s (.int .i64 b))] (rI (szn b (yl zn rr))) := by
 refine PC.begin Tryz.func179 rfl (by kernel_rfl) ?_
 have hlen := hw.1
 have w1 : IntKind.i64.wrap (b - rr.length) = b - rr.length := wrap_i64 (by omega) (by omega)
 rw [z0n (fun row hr => by obtain ⟨x0, x1, x2, x3, x4, rfl⟩ := z0u hr; rfl) hw]
 refine xb rfl (fun h => ?_) (fun h => ?_)
 · simp only [w1, decide_eq_true_eq] at h
   exact xr rfl (q7 rfl ⟨⟨rfl, (by show Value.int _ _ = Value.int _ _; rw [szn, if_pos h]), trivial⟩, z6 rfl⟩)
 · simp only [w1, decide_eq_false_iff_not] at h
   exact xr rfl (q7 rfl ⟨⟨rfl, (by show Value.int .i64 (IntKind.i64.wrap (b - rr.length)) = Value.int _ _; rw [szn, if_neg h, w1]), trivial⟩, z6 rfl⟩)
theorem q5e (x0 : Int) (x1 : List (List Cell)) (x2 : List (List Cell)) (b : Int) (h1 : WR 9223372036854775807 zp x1) (h2 : WR 9223372036854775807 zn x2) (hb0 : 0 ≤ b) (hb1 : b ≤ 1048576) : PC Tryz.prog 112 [.agg [.s (.int .i64 x0), .l x1, .l x2], .one (.s (.int .i64 b))] (rI (szn b (tot qd [.s (.int .i64 x0), .l x1, .l x2]))) := by
 refine PC.begin Tryz.func112 rfl (by kernel_rfl) ?_
 have ht : tot qd [.s (.int .i64 x0), .l x1, .l x2] = yl zp x1 + yl zn x2 := by simp only [tot, yl] <;> omega
 refine z7 rfl (y7i x1 b h1 hb0 hb1) rfl ⟨trivial, trivial, trivial⟩ ?_
 refine xb rfl (fun h => ?_) (fun e0 => ?_)
 · have h : szn b (yl zp x1) < 0 := by simpa using h
   exact xr rfl (q7 rfl ⟨⟨rfl, (by show Value.int _ _ = Value.int _ _; congr 1; rw [ht]; unfold szn at *; split at h <;> rw [if_pos] <;> omega), trivial⟩, z6 rfl⟩)
 have e0 : 0 ≤ szn b (yl zp x1) := by simpa using e0
 refine z7 rfl (y5e x2 (szn b (yl zp x1)) h2 e0 (q0g hb1 hb0)) rfl ⟨trivial, trivial, trivial⟩ ?_
 refine xb rfl (fun h => ?_) (fun e1 => ?_)
 · have h : szn (szn b (yl zp x1)) (yl zn x2) < 0 := by simpa using h
   rw [zi e0] at h
   exact xr rfl (q7 rfl ⟨⟨rfl, (by show Value.int _ _ = Value.int _ _; congr 1; rw [ht]; unfold szn at *; split at h <;> rw [if_pos] <;> omega), trivial⟩, z6 rfl⟩)
 have e1 : 0 ≤ szn b (yl zp x1 + yl zn x2) := by rw [← zi e0]; simpa using e1
 rw [zi e0]
 exact xr rfl (q7 rfl ⟨⟨rfl, (by show Value.int _ _ = Value.int _ _; rw [ht]), trivial⟩, z6 rfl⟩)
theorem y4u (rr : List (List Cell)) (b : Int) (hw : WR 9223372036854775807 qd rr) (p0 : 0 ≤ b) (p1 : b ≤ 1048576) : PC Tryz.prog 53 [.one (.l rr), .one (.s (.int .i64 b))] (rI (szn b (yl qd rr))) := by
 refine PC.begin Tryz.func53 rfl (by kernel_rfl) ?_
 have hlen := hw.1
 have w1 : IntKind.i64.wrap (b - rr.length) = b - rr.length := wrap_i64 (by omega) (by omega)
 refine xb rfl (fun h => ?_) (fun h => ?_)
 · simp only [w1, decide_eq_true_eq] at h
   exact xr rfl (q7 rfl ⟨⟨rfl, (by show Value.int _ _ = Value.int _ _; unfold szn yl; rw [if_pos (by omega)]), trivial⟩, z6 rfl⟩)
 simp only [w1, decide_eq_false_iff_not] at h
 have hs : szn b rr.length = b - rr.length := by unfold szn; rw [if_neg h]
 refine yd rfl (ι := Nat) (fun i => i ≤ rr.length ∧ 0 ≤ szn b (rr.length + q00 (tot qd) (rr.take i))) (fun i => ⟨[(5, sV (.int .i64 i)), (1, sV (.int .i64 (szn b (rr.length + q00 (tot qd) (rr.take i))))), (0, .one (.b (.l rr)))], []⟩) (fun i => rr.length - i) 0 ⟨Nat.zero_le _, by simp only [List.take_zero, q00, Nat.add_zero, hs]; omega⟩ ?_ ?_
 · refine ⟨⟨rfl, ?_, rfl, trivial⟩, trivial, rfl⟩
   show Cell.s (.int .i64 (IntKind.i64.wrap (b - rr.length))) = Cell.s (.int .i64 (szn b (rr.length + 0)))
   rw [w1, Nat.add_zero, hs]
 · intro i ⟨hi, hb⟩ J hJ
   refine xb rfl (fun h => ?_) (fun h => ?_)
   · have h : i < rr.length := by simpa using h
     obtain ⟨row, hg⟩ : ∃ row, rr[i]? = some row := ⟨_, List.getElem?_eq_getElem h⟩
     have hc := q0s (f := tot qd) hg
     have hc2 := z0j (tot qd) rr (i + 1)
     obtain ⟨x0, x1, x2, rfl, h1, h2⟩ := y0j (hw.2 row (List.mem_of_getElem? hg))
     refine xs rfl (Int.natCast_nonneg _) (y9 rfl _ hg (xs rfl rfl ?_))
     refine z7 rfl (q5e _ _ _ _ h1 h2 hb (q0g p1 p0)) rfl ⟨⟨trivial, trivial, trivial, trivial⟩, trivial, trivial⟩ ?_
     refine xb rfl (fun hn => ?_) (fun hn => ?_)
     · have hn : szn (szn b (rr.length + q00 (tot qd) (rr.take i))) (tot qd [.s (.int .i64 x0), .l x1, .l x2]) < 0 := by simpa using hn
       rw [zi hb] at hn
       exact xr rfl (q7 rfl ⟨⟨rfl, (by show Value.int _ _ = Value.int _ _; congr 1; unfold szn yl at *; split at hn <;> rw [if_pos] <;> omega), trivial⟩, z6 rfl⟩)
     · have hn : ¬ szn (szn b (rr.length + q00 (tot qd) (rr.take i))) (tot qd [.s (.int .i64 x0), .l x1, .l x2]) < 0 := by simpa using hn
       have he := zi (n := tot qd [.s (.int .i64 x0), .l x1, .l x2]) hb
       rw [he] at hn
       rw [Nat.add_assoc, ← hc] at he hn
       refine ya rfl (hJ _ (i + 1) ⟨by omega, by omega⟩ (by omega) ?_)
       refine ⟨⟨cwi (by omega) (by omega) (by omega), ?_, rfl, trivial⟩, trivial, rfl⟩
       exact congrArg (fun n => Cell.s (.int .i64 n)) he
   · have h : ¬ i < rr.length := by simpa using h
     have : i = rr.length := by omega
     subst this
     exact xr rfl (q7 rfl ⟨⟨rfl, (by show Value.int _ _ = Value.int _ _; rw [List.take_length]; rfl), trivial⟩, z6 rfl⟩)
theorem y47 (rr : List (List Cell)) (b : Int) (hw : WR 9223372036854775807 zg rr) (p0 : 0 ≤ b) (p1 : b ≤ 1048576) : PC Tryz.prog 54 [.one (.l rr), .one (.s (.int .i64 b))] (rI (szn b (yl zg rr))) := by
 refine PC.begin Tryz.func54 rfl (by kernel_rfl) ?_
 have hlen := hw.1
 have w1 : IntKind.i64.wrap (b - rr.length) = b - rr.length := wrap_i64 (by omega) (by omega)
 rw [z0n (fun row hr => by obtain ⟨x0, x1, x2, x3, x4, x5, x6, x7, x8, rfl⟩ := q0a hr; rfl) hw]
 refine xb rfl (fun h => ?_) (fun h => ?_)
 · simp only [w1, decide_eq_true_eq] at h
   exact xr rfl (q7 rfl ⟨⟨rfl, (by show Value.int _ _ = Value.int _ _; rw [szn, if_pos h]), trivial⟩, z6 rfl⟩)
 · simp only [w1, decide_eq_false_iff_not] at h
   exact xr rfl (q7 rfl ⟨⟨rfl, (by show Value.int .i64 (IntKind.i64.wrap (b - rr.length)) = Value.int _ _; rw [szn, if_neg h, w1]), trivial⟩, z6 rfl⟩)
theorem z4u (x0 : List (List Cell)) (x1 : List (List Cell)) (x2 : List (List Cell)) (x3 : List (List Cell)) (x4 : List (List Cell)) (b : Int) (h0 : WR 9223372036854775807 z8 x0) (h1 : WR 9223372036854775807 qe x1) (h2 : WR 9223372036854775807 za x2) (h3 : WR 9223372036854775807 qd x3) (h4 : WR 9223372036854775807 zg x4) (hb0 : 0 ≤ b) (hb1 : b ≤ 1048576) : PC Tryz.prog 12 [.agg [.l x0, .l x1, .l x2, .l x3, .l x4], .one (.s (.int .i64 b))] (rI (szn b (tot yn [.l x0, .l x1, .l x2, .l x3, .l x4]))) := by
 refine PC.begin Tryz.func12 rfl (by kernel_rfl) ?_
 have ht : tot yn [.l x0, .l x1, .l x2, .l x3, .l x4] = yl z8 x0 + yl qe x1 + yl za x2 + yl qd x3 + yl zg x4 := by simp only [tot, yl] <;> omega
 refine z7 rfl (y1j x0 b h0 hb0 hb1) rfl ⟨trivial, trivial, trivial⟩ ?_
 refine xb rfl (fun h => ?_) (fun e0 => ?_)
 · have h : szn b (yl z8 x0) < 0 := by simpa using h
   exact xr rfl (q7 rfl ⟨⟨rfl, (by show Value.int _ _ = Value.int _ _; congr 1; rw [ht]; unfold szn at *; split at h <;> rw [if_pos] <;> omega), trivial⟩, z6 rfl⟩)
 have e0 : 0 ≤ szn b (yl z8 x0) := by simpa using e0
 refine z7 rfl (z5f x1 (szn b (yl z8 x0)) h1 e0 (q0g hb1 hb0)) rfl ⟨trivial, trivial, trivial⟩ ?_
 refine xb rfl (fun h => ?_) (fun e1 => ?_)
 · have h : szn (szn b (yl z8 x0)) (yl qe x1) < 0 := by simpa using h
   rw [zi e0] at h
   exact xr rfl (q7 rfl ⟨⟨rfl, (by show Value.int _ _ = Value.int _ _; congr 1; rw [ht]; unfold szn at *; split at h <;> rw [if_pos] <;> omega), trivial⟩, z6 rfl⟩)
 have e1 : 0 ≤ szn b (yl z8 x0 + yl qe x1) := by rw [← zi e0]; simpa using e1
 rw [zi e0]
 refine z7 rfl (q3c x2 (szn b (yl z8 x0 + yl qe x1)) h2 e1 (q0g hb1 hb0)) rfl ⟨trivial, trivial, trivial⟩ ?_
 refine xb rfl (fun h => ?_) (fun e2 => ?_)
 · have h : szn (szn b (yl z8 x0 + yl qe x1)) (yl za x2) < 0 := by simpa using h
   rw [zi e1] at h
   exact xr rfl (q7 rfl ⟨⟨rfl, (by show Value.int _ _ = Value.int _ _; congr 1; rw [ht]; unfold szn at *; split at h <;> rw [if_pos] <;> omega), trivial⟩, z6 rfl⟩)
 have e2 : 0 ≤ szn b (yl z8 x0 + yl qe x1 + yl za x2) := by rw [← zi e1]; simpa using e2
 rw [zi e1]
 refine z7 rfl (y4u x3 (szn b (yl z8 x0 + yl qe x1 + yl za x2)) h3 e2 (q0g hb1 hb0)) rfl ⟨trivial, trivial, trivial⟩ ?_
 refine xb rfl (fun h => ?_) (fun e3 => ?_)
 · have h : szn (szn b (yl z8 x0 + yl qe x1 + yl za x2)) (yl qd x3) < 0 := by simpa using h
   rw [zi e2] at h
   exact xr rfl (q7 rfl ⟨⟨rfl, (by show Value.int _ _ = Value.int _ _; congr 1; rw [ht]; unfold szn at *; split at h <;> rw [if_pos] <;> omega), trivial⟩, z6 rfl⟩)
 have e3 : 0 ≤ szn b (yl z8 x0 + yl qe x1 + yl za x2 + yl qd x3) := by rw [← zi e2]; simpa using e3
 rw [zi e2]
 refine z7 rfl (y47 x4 (szn b (yl z8 x0 + yl qe x1 + yl za x2 + yl qd x3)) h4 e3 (q0g hb1 hb0)) rfl ⟨trivial, trivial, trivial⟩ ?_
 refine xb rfl (fun h => ?_) (fun e4 => ?_)
 · have h : szn (szn b (yl z8 x0 + yl qe x1 + yl za x2 + yl qd x3)) (yl zg x4) < 0 := by simpa using h
   rw [zi e3] at h
   exact xr rfl (q7 rfl ⟨⟨rfl, (by show Value.int _ _ = Value.int _ _; congr 1; rw [ht]; unfold szn at *; split at h <;> rw [if_pos] <;> omega), trivial⟩, z6 rfl⟩)
 have e4 : 0 ≤ szn b (yl z8 x0 + yl qe x1 + yl za x2 + yl qd x3 + yl zg x4) := by rw [← zi e3]; simpa using e4
 rw [zi e3]
 exact xr rfl (q7 rfl ⟨⟨rfl, (by show Value.int _ _ = Value.int _ _; rw [ht]), trivial⟩, z6 rfl⟩)
end Go.Proofs.YthljegacamgnnaaGreat
end
section
namespace Go.Proofs.YthljegacamgnnaaGreat
open Go Go.Sx
set_option maxRecDepth 20000
set_option maxHeartbeats 4000000
theorem y9n (x0 x1 x2 x3 x4 : List (List Cell)) (hw : WT 9223372036854775807 yn [.l x0, .l x1, .l x2, .l x3, .l x4]) (b : Nat) (hb : b ≤ 1048576) :
 PC Tryz.prog 12 [.agg [.l x0, .l x1, .l x2, .l x3, .l x4], .one (i64 b)] (rI (-1)) ∨ ∃ c : Clu, x0 = c.cons.map Con.cs ∧ x1 = c.shs.map Shd.cs ∧ x2 = c.accs.map Acc.cs ∧ x3 = c.ldrs.map Ldr.cs ∧ x4 = c.msgs.map Msg.cs ∧ y00 c ∧ (WT 1048576 yn c.cs ∧ tot yn c.cs ≤ b) ∧
  (∃ n : Nat, n ≤ b ∧ PC Tryz.prog 12 [.agg c.cs, .one (i64 b)] (rI n)) ∧ PC Tryz.prog 14 [.agg c.cs] (.one (.own true [.l 2 (c.cons.map Con.cs), .l 6 (c.shs.map Shd.cs), .l 1 (c.accs.map Acc.cs), .l 3 (c.ldrs.map Ldr.cs), .l 9 (c.msgs.map Msg.cs)])) ∧
  PC Tryz.prog 17 [.agg c.cs, .agg c.cs] (rB true) := by
 obtain ⟨_, _, _, _, _, e, k0, k1, k2, k3, k4⟩ := q0k hw
 cases e
 have hsz := z4u x0 x1 x2 x3 x4 b k0 k1 k2 k3 k4 (by omega) (by omega)
 by_cases ht : tot yn [.l x0, .l x1, .l x2, .l x3, .l x4] ≤ b
 · right
   have hs : szn b (tot yn [.l x0, .l x1, .l x2, .l x3, .l x4]) = ((b - tot yn [.l x0, .l x1, .l x2, .l x3, .l x4] : Nat) : Int) := by
    unfold szn; rw [if_neg (by omega)]; omega
   rw [hs] at hsz
   have hwt := q9x hw (Nat.le_trans ht hb)
   obtain ⟨_, _, _, _, _, e, m0, m1, m2, m3, m4⟩ := q0k hwt
   cases e
   obtain ⟨c, ec, ho⟩ := y4d _ hwt
   have up : ∀ {e : Sh} {r : List (List Cell)}, WR 1048576 e r → WR 9000000000000000000 e r := fun h => h.mono (by omega)
   have heq := y4f x0 x1 x2 x3 x4 x0 x1 x2 x3 x4 (up m0) (up m1) (up m2) (up m3) (up m4) (up m0) (up m1) (up m2) (up m3) (up m4)
   rw [show dE (α := List Cell) [.l x0, .l x1, .l x2, .l x3, .l x4] [.l x0, .l x1, .l x2, .l x3, .l x4] = true from (Value.bool.inj (yu rfl)).symm] at heq
   have hto := z4v x0 x1 x2 x3 x4 m0 m1 m2 m3 m4
   simp only [Clu.cs, List.cons.injEq, Cell.l.injEq, and_true] at ec
   obtain ⟨rfl, rfl, rfl, rfl, rfl⟩ := ec
   exact ⟨c, rfl, rfl, rfl, rfl, rfl, ho, ⟨hwt, ht⟩, ⟨_, Nat.sub_le _ _, hsz⟩, hto, heq⟩
 · left
   have hs : szn b (tot yn [.l x0, .l x1, .l x2, .l x3, .l x4]) = -1 := by
    unfold szn; rw [if_pos (by omega)]
   rw [hs] at hsz
   exact hsz
end Go.Proofs.YthljegacamgnnaaGreat
end
section
namespace Go.Proofs.YthljegacamgnnaaGreat
open Go Go.Sx
set_option maxRecDepth 20000
set_option maxHeartbeats 4000000
theorem z57 (z : Nat) (rr : List (List Cell)) (k : Int) (hw : WR 9000000000000000000 qx rr) : PG Tryz.prog 96 [.one (.giv true z rr), .one (.bor (i64 k))] (rI (mkR (mk qx) rr k).2) [(0, (mkR (mk qx) rr k).1)] := by
 refine PG.begin Tryz.func96 rfl (by kernel_rfl) ?_
 have hlen := hw.1
 refine yd rfl (ι := Nat) (fun i => i ≤ rr.length) (fun i => ⟨[(5, sV (.int .i64 i)), (1, sV (.int .i64 (mdk (mk qx) rr k i))), (0, .one (.h 1000000000 rr.length))], [(1000000000, .arr true z 0 (md (mk qx) rr k i))]⟩) (fun i => rr.length - i) 0 (Nat.zero_le _) ?_ ?_
 · exact ⟨⟨rfl, congrArg (fun n => Cell.s (.int .i64 n)) z02.symm, ⟨rfl, rfl, rfl⟩, trivial⟩, ⟨⟨q0b.symm, .inl rfl, .inl rfl⟩, trivial⟩, rfl⟩
 · intro i hi J hJ
   refine xb rfl (fun h => ?_) (fun h => ?_)
   · have h : i < rr.length := by simpa using h
     obtain ⟨row, hg⟩ : ∃ row, rr[i]? = some row := ⟨_, List.getElem?_eq_getElem h⟩
     obtain ⟨x0, x1, x2, x3, rfl⟩ := z25 (hw.2 row (List.mem_of_getElem? hg))
     have hl := q0v (f := (mk qx)) (k := k) hi
     have hg0 := y0v (f := (mk qx)) (k := k) hg
     have hlt : i < (md (mk qx) rr k i).length := by omega
     refine xs rfl (hl).symm (xs rfl (Int.natCast_nonneg _) (y9 rfl _ hg0 (xs rfl rfl (xs rfl (hl).symm (y9 rfl _ hg0 (xs rfl (by show 0 + 1 ≤ 4; omega) (xs rfl ⟨trivial, trivial⟩ ?_)))))))
     refine xs rfl (yb (hl)).symm (xs rfl (Int.natCast_nonneg _) (y9 rfl _ (zw (hl) h) (xs rfl rfl (xs rfl (yb (hl)).symm (y9 rfl _ (zw (hl) h) (xs rfl (by show 1 + 1 ≤ 4; omega) (xs rfl ⟨trivial, trivial⟩ ?_)))))))
     refine xs rfl (yb (yb (hl))).symm (xs rfl (Int.natCast_nonneg _) (y9 rfl _ (zw (yb (hl)) h) (xs rfl rfl (xs rfl (yb (yb (hl))).symm (y9 rfl _ (zw (yb (hl)) h) (xs rfl (by show 2 + 1 ≤ 4; omega) (xs rfl ⟨trivial, trivial⟩ ?_)))))))
     refine xs rfl (yb (yb (yb (hl)))).symm (xs rfl (Int.natCast_nonneg _) (y9 rfl _ (zw (yb (yb (hl))) h) (xs rfl rfl (xs rfl (yb (yb (yb (hl)))).symm (y9 rfl _ (zw (yb (yb (hl))) h) (xs rfl (by show 3 + 1 ≤ 4; omega) (xs rfl ⟨trivial, trivial⟩ ?_)))))))
     refine ya rfl (hJ _ (i + 1) (by omega) (by omega) ?_)
     refine ⟨⟨cwi (by omega) (by omega) (by omega), ?_, ⟨rfl, rfl, rfl⟩, trivial⟩, ⟨⟨?_, .inl rfl, .inl rfl⟩, trivial⟩, rfl⟩
     · rw [q01 hg]; rfl
     · refine Eq.trans ?_ (z0w hg)
       try simp only [Int.toNat_natCast, zt hg0, ssr hlt, List.set_set]
       rfl
   · have h : ¬ i < rr.length := by simpa using h
     have : i = rr.length := by omega
     subst this
     exact xr rfl (q1p rfl ⟨⟨rfl, congrArg (Value.int .i64) z0c, trivial⟩, z6 rfl⟩ ⟨⟨rfl, rfl, z0v, qp _ _ _, qr hw⟩, trivial⟩)
theorem y11 (z : Nat) (rr : List (List Cell)) (k : Int) (hw : WR 9000000000000000000 z8 rr) : PG Tryz.prog 91 [.one (.giv true z rr), .one (.bor (i64 k))] (rI (mkR (mk z8) rr k).2) [(0, (mkR (mk z8) rr k).1)] := by
 refine PG.begin Tryz.func91 rfl (by kernel_rfl) ?_
 have hlen := hw.1
 refine yd rfl (ι := Nat) (fun i => i ≤ rr.length) (fun i => ⟨[(5, sV (.int .i64 i)), (1, sV (.int .i64 (mdk (mk z8) rr k i))), (0, .one (.h 1000000000 rr.length))], [(1000000000, .arr true z 0 (md (mk z8) rr k i))]⟩) (fun i => rr.length - i) 0 (Nat.zero_le _) ?_ ?_
 · exact ⟨⟨rfl, congrArg (fun n => Cell.s (.int .i64 n)) z02.symm, ⟨rfl, rfl, rfl⟩, trivial⟩, ⟨⟨q0b.symm, .inl rfl, .inl rfl⟩, trivial⟩, rfl⟩
 · intro i hi J hJ
   refine xb rfl (fun h => ?_) (fun h => ?_)
   · have h : i < rr.length := by simpa using h
     obtain ⟨row, hg⟩ : ∃ row, rr[i]? = some row := ⟨_, List.getElem?_eq_getElem h⟩
     obtain ⟨x0, x1, rfl, h1⟩ := y06 (hw.2 row (List.mem_of_getElem? hg))
     have hl := q0v (f := (mk z8)) (k := k) hi
     have hg0 := y0v (f := (mk z8)) (k := k) hg
     have hlt : i < (md (mk z8) rr k i).length := by omega
     refine xs rfl (hl).symm (xs rfl (Int.natCast_nonneg _) (y9 rfl _ hg0 (xs rfl rfl (xs rfl (hl).symm (y9 rfl _ hg0 (xs rfl (by show 0 + 1 ≤ 2; omega) (xs rfl ⟨trivial, trivial⟩ ?_)))))))
     refine xs rfl (yb (hl)).symm (xs rfl (Int.natCast_nonneg _) (y9 rfl _ (zw (hl) h) (xs rfl rfl (xs rfl (yb (hl)).symm (y9 rfl _ (zw (hl) h) ?_)))))
     refine y0n rfl (z57 0 _ _ h1) ⟨⟨rfl, rfl, rfl, _, (zw (hl) h), rfl⟩, rfl, trivial⟩ rfl ?_
     refine ya rfl (hJ _ (i + 1) (by omega) (by omega) ?_)
     refine ⟨⟨cwi (by omega) (by omega) (by omega), ?_, ⟨rfl, rfl, rfl⟩, trivial⟩, ⟨⟨?_, .inl rfl, .inl rfl⟩, trivial⟩, rfl⟩
     · rw [q01 hg]; rfl
     · refine Eq.trans ?_ (z0w hg)
       try simp only [Int.toNat_natCast, zt hg0, ssr hlt, List.set_set]
       rfl
   · have h : ¬ i < rr.length := by simpa using h
     have : i = rr.length := by omega
     subst this
     exact xr rfl (q1p rfl ⟨⟨rfl, congrArg (Value.int .i64) z0c, trivial⟩, z6 rfl⟩ ⟨⟨rfl, rfl, z0v, qp _ _ _, qr hw⟩, trivial⟩)
theorem q2w (z : Nat) (rr : List (List Cell)) (k : Int) (hw : WR 9000000000000000000 zc rr) : PG Tryz.prog 156 [.one (.giv true z rr), .one (.bor (i64 k))] (rI (mkR (mk zc) rr k).2) [(0, (mkR (mk zc) rr k).1)] := by
 refine PG.begin Tryz.func156 rfl (by kernel_rfl) ?_
 have hlen := hw.1
 refine yd rfl (ι := Nat) (fun i => i ≤ rr.length) (fun i => ⟨[(5, sV (.int .i64 i)), (1, sV (.int .i64 (mdk (mk zc) rr k i))), (0, .one (.h 1000000000 rr.length))], [(1000000000, .arr true z 0 (md (mk zc) rr k i))]⟩) (fun i => rr.length - i) 0 (Nat.zero_le _) ?_ ?_
 · exact ⟨⟨rfl, congrArg (fun n => Cell.s (.int .i64 n)) z02.symm, ⟨rfl, rfl, rfl⟩, trivial⟩, ⟨⟨q0b.symm, .inl rfl, .inl rfl⟩, trivial⟩, rfl⟩
 · intro i hi J hJ
   refine xb rfl (fun h => ?_) (fun h => ?_)
   · have h : i < rr.length := by simpa using h
     obtain ⟨row, hg⟩ : ∃ row, rr[i]? = some row := ⟨_, List.getElem?_eq_getElem h⟩
     obtain ⟨x0, x1, x2, rfl⟩ := y0a (hw.2 row (List.mem_of_getElem? hg))
     have hl := q0v (f := (mk zc)) (k := k) hi
     have hg0 := y0v (f := (mk zc)) (k := k) hg
     have hlt : i < (md (mk zc) rr k i).length := by omega
     refine xs rfl (hl).symm (xs rfl (Int.natCast_nonneg _) (y9 rfl _ hg0 (xs rfl rfl (xs rfl (hl).symm (y9 rfl _ hg0 (xs rfl (by show 0 + 1 ≤ 3; omega) (xs rfl ⟨trivial, trivial⟩ ?_)))))))
     refine xs rfl (yb (hl)).symm (xs rfl (Int.natCast_nonneg _) (y9 rfl _ (zw (hl) h) (xs rfl rfl (xs rfl (yb (hl)).symm (y9 rfl _ (zw (hl) h) (xs rfl (by show 1 + 1 ≤ 3; omega) (xs rfl ⟨trivial, trivial⟩ ?_)))))))
     refine xs rfl (yb (yb (hl))).symm (xs rfl (Int.natCast_nonneg _) (y9 rfl _ (zw (yb (hl)) h) (xs rfl rfl (xs rfl (yb (yb (hl))).symm (y9 rfl _ (zw (yb (hl)) h) (xs rfl (by show 2 + 1 ≤ 3; omega) (xs rfl ⟨trivial, trivial⟩ ?_)))))))
     refine ya rfl (hJ _ (i + 1) (by omega) (by omega) ?_)
     refine ⟨⟨cwi (by omega) (by omega) (by omega), ?_, ⟨rfl, rfl, rfl⟩, trivial⟩, ⟨⟨?_, .inl rfl, .inl rfl⟩, trivial⟩, rfl⟩
     · rw [q01 hg]; rfl
     · refine Eq.trans ?_ (z0w hg)
       try simp only [Int.toNat_natCast, zt hg0, ssr hlt, List.set_set]
       rfl
   · have h : ¬ i < rr.length := by simpa using h
     have : i = rr.length := by omega
     subst this
     exact xr rfl (q1p rfl ⟨⟨rfl, congrArg (Value.int .i64) z0c, trivial⟩, z6 rfl⟩ ⟨⟨rfl, rfl, z0v, qp _ _ _, qr hw⟩, trivial⟩)
theorem z2e (z : Nat) (rr : List (List Cell)) (k : Int) (hw : WR 9000000000000000000 yh rr) : PG Tryz.prog 157 [.one (.giv true z rr), .one (.bor (i64 k))] (rI (mkR (mk yh) rr k).2) [(0, (mkR (mk yh) rr k).1)] := by
 refine PG.begin Tryz.func157 rfl (by kernel_rfl) ?_
 have hlen := hw.1
 refine yd rfl (ι := Nat) (fun i => i ≤ rr.length) (fun i => ⟨[(5, sV (.int .i64 i)), (1, sV (.int .i64 (mdk (mk yh) rr k i))), (0, .one (.h 1000000000 rr.length))], [(1000000000, .arr true z 0 (md (mk yh) rr k i))]⟩) (fun i => rr.length - i) 0 (Nat.zero_le _) ?_ ?_
 · exact ⟨⟨rfl, congrArg (fun n => Cell.s (.int .i64 n)) z02.symm, ⟨rfl, rfl, rfl⟩, trivial⟩, ⟨⟨q0b.symm, .inl rfl, .inl rfl⟩, trivial⟩, rfl⟩
 · intro i hi J hJ
   refine xb rfl (fun h => ?_) (fun h => ?_)
   · have h : i < rr.length := by simpa using h
     obtain ⟨row, hg⟩ : ∃ row, rr[i]? = some row := ⟨_, List.getElem?_eq_getElem h⟩
     obtain ⟨x0, x1, rfl⟩ := z1d (hw.2 row (List.mem_of_getElem? hg))
     have hl := q0v (f := (mk yh)) (k := k) hi
     have hg0 := y0v (f := (mk yh)) (k := k) hg
     have hlt : i < (md (mk yh) rr k i).length := by omega
     refine xs rfl (hl).symm (xs rfl (Int.natCast_nonneg _) (y9 rfl _ hg0 (xs rfl rfl (xs rfl (hl).symm (y9 rfl _ hg0 (xs rfl (by show 0 + 1 ≤ 2; omega) (xs rfl ⟨trivial, trivial⟩ ?_)))))))
     refine xs rfl (yb (hl)).symm (xs rfl (Int.natCast_nonneg _) (y9 rfl _ (zw (hl) h) (xs rfl rfl (xs rfl (yb (hl)).symm (y9 rfl _ (zw (hl) h) (xs rfl (by show 1 + 1 ≤ 2; omega) (xs rfl ⟨trivial, trivial⟩ ?_)))))))
     refine ya rfl (hJ _ (i + 1) (by omega) (by omega) ?_)
     refine ⟨⟨cwi (by omega) (by omega) (by omega), ?_, ⟨rfl, rfl, rfl⟩, trivial⟩, ⟨⟨?_, .inl rfl, .inl rfl⟩, trivial⟩, rfl⟩
     · rw [q01 hg]; rfl
     · refine Eq.trans ?_ (z0w hg)
       try simp only [Int.toNat_natCast, zt hg0, ssr hlt, List.set_set]
       rfl
   · have h : ¬ i < rr.length := by simpa using h
     have : i = rr.length := by omega
     subst this
     exact xr rfl (q1p rfl ⟨⟨rfl, congrArg (Value.int .i64) z0c, trivial⟩, z6 rfl⟩ ⟨⟨rfl, rfl, z0v, qp _ _ _, qr hw⟩, trivial⟩)
theorem y0z (z : Nat) (rr : List (List Cell)) (k : Int) (hw : WR 9000000000000000000 (.i .i64 .nil) rr) : PG Tryz.prog 101 [.one (.giv true z rr), .one (.bor (i64 k))] (rI (mkR (mk (.i .i64 .nil)) rr k).2) [(0, (mkR (mk (.i .i64 .nil)) rr k).1)] := by
 refine PG.begin Tryz.func101 rfl (by kernel_rfl) ?_
 have hlen := hw.1
 refine yd rfl (ι := Nat) (fun i => i ≤ rr.length) (fun i => ⟨[(5, sV (.int .i64 i)), (1, sV (.int .i64 (mdk (mk (.i .i64 .nil)) rr k i))), (0, .one (.h 1000000000 rr.length))], [(1000000000, .arr true z 0 (md (mk (.i .i64 .nil)) rr k i))]⟩) (fun i => rr.length - i) 0 (Nat.zero_le _) ?_ ?_
 · exact ⟨⟨rfl, congrArg (fun n => Cell.s (.int .i64 n)) z02.symm, ⟨rfl, rfl, rfl⟩, trivial⟩, ⟨⟨q0b.symm, .inl rfl, .inl rfl⟩, trivial⟩, rfl⟩
 · intro i hi J hJ
   refine xb rfl (fun h => ?_) (fun h => ?_)
   · have h : i < rr.length := by simpa using h
     obtain ⟨row, hg⟩ : ∃ row, rr[i]? = some row := ⟨_, List.getElem?_eq_getElem h⟩
     obtain ⟨x0, _, rfl, hnil⟩ := ((hw.2 row (List.mem_of_getElem? hg))).zv; obtain rfl := hnil.zx
     have hl := q0v (f := (mk (.i .i64 .nil))) (k := k) hi
     have hg0 := y0v (f := (mk (.i .i64 .nil))) (k := k) hg
     have hlt : i < (md (mk (.i .i64 .nil)) rr k i).length := by omega
     refine xs rfl (hl).symm (xs rfl (Int.natCast_nonneg _) (y9 rfl _ hg0 (xs rfl rfl (xs rfl (hl).symm (y9 rfl _ hg0 (xs rfl (by show 0 + 1 ≤ 1; omega) (xs rfl ⟨trivial, trivial⟩ ?_)))))))
     refine ya rfl (hJ _ (i + 1) (by omega) (by omega) ?_)
     refine ⟨⟨cwi (by omega) (by omega) (by omega), ?_, ⟨rfl, rfl, rfl⟩, trivial⟩, ⟨⟨?_, .inl rfl, .inl rfl⟩, trivial⟩, rfl⟩
     · rw [q01 hg]; rfl
     · refine Eq.trans ?_ (z0w hg)
       try simp only [Int.toNat_natCast, zt hg0, ssr hlt, List.set_set]
       rfl
   · have h : ¬ i < rr.length := by simpa using h
     have : i = rr.length := by omega
     subst this
     exact xr rfl (q1p rfl ⟨⟨rfl, congrArg (Value.int .i64) z0c, trivial⟩, z6 rfl⟩ ⟨⟨rfl, rfl, z0v, qp _ _ _, qr hw⟩, trivial⟩)
theorem q3y (z : Nat) (rr : List (List Cell)) (k : Int) (hw : WR 9000000000000000000 qe rr) : PG Tryz.prog 92 [.one (.giv true z rr), .one (.bor (i64 k))] (rI (mkR (mk qe) rr k).2) [(0, (mkR (mk qe) rr k).1)] := by
 refine PG.begin Tryz.func92 rfl (by kernel_rfl) ?_
 have hlen := hw.1
 refine yd rfl (ι := Nat) (fun i => i ≤ rr.length) (fun i => ⟨[(5, sV (.int .i64 i)), (1, sV (.int .i64 (mdk (mk qe) rr k i))), (0, .one (.h 1000000000 rr.length))], [(1000000000, .arr true z 0 (md (mk qe) rr k i))]⟩) (fun i => rr.length - i) 0 (Nat.zero_le _) ?_ ?_
 · exact ⟨⟨rfl, congrArg (fun n => Cell.s (.int .i64 n)) z02.symm, ⟨rfl, rfl, rfl⟩, trivial⟩, ⟨⟨q0b.symm, .inl rfl, .inl rfl⟩, trivial⟩, rfl⟩
 · intro i hi J hJ
   refine xb rfl (fun h => ?_) (fun h => ?_)
   · have h : i < rr.length := by simpa using h
     obtain ⟨row, hg⟩ : ∃ row, rr[i]? = some row := ⟨_, List.getElem?_eq_getElem h⟩
     obtain ⟨x0, x1, x2, x3, x4, x5, rfl, h1, h2, h3, h4, h5⟩ := y0u (hw.2 row (List.mem_of_getElem? hg))
     have hl := q0v (f := (mk qe)) (k := k) hi
     have hg0 := y0v (f := (mk qe)) (k := k) hg
     have hlt : i < (md (mk qe) rr k i).length := by omega
     refine xs rfl (hl).symm (xs rfl (Int.natCast_nonneg _) (y9 rfl _ hg0 (xs rfl rfl (xs rfl (hl).symm (y9 rfl _ hg0 (xs rfl (by show 0 + 1 ≤ 6; omega) (xs rfl ⟨trivial, trivial⟩ ?_)))))))
     refine xs rfl (yb (hl)).symm (xs rfl (Int.natCast_nonneg _) (y9 rfl _ (zw (hl) h) (xs rfl rfl (xs rfl (yb (hl)).symm (y9 rfl _ (zw (hl) h) ?_)))))
     refine y0n rfl (q2w 0 _ _ h1) ⟨⟨rfl, rfl, rfl, _, (zw (hl) h), rfl⟩, rfl, trivial⟩ rfl ?_
     refine xs rfl (lsr (yb (hl))).symm (xs rfl (Int.natCast_nonneg _) (y9 rfl _ (ze (zw (hl) h)) (xs rfl rfl (xs rfl (lsr (yb (hl))).symm (y9 rfl _ (ze (zw (hl) h)) ?_)))))
     refine y0n rfl (z2e 0 _ _ h2) ⟨⟨rfl, rfl, rfl, _, (ze (zw (hl) h)), rfl⟩, rfl, trivial⟩ rfl ?_
     refine xs rfl (lsr (lsr (yb (hl)))).symm (xs rfl (Int.natCast_nonneg _) (y9 rfl _ (ze (ze (zw (hl) h))) (xs rfl rfl (xs rfl (lsr (lsr (yb (hl)))).symm (y9 rfl _ (ze (ze (zw (hl) h))) ?_)))))
     refine y0n rfl (y11 0 _ _ h3) ⟨⟨rfl, rfl, rfl, _, (ze (ze (zw (hl) h))), rfl⟩, rfl, trivial⟩ rfl ?_
     refine xs rfl (lsr (lsr (lsr (yb (hl))))).symm (xs rfl (Int.natCast_nonneg _) (y9 rfl _ (ze (ze (ze (zw (hl) h)))) (xs rfl rfl (xs rfl (lsr (lsr (lsr (yb (hl))))).symm (y9 rfl _ (ze (ze (ze (zw (hl) h)))) ?_)))))
     refine y0n rfl (z2e 0 _ _ h4) ⟨⟨rfl, rfl, rfl, _, (ze (ze (ze (zw (hl) h)))), rfl⟩, rfl, trivial⟩ rfl ?_
     refine xs rfl (lsr (lsr (lsr (lsr (yb (hl)))))).symm (xs rfl (Int.natCast_nonneg _) (y9 rfl _ (ze (ze (ze (ze (zw (hl) h))))) (xs rfl rfl (xs rfl (lsr (lsr (lsr (lsr (yb (hl)))))).symm (y9 rfl _ (ze (ze (ze (ze (zw (hl) h))))) ?_)))))
     refine y0n rfl (y0z 0 _ _ h5) ⟨⟨rfl, rfl, rfl, _, (ze (ze (ze (ze (zw (hl) h))))), rfl⟩, rfl, trivial⟩ rfl ?_
     refine ya rfl (hJ _ (i + 1) (by omega) (by omega) ?_)
     refine ⟨⟨cwi (by omega) (by omega) (by omega), ?_, ⟨rfl, rfl, rfl⟩, trivial⟩, ⟨⟨?_, .inl rfl, .inl rfl⟩, trivial⟩, rfl⟩
     · rw [q01 hg]; rfl
     · refine Eq.trans ?_ (z0w hg)
       try simp only [Int.toNat_natCast, zt hg0, ssr hlt, List.set_set]
       rfl
   · have h : ¬ i < rr.length := by simpa using h
     have : i = rr.length := by omega
     subst this
     exact xr rfl (q1p rfl ⟨⟨rfl, congrArg (Value.int .i64) z0c, trivial⟩, z6 rfl⟩ ⟨⟨rfl, rfl, z0v, qp _ _ _, qr hw⟩, trivial⟩)
theorem y2e (z : Nat) (rr : List (List Cell)) (k : Int) (hw : WR 9000000000000000000 zm rr) : PG Tryz.prog 226 [.one (.giv true z rr), .one (.bor (i64 k))] (rI (mkR (mk zm) rr k).2) [(0, (mkR (mk zm) rr k).1)] := by
 refine PG.begin Tryz.func226 rfl (by kernel_rfl) ?_
 have hlen := hw.1
 refine yd rfl (ι := Nat) (fun i => i ≤ rr.length) (fun i => ⟨[(5, sV (.int .i64 i)), (1, sV (.int .i64 (mdk (mk zm) rr k i))), (0, .one (.h 1000000000 rr.length))], [(1000000000, .arr true z 0 (md (mk zm) rr k i))]⟩) (fun i => rr.length - i) 0 (Nat.zero_le _) ?_ ?_
 · exact ⟨⟨rfl, congrArg (fun n => Cell.s (.int .i64 n)) z02.symm, ⟨rfl, rfl, rfl⟩, trivial⟩, ⟨⟨q0b.symm, .inl rfl, .inl rfl⟩, trivial⟩, rfl⟩
 · intro i hi J hJ
   refine xb rfl (fun h => ?_) (fun h => ?_)
   · have h : i < rr.length := by simpa using h
     obtain ⟨row, hg⟩ : ∃ row, rr[i]? = some row := ⟨_, List.getElem?_eq_getElem h⟩
     obtain ⟨x0, x1, rfl⟩ := q1d (hw.2 row (List.mem_of_getElem? hg))
     have hl := q0v (f := (mk zm)) (k := k) hi
     have hg0 := y0v (f := (mk zm)) (k := k) hg
     have hlt : i < (md (mk zm) rr k i).length := by omega
     refine xs rfl (hl).symm (xs rfl (Int.natCast_nonneg _) (y9 rfl _ hg0 (xs rfl rfl (xs rfl (hl).symm (y9 rfl _ hg0 (xs rfl (by show 0 + 1 ≤ 2; omega) (xs rfl ⟨trivial, trivial⟩ ?_)))))))
     refine xs rfl (yb (hl)).symm (xs rfl (Int.natCast_nonneg _) (y9 rfl _ (zw (hl) h) (xs rfl rfl (xs rfl (yb (hl)).symm (y9 rfl _ (zw (hl) h) (xs rfl (by show 1 + 1 ≤ 2; omega) (xs rfl ⟨trivial, trivial⟩ ?_)))))))
     refine ya rfl (hJ _ (i + 1) (by omega) (by omega) ?_)
     refine ⟨⟨cwi (by omega) (by omega) (by omega), ?_, ⟨rfl, rfl, rfl⟩, trivial⟩, ⟨⟨?_, .inl rfl, .inl rfl⟩, trivial⟩, rfl⟩
     · rw [q01 hg]; rfl
     · refine Eq.trans ?_ (z0w hg)
       try simp only [Int.toNat_natCast, zt hg0, ssr hlt, List.set_set]
       rfl
   · have h : ¬ i < rr.length := by simpa using h
     have : i = rr.length := by omega
     subst this
     exact xr rfl (q1p rfl ⟨⟨rfl, congrArg (Value.int .i64) z0c, trivial⟩, z6 rfl⟩ ⟨⟨rfl, rfl, z0v, qp _ _ _, qr hw⟩, trivial⟩)
theorem y4l (z : Nat) (rr : List (List Cell)) (k : Int) (hw : WR 9000000000000000000 zl rr) : PG Tryz.prog 158 [.one (.giv true z rr), .one (.bor (i64 k))] (rI (mkR (mk zl) rr k).2) [(0, (mkR (mk zl) rr k).1)] := by
 refine PG.begin Tryz.func158 rfl (by kernel_rfl) ?_
 have hlen := hw.1
 refine yd rfl (ι := Nat) (fun i => i ≤ rr.length) (fun i => ⟨[(5, sV (.int .i64 i)), (1, sV (.int .i64 (mdk (mk zl) rr k i))), (0, .one (.h 1000000000 rr.length))], [(1000000000, .arr true z 0 (md (mk zl) rr k i))]⟩) (fun i => rr.length - i) 0 (Nat.zero_le _) ?_ ?_
 · exact ⟨⟨rfl, congrArg (fun n => Cell.s (.int .i64 n)) z02.symm, ⟨rfl, rfl, rfl⟩, trivial⟩, ⟨⟨q0b.symm, .inl rfl, .inl rfl⟩, trivial⟩, rfl⟩
 · intro i hi J hJ
   refine xb rfl (fun h => ?_) (fun h => ?_)
   · have h : i < rr.length := by simpa using h
     obtain ⟨row, hg⟩ : ∃ row, rr[i]? = some row := ⟨_, List.getElem?_eq_getElem h⟩
     obtain ⟨x0, x1, x2, x3, x4, x5, rfl, h5⟩ := y1d (hw.2 row (List.mem_of_getElem? hg))
     have hl := q0v (f := (mk zl)) (k := k) hi
     have hg0 := y0v (f := (mk zl)) (k := k) hg
     have hlt : i < (md (mk zl) rr k i).length := by omega
     refine xs rfl (hl).symm (xs rfl (Int.natCast_nonneg _) (y9 rfl _ hg0 (xs rfl rfl (xs rfl (hl).symm (y9 rfl _ hg0 (xs rfl (by show 0 + 1 ≤ 6; omega) (xs rfl ⟨trivial, trivial⟩ ?_)))))))
     refine xs rfl (yb (hl)).symm (xs rfl (Int.natCast_nonneg _) (y9 rfl _ (zw (hl) h) (xs rfl rfl (xs rfl (yb (hl)).symm (y9 rfl _ (zw (hl) h) (xs rfl (by show 1 + 1 ≤ 6; omega) (xs rfl ⟨trivial, trivial⟩ ?_)))))))
     refine xs rfl (yb (yb (hl))).symm (xs rfl (Int.natCast_nonneg _) (y9 rfl _ (zw (yb (hl)) h) (xs rfl rfl (xs rfl (yb (yb (hl))).symm (y9 rfl _ (zw (yb (hl)) h) (xs rfl (by show 2 + 1 ≤ 6; omega) (xs rfl ⟨trivial, trivial⟩ ?_)))))))
     refine xs rfl (yb (yb (yb (hl)))).symm (xs rfl (Int.natCast_nonneg _) (y9 rfl _ (zw (yb (yb (hl))) h) (xs rfl rfl (xs rfl (yb (yb (yb (hl)))).symm (y9 rfl _ (zw (yb (yb (hl))) h) (xs rfl (by show 3 + 1 ≤ 6; omega) (xs rfl ⟨trivial, trivial⟩ ?_)))))))
     refine xs rfl (yb (yb (yb (yb (hl))))).symm (xs rfl (Int.natCast_nonneg _) (y9 rfl _ (zw (yb (yb (yb (hl)))) h) (xs rfl rfl (xs rfl (yb (yb (yb (yb (hl))))).symm (y9 rfl _ (zw (yb (yb (yb (hl)))) h) (xs rfl (by show 4 + 1 ≤ 6; omega) (xs rfl ⟨trivial, trivial⟩ ?_)))))))
     refine xs rfl (yb (yb (yb (yb (yb (hl)))))).symm (xs rfl (Int.natCast_nonneg _) (y9 rfl _ (zw (yb (yb (yb (yb (hl))))) h) (xs rfl rfl (xs rfl (yb (yb (yb (yb (yb (hl)))))).symm (y9 rfl _ (zw (yb (yb (yb (yb (hl))))) h) ?_)))))
     refine y0n rfl (y2e 0 _ _ h5) ⟨⟨rfl, rfl, rfl, _, (zw (yb (yb (yb (yb (hl))))) h), rfl⟩, rfl, trivial⟩ rfl ?_
     refine ya rfl (hJ _ (i + 1) (by omega) (by omega) ?_)
     refine ⟨⟨cwi (by omega) (by omega) (by omega), ?_, ⟨rfl, rfl, rfl⟩, trivial⟩, ⟨⟨?_, .inl rfl, .inl rfl⟩, trivial⟩, rfl⟩
     · rw [q01 hg]; rfl
     · refine Eq.trans ?_ (z0w hg)
       try simp only [Int.toNat_natCast, zt hg0, ssr hlt, List.set_set]
       rfl
   · have h : ¬ i < rr.length := by simpa using h
     have : i = rr.length := by omega
     subst this
     exact xr rfl (q1p rfl ⟨⟨rfl, congrArg (Value.int .i64) z0c, trivial⟩, z6 rfl⟩ ⟨⟨rfl, rfl, z0v, qp _ _ _, qr hw⟩, trivial⟩)
theorem z2i (z : Nat) (rr : List (List Cell)) (k : Int) (hw : WR 9000000000000000000 za rr) : PG Tryz.prog 93 [.one (.giv true z rr), .one (.bor (i64 k))] (rI (mkR (mk za) rr k).2) [(0, (mkR (mk za) rr k).1)] := by
 refine PG.begin Tryz.func93 rfl (by kernel_rfl) ?_
 have hlen := hw.1
 refine yd rfl (ι := Nat) (fun i => i ≤ rr.length) (fun i => ⟨[(5, sV (.int .i64 i)), (1, sV (.int .i64 (mdk (mk za) rr k i))), (0, .one (.h 1000000000 rr.length))], [(1000000000, .arr true z 0 (md (mk za) rr k i))]⟩) (fun i => rr.length - i) 0 (Nat.zero_le _) ?_ ?_
 · exact ⟨⟨rfl, congrArg (fun n => Cell.s (.int .i64 n)) z02.symm, ⟨rfl, rfl, rfl⟩, trivial⟩, ⟨⟨q0b.symm, .inl rfl, .inl rfl⟩, trivial⟩, rfl⟩
 · intro i hi J hJ
   refine xb rfl (fun h => ?_) (fun h => ?_)
   · have h : i < rr.length := by simpa using h
     obtain ⟨row, hg⟩ : ∃ row, rr[i]? = some row := ⟨_, List.getElem?_eq_getElem h⟩
     obtain ⟨x0, rfl, h0⟩ := z06 (hw.2 row (List.mem_of_getElem? hg))
     have hl := q0v (f := (mk za)) (k := k) hi
     have hg0 := y0v (f := (mk za)) (k := k) hg
     have hlt : i < (md (mk za) rr k i).length := by omega
     refine xs rfl (hl).symm (xs rfl (Int.natCast_nonneg _) (y9 rfl _ hg0 (xs rfl rfl (xs rfl (hl).symm (y9 rfl _ hg0 ?_)))))
     refine y0n rfl (y4l 0 _ _ h0) ⟨⟨rfl, rfl, rfl, _, hg0, rfl⟩, rfl, trivial⟩ rfl ?_
     refine ya rfl (hJ _ (i + 1) (by omega) (by omega) ?_)
     refine ⟨⟨cwi (by omega) (by omega) (by omega), ?_, ⟨rfl, rfl, rfl⟩, trivial⟩, ⟨⟨?_, .inl rfl, .inl rfl⟩, trivial⟩, rfl⟩
     · rw [q01 hg]; rfl
     · refine Eq.trans ?_ (z0w hg)
       try simp only [Int.toNat_natCast, zt hg0, ssr hlt, List.set_set]
       rfl
   · have h : ¬ i < rr.length := by simpa using h
     have : i = rr.length := by omega
     subst this
     exact xr rfl (q1p rfl ⟨⟨rfl, congrArg (Value.int .i64) z0c, trivial⟩, z6 rfl⟩ ⟨⟨rfl, rfl, z0v, qp _ _ _, qr hw⟩, trivial⟩)
theorem y57 (z : Nat) (rr : List (List Cell)) (k : Int) (hw : WR 9000000000000000000 zp rr) : PG Tryz.prog 159 [.one (.giv true z rr), .one (.bor (i64 k))] (rI (mkR (mk zp) rr k).2) [(0, (mkR (mk zp) rr k).1)] := by
 refine PG.begin Tryz.func159 rfl (by kernel_rfl) ?_
 have hlen := hw.1
 refine yd rfl (ι := Nat) (fun i => i ≤ rr.length) (fun i => ⟨[(5, sV (.int .i64 i)), (1, sV (.int .i64 (mdk (mk zp) rr k i))), (0, .one (.h 1000000000 rr.length))], [(1000000000, .arr true z 0 (md (mk zp) rr k i))]⟩) (fun i => rr.length - i) 0 (Nat.zero_le _) ?_ ?_
 · exact ⟨⟨rfl, congrArg (fun n => Cell.s (.int .i64 n)) z02.symm, ⟨rfl, rfl, rfl⟩, trivial⟩, ⟨⟨q0b.symm, .inl rfl, .inl rfl⟩, trivial⟩, rfl⟩
 · intro i hi J hJ
   refine xb rfl (fun h => ?_) (fun h => ?_)
   · have h : i < rr.length := by simpa using h
     obtain ⟨row, hg⟩ : ∃ row, rr[i]? = some row := ⟨_, List.getElem?_eq_getElem h⟩
     obtain ⟨x0, x1, x2, x3, x4, x5, rfl, h4, h5⟩ := y25 (hw.2 row (List.mem_of_getElem? hg))
     have hl := q0v (f := (mk zp)) (k := k) hi
     have hg0 := y0v (f := (mk zp)) (k := k) hg
     have hlt : i < (md (mk zp) rr k i).length := by omega
     refine xs rfl (hl).symm (xs rfl (Int.natCast_nonneg _) (y9 rfl _ hg0 (xs rfl rfl (xs rfl (hl).symm (y9 rfl _ hg0 (xs rfl (by show 0 + 1 ≤ 6; omega) (xs rfl ⟨trivial, trivial⟩ ?_)))))))
     refine xs rfl (yb (hl)).symm (xs rfl (Int.natCast_nonneg _) (y9 rfl _ (zw (hl) h) (xs rfl rfl (xs rfl (yb (hl)).symm (y9 rfl _ (zw (hl) h) (xs rfl (by show 1 + 1 ≤ 6; omega) (xs rfl ⟨trivial, trivial⟩ ?_)))))))
     refine xs rfl (yb (yb (hl))).symm (xs rfl (Int.natCast_nonneg _) (y9 rfl _ (zw (yb (hl)) h) (xs rfl rfl (xs rfl (yb (yb (hl))).symm (y9 rfl _ (zw (yb (hl)) h) (xs rfl (by show 2 + 1 ≤ 6; omega) (xs rfl ⟨trivial, trivial⟩ ?_)))))))
     refine xs rfl (yb (yb (yb (hl)))).symm (xs rfl (Int.natCast_nonneg _) (y9 rfl _ (zw (yb (yb (hl))) h) (xs rfl rfl (xs rfl (yb (yb (yb (hl)))).symm (y9 rfl _ (zw (yb (yb (hl))) h) (xs rfl (by show 3 + 1 ≤ 6; omega) (xs rfl ⟨trivial, trivial⟩ ?_)))))))
     refine xs rfl (yb (yb (yb (yb (hl))))).symm (xs rfl (Int.natCast_nonneg _) (y9 rfl _ (zw (yb (yb (yb (hl)))) h) (xs rfl rfl (xs rfl (yb (yb (yb (yb (hl))))).symm (y9 rfl _ (zw (yb (yb (yb (hl)))) h) ?_)))))
     refine y0n rfl (y0z 0 _ _ h4) ⟨⟨rfl, rfl, rfl, _, (zw (yb (yb (yb (hl)))) h), rfl⟩, rfl, trivial⟩ rfl ?_
     refine xs rfl (lsr (yb (yb (yb (yb (hl)))))).symm (xs rfl (Int.natCast_nonneg _) (y9 rfl _ (ze (zw (yb (yb (yb (hl)))) h)) (xs rfl rfl (xs rfl (lsr (yb (yb (yb (yb (hl)))))).symm (y9 rfl _ (ze (zw (yb (yb (yb (hl)))) h)) ?_)))))
     refine y0n rfl (y2e 0 _ _ h5) ⟨⟨rfl, rfl, rfl, _, (ze (zw (yb (yb (yb (hl)))) h)), rfl⟩, rfl, trivial⟩ rfl ?_
     refine ya rfl (hJ _ (i + 1) (by omega) (by omega) ?_)
     refine ⟨⟨cwi (by omega) (by omega) (by omega), ?_, ⟨rfl, rfl, rfl⟩, trivial⟩, ⟨⟨?_, .inl rfl, .inl rfl⟩, trivial⟩, rfl⟩
     · rw [q01 hg]; rfl
     · refine Eq.trans ?_ (z0w hg)
       try simp only [Int.toNat_natCast, zt hg0, ssr hlt, List.set_set]
       rfl
   · have h : ¬ i < rr.length := by simpa using h
     have : i = rr.length := by omega
     subst this
     exact xr rfl (q1p rfl ⟨⟨rfl, congrArg (Value.int .i64) z0c, trivial⟩, z6 rfl⟩ ⟨⟨rfl, rfl, z0v, qp _ _ _, qr hw⟩, trivial⟩)
theorem z3y (z : Nat) (rr : List (List Cell)) (k : Int) (hw : WR 9000000000000000000 zn rr) : PG Tryz.prog 160 [.one (.giv true z rr), .one (.bor (i64 k))] (rI (mkR (mk zn) rr k).2) [(0, (mkR (mk zn) rr k).1)] := by
 refine PG.begin Tryz.func160 rfl (by kernel_rfl) ?_
 have hlen := hw.1
 refine yd rfl (ι := Nat) (fun i => i ≤ rr.length) (fun i => ⟨[(5, sV (.int .i64 i)), (1, sV (.int .i64 (mdk (mk zn) rr k i))), (0, .one (.h 1000000000 rr.length))], [(1000000000, .arr true z 0 (md (mk zn) rr k i))]⟩) (fun i => rr.length - i) 0 (Nat.zero_le _) ?_ ?_
 · exact ⟨⟨rfl, congrArg (fun n => Cell.s (.int .i64 n)) z02.symm, ⟨rfl, rfl, rfl⟩, trivial⟩, ⟨⟨q0b.symm, .inl rfl, .inl rfl⟩, trivial⟩, rfl⟩
 · intro i hi J hJ
   refine xb rfl (fun h => ?_) (fun h => ?_)
   · have h : i < rr.length := by simpa using h
     obtain ⟨row, hg⟩ : ∃ row, rr[i]? = some row := ⟨_, List.getElem?_eq_getElem h⟩
     obtain ⟨x0, x1, x2, x3, x4, rfl⟩ := z0u (hw.2 row (List.mem_of_getElem? hg))
     have hl := q0v (f := (mk zn)) (k := k) hi
     have hg0 := y0v (f := (mk zn)) (k := k) hg
     have hlt : i < (md (mk zn) rr k i).length := by omega
     refine xs rfl (hl).symm (xs rfl (Int.natCast_nonneg _) (y9 rfl _ hg0 (xs rfl rfl (xs rfl (hl).symm (y9 rfl _ hg0 (xs rfl (by show 0 + 1 ≤ 5; omega) (xs rfl ⟨trivial, trivial⟩ ?_)))))))
     refine xs rfl (yb (hl)).symm (xs rfl (Int.natCast_nonneg _) (y9 rfl _ (zw (hl) h) (xs rfl rfl (xs rfl (yb (hl)).symm (y9 rfl _ (zw (hl) h) (xs rfl (by show 1 + 1 ≤ 5; omega) (xs rfl ⟨trivial, trivial⟩ ?_)))))))
     refine xs rfl (yb (yb (hl))).symm (xs rfl (Int.natCast_nonneg _) (y9 rfl _ (zw (yb (hl)) h) (xs rfl rfl (xs rfl (yb (yb (hl))).symm (y9 rfl _ (zw (yb (hl)) h) (xs rfl (by show 2 + 1 ≤ 5; omega) (xs rfl ⟨trivial, trivial⟩ ?_)))))))
     refine xs rfl (yb (yb (yb (hl)))).symm (xs rfl (Int.natCast_nonneg _) (y9 rfl _ (zw (yb (yb (hl))) h) (xs rfl rfl (xs rfl (yb (yb (yb (hl)))).symm (y9 rfl _ (zw (yb (yb (hl))) h) (xs rfl (by show 3 + 1 ≤ 5; omega) (xs rfl ⟨trivial, trivial⟩ ?_)))))))
     refine xs rfl (yb (yb (yb (yb (hl))))).symm (xs rfl (Int.natCast_nonneg _) (y9 rfl _ (zw (yb (yb (yb (hl)))) h) (xs rfl rfl (xs rfl (yb (yb (yb (yb (hl))))).symm (y9 rfl _ (zw (yb (yb (yb (hl)))) h) (xs rfl (by show 4 + 1 ≤ 5; omega) (xs rfl ⟨trivial, trivial⟩ ?_)))))))
     refine ya rfl (hJ _ (i + 1) (by omega) (by omega) ?_)
     refine ⟨⟨cwi (by omega) (by omega) (by omega), ?_, ⟨rfl, rfl, rfl⟩, trivial⟩, ⟨⟨?_, .inl rfl, .inl rfl⟩, trivial⟩, rfl⟩
     · rw [q01 hg]; rfl
     · refine Eq.trans ?_ (z0w hg)
       try simp only [Int.toNat_natCast, zt hg0, ssr hlt, List.set_set]
       rfl
   · have h : ¬ i < rr.length := by simpa using h
     have : i = rr.length := by omega
     subst this
     exact xr rfl (q1p rfl ⟨⟨rfl, congrArg (Value.int .i64) z0c, trivial⟩, z6 rfl⟩ ⟨⟨rfl, rfl, z0v, qp _ _ _, qr hw⟩, trivial⟩)
theorem q3a (z : Nat) (rr : List (List Cell)) (k : Int) (hw : WR 9000000000000000000 qd rr) : PG Tryz.prog 94 [.one (.giv true z rr), .one (.bor (i64 k))] (rI (mkR (mk qd) rr k).2) [(0, (mkR (mk qd) rr k).1)] := by
 refine PG.begin Tryz.func94 rfl (by kernel_rfl) ?_
 have hlen := hw.1
 refine yd rfl (ι := Nat) (fun i => i ≤ rr.length) (fun i => ⟨[(5, sV (.int .i64 i)), (1, sV (.int .i64 (mdk (mk qd) rr k i))), (0, .one (.h 1000000000 rr.length))], [(1000000000, .arr true z 0 (md (mk qd) rr k i))]⟩) (fun i => rr.length - i) 0 (Nat.zero_le _) ?_ ?_
 · exact ⟨⟨rfl, congrArg (fun n => Cell.s (.int .i64 n)) z02.symm, ⟨rfl, rfl, rfl⟩, trivial⟩, ⟨⟨q0b.symm, .inl rfl, .inl rfl⟩, trivial⟩, rfl⟩
 · intro i hi J hJ
   refine xb rfl (fun h => ?_) (fun h => ?_)
   · have h : i < rr.length := by simpa using h
     obtain ⟨row, hg⟩ : ∃ row, rr[i]? = some row := ⟨_, List.getElem?_eq_getElem h⟩
     obtain ⟨x0, x1, x2, rfl, h1, h2⟩ := y0j (hw.2 row (List.mem_of_getElem? hg))
     have hl := q0v (f := (mk qd)) (k := k) hi
     have hg0 := y0v (f := (mk qd)) (k := k) hg
     have hlt : i < (md (mk qd) rr k i).length := by omega
     refine xs rfl (hl).symm (xs rfl (Int.natCast_nonneg _) (y9 rfl _ hg0 (xs rfl rfl (xs rfl (hl).symm (y9 rfl _ hg0 (xs rfl (by show 0 + 1 ≤ 3; omega) (xs rfl ⟨trivial, trivial⟩ ?_)))))))
     refine xs rfl (yb (hl)).symm (xs rfl (Int.natCast_nonneg _) (y9 rfl _ (zw (hl) h) (xs rfl rfl (xs rfl (yb (hl)).symm (y9 rfl _ (zw (hl) h) ?_)))))
     refine y0n rfl (y57 0 _ _ h1) ⟨⟨rfl, rfl, rfl, _, (zw (hl) h), rfl⟩, rfl, trivial⟩ rfl ?_
     refine xs rfl (lsr (yb (hl))).symm (xs rfl (Int.natCast_nonneg _) (y9 rfl _ (ze (zw (hl) h)) (xs rfl rfl (xs rfl (lsr (yb (hl))).symm (y9 rfl _ (ze (zw (hl) h)) ?_)))))
     refine y0n rfl (z3y 0 _ _ h2) ⟨⟨rfl, rfl, rfl, _, (ze (zw (hl) h)), rfl⟩, rfl, trivial⟩ rfl ?_
     refine ya rfl (hJ _ (i + 1) (by omega) (by omega) ?_)
     refine ⟨⟨cwi (by omega) (by omega) (by omega), ?_, ⟨rfl, rfl, rfl⟩, trivial⟩, ⟨⟨?_, .inl rfl, .inl rfl⟩, trivial⟩, rfl⟩
     · rw [q01 hg]; rfl
     · refine Eq.trans ?_ (z0w hg)
       try simp only [Int.toNat_natCast, zt hg0, ssr hlt, List.set_set]
       rfl
   · have h : ¬ i < rr.length := by simpa using h
     have : i = rr.length := by omega
     subst this
     exact xr rfl (q1p rfl ⟨⟨rfl, congrArg (Value.int .i64) z0c, trivial⟩, z6 rfl⟩ ⟨⟨rfl, rfl, z0v, qp _ _ _, qr hw⟩, trivial⟩)
theorem z2x (z : Nat) (rr : List (List Cell)) (k : Int) (hw : WR 9000000000000000000 zg rr) : PG Tryz.prog 95 [.one (.giv true z rr), .one (.bor (i64 k))] (rI (mkR (mk zg) rr k).2) [(0, (mkR (mk zg) rr k).1)] := by
 refine PG.begin Tryz.func95 rfl (by kernel_rfl) ?_
 have hlen := hw.1
 refine yd rfl (ι := Nat) (fun i => i ≤ rr.length) (fun i => ⟨[(5, sV (.int .i64 i)), (1, sV (.int .i64 (mdk (mk zg) rr k i))), (0, .one (.h 1000000000 rr.length))], [(1000000000, .arr true z 0 (md (mk zg) rr k i))]⟩) (fun i => rr.length - i) 0 (Nat.zero_le _) ?_ ?_
 · exact ⟨⟨rfl, congrArg (fun n => Cell.s (.int .i64 n)) z02.symm, ⟨rfl, rfl, rfl⟩, trivial⟩, ⟨⟨q0b.symm, .inl rfl, .inl rfl⟩, trivial⟩, rfl⟩
 · intro i hi J hJ
   refine xb rfl (fun h => ?_) (fun h => ?_)
   · have h : i < rr.length := by simpa using h
     obtain ⟨row, hg⟩ : ∃ row, rr[i]? = some row := ⟨_, List.getElem?_eq_getElem h⟩
     obtain ⟨x0, x1, x2, x3, x4, x5, x6, x7, x8, rfl⟩ := q0a (hw.2 row (List.mem_of_getElem? hg))
     have hl := q0v (f := (mk zg)) (k := k) hi
     have hg0 := y0v (f := (mk zg)) (k := k) hg
     have hlt : i < (md (mk zg) rr k i).length := by omega
     refine xs rfl (hl).symm (xs rfl (Int.natCast_nonneg _) (y9 rfl _ hg0 (xs rfl rfl (xs rfl (hl).symm (y9 rfl _ hg0 (xs rfl (by show 0 + 1 ≤ 9; omega) (xs rfl ⟨trivial, trivial⟩ ?_)))))))
     refine xs rfl (yb (hl)).symm (xs rfl (Int.natCast_nonneg _) (y9 rfl _ (zw (hl) h) (xs rfl rfl (xs rfl (yb (hl)).symm (y9 rfl _ (zw (hl) h) (xs rfl (by show 1 + 1 ≤ 9; omega) (xs rfl ⟨trivial, trivial⟩ ?_)))))))
     refine xs rfl (yb (yb (hl))).symm (xs rfl (Int.natCast_nonneg _) (y9 rfl _ (zw (yb (hl)) h) (xs rfl rfl (xs rfl (yb (yb (hl))).symm (y9 rfl _ (zw (yb (hl)) h) (xs rfl (by show 2 + 1 ≤ 9; omega) (xs rfl ⟨trivial, trivial⟩ ?_)))))))
     refine xs rfl (yb (yb (yb (hl)))).symm (xs rfl (Int.natCast_nonneg _) (y9 rfl _ (zw (yb (yb (hl))) h) (xs rfl rfl (xs rfl (yb (yb (yb (hl)))).symm (y9 rfl _ (zw (yb (yb (hl))) h) (xs rfl (by show 3 + 1 ≤ 9; omega) (xs rfl ⟨trivial, trivial⟩ ?_)))))))
     refine xs rfl (yb (yb (yb (yb (hl))))).symm (xs rfl (Int.natCast_nonneg _) (y9 rfl _ (zw (yb (yb (yb (hl)))) h) (xs rfl rfl (xs rfl (yb (yb (yb (yb (hl))))).symm (y9 rfl _ (zw (yb (yb (yb (hl)))) h) (xs rfl (by show 4 + 1 ≤ 9; omega) (xs rfl ⟨trivial, trivial⟩ ?_)))))))
     refine xs rfl (yb (yb (yb (yb (yb (hl)))))).symm (xs rfl (Int.natCast_nonneg _) (y9 rfl _ (zw (yb (yb (yb (yb (hl))))) h) (xs rfl rfl (xs rfl (yb (yb (yb (yb (yb (hl)))))).symm (y9 rfl _ (zw (yb (yb (yb (yb (hl))))) h) (xs rfl (by show 5 + 1 ≤ 9; omega) (xs rfl ⟨trivial, trivial⟩ ?_)))))))
     refine xs rfl (yb (yb (yb (yb (yb (yb (hl))))))).symm (xs rfl (Int.natCast_nonneg _) (y9 rfl _ (zw (yb (yb (yb (yb (yb (hl)))))) h) (xs rfl rfl (xs rfl (yb (yb (yb (yb (yb (yb (hl))))))).symm (y9 rfl _ (zw (yb (yb (yb (yb (yb (hl)))))) h) (xs rfl (by show 6 + 1 ≤ 9; omega) (xs rfl ⟨trivial, trivial⟩ ?_)))))))
     refine xs rfl (yb (yb (yb (yb (yb (yb (yb (hl)))))))).symm (xs rfl (Int.natCast_nonneg _) (y9 rfl _ (zw (yb (yb (yb (yb (yb (yb (hl))))))) h) (xs rfl rfl (xs rfl (yb (yb (yb (yb (yb (yb (yb (hl)))))))).symm (y9 rfl _ (zw (yb (yb (yb (yb (yb (yb (hl))))))) h) (xs rfl (by show 7 + 1 ≤ 9; omega) (xs rfl ⟨trivial, trivial⟩ ?_)))))))
     refine xs rfl (yb (yb (yb (yb (yb (yb (yb (yb (hl))))))))).symm (xs rfl (Int.natCast_nonneg _) (y9 rfl _ (zw (yb (yb (yb (yb (yb (yb (yb (hl)))))))) h) (xs rfl rfl (xs rfl (yb (yb (yb (yb (yb (yb (yb (yb (hl))))))))).symm (y9 rfl _ (zw (yb (yb (yb (yb (yb (yb (yb (hl)))))))) h) (xs rfl (by show 8 + 1 ≤ 9; omega) (xs rfl ⟨trivial, trivial⟩ ?_)))))))
     refine ya rfl (hJ _ (i + 1) (by omega) (by omega) ?_)
     refine ⟨⟨cwi (by omega) (by omega) (by omega), ?_, ⟨rfl, rfl, rfl⟩, trivial⟩, ⟨⟨?_, .inl rfl, .inl rfl⟩, trivial⟩, rfl⟩
     · rw [q01 hg]; rfl
     · refine Eq.trans ?_ (z0w hg)
       try simp only [Int.toNat_natCast, zt hg0, ssr hlt, List.set_set]
       rfl
   · have h : ¬ i < rr.length := by simpa using h
     have : i = rr.length := by omega
     subst this
     exact xr rfl (q1p rfl ⟨⟨rfl, congrArg (Value.int .i64) z0c, trivial⟩, z6 rfl⟩ ⟨⟨rfl, rfl, z0v, qp _ _ _, qr hw⟩, trivial⟩)
theorem y3a (z0 z1 z2 z3 z4 : Nat) (x0 : List (List Cell)) (x1 : List (List Cell)) (x2 : List (List Cell)) (x3 : List (List Cell)) (x4 : List (List Cell)) (k : Int) (k0 : Int) (k1 : Int) (k2 : Int) (k3 : Int) (k4 : Int) (h0 : WR 9000000000000000000 z8 x0) (h1 : WR 9000000000000000000 qe x1) (h2 : WR 9000000000000000000 za x2) (h3 : WR 9000000000000000000 qd x3) (h4 : WR 9000000000000000000 zg x4) (e0 : (mkR (mk z8) x0 k).2 = k0) (e1 : (mkR (mk qe) x1 k0).2 = k1) (e2 : (mkR (mk za) x2 k1).2 = k2) (e3 : (mkR (mk qd) x3 k2).2 = k3) (e4 : (mkR (mk zg) x4 k3).2 = k4) : PG Tryz.prog 30 [.agg [.giv true z0 x0, .giv true z1 x1, .giv true z2 x2, .giv true z3 x3, .giv true z4 x4], .one (.bor (i64 k))] (rI k4) [(0, (mkR (mk z8) x0 k).1), (1, (mkR (mk qe) x1 k0).1), (2, (mkR (mk za) x2 k1).1), (3, (mkR (mk qd) x3 k2).1), (4, (mkR (mk zg) x4 k3).1)] := by
 refine PG.begin Tryz.func30 rfl (by kernel_rfl) ?_
 refine y0n rfl (y11 z0 x0 k h0) ⟨⟨rfl, rfl, rfl, rfl⟩, rfl, trivial⟩ rfl ?_
 rw [e0]
 refine y0n rfl (q3y z1 x1 k0 h1) ⟨⟨rfl, rfl, rfl, rfl⟩, rfl, trivial⟩ rfl ?_
 rw [e1]
 refine y0n rfl (z2i z2 x2 k1 h2) ⟨⟨rfl, rfl, rfl, rfl⟩, rfl, trivial⟩ rfl ?_
 rw [e2]
 refine y0n rfl (q3a z3 x3 k2 h3) ⟨⟨rfl, rfl, rfl, rfl⟩, rfl, trivial⟩ rfl ?_
 rw [e3]
 refine y0n rfl (z2x z4 x4 k3 h4) ⟨⟨rfl, rfl, rfl, rfl⟩, rfl, trivial⟩ rfl ?_
 rw [e4]
 exact xr rfl (q1p rfl ⟨⟨rfl, rfl, trivial⟩, z6 rfl⟩ ⟨⟨rfl, rfl, rfl, qp _ _ _, qr h0⟩, ⟨rfl, rfl, rfl, qp _ _ _, qr h1⟩, ⟨rfl, rfl, rfl, qp _ _ _, qr h2⟩, ⟨rfl, rfl, rfl, qp _ _ _, qr h3⟩, ⟨rfl, rfl, rfl, qp _ _ _, qr h4⟩, trivial⟩)
end Go.Proofs.YthljegacamgnnaaGreat
end
section
namespace Go.Proofs.YthljegacamgnnaaGreat
open Go Go.Sx
set_option maxRecDepth 20000
set_option maxHeartbeats 4000000
abbrev q1x : Sh := (.i .i64 (.l (.i .i64 .nil) .nil))
theorem y2s (x0 : Int) (x1 : List (List Cell)) (y0 : Int) (y1 : List (List Cell)) (h1 : WR 9000000000000000000 (.i .i64 .nil) x1) (k1 : WR 9000000000000000000 (.i .i64 .nil) y1) : PC Tryz.prog 35 [.agg [.s (.int .i64 x0), .l x1], .agg [.s (.int .i64 y0), .l y1]] (rB (dE (α := List Cell) [.s (.int .i64 x0), .l x1] [.s (.int .i64 y0), .l y1])) := by
 refine PC.begin Tryz.func35 rfl (by kernel_rfl) ?_
 refine xb rfl (fun h => ?_) (fun e0 => ?_)
 · exact xr rfl (q7 rfl ⟨⟨rfl, qj (fun e => by simp only [List.cons.injEq, Cell.s.injEq, Value.int.injEq, Value.bool.injEq, Value.string.injEq] at e; simp [e] at h), trivial⟩, z6 rfl⟩)
 have e0 : x0 = y0 := by simpa using e0
 refine z7 rfl (y1l _ _ h1 k1) rfl ⟨trivial, trivial, trivial⟩ ?_
 refine xb rfl (fun h => ?_) (fun e1 => ?_)
 · exact xr rfl (q7 rfl ⟨⟨rfl, qj (fun e => q03 h (by simp only [List.cons.injEq, Cell.l.injEq] at e ⊢; simp only [e]; try trivial)), trivial⟩, z6 rfl⟩)
 have e1 := y03 e1
 exact xr rfl (q7 rfl ⟨⟨rfl, yu (by simp [e0, e1]), trivial⟩, z6 rfl⟩)
theorem z29 (z1 : Nat) (x0 : Int) (x1 : List (List Cell)) (k : Int) (k1 : Int) (h1 : WR 9000000000000000000 (.i .i64 .nil) x1) (e1 : (mkR (mk (.i .i64 .nil)) x1 k).2 = k1) : PG Tryz.prog 36 [.agg [.bor (.s (.int .i64 x0)), .giv true z1 x1], .one (.bor (i64 k))] (rI k1) [(1, (mkR (mk (.i .i64 .nil)) x1 k).1)] := by
 refine PG.begin Tryz.func36 rfl (by kernel_rfl) ?_
 refine y0n rfl (y0z z1 x1 k h1) ⟨⟨rfl, rfl, rfl, rfl⟩, rfl, trivial⟩ rfl ?_
 rw [e1]
 exact xr rfl (q1p rfl ⟨⟨rfl, rfl, trivial⟩, z6 rfl⟩ ⟨⟨rfl, rfl, rfl, qp _ _ _, qr h1⟩, trivial⟩)
theorem q3u (rr : List (List Cell)) (k : Int) (hw : WR 9000000000000000000 (.i .i64 .nil) rr) : PC Tryz.prog 102 [.one (.l rr), .one (i64 k)] (rI (ng (hdR (hd (.i .i64 .nil)) rr k))) := by
 refine PC.begin Tryz.func102 rfl (by kernel_rfl) ?_
 have hlen := hw.1
 refine yd rfl (ι := Nat × Int) (fun x => x.1 ≤ rr.length ∧ hdR (hd (.i .i64 .nil)) (rr.take x.1) k = some x.2) (fun x => ⟨[(5, sV (.int .i64 x.1)), (1, sV (.int .i64 x.2)), (0, .one (.b (.l rr)))], []⟩) (fun x => rr.length - x.1) (0, k) ⟨Nat.zero_le _, rfl⟩ ?_ ?_
 · exact ⟨⟨rfl, rfl, rfl, trivial⟩, trivial, rfl⟩
 · intro ⟨i, v⟩ ⟨hi, hv⟩ J hJ
   dsimp only at hi hv ⊢
   refine xb rfl (fun h => ?_) (fun h => ?_)
   · have h : i < rr.length := by simpa using h
     obtain ⟨row, hg⟩ : ∃ row, rr[i]? = some row := ⟨_, List.getElem?_eq_getElem h⟩
     obtain ⟨x0, _, rfl, hnil⟩ := ((hw.2 row (List.mem_of_getElem? hg))).zv; obtain rfl := hnil.zx
     have hst := y7w hg hv
     refine xs rfl (Int.natCast_nonneg _) (y9 rfl _ hg (xs rfl rfl ?_))
     refine xb rfl (fun hb => ?_) (fun hb => ?_)
     · have hb : ¬ x0 = mkv .i64 (v) := by simpa [mkv, nx] using hb
       exact xr rfl (q7 rfl ⟨⟨rfl, congrArg (Value.int .i64) (z76 (z7w (i := i + 1) (hst.trans (by simp only [hd, if_neg hb])))).symm, trivial⟩, z6 rfl⟩)
     have hb0 : x0 = mkv .i64 (v) := by simpa [mkv, nx] using hb
     clear hb
     refine ya rfl (hJ _ (i + 1, nx (v)) ⟨by dsimp only; omega, hst.trans (by simp only [hd, if_pos hb0])⟩ (by dsimp only; omega) ?_)
     exact ⟨⟨cwi (by omega) (by omega) (by omega), rfl, rfl, trivial⟩, trivial, rfl⟩
   · have h : ¬ i < rr.length := by simpa using h
     have : i = rr.length := by omega
     subst this
     rw [List.take_length] at hv
     exact xr rfl (q7 rfl ⟨⟨rfl, congrArg (Value.int .i64) (by rw [hv]; rfl), trivial⟩, z6 rfl⟩)
theorem z24 (x0 : Int) (x1 : List (List Cell)) (k : Int) (h1 : WR 9000000000000000000 (.i .i64 .nil) x1) (hk : 0 ≤ k) : PC Tryz.prog 37 [.agg [.s (.int .i64 x0), .l x1], .one (i64 k)] (rI (ng (ht q1x [.s (.int .i64 x0), .l x1] k))) := by
 refine PC.begin Tryz.func37 rfl (by kernel_rfl) ?_
 have e : ht q1x [.s (.int .i64 x0), .l x1] k = ((ps (ng (hdR (hd (.i .i64 .nil)) x1 k))).bind fun v1 => some v1) := by simp only [ht, Option.bind_assoc, Option.bind_some]
 rw [e]
 refine z7 rfl (q3u x1 k h1) rfl ⟨trivial, trivial, trivial⟩ ?_
 generalize hk1 : ng (hdR (hd (.i .i64 .nil)) x1 (k)) = k1
 refine xb rfl (fun hb => ?_) (fun hb => ?_)
 · have hb : k1 < 0 := by simpa using hb
   exact xr rfl (q7 rfl ⟨⟨rfl, congrArg (Value.int .i64) (z76 (by simp only [hk1, yaf hb]; rfl)).symm, trivial⟩, z6 rfl⟩)
 have hb1 : ¬ k1 < 0 := by simpa using hb
 have hp1 : 0 ≤ k1 := by omega
 clear hb
 exact xr rfl (q7 rfl ⟨⟨rfl, congrArg (Value.int .i64) (by simp only [hk1, q97 hb1, Option.bind_some]; rfl), trivial⟩, z6 rfl⟩)
end Go.Proofs.YthljegacamgnnaaGreat
end
section
namespace Go.Sx
theorem z81 {N : Nat} {e : Sh} {rows : List (List Cell)} (hw : WR N e rows) : q00 (cnt e) rows ≤ wid e * rows.length + q40 e * q00 (tot e) rows :=
 z21 fun row hr => y8i (hw.2 row hr)
theorem y81 {N : Nat} {e : Sh} {rows : List (List Cell)} (hw : WR N e rows) (hs : q00 (cnt e) rows ≤ 1000000000000000000) :
 0 ≤ (mkR (mk e) rows 1).2 ∧ ∀ (k0 : IntKind) (c : Cell), ng (ht (.i k0 (.l e .nil)) [c, .l (mkR (mk e) rows 1).1] 1) = (mkR (mk e) rows 1).2 := by
 obtain ⟨h1, h2⟩ := z40 (f := mk e) (g := hd e) (c := cnt e) (rows := rows) (fun row hr k h1 h2 => q75 (hw.2 row hr) k h1 h2) 1 (by omega) (by omega)
 refine ⟨by omega, fun k0 c => ?_⟩
 simp only [ht, h1, h2]
 have : ng (some (1 + (q00 (cnt e) rows : Int))) = 1 + q00 (cnt e) rows := rfl
 rw [this, q97 (by omega)]
 rfl
end Go.Sx
end
section
namespace Go.Proofs.YthljegacamgnnaaGreat
open Go Go.Sx
set_option maxRecDepth 20000
set_option maxHeartbeats 4000000
theorem z7s (c : Clu) (h : WT 1048576 yn c.cs ∧ tot yn c.cs ≤ 1048576) : ∃ (k : Int) (r0 r1 r2 r3 r4 : List (List Cell)), 0 ≤ k ∧
 PG Tryz.prog 30 [.agg [.giv true 2 (c.cons.map Con.cs), .giv true 6 (c.shs.map Shd.cs), .giv true 1 (c.accs.map Acc.cs), .giv true 3 (c.ldrs.map Ldr.cs), .giv true 9 (c.msgs.map Msg.cs)], .one (.bor (i64 1))] (rI k) [(0, r0), (1, r1), (2, r2), (3, r3), (4, r4)] := by
 obtain ⟨h, ht⟩ := h
 obtain ⟨_, _, _, _, _, e, m0, m1, m2, m3, m4⟩ := q0k h
 cases e
 have up : ∀ {e : Sh} {r : List (List Cell)}, WR 1048576 e r → WR 9000000000000000000 e r := fun h => h.mono (by omega)
 have hm := y3a 2 6 1 3 9 _ _ _ _ _ 1 _ _ _ _ _ (up m0) (up m1) (up m2) (up m3) (up m4) rfl rfl rfl rfl rfl
 have hc := y8i h
 have hw : wid yn = 0 := rfl
 have hw2 : q40 yn = 48 := rfl
 rw [hw, hw2] at hc
 have hk := (q75 h 1 (by omega) (by omega)).2
 exact ⟨_, _, _, _, _, _, by
  show 0 ≤ (mk yn c.cs 1).2
  rw [hk]; omega, hm⟩
theorem y6y {us : List Int} {N : Nat} (h : us.length ≤ N) : WR N (.i .i64 .nil) (ints us) := ⟨by simpa using h, fun row hr => by
 simp [ints] at hr
 obtain ⟨n, _, rfl⟩ := hr
 exact .i n .nil⟩
theorem q6y (us : List Int) (hl : us.length ≤ 1048576) : ∃ (k : Int) (r : List (List Cell)), 0 ≤ k ∧ r.length = (ints us).length ∧ (∀ (z : Nat) (code : Int), PG Tryz.prog 36 [.agg [.bor (.s (.int .i64 code)), .giv true z (ints us)], .one (.bor (i64 1))] (rI k) [(1, r)]) ∧
 ∀ code : Int, PC Tryz.prog 37 [.agg [.s (.int .i64 code), .l r], .one (i64 1)] (rI k) := by
 have hw := y6y (N := 9000000000000000000) (us := us) (by omega)
 have hc := z81 hw
 have hlen : (ints us).length = us.length := by simp
 rw [show wid (.i .i64 .nil) = 1 from rfl, show q40 (.i .i64 .nil) = 0 from rfl, hlen] at hc
 obtain ⟨h1, h2⟩ := y81 hw (by omega)
 refine ⟨_, _, h1, qp _ _ _, fun z code => z29 z code (ints us) 1 _ hw rfl, fun code => ?_⟩
 have := z24 code (mkR (mk (.i .i64 .nil)) (ints us) 1).1 1 (y9s hw 1) (by omega)
 rw [h2] at this
 exact this
theorem z6z (us : List Int) (hl : us.length ≤ 1048576) (code : Int) : PC Tryz.prog 35 [.agg [.s (.int .i64 code), .l (ints us)], .agg [.s (.int .i64 code), .l (ints us)]] (rB true) := by
 have hw := y6y (N := 9000000000000000000) (us := us) (by omega)
 have h := y2s code (ints us) code (ints us) hw hw
 rwa [show dE (α := List Cell) [.s (.int .i64 code), .l (ints us)] [.s (.int .i64 code), .l (ints us)] = true from (Value.bool.inj (yu rfl)).symm] at h
end Go.Proofs.YthljegacamgnnaaGreat
end
section
namespace Go.Proofs.YthljegacamgnnaaGreat
open Go Go.Sx
set_option maxRecDepth 20000
set_option maxHeartbeats 4000000
abbrev rIs (code : Int) (us : List Int) : Res := .one (.own true [.s (.int .i64 code), .l 1 (ints us)])
end Go.Proofs.YthljegacamgnnaaGreat
end
section
namespace Go.Sx
def z9u : OC → Cell
 | .s v => .s v
 | .l _ rows => .l rows
theorem PC.yao {P : Program} {f : Nat} {args : List SV} {ag : Bool} {cs : List OC} (h : PC P f args (.one (.own ag cs))) : PC P f args (.one (.bor ag (cs.map z9u))) := by
 refine ⟨h.1, fun N w vals ha => (h.2 N w vals ha).mono ?_⟩
 rintro e w' ⟨v, S, rfl, hk, ⟨arr, F, h1, h2, h3, _, h5⟩, hS⟩
 refine ⟨v, fun _ => False, rfl, hk, ⟨arr, h1, by simp [h2], fun k c u hc hu => ?_⟩, fun x hx => hx.elim⟩
 rw [List.getElem?_map] at hc
 cases ho : cs[k]? with
 | none => rw [ho] at hc; cases hc
 | some oc =>
   rw [ho] at hc
   cases hc
   have h6 := h5 k oc u ho hu
   cases oc with
   | s x => obtain ⟨rfl, h7⟩ := h6; exact .s _ h7
   | l sz rows =>
     obtain ⟨sz', _, h7⟩ := h6
     exact (z1e.2 ⟨sz', h7⟩).rep fun x hx => ⟨.inr (hS x (h3 k x hx)).1, fun h => h⟩
end Go.Sx
end
section
namespace Go.Proofs.YthljegacamgnnaaGreat
open Go Go.Sx
set_option maxRecDepth 20000
set_option maxHeartbeats 4000000
theorem z65 (c : Clu) (ho : y00 c) : PC Tryz.prog 34 [.agg c.cs] (rIs (z0t c).1 (z0t c).2) := by
 refine PC.begin Tryz.func34 rfl (by kernel_rfl) ?_
 by_cases hc : qq c = 0
 · have hR : z0t c = (0, q4e c) := by unfold z0t; rw [if_neg (by simpa using hc)]
   rw [hR]
   have hop := q7t c ho hc
   refine z7 rfl (z6x c ho) rfl ⟨⟨trivial, trivial, trivial, trivial, trivial, trivial⟩, trivial⟩ ?_
   refine xb rfl (fun b0 => ?_) (fun b0 => ?_)
   exact absurd b0 (by simp; omega)
   refine z7 rfl (hop) rfl ⟨⟨trivial, trivial, trivial, trivial, trivial, trivial⟩, trivial⟩ ?_
   refine xr rfl (q7 rfl ⟨⟨rfl, rfl, ⟨rfl, rfl, .inl rfl⟩, trivial⟩, z6 rfl⟩)
   all_goals first
    | (exfalso; simp_all; done)
    | skip
 · have hR : z0t c = (qq c, []) := by unfold z0t; rw [if_pos hc]
   rw [hR]
   refine z7 rfl (z6x c ho) rfl ⟨⟨trivial, trivial, trivial, trivial, trivial, trivial⟩, trivial⟩ ?_
   refine xb rfl (fun b0 => ?_) (fun b0 => ?_)
   refine xr rfl (q7 rfl ⟨⟨rfl, rfl, rfl, trivial⟩, z6 rfl⟩)
   exact absurd b0 (by simp; omega)
   all_goals (exfalso; simp_all; done)
theorem y6d (c : Clu) (ho : y00 c) : PC Tryz.prog 33 [.agg c.cs] (.one (.bor true [i64 (z0t c).1, .l (ints (z0t c).2)])) := by
 refine PC.begin Tryz.func33 rfl (by kernel_rfl) ?_
 refine yan (n := 0) rfl (ι := Unit) (fun _ => True) (fun _ => ⟨[(1, .one (.b (.p c.cs))), (2, .one (.a 2 0))], [(2, .var [.b (i64 0), .nil])]⟩) ?_ ?_
 · intro K hK
   exact ya rfl (hK _ () trivial ⟨⟨⟨rfl, rfl, rfl⟩, ⟨rfl, rfl, rfl⟩, trivial⟩, ⟨⟨rfl, trivial, trivial⟩, trivial⟩, rfl⟩)
 intro _ _
 by_cases hc : qq c = 0
 · have hR : z0t c = (0, q4e c) := by unfold z0t; rw [if_neg (by simpa using hc)]
   rw [hR]
   have hop := y87 c ho hc
   refine z7 rfl (z7d c ho) rfl ⟨⟨trivial, trivial, trivial, trivial, trivial, trivial⟩, trivial⟩ ?_
   refine xb rfl (fun b0 => ?_) (fun b0 => ?_)
   exact absurd b0 (by simp; omega)
   refine z7 rfl (hop) rfl ⟨trivial, trivial⟩ ?_
   refine xr rfl (q7 rfl ⟨⟨rfl, rfl, rfl, trivial⟩, z6 rfl⟩)
   all_goals first
    | (exfalso; simp_all; done)
    | skip
 · have hR : z0t c = (qq c, []) := by unfold z0t; rw [if_pos hc]
   rw [hR]
   refine z7 rfl (z7d c ho) rfl ⟨⟨trivial, trivial, trivial, trivial, trivial, trivial⟩, trivial⟩ ?_
   refine xb rfl (fun b0 => ?_) (fun b0 => ?_)
   refine xr rfl (q7 rfl ⟨⟨rfl, rfl, rfl, trivial⟩, z6 rfl⟩)
   exact absurd b0 (by simp; omega)
   all_goals (exfalso; simp_all; done)
theorem z80 (cs : List Cell) (hw : WT 9223372036854775807 yn cs) : PC Tryz.prog 8 [.agg cs] (rB true) := by
 refine PC.begin Tryz.func8 rfl (by kernel_rfl) ?_
 obtain ⟨x0, x1, x2, x3, x4, rfl, _⟩ := q0k hw
 rcases y9n x0 x1 x2 x3 x4 hw 1048576 (Nat.le_refl _) with hsz | ⟨c, rfl, rfl, rfl, rfl, rfl, ho, hwt, ⟨n, _, hsz⟩, hto, heq⟩
 · skip
   refine z7 rfl (hsz) rfl ⟨⟨trivial, trivial, trivial, trivial, trivial, trivial⟩, trivial, trivial⟩ ?_
   refine xj (k := 1) rfl ?_
   refine xr rfl (q7 rfl ⟨⟨rfl, rfl, trivial⟩, z6 rfl⟩)
 · have hI := z65 c ho
   have hS := y6d c ho
   have hr := z6z (z0t c).2 (q5m c) (z0t c).1
   obtain ⟨k, r0, r1, r2, r3, r4, hk, hmk⟩ := z7s c hwt
   obtain ⟨q, rr, hq, hrl, hmr, hhd⟩ := q6y (z0t c).2 (q5m c)
   refine z7 rfl (hsz) rfl ⟨⟨trivial, trivial, trivial, trivial, trivial, trivial⟩, trivial, trivial⟩ ?_
   refine xj (k := 1) rfl ?_
   refine z7 rfl (PC.yao hto) rfl ⟨⟨trivial, trivial, trivial, trivial, trivial, trivial⟩, trivial⟩ ?_
   refine z7 rfl (hS) rfl ⟨⟨trivial, trivial, trivial, trivial, trivial, trivial⟩, trivial⟩ ?_
   refine z7 rfl (hto) rfl ⟨⟨trivial, trivial, trivial, trivial, trivial, trivial⟩, trivial⟩ ?_
   refine z7 rfl (hI) rfl ⟨⟨rfl, rfl, rfl, rfl, rfl, trivial⟩, trivial⟩ ?_
   refine z7 rfl (hr) rfl ⟨⟨trivial, rfl, trivial⟩, ⟨trivial, trivial, trivial⟩, trivial⟩ ?_
   refine xj (k := 1) rfl ?_
   refine yc rfl [] (.take 0 [3, 4] (.take 1 [2, 3, 4] (.alt 2 (.alt 3 (.take 4 [] .done) .nil) .nil))) (by kernel_rfl) ?_
   refine z7 rfl (hto) rfl ⟨⟨trivial, trivial, trivial, trivial, trivial, trivial⟩, trivial⟩ ?_
   refine z7 rfl (heq) rfl ⟨⟨rfl, rfl, rfl, rfl, rfl, trivial⟩, ⟨rfl, rfl, rfl, rfl, rfl, trivial⟩, trivial⟩ ?_
   refine xj (k := 1) rfl ?_
   refine y0n rfl (hmk) ⟨⟨⟨rfl, rfl, rfl, rfl⟩, ⟨rfl, rfl, rfl, rfl⟩, ⟨rfl, rfl, rfl, rfl⟩, ⟨rfl, rfl, rfl, rfl⟩, ⟨rfl, rfl, rfl, rfl⟩, trivial⟩, rfl, trivial⟩ rfl ?_
   refine xb rfl (fun b0 => ?_) (fun b0 => ?_)
   exact absurd b0 (by simp; omega)
   refine xj (k := 2) rfl ?_
   refine z7 rfl (hr) rfl ⟨⟨trivial, rfl, trivial⟩, ⟨trivial, trivial, trivial⟩, trivial⟩ ?_
   refine xj (k := 3) rfl ?_
   refine y0n rfl (hmr 1 (z0t c).1) ⟨⟨rfl, ⟨rfl, rfl, rfl, rfl⟩, trivial⟩, rfl, trivial⟩ rfl ?_
   refine z7 rfl (hhd (z0t c).1) rfl ⟨⟨trivial, hrl.symm, trivial⟩, trivial, trivial⟩ ?_
   refine xb rfl (fun b0 => ?_) (fun b0 => ?_)
   exact absurd b0 (by simp; omega)
   refine xb rfl (fun b1 => ?_) (fun b1 => ?_)
   exact absurd b1 (by simp [*])
   refine z7 rfl (hto) rfl ⟨⟨trivial, trivial, trivial, trivial, trivial, trivial⟩, trivial⟩ ?_
   refine z7 rfl (hI) rfl ⟨⟨rfl, rfl, rfl, rfl, rfl, trivial⟩, trivial⟩ ?_
   refine z7 rfl (hr) rfl ⟨⟨trivial, rfl, trivial⟩, ⟨trivial, trivial, trivial⟩, trivial⟩ ?_
   refine xj (k := 1) rfl ?_
   refine z7 rfl (hhd (z0t c).1) rfl ⟨⟨trivial, hrl.symm, trivial⟩, trivial, trivial⟩ ?_
   refine xb rfl (fun b0 => ?_) (fun b0 => ?_)
   exact absurd b0 (by simp; omega)
   refine xb rfl (fun b1 => ?_) (fun b1 => ?_)
   exact absurd b1 (by simp [*])
   refine xr rfl (q7 rfl ⟨⟨rfl, rfl, trivial⟩, z6 rfl⟩)
end Go.Proofs.YthljegacamgnnaaGreat
end
section
namespace Go.Proofs.YthljegacamgnnaaGreat.fnExactDoneOf
open Go.ChangeShapes Go.WideShapes Go.ChangeAt Go.RowKit
set_option maxRecDepth 100000 in
set_option maxHeartbeats 40000000 in
theorem closed : joinedFacts Tryz.pinned.checked.prog 8 Tryz.f8 Rows.fnExactDoneOfSpec Rows.fnExactDoneOfRow = true := by
 unfold joinedFacts
 simp only [Bool.and_eq_true]
 repeat' refine And.intro ?_ ?_
 all_goals as_aux_lemma => kernel_rfl
end Go.Proofs.YthljegacamgnnaaGreat.fnExactDoneOf
end
section
namespace Go.Proofs.YthljegacamgnnaaGreat.fnExactDoneOf
open Go.ChangeShapes Go.WideShapes Go.ChangeAt Go.RowKit Go.Sx
open Go.ChangeMaps (open_string shut_string)
theorem own : ownKnob Tryz.prog.godebug = none := by kernel_rfl
theorem laidOut : laidOutB Tryz.prog = true := by kernel_rfl
theorem q2 : OS Tryz.prog 2 (.i .i64 .nil) := y9u Tryz.underlying2 (by kernel_rfl)
theorem qat : OS Tryz.prog 294 qx := yx Tryz.underlying294 (by kernel_rfl) (.cons (by kernel_rfl) (.cons (by kernel_rfl) (.cons (by kernel_rfl) (.cons (by kernel_rfl) (.nil _))))) (zh q2 (zh q2 (zh q2 (y0c q2) rfl rfl) rfl rfl) rfl rfl)
theorem yap : OS Tryz.prog 151 (.l qx .nil) := y02 Tryz.underlying151 (by kernel_rfl) qat
theorem qap : OS Tryz.prog 153 z8 := yx Tryz.underlying153 (by kernel_rfl) (.cons (by kernel_rfl) (.cons (by kernel_rfl) (.nil _))) (zh q2 (y0c yap) rfl rfl)
theorem q22 : OS Tryz.prog 22 (.l z8 .nil) := y02 Tryz.underlying22 (by kernel_rfl) qap
theorem qas : OS Tryz.prog 269 zc := yx Tryz.underlying269 (by kernel_rfl) (.cons (by kernel_rfl) (.cons (by kernel_rfl) (.cons (by kernel_rfl) (.nil _)))) (zh q2 (zh q2 (y0c q2) rfl rfl) rfl rfl)
theorem zaq : OS Tryz.prog 155 (.l zc .nil) := y02 Tryz.underlying155 (by kernel_rfl) qas
theorem zau : OS Tryz.prog 296 yh := yx Tryz.underlying296 (by kernel_rfl) (.cons (by kernel_rfl) (.cons (by kernel_rfl) (.nil _))) (zh q2 (y0c q2) rfl rfl)
theorem zal : OS Tryz.prog 156 (.l yh .nil) := y02 Tryz.underlying156 (by kernel_rfl) zau
theorem q66 : OS Tryz.prog 66 (.l (.i .i64 .nil) .nil) := y02 Tryz.underlying66 (by kernel_rfl) q2
theorem yaq : OS Tryz.prog 158 qe := yx Tryz.underlying158 (by kernel_rfl) (.cons (by kernel_rfl) (.cons (by kernel_rfl) (.cons (by kernel_rfl) (.cons (by kernel_rfl) (.cons (by kernel_rfl) (.cons (by kernel_rfl) (.nil _))))))) (zh q2 (zh zaq (zh zal (zh q22 (zh zal (y0c q66) rfl rfl) rfl rfl) rfl rfl) rfl rfl) rfl rfl)
theorem q23 : OS Tryz.prog 23 (.l qe .nil) := y02 Tryz.underlying23 (by kernel_rfl) yaq
theorem qaf : OS Tryz.prog 182 zm := yx Tryz.underlying182 (by kernel_rfl) (.cons (by kernel_rfl) (.cons (by kernel_rfl) (.nil _))) (zh q2 (y0c q2) rfl rfl)
theorem yal : OS Tryz.prog 282 (.l zm .nil) := y02 Tryz.underlying282 (by kernel_rfl) qaf
theorem zat : OS Tryz.prog 284 zl := yx Tryz.underlying284 (by kernel_rfl) (.cons (by kernel_rfl) (.cons (by kernel_rfl) (.cons (by kernel_rfl) (.cons (by kernel_rfl) (.cons (by kernel_rfl) (.nil _)))))) (zh q2 (zh q2 (zh q2 (zh qaf (y0c yal) rfl rfl) rfl rfl) rfl rfl) rfl rfl)
theorem qaq : OS Tryz.prog 160 (.l zl .nil) := y02 Tryz.underlying160 (by kernel_rfl) zat
theorem zar : OS Tryz.prog 162 za := yx Tryz.underlying162 (by kernel_rfl) (.cons (by kernel_rfl) (.nil _)) (y0c qaq)
theorem q24 : OS Tryz.prog 24 (.l za .nil) := y02 Tryz.underlying24 (by kernel_rfl) zar
theorem yat : OS Tryz.prog 287 zp := yx Tryz.underlying287 (by kernel_rfl) (.cons (by kernel_rfl) (.cons (by kernel_rfl) (.cons (by kernel_rfl) (.cons (by kernel_rfl) (.cons (by kernel_rfl) (.cons (by kernel_rfl) (.nil _))))))) (zh q2 (zh q2 (zh q2 (zh q2 (zh q66 (y0c yal) rfl rfl) rfl rfl) rfl rfl) rfl rfl) rfl rfl)
theorem yar : OS Tryz.prog 164 (.l zp .nil) := y02 Tryz.underlying164 (by kernel_rfl) yat
theorem yau : OS Tryz.prog 300 zn := yx Tryz.underlying300 (by kernel_rfl) (.cons (by kernel_rfl) (.cons (by kernel_rfl) (.cons (by kernel_rfl) (.cons (by kernel_rfl) (.cons (by kernel_rfl) (.nil _)))))) (zh q2 (zh q2 (zh q2 (zh q2 (y0c q2) rfl rfl) rfl rfl) rfl rfl) rfl rfl)
theorem qar : OS Tryz.prog 165 (.l zn .nil) := y02 Tryz.underlying165 (by kernel_rfl) yau
theorem zas : OS Tryz.prog 167 qd := yx Tryz.underlying167 (by kernel_rfl) (.cons (by kernel_rfl) (.cons (by kernel_rfl) (.cons (by kernel_rfl) (.nil _)))) (zh q2 (zh yar (y0c qar) rfl rfl) rfl rfl)
theorem q25 : OS Tryz.prog 25 (.l qd .nil) := y02 Tryz.underlying25 (by kernel_rfl) zas
theorem yas : OS Tryz.prog 184 zg := yx Tryz.underlying184 (by kernel_rfl) (.cons (by kernel_rfl) (.cons (by kernel_rfl) (.cons (by kernel_rfl) (.cons (by kernel_rfl) (.cons (by kernel_rfl) (.cons (by kernel_rfl) (.cons (by kernel_rfl) (.cons (by kernel_rfl) (.nil _))))))))) (zh q2 (zh q2 (zh q2 (zh q2 (zh q2 (zh q2 (zh q2 (y0c qaf) rfl rfl) rfl rfl) rfl rfl) rfl rfl) rfl rfl) rfl rfl) rfl rfl)
theorem q26 : OS Tryz.prog 26 (.l zg .nil) := y02 Tryz.underlying26 (by kernel_rfl) yas
theorem q28 : OS Tryz.prog 28 yn := yx Tryz.underlying28 (by kernel_rfl) (.cons (by kernel_rfl) (.cons (by kernel_rfl) (.cons (by kernel_rfl) (.cons (by kernel_rfl) (.cons (by kernel_rfl) (.nil _)))))) (zh q22 (zh q23 (zh q24 (zh q25 (y0c q26) rfl rfl) rfl rfl) rfl rfl) rfl rfl)
set_option maxRecDepth 100000 in
theorem lifted (os : Os) (started : os.Started) (H : Type) (enc : TypeId × Value → H) :
 ReturnsInHanded {} Tryz.checked os 8 .any (Rows.fnExactDoneOfSpec.pre6 enc Tryz.prog Tryz.f8 Rows.fnExactDoneOfRow.domain false) (Rows.fnExactDoneOfSpec.post enc Tryz.prog Tryz.f8 false true false false) := by
 refine returnsInHanded_of_change_sized (C := Tryz.checked) own started (by kernel_rfl) Tryz.func8
  (ChangeSpec.witness6 (enc := enc) (C := Tryz.checked) false ⟨#[], #[.agg #[.slice none 0 0, .slice none 0 0, .slice none 0 0, .slice none 0 0, .slice none 0 0]], []⟩ 8 (by kernel_rfl) (by kernel_rfl) (by kernel_rfl) (by kernel_rfl)) ?_
 intro W base args ds gs before hval0 hW _ _ _
 have hval : ∀ (j : Nat) t v, Tryz.f8.params[j]? = some t → args[j]? = some v → Value.okWide Tryz.prog W .any base t v := hval0
 have hW' := hW
 obtain ⟨p, q, hA0, hV, rfl, hfz, hnd⟩ := hW
 have hA : DataW.TrodAll enc Tryz.prog W 0 (fun _ => true) true Tryz.f8.params.toList args.toList ds p := hA0
 rw [Tryz.params8] at hA hval
 obtain ⟨v0, vs0, d0, ds0, p0, q0, hargs, rfl, rfl, h0, r0⟩ := trodAll_cons hA
 obtain ⟨rfl, rfl, rfl⟩ := trodAll_nil r0
 obtain rfl : args = #[v0] := by cases args; simp_all
 obtain ⟨rfl, rfl⟩ := trodVars_none hV
 have k0 := h0
 have lt0 : ∀ x ∈ p0, x.block < W.heap.size := by obtain ⟨m, hm⟩ := k0; exact DataW.trod_lt m _ _ _ hm
 obtain ⟨c0, R0, w0⟩ := y9m Tryz.underlying28 q28 (hval 0 28 v0 rfl rfl) h0
 clear hA0 hval0
 refine (PC.law (z80 c0 w0) (z5w.one R0)).mono fun e W' ⟨he, bel⟩ => ?_
 subst he
 exact ⟨_, rfl, _, _, _, [], _, [], hW', trodAll_mk1 (shut_bool Tryz.underlying4 _), (trodAll_cons_mk (Below.trod laidOut (by kernel_rfl) (of_decide_eq_true (by kernel_rfl)) k0 bel lt0) trodAll_mk0), rfl, bel.frame _, fun h => by cases h⟩
theorem zap : Rows.fnExactDoneOfRow.holds Tryz.pinned (OpenSpec.ofChange Rows.fnExactDoneOfSpec) :=
 OpenClaim.holds_of_wide 8 Tryz.f8 rfl rfl rfl rfl rfl rfl rfl ⟨rfl, rfl, rfl, rfl, rfl⟩ rfl rfl rfl rfl rfl (by as_aux_lemma => kernel_rfl) Tryz.func8 closed
  (by as_aux_lemma => exact of_decide_eq_true (by kernel_rfl)) (by as_aux_lemma => unfold Func.isWrapper; first | (rw [if_pos (by decide +kernel)]; kernel_rfl) | (rw [if_neg (by decide +kernel)]; exact ⟨rfl, rfl⟩))
  (fun os started H enc _ => lifted os started H enc)
theorem q9u : Rows.FnExactDoneOfSaid := zap
end Go.Proofs.YthljegacamgnnaaGreat.fnExactDoneOf
namespace Go.Proofs.YthljegacamgnnaaGreat
theorem fnExactDoneOf_holds : Rows.FnExactDoneOfSaid := fnExactDoneOf.q9u
end Go.Proofs.YthljegacamgnnaaGreat
end
