/- WHAT IS PROVED: parts of the proof of fnExactDropMessage_holds: a frame for walks, what each Go function that it reaches answers, and plain lemmas; no condition beyond those that each theorem names. -/
import Derived.Test.YtbnbjaedijbnpaaGreatCDm5
import Derived.WalkKit
import Derived.OrdersHeld
import Derived.DeepKeys
import Derived.Maps.RangeWalk
import Derived.Maps.OwnOps
import Derived.WideKeyEntry
import Derived.Orders
import Derived.Deep.Slices
import Derived.ChangeArms
import Derived.WideShapes
import Derived.Sort.AssemblyPlain
import Derived.Test.YtbnbjaedijbnpaaGreatProg
import Derived.Shelf.SortG.Plain
import Derived.Shelf.SortG.SortNone
import Derived.Shelf.SlicesG.CompactI
import Derived.Lib.OwnBridge
import Derived.RangeFuncGives
import Derived.RangeFuncBox
import Derived.RangeFuncLeaves
import Derived.Shelf.Abstract
import Derived.Maps.AppendAt
import Derived.OwnWalkIn
import Derived.TacticsInMore
import Derived.LoopNIn
import Derived.LoopIn
import Derived.Shelf.SlicesG.Delete
set_option linter.unusedVariables false
set_option linter.unusedSimpArgs false
section
namespace Go.Proofs.YtbnbjaedijbnpaaGreat
open Go Go.Sx
set_option maxRecDepth 20000
set_option maxHeartbeats 4000000
theorem q1w (x : Con) (hl : x.legs.length ≤ 1048576) : PC Tryz.prog 62 [.agg x.cs] (.one (.bor false [.l (ints (shF x.legs))])) := by
 refine PC.begin Tryz.func62 rfl (by kernel_rfl) ?_
 refine xs rfl trivial ?_
 refine qc rfl (ι := Nat) (fun i => i ≤ x.legs.length) (fun i => ⟨[(4, sV (.int .i64 i)), (3, .one (.b (.l (ints (shF (x.legs.take i)))))), (1, .one (.a 1 0))], [(1, .var (x.cs.map .b))]⟩) (fun i => x.legs.length - i) 0 (Nat.zero_le _) ?_ ?_
 · exact ⟨⟨rfl, ⟨rfl, rfl, rfl⟩, ⟨rfl, rfl, rfl⟩, trivial⟩, ⟨lcr, trivial⟩, rfl⟩
 · intro i hi J hJ
   refine xb rfl ?_ ?_ <;> intro h
   · have h : i < x.legs.length := by simpa using h
     obtain ⟨y, hy⟩ := gx h
     have hg := gm Leg.cs hy
     have hst := z6h hy
     have hlen := y2g x.legs i
     cases hb : (shF (x.legs.take i)).contains y.s with
     | true =>
       have hp := q6b _ _ true hb (by omega) (q6g _)
       have he : z3p (shF (x.legs.take i)) y.s = shF (x.legs.take i) := by
        have := y6f (q6g (x.legs.take i)) hb
        exact this
       rw [he] at hst
       refine xs rfl (nn_ _) (y9 rfl _ hg (xs rfl rfl (z7 rfl (hp) rfl tv3 ?_)))
       exact q9 rfl (hJ _ (i + 1) (by omega) (by omega) ⟨⟨cwi (by omega) (by omega) (by omega), (by rw [hst]; rfl), ⟨rfl, rfl, rfl⟩, trivial⟩, ⟨lcr, trivial⟩, rfl⟩)
     | false =>
       have hp := q6b _ _ false hb (by omega) (q6g _)
       refine xs rfl (nn_ _) (y9 rfl _ hg (xs rfl rfl (z7 rfl (hp) rfl tv3 ?_)))
       exact q9 rfl (hJ _ (i + 1) (by omega) (by omega) ⟨⟨cwi (by omega) (by omega) (by omega), ⟨rfl, rfl, (by rw [hst])⟩, ⟨rfl, rfl, rfl⟩, trivial⟩, ⟨lcr, trivial⟩, rfl⟩)
   · have h : i = x.legs.length := by have : ¬ i < x.legs.length := (by simpa using h); omega
     subst h
     rw [List.take_length]
     refine xr rfl (qm rfl ⟨⟨rfl, rfl, trivial⟩, z6 rfl⟩)
theorem qx (c : Clu) (ho : y00 c) (id s : Int) : PC Tryz.prog 177 [.one (.p c.cs), .one (i64 id), .one (i64 s)] (rB (q14 c.cons id s)) := by
 refine PC.begin Tryz.func177 rfl (by kernel_rfl) ?_
 have hf := q0y c id ho.1.1
 cases h : y0w c.cons id with
 | none =>
   rw [y1v h] at hf
   have e : q14 c.cons id s = false := by unfold q14; rw [h]
   rw [e]
   refine z7 rfl (hf) rfl tv3 (xj (k := 11) rfl ?_)
   refine xr rfl (qm rfl ⟨⟨rfl, rfl, trivial⟩, z6 rfl⟩)
 | some x =>
   obtain ⟨i, hi, hx⟩ := y1d h
   rw [hi] at hf
   have hg := gm Con.cs hx
   have hxl := ho.1.2 x (List.mem_of_getElem? hx)
   have e : q14 c.cons id s = (shF x.legs).any (fun y => y == s) := by unfold q14; rw [h, ya9]
   rw [e]
   refine z7 rfl (hf) rfl tv3 (xj (k := 6) rfl (xs rfl (nn_ _) (y9 rfl _ hg (xs rfl rfl (xj (k := 2) rfl (z7 rfl (q1w x hxl) rfl ⟨tv3, trivial⟩ (xj (k := 2) rfl (z7 rfl (y2v _ (shF x.legs) s rfl (by have := y2g x.legs x.legs.length; rw [List.take_length] at this; omega)) rfl tv3 (xj (k := 1) rfl ?_)))))))))
   refine xr rfl (qm rfl ⟨⟨rfl, rfl, trivial⟩, z6 rfl⟩)
   all_goals first
    | (exfalso; simp at b0; omega)
    | skip
theorem q2i (x : Con) (id : Int) : PC Tryz.prog 135 [.agg x.cs, .one (.p [i64 id])] (rB (x.id == id)) := by
 refine PC.begin Tryz.func135 rfl (by kernel_rfl) ?_
 refine xr rfl (qm rfl ⟨⟨rfl, rfl, trivial⟩, z6 rfl⟩)
theorem z1b (c : Clu) (ho : y00 c) (id : Int) (h : y0w c.cons id = none) : PC Tryz.prog 60 [.one (.p c.cs), .one (i64 id)] (.tup [.bor true [i64 0, .l []], .own false [.s (.bool false)]]) := by
 refine PC.begin Tryz.func60 rfl (by kernel_rfl) ?_
 have hi := z7q _ c.cons (fun x => x.id == id) 135 (.p [i64 id]) rfl (fun x _ => q2i x id) ho.1.1
 rw [y1v h] at hi
 refine z7 rfl (hi) rfl ⟨trivial, (List.forall_mem_cons.2 ⟨⟨trivial, trivial⟩, (fun _ h => nomatch h)⟩), trivial⟩ (xj (k := 1) rfl ?_)
 refine xr rfl (qm rfl ⟨(by decide), ⟨⟨rfl, rfl, rfl, trivial⟩, ⟨rfl, rfl, trivial⟩, trivial⟩, z6 rfl⟩)
theorem y1b (c : Clu) (ho : y00 c) (id : Int) (x : Con) (h : y0w c.cons id = some x) : PC Tryz.prog 60 [.one (.p c.cs), .one (i64 id)] (.tup [.bor true x.cs, .own false [.s (.bool true)]]) := by
 refine PC.begin Tryz.func60 rfl (by kernel_rfl) ?_
 have hi := z7q _ c.cons (fun x => x.id == id) 135 (.p [i64 id]) rfl (fun x _ => q2i x id) ho.1.1
 obtain ⟨i, hi0, hx⟩ := y1d h
 rw [hi0] at hi
 have hg := gm Con.cs hx
 refine z7 rfl (hi) rfl ⟨trivial, (List.forall_mem_cons.2 ⟨⟨trivial, trivial⟩, (fun _ h => nomatch h)⟩), trivial⟩ (xj (k := 1) rfl (xs rfl (nn_ _) (y9 rfl _ hg (xs rfl rfl ?_))))
 refine xr rfl (qm rfl ⟨(by decide), ⟨⟨rfl, rfl, rfl, trivial⟩, ⟨rfl, rfl, trivial⟩, trivial⟩, z6 rfl⟩)
 all_goals first
  | (exfalso; simp at b0; omega)
  | skip
theorem y17 (c : Clu) (ho : y00 c) (id s : Int) : PC Tryz.prog 201 [.one (.p c.cs), .one (i64 id), .one (i64 s)] (rB (q14 c.cons id s)) := by
 refine PC.begin Tryz.func201 rfl (by kernel_rfl) ?_
 cases h : y0w c.cons id with
 | none =>
   have e : q14 c.cons id s = false := by unfold q14; rw [h]
   rw [e]
   refine z7 rfl (z1b c ho id h) rfl tv3 (xj (k := 6) rfl ?_)
   refine xr rfl (qm rfl ⟨⟨rfl, rfl, trivial⟩, z6 rfl⟩)
 | some x =>
   obtain ⟨i, hi, hx⟩ := y1d h
   have hxl := ho.1.2 x (List.mem_of_getElem? hx)
   have e : q14 c.cons id s = decide (0 < (yn x s).length) := by unfold q14; rw [h, z6v]
   rw [e]
   refine z7 rfl (y1b c ho id x h) rfl tv3 (xj (k := 3) rfl (z7 rfl (z15 _ _ (by omega)) rfl ⟨tv3, trivial, trivial⟩ (xj (k := 3) rfl (xv rfl rfl rfl ?_))))
   all_goals (refine vb ?_; simp)
theorem q2o (rr : List (List Cell)) : PC Tryz.prog 113 [.one (.l rr)] (rI rr.length) := by
 refine PC.begin Tryz.func113 rfl (by kernel_rfl) ?_
 refine xr rfl (qm rfl ⟨⟨rfl, rfl, trivial⟩, z6 rfl⟩)
theorem z1j (rr : List (List Cell)) : PC Tryz.prog 114 [.one (.l rr)] (rI rr.length) := by
 refine PC.begin Tryz.func114 rfl (by kernel_rfl) ?_
 refine xr rfl (qm rfl ⟨⟨rfl, rfl, trivial⟩, z6 rfl⟩)
theorem z4k (rr : List (List Cell)) : PC Tryz.prog 350 [.one (.l rr)] (rI rr.length) := by
 refine PC.begin Tryz.func350 rfl (by kernel_rfl) ?_
 refine xr rfl (qm rfl ⟨⟨rfl, rfl, trivial⟩, z6 rfl⟩)
theorem q2d (rows : List (List Cell)) (n : Int) (hl : rows.length ≤ 1048576) : PC Tryz.prog 166 [.one (i64 n), .one (.l rows)] (rB (within n 0 ((rows.length : Int) - 1))) := by
 refine PC.begin Tryz.func166 rfl (by kernel_rfl) ?_
 have hw : IntKind.i64.wrap ((rows.length : Int) - 1) = (rows.length : Int) - 1 := wrap_i64 (by omega) (by omega)
 refine z7 rfl (q2o _) rfl ⟨trivial, trivial⟩ (z7 rfl (zn _ _ _) rfl tv4 (xv rfl rfl rfl ?_))
 all_goals (refine vb ?_; rw [hw])
theorem z0e (rows : List (List Cell)) (n : Int) (hl : rows.length ≤ 1048576) : PC Tryz.prog 285 [.one (i64 n), .one (.l rows)] (rB (within n 0 ((rows.length : Int) - 1))) := by
 refine PC.begin Tryz.func285 rfl (by kernel_rfl) ?_
 have hw : IntKind.i64.wrap ((rows.length : Int) - 1) = (rows.length : Int) - 1 := wrap_i64 (by omega) (by omega)
 refine z7 rfl (z1j _) rfl ⟨trivial, trivial⟩ (z7 rfl (zn _ _ _) rfl tv4 (xv rfl rfl rfl ?_))
 all_goals (refine vb ?_; rw [hw])
theorem y2d (rows : List (List Cell)) (n : Int) (hl : rows.length ≤ 1048576) : PC Tryz.prog 287 [.one (i64 n), .one (.l rows)] (rB (within n 0 ((rows.length : Int) - 1))) := by
 refine PC.begin Tryz.func287 rfl (by kernel_rfl) ?_
 have hw : IntKind.i64.wrap ((rows.length : Int) - 1) = (rows.length : Int) - 1 := wrap_i64 (by omega) (by omega)
 refine z7 rfl (z4k _) rfl ⟨trivial, trivial⟩ (z7 rfl (zn _ _ _) rfl tv4 (xv rfl rfl rfl ?_))
 all_goals (refine vb ?_; rw [hw])
abbrev zbr (m : Msg) : Res := .one (.own true [.s (.int .i64 m.k), .s (.int .i64 m.to), .s (.int .i64 m.fr), .s (.int .i64 m.c), .s (.int .i64 m.s), .s (.int .i64 m.b), .s (.int .i64 m.v), .s (.int .i64 m.ob), .s (.int .i64 m.ov)])
theorem kinds {k : Int} (h : Go.Sx.within k 1 6 = true) : k = 1 ∨ k = 2 ∨ k = 3 ∨ k = 4 ∨ k = 5 ∨ k = 6 := by
 have := Go.Sx.within_iff.1 h
 omega
theorem wl1 {α β : Type} (f : α → β) {us : List α} (h : us.length ≤ 1048576) : IntKind.i64.wrap (((us.map f).length : Int) - 1) = (us.length : Int) - 1 := by rw [List.length_map]; exact wrap_i64 (by omega) (by omega)
theorem z0d {α : Type} {p : α → Bool} {l : List α} : decide (z1d p l < 0) = (l.find? p).isNone := by
 cases h : l.find? p with
 | none => rw [y1v h]; rfl
 | some x =>
   obtain ⟨i, hi, _⟩ := y1d h
   rw [hi]; simp
theorem y0e (m : Msg) (hk : Go.Sx.within m.k 1 6 = true) : PC Tryz.prog 187 [.agg m.cs] (zbr m.bare) := by
 refine PC.begin Tryz.func187 rfl (by kernel_rfl) ?_
 obtain ⟨k, to, fr, c, s, b, v, ob, ov⟩ := m
 rcases kinds hk with h | h | h | h | h | h
 · dsimp only at h
   subst h
   rw [show Msg.bare ⟨1, to, fr, c, s, b, v, ob, ov⟩ = ⟨1, to, 0, c, 0, 0, 0, 0, 0⟩ from rfl]
   refine xj (k := 20) rfl ?_
   refine xr rfl (qm rfl ⟨⟨rfl, rfl, rfl, rfl, rfl, rfl, rfl, rfl, rfl, rfl, trivial⟩, z6 rfl⟩)
 · dsimp only at h
   subst h
   rw [show Msg.bare ⟨2, to, fr, c, s, b, v, ob, ov⟩ = ⟨2, to, 0, c, s, b, v, 0, 0⟩ from rfl]
   refine xj (k := 20) rfl ?_
   refine xr rfl (qm rfl ⟨⟨rfl, rfl, rfl, rfl, rfl, rfl, rfl, rfl, rfl, rfl, trivial⟩, z6 rfl⟩)
 · dsimp only at h
   subst h
   rw [show Msg.bare ⟨3, to, fr, c, s, b, v, ob, ov⟩ = ⟨3, to, fr, c, s, b, v, 0, 0⟩ from rfl]
   refine xj (k := 20) rfl ?_
   refine xr rfl (qm rfl ⟨⟨rfl, rfl, rfl, rfl, rfl, rfl, rfl, rfl, rfl, rfl, trivial⟩, z6 rfl⟩)
 · dsimp only at h
   subst h
   rw [show Msg.bare ⟨4, to, fr, c, s, b, v, ob, ov⟩ = ⟨4, to, fr, c, s, b, 0, 0, 0⟩ from rfl]
   refine xj (k := 20) rfl ?_
   refine xr rfl (qm rfl ⟨⟨rfl, rfl, rfl, rfl, rfl, rfl, rfl, rfl, rfl, rfl, trivial⟩, z6 rfl⟩)
 · dsimp only at h
   subst h
   rw [show Msg.bare ⟨5, to, fr, c, s, b, v, ob, ov⟩ = ⟨5, to, fr, c, s, b, 0, ob, ov⟩ from rfl]
   refine xj (k := 20) rfl ?_
   refine xr rfl (qm rfl ⟨⟨rfl, rfl, rfl, rfl, rfl, rfl, rfl, rfl, rfl, rfl, trivial⟩, z6 rfl⟩)
 · dsimp only at h
   subst h
   rw [show Msg.bare ⟨6, to, fr, c, s, b, v, ob, ov⟩ = ⟨6, to, 0, c, 0, 0, v, 0, 0⟩ from rfl]
   refine xj (k := 20) rfl ?_
   refine xr rfl (qm rfl ⟨⟨rfl, rfl, rfl, rfl, rfl, rfl, rfl, rfl, rfl, rfl, trivial⟩, z6 rfl⟩)
theorem z8y (m : Msg) (hk : Go.Sx.within m.k 1 6 = true) : PC Tryz.prog 212 [.agg m.cs] (zbr m.bare) := by
 refine PC.begin Tryz.func212 rfl (by kernel_rfl) ?_
 obtain ⟨k, to, fr, c, s, b, v, ob, ov⟩ := m
 rcases kinds hk with h | h | h | h | h | h
 · dsimp only at h
   subst h
   rw [show Msg.bare ⟨1, to, fr, c, s, b, v, ob, ov⟩ = ⟨1, to, 0, c, 0, 0, 0, 0, 0⟩ from rfl]
   refine xj (k := 10) rfl ?_
   refine xr rfl (qm rfl ⟨⟨rfl, rfl, rfl, rfl, rfl, rfl, rfl, rfl, rfl, rfl, trivial⟩, z6 rfl⟩)
 · dsimp only at h
   subst h
   rw [show Msg.bare ⟨2, to, fr, c, s, b, v, ob, ov⟩ = ⟨2, to, 0, c, s, b, v, 0, 0⟩ from rfl]
   refine xj (k := 5) rfl (qd rfl [] (.take 0 [] (.take 1 (Rg 4 4) (Tk [2, 4] (.alt 3 (.alt 5 (.take 6 [] (.alt 7 .done .nil)) .nil) (.alt 5 (.take 3 [6, 7] (.take 6 [] (.alt 7 .done .nil))) .nil))))) (by kernel_rfl) ?_)
   refine y03 rfl ?_ ?_
   refine xj (k := 2) rfl ?_
   refine xr rfl (qm rfl ⟨⟨rfl, rfl, rfl, rfl, rfl, rfl, rfl, rfl, rfl, rfl, trivial⟩, z6 rfl⟩)
   refine xj (k := 2) rfl ?_
   refine xr rfl (qm rfl ⟨⟨rfl, rfl, rfl, rfl, rfl, rfl, rfl, rfl, rfl, rfl, trivial⟩, z6 rfl⟩)
 · dsimp only at h
   subst h
   rw [show Msg.bare ⟨3, to, fr, c, s, b, v, ob, ov⟩ = ⟨3, to, fr, c, s, b, v, 0, 0⟩ from rfl]
   refine xj (k := 5) rfl (qd rfl [] (.take 0 [] (.take 1 (Rg 4 4) (Tk [2, 4] (.alt 3 (.alt 5 (.take 6 [] (.alt 7 .done .nil)) .nil) (.alt 5 (.take 3 [6, 7] (.take 6 [] (.alt 7 .done .nil))) .nil))))) (by kernel_rfl) ?_)
   refine y03 rfl ?_ ?_
   refine xj (k := 3) rfl (qd rfl [] (.take 0 [] (.take 1 (Rg 4 4) (Tk [2, 4] (.alt 3 (.alt 5 (.take 6 [] (.alt 7 .done .nil)) .nil) (.alt 5 (.take 3 [6, 7] (.take 6 [] (.alt 7 .done .nil))) .nil))))) (by kernel_rfl) ?_)
   refine y03 rfl ?_ ?_
   refine xr rfl (qm rfl ⟨⟨rfl, rfl, rfl, rfl, rfl, rfl, rfl, rfl, rfl, rfl, trivial⟩, z6 rfl⟩)
   refine xr rfl (qm rfl ⟨⟨rfl, rfl, rfl, rfl, rfl, rfl, rfl, rfl, rfl, rfl, trivial⟩, z6 rfl⟩)
   refine xj (k := 3) rfl (qd rfl [] (.take 0 [] (.take 1 (Rg 4 4) (Tk [2, 4] (.alt 3 (.alt 5 (.take 6 [] (.alt 7 .done .nil)) .nil) (.alt 5 (.take 3 [6, 7] (.take 6 [] (.alt 7 .done .nil))) .nil))))) (by kernel_rfl) ?_)
   refine y03 rfl ?_ ?_
   refine xr rfl (qm rfl ⟨⟨rfl, rfl, rfl, rfl, rfl, rfl, rfl, rfl, rfl, rfl, trivial⟩, z6 rfl⟩)
   refine xr rfl (qm rfl ⟨⟨rfl, rfl, rfl, rfl, rfl, rfl, rfl, rfl, rfl, rfl, trivial⟩, z6 rfl⟩)
 · dsimp only at h
   subst h
   rw [show Msg.bare ⟨4, to, fr, c, s, b, v, ob, ov⟩ = ⟨4, to, fr, c, s, b, 0, 0, 0⟩ from rfl]
   refine xj (k := 5) rfl (qd rfl [] (.take 0 [] (.take 1 (Rg 4 4) (Tk [2, 4] (.alt 3 (.alt 5 (.take 6 [] (.alt 7 .done .nil)) .nil) (.alt 5 (.take 3 [6, 7] (.take 6 [] (.alt 7 .done .nil))) .nil))))) (by kernel_rfl) ?_)
   refine y03 rfl ?_ ?_
   refine xj (k := 4) rfl ?_
   refine xr rfl (qm rfl ⟨⟨rfl, rfl, rfl, rfl, rfl, rfl, rfl, rfl, rfl, rfl, trivial⟩, z6 rfl⟩)
   refine xj (k := 4) rfl ?_
   refine xr rfl (qm rfl ⟨⟨rfl, rfl, rfl, rfl, rfl, rfl, rfl, rfl, rfl, rfl, trivial⟩, z6 rfl⟩)
 · dsimp only at h
   subst h
   rw [show Msg.bare ⟨5, to, fr, c, s, b, v, ob, ov⟩ = ⟨5, to, fr, c, s, b, 0, ob, ov⟩ from rfl]
   refine xj (k := 5) rfl (qd rfl [] (.take 0 [] (.take 1 (Rg 4 4) (Tk [2, 4] (.alt 3 (.alt 5 (.take 6 [] (.alt 7 .done .nil)) .nil) (.alt 5 (.take 3 [6, 7] (.take 6 [] (.alt 7 .done .nil))) .nil))))) (by kernel_rfl) ?_)
   refine y03 rfl ?_ ?_
   refine xj (k := 5) rfl (qd rfl [] (.take 0 [] (.take 1 (Rg 4 4) (Tk [2, 4] (.alt 3 (.alt 5 (.take 6 [] (.alt 7 .done .nil)) .nil) (.alt 5 (.take 3 [6, 7] (.take 6 [] (.alt 7 .done .nil))) .nil))))) (by kernel_rfl) ?_)
   refine y03 rfl ?_ ?_
   refine xr rfl (qm rfl ⟨⟨rfl, rfl, rfl, rfl, rfl, rfl, rfl, rfl, rfl, rfl, trivial⟩, z6 rfl⟩)
   refine xr rfl (qm rfl ⟨⟨rfl, rfl, rfl, rfl, rfl, rfl, rfl, rfl, rfl, rfl, trivial⟩, z6 rfl⟩)
   refine xj (k := 5) rfl (qd rfl [] (.take 0 [] (.take 1 (Rg 4 4) (Tk [2, 4] (.alt 3 (.alt 5 (.take 6 [] (.alt 7 .done .nil)) .nil) (.alt 5 (.take 3 [6, 7] (.take 6 [] (.alt 7 .done .nil))) .nil))))) (by kernel_rfl) ?_)
   refine y03 rfl ?_ ?_
   refine xr rfl (qm rfl ⟨⟨rfl, rfl, rfl, rfl, rfl, rfl, rfl, rfl, rfl, rfl, trivial⟩, z6 rfl⟩)
   refine xr rfl (qm rfl ⟨⟨rfl, rfl, rfl, rfl, rfl, rfl, rfl, rfl, rfl, rfl, trivial⟩, z6 rfl⟩)
 · dsimp only at h
   subst h
   rw [show Msg.bare ⟨6, to, fr, c, s, b, v, ob, ov⟩ = ⟨6, to, 0, c, 0, 0, v, 0, 0⟩ from rfl]
   refine xj (k := 7) rfl ?_
   refine xr rfl (qm rfl ⟨⟨rfl, rfl, rfl, rfl, rfl, rfl, rfl, rfl, rfl, rfl, trivial⟩, z6 rfl⟩)
theorem z1m (c : Clu) (ho : y00 c) (m : Msg) (hk : Go.Sx.within m.k 1 6 = true) : PC Tryz.prog 184 [.one (.p c.cs), .agg m.cs] (rB (ends c m)) := by
 refine PC.begin Tryz.func184 rfl (by kernel_rfl) ?_
 have q1 := ho.2.1.1
 have q2 := ho.2.2.1.1
 have q3 := ho.2.2.2.1.1
 have p1 : (c.shs.map Shd.cs).length ≤ 1048576 := by simpa using q1
 have p2 : (c.accs.map Acc.cs).length ≤ 1048576 := by simpa using q2
 have p3 : (c.ldrs.map Ldr.cs).length ≤ 1048576 := by simpa using q3
 have w1 := wl1 Shd.cs q1
 have w2 := wl1 Acc.cs q2
 have w3 := wl1 Ldr.cs q3
 obtain ⟨k, to, fr, mc, s, b, v, ob, ov⟩ := m
 rcases kinds hk with h | h | h | h | h | h
 · dsimp only at h
   subst h
   refine xj (k := 11) rfl (z7 rfl (qi _ _ _) rfl tv4 ?_)
   refine xb rfl ?_ ?_ <;> intro b0
   refine xj (k := 17) rfl ?_
   refine xv rfl rfl rfl ?_; rotate_left
   refine xj (k := 7) rfl ?_
   refine xv rfl rfl rfl ?_; rotate_left
   all_goals (refine vb ?_; simp_all [ends, toN, frN]; done)
 · dsimp only at h
   subst h
   refine xj (k := 11) rfl (z7 rfl (qi _ _ _) rfl tv4 ?_)
   refine xb rfl ?_ ?_ <;> intro b0
   refine xj (k := 17) rfl ?_
   refine xv rfl rfl rfl ?_; rotate_left
   refine xj (k := 7) rfl ?_
   refine xv rfl rfl rfl ?_; rotate_left
   all_goals (refine vb ?_; simp_all [ends, toN, frN]; done)
 · dsimp only at h
   subst h
   refine xj (k := 11) rfl (z7 rfl (qi _ _ _) rfl tv4 ?_)
   refine xb rfl ?_ ?_ <;> intro b0
   refine xj (k := 14) rfl (z7 rfl (qi _ _ _) rfl tv4 (xj (k := 3) rfl ?_))
   refine xv rfl rfl rfl ?_; rotate_left
   refine xj (k := 7) rfl ?_
   refine xv rfl rfl rfl ?_; rotate_left
   all_goals (refine vb ?_; simp_all [ends, toN, frN]; done)
 · dsimp only at h
   subst h
   refine xj (k := 11) rfl (z7 rfl (qi _ _ _) rfl tv4 ?_)
   refine xb rfl ?_ ?_ <;> intro b0
   refine xj (k := 14) rfl (z7 rfl (qi _ _ _) rfl tv4 (xj (k := 3) rfl ?_))
   refine xv rfl rfl rfl ?_; rotate_left
   refine xj (k := 7) rfl ?_
   refine xv rfl rfl rfl ?_; rotate_left
   all_goals (refine vb ?_; simp_all [ends, toN, frN]; done)
 · dsimp only at h
   subst h
   refine xj (k := 11) rfl (z7 rfl (qi _ _ _) rfl tv4 ?_)
   refine xb rfl ?_ ?_ <;> intro b0
   refine xj (k := 14) rfl (z7 rfl (qi _ _ _) rfl tv4 (xj (k := 3) rfl ?_))
   refine xv rfl rfl rfl ?_; rotate_left
   refine xj (k := 7) rfl ?_
   refine xv rfl rfl rfl ?_; rotate_left
   all_goals (refine vb ?_; simp_all [ends, toN, frN]; done)
 · dsimp only at h
   subst h
   refine xj (k := 11) rfl (z7 rfl (qi _ _ _) rfl tv4 ?_)
   refine xb rfl ?_ ?_ <;> intro b0
   refine xj (k := 17) rfl ?_
   refine xv rfl rfl rfl ?_; rotate_left
   refine xj (k := 7) rfl ?_
   refine xv rfl rfl rfl ?_; rotate_left
   all_goals (refine vb ?_; simp_all [ends, toN, frN]; done)
theorem za0 (c : Clu) (ho : y00 c) (m : Msg) (hk : Go.Sx.within m.k 1 6 = true) : PC Tryz.prog 209 [.one (.p c.cs), .agg m.cs] (rB (within m.to 0 ((toN c m : Int) - 1))) := by
 refine PC.begin Tryz.func209 rfl (by kernel_rfl) ?_
 have q1 := ho.2.1.1
 have q2 := ho.2.2.1.1
 have q3 := ho.2.2.2.1.1
 have p1 : (c.shs.map Shd.cs).length ≤ 1048576 := by simpa using q1
 have p2 : (c.accs.map Acc.cs).length ≤ 1048576 := by simpa using q2
 have p3 : (c.ldrs.map Ldr.cs).length ≤ 1048576 := by simpa using q3
 have w1 := wl1 Shd.cs q1
 have w2 := wl1 Acc.cs q2
 have w3 := wl1 Ldr.cs q3
 obtain ⟨k, to, fr, mc, s, b, v, ob, ov⟩ := m
 rcases kinds hk with h | h | h | h | h | h
 · dsimp only at h
   subst h
   refine xj (k := 2) rfl (qd rfl [] (.take 0 [] (.take 1 [6, 7] (Tk [2, 3, 4] (.take 5 [6, 7] (.alt 6 (.take 7 [] .done) .nil))))) (by kernel_rfl) (z7 rfl (q2d _ _ (by assumption)) rfl tv3 (xv rfl rfl rfl ?_)))
   all_goals (refine vb ?_; simp_all [toN]; done)
 · dsimp only at h
   subst h
   refine xj (k := 4) rfl (qd rfl [] (.take 0 [] (.take 1 [6, 7] (Tk [2, 3, 4] (.take 5 [6, 7] (.alt 6 (.take 7 [] .done) .nil))))) (by kernel_rfl) (z7 rfl (z0e _ _ (by assumption)) rfl tv3 (xv rfl rfl rfl ?_)))
   all_goals (refine vb ?_; simp_all [toN]; done)
 · dsimp only at h
   subst h
   refine xj (k := 4) rfl (qd rfl [] (.take 0 [] (.take 1 [6, 7] (Tk [2, 3, 4] (.take 5 [6, 7] (.alt 6 (.take 7 [] .done) .nil))))) (by kernel_rfl) (z7 rfl (y2d _ _ (by assumption)) rfl tv3 (xv rfl rfl rfl ?_)))
   all_goals (refine vb ?_; simp_all [toN]; done)
 · dsimp only at h
   subst h
   refine xj (k := 4) rfl (qd rfl [] (.take 0 [] (.take 1 [6, 7] (Tk [2, 3, 4] (.take 5 [6, 7] (.alt 6 (.take 7 [] .done) .nil))))) (by kernel_rfl) (z7 rfl (z0e _ _ (by assumption)) rfl tv3 (xv rfl rfl rfl ?_)))
   all_goals (refine vb ?_; simp_all [toN]; done)
 · dsimp only at h
   subst h
   refine xj (k := 4) rfl (qd rfl [] (.take 0 [] (.take 1 [6, 7] (Tk [2, 3, 4] (.take 5 [6, 7] (.alt 6 (.take 7 [] .done) .nil))))) (by kernel_rfl) (z7 rfl (y2d _ _ (by assumption)) rfl tv3 (xv rfl rfl rfl ?_)))
   all_goals (refine vb ?_; simp_all [toN]; done)
 · dsimp only at h
   subst h
   refine xj (k := 2) rfl (qd rfl [] (.take 0 [] (.take 1 [6, 7] (Tk [2, 3, 4] (.take 5 [6, 7] (.alt 6 (.take 7 [] .done) .nil))))) (by kernel_rfl) (z7 rfl (q2d _ _ (by assumption)) rfl tv3 (xv rfl rfl rfl ?_)))
   all_goals (refine vb ?_; simp_all [toN]; done)
theorem q7q (c : Clu) (ho : y00 c) (m : Msg) (hk : Go.Sx.within m.k 1 6 = true) : PC Tryz.prog 210 [.one (.p c.cs), .agg m.cs] (rB (decide (m.k < 3) || decide (5 < m.k) || within m.fr 0 ((frN c m : Int) - 1))) := by
 refine PC.begin Tryz.func210 rfl (by kernel_rfl) ?_
 have q1 := ho.2.1.1
 have q2 := ho.2.2.1.1
 have q3 := ho.2.2.2.1.1
 have p1 : (c.shs.map Shd.cs).length ≤ 1048576 := by simpa using q1
 have p2 : (c.accs.map Acc.cs).length ≤ 1048576 := by simpa using q2
 have p3 : (c.ldrs.map Ldr.cs).length ≤ 1048576 := by simpa using q3
 have w1 := wl1 Shd.cs q1
 have w2 := wl1 Acc.cs q2
 have w3 := wl1 Ldr.cs q3
 obtain ⟨k, to, fr, mc, s, b, v, ob, ov⟩ := m
 rcases kinds hk with h | h | h | h | h | h
 · dsimp only at h
   subst h
   refine xj (k := 3) rfl ?_
   refine xr rfl (qm rfl ⟨⟨rfl, rfl, trivial⟩, z6 rfl⟩)
   all_goals (refine vb ?_; simp_all [frN]; done)
 · dsimp only at h
   subst h
   refine xj (k := 3) rfl ?_
   refine xr rfl (qm rfl ⟨⟨rfl, rfl, trivial⟩, z6 rfl⟩)
   all_goals (refine vb ?_; simp_all [frN]; done)
 · dsimp only at h
   subst h
   refine xj (k := 3) rfl (qd rfl [] (.take 0 [] (.take 1 [6, 7] (Tk [2, 3, 4] (.take 5 [6, 7] (.alt 6 (.take 7 [] .done) .nil))))) (by kernel_rfl) (z7 rfl (z0e _ _ (by assumption)) rfl tv3 (xv rfl rfl rfl ?_)))
   all_goals (refine vb ?_; simp_all [frN]; done)
 · dsimp only at h
   subst h
   refine xj (k := 1) rfl (qd rfl [] (.take 0 [] (.take 1 [6, 7] (Tk [2, 3, 4] (.take 5 [6, 7] (.alt 6 (.take 7 [] .done) .nil))))) (by kernel_rfl) (z7 rfl (y2d _ _ (by assumption)) rfl tv3 (xv rfl rfl rfl ?_)))
   all_goals (refine vb ?_; simp_all [frN]; done)
 · dsimp only at h
   subst h
   refine xj (k := 3) rfl (qd rfl [] (.take 0 [] (.take 1 [6, 7] (Tk [2, 3, 4] (.take 5 [6, 7] (.alt 6 (.take 7 [] .done) .nil))))) (by kernel_rfl) (z7 rfl (z0e _ _ (by assumption)) rfl tv3 (xv rfl rfl rfl ?_)))
   all_goals (refine vb ?_; simp_all [frN]; done)
 · dsimp only at h
   subst h
   refine xj (k := 3) rfl ?_
   refine xr rfl (qm rfl ⟨⟨rfl, rfl, trivial⟩, z6 rfl⟩)
   all_goals (refine vb ?_; simp_all [frN]; done)
theorem z5u (c : Clu) (ho : y00 c) (m : Msg) (hk : Go.Sx.within m.k 1 6 = true) : PC Tryz.prog 211 [.one (.p c.cs), .agg m.cs] (rB (ranges c m)) := by
 refine PC.begin Tryz.func211 rfl (by kernel_rfl) ?_
 have q1 := ho.2.1.1
 have q2 := ho.2.2.1.1
 have q3 := ho.2.2.2.1.1
 have p1 : (c.shs.map Shd.cs).length ≤ 1048576 := by simpa using q1
 have p2 : (c.accs.map Acc.cs).length ≤ 1048576 := by simpa using q2
 have p3 : (c.ldrs.map Ldr.cs).length ≤ 1048576 := by simpa using q3
 have w1 := wl1 Shd.cs q1
 have w2 := wl1 Acc.cs q2
 have w3 := wl1 Ldr.cs q3
 obtain ⟨k, to, fr, mc, s, b, v, ob, ov⟩ := m
 rcases kinds hk with h | h | h | h | h | h
 · dsimp only at h
   subst h
   refine xj (k := 1) rfl (z7 rfl (y17 _ (by assumption) _ _) rfl tv4 (xv rfl rfl rfl ?_))
   all_goals (refine vb ?_; simp_all [ranges, Msg.shd, z21, Vt.none]; done)
 · dsimp only at h
   subst h
   refine xj (k := 2) rfl (z7 rfl (y17 _ (by assumption) _ _) rfl tv4 ?_)
   refine xb rfl ?_ ?_ <;> intro b0
   refine xj (k := 5) rfl ?_
   refine xv rfl rfl rfl ?_; rotate_left
   refine xj (k := 2) rfl (z7 rfl (y09 _) rfl ⟨trivial, trivial⟩ (xj (k := 2) rfl ?_))
   refine xb rfl ?_ ?_ <;> intro b1
   refine xv rfl rfl rfl ?_; rotate_left
   refine xj (k := 2) rfl (z7 rfl (q0n _) rfl ⟨trivial, trivial⟩ ?_)
   refine xv rfl rfl rfl ?_; rotate_left
   all_goals (refine vb ?_; simp_all [ranges, Msg.shd, z21, Vt.none]; done)
 · dsimp only at h
   subst h
   refine xj (k := 2) rfl (z7 rfl (y17 _ (by assumption) _ _) rfl tv4 ?_)
   refine xb rfl ?_ ?_ <;> intro b0
   refine xj (k := 5) rfl ?_
   refine xv rfl rfl rfl ?_; rotate_left
   refine xj (k := 2) rfl (z7 rfl (y09 _) rfl ⟨trivial, trivial⟩ (xj (k := 2) rfl ?_))
   refine xb rfl ?_ ?_ <;> intro b1
   refine xv rfl rfl rfl ?_; rotate_left
   refine xj (k := 2) rfl (z7 rfl (q0n _) rfl ⟨trivial, trivial⟩ ?_)
   refine xv rfl rfl rfl ?_; rotate_left
   all_goals (refine vb ?_; simp_all [ranges, Msg.shd, z21, Vt.none]; done)
 · dsimp only at h
   subst h
   refine xj (k := 2) rfl (z7 rfl (y17 _ (by assumption) _ _) rfl tv4 ?_)
   refine xb rfl ?_ ?_ <;> intro b0
   refine xj (k := 5) rfl ?_
   refine xv rfl rfl rfl ?_; rotate_left
   refine xj (k := 2) rfl (z7 rfl (y09 _) rfl ⟨trivial, trivial⟩ (xj (k := 2) rfl ?_))
   refine xb rfl ?_ ?_ <;> intro b1
   refine xv rfl rfl rfl ?_; rotate_left
   refine xj (k := 3) rfl ?_
   refine xv rfl rfl rfl ?_; rotate_left
   all_goals (refine vb ?_; simp_all [ranges, Msg.shd, z21, Vt.none]; done)
 · dsimp only at h
   subst h
   refine xj (k := 2) rfl (z7 rfl (y17 _ (by assumption) _ _) rfl tv4 ?_)
   refine xb rfl ?_ ?_ <;> intro b0
   refine xj (k := 5) rfl ?_
   refine xv rfl rfl rfl ?_; rotate_left
   refine xj (k := 2) rfl (z7 rfl (y09 _) rfl ⟨trivial, trivial⟩ (xj (k := 2) rfl ?_))
   refine xb rfl ?_ ?_ <;> intro b1
   refine xv rfl rfl rfl ?_; rotate_left
   refine xj (k := 3) rfl (qd rfl [] (.take 0 [] (.take 1 (Rg 3 7) (.alt 2 (Tk [3, 4, 5] (.take 6 (Rg 7 3) (.alt 7 (Tk [8, 9] .done) .nil))) .nil))) (by kernel_rfl) (z7 rfl (q38) rfl trivial ?_))
   refine xb rfl ?_ ?_ <;> intro b2
   refine xj (k := 3) rfl ?_
   refine xv rfl rfl rfl ?_; rotate_left
   refine xj (k := 2) rfl (z7 rfl (y23 ⟨ob, ov⟩) rfl ⟨tv3, trivial⟩ (xj (k := 1) rfl ?_))
   refine xv rfl rfl rfl ?_; rotate_left
   all_goals (refine vb ?_; simp_all [ranges, Msg.shd, z21, Vt.none]; done)
 · dsimp only at h
   subst h
   refine xj (k := 2) rfl (z7 rfl (y17 _ (by assumption) _ _) rfl tv4 ?_)
   refine xb rfl ?_ ?_ <;> intro b0
   refine xj (k := 2) rfl (z7 rfl (z2m _) rfl ⟨trivial, trivial⟩ (xj (k := 1) rfl ?_))
   refine xv rfl rfl rfl ?_; rotate_left
   refine xj (k := 3) rfl ?_
   refine xv rfl rfl rfl ?_; rotate_left
   all_goals (refine vb ?_; simp_all [ranges, Msg.shd, z21, Vt.none]; done)
theorem q5k (m n : Msg) : z1c [.int .i64 m.k, .int .i64 m.to, .int .i64 m.fr, .int .i64 m.c, .int .i64 m.s, .int .i64 m.b, .int .i64 m.v, .int .i64 m.ob, .int .i64 m.ov] [.int .i64 n.k, .int .i64 n.to, .int .i64 n.fr, .int .i64 n.c, .int .i64 n.s, .int .i64 n.b, .int .i64 n.v, .int .i64 n.ob, .int .i64 n.ov] = m.same n := by simp [z1c, Msg.same, Bool.and_assoc]
theorem z6q (a b : Int) : z1c [.int .i64 a, .int .i64 b] [.int .i64 Vt.none.b, .int .i64 Vt.none.v] = (a == -1 && b == 0) := by simp [z1c, Vt.none]
theorem q53 (c : Clu) (m : Msg) (hk : Go.Sx.within m.k 1 6 = true) {e i r z : Bool} (h1 : ends c m = e) (h2 : (y0w c.cons m.c).isNone = i) (h3 : ranges c m = r) (h4 : m.same m.bare = z) : z0h c m = (if e then (if i then 4 else if r then (if z then 0 else 1) else 3) else 3) := by
 unfold z0h
 rw [hk, h1, h2, h3, h4]
 cases e <;> cases i <;> cases r <;> cases z <;> rfl
theorem qa7 (c : Clu) (ho : y00 c) (m : Msg) : PC Tryz.prog 102 [.one (.p c.cs), .agg m.cs] (rI (z0h c m)) := by
 refine PC.begin Tryz.func102 rfl (by kernel_rfl) ?_
 by_cases hk : Go.Sx.within m.k 1 6 = true
 · have hf := q0y c m.c ho.1.1
   obtain ⟨k, to, fr, mc, s, b, v, ob, ov⟩ := m
   dsimp only at hf
   rcases kinds hk with h | h | h | h | h | h
   · dsimp only at h
     subst h
     have hE := z1m c ho ⟨1, to, fr, mc, s, b, v, ob, ov⟩ hk
     have hR : ranges c ⟨1, to, fr, mc, s, b, v, ob, ov⟩ = q14 c.cons mc to := by simp [ranges, Msg.shd]
     refine z7 rfl (qi _ _ _) rfl tv4 (xj (k := 1) rfl (z7 rfl (hE) rfl ⟨trivial, tv10, trivial⟩ ?_))
     refine xb rfl ?_ ?_ <;> intro b0
     refine xv rfl rfl rfl ?_; rotate_left
     refine z7 rfl (hf) rfl tv3 ?_
     refine xb rfl ?_ ?_ <;> intro b1
     refine xv rfl rfl rfl ?_; rotate_left
     refine xj (k := 5) rfl (z7 rfl (qx _ (by assumption) _ _) rfl tv4 ?_)
     refine xb rfl ?_ ?_ <;> intro b2
     refine xv rfl rfl rfl ?_; rotate_left
     refine xj (k := 24) rfl (qd rfl [] (.take 0 [] (.take 1 (Rg 2 13) (Tk [2, 3, 4] (.take 5 (Rg 7 8) (.alt 6 (Tk (Rg 7 4) (.take 11 (Rg 12 3) (.alt 12 (Tk [13, 14] .done) .nil))) .nil))))) (by kernel_rfl) (xj (k := 11) rfl (qd rfl [] (.take 0 [3] (.take 1 [2, 3] (.alt 2 (.take 3 [] .done) .nil))) (by kernel_rfl) (z7 rfl (y0e ⟨1, to, fr, mc, s, b, v, ob, ov⟩ hk) rfl ⟨tv10, trivial⟩ ?_))))
     refine xb rfl ?_ ?_ <;> intro b3
     refine xv rfl rfl rfl ?_; rotate_left
     refine xv rfl rfl rfl ?_; rotate_left
     all_goals
      refine vi ?_
      have hI : decide (z1d (fun x : Con => x.id == mc) c.cons < 0) = (y0w c.cons mc).isNone := z0d
      rw [q53 c ⟨1, to, fr, mc, s, b, v, ob, ov⟩ hk rfl hI.symm hR (q5k ⟨1, to, fr, mc, s, b, v, ob, ov⟩ (Msg.bare ⟨1, to, fr, mc, s, b, v, ob, ov⟩)).symm]
      have hN := z6q ob ov
      clear hI hR hE hf hk ho
      ((try dsimp only at *); simp_all only [Bool.not_eq_true', Bool.not_eq_false', Bool.not_true, Bool.not_false, Bool.and_true, Bool.true_and, Bool.and_false, Bool.false_and, Bool.and_self, Bool.or_true, Bool.true_or, Bool.or_false, Bool.false_or, Bool.false_eq_true, if_true, if_false, reduceIte]; done)
   · dsimp only at h
     subst h
     have hE := z1m c ho ⟨2, to, fr, mc, s, b, v, ob, ov⟩ hk
     have hR : ranges c ⟨2, to, fr, mc, s, b, v, ob, ov⟩ = (q14 c.cons mc s && Go.Sx.within b 0 1000 && Go.Sx.within v 1 2) := by simp [ranges, Msg.shd]
     refine z7 rfl (qi _ _ _) rfl tv4 (xj (k := 1) rfl (z7 rfl (hE) rfl ⟨trivial, tv10, trivial⟩ ?_))
     refine xb rfl ?_ ?_ <;> intro b0
     refine xv rfl rfl rfl ?_; rotate_left
     refine z7 rfl (hf) rfl tv3 ?_
     refine xb rfl ?_ ?_ <;> intro b1
     refine xv rfl rfl rfl ?_; rotate_left
     refine xj (k := 5) rfl (z7 rfl (qx _ (by assumption) _ _) rfl tv4 ?_)
     refine xb rfl ?_ ?_ <;> intro b2
     refine xv rfl rfl rfl ?_; rotate_left
     refine xj (k := 7) rfl (z7 rfl (z01 _) rfl ⟨trivial, trivial⟩ (xj (k := 2) rfl ?_))
     refine xb rfl ?_ ?_ <;> intro b3
     refine xv rfl rfl rfl ?_; rotate_left
     refine xj (k := 11) rfl (z7 rfl (y0a _) rfl ⟨trivial, trivial⟩ (xj (k := 2) rfl ?_))
     refine xb rfl ?_ ?_ <;> intro b4
     refine xv rfl rfl rfl ?_; rotate_left
     refine qd rfl [] (.take 0 [] (.take 1 (Rg 2 13) (Tk [2, 3, 4] (.take 5 (Rg 7 8) (.alt 6 (Tk (Rg 7 4) (.take 11 (Rg 12 3) (.alt 12 (Tk [13, 14] .done) .nil))) .nil))))) (by kernel_rfl) (xj (k := 11) rfl (qd rfl [] (.take 0 [3] (.take 1 [2, 3] (.alt 2 (.take 3 [] .done) .nil))) (by kernel_rfl) (z7 rfl (y0e ⟨2, to, fr, mc, s, b, v, ob, ov⟩ hk) rfl ⟨tv10, trivial⟩ ?_)))
     refine xb rfl ?_ ?_ <;> intro b5
     refine xv rfl rfl rfl ?_; rotate_left
     refine xv rfl rfl rfl ?_; rotate_left
     all_goals
      refine vi ?_
      have hI : decide (z1d (fun x : Con => x.id == mc) c.cons < 0) = (y0w c.cons mc).isNone := z0d
      rw [q53 c ⟨2, to, fr, mc, s, b, v, ob, ov⟩ hk rfl hI.symm hR (q5k ⟨2, to, fr, mc, s, b, v, ob, ov⟩ (Msg.bare ⟨2, to, fr, mc, s, b, v, ob, ov⟩)).symm]
      have hN := z6q ob ov
      clear hI hR hE hf hk ho
      ((try dsimp only at *); simp_all only [Bool.not_eq_true', Bool.not_eq_false', Bool.not_true, Bool.not_false, Bool.and_true, Bool.true_and, Bool.and_false, Bool.false_and, Bool.and_self, Bool.or_true, Bool.true_or, Bool.or_false, Bool.false_or, Bool.false_eq_true, if_true, if_false, reduceIte]; done)
   · dsimp only at h
     subst h
     have hE := z1m c ho ⟨3, to, fr, mc, s, b, v, ob, ov⟩ hk
     have hR : ranges c ⟨3, to, fr, mc, s, b, v, ob, ov⟩ = (q14 c.cons mc s && Go.Sx.within b 0 1000 && Go.Sx.within v 1 2) := by simp [ranges, Msg.shd]
     refine z7 rfl (qi _ _ _) rfl tv4 (xj (k := 1) rfl (z7 rfl (hE) rfl ⟨trivial, tv10, trivial⟩ ?_))
     refine xb rfl ?_ ?_ <;> intro b0
     refine xv rfl rfl rfl ?_; rotate_left
     refine z7 rfl (hf) rfl tv3 ?_
     refine xb rfl ?_ ?_ <;> intro b1
     refine xv rfl rfl rfl ?_; rotate_left
     refine xj (k := 5) rfl (z7 rfl (qx _ (by assumption) _ _) rfl tv4 ?_)
     refine xb rfl ?_ ?_ <;> intro b2
     refine xv rfl rfl rfl ?_; rotate_left
     refine xj (k := 7) rfl (z7 rfl (z01 _) rfl ⟨trivial, trivial⟩ (xj (k := 2) rfl ?_))
     refine xb rfl ?_ ?_ <;> intro b3
     refine xv rfl rfl rfl ?_; rotate_left
     refine xj (k := 11) rfl (z7 rfl (y0a _) rfl ⟨trivial, trivial⟩ (xj (k := 2) rfl ?_))
     refine xb rfl ?_ ?_ <;> intro b4
     refine xv rfl rfl rfl ?_; rotate_left
     refine qd rfl [] (.take 0 [] (.take 1 (Rg 2 13) (Tk [2, 3, 4] (.take 5 (Rg 7 8) (.alt 6 (Tk (Rg 7 4) (.take 11 (Rg 12 3) (.alt 12 (Tk [13, 14] .done) .nil))) .nil))))) (by kernel_rfl) (xj (k := 11) rfl (qd rfl [] (.take 0 [3] (.take 1 [2, 3] (.alt 2 (.take 3 [] .done) .nil))) (by kernel_rfl) (z7 rfl (y0e ⟨3, to, fr, mc, s, b, v, ob, ov⟩ hk) rfl ⟨tv10, trivial⟩ ?_)))
     refine xb rfl ?_ ?_ <;> intro b5
     refine xv rfl rfl rfl ?_; rotate_left
     refine xv rfl rfl rfl ?_; rotate_left
     all_goals
      refine vi ?_
      have hI : decide (z1d (fun x : Con => x.id == mc) c.cons < 0) = (y0w c.cons mc).isNone := z0d
      rw [q53 c ⟨3, to, fr, mc, s, b, v, ob, ov⟩ hk rfl hI.symm hR (q5k ⟨3, to, fr, mc, s, b, v, ob, ov⟩ (Msg.bare ⟨3, to, fr, mc, s, b, v, ob, ov⟩)).symm]
      have hN := z6q ob ov
      clear hI hR hE hf hk ho
      ((try dsimp only at *); simp_all only [Bool.not_eq_true', Bool.not_eq_false', Bool.not_true, Bool.not_false, Bool.and_true, Bool.true_and, Bool.and_false, Bool.false_and, Bool.and_self, Bool.or_true, Bool.true_or, Bool.or_false, Bool.false_or, Bool.false_eq_true, if_true, if_false, reduceIte]; done)
   · dsimp only at h
     subst h
     have hE := z1m c ho ⟨4, to, fr, mc, s, b, v, ob, ov⟩ hk
     have hR : ranges c ⟨4, to, fr, mc, s, b, v, ob, ov⟩ = (q14 c.cons mc s && Go.Sx.within b 0 1000) := by simp [ranges, Msg.shd]
     refine z7 rfl (qi _ _ _) rfl tv4 (xj (k := 1) rfl (z7 rfl (hE) rfl ⟨trivial, tv10, trivial⟩ ?_))
     refine xb rfl ?_ ?_ <;> intro b0
     refine xv rfl rfl rfl ?_; rotate_left
     refine z7 rfl (hf) rfl tv3 ?_
     refine xb rfl ?_ ?_ <;> intro b1
     refine xv rfl rfl rfl ?_; rotate_left
     refine xj (k := 5) rfl (z7 rfl (qx _ (by assumption) _ _) rfl tv4 ?_)
     refine xb rfl ?_ ?_ <;> intro b2
     refine xv rfl rfl rfl ?_; rotate_left
     refine xj (k := 7) rfl (z7 rfl (z01 _) rfl ⟨trivial, trivial⟩ (xj (k := 2) rfl ?_))
     refine xb rfl ?_ ?_ <;> intro b3
     refine xv rfl rfl rfl ?_; rotate_left
     refine xj (k := 14) rfl (qd rfl [] (.take 0 [] (.take 1 (Rg 2 13) (Tk [2, 3, 4] (.take 5 (Rg 7 8) (.alt 6 (Tk (Rg 7 4) (.take 11 (Rg 12 3) (.alt 12 (Tk [13, 14] .done) .nil))) .nil))))) (by kernel_rfl) (xj (k := 11) rfl (qd rfl [] (.take 0 [3] (.take 1 [2, 3] (.alt 2 (.take 3 [] .done) .nil))) (by kernel_rfl) (z7 rfl (y0e ⟨4, to, fr, mc, s, b, v, ob, ov⟩ hk) rfl ⟨tv10, trivial⟩ ?_))))
     refine xb rfl ?_ ?_ <;> intro b4
     refine xv rfl rfl rfl ?_; rotate_left
     refine xv rfl rfl rfl ?_; rotate_left
     all_goals
      refine vi ?_
      have hI : decide (z1d (fun x : Con => x.id == mc) c.cons < 0) = (y0w c.cons mc).isNone := z0d
      rw [q53 c ⟨4, to, fr, mc, s, b, v, ob, ov⟩ hk rfl hI.symm hR (q5k ⟨4, to, fr, mc, s, b, v, ob, ov⟩ (Msg.bare ⟨4, to, fr, mc, s, b, v, ob, ov⟩)).symm]
      have hN := z6q ob ov
      clear hI hR hE hf hk ho
      ((try dsimp only at *); simp_all only [Bool.not_eq_true', Bool.not_eq_false', Bool.not_true, Bool.not_false, Bool.and_true, Bool.true_and, Bool.and_false, Bool.false_and, Bool.and_self, Bool.or_true, Bool.true_or, Bool.or_false, Bool.false_or, Bool.false_eq_true, if_true, if_false, reduceIte]; done)
   · dsimp only at h
     subst h
     have hE := z1m c ho ⟨5, to, fr, mc, s, b, v, ob, ov⟩ hk
     have hR : ranges c ⟨5, to, fr, mc, s, b, v, ob, ov⟩ = (q14 c.cons mc s && Go.Sx.within b 0 1000 && ((ob == -1 && ov == 0) || Vt.ok ⟨ob, ov⟩)) := by simp [ranges, Msg.shd]
     refine z7 rfl (qi _ _ _) rfl tv4 (xj (k := 1) rfl (z7 rfl (hE) rfl ⟨trivial, tv10, trivial⟩ ?_))
     refine xb rfl ?_ ?_ <;> intro b0
     refine xv rfl rfl rfl ?_; rotate_left
     refine z7 rfl (hf) rfl tv3 ?_
     refine xb rfl ?_ ?_ <;> intro b1
     refine xv rfl rfl rfl ?_; rotate_left
     refine xj (k := 5) rfl (z7 rfl (qx _ (by assumption) _ _) rfl tv4 ?_)
     refine xb rfl ?_ ?_ <;> intro b2
     refine xv rfl rfl rfl ?_; rotate_left
     refine xj (k := 7) rfl (z7 rfl (z01 _) rfl ⟨trivial, trivial⟩ (xj (k := 2) rfl ?_))
     refine xb rfl ?_ ?_ <;> intro b3
     refine xv rfl rfl rfl ?_; rotate_left
     refine xj (k := 14) rfl (qd rfl [] (.take 0 [] (.take 1 (Rg 2 13) (Tk [2, 3, 4] (.take 5 (Rg 7 8) (.alt 6 (Tk (Rg 7 4) (.take 11 (Rg 12 3) (.alt 12 (Tk [13, 14] .done) .nil))) .nil))))) (by kernel_rfl) (xj (k := 3) rfl (z7 rfl (q23) rfl trivial (xj (k := 2) rfl ?_))))
     refine xb rfl ?_ ?_ <;> intro b4
     refine xj (k := 2) rfl (z7 rfl (y1w ⟨ob, ov⟩) rfl ⟨tv3, trivial⟩ (xj (k := 2) rfl ?_))
     refine xb rfl ?_ ?_ <;> intro b5
     refine xv rfl rfl rfl ?_; rotate_left
     refine qd rfl [] (.take 0 [3] (.take 1 [2, 3] (.alt 2 (.take 3 [] .done) .nil))) (by kernel_rfl) (z7 rfl (y0e ⟨5, to, fr, mc, s, b, v, ob, ov⟩ hk) rfl ⟨tv10, trivial⟩ ?_)
     refine xb rfl ?_ ?_ <;> intro b6
     refine xv rfl rfl rfl ?_; rotate_left
     refine xv rfl rfl rfl ?_; rotate_left
     refine xj (k := 5) rfl (qd rfl [] (.take 0 [3] (.take 1 [2, 3] (.alt 2 (.take 3 [] .done) .nil))) (by kernel_rfl) (z7 rfl (y0e ⟨5, to, fr, mc, s, b, v, ob, ov⟩ hk) rfl ⟨tv10, trivial⟩ ?_))
     refine xb rfl ?_ ?_ <;> intro b5
     refine xv rfl rfl rfl ?_; rotate_left
     refine xv rfl rfl rfl ?_; rotate_left
     all_goals
      refine vi ?_
      have hI : decide (z1d (fun x : Con => x.id == mc) c.cons < 0) = (y0w c.cons mc).isNone := z0d
      rw [q53 c ⟨5, to, fr, mc, s, b, v, ob, ov⟩ hk rfl hI.symm hR (q5k ⟨5, to, fr, mc, s, b, v, ob, ov⟩ (Msg.bare ⟨5, to, fr, mc, s, b, v, ob, ov⟩)).symm]
      have hN := z6q ob ov
      clear hI hR hE hf hk ho
      ((try dsimp only at *); simp_all only [Bool.not_eq_true', Bool.not_eq_false', Bool.not_true, Bool.not_false, Bool.and_true, Bool.true_and, Bool.and_false, Bool.false_and, Bool.and_self, Bool.or_true, Bool.true_or, Bool.or_false, Bool.false_or, Bool.false_eq_true, if_true, if_false, reduceIte]; done)
   · dsimp only at h
     subst h
     have hE := z1m c ho ⟨6, to, fr, mc, s, b, v, ob, ov⟩ hk
     have hR : ranges c ⟨6, to, fr, mc, s, b, v, ob, ov⟩ = (q14 c.cons mc to && Go.Sx.within v 1 2) := by simp [ranges, Msg.shd]
     refine z7 rfl (qi _ _ _) rfl tv4 (xj (k := 1) rfl (z7 rfl (hE) rfl ⟨trivial, tv10, trivial⟩ ?_))
     refine xb rfl ?_ ?_ <;> intro b0
     refine xv rfl rfl rfl ?_; rotate_left
     refine z7 rfl (hf) rfl tv3 ?_
     refine xb rfl ?_ ?_ <;> intro b1
     refine xv rfl rfl rfl ?_; rotate_left
     refine xj (k := 5) rfl (z7 rfl (qx _ (by assumption) _ _) rfl tv4 ?_)
     refine xb rfl ?_ ?_ <;> intro b2
     refine xv rfl rfl rfl ?_; rotate_left
     refine xj (k := 21) rfl (z7 rfl (y0a _) rfl ⟨trivial, trivial⟩ (xj (k := 2) rfl ?_))
     refine xb rfl ?_ ?_ <;> intro b3
     refine xv rfl rfl rfl ?_; rotate_left
     refine qd rfl [] (.take 0 [] (.take 1 (Rg 2 13) (Tk [2, 3, 4] (.take 5 (Rg 7 8) (.alt 6 (Tk (Rg 7 4) (.take 11 (Rg 12 3) (.alt 12 (Tk [13, 14] .done) .nil))) .nil))))) (by kernel_rfl) (xj (k := 11) rfl (qd rfl [] (.take 0 [3] (.take 1 [2, 3] (.alt 2 (.take 3 [] .done) .nil))) (by kernel_rfl) (z7 rfl (y0e ⟨6, to, fr, mc, s, b, v, ob, ov⟩ hk) rfl ⟨tv10, trivial⟩ ?_)))
     refine xb rfl ?_ ?_ <;> intro b4
     refine xv rfl rfl rfl ?_; rotate_left
     refine xv rfl rfl rfl ?_; rotate_left
     all_goals
      refine vi ?_
      have hI : decide (z1d (fun x : Con => x.id == mc) c.cons < 0) = (y0w c.cons mc).isNone := z0d
      rw [q53 c ⟨6, to, fr, mc, s, b, v, ob, ov⟩ hk rfl hI.symm hR (q5k ⟨6, to, fr, mc, s, b, v, ob, ov⟩ (Msg.bare ⟨6, to, fr, mc, s, b, v, ob, ov⟩)).symm]
      have hN := z6q ob ov
      clear hI hR hE hf hk ho
      ((try dsimp only at *); simp_all only [Bool.not_eq_true', Bool.not_eq_false', Bool.not_true, Bool.not_false, Bool.and_true, Bool.true_and, Bool.and_false, Bool.false_and, Bool.and_self, Bool.or_true, Bool.true_or, Bool.or_false, Bool.false_or, Bool.false_eq_true, if_true, if_false, reduceIte]; done)
 · have hk : Go.Sx.within m.k 1 6 = false := by simpa using hk
   refine z7 rfl (qi _ _ _) rfl tv4 ?_
   refine xb rfl ?_ ?_ <;> intro b0
   refine xv rfl rfl rfl ?_; rotate_left
   exact absurd b0 (by simp; omega)
   all_goals first
    | (refine vi ?_; unfold z0h; rw [hk]; rfl)
    | (exfalso; simp_all; done)
theorem y9w (c : Clu) (ho : y00 c) (m : Msg) : PC Tryz.prog 124 [.agg c.cs, .agg m.cs] (rI (z0h c m)) := by
 refine PC.begin Tryz.func124 rfl (by kernel_rfl) ?_
 by_cases hk : Go.Sx.within m.k 1 6 = true
 · have hT := za0 c ho m hk
   have hF := q7q c ho m hk
   have hR := z5u c ho m hk
   have hP := z8y m hk
   refine z8g (n := 0) rfl (ι := Unit) (fun _ => True) (fun _ => ⟨[(2, .one (.b (.p c.cs))), (3, .one (.a 3 0))], [(3, .var (m.cs.map .b))]⟩) ?_ ?_
   · intro K hK
     exact q9 rfl (hK _ () trivial ⟨⟨⟨rfl, rfl, rfl⟩, ⟨rfl, rfl, rfl⟩, trivial⟩, ⟨lcr, trivial⟩, rfl⟩)
   intro _ _
   cases h : y0w c.cons m.c with
   | none =>
     refine z7 rfl (zn _ _ _) rfl tv4 ?_
     refine xb rfl ?_ ?_ <;> intro b0
     exact absurd b0 (by simp; omega)
     refine z7 rfl (hT) rfl ⟨trivial, tv10, trivial⟩ ?_
     refine xb rfl ?_ ?_ <;> intro b1
     refine xj (k := 4) rfl ?_
     refine xv rfl rfl rfl ?_; rotate_left
     refine xj (k := 1) rfl (z7 rfl (hF) rfl ⟨trivial, tv10, trivial⟩ (xj (k := 2) rfl ?_))
     refine xb rfl ?_ ?_ <;> intro b2
     refine xv rfl rfl rfl ?_; rotate_left
     refine z7 rfl (z1b c ho m.c h) rfl tv3 (xj (k := 1) rfl ?_)
     refine xv rfl rfl rfl ?_; rotate_left
     all_goals
      refine vi ?_
      rw [q53 c m hk rfl (show (y0w c.cons m.c).isNone = true by rw [h]; rfl) rfl rfl]
      unfold ends
      clear hT hF hR hP ho h hk
      ((try dsimp only at *); simp_all only [Bool.not_eq_true', Bool.not_eq_false', Bool.not_true, Bool.not_false, Bool.and_true, Bool.true_and, Bool.and_false, Bool.false_and, Bool.and_self, Bool.or_true, Bool.true_or, Bool.or_false, Bool.false_or, Bool.false_eq_true, if_true, if_false, reduceIte]; done)
   | some x =>
     refine z7 rfl (zn _ _ _) rfl tv4 ?_
     refine xb rfl ?_ ?_ <;> intro b0
     exact absurd b0 (by simp; omega)
     refine z7 rfl (hT) rfl ⟨trivial, tv10, trivial⟩ ?_
     refine xb rfl ?_ ?_ <;> intro b1
     refine xj (k := 4) rfl ?_
     refine xv rfl rfl rfl ?_; rotate_left
     refine xj (k := 1) rfl (z7 rfl (hF) rfl ⟨trivial, tv10, trivial⟩ (xj (k := 2) rfl ?_))
     refine xb rfl ?_ ?_ <;> intro b2
     refine xv rfl rfl rfl ?_; rotate_left
     refine z7 rfl (y1b c ho m.c x h) rfl tv3 (xj (k := 1) rfl (z7 rfl (hR) rfl ⟨trivial, tv10, trivial⟩ ?_))
     refine xb rfl ?_ ?_ <;> intro b3
     refine xv rfl rfl rfl ?_; rotate_left
     refine qd rfl [] (.take 0 [3, 4] (.take 1 (Rg 2 3) (.alt 2 (Tk [3, 4] .done) .nil))) (by kernel_rfl) (z7 rfl (hP) rfl ⟨tv10, trivial⟩ ?_)
     refine xb rfl ?_ ?_ <;> intro b4
     refine xv rfl rfl rfl ?_; rotate_left
     refine xv rfl rfl rfl ?_; rotate_left
     all_goals
      refine vi ?_
      rw [q53 c m hk rfl (show (y0w c.cons m.c).isNone = false by rw [h]; rfl) rfl (q5k m m.bare).symm]
      unfold ends
      clear hT hF hR hP ho h hk
      ((try dsimp only at *); simp_all only [Bool.not_eq_true', Bool.not_eq_false', Bool.not_true, Bool.not_false, Bool.and_true, Bool.true_and, Bool.and_false, Bool.false_and, Bool.and_self, Bool.or_true, Bool.true_or, Bool.or_false, Bool.false_or, Bool.false_eq_true, if_true, if_false, reduceIte]; done)
 · have hk : Go.Sx.within m.k 1 6 = false := by simpa using hk
   refine z7 rfl (zn _ _ _) rfl tv4 ?_
   refine xb rfl ?_ ?_ <;> intro b0
   refine xv rfl rfl rfl ?_; rotate_left
   exact absurd b0 (by simp; omega)
   all_goals first
    | (refine vi ?_; unfold z0h; rw [hk]; rfl)
    | (exfalso; simp_all; done)
theorem z8p {a b c d a' b' c' d' : Int} : z1c [.int .i64 a, .int .i64 b, .int .i64 c, .int .i64 d] [.int .i64 a', .int .i64 b', .int .i64 c', .int .i64 d'] = decide (Leg.mk a b c d = Leg.mk a' b' c' d') := by
 rw [Bool.eq_iff_iff]; simp [z1c]
theorem z7k (us vs : List Leg) (hx : us.length ≤ 1048576) : PC Tryz.prog 278 [.one (.l (us.map Leg.cs)), .one (.l (vs.map Leg.cs))] (rB (decide (us = vs))) := by
 refine PC.begin Tryz.func278 rfl (by kernel_rfl) ?_
 refine xb rfl ?_ ?_ <;> intro h0
 · have hne : ¬ us.length = vs.length := by simp at h0; omega
   refine xv rfl rfl rfl ?_
   all_goals (refine vb ?_; rw [eq_comm, decide_eq_false_iff_not]; exact fun e => hne (by rw [e]))
 · have he : us.length = vs.length := by simp at h0; omega
   refine qc rfl (ι := Nat) (fun i => i ≤ us.length ∧ us.take i = vs.take i) (fun i => ⟨[(13, sV (.int .i64 i)), (12, sV (.int .i64 (us.map Leg.cs).length)), (0, .one (.b (.l (us.map Leg.cs)))), (1, .one (.b (.l (vs.map Leg.cs))))], []⟩) (fun i => us.length - i) 0 ⟨Nat.zero_le _, rfl⟩ ?_ ?_
   · exact ⟨⟨rfl, rfl, rfl, rfl, trivial⟩, trivial, rfl⟩
   · intro i ⟨hi, hq⟩ J hJ
     refine xb rfl ?_ ?_ <;> intro h
     · have h : i < us.length := by simpa using h
       obtain ⟨x, hx1⟩ := gx h
       obtain ⟨y, hy1⟩ := gx (xs := vs) (i := i) (by omega)
       have hg := gm Leg.cs hx1
       have hg2 := gm Leg.cs hy1
       refine qd rfl [] (Tk [0, 1, 2] (.take 3 [8] (Tk [4, 5, 6] (.take 7 [8] (.take 8 [] .done))))) (by kernel_rfl) (xs rfl (nn_ _) (y9 rfl _ hg (xs rfl rfl (xs rfl (nn_ _) (y9 rfl _ hg2 (xs rfl rfl ?_))))))
       refine xb rfl ?_ ?_ <;> intro b0
       refine xv rfl rfl rfl ?_; rotate_left
       rotate_left
       · rw [z8p] at b0
         refine vb ?_; rw [eq_comm, decide_eq_false_iff_not]; intro e; subst e; rw [hx1] at hy1; cases hy1; simp at b0
       · rw [z8p] at b0
         have e : x = y := by simpa only [Bool.not_eq_false', decide_eq_true_eq] using b0
         exact q9 rfl (hJ _ (i + 1) ⟨by omega, by rw [List.take_add_one, List.take_add_one, hx1, hy1, hq, e]⟩ (by omega) ⟨⟨cwi (by omega) (by omega) (by omega), rfl, rfl, rfl, trivial⟩, trivial, rfl⟩)
     · have h : i = us.length := by have : ¬ i < us.length := (by simpa using h); omega
       rw [h, List.take_length, he, List.take_length] at hq
       refine xv rfl rfl rfl ?_
       all_goals (refine vb ?_; rw [hq]; simp)
theorem q6a (a b : Con) (ha : a.legs.length ≤ 1048576) : PC Tryz.prog 203 [.agg a.cs, .agg b.cs] (rB (a.same b)) := by
 refine PC.begin Tryz.func203 rfl (by kernel_rfl) ?_
 refine xb rfl ?_ ?_ <;> intro b0
 refine xj (k := 4) rfl (z7 rfl (z7k a.legs b.legs ha) rfl tv3 (xj (k := 1) rfl ?_))
 refine xv rfl rfl rfl ?_; rotate_left
 refine xj (k := 5) rfl ?_
 refine xv rfl rfl rfl ?_; rotate_left
 all_goals (refine vb ?_; unfold Con.same; simp_all)
theorem y4i (a b : Con) (ha : a.legs.length ≤ 1048576) : PC Tryz.prog 178 [.agg a.cs, .agg b.cs] (rB (a.same b)) := by
 refine PC.begin Tryz.func178 rfl (by kernel_rfl) ?_
 refine xb rfl ?_ ?_ <;> intro b0
 refine xj (k := 8) rfl ?_
 refine xv rfl rfl rfl ?_; rotate_left
 refine xj (k := 7) rfl ?_
 refine xb rfl ?_ ?_ <;> intro b1
 refine xv rfl rfl rfl ?_; rotate_left
 rotate_left
 · have h0 : ¬ a.id = b.id := by simpa using b0
   refine vb ?_; simp [Con.same, h0]
 · have hne : ¬ a.legs.length = b.legs.length := by simp at b1; omega
   refine vb ?_; unfold Con.same; rw [eq_comm, Bool.and_eq_false_iff]; exact .inr (decide_eq_false (fun e => hne (by rw [e])))
 · skip
   · have h0 : a.id = b.id := by simpa using b0
     have he : a.legs.length = b.legs.length := by simp at b1; omega
     clear b0 b1
     refine qc rfl (ι := Nat) (fun i => i ≤ a.legs.length ∧ a.legs.take i = b.legs.take i) (fun i => ⟨[(5, sV (.int .i64 i)), (2, .one (.a 2 0)), (3, .one (.a 3 0))], [(2, .var (a.cs.map .b)), (3, .var (b.cs.map .b))]⟩) (fun i => a.legs.length - i) 0 ⟨Nat.zero_le _, rfl⟩ ?_ ?_
     · exact ⟨⟨rfl, ⟨rfl, rfl, rfl⟩, ⟨rfl, rfl, rfl⟩, trivial⟩, ⟨lcr, lcr, trivial⟩, rfl⟩
     · intro i ⟨hi, hq⟩ J hJ
       refine xb rfl ?_ ?_ <;> intro h
       · have h : i < a.legs.length := by simpa using h
         obtain ⟨x, hx1⟩ := gx h
         obtain ⟨y, hy1⟩ := gx (xs := b.legs) (i := i) (by omega)
         have hg := gm Leg.cs hx1
         have hg2 := gm Leg.cs hy1
         refine qd rfl [] (.take 0 [] (.take 1 [3, 4, 10] (Tk [2, 3] (.take 4 [10] (.take 5 [] (.take 6 (Rg 8 3) (Tk [7, 8] (.take 9 [10] (.take 10 [] .done))))))))) (by kernel_rfl) (xs rfl (nn_ _) (y9 rfl _ hg (xs rfl rfl (xs rfl (nn_ _) (y9 rfl _ hg2 (xs rfl rfl ?_))))))
         refine xb rfl ?_ ?_ <;> intro b0
         refine xv rfl rfl rfl ?_; rotate_left
         rotate_left
         · rw [z8p] at b0
           refine vb ?_; unfold Con.same; rw [eq_comm, Bool.and_eq_false_iff]; refine .inr (decide_eq_false (fun e => ?_)); rw [e, hy1] at hx1; cases hx1; simp at b0
         · rw [z8p] at b0
           have e : x = y := by simpa only [Bool.not_eq_false', decide_eq_true_eq] using b0
           exact q9 rfl (hJ _ (i + 1) ⟨by omega, by rw [List.take_add_one, List.take_add_one, hx1, hy1, hq, e]⟩ (by omega) ⟨⟨cwi (by omega) (by omega) (by omega), ⟨rfl, rfl, rfl⟩, ⟨rfl, rfl, rfl⟩, trivial⟩, ⟨lcr, lcr, trivial⟩, rfl⟩)
       · have h : i = a.legs.length := by have : ¬ i < a.legs.length := (by simpa using h); omega
         rw [h, List.take_length, he, List.take_length] at hq
         refine xv rfl rfl rfl ?_
         all_goals (refine vb ?_; simp [Con.same, h0, hq])
theorem z4a (c : Clu) (ho : y00 c) (l : Leg) : PC Tryz.prog 268 [.agg l.cs, .one (.p [.p c.cs])] (rB (!(Go.Sx.within l.s 0 ((c.shs.length : Int) - 1)))) := by
 refine PC.begin Tryz.func268 rfl (by kernel_rfl) ?_
 have q1 := ho.2.1.1
 have p1 : (c.shs.map Shd.cs).length ≤ 1048576 := by simpa using q1
 refine qd rfl [] (.take 0 [] (.take 1 (Rg 6 3) (.take 2 (Rg 3 6) (Tk [3, 4] (.take 5 (Rg 6 3) (.alt 6 (Tk [7, 8] .done) .nil)))))) (by kernel_rfl) (z7 rfl (q2d _ _ (by assumption)) rfl tv3 (xv rfl rfl rfl ?_))
 all_goals (refine vb ?_; rw [List.length_map])
theorem q2k (c : Clu) (ho : y00 c) (x : Con) (hl : x.legs.length ≤ 1048576) : PC Tryz.prog 198 [.one (.p c.cs), .agg x.cs] (rB (!(qb6 c x))) := by
 refine PC.begin Tryz.func198 rfl (by kernel_rfl) ?_
 have hi := y5f _ x.legs (fun l => !(Go.Sx.within l.s 0 ((c.shs.length : Int) - 1))) 268 (.p [.p c.cs]) rfl (fun l _ => z4a c ho l) hl
 refine z7 rfl (hi) rfl ⟨trivial, (List.forall_mem_cons.2 ⟨⟨trivial, trivial⟩, (fun _ h => nomatch h)⟩), trivial⟩ ?_
 refine xr rfl (qm rfl ⟨⟨rfl, rfl, trivial⟩, z6 rfl⟩)
theorem y8r (c : Clu) (ho : y00 c) : PC Tryz.prog 115 [.one (.p c.cs)] (rI (scan (q0c c) c.cons.length)) := by
 refine PC.begin Tryz.func115 rfl (by kernel_rfl) ?_
 have hl := ho.1.1
 refine qc rfl (ι := Nat) (fun i => i ≤ c.cons.length ∧ ∀ j, j < i → q0c c j = 0) (fun i => ⟨[(11, sV (.int .i64 i)), (10, sV (.int .i64 (c.cons.map Con.cs).length)), (9, .one (.b (.l (c.cons.map Con.cs)))), (0, .one (.b (.p c.cs)))], []⟩) (fun i => c.cons.length - i) 0 ⟨Nat.zero_le _, fun j hj => by omega⟩ ?_ ?_
 · exact ⟨⟨rfl, rfl, rfl, rfl, trivial⟩, trivial, rfl⟩
 · intro i ⟨hi, h0⟩ J hJ
   refine xb rfl ?_ ?_ <;> intro h
   · have h : i < c.cons.length := by simpa using h
     obtain ⟨x, hx⟩ := gx h
     have hg := gm Con.cs hx
     have hxl := ho.1.2 x (List.mem_of_getElem? hx)
     rcases Nat.eq_zero_or_pos i with hz | hz
     · subst hz
       refine xs rfl (nn_ _) (y9 rfl _ hg (xs rfl rfl (z7 rfl (y4b _ (by assumption)) rfl ⟨tv3, trivial⟩ ?_)))
       refine xb rfl ?_ ?_ <;> intro b0
       refine xv rfl rfl rfl ?_; rotate_left
       refine z7 rfl (q2k c ho x hxl) rfl ⟨trivial, tv3, trivial⟩ ?_
       refine xb rfl ?_ ?_ <;> intro b1
       refine xv rfl rfl rfl ?_; rotate_left
       refine qd rfl [] (Tk (Rg 0 6) (.take 6 (Rg 9 3 ++ Rg 14 3) (Tk (Rg 7 4) (.take 11 (Rg 14 3) (.take 12 [] (.take 13 (Rg 14 3) (Tk [14, 15, 16] .done))))))) (by kernel_rfl) ?_
       refine xj (k := 14) rfl ?_; rotate_left
       all_goals (first | (refine vi (q8 h h0 ?_ (by first | decide | decide | simp_all)); clear hJ h0 hg; (first | (simp_all [q0c, ahead_zero]; done) | (simp_all [q0c, ahead_zero]; omega)); done) | (refine q9 rfl (hJ _ 1 ⟨by omega, qb h0 ?_⟩ (by omega) ⟨⟨cwi (by omega) (by omega) (by omega), rfl, rfl, rfl, trivial⟩, trivial, rfl⟩); clear hJ h0 hg; (first | (simp_all [q0c, ahead_zero]; done) | (simp_all [q0c, ahead_zero]; omega)); done) | skip)
     · obtain ⟨p, hp⟩ := gx (xs := c.cons) (i := i - 1) (by omega)
       have hgp := q19 Con.cs hz (by omega) hp
       refine xs rfl (nn_ _) (y9 rfl _ hg (xs rfl rfl (z7 rfl (y4b _ (by assumption)) rfl ⟨tv3, trivial⟩ ?_)))
       refine xb rfl ?_ ?_ <;> intro b0
       refine xv rfl rfl rfl ?_; rotate_left
       refine z7 rfl (q2k c ho x hxl) rfl ⟨trivial, tv3, trivial⟩ ?_
       refine xb rfl ?_ ?_ <;> intro b1
       refine xv rfl rfl rfl ?_; rotate_left
       refine qd rfl [] (Tk (Rg 0 6) (.take 6 (Rg 9 3 ++ Rg 14 3) (Tk (Rg 7 4) (.take 11 (Rg 14 3) (.take 12 [] (.take 13 (Rg 14 3) (Tk [14, 15, 16] .done))))))) (by kernel_rfl) ?_
       refine xb rfl ?_ ?_ <;> intro b2
       refine xj (k := 6) rfl (xs rfl (q0m hz (by omega)) (y9 rfl _ hgp (xs rfl rfl (xj (k := 6) rfl ?_))))
       refine xb rfl ?_ ?_ <;> intro b3
       refine xv rfl rfl rfl ?_; rotate_left
       rotate_left
       refine xj (k := 13) rfl ?_; rotate_left
       all_goals (first | (refine vi (q8 h h0 ?_ (by first | decide | decide | simp_all)); clear hJ h0 hg hgp; (first | (simp_all [q0c, ya hz hp]; done) | (simp_all [q0c, ya hz hp]; omega)); done) | (refine q9 rfl (hJ _ (i + 1) ⟨by omega, qb h0 ?_⟩ (by omega) ⟨⟨cwi (by omega) (by omega) (by omega), rfl, rfl, rfl, trivial⟩, trivial, rfl⟩); clear hJ h0 hg hgp; (first | (simp_all [q0c, ya hz hp]; done) | (simp_all [q0c, ya hz hp]; omega)); done) | skip)
   · have h : ¬ i < c.cons.length := by simpa using h
     have hz := zg (f := q0c c) (n := c.cons.length) (fun j hj => h0 j (by omega))
     clear hJ
     refine xv rfl rfl rfl ?_
     exact vi (hz.symm)
theorem q90 (c : Clu) (ho : y00 c) : PC Tryz.prog 98 [.one (.p c.cs)] (rI (scan (q0c c) c.cons.length)) := by
 refine PC.begin Tryz.func98 rfl (by kernel_rfl) ?_
 have hl := ho.1.1
 have q1 := ho.2.1.1
 refine qc rfl (ι := Nat) (fun i => i ≤ c.cons.length ∧ ∀ j, j < i → q0c c j = 0) (fun i => ⟨[(3, sV (.int .i64 i)), (0, .one (.b (.p c.cs)))], []⟩) (fun i => c.cons.length - i) 0 ⟨Nat.zero_le _, fun j hj => by omega⟩ ?_ ?_
 · exact ⟨⟨rfl, rfl, trivial⟩, trivial, rfl⟩
 · intro i ⟨hi, h0⟩ J hJ
   refine xb rfl ?_ ?_ <;> intro h
   · have h : i < c.cons.length := by simpa using h
     obtain ⟨x, hx⟩ := gx h
     have hg := gm Con.cs hx
     have hxl := ho.1.2 x (List.mem_of_getElem? hx)
     have hla : yq x = 0 → _ := fun h => y7t h c
     rcases Nat.eq_zero_or_pos i with hz | hz
     · subst hz
       refine xs rfl (nn_ _) (y9 rfl _ hg (xs rfl rfl (z7 rfl (z4i _ (by assumption)) rfl ⟨tv3, trivial⟩ ?_)))
       refine xb rfl ?_ ?_ <;> intro b0
       refine xv rfl rfl rfl ?_; rotate_left
       refine z7 rfl (q1w x hxl) rfl ⟨tv3, trivial⟩ (qd rfl [] (Tk (Rg 0 5) (.take 5 [11] (Tk [6, 7, 8] (.take 9 [10, 11] (Tk [10, 11] .done))))) (by kernel_rfl) (xs rfl (q7t (by simpa using b0)) (y9 rfl _ (q51 (by simpa using b0)) (xs rfl rfl ?_))))
       refine xb rfl ?_ ?_ <;> intro b1
       refine xv rfl rfl rfl ?_; rotate_left
       refine qd rfl [] (Tk (Rg 0 4) (.take 4 [14, 15] (Tk [5, 6, 7] (.take 8 (Rg 11 5) (Tk (Rg 9 4) (.take 13 [14, 15] (Tk [14, 15] .done))))))) (by kernel_rfl) ?_
       refine xj (k := 14) rfl ?_; rotate_left
       all_goals (first | (refine vi (q8 h h0 ?_ (by first | decide | decide | simp_all)); clear hJ h0 hg; (first | (simp_all [q0c, ahead_zero]; done) | (simp_all [q0c, ahead_zero]; omega)); done) | (refine q9 rfl (hJ _ 1 ⟨by omega, qb h0 ?_⟩ (by omega) ⟨⟨cwi (by omega) (by omega) (by omega), rfl, trivial⟩, trivial, rfl⟩); clear hJ h0 hg; (first | (simp_all [q0c, ahead_zero]; done) | (simp_all [q0c, ahead_zero]; omega)); done) | skip)
     · obtain ⟨p, hp⟩ := gx (xs := c.cons) (i := i - 1) (by omega)
       have hgp := q19 Con.cs hz (by omega) hp
       refine xs rfl (nn_ _) (y9 rfl _ hg (xs rfl rfl (z7 rfl (z4i _ (by assumption)) rfl ⟨tv3, trivial⟩ ?_)))
       refine xb rfl ?_ ?_ <;> intro b0
       refine xv rfl rfl rfl ?_; rotate_left
       refine z7 rfl (q1w x hxl) rfl ⟨tv3, trivial⟩ (qd rfl [] (Tk (Rg 0 5) (.take 5 [11] (Tk [6, 7, 8] (.take 9 [10, 11] (Tk [10, 11] .done))))) (by kernel_rfl) (xs rfl (q7t (by simpa using b0)) (y9 rfl _ (q51 (by simpa using b0)) (xs rfl rfl ?_))))
       refine xb rfl ?_ ?_ <;> intro b1
       refine xv rfl rfl rfl ?_; rotate_left
       refine qd rfl [] (Tk (Rg 0 4) (.take 4 [14, 15] (Tk [5, 6, 7] (.take 8 (Rg 11 5) (Tk (Rg 9 4) (.take 13 [14, 15] (Tk [14, 15] .done))))))) (by kernel_rfl) ?_
       refine xb rfl ?_ ?_ <;> intro b2
       refine xj (k := 8) rfl (xs rfl (q0m hz (by omega)) (y9 rfl _ hgp (xs rfl rfl (xj (k := 4) rfl ?_))))
       refine xb rfl ?_ ?_ <;> intro b3
       refine xv rfl rfl rfl ?_; rotate_left
       rotate_left
       refine xj (k := 13) rfl ?_; rotate_left
       all_goals (first | (refine vi (q8 h h0 ?_ (by first | decide | decide | simp_all)); clear hJ h0 hg hgp; (first | (simp_all [q0c, ya hz hp]; done) | (simp_all [q0c, ya hz hp]; omega)); done) | (refine q9 rfl (hJ _ (i + 1) ⟨by omega, qb h0 ?_⟩ (by omega) ⟨⟨cwi (by omega) (by omega) (by omega), rfl, trivial⟩, trivial, rfl⟩); clear hJ h0 hg hgp; (first | (simp_all [q0c, ya hz hp]; done) | (simp_all [q0c, ya hz hp]; omega)); done) | skip)
   · have h : ¬ i < c.cons.length := by simpa using h
     have hz := zg (f := q0c c) (n := c.cons.length) (fun j hj => h0 j (by omega))
     clear hJ
     refine xv rfl rfl rfl ?_
     exact vi (hz.symm)
theorem zaq (rr : List (List Cell)) (us : List Mk) (p : Mk → Bool) (fn : Nat) (c0 : Cell) (c1 : Cell) (hr : rr = us.map Mk.cs) (hf : ∀ x ∈ us, PC Tryz.prog fn [.agg x.cs, .one c0, .one c1] (rB (p x))) (hl : us.length ≤ 1048576) : PC Tryz.prog 277 [.one (.l rr), .one (.f fn [c0, c1])] (rI (z1d p us)) := by
 refine PC.begin Tryz.func277 rfl (by kernel_rfl) ?_
 subst hr
 have hn : (us.map Mk.cs).length = us.length := by simp
 refine qc rfl (ι := Nat) (fun i => i ≤ us.length ∧ ∀ j y, j < i → us[j]? = some y → p y = false) (fun i => ⟨[(8, sV (.int .i64 i)), (7, sV (.int .i64 (us.map Mk.cs).length)), (0, .one (.b (.l (us.map Mk.cs)))), (1, .one (.b (.f fn [c0, c1])))], []⟩) (fun i => us.length - i) 0 ⟨Nat.zero_le _, fun j y hj => by omega⟩ ?_ ?_
 · exact ⟨⟨rfl, rfl, rfl, rfl, trivial⟩, trivial, rfl⟩
 · intro i ⟨hi, h0⟩ J hJ
   refine xb rfl ?_ ?_ <;> intro h
   · have h : i < us.length := by simpa using h
     obtain ⟨x, hx⟩ := gx h
     have hg := gm Mk.cs hx
     have hxm := List.mem_of_getElem? hx
     refine xs rfl (nn_ _) (y9 rfl _ hg (xs rfl rfl (z7 rfl (hf _ hxm) rfl ⟨tv3, trivial, trivial, trivial⟩ ?_)))
     refine xb rfl ?_ ?_ <;> intro b0
     refine xv rfl rfl rfl ?_; rotate_left
     rotate_left
     · exact vi (q07 hx h0 b0).symm
     · exact q9 rfl (hJ _ (i + 1) ⟨by omega, qg hx h0 b0⟩ (by omega) ⟨⟨cwi (by omega) (by omega) (by omega), rfl, rfl, rfl, trivial⟩, trivial, rfl⟩)
   · have h : ¬ i < us.length := by simpa using h
     refine xv rfl rfl rfl ?_
     exact vi (q01 (zk (by omega) h0)).symm
theorem y9a (rr : List (List Cell)) (us : List Mk) (p : Mk → Bool) (fn : Nat) (c0 : Cell) (c1 : Cell) (hr : rr = us.map Mk.cs) (hf : ∀ x ∈ us, PC Tryz.prog fn [.agg x.cs, .one c0, .one c1] (rB (p x))) (hl : us.length ≤ 1048576) : PC Tryz.prog 202 [.one (.l rr), .one (.f fn [c0, c1])] (rB (us.any p)) := by
 refine PC.begin Tryz.func202 rfl (by kernel_rfl) ?_
 have hi := zaq rr us p fn c0 c1 hr hf hl
 refine z7 rfl (hi) rfl tv3 (xv rfl rfl rfl ?_)
 exact vb q0g
theorem q9y (rr : List (List Cell)) (us : List Slt) (p : Slt → Bool) (fn : Nat) (c0 : Cell) (hr : rr = us.map Slt.cs) (hf : ∀ x ∈ us, PC Tryz.prog fn [.agg x.cs, .one c0] (rB (p x))) (hl : us.length ≤ 1048576) : PC Tryz.prog 281 [.one (.l rr), .one (.f fn [c0])] (rI (z1d p us)) := by
 refine PC.begin Tryz.func281 rfl (by kernel_rfl) ?_
 subst hr
 have hn : (us.map Slt.cs).length = us.length := by simp
 refine qc rfl (ι := Nat) (fun i => i ≤ us.length ∧ ∀ j y, j < i → us[j]? = some y → p y = false) (fun i => ⟨[(8, sV (.int .i64 i)), (7, sV (.int .i64 (us.map Slt.cs).length)), (0, .one (.b (.l (us.map Slt.cs)))), (1, .one (.b (.f fn [c0])))], []⟩) (fun i => us.length - i) 0 ⟨Nat.zero_le _, fun j y hj => by omega⟩ ?_ ?_
 · exact ⟨⟨rfl, rfl, rfl, rfl, trivial⟩, trivial, rfl⟩
 · intro i ⟨hi, h0⟩ J hJ
   refine xb rfl ?_ ?_ <;> intro h
   · have h : i < us.length := by simpa using h
     obtain ⟨x, hx⟩ := gx h
     have hg := gm Slt.cs hx
     have hxm := List.mem_of_getElem? hx
     refine xs rfl (nn_ _) (y9 rfl _ hg (xs rfl rfl (z7 rfl (hf _ hxm) rfl ⟨tv7, trivial, trivial⟩ ?_)))
     refine xb rfl ?_ ?_ <;> intro b0
     refine xv rfl rfl rfl ?_; rotate_left
     rotate_left
     · exact vi (q07 hx h0 b0).symm
     · exact q9 rfl (hJ _ (i + 1) ⟨by omega, qg hx h0 b0⟩ (by omega) ⟨⟨cwi (by omega) (by omega) (by omega), rfl, rfl, rfl, trivial⟩, trivial, rfl⟩)
   · have h : ¬ i < us.length := by simpa using h
     refine xv rfl rfl rfl ?_
     exact vi (q01 (zk (by omega) h0)).symm
theorem q9n (rr : List (List Cell)) (us : List Slt) (p : Slt → Bool) (fn : Nat) (c0 : Cell) (hr : rr = us.map Slt.cs) (hf : ∀ x ∈ us, PC Tryz.prog fn [.agg x.cs, .one c0] (rB (p x))) (hl : us.length ≤ 1048576) : PC Tryz.prog 205 [.one (.l rr), .one (.f fn [c0])] (rB (us.any p)) := by
 refine PC.begin Tryz.func205 rfl (by kernel_rfl) ?_
 have hi := q9y rr us p fn c0 hr hf hl
 refine z7 rfl (hi) rfl tv3 (xv rfl rfl rfl ?_)
 exact vb q0g
theorem y3f (c : Clu) (ho : y00 c) (i : Int) (m : Mk) : PC Tryz.prog 200 [.agg m.cs, .one (.p [.p c.cs]), .one (.p [i64 i])] (rB (!(q14 c.cons m.c i))) := by
 refine PC.begin Tryz.func200 rfl (by kernel_rfl) ?_
 refine z7 rfl (y17 _ (by assumption) _ _) rfl tv4 ?_
 refine xr rfl (qm rfl ⟨⟨rfl, rfl, trivial⟩, z6 rfl⟩)
theorem z8s (c : Clu) (ho : y00 c) (i : Nat) (s : Shd) (hs : c.shs[i]? = some s) : PC Tryz.prog 116 [.one (.p c.cs), .one (i64 i)] (rI (z9j c i s)) := by
 refine PC.begin Tryz.func116 rfl (by kernel_rfl) ?_
 have hg := gm Shd.cs hs
 have hso := ho.2.1.2 s (List.mem_of_getElem? hs)
 obtain ⟨o1, o2, o3, o4, o5, o6⟩ := id hso
 have hv := y9a _ s.votes (fun m => !(q14 c.cons m.c i)) 200 (.p [.p c.cs]) (.p [i64 i]) rfl (fun m _ => y3f c ho i m) o2
 have hd := y9a _ s.done (fun m => !(q14 c.cons m.c i)) 200 (.p [.p c.cs]) (.p [i64 i]) rfl (fun m _ => y3f c ho i m) o4
 refine qd rfl [] (.take 0 [1, 2, 3, 5, 6, 8] (Tk [1, 2] (.take 3 [5, 6, 8] (.take 4 [5, 6, 8] (.take 5 [] (.take 6 [8] (.alt 7 (.alt 8 .done .nil) .nil))))))) (by kernel_rfl) (xs rfl (nn_ _) (y9 rfl _ hg (xs rfl rfl (z7 rfl (y87 s hso) rfl ⟨tv7, trivial⟩ ?_))))
 refine xb rfl ?_ ?_ <;> intro b0
 refine xv rfl rfl rfl ?_; rotate_left
 refine xb rfl ?_ ?_ <;> intro b1
 refine xj (k := 10) rfl ?_
 refine xv rfl rfl rfl ?_; rotate_left
 refine xj (k := 3) rfl (z7 rfl (hv) rfl ⟨trivial, (List.forall_mem_cons.2 ⟨⟨trivial, trivial⟩, (List.forall_mem_cons.2 ⟨⟨trivial, trivial⟩, (fun _ h => nomatch h)⟩)⟩), trivial⟩ (xj (k := 1) rfl ?_))
 refine xb rfl ?_ ?_ <;> intro b2
 refine xj (k := 5) rfl ?_
 refine xv rfl rfl rfl ?_; rotate_left
 refine xj (k := 3) rfl (z7 rfl (hd) rfl ⟨trivial, (List.forall_mem_cons.2 ⟨⟨trivial, trivial⟩, (List.forall_mem_cons.2 ⟨⟨trivial, trivial⟩, (fun _ h => nomatch h)⟩)⟩), trivial⟩ (xj (k := 1) rfl ?_))
 refine xb rfl ?_ ?_ <;> intro b3
 refine xv rfl rfl rfl ?_; rotate_left
 rotate_left
 all_goals first | (refine vi ?_; unfold z9j; simp_all; done) | skip
 have hsf : qp s = 0 := by simpa using b0
 have hix : s.idx = i := by simpa using b1
 have hvd : ((s.votes.any fun m => !(q14 c.cons m.c i)) || (s.done.any fun m => !(q14 c.cons m.c i))) = false := by rw [b2, b3]; rfl
 rw [q4j hsf hix, hvd]
 have hcon := q2v hsf
 clear hv hd b0 b1 b2 b3 hvd
 refine qc rfl (ι := Nat) (fun i => i ≤ s.held.length ∧ ∀ j y, j < i → s.held[j]? = some y → q3i c y = false) (fun i => ⟨[(44, sV (.int .i64 i)), (43, sV (.int .i64 (s.held.map Con.cs).length)), (42, .one (.b (.l (s.held.map Con.cs)))), (2, .one (.a 2 0))], [(2, .var [.b (.p c.cs)])]⟩) (fun i => s.held.length - i) 0 ⟨Nat.zero_le _, fun j y hj => by omega⟩ ?_ ?_
 · exact ⟨⟨rfl, rfl, rfl, ⟨rfl, rfl, rfl⟩, trivial⟩, ⟨⟨rfl, trivial⟩, trivial⟩, rfl⟩
 · intro k ⟨hk, h0⟩ J hJ
   refine xb rfl ?_ ?_ <;> intro h
   · have h : k < s.held.length := by simpa using h
     obtain ⟨y, hy⟩ := gx h
     have hgy := gm Con.cs hy
     have hym := List.mem_of_getElem? hy
     have hyl := o6 y hym
     have hid := (q12 (hcon y hym)).1.1
     cases hc : y0w c.cons y.id with
     | none =>
       have hb : q3i c y = true := by unfold q3i; rw [hc]
       have hsm : (Con.mk 0 []).same y = false := by unfold Con.same; rw [Bool.and_eq_false_iff]; exact .inl (beq_false_of_ne (fun e => by have : (0 : Int) = y.id := e; omega))
       have hq := q6a ⟨0, []⟩ y (Nat.zero_le _)
       rw [hsm] at hq
       refine xs rfl (nn_ _) (y9 rfl _ hgy (xs rfl rfl (z7 rfl (z1b c ho y.id hc) rfl tv3 (z7 rfl (hq) rfl ⟨tv3, tv3, trivial⟩ (xj (k := 1) rfl (xv rfl rfl rfl ?_))))))
       exact vi (by rw [if_neg (by decide), if_pos (qt hy hb).symm])
     | some x =>
       have hxl := ho.1.2 x (List.mem_of_find?_eq_some hc)
       have hb : q3i c y = !(x.same y) := by unfold q3i; rw [hc]
       refine xs rfl (nn_ _) (y9 rfl _ hgy (xs rfl rfl (z7 rfl (y1b c ho y.id x hc) rfl tv3 (z7 rfl (q6a x y hxl) rfl ⟨tv3, tv3, trivial⟩ ?_))))
       refine xb rfl ?_ ?_ <;> intro b0
       refine xv rfl rfl rfl ?_; rotate_left
       rotate_left
       · exact vi (by rw [if_neg (by decide), if_pos (qt hy (hb.trans b0)).symm])
       · exact q9 rfl (hJ _ (k + 1) ⟨by omega, qg hy h0 (hb.trans b0)⟩ (by omega) ⟨⟨cwi (by omega) (by omega) (by omega), rfl, rfl, ⟨rfl, rfl, rfl⟩, trivial⟩, ⟨⟨rfl, trivial⟩, trivial⟩, rfl⟩)
   · have h : ¬ k < s.held.length := by simpa using h
     have hz := any_none (zk (by omega) h0)
     refine xv rfl rfl rfl ?_
     exact vi (by rw [if_neg (by decide), if_neg (by rw [← hz]; decide)])
theorem y5x (c : Clu) (ho : y00 c) (x : Slt) : PC Tryz.prog 206 [.agg x.cs, .one (.p [.p c.cs])] (rB (!(q14 c.cons x.c x.s))) := by
 refine PC.begin Tryz.func206 rfl (by kernel_rfl) ?_
 refine z7 rfl (y17 _ (by assumption) _ _) rfl tv4 ?_
 refine xr rfl (qm rfl ⟨⟨rfl, rfl, trivial⟩, z6 rfl⟩)
theorem q8q (c : Clu) (ho : y00 c) (a : Acc) (ha : z41 a) : PC Tryz.prog 119 [.one (.p c.cs), .agg a.cs] (rI (z9m c a)) := by
 refine PC.begin Tryz.func119 rfl (by kernel_rfl) ?_
 have hv := q9n _ a.slots (fun x => !(q14 c.cons x.c x.s)) 206 (.p [.p c.cs]) rfl (fun x _ => y5x c ho x) ha.1
 refine z7 rfl (q9v a ha) rfl ⟨⟨trivial, trivial⟩, trivial⟩ ?_
 refine xb rfl ?_ ?_ <;> intro b0
 refine xv rfl rfl rfl ?_; rotate_left
 refine z7 rfl (hv) rfl ⟨trivial, (List.forall_mem_cons.2 ⟨⟨trivial, trivial⟩, (fun _ h => nomatch h)⟩), trivial⟩ ?_
 refine xb rfl ?_ ?_ <;> intro b1
 refine xv rfl rfl rfl ?_; rotate_left
 refine xv rfl rfl rfl ?_; rotate_left
 all_goals (refine vi ?_; unfold z9m; clear hv; simp_all; done)
theorem z2d (us : List Mk) : ∀ row ∈ us.map Mk.cs, row.length = 2 := fun row h => by
 simp at h
 obtain ⟨_, _, rfl⟩ := h; rfl
theorem q6w (us : List Mk) : yp (us.map Mk.cs) := fun row h => by
 simp only [List.mem_map] at h
 obtain ⟨x, _, rfl⟩ := h
 intro c hc
 simp at hc
 rcases hc with rfl | rfl <;> exact ⟨_, rfl⟩
theorem z92 (c : Clu) (ho : y00 c) : PC Tryz.prog 99 [.one (.p c.cs)] (rI (scan (q2g c) c.shs.length)) := by
 refine PC.begin Tryz.func99 rfl (by kernel_rfl) ?_
 have hl := ho.2.1.1
 refine qc rfl (ι := Nat) (fun i => i ≤ c.shs.length ∧ ∀ j, j < i → q2g c j = 0) (fun i => ⟨[(3, sV (.int .i64 i)), (0, .one (.b (.p c.cs)))], []⟩) (fun i => c.shs.length - i) 0 ⟨Nat.zero_le _, fun j hj => by omega⟩ ?_ ?_
 · exact ⟨⟨rfl, rfl, trivial⟩, trivial, rfl⟩
 · intro i ⟨hi, h0⟩ J hJ
   refine xb rfl ?_ ?_ <;> intro h
   · have h : i < c.shs.length := by simpa using h
     obtain ⟨s, hx⟩ := gx h
     have hg := gm Shd.cs hx
     have hso := ho.2.1.2 s (List.mem_of_getElem? hx)
     obtain ⟨o1, o2, o3, o4, o5, o6⟩ := id hso
     have hF : q2g c i = z9j c i s := by unfold q2g; rw [hx]
     refine xs rfl (nn_ _) (y9 rfl _ hg (xs rfl rfl (z7 rfl (q85 s hso) rfl ⟨tv7, trivial⟩ ?_)))
     refine xb rfl ?_ ?_ <;> intro b0
     refine xv rfl rfl rfl ?_; rotate_left
     refine xb rfl ?_ ?_ <;> intro b1
     refine xv rfl rfl rfl ?_; rotate_left
     refine qd rfl [] (.take 1 [] (.take 2 [3, 6, 7] (.take 4 [] (.alt 0 (.alt 3 (.take 5 [6, 7] (.alt 6 (.take 7 [] .done) .nil)) (.alt 5 (.alt 3 (.alt 6 (.take 7 [] .done) .nil) .nil) .nil)) (.alt 5 (.alt 0 (.alt 3 (.alt 6 (.take 7 [] .done) .nil) .nil) .nil) .nil))))) (by kernel_rfl) ?_
     refine y03 rfl ?_ ?_
     refine xs rfl trivial ?_
     refine y03 rfl ?_ ?_
     refine xs rfl rfl (xs rfl (z2d _) (xs rfl (fun _ => q6w _) (xs rfl (by simp; omega) (xs rfl (by simp; omega) (xs rfl (by simp) (xs rfl (z2d _) (xs rfl (fun _ => q6w _) (xs rfl (by simp; omega) ?_))))))))
     refine xs rfl (by simp; omega) ?_; rotate_left
     refine xs rfl rfl (xs rfl (z2d _) (xs rfl (fun _ => q6w _) (xs rfl (by simp; omega) (xs rfl (by simp; omega) (xs rfl (by simp) (xs rfl (z2d _) (xs rfl (fun _ => q6w _) (xs rfl (by simp; omega) ?_))))))))
     refine xs rfl (by simp; omega) ?_; rotate_left
     refine xs rfl trivial (xs rfl rfl (xs rfl (z2d _) (xs rfl (fun _ => q6w _) (xs rfl (by simp; omega) (xs rfl (by simp; omega) (xs rfl (by simp) (xs rfl (z2d _) (xs rfl (fun _ => q6w _) (xs rfl (by simp; omega) ?_)))))))))
     refine xs rfl (by simp; omega) ?_; rotate_left
     all_goals first
      | (refine vi (q8 h h0 ?_ (by first | decide | (clear hJ h0; simp_all; done))); clear hJ h0 hg; rw [hF]; unfold z9j; simp_all; done)
      | skip
     · skip
       have hsf : qp s = 0 := by simpa using b0
       have hix : s.idx = i := by simpa using b1
       have hE := q4j (c := c) hsf hix
       have hcon := q2v hsf
       rw [hE] at hF
       obtain ⟨ms, hms⟩ : ∃ ms, ms = s.votes ++ s.done := ⟨_, rfl⟩
       have hml : ms.length ≤ 2097152 := by rw [hms, List.length_append]; omega
       refine qc rfl (ι := Nat) (fun k => k ≤ ms.length ∧ ∀ j y, j < k → ms[j]? = some y → (!(q14 c.cons y.c s.idx)) = false) (fun k => ⟨[(7, sV (.int .i64 k)), (6, .one (.h 35 ms.length)), (4, .one (.a 4 0)), (3, sV (.int .i64 i)), (0, .one (.b (.p c.cs)))], [(35, .arr true 2 0 (ms.map Mk.cs)), (4, .var (s.cs.map .b))]⟩) (fun k => ms.length - k) 0 ⟨Nat.zero_le _, fun j y hj => by omega⟩ ?_ ?_
       · exact ⟨⟨rfl, ⟨rfl, (by rw [hms]; simp), rfl⟩, ⟨rfl, rfl, rfl⟩, rfl, rfl, trivial⟩, ⟨⟨(by rw [hms]; simp), .inl rfl, .inl rfl⟩, ⟨rfl, rfl, rfl, rfl, rfl, rfl, trivial⟩, trivial⟩, rfl⟩
       · intro k ⟨hk, h0k⟩ Jk hJk
         refine xb rfl ?_ ?_ <;> intro hh
         · have hh : k < ms.length := by simpa using hh
           have hkl : k < 2097152 := by omega
           obtain ⟨y, hy⟩ := gx hh
           have hgy := gm Mk.cs hy
           refine qd rfl [] (Tk (Rg 0 5) (.take 5 [8, 9] (.take 6 [] (.take 7 [8, 9] (.alt 8 (.take 9 [] .done) .nil))))) (by kernel_rfl) (xs rfl (by simp) (xs rfl (nn_ _) (y9 rfl _ hgy (xs rfl rfl (xs rfl (by simp) (y9 rfl _ hgy (z7 rfl (qx _ (by assumption) _ _) rfl tv4 ?_)))))))
           refine xb rfl ?_ ?_ <;> intro b0
           refine xv rfl rfl rfl ?_; rotate_left
           rotate_left
           · refine vi (q8 h h0 ?_ (by decide))
             have ha := qt (p := fun y => !(q14 c.cons y.c s.idx)) hy b0
             rw [hms, List.any_append, hix] at ha
             rw [hF, if_pos ha.symm]
           · exact q9 rfl (hJk _ (k + 1) ⟨by omega, qg hy h0k b0⟩ (by omega) ⟨⟨cwi (by omega) (by omega) (by omega), ⟨rfl, rfl, rfl⟩, ⟨rfl, rfl, rfl⟩, rfl, rfl, trivial⟩, ⟨⟨rfl, .inl rfl, .inl rfl⟩, lcr, trivial⟩, rfl⟩)
         · have hh : ¬ k < ms.length := by simpa using hh
           have ha := any_none (zk (by omega) h0k)
           rw [hms, List.any_append, hix] at ha
           rw [if_neg (by rw [← ha]; decide)] at hF
           clear hJk h0k
           refine qc rfl (ι := Nat) (fun k => k ≤ s.held.length ∧ ∀ j y, j < k → s.held[j]? = some y → q3i c y = false) (fun k => ⟨[(8, sV (.int .i64 k)), (4, .one (.a 4 0)), (3, sV (.int .i64 i)), (0, .one (.b (.p c.cs)))], [(4, .var (s.cs.map .b))]⟩) (fun k => s.held.length - k) 0 ⟨Nat.zero_le _, fun j y hj => by omega⟩ ?_ ?_
           · exact ⟨⟨rfl, ⟨rfl, rfl, rfl⟩, rfl, rfl, trivial⟩, ⟨lcr, trivial⟩, rfl⟩
           · intro k ⟨hk, h0k⟩ Jk hJk
             refine xb rfl ?_ ?_ <;> intro hh
             · have hh : k < s.held.length := by simpa using hh
               obtain ⟨y, hy⟩ := gx hh
               have hgy := gm Con.cs hy
               have hf := q0y c y.id ho.1.1
               cases hc : y0w c.cons y.id with
               | none =>
                 rw [y1v hc] at hf
                 have hb : q3i c y = true := by unfold q3i; rw [hc]
                 refine xs rfl (nn_ _) (y9 rfl _ hgy (xs rfl rfl (z7 rfl (hf) rfl tv3 (qd rfl [] (Tk (Rg 0 6) (.take 6 [8, 9, 15, 16, 17] (Tk [7, 8] (.take 9 (Rg 15 3) (.take 10 [] (.take 11 (Rg 13 5) (Tk [12, 13] (.take 14 (Rg 15 3) (.alt 15 (Tk [16, 17] .done) .nil))))))))) (by kernel_rfl) (xj (k := 16) rfl (xv rfl rfl rfl ?_))))))
                 exact vi (q8 h h0 (by rw [hF, if_pos (qt hy hb).symm]) (by decide))
               | some x =>
                 obtain ⟨q, hq, hqx⟩ := y1d hc
                 rw [hq] at hf
                 have hgq := gm Con.cs hqx
                 have hxl := ho.1.2 x (List.mem_of_find?_eq_some hc)
                 have hb : q3i c y = !(x.same y) := by unfold q3i; rw [hc]
                 refine xs rfl (nn_ _) (y9 rfl _ hgy (xs rfl rfl (z7 rfl (hf) rfl tv3 (qd rfl [] (Tk (Rg 0 6) (.take 6 [8, 9, 15, 16, 17] (Tk [7, 8] (.take 9 (Rg 15 3) (.take 10 [] (.take 11 (Rg 13 5) (Tk [12, 13] (.take 14 (Rg 15 3) (.alt 15 (Tk [16, 17] .done) .nil))))))))) (by kernel_rfl) (xj (k := 6) rfl (xs rfl (nn_ _) (y9 rfl _ hgq (xs rfl rfl (xj (k := 5) rfl ?_)))))))))
                 refine xs rfl (nn_ _) (y9 rfl _ hgy (xs rfl rfl (xj (k := 2) rfl (z7 rfl (y4i x y hxl) rfl ⟨tv3, tv3, trivial⟩ (xj (k := 2) rfl ?_)))))
                 refine xb rfl ?_ ?_ <;> intro b0
                 refine xv rfl rfl rfl ?_; rotate_left
                 rotate_left
                 all_goals first
                  | (exfalso; simp at b0; omega)
                  | exact vi (q8 h h0 (by rw [hF, if_pos (qt hy (hb.trans b0)).symm]) (by decide))
                  | exact q9 rfl (hJk _ (k + 1) ⟨by omega, qg hy h0k (hb.trans b0)⟩ (by omega) ⟨⟨cwi (by omega) (by omega) (by omega), ⟨rfl, rfl, rfl⟩, rfl, rfl, trivial⟩, ⟨lcr, trivial⟩, rfl⟩)
             · have hh : ¬ k < s.held.length := by simpa using hh
               have hz := any_none (zk (by omega) h0k)
               rw [if_neg (by rw [← hz]; decide)] at hF
               skip
               exact q9 rfl (hJ _ (i + 1) ⟨by omega, qb h0 hF⟩ (by omega) ⟨⟨cwi (by omega) (by omega) (by omega), rfl, trivial⟩, trivial, rfl⟩)
     · skip
       have hsf : qp s = 0 := by simpa using b0
       have hix : s.idx = i := by simpa using b1
       have hE := q4j (c := c) hsf hix
       have hcon := q2v hsf
       rw [hE] at hF
       obtain ⟨ms, hms⟩ : ∃ ms, ms = s.votes ++ s.done := ⟨_, rfl⟩
       have hml : ms.length ≤ 2097152 := by rw [hms, List.length_append]; omega
       refine qc rfl (ι := Nat) (fun k => k ≤ ms.length ∧ ∀ j y, j < k → ms[j]? = some y → (!(q14 c.cons y.c s.idx)) = false) (fun k => ⟨[(7, sV (.int .i64 k)), (6, .one (.h 35 ms.length)), (4, .one (.a 4 0)), (3, sV (.int .i64 i)), (0, .one (.b (.p c.cs)))], [(35, .arr true 2 0 (ms.map Mk.cs)), (4, .var (s.cs.map .b))]⟩) (fun k => ms.length - k) 0 ⟨Nat.zero_le _, fun j y hj => by omega⟩ ?_ ?_
       · exact ⟨⟨rfl, ⟨rfl, (by rw [hms]; simp), rfl⟩, ⟨rfl, rfl, rfl⟩, rfl, rfl, trivial⟩, ⟨⟨(by rw [hms]; simp), .inl rfl, .inl rfl⟩, ⟨rfl, rfl, rfl, rfl, rfl, rfl, trivial⟩, trivial⟩, rfl⟩
       · intro k ⟨hk, h0k⟩ Jk hJk
         refine xb rfl ?_ ?_ <;> intro hh
         · have hh : k < ms.length := by simpa using hh
           have hkl : k < 2097152 := by omega
           obtain ⟨y, hy⟩ := gx hh
           have hgy := gm Mk.cs hy
           refine qd rfl [] (Tk (Rg 0 5) (.take 5 [8, 9] (.take 6 [] (.take 7 [8, 9] (.alt 8 (.take 9 [] .done) .nil))))) (by kernel_rfl) (xs rfl (by simp) (xs rfl (nn_ _) (y9 rfl _ hgy (xs rfl rfl (xs rfl (by simp) (y9 rfl _ hgy (z7 rfl (qx _ (by assumption) _ _) rfl tv4 ?_)))))))
           refine xb rfl ?_ ?_ <;> intro b0
           refine xv rfl rfl rfl ?_; rotate_left
           rotate_left
           · refine vi (q8 h h0 ?_ (by decide))
             have ha := qt (p := fun y => !(q14 c.cons y.c s.idx)) hy b0
             rw [hms, List.any_append, hix] at ha
             rw [hF, if_pos ha.symm]
           · exact q9 rfl (hJk _ (k + 1) ⟨by omega, qg hy h0k b0⟩ (by omega) ⟨⟨cwi (by omega) (by omega) (by omega), ⟨rfl, rfl, rfl⟩, ⟨rfl, rfl, rfl⟩, rfl, rfl, trivial⟩, ⟨⟨rfl, .inl rfl, .inl rfl⟩, lcr, trivial⟩, rfl⟩)
         · have hh : ¬ k < ms.length := by simpa using hh
           have ha := any_none (zk (by omega) h0k)
           rw [hms, List.any_append, hix] at ha
           rw [if_neg (by rw [← ha]; decide)] at hF
           clear hJk h0k
           refine qc rfl (ι := Nat) (fun k => k ≤ s.held.length ∧ ∀ j y, j < k → s.held[j]? = some y → q3i c y = false) (fun k => ⟨[(8, sV (.int .i64 k)), (4, .one (.a 4 0)), (3, sV (.int .i64 i)), (0, .one (.b (.p c.cs)))], [(4, .var (s.cs.map .b))]⟩) (fun k => s.held.length - k) 0 ⟨Nat.zero_le _, fun j y hj => by omega⟩ ?_ ?_
           · exact ⟨⟨rfl, ⟨rfl, rfl, rfl⟩, rfl, rfl, trivial⟩, ⟨lcr, trivial⟩, rfl⟩
           · intro k ⟨hk, h0k⟩ Jk hJk
             refine xb rfl ?_ ?_ <;> intro hh
             · have hh : k < s.held.length := by simpa using hh
               obtain ⟨y, hy⟩ := gx hh
               have hgy := gm Con.cs hy
               have hf := q0y c y.id ho.1.1
               cases hc : y0w c.cons y.id with
               | none =>
                 rw [y1v hc] at hf
                 have hb : q3i c y = true := by unfold q3i; rw [hc]
                 refine xs rfl (nn_ _) (y9 rfl _ hgy (xs rfl rfl (z7 rfl (hf) rfl tv3 (qd rfl [] (Tk (Rg 0 6) (.take 6 [8, 9, 15, 16, 17] (Tk [7, 8] (.take 9 (Rg 15 3) (.take 10 [] (.take 11 (Rg 13 5) (Tk [12, 13] (.take 14 (Rg 15 3) (.alt 15 (Tk [16, 17] .done) .nil))))))))) (by kernel_rfl) (xj (k := 16) rfl (xv rfl rfl rfl ?_))))))
                 exact vi (q8 h h0 (by rw [hF, if_pos (qt hy hb).symm]) (by decide))
               | some x =>
                 obtain ⟨q, hq, hqx⟩ := y1d hc
                 rw [hq] at hf
                 have hgq := gm Con.cs hqx
                 have hxl := ho.1.2 x (List.mem_of_find?_eq_some hc)
                 have hb : q3i c y = !(x.same y) := by unfold q3i; rw [hc]
                 refine xs rfl (nn_ _) (y9 rfl _ hgy (xs rfl rfl (z7 rfl (hf) rfl tv3 (qd rfl [] (Tk (Rg 0 6) (.take 6 [8, 9, 15, 16, 17] (Tk [7, 8] (.take 9 (Rg 15 3) (.take 10 [] (.take 11 (Rg 13 5) (Tk [12, 13] (.take 14 (Rg 15 3) (.alt 15 (Tk [16, 17] .done) .nil))))))))) (by kernel_rfl) (xj (k := 6) rfl (xs rfl (nn_ _) (y9 rfl _ hgq (xs rfl rfl (xj (k := 5) rfl ?_)))))))))
                 refine xs rfl (nn_ _) (y9 rfl _ hgy (xs rfl rfl (xj (k := 2) rfl (z7 rfl (y4i x y hxl) rfl ⟨tv3, tv3, trivial⟩ (xj (k := 2) rfl ?_)))))
                 refine xb rfl ?_ ?_ <;> intro b0
                 refine xv rfl rfl rfl ?_; rotate_left
                 rotate_left
                 all_goals first
                  | (exfalso; simp at b0; omega)
                  | exact vi (q8 h h0 (by rw [hF, if_pos (qt hy (hb.trans b0)).symm]) (by decide))
                  | exact q9 rfl (hJk _ (k + 1) ⟨by omega, qg hy h0k (hb.trans b0)⟩ (by omega) ⟨⟨cwi (by omega) (by omega) (by omega), ⟨rfl, rfl, rfl⟩, rfl, rfl, trivial⟩, ⟨lcr, trivial⟩, rfl⟩)
             · have hh : ¬ k < s.held.length := by simpa using hh
               have hz := any_none (zk (by omega) h0k)
               rw [if_neg (by rw [← hz]; decide)] at hF
               skip
               exact q9 rfl (hJ _ (i + 1) ⟨by omega, qb h0 hF⟩ (by omega) ⟨⟨cwi (by omega) (by omega) (by omega), rfl, trivial⟩, trivial, rfl⟩)
     · skip
       have hsf : qp s = 0 := by simpa using b0
       have hix : s.idx = i := by simpa using b1
       have hE := q4j (c := c) hsf hix
       have hcon := q2v hsf
       rw [hE] at hF
       obtain ⟨ms, hms⟩ : ∃ ms, ms = s.votes ++ s.done := ⟨_, rfl⟩
       have hml : ms.length ≤ 2097152 := by rw [hms, List.length_append]; omega
       refine qc rfl (ι := Nat) (fun k => k ≤ ms.length ∧ ∀ j y, j < k → ms[j]? = some y → (!(q14 c.cons y.c s.idx)) = false) (fun k => ⟨[(7, sV (.int .i64 k)), (6, .one (.h 35 ms.length)), (4, .one (.a 4 0)), (3, sV (.int .i64 i)), (0, .one (.b (.p c.cs)))], [(35, .arr true 2 0 (ms.map Mk.cs)), (4, .var (s.cs.map .b))]⟩) (fun k => ms.length - k) 0 ⟨Nat.zero_le _, fun j y hj => by omega⟩ ?_ ?_
       · exact ⟨⟨rfl, ⟨rfl, (by rw [hms]; simp), rfl⟩, ⟨rfl, rfl, rfl⟩, rfl, rfl, trivial⟩, ⟨⟨(by rw [hms]; simp), .inl rfl, .inl rfl⟩, ⟨rfl, rfl, rfl, rfl, rfl, rfl, trivial⟩, trivial⟩, rfl⟩
       · intro k ⟨hk, h0k⟩ Jk hJk
         refine xb rfl ?_ ?_ <;> intro hh
         · have hh : k < ms.length := by simpa using hh
           have hkl : k < 2097152 := by omega
           obtain ⟨y, hy⟩ := gx hh
           have hgy := gm Mk.cs hy
           refine qd rfl [] (Tk (Rg 0 5) (.take 5 [8, 9] (.take 6 [] (.take 7 [8, 9] (.alt 8 (.take 9 [] .done) .nil))))) (by kernel_rfl) (xs rfl (by simp) (xs rfl (nn_ _) (y9 rfl _ hgy (xs rfl rfl (xs rfl (by simp) (y9 rfl _ hgy (z7 rfl (qx _ (by assumption) _ _) rfl tv4 ?_)))))))
           refine xb rfl ?_ ?_ <;> intro b0
           refine xv rfl rfl rfl ?_; rotate_left
           rotate_left
           · refine vi (q8 h h0 ?_ (by decide))
             have ha := qt (p := fun y => !(q14 c.cons y.c s.idx)) hy b0
             rw [hms, List.any_append, hix] at ha
             rw [hF, if_pos ha.symm]
           · exact q9 rfl (hJk _ (k + 1) ⟨by omega, qg hy h0k b0⟩ (by omega) ⟨⟨cwi (by omega) (by omega) (by omega), ⟨rfl, rfl, rfl⟩, ⟨rfl, rfl, rfl⟩, rfl, rfl, trivial⟩, ⟨⟨rfl, .inl rfl, .inl rfl⟩, lcr, trivial⟩, rfl⟩)
         · have hh : ¬ k < ms.length := by simpa using hh
           have ha := any_none (zk (by omega) h0k)
           rw [hms, List.any_append, hix] at ha
           rw [if_neg (by rw [← ha]; decide)] at hF
           clear hJk h0k
           refine qc rfl (ι := Nat) (fun k => k ≤ s.held.length ∧ ∀ j y, j < k → s.held[j]? = some y → q3i c y = false) (fun k => ⟨[(8, sV (.int .i64 k)), (4, .one (.a 4 0)), (3, sV (.int .i64 i)), (0, .one (.b (.p c.cs)))], [(4, .var (s.cs.map .b))]⟩) (fun k => s.held.length - k) 0 ⟨Nat.zero_le _, fun j y hj => by omega⟩ ?_ ?_
           · exact ⟨⟨rfl, ⟨rfl, rfl, rfl⟩, rfl, rfl, trivial⟩, ⟨lcr, trivial⟩, rfl⟩
           · intro k ⟨hk, h0k⟩ Jk hJk
             refine xb rfl ?_ ?_ <;> intro hh
             · have hh : k < s.held.length := by simpa using hh
               obtain ⟨y, hy⟩ := gx hh
               have hgy := gm Con.cs hy
               have hf := q0y c y.id ho.1.1
               cases hc : y0w c.cons y.id with
               | none =>
                 rw [y1v hc] at hf
                 have hb : q3i c y = true := by unfold q3i; rw [hc]
                 refine xs rfl (nn_ _) (y9 rfl _ hgy (xs rfl rfl (z7 rfl (hf) rfl tv3 (qd rfl [] (Tk (Rg 0 6) (.take 6 [8, 9, 15, 16, 17] (Tk [7, 8] (.take 9 (Rg 15 3) (.take 10 [] (.take 11 (Rg 13 5) (Tk [12, 13] (.take 14 (Rg 15 3) (.alt 15 (Tk [16, 17] .done) .nil))))))))) (by kernel_rfl) (xj (k := 16) rfl (xv rfl rfl rfl ?_))))))
                 exact vi (q8 h h0 (by rw [hF, if_pos (qt hy hb).symm]) (by decide))
               | some x =>
                 obtain ⟨q, hq, hqx⟩ := y1d hc
                 rw [hq] at hf
                 have hgq := gm Con.cs hqx
                 have hxl := ho.1.2 x (List.mem_of_find?_eq_some hc)
                 have hb : q3i c y = !(x.same y) := by unfold q3i; rw [hc]
                 refine xs rfl (nn_ _) (y9 rfl _ hgy (xs rfl rfl (z7 rfl (hf) rfl tv3 (qd rfl [] (Tk (Rg 0 6) (.take 6 [8, 9, 15, 16, 17] (Tk [7, 8] (.take 9 (Rg 15 3) (.take 10 [] (.take 11 (Rg 13 5) (Tk [12, 13] (.take 14 (Rg 15 3) (.alt 15 (Tk [16, 17] .done) .nil))))))))) (by kernel_rfl) (xj (k := 6) rfl (xs rfl (nn_ _) (y9 rfl _ hgq (xs rfl rfl (xj (k := 5) rfl ?_)))))))))
                 refine xs rfl (nn_ _) (y9 rfl _ hgy (xs rfl rfl (xj (k := 2) rfl (z7 rfl (y4i x y hxl) rfl ⟨tv3, tv3, trivial⟩ (xj (k := 2) rfl ?_)))))
                 refine xb rfl ?_ ?_ <;> intro b0
                 refine xv rfl rfl rfl ?_; rotate_left
                 rotate_left
                 all_goals first
                  | (exfalso; simp at b0; omega)
                  | exact vi (q8 h h0 (by rw [hF, if_pos (qt hy (hb.trans b0)).symm]) (by decide))
                  | exact q9 rfl (hJk _ (k + 1) ⟨by omega, qg hy h0k (hb.trans b0)⟩ (by omega) ⟨⟨cwi (by omega) (by omega) (by omega), ⟨rfl, rfl, rfl⟩, rfl, rfl, trivial⟩, ⟨lcr, trivial⟩, rfl⟩)
             · have hh : ¬ k < s.held.length := by simpa using hh
               have hz := any_none (zk (by omega) h0k)
               rw [if_neg (by rw [← hz]; decide)] at hF
               skip
               exact q9 rfl (hJ _ (i + 1) ⟨by omega, qb h0 hF⟩ (by omega) ⟨⟨cwi (by omega) (by omega) (by omega), rfl, trivial⟩, trivial, rfl⟩)
   · have h : ¬ i < c.shs.length := by simpa using h
     have hz := zg (f := q2g c) (n := c.shs.length) (fun j hj => h0 j (by omega))
     refine xv rfl rfl rfl ?_
     exact vi (hz.symm)
theorem z90 (c : Clu) (ho : y00 c) : PC Tryz.prog 100 [.one (.p c.cs)] (rI (scan (y2p c) c.accs.length)) := by
 refine PC.begin Tryz.func100 rfl (by kernel_rfl) ?_
 have hl := ho.2.2.1.1
 refine qc rfl (ι := Nat) (fun i => i ≤ c.accs.length ∧ ∀ j, j < i → y2p c j = 0) (fun i => ⟨[(3, sV (.int .i64 i)), (0, .one (.b (.p c.cs)))], []⟩) (fun i => c.accs.length - i) 0 ⟨Nat.zero_le _, fun j hj => by omega⟩ ?_ ?_
 · exact ⟨⟨rfl, rfl, trivial⟩, trivial, rfl⟩
 · intro i ⟨hi, h0⟩ J hJ
   refine xb rfl ?_ ?_ <;> intro h
   · have h : i < c.accs.length := by simpa using h
     obtain ⟨a, hx⟩ := gx h
     have hg := gm Acc.cs hx
     have hao := ho.2.2.1.2 a (List.mem_of_getElem? hx)
     have hF : y2p c i = z9m c a := by unfold y2p; rw [hx]
     have hal := hao.1
     refine xs rfl (nn_ _) (y9 rfl _ hg (xs rfl rfl (z7 rfl (qa6 a hao) rfl ⟨⟨trivial, trivial⟩, trivial⟩ ?_)))
     refine xb rfl ?_ ?_ <;> intro b0
     refine xv rfl rfl rfl ?_; rotate_left
     rotate_left
     all_goals first
      | (refine vi (q8 h h0 ?_ (by first | decide | (clear hJ h0; simp_all; done))); clear hJ h0 hg; rw [hF]; unfold z9m; simp_all; done)
      | skip
     have haf : a.fault = 0 := by simpa using b0
     unfold z9m at hF
     rw [if_neg (by simpa using haf)] at hF
     refine qc rfl (ι := Nat) (fun k => k ≤ a.slots.length ∧ ∀ j y, j < k → a.slots[j]? = some y → (!(q14 c.cons y.c y.s)) = false) (fun k => ⟨[(5, sV (.int .i64 k)), (3, sV (.int .i64 i)), (0, .one (.b (.p c.cs)))], []⟩) (fun k => a.slots.length - k) 0 ⟨Nat.zero_le _, fun j y hj => by omega⟩ ?_ ?_
     · exact ⟨⟨rfl, rfl, rfl, trivial⟩, trivial, rfl⟩
     · intro k ⟨hk, h0k⟩ Jk hJk
       refine xs rfl (nn_ _) (y9 rfl _ hg (xs rfl rfl ?_))
       refine xb rfl ?_ ?_ <;> intro hh
       · have hh : k < a.slots.length := by simpa using hh
         obtain ⟨y, hy⟩ := gx hh
         have hgy := gm Slt.cs hy
         refine xs rfl (nn_ _) (y9 rfl _ hg (xs rfl rfl (xs rfl (nn_ _) (y9 rfl _ hgy (xs rfl rfl (z7 rfl (qx _ (by assumption) _ _) rfl tv4 ?_))))))
         refine xb rfl ?_ ?_ <;> intro b0
         refine xv rfl rfl rfl ?_; rotate_left
         rotate_left
         · exact vi (q8 h h0 (by rw [hF, if_pos (qt hy b0).symm]) (by decide))
         · exact q9 rfl (hJk _ (k + 1) ⟨by omega, qg hy h0k b0⟩ (by omega) ⟨⟨cwi (by omega) (by omega) (by omega), rfl, rfl, trivial⟩, trivial, rfl⟩)
       · have hh : ¬ k < a.slots.length := by simpa using hh
         have hz := any_none (zk (by omega) h0k)
         rw [if_neg (by rw [← hz]; decide)] at hF
         skip
         exact q9 rfl (hJ _ (i + 1) ⟨by omega, qb h0 hF⟩ (by omega) ⟨⟨cwi (by omega) (by omega) (by omega), rfl, trivial⟩, trivial, rfl⟩)
   · have h : ¬ i < c.accs.length := by simpa using h
     have hz := zg (f := y2p c) (n := c.accs.length) (fun j hj => h0 j (by omega))
     refine xv rfl rfl rfl ?_
     exact vi (hz.symm)
theorem qaq (rr : List (List Cell)) (us : List Vt) (p : Vt → Bool) (fn : Nat) (hr : rr = us.map Vt.cs) (hf : ∀ x ∈ us, PC Tryz.prog fn [.agg x.cs] (rB (p x))) (hl : us.length ≤ 1048576) : PC Tryz.prog 320 [.one (.l rr), .one (.f fn [])] (rI (z1d p us)) := by
 refine PC.begin Tryz.func320 rfl (by kernel_rfl) ?_
 subst hr
 have hn : (us.map Vt.cs).length = us.length := by simp
 refine qc rfl (ι := Nat) (fun i => i ≤ us.length ∧ ∀ j y, j < i → us[j]? = some y → p y = false) (fun i => ⟨[(8, sV (.int .i64 i)), (7, sV (.int .i64 (us.map Vt.cs).length)), (0, .one (.b (.l (us.map Vt.cs)))), (1, .one (.b (.f fn [])))], []⟩) (fun i => us.length - i) 0 ⟨Nat.zero_le _, fun j y hj => by omega⟩ ?_ ?_
 · exact ⟨⟨rfl, rfl, rfl, rfl, trivial⟩, trivial, rfl⟩
 · intro i ⟨hi, h0⟩ J hJ
   refine xb rfl ?_ ?_ <;> intro h
   · have h : i < us.length := by simpa using h
     obtain ⟨x, hx⟩ := gx h
     have hg := gm Vt.cs hx
     have hxm := List.mem_of_getElem? hx
     refine xs rfl (nn_ _) (y9 rfl _ hg (xs rfl rfl (z7 rfl (hf _ hxm) rfl ⟨tv3, trivial⟩ ?_)))
     refine xb rfl ?_ ?_ <;> intro b0
     refine xv rfl rfl rfl ?_; rotate_left
     rotate_left
     · exact vi (q07 hx h0 b0).symm
     · exact q9 rfl (hJ _ (i + 1) ⟨by omega, qg hx h0 b0⟩ (by omega) ⟨⟨cwi (by omega) (by omega) (by omega), rfl, rfl, rfl, trivial⟩, trivial, rfl⟩)
   · have h : ¬ i < us.length := by simpa using h
     refine xv rfl rfl rfl ?_
     exact vi (q01 (zk (by omega) h0)).symm
theorem zal (rr : List (List Cell)) (us : List Vt) (p : Vt → Bool) (fn : Nat) (hr : rr = us.map Vt.cs) (hf : ∀ x ∈ us, PC Tryz.prog fn [.agg x.cs] (rB (p x))) (hl : us.length ≤ 1048576) : PC Tryz.prog 233 [.one (.l rr), .one (.f fn [])] (rB (us.any p)) := by
 refine PC.begin Tryz.func233 rfl (by kernel_rfl) ?_
 have hi := qaq rr us p fn hr hf hl
 refine z7 rfl (hi) rfl tv3 (xv rfl rfl rfl ?_)
 exact vb q0g
theorem q9x (rr : List (List Cell)) (us : List Int) (p : Int → Bool) (fn : Nat) (c0 : Cell) (hr : rr = ints us) (hf : ∀ x ∈ us, PC Tryz.prog fn [.one (i64 x), .one c0] (rB (p x))) (hl : us.length ≤ 1048576) : PC Tryz.prog 142 [.one (.l rr), .one (.f fn [c0])] (rI (z1d p us)) := by
 refine PC.begin Tryz.func142 rfl (by kernel_rfl) ?_
 subst hr
 have hn : (ints us).length = us.length := by simp
 refine qc rfl (ι := Nat) (fun i => i ≤ us.length ∧ ∀ j y, j < i → us[j]? = some y → p y = false) (fun i => ⟨[(8, sV (.int .i64 i)), (7, sV (.int .i64 (ints us).length)), (0, .one (.b (.l (ints us)))), (1, .one (.b (.f fn [c0])))], []⟩) (fun i => us.length - i) 0 ⟨Nat.zero_le _, fun j y hj => by omega⟩ ?_ ?_
 · exact ⟨⟨rfl, rfl, rfl, rfl, trivial⟩, trivial, rfl⟩
 · intro i ⟨hi, h0⟩ J hJ
   refine xb rfl ?_ ?_ <;> intro h
   · have h : i < us.length := by simpa using h
     obtain ⟨x, hx⟩ := gx h
     have hg := gm (fun n => [i64 n]) hx
     have hxm := List.mem_of_getElem? hx
     refine xs rfl (nn_ _) (y9 rfl _ hg (xs rfl rfl (z7 rfl (hf _ hxm) rfl tv3 ?_)))
     refine xb rfl ?_ ?_ <;> intro b0
     refine xv rfl rfl rfl ?_; rotate_left
     rotate_left
     · exact vi (q07 hx h0 b0).symm
     · exact q9 rfl (hJ _ (i + 1) ⟨by omega, qg hx h0 b0⟩ (by omega) ⟨⟨cwi (by omega) (by omega) (by omega), rfl, rfl, rfl, trivial⟩, trivial, rfl⟩)
   · have h : ¬ i < us.length := by simpa using h
     refine xv rfl rfl rfl ?_
     exact vi (q01 (zk (by omega) h0)).symm
theorem z9n (rr : List (List Cell)) (us : List Int) (p : Int → Bool) (fn : Nat) (c0 : Cell) (hr : rr = ints us) (hf : ∀ x ∈ us, PC Tryz.prog fn [.one (i64 x), .one c0] (rB (p x))) (hl : us.length ≤ 1048576) : PC Tryz.prog 68 [.one (.l rr), .one (.f fn [c0])] (rB (us.any p)) := by
 refine PC.begin Tryz.func68 rfl (by kernel_rfl) ?_
 have hi := q9x rr us p fn c0 hr hf hl
 refine z7 rfl (hi) rfl tv3 (xv rfl rfl rfl ?_)
 exact vb q0g
theorem y9x (us : List Int) (v : Int) (rr : List (List Cell)) (hr : rr = ints us) (hl : us.length ≤ 1048576) : PC Tryz.prog 371 [.one (.l rr), .one (i64 v)] (rI (z1d (fun y => y == v) us)) := by
 refine PC.begin Tryz.func371 rfl (by kernel_rfl) ?_
 subst hr
 have hn : (ints us).length = us.length := by simp
 refine qc rfl (ι := Nat) (fun i => i ≤ us.length ∧ ∀ j y, j < i → us[j]? = some y → (y == v) = false) (fun i => ⟨[(8, sV (.int .i64 i)), (7, sV (.int .i64 (ints us).length)), (0, .one (.b (.l (ints us)))), (1, sV (.int .i64 v))], []⟩) (fun i => us.length - i) 0 ⟨Nat.zero_le _, fun j y hj => by omega⟩ ?_ ?_
 · exact ⟨⟨rfl, rfl, rfl, rfl, trivial⟩, trivial, rfl⟩
 · intro i ⟨hi, h0⟩ J hJ
   refine xb rfl ?_ ?_ <;> intro h
   · have h : i < us.length := by simpa using h
     obtain ⟨x, hx⟩ := gx h
     have hg := gm (fun n => [i64 n]) hx
     refine xs rfl (nn_ _) (y9 rfl _ hg (xs rfl rfl ?_))
     refine xb rfl ?_ ?_ <;> intro b0
     refine xv rfl rfl rfl ?_; rotate_left
     rotate_left
     · exact vi (q07 hx h0 (by rw [beq_iff_eq] at b0 ⊢; exact b0.symm)).symm
     · exact q9 rfl (hJ _ (i + 1) ⟨by omega, qg hx h0 (by rw [beq_eq_false_iff_ne] at b0 ⊢; exact fun e => b0 e.symm)⟩ (by omega) ⟨⟨cwi (by omega) (by omega) (by omega), rfl, rfl, rfl, trivial⟩, trivial, rfl⟩)
   · have h : ¬ i < us.length := by simpa using h
     refine xv rfl rfl rfl ?_
     exact vi (q01 (p := fun y => y == v) (zk (by omega) h0)).symm
theorem y9v (us : List Int) (v : Int) (rr : List (List Cell)) (hr : rr = ints us) (hl : us.length ≤ 1048576) : PC Tryz.prog 349 [.one (.l rr), .one (i64 v)] (rB (us.any fun y => y == v)) := by
 refine PC.begin Tryz.func349 rfl (by kernel_rfl) ?_
 refine z7 rfl (y9x us v _ hr hl) rfl tv3 (xv rfl rfl rfl ?_)
 exact vb q0g
theorem z5x (c : Clu) (ho : y00 c) (p : Int) : PC Tryz.prog 347 [.one (i64 p), .one (.p [.p c.cs])] (rB (z1u c p)) := by
 refine PC.begin Tryz.func347 rfl (by kernel_rfl) ?_
 have q2 := ho.2.2.1.1
 have p2 : (c.accs.map Acc.cs).length ≤ 1048576 := by simpa using q2
 refine z7 rfl (z0e _ _ (by assumption)) rfl tv3 (xv rfl rfl rfl ?_)
 all_goals (refine vb ?_; unfold z1u; rw [List.length_map])
theorem y97 (x : Vt) : PC Tryz.prog 348 [.agg x.cs] (rB (z0q x)) := by
 refine PC.begin Tryz.func348 rfl (by kernel_rfl) ?_
 refine qd rfl [] (.take 0 (Rg 2 7) (.alt 1 (Tk [2, 3] (.take 4 (Rg 5 4) (.alt 5 (Tk [6, 7, 8] .done) .nil))) .nil)) (by kernel_rfl) (z7 rfl (q38) rfl trivial ?_)
 refine xb rfl ?_ ?_ <;> intro b0
 refine xj (k := 1) rfl (z7 rfl (y23 _) rfl ⟨tv3, trivial⟩ (xj (k := 2) rfl ?_))
 refine xv rfl rfl rfl ?_; rotate_left
 refine xj (k := 3) rfl ?_
 refine xv rfl rfl rfl ?_; rotate_left
 all_goals (refine vb ?_; simp_all [z0q, z21, Vt.none])
theorem z37 (us : List Int) (k : Nat) : List.drop (none.getD 0 : Int).toNat (List.take ((some (k : Int)).getD ((ints us).length : Int)).toNat (ints us)) = ints (us.take k) := by
 simp [ints, List.map_take]
theorem q60 (c : Clu) (ho : y00 c) (t : Tr) (ht : yai t) : PC Tryz.prog 283 [.one (.p c.cs), .agg t.cs] (rI (if t.fr.length != t.olds.length then 1 else q75 c t)) := by
 refine PC.begin Tryz.func283 rfl (by kernel_rfl) ?_
 obtain ⟨o1, o2⟩ := ht
 have hf := z9n _ t.fr (z1u c) 347 (.p [.p c.cs]) rfl (fun x _ => z5x c ho x) o1
 have hw := zal _ t.olds z0q 348 rfl (fun x _ => y97 x) o2
 refine xb rfl ?_ ?_ <;> intro h0
 · have h0 : ¬ t.fr.length = t.olds.length := by simp at h0; omega
   rw [if_pos (by simpa using h0)]
   refine xr rfl (qm rfl ⟨⟨rfl, rfl, trivial⟩, z6 rfl⟩)
 · have h0 : t.fr.length = t.olds.length := by simp at h0; omega
   rw [if_neg (by simpa using h0)]
   refine z7 rfl (hf) rfl ⟨trivial, (List.forall_mem_cons.2 ⟨⟨trivial, trivial⟩, (fun _ h => nomatch h)⟩), trivial⟩ ?_
   refine xb rfl ?_ ?_ <;> intro b0
   refine xj (k := 5) rfl ?_
   refine xv rfl rfl rfl ?_; rotate_left
   refine xj (k := 3) rfl (z7 rfl (hw) rfl ⟨trivial, (fun _ h => nomatch h), trivial⟩ (xj (k := 1) rfl ?_))
   refine xb rfl ?_ ?_ <;> intro b1
   refine xv rfl rfl rfl ?_; rotate_left
   rotate_left
   all_goals first | (refine vi ?_; clear hf hw; unfold q75; simp_all; done) | skip
   have hfw : (t.fr.any (z1u c) || t.olds.any z0q) = false := by rw [b0, b1]; rfl
   unfold q75
   rw [hfw]
   rw [if_neg (by decide)]
   clear hf hw b0 b1 hfw
   refine qc rfl (ι := Nat) (fun i => i ≤ t.fr.length ∧ ∀ j, j < i → z0r t.fr j = 0) (fun i => ⟨[(32, sV (.int .i64 i)), (31, sV (.int .i64 (ints t.fr).length)), (30, .one (.b (.l (ints t.fr)))), (3, .one (.a 3 0))], [(3, .var (t.cs.map .b))]⟩) (fun i => t.fr.length - i) 0 ⟨Nat.zero_le _, fun j hj => by omega⟩ ?_ ?_
   · exact ⟨⟨rfl, rfl, rfl, ⟨rfl, rfl, rfl⟩, trivial⟩, ⟨lcr, trivial⟩, rfl⟩
   · intro i ⟨hi, h0⟩ J hJ
     refine xb rfl ?_ ?_ <;> intro h
     · have h : i < t.fr.length := by simpa using h
       obtain ⟨x, hx⟩ := gx h
       have hg := gm (fun n => [i64 n]) hx
       refine xs rfl (nn_ _) (y9 rfl _ hg (xs rfl rfl (xs rfl (.inl rfl) (xs rfl (nn_ _) (xs rfl (nn_ _) (xs rfl (by simp; omega) (z7 rfl (y9v (t.fr.take i) x _ (z37 _ _) (by rw [List.length_take]; omega)) rfl tv3 ?_)))))))
       refine xb rfl ?_ ?_ <;> intro b0
       refine xv rfl rfl rfl ?_; rotate_left
       rotate_left
       · exact vi (q8 h h0 (by unfold z0r; rw [hx]; exact if_pos b0) (by decide))
       · exact q9 rfl (hJ _ (i + 1) ⟨by omega, qb h0 (by unfold z0r; rw [hx]; exact if_neg (by rw [b0]; decide))⟩ (by omega) ⟨⟨cwi (by omega) (by omega) (by omega), rfl, rfl, ⟨rfl, rfl, rfl⟩, trivial⟩, ⟨lcr, trivial⟩, rfl⟩)
     · have h : ¬ i < t.fr.length := by simpa using h
       have hz := zg (f := z0r t.fr) (n := t.fr.length) (fun j hj => h0 j (by omega))
       refine xv rfl rfl rfl ?_
       exact vi (hz.symm)
theorem y2z (a b : Tr) : PC Tryz.prog 282 [.agg a.cs, .agg b.cs] (rI (orr [q0h a.c b.c, q0h a.s b.s])) := by
 refine PC.begin Tryz.func282 rfl (by kernel_rfl) ?_
 refine qd rfl [] (.take 0 [] (.take 1 [4, 9, 10, 11, 12] (.take 2 [] (.take 3 [4, 9, 10, 11, 12] (.take 5 [] (.take 6 (Rg 9 4) (.take 7 [] (.take 8 (Rg 9 4) (.alt 4 (.alt 9 (.alt 10 (.alt 11 (.take 12 [] .done) .nil) .nil) .nil) .nil))))))))) (by kernel_rfl) (z7 rfl (yu _ _) rfl tv3 (z7 rfl (yu _ _) rfl tv3 (xs rfl tv3 (z7 rfl (y8x [_, _] (by simp)) rfl ⟨rfl, trivial⟩ ?_))))
 refine xr rfl (qm rfl ⟨⟨rfl, rfl, trivial⟩, z6 rfl⟩)
theorem y9d {p x : Tr} : 0 ≤ orr [q0h p.c x.c, q0h p.s x.s] ↔ Tr.lt p x = false := by
 unfold orr orr orr q0h Tr.lt
 repeat' split
 all_goals (simp; try omega)
theorem q2y (a b : Hd) : PC Tryz.prog 286 [.agg a.cs, .agg b.cs] (rI (Hd.cmp a b)) := by
 refine PC.begin Tryz.func286 rfl (by kernel_rfl) ?_
 refine qd rfl [] (.take 0 [] (.take 1 [4, 9, 14, 19, 24, 25, 26, 27] (.take 2 [] (.take 3 [4, 9, 14, 19, 24, 25, 26, 27] (.take 5 [] (.take 6 [9, 14, 19, 24, 25, 26, 27] (.take 7 [] (.take 8 [9, 14, 19, 24, 25, 26, 27] (.take 10 [] (.take 11 [14, 19, 24, 25, 26, 27] (.take 12 [] (.take 13 [14, 19, 24, 25, 26, 27] (.take 15 [] (.take 16 [19, 24, 25, 26, 27] (.take 17 [] (.take 18 [19, 24, 25, 26, 27] (.take 20 [] (.take 21 (Rg 24 4) (.take 22 [] (.take 23 (Rg 24 4) (.alt 4 (.alt 9 (.alt 14 (.alt 19 (.alt 24 (.alt 25 (.alt 26 (.take 27 [] .done) .nil) .nil) .nil) .nil) .nil) .nil) .nil))))))))))))))))))))) (by kernel_rfl) (z7 rfl (yu _ _) rfl tv3 (z7 rfl (yu _ _) rfl tv3 (z7 rfl (yu _ _) rfl tv3 (z7 rfl (yu _ _) rfl tv3 (z7 rfl (yu _ _) rfl tv3 (xs rfl tv6 (z7 rfl (y8x [_, _, _, _, _] (by simp)) rfl ⟨rfl, trivial⟩ ?_)))))))
 refine xr rfl (qm rfl ⟨⟨rfl, rfl, trivial⟩, z6 rfl⟩)
theorem q9c {p x : Hd} : 0 ≤ Hd.cmp p x ↔ Hd.lt p x = false := by
 unfold Hd.lt
 simp
theorem q7p (c : Clu) (ho : y00 c) (ts : List Tr) (hl : ts.length ≤ 1048576) (ht : ∀ t ∈ ts, yai t) : PC Tryz.prog 207 [.one (.p c.cs), .one (.l (ts.map Tr.cs))] (rI (scan (q3j c ts) ts.length)) := by
 refine PC.begin Tryz.func207 rfl (by kernel_rfl) ?_
 refine qc rfl (ι := Nat) (fun i => i ≤ ts.length ∧ ∀ j, j < i → q3j c ts j = 0) (fun i => ⟨[(10, sV (.int .i64 i)), (9, sV (.int .i64 (ts.map Tr.cs).length)), (8, .one (.b (.l (ts.map Tr.cs)))), (0, .one (.b (.p c.cs))), (1, .one (.b (.l (ts.map Tr.cs))))], []⟩) (fun i => ts.length - i) 0 ⟨Nat.zero_le _, fun j hj => by omega⟩ ?_ ?_
 · exact ⟨⟨rfl, rfl, rfl, rfl, rfl, trivial⟩, trivial, rfl⟩
 · intro i ⟨hi, h0⟩ J hJ
   refine xb rfl ?_ ?_ <;> intro h
   · have h : i < ts.length := by simpa using h
     obtain ⟨x, hx⟩ := gx h
     have hg := gm Tr.cs hx
     have hxt := ht x (List.mem_of_getElem? hx)
     rcases Nat.eq_zero_or_pos i with hz | hz
     · subst hz
       refine xs rfl (nn_ _) (y9 rfl _ hg (xs rfl rfl (z7 rfl (y17 _ (by assumption) _ _) rfl tv4 ?_)))
       refine xb rfl ?_ ?_ <;> intro b0
       refine xv rfl rfl rfl ?_; rotate_left
       refine z7 rfl (zn _ _ _) rfl tv4 ?_
       refine xb rfl ?_ ?_ <;> intro b1
       refine xj (k := 5) rfl ?_
       refine xv rfl rfl rfl ?_; rotate_left
       refine xj (k := 2) rfl (z7 rfl (zn _ _ _) rfl tv4 (xj (k := 2) rfl ?_))
       refine xb rfl ?_ ?_ <;> intro b2
       refine xv rfl rfl rfl ?_; rotate_left
       refine qd rfl [] (Tk (Rg 0 7) (.take 7 (Rg 9 4) (.take 8 (Rg 9 4) (.alt 9 (Tk [10, 11, 12] .done) .nil)))) (by kernel_rfl) (xj (k := 10) rfl (z7 rfl (q60 c ho x hxt) rfl ⟨trivial, tv7, trivial⟩ ?_))
       refine xb rfl ?_ ?_ <;> intro b3
       refine xv rfl rfl rfl ?_; rotate_left
       rotate_left
       all_goals (first | (refine vi (q8 h h0 ?_ (by first | decide | decide | simp_all)); clear hJ h0 hg; (first | (simp_all [q3j, ahead_zero, y9d, y5d]; done) | (simp_all [q3j, ahead_zero, y9d, y5d]; omega)); done) | (refine q9 rfl (hJ _ 1 ⟨by omega, qb h0 ?_⟩ (by omega) ⟨⟨cwi (by omega) (by omega) (by omega), rfl, rfl, rfl, rfl, trivial⟩, trivial, rfl⟩); clear hJ h0 hg; (first | (simp_all [q3j, ahead_zero, y9d, y5d]; done) | (simp_all [q3j, ahead_zero, y9d, y5d]; omega)); done) | skip)
     · obtain ⟨p, hp⟩ := gx (xs := ts) (i := i - 1) (by omega)
       have hgp := q19 Tr.cs hz (by omega) hp
       refine xs rfl (nn_ _) (y9 rfl _ hg (xs rfl rfl (z7 rfl (y17 _ (by assumption) _ _) rfl tv4 ?_)))
       refine xb rfl ?_ ?_ <;> intro b0
       refine xv rfl rfl rfl ?_; rotate_left
       refine z7 rfl (zn _ _ _) rfl tv4 ?_
       refine xb rfl ?_ ?_ <;> intro b1
       refine xj (k := 5) rfl ?_
       refine xv rfl rfl rfl ?_; rotate_left
       refine xj (k := 2) rfl (z7 rfl (zn _ _ _) rfl tv4 (xj (k := 2) rfl ?_))
       refine xb rfl ?_ ?_ <;> intro b2
       refine xv rfl rfl rfl ?_; rotate_left
       refine qd rfl [] (Tk (Rg 0 7) (.take 7 (Rg 9 4) (.take 8 (Rg 9 4) (.alt 9 (Tk [10, 11, 12] .done) .nil)))) (by kernel_rfl) ?_
       refine xb rfl ?_ ?_ <;> intro b3
       refine xj (k := 3) rfl (xs rfl (q0m hz (by omega)) (y9 rfl _ hgp (xs rfl rfl (xj (k := 3) rfl (z7 rfl (y2z _ _) rfl ⟨tv7, tv7, trivial⟩ (xj (k := 2) rfl ?_))))))
       refine xb rfl ?_ ?_ <;> intro b4
       refine xv rfl rfl rfl ?_; rotate_left
       refine z7 rfl (q60 c ho x hxt) rfl ⟨trivial, tv7, trivial⟩ ?_
       refine xb rfl ?_ ?_ <;> intro b5
       refine xv rfl rfl rfl ?_; rotate_left
       rotate_left
       refine xj (k := 9) rfl (z7 rfl (q60 c ho x hxt) rfl ⟨trivial, tv7, trivial⟩ ?_)
       refine xb rfl ?_ ?_ <;> intro b4
       refine xv rfl rfl rfl ?_; rotate_left
       rotate_left
       all_goals (first | (refine vi (q8 h h0 ?_ (by first | decide | decide | simp_all)); clear hJ h0 hg hgp; (first | (simp_all [q3j, ya hz hp, y9d, y5d]; done) | (simp_all [q3j, ya hz hp, y9d, y5d]; omega)); done) | (refine q9 rfl (hJ _ (i + 1) ⟨by omega, qb h0 ?_⟩ (by omega) ⟨⟨cwi (by omega) (by omega) (by omega), rfl, rfl, rfl, rfl, trivial⟩, trivial, rfl⟩); clear hJ h0 hg hgp; (first | (simp_all [q3j, ya hz hp, y9d, y5d]; done) | (simp_all [q3j, ya hz hp, y9d, y5d]; omega)); done) | skip)
   · have h : ¬ i < ts.length := by simpa using h
     have hz := zg (f := q3j c ts) (n := ts.length) (fun j hj => h0 j (by omega))
     clear hJ
     refine xv rfl rfl rfl ?_
     exact vi (hz.symm)
theorem y7p (c : Clu) (ho : y00 c) (ks : List Hd) (hl : ks.length ≤ 1048576) : PC Tryz.prog 208 [.one (.p c.cs), .one (.l (ks.map Hd.cs))] (rI (scan (hdF c ks) ks.length)) := by
 refine PC.begin Tryz.func208 rfl (by kernel_rfl) ?_
 have q2 := ho.2.2.1.1
 have p2 : (c.accs.map Acc.cs).length ≤ 1048576 := by simpa using q2
 refine qc rfl (ι := Nat) (fun i => i ≤ ks.length ∧ ∀ j, j < i → hdF c ks j = 0) (fun i => ⟨[(9, sV (.int .i64 i)), (8, sV (.int .i64 (ks.map Hd.cs).length)), (7, .one (.b (.l (ks.map Hd.cs)))), (0, .one (.b (.p c.cs))), (1, .one (.b (.l (ks.map Hd.cs))))], []⟩) (fun i => ks.length - i) 0 ⟨Nat.zero_le _, fun j hj => by omega⟩ ?_ ?_
 · exact ⟨⟨rfl, rfl, rfl, rfl, rfl, trivial⟩, trivial, rfl⟩
 · intro i ⟨hi, h0⟩ J hJ
   refine xb rfl ?_ ?_ <;> intro h
   · have h : i < ks.length := by simpa using h
     obtain ⟨x, hx⟩ := gx h
     have hg := gm Hd.cs hx
     rcases Nat.eq_zero_or_pos i with hz | hz
     · subst hz
       refine xs rfl (nn_ _) (y9 rfl _ hg (xs rfl rfl (z7 rfl (y17 _ (by assumption) _ _) rfl tv4 ?_)))
       refine xb rfl ?_ ?_ <;> intro b0
       refine xv rfl rfl rfl ?_; rotate_left
       refine qd rfl [] (.take 0 [] (.take 1 (Rg 2 19) (.alt 2 (Tk [3, 4, 5] (.take 6 (Rg 7 14) (.alt 7 (Tk (Rg 8 4) (.take 12 (Rg 17 4) (Tk [13, 14, 15] (.take 16 (Rg 17 4) (.alt 17 (Tk [18, 19, 20] .done) .nil))))) .nil))) .nil))) (by kernel_rfl) (z7 rfl (y09 _) rfl ⟨trivial, trivial⟩ ?_)
       refine xb rfl ?_ ?_ <;> intro b1
       refine xj (k := 14) rfl ?_
       refine xv rfl rfl rfl ?_; rotate_left
       refine xj (k := 2) rfl (z7 rfl (q0n _) rfl ⟨trivial, trivial⟩ (xj (k := 2) rfl ?_))
       refine xb rfl ?_ ?_ <;> intro b2
       refine xj (k := 9) rfl ?_
       refine xv rfl rfl rfl ?_; rotate_left
       refine xj (k := 6) rfl (z7 rfl (z0e _ _ (by assumption)) rfl tv3 (xj (k := 2) rfl ?_))
       refine xb rfl ?_ ?_ <;> intro b3
       refine xv rfl rfl rfl ?_; rotate_left
       refine qd rfl [] (Tk (Rg 0 7) (.take 7 (Rg 9 4) (.take 8 (Rg 9 4) (.alt 9 (Tk [10, 11, 12] .done) .nil)))) (by kernel_rfl) ?_
       refine xj (k := 10) rfl ?_; rotate_left
       all_goals (first | (refine vi (q8 h h0 ?_ (by first | decide | decide | simp_all)); clear hJ h0 hg; (first | (simp_all [hdF, ahead_zero, q9c]; done) | (simp_all [hdF, ahead_zero, q9c]; omega)); done) | (refine q9 rfl (hJ _ 1 ⟨by omega, qb h0 ?_⟩ (by omega) ⟨⟨cwi (by omega) (by omega) (by omega), rfl, rfl, rfl, rfl, trivial⟩, trivial, rfl⟩); clear hJ h0 hg; (first | (simp_all [hdF, ahead_zero, q9c]; done) | (simp_all [hdF, ahead_zero, q9c]; omega)); done) | skip)
     · obtain ⟨p, hp⟩ := gx (xs := ks) (i := i - 1) (by omega)
       have hgp := q19 Hd.cs hz (by omega) hp
       refine xs rfl (nn_ _) (y9 rfl _ hg (xs rfl rfl (z7 rfl (y17 _ (by assumption) _ _) rfl tv4 ?_)))
       refine xb rfl ?_ ?_ <;> intro b0
       refine xv rfl rfl rfl ?_; rotate_left
       refine qd rfl [] (.take 0 [] (.take 1 (Rg 2 19) (.alt 2 (Tk [3, 4, 5] (.take 6 (Rg 7 14) (.alt 7 (Tk (Rg 8 4) (.take 12 (Rg 17 4) (Tk [13, 14, 15] (.take 16 (Rg 17 4) (.alt 17 (Tk [18, 19, 20] .done) .nil))))) .nil))) .nil))) (by kernel_rfl) (z7 rfl (y09 _) rfl ⟨trivial, trivial⟩ ?_)
       refine xb rfl ?_ ?_ <;> intro b1
       refine xj (k := 14) rfl ?_
       refine xv rfl rfl rfl ?_; rotate_left
       refine xj (k := 2) rfl (z7 rfl (q0n _) rfl ⟨trivial, trivial⟩ (xj (k := 2) rfl ?_))
       refine xb rfl ?_ ?_ <;> intro b2
       refine xj (k := 9) rfl ?_
       refine xv rfl rfl rfl ?_; rotate_left
       refine xj (k := 6) rfl (z7 rfl (z0e _ _ (by assumption)) rfl tv3 (xj (k := 2) rfl ?_))
       refine xb rfl ?_ ?_ <;> intro b3
       refine xv rfl rfl rfl ?_; rotate_left
       refine qd rfl [] (Tk (Rg 0 7) (.take 7 (Rg 9 4) (.take 8 (Rg 9 4) (.alt 9 (Tk [10, 11, 12] .done) .nil)))) (by kernel_rfl) ?_
       refine xb rfl ?_ ?_ <;> intro b4
       refine xj (k := 3) rfl (xs rfl (q0m hz (by omega)) (y9 rfl _ hgp (xs rfl rfl (xj (k := 3) rfl (z7 rfl (q2y _ _) rfl ⟨tv6, tv6, trivial⟩ (xj (k := 2) rfl ?_))))))
       refine xb rfl ?_ ?_ <;> intro b5
       refine xv rfl rfl rfl ?_; rotate_left
       rotate_left
       refine xj (k := 9) rfl ?_; rotate_left
       all_goals (first | (refine vi (q8 h h0 ?_ (by first | decide | decide | simp_all)); clear hJ h0 hg hgp; (first | (simp_all [hdF, ya hz hp, q9c]; done) | (simp_all [hdF, ya hz hp, q9c]; omega)); done) | (refine q9 rfl (hJ _ (i + 1) ⟨by omega, qb h0 ?_⟩ (by omega) ⟨⟨cwi (by omega) (by omega) (by omega), rfl, rfl, rfl, rfl, trivial⟩, trivial, rfl⟩); clear hJ h0 hg hgp; (first | (simp_all [hdF, ya hz hp, q9c]; done) | (simp_all [hdF, ya hz hp, q9c]; omega)); done) | skip)
   · have h : ¬ i < ks.length := by simpa using h
     have hz := zg (f := hdF c ks) (n := ks.length) (fun j hj => h0 j (by omega))
     clear hJ
     refine xv rfl rfl rfl ?_
     exact vi (hz.symm)
theorem z9w (c : Clu) (ho : y00 c) (l : Ldr) (hl : q8j l) : PC Tryz.prog 121 [.one (.p c.cs), .agg l.cs] (rI (z7u c l)) := by
 refine PC.begin Tryz.func121 rfl (by kernel_rfl) ?_
 obtain ⟨l1, l2, l3⟩ := hl
 have hT := q7p c ho l.tries l1 l3
 have hK := y7p c ho l.known l2
 refine z7 rfl (zn _ _ _) rfl tv4 ?_
 refine xb rfl ?_ ?_ <;> intro b0
 refine xv rfl rfl rfl ?_; rotate_left
 refine xb rfl ?_ ?_ <;> intro b1
 refine xj (k := 5) rfl ?_
 refine xv rfl rfl rfl ?_; rotate_left
 refine xj (k := 4) rfl ?_
 refine xb rfl ?_ ?_ <;> intro b2
 refine xv rfl rfl rfl ?_; rotate_left
 refine qd rfl [] (Tk [0, 1] (.take 2 [3, 7, 8, 9, 10] (Tk [4, 5] (.take 6 (Rg 7 4) (.alt 3 (.alt 7 (.alt 8 (.alt 9 (.take 10 [] .done) .nil) .nil) .nil) .nil))))) (by kernel_rfl) (z7 rfl (hT) rfl tv3 (z7 rfl (hK) rfl tv3 (xs rfl tv3 (z7 rfl (q2b [_, _] (by simp)) rfl ⟨rfl, trivial⟩ ?_))))
 refine xv rfl rfl rfl ?_; rotate_left
 all_goals (refine vi ?_; clear hT hK; unfold z7u; simp_all; try omega)
theorem y50 (a b : Hd) : PC Tryz.prog 183 [.agg a.cs, .agg b.cs] (rB (Hd.lt a b)) := by
 refine PC.begin Tryz.func183 rfl (by kernel_rfl) ?_
 refine xs rfl tv6 (xs rfl tv6 ?_)
 refine qc rfl (ι := Nat) (fun i => i ≤ 5 ∧ (1 ≤ i → a.c = b.c) ∧ (2 ≤ i → a.s = b.s) ∧ (3 ≤ i → a.b = b.b) ∧ (4 ≤ i → a.v = b.v) ∧ (5 ≤ i → a.f = b.f)) (fun i => ⟨[(7, sV (.int .i64 i)), (5, .one (.h 18 5)), (6, .one (.h 29 5))], [(18, .arr true 1 0 [[i64 a.c], [i64 a.s], [i64 a.b], [i64 a.v], [i64 a.f]]), (29, .arr true 1 0 [[i64 b.c], [i64 b.s], [i64 b.b], [i64 b.v], [i64 b.f]])]⟩) (fun i => 5 - i) 0 ⟨by omega, by omega, by omega, by omega, by omega, by omega⟩ ?_ ?_
 · exact ⟨⟨rfl, ⟨rfl, rfl, rfl⟩, ⟨rfl, rfl, rfl⟩, trivial⟩, ⟨⟨rfl, .inl rfl, .inl rfl⟩, ⟨rfl, .inl rfl, .inl rfl⟩, trivial⟩, rfl⟩
 · intro i ⟨hi, h1, h2, h3, h4, h5⟩ J hJ
   have hc : i = 0 ∨ i = 1 ∨ i = 2 ∨ i = 3 ∨ i = 4 ∨ i = 5 := by omega
   rcases hc with rfl | rfl | rfl | rfl | rfl | rfl
   · skip
     clear h1 h2 h3 h4 h5
     have hga : [[i64 a.c], [i64 a.s], [i64 a.b], [i64 a.v], [i64 a.f]][((0 : Nat) : Int).toNat]? = some [i64 a.c] := rfl
     have hgb : [[i64 b.c], [i64 b.s], [i64 b.b], [i64 b.v], [i64 b.f]][((0 : Nat) : Int).toNat]? = some [i64 b.c] := rfl
     refine xj (k := 1) rfl (qd rfl [] (Tk [0, 1, 2] (.take 3 [8] (Tk [4, 5, 6] (.take 7 [8] (.take 8 [] .done))))) (by kernel_rfl) (xs rfl rfl (xs rfl (by decide) (y9 rfl _ hga (xs rfl rfl (xs rfl rfl (y9 rfl _ hga (xs rfl rfl (xs rfl (by decide) ?_)))))))))
     refine y9 rfl _ hgb (xs rfl rfl (xs rfl rfl (y9 rfl _ hgb ?_)))
     refine xb rfl ?_ ?_ <;> intro b0
     refine qd rfl [] (Tk [0, 1, 2] (.take 3 [8, 9] (Tk [4, 5, 6] (.take 7 [8, 9] (Tk [8, 9] .done))))) (by kernel_rfl) (xs rfl rfl (xs rfl (by decide) (y9 rfl _ hga (xs rfl rfl (xs rfl rfl (y9 rfl _ hga (xs rfl rfl (xs rfl (by decide) (y9 rfl _ hgb ?_)))))))))
     refine xs rfl rfl (xs rfl rfl (y9 rfl _ hgb ?_))
     refine xv rfl rfl rfl ?_; rotate_left
     rotate_left
     · have hn : ¬ a.c = b.c := by simpa using b0
       refine vb ?_
       rw [Bool.eq_iff_iff]
       simp only [Hd.lt, Hd.cmp, orr, q0h, decide_eq_true_eq]
       (repeat' split) <;> first | omega | (simp; omega) | (simp_all; done) | (simp_all; omega)
     · have hn : a.c = b.c := by simpa using b0
       exact q9 rfl (hJ _ 1 ⟨by omega, by omega, by omega, by omega, by omega, by omega⟩ (by omega) ⟨⟨rfl, ⟨rfl, rfl, rfl⟩, ⟨rfl, rfl, rfl⟩, trivial⟩, ⟨⟨rfl, .inl rfl, .inl rfl⟩, ⟨rfl, .inl rfl, .inl rfl⟩, trivial⟩, rfl⟩)
   · skip
     have e1 := h1 (by omega)
     clear h1 h2 h3 h4 h5
     have hga : [[i64 a.c], [i64 a.s], [i64 a.b], [i64 a.v], [i64 a.f]][((1 : Nat) : Int).toNat]? = some [i64 a.s] := rfl
     have hgb : [[i64 b.c], [i64 b.s], [i64 b.b], [i64 b.v], [i64 b.f]][((1 : Nat) : Int).toNat]? = some [i64 b.s] := rfl
     refine xj (k := 1) rfl (qd rfl [] (Tk [0, 1, 2] (.take 3 [8] (Tk [4, 5, 6] (.take 7 [8] (.take 8 [] .done))))) (by kernel_rfl) (xs rfl rfl (xs rfl (by decide) (y9 rfl _ hga (xs rfl rfl (xs rfl rfl (y9 rfl _ hga (xs rfl rfl (xs rfl (by decide) ?_)))))))))
     refine y9 rfl _ hgb (xs rfl rfl (xs rfl rfl (y9 rfl _ hgb ?_)))
     refine xb rfl ?_ ?_ <;> intro b0
     refine qd rfl [] (Tk [0, 1, 2] (.take 3 [8, 9] (Tk [4, 5, 6] (.take 7 [8, 9] (Tk [8, 9] .done))))) (by kernel_rfl) (xs rfl rfl (xs rfl (by decide) (y9 rfl _ hga (xs rfl rfl (xs rfl rfl (y9 rfl _ hga (xs rfl rfl (xs rfl (by decide) (y9 rfl _ hgb ?_)))))))))
     refine xs rfl rfl (xs rfl rfl (y9 rfl _ hgb ?_))
     refine xv rfl rfl rfl ?_; rotate_left
     rotate_left
     · have hn : ¬ a.s = b.s := by simpa using b0
       refine vb ?_
       rw [Bool.eq_iff_iff]
       simp only [Hd.lt, Hd.cmp, orr, q0h, e1, decide_eq_true_eq]
       (repeat' split) <;> first | omega | (simp; omega) | (simp_all; done) | (simp_all; omega)
     · have hn : a.s = b.s := by simpa using b0
       exact q9 rfl (hJ _ 2 ⟨by omega, by omega, by omega, by omega, by omega, by omega⟩ (by omega) ⟨⟨rfl, ⟨rfl, rfl, rfl⟩, ⟨rfl, rfl, rfl⟩, trivial⟩, ⟨⟨rfl, .inl rfl, .inl rfl⟩, ⟨rfl, .inl rfl, .inl rfl⟩, trivial⟩, rfl⟩)
   · skip
     have e1 := h1 (by omega)
     have e2 := h2 (by omega)
     clear h1 h2 h3 h4 h5
     have hga : [[i64 a.c], [i64 a.s], [i64 a.b], [i64 a.v], [i64 a.f]][((2 : Nat) : Int).toNat]? = some [i64 a.b] := rfl
     have hgb : [[i64 b.c], [i64 b.s], [i64 b.b], [i64 b.v], [i64 b.f]][((2 : Nat) : Int).toNat]? = some [i64 b.b] := rfl
     refine xj (k := 1) rfl (qd rfl [] (Tk [0, 1, 2] (.take 3 [8] (Tk [4, 5, 6] (.take 7 [8] (.take 8 [] .done))))) (by kernel_rfl) (xs rfl rfl (xs rfl (by decide) (y9 rfl _ hga (xs rfl rfl (xs rfl rfl (y9 rfl _ hga (xs rfl rfl (xs rfl (by decide) ?_)))))))))
     refine y9 rfl _ hgb (xs rfl rfl (xs rfl rfl (y9 rfl _ hgb ?_)))
     refine xb rfl ?_ ?_ <;> intro b0
     refine qd rfl [] (Tk [0, 1, 2] (.take 3 [8, 9] (Tk [4, 5, 6] (.take 7 [8, 9] (Tk [8, 9] .done))))) (by kernel_rfl) (xs rfl rfl (xs rfl (by decide) (y9 rfl _ hga (xs rfl rfl (xs rfl rfl (y9 rfl _ hga (xs rfl rfl (xs rfl (by decide) (y9 rfl _ hgb ?_)))))))))
     refine xs rfl rfl (xs rfl rfl (y9 rfl _ hgb ?_))
     refine xv rfl rfl rfl ?_; rotate_left
     rotate_left
     · have hn : ¬ a.b = b.b := by simpa using b0
       refine vb ?_
       rw [Bool.eq_iff_iff]
       simp only [Hd.lt, Hd.cmp, orr, q0h, e1, e2, decide_eq_true_eq]
       (repeat' split) <;> first | omega | (simp; omega) | (simp_all; done) | (simp_all; omega)
     · have hn : a.b = b.b := by simpa using b0
       exact q9 rfl (hJ _ 3 ⟨by omega, by omega, by omega, by omega, by omega, by omega⟩ (by omega) ⟨⟨rfl, ⟨rfl, rfl, rfl⟩, ⟨rfl, rfl, rfl⟩, trivial⟩, ⟨⟨rfl, .inl rfl, .inl rfl⟩, ⟨rfl, .inl rfl, .inl rfl⟩, trivial⟩, rfl⟩)
   · skip
     have e1 := h1 (by omega)
     have e2 := h2 (by omega)
     have e3 := h3 (by omega)
     clear h1 h2 h3 h4 h5
     have hga : [[i64 a.c], [i64 a.s], [i64 a.b], [i64 a.v], [i64 a.f]][((3 : Nat) : Int).toNat]? = some [i64 a.v] := rfl
     have hgb : [[i64 b.c], [i64 b.s], [i64 b.b], [i64 b.v], [i64 b.f]][((3 : Nat) : Int).toNat]? = some [i64 b.v] := rfl
     refine xj (k := 1) rfl (qd rfl [] (Tk [0, 1, 2] (.take 3 [8] (Tk [4, 5, 6] (.take 7 [8] (.take 8 [] .done))))) (by kernel_rfl) (xs rfl rfl (xs rfl (by decide) (y9 rfl _ hga (xs rfl rfl (xs rfl rfl (y9 rfl _ hga (xs rfl rfl (xs rfl (by decide) ?_)))))))))
     refine y9 rfl _ hgb (xs rfl rfl (xs rfl rfl (y9 rfl _ hgb ?_)))
     refine xb rfl ?_ ?_ <;> intro b0
     refine qd rfl [] (Tk [0, 1, 2] (.take 3 [8, 9] (Tk [4, 5, 6] (.take 7 [8, 9] (Tk [8, 9] .done))))) (by kernel_rfl) (xs rfl rfl (xs rfl (by decide) (y9 rfl _ hga (xs rfl rfl (xs rfl rfl (y9 rfl _ hga (xs rfl rfl (xs rfl (by decide) (y9 rfl _ hgb ?_)))))))))
     refine xs rfl rfl (xs rfl rfl (y9 rfl _ hgb ?_))
     refine xv rfl rfl rfl ?_; rotate_left
     rotate_left
     · have hn : ¬ a.v = b.v := by simpa using b0
       refine vb ?_
       rw [Bool.eq_iff_iff]
       simp only [Hd.lt, Hd.cmp, orr, q0h, e1, e2, e3, decide_eq_true_eq]
       (repeat' split) <;> first | omega | (simp; omega) | (simp_all; done) | (simp_all; omega)
     · have hn : a.v = b.v := by simpa using b0
       exact q9 rfl (hJ _ 4 ⟨by omega, by omega, by omega, by omega, by omega, by omega⟩ (by omega) ⟨⟨rfl, ⟨rfl, rfl, rfl⟩, ⟨rfl, rfl, rfl⟩, trivial⟩, ⟨⟨rfl, .inl rfl, .inl rfl⟩, ⟨rfl, .inl rfl, .inl rfl⟩, trivial⟩, rfl⟩)
   · skip
     have e1 := h1 (by omega)
     have e2 := h2 (by omega)
     have e3 := h3 (by omega)
     have e4 := h4 (by omega)
     clear h1 h2 h3 h4 h5
     have hga : [[i64 a.c], [i64 a.s], [i64 a.b], [i64 a.v], [i64 a.f]][((4 : Nat) : Int).toNat]? = some [i64 a.f] := rfl
     have hgb : [[i64 b.c], [i64 b.s], [i64 b.b], [i64 b.v], [i64 b.f]][((4 : Nat) : Int).toNat]? = some [i64 b.f] := rfl
     refine xj (k := 1) rfl (qd rfl [] (Tk [0, 1, 2] (.take 3 [8] (Tk [4, 5, 6] (.take 7 [8] (.take 8 [] .done))))) (by kernel_rfl) (xs rfl rfl (xs rfl (by decide) (y9 rfl _ hga (xs rfl rfl (xs rfl rfl (y9 rfl _ hga (xs rfl rfl (xs rfl (by decide) ?_)))))))))
     refine y9 rfl _ hgb (xs rfl rfl (xs rfl rfl (y9 rfl _ hgb ?_)))
     refine xb rfl ?_ ?_ <;> intro b0
     refine qd rfl [] (Tk [0, 1, 2] (.take 3 [8, 9] (Tk [4, 5, 6] (.take 7 [8, 9] (Tk [8, 9] .done))))) (by kernel_rfl) (xs rfl rfl (xs rfl (by decide) (y9 rfl _ hga (xs rfl rfl (xs rfl rfl (y9 rfl _ hga (xs rfl rfl (xs rfl (by decide) (y9 rfl _ hgb ?_)))))))))
     refine xs rfl rfl (xs rfl rfl (y9 rfl _ hgb ?_))
     refine xv rfl rfl rfl ?_; rotate_left
     rotate_left
     · have hn : ¬ a.f = b.f := by simpa using b0
       refine vb ?_
       rw [Bool.eq_iff_iff]
       simp only [Hd.lt, Hd.cmp, orr, q0h, e1, e2, e3, e4, decide_eq_true_eq]
       (repeat' split) <;> first | omega | (simp; omega) | (simp_all; done) | (simp_all; omega)
     · have hn : a.f = b.f := by simpa using b0
       exact q9 rfl (hJ _ 5 ⟨by omega, by omega, by omega, by omega, by omega, by omega⟩ (by omega) ⟨⟨rfl, ⟨rfl, rfl, rfl⟩, ⟨rfl, rfl, rfl⟩, trivial⟩, ⟨⟨rfl, .inl rfl, .inl rfl⟩, ⟨rfl, .inl rfl, .inl rfl⟩, trivial⟩, rfl⟩)
   · have e1 := h1 (by omega)
     have e2 := h2 (by omega)
     have e3 := h3 (by omega)
     have e4 := h4 (by omega)
     have e5 := h5 (by omega)
     refine xj (k := 1) rfl (xv rfl rfl rfl ?_)
     refine vb ?_
     simp [Hd.lt, Hd.cmp, orr, q0h, e1, e2, e3, e4, e5]
theorem y40 (c : Clu) (y : Int) : True := trivial
theorem q9j {c : Clu} {ts : List Tr} {i : Nat} {t : Tr} {h w1 w2 a d : Bool} (e1 : q14 c.cons t.c t.s = h) (e2 : Go.Sx.within t.b 1 1000 = w1) (e3 : Go.Sx.within t.v 0 2 = w2) (e4 : Go.Sx.ahead Tr.lt ts i t = a) (e5 : (t.fr.length != t.olds.length) = d) : y5d c ts i t = (bif h then (bif w1 then (bif w2 then (bif a then (bif d then 1 else q75 c t) else 1) else 3) else 3) else 4) := by
 unfold y5d
 rw [e1, e2, e3, e4, e5]
 cases h <;> cases w1 <;> cases w2 <;> cases a <;> cases d <;> rfl
theorem qbt {us : List Int} {vs : List Vt} : (((ints us).length : Int) != ((vs.map Vt.cs).length : Int)) = (us.length != vs.length) := by
 rw [Bool.eq_iff_iff]
 simp
 omega
theorem za8 (c : Clu) (ho : y00 c) (ts : List Tr) (i : Nat) (t : Tr) (hl : ts.length ≤ 1048576) (ht : yai t) (hx : ts[i]? = some t) : PC Tryz.prog 180 [.one (.p c.cs), .one (.l (ts.map Tr.cs)), .one (i64 i)] (rI (y5d c ts i t)) := by
 refine PC.begin Tryz.func180 rfl (by kernel_rfl) ?_
 obtain ⟨o1, o2⟩ := ht
 have hg := gm Tr.cs hx
 have hlt := (List.getElem?_eq_some_iff.1 hx).1
 have w2 := wl1 Acc.cs ho.2.2.1.1
 have hD := (qbt (us := t.fr) (vs := t.olds)).symm
 rcases Nat.eq_zero_or_pos i with hz | hz
 · have hA : Go.Sx.ahead Tr.lt ts i t = true := by subst hz; rfl
   have hK := q9j (c := c) rfl rfl rfl hA hD
   subst hz
   refine xs rfl (nn_ _) (y9 rfl _ hg (xs rfl rfl (z7 rfl (qx _ (by assumption) _ _) rfl tv4 ?_)))
   refine xb rfl ?_ ?_ <;> intro b0
   refine xv rfl rfl rfl ?_; rotate_left
   refine z7 rfl (qi _ _ _) rfl tv4 ?_
   refine xb rfl ?_ ?_ <;> intro b1
   refine xj (k := 5) rfl ?_
   refine xv rfl rfl rfl ?_; rotate_left
   refine xj (k := 2) rfl (z7 rfl (qi _ _ _) rfl tv4 (xj (k := 2) rfl ?_))
   refine xb rfl ?_ ?_ <;> intro b2
   refine xv rfl rfl rfl ?_; rotate_left
   refine qd rfl [] (Tk (Rg 0 8) (.take 8 (Rg 15 1 ++ Rg 21 12) (Tk (Rg 9 5) (.take 14 (Rg 15 1 ++ Rg 21 12) (Tk [15, 16] (.take 17 (Rg 20 13) (.take 18 [] (.take 19 (Rg 20 13) (.take 20 [] (.alt 21 (Tk (Rg 22 4) (.take 26 [27, 31, 32] (Tk [27, 28] (.take 29 (Rg 30 3) (Tk [30, 31, 32] .done))))) .nil)))))))))) (by kernel_rfl) (xj (k := 29) rfl ?_)
   refine xb rfl ?_ ?_ <;> intro b3
   refine xv rfl rfl rfl ?_; rotate_left
   rotate_left
   all_goals first | (refine vi ?_; rw [hK]; clear hg hK hA; simp_all only [Bool.not_eq_true', Bool.not_eq_false', cond_true, cond_false]; done) | skip
   have hT : y5d c ts 0 t = q75 c t := by rw [hK]; clear hg hK hA; simp_all only [Bool.not_eq_true', Bool.not_eq_false', cond_true, cond_false]
   have hle : t.fr.length = t.olds.length := by have := hD.trans b3; simpa using this
   clear hK hD b0 b1 b2 b3 hA
   refine qc rfl (ι := Nat) (fun k => k ≤ t.fr.length ∧ (∀ j y, j < k → t.fr[j]? = some y → z1u c y = false) ∧ ∀ j y, j < k → t.olds[j]? = some y → z0q y = false) (fun k => ⟨[(8, sV (.int .i64 k)), (7, .one (.a 7 0)), (0, .one (.b (.p c.cs)))], [(7, .var (t.cs.map .b))]⟩) (fun k => t.fr.length - k) 0 ⟨Nat.zero_le _, fun j y hj => by omega, fun j y hj => by omega⟩ ?_ ?_
   · exact ⟨⟨rfl, ⟨rfl, rfl, rfl⟩, rfl, trivial⟩, ⟨⟨rfl, rfl, rfl, rfl, rfl, rfl, trivial⟩, trivial⟩, rfl⟩
   · intro k ⟨hk, h0k, h1k⟩ Jk hJk
     refine xb rfl ?_ ?_ <;> intro hh
     · have hh : k < t.fr.length := by simpa using hh
       obtain ⟨y, hy⟩ := gx hh
       obtain ⟨v, hv⟩ := gx (xs := t.olds) (i := k) (by omega)
       have hgy := gm (fun n => [i64 n]) hy
       have hgv := gm Vt.cs hv
       have hwq := y40 c y
       refine qd rfl [] (.take 0 [] (.take 1 (Rg 3 2 ++ Rg 11 20) (Tk [2, 3] (.take 4 (Rg 11 20) (Tk [5, 6, 7] (.take 8 (Rg 9 22) (Tk [9, 10] (.alt 11 (Tk [12, 13, 14] (.take 15 (Rg 17 2 ++ Rg 20 11) (Tk [16, 17] (.take 18 (Rg 20 11) (.alt 19 (Tk [20, 21, 22] (.take 23 (Rg 25 6) (Tk [24, 25] (.take 26 (Rg 27 4) (.alt 27 (Tk [28, 29, 30] .done) .nil))))) .nil))))) .nil)))))))) (by kernel_rfl) (xs rfl (nn_ _) (y9 rfl _ hgy (xs rfl rfl (z7 rfl (qi _ _ _) rfl tv4 ?_))))
       refine xb rfl ?_ ?_ <;> intro b0
       refine xj (k := 10) rfl ?_
       refine xv rfl rfl rfl ?_; rotate_left
       refine xj (k := 3) rfl (xs rfl (nn_ _) (y9 rfl _ hgv (xs rfl rfl (xj (k := 2) rfl (z7 rfl (q23) rfl trivial (xj (k := 2) rfl ?_))))))
       refine xb rfl ?_ ?_ <;> intro b1
       refine xj (k := 3) rfl (xs rfl (nn_ _) (y9 rfl _ hgv (xs rfl rfl (xj (k := 2) rfl (z7 rfl (y1w _) rfl ⟨tv3, trivial⟩ (xj (k := 4) rfl ?_))))))
       refine xb rfl ?_ ?_ <;> intro b2
       refine xv rfl rfl rfl ?_; rotate_left
       rotate_left
       refine xj (k := 10) rfl ?_; rotate_left
       all_goals first
        | (refine vi ?_
           have hb : z1u c y = true := by unfold z1u; rw [← w2]; assumption
           rw [hT]; unfold q75; rw [qt hy hb |>.symm]; rfl)
        | (refine vi ?_
           have hb : z0q v = true := by unfold z0q; simp_all [z1c, Vt.none]
           rw [hT]; unfold q75; rw [qt hv hb |>.symm, Bool.or_true]; rfl)
        | (have hb : z1u c y = false := by unfold z1u; rw [← w2]; assumption
           have hb2 : z0q v = false := by unfold z0q; simp_all [z1c, Vt.none]
           exact q9 rfl (hJk _ (k + 1) ⟨by omega, qg hy h0k hb, qg hv h1k hb2⟩ (by omega) ⟨⟨cwi (by omega) (by omega) (by omega), ⟨rfl, rfl, rfl⟩, rfl, trivial⟩, ⟨lcr, trivial⟩, rfl⟩))
        | skip
     · have hh : ¬ k < t.fr.length := by simpa using hh
       have ha := any_none (zk (by omega) h0k)
       have hb := any_none (l := t.olds) (zk (by omega) h1k)
       have hT2 : y5d c ts 0 t = scan (z0r t.fr) t.fr.length := by rw [hT]; unfold q75; rw [← ha, ← hb]; rfl
       clear hJk h0k h1k ha hb
       refine qc rfl (ι := Nat) (fun k => k ≤ t.fr.length ∧ ∀ j, j < k → z0r t.fr j = 0) (fun k => ⟨[(9, sV (.int .i64 k)), (7, .one (.a 7 0)), (0, .one (.b (.p c.cs)))], [(7, .var (t.cs.map .b))]⟩) (fun k => t.fr.length - k) 0 ⟨Nat.zero_le _, fun j hj => by omega⟩ ?_ ?_
       · exact ⟨⟨rfl, ⟨rfl, rfl, rfl⟩, rfl, trivial⟩, ⟨lcr, trivial⟩, rfl⟩
       · intro k ⟨hk, h0k⟩ Jk hJk
         refine xb rfl ?_ ?_ <;> intro hh
         · have hh : k < t.fr.length := by simpa using hh
           obtain ⟨y, hy⟩ := gx hh
           have hgy := gm (fun n => [i64 n]) hy
           refine qd rfl [] (.take 0 [] (.take 1 [3, 9] (Tk [2, 3, 4] (.take 5 (Rg 7 3) (Tk [6, 7] (.take 8 [9] (.alt 9 .done .nil))))))) (by kernel_rfl) (xs rfl (.inl rfl) (xs rfl (nn_ _) (xs rfl (nn_ _) (xs rfl (by simp; omega) (xs rfl (nn_ _) (y9 rfl _ hgy (xs rfl rfl (z7 rfl (y2v _ (t.fr.take k) y (z37 _ _) (by rw [List.length_take]; omega)) rfl tv3 ?_))))))))
           refine xb rfl ?_ ?_ <;> intro b0
           refine xv rfl rfl rfl ?_; rotate_left
           rotate_left
           · exact vi (by rw [hT2]; exact q8 hh h0k (by unfold z0r; rw [hy]; exact if_pos b0) (by decide))
           · exact q9 rfl (hJk _ (k + 1) ⟨by omega, qb h0k (by unfold z0r; rw [hy]; exact if_neg (by rw [b0]; decide))⟩ (by omega) ⟨⟨cwi (by omega) (by omega) (by omega), ⟨rfl, rfl, rfl⟩, rfl, trivial⟩, ⟨lcr, trivial⟩, rfl⟩)
         · have hh : ¬ k < t.fr.length := by simpa using hh
           have hz := zg (f := z0r t.fr) (n := t.fr.length) (fun j hj => h0k j (by omega))
           refine xv rfl rfl rfl ?_
           exact vi (by rw [hT2, hz])
 · obtain ⟨p, hp⟩ := gx (xs := ts) (i := i - 1) (by omega)
   have hgp := q19 Tr.cs hz (by omega) hp
   have hA : Go.Sx.ahead Tr.lt ts i t = Slt.lt ⟨p.c, p.s, 0, 0, 0, []⟩ ⟨t.c, t.s, 0, 0, 0, []⟩ := ya hz hp
   have hK := q9j (c := c) rfl rfl rfl hA hD
   refine xs rfl (nn_ _) (y9 rfl _ hg (xs rfl rfl (z7 rfl (qx _ (by assumption) _ _) rfl tv4 ?_)))
   refine xb rfl ?_ ?_ <;> intro b0
   refine xv rfl rfl rfl ?_; rotate_left
   refine z7 rfl (qi _ _ _) rfl tv4 ?_
   refine xb rfl ?_ ?_ <;> intro b1
   refine xj (k := 5) rfl ?_
   refine xv rfl rfl rfl ?_; rotate_left
   refine xj (k := 2) rfl (z7 rfl (qi _ _ _) rfl tv4 (xj (k := 2) rfl ?_))
   refine xb rfl ?_ ?_ <;> intro b2
   refine xv rfl rfl rfl ?_; rotate_left
   refine qd rfl [] (Tk (Rg 0 8) (.take 8 (Rg 15 1 ++ Rg 21 12) (Tk (Rg 9 5) (.take 14 (Rg 15 1 ++ Rg 21 12) (Tk [15, 16] (.take 17 (Rg 20 13) (.take 18 [] (.take 19 (Rg 20 13) (.take 20 [] (.alt 21 (Tk (Rg 22 4) (.take 26 [27, 31, 32] (Tk [27, 28] (.take 29 (Rg 30 3) (Tk [30, 31, 32] .done))))) .nil)))))))))) (by kernel_rfl) ?_
   refine xb rfl ?_ ?_ <;> intro b3
   refine xj (k := 3) rfl (xs rfl (q0m hz (by omega)) (y9 rfl _ hgp (xs rfl rfl (xj (k := 6) rfl (xs rfl (q0m hz (by omega)) (y9 rfl _ hgp (xs rfl rfl (xj (k := 9) rfl (z7 rfl (q3u ⟨p.c, p.s, 0, 0, 0, []⟩ ⟨t.c, t.s, 0, 0, 0, []⟩) rfl ⟨tv7, tv7, trivial⟩ ?_)))))))))
   refine xj (k := 2) rfl ?_
   refine xb rfl ?_ ?_ <;> intro b4
   refine xj (k := 8) rfl ?_
   refine xv rfl rfl rfl ?_; rotate_left
   refine xj (k := 7) rfl ?_
   refine xb rfl ?_ ?_ <;> intro b5
   refine xv rfl rfl rfl ?_; rotate_left
   rotate_left
   exact absurd b3 (by simp; omega)
   all_goals first | (refine vi ?_; rw [hK]; clear hg hgp hK hA; simp_all only [Bool.not_eq_true', Bool.not_eq_false', cond_true, cond_false]; done) | (exfalso; clear hK; simp at b3; omega) | skip
   have hT : y5d c ts i t = q75 c t := by rw [hK]; clear hg hgp hK hA; simp_all only [Bool.not_eq_true', Bool.not_eq_false', cond_true, cond_false]
   have hle : t.fr.length = t.olds.length := by have := hD.trans b5; simpa using this
   clear hK hD b0 b1 b2 b3 b4 b5 hA
   refine qc rfl (ι := Nat) (fun k => k ≤ t.fr.length ∧ (∀ j y, j < k → t.fr[j]? = some y → z1u c y = false) ∧ ∀ j y, j < k → t.olds[j]? = some y → z0q y = false) (fun k => ⟨[(8, sV (.int .i64 k)), (7, .one (.a 7 0)), (0, .one (.b (.p c.cs)))], [(7, .var (t.cs.map .b))]⟩) (fun k => t.fr.length - k) 0 ⟨Nat.zero_le _, fun j y hj => by omega, fun j y hj => by omega⟩ ?_ ?_
   · exact ⟨⟨rfl, ⟨rfl, rfl, rfl⟩, rfl, trivial⟩, ⟨⟨rfl, rfl, rfl, rfl, rfl, rfl, trivial⟩, trivial⟩, rfl⟩
   · intro k ⟨hk, h0k, h1k⟩ Jk hJk
     refine xb rfl ?_ ?_ <;> intro hh
     · have hh : k < t.fr.length := by simpa using hh
       obtain ⟨y, hy⟩ := gx hh
       obtain ⟨v, hv⟩ := gx (xs := t.olds) (i := k) (by omega)
       have hgy := gm (fun n => [i64 n]) hy
       have hgv := gm Vt.cs hv
       have hwq := y40 c y
       refine qd rfl [] (.take 0 [] (.take 1 (Rg 3 2 ++ Rg 11 20) (Tk [2, 3] (.take 4 (Rg 11 20) (Tk [5, 6, 7] (.take 8 (Rg 9 22) (Tk [9, 10] (.alt 11 (Tk [12, 13, 14] (.take 15 (Rg 17 2 ++ Rg 20 11) (Tk [16, 17] (.take 18 (Rg 20 11) (.alt 19 (Tk [20, 21, 22] (.take 23 (Rg 25 6) (Tk [24, 25] (.take 26 (Rg 27 4) (.alt 27 (Tk [28, 29, 30] .done) .nil))))) .nil))))) .nil)))))))) (by kernel_rfl) (xs rfl (nn_ _) (y9 rfl _ hgy (xs rfl rfl (z7 rfl (qi _ _ _) rfl tv4 ?_))))
       refine xb rfl ?_ ?_ <;> intro b0
       refine xj (k := 10) rfl ?_
       refine xv rfl rfl rfl ?_; rotate_left
       refine xj (k := 3) rfl (xs rfl (nn_ _) (y9 rfl _ hgv (xs rfl rfl (xj (k := 2) rfl (z7 rfl (q23) rfl trivial (xj (k := 2) rfl ?_))))))
       refine xb rfl ?_ ?_ <;> intro b1
       refine xj (k := 3) rfl (xs rfl (nn_ _) (y9 rfl _ hgv (xs rfl rfl (xj (k := 2) rfl (z7 rfl (y1w _) rfl ⟨tv3, trivial⟩ (xj (k := 4) rfl ?_))))))
       refine xb rfl ?_ ?_ <;> intro b2
       refine xv rfl rfl rfl ?_; rotate_left
       rotate_left
       refine xj (k := 10) rfl ?_; rotate_left
       all_goals first
        | (refine vi ?_
           have hb : z1u c y = true := by unfold z1u; rw [← w2]; assumption
           rw [hT]; unfold q75; rw [qt hy hb |>.symm]; rfl)
        | (refine vi ?_
           have hb : z0q v = true := by unfold z0q; simp_all [z1c, Vt.none]
           rw [hT]; unfold q75; rw [qt hv hb |>.symm, Bool.or_true]; rfl)
        | (have hb : z1u c y = false := by unfold z1u; rw [← w2]; assumption
           have hb2 : z0q v = false := by unfold z0q; simp_all [z1c, Vt.none]
           exact q9 rfl (hJk _ (k + 1) ⟨by omega, qg hy h0k hb, qg hv h1k hb2⟩ (by omega) ⟨⟨cwi (by omega) (by omega) (by omega), ⟨rfl, rfl, rfl⟩, rfl, trivial⟩, ⟨lcr, trivial⟩, rfl⟩))
        | skip
     · have hh : ¬ k < t.fr.length := by simpa using hh
       have ha := any_none (zk (by omega) h0k)
       have hb := any_none (l := t.olds) (zk (by omega) h1k)
       have hT2 : y5d c ts i t = scan (z0r t.fr) t.fr.length := by rw [hT]; unfold q75; rw [← ha, ← hb]; rfl
       clear hJk h0k h1k ha hb
       refine qc rfl (ι := Nat) (fun k => k ≤ t.fr.length ∧ ∀ j, j < k → z0r t.fr j = 0) (fun k => ⟨[(9, sV (.int .i64 k)), (7, .one (.a 7 0)), (0, .one (.b (.p c.cs)))], [(7, .var (t.cs.map .b))]⟩) (fun k => t.fr.length - k) 0 ⟨Nat.zero_le _, fun j hj => by omega⟩ ?_ ?_
       · exact ⟨⟨rfl, ⟨rfl, rfl, rfl⟩, rfl, trivial⟩, ⟨lcr, trivial⟩, rfl⟩
       · intro k ⟨hk, h0k⟩ Jk hJk
         refine xb rfl ?_ ?_ <;> intro hh
         · have hh : k < t.fr.length := by simpa using hh
           obtain ⟨y, hy⟩ := gx hh
           have hgy := gm (fun n => [i64 n]) hy
           refine qd rfl [] (.take 0 [] (.take 1 [3, 9] (Tk [2, 3, 4] (.take 5 (Rg 7 3) (Tk [6, 7] (.take 8 [9] (.alt 9 .done .nil))))))) (by kernel_rfl) (xs rfl (.inl rfl) (xs rfl (nn_ _) (xs rfl (nn_ _) (xs rfl (by simp; omega) (xs rfl (nn_ _) (y9 rfl _ hgy (xs rfl rfl (z7 rfl (y2v _ (t.fr.take k) y (z37 _ _) (by rw [List.length_take]; omega)) rfl tv3 ?_))))))))
           refine xb rfl ?_ ?_ <;> intro b0
           refine xv rfl rfl rfl ?_; rotate_left
           rotate_left
           · exact vi (by rw [hT2]; exact q8 hh h0k (by unfold z0r; rw [hy]; exact if_pos b0) (by decide))
           · exact q9 rfl (hJk _ (k + 1) ⟨by omega, qb h0k (by unfold z0r; rw [hy]; exact if_neg (by rw [b0]; decide))⟩ (by omega) ⟨⟨cwi (by omega) (by omega) (by omega), ⟨rfl, rfl, rfl⟩, rfl, trivial⟩, ⟨lcr, trivial⟩, rfl⟩)
         · have hh : ¬ k < t.fr.length := by simpa using hh
           have hz := zg (f := z0r t.fr) (n := t.fr.length) (fun j hj => h0k j (by omega))
           refine xv rfl rfl rfl ?_
           exact vi (by rw [hT2, hz])
theorem qbf {c : Clu} {l : Ldr} (hn : Go.Sx.within l.n 0 400 = true) (hm : ¬ (60 < l.tries.length ∨ 300 < l.known.length)) {v : Int} (hv : v = scan (q3j c l.tries) l.tries.length) (h : v ≠ 0) : z7u c l = v := by
 unfold z7u
 rw [hn, if_neg (by decide), if_neg hm, orr, ← hv, if_pos h]
theorem y5o {c : Clu} {l : Ldr} (hn : Go.Sx.within l.n 0 400 = true) (hm : ¬ (60 < l.tries.length ∨ 300 < l.known.length)) (h1 : scan (q3j c l.tries) l.tries.length = 0) {v : Int} (hv : v = scan (hdF c l.known) l.known.length) : z7u c l = v := by
 unfold z7u
 rw [hn, if_neg (by decide), if_neg hm, orr, h1, if_neg (by decide), orr, ← hv, orr]
 split
 · rfl
 · rename_i h; have h : v = 0 := by simpa using h
   exact h.symm
theorem q91 (c : Clu) (ho : y00 c) : PC Tryz.prog 101 [.one (.p c.cs)] (rI (scan (q2q c) c.ldrs.length)) := by
 refine PC.begin Tryz.func101 rfl (by kernel_rfl) ?_
 have hl := ho.2.2.2.1.1
 have w2 := wl1 Acc.cs ho.2.2.1.1
 refine qc rfl (ι := Nat) (fun i => i ≤ c.ldrs.length ∧ ∀ j, j < i → q2q c j = 0) (fun i => ⟨[(3, sV (.int .i64 i)), (0, .one (.b (.p c.cs)))], []⟩) (fun i => c.ldrs.length - i) 0 ⟨Nat.zero_le _, fun j hj => by omega⟩ ?_ ?_
 · exact ⟨⟨rfl, rfl, trivial⟩, trivial, rfl⟩
 · intro io ⟨hio, h0o⟩ Jo hJo
   refine xb rfl ?_ ?_ <;> intro hho
   · have hho : io < c.ldrs.length := by simpa using hho
     obtain ⟨l, hlx⟩ := gx hho
     have hgl := gm Ldr.cs hlx
     obtain ⟨l1, l2, l3⟩ := ho.2.2.2.1.2 l (List.mem_of_getElem? hlx)
     have hF : q2q c io = z7u c l := by unfold q2q; rw [hlx]
     refine xs rfl (nn_ _) (y9 rfl _ hgl (xs rfl rfl (z7 rfl (qi _ _ _) rfl tv4 ?_)))
     refine xb rfl ?_ ?_ <;> intro b0
     refine xv rfl rfl rfl ?_; rotate_left
     refine xb rfl ?_ ?_ <;> intro b1
     refine xj (k := 5) rfl ?_
     refine xv rfl rfl rfl ?_; rotate_left
     refine xj (k := 4) rfl ?_
     refine xb rfl ?_ ?_ <;> intro b2
     refine xv rfl rfl rfl ?_; rotate_left
     rotate_left
     all_goals first
      | (refine vi (q8 hho h0o ?_ (by decide)); clear hJo h0o hgl; rw [hF]; unfold z7u; simp_all; done)
      | (refine vi (q8 hho h0o ?_ (by decide)); clear hJo h0o hgl; rw [hF]; unfold z7u; simp_all; omega)
      | skip
     have hn : Go.Sx.within l.n 0 400 = true := by simpa using b0
     have hm : ¬ (60 < l.tries.length ∨ 300 < l.known.length) := by simp at b1 b2; omega
     clear b0 b1 b2
     refine qc rfl (ι := Nat) (fun i => i ≤ l.tries.length ∧ ∀ j, j < i → q3j c l.tries j = 0) (fun i => ⟨[(5, sV (.int .i64 i)), (4, .one (.a 4 0)), (3, sV (.int .i64 io)), (0, .one (.b (.p c.cs)))], [(4, .var (l.cs.map .b))]⟩) (fun i => l.tries.length - i) 0 ⟨Nat.zero_le _, fun j hj => by omega⟩ ?_ ?_
     · exact ⟨⟨rfl, ⟨rfl, rfl, rfl⟩, rfl, rfl, trivial⟩, ⟨⟨rfl, rfl, rfl, trivial⟩, trivial⟩, rfl⟩
     · intro i ⟨hi, h0⟩ J hJ
       refine xb rfl ?_ ?_ <;> intro h
       · have h : i < l.tries.length := by simpa using h
         obtain ⟨x, hx⟩ := gx h
         have hg := gm Tr.cs hx
         refine z7 rfl (za8 c ho l.tries i x l1 (l3 x (List.mem_of_getElem? hx)) hx) rfl tv4 ?_
         refine xb rfl ?_ ?_ <;> intro b0
         refine xv rfl rfl rfl ?_; rotate_left
         rotate_left
         all_goals (first | (have hsc := q8 (c := y5d c l.tries i x) h h0 (by clear hJ h0 hg; (first | (simp_all [q3j]; done) | (simp_all [q3j]; omega)); done) (by clear hJ h0; simp_all); exact vi (q8 hho h0o (hF.trans (qbf hn hm hsc (by simpa using b0))) (by simpa using b0)); done) | (refine vi (q8 h h0 ?_ (by first | decide | decide | simp_all)); clear hJ h0 hg; (first | (simp_all [q3j]; done) | (simp_all [q3j]; omega)); done) | (refine q9 rfl (hJ _ (i + 1) ⟨by omega, qb h0 ?_⟩ (by omega) ⟨⟨cwi (by omega) (by omega) (by omega), ⟨rfl, rfl, rfl⟩, rfl, rfl, trivial⟩, ⟨⟨rfl, rfl, rfl, trivial⟩, trivial⟩, rfl⟩); clear hJ h0 hg; (first | (simp_all [q3j]; done) | (simp_all [q3j]; omega)); done) | skip)
       · have h : ¬ i < l.tries.length := by simpa using h
         have hz := zg (f := q3j c l.tries) (n := l.tries.length) (fun j hj => h0 j (by omega))
         clear hJ
         have hz1 := hz
         clear hz h h0
         refine qc rfl (ι := Nat) (fun i => i ≤ l.known.length ∧ ∀ j, j < i → hdF c l.known j = 0) (fun i => ⟨[(7, sV (.int .i64 i)), (4, .one (.a 4 0)), (3, sV (.int .i64 io)), (0, .one (.b (.p c.cs)))], [(4, .var (l.cs.map .b))]⟩) (fun i => l.known.length - i) 0 ⟨Nat.zero_le _, fun j hj => by omega⟩ ?_ ?_
         · exact ⟨⟨rfl, ⟨rfl, rfl, rfl⟩, rfl, rfl, trivial⟩, ⟨⟨rfl, rfl, rfl, trivial⟩, trivial⟩, rfl⟩
         · intro i ⟨hi, h0⟩ J hJ
           refine xb rfl ?_ ?_ <;> intro h
           · have h : i < l.known.length := by simpa using h
             obtain ⟨x, hx⟩ := gx h
             have hg := gm Hd.cs hx
             rcases Nat.eq_zero_or_pos i with hz | hz
             · subst hz
               refine xs rfl (nn_ _) (y9 rfl _ hg (xs rfl rfl (z7 rfl (qx _ (by assumption) _ _) rfl tv4 ?_)))
               refine xb rfl ?_ ?_ <;> intro b0
               refine xv rfl rfl rfl ?_; rotate_left
               refine qd rfl [] (.take 0 [] (.take 1 (Rg 2 20) (.alt 2 (Tk [3, 4, 5] (.take 6 (Rg 7 15) (.alt 7 (Tk (Rg 8 4) (.take 12 (Rg 19 3) (Tk [13, 14, 15] (.take 16 (Rg 17 5) (Tk [17, 18] (.alt 19 (Tk [20, 21] .done) .nil)))))) .nil))) .nil))) (by kernel_rfl) (z7 rfl (z01 _) rfl ⟨trivial, trivial⟩ ?_)
               refine xb rfl ?_ ?_ <;> intro b1
               refine xj (k := 16) rfl ?_
               refine xv rfl rfl rfl ?_; rotate_left
               refine xj (k := 2) rfl (z7 rfl (y0a _) rfl ⟨trivial, trivial⟩ (xj (k := 2) rfl ?_))
               refine xb rfl ?_ ?_ <;> intro b2
               refine xj (k := 11) rfl ?_
               refine xv rfl rfl rfl ?_; rotate_left
               refine xj (k := 8) rfl (z7 rfl (qi _ _ _) rfl tv4 (xj (k := 2) rfl ?_))
               refine xb rfl ?_ ?_ <;> intro b3
               refine xv rfl rfl rfl ?_; rotate_left
               refine qd rfl [] (Tk (Rg 0 4) (.take 4 [7, 8, 10, 11, 12] (Tk [5, 6, 7] (.take 8 (Rg 10 3) (.take 9 (Rg 10 3) (.alt 10 (Tk [11, 12] .done) .nil)))))) (by kernel_rfl) ?_
               refine xj (k := 11) rfl ?_; rotate_left
               all_goals (first | (have hsc := q8 (c := 4) h h0 (by clear hJ h0 hg; (first | (simp_all [hdF, ahead_zero]; done) | (simp_all [hdF, ahead_zero]; omega)); done) (by decide); exact vi (q8 hho h0o (hF.trans (y5o hn hm hz1 hsc)) (by decide)); done) | (have hsc := q8 (c := 3) h h0 (by clear hJ h0 hg; (first | (simp_all [hdF, ahead_zero]; done) | (simp_all [hdF, ahead_zero]; omega)); done) (by decide); exact vi (q8 hho h0o (hF.trans (y5o hn hm hz1 hsc)) (by decide)); done) | (have hsc := q8 (c := 1) h h0 (by clear hJ h0 hg; (first | (simp_all [hdF, ahead_zero]; done) | (simp_all [hdF, ahead_zero]; omega)); done) (by decide); exact vi (q8 hho h0o (hF.trans (y5o hn hm hz1 hsc)) (by decide)); done) | (refine vi (q8 h h0 ?_ (by first | decide | decide | simp_all)); clear hJ h0 hg; (first | (simp_all [hdF, ahead_zero]; done) | (simp_all [hdF, ahead_zero]; omega)); done) | (refine q9 rfl (hJ _ 1 ⟨by omega, qb h0 ?_⟩ (by omega) ⟨⟨cwi (by omega) (by omega) (by omega), ⟨rfl, rfl, rfl⟩, rfl, rfl, trivial⟩, ⟨⟨rfl, rfl, rfl, trivial⟩, trivial⟩, rfl⟩); clear hJ h0 hg; (first | (simp_all [hdF, ahead_zero]; done) | (simp_all [hdF, ahead_zero]; omega)); done) | skip)
             · obtain ⟨p, hp⟩ := gx (xs := l.known) (i := i - 1) (by omega)
               have hgp := q19 Hd.cs hz (by omega) hp
               refine xs rfl (nn_ _) (y9 rfl _ hg (xs rfl rfl (z7 rfl (qx _ (by assumption) _ _) rfl tv4 ?_)))
               refine xb rfl ?_ ?_ <;> intro b0
               refine xv rfl rfl rfl ?_; rotate_left
               refine qd rfl [] (.take 0 [] (.take 1 (Rg 2 20) (.alt 2 (Tk [3, 4, 5] (.take 6 (Rg 7 15) (.alt 7 (Tk (Rg 8 4) (.take 12 (Rg 19 3) (Tk [13, 14, 15] (.take 16 (Rg 17 5) (Tk [17, 18] (.alt 19 (Tk [20, 21] .done) .nil)))))) .nil))) .nil))) (by kernel_rfl) (z7 rfl (z01 _) rfl ⟨trivial, trivial⟩ ?_)
               refine xb rfl ?_ ?_ <;> intro b1
               refine xj (k := 16) rfl ?_
               refine xv rfl rfl rfl ?_; rotate_left
               refine xj (k := 2) rfl (z7 rfl (y0a _) rfl ⟨trivial, trivial⟩ (xj (k := 2) rfl ?_))
               refine xb rfl ?_ ?_ <;> intro b2
               refine xj (k := 11) rfl ?_
               refine xv rfl rfl rfl ?_; rotate_left
               refine xj (k := 8) rfl (z7 rfl (qi _ _ _) rfl tv4 (xj (k := 2) rfl ?_))
               refine xb rfl ?_ ?_ <;> intro b3
               refine xv rfl rfl rfl ?_; rotate_left
               refine qd rfl [] (Tk (Rg 0 4) (.take 4 [7, 8, 10, 11, 12] (Tk [5, 6, 7] (.take 8 (Rg 10 3) (.take 9 (Rg 10 3) (.alt 10 (Tk [11, 12] .done) .nil)))))) (by kernel_rfl) ?_
               refine xb rfl ?_ ?_ <;> intro b4
               refine xj (k := 4) rfl (xs rfl (q0m hz (by omega)) (y9 rfl _ hgp (xs rfl rfl (xj (k := 3) rfl (z7 rfl (y50 _ _) rfl ⟨tv6, tv6, trivial⟩ (xj (k := 2) rfl ?_))))))
               refine xb rfl ?_ ?_ <;> intro b5
               refine xv rfl rfl rfl ?_; rotate_left
               rotate_left
               refine xj (k := 10) rfl ?_; rotate_left
               all_goals (first | (have hsc := q8 (c := 4) h h0 (by clear hJ h0 hg hgp; (first | (simp_all [hdF, ya hz hp]; done) | (simp_all [hdF, ya hz hp]; omega)); done) (by decide); exact vi (q8 hho h0o (hF.trans (y5o hn hm hz1 hsc)) (by decide)); done) | (have hsc := q8 (c := 3) h h0 (by clear hJ h0 hg hgp; (first | (simp_all [hdF, ya hz hp]; done) | (simp_all [hdF, ya hz hp]; omega)); done) (by decide); exact vi (q8 hho h0o (hF.trans (y5o hn hm hz1 hsc)) (by decide)); done) | (have hsc := q8 (c := 1) h h0 (by clear hJ h0 hg hgp; (first | (simp_all [hdF, ya hz hp]; done) | (simp_all [hdF, ya hz hp]; omega)); done) (by decide); exact vi (q8 hho h0o (hF.trans (y5o hn hm hz1 hsc)) (by decide)); done) | (refine vi (q8 h h0 ?_ (by first | decide | decide | simp_all)); clear hJ h0 hg hgp; (first | (simp_all [hdF, ya hz hp]; done) | (simp_all [hdF, ya hz hp]; omega)); done) | (refine q9 rfl (hJ _ (i + 1) ⟨by omega, qb h0 ?_⟩ (by omega) ⟨⟨cwi (by omega) (by omega) (by omega), ⟨rfl, rfl, rfl⟩, rfl, rfl, trivial⟩, ⟨⟨rfl, rfl, rfl, trivial⟩, trivial⟩, rfl⟩); clear hJ h0 hg hgp; (first | (simp_all [hdF, ya hz hp]; done) | (simp_all [hdF, ya hz hp]; omega)); done) | skip)
           · have h : ¬ i < l.known.length := by simpa using h
             have hz := zg (f := hdF c l.known) (n := l.known.length) (fun j hj => h0 j (by omega))
             clear hJ
             skip
             exact q9 rfl (hJo _ (io + 1) ⟨by omega, qb h0o (hF.trans (y5o hn hm hz1 hz.symm))⟩ (by omega) ⟨⟨cwi (by omega) (by omega) (by omega), rfl, trivial⟩, trivial, rfl⟩)
   · have hho : ¬ io < c.ldrs.length := by simpa using hho
     have hz := zg (f := q2q c) (n := c.ldrs.length) (fun j hj => h0o j (by omega))
     refine xv rfl rfl rfl ?_
     exact vi (hz.symm)
theorem ybu {a b c d e : Int} : orr [a, b, c, d, e] = if a ≠ 0 then a else if b ≠ 0 then b else if c ≠ 0 then c else if d ≠ 0 then d else e := by
 unfold orr orr orr orr orr orr
 repeat' split
 all_goals first | rfl | omega
theorem y0c {c : Clu} : z0o c = true ↔ (20 < c.cons.length ∨ ¬ (1 ≤ c.shs.length ∧ c.shs.length ≤ 3) ∨ ¬ (1 ≤ c.accs.length ∧ c.accs.length ≤ 5) ∨ c.ldrs.length ≠ 2 ∨ 200 < c.msgs.length) := by
 unfold z0o Go.Sx.within
 simp
 omega
theorem y9c {c : Clu} (h : z0o c = true) : qq c = 2 := by unfold qq; rw [if_pos h]
theorem z8m {c : Clu} (h : ¬ z0o c = true) : qq c = if scan (q0c c) c.cons.length ≠ 0 then scan (q0c c) c.cons.length else if scan (q2g c) c.shs.length ≠ 0 then scan (q2g c) c.shs.length else if scan (y2p c) c.accs.length ≠ 0 then scan (y2p c) c.accs.length else if scan (q2q c) c.ldrs.length ≠ 0 then scan (q2q c) c.ldrs.length else scan (z4g c) c.msgs.length := by
 unfold qq; rw [if_neg h, ybu]
theorem qbc (c : Clu) (us : List Acc) (F : Acc → Int) (G : Nat → Int) (fn : Nat) (hG : ∀ i x, us[i]? = some x → G i = F x) (hf : ∀ x ∈ us, PC Tryz.prog fn [.one (.p c.cs), .agg x.cs] (rI (F x))) (hl : us.length ≤ 1048576) : PC Tryz.prog 118 [.one (.l (us.map Acc.cs)), .one (.m fn false [.p c.cs])] (rI (scan G us.length)) := by
 refine PC.begin Tryz.func118 rfl (by kernel_rfl) ?_
 have hn : (us.map Acc.cs).length = us.length := by simp
 refine qc rfl (ι := Nat) (fun i => i ≤ us.length ∧ ∀ j, j < i → G j = 0) (fun i => ⟨[(10, sV (.int .i64 i)), (9, sV (.int .i64 (us.map Acc.cs).length)), (8, .one (.b (.l (us.map Acc.cs)))), (1, .one (.b (.m fn false [.p c.cs])))], []⟩) (fun i => us.length - i) 0 ⟨Nat.zero_le _, fun j hj => by omega⟩ ?_ ?_
 · exact ⟨⟨rfl, rfl, rfl, rfl, trivial⟩, trivial, rfl⟩
 · intro i ⟨hi, h0⟩ J hJ
   refine xb rfl ?_ ?_ <;> intro h
   · have h : i < us.length := by simpa using h
     obtain ⟨x, hx⟩ := gx h
     have hg := gm Acc.cs hx
     have hxm := List.mem_of_getElem? hx
     have hGx := hG i x hx
     refine xs rfl (nn_ _) (y9 rfl _ hg (xs rfl rfl (z7 rfl (hf _ hxm) rfl ⟨trivial, ⟨trivial, trivial⟩, trivial⟩ ?_)))
     refine xb rfl ?_ ?_ <;> intro b0
     refine xv rfl rfl rfl ?_; rotate_left
     rotate_left
     · exact vi (q8 h h0 hGx (by simpa using b0))
     · exact q9 rfl (hJ _ (i + 1) ⟨by omega, qb h0 (hGx.trans (by simpa using b0))⟩ (by omega) ⟨⟨cwi (by omega) (by omega) (by omega), rfl, rfl, rfl, trivial⟩, trivial, rfl⟩)
   · have h : ¬ i < us.length := by simpa using h
     have hz := zg (f := G) (n := us.length) (fun j hj => h0 j (by omega))
     refine xv rfl rfl rfl ?_
     exact vi (hz.symm)
theorem zbd (c : Clu) (us : List Ldr) (F : Ldr → Int) (G : Nat → Int) (fn : Nat) (hG : ∀ i x, us[i]? = some x → G i = F x) (hf : ∀ x ∈ us, PC Tryz.prog fn [.one (.p c.cs), .agg x.cs] (rI (F x))) (hl : us.length ≤ 1048576) : PC Tryz.prog 120 [.one (.l (us.map Ldr.cs)), .one (.m fn false [.p c.cs])] (rI (scan G us.length)) := by
 refine PC.begin Tryz.func120 rfl (by kernel_rfl) ?_
 have hn : (us.map Ldr.cs).length = us.length := by simp
 refine qc rfl (ι := Nat) (fun i => i ≤ us.length ∧ ∀ j, j < i → G j = 0) (fun i => ⟨[(10, sV (.int .i64 i)), (9, sV (.int .i64 (us.map Ldr.cs).length)), (8, .one (.b (.l (us.map Ldr.cs)))), (1, .one (.b (.m fn false [.p c.cs])))], []⟩) (fun i => us.length - i) 0 ⟨Nat.zero_le _, fun j hj => by omega⟩ ?_ ?_
 · exact ⟨⟨rfl, rfl, rfl, rfl, trivial⟩, trivial, rfl⟩
 · intro i ⟨hi, h0⟩ J hJ
   refine xb rfl ?_ ?_ <;> intro h
   · have h : i < us.length := by simpa using h
     obtain ⟨x, hx⟩ := gx h
     have hg := gm Ldr.cs hx
     have hxm := List.mem_of_getElem? hx
     have hGx := hG i x hx
     refine xs rfl (nn_ _) (y9 rfl _ hg (xs rfl rfl (z7 rfl (hf _ hxm) rfl ⟨trivial, tv4, trivial⟩ ?_)))
     refine xb rfl ?_ ?_ <;> intro b0
     refine xv rfl rfl rfl ?_; rotate_left
     rotate_left
     · exact vi (q8 h h0 hGx (by simpa using b0))
     · exact q9 rfl (hJ _ (i + 1) ⟨by omega, qb h0 (hGx.trans (by simpa using b0))⟩ (by omega) ⟨⟨cwi (by omega) (by omega) (by omega), rfl, rfl, rfl, trivial⟩, trivial, rfl⟩)
   · have h : ¬ i < us.length := by simpa using h
     have hz := zg (f := G) (n := us.length) (fun j hj => h0 j (by omega))
     refine xv rfl rfl rfl ?_
     exact vi (hz.symm)
theorem ybd (c : Clu) (us : List Msg) (F : Msg → Int) (G : Nat → Int) (fn : Nat) (hG : ∀ i x, us[i]? = some x → G i = F x) (hf : ∀ x ∈ us, PC Tryz.prog fn [.agg x.cs, .one (.p c.cs)] (rI (F x))) (hl : us.length ≤ 1048576) : PC Tryz.prog 122 [.one (.l (us.map Msg.cs)), .one (.f fn [.p c.cs])] (rI (scan G us.length)) := by
 refine PC.begin Tryz.func122 rfl (by kernel_rfl) ?_
 have hn : (us.map Msg.cs).length = us.length := by simp
 refine qc rfl (ι := Nat) (fun i => i ≤ us.length ∧ ∀ j, j < i → G j = 0) (fun i => ⟨[(10, sV (.int .i64 i)), (9, sV (.int .i64 (us.map Msg.cs).length)), (8, .one (.b (.l (us.map Msg.cs)))), (1, .one (.b (.f fn [.p c.cs])))], []⟩) (fun i => us.length - i) 0 ⟨Nat.zero_le _, fun j hj => by omega⟩ ?_ ?_
 · exact ⟨⟨rfl, rfl, rfl, rfl, trivial⟩, trivial, rfl⟩
 · intro i ⟨hi, h0⟩ J hJ
   refine xb rfl ?_ ?_ <;> intro h
   · have h : i < us.length := by simpa using h
     obtain ⟨x, hx⟩ := gx h
     have hg := gm Msg.cs hx
     have hxm := List.mem_of_getElem? hx
     have hGx := hG i x hx
     refine xs rfl (nn_ _) (y9 rfl _ hg (xs rfl rfl (z7 rfl (hf _ hxm) rfl ⟨tv10, trivial, trivial⟩ ?_)))
     refine xb rfl ?_ ?_ <;> intro b0
     refine xv rfl rfl rfl ?_; rotate_left
     rotate_left
     · exact vi (q8 h h0 hGx (by simpa using b0))
     · exact q9 rfl (hJ _ (i + 1) ⟨by omega, qb h0 (hGx.trans (by simpa using b0))⟩ (by omega) ⟨⟨cwi (by omega) (by omega) (by omega), rfl, rfl, rfl, trivial⟩, trivial, rfl⟩)
   · have h : ¬ i < us.length := by simpa using h
     have hz := zg (f := G) (n := us.length) (fun j hj => h0 j (by omega))
     refine xv rfl rfl rfl ?_
     exact vi (hz.symm)
theorem za4 (c : Clu) (ho : y00 c) (m : Msg) : PC Tryz.prog 123 [.agg m.cs, .one (.p c.cs)] (rI (z0h c m)) := by
 refine PC.begin Tryz.func123 rfl (by kernel_rfl) ?_
 refine z7 rfl (y9w c ho m) rfl ⟨tv6, tv10, trivial⟩ ?_
 refine xr rfl (qm rfl ⟨⟨rfl, rfl, trivial⟩, z6 rfl⟩)
theorem z7p (c : Clu) (ho : y00 c) : PC Tryz.prog 50 [.agg c.cs] (rI (qq c)) := by
 refine PC.begin Tryz.func50 rfl (by kernel_rfl) ?_
 have hl := ho.2.1.1
 have hA := qbc c c.accs (z9m c) (y2p c) 119 (fun i x h => by unfold y2p; rw [h]) (fun a ha => q8q c ho a (ho.2.2.1.2 a ha)) ho.2.2.1.1
 have hL := zbd c c.ldrs (z7u c) (q2q c) 121 (fun i x h => by unfold q2q; rw [h]) (fun l hl => z9w c ho l (ho.2.2.2.1.2 l hl)) ho.2.2.2.1.1
 have hM := ybd c c.msgs (z0h c) (z4g c) 123 (fun i x h => by unfold z4g; rw [h]) (fun m _ => za4 c ho m) ho.2.2.2.2
 refine xb rfl ?_ ?_ <;> intro b0
 refine xj (k := 22) rfl ?_
 refine xv rfl rfl rfl ?_; rotate_left
 refine xj (k := 2) rfl (z7 rfl (q2o _) rfl ⟨trivial, trivial⟩ (xj (k := 1) rfl (z7 rfl (zn _ _ _) rfl tv4 (xj (k := 2) rfl ?_))))
 refine xb rfl ?_ ?_ <;> intro b1
 refine xj (k := 16) rfl ?_
 refine xv rfl rfl rfl ?_; rotate_left
 refine xj (k := 2) rfl (z7 rfl (z1j _) rfl ⟨trivial, trivial⟩ (xj (k := 1) rfl (z7 rfl (zn _ _ _) rfl tv4 (xj (k := 2) rfl ?_))))
 refine xb rfl ?_ ?_ <;> intro b2
 refine xj (k := 10) rfl ?_
 refine xv rfl rfl rfl ?_; rotate_left
 refine xj (k := 4) rfl ?_
 refine xb rfl ?_ ?_ <;> intro b3
 refine xj (k := 5) rfl ?_
 refine xv rfl rfl rfl ?_; rotate_left
 refine xj (k := 4) rfl ?_
 refine xb rfl ?_ ?_ <;> intro b4
 refine xv rfl rfl rfl ?_; rotate_left
 refine z7 rfl (y8r c ho) rfl ⟨tv6, trivial⟩ ?_
 refine xb rfl ?_ ?_ <;> intro b5
 refine xv rfl rfl rfl ?_; rotate_left
 rotate_left
 all_goals first
  | (refine vi (y9c (y0c.2 ?_)).symm; clear hA hL hM ho; (simp only [List.length_map, Go.Sx.within, gt_iff_lt, ge_iff_le] at *; simp at *; omega); done)
  | skip
 · refine vi ?_
   have hm : ¬ z0o c = true := fun h => by rw [y0c] at h; clear hA hL hM ho; (simp only [List.length_map, Go.Sx.within, gt_iff_lt, ge_iff_le] at *; simp at *; omega)
   rw [z8m hm, if_pos (by simpa using b5)]
 · have hm : ¬ z0o c = true := fun h => by rw [y0c] at h; clear hA hL hM ho; (simp only [List.length_map, Go.Sx.within, gt_iff_lt, ge_iff_le] at *; simp at *; omega)
   have h1 : scan (q0c c) c.cons.length = 0 := by simpa using b5
   rw [z8m hm, if_neg (by simpa using h1)]
   clear b0 b1 b2 b3 b4 b5 h1 hm
   refine qc rfl (ι := Nat) (fun i => i ≤ c.shs.length ∧ ∀ j, j < i → q2g c j = 0) (fun i => ⟨[(44, sV (.int .i64 i)), (43, sV (.int .i64 (c.shs.map Shd.cs).length)), (1, .one (.a 1 0))], [(1, .var (c.cs.map .b))]⟩) (fun i => c.shs.length - i) 0 ⟨Nat.zero_le _, fun j hj => by omega⟩ ?_ ?_
   · exact ⟨⟨rfl, rfl, ⟨rfl, rfl, rfl⟩, trivial⟩, ⟨lcr, trivial⟩, rfl⟩
   · intro i ⟨hi, h0⟩ J hJ
     refine xb rfl ?_ ?_ <;> intro h
     · have h : i < c.shs.length := by simpa using h
       obtain ⟨s, hx⟩ := gx h
       have hF : q2g c i = z9j c i s := by unfold q2g; rw [hx]
       refine z7 rfl (z8s c ho i s hx) rfl ⟨tv6, trivial, trivial⟩ ?_
       refine xb rfl ?_ ?_ <;> intro b0
       refine xv rfl rfl rfl ?_; rotate_left
       rotate_left
       · have hsc := q8 h h0 hF (by simpa using b0)
         refine vi ?_
         rw [if_pos (by rw [← hsc]; simpa using b0), ← hsc]
       · exact q9 rfl (hJ _ (i + 1) ⟨by omega, qb h0 (hF.trans (by simpa using b0))⟩ (by omega) ⟨⟨cwi (by omega) (by omega) (by omega), rfl, ⟨rfl, rfl, rfl⟩, trivial⟩, ⟨lcr, trivial⟩, rfl⟩)
     · have h : ¬ i < c.shs.length := by simpa using h
       have hz := zg (f := q2g c) (n := c.shs.length) (fun j hj => h0 j (by omega))
       rw [if_neg (by simpa using hz)]
       clear hJ h0
       refine qd rfl [] (.take 0 [] (.take 1 [3, 7, 8, 9, 10] (Tk [2, 4] (.take 5 (Rg 7 4) (.take 6 [] (.alt 3 (.alt 7 (.alt 8 (.alt 9 (.take 10 [] .done) .nil) .nil) .nil) .nil)))))) (by kernel_rfl) (z7 rfl (hA) rfl ⟨trivial, tv6, trivial⟩ (z7 rfl (hL) rfl ⟨trivial, tv6, trivial⟩ (xs rfl tv3 (z7 rfl (q2b [_, _] (by simp)) rfl ⟨rfl, trivial⟩ ?_))))
       refine xb rfl ?_ ?_ <;> intro b0
       refine xv rfl rfl rfl ?_; rotate_left
       refine z7 rfl (hM) rfl ⟨trivial, (List.forall_mem_cons.2 ⟨tv6, (fun _ h => nomatch h)⟩), trivial⟩ ?_
       refine xv rfl rfl rfl ?_; rotate_left
       all_goals (refine vi ?_; clear hA hL hM ho; unfold orr orr orr at *; by_cases h1 : scan (y2p c) c.accs.length = 0 <;> by_cases h2 : scan (q2q c) c.ldrs.length = 0 <;> simp_all <;> done)
theorem q5v (c : Clu) (ho : y00 c) : PC Tryz.prog 38 [.agg c.cs] (rI (qq c)) := by
 refine PC.begin Tryz.func38 rfl (by kernel_rfl) ?_
 have hl := ho.2.2.2.2
 refine xb rfl ?_ ?_ <;> intro b0
 refine xj (k := 30) rfl ?_
 refine xv rfl rfl rfl ?_; rotate_left
 refine xj (k := 4) rfl ?_
 refine xb rfl ?_ ?_ <;> intro b1
 refine xj (k := 25) rfl ?_
 refine xv rfl rfl rfl ?_; rotate_left
 refine xj (k := 4) rfl ?_
 refine xb rfl ?_ ?_ <;> intro b2
 refine xj (k := 20) rfl ?_
 refine xv rfl rfl rfl ?_; rotate_left
 refine xj (k := 4) rfl ?_
 refine xb rfl ?_ ?_ <;> intro b3
 refine xj (k := 15) rfl ?_
 refine xv rfl rfl rfl ?_; rotate_left
 refine xj (k := 4) rfl ?_
 refine xb rfl ?_ ?_ <;> intro b4
 refine xj (k := 10) rfl ?_
 refine xv rfl rfl rfl ?_; rotate_left
 refine xj (k := 4) rfl ?_
 refine xb rfl ?_ ?_ <;> intro b5
 refine xj (k := 5) rfl ?_
 refine xv rfl rfl rfl ?_; rotate_left
 refine xj (k := 4) rfl ?_
 refine xb rfl ?_ ?_ <;> intro b6
 refine xv rfl rfl rfl ?_; rotate_left
 refine z7 rfl (q90 c ho) rfl ⟨tv6, trivial⟩ ?_
 refine xb rfl ?_ ?_ <;> intro b7
 refine xv rfl rfl rfl ?_; rotate_left
 refine z7 rfl (z92 c ho) rfl ⟨tv6, trivial⟩ ?_
 refine xb rfl ?_ ?_ <;> intro b8
 refine xv rfl rfl rfl ?_; rotate_left
 refine z7 rfl (z90 c ho) rfl ⟨tv6, trivial⟩ ?_
 refine xb rfl ?_ ?_ <;> intro b9
 refine xv rfl rfl rfl ?_; rotate_left
 refine z7 rfl (q91 c ho) rfl ⟨tv6, trivial⟩ ?_
 refine xb rfl ?_ ?_ <;> intro b10
 refine xv rfl rfl rfl ?_; rotate_left
 rotate_left
 all_goals first
  | (refine vi (y9c (y0c.2 ?_)).symm; clear ho; (simp only [List.length_map, Go.Sx.within, gt_iff_lt, ge_iff_le] at *; simp at *; omega); done)
  | (refine vi ?_
     have hm : ¬ z0o c = true := fun h => by rw [y0c] at h; clear ho; (simp only [List.length_map, Go.Sx.within, gt_iff_lt, ge_iff_le] at *; simp at *; omega)
     rw [z8m hm]
     clear hm ho
     simp_all
     done)
  | skip
 have hm : ¬ z0o c = true := fun h => by rw [y0c] at h; clear ho; (simp only [List.length_map, Go.Sx.within, gt_iff_lt, ge_iff_le] at *; simp at *; omega)
 rw [z8m hm, if_neg (by simp_all), if_neg (by simp_all), if_neg (by simp_all), if_neg (by simp_all)]
 refine qc rfl (ι := Nat) (fun i => i ≤ c.msgs.length ∧ ∀ j, j < i → z4g c j = 0) (fun i => ⟨[(7, sV (.int .i64 i)), (1, .one (.a 1 0))], [(1, .var (c.cs.map .b))]⟩) (fun i => c.msgs.length - i) 0 ⟨Nat.zero_le _, fun j hj => by omega⟩ ?_ ?_
 · exact ⟨⟨rfl, ⟨rfl, rfl, rfl⟩, trivial⟩, ⟨lcr, trivial⟩, rfl⟩
 · intro i ⟨hi, h0⟩ J hJ
   refine xb rfl ?_ ?_ <;> intro h
   · have h : i < c.msgs.length := by simpa using h
     obtain ⟨m, hx⟩ := gx h
     have hg := gm Msg.cs hx
     have hF : z4g c i = z0h c m := by unfold z4g; rw [hx]
     refine xs rfl (nn_ _) (y9 rfl _ hg (xs rfl rfl (z7 rfl (qa7 c ho m) rfl ⟨tv6, tv10, trivial⟩ ?_)))
     refine xb rfl ?_ ?_ <;> intro b0
     refine xv rfl rfl rfl ?_; rotate_left
     rotate_left
     · exact vi (q8 h h0 hF (by simpa using b0))
     · exact q9 rfl (hJ _ (i + 1) ⟨by omega, qb h0 (hF.trans (by simpa using b0))⟩ (by omega) ⟨⟨cwi (by omega) (by omega) (by omega), ⟨rfl, rfl, rfl⟩, trivial⟩, ⟨lcr, trivial⟩, rfl⟩)
   · have h : ¬ i < c.msgs.length := by simpa using h
     have hz := zg (f := z4g c) (n := c.msgs.length) (fun j hj => h0 j (by omega))
     refine xv rfl rfl rfl ?_
     exact vi (hz.symm)
end Go.Proofs.YtbnbjaedijbnpaaGreat
end
section
namespace Go.Proofs.YtbnbjaedijbnpaaGreat
open Go Go.Sx
set_option maxRecDepth 20000
set_option maxHeartbeats 4000000
open Go.Proofs Go.Shelf Go.RowKit Go.Lib Go.Sort
abbrev vid : Value → Value := fun v => v
theorem q9f {w : World} {base : Nat} {e : TypeId} {g n cap sz : Nat} {xs : List Value} (h : w.ownsRow base e sz (.slice (some ⟨g, 0, none⟩) n cap) n xs) : Holds vid w g 0 xs.toArray ∧ n ≤ cap ∧ cap ≤ maxLen ∧ g < w.heap.size := by
 rcases h.2 with ⟨e0, _⟩ | ⟨g', cap', cur, e0, hb, hg, hn, hm, hs, ht⟩
 · cases e0
 · injection e0 with e1 _ e3
   injection e1 with e1
   injection e1 with e1
   subst e1; subst e3
   have hl := h.1
   refine ⟨fun j hj => ⟨?_, by simp [World.frozen?, hg]⟩, hn, hm, ?_⟩
   · have hj' : j < xs.length := by simpa using hj
     have h1 : xs[j]? = cur[j]? := by rw [← ht, List.getElem?_take, if_pos (by omega), Array.getElem?_toList]
     have hcj : j < cur.size := by
      have : n * sz ≤ cap * sz := Nat.mul_le_mul_right _ hn
      omega
     simp only [World.cell?, hg, Nat.zero_add]
     rw [List.getElem?_eq_getElem hj', Array.getElem?_eq_getElem hcj] at h1
     simp only [Option.some.injEq] at h1
     simp [hj', hcj, ← h1, getElem!_pos]
   · rcases Nat.lt_or_ge g w.heap.size with h' | h'
     · exact h'
     · rw [Array.getElem?_eq_none h'] at hg; cases hg
theorem z55 {w : World} {base : Nat} {e : TypeId} {g n cap q k sz : Nat} {xs ys : List Value} (h : w.ownsRow base e sz (.slice (some ⟨g, 0, none⟩) n cap) n xs) (hy : ys.length = n * sz) (hk : k ≤ n) :
 (putRow vid (Sort.ahead w q) g 0 ys.toArray).ownsRow base e sz (.slice (some ⟨g, 0, none⟩) k cap) k (ys.take (k * sz)) := by
 rcases h.2 with ⟨e0, _⟩ | ⟨g', cap', cur, e0, hb, hg, hn, hm, hs, ht⟩
 · cases e0
 · injection e0 with e1 _ e3
   injection e1 with e1
   injection e1 with e1
   subst e1; subst e3
   have hkn : k * sz ≤ n * sz := Nat.mul_le_mul_right _ hk
   have hnc : n * sz ≤ cap * sz := Nat.mul_le_mul_right _ hn
   refine ⟨by simp; omega, .inr ⟨g, cap, Go.Sort.putCells vid 0 ys.toArray cur, rfl, hb, ?_, by omega, hm, by simpa [Go.Sort.putCells] using hs, ?_⟩⟩
   · simp [Go.Sort.putRow, Go.Sort.mapBlock, Go.Sort.ahead, Array.getElem?_modify, hg, Go.Sort.onCells]
   · apply List.ext_getElem?
     intro j
     rw [List.getElem?_take, List.getElem?_take, Array.getElem?_toList]
     by_cases hj : j < k * sz
     · have hjc : j < cur.size := by omega
       simp only [if_pos hj, Go.Sort.putCells, Array.getElem?_mapIdx, Array.getElem?_eq_getElem hjc, Option.map_some]
       rw [if_pos (by simp; omega), List.getElem?_eq_getElem (by omega)]
       simp [getElem!_pos, show j < ys.length by omega]
     · simp [hj]
theorem q70 {P : Program} (w : World) (t e ty : TypeId) (z : Value) (vs : List Value) (ht : P.underlying t = some (.slice e)) (hv : ∀ w, (zeroValue e).run P w = .ok z w) (b o n c : Nat) (hn : 0 < n) (hvs : (Builtin.zeroCells z.cells n).toList = vs) (h1 : ∀ v ∈ vs, v.oneCell' = true)
 (hc : ∀ j, j < vs.length → (w.cell? ⟨b, o + j, none⟩).isSome = true) (hf : ∀ j, j < vs.length → w.frozen? ⟨b, o + j, none⟩ = false) :
 (Builtin.clear_ #[t] ty #[.slice (some ⟨b, o, none⟩) n c]).run P w = .ok (.tuple #[]) (w.setCells b o vs) := by
 have hst := run_storeCells_cells (P := P) b o vs 0 w (by simpa using hc) (by simpa using hf) h1
 simp only [Nat.add_zero] at hst
 obtain ⟨m, rfl⟩ : ∃ m, n = m + 1 := ⟨n - 1, by omega⟩
 simp [Builtin.clear_, run_underlying ht, hv, hvs, hst]
theorem q9r (g n cap i j : Nat) (xs : List Value) (w : World) (base : Nat) (e : TypeId) (ho : w.ownsRow base e 9 (.slice (some ⟨g, 0, none⟩) n cap) n xs) (h1c : ∀ u ∈ xs, u.oneCell' = true) (hi : i < n) (hj : j = i + 1) :
 Calls Tryz.prog 247 #[.slice (some ⟨g, 0, none⟩) n cap, .int .i64 i, .int .i64 (j : Nat)] w fun e' w' => e' = .returned (.slice (some ⟨g, 0, none⟩) (n - 1) cap) ∧ ∃ (q : Nat) (ys : List Value), ys.length = n * 9 ∧ ys.take ((n - 1) * 9) = xs.take (i * 9) ++ xs.drop (j * 9) ∧ w' = putRow vid (Sort.ahead w q) g 0 ys.toArray := by
 obtain ⟨hH, hnc, hcm, hg⟩ := q9f ho
 have hxl : xs.length = n * 9 := ho.1
 have t43 := Tryz.underlying43
 have a43 := Tryz.isAgg43
 have z43 := Tryz.sizeOf43
 have v43 := Tryz.zeroValue43
 have hcm' : cap ≤ 9223372036854775807 := hcm
 have hic : i ≤ cap := by omega
 have hjc : j ≤ cap := by omega
 have hin : j ≤ n := by omega
 have hij : i ≤ j := by omega
 have hlt : i < j := by omega
 have hne : ¬ (i = j) := by omega
 obtain ⟨news, hnews⟩ : ∃ news, news = xs.drop (j * 9) := ⟨_, rfl⟩
 have hlen : news.length = (n - j) * 9 := by rw [hnews, List.length_drop, hxl, Nat.sub_mul]
 have hmul : (n - j) * 9 = n * 9 - j * 9 := Nat.sub_mul _ _ _
 have hle9 : j * 9 ≤ n * 9 := Nat.mul_le_mul_right _ hin
 obtain ⟨A, hA, hsrc⟩ : ∃ A : Addr, (if cap = j then some (⟨g, 0, none⟩ : Addr) else some ⟨g, j * 9, none⟩) = some A ∧ Hid (∀ t u, news[t]? = some u → w.drew.cell? (A.add t) = some u) := by
  by_cases h : cap = j
  · refine ⟨⟨g, 0, none⟩, by simp [h], fun t u hu => ?_⟩
    have h0 : news.length = 0 := by rw [hlen]; omega
    rw [List.length_eq_zero_iff.1 h0] at hu
    simp at hu
  · refine ⟨⟨g, j * 9, none⟩, by simp [h], fun t u hu => ?_⟩
    have ht : t < news.length := (List.getElem?_eq_some_iff.1 hu).1
    rw [hnews, List.getElem?_drop] at hu
    have hj : j * 9 + t < xs.length := (List.getElem?_eq_some_iff.1 hu).1
    have := (hH (j * 9 + t) (by simpa using hj)).1
    rw [Addr.add_lit]
    show w.cell? _ = _
    rw [Nat.zero_add] at this
    rw [this]
    rw [List.getElem?_eq_getElem hj] at hu
    simp only [Option.some.injEq] at hu
    simp [hj, ← hu, getElem!_pos]
 have s1 : Hid (news.length = (n - j) * 9) := hlen
 have s2 : Hid (∀ u ∈ news, u.oneCell' = true) := fun u hu => h1c u (List.mem_of_mem_drop (hnews ▸ hu))
 have s3 : Hid (∀ t, t < news.length → (w.drew.cell? ⟨g, 0 + i * 9 + t, none⟩).isSome = true ∧ w.drew.frozen? ⟨g, 0 + i * 9 + t, none⟩ = false) := by
  intro t ht
  have := hH (i * 9 + t) (by simp; omega)
  rw [Nat.add_assoc]
  exact ⟨by show (w.cell? _).isSome = true; rw [this.1]; rfl, this.2⟩
 obtain ⟨i0, hi0, hz1⟩ : ∃ i0, Tryz.prog.info? 120 = some i0 ∧ i0.size = 9 := by
  have h : (Tryz.prog.info? 120).map (fun i => i.size) = some 9 := by kernel_rfl
  cases h1 : Tryz.prog.info? 120 with
  | none => rw [h1] at h; cases h
  | some i0 => rw [h1] at h; exact ⟨i0, rfl, by simpa using h⟩
 obtain ⟨W1, hW1⟩ : ∃ W1, W1 = w.drew.setCells g (0 + i * 9) news := ⟨_, rfl⟩
 have hW : Hid (W1 = w.drew.setCells g (i * 9) news) := (by rw [hW1, Nat.zero_add] : W1 = w.drew.setCells g (i * 9) news)
 have hd : xs.toArray.size = n * 9 := by simpa using hxl
 have e9 : (i + (n - j)) * 9 = i * 9 + (n * 9 - j * 9) := by rw [Nat.add_mul, hmul]
 have hW1' : W1 = putRow vid (Sort.ahead w 1) g 0 (lay xs.toArray (i * 9) news) := by
  have h1 := putRow_setCells vid (Sort.ahead w 1) g 0 news xs.toArray (i * 9) (by rw [hlen]; omega)
  rw [putRow_self vid (Sort.ahead w 1) g 0 xs.toArray (holds_ahead vid w 1 g 0 xs.toArray hH)] at h1
  rw [hW1, ← h1]
  simp [vid]
  rfl
 have hH1 : Holds vid W1 g 0 (lay xs.toArray (i * 9) news) := by rw [hW1']; exact holds_putRow vid _ g 0 xs.toArray _ (holds_ahead vid w 1 g 0 xs.toArray hH) (Lib.lay_size _ _ _)
 have hcl : ∀ ty, (Builtin.clear_ #[43] ty #[.slice (some ⟨g, (i + (n - j)) * 9, none⟩) (n - (i + (n - j))) (cap - (i + (n - j)))]).run Tryz.prog W1 = .ok (.tuple #[]) (W1.setCells g ((i + (n - j)) * 9) (List.replicate 9 (.int .i64 0))) := fun ty => by
  have e1 : n - (i + (n - j)) = 1 := by omega
  rw [e1]
  exact q70 W1 43 120 ty (.agg #[.int .i64 0, .int .i64 0, .int .i64 0, .int .i64 0, .int .i64 0, .int .i64 0, .int .i64 0, .int .i64 0, .int .i64 0]) _ t43 Tryz.zeroValue120 g ((i + (n - j)) * 9) 1 _ (by omega) (by kernel_rfl) (fun v hv => by rw [List.eq_of_mem_replicate hv]; rfl)
   (fun t ht => by
     have ht : t < 9 := by simpa using ht
     have := (hH1 ((i + (n - j)) * 9 + t) (by rw [Lib.lay_size, hd]; omega)).1
     rw [Nat.zero_add] at this; rw [this]; rfl)
   (fun t ht => by
     have ht : t < 9 := by simpa using ht
     have := (hH1 ((i + (n - j)) * 9 + t) (by rw [Lib.lay_size, hd]; omega)).2
     rw [Nat.zero_add] at this; exact this)
 have X : Aside (W1 = putRow vid (Sort.ahead w 1) g 0 (lay xs.toArray (i * 9) news)) := hW1'
 have Y : Hid (news = xs.drop (j * 9)) := hnews
 have mixed : Tryz.prog.follows .mixedOrders = true := by kernel_rfl
 have hjx : Hid (j = i + 1) := hj
 have Z : Hid ((i + (n - j)) * 9 = i * 9 + (n * 9 - j * 9)) := e9
 have V : Hid (j * 9 ≤ n * 9) := hle9
 clear hj hnews hlen hW1 hW1' hH1 hH e9 hmul hle9
 refine calls_of_wp Tryz.func247 rfl ?_
 simp only [Tryz.ntmps247, List.size_toArray, List.length_cons, List.length_nil, Nat.reduceAdd, Nat.reduceSub, Array.replicate_succ, Array.replicate_zero, List.push_toArray, List.append_toArray, List.nil_append, List.cons_append]
 go_wp2_with fail
 go_region_law_o (refine step_append_room rfl (.tmp 22) (.tmp 25) 43 rfl 120 i0 9 t43 hi0 hz1 g 0 i cap (by simp [Act.eval, Act.put]) A (n - j) (cap - j) news (by simp [Act.eval, Act.put]) s1.out hsrc.out s2.out (by omega) s3.out ?_; rw [Nat.zero_add, ← hW.out])
 go_wp2
 go_ret
 have hx := X
 have hy := Y.out
 have hz := Z.out
 have hv := V.out
 have hjj := hjx.out
 have hnl : news.length = n * 9 - j * 9 := by rw [hy, List.length_drop, hxl]
 refine ⟨by rw [show i + (n - j) = n - 1 by omega]; rfl, 1, (lay (lay xs.toArray (i * 9) news) ((i + (n - j)) * 9) (List.replicate 9 (Value.int .i64 0))).toList, by rw [Array.length_toList, Lib.lay_size, Lib.lay_size, hd], ?_, ?_⟩
 · have e1 : (n - 1) * 9 = (i + (n - j)) * 9 := by rw [show i + (n - j) = n - 1 by omega]
   rw [e1]
   apply List.ext_getElem?
   intro t
   rw [List.getElem?_take, Array.getElem?_toList, lay_get? _ _ _ _ (by rw [Lib.lay_size, hd]; simp; omega), lay_get? _ _ _ _ (by rw [hd, hnl]; omega)]
   by_cases h1 : t < (i + (n - j)) * 9
   · rw [if_pos h1, if_neg (by omega)]
     by_cases h2 : t < i * 9
     · rw [if_neg (by omega), List.getElem?_append_left (by simp; omega), List.getElem?_take, if_pos h2]
       simp
     · rw [if_pos (by omega), List.getElem?_append_right (by simp; omega), hy, List.length_take, Nat.min_eq_left (by omega)]
   · rw [if_neg h1, List.getElem?_eq_none]
     rw [List.length_append, List.length_take, ← hy, hnl]
     omega
 · have h2 := putRow_setCells vid (Sort.ahead w 1) g 0 (List.replicate 9 (Value.int .i64 0)) (lay xs.toArray (i * 9) news) ((i + (n - j)) * 9) (by rw [Lib.lay_size, hd]; simp; omega)
   rw [← hx.out] at h2
   simpa [vid] using h2
def mvs (m : Msg) : List Value := [.int .i64 m.k, .int .i64 m.to, .int .i64 m.fr, .int .i64 m.c, .int .i64 m.s, .int .i64 m.b, .int .i64 m.v, .int .i64 m.ob, .int .i64 m.ov]
def flV (us : List Msg) : List Value := us.flatMap mvs
theorem q7l : ∀ us : List Msg, (flV us).length = us.length * 9
 | [] => rfl
 | m :: us => by
   have := q7l us
   simp only [flV, List.flatMap_cons, List.length_append, List.length_cons] at this ⊢
   rw [this]; show 9 + _ = _; omega
theorem z5l : ∀ {us : List Msg} {j k : Nat} {m : Msg}, us[j]? = some m → k < 9 → (flV us)[j * 9 + k]? = (mvs m)[k]?
 | x :: us, 0, k, m, h, hk => by
   cases h
   simp only [flV, List.flatMap_cons, Nat.zero_mul, Nat.zero_add]
   rw [List.getElem?_append_left (by show k < 9; exact hk)]
 | x :: us, j + 1, k, m, h, hk => by
   have h1 := z5l (us := us) (j := j) (k := k) (by simpa using h) hk
   simp only [flV, List.flatMap_cons] at h1 ⊢
   rw [List.getElem?_append_right (by show 9 ≤ _; omega)]
   rw [← h1]
   congr 1
   show (j + 1) * 9 + k - 9 = _
   omega
theorem q69 : ∀ (us : List Msg) (i : Nat), (flV us).take (i * 9) = flV (us.take i)
 | [], i => by simp [flV]
 | m :: us, 0 => by simp [flV]
 | m :: us, i + 1 => by
   have h := q69 us i
   simp only [flV, List.flatMap_cons, List.take_succ_cons] at h ⊢
   rw [List.take_append, List.take_of_length_le (by show 9 ≤ _; omega), ← h]
   congr 2
   show (i + 1) * 9 - 9 = _
   omega
theorem y69 : ∀ (us : List Msg) (i : Nat), (flV us).drop (i * 9) = flV (us.drop i)
 | [], i => by simp [flV]
 | m :: us, 0 => by simp [flV]
 | m :: us, i + 1 => by
   have h := y69 us i
   simp only [flV, List.flatMap_cons, List.drop_succ_cons] at h ⊢
   rw [List.drop_append, List.drop_of_length_le (by show 9 ≤ _; omega), ← h, List.nil_append]
   congr 1
   show (i + 1) * 9 - 9 = _
   omega
theorem z7m : ∀ {us : List Msg}, ∀ u ∈ flV us, u.oneCell' = true := fun u hu => by
 obtain ⟨m, _, h⟩ := List.mem_flatMap.1 hu
 simp only [mvs, List.mem_cons, List.not_mem_nil, or_false] at h
 rcases h with rfl | rfl | rfl | rfl | rfl | rfl | rfl | rfl | rfl <;> rfl
theorem y7g (m : Msg) (k : Nat) (hk : k < 9) : ∃ v : Value, (mvs m)[k]? = some v ∧ m.cs[k]? = some (.s v) := by
 match k, hk with
 | 0, _ => exact ⟨_, rfl, rfl⟩
 | 1, _ => exact ⟨_, rfl, rfl⟩
 | 2, _ => exact ⟨_, rfl, rfl⟩
 | 3, _ => exact ⟨_, rfl, rfl⟩
 | 4, _ => exact ⟨_, rfl, rfl⟩
 | 5, _ => exact ⟨_, rfl, rfl⟩
 | 6, _ => exact ⟨_, rfl, rfl⟩
 | 7, _ => exact ⟨_, rfl, rfl⟩
 | 8, _ => exact ⟨_, rfl, rfl⟩
theorem z88 {w : World} {N S : Nat → Prop} {us : List Msg} {v : Value} (h : y0h w (CN w N true) S 9 (us.map Msg.cs) v) : (us = [] ∧ ∃ A, v = .slice A 0 0) ∨ ∃ e, w.ownsRow 0 e 9 v us.length (flV us) ∧ ∀ g, v.ownBlock = some g → S g := by
 rcases h with ⟨hn, A, rfl⟩ | ⟨e, xs, u, F, h⟩
 · exact .inl ⟨by simpa using hn, A, rfl⟩
 · refine .inr ⟨e, ?_, h.hS⟩
   have ho := h.ho
   have hl : (us.map Msg.cs).length = us.length := by simp
   rw [hl] at ho
   have hxl : xs.length = us.length * 9 := ho.1
   have hx : xs = flV us := by
    refine List.ext_getElem? fun t => ?_
    by_cases ht : t < us.length * 9
    · have hj : t / 9 < us.length := by omega
      have hk : t % 9 < 9 := Nat.mod_lt _ (by omega)
      have et : t = t / 9 * 9 + t % 9 := by omega
      have h3 := h.hu (t / 9) (t % 9) (by omega) hk
      obtain ⟨val, c1, c2⟩ := y7g us[t / 9] (t % 9) hk
      have h4 := zav (h.hr (t / 9) (t % 9) us[t / 9].cs _ (by simp [hj]) c2)
      rw [et, h3, h4, z5l (List.getElem?_eq_getElem hj) hk, c1]
    · rw [List.getElem?_eq_none (by omega), List.getElem?_eq_none (by rw [q7l]; omega)]
   rw [hx] at ho
   exact ho
theorem y85 {w : World} {S : Nat → Prop} {us : List Msg} {v : Value} {e : TypeId} (h : w.ownsRow 0 e 9 v us.length (flV us)) (hS : ∀ g, v.ownBlock = some g → S g) : y0h w (Go.Sx.Own w) S 9 (us.map Msg.cs) v := by
 refine .inr ⟨e, flV us, fun j k => ((us[j]?).bind fun m => (mvs m)[k]?).getD undef, fun _ _ _ => False, by simpa using h, hS, fun row hrow => ?_, fun _ _ _ h => h.elim, fun _ _ _ _ _ h => h.elim, fun j k hj hk => ?_, fun j k row c hj hk => ?_⟩
 · obtain ⟨m, _, rfl⟩ := List.mem_map.1 hrow; rfl
 · have hj : j < us.length := by simpa using hj
   obtain ⟨val, c1, _⟩ := y7g us[j] k hk
   rw [z5l (List.getElem?_eq_getElem hj) hk, c1]
   simp [hj, c1]
 · have hjl : j < us.length := by have := (List.getElem?_eq_some_iff.1 hj).1; simpa using this
   have er : row = us[j].cs := by simp [hjl] at hj; exact hj.symm
   subst er
   have hk9 : k < 9 := (List.getElem?_eq_some_iff.1 hk).1
   obtain ⟨val, c1, c2⟩ := y7g us[j] k hk9
   rw [c2] at hk
   cases hk
   have ho : val.oneCell' = true := z7m (us := us) val (List.mem_flatMap.2 ⟨us[j], List.getElem_mem hjl, List.mem_of_getElem? c1⟩)
   simp only [hjl, getElem?_pos, Option.bind_some, c1, Option.getD_some]
   exact .s _ _ ho
theorem y9r (us : List Msg) (i : Nat) (j : Int) (hi : i < us.length) (hj : j = (i : Int) + 1) : PG Tryz.prog 247 [.one (.giv true 9 (us.map Msg.cs)), .one (.bor (i64 i)), .one (.bor (i64 j))] (.one (.own false [.l 9 ((us.take i ++ us.drop (i + 1)).map Msg.cs)])) [] := by
 subst hj
 refine ⟨by kernel_rfl, fun N S w vals hS hSd hsh hc => ?_⟩
 obtain ⟨v0, v1, v2, rfl⟩ : ∃ v0 v1 v2, vals = #[v0, v1, v2] := by
  match vals, hsh with
  | ⟨[v0, v1, v2]⟩, _ => exact ⟨v0, v1, v2, rfl⟩
 obtain ⟨sz, hz, h0⟩ := hc 0 _ v0 rfl rfl
 obtain rfl := hz (by decide)
 have h1 : Rep w N (i64 i) v1 := hc 1 _ v1 rfl rfl
 have h2 : Rep w N (i64 ((i : Int) + 1)) v2 := hc 2 _ v2 rfl rfl
 obtain rfl : v1 = .int .i64 i := by cases h1; rfl
 obtain rfl : v2 = .int .i64 ((i : Int) + 1) := by cases h2; rfl
 rcases z88 h0 with ⟨rfl, A, rfl⟩ | ⟨e, ho, hSo⟩
 · simp at hi
 · obtain ⟨g, cap, rfl⟩ : ∃ g cap, v0 = .slice (some ⟨g, 0, none⟩) us.length cap := by
    rcases ho.2 with ⟨_, h⟩ | ⟨g, cap, cur, h, _⟩
    · omega
    · exact ⟨g, cap, h⟩
   have hgS := hSo g rfl
   obtain ⟨_, _, _, hg⟩ := q9f ho
   refine (q9r g us.length cap i (i + 1) (flV us) w 0 e ho z7m hi rfl).mono ?_
   rintro e' w' ⟨rfl, q, ys, hyl, hyt, rfl⟩
   have hp := z55 (q := q) (k := us.length - 1) ho hyl (by omega)
   have hel : (us.take i ++ us.drop (i + 1)).length = us.length - 1 := by simp; omega
   rw [hyt, q69, y69, show flV (us.take i) ++ flV (us.drop (i + 1)) = flV (us.take i ++ us.drop (i + 1)) by simp [flV], ← hel] at hp
   rw [← hel]
   have hsl := y85 (S := fun x => x = g) hp (fun g' h => by cases h; rfl)
   have hsz : g < (putRow vid (Sort.ahead w q) g 0 ys.toArray).heap.size := by simpa [Go.Sort.putRow, Go.Sort.mapBlock, Go.Sort.ahead] using hg
   refine ⟨_, fun x => x = g, fun _ _ => False, rfl, ⟨rfl, rfl, rfl, by simp [Go.Sort.putRow, Go.Sort.mapBlock, Go.Sort.ahead], fun k hk hnk => ?_⟩, ⟨#[_], fun k x => k = 0 ∧ x = g, rfl, rfl, fun k x hx => hx.2, fun k k' x hx hx' => by rw [hx.1, hx'.1], fun k c u hc hu => ?_⟩, fun x hx => ⟨.inr ⟨0, hx ▸ hgS⟩, hx ▸ hsz, fun _ h => h⟩, fun _ _ h => h.elim, fun _ _ _ h => h.elim, fun t rows' hb => by cases hb⟩
   · have hng : g ≠ k := fun h => hnk ⟨0, h ▸ hgS⟩
     simp [Go.Sort.putRow, Go.Sort.mapBlock, Go.Sort.ahead, Array.getElem?_modify, hng]
   · cases k with
     | succ k => simp at hc
     | zero =>
       cases hc
       cases hu
       exact ⟨9, fun _ => rfl, y0h.imp hsl (fun _ h => ⟨rfl, h⟩) (fun _ _ _ => rfl) (fun _ _ _ _ h => h)⟩
end Go.Proofs.YtbnbjaedijbnpaaGreat
end
