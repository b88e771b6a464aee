/- WHAT IS PROVED: parts of the proof of fnExactSafeCluster_holds: a frame for walks, what each Go function that it reaches answers, and plain lemmas; no condition beyond those that each theorem names. -/
import Derived.Test.YtohbmmpkcibnpaaGreatCSc5
import Derived.WalkKit
import Derived.OrdersHeld
import Derived.DeepKeys
import Derived.Maps.RangeWalk
import Derived.Maps.OwnOps
import Derived.WideKeyEntry
import Derived.Deep.Slices
import Derived.ChangeArms
import Derived.WideShapes
import Derived.Sort.AssemblyPlain
import Derived.Lib.SlicesCompact
import Derived.WideKeyPair
import Derived.Test.YtohbmmpkcibnpaaGreatProg
import Derived.Shelf.SortG.Plain
import Derived.Shelf.SortG.SortNone
import Derived.Shelf.SlicesG.CompactI
import Derived.Lib.OwnBridge
import Derived.RangeFuncGives
import Derived.RangeFuncBox
import Derived.RangeFuncLeaves
import Derived.Shelf.Abstract
import Derived.Maps.AppendAt
import Derived.OwnWalkIn
import Derived.TacticsInMore
import Derived.LoopNIn
import Derived.LoopIn
import Derived.Shelf.SlicesG.Delete
set_option linter.unusedVariables false
set_option linter.unusedSimpArgs false
section
namespace Go.Proofs.YtohbmmpkcibnpaaGreat
open Go Go.Sx
set_option maxRecDepth 20000
set_option maxHeartbeats 4000000
theorem q0m (x : Con) (hl : x.legs.length ≤ 1048576) : PC Tryz.prog 68 [.agg x.cs] (.one (.bor false [.l (ints (shF x.legs))])) := by
 refine PC.begin Tryz.func68 rfl (by kernel_rfl) ?_
 refine xs rfl trivial ?_
 refine zc rfl (ι := Nat) (fun i => i ≤ x.legs.length) (fun i => ⟨[(4, sV (.int .i64 i)), (3, .one (.b (.l (ints (shF (x.legs.take i)))))), (1, .one (.a 1 0))], [(1, .var (x.cs.map .b))]⟩) (fun i => x.legs.length - i) 0 (Nat.zero_le _) ?_ ?_
 · exact ⟨⟨rfl, ⟨rfl, rfl, rfl⟩, ⟨rfl, rfl, rfl⟩, trivial⟩, ⟨lcr, trivial⟩, rfl⟩
 · intro i hi J hJ
   refine xb rfl ?_ ?_ <;> intro h
   · have h : i < x.legs.length := by simpa using h
     obtain ⟨y, hy⟩ := gx h
     have hg := gm Leg.cs hy
     have hst := y6c hy
     have hlen := y0u x.legs i
     cases hb : (shF (x.legs.take i)).contains y.s with
     | true =>
       have hp := z68 _ _ true hb (by omega) (y53 _)
       have he : q3i (shF (x.legs.take i)) y.s = shF (x.legs.take i) := by
        have := y6b (y53 (x.legs.take i)) hb
        exact this
       rw [he] at hst
       refine xs rfl (nn_ _) (y9 rfl _ hg (xs rfl rfl (z1 rfl (hp) rfl tv3 ?_)))
       exact q8 rfl (hJ _ (i + 1) (by omega) (by omega) ⟨⟨cwi (by omega) (by omega) (by omega), (by rw [hst]; rfl), ⟨rfl, rfl, rfl⟩, trivial⟩, ⟨lcr, trivial⟩, rfl⟩)
     | false =>
       have hp := z68 _ _ false hb (by omega) (y53 _)
       refine xs rfl (nn_ _) (y9 rfl _ hg (xs rfl rfl (z1 rfl (hp) rfl tv3 ?_)))
       exact q8 rfl (hJ _ (i + 1) (by omega) (by omega) ⟨⟨cwi (by omega) (by omega) (by omega), ⟨rfl, rfl, (by rw [hst])⟩, ⟨rfl, rfl, rfl⟩, trivial⟩, ⟨lcr, trivial⟩, rfl⟩)
   · have h : i = x.legs.length := by have : ¬ i < x.legs.length := (by simpa using h); omega
     subst h
     rw [List.take_length]
     refine xr rfl (yk rfl ⟨⟨rfl, rfl, trivial⟩, z6 rfl⟩)
theorem zv (c : Clu) (ho : qz c) (id s : Int) : PC Tryz.prog 231 [.one (.p c.cs), .one (i64 id), .one (i64 s)] (rB (z0t c.cons id s)) := by
 refine PC.begin Tryz.func231 rfl (by kernel_rfl) ?_
 have hf := y0k c id ho.1.1
 cases h : z08 c.cons id with
 | none =>
   rw [y1p h] at hf
   have e : z0t c.cons id s = false := by unfold z0t; rw [h]
   rw [e]
   refine z1 rfl (hf) rfl tv3 (xj (k := 11) rfl ?_)
   refine xr rfl (yk rfl ⟨⟨rfl, rfl, trivial⟩, z6 rfl⟩)
 | some x =>
   obtain ⟨i, hi, hx⟩ := y10 h
   rw [hi] at hf
   have hg := gm Con.cs hx
   have hxl := ho.1.2 x (List.mem_of_getElem? hx)
   have e : z0t c.cons id s = (shF x.legs).any (fun y => y == s) := by unfold z0t; rw [h, qad]
   rw [e]
   refine z1 rfl (hf) rfl tv3 (xj (k := 6) rfl (xs rfl (nn_ _) (y9 rfl _ hg (xs rfl rfl (xj (k := 2) rfl (z1 rfl (q0m x hxl) rfl ⟨tv3, trivial⟩ (xj (k := 2) rfl (z1 rfl (y2p _ (shF x.legs) s rfl (by have := y0u x.legs x.legs.length; rw [List.take_length] at this; omega)) rfl tv3 (xj (k := 1) rfl ?_)))))))))
   refine xr rfl (yk rfl ⟨⟨rfl, rfl, trivial⟩, z6 rfl⟩)
   all_goals first
    | (exfalso; simp at b0; omega)
    | skip
theorem y2d (x : Con) (id : Int) : PC Tryz.prog 153 [.agg x.cs, .one (.p [i64 id])] (rB (x.id == id)) := by
 refine PC.begin Tryz.func153 rfl (by kernel_rfl) ?_
 refine xr rfl (yk rfl ⟨⟨rfl, rfl, trivial⟩, z6 rfl⟩)
theorem z15 (c : Clu) (ho : qz c) (id : Int) (h : z08 c.cons id = none) : PC Tryz.prog 61 [.one (.p c.cs), .one (i64 id)] (.tup [.bor true [i64 0, .l []], .own false [.s (.bool false)]]) := by
 refine PC.begin Tryz.func61 rfl (by kernel_rfl) ?_
 have hi := z7n _ c.cons (fun x => x.id == id) 153 (.p [i64 id]) rfl (fun x _ => y2d x id) ho.1.1
 rw [y1p h] at hi
 refine z1 rfl (hi) rfl ⟨trivial, (List.forall_mem_cons.2 ⟨⟨trivial, trivial⟩, (fun _ h => nomatch h)⟩), trivial⟩ (xj (k := 1) rfl ?_)
 refine xr rfl (yk rfl ⟨(by decide), ⟨⟨rfl, rfl, rfl, trivial⟩, ⟨rfl, rfl, trivial⟩, trivial⟩, z6 rfl⟩)
theorem y15 (c : Clu) (ho : qz c) (id : Int) (x : Con) (h : z08 c.cons id = some x) : PC Tryz.prog 61 [.one (.p c.cs), .one (i64 id)] (.tup [.bor true x.cs, .own false [.s (.bool true)]]) := by
 refine PC.begin Tryz.func61 rfl (by kernel_rfl) ?_
 have hi := z7n _ c.cons (fun x => x.id == id) 153 (.p [i64 id]) rfl (fun x _ => y2d x id) ho.1.1
 obtain ⟨i, hi0, hx⟩ := y10 h
 rw [hi0] at hi
 have hg := gm Con.cs hx
 refine z1 rfl (hi) rfl ⟨trivial, (List.forall_mem_cons.2 ⟨⟨trivial, trivial⟩, (fun _ h => nomatch h)⟩), trivial⟩ (xj (k := 1) rfl (xs rfl (nn_ _) (y9 rfl _ hg (xs rfl rfl ?_))))
 refine xr rfl (yk rfl ⟨(by decide), ⟨⟨rfl, rfl, rfl, trivial⟩, ⟨rfl, rfl, trivial⟩, trivial⟩, z6 rfl⟩)
 all_goals first
  | (exfalso; simp at b0; omega)
  | skip
theorem z12 (c : Clu) (ho : qz c) (id s : Int) : PC Tryz.prog 248 [.one (.p c.cs), .one (i64 id), .one (i64 s)] (rB (z0t c.cons id s)) := by
 refine PC.begin Tryz.func248 rfl (by kernel_rfl) ?_
 cases h : z08 c.cons id with
 | none =>
   have e : z0t c.cons id s = false := by unfold z0t; rw [h]
   rw [e]
   refine z1 rfl (z15 c ho id h) rfl tv3 (xj (k := 6) rfl ?_)
   refine xr rfl (yk rfl ⟨⟨rfl, rfl, trivial⟩, z6 rfl⟩)
 | some x =>
   obtain ⟨i, hi, hx⟩ := y10 h
   have hxl := ho.1.2 x (List.mem_of_getElem? hx)
   have e : z0t c.cons id s = decide (0 < (yl x s).length) := by unfold z0t; rw [h, q6q]
   rw [e]
   refine z1 rfl (y15 c ho id x h) rfl tv3 (xj (k := 3) rfl (z1 rfl (z10 _ _ (by omega)) rfl ⟨tv3, trivial, trivial⟩ (xj (k := 3) rfl (xv rfl rfl rfl ?_))))
   all_goals (refine vb ?_; simp)
theorem q2h (rr : List (List Cell)) : PC Tryz.prog 141 [.one (.l rr)] (rI rr.length) := by
 refine PC.begin Tryz.func141 rfl (by kernel_rfl) ?_
 refine xr rfl (yk rfl ⟨⟨rfl, rfl, trivial⟩, z6 rfl⟩)
theorem z1d (rr : List (List Cell)) : PC Tryz.prog 142 [.one (.l rr)] (rI rr.length) := by
 refine PC.begin Tryz.func142 rfl (by kernel_rfl) ?_
 refine xr rfl (yk rfl ⟨⟨rfl, rfl, trivial⟩, z6 rfl⟩)
theorem y4e (rr : List (List Cell)) : PC Tryz.prog 317 [.one (.l rr)] (rI rr.length) := by
 refine PC.begin Tryz.func317 rfl (by kernel_rfl) ?_
 refine xr rfl (yk rfl ⟨⟨rfl, rfl, trivial⟩, z6 rfl⟩)
theorem y29 (rows : List (List Cell)) (n : Int) (hl : rows.length ≤ 1048576) : PC Tryz.prog 309 [.one (i64 n), .one (.l rows)] (rB (within n 0 ((rows.length : Int) - 1))) := by
 refine PC.begin Tryz.func309 rfl (by kernel_rfl) ?_
 have hw : IntKind.i64.wrap ((rows.length : Int) - 1) = (rows.length : Int) - 1 := wrap_i64 (by omega) (by omega)
 refine z1 rfl (q2h _) rfl ⟨trivial, trivial⟩ (z1 rfl (zk _ _ _) rfl tv4 (xv rfl rfl rfl ?_))
 all_goals (refine vb ?_; rw [hw])
theorem y0c (rows : List (List Cell)) (n : Int) (hl : rows.length ≤ 1048576) : PC Tryz.prog 348 [.one (i64 n), .one (.l rows)] (rB (within n 0 ((rows.length : Int) - 1))) := by
 refine PC.begin Tryz.func348 rfl (by kernel_rfl) ?_
 have hw : IntKind.i64.wrap ((rows.length : Int) - 1) = (rows.length : Int) - 1 := wrap_i64 (by omega) (by omega)
 refine z1 rfl (z1d _) rfl ⟨trivial, trivial⟩ (z1 rfl (zk _ _ _) rfl tv4 (xv rfl rfl rfl ?_))
 all_goals (refine vb ?_; rw [hw])
theorem z29 (rows : List (List Cell)) (n : Int) (hl : rows.length ≤ 1048576) : PC Tryz.prog 221 [.one (i64 n), .one (.l rows)] (rB (within n 0 ((rows.length : Int) - 1))) := by
 refine PC.begin Tryz.func221 rfl (by kernel_rfl) ?_
 have hw : IntKind.i64.wrap ((rows.length : Int) - 1) = (rows.length : Int) - 1 := wrap_i64 (by omega) (by omega)
 refine z1 rfl (y4e _) rfl ⟨trivial, trivial⟩ (z1 rfl (zk _ _ _) rfl tv4 (xv rfl rfl rfl ?_))
 all_goals (refine vb ?_; rw [hw])
abbrev qbs (m : Msg) : Res := .one (.own true [.s (.int .i64 m.k), .s (.int .i64 m.to), .s (.int .i64 m.fr), .s (.int .i64 m.c), .s (.int .i64 m.s), .s (.int .i64 m.b), .s (.int .i64 m.v), .s (.int .i64 m.ob), .s (.int .i64 m.ov)])
theorem kinds {k : Int} (h : Go.Sx.within k 1 6 = true) : k = 1 ∨ k = 2 ∨ k = 3 ∨ k = 4 ∨ k = 5 ∨ k = 6 := by
 have := Go.Sx.within_iff.1 h
 omega
theorem wl1 {α β : Type} (f : α → β) {us : List α} (h : us.length ≤ 1048576) : IntKind.i64.wrap (((us.map f).length : Int) - 1) = (us.length : Int) - 1 := by rw [List.length_map]; exact wrap_i64 (by omega) (by omega)
theorem q0b {α : Type} {p : α → Bool} {l : List α} : decide (y13 p l < 0) = (l.find? p).isNone := by
 cases h : l.find? p with
 | none => rw [y1p h]; rfl
 | some x =>
   obtain ⟨i, hi, _⟩ := y10 h
   rw [hi]; simp
theorem q0c (m : Msg) (hk : Go.Sx.within m.k 1 6 = true) : PC Tryz.prog 240 [.agg m.cs] (qbs m.bare) := by
 refine PC.begin Tryz.func240 rfl (by kernel_rfl) ?_
 obtain ⟨k, to, fr, c, s, b, v, ob, ov⟩ := m
 rcases kinds hk with h | h | h | h | h | h
 · dsimp only at h
   subst h
   rw [show Msg.bare ⟨1, to, fr, c, s, b, v, ob, ov⟩ = ⟨1, to, 0, c, 0, 0, 0, 0, 0⟩ from rfl]
   refine xj (k := 20) rfl ?_
   refine xr rfl (yk rfl ⟨⟨rfl, rfl, rfl, rfl, rfl, rfl, rfl, rfl, rfl, rfl, trivial⟩, z6 rfl⟩)
 · dsimp only at h
   subst h
   rw [show Msg.bare ⟨2, to, fr, c, s, b, v, ob, ov⟩ = ⟨2, to, 0, c, s, b, v, 0, 0⟩ from rfl]
   refine xj (k := 20) rfl ?_
   refine xr rfl (yk rfl ⟨⟨rfl, rfl, rfl, rfl, rfl, rfl, rfl, rfl, rfl, rfl, trivial⟩, z6 rfl⟩)
 · dsimp only at h
   subst h
   rw [show Msg.bare ⟨3, to, fr, c, s, b, v, ob, ov⟩ = ⟨3, to, fr, c, s, b, v, 0, 0⟩ from rfl]
   refine xj (k := 20) rfl ?_
   refine xr rfl (yk rfl ⟨⟨rfl, rfl, rfl, rfl, rfl, rfl, rfl, rfl, rfl, rfl, trivial⟩, z6 rfl⟩)
 · dsimp only at h
   subst h
   rw [show Msg.bare ⟨4, to, fr, c, s, b, v, ob, ov⟩ = ⟨4, to, fr, c, s, b, 0, 0, 0⟩ from rfl]
   refine xj (k := 20) rfl ?_
   refine xr rfl (yk rfl ⟨⟨rfl, rfl, rfl, rfl, rfl, rfl, rfl, rfl, rfl, rfl, trivial⟩, z6 rfl⟩)
 · dsimp only at h
   subst h
   rw [show Msg.bare ⟨5, to, fr, c, s, b, v, ob, ov⟩ = ⟨5, to, fr, c, s, b, 0, ob, ov⟩ from rfl]
   refine xj (k := 20) rfl ?_
   refine xr rfl (yk rfl ⟨⟨rfl, rfl, rfl, rfl, rfl, rfl, rfl, rfl, rfl, rfl, trivial⟩, z6 rfl⟩)
 · dsimp only at h
   subst h
   rw [show Msg.bare ⟨6, to, fr, c, s, b, v, ob, ov⟩ = ⟨6, to, 0, c, 0, 0, v, 0, 0⟩ from rfl]
   refine xj (k := 20) rfl ?_
   refine xr rfl (yk rfl ⟨⟨rfl, rfl, rfl, rfl, rfl, rfl, rfl, rfl, rfl, rfl, trivial⟩, z6 rfl⟩)
theorem y90 (m : Msg) (hk : Go.Sx.within m.k 1 6 = true) : PC Tryz.prog 258 [.agg m.cs] (qbs m.bare) := by
 refine PC.begin Tryz.func258 rfl (by kernel_rfl) ?_
 obtain ⟨k, to, fr, c, s, b, v, ob, ov⟩ := m
 rcases kinds hk with h | h | h | h | h | h
 · dsimp only at h
   subst h
   rw [show Msg.bare ⟨1, to, fr, c, s, b, v, ob, ov⟩ = ⟨1, to, 0, c, 0, 0, 0, 0, 0⟩ from rfl]
   refine xj (k := 10) rfl ?_
   refine xr rfl (yk rfl ⟨⟨rfl, rfl, rfl, rfl, rfl, rfl, rfl, rfl, rfl, rfl, trivial⟩, z6 rfl⟩)
 · dsimp only at h
   subst h
   rw [show Msg.bare ⟨2, to, fr, c, s, b, v, ob, ov⟩ = ⟨2, to, 0, c, s, b, v, 0, 0⟩ from rfl]
   refine xj (k := 5) rfl (q9 rfl [] (.take 0 [] (.take 1 (Rg 4 4) (Tk [2, 4] (.alt 3 (.alt 5 (.take 6 [] (.alt 7 .done .nil)) .nil) (.alt 5 (.take 3 [6, 7] (.take 6 [] (.alt 7 .done .nil))) .nil))))) (by kernel_rfl) ?_)
   refine q09 rfl ?_ ?_
   refine xj (k := 2) rfl ?_
   refine xr rfl (yk rfl ⟨⟨rfl, rfl, rfl, rfl, rfl, rfl, rfl, rfl, rfl, rfl, trivial⟩, z6 rfl⟩)
   refine xj (k := 2) rfl ?_
   refine xr rfl (yk rfl ⟨⟨rfl, rfl, rfl, rfl, rfl, rfl, rfl, rfl, rfl, rfl, trivial⟩, z6 rfl⟩)
 · dsimp only at h
   subst h
   rw [show Msg.bare ⟨3, to, fr, c, s, b, v, ob, ov⟩ = ⟨3, to, fr, c, s, b, v, 0, 0⟩ from rfl]
   refine xj (k := 5) rfl (q9 rfl [] (.take 0 [] (.take 1 (Rg 4 4) (Tk [2, 4] (.alt 3 (.alt 5 (.take 6 [] (.alt 7 .done .nil)) .nil) (.alt 5 (.take 3 [6, 7] (.take 6 [] (.alt 7 .done .nil))) .nil))))) (by kernel_rfl) ?_)
   refine q09 rfl ?_ ?_
   refine xj (k := 3) rfl (q9 rfl [] (.take 0 [] (.take 1 (Rg 4 4) (Tk [2, 4] (.alt 3 (.alt 5 (.take 6 [] (.alt 7 .done .nil)) .nil) (.alt 5 (.take 3 [6, 7] (.take 6 [] (.alt 7 .done .nil))) .nil))))) (by kernel_rfl) ?_)
   refine q09 rfl ?_ ?_
   refine xr rfl (yk rfl ⟨⟨rfl, rfl, rfl, rfl, rfl, rfl, rfl, rfl, rfl, rfl, trivial⟩, z6 rfl⟩)
   refine xr rfl (yk rfl ⟨⟨rfl, rfl, rfl, rfl, rfl, rfl, rfl, rfl, rfl, rfl, trivial⟩, z6 rfl⟩)
   refine xj (k := 3) rfl (q9 rfl [] (.take 0 [] (.take 1 (Rg 4 4) (Tk [2, 4] (.alt 3 (.alt 5 (.take 6 [] (.alt 7 .done .nil)) .nil) (.alt 5 (.take 3 [6, 7] (.take 6 [] (.alt 7 .done .nil))) .nil))))) (by kernel_rfl) ?_)
   refine q09 rfl ?_ ?_
   refine xr rfl (yk rfl ⟨⟨rfl, rfl, rfl, rfl, rfl, rfl, rfl, rfl, rfl, rfl, trivial⟩, z6 rfl⟩)
   refine xr rfl (yk rfl ⟨⟨rfl, rfl, rfl, rfl, rfl, rfl, rfl, rfl, rfl, rfl, trivial⟩, z6 rfl⟩)
 · dsimp only at h
   subst h
   rw [show Msg.bare ⟨4, to, fr, c, s, b, v, ob, ov⟩ = ⟨4, to, fr, c, s, b, 0, 0, 0⟩ from rfl]
   refine xj (k := 5) rfl (q9 rfl [] (.take 0 [] (.take 1 (Rg 4 4) (Tk [2, 4] (.alt 3 (.alt 5 (.take 6 [] (.alt 7 .done .nil)) .nil) (.alt 5 (.take 3 [6, 7] (.take 6 [] (.alt 7 .done .nil))) .nil))))) (by kernel_rfl) ?_)
   refine q09 rfl ?_ ?_
   refine xj (k := 4) rfl ?_
   refine xr rfl (yk rfl ⟨⟨rfl, rfl, rfl, rfl, rfl, rfl, rfl, rfl, rfl, rfl, trivial⟩, z6 rfl⟩)
   refine xj (k := 4) rfl ?_
   refine xr rfl (yk rfl ⟨⟨rfl, rfl, rfl, rfl, rfl, rfl, rfl, rfl, rfl, rfl, trivial⟩, z6 rfl⟩)
 · dsimp only at h
   subst h
   rw [show Msg.bare ⟨5, to, fr, c, s, b, v, ob, ov⟩ = ⟨5, to, fr, c, s, b, 0, ob, ov⟩ from rfl]
   refine xj (k := 5) rfl (q9 rfl [] (.take 0 [] (.take 1 (Rg 4 4) (Tk [2, 4] (.alt 3 (.alt 5 (.take 6 [] (.alt 7 .done .nil)) .nil) (.alt 5 (.take 3 [6, 7] (.take 6 [] (.alt 7 .done .nil))) .nil))))) (by kernel_rfl) ?_)
   refine q09 rfl ?_ ?_
   refine xj (k := 5) rfl (q9 rfl [] (.take 0 [] (.take 1 (Rg 4 4) (Tk [2, 4] (.alt 3 (.alt 5 (.take 6 [] (.alt 7 .done .nil)) .nil) (.alt 5 (.take 3 [6, 7] (.take 6 [] (.alt 7 .done .nil))) .nil))))) (by kernel_rfl) ?_)
   refine q09 rfl ?_ ?_
   refine xr rfl (yk rfl ⟨⟨rfl, rfl, rfl, rfl, rfl, rfl, rfl, rfl, rfl, rfl, trivial⟩, z6 rfl⟩)
   refine xr rfl (yk rfl ⟨⟨rfl, rfl, rfl, rfl, rfl, rfl, rfl, rfl, rfl, rfl, trivial⟩, z6 rfl⟩)
   refine xj (k := 5) rfl (q9 rfl [] (.take 0 [] (.take 1 (Rg 4 4) (Tk [2, 4] (.alt 3 (.alt 5 (.take 6 [] (.alt 7 .done .nil)) .nil) (.alt 5 (.take 3 [6, 7] (.take 6 [] (.alt 7 .done .nil))) .nil))))) (by kernel_rfl) ?_)
   refine q09 rfl ?_ ?_
   refine xr rfl (yk rfl ⟨⟨rfl, rfl, rfl, rfl, rfl, rfl, rfl, rfl, rfl, rfl, trivial⟩, z6 rfl⟩)
   refine xr rfl (yk rfl ⟨⟨rfl, rfl, rfl, rfl, rfl, rfl, rfl, rfl, rfl, rfl, trivial⟩, z6 rfl⟩)
 · dsimp only at h
   subst h
   rw [show Msg.bare ⟨6, to, fr, c, s, b, v, ob, ov⟩ = ⟨6, to, 0, c, 0, 0, v, 0, 0⟩ from rfl]
   refine xj (k := 7) rfl ?_
   refine xr rfl (yk rfl ⟨⟨rfl, rfl, rfl, rfl, rfl, rfl, rfl, rfl, rfl, rfl, trivial⟩, z6 rfl⟩)
theorem q1g (c : Clu) (ho : qz c) (m : Msg) (hk : Go.Sx.within m.k 1 6 = true) : PC Tryz.prog 237 [.one (.p c.cs), .agg m.cs] (rB (ends c m)) := by
 refine PC.begin Tryz.func237 rfl (by kernel_rfl) ?_
 have q1 := ho.2.1.1
 have q2 := ho.2.2.1.1
 have q3 := ho.2.2.2.1.1
 have p1 : (c.shs.map Shd.cs).length ≤ 1048576 := by simpa using q1
 have p2 : (c.accs.map Acc.cs).length ≤ 1048576 := by simpa using q2
 have p3 : (c.ldrs.map Ldr.cs).length ≤ 1048576 := by simpa using q3
 have w1 := wl1 Shd.cs q1
 have w2 := wl1 Acc.cs q2
 have w3 := wl1 Ldr.cs q3
 obtain ⟨k, to, fr, mc, s, b, v, ob, ov⟩ := m
 rcases kinds hk with h | h | h | h | h | h
 · dsimp only at h
   subst h
   refine xj (k := 11) rfl (z1 rfl (qh _ _ _) rfl tv4 ?_)
   refine xb rfl ?_ ?_ <;> intro b0
   refine xj (k := 17) rfl ?_
   refine xv rfl rfl rfl ?_; rotate_left
   refine xj (k := 7) rfl ?_
   refine xv rfl rfl rfl ?_; rotate_left
   all_goals (refine vb ?_; simp_all [ends, toN, frN]; done)
 · dsimp only at h
   subst h
   refine xj (k := 11) rfl (z1 rfl (qh _ _ _) rfl tv4 ?_)
   refine xb rfl ?_ ?_ <;> intro b0
   refine xj (k := 17) rfl ?_
   refine xv rfl rfl rfl ?_; rotate_left
   refine xj (k := 7) rfl ?_
   refine xv rfl rfl rfl ?_; rotate_left
   all_goals (refine vb ?_; simp_all [ends, toN, frN]; done)
 · dsimp only at h
   subst h
   refine xj (k := 11) rfl (z1 rfl (qh _ _ _) rfl tv4 ?_)
   refine xb rfl ?_ ?_ <;> intro b0
   refine xj (k := 14) rfl (z1 rfl (qh _ _ _) rfl tv4 (xj (k := 3) rfl ?_))
   refine xv rfl rfl rfl ?_; rotate_left
   refine xj (k := 7) rfl ?_
   refine xv rfl rfl rfl ?_; rotate_left
   all_goals (refine vb ?_; simp_all [ends, toN, frN]; done)
 · dsimp only at h
   subst h
   refine xj (k := 11) rfl (z1 rfl (qh _ _ _) rfl tv4 ?_)
   refine xb rfl ?_ ?_ <;> intro b0
   refine xj (k := 14) rfl (z1 rfl (qh _ _ _) rfl tv4 (xj (k := 3) rfl ?_))
   refine xv rfl rfl rfl ?_; rotate_left
   refine xj (k := 7) rfl ?_
   refine xv rfl rfl rfl ?_; rotate_left
   all_goals (refine vb ?_; simp_all [ends, toN, frN]; done)
 · dsimp only at h
   subst h
   refine xj (k := 11) rfl (z1 rfl (qh _ _ _) rfl tv4 ?_)
   refine xb rfl ?_ ?_ <;> intro b0
   refine xj (k := 14) rfl (z1 rfl (qh _ _ _) rfl tv4 (xj (k := 3) rfl ?_))
   refine xv rfl rfl rfl ?_; rotate_left
   refine xj (k := 7) rfl ?_
   refine xv rfl rfl rfl ?_; rotate_left
   all_goals (refine vb ?_; simp_all [ends, toN, frN]; done)
 · dsimp only at h
   subst h
   refine xj (k := 11) rfl (z1 rfl (qh _ _ _) rfl tv4 ?_)
   refine xb rfl ?_ ?_ <;> intro b0
   refine xj (k := 17) rfl ?_
   refine xv rfl rfl rfl ?_; rotate_left
   refine xj (k := 7) rfl ?_
   refine xv rfl rfl rfl ?_; rotate_left
   all_goals (refine vb ?_; simp_all [ends, toN, frN]; done)
theorem qa2 (c : Clu) (ho : qz c) (m : Msg) (hk : Go.Sx.within m.k 1 6 = true) : PC Tryz.prog 255 [.one (.p c.cs), .agg m.cs] (rB (within m.to 0 ((toN c m : Int) - 1))) := by
 refine PC.begin Tryz.func255 rfl (by kernel_rfl) ?_
 have q1 := ho.2.1.1
 have q2 := ho.2.2.1.1
 have q3 := ho.2.2.2.1.1
 have p1 : (c.shs.map Shd.cs).length ≤ 1048576 := by simpa using q1
 have p2 : (c.accs.map Acc.cs).length ≤ 1048576 := by simpa using q2
 have p3 : (c.ldrs.map Ldr.cs).length ≤ 1048576 := by simpa using q3
 have w1 := wl1 Shd.cs q1
 have w2 := wl1 Acc.cs q2
 have w3 := wl1 Ldr.cs q3
 obtain ⟨k, to, fr, mc, s, b, v, ob, ov⟩ := m
 rcases kinds hk with h | h | h | h | h | h
 · dsimp only at h
   subst h
   refine xj (k := 2) rfl (q9 rfl [] (.take 0 [] (.take 1 [6, 7] (Tk [2, 3, 4] (.take 5 [6, 7] (.alt 6 (.take 7 [] .done) .nil))))) (by kernel_rfl) (z1 rfl (y29 _ _ (by assumption)) rfl tv3 (xv rfl rfl rfl ?_)))
   all_goals (refine vb ?_; simp_all [toN]; done)
 · dsimp only at h
   subst h
   refine xj (k := 4) rfl (q9 rfl [] (.take 0 [] (.take 1 [6, 7] (Tk [2, 3, 4] (.take 5 [6, 7] (.alt 6 (.take 7 [] .done) .nil))))) (by kernel_rfl) (z1 rfl (y0c _ _ (by assumption)) rfl tv3 (xv rfl rfl rfl ?_)))
   all_goals (refine vb ?_; simp_all [toN]; done)
 · dsimp only at h
   subst h
   refine xj (k := 4) rfl (q9 rfl [] (.take 0 [] (.take 1 [6, 7] (Tk [2, 3, 4] (.take 5 [6, 7] (.alt 6 (.take 7 [] .done) .nil))))) (by kernel_rfl) (z1 rfl (z29 _ _ (by assumption)) rfl tv3 (xv rfl rfl rfl ?_)))
   all_goals (refine vb ?_; simp_all [toN]; done)
 · dsimp only at h
   subst h
   refine xj (k := 4) rfl (q9 rfl [] (.take 0 [] (.take 1 [6, 7] (Tk [2, 3, 4] (.take 5 [6, 7] (.alt 6 (.take 7 [] .done) .nil))))) (by kernel_rfl) (z1 rfl (y0c _ _ (by assumption)) rfl tv3 (xv rfl rfl rfl ?_)))
   all_goals (refine vb ?_; simp_all [toN]; done)
 · dsimp only at h
   subst h
   refine xj (k := 4) rfl (q9 rfl [] (.take 0 [] (.take 1 [6, 7] (Tk [2, 3, 4] (.take 5 [6, 7] (.alt 6 (.take 7 [] .done) .nil))))) (by kernel_rfl) (z1 rfl (z29 _ _ (by assumption)) rfl tv3 (xv rfl rfl rfl ?_)))
   all_goals (refine vb ?_; simp_all [toN]; done)
 · dsimp only at h
   subst h
   refine xj (k := 2) rfl (q9 rfl [] (.take 0 [] (.take 1 [6, 7] (Tk [2, 3, 4] (.take 5 [6, 7] (.alt 6 (.take 7 [] .done) .nil))))) (by kernel_rfl) (z1 rfl (y29 _ _ (by assumption)) rfl tv3 (xv rfl rfl rfl ?_)))
   all_goals (refine vb ?_; simp_all [toN]; done)
theorem q7n (c : Clu) (ho : qz c) (m : Msg) (hk : Go.Sx.within m.k 1 6 = true) : PC Tryz.prog 256 [.one (.p c.cs), .agg m.cs] (rB (decide (m.k < 3) || decide (5 < m.k) || within m.fr 0 ((frN c m : Int) - 1))) := by
 refine PC.begin Tryz.func256 rfl (by kernel_rfl) ?_
 have q1 := ho.2.1.1
 have q2 := ho.2.2.1.1
 have q3 := ho.2.2.2.1.1
 have p1 : (c.shs.map Shd.cs).length ≤ 1048576 := by simpa using q1
 have p2 : (c.accs.map Acc.cs).length ≤ 1048576 := by simpa using q2
 have p3 : (c.ldrs.map Ldr.cs).length ≤ 1048576 := by simpa using q3
 have w1 := wl1 Shd.cs q1
 have w2 := wl1 Acc.cs q2
 have w3 := wl1 Ldr.cs q3
 obtain ⟨k, to, fr, mc, s, b, v, ob, ov⟩ := m
 rcases kinds hk with h | h | h | h | h | h
 · dsimp only at h
   subst h
   refine xj (k := 3) rfl ?_
   refine xr rfl (yk rfl ⟨⟨rfl, rfl, trivial⟩, z6 rfl⟩)
   all_goals (refine vb ?_; simp_all [frN]; done)
 · dsimp only at h
   subst h
   refine xj (k := 3) rfl ?_
   refine xr rfl (yk rfl ⟨⟨rfl, rfl, trivial⟩, z6 rfl⟩)
   all_goals (refine vb ?_; simp_all [frN]; done)
 · dsimp only at h
   subst h
   refine xj (k := 3) rfl (q9 rfl [] (.take 0 [] (.take 1 [6, 7] (Tk [2, 3, 4] (.take 5 [6, 7] (.alt 6 (.take 7 [] .done) .nil))))) (by kernel_rfl) (z1 rfl (y0c _ _ (by assumption)) rfl tv3 (xv rfl rfl rfl ?_)))
   all_goals (refine vb ?_; simp_all [frN]; done)
 · dsimp only at h
   subst h
   refine xj (k := 1) rfl (q9 rfl [] (.take 0 [] (.take 1 [6, 7] (Tk [2, 3, 4] (.take 5 [6, 7] (.alt 6 (.take 7 [] .done) .nil))))) (by kernel_rfl) (z1 rfl (z29 _ _ (by assumption)) rfl tv3 (xv rfl rfl rfl ?_)))
   all_goals (refine vb ?_; simp_all [frN]; done)
 · dsimp only at h
   subst h
   refine xj (k := 3) rfl (q9 rfl [] (.take 0 [] (.take 1 [6, 7] (Tk [2, 3, 4] (.take 5 [6, 7] (.alt 6 (.take 7 [] .done) .nil))))) (by kernel_rfl) (z1 rfl (y0c _ _ (by assumption)) rfl tv3 (xv rfl rfl rfl ?_)))
   all_goals (refine vb ?_; simp_all [frN]; done)
 · dsimp only at h
   subst h
   refine xj (k := 3) rfl ?_
   refine xr rfl (yk rfl ⟨⟨rfl, rfl, trivial⟩, z6 rfl⟩)
   all_goals (refine vb ?_; simp_all [frN]; done)
theorem y5o (c : Clu) (ho : qz c) (m : Msg) (hk : Go.Sx.within m.k 1 6 = true) : PC Tryz.prog 257 [.one (.p c.cs), .agg m.cs] (rB (ranges c m)) := by
 refine PC.begin Tryz.func257 rfl (by kernel_rfl) ?_
 have q1 := ho.2.1.1
 have q2 := ho.2.2.1.1
 have q3 := ho.2.2.2.1.1
 have p1 : (c.shs.map Shd.cs).length ≤ 1048576 := by simpa using q1
 have p2 : (c.accs.map Acc.cs).length ≤ 1048576 := by simpa using q2
 have p3 : (c.ldrs.map Ldr.cs).length ≤ 1048576 := by simpa using q3
 have w1 := wl1 Shd.cs q1
 have w2 := wl1 Acc.cs q2
 have w3 := wl1 Ldr.cs q3
 obtain ⟨k, to, fr, mc, s, b, v, ob, ov⟩ := m
 rcases kinds hk with h | h | h | h | h | h
 · dsimp only at h
   subst h
   refine xj (k := 1) rfl (z1 rfl (z12 _ (by assumption) _ _) rfl tv4 (xv rfl rfl rfl ?_))
   all_goals (refine vb ?_; simp_all [ranges, Msg.shd, y1v, Vt.none]; done)
 · dsimp only at h
   subst h
   refine xj (k := 2) rfl (z1 rfl (z12 _ (by assumption) _ _) rfl tv4 ?_)
   refine xb rfl ?_ ?_ <;> intro b0
   refine xj (k := 5) rfl ?_
   refine xv rfl rfl rfl ?_; rotate_left
   refine xj (k := 2) rfl (z1 rfl (y05 _) rfl ⟨trivial, trivial⟩ (xj (k := 2) rfl ?_))
   refine xb rfl ?_ ?_ <;> intro b1
   refine xv rfl rfl rfl ?_; rotate_left
   refine xj (k := 2) rfl (z1 rfl (z0k _) rfl ⟨trivial, trivial⟩ ?_)
   refine xv rfl rfl rfl ?_; rotate_left
   all_goals (refine vb ?_; simp_all [ranges, Msg.shd, y1v, Vt.none]; done)
 · dsimp only at h
   subst h
   refine xj (k := 2) rfl (z1 rfl (z12 _ (by assumption) _ _) rfl tv4 ?_)
   refine xb rfl ?_ ?_ <;> intro b0
   refine xj (k := 5) rfl ?_
   refine xv rfl rfl rfl ?_; rotate_left
   refine xj (k := 2) rfl (z1 rfl (y05 _) rfl ⟨trivial, trivial⟩ (xj (k := 2) rfl ?_))
   refine xb rfl ?_ ?_ <;> intro b1
   refine xv rfl rfl rfl ?_; rotate_left
   refine xj (k := 2) rfl (z1 rfl (z0k _) rfl ⟨trivial, trivial⟩ ?_)
   refine xv rfl rfl rfl ?_; rotate_left
   all_goals (refine vb ?_; simp_all [ranges, Msg.shd, y1v, Vt.none]; done)
 · dsimp only at h
   subst h
   refine xj (k := 2) rfl (z1 rfl (z12 _ (by assumption) _ _) rfl tv4 ?_)
   refine xb rfl ?_ ?_ <;> intro b0
   refine xj (k := 5) rfl ?_
   refine xv rfl rfl rfl ?_; rotate_left
   refine xj (k := 2) rfl (z1 rfl (y05 _) rfl ⟨trivial, trivial⟩ (xj (k := 2) rfl ?_))
   refine xb rfl ?_ ?_ <;> intro b1
   refine xv rfl rfl rfl ?_; rotate_left
   refine xj (k := 3) rfl ?_
   refine xv rfl rfl rfl ?_; rotate_left
   all_goals (refine vb ?_; simp_all [ranges, Msg.shd, y1v, Vt.none]; done)
 · dsimp only at h
   subst h
   refine xj (k := 2) rfl (z1 rfl (z12 _ (by assumption) _ _) rfl tv4 ?_)
   refine xb rfl ?_ ?_ <;> intro b0
   refine xj (k := 5) rfl ?_
   refine xv rfl rfl rfl ?_; rotate_left
   refine xj (k := 2) rfl (z1 rfl (y05 _) rfl ⟨trivial, trivial⟩ (xj (k := 2) rfl ?_))
   refine xb rfl ?_ ?_ <;> intro b1
   refine xv rfl rfl rfl ?_; rotate_left
   refine xj (k := 3) rfl (q9 rfl [] (.take 0 [] (.take 1 (Rg 3 7) (.alt 2 (Tk [3, 4, 5] (.take 6 (Rg 7 3) (.alt 7 (Tk [8, 9] .done) .nil))) .nil))) (by kernel_rfl) (z1 rfl (y1y) rfl trivial ?_))
   refine xb rfl ?_ ?_ <;> intro b2
   refine xj (k := 3) rfl ?_
   refine xv rfl rfl rfl ?_; rotate_left
   refine xj (k := 2) rfl (z1 rfl (z1y ⟨ob, ov⟩) rfl ⟨tv3, trivial⟩ (xj (k := 1) rfl ?_))
   refine xv rfl rfl rfl ?_; rotate_left
   all_goals (refine vb ?_; simp_all [ranges, Msg.shd, y1v, Vt.none]; done)
 · dsimp only at h
   subst h
   refine xj (k := 2) rfl (z1 rfl (z12 _ (by assumption) _ _) rfl tv4 ?_)
   refine xb rfl ?_ ?_ <;> intro b0
   refine xj (k := 2) rfl (z1 rfl (y2f _) rfl ⟨trivial, trivial⟩ (xj (k := 1) rfl ?_))
   refine xv rfl rfl rfl ?_; rotate_left
   refine xj (k := 3) rfl ?_
   refine xv rfl rfl rfl ?_; rotate_left
   all_goals (refine vb ?_; simp_all [ranges, Msg.shd, y1v, Vt.none]; done)
theorem q5h (m n : Msg) : y0y [.int .i64 m.k, .int .i64 m.to, .int .i64 m.fr, .int .i64 m.c, .int .i64 m.s, .int .i64 m.b, .int .i64 m.v, .int .i64 m.ob, .int .i64 m.ov] [.int .i64 n.k, .int .i64 n.to, .int .i64 n.fr, .int .i64 n.c, .int .i64 n.s, .int .i64 n.b, .int .i64 n.v, .int .i64 n.ob, .int .i64 n.ov] = m.same n := by simp [y0y, Msg.same, Bool.and_assoc]
theorem z6m (a b : Int) : y0y [.int .i64 a, .int .i64 b] [.int .i64 Vt.none.b, .int .i64 Vt.none.v] = (a == -1 && b == 0) := by simp [y0y, Vt.none]
theorem y4w (c : Clu) (m : Msg) (hk : Go.Sx.within m.k 1 6 = true) {e i r z : Bool} (h1 : ends c m = e) (h2 : (z08 c.cons m.c).isNone = i) (h3 : ranges c m = r) (h4 : m.same m.bare = z) : y0e c m = (if e then (if i then 4 else if r then (if z then 0 else 1) else 3) else 3) := by
 unfold y0e
 rw [hk, h1, h2, h3, h4]
 cases e <;> cases i <;> cases r <;> cases z <;> rfl
theorem qab (c : Clu) (ho : qz c) (m : Msg) : PC Tryz.prog 135 [.one (.p c.cs), .agg m.cs] (rI (y0e c m)) := by
 refine PC.begin Tryz.func135 rfl (by kernel_rfl) ?_
 by_cases hk : Go.Sx.within m.k 1 6 = true
 · have hf := y0k c m.c ho.1.1
   obtain ⟨k, to, fr, mc, s, b, v, ob, ov⟩ := m
   dsimp only at hf
   rcases kinds hk with h | h | h | h | h | h
   · dsimp only at h
     subst h
     have hE := q1g c ho ⟨1, to, fr, mc, s, b, v, ob, ov⟩ hk
     have hR : ranges c ⟨1, to, fr, mc, s, b, v, ob, ov⟩ = z0t c.cons mc to := by simp [ranges, Msg.shd]
     refine z1 rfl (qh _ _ _) rfl tv4 (xj (k := 1) rfl (z1 rfl (hE) rfl ⟨trivial, tv10, trivial⟩ ?_))
     refine xb rfl ?_ ?_ <;> intro b0
     refine xv rfl rfl rfl ?_; rotate_left
     refine z1 rfl (hf) rfl tv3 ?_
     refine xb rfl ?_ ?_ <;> intro b1
     refine xv rfl rfl rfl ?_; rotate_left
     refine xj (k := 5) rfl (z1 rfl (zv _ (by assumption) _ _) rfl tv4 ?_)
     refine xb rfl ?_ ?_ <;> intro b2
     refine xv rfl rfl rfl ?_; rotate_left
     refine xj (k := 24) rfl (q9 rfl [] (.take 0 [] (.take 1 (Rg 2 13) (Tk [2, 3, 4] (.take 5 (Rg 7 8) (.alt 6 (Tk (Rg 7 4) (.take 11 (Rg 12 3) (.alt 12 (Tk [13, 14] .done) .nil))) .nil))))) (by kernel_rfl) (xj (k := 11) rfl (q9 rfl [] (.take 0 [3] (.take 1 [2, 3] (.alt 2 (.take 3 [] .done) .nil))) (by kernel_rfl) (z1 rfl (q0c ⟨1, to, fr, mc, s, b, v, ob, ov⟩ hk) rfl ⟨tv10, trivial⟩ ?_))))
     refine xb rfl ?_ ?_ <;> intro b3
     refine xv rfl rfl rfl ?_; rotate_left
     refine xv rfl rfl rfl ?_; rotate_left
     all_goals
      refine vi ?_
      have hI : decide (y13 (fun x : Con => x.id == mc) c.cons < 0) = (z08 c.cons mc).isNone := q0b
      rw [y4w c ⟨1, to, fr, mc, s, b, v, ob, ov⟩ hk rfl hI.symm hR (q5h ⟨1, to, fr, mc, s, b, v, ob, ov⟩ (Msg.bare ⟨1, to, fr, mc, s, b, v, ob, ov⟩)).symm]
      have hN := z6m ob ov
      clear hI hR hE hf hk ho
      ((try dsimp only at *); simp_all only [Bool.not_eq_true', Bool.not_eq_false', Bool.not_true, Bool.not_false, Bool.and_true, Bool.true_and, Bool.and_false, Bool.false_and, Bool.and_self, Bool.or_true, Bool.true_or, Bool.or_false, Bool.false_or, Bool.false_eq_true, if_true, if_false, reduceIte]; done)
   · dsimp only at h
     subst h
     have hE := q1g c ho ⟨2, to, fr, mc, s, b, v, ob, ov⟩ hk
     have hR : ranges c ⟨2, to, fr, mc, s, b, v, ob, ov⟩ = (z0t c.cons mc s && Go.Sx.within b 0 1000 && Go.Sx.within v 1 2) := by simp [ranges, Msg.shd]
     refine z1 rfl (qh _ _ _) rfl tv4 (xj (k := 1) rfl (z1 rfl (hE) rfl ⟨trivial, tv10, trivial⟩ ?_))
     refine xb rfl ?_ ?_ <;> intro b0
     refine xv rfl rfl rfl ?_; rotate_left
     refine z1 rfl (hf) rfl tv3 ?_
     refine xb rfl ?_ ?_ <;> intro b1
     refine xv rfl rfl rfl ?_; rotate_left
     refine xj (k := 5) rfl (z1 rfl (zv _ (by assumption) _ _) rfl tv4 ?_)
     refine xb rfl ?_ ?_ <;> intro b2
     refine xv rfl rfl rfl ?_; rotate_left
     refine xj (k := 7) rfl (z1 rfl (zz _) rfl ⟨trivial, trivial⟩ (xj (k := 2) rfl ?_))
     refine xb rfl ?_ ?_ <;> intro b3
     refine xv rfl rfl rfl ?_; rotate_left
     refine xj (k := 11) rfl (z1 rfl (z07 _) rfl ⟨trivial, trivial⟩ (xj (k := 2) rfl ?_))
     refine xb rfl ?_ ?_ <;> intro b4
     refine xv rfl rfl rfl ?_; rotate_left
     refine q9 rfl [] (.take 0 [] (.take 1 (Rg 2 13) (Tk [2, 3, 4] (.take 5 (Rg 7 8) (.alt 6 (Tk (Rg 7 4) (.take 11 (Rg 12 3) (.alt 12 (Tk [13, 14] .done) .nil))) .nil))))) (by kernel_rfl) (xj (k := 11) rfl (q9 rfl [] (.take 0 [3] (.take 1 [2, 3] (.alt 2 (.take 3 [] .done) .nil))) (by kernel_rfl) (z1 rfl (q0c ⟨2, to, fr, mc, s, b, v, ob, ov⟩ hk) rfl ⟨tv10, trivial⟩ ?_)))
     refine xb rfl ?_ ?_ <;> intro b5
     refine xv rfl rfl rfl ?_; rotate_left
     refine xv rfl rfl rfl ?_; rotate_left
     all_goals
      refine vi ?_
      have hI : decide (y13 (fun x : Con => x.id == mc) c.cons < 0) = (z08 c.cons mc).isNone := q0b
      rw [y4w c ⟨2, to, fr, mc, s, b, v, ob, ov⟩ hk rfl hI.symm hR (q5h ⟨2, to, fr, mc, s, b, v, ob, ov⟩ (Msg.bare ⟨2, to, fr, mc, s, b, v, ob, ov⟩)).symm]
      have hN := z6m ob ov
      clear hI hR hE hf hk ho
      ((try dsimp only at *); simp_all only [Bool.not_eq_true', Bool.not_eq_false', Bool.not_true, Bool.not_false, Bool.and_true, Bool.true_and, Bool.and_false, Bool.false_and, Bool.and_self, Bool.or_true, Bool.true_or, Bool.or_false, Bool.false_or, Bool.false_eq_true, if_true, if_false, reduceIte]; done)
   · dsimp only at h
     subst h
     have hE := q1g c ho ⟨3, to, fr, mc, s, b, v, ob, ov⟩ hk
     have hR : ranges c ⟨3, to, fr, mc, s, b, v, ob, ov⟩ = (z0t c.cons mc s && Go.Sx.within b 0 1000 && Go.Sx.within v 1 2) := by simp [ranges, Msg.shd]
     refine z1 rfl (qh _ _ _) rfl tv4 (xj (k := 1) rfl (z1 rfl (hE) rfl ⟨trivial, tv10, trivial⟩ ?_))
     refine xb rfl ?_ ?_ <;> intro b0
     refine xv rfl rfl rfl ?_; rotate_left
     refine z1 rfl (hf) rfl tv3 ?_
     refine xb rfl ?_ ?_ <;> intro b1
     refine xv rfl rfl rfl ?_; rotate_left
     refine xj (k := 5) rfl (z1 rfl (zv _ (by assumption) _ _) rfl tv4 ?_)
     refine xb rfl ?_ ?_ <;> intro b2
     refine xv rfl rfl rfl ?_; rotate_left
     refine xj (k := 7) rfl (z1 rfl (zz _) rfl ⟨trivial, trivial⟩ (xj (k := 2) rfl ?_))
     refine xb rfl ?_ ?_ <;> intro b3
     refine xv rfl rfl rfl ?_; rotate_left
     refine xj (k := 11) rfl (z1 rfl (z07 _) rfl ⟨trivial, trivial⟩ (xj (k := 2) rfl ?_))
     refine xb rfl ?_ ?_ <;> intro b4
     refine xv rfl rfl rfl ?_; rotate_left
     refine q9 rfl [] (.take 0 [] (.take 1 (Rg 2 13) (Tk [2, 3, 4] (.take 5 (Rg 7 8) (.alt 6 (Tk (Rg 7 4) (.take 11 (Rg 12 3) (.alt 12 (Tk [13, 14] .done) .nil))) .nil))))) (by kernel_rfl) (xj (k := 11) rfl (q9 rfl [] (.take 0 [3] (.take 1 [2, 3] (.alt 2 (.take 3 [] .done) .nil))) (by kernel_rfl) (z1 rfl (q0c ⟨3, to, fr, mc, s, b, v, ob, ov⟩ hk) rfl ⟨tv10, trivial⟩ ?_)))
     refine xb rfl ?_ ?_ <;> intro b5
     refine xv rfl rfl rfl ?_; rotate_left
     refine xv rfl rfl rfl ?_; rotate_left
     all_goals
      refine vi ?_
      have hI : decide (y13 (fun x : Con => x.id == mc) c.cons < 0) = (z08 c.cons mc).isNone := q0b
      rw [y4w c ⟨3, to, fr, mc, s, b, v, ob, ov⟩ hk rfl hI.symm hR (q5h ⟨3, to, fr, mc, s, b, v, ob, ov⟩ (Msg.bare ⟨3, to, fr, mc, s, b, v, ob, ov⟩)).symm]
      have hN := z6m ob ov
      clear hI hR hE hf hk ho
      ((try dsimp only at *); simp_all only [Bool.not_eq_true', Bool.not_eq_false', Bool.not_true, Bool.not_false, Bool.and_true, Bool.true_and, Bool.and_false, Bool.false_and, Bool.and_self, Bool.or_true, Bool.true_or, Bool.or_false, Bool.false_or, Bool.false_eq_true, if_true, if_false, reduceIte]; done)
   · dsimp only at h
     subst h
     have hE := q1g c ho ⟨4, to, fr, mc, s, b, v, ob, ov⟩ hk
     have hR : ranges c ⟨4, to, fr, mc, s, b, v, ob, ov⟩ = (z0t c.cons mc s && Go.Sx.within b 0 1000) := by simp [ranges, Msg.shd]
     refine z1 rfl (qh _ _ _) rfl tv4 (xj (k := 1) rfl (z1 rfl (hE) rfl ⟨trivial, tv10, trivial⟩ ?_))
     refine xb rfl ?_ ?_ <;> intro b0
     refine xv rfl rfl rfl ?_; rotate_left
     refine z1 rfl (hf) rfl tv3 ?_
     refine xb rfl ?_ ?_ <;> intro b1
     refine xv rfl rfl rfl ?_; rotate_left
     refine xj (k := 5) rfl (z1 rfl (zv _ (by assumption) _ _) rfl tv4 ?_)
     refine xb rfl ?_ ?_ <;> intro b2
     refine xv rfl rfl rfl ?_; rotate_left
     refine xj (k := 7) rfl (z1 rfl (zz _) rfl ⟨trivial, trivial⟩ (xj (k := 2) rfl ?_))
     refine xb rfl ?_ ?_ <;> intro b3
     refine xv rfl rfl rfl ?_; rotate_left
     refine xj (k := 14) rfl (q9 rfl [] (.take 0 [] (.take 1 (Rg 2 13) (Tk [2, 3, 4] (.take 5 (Rg 7 8) (.alt 6 (Tk (Rg 7 4) (.take 11 (Rg 12 3) (.alt 12 (Tk [13, 14] .done) .nil))) .nil))))) (by kernel_rfl) (xj (k := 11) rfl (q9 rfl [] (.take 0 [3] (.take 1 [2, 3] (.alt 2 (.take 3 [] .done) .nil))) (by kernel_rfl) (z1 rfl (q0c ⟨4, to, fr, mc, s, b, v, ob, ov⟩ hk) rfl ⟨tv10, trivial⟩ ?_))))
     refine xb rfl ?_ ?_ <;> intro b4
     refine xv rfl rfl rfl ?_; rotate_left
     refine xv rfl rfl rfl ?_; rotate_left
     all_goals
      refine vi ?_
      have hI : decide (y13 (fun x : Con => x.id == mc) c.cons < 0) = (z08 c.cons mc).isNone := q0b
      rw [y4w c ⟨4, to, fr, mc, s, b, v, ob, ov⟩ hk rfl hI.symm hR (q5h ⟨4, to, fr, mc, s, b, v, ob, ov⟩ (Msg.bare ⟨4, to, fr, mc, s, b, v, ob, ov⟩)).symm]
      have hN := z6m ob ov
      clear hI hR hE hf hk ho
      ((try dsimp only at *); simp_all only [Bool.not_eq_true', Bool.not_eq_false', Bool.not_true, Bool.not_false, Bool.and_true, Bool.true_and, Bool.and_false, Bool.false_and, Bool.and_self, Bool.or_true, Bool.true_or, Bool.or_false, Bool.false_or, Bool.false_eq_true, if_true, if_false, reduceIte]; done)
   · dsimp only at h
     subst h
     have hE := q1g c ho ⟨5, to, fr, mc, s, b, v, ob, ov⟩ hk
     have hR : ranges c ⟨5, to, fr, mc, s, b, v, ob, ov⟩ = (z0t c.cons mc s && Go.Sx.within b 0 1000 && ((ob == -1 && ov == 0) || Vt.ok ⟨ob, ov⟩)) := by simp [ranges, Msg.shd]
     refine z1 rfl (qh _ _ _) rfl tv4 (xj (k := 1) rfl (z1 rfl (hE) rfl ⟨trivial, tv10, trivial⟩ ?_))
     refine xb rfl ?_ ?_ <;> intro b0
     refine xv rfl rfl rfl ?_; rotate_left
     refine z1 rfl (hf) rfl tv3 ?_
     refine xb rfl ?_ ?_ <;> intro b1
     refine xv rfl rfl rfl ?_; rotate_left
     refine xj (k := 5) rfl (z1 rfl (zv _ (by assumption) _ _) rfl tv4 ?_)
     refine xb rfl ?_ ?_ <;> intro b2
     refine xv rfl rfl rfl ?_; rotate_left
     refine xj (k := 7) rfl (z1 rfl (zz _) rfl ⟨trivial, trivial⟩ (xj (k := 2) rfl ?_))
     refine xb rfl ?_ ?_ <;> intro b3
     refine xv rfl rfl rfl ?_; rotate_left
     refine xj (k := 14) rfl (q9 rfl [] (.take 0 [] (.take 1 (Rg 2 13) (Tk [2, 3, 4] (.take 5 (Rg 7 8) (.alt 6 (Tk (Rg 7 4) (.take 11 (Rg 12 3) (.alt 12 (Tk [13, 14] .done) .nil))) .nil))))) (by kernel_rfl) (xj (k := 3) rfl (z1 rfl (y17) rfl trivial (xj (k := 2) rfl ?_))))
     refine xb rfl ?_ ?_ <;> intro b4
     refine xj (k := 2) rfl (z1 rfl (q1p ⟨ob, ov⟩) rfl ⟨tv3, trivial⟩ (xj (k := 2) rfl ?_))
     refine xb rfl ?_ ?_ <;> intro b5
     refine xv rfl rfl rfl ?_; rotate_left
     refine q9 rfl [] (.take 0 [3] (.take 1 [2, 3] (.alt 2 (.take 3 [] .done) .nil))) (by kernel_rfl) (z1 rfl (q0c ⟨5, to, fr, mc, s, b, v, ob, ov⟩ hk) rfl ⟨tv10, trivial⟩ ?_)
     refine xb rfl ?_ ?_ <;> intro b6
     refine xv rfl rfl rfl ?_; rotate_left
     refine xv rfl rfl rfl ?_; rotate_left
     refine xj (k := 5) rfl (q9 rfl [] (.take 0 [3] (.take 1 [2, 3] (.alt 2 (.take 3 [] .done) .nil))) (by kernel_rfl) (z1 rfl (q0c ⟨5, to, fr, mc, s, b, v, ob, ov⟩ hk) rfl ⟨tv10, trivial⟩ ?_))
     refine xb rfl ?_ ?_ <;> intro b5
     refine xv rfl rfl rfl ?_; rotate_left
     refine xv rfl rfl rfl ?_; rotate_left
     all_goals
      refine vi ?_
      have hI : decide (y13 (fun x : Con => x.id == mc) c.cons < 0) = (z08 c.cons mc).isNone := q0b
      rw [y4w c ⟨5, to, fr, mc, s, b, v, ob, ov⟩ hk rfl hI.symm hR (q5h ⟨5, to, fr, mc, s, b, v, ob, ov⟩ (Msg.bare ⟨5, to, fr, mc, s, b, v, ob, ov⟩)).symm]
      have hN := z6m ob ov
      clear hI hR hE hf hk ho
      ((try dsimp only at *); simp_all only [Bool.not_eq_true', Bool.not_eq_false', Bool.not_true, Bool.not_false, Bool.and_true, Bool.true_and, Bool.and_false, Bool.false_and, Bool.and_self, Bool.or_true, Bool.true_or, Bool.or_false, Bool.false_or, Bool.false_eq_true, if_true, if_false, reduceIte]; done)
   · dsimp only at h
     subst h
     have hE := q1g c ho ⟨6, to, fr, mc, s, b, v, ob, ov⟩ hk
     have hR : ranges c ⟨6, to, fr, mc, s, b, v, ob, ov⟩ = (z0t c.cons mc to && Go.Sx.within v 1 2) := by simp [ranges, Msg.shd]
     refine z1 rfl (qh _ _ _) rfl tv4 (xj (k := 1) rfl (z1 rfl (hE) rfl ⟨trivial, tv10, trivial⟩ ?_))
     refine xb rfl ?_ ?_ <;> intro b0
     refine xv rfl rfl rfl ?_; rotate_left
     refine z1 rfl (hf) rfl tv3 ?_
     refine xb rfl ?_ ?_ <;> intro b1
     refine xv rfl rfl rfl ?_; rotate_left
     refine xj (k := 5) rfl (z1 rfl (zv _ (by assumption) _ _) rfl tv4 ?_)
     refine xb rfl ?_ ?_ <;> intro b2
     refine xv rfl rfl rfl ?_; rotate_left
     refine xj (k := 21) rfl (z1 rfl (z07 _) rfl ⟨trivial, trivial⟩ (xj (k := 2) rfl ?_))
     refine xb rfl ?_ ?_ <;> intro b3
     refine xv rfl rfl rfl ?_; rotate_left
     refine q9 rfl [] (.take 0 [] (.take 1 (Rg 2 13) (Tk [2, 3, 4] (.take 5 (Rg 7 8) (.alt 6 (Tk (Rg 7 4) (.take 11 (Rg 12 3) (.alt 12 (Tk [13, 14] .done) .nil))) .nil))))) (by kernel_rfl) (xj (k := 11) rfl (q9 rfl [] (.take 0 [3] (.take 1 [2, 3] (.alt 2 (.take 3 [] .done) .nil))) (by kernel_rfl) (z1 rfl (q0c ⟨6, to, fr, mc, s, b, v, ob, ov⟩ hk) rfl ⟨tv10, trivial⟩ ?_)))
     refine xb rfl ?_ ?_ <;> intro b4
     refine xv rfl rfl rfl ?_; rotate_left
     refine xv rfl rfl rfl ?_; rotate_left
     all_goals
      refine vi ?_
      have hI : decide (y13 (fun x : Con => x.id == mc) c.cons < 0) = (z08 c.cons mc).isNone := q0b
      rw [y4w c ⟨6, to, fr, mc, s, b, v, ob, ov⟩ hk rfl hI.symm hR (q5h ⟨6, to, fr, mc, s, b, v, ob, ov⟩ (Msg.bare ⟨6, to, fr, mc, s, b, v, ob, ov⟩)).symm]
      have hN := z6m ob ov
      clear hI hR hE hf hk ho
      ((try dsimp only at *); simp_all only [Bool.not_eq_true', Bool.not_eq_false', Bool.not_true, Bool.not_false, Bool.and_true, Bool.true_and, Bool.and_false, Bool.false_and, Bool.and_self, Bool.or_true, Bool.true_or, Bool.or_false, Bool.false_or, Bool.false_eq_true, if_true, if_false, reduceIte]; done)
 · have hk : Go.Sx.within m.k 1 6 = false := by simpa using hk
   refine z1 rfl (qh _ _ _) rfl tv4 ?_
   refine xb rfl ?_ ?_ <;> intro b0
   refine xv rfl rfl rfl ?_; rotate_left
   exact absurd b0 (by simp; omega)
   all_goals first
    | (refine vi ?_; unfold y0e; rw [hk]; rfl)
    | (exfalso; simp_all; done)
theorem q9y (c : Clu) (ho : qz c) (m : Msg) : PC Tryz.prog 151 [.agg c.cs, .agg m.cs] (rI (y0e c m)) := by
 refine PC.begin Tryz.func151 rfl (by kernel_rfl) ?_
 by_cases hk : Go.Sx.within m.k 1 6 = true
 · have hT := qa2 c ho m hk
   have hF := q7n c ho m hk
   have hR := y5o c ho m hk
   have hP := y90 m hk
   refine zbu (n := 0) rfl (ι := Unit) (fun _ => True) (fun _ => ⟨[(2, .one (.b (.p c.cs))), (3, .one (.a 3 0))], [(3, .var (m.cs.map .b))]⟩) ?_ ?_
   · intro K hK
     exact q8 rfl (hK _ () trivial ⟨⟨⟨rfl, rfl, rfl⟩, ⟨rfl, rfl, rfl⟩, trivial⟩, ⟨lcr, trivial⟩, rfl⟩)
   intro _ _
   cases h : z08 c.cons m.c with
   | none =>
     refine z1 rfl (zk _ _ _) rfl tv4 ?_
     refine xb rfl ?_ ?_ <;> intro b0
     exact absurd b0 (by simp; omega)
     refine z1 rfl (hT) rfl ⟨trivial, tv10, trivial⟩ ?_
     refine xb rfl ?_ ?_ <;> intro b1
     refine xj (k := 4) rfl ?_
     refine xv rfl rfl rfl ?_; rotate_left
     refine xj (k := 1) rfl (z1 rfl (hF) rfl ⟨trivial, tv10, trivial⟩ (xj (k := 2) rfl ?_))
     refine xb rfl ?_ ?_ <;> intro b2
     refine xv rfl rfl rfl ?_; rotate_left
     refine z1 rfl (z15 c ho m.c h) rfl tv3 (xj (k := 1) rfl ?_)
     refine xv rfl rfl rfl ?_; rotate_left
     all_goals
      refine vi ?_
      rw [y4w c m hk rfl (show (z08 c.cons m.c).isNone = true by rw [h]; rfl) rfl rfl]
      unfold ends
      clear hT hF hR hP ho h hk
      ((try dsimp only at *); simp_all only [Bool.not_eq_true', Bool.not_eq_false', Bool.not_true, Bool.not_false, Bool.and_true, Bool.true_and, Bool.and_false, Bool.false_and, Bool.and_self, Bool.or_true, Bool.true_or, Bool.or_false, Bool.false_or, Bool.false_eq_true, if_true, if_false, reduceIte]; done)
   | some x =>
     refine z1 rfl (zk _ _ _) rfl tv4 ?_
     refine xb rfl ?_ ?_ <;> intro b0
     exact absurd b0 (by simp; omega)
     refine z1 rfl (hT) rfl ⟨trivial, tv10, trivial⟩ ?_
     refine xb rfl ?_ ?_ <;> intro b1
     refine xj (k := 4) rfl ?_
     refine xv rfl rfl rfl ?_; rotate_left
     refine xj (k := 1) rfl (z1 rfl (hF) rfl ⟨trivial, tv10, trivial⟩ (xj (k := 2) rfl ?_))
     refine xb rfl ?_ ?_ <;> intro b2
     refine xv rfl rfl rfl ?_; rotate_left
     refine z1 rfl (y15 c ho m.c x h) rfl tv3 (xj (k := 1) rfl (z1 rfl (hR) rfl ⟨trivial, tv10, trivial⟩ ?_))
     refine xb rfl ?_ ?_ <;> intro b3
     refine xv rfl rfl rfl ?_; rotate_left
     refine q9 rfl [] (.take 0 [3, 4] (.take 1 (Rg 2 3) (.alt 2 (Tk [3, 4] .done) .nil))) (by kernel_rfl) (z1 rfl (hP) rfl ⟨tv10, trivial⟩ ?_)
     refine xb rfl ?_ ?_ <;> intro b4
     refine xv rfl rfl rfl ?_; rotate_left
     refine xv rfl rfl rfl ?_; rotate_left
     all_goals
      refine vi ?_
      rw [y4w c m hk rfl (show (z08 c.cons m.c).isNone = false by rw [h]; rfl) rfl (q5h m m.bare).symm]
      unfold ends
      clear hT hF hR hP ho h hk
      ((try dsimp only at *); simp_all only [Bool.not_eq_true', Bool.not_eq_false', Bool.not_true, Bool.not_false, Bool.and_true, Bool.true_and, Bool.and_false, Bool.false_and, Bool.and_self, Bool.or_true, Bool.true_or, Bool.or_false, Bool.false_or, Bool.false_eq_true, if_true, if_false, reduceIte]; done)
 · have hk : Go.Sx.within m.k 1 6 = false := by simpa using hk
   refine z1 rfl (zk _ _ _) rfl tv4 ?_
   refine xb rfl ?_ ?_ <;> intro b0
   refine xv rfl rfl rfl ?_; rotate_left
   exact absurd b0 (by simp; omega)
   all_goals first
    | (refine vi ?_; unfold y0e; rw [hk]; rfl)
    | (exfalso; simp_all; done)
theorem y8p {a b c d a' b' c' d' : Int} : y0y [.int .i64 a, .int .i64 b, .int .i64 c, .int .i64 d] [.int .i64 a', .int .i64 b', .int .i64 c', .int .i64 d'] = decide (Leg.mk a b c d = Leg.mk a' b' c' d') := by
 rw [Bool.eq_iff_iff]; simp [y0y]
theorem q7h (us vs : List Leg) (hx : us.length ≤ 1048576) : PC Tryz.prog 310 [.one (.l (us.map Leg.cs)), .one (.l (vs.map Leg.cs))] (rB (decide (us = vs))) := by
 refine PC.begin Tryz.func310 rfl (by kernel_rfl) ?_
 refine xb rfl ?_ ?_ <;> intro h0
 · have hne : ¬ us.length = vs.length := by simp at h0; omega
   refine xv rfl rfl rfl ?_
   all_goals (refine vb ?_; rw [eq_comm, decide_eq_false_iff_not]; exact fun e => hne (by rw [e]))
 · have he : us.length = vs.length := by simp at h0; omega
   refine zc rfl (ι := Nat) (fun i => i ≤ us.length ∧ us.take i = vs.take i) (fun i => ⟨[(13, sV (.int .i64 i)), (12, sV (.int .i64 (us.map Leg.cs).length)), (0, .one (.b (.l (us.map Leg.cs)))), (1, .one (.b (.l (vs.map Leg.cs))))], []⟩) (fun i => us.length - i) 0 ⟨Nat.zero_le _, rfl⟩ ?_ ?_
   · exact ⟨⟨rfl, rfl, rfl, rfl, trivial⟩, trivial, rfl⟩
   · intro i ⟨hi, hq⟩ J hJ
     refine xb rfl ?_ ?_ <;> intro h
     · have h : i < us.length := by simpa using h
       obtain ⟨x, hx1⟩ := gx h
       obtain ⟨y, hy1⟩ := gx (xs := vs) (i := i) (by omega)
       have hg := gm Leg.cs hx1
       have hg2 := gm Leg.cs hy1
       refine q9 rfl [] (Tk [0, 1, 2] (.take 3 [8] (Tk [4, 5, 6] (.take 7 [8] (.take 8 [] .done))))) (by kernel_rfl) (xs rfl (nn_ _) (y9 rfl _ hg (xs rfl rfl (xs rfl (nn_ _) (y9 rfl _ hg2 (xs rfl rfl ?_))))))
       refine xb rfl ?_ ?_ <;> intro b0
       refine xv rfl rfl rfl ?_; rotate_left
       rotate_left
       · rw [y8p] at b0
         refine vb ?_; rw [eq_comm, decide_eq_false_iff_not]; intro e; subst e; rw [hx1] at hy1; cases hy1; simp at b0
       · rw [y8p] at b0
         have e : x = y := by simpa only [Bool.not_eq_false', decide_eq_true_eq] using b0
         exact q8 rfl (hJ _ (i + 1) ⟨by omega, by rw [List.take_add_one, List.take_add_one, hx1, hy1, hq, e]⟩ (by omega) ⟨⟨cwi (by omega) (by omega) (by omega), rfl, rfl, rfl, trivial⟩, trivial, rfl⟩)
     · have h : i = us.length := by have : ¬ i < us.length := (by simpa using h); omega
       rw [h, List.take_length, he, List.take_length] at hq
       refine xv rfl rfl rfl ?_
       all_goals (refine vb ?_; rw [hq]; simp)
theorem y66 (a b : Con) (ha : a.legs.length ≤ 1048576) : PC Tryz.prog 206 [.agg a.cs, .agg b.cs] (rB (a.same b)) := by
 refine PC.begin Tryz.func206 rfl (by kernel_rfl) ?_
 refine xb rfl ?_ ?_ <;> intro b0
 refine xj (k := 4) rfl (z1 rfl (q7h a.legs b.legs ha) rfl tv3 (xj (k := 1) rfl ?_))
 refine xv rfl rfl rfl ?_; rotate_left
 refine xj (k := 5) rfl ?_
 refine xv rfl rfl rfl ?_; rotate_left
 all_goals (refine vb ?_; unfold Con.same; simp_all)
theorem y4c (a b : Con) (ha : a.legs.length ≤ 1048576) : PC Tryz.prog 117 [.agg a.cs, .agg b.cs] (rB (a.same b)) := by
 refine PC.begin Tryz.func117 rfl (by kernel_rfl) ?_
 refine xb rfl ?_ ?_ <;> intro b0
 refine xj (k := 8) rfl ?_
 refine xv rfl rfl rfl ?_; rotate_left
 refine xj (k := 7) rfl ?_
 refine xb rfl ?_ ?_ <;> intro b1
 refine xv rfl rfl rfl ?_; rotate_left
 rotate_left
 · have h0 : ¬ a.id = b.id := by simpa using b0
   refine vb ?_; simp [Con.same, h0]
 · have hne : ¬ a.legs.length = b.legs.length := by simp at b1; omega
   refine vb ?_; unfold Con.same; rw [eq_comm, Bool.and_eq_false_iff]; exact .inr (decide_eq_false (fun e => hne (by rw [e])))
 · skip
   · have h0 : a.id = b.id := by simpa using b0
     have he : a.legs.length = b.legs.length := by simp at b1; omega
     clear b0 b1
     refine zc rfl (ι := Nat) (fun i => i ≤ a.legs.length ∧ a.legs.take i = b.legs.take i) (fun i => ⟨[(5, sV (.int .i64 i)), (2, .one (.a 2 0)), (3, .one (.a 3 0))], [(2, .var (a.cs.map .b)), (3, .var (b.cs.map .b))]⟩) (fun i => a.legs.length - i) 0 ⟨Nat.zero_le _, rfl⟩ ?_ ?_
     · exact ⟨⟨rfl, ⟨rfl, rfl, rfl⟩, ⟨rfl, rfl, rfl⟩, trivial⟩, ⟨lcr, lcr, trivial⟩, rfl⟩
     · intro i ⟨hi, hq⟩ J hJ
       refine xb rfl ?_ ?_ <;> intro h
       · have h : i < a.legs.length := by simpa using h
         obtain ⟨x, hx1⟩ := gx h
         obtain ⟨y, hy1⟩ := gx (xs := b.legs) (i := i) (by omega)
         have hg := gm Leg.cs hx1
         have hg2 := gm Leg.cs hy1
         refine q9 rfl [] (.take 0 [] (.take 1 [3, 4, 10] (Tk [2, 3] (.take 4 [10] (.take 5 [] (.take 6 (Rg 8 3) (Tk [7, 8] (.take 9 [10] (.take 10 [] .done))))))))) (by kernel_rfl) (xs rfl (nn_ _) (y9 rfl _ hg (xs rfl rfl (xs rfl (nn_ _) (y9 rfl _ hg2 (xs rfl rfl ?_))))))
         refine xb rfl ?_ ?_ <;> intro b0
         refine xv rfl rfl rfl ?_; rotate_left
         rotate_left
         · rw [y8p] at b0
           refine vb ?_; unfold Con.same; rw [eq_comm, Bool.and_eq_false_iff]; refine .inr (decide_eq_false (fun e => ?_)); rw [e, hy1] at hx1; cases hx1; simp at b0
         · rw [y8p] at b0
           have e : x = y := by simpa only [Bool.not_eq_false', decide_eq_true_eq] using b0
           exact q8 rfl (hJ _ (i + 1) ⟨by omega, by rw [List.take_add_one, List.take_add_one, hx1, hy1, hq, e]⟩ (by omega) ⟨⟨cwi (by omega) (by omega) (by omega), ⟨rfl, rfl, rfl⟩, ⟨rfl, rfl, rfl⟩, trivial⟩, ⟨lcr, lcr, trivial⟩, rfl⟩)
       · have h : i = a.legs.length := by have : ¬ i < a.legs.length := (by simpa using h); omega
         rw [h, List.take_length, he, List.take_length] at hq
         refine xv rfl rfl rfl ?_
         all_goals (refine vb ?_; simp [Con.same, h0, hq])
theorem y45 (c : Clu) (ho : qz c) (l : Leg) : PC Tryz.prog 308 [.agg l.cs, .one (.p [.p c.cs])] (rB (!(Go.Sx.within l.s 0 ((c.shs.length : Int) - 1)))) := by
 refine PC.begin Tryz.func308 rfl (by kernel_rfl) ?_
 have q1 := ho.2.1.1
 have p1 : (c.shs.map Shd.cs).length ≤ 1048576 := by simpa using q1
 refine q9 rfl [] (.take 0 [] (.take 1 (Rg 6 3) (.take 2 (Rg 3 6) (Tk [3, 4] (.take 5 (Rg 6 3) (.alt 6 (Tk [7, 8] .done) .nil)))))) (by kernel_rfl) (z1 rfl (y29 _ _ (by assumption)) rfl tv3 (xv rfl rfl rfl ?_))
 all_goals (refine vb ?_; rw [List.length_map])
theorem q2e (c : Clu) (ho : qz c) (x : Con) (hl : x.legs.length ≤ 1048576) : PC Tryz.prog 205 [.one (.p c.cs), .agg x.cs] (rB (!(z9w c x))) := by
 refine PC.begin Tryz.func205 rfl (by kernel_rfl) ?_
 have hi := z5d _ x.legs (fun l => !(Go.Sx.within l.s 0 ((c.shs.length : Int) - 1))) 308 (.p [.p c.cs]) rfl (fun l _ => y45 c ho l) hl
 refine z1 rfl (hi) rfl ⟨trivial, (List.forall_mem_cons.2 ⟨⟨trivial, trivial⟩, (fun _ h => nomatch h)⟩), trivial⟩ ?_
 refine xr rfl (yk rfl ⟨⟨rfl, rfl, trivial⟩, z6 rfl⟩)
theorem y8t (c : Clu) (ho : qz c) : PC Tryz.prog 143 [.one (.p c.cs)] (rI (scan (y0a c) c.cons.length)) := by
 refine PC.begin Tryz.func143 rfl (by kernel_rfl) ?_
 have hl := ho.1.1
 refine zc rfl (ι := Nat) (fun i => i ≤ c.cons.length ∧ ∀ j, j < i → y0a c j = 0) (fun i => ⟨[(11, sV (.int .i64 i)), (10, sV (.int .i64 (c.cons.map Con.cs).length)), (9, .one (.b (.l (c.cons.map Con.cs)))), (0, .one (.b (.p c.cs)))], []⟩) (fun i => c.cons.length - i) 0 ⟨Nat.zero_le _, fun j hj => by omega⟩ ?_ ?_
 · exact ⟨⟨rfl, rfl, rfl, rfl, trivial⟩, trivial, rfl⟩
 · intro i ⟨hi, h0⟩ J hJ
   refine xb rfl ?_ ?_ <;> intro h
   · have h : i < c.cons.length := by simpa using h
     obtain ⟨x, hx⟩ := gx h
     have hg := gm Con.cs hx
     have hxl := ho.1.2 x (List.mem_of_getElem? hx)
     rcases Nat.eq_zero_or_pos i with hz | hz
     · subst hz
       refine xs rfl (nn_ _) (y9 rfl _ hg (xs rfl rfl (z1 rfl (y46 _ (by assumption)) rfl ⟨tv3, trivial⟩ ?_)))
       refine xb rfl ?_ ?_ <;> intro b0
       refine xv rfl rfl rfl ?_; rotate_left
       refine z1 rfl (q2e c ho x hxl) rfl ⟨trivial, tv3, trivial⟩ ?_
       refine xb rfl ?_ ?_ <;> intro b1
       refine xv rfl rfl rfl ?_; rotate_left
       refine q9 rfl [] (Tk (Rg 0 6) (.take 6 (Rg 9 3 ++ Rg 14 3) (Tk (Rg 7 4) (.take 11 (Rg 14 3) (.take 12 [] (.take 13 (Rg 14 3) (Tk [14, 15, 16] .done))))))) (by kernel_rfl) ?_
       refine xj (k := 14) rfl ?_; rotate_left
       all_goals (first | (refine vi (z7 h h0 ?_ (by first | decide | decide | simp_all)); clear hJ h0 hg; (first | (simp_all [y0a, ahead_zero]; done) | (simp_all [y0a, ahead_zero]; omega)); done) | (refine q8 rfl (hJ _ 1 ⟨by omega, za h0 ?_⟩ (by omega) ⟨⟨cwi (by omega) (by omega) (by omega), rfl, rfl, rfl, trivial⟩, trivial, rfl⟩); clear hJ h0 hg; (first | (simp_all [y0a, ahead_zero]; done) | (simp_all [y0a, ahead_zero]; omega)); done) | skip)
     · obtain ⟨p, hp⟩ := gx (xs := c.cons) (i := i - 1) (by omega)
       have hgp := z13 Con.cs hz (by omega) hp
       refine xs rfl (nn_ _) (y9 rfl _ hg (xs rfl rfl (z1 rfl (y46 _ (by assumption)) rfl ⟨tv3, trivial⟩ ?_)))
       refine xb rfl ?_ ?_ <;> intro b0
       refine xv rfl rfl rfl ?_; rotate_left
       refine z1 rfl (q2e c ho x hxl) rfl ⟨trivial, tv3, trivial⟩ ?_
       refine xb rfl ?_ ?_ <;> intro b1
       refine xv rfl rfl rfl ?_; rotate_left
       refine q9 rfl [] (Tk (Rg 0 6) (.take 6 (Rg 9 3 ++ Rg 14 3) (Tk (Rg 7 4) (.take 11 (Rg 14 3) (.take 12 [] (.take 13 (Rg 14 3) (Tk [14, 15, 16] .done))))))) (by kernel_rfl) ?_
       refine xb rfl ?_ ?_ <;> intro b2
       refine xj (k := 6) rfl (xs rfl (z0j hz (by omega)) (y9 rfl _ hgp (xs rfl rfl (xj (k := 6) rfl ?_))))
       refine xb rfl ?_ ?_ <;> intro b3
       refine xv rfl rfl rfl ?_; rotate_left
       rotate_left
       refine xj (k := 13) rfl ?_; rotate_left
       all_goals (first | (refine vi (z7 h h0 ?_ (by first | decide | decide | simp_all)); clear hJ h0 hg hgp; (first | (simp_all [y0a, z8 hz hp]; done) | (simp_all [y0a, z8 hz hp]; omega)); done) | (refine q8 rfl (hJ _ (i + 1) ⟨by omega, za h0 ?_⟩ (by omega) ⟨⟨cwi (by omega) (by omega) (by omega), rfl, rfl, rfl, trivial⟩, trivial, rfl⟩); clear hJ h0 hg hgp; (first | (simp_all [y0a, z8 hz hp]; done) | (simp_all [y0a, z8 hz hp]; omega)); done) | skip)
   · have h : ¬ i < c.cons.length := by simpa using h
     have hz := qc (f := y0a c) (n := c.cons.length) (fun j hj => h0 j (by omega))
     clear hJ
     refine xv rfl rfl rfl ?_
     exact vi (hz.symm)
theorem q93 (c : Clu) (ho : qz c) : PC Tryz.prog 131 [.one (.p c.cs)] (rI (scan (y0a c) c.cons.length)) := by
 refine PC.begin Tryz.func131 rfl (by kernel_rfl) ?_
 have hl := ho.1.1
 have q1 := ho.2.1.1
 refine zc rfl (ι := Nat) (fun i => i ≤ c.cons.length ∧ ∀ j, j < i → y0a c j = 0) (fun i => ⟨[(3, sV (.int .i64 i)), (0, .one (.b (.p c.cs)))], []⟩) (fun i => c.cons.length - i) 0 ⟨Nat.zero_le _, fun j hj => by omega⟩ ?_ ?_
 · exact ⟨⟨rfl, rfl, trivial⟩, trivial, rfl⟩
 · intro i ⟨hi, h0⟩ J hJ
   refine xb rfl ?_ ?_ <;> intro h
   · have h : i < c.cons.length := by simpa using h
     obtain ⟨x, hx⟩ := gx h
     have hg := gm Con.cs hx
     have hxl := ho.1.2 x (List.mem_of_getElem? hx)
     have hla : ql x = 0 → _ := fun h => y7q h c
     rcases Nat.eq_zero_or_pos i with hz | hz
     · subst hz
       refine xs rfl (nn_ _) (y9 rfl _ hg (xs rfl rfl (z1 rfl (z4c _ (by assumption)) rfl ⟨tv3, trivial⟩ ?_)))
       refine xb rfl ?_ ?_ <;> intro b0
       refine xv rfl rfl rfl ?_; rotate_left
       refine z1 rfl (q0m x hxl) rfl ⟨tv3, trivial⟩ (q9 rfl [] (Tk (Rg 0 5) (.take 5 [11] (Tk [6, 7, 8] (.take 9 [10, 11] (Tk [10, 11] .done))))) (by kernel_rfl) (xs rfl (q7q (by simpa using b0)) (y9 rfl _ (z4v (by simpa using b0)) (xs rfl rfl ?_))))
       refine xb rfl ?_ ?_ <;> intro b1
       refine xv rfl rfl rfl ?_; rotate_left
       refine q9 rfl [] (Tk (Rg 0 4) (.take 4 [14, 15] (Tk [5, 6, 7] (.take 8 (Rg 11 5) (Tk (Rg 9 4) (.take 13 [14, 15] (Tk [14, 15] .done))))))) (by kernel_rfl) ?_
       refine xj (k := 14) rfl ?_; rotate_left
       all_goals (first | (refine vi (z7 h h0 ?_ (by first | decide | decide | simp_all)); clear hJ h0 hg; (first | (simp_all [y0a, ahead_zero]; done) | (simp_all [y0a, ahead_zero]; omega)); done) | (refine q8 rfl (hJ _ 1 ⟨by omega, za h0 ?_⟩ (by omega) ⟨⟨cwi (by omega) (by omega) (by omega), rfl, trivial⟩, trivial, rfl⟩); clear hJ h0 hg; (first | (simp_all [y0a, ahead_zero]; done) | (simp_all [y0a, ahead_zero]; omega)); done) | skip)
     · obtain ⟨p, hp⟩ := gx (xs := c.cons) (i := i - 1) (by omega)
       have hgp := z13 Con.cs hz (by omega) hp
       refine xs rfl (nn_ _) (y9 rfl _ hg (xs rfl rfl (z1 rfl (z4c _ (by assumption)) rfl ⟨tv3, trivial⟩ ?_)))
       refine xb rfl ?_ ?_ <;> intro b0
       refine xv rfl rfl rfl ?_; rotate_left
       refine z1 rfl (q0m x hxl) rfl ⟨tv3, trivial⟩ (q9 rfl [] (Tk (Rg 0 5) (.take 5 [11] (Tk [6, 7, 8] (.take 9 [10, 11] (Tk [10, 11] .done))))) (by kernel_rfl) (xs rfl (q7q (by simpa using b0)) (y9 rfl _ (z4v (by simpa using b0)) (xs rfl rfl ?_))))
       refine xb rfl ?_ ?_ <;> intro b1
       refine xv rfl rfl rfl ?_; rotate_left
       refine q9 rfl [] (Tk (Rg 0 4) (.take 4 [14, 15] (Tk [5, 6, 7] (.take 8 (Rg 11 5) (Tk (Rg 9 4) (.take 13 [14, 15] (Tk [14, 15] .done))))))) (by kernel_rfl) ?_
       refine xb rfl ?_ ?_ <;> intro b2
       refine xj (k := 8) rfl (xs rfl (z0j hz (by omega)) (y9 rfl _ hgp (xs rfl rfl (xj (k := 4) rfl ?_))))
       refine xb rfl ?_ ?_ <;> intro b3
       refine xv rfl rfl rfl ?_; rotate_left
       rotate_left
       refine xj (k := 13) rfl ?_; rotate_left
       all_goals (first | (refine vi (z7 h h0 ?_ (by first | decide | decide | simp_all)); clear hJ h0 hg hgp; (first | (simp_all [y0a, z8 hz hp]; done) | (simp_all [y0a, z8 hz hp]; omega)); done) | (refine q8 rfl (hJ _ (i + 1) ⟨by omega, za h0 ?_⟩ (by omega) ⟨⟨cwi (by omega) (by omega) (by omega), rfl, trivial⟩, trivial, rfl⟩); clear hJ h0 hg hgp; (first | (simp_all [y0a, z8 hz hp]; done) | (simp_all [y0a, z8 hz hp]; omega)); done) | skip)
   · have h : ¬ i < c.cons.length := by simpa using h
     have hz := qc (f := y0a c) (n := c.cons.length) (fun j hj => h0 j (by omega))
     clear hJ
     refine xv rfl rfl rfl ?_
     exact vi (hz.symm)
theorem yat (rr : List (List Cell)) (us : List Mk) (p : Mk → Bool) (fn : Nat) (c0 : Cell) (c1 : Cell) (hr : rr = us.map Mk.cs) (hf : ∀ x ∈ us, PC Tryz.prog fn [.agg x.cs, .one c0, .one c1] (rB (p x))) (hl : us.length ≤ 1048576) : PC Tryz.prog 342 [.one (.l rr), .one (.f fn [c0, c1])] (rI (y13 p us)) := by
 refine PC.begin Tryz.func342 rfl (by kernel_rfl) ?_
 subst hr
 have hn : (us.map Mk.cs).length = us.length := by simp
 refine zc rfl (ι := Nat) (fun i => i ≤ us.length ∧ ∀ j y, j < i → us[j]? = some y → p y = false) (fun i => ⟨[(8, sV (.int .i64 i)), (7, sV (.int .i64 (us.map Mk.cs).length)), (0, .one (.b (.l (us.map Mk.cs)))), (1, .one (.b (.f fn [c0, c1])))], []⟩) (fun i => us.length - i) 0 ⟨Nat.zero_le _, fun j y hj => by omega⟩ ?_ ?_
 · exact ⟨⟨rfl, rfl, rfl, rfl, trivial⟩, trivial, rfl⟩
 · intro i ⟨hi, h0⟩ J hJ
   refine xb rfl ?_ ?_ <;> intro h
   · have h : i < us.length := by simpa using h
     obtain ⟨x, hx⟩ := gx h
     have hg := gm Mk.cs hx
     have hxm := List.mem_of_getElem? hx
     refine xs rfl (nn_ _) (y9 rfl _ hg (xs rfl rfl (z1 rfl (hf _ hxm) rfl ⟨tv3, trivial, trivial, trivial⟩ ?_)))
     refine xb rfl ?_ ?_ <;> intro b0
     refine xv rfl rfl rfl ?_; rotate_left
     rotate_left
     · exact vi (y01 hx h0 b0).symm
     · exact q8 rfl (hJ _ (i + 1) ⟨by omega, yd hx h0 b0⟩ (by omega) ⟨⟨cwi (by omega) (by omega) (by omega), rfl, rfl, rfl, trivial⟩, trivial, rfl⟩)
   · have h : ¬ i < us.length := by simpa using h
     refine xv rfl rfl rfl ?_
     exact vi (qu (qg (by omega) h0)).symm
theorem y9f (rr : List (List Cell)) (us : List Mk) (p : Mk → Bool) (fn : Nat) (c0 : Cell) (c1 : Cell) (hr : rr = us.map Mk.cs) (hf : ∀ x ∈ us, PC Tryz.prog fn [.agg x.cs, .one c0, .one c1] (rB (p x))) (hl : us.length ≤ 1048576) : PC Tryz.prog 249 [.one (.l rr), .one (.f fn [c0, c1])] (rB (us.any p)) := by
 refine PC.begin Tryz.func249 rfl (by kernel_rfl) ?_
 have hi := yat rr us p fn c0 c1 hr hf hl
 refine z1 rfl (hi) rfl tv3 (xv rfl rfl rfl ?_)
 exact vb y04
theorem ya1 (rr : List (List Cell)) (us : List Slt) (p : Slt → Bool) (fn : Nat) (c0 : Cell) (hr : rr = us.map Slt.cs) (hf : ∀ x ∈ us, PC Tryz.prog fn [.agg x.cs, .one c0] (rB (p x))) (hl : us.length ≤ 1048576) : PC Tryz.prog 345 [.one (.l rr), .one (.f fn [c0])] (rI (y13 p us)) := by
 refine PC.begin Tryz.func345 rfl (by kernel_rfl) ?_
 subst hr
 have hn : (us.map Slt.cs).length = us.length := by simp
 refine zc rfl (ι := Nat) (fun i => i ≤ us.length ∧ ∀ j y, j < i → us[j]? = some y → p y = false) (fun i => ⟨[(8, sV (.int .i64 i)), (7, sV (.int .i64 (us.map Slt.cs).length)), (0, .one (.b (.l (us.map Slt.cs)))), (1, .one (.b (.f fn [c0])))], []⟩) (fun i => us.length - i) 0 ⟨Nat.zero_le _, fun j y hj => by omega⟩ ?_ ?_
 · exact ⟨⟨rfl, rfl, rfl, rfl, trivial⟩, trivial, rfl⟩
 · intro i ⟨hi, h0⟩ J hJ
   refine xb rfl ?_ ?_ <;> intro h
   · have h : i < us.length := by simpa using h
     obtain ⟨x, hx⟩ := gx h
     have hg := gm Slt.cs hx
     have hxm := List.mem_of_getElem? hx
     refine xs rfl (nn_ _) (y9 rfl _ hg (xs rfl rfl (z1 rfl (hf _ hxm) rfl ⟨tv7, trivial, trivial⟩ ?_)))
     refine xb rfl ?_ ?_ <;> intro b0
     refine xv rfl rfl rfl ?_; rotate_left
     rotate_left
     · exact vi (y01 hx h0 b0).symm
     · exact q8 rfl (hJ _ (i + 1) ⟨by omega, yd hx h0 b0⟩ (by omega) ⟨⟨cwi (by omega) (by omega) (by omega), rfl, rfl, rfl, trivial⟩, trivial, rfl⟩)
   · have h : ¬ i < us.length := by simpa using h
     refine xv rfl rfl rfl ?_
     exact vi (qu (qg (by omega) h0)).symm
theorem y78 (rr : List (List Cell)) (us : List Slt) (p : Slt → Bool) (fn : Nat) (c0 : Cell) (hr : rr = us.map Slt.cs) (hf : ∀ x ∈ us, PC Tryz.prog fn [.agg x.cs, .one c0] (rB (p x))) (hl : us.length ≤ 1048576) : PC Tryz.prog 251 [.one (.l rr), .one (.f fn [c0])] (rB (us.any p)) := by
 refine PC.begin Tryz.func251 rfl (by kernel_rfl) ?_
 have hi := ya1 rr us p fn c0 hr hf hl
 refine z1 rfl (hi) rfl tv3 (xv rfl rfl rfl ?_)
 exact vb y04
theorem q39 (c : Clu) (ho : qz c) (i : Int) (m : Mk) : PC Tryz.prog 247 [.agg m.cs, .one (.p [.p c.cs]), .one (.p [i64 i])] (rB (!(z0t c.cons m.c i))) := by
 refine PC.begin Tryz.func247 rfl (by kernel_rfl) ?_
 refine z1 rfl (z12 _ (by assumption) _ _) rfl tv4 ?_
 refine xr rfl (yk rfl ⟨⟨rfl, rfl, trivial⟩, z6 rfl⟩)
theorem z8u (c : Clu) (ho : qz c) (i : Nat) (s : Shd) (hs : c.shs[i]? = some s) : PC Tryz.prog 144 [.one (.p c.cs), .one (i64 i)] (rI (z97 c i s)) := by
 refine PC.begin Tryz.func144 rfl (by kernel_rfl) ?_
 have hg := gm Shd.cs hs
 have hso := ho.2.1.2 s (List.mem_of_getElem? hs)
 obtain ⟨o1, o2, o3, o4, o5, o6⟩ := id hso
 have hv := y9f _ s.votes (fun m => !(z0t c.cons m.c i)) 247 (.p [.p c.cs]) (.p [i64 i]) rfl (fun m _ => q39 c ho i m) o2
 have hd := y9f _ s.done (fun m => !(z0t c.cons m.c i)) 247 (.p [.p c.cs]) (.p [i64 i]) rfl (fun m _ => q39 c ho i m) o4
 refine q9 rfl [] (.take 0 [1, 2, 3, 5, 6, 8] (Tk [1, 2] (.take 3 [5, 6, 8] (.take 4 [5, 6, 8] (.take 5 [] (.take 6 [8] (.alt 7 (.alt 8 .done .nil) .nil))))))) (by kernel_rfl) (xs rfl (nn_ _) (y9 rfl _ hg (xs rfl rfl (z1 rfl (y84 s hso) rfl ⟨tv7, trivial⟩ ?_))))
 refine xb rfl ?_ ?_ <;> intro b0
 refine xv rfl rfl rfl ?_; rotate_left
 refine xb rfl ?_ ?_ <;> intro b1
 refine xj (k := 10) rfl ?_
 refine xv rfl rfl rfl ?_; rotate_left
 refine xj (k := 3) rfl (z1 rfl (hv) rfl ⟨trivial, (List.forall_mem_cons.2 ⟨⟨trivial, trivial⟩, (List.forall_mem_cons.2 ⟨⟨trivial, trivial⟩, (fun _ h => nomatch h)⟩)⟩), trivial⟩ (xj (k := 1) rfl ?_))
 refine xb rfl ?_ ?_ <;> intro b2
 refine xj (k := 5) rfl ?_
 refine xv rfl rfl rfl ?_; rotate_left
 refine xj (k := 3) rfl (z1 rfl (hd) rfl ⟨trivial, (List.forall_mem_cons.2 ⟨⟨trivial, trivial⟩, (List.forall_mem_cons.2 ⟨⟨trivial, trivial⟩, (fun _ h => nomatch h)⟩)⟩), trivial⟩ (xj (k := 1) rfl ?_))
 refine xb rfl ?_ ?_ <;> intro b3
 refine xv rfl rfl rfl ?_; rotate_left
 rotate_left
 all_goals first | (refine vi ?_; unfold z97; simp_all; done) | skip
 have hsf : zi s = 0 := by simpa using b0
 have hix : s.idx = i := by simpa using b1
 have hvd : ((s.votes.any fun m => !(z0t c.cons m.c i)) || (s.done.any fun m => !(z0t c.cons m.c i))) = false := by rw [b2, b3]; rfl
 rw [z4e hsf hix, hvd]
 have hcon := q2p hsf
 clear hv hd b0 b1 b2 b3 hvd
 refine zc rfl (ι := Nat) (fun i => i ≤ s.held.length ∧ ∀ j y, j < i → s.held[j]? = some y → q2l c y = false) (fun i => ⟨[(44, sV (.int .i64 i)), (43, sV (.int .i64 (s.held.map Con.cs).length)), (42, .one (.b (.l (s.held.map Con.cs)))), (2, .one (.a 2 0))], [(2, .var [.b (.p c.cs)])]⟩) (fun i => s.held.length - i) 0 ⟨Nat.zero_le _, fun j y hj => by omega⟩ ?_ ?_
 · exact ⟨⟨rfl, rfl, rfl, ⟨rfl, rfl, rfl⟩, trivial⟩, ⟨⟨rfl, trivial⟩, trivial⟩, rfl⟩
 · intro k ⟨hk, h0⟩ J hJ
   refine xb rfl ?_ ?_ <;> intro h
   · have h : k < s.held.length := by simpa using h
     obtain ⟨y, hy⟩ := gx h
     have hgy := gm Con.cs hy
     have hym := List.mem_of_getElem? hy
     have hyl := o6 y hym
     have hid := (z02 (hcon y hym)).1.1
     cases hc : z08 c.cons y.id with
     | none =>
       have hb : q2l c y = true := by unfold q2l; rw [hc]
       have hsm : (Con.mk 0 []).same y = false := by unfold Con.same; rw [Bool.and_eq_false_iff]; exact .inl (beq_false_of_ne (fun e => by have : (0 : Int) = y.id := e; omega))
       have hq := y66 ⟨0, []⟩ y (Nat.zero_le _)
       rw [hsm] at hq
       refine xs rfl (nn_ _) (y9 rfl _ hgy (xs rfl rfl (z1 rfl (z15 c ho y.id hc) rfl tv3 (z1 rfl (hq) rfl ⟨tv3, tv3, trivial⟩ (xj (k := 1) rfl (xv rfl rfl rfl ?_))))))
       exact vi (by rw [if_neg (by decide), if_pos (yq hy hb).symm])
     | some x =>
       have hxl := ho.1.2 x (List.mem_of_find?_eq_some hc)
       have hb : q2l c y = !(x.same y) := by unfold q2l; rw [hc]
       refine xs rfl (nn_ _) (y9 rfl _ hgy (xs rfl rfl (z1 rfl (y15 c ho y.id x hc) rfl tv3 (z1 rfl (y66 x y hxl) rfl ⟨tv3, tv3, trivial⟩ ?_))))
       refine xb rfl ?_ ?_ <;> intro b0
       refine xv rfl rfl rfl ?_; rotate_left
       rotate_left
       · exact vi (by rw [if_neg (by decide), if_pos (yq hy (hb.trans b0)).symm])
       · exact q8 rfl (hJ _ (k + 1) ⟨by omega, yd hy h0 (hb.trans b0)⟩ (by omega) ⟨⟨cwi (by omega) (by omega) (by omega), rfl, rfl, ⟨rfl, rfl, rfl⟩, trivial⟩, ⟨⟨rfl, trivial⟩, trivial⟩, rfl⟩)
   · have h : ¬ k < s.held.length := by simpa using h
     have hz := any_none (qg (by omega) h0)
     refine xv rfl rfl rfl ?_
     exact vi (by rw [if_neg (by decide), if_neg (by rw [← hz]; decide)])
theorem y5t (c : Clu) (ho : qz c) (x : Slt) : PC Tryz.prog 252 [.agg x.cs, .one (.p [.p c.cs])] (rB (!(z0t c.cons x.c x.s))) := by
 refine PC.begin Tryz.func252 rfl (by kernel_rfl) ?_
 refine z1 rfl (z12 _ (by assumption) _ _) rfl tv4 ?_
 refine xr rfl (yk rfl ⟨⟨rfl, rfl, trivial⟩, z6 rfl⟩)
theorem q8s (c : Clu) (ho : qz c) (a : Acc) (ha : y2i a) : PC Tryz.prog 146 [.one (.p c.cs), .agg a.cs] (rI (q9e c a)) := by
 refine PC.begin Tryz.func146 rfl (by kernel_rfl) ?_
 have hv := y78 _ a.slots (fun x => !(z0t c.cons x.c x.s)) 252 (.p [.p c.cs]) rfl (fun x _ => y5t c ho x) ha.1
 refine z1 rfl (z9y a ha) rfl ⟨⟨trivial, trivial⟩, trivial⟩ ?_
 refine xb rfl ?_ ?_ <;> intro b0
 refine xv rfl rfl rfl ?_; rotate_left
 refine z1 rfl (hv) rfl ⟨trivial, (List.forall_mem_cons.2 ⟨⟨trivial, trivial⟩, (fun _ h => nomatch h)⟩), trivial⟩ ?_
 refine xb rfl ?_ ?_ <;> intro b1
 refine xv rfl rfl rfl ?_; rotate_left
 refine xv rfl rfl rfl ?_; rotate_left
 all_goals (refine vi ?_; unfold q9e; clear hv; simp_all; done)
theorem y28 (us : List Mk) : ∀ row ∈ us.map Mk.cs, row.length = 2 := fun row h => by
 simp at h
 obtain ⟨_, _, rfl⟩ := h; rfl
theorem y6s (us : List Mk) : yz (us.map Mk.cs) := fun row h => by
 simp only [List.mem_map] at h
 obtain ⟨x, _, rfl⟩ := h
 intro c hc
 simp at hc
 rcases hc with rfl | rfl <;> exact ⟨_, rfl⟩
theorem z95 (c : Clu) (ho : qz c) : PC Tryz.prog 132 [.one (.p c.cs)] (rI (scan (y22 c) c.shs.length)) := by
 refine PC.begin Tryz.func132 rfl (by kernel_rfl) ?_
 have hl := ho.2.1.1
 refine zc rfl (ι := Nat) (fun i => i ≤ c.shs.length ∧ ∀ j, j < i → y22 c j = 0) (fun i => ⟨[(3, sV (.int .i64 i)), (0, .one (.b (.p c.cs)))], []⟩) (fun i => c.shs.length - i) 0 ⟨Nat.zero_le _, fun j hj => by omega⟩ ?_ ?_
 · exact ⟨⟨rfl, rfl, trivial⟩, trivial, rfl⟩
 · intro i ⟨hi, h0⟩ J hJ
   refine xb rfl ?_ ?_ <;> intro h
   · have h : i < c.shs.length := by simpa using h
     obtain ⟨s, hx⟩ := gx h
     have hg := gm Shd.cs hx
     have hso := ho.2.1.2 s (List.mem_of_getElem? hx)
     obtain ⟨o1, o2, o3, o4, o5, o6⟩ := id hso
     have hF : y22 c i = z97 c i s := by unfold y22; rw [hx]
     refine xs rfl (nn_ _) (y9 rfl _ hg (xs rfl rfl (z1 rfl (z82 s hso) rfl ⟨tv7, trivial⟩ ?_)))
     refine xb rfl ?_ ?_ <;> intro b0
     refine xv rfl rfl rfl ?_; rotate_left
     refine xb rfl ?_ ?_ <;> intro b1
     refine xv rfl rfl rfl ?_; rotate_left
     refine q9 rfl [] (.take 1 [] (.take 2 [3, 6, 7] (.take 4 [] (.alt 0 (.alt 3 (.take 5 [6, 7] (.alt 6 (.take 7 [] .done) .nil)) (.alt 5 (.alt 3 (.alt 6 (.take 7 [] .done) .nil) .nil) .nil)) (.alt 5 (.alt 0 (.alt 3 (.alt 6 (.take 7 [] .done) .nil) .nil) .nil) .nil))))) (by kernel_rfl) ?_
     refine q09 rfl ?_ ?_
     refine xs rfl trivial ?_
     refine q09 rfl ?_ ?_
     refine xs rfl rfl (xs rfl (y28 _) (xs rfl (fun _ => y6s _) (xs rfl (by simp; omega) (xs rfl (by simp; omega) (xs rfl (by simp) (xs rfl (y28 _) (xs rfl (fun _ => y6s _) (xs rfl (by simp; omega) ?_))))))))
     refine xs rfl (by simp; omega) ?_; rotate_left
     refine xs rfl rfl (xs rfl (y28 _) (xs rfl (fun _ => y6s _) (xs rfl (by simp; omega) (xs rfl (by simp; omega) (xs rfl (by simp) (xs rfl (y28 _) (xs rfl (fun _ => y6s _) (xs rfl (by simp; omega) ?_))))))))
     refine xs rfl (by simp; omega) ?_; rotate_left
     refine xs rfl trivial (xs rfl rfl (xs rfl (y28 _) (xs rfl (fun _ => y6s _) (xs rfl (by simp; omega) (xs rfl (by simp; omega) (xs rfl (by simp) (xs rfl (y28 _) (xs rfl (fun _ => y6s _) (xs rfl (by simp; omega) ?_)))))))))
     refine xs rfl (by simp; omega) ?_; rotate_left
     all_goals first
      | (refine vi (z7 h h0 ?_ (by first | decide | (clear hJ h0; simp_all; done))); clear hJ h0 hg; rw [hF]; unfold z97; simp_all; done)
      | skip
     · skip
       have hsf : zi s = 0 := by simpa using b0
       have hix : s.idx = i := by simpa using b1
       have hE := z4e (c := c) hsf hix
       have hcon := q2p hsf
       rw [hE] at hF
       obtain ⟨ms, hms⟩ : ∃ ms, ms = s.votes ++ s.done := ⟨_, rfl⟩
       have hml : ms.length ≤ 2097152 := by rw [hms, List.length_append]; omega
       refine zc rfl (ι := Nat) (fun k => k ≤ ms.length ∧ ∀ j y, j < k → ms[j]? = some y → (!(z0t c.cons y.c s.idx)) = false) (fun k => ⟨[(7, sV (.int .i64 k)), (6, .one (.h 35 ms.length)), (4, .one (.a 4 0)), (3, sV (.int .i64 i)), (0, .one (.b (.p c.cs)))], [(35, .arr true 2 0 (ms.map Mk.cs)), (4, .var (s.cs.map .b))]⟩) (fun k => ms.length - k) 0 ⟨Nat.zero_le _, fun j y hj => by omega⟩ ?_ ?_
       · exact ⟨⟨rfl, ⟨rfl, (by rw [hms]; simp), rfl⟩, ⟨rfl, rfl, rfl⟩, rfl, rfl, trivial⟩, ⟨⟨(by rw [hms]; simp), .inl rfl, .inl rfl⟩, ⟨rfl, rfl, rfl, rfl, rfl, rfl, trivial⟩, trivial⟩, rfl⟩
       · intro k ⟨hk, h0k⟩ Jk hJk
         refine xb rfl ?_ ?_ <;> intro hh
         · have hh : k < ms.length := by simpa using hh
           have hkl : k < 2097152 := by omega
           obtain ⟨y, hy⟩ := gx hh
           have hgy := gm Mk.cs hy
           refine q9 rfl [] (Tk (Rg 0 5) (.take 5 [8, 9] (.take 6 [] (.take 7 [8, 9] (.alt 8 (.take 9 [] .done) .nil))))) (by kernel_rfl) (xs rfl (by simp) (xs rfl (nn_ _) (y9 rfl _ hgy (xs rfl rfl (xs rfl (by simp) (y9 rfl _ hgy (z1 rfl (zv _ (by assumption) _ _) rfl tv4 ?_)))))))
           refine xb rfl ?_ ?_ <;> intro b0
           refine xv rfl rfl rfl ?_; rotate_left
           rotate_left
           · refine vi (z7 h h0 ?_ (by decide))
             have ha := yq (p := fun y => !(z0t c.cons y.c s.idx)) hy b0
             rw [hms, List.any_append, hix] at ha
             rw [hF, if_pos ha.symm]
           · exact q8 rfl (hJk _ (k + 1) ⟨by omega, yd hy h0k b0⟩ (by omega) ⟨⟨cwi (by omega) (by omega) (by omega), ⟨rfl, rfl, rfl⟩, ⟨rfl, rfl, rfl⟩, rfl, rfl, trivial⟩, ⟨⟨rfl, .inl rfl, .inl rfl⟩, lcr, trivial⟩, rfl⟩)
         · have hh : ¬ k < ms.length := by simpa using hh
           have ha := any_none (qg (by omega) h0k)
           rw [hms, List.any_append, hix] at ha
           rw [if_neg (by rw [← ha]; decide)] at hF
           clear hJk h0k
           refine zc rfl (ι := Nat) (fun k => k ≤ s.held.length ∧ ∀ j y, j < k → s.held[j]? = some y → q2l c y = false) (fun k => ⟨[(8, sV (.int .i64 k)), (4, .one (.a 4 0)), (3, sV (.int .i64 i)), (0, .one (.b (.p c.cs)))], [(4, .var (s.cs.map .b))]⟩) (fun k => s.held.length - k) 0 ⟨Nat.zero_le _, fun j y hj => by omega⟩ ?_ ?_
           · exact ⟨⟨rfl, ⟨rfl, rfl, rfl⟩, rfl, rfl, trivial⟩, ⟨lcr, trivial⟩, rfl⟩
           · intro k ⟨hk, h0k⟩ Jk hJk
             refine xb rfl ?_ ?_ <;> intro hh
             · have hh : k < s.held.length := by simpa using hh
               obtain ⟨y, hy⟩ := gx hh
               have hgy := gm Con.cs hy
               have hf := y0k c y.id ho.1.1
               cases hc : z08 c.cons y.id with
               | none =>
                 rw [y1p hc] at hf
                 have hb : q2l c y = true := by unfold q2l; rw [hc]
                 refine xs rfl (nn_ _) (y9 rfl _ hgy (xs rfl rfl (z1 rfl (hf) rfl tv3 (q9 rfl [] (Tk (Rg 0 6) (.take 6 [8, 9, 15, 16, 17] (Tk [7, 8] (.take 9 (Rg 15 3) (.take 10 [] (.take 11 (Rg 13 5) (Tk [12, 13] (.take 14 (Rg 15 3) (.alt 15 (Tk [16, 17] .done) .nil))))))))) (by kernel_rfl) (xj (k := 16) rfl (xv rfl rfl rfl ?_))))))
                 exact vi (z7 h h0 (by rw [hF, if_pos (yq hy hb).symm]) (by decide))
               | some x =>
                 obtain ⟨q, hq, hqx⟩ := y10 hc
                 rw [hq] at hf
                 have hgq := gm Con.cs hqx
                 have hxl := ho.1.2 x (List.mem_of_find?_eq_some hc)
                 have hb : q2l c y = !(x.same y) := by unfold q2l; rw [hc]
                 refine xs rfl (nn_ _) (y9 rfl _ hgy (xs rfl rfl (z1 rfl (hf) rfl tv3 (q9 rfl [] (Tk (Rg 0 6) (.take 6 [8, 9, 15, 16, 17] (Tk [7, 8] (.take 9 (Rg 15 3) (.take 10 [] (.take 11 (Rg 13 5) (Tk [12, 13] (.take 14 (Rg 15 3) (.alt 15 (Tk [16, 17] .done) .nil))))))))) (by kernel_rfl) (xj (k := 6) rfl (xs rfl (nn_ _) (y9 rfl _ hgq (xs rfl rfl (xj (k := 5) rfl ?_)))))))))
                 refine xs rfl (nn_ _) (y9 rfl _ hgy (xs rfl rfl (xj (k := 2) rfl (z1 rfl (y4c x y hxl) rfl ⟨tv3, tv3, trivial⟩ (xj (k := 2) rfl ?_)))))
                 refine xb rfl ?_ ?_ <;> intro b0
                 refine xv rfl rfl rfl ?_; rotate_left
                 rotate_left
                 all_goals first
                  | (exfalso; simp at b0; omega)
                  | exact vi (z7 h h0 (by rw [hF, if_pos (yq hy (hb.trans b0)).symm]) (by decide))
                  | exact q8 rfl (hJk _ (k + 1) ⟨by omega, yd hy h0k (hb.trans b0)⟩ (by omega) ⟨⟨cwi (by omega) (by omega) (by omega), ⟨rfl, rfl, rfl⟩, rfl, rfl, trivial⟩, ⟨lcr, trivial⟩, rfl⟩)
             · have hh : ¬ k < s.held.length := by simpa using hh
               have hz := any_none (qg (by omega) h0k)
               rw [if_neg (by rw [← hz]; decide)] at hF
               skip
               exact q8 rfl (hJ _ (i + 1) ⟨by omega, za h0 hF⟩ (by omega) ⟨⟨cwi (by omega) (by omega) (by omega), rfl, trivial⟩, trivial, rfl⟩)
     · skip
       have hsf : zi s = 0 := by simpa using b0
       have hix : s.idx = i := by simpa using b1
       have hE := z4e (c := c) hsf hix
       have hcon := q2p hsf
       rw [hE] at hF
       obtain ⟨ms, hms⟩ : ∃ ms, ms = s.votes ++ s.done := ⟨_, rfl⟩
       have hml : ms.length ≤ 2097152 := by rw [hms, List.length_append]; omega
       refine zc rfl (ι := Nat) (fun k => k ≤ ms.length ∧ ∀ j y, j < k → ms[j]? = some y → (!(z0t c.cons y.c s.idx)) = false) (fun k => ⟨[(7, sV (.int .i64 k)), (6, .one (.h 35 ms.length)), (4, .one (.a 4 0)), (3, sV (.int .i64 i)), (0, .one (.b (.p c.cs)))], [(35, .arr true 2 0 (ms.map Mk.cs)), (4, .var (s.cs.map .b))]⟩) (fun k => ms.length - k) 0 ⟨Nat.zero_le _, fun j y hj => by omega⟩ ?_ ?_
       · exact ⟨⟨rfl, ⟨rfl, (by rw [hms]; simp), rfl⟩, ⟨rfl, rfl, rfl⟩, rfl, rfl, trivial⟩, ⟨⟨(by rw [hms]; simp), .inl rfl, .inl rfl⟩, ⟨rfl, rfl, rfl, rfl, rfl, rfl, trivial⟩, trivial⟩, rfl⟩
       · intro k ⟨hk, h0k⟩ Jk hJk
         refine xb rfl ?_ ?_ <;> intro hh
         · have hh : k < ms.length := by simpa using hh
           have hkl : k < 2097152 := by omega
           obtain ⟨y, hy⟩ := gx hh
           have hgy := gm Mk.cs hy
           refine q9 rfl [] (Tk (Rg 0 5) (.take 5 [8, 9] (.take 6 [] (.take 7 [8, 9] (.alt 8 (.take 9 [] .done) .nil))))) (by kernel_rfl) (xs rfl (by simp) (xs rfl (nn_ _) (y9 rfl _ hgy (xs rfl rfl (xs rfl (by simp) (y9 rfl _ hgy (z1 rfl (zv _ (by assumption) _ _) rfl tv4 ?_)))))))
           refine xb rfl ?_ ?_ <;> intro b0
           refine xv rfl rfl rfl ?_; rotate_left
           rotate_left
           · refine vi (z7 h h0 ?_ (by decide))
             have ha := yq (p := fun y => !(z0t c.cons y.c s.idx)) hy b0
             rw [hms, List.any_append, hix] at ha
             rw [hF, if_pos ha.symm]
           · exact q8 rfl (hJk _ (k + 1) ⟨by omega, yd hy h0k b0⟩ (by omega) ⟨⟨cwi (by omega) (by omega) (by omega), ⟨rfl, rfl, rfl⟩, ⟨rfl, rfl, rfl⟩, rfl, rfl, trivial⟩, ⟨⟨rfl, .inl rfl, .inl rfl⟩, lcr, trivial⟩, rfl⟩)
         · have hh : ¬ k < ms.length := by simpa using hh
           have ha := any_none (qg (by omega) h0k)
           rw [hms, List.any_append, hix] at ha
           rw [if_neg (by rw [← ha]; decide)] at hF
           clear hJk h0k
           refine zc rfl (ι := Nat) (fun k => k ≤ s.held.length ∧ ∀ j y, j < k → s.held[j]? = some y → q2l c y = false) (fun k => ⟨[(8, sV (.int .i64 k)), (4, .one (.a 4 0)), (3, sV (.int .i64 i)), (0, .one (.b (.p c.cs)))], [(4, .var (s.cs.map .b))]⟩) (fun k => s.held.length - k) 0 ⟨Nat.zero_le _, fun j y hj => by omega⟩ ?_ ?_
           · exact ⟨⟨rfl, ⟨rfl, rfl, rfl⟩, rfl, rfl, trivial⟩, ⟨lcr, trivial⟩, rfl⟩
           · intro k ⟨hk, h0k⟩ Jk hJk
             refine xb rfl ?_ ?_ <;> intro hh
             · have hh : k < s.held.length := by simpa using hh
               obtain ⟨y, hy⟩ := gx hh
               have hgy := gm Con.cs hy
               have hf := y0k c y.id ho.1.1
               cases hc : z08 c.cons y.id with
               | none =>
                 rw [y1p hc] at hf
                 have hb : q2l c y = true := by unfold q2l; rw [hc]
                 refine xs rfl (nn_ _) (y9 rfl _ hgy (xs rfl rfl (z1 rfl (hf) rfl tv3 (q9 rfl [] (Tk (Rg 0 6) (.take 6 [8, 9, 15, 16, 17] (Tk [7, 8] (.take 9 (Rg 15 3) (.take 10 [] (.take 11 (Rg 13 5) (Tk [12, 13] (.take 14 (Rg 15 3) (.alt 15 (Tk [16, 17] .done) .nil))))))))) (by kernel_rfl) (xj (k := 16) rfl (xv rfl rfl rfl ?_))))))
                 exact vi (z7 h h0 (by rw [hF, if_pos (yq hy hb).symm]) (by decide))
               | some x =>
                 obtain ⟨q, hq, hqx⟩ := y10 hc
                 rw [hq] at hf
                 have hgq := gm Con.cs hqx
                 have hxl := ho.1.2 x (List.mem_of_find?_eq_some hc)
                 have hb : q2l c y = !(x.same y) := by unfold q2l; rw [hc]
                 refine xs rfl (nn_ _) (y9 rfl _ hgy (xs rfl rfl (z1 rfl (hf) rfl tv3 (q9 rfl [] (Tk (Rg 0 6) (.take 6 [8, 9, 15, 16, 17] (Tk [7, 8] (.take 9 (Rg 15 3) (.take 10 [] (.take 11 (Rg 13 5) (Tk [12, 13] (.take 14 (Rg 15 3) (.alt 15 (Tk [16, 17] .done) .nil))))))))) (by kernel_rfl) (xj (k := 6) rfl (xs rfl (nn_ _) (y9 rfl _ hgq (xs rfl rfl (xj (k := 5) rfl ?_)))))))))
                 refine xs rfl (nn_ _) (y9 rfl _ hgy (xs rfl rfl (xj (k := 2) rfl (z1 rfl (y4c x y hxl) rfl ⟨tv3, tv3, trivial⟩ (xj (k := 2) rfl ?_)))))
                 refine xb rfl ?_ ?_ <;> intro b0
                 refine xv rfl rfl rfl ?_; rotate_left
                 rotate_left
                 all_goals first
                  | (exfalso; simp at b0; omega)
                  | exact vi (z7 h h0 (by rw [hF, if_pos (yq hy (hb.trans b0)).symm]) (by decide))
                  | exact q8 rfl (hJk _ (k + 1) ⟨by omega, yd hy h0k (hb.trans b0)⟩ (by omega) ⟨⟨cwi (by omega) (by omega) (by omega), ⟨rfl, rfl, rfl⟩, rfl, rfl, trivial⟩, ⟨lcr, trivial⟩, rfl⟩)
             · have hh : ¬ k < s.held.length := by simpa using hh
               have hz := any_none (qg (by omega) h0k)
               rw [if_neg (by rw [← hz]; decide)] at hF
               skip
               exact q8 rfl (hJ _ (i + 1) ⟨by omega, za h0 hF⟩ (by omega) ⟨⟨cwi (by omega) (by omega) (by omega), rfl, trivial⟩, trivial, rfl⟩)
     · skip
       have hsf : zi s = 0 := by simpa using b0
       have hix : s.idx = i := by simpa using b1
       have hE := z4e (c := c) hsf hix
       have hcon := q2p hsf
       rw [hE] at hF
       obtain ⟨ms, hms⟩ : ∃ ms, ms = s.votes ++ s.done := ⟨_, rfl⟩
       have hml : ms.length ≤ 2097152 := by rw [hms, List.length_append]; omega
       refine zc rfl (ι := Nat) (fun k => k ≤ ms.length ∧ ∀ j y, j < k → ms[j]? = some y → (!(z0t c.cons y.c s.idx)) = false) (fun k => ⟨[(7, sV (.int .i64 k)), (6, .one (.h 35 ms.length)), (4, .one (.a 4 0)), (3, sV (.int .i64 i)), (0, .one (.b (.p c.cs)))], [(35, .arr true 2 0 (ms.map Mk.cs)), (4, .var (s.cs.map .b))]⟩) (fun k => ms.length - k) 0 ⟨Nat.zero_le _, fun j y hj => by omega⟩ ?_ ?_
       · exact ⟨⟨rfl, ⟨rfl, (by rw [hms]; simp), rfl⟩, ⟨rfl, rfl, rfl⟩, rfl, rfl, trivial⟩, ⟨⟨(by rw [hms]; simp), .inl rfl, .inl rfl⟩, ⟨rfl, rfl, rfl, rfl, rfl, rfl, trivial⟩, trivial⟩, rfl⟩
       · intro k ⟨hk, h0k⟩ Jk hJk
         refine xb rfl ?_ ?_ <;> intro hh
         · have hh : k < ms.length := by simpa using hh
           have hkl : k < 2097152 := by omega
           obtain ⟨y, hy⟩ := gx hh
           have hgy := gm Mk.cs hy
           refine q9 rfl [] (Tk (Rg 0 5) (.take 5 [8, 9] (.take 6 [] (.take 7 [8, 9] (.alt 8 (.take 9 [] .done) .nil))))) (by kernel_rfl) (xs rfl (by simp) (xs rfl (nn_ _) (y9 rfl _ hgy (xs rfl rfl (xs rfl (by simp) (y9 rfl _ hgy (z1 rfl (zv _ (by assumption) _ _) rfl tv4 ?_)))))))
           refine xb rfl ?_ ?_ <;> intro b0
           refine xv rfl rfl rfl ?_; rotate_left
           rotate_left
           · refine vi (z7 h h0 ?_ (by decide))
             have ha := yq (p := fun y => !(z0t c.cons y.c s.idx)) hy b0
             rw [hms, List.any_append, hix] at ha
             rw [hF, if_pos ha.symm]
           · exact q8 rfl (hJk _ (k + 1) ⟨by omega, yd hy h0k b0⟩ (by omega) ⟨⟨cwi (by omega) (by omega) (by omega), ⟨rfl, rfl, rfl⟩, ⟨rfl, rfl, rfl⟩, rfl, rfl, trivial⟩, ⟨⟨rfl, .inl rfl, .inl rfl⟩, lcr, trivial⟩, rfl⟩)
         · have hh : ¬ k < ms.length := by simpa using hh
           have ha := any_none (qg (by omega) h0k)
           rw [hms, List.any_append, hix] at ha
           rw [if_neg (by rw [← ha]; decide)] at hF
           clear hJk h0k
           refine zc rfl (ι := Nat) (fun k => k ≤ s.held.length ∧ ∀ j y, j < k → s.held[j]? = some y → q2l c y = false) (fun k => ⟨[(8, sV (.int .i64 k)), (4, .one (.a 4 0)), (3, sV (.int .i64 i)), (0, .one (.b (.p c.cs)))], [(4, .var (s.cs.map .b))]⟩) (fun k => s.held.length - k) 0 ⟨Nat.zero_le _, fun j y hj => by omega⟩ ?_ ?_
           · exact ⟨⟨rfl, ⟨rfl, rfl, rfl⟩, rfl, rfl, trivial⟩, ⟨lcr, trivial⟩, rfl⟩
           · intro k ⟨hk, h0k⟩ Jk hJk
             refine xb rfl ?_ ?_ <;> intro hh
             · have hh : k < s.held.length := by simpa using hh
               obtain ⟨y, hy⟩ := gx hh
               have hgy := gm Con.cs hy
               have hf := y0k c y.id ho.1.1
               cases hc : z08 c.cons y.id with
               | none =>
                 rw [y1p hc] at hf
                 have hb : q2l c y = true := by unfold q2l; rw [hc]
                 refine xs rfl (nn_ _) (y9 rfl _ hgy (xs rfl rfl (z1 rfl (hf) rfl tv3 (q9 rfl [] (Tk (Rg 0 6) (.take 6 [8, 9, 15, 16, 17] (Tk [7, 8] (.take 9 (Rg 15 3) (.take 10 [] (.take 11 (Rg 13 5) (Tk [12, 13] (.take 14 (Rg 15 3) (.alt 15 (Tk [16, 17] .done) .nil))))))))) (by kernel_rfl) (xj (k := 16) rfl (xv rfl rfl rfl ?_))))))
                 exact vi (z7 h h0 (by rw [hF, if_pos (yq hy hb).symm]) (by decide))
               | some x =>
                 obtain ⟨q, hq, hqx⟩ := y10 hc
                 rw [hq] at hf
                 have hgq := gm Con.cs hqx
                 have hxl := ho.1.2 x (List.mem_of_find?_eq_some hc)
                 have hb : q2l c y = !(x.same y) := by unfold q2l; rw [hc]
                 refine xs rfl (nn_ _) (y9 rfl _ hgy (xs rfl rfl (z1 rfl (hf) rfl tv3 (q9 rfl [] (Tk (Rg 0 6) (.take 6 [8, 9, 15, 16, 17] (Tk [7, 8] (.take 9 (Rg 15 3) (.take 10 [] (.take 11 (Rg 13 5) (Tk [12, 13] (.take 14 (Rg 15 3) (.alt 15 (Tk [16, 17] .done) .nil))))))))) (by kernel_rfl) (xj (k := 6) rfl (xs rfl (nn_ _) (y9 rfl _ hgq (xs rfl rfl (xj (k := 5) rfl ?_)))))))))
                 refine xs rfl (nn_ _) (y9 rfl _ hgy (xs rfl rfl (xj (k := 2) rfl (z1 rfl (y4c x y hxl) rfl ⟨tv3, tv3, trivial⟩ (xj (k := 2) rfl ?_)))))
                 refine xb rfl ?_ ?_ <;> intro b0
                 refine xv rfl rfl rfl ?_; rotate_left
                 rotate_left
                 all_goals first
                  | (exfalso; simp at b0; omega)
                  | exact vi (z7 h h0 (by rw [hF, if_pos (yq hy (hb.trans b0)).symm]) (by decide))
                  | exact q8 rfl (hJk _ (k + 1) ⟨by omega, yd hy h0k (hb.trans b0)⟩ (by omega) ⟨⟨cwi (by omega) (by omega) (by omega), ⟨rfl, rfl, rfl⟩, rfl, rfl, trivial⟩, ⟨lcr, trivial⟩, rfl⟩)
             · have hh : ¬ k < s.held.length := by simpa using hh
               have hz := any_none (qg (by omega) h0k)
               rw [if_neg (by rw [← hz]; decide)] at hF
               skip
               exact q8 rfl (hJ _ (i + 1) ⟨by omega, za h0 hF⟩ (by omega) ⟨⟨cwi (by omega) (by omega) (by omega), rfl, trivial⟩, trivial, rfl⟩)
   · have h : ¬ i < c.shs.length := by simpa using h
     have hz := qc (f := y22 c) (n := c.shs.length) (fun j hj => h0 j (by omega))
     refine xv rfl rfl rfl ?_
     exact vi (hz.symm)
theorem q92 (c : Clu) (ho : qz c) : PC Tryz.prog 133 [.one (.p c.cs)] (rI (scan (z27 c) c.accs.length)) := by
 refine PC.begin Tryz.func133 rfl (by kernel_rfl) ?_
 have hl := ho.2.2.1.1
 refine zc rfl (ι := Nat) (fun i => i ≤ c.accs.length ∧ ∀ j, j < i → z27 c j = 0) (fun i => ⟨[(3, sV (.int .i64 i)), (0, .one (.b (.p c.cs)))], []⟩) (fun i => c.accs.length - i) 0 ⟨Nat.zero_le _, fun j hj => by omega⟩ ?_ ?_
 · exact ⟨⟨rfl, rfl, trivial⟩, trivial, rfl⟩
 · intro i ⟨hi, h0⟩ J hJ
   refine xb rfl ?_ ?_ <;> intro h
   · have h : i < c.accs.length := by simpa using h
     obtain ⟨a, hx⟩ := gx h
     have hg := gm Acc.cs hx
     have hao := ho.2.2.1.2 a (List.mem_of_getElem? hx)
     have hF : z27 c i = q9e c a := by unfold z27; rw [hx]
     have hal := hao.1
     refine xs rfl (nn_ _) (y9 rfl _ hg (xs rfl rfl (z1 rfl (qaa a hao) rfl ⟨⟨trivial, trivial⟩, trivial⟩ ?_)))
     refine xb rfl ?_ ?_ <;> intro b0
     refine xv rfl rfl rfl ?_; rotate_left
     rotate_left
     all_goals first
      | (refine vi (z7 h h0 ?_ (by first | decide | (clear hJ h0; simp_all; done))); clear hJ h0 hg; rw [hF]; unfold q9e; simp_all; done)
      | skip
     have haf : a.fault = 0 := by simpa using b0
     unfold q9e at hF
     rw [if_neg (by simpa using haf)] at hF
     refine zc rfl (ι := Nat) (fun k => k ≤ a.slots.length ∧ ∀ j y, j < k → a.slots[j]? = some y → (!(z0t c.cons y.c y.s)) = false) (fun k => ⟨[(5, sV (.int .i64 k)), (3, sV (.int .i64 i)), (0, .one (.b (.p c.cs)))], []⟩) (fun k => a.slots.length - k) 0 ⟨Nat.zero_le _, fun j y hj => by omega⟩ ?_ ?_
     · exact ⟨⟨rfl, rfl, rfl, trivial⟩, trivial, rfl⟩
     · intro k ⟨hk, h0k⟩ Jk hJk
       refine xs rfl (nn_ _) (y9 rfl _ hg (xs rfl rfl ?_))
       refine xb rfl ?_ ?_ <;> intro hh
       · have hh : k < a.slots.length := by simpa using hh
         obtain ⟨y, hy⟩ := gx hh
         have hgy := gm Slt.cs hy
         refine xs rfl (nn_ _) (y9 rfl _ hg (xs rfl rfl (xs rfl (nn_ _) (y9 rfl _ hgy (xs rfl rfl (z1 rfl (zv _ (by assumption) _ _) rfl tv4 ?_))))))
         refine xb rfl ?_ ?_ <;> intro b0
         refine xv rfl rfl rfl ?_; rotate_left
         rotate_left
         · exact vi (z7 h h0 (by rw [hF, if_pos (yq hy b0).symm]) (by decide))
         · exact q8 rfl (hJk _ (k + 1) ⟨by omega, yd hy h0k b0⟩ (by omega) ⟨⟨cwi (by omega) (by omega) (by omega), rfl, rfl, trivial⟩, trivial, rfl⟩)
       · have hh : ¬ k < a.slots.length := by simpa using hh
         have hz := any_none (qg (by omega) h0k)
         rw [if_neg (by rw [← hz]; decide)] at hF
         skip
         exact q8 rfl (hJ _ (i + 1) ⟨by omega, za h0 hF⟩ (by omega) ⟨⟨cwi (by omega) (by omega) (by omega), rfl, trivial⟩, trivial, rfl⟩)
   · have h : ¬ i < c.accs.length := by simpa using h
     have hz := qc (f := z27 c) (n := c.accs.length) (fun j hj => h0 j (by omega))
     refine xv rfl rfl rfl ?_
     exact vi (hz.symm)
theorem zau (rr : List (List Cell)) (us : List Vt) (p : Vt → Bool) (fn : Nat) (hr : rr = us.map Vt.cs) (hf : ∀ x ∈ us, PC Tryz.prog fn [.agg x.cs] (rB (p x))) (hl : us.length ≤ 1048576) : PC Tryz.prog 377 [.one (.l rr), .one (.f fn [])] (rI (y13 p us)) := by
 refine PC.begin Tryz.func377 rfl (by kernel_rfl) ?_
 subst hr
 have hn : (us.map Vt.cs).length = us.length := by simp
 refine zc rfl (ι := Nat) (fun i => i ≤ us.length ∧ ∀ j y, j < i → us[j]? = some y → p y = false) (fun i => ⟨[(8, sV (.int .i64 i)), (7, sV (.int .i64 (us.map Vt.cs).length)), (0, .one (.b (.l (us.map Vt.cs)))), (1, .one (.b (.f fn [])))], []⟩) (fun i => us.length - i) 0 ⟨Nat.zero_le _, fun j y hj => by omega⟩ ?_ ?_
 · exact ⟨⟨rfl, rfl, rfl, rfl, trivial⟩, trivial, rfl⟩
 · intro i ⟨hi, h0⟩ J hJ
   refine xb rfl ?_ ?_ <;> intro h
   · have h : i < us.length := by simpa using h
     obtain ⟨x, hx⟩ := gx h
     have hg := gm Vt.cs hx
     have hxm := List.mem_of_getElem? hx
     refine xs rfl (nn_ _) (y9 rfl _ hg (xs rfl rfl (z1 rfl (hf _ hxm) rfl ⟨tv3, trivial⟩ ?_)))
     refine xb rfl ?_ ?_ <;> intro b0
     refine xv rfl rfl rfl ?_; rotate_left
     rotate_left
     · exact vi (y01 hx h0 b0).symm
     · exact q8 rfl (hJ _ (i + 1) ⟨by omega, yd hx h0 b0⟩ (by omega) ⟨⟨cwi (by omega) (by omega) (by omega), rfl, rfl, rfl, trivial⟩, trivial, rfl⟩)
   · have h : ¬ i < us.length := by simpa using h
     refine xv rfl rfl rfl ?_
     exact vi (qu (qg (by omega) h0)).symm
theorem zaq (rr : List (List Cell)) (us : List Vt) (p : Vt → Bool) (fn : Nat) (hr : rr = us.map Vt.cs) (hf : ∀ x ∈ us, PC Tryz.prog fn [.agg x.cs] (rB (p x))) (hl : us.length ≤ 1048576) : PC Tryz.prog 274 [.one (.l rr), .one (.f fn [])] (rB (us.any p)) := by
 refine PC.begin Tryz.func274 rfl (by kernel_rfl) ?_
 have hi := zau rr us p fn hr hf hl
 refine z1 rfl (hi) rfl tv3 (xv rfl rfl rfl ?_)
 exact vb y04
theorem za0 (rr : List (List Cell)) (us : List Int) (p : Int → Bool) (fn : Nat) (c0 : Cell) (hr : rr = ints us) (hf : ∀ x ∈ us, PC Tryz.prog fn [.one (i64 x), .one c0] (rB (p x))) (hl : us.length ≤ 1048576) : PC Tryz.prog 164 [.one (.l rr), .one (.f fn [c0])] (rI (y13 p us)) := by
 refine PC.begin Tryz.func164 rfl (by kernel_rfl) ?_
 subst hr
 have hn : (ints us).length = us.length := by simp
 refine zc rfl (ι := Nat) (fun i => i ≤ us.length ∧ ∀ j y, j < i → us[j]? = some y → p y = false) (fun i => ⟨[(8, sV (.int .i64 i)), (7, sV (.int .i64 (ints us).length)), (0, .one (.b (.l (ints us)))), (1, .one (.b (.f fn [c0])))], []⟩) (fun i => us.length - i) 0 ⟨Nat.zero_le _, fun j y hj => by omega⟩ ?_ ?_
 · exact ⟨⟨rfl, rfl, rfl, rfl, trivial⟩, trivial, rfl⟩
 · intro i ⟨hi, h0⟩ J hJ
   refine xb rfl ?_ ?_ <;> intro h
   · have h : i < us.length := by simpa using h
     obtain ⟨x, hx⟩ := gx h
     have hg := gm (fun n => [i64 n]) hx
     have hxm := List.mem_of_getElem? hx
     refine xs rfl (nn_ _) (y9 rfl _ hg (xs rfl rfl (z1 rfl (hf _ hxm) rfl tv3 ?_)))
     refine xb rfl ?_ ?_ <;> intro b0
     refine xv rfl rfl rfl ?_; rotate_left
     rotate_left
     · exact vi (y01 hx h0 b0).symm
     · exact q8 rfl (hJ _ (i + 1) ⟨by omega, yd hx h0 b0⟩ (by omega) ⟨⟨cwi (by omega) (by omega) (by omega), rfl, rfl, rfl, trivial⟩, trivial, rfl⟩)
   · have h : ¬ i < us.length := by simpa using h
     refine xv rfl rfl rfl ?_
     exact vi (qu (qg (by omega) h0)).symm
theorem y9q (rr : List (List Cell)) (us : List Int) (p : Int → Bool) (fn : Nat) (c0 : Cell) (hr : rr = ints us) (hf : ∀ x ∈ us, PC Tryz.prog fn [.one (i64 x), .one c0] (rB (p x))) (hl : us.length ≤ 1048576) : PC Tryz.prog 74 [.one (.l rr), .one (.f fn [c0])] (rB (us.any p)) := by
 refine PC.begin Tryz.func74 rfl (by kernel_rfl) ?_
 have hi := za0 rr us p fn c0 hr hf hl
 refine z1 rfl (hi) rfl tv3 (xv rfl rfl rfl ?_)
 exact vb y04
theorem q9z (us : List Int) (v : Int) (rr : List (List Cell)) (hr : rr = ints us) (hl : us.length ≤ 1048576) : PC Tryz.prog 176 [.one (.l rr), .one (i64 v)] (rI (y13 (fun y => y == v) us)) := by
 refine PC.begin Tryz.func176 rfl (by kernel_rfl) ?_
 subst hr
 have hn : (ints us).length = us.length := by simp
 refine zc rfl (ι := Nat) (fun i => i ≤ us.length ∧ ∀ j y, j < i → us[j]? = some y → (y == v) = false) (fun i => ⟨[(8, sV (.int .i64 i)), (7, sV (.int .i64 (ints us).length)), (0, .one (.b (.l (ints us)))), (1, sV (.int .i64 v))], []⟩) (fun i => us.length - i) 0 ⟨Nat.zero_le _, fun j y hj => by omega⟩ ?_ ?_
 · exact ⟨⟨rfl, rfl, rfl, rfl, trivial⟩, trivial, rfl⟩
 · intro i ⟨hi, h0⟩ J hJ
   refine xb rfl ?_ ?_ <;> intro h
   · have h : i < us.length := by simpa using h
     obtain ⟨x, hx⟩ := gx h
     have hg := gm (fun n => [i64 n]) hx
     refine xs rfl (nn_ _) (y9 rfl _ hg (xs rfl rfl ?_))
     refine xb rfl ?_ ?_ <;> intro b0
     refine xv rfl rfl rfl ?_; rotate_left
     rotate_left
     · exact vi (y01 hx h0 (by rw [beq_iff_eq] at b0 ⊢; exact b0.symm)).symm
     · exact q8 rfl (hJ _ (i + 1) ⟨by omega, yd hx h0 (by rw [beq_eq_false_iff_ne] at b0 ⊢; exact fun e => b0 e.symm)⟩ (by omega) ⟨⟨cwi (by omega) (by omega) (by omega), rfl, rfl, rfl, trivial⟩, trivial, rfl⟩)
   · have h : ¬ i < us.length := by simpa using h
     refine xv rfl rfl rfl ?_
     exact vi (qu (p := fun y => y == v) (qg (by omega) h0)).symm
theorem q9x (us : List Int) (v : Int) (rr : List (List Cell)) (hr : rr = ints us) (hl : us.length ≤ 1048576) : PC Tryz.prog 88 [.one (.l rr), .one (i64 v)] (rB (us.any fun y => y == v)) := by
 refine PC.begin Tryz.func88 rfl (by kernel_rfl) ?_
 refine z1 rfl (q9z us v _ hr hl) rfl tv3 (xv rfl rfl rfl ?_)
 exact vb y04
theorem z5t (c : Clu) (ho : qz c) (p : Int) : PC Tryz.prog 424 [.one (i64 p), .one (.p [.p c.cs])] (rB (y1o c p)) := by
 refine PC.begin Tryz.func424 rfl (by kernel_rfl) ?_
 have q2 := ho.2.2.1.1
 have p2 : (c.accs.map Acc.cs).length ≤ 1048576 := by simpa using q2
 refine z1 rfl (y0c _ _ (by assumption)) rfl tv3 (xv rfl rfl rfl ?_)
 all_goals (refine vb ?_; unfold y1o; rw [List.length_map])
theorem q9b (x : Vt) : PC Tryz.prog 425 [.agg x.cs] (rB (q0n x)) := by
 refine PC.begin Tryz.func425 rfl (by kernel_rfl) ?_
 refine q9 rfl [] (.take 0 (Rg 2 7) (.alt 1 (Tk [2, 3] (.take 4 (Rg 5 4) (.alt 5 (Tk [6, 7, 8] .done) .nil))) .nil)) (by kernel_rfl) (z1 rfl (y1y) rfl trivial ?_)
 refine xb rfl ?_ ?_ <;> intro b0
 refine xj (k := 1) rfl (z1 rfl (z1y _) rfl ⟨tv3, trivial⟩ (xj (k := 2) rfl ?_))
 refine xv rfl rfl rfl ?_; rotate_left
 refine xj (k := 3) rfl ?_
 refine xv rfl rfl rfl ?_; rotate_left
 all_goals (refine vb ?_; simp_all [q0n, y1v, Vt.none])
theorem q30 (us : List Int) (k : Nat) : List.drop (none.getD 0 : Int).toNat (List.take ((some (k : Int)).getD ((ints us).length : Int)).toNat (ints us)) = ints (us.take k) := by
 simp [ints, List.map_take]
theorem y5w (c : Clu) (ho : qz c) (t : Tr) (ht : qan t) : PC Tryz.prog 346 [.one (.p c.cs), .agg t.cs] (rI (if t.fr.length != t.olds.length then 1 else z71 c t)) := by
 refine PC.begin Tryz.func346 rfl (by kernel_rfl) ?_
 obtain ⟨o1, o2⟩ := ht
 have hf := y9q _ t.fr (y1o c) 424 (.p [.p c.cs]) rfl (fun x _ => z5t c ho x) o1
 have hw := zaq _ t.olds q0n 425 rfl (fun x _ => q9b x) o2
 refine xb rfl ?_ ?_ <;> intro h0
 · have h0 : ¬ t.fr.length = t.olds.length := by simp at h0; omega
   rw [if_pos (by simpa using h0)]
   refine xr rfl (yk rfl ⟨⟨rfl, rfl, trivial⟩, z6 rfl⟩)
 · have h0 : t.fr.length = t.olds.length := by simp at h0; omega
   rw [if_neg (by simpa using h0)]
   refine z1 rfl (hf) rfl ⟨trivial, (List.forall_mem_cons.2 ⟨⟨trivial, trivial⟩, (fun _ h => nomatch h)⟩), trivial⟩ ?_
   refine xb rfl ?_ ?_ <;> intro b0
   refine xj (k := 5) rfl ?_
   refine xv rfl rfl rfl ?_; rotate_left
   refine xj (k := 3) rfl (z1 rfl (hw) rfl ⟨trivial, (fun _ h => nomatch h), trivial⟩ (xj (k := 1) rfl ?_))
   refine xb rfl ?_ ?_ <;> intro b1
   refine xv rfl rfl rfl ?_; rotate_left
   rotate_left
   all_goals first | (refine vi ?_; clear hf hw; unfold z71; simp_all; done) | skip
   have hfw : (t.fr.any (y1o c) || t.olds.any q0n) = false := by rw [b0, b1]; rfl
   unfold z71
   rw [hfw]
   rw [if_neg (by decide)]
   clear hf hw b0 b1 hfw
   refine zc rfl (ι := Nat) (fun i => i ≤ t.fr.length ∧ ∀ j, j < i → q0o t.fr j = 0) (fun i => ⟨[(32, sV (.int .i64 i)), (31, sV (.int .i64 (ints t.fr).length)), (30, .one (.b (.l (ints t.fr)))), (3, .one (.a 3 0))], [(3, .var (t.cs.map .b))]⟩) (fun i => t.fr.length - i) 0 ⟨Nat.zero_le _, fun j hj => by omega⟩ ?_ ?_
   · exact ⟨⟨rfl, rfl, rfl, ⟨rfl, rfl, rfl⟩, trivial⟩, ⟨lcr, trivial⟩, rfl⟩
   · intro i ⟨hi, h0⟩ J hJ
     refine xb rfl ?_ ?_ <;> intro h
     · have h : i < t.fr.length := by simpa using h
       obtain ⟨x, hx⟩ := gx h
       have hg := gm (fun n => [i64 n]) hx
       refine xs rfl (nn_ _) (y9 rfl _ hg (xs rfl rfl (xs rfl (.inl rfl) (xs rfl (nn_ _) (xs rfl (nn_ _) (xs rfl (by simp; omega) (z1 rfl (q9x (t.fr.take i) x _ (q30 _ _) (by rw [List.length_take]; omega)) rfl tv3 ?_)))))))
       refine xb rfl ?_ ?_ <;> intro b0
       refine xv rfl rfl rfl ?_; rotate_left
       rotate_left
       · exact vi (z7 h h0 (by unfold q0o; rw [hx]; exact if_pos b0) (by decide))
       · exact q8 rfl (hJ _ (i + 1) ⟨by omega, za h0 (by unfold q0o; rw [hx]; exact if_neg (by rw [b0]; decide))⟩ (by omega) ⟨⟨cwi (by omega) (by omega) (by omega), rfl, rfl, ⟨rfl, rfl, rfl⟩, trivial⟩, ⟨lcr, trivial⟩, rfl⟩)
     · have h : ¬ i < t.fr.length := by simpa using h
       have hz := qc (f := q0o t.fr) (n := t.fr.length) (fun j hj => h0 j (by omega))
       refine xv rfl rfl rfl ?_
       exact vi (hz.symm)
theorem y2u (a b : Tr) : PC Tryz.prog 320 [.agg a.cs, .agg b.cs] (rI (orr [z0a a.c b.c, z0a a.s b.s])) := by
 refine PC.begin Tryz.func320 rfl (by kernel_rfl) ?_
 refine q9 rfl [] (.take 0 [] (.take 1 [4, 9, 10, 11, 12] (.take 2 [] (.take 3 [4, 9, 10, 11, 12] (.take 5 [] (.take 6 (Rg 9 4) (.take 7 [] (.take 8 (Rg 9 4) (.alt 4 (.alt 9 (.alt 10 (.alt 11 (.take 12 [] .done) .nil) .nil) .nil) .nil))))))))) (by kernel_rfl) (z1 rfl (yr _ _) rfl tv3 (z1 rfl (yr _ _) rfl tv3 (xs rfl tv3 (z1 rfl (q8z [_, _] (by simp)) rfl ⟨rfl, trivial⟩ ?_))))
 refine xr rfl (yk rfl ⟨⟨rfl, rfl, trivial⟩, z6 rfl⟩)
theorem z9i {p x : Tr} : 0 ≤ orr [z0a p.c x.c, z0a p.s x.s] ↔ Tr.lt p x = false := by
 unfold orr orr orr z0a Tr.lt
 repeat' split
 all_goals (simp; try omega)
theorem z2u (a b : Hd) : PC Tryz.prog 349 [.agg a.cs, .agg b.cs] (rI (Hd.cmp a b)) := by
 refine PC.begin Tryz.func349 rfl (by kernel_rfl) ?_
 refine q9 rfl [] (.take 0 [] (.take 1 [4, 9, 14, 19, 24, 25, 26, 27] (.take 2 [] (.take 3 [4, 9, 14, 19, 24, 25, 26, 27] (.take 5 [] (.take 6 [9, 14, 19, 24, 25, 26, 27] (.take 7 [] (.take 8 [9, 14, 19, 24, 25, 26, 27] (.take 10 [] (.take 11 [14, 19, 24, 25, 26, 27] (.take 12 [] (.take 13 [14, 19, 24, 25, 26, 27] (.take 15 [] (.take 16 [19, 24, 25, 26, 27] (.take 17 [] (.take 18 [19, 24, 25, 26, 27] (.take 20 [] (.take 21 (Rg 24 4) (.take 22 [] (.take 23 (Rg 24 4) (.alt 4 (.alt 9 (.alt 14 (.alt 19 (.alt 24 (.alt 25 (.alt 26 (.take 27 [] .done) .nil) .nil) .nil) .nil) .nil) .nil) .nil))))))))))))))))))))) (by kernel_rfl) (z1 rfl (yr _ _) rfl tv3 (z1 rfl (yr _ _) rfl tv3 (z1 rfl (yr _ _) rfl tv3 (z1 rfl (yr _ _) rfl tv3 (z1 rfl (yr _ _) rfl tv3 (xs rfl tv6 (z1 rfl (q8z [_, _, _, _, _] (by simp)) rfl ⟨rfl, trivial⟩ ?_)))))))
 refine xr rfl (yk rfl ⟨⟨rfl, rfl, trivial⟩, z6 rfl⟩)
theorem y9h {p x : Hd} : 0 ≤ Hd.cmp p x ↔ Hd.lt p x = false := by
 unfold Hd.lt
 simp
theorem q7m (c : Clu) (ho : qz c) (ts : List Tr) (hl : ts.length ≤ 1048576) (ht : ∀ t ∈ ts, qan t) : PC Tryz.prog 253 [.one (.p c.cs), .one (.l (ts.map Tr.cs))] (rI (scan (z3f c ts) ts.length)) := by
 refine PC.begin Tryz.func253 rfl (by kernel_rfl) ?_
 refine zc rfl (ι := Nat) (fun i => i ≤ ts.length ∧ ∀ j, j < i → z3f c ts j = 0) (fun i => ⟨[(10, sV (.int .i64 i)), (9, sV (.int .i64 (ts.map Tr.cs).length)), (8, .one (.b (.l (ts.map Tr.cs)))), (0, .one (.b (.p c.cs))), (1, .one (.b (.l (ts.map Tr.cs))))], []⟩) (fun i => ts.length - i) 0 ⟨Nat.zero_le _, fun j hj => by omega⟩ ?_ ?_
 · exact ⟨⟨rfl, rfl, rfl, rfl, rfl, trivial⟩, trivial, rfl⟩
 · intro i ⟨hi, h0⟩ J hJ
   refine xb rfl ?_ ?_ <;> intro h
   · have h : i < ts.length := by simpa using h
     obtain ⟨x, hx⟩ := gx h
     have hg := gm Tr.cs hx
     have hxt := ht x (List.mem_of_getElem? hx)
     rcases Nat.eq_zero_or_pos i with hz | hz
     · subst hz
       refine xs rfl (nn_ _) (y9 rfl _ hg (xs rfl rfl (z1 rfl (z12 _ (by assumption) _ _) rfl tv4 ?_)))
       refine xb rfl ?_ ?_ <;> intro b0
       refine xv rfl rfl rfl ?_; rotate_left
       refine z1 rfl (zk _ _ _) rfl tv4 ?_
       refine xb rfl ?_ ?_ <;> intro b1
       refine xj (k := 5) rfl ?_
       refine xv rfl rfl rfl ?_; rotate_left
       refine xj (k := 2) rfl (z1 rfl (zk _ _ _) rfl tv4 (xj (k := 2) rfl ?_))
       refine xb rfl ?_ ?_ <;> intro b2
       refine xv rfl rfl rfl ?_; rotate_left
       refine q9 rfl [] (Tk (Rg 0 7) (.take 7 (Rg 9 4) (.take 8 (Rg 9 4) (.alt 9 (Tk [10, 11, 12] .done) .nil)))) (by kernel_rfl) (xj (k := 10) rfl (z1 rfl (y5w c ho x hxt) rfl ⟨trivial, tv7, trivial⟩ ?_))
       refine xb rfl ?_ ?_ <;> intro b3
       refine xv rfl rfl rfl ?_; rotate_left
       rotate_left
       all_goals (first | (refine vi (z7 h h0 ?_ (by first | decide | decide | simp_all)); clear hJ h0 hg; (first | (simp_all [z3f, ahead_zero, z9i, z5b]; done) | (simp_all [z3f, ahead_zero, z9i, z5b]; omega)); done) | (refine q8 rfl (hJ _ 1 ⟨by omega, za h0 ?_⟩ (by omega) ⟨⟨cwi (by omega) (by omega) (by omega), rfl, rfl, rfl, rfl, trivial⟩, trivial, rfl⟩); clear hJ h0 hg; (first | (simp_all [z3f, ahead_zero, z9i, z5b]; done) | (simp_all [z3f, ahead_zero, z9i, z5b]; omega)); done) | skip)
     · obtain ⟨p, hp⟩ := gx (xs := ts) (i := i - 1) (by omega)
       have hgp := z13 Tr.cs hz (by omega) hp
       refine xs rfl (nn_ _) (y9 rfl _ hg (xs rfl rfl (z1 rfl (z12 _ (by assumption) _ _) rfl tv4 ?_)))
       refine xb rfl ?_ ?_ <;> intro b0
       refine xv rfl rfl rfl ?_; rotate_left
       refine z1 rfl (zk _ _ _) rfl tv4 ?_
       refine xb rfl ?_ ?_ <;> intro b1
       refine xj (k := 5) rfl ?_
       refine xv rfl rfl rfl ?_; rotate_left
       refine xj (k := 2) rfl (z1 rfl (zk _ _ _) rfl tv4 (xj (k := 2) rfl ?_))
       refine xb rfl ?_ ?_ <;> intro b2
       refine xv rfl rfl rfl ?_; rotate_left
       refine q9 rfl [] (Tk (Rg 0 7) (.take 7 (Rg 9 4) (.take 8 (Rg 9 4) (.alt 9 (Tk [10, 11, 12] .done) .nil)))) (by kernel_rfl) ?_
       refine xb rfl ?_ ?_ <;> intro b3
       refine xj (k := 3) rfl (xs rfl (z0j hz (by omega)) (y9 rfl _ hgp (xs rfl rfl (xj (k := 3) rfl (z1 rfl (y2u _ _) rfl ⟨tv7, tv7, trivial⟩ (xj (k := 2) rfl ?_))))))
       refine xb rfl ?_ ?_ <;> intro b4
       refine xv rfl rfl rfl ?_; rotate_left
       refine z1 rfl (y5w c ho x hxt) rfl ⟨trivial, tv7, trivial⟩ ?_
       refine xb rfl ?_ ?_ <;> intro b5
       refine xv rfl rfl rfl ?_; rotate_left
       rotate_left
       refine xj (k := 9) rfl (z1 rfl (y5w c ho x hxt) rfl ⟨trivial, tv7, trivial⟩ ?_)
       refine xb rfl ?_ ?_ <;> intro b4
       refine xv rfl rfl rfl ?_; rotate_left
       rotate_left
       all_goals (first | (refine vi (z7 h h0 ?_ (by first | decide | decide | simp_all)); clear hJ h0 hg hgp; (first | (simp_all [z3f, z8 hz hp, z9i, z5b]; done) | (simp_all [z3f, z8 hz hp, z9i, z5b]; omega)); done) | (refine q8 rfl (hJ _ (i + 1) ⟨by omega, za h0 ?_⟩ (by omega) ⟨⟨cwi (by omega) (by omega) (by omega), rfl, rfl, rfl, rfl, trivial⟩, trivial, rfl⟩); clear hJ h0 hg hgp; (first | (simp_all [z3f, z8 hz hp, z9i, z5b]; done) | (simp_all [z3f, z8 hz hp, z9i, z5b]; omega)); done) | skip)
   · have h : ¬ i < ts.length := by simpa using h
     have hz := qc (f := z3f c ts) (n := ts.length) (fun j hj => h0 j (by omega))
     clear hJ
     refine xv rfl rfl rfl ?_
     exact vi (hz.symm)
theorem y7m (c : Clu) (ho : qz c) (ks : List Hd) (hl : ks.length ≤ 1048576) : PC Tryz.prog 254 [.one (.p c.cs), .one (.l (ks.map Hd.cs))] (rI (scan (hdF c ks) ks.length)) := by
 refine PC.begin Tryz.func254 rfl (by kernel_rfl) ?_
 have q2 := ho.2.2.1.1
 have p2 : (c.accs.map Acc.cs).length ≤ 1048576 := by simpa using q2
 refine zc rfl (ι := Nat) (fun i => i ≤ ks.length ∧ ∀ j, j < i → hdF c ks j = 0) (fun i => ⟨[(9, sV (.int .i64 i)), (8, sV (.int .i64 (ks.map Hd.cs).length)), (7, .one (.b (.l (ks.map Hd.cs)))), (0, .one (.b (.p c.cs))), (1, .one (.b (.l (ks.map Hd.cs))))], []⟩) (fun i => ks.length - i) 0 ⟨Nat.zero_le _, fun j hj => by omega⟩ ?_ ?_
 · exact ⟨⟨rfl, rfl, rfl, rfl, rfl, trivial⟩, trivial, rfl⟩
 · intro i ⟨hi, h0⟩ J hJ
   refine xb rfl ?_ ?_ <;> intro h
   · have h : i < ks.length := by simpa using h
     obtain ⟨x, hx⟩ := gx h
     have hg := gm Hd.cs hx
     rcases Nat.eq_zero_or_pos i with hz | hz
     · subst hz
       refine xs rfl (nn_ _) (y9 rfl _ hg (xs rfl rfl (z1 rfl (z12 _ (by assumption) _ _) rfl tv4 ?_)))
       refine xb rfl ?_ ?_ <;> intro b0
       refine xv rfl rfl rfl ?_; rotate_left
       refine q9 rfl [] (.take 0 [] (.take 1 (Rg 2 19) (.alt 2 (Tk [3, 4, 5] (.take 6 (Rg 7 14) (.alt 7 (Tk (Rg 8 4) (.take 12 (Rg 17 4) (Tk [13, 14, 15] (.take 16 (Rg 17 4) (.alt 17 (Tk [18, 19, 20] .done) .nil))))) .nil))) .nil))) (by kernel_rfl) (z1 rfl (y05 _) rfl ⟨trivial, trivial⟩ ?_)
       refine xb rfl ?_ ?_ <;> intro b1
       refine xj (k := 14) rfl ?_
       refine xv rfl rfl rfl ?_; rotate_left
       refine xj (k := 2) rfl (z1 rfl (z0k _) rfl ⟨trivial, trivial⟩ (xj (k := 2) rfl ?_))
       refine xb rfl ?_ ?_ <;> intro b2
       refine xj (k := 9) rfl ?_
       refine xv rfl rfl rfl ?_; rotate_left
       refine xj (k := 6) rfl (z1 rfl (y0c _ _ (by assumption)) rfl tv3 (xj (k := 2) rfl ?_))
       refine xb rfl ?_ ?_ <;> intro b3
       refine xv rfl rfl rfl ?_; rotate_left
       refine q9 rfl [] (Tk (Rg 0 7) (.take 7 (Rg 9 4) (.take 8 (Rg 9 4) (.alt 9 (Tk [10, 11, 12] .done) .nil)))) (by kernel_rfl) ?_
       refine xj (k := 10) rfl ?_; rotate_left
       all_goals (first | (refine vi (z7 h h0 ?_ (by first | decide | decide | simp_all)); clear hJ h0 hg; (first | (simp_all [hdF, ahead_zero, y9h]; done) | (simp_all [hdF, ahead_zero, y9h]; omega)); done) | (refine q8 rfl (hJ _ 1 ⟨by omega, za h0 ?_⟩ (by omega) ⟨⟨cwi (by omega) (by omega) (by omega), rfl, rfl, rfl, rfl, trivial⟩, trivial, rfl⟩); clear hJ h0 hg; (first | (simp_all [hdF, ahead_zero, y9h]; done) | (simp_all [hdF, ahead_zero, y9h]; omega)); done) | skip)
     · obtain ⟨p, hp⟩ := gx (xs := ks) (i := i - 1) (by omega)
       have hgp := z13 Hd.cs hz (by omega) hp
       refine xs rfl (nn_ _) (y9 rfl _ hg (xs rfl rfl (z1 rfl (z12 _ (by assumption) _ _) rfl tv4 ?_)))
       refine xb rfl ?_ ?_ <;> intro b0
       refine xv rfl rfl rfl ?_; rotate_left
       refine q9 rfl [] (.take 0 [] (.take 1 (Rg 2 19) (.alt 2 (Tk [3, 4, 5] (.take 6 (Rg 7 14) (.alt 7 (Tk (Rg 8 4) (.take 12 (Rg 17 4) (Tk [13, 14, 15] (.take 16 (Rg 17 4) (.alt 17 (Tk [18, 19, 20] .done) .nil))))) .nil))) .nil))) (by kernel_rfl) (z1 rfl (y05 _) rfl ⟨trivial, trivial⟩ ?_)
       refine xb rfl ?_ ?_ <;> intro b1
       refine xj (k := 14) rfl ?_
       refine xv rfl rfl rfl ?_; rotate_left
       refine xj (k := 2) rfl (z1 rfl (z0k _) rfl ⟨trivial, trivial⟩ (xj (k := 2) rfl ?_))
       refine xb rfl ?_ ?_ <;> intro b2
       refine xj (k := 9) rfl ?_
       refine xv rfl rfl rfl ?_; rotate_left
       refine xj (k := 6) rfl (z1 rfl (y0c _ _ (by assumption)) rfl tv3 (xj (k := 2) rfl ?_))
       refine xb rfl ?_ ?_ <;> intro b3
       refine xv rfl rfl rfl ?_; rotate_left
       refine q9 rfl [] (Tk (Rg 0 7) (.take 7 (Rg 9 4) (.take 8 (Rg 9 4) (.alt 9 (Tk [10, 11, 12] .done) .nil)))) (by kernel_rfl) ?_
       refine xb rfl ?_ ?_ <;> intro b4
       refine xj (k := 3) rfl (xs rfl (z0j hz (by omega)) (y9 rfl _ hgp (xs rfl rfl (xj (k := 3) rfl (z1 rfl (z2u _ _) rfl ⟨tv6, tv6, trivial⟩ (xj (k := 2) rfl ?_))))))
       refine xb rfl ?_ ?_ <;> intro b5
       refine xv rfl rfl rfl ?_; rotate_left
       rotate_left
       refine xj (k := 9) rfl ?_; rotate_left
       all_goals (first | (refine vi (z7 h h0 ?_ (by first | decide | decide | simp_all)); clear hJ h0 hg hgp; (first | (simp_all [hdF, z8 hz hp, y9h]; done) | (simp_all [hdF, z8 hz hp, y9h]; omega)); done) | (refine q8 rfl (hJ _ (i + 1) ⟨by omega, za h0 ?_⟩ (by omega) ⟨⟨cwi (by omega) (by omega) (by omega), rfl, rfl, rfl, rfl, trivial⟩, trivial, rfl⟩); clear hJ h0 hg hgp; (first | (simp_all [hdF, z8 hz hp, y9h]; done) | (simp_all [hdF, z8 hz hp, y9h]; omega)); done) | skip)
   · have h : ¬ i < ks.length := by simpa using h
     have hz := qc (f := hdF c ks) (n := ks.length) (fun j hj => h0 j (by omega))
     clear hJ
     refine xv rfl rfl rfl ?_
     exact vi (hz.symm)
theorem y9y (c : Clu) (ho : qz c) (l : Ldr) (hl : q9o l) : PC Tryz.prog 148 [.one (.p c.cs), .agg l.cs] (rI (z7r c l)) := by
 refine PC.begin Tryz.func148 rfl (by kernel_rfl) ?_
 obtain ⟨l1, l2, l3⟩ := hl
 have hT := q7m c ho l.tries l1 l3
 have hK := y7m c ho l.known l2
 refine z1 rfl (zk _ _ _) rfl tv4 ?_
 refine xb rfl ?_ ?_ <;> intro b0
 refine xv rfl rfl rfl ?_; rotate_left
 refine xb rfl ?_ ?_ <;> intro b1
 refine xj (k := 5) rfl ?_
 refine xv rfl rfl rfl ?_; rotate_left
 refine xj (k := 4) rfl ?_
 refine xb rfl ?_ ?_ <;> intro b2
 refine xv rfl rfl rfl ?_; rotate_left
 refine q9 rfl [] (Tk [0, 1] (.take 2 [3, 7, 8, 9, 10] (Tk [4, 5] (.take 6 (Rg 7 4) (.alt 3 (.alt 7 (.alt 8 (.alt 9 (.take 10 [] .done) .nil) .nil) .nil) .nil))))) (by kernel_rfl) (z1 rfl (hT) rfl tv3 (z1 rfl (hK) rfl tv3 (xs rfl tv3 (z1 rfl (q27 [_, _] (by simp)) rfl ⟨rfl, trivial⟩ ?_))))
 refine xv rfl rfl rfl ?_; rotate_left
 all_goals (refine vi ?_; clear hT hK; unfold z7r; simp_all; try omega)
theorem y4u (a b : Hd) : PC Tryz.prog 236 [.agg a.cs, .agg b.cs] (rB (Hd.lt a b)) := by
 refine PC.begin Tryz.func236 rfl (by kernel_rfl) ?_
 refine xs rfl tv6 (xs rfl tv6 ?_)
 refine zc rfl (ι := Nat) (fun i => i ≤ 5 ∧ (1 ≤ i → a.c = b.c) ∧ (2 ≤ i → a.s = b.s) ∧ (3 ≤ i → a.b = b.b) ∧ (4 ≤ i → a.v = b.v) ∧ (5 ≤ i → a.f = b.f)) (fun i => ⟨[(7, sV (.int .i64 i)), (5, .one (.h 18 5)), (6, .one (.h 29 5))], [(18, .arr true 1 0 [[i64 a.c], [i64 a.s], [i64 a.b], [i64 a.v], [i64 a.f]]), (29, .arr true 1 0 [[i64 b.c], [i64 b.s], [i64 b.b], [i64 b.v], [i64 b.f]])]⟩) (fun i => 5 - i) 0 ⟨by omega, by omega, by omega, by omega, by omega, by omega⟩ ?_ ?_
 · exact ⟨⟨rfl, ⟨rfl, rfl, rfl⟩, ⟨rfl, rfl, rfl⟩, trivial⟩, ⟨⟨rfl, .inl rfl, .inl rfl⟩, ⟨rfl, .inl rfl, .inl rfl⟩, trivial⟩, rfl⟩
 · intro i ⟨hi, h1, h2, h3, h4, h5⟩ J hJ
   have hc : i = 0 ∨ i = 1 ∨ i = 2 ∨ i = 3 ∨ i = 4 ∨ i = 5 := by omega
   rcases hc with rfl | rfl | rfl | rfl | rfl | rfl
   · skip
     clear h1 h2 h3 h4 h5
     have hga : [[i64 a.c], [i64 a.s], [i64 a.b], [i64 a.v], [i64 a.f]][((0 : Nat) : Int).toNat]? = some [i64 a.c] := rfl
     have hgb : [[i64 b.c], [i64 b.s], [i64 b.b], [i64 b.v], [i64 b.f]][((0 : Nat) : Int).toNat]? = some [i64 b.c] := rfl
     refine xj (k := 1) rfl (q9 rfl [] (Tk [0, 1, 2] (.take 3 [8] (Tk [4, 5, 6] (.take 7 [8] (.take 8 [] .done))))) (by kernel_rfl) (xs rfl rfl (xs rfl (by decide) (y9 rfl _ hga (xs rfl rfl (xs rfl rfl (y9 rfl _ hga (xs rfl rfl (xs rfl (by decide) ?_)))))))))
     refine y9 rfl _ hgb (xs rfl rfl (xs rfl rfl (y9 rfl _ hgb ?_)))
     refine xb rfl ?_ ?_ <;> intro b0
     refine q9 rfl [] (Tk [0, 1, 2] (.take 3 [8, 9] (Tk [4, 5, 6] (.take 7 [8, 9] (Tk [8, 9] .done))))) (by kernel_rfl) (xs rfl rfl (xs rfl (by decide) (y9 rfl _ hga (xs rfl rfl (xs rfl rfl (y9 rfl _ hga (xs rfl rfl (xs rfl (by decide) (y9 rfl _ hgb ?_)))))))))
     refine xs rfl rfl (xs rfl rfl (y9 rfl _ hgb ?_))
     refine xv rfl rfl rfl ?_; rotate_left
     rotate_left
     · have hn : ¬ a.c = b.c := by simpa using b0
       refine vb ?_
       rw [Bool.eq_iff_iff]
       simp only [Hd.lt, Hd.cmp, orr, z0a, decide_eq_true_eq]
       (repeat' split) <;> first | omega | (simp; omega) | (simp_all; done) | (simp_all; omega)
     · have hn : a.c = b.c := by simpa using b0
       exact q8 rfl (hJ _ 1 ⟨by omega, by omega, by omega, by omega, by omega, by omega⟩ (by omega) ⟨⟨rfl, ⟨rfl, rfl, rfl⟩, ⟨rfl, rfl, rfl⟩, trivial⟩, ⟨⟨rfl, .inl rfl, .inl rfl⟩, ⟨rfl, .inl rfl, .inl rfl⟩, trivial⟩, rfl⟩)
   · skip
     have e1 := h1 (by omega)
     clear h1 h2 h3 h4 h5
     have hga : [[i64 a.c], [i64 a.s], [i64 a.b], [i64 a.v], [i64 a.f]][((1 : Nat) : Int).toNat]? = some [i64 a.s] := rfl
     have hgb : [[i64 b.c], [i64 b.s], [i64 b.b], [i64 b.v], [i64 b.f]][((1 : Nat) : Int).toNat]? = some [i64 b.s] := rfl
     refine xj (k := 1) rfl (q9 rfl [] (Tk [0, 1, 2] (.take 3 [8] (Tk [4, 5, 6] (.take 7 [8] (.take 8 [] .done))))) (by kernel_rfl) (xs rfl rfl (xs rfl (by decide) (y9 rfl _ hga (xs rfl rfl (xs rfl rfl (y9 rfl _ hga (xs rfl rfl (xs rfl (by decide) ?_)))))))))
     refine y9 rfl _ hgb (xs rfl rfl (xs rfl rfl (y9 rfl _ hgb ?_)))
     refine xb rfl ?_ ?_ <;> intro b0
     refine q9 rfl [] (Tk [0, 1, 2] (.take 3 [8, 9] (Tk [4, 5, 6] (.take 7 [8, 9] (Tk [8, 9] .done))))) (by kernel_rfl) (xs rfl rfl (xs rfl (by decide) (y9 rfl _ hga (xs rfl rfl (xs rfl rfl (y9 rfl _ hga (xs rfl rfl (xs rfl (by decide) (y9 rfl _ hgb ?_)))))))))
     refine xs rfl rfl (xs rfl rfl (y9 rfl _ hgb ?_))
     refine xv rfl rfl rfl ?_; rotate_left
     rotate_left
     · have hn : ¬ a.s = b.s := by simpa using b0
       refine vb ?_
       rw [Bool.eq_iff_iff]
       simp only [Hd.lt, Hd.cmp, orr, z0a, e1, decide_eq_true_eq]
       (repeat' split) <;> first | omega | (simp; omega) | (simp_all; done) | (simp_all; omega)
     · have hn : a.s = b.s := by simpa using b0
       exact q8 rfl (hJ _ 2 ⟨by omega, by omega, by omega, by omega, by omega, by omega⟩ (by omega) ⟨⟨rfl, ⟨rfl, rfl, rfl⟩, ⟨rfl, rfl, rfl⟩, trivial⟩, ⟨⟨rfl, .inl rfl, .inl rfl⟩, ⟨rfl, .inl rfl, .inl rfl⟩, trivial⟩, rfl⟩)
   · skip
     have e1 := h1 (by omega)
     have e2 := h2 (by omega)
     clear h1 h2 h3 h4 h5
     have hga : [[i64 a.c], [i64 a.s], [i64 a.b], [i64 a.v], [i64 a.f]][((2 : Nat) : Int).toNat]? = some [i64 a.b] := rfl
     have hgb : [[i64 b.c], [i64 b.s], [i64 b.b], [i64 b.v], [i64 b.f]][((2 : Nat) : Int).toNat]? = some [i64 b.b] := rfl
     refine xj (k := 1) rfl (q9 rfl [] (Tk [0, 1, 2] (.take 3 [8] (Tk [4, 5, 6] (.take 7 [8] (.take 8 [] .done))))) (by kernel_rfl) (xs rfl rfl (xs rfl (by decide) (y9 rfl _ hga (xs rfl rfl (xs rfl rfl (y9 rfl _ hga (xs rfl rfl (xs rfl (by decide) ?_)))))))))
     refine y9 rfl _ hgb (xs rfl rfl (xs rfl rfl (y9 rfl _ hgb ?_)))
     refine xb rfl ?_ ?_ <;> intro b0
     refine q9 rfl [] (Tk [0, 1, 2] (.take 3 [8, 9] (Tk [4, 5, 6] (.take 7 [8, 9] (Tk [8, 9] .done))))) (by kernel_rfl) (xs rfl rfl (xs rfl (by decide) (y9 rfl _ hga (xs rfl rfl (xs rfl rfl (y9 rfl _ hga (xs rfl rfl (xs rfl (by decide) (y9 rfl _ hgb ?_)))))))))
     refine xs rfl rfl (xs rfl rfl (y9 rfl _ hgb ?_))
     refine xv rfl rfl rfl ?_; rotate_left
     rotate_left
     · have hn : ¬ a.b = b.b := by simpa using b0
       refine vb ?_
       rw [Bool.eq_iff_iff]
       simp only [Hd.lt, Hd.cmp, orr, z0a, e1, e2, decide_eq_true_eq]
       (repeat' split) <;> first | omega | (simp; omega) | (simp_all; done) | (simp_all; omega)
     · have hn : a.b = b.b := by simpa using b0
       exact q8 rfl (hJ _ 3 ⟨by omega, by omega, by omega, by omega, by omega, by omega⟩ (by omega) ⟨⟨rfl, ⟨rfl, rfl, rfl⟩, ⟨rfl, rfl, rfl⟩, trivial⟩, ⟨⟨rfl, .inl rfl, .inl rfl⟩, ⟨rfl, .inl rfl, .inl rfl⟩, trivial⟩, rfl⟩)
   · skip
     have e1 := h1 (by omega)
     have e2 := h2 (by omega)
     have e3 := h3 (by omega)
     clear h1 h2 h3 h4 h5
     have hga : [[i64 a.c], [i64 a.s], [i64 a.b], [i64 a.v], [i64 a.f]][((3 : Nat) : Int).toNat]? = some [i64 a.v] := rfl
     have hgb : [[i64 b.c], [i64 b.s], [i64 b.b], [i64 b.v], [i64 b.f]][((3 : Nat) : Int).toNat]? = some [i64 b.v] := rfl
     refine xj (k := 1) rfl (q9 rfl [] (Tk [0, 1, 2] (.take 3 [8] (Tk [4, 5, 6] (.take 7 [8] (.take 8 [] .done))))) (by kernel_rfl) (xs rfl rfl (xs rfl (by decide) (y9 rfl _ hga (xs rfl rfl (xs rfl rfl (y9 rfl _ hga (xs rfl rfl (xs rfl (by decide) ?_)))))))))
     refine y9 rfl _ hgb (xs rfl rfl (xs rfl rfl (y9 rfl _ hgb ?_)))
     refine xb rfl ?_ ?_ <;> intro b0
     refine q9 rfl [] (Tk [0, 1, 2] (.take 3 [8, 9] (Tk [4, 5, 6] (.take 7 [8, 9] (Tk [8, 9] .done))))) (by kernel_rfl) (xs rfl rfl (xs rfl (by decide) (y9 rfl _ hga (xs rfl rfl (xs rfl rfl (y9 rfl _ hga (xs rfl rfl (xs rfl (by decide) (y9 rfl _ hgb ?_)))))))))
     refine xs rfl rfl (xs rfl rfl (y9 rfl _ hgb ?_))
     refine xv rfl rfl rfl ?_; rotate_left
     rotate_left
     · have hn : ¬ a.v = b.v := by simpa using b0
       refine vb ?_
       rw [Bool.eq_iff_iff]
       simp only [Hd.lt, Hd.cmp, orr, z0a, e1, e2, e3, decide_eq_true_eq]
       (repeat' split) <;> first | omega | (simp; omega) | (simp_all; done) | (simp_all; omega)
     · have hn : a.v = b.v := by simpa using b0
       exact q8 rfl (hJ _ 4 ⟨by omega, by omega, by omega, by omega, by omega, by omega⟩ (by omega) ⟨⟨rfl, ⟨rfl, rfl, rfl⟩, ⟨rfl, rfl, rfl⟩, trivial⟩, ⟨⟨rfl, .inl rfl, .inl rfl⟩, ⟨rfl, .inl rfl, .inl rfl⟩, trivial⟩, rfl⟩)
   · skip
     have e1 := h1 (by omega)
     have e2 := h2 (by omega)
     have e3 := h3 (by omega)
     have e4 := h4 (by omega)
     clear h1 h2 h3 h4 h5
     have hga : [[i64 a.c], [i64 a.s], [i64 a.b], [i64 a.v], [i64 a.f]][((4 : Nat) : Int).toNat]? = some [i64 a.f] := rfl
     have hgb : [[i64 b.c], [i64 b.s], [i64 b.b], [i64 b.v], [i64 b.f]][((4 : Nat) : Int).toNat]? = some [i64 b.f] := rfl
     refine xj (k := 1) rfl (q9 rfl [] (Tk [0, 1, 2] (.take 3 [8] (Tk [4, 5, 6] (.take 7 [8] (.take 8 [] .done))))) (by kernel_rfl) (xs rfl rfl (xs rfl (by decide) (y9 rfl _ hga (xs rfl rfl (xs rfl rfl (y9 rfl _ hga (xs rfl rfl (xs rfl (by decide) ?_)))))))))
     refine y9 rfl _ hgb (xs rfl rfl (xs rfl rfl (y9 rfl _ hgb ?_)))
     refine xb rfl ?_ ?_ <;> intro b0
     refine q9 rfl [] (Tk [0, 1, 2] (.take 3 [8, 9] (Tk [4, 5, 6] (.take 7 [8, 9] (Tk [8, 9] .done))))) (by kernel_rfl) (xs rfl rfl (xs rfl (by decide) (y9 rfl _ hga (xs rfl rfl (xs rfl rfl (y9 rfl _ hga (xs rfl rfl (xs rfl (by decide) (y9 rfl _ hgb ?_)))))))))
     refine xs rfl rfl (xs rfl rfl (y9 rfl _ hgb ?_))
     refine xv rfl rfl rfl ?_; rotate_left
     rotate_left
     · have hn : ¬ a.f = b.f := by simpa using b0
       refine vb ?_
       rw [Bool.eq_iff_iff]
       simp only [Hd.lt, Hd.cmp, orr, z0a, e1, e2, e3, e4, decide_eq_true_eq]
       (repeat' split) <;> first | omega | (simp; omega) | (simp_all; done) | (simp_all; omega)
     · have hn : a.f = b.f := by simpa using b0
       exact q8 rfl (hJ _ 5 ⟨by omega, by omega, by omega, by omega, by omega, by omega⟩ (by omega) ⟨⟨rfl, ⟨rfl, rfl, rfl⟩, ⟨rfl, rfl, rfl⟩, trivial⟩, ⟨⟨rfl, .inl rfl, .inl rfl⟩, ⟨rfl, .inl rfl, .inl rfl⟩, trivial⟩, rfl⟩)
   · have e1 := h1 (by omega)
     have e2 := h2 (by omega)
     have e3 := h3 (by omega)
     have e4 := h4 (by omega)
     have e5 := h5 (by omega)
     refine xj (k := 1) rfl (xv rfl rfl rfl ?_)
     refine vb ?_
     simp [Hd.lt, Hd.cmp, orr, z0a, e1, e2, e3, e4, e5]
theorem q3v (c : Clu) (y : Int) : True := trivial
theorem q9m {c : Clu} {ts : List Tr} {i : Nat} {t : Tr} {h w1 w2 a d : Bool} (e1 : z0t c.cons t.c t.s = h) (e2 : Go.Sx.within t.b 1 1000 = w1) (e3 : Go.Sx.within t.v 0 2 = w2) (e4 : Go.Sx.ahead Tr.lt ts i t = a) (e5 : (t.fr.length != t.olds.length) = d) : z5b c ts i t = (bif h then (bif w1 then (bif w2 then (bif a then (bif d then 1 else z71 c t) else 1) else 3) else 3) else 4) := by
 unfold z5b
 rw [e1, e2, e3, e4, e5]
 cases h <;> cases w1 <;> cases w2 <;> cases a <;> cases d <;> rfl
theorem qbv {us : List Int} {vs : List Vt} : (((ints us).length : Int) != ((vs.map Vt.cs).length : Int)) = (us.length != vs.length) := by
 rw [Bool.eq_iff_iff]
 simp
 omega
theorem yac (c : Clu) (ho : qz c) (ts : List Tr) (i : Nat) (t : Tr) (hl : ts.length ≤ 1048576) (ht : qan t) (hx : ts[i]? = some t) : PC Tryz.prog 233 [.one (.p c.cs), .one (.l (ts.map Tr.cs)), .one (i64 i)] (rI (z5b c ts i t)) := by
 refine PC.begin Tryz.func233 rfl (by kernel_rfl) ?_
 obtain ⟨o1, o2⟩ := ht
 have hg := gm Tr.cs hx
 have hlt := (List.getElem?_eq_some_iff.1 hx).1
 have w2 := wl1 Acc.cs ho.2.2.1.1
 have hD := (qbv (us := t.fr) (vs := t.olds)).symm
 rcases Nat.eq_zero_or_pos i with hz | hz
 · have hA : Go.Sx.ahead Tr.lt ts i t = true := by subst hz; rfl
   have hK := q9m (c := c) rfl rfl rfl hA hD
   subst hz
   refine xs rfl (nn_ _) (y9 rfl _ hg (xs rfl rfl (z1 rfl (zv _ (by assumption) _ _) rfl tv4 ?_)))
   refine xb rfl ?_ ?_ <;> intro b0
   refine xv rfl rfl rfl ?_; rotate_left
   refine z1 rfl (qh _ _ _) rfl tv4 ?_
   refine xb rfl ?_ ?_ <;> intro b1
   refine xj (k := 5) rfl ?_
   refine xv rfl rfl rfl ?_; rotate_left
   refine xj (k := 2) rfl (z1 rfl (qh _ _ _) rfl tv4 (xj (k := 2) rfl ?_))
   refine xb rfl ?_ ?_ <;> intro b2
   refine xv rfl rfl rfl ?_; rotate_left
   refine q9 rfl [] (Tk (Rg 0 8) (.take 8 (Rg 15 1 ++ Rg 21 12) (Tk (Rg 9 5) (.take 14 (Rg 15 1 ++ Rg 21 12) (Tk [15, 16] (.take 17 (Rg 20 13) (.take 18 [] (.take 19 (Rg 20 13) (.take 20 [] (.alt 21 (Tk (Rg 22 4) (.take 26 [27, 31, 32] (Tk [27, 28] (.take 29 (Rg 30 3) (Tk [30, 31, 32] .done))))) .nil)))))))))) (by kernel_rfl) (xj (k := 29) rfl ?_)
   refine xb rfl ?_ ?_ <;> intro b3
   refine xv rfl rfl rfl ?_; rotate_left
   rotate_left
   all_goals first | (refine vi ?_; rw [hK]; clear hg hK hA; simp_all only [Bool.not_eq_true', Bool.not_eq_false', cond_true, cond_false]; done) | skip
   have hT : z5b c ts 0 t = z71 c t := by rw [hK]; clear hg hK hA; simp_all only [Bool.not_eq_true', Bool.not_eq_false', cond_true, cond_false]
   have hle : t.fr.length = t.olds.length := by have := hD.trans b3; simpa using this
   clear hK hD b0 b1 b2 b3 hA
   refine zc rfl (ι := Nat) (fun k => k ≤ t.fr.length ∧ (∀ j y, j < k → t.fr[j]? = some y → y1o c y = false) ∧ ∀ j y, j < k → t.olds[j]? = some y → q0n y = false) (fun k => ⟨[(8, sV (.int .i64 k)), (7, .one (.a 7 0)), (0, .one (.b (.p c.cs)))], [(7, .var (t.cs.map .b))]⟩) (fun k => t.fr.length - k) 0 ⟨Nat.zero_le _, fun j y hj => by omega, fun j y hj => by omega⟩ ?_ ?_
   · exact ⟨⟨rfl, ⟨rfl, rfl, rfl⟩, rfl, trivial⟩, ⟨⟨rfl, rfl, rfl, rfl, rfl, rfl, trivial⟩, trivial⟩, rfl⟩
   · intro k ⟨hk, h0k, h1k⟩ Jk hJk
     refine xb rfl ?_ ?_ <;> intro hh
     · have hh : k < t.fr.length := by simpa using hh
       obtain ⟨y, hy⟩ := gx hh
       obtain ⟨v, hv⟩ := gx (xs := t.olds) (i := k) (by omega)
       have hgy := gm (fun n => [i64 n]) hy
       have hgv := gm Vt.cs hv
       have hwq := q3v c y
       refine q9 rfl [] (.take 0 [] (.take 1 (Rg 3 2 ++ Rg 11 20) (Tk [2, 3] (.take 4 (Rg 11 20) (Tk [5, 6, 7] (.take 8 (Rg 9 22) (Tk [9, 10] (.alt 11 (Tk [12, 13, 14] (.take 15 (Rg 17 2 ++ Rg 20 11) (Tk [16, 17] (.take 18 (Rg 20 11) (.alt 19 (Tk [20, 21, 22] (.take 23 (Rg 25 6) (Tk [24, 25] (.take 26 (Rg 27 4) (.alt 27 (Tk [28, 29, 30] .done) .nil))))) .nil))))) .nil)))))))) (by kernel_rfl) (xs rfl (nn_ _) (y9 rfl _ hgy (xs rfl rfl (z1 rfl (qh _ _ _) rfl tv4 ?_))))
       refine xb rfl ?_ ?_ <;> intro b0
       refine xj (k := 10) rfl ?_
       refine xv rfl rfl rfl ?_; rotate_left
       refine xj (k := 3) rfl (xs rfl (nn_ _) (y9 rfl _ hgv (xs rfl rfl (xj (k := 2) rfl (z1 rfl (y17) rfl trivial (xj (k := 2) rfl ?_))))))
       refine xb rfl ?_ ?_ <;> intro b1
       refine xj (k := 3) rfl (xs rfl (nn_ _) (y9 rfl _ hgv (xs rfl rfl (xj (k := 2) rfl (z1 rfl (q1p _) rfl ⟨tv3, trivial⟩ (xj (k := 4) rfl ?_))))))
       refine xb rfl ?_ ?_ <;> intro b2
       refine xv rfl rfl rfl ?_; rotate_left
       rotate_left
       refine xj (k := 10) rfl ?_; rotate_left
       all_goals first
        | (refine vi ?_
           have hb : y1o c y = true := by unfold y1o; rw [← w2]; assumption
           rw [hT]; unfold z71; rw [yq hy hb |>.symm]; rfl)
        | (refine vi ?_
           have hb : q0n v = true := by unfold q0n; simp_all [y0y, Vt.none]
           rw [hT]; unfold z71; rw [yq hv hb |>.symm, Bool.or_true]; rfl)
        | (have hb : y1o c y = false := by unfold y1o; rw [← w2]; assumption
           have hb2 : q0n v = false := by unfold q0n; simp_all [y0y, Vt.none]
           exact q8 rfl (hJk _ (k + 1) ⟨by omega, yd hy h0k hb, yd hv h1k hb2⟩ (by omega) ⟨⟨cwi (by omega) (by omega) (by omega), ⟨rfl, rfl, rfl⟩, rfl, trivial⟩, ⟨lcr, trivial⟩, rfl⟩))
        | skip
     · have hh : ¬ k < t.fr.length := by simpa using hh
       have ha := any_none (qg (by omega) h0k)
       have hb := any_none (l := t.olds) (qg (by omega) h1k)
       have hT2 : z5b c ts 0 t = scan (q0o t.fr) t.fr.length := by rw [hT]; unfold z71; rw [← ha, ← hb]; rfl
       clear hJk h0k h1k ha hb
       refine zc rfl (ι := Nat) (fun k => k ≤ t.fr.length ∧ ∀ j, j < k → q0o t.fr j = 0) (fun k => ⟨[(9, sV (.int .i64 k)), (7, .one (.a 7 0)), (0, .one (.b (.p c.cs)))], [(7, .var (t.cs.map .b))]⟩) (fun k => t.fr.length - k) 0 ⟨Nat.zero_le _, fun j hj => by omega⟩ ?_ ?_
       · exact ⟨⟨rfl, ⟨rfl, rfl, rfl⟩, rfl, trivial⟩, ⟨lcr, trivial⟩, rfl⟩
       · intro k ⟨hk, h0k⟩ Jk hJk
         refine xb rfl ?_ ?_ <;> intro hh
         · have hh : k < t.fr.length := by simpa using hh
           obtain ⟨y, hy⟩ := gx hh
           have hgy := gm (fun n => [i64 n]) hy
           refine q9 rfl [] (.take 0 [] (.take 1 [3, 9] (Tk [2, 3, 4] (.take 5 (Rg 7 3) (Tk [6, 7] (.take 8 [9] (.alt 9 .done .nil))))))) (by kernel_rfl) (xs rfl (.inl rfl) (xs rfl (nn_ _) (xs rfl (nn_ _) (xs rfl (by simp; omega) (xs rfl (nn_ _) (y9 rfl _ hgy (xs rfl rfl (z1 rfl (y2p _ (t.fr.take k) y (q30 _ _) (by rw [List.length_take]; omega)) rfl tv3 ?_))))))))
           refine xb rfl ?_ ?_ <;> intro b0
           refine xv rfl rfl rfl ?_; rotate_left
           rotate_left
           · exact vi (by rw [hT2]; exact z7 hh h0k (by unfold q0o; rw [hy]; exact if_pos b0) (by decide))
           · exact q8 rfl (hJk _ (k + 1) ⟨by omega, za h0k (by unfold q0o; rw [hy]; exact if_neg (by rw [b0]; decide))⟩ (by omega) ⟨⟨cwi (by omega) (by omega) (by omega), ⟨rfl, rfl, rfl⟩, rfl, trivial⟩, ⟨lcr, trivial⟩, rfl⟩)
         · have hh : ¬ k < t.fr.length := by simpa using hh
           have hz := qc (f := q0o t.fr) (n := t.fr.length) (fun j hj => h0k j (by omega))
           refine xv rfl rfl rfl ?_
           exact vi (by rw [hT2, hz])
 · obtain ⟨p, hp⟩ := gx (xs := ts) (i := i - 1) (by omega)
   have hgp := z13 Tr.cs hz (by omega) hp
   have hA : Go.Sx.ahead Tr.lt ts i t = Slt.lt ⟨p.c, p.s, 0, 0, 0, []⟩ ⟨t.c, t.s, 0, 0, 0, []⟩ := z8 hz hp
   have hK := q9m (c := c) rfl rfl rfl hA hD
   refine xs rfl (nn_ _) (y9 rfl _ hg (xs rfl rfl (z1 rfl (zv _ (by assumption) _ _) rfl tv4 ?_)))
   refine xb rfl ?_ ?_ <;> intro b0
   refine xv rfl rfl rfl ?_; rotate_left
   refine z1 rfl (qh _ _ _) rfl tv4 ?_
   refine xb rfl ?_ ?_ <;> intro b1
   refine xj (k := 5) rfl ?_
   refine xv rfl rfl rfl ?_; rotate_left
   refine xj (k := 2) rfl (z1 rfl (qh _ _ _) rfl tv4 (xj (k := 2) rfl ?_))
   refine xb rfl ?_ ?_ <;> intro b2
   refine xv rfl rfl rfl ?_; rotate_left
   refine q9 rfl [] (Tk (Rg 0 8) (.take 8 (Rg 15 1 ++ Rg 21 12) (Tk (Rg 9 5) (.take 14 (Rg 15 1 ++ Rg 21 12) (Tk [15, 16] (.take 17 (Rg 20 13) (.take 18 [] (.take 19 (Rg 20 13) (.take 20 [] (.alt 21 (Tk (Rg 22 4) (.take 26 [27, 31, 32] (Tk [27, 28] (.take 29 (Rg 30 3) (Tk [30, 31, 32] .done))))) .nil)))))))))) (by kernel_rfl) ?_
   refine xb rfl ?_ ?_ <;> intro b3
   refine xj (k := 3) rfl (xs rfl (z0j hz (by omega)) (y9 rfl _ hgp (xs rfl rfl (xj (k := 6) rfl (xs rfl (z0j hz (by omega)) (y9 rfl _ hgp (xs rfl rfl (xj (k := 9) rfl (z1 rfl (z3p ⟨p.c, p.s, 0, 0, 0, []⟩ ⟨t.c, t.s, 0, 0, 0, []⟩) rfl ⟨tv7, tv7, trivial⟩ ?_)))))))))
   refine xj (k := 2) rfl ?_
   refine xb rfl ?_ ?_ <;> intro b4
   refine xj (k := 8) rfl ?_
   refine xv rfl rfl rfl ?_; rotate_left
   refine xj (k := 7) rfl ?_
   refine xb rfl ?_ ?_ <;> intro b5
   refine xv rfl rfl rfl ?_; rotate_left
   rotate_left
   exact absurd b3 (by simp; omega)
   all_goals first | (refine vi ?_; rw [hK]; clear hg hgp hK hA; simp_all only [Bool.not_eq_true', Bool.not_eq_false', cond_true, cond_false]; done) | (exfalso; clear hK; simp at b3; omega) | skip
   have hT : z5b c ts i t = z71 c t := by rw [hK]; clear hg hgp hK hA; simp_all only [Bool.not_eq_true', Bool.not_eq_false', cond_true, cond_false]
   have hle : t.fr.length = t.olds.length := by have := hD.trans b5; simpa using this
   clear hK hD b0 b1 b2 b3 b4 b5 hA
   refine zc rfl (ι := Nat) (fun k => k ≤ t.fr.length ∧ (∀ j y, j < k → t.fr[j]? = some y → y1o c y = false) ∧ ∀ j y, j < k → t.olds[j]? = some y → q0n y = false) (fun k => ⟨[(8, sV (.int .i64 k)), (7, .one (.a 7 0)), (0, .one (.b (.p c.cs)))], [(7, .var (t.cs.map .b))]⟩) (fun k => t.fr.length - k) 0 ⟨Nat.zero_le _, fun j y hj => by omega, fun j y hj => by omega⟩ ?_ ?_
   · exact ⟨⟨rfl, ⟨rfl, rfl, rfl⟩, rfl, trivial⟩, ⟨⟨rfl, rfl, rfl, rfl, rfl, rfl, trivial⟩, trivial⟩, rfl⟩
   · intro k ⟨hk, h0k, h1k⟩ Jk hJk
     refine xb rfl ?_ ?_ <;> intro hh
     · have hh : k < t.fr.length := by simpa using hh
       obtain ⟨y, hy⟩ := gx hh
       obtain ⟨v, hv⟩ := gx (xs := t.olds) (i := k) (by omega)
       have hgy := gm (fun n => [i64 n]) hy
       have hgv := gm Vt.cs hv
       have hwq := q3v c y
       refine q9 rfl [] (.take 0 [] (.take 1 (Rg 3 2 ++ Rg 11 20) (Tk [2, 3] (.take 4 (Rg 11 20) (Tk [5, 6, 7] (.take 8 (Rg 9 22) (Tk [9, 10] (.alt 11 (Tk [12, 13, 14] (.take 15 (Rg 17 2 ++ Rg 20 11) (Tk [16, 17] (.take 18 (Rg 20 11) (.alt 19 (Tk [20, 21, 22] (.take 23 (Rg 25 6) (Tk [24, 25] (.take 26 (Rg 27 4) (.alt 27 (Tk [28, 29, 30] .done) .nil))))) .nil))))) .nil)))))))) (by kernel_rfl) (xs rfl (nn_ _) (y9 rfl _ hgy (xs rfl rfl (z1 rfl (qh _ _ _) rfl tv4 ?_))))
       refine xb rfl ?_ ?_ <;> intro b0
       refine xj (k := 10) rfl ?_
       refine xv rfl rfl rfl ?_; rotate_left
       refine xj (k := 3) rfl (xs rfl (nn_ _) (y9 rfl _ hgv (xs rfl rfl (xj (k := 2) rfl (z1 rfl (y17) rfl trivial (xj (k := 2) rfl ?_))))))
       refine xb rfl ?_ ?_ <;> intro b1
       refine xj (k := 3) rfl (xs rfl (nn_ _) (y9 rfl _ hgv (xs rfl rfl (xj (k := 2) rfl (z1 rfl (q1p _) rfl ⟨tv3, trivial⟩ (xj (k := 4) rfl ?_))))))
       refine xb rfl ?_ ?_ <;> intro b2
       refine xv rfl rfl rfl ?_; rotate_left
       rotate_left
       refine xj (k := 10) rfl ?_; rotate_left
       all_goals first
        | (refine vi ?_
           have hb : y1o c y = true := by unfold y1o; rw [← w2]; assumption
           rw [hT]; unfold z71; rw [yq hy hb |>.symm]; rfl)
        | (refine vi ?_
           have hb : q0n v = true := by unfold q0n; simp_all [y0y, Vt.none]
           rw [hT]; unfold z71; rw [yq hv hb |>.symm, Bool.or_true]; rfl)
        | (have hb : y1o c y = false := by unfold y1o; rw [← w2]; assumption
           have hb2 : q0n v = false := by unfold q0n; simp_all [y0y, Vt.none]
           exact q8 rfl (hJk _ (k + 1) ⟨by omega, yd hy h0k hb, yd hv h1k hb2⟩ (by omega) ⟨⟨cwi (by omega) (by omega) (by omega), ⟨rfl, rfl, rfl⟩, rfl, trivial⟩, ⟨lcr, trivial⟩, rfl⟩))
        | skip
     · have hh : ¬ k < t.fr.length := by simpa using hh
       have ha := any_none (qg (by omega) h0k)
       have hb := any_none (l := t.olds) (qg (by omega) h1k)
       have hT2 : z5b c ts i t = scan (q0o t.fr) t.fr.length := by rw [hT]; unfold z71; rw [← ha, ← hb]; rfl
       clear hJk h0k h1k ha hb
       refine zc rfl (ι := Nat) (fun k => k ≤ t.fr.length ∧ ∀ j, j < k → q0o t.fr j = 0) (fun k => ⟨[(9, sV (.int .i64 k)), (7, .one (.a 7 0)), (0, .one (.b (.p c.cs)))], [(7, .var (t.cs.map .b))]⟩) (fun k => t.fr.length - k) 0 ⟨Nat.zero_le _, fun j hj => by omega⟩ ?_ ?_
       · exact ⟨⟨rfl, ⟨rfl, rfl, rfl⟩, rfl, trivial⟩, ⟨lcr, trivial⟩, rfl⟩
       · intro k ⟨hk, h0k⟩ Jk hJk
         refine xb rfl ?_ ?_ <;> intro hh
         · have hh : k < t.fr.length := by simpa using hh
           obtain ⟨y, hy⟩ := gx hh
           have hgy := gm (fun n => [i64 n]) hy
           refine q9 rfl [] (.take 0 [] (.take 1 [3, 9] (Tk [2, 3, 4] (.take 5 (Rg 7 3) (Tk [6, 7] (.take 8 [9] (.alt 9 .done .nil))))))) (by kernel_rfl) (xs rfl (.inl rfl) (xs rfl (nn_ _) (xs rfl (nn_ _) (xs rfl (by simp; omega) (xs rfl (nn_ _) (y9 rfl _ hgy (xs rfl rfl (z1 rfl (y2p _ (t.fr.take k) y (q30 _ _) (by rw [List.length_take]; omega)) rfl tv3 ?_))))))))
           refine xb rfl ?_ ?_ <;> intro b0
           refine xv rfl rfl rfl ?_; rotate_left
           rotate_left
           · exact vi (by rw [hT2]; exact z7 hh h0k (by unfold q0o; rw [hy]; exact if_pos b0) (by decide))
           · exact q8 rfl (hJk _ (k + 1) ⟨by omega, za h0k (by unfold q0o; rw [hy]; exact if_neg (by rw [b0]; decide))⟩ (by omega) ⟨⟨cwi (by omega) (by omega) (by omega), ⟨rfl, rfl, rfl⟩, rfl, trivial⟩, ⟨lcr, trivial⟩, rfl⟩)
         · have hh : ¬ k < t.fr.length := by simpa using hh
           have hz := qc (f := q0o t.fr) (n := t.fr.length) (fun j hj => h0k j (by omega))
           refine xv rfl rfl rfl ?_
           exact vi (by rw [hT2, hz])
theorem ybh {c : Clu} {l : Ldr} (hn : Go.Sx.within l.n 0 400 = true) (hm : ¬ (60 < l.tries.length ∨ 300 < l.known.length)) {v : Int} (hv : v = scan (z3f c l.tries) l.tries.length) (h : v ≠ 0) : z7r c l = v := by
 unfold z7r
 rw [hn, if_neg (by decide), if_neg hm, orr, ← hv, if_pos h]
theorem q5j {c : Clu} {l : Ldr} (hn : Go.Sx.within l.n 0 400 = true) (hm : ¬ (60 < l.tries.length ∨ 300 < l.known.length)) (h1 : scan (z3f c l.tries) l.tries.length = 0) {v : Int} (hv : v = scan (hdF c l.known) l.known.length) : z7r c l = v := by
 unfold z7r
 rw [hn, if_neg (by decide), if_neg hm, orr, h1, if_neg (by decide), orr, ← hv, orr]
 split
 · rfl
 · rename_i h; have h : v = 0 := by simpa using h
   exact h.symm
theorem y94 (c : Clu) (ho : qz c) : PC Tryz.prog 134 [.one (.p c.cs)] (rI (scan (q2j c) c.ldrs.length)) := by
 refine PC.begin Tryz.func134 rfl (by kernel_rfl) ?_
 have hl := ho.2.2.2.1.1
 have w2 := wl1 Acc.cs ho.2.2.1.1
 refine zc rfl (ι := Nat) (fun i => i ≤ c.ldrs.length ∧ ∀ j, j < i → q2j c j = 0) (fun i => ⟨[(3, sV (.int .i64 i)), (0, .one (.b (.p c.cs)))], []⟩) (fun i => c.ldrs.length - i) 0 ⟨Nat.zero_le _, fun j hj => by omega⟩ ?_ ?_
 · exact ⟨⟨rfl, rfl, trivial⟩, trivial, rfl⟩
 · intro io ⟨hio, h0o⟩ Jo hJo
   refine xb rfl ?_ ?_ <;> intro hho
   · have hho : io < c.ldrs.length := by simpa using hho
     obtain ⟨l, hlx⟩ := gx hho
     have hgl := gm Ldr.cs hlx
     obtain ⟨l1, l2, l3⟩ := ho.2.2.2.1.2 l (List.mem_of_getElem? hlx)
     have hF : q2j c io = z7r c l := by unfold q2j; rw [hlx]
     refine xs rfl (nn_ _) (y9 rfl _ hgl (xs rfl rfl (z1 rfl (qh _ _ _) rfl tv4 ?_)))
     refine xb rfl ?_ ?_ <;> intro b0
     refine xv rfl rfl rfl ?_; rotate_left
     refine xb rfl ?_ ?_ <;> intro b1
     refine xj (k := 5) rfl ?_
     refine xv rfl rfl rfl ?_; rotate_left
     refine xj (k := 4) rfl ?_
     refine xb rfl ?_ ?_ <;> intro b2
     refine xv rfl rfl rfl ?_; rotate_left
     rotate_left
     all_goals first
      | (refine vi (z7 hho h0o ?_ (by decide)); clear hJo h0o hgl; rw [hF]; unfold z7r; simp_all; done)
      | (refine vi (z7 hho h0o ?_ (by decide)); clear hJo h0o hgl; rw [hF]; unfold z7r; simp_all; omega)
      | skip
     have hn : Go.Sx.within l.n 0 400 = true := by simpa using b0
     have hm : ¬ (60 < l.tries.length ∨ 300 < l.known.length) := by simp at b1 b2; omega
     clear b0 b1 b2
     refine zc rfl (ι := Nat) (fun i => i ≤ l.tries.length ∧ ∀ j, j < i → z3f c l.tries j = 0) (fun i => ⟨[(5, sV (.int .i64 i)), (4, .one (.a 4 0)), (3, sV (.int .i64 io)), (0, .one (.b (.p c.cs)))], [(4, .var (l.cs.map .b))]⟩) (fun i => l.tries.length - i) 0 ⟨Nat.zero_le _, fun j hj => by omega⟩ ?_ ?_
     · exact ⟨⟨rfl, ⟨rfl, rfl, rfl⟩, rfl, rfl, trivial⟩, ⟨⟨rfl, rfl, rfl, trivial⟩, trivial⟩, rfl⟩
     · intro i ⟨hi, h0⟩ J hJ
       refine xb rfl ?_ ?_ <;> intro h
       · have h : i < l.tries.length := by simpa using h
         obtain ⟨x, hx⟩ := gx h
         have hg := gm Tr.cs hx
         refine z1 rfl (yac c ho l.tries i x l1 (l3 x (List.mem_of_getElem? hx)) hx) rfl tv4 ?_
         refine xb rfl ?_ ?_ <;> intro b0
         refine xv rfl rfl rfl ?_; rotate_left
         rotate_left
         all_goals (first | (have hsc := z7 (c := z5b c l.tries i x) h h0 (by clear hJ h0 hg; (first | (simp_all [z3f]; done) | (simp_all [z3f]; omega)); done) (by clear hJ h0; simp_all); exact vi (z7 hho h0o (hF.trans (ybh hn hm hsc (by simpa using b0))) (by simpa using b0)); done) | (refine vi (z7 h h0 ?_ (by first | decide | decide | simp_all)); clear hJ h0 hg; (first | (simp_all [z3f]; done) | (simp_all [z3f]; omega)); done) | (refine q8 rfl (hJ _ (i + 1) ⟨by omega, za h0 ?_⟩ (by omega) ⟨⟨cwi (by omega) (by omega) (by omega), ⟨rfl, rfl, rfl⟩, rfl, rfl, trivial⟩, ⟨⟨rfl, rfl, rfl, trivial⟩, trivial⟩, rfl⟩); clear hJ h0 hg; (first | (simp_all [z3f]; done) | (simp_all [z3f]; omega)); done) | skip)
       · have h : ¬ i < l.tries.length := by simpa using h
         have hz := qc (f := z3f c l.tries) (n := l.tries.length) (fun j hj => h0 j (by omega))
         clear hJ
         have hz1 := hz
         clear hz h h0
         refine zc rfl (ι := Nat) (fun i => i ≤ l.known.length ∧ ∀ j, j < i → hdF c l.known j = 0) (fun i => ⟨[(7, sV (.int .i64 i)), (4, .one (.a 4 0)), (3, sV (.int .i64 io)), (0, .one (.b (.p c.cs)))], [(4, .var (l.cs.map .b))]⟩) (fun i => l.known.length - i) 0 ⟨Nat.zero_le _, fun j hj => by omega⟩ ?_ ?_
         · exact ⟨⟨rfl, ⟨rfl, rfl, rfl⟩, rfl, rfl, trivial⟩, ⟨⟨rfl, rfl, rfl, trivial⟩, trivial⟩, rfl⟩
         · intro i ⟨hi, h0⟩ J hJ
           refine xb rfl ?_ ?_ <;> intro h
           · have h : i < l.known.length := by simpa using h
             obtain ⟨x, hx⟩ := gx h
             have hg := gm Hd.cs hx
             rcases Nat.eq_zero_or_pos i with hz | hz
             · subst hz
               refine xs rfl (nn_ _) (y9 rfl _ hg (xs rfl rfl (z1 rfl (zv _ (by assumption) _ _) rfl tv4 ?_)))
               refine xb rfl ?_ ?_ <;> intro b0
               refine xv rfl rfl rfl ?_; rotate_left
               refine q9 rfl [] (.take 0 [] (.take 1 (Rg 2 20) (.alt 2 (Tk [3, 4, 5] (.take 6 (Rg 7 15) (.alt 7 (Tk (Rg 8 4) (.take 12 (Rg 19 3) (Tk [13, 14, 15] (.take 16 (Rg 17 5) (Tk [17, 18] (.alt 19 (Tk [20, 21] .done) .nil)))))) .nil))) .nil))) (by kernel_rfl) (z1 rfl (zz _) rfl ⟨trivial, trivial⟩ ?_)
               refine xb rfl ?_ ?_ <;> intro b1
               refine xj (k := 16) rfl ?_
               refine xv rfl rfl rfl ?_; rotate_left
               refine xj (k := 2) rfl (z1 rfl (z07 _) rfl ⟨trivial, trivial⟩ (xj (k := 2) rfl ?_))
               refine xb rfl ?_ ?_ <;> intro b2
               refine xj (k := 11) rfl ?_
               refine xv rfl rfl rfl ?_; rotate_left
               refine xj (k := 8) rfl (z1 rfl (qh _ _ _) rfl tv4 (xj (k := 2) rfl ?_))
               refine xb rfl ?_ ?_ <;> intro b3
               refine xv rfl rfl rfl ?_; rotate_left
               refine q9 rfl [] (Tk (Rg 0 4) (.take 4 [7, 8, 10, 11, 12] (Tk [5, 6, 7] (.take 8 (Rg 10 3) (.take 9 (Rg 10 3) (.alt 10 (Tk [11, 12] .done) .nil)))))) (by kernel_rfl) ?_
               refine xj (k := 11) rfl ?_; rotate_left
               all_goals (first | (have hsc := z7 (c := 4) h h0 (by clear hJ h0 hg; (first | (simp_all [hdF, ahead_zero]; done) | (simp_all [hdF, ahead_zero]; omega)); done) (by decide); exact vi (z7 hho h0o (hF.trans (q5j hn hm hz1 hsc)) (by decide)); done) | (have hsc := z7 (c := 3) h h0 (by clear hJ h0 hg; (first | (simp_all [hdF, ahead_zero]; done) | (simp_all [hdF, ahead_zero]; omega)); done) (by decide); exact vi (z7 hho h0o (hF.trans (q5j hn hm hz1 hsc)) (by decide)); done) | (have hsc := z7 (c := 1) h h0 (by clear hJ h0 hg; (first | (simp_all [hdF, ahead_zero]; done) | (simp_all [hdF, ahead_zero]; omega)); done) (by decide); exact vi (z7 hho h0o (hF.trans (q5j hn hm hz1 hsc)) (by decide)); done) | (refine vi (z7 h h0 ?_ (by first | decide | decide | simp_all)); clear hJ h0 hg; (first | (simp_all [hdF, ahead_zero]; done) | (simp_all [hdF, ahead_zero]; omega)); done) | (refine q8 rfl (hJ _ 1 ⟨by omega, za h0 ?_⟩ (by omega) ⟨⟨cwi (by omega) (by omega) (by omega), ⟨rfl, rfl, rfl⟩, rfl, rfl, trivial⟩, ⟨⟨rfl, rfl, rfl, trivial⟩, trivial⟩, rfl⟩); clear hJ h0 hg; (first | (simp_all [hdF, ahead_zero]; done) | (simp_all [hdF, ahead_zero]; omega)); done) | skip)
             · obtain ⟨p, hp⟩ := gx (xs := l.known) (i := i - 1) (by omega)
               have hgp := z13 Hd.cs hz (by omega) hp
               refine xs rfl (nn_ _) (y9 rfl _ hg (xs rfl rfl (z1 rfl (zv _ (by assumption) _ _) rfl tv4 ?_)))
               refine xb rfl ?_ ?_ <;> intro b0
               refine xv rfl rfl rfl ?_; rotate_left
               refine q9 rfl [] (.take 0 [] (.take 1 (Rg 2 20) (.alt 2 (Tk [3, 4, 5] (.take 6 (Rg 7 15) (.alt 7 (Tk (Rg 8 4) (.take 12 (Rg 19 3) (Tk [13, 14, 15] (.take 16 (Rg 17 5) (Tk [17, 18] (.alt 19 (Tk [20, 21] .done) .nil)))))) .nil))) .nil))) (by kernel_rfl) (z1 rfl (zz _) rfl ⟨trivial, trivial⟩ ?_)
               refine xb rfl ?_ ?_ <;> intro b1
               refine xj (k := 16) rfl ?_
               refine xv rfl rfl rfl ?_; rotate_left
               refine xj (k := 2) rfl (z1 rfl (z07 _) rfl ⟨trivial, trivial⟩ (xj (k := 2) rfl ?_))
               refine xb rfl ?_ ?_ <;> intro b2
               refine xj (k := 11) rfl ?_
               refine xv rfl rfl rfl ?_; rotate_left
               refine xj (k := 8) rfl (z1 rfl (qh _ _ _) rfl tv4 (xj (k := 2) rfl ?_))
               refine xb rfl ?_ ?_ <;> intro b3
               refine xv rfl rfl rfl ?_; rotate_left
               refine q9 rfl [] (Tk (Rg 0 4) (.take 4 [7, 8, 10, 11, 12] (Tk [5, 6, 7] (.take 8 (Rg 10 3) (.take 9 (Rg 10 3) (.alt 10 (Tk [11, 12] .done) .nil)))))) (by kernel_rfl) ?_
               refine xb rfl ?_ ?_ <;> intro b4
               refine xj (k := 4) rfl (xs rfl (z0j hz (by omega)) (y9 rfl _ hgp (xs rfl rfl (xj (k := 3) rfl (z1 rfl (y4u _ _) rfl ⟨tv6, tv6, trivial⟩ (xj (k := 2) rfl ?_))))))
               refine xb rfl ?_ ?_ <;> intro b5
               refine xv rfl rfl rfl ?_; rotate_left
               rotate_left
               refine xj (k := 10) rfl ?_; rotate_left
               all_goals (first | (have hsc := z7 (c := 4) h h0 (by clear hJ h0 hg hgp; (first | (simp_all [hdF, z8 hz hp]; done) | (simp_all [hdF, z8 hz hp]; omega)); done) (by decide); exact vi (z7 hho h0o (hF.trans (q5j hn hm hz1 hsc)) (by decide)); done) | (have hsc := z7 (c := 3) h h0 (by clear hJ h0 hg hgp; (first | (simp_all [hdF, z8 hz hp]; done) | (simp_all [hdF, z8 hz hp]; omega)); done) (by decide); exact vi (z7 hho h0o (hF.trans (q5j hn hm hz1 hsc)) (by decide)); done) | (have hsc := z7 (c := 1) h h0 (by clear hJ h0 hg hgp; (first | (simp_all [hdF, z8 hz hp]; done) | (simp_all [hdF, z8 hz hp]; omega)); done) (by decide); exact vi (z7 hho h0o (hF.trans (q5j hn hm hz1 hsc)) (by decide)); done) | (refine vi (z7 h h0 ?_ (by first | decide | decide | simp_all)); clear hJ h0 hg hgp; (first | (simp_all [hdF, z8 hz hp]; done) | (simp_all [hdF, z8 hz hp]; omega)); done) | (refine q8 rfl (hJ _ (i + 1) ⟨by omega, za h0 ?_⟩ (by omega) ⟨⟨cwi (by omega) (by omega) (by omega), ⟨rfl, rfl, rfl⟩, rfl, rfl, trivial⟩, ⟨⟨rfl, rfl, rfl, trivial⟩, trivial⟩, rfl⟩); clear hJ h0 hg hgp; (first | (simp_all [hdF, z8 hz hp]; done) | (simp_all [hdF, z8 hz hp]; omega)); done) | skip)
           · have h : ¬ i < l.known.length := by simpa using h
             have hz := qc (f := hdF c l.known) (n := l.known.length) (fun j hj => h0 j (by omega))
             clear hJ
             skip
             exact q8 rfl (hJo _ (io + 1) ⟨by omega, za h0o (hF.trans (q5j hn hm hz1 hz.symm))⟩ (by omega) ⟨⟨cwi (by omega) (by omega) (by omega), rfl, trivial⟩, trivial, rfl⟩)
   · have hho : ¬ io < c.ldrs.length := by simpa using hho
     have hz := qc (f := q2j c) (n := c.ldrs.length) (fun j hj => h0o j (by omega))
     refine xv rfl rfl rfl ?_
     exact vi (hz.symm)
theorem zbw {a b c d e : Int} : orr [a, b, c, d, e] = if a ≠ 0 then a else if b ≠ 0 then b else if c ≠ 0 then c else if d ≠ 0 then d else e := by
 unfold orr orr orr orr orr orr
 repeat' split
 all_goals first | rfl | omega
theorem y0b {c : Clu} : z0l c = true ↔ (20 < c.cons.length ∨ ¬ (1 ≤ c.shs.length ∧ c.shs.length ≤ 3) ∨ ¬ (1 ≤ c.accs.length ∧ c.accs.length ≤ 5) ∨ c.ldrs.length ≠ 2 ∨ 200 < c.msgs.length) := by
 unfold z0l Go.Sx.within
 simp
 omega
theorem z9h {c : Clu} (h : z0l c = true) : qn c = 2 := by unfold qn; rw [if_pos h]
theorem q8l {c : Clu} (h : ¬ z0l c = true) : qn c = if scan (y0a c) c.cons.length ≠ 0 then scan (y0a c) c.cons.length else if scan (y22 c) c.shs.length ≠ 0 then scan (y22 c) c.shs.length else if scan (z27 c) c.accs.length ≠ 0 then scan (z27 c) c.accs.length else if scan (q2j c) c.ldrs.length ≠ 0 then scan (q2j c) c.ldrs.length else scan (y4a c) c.msgs.length := by
 unfold qn; rw [if_neg h, zbw]
theorem ybe (c : Clu) (us : List Acc) (F : Acc → Int) (G : Nat → Int) (fn : Nat) (hG : ∀ i x, us[i]? = some x → G i = F x) (hf : ∀ x ∈ us, PC Tryz.prog fn [.one (.p c.cs), .agg x.cs] (rI (F x))) (hl : us.length ≤ 1048576) : PC Tryz.prog 145 [.one (.l (us.map Acc.cs)), .one (.m fn false [.p c.cs])] (rI (scan G us.length)) := by
 refine PC.begin Tryz.func145 rfl (by kernel_rfl) ?_
 have hn : (us.map Acc.cs).length = us.length := by simp
 refine zc rfl (ι := Nat) (fun i => i ≤ us.length ∧ ∀ j, j < i → G j = 0) (fun i => ⟨[(10, sV (.int .i64 i)), (9, sV (.int .i64 (us.map Acc.cs).length)), (8, .one (.b (.l (us.map Acc.cs)))), (1, .one (.b (.m fn false [.p c.cs])))], []⟩) (fun i => us.length - i) 0 ⟨Nat.zero_le _, fun j hj => by omega⟩ ?_ ?_
 · exact ⟨⟨rfl, rfl, rfl, rfl, trivial⟩, trivial, rfl⟩
 · intro i ⟨hi, h0⟩ J hJ
   refine xb rfl ?_ ?_ <;> intro h
   · have h : i < us.length := by simpa using h
     obtain ⟨x, hx⟩ := gx h
     have hg := gm Acc.cs hx
     have hxm := List.mem_of_getElem? hx
     have hGx := hG i x hx
     refine xs rfl (nn_ _) (y9 rfl _ hg (xs rfl rfl (z1 rfl (hf _ hxm) rfl ⟨trivial, ⟨trivial, trivial⟩, trivial⟩ ?_)))
     refine xb rfl ?_ ?_ <;> intro b0
     refine xv rfl rfl rfl ?_; rotate_left
     rotate_left
     · exact vi (z7 h h0 hGx (by simpa using b0))
     · exact q8 rfl (hJ _ (i + 1) ⟨by omega, za h0 (hGx.trans (by simpa using b0))⟩ (by omega) ⟨⟨cwi (by omega) (by omega) (by omega), rfl, rfl, rfl, trivial⟩, trivial, rfl⟩)
   · have h : ¬ i < us.length := by simpa using h
     have hz := qc (f := G) (n := us.length) (fun j hj => h0 j (by omega))
     refine xv rfl rfl rfl ?_
     exact vi (hz.symm)
theorem qbe (c : Clu) (us : List Ldr) (F : Ldr → Int) (G : Nat → Int) (fn : Nat) (hG : ∀ i x, us[i]? = some x → G i = F x) (hf : ∀ x ∈ us, PC Tryz.prog fn [.one (.p c.cs), .agg x.cs] (rI (F x))) (hl : us.length ≤ 1048576) : PC Tryz.prog 147 [.one (.l (us.map Ldr.cs)), .one (.m fn false [.p c.cs])] (rI (scan G us.length)) := by
 refine PC.begin Tryz.func147 rfl (by kernel_rfl) ?_
 have hn : (us.map Ldr.cs).length = us.length := by simp
 refine zc rfl (ι := Nat) (fun i => i ≤ us.length ∧ ∀ j, j < i → G j = 0) (fun i => ⟨[(10, sV (.int .i64 i)), (9, sV (.int .i64 (us.map Ldr.cs).length)), (8, .one (.b (.l (us.map Ldr.cs)))), (1, .one (.b (.m fn false [.p c.cs])))], []⟩) (fun i => us.length - i) 0 ⟨Nat.zero_le _, fun j hj => by omega⟩ ?_ ?_
 · exact ⟨⟨rfl, rfl, rfl, rfl, trivial⟩, trivial, rfl⟩
 · intro i ⟨hi, h0⟩ J hJ
   refine xb rfl ?_ ?_ <;> intro h
   · have h : i < us.length := by simpa using h
     obtain ⟨x, hx⟩ := gx h
     have hg := gm Ldr.cs hx
     have hxm := List.mem_of_getElem? hx
     have hGx := hG i x hx
     refine xs rfl (nn_ _) (y9 rfl _ hg (xs rfl rfl (z1 rfl (hf _ hxm) rfl ⟨trivial, tv4, trivial⟩ ?_)))
     refine xb rfl ?_ ?_ <;> intro b0
     refine xv rfl rfl rfl ?_; rotate_left
     rotate_left
     · exact vi (z7 h h0 hGx (by simpa using b0))
     · exact q8 rfl (hJ _ (i + 1) ⟨by omega, za h0 (hGx.trans (by simpa using b0))⟩ (by omega) ⟨⟨cwi (by omega) (by omega) (by omega), rfl, rfl, rfl, trivial⟩, trivial, rfl⟩)
   · have h : ¬ i < us.length := by simpa using h
     have hz := qc (f := G) (n := us.length) (fun j hj => h0 j (by omega))
     refine xv rfl rfl rfl ?_
     exact vi (hz.symm)
theorem zbf (c : Clu) (us : List Msg) (F : Msg → Int) (G : Nat → Int) (fn : Nat) (hG : ∀ i x, us[i]? = some x → G i = F x) (hf : ∀ x ∈ us, PC Tryz.prog fn [.agg x.cs, .one (.p c.cs)] (rI (F x))) (hl : us.length ≤ 1048576) : PC Tryz.prog 149 [.one (.l (us.map Msg.cs)), .one (.f fn [.p c.cs])] (rI (scan G us.length)) := by
 refine PC.begin Tryz.func149 rfl (by kernel_rfl) ?_
 have hn : (us.map Msg.cs).length = us.length := by simp
 refine zc rfl (ι := Nat) (fun i => i ≤ us.length ∧ ∀ j, j < i → G j = 0) (fun i => ⟨[(10, sV (.int .i64 i)), (9, sV (.int .i64 (us.map Msg.cs).length)), (8, .one (.b (.l (us.map Msg.cs)))), (1, .one (.b (.f fn [.p c.cs])))], []⟩) (fun i => us.length - i) 0 ⟨Nat.zero_le _, fun j hj => by omega⟩ ?_ ?_
 · exact ⟨⟨rfl, rfl, rfl, rfl, trivial⟩, trivial, rfl⟩
 · intro i ⟨hi, h0⟩ J hJ
   refine xb rfl ?_ ?_ <;> intro h
   · have h : i < us.length := by simpa using h
     obtain ⟨x, hx⟩ := gx h
     have hg := gm Msg.cs hx
     have hxm := List.mem_of_getElem? hx
     have hGx := hG i x hx
     refine xs rfl (nn_ _) (y9 rfl _ hg (xs rfl rfl (z1 rfl (hf _ hxm) rfl ⟨tv10, trivial, trivial⟩ ?_)))
     refine xb rfl ?_ ?_ <;> intro b0
     refine xv rfl rfl rfl ?_; rotate_left
     rotate_left
     · exact vi (z7 h h0 hGx (by simpa using b0))
     · exact q8 rfl (hJ _ (i + 1) ⟨by omega, za h0 (hGx.trans (by simpa using b0))⟩ (by omega) ⟨⟨cwi (by omega) (by omega) (by omega), rfl, rfl, rfl, trivial⟩, trivial, rfl⟩)
   · have h : ¬ i < us.length := by simpa using h
     have hz := qc (f := G) (n := us.length) (fun j hj => h0 j (by omega))
     refine xv rfl rfl rfl ?_
     exact vi (hz.symm)
theorem ya7 (c : Clu) (ho : qz c) (m : Msg) : PC Tryz.prog 150 [.agg m.cs, .one (.p c.cs)] (rI (y0e c m)) := by
 refine PC.begin Tryz.func150 rfl (by kernel_rfl) ?_
 refine z1 rfl (q9y c ho m) rfl ⟨tv6, tv10, trivial⟩ ?_
 refine xr rfl (yk rfl ⟨⟨rfl, rfl, trivial⟩, z6 rfl⟩)
theorem z7m (c : Clu) (ho : qz c) : PC Tryz.prog 60 [.agg c.cs] (rI (qn c)) := by
 refine PC.begin Tryz.func60 rfl (by kernel_rfl) ?_
 have hl := ho.2.1.1
 have hA := ybe c c.accs (q9e c) (z27 c) 146 (fun i x h => by unfold z27; rw [h]) (fun a ha => q8s c ho a (ho.2.2.1.2 a ha)) ho.2.2.1.1
 have hL := qbe c c.ldrs (z7r c) (q2j c) 148 (fun i x h => by unfold q2j; rw [h]) (fun l hl => y9y c ho l (ho.2.2.2.1.2 l hl)) ho.2.2.2.1.1
 have hM := zbf c c.msgs (y0e c) (y4a c) 150 (fun i x h => by unfold y4a; rw [h]) (fun m _ => ya7 c ho m) ho.2.2.2.2
 refine xb rfl ?_ ?_ <;> intro b0
 refine xj (k := 22) rfl ?_
 refine xv rfl rfl rfl ?_; rotate_left
 refine xj (k := 2) rfl (z1 rfl (q2h _) rfl ⟨trivial, trivial⟩ (xj (k := 1) rfl (z1 rfl (zk _ _ _) rfl tv4 (xj (k := 2) rfl ?_))))
 refine xb rfl ?_ ?_ <;> intro b1
 refine xj (k := 16) rfl ?_
 refine xv rfl rfl rfl ?_; rotate_left
 refine xj (k := 2) rfl (z1 rfl (z1d _) rfl ⟨trivial, trivial⟩ (xj (k := 1) rfl (z1 rfl (zk _ _ _) rfl tv4 (xj (k := 2) rfl ?_))))
 refine xb rfl ?_ ?_ <;> intro b2
 refine xj (k := 10) rfl ?_
 refine xv rfl rfl rfl ?_; rotate_left
 refine xj (k := 4) rfl ?_
 refine xb rfl ?_ ?_ <;> intro b3
 refine xj (k := 5) rfl ?_
 refine xv rfl rfl rfl ?_; rotate_left
 refine xj (k := 4) rfl ?_
 refine xb rfl ?_ ?_ <;> intro b4
 refine xv rfl rfl rfl ?_; rotate_left
 refine z1 rfl (y8t c ho) rfl ⟨tv6, trivial⟩ ?_
 refine xb rfl ?_ ?_ <;> intro b5
 refine xv rfl rfl rfl ?_; rotate_left
 rotate_left
 all_goals first
  | (refine vi (z9h (y0b.2 ?_)).symm; clear hA hL hM ho; (simp only [List.length_map, Go.Sx.within, gt_iff_lt, ge_iff_le] at *; simp at *; omega); done)
  | skip
 · refine vi ?_
   have hm : ¬ z0l c = true := fun h => by rw [y0b] at h; clear hA hL hM ho; (simp only [List.length_map, Go.Sx.within, gt_iff_lt, ge_iff_le] at *; simp at *; omega)
   rw [q8l hm, if_pos (by simpa using b5)]
 · have hm : ¬ z0l c = true := fun h => by rw [y0b] at h; clear hA hL hM ho; (simp only [List.length_map, Go.Sx.within, gt_iff_lt, ge_iff_le] at *; simp at *; omega)
   have h1 : scan (y0a c) c.cons.length = 0 := by simpa using b5
   rw [q8l hm, if_neg (by simpa using h1)]
   clear b0 b1 b2 b3 b4 b5 h1 hm
   refine zc rfl (ι := Nat) (fun i => i ≤ c.shs.length ∧ ∀ j, j < i → y22 c j = 0) (fun i => ⟨[(44, sV (.int .i64 i)), (43, sV (.int .i64 (c.shs.map Shd.cs).length)), (1, .one (.a 1 0))], [(1, .var (c.cs.map .b))]⟩) (fun i => c.shs.length - i) 0 ⟨Nat.zero_le _, fun j hj => by omega⟩ ?_ ?_
   · exact ⟨⟨rfl, rfl, ⟨rfl, rfl, rfl⟩, trivial⟩, ⟨lcr, trivial⟩, rfl⟩
   · intro i ⟨hi, h0⟩ J hJ
     refine xb rfl ?_ ?_ <;> intro h
     · have h : i < c.shs.length := by simpa using h
       obtain ⟨s, hx⟩ := gx h
       have hF : y22 c i = z97 c i s := by unfold y22; rw [hx]
       refine z1 rfl (z8u c ho i s hx) rfl ⟨tv6, trivial, trivial⟩ ?_
       refine xb rfl ?_ ?_ <;> intro b0
       refine xv rfl rfl rfl ?_; rotate_left
       rotate_left
       · have hsc := z7 h h0 hF (by simpa using b0)
         refine vi ?_
         rw [if_pos (by rw [← hsc]; simpa using b0), ← hsc]
       · exact q8 rfl (hJ _ (i + 1) ⟨by omega, za h0 (hF.trans (by simpa using b0))⟩ (by omega) ⟨⟨cwi (by omega) (by omega) (by omega), rfl, ⟨rfl, rfl, rfl⟩, trivial⟩, ⟨lcr, trivial⟩, rfl⟩)
     · have h : ¬ i < c.shs.length := by simpa using h
       have hz := qc (f := y22 c) (n := c.shs.length) (fun j hj => h0 j (by omega))
       rw [if_neg (by simpa using hz)]
       clear hJ h0
       refine q9 rfl [] (.take 0 [] (.take 1 [3, 7, 8, 9, 10] (Tk [2, 4] (.take 5 (Rg 7 4) (.take 6 [] (.alt 3 (.alt 7 (.alt 8 (.alt 9 (.take 10 [] .done) .nil) .nil) .nil) .nil)))))) (by kernel_rfl) (z1 rfl (hA) rfl ⟨trivial, tv6, trivial⟩ (z1 rfl (hL) rfl ⟨trivial, tv6, trivial⟩ (xs rfl tv3 (z1 rfl (q27 [_, _] (by simp)) rfl ⟨rfl, trivial⟩ ?_))))
       refine xb rfl ?_ ?_ <;> intro b0
       refine xv rfl rfl rfl ?_; rotate_left
       refine z1 rfl (hM) rfl ⟨trivial, (List.forall_mem_cons.2 ⟨tv6, (fun _ h => nomatch h)⟩), trivial⟩ ?_
       refine xv rfl rfl rfl ?_; rotate_left
       all_goals (refine vi ?_; clear hA hL hM ho; unfold orr orr orr at *; by_cases h1 : scan (z27 c) c.accs.length = 0 <;> by_cases h2 : scan (q2j c) c.ldrs.length = 0 <;> simp_all <;> done)
theorem q81 (c : Clu) (ho : qz c) : PC Tryz.prog 52 [.agg c.cs] (rI (qn c)) := by
 refine PC.begin Tryz.func52 rfl (by kernel_rfl) ?_
 have hl := ho.2.2.2.2
 refine xb rfl ?_ ?_ <;> intro b0
 refine xj (k := 30) rfl ?_
 refine xv rfl rfl rfl ?_; rotate_left
 refine xj (k := 4) rfl ?_
 refine xb rfl ?_ ?_ <;> intro b1
 refine xj (k := 25) rfl ?_
 refine xv rfl rfl rfl ?_; rotate_left
 refine xj (k := 4) rfl ?_
 refine xb rfl ?_ ?_ <;> intro b2
 refine xj (k := 20) rfl ?_
 refine xv rfl rfl rfl ?_; rotate_left
 refine xj (k := 4) rfl ?_
 refine xb rfl ?_ ?_ <;> intro b3
 refine xj (k := 15) rfl ?_
 refine xv rfl rfl rfl ?_; rotate_left
 refine xj (k := 4) rfl ?_
 refine xb rfl ?_ ?_ <;> intro b4
 refine xj (k := 10) rfl ?_
 refine xv rfl rfl rfl ?_; rotate_left
 refine xj (k := 4) rfl ?_
 refine xb rfl ?_ ?_ <;> intro b5
 refine xj (k := 5) rfl ?_
 refine xv rfl rfl rfl ?_; rotate_left
 refine xj (k := 4) rfl ?_
 refine xb rfl ?_ ?_ <;> intro b6
 refine xv rfl rfl rfl ?_; rotate_left
 refine z1 rfl (q93 c ho) rfl ⟨tv6, trivial⟩ ?_
 refine xb rfl ?_ ?_ <;> intro b7
 refine xv rfl rfl rfl ?_; rotate_left
 refine z1 rfl (z95 c ho) rfl ⟨tv6, trivial⟩ ?_
 refine xb rfl ?_ ?_ <;> intro b8
 refine xv rfl rfl rfl ?_; rotate_left
 refine z1 rfl (q92 c ho) rfl ⟨tv6, trivial⟩ ?_
 refine xb rfl ?_ ?_ <;> intro b9
 refine xv rfl rfl rfl ?_; rotate_left
 refine z1 rfl (y94 c ho) rfl ⟨tv6, trivial⟩ ?_
 refine xb rfl ?_ ?_ <;> intro b10
 refine xv rfl rfl rfl ?_; rotate_left
 rotate_left
 all_goals first
  | (refine vi (z9h (y0b.2 ?_)).symm; clear ho; (simp only [List.length_map, Go.Sx.within, gt_iff_lt, ge_iff_le] at *; simp at *; omega); done)
  | (refine vi ?_
     have hm : ¬ z0l c = true := fun h => by rw [y0b] at h; clear ho; (simp only [List.length_map, Go.Sx.within, gt_iff_lt, ge_iff_le] at *; simp at *; omega)
     rw [q8l hm]
     clear hm ho
     simp_all
     done)
  | skip
 have hm : ¬ z0l c = true := fun h => by rw [y0b] at h; clear ho; (simp only [List.length_map, Go.Sx.within, gt_iff_lt, ge_iff_le] at *; simp at *; omega)
 rw [q8l hm, if_neg (by simp_all), if_neg (by simp_all), if_neg (by simp_all), if_neg (by simp_all)]
 refine zc rfl (ι := Nat) (fun i => i ≤ c.msgs.length ∧ ∀ j, j < i → y4a c j = 0) (fun i => ⟨[(7, sV (.int .i64 i)), (1, .one (.a 1 0))], [(1, .var (c.cs.map .b))]⟩) (fun i => c.msgs.length - i) 0 ⟨Nat.zero_le _, fun j hj => by omega⟩ ?_ ?_
 · exact ⟨⟨rfl, ⟨rfl, rfl, rfl⟩, trivial⟩, ⟨lcr, trivial⟩, rfl⟩
 · intro i ⟨hi, h0⟩ J hJ
   refine xb rfl ?_ ?_ <;> intro h
   · have h : i < c.msgs.length := by simpa using h
     obtain ⟨m, hx⟩ := gx h
     have hg := gm Msg.cs hx
     have hF : y4a c i = y0e c m := by unfold y4a; rw [hx]
     refine xs rfl (nn_ _) (y9 rfl _ hg (xs rfl rfl (z1 rfl (qab c ho m) rfl ⟨tv6, tv10, trivial⟩ ?_)))
     refine xb rfl ?_ ?_ <;> intro b0
     refine xv rfl rfl rfl ?_; rotate_left
     rotate_left
     · exact vi (z7 h h0 hF (by simpa using b0))
     · exact q8 rfl (hJ _ (i + 1) ⟨by omega, za h0 (hF.trans (by simpa using b0))⟩ (by omega) ⟨⟨cwi (by omega) (by omega) (by omega), ⟨rfl, rfl, rfl⟩, trivial⟩, ⟨lcr, trivial⟩, rfl⟩)
   · have h : ¬ i < c.msgs.length := by simpa using h
     have hz := qc (f := y4a c) (n := c.msgs.length) (fun j hj => h0 j (by omega))
     refine xv rfl rfl rfl ?_
     exact vi (hz.symm)
end Go.Proofs.YtohbmmpkcibnpaaGreat
end
section
namespace Go.Proofs.YtohbmmpkcibnpaaGreat
open Go Go.Sx
set_option maxRecDepth 20000
set_option maxHeartbeats 4000000
open Go.Proofs Go.Shelf Go.RowKit Go.Lib Go.Sort
abbrev vid : Value → Value := fun v => v
theorem qas {w : World} {base : Nat} {e : TypeId} {g n cap sz : Nat} {xs : List Value} (h : w.ownsRow base e sz (.slice (some ⟨g, 0, none⟩) n cap) n xs) : Holds vid w g 0 xs.toArray ∧ n ≤ cap ∧ cap ≤ maxLen ∧ g < w.heap.size := by
 rcases h.2 with ⟨e0, _⟩ | ⟨g', cap', cur, e0, hb, hg, hn, hm, hs, ht⟩
 · cases e0
 · injection e0 with e1 _ e3
   injection e1 with e1
   injection e1 with e1
   subst e1; subst e3
   have hl := h.1
   refine ⟨fun j hj => ⟨?_, by simp [World.frozen?, hg]⟩, hn, hm, ?_⟩
   · have hj' : j < xs.length := by simpa using hj
     have h1 : xs[j]? = cur[j]? := by rw [← ht, List.getElem?_take, if_pos (by omega), Array.getElem?_toList]
     have hcj : j < cur.size := by
      have : n * sz ≤ cap * sz := Nat.mul_le_mul_right _ hn
      omega
     simp only [World.cell?, hg, Nat.zero_add]
     rw [List.getElem?_eq_getElem hj', Array.getElem?_eq_getElem hcj] at h1
     simp only [Option.some.injEq] at h1
     simp [hj', hcj, ← h1, getElem!_pos]
   · rcases Nat.lt_or_ge g w.heap.size with h' | h'
     · exact h'
     · rw [Array.getElem?_eq_none h'] at hg; cases hg
theorem q4y {w : World} {base : Nat} {e : TypeId} {g n cap q k sz : Nat} {xs ys : List Value} (h : w.ownsRow base e sz (.slice (some ⟨g, 0, none⟩) n cap) n xs) (hy : ys.length = n * sz) (hk : k ≤ n) :
 (putRow vid (Sort.ahead w q) g 0 ys.toArray).ownsRow base e sz (.slice (some ⟨g, 0, none⟩) k cap) k (ys.take (k * sz)) := by
 rcases h.2 with ⟨e0, _⟩ | ⟨g', cap', cur, e0, hb, hg, hn, hm, hs, ht⟩
 · cases e0
 · injection e0 with e1 _ e3
   injection e1 with e1
   injection e1 with e1
   subst e1; subst e3
   have hkn : k * sz ≤ n * sz := Nat.mul_le_mul_right _ hk
   have hnc : n * sz ≤ cap * sz := Nat.mul_le_mul_right _ hn
   refine ⟨by simp; omega, .inr ⟨g, cap, Go.Sort.putCells vid 0 ys.toArray cur, rfl, hb, ?_, by omega, hm, by simpa [Go.Sort.putCells] using hs, ?_⟩⟩
   · simp [Go.Sort.putRow, Go.Sort.mapBlock, Go.Sort.ahead, Array.getElem?_modify, hg, Go.Sort.onCells]
   · apply List.ext_getElem?
     intro j
     rw [List.getElem?_take, List.getElem?_take, Array.getElem?_toList]
     by_cases hj : j < k * sz
     · have hjc : j < cur.size := by omega
       simp only [if_pos hj, Go.Sort.putCells, Array.getElem?_mapIdx, Array.getElem?_eq_getElem hjc, Option.map_some]
       rw [if_pos (by simp; omega), List.getElem?_eq_getElem (by omega)]
       simp [getElem!_pos, show j < ys.length by omega]
     · simp [hj]
end Go.Proofs.YtohbmmpkcibnpaaGreat
end
section
namespace Go.Proofs.YtohbmmpkcibnpaaGreat
open Go Go.Sx
set_option maxRecDepth 20000
theorem q8o (x0 : Int) (x1 : Int) (x2 : Int) (x3 : Int) (y0 : Int) (y1 : Int) (y2 : Int) (y3 : Int)   : PC Tryz.prog 178 [.agg [.s (.int .i64 x0), .s (.int .i64 x1), .s (.int .i64 x2), .s (.int .i64 x3)], .agg [.s (.int .i64 y0), .s (.int .i64 y1), .s (.int .i64 y2), .s (.int .i64 y3)]] (rB (dE (α := List Cell) [.s (.int .i64 x0), .s (.int .i64 x1), .s (.int .i64 x2), .s (.int .i64 x3)] [.s (.int .i64 y0), .s (.int .i64 y1), .s (.int .i64 y2), .s (.int .i64 y3)])) := by
 refine PC.begin Tryz.func178 rfl (by kernel_rfl) ?_
 refine xb rfl (fun h => ?_) (fun e0 => ?_)
 · exact xv rfl rfl rfl (yj (fun e => by simp only [List.cons.injEq, Cell.s.injEq, Value.int.injEq, Value.bool.injEq, Value.string.injEq] at e; simp [e] at h))
 have e0 : x0 = y0 := by simpa using e0
 refine xb rfl (fun h => ?_) (fun e1 => ?_)
 · exact xv rfl rfl rfl (yj (fun e => by simp only [List.cons.injEq, Cell.s.injEq, Value.int.injEq, Value.bool.injEq, Value.string.injEq] at e; simp [e] at h))
 have e1 : x1 = y1 := by simpa using e1
 refine xb rfl (fun h => ?_) (fun e2 => ?_)
 · exact xv rfl rfl rfl (yj (fun e => by simp only [List.cons.injEq, Cell.s.injEq, Value.int.injEq, Value.bool.injEq, Value.string.injEq] at e; simp [e] at h))
 have e2 : x2 = y2 := by simpa using e2
 refine xb rfl (fun h => ?_) (fun e3 => ?_)
 · exact xv rfl rfl rfl (yj (fun e => by simp only [List.cons.injEq, Cell.s.injEq, Value.int.injEq, Value.bool.injEq, Value.string.injEq] at e; simp [e] at h))
 have e3 : x3 = y3 := by simpa using e3
 exact xv rfl rfl rfl (yx (by simp [e0, e1, e2, e3]))
theorem z7g (p q : List (List Cell)) (hp : WR 9000000000000000000 q0a p) (hq : WR 9000000000000000000 q0a q) : PC Tryz.prog 92 [.one (.l p), .one (.l q)] (rB (dE p q)) := by
 refine PC.begin Tryz.func92 rfl (by kernel_rfl) ?_
 have hpl := hp.1
 have hql := hq.1
 refine xb rfl ?_ ?_ <;> intro h
 · exact xv rfl rfl rfl (yj (fun e => by subst e; simp at h))
 have hl : p.length = q.length := by simpa [Int.ofNat_inj] using h
 refine zc rfl (ι := Nat) (fun i => i ≤ p.length ∧ p.take i = q.take i) (fun i => ⟨[(5, sV (.int .i64 i)), (0, .one (.b (.l p))), (1, .one (.b (.l q)))], []⟩) (fun i => p.length - i) 0 ⟨Nat.zero_le _, rfl⟩ ?_ ?_
 · repeat' (first | exact trivial | exact rfl | exact Or.inl rfl | refine And.intro ?_ ?_)
 · intro i ⟨hi, he⟩ J hJ
   refine xb rfl ?_ ?_ <;> intro h
   · have h : i < p.length := by simpa using h
     obtain ⟨row, hg⟩ : ∃ row, p[i]? = some row := ⟨_, List.getElem?_eq_getElem h⟩
     obtain ⟨row', hg'⟩ : ∃ row, q[i]? = some row := ⟨_, List.getElem?_eq_getElem (by omega)⟩
     obtain ⟨x0, x1, x2, x3, rfl⟩ := z31 (hp.2 row (List.mem_of_getElem? hg))
     obtain ⟨y0, y1, y2, y3, rfl⟩ := z31 (hq.2 row' (List.mem_of_getElem? hg'))
     refine q9 rfl [] (Tk [0, 1, 2] (.take 3 [8, 9] (Tk [4, 5, 6] (.take 7 [8, 9] (.alt 8 (.take 9 [] .done) .nil))))) (by kernel_rfl) ?_
     refine xs rfl (nn_ _) (y9 rfl _ hg (xs rfl rfl ?_))
     refine xs rfl (nn_ _) (y9 rfl _ hg' (xs rfl rfl ?_))
     refine z1 rfl (q8o _ _ _ _ _ _ _ _) rfl ⟨tv5, tv5, trivial⟩ ?_
     refine xb rfl ?_ ?_ <;> intro hb
     · exact xv rfl rfl rfl (yj (fun e => by subst e; rw [hg] at hg'; cases hg'; exact z06 hb rfl))
     · have hb := q05 hb
       refine q8 rfl (hJ _ (i + 1) ⟨by omega, yn he hg (hg'.trans (by rw [hb]))⟩ (by omega) ?_)
       repeat' (first | exact trivial | exact rfl | exact Or.inl rfl | exact cwi (by omega) (by omega) (by omega) | refine And.intro ?_ ?_)
   · have h : ¬ i < p.length := by simpa using h
     exact xv rfl rfl rfl (yx (by rw [show i = p.length by omega, List.take_length] at he; rw [he, hl, List.take_length]))
theorem q41 (x0 : Int) (x1 : List (List Cell)) (y0 : Int) (y1 : List (List Cell)) (h1 : WR 9000000000000000000 q0a x1) (k1 : WR 9000000000000000000 q0a y1) : PC Tryz.prog 41 [.agg [.s (.int .i64 x0), .l x1], .agg [.s (.int .i64 y0), .l y1]] (rB (dE (α := List Cell) [.s (.int .i64 x0), .l x1] [.s (.int .i64 y0), .l y1])) := by
 refine PC.begin Tryz.func41 rfl (by kernel_rfl) ?_
 refine xb rfl (fun h => ?_) (fun e0 => ?_)
 · exact xv rfl rfl rfl (yj (fun e => by simp only [List.cons.injEq, Cell.s.injEq, Value.int.injEq, Value.bool.injEq, Value.string.injEq] at e; simp [e] at h))
 have e0 : x0 = y0 := by simpa using e0
 refine z1 rfl (z7g _ _ h1 k1) rfl tv3 ?_
 refine xb rfl (fun h => ?_) (fun e1 => ?_)
 · exact xv rfl rfl rfl (yj (fun e => z06 h (by simp only [List.cons.injEq, Cell.l.injEq] at e ⊢; simp only [e]; try trivial)))
 have e1 := q05 e1
 exact xv rfl rfl rfl (yx (by simp [e0, e1]))
theorem z1k (p q : List (List Cell)) (hp : WR 9000000000000000000 q7 p) (hq : WR 9000000000000000000 q7 q) : PC Tryz.prog 63 [.one (.l p), .one (.l q)] (rB (dE p q)) := by
 refine PC.begin Tryz.func63 rfl (by kernel_rfl) ?_
 have hpl := hp.1
 have hql := hq.1
 refine xb rfl ?_ ?_ <;> intro h
 · exact xv rfl rfl rfl (yj (fun e => by subst e; simp at h))
 have hl : p.length = q.length := by simpa [Int.ofNat_inj] using h
 refine zc rfl (ι := Nat) (fun i => i ≤ p.length ∧ p.take i = q.take i) (fun i => ⟨[(5, sV (.int .i64 i)), (0, .one (.b (.l p))), (1, .one (.b (.l q)))], []⟩) (fun i => p.length - i) 0 ⟨Nat.zero_le _, rfl⟩ ?_ ?_
 · repeat' (first | exact trivial | exact rfl | exact Or.inl rfl | refine And.intro ?_ ?_)
 · intro i ⟨hi, he⟩ J hJ
   refine xb rfl ?_ ?_ <;> intro h
   · have h : i < p.length := by simpa using h
     obtain ⟨row, hg⟩ : ∃ row, p[i]? = some row := ⟨_, List.getElem?_eq_getElem h⟩
     obtain ⟨row', hg'⟩ : ∃ row, q[i]? = some row := ⟨_, List.getElem?_eq_getElem (by omega)⟩
     obtain ⟨x0, x1, rfl, h1⟩ := q0f (hp.2 row (List.mem_of_getElem? hg))
     obtain ⟨y0, y1, rfl, k1⟩ := q0f (hq.2 row' (List.mem_of_getElem? hg'))
     refine q9 rfl [] (Tk [0, 1, 2] (.take 3 [8, 9] (Tk [4, 5, 6] (.take 7 [8, 9] (.alt 8 (.take 9 [] .done) .nil))))) (by kernel_rfl) ?_
     refine xs rfl (nn_ _) (y9 rfl _ hg (xs rfl rfl ?_))
     refine xs rfl (nn_ _) (y9 rfl _ hg' (xs rfl rfl ?_))
     refine z1 rfl (q41 _ _ _ _ h1 k1) rfl ⟨tv3, tv3, trivial⟩ ?_
     refine xb rfl ?_ ?_ <;> intro hb
     · exact xv rfl rfl rfl (yj (fun e => by subst e; rw [hg] at hg'; cases hg'; exact z06 hb rfl))
     · have hb := q05 hb
       refine q8 rfl (hJ _ (i + 1) ⟨by omega, yn he hg (hg'.trans (by rw [hb]))⟩ (by omega) ?_)
       repeat' (first | exact trivial | exact rfl | exact Or.inl rfl | exact cwi (by omega) (by omega) (by omega) | refine And.intro ?_ ?_)
   · have h : ¬ i < p.length := by simpa using h
     exact xv rfl rfl rfl (yx (by rw [show i = p.length by omega, List.take_length] at he; rw [he, hl, List.take_length]))
theorem q4p (x0 : Int) (x1 : Int) (x2 : Int) (y0 : Int) (y1 : Int) (y2 : Int)   : PC Tryz.prog 299 [.agg [.s (.int .i64 x0), .s (.int .i64 x1), .s (.int .i64 x2)], .agg [.s (.int .i64 y0), .s (.int .i64 y1), .s (.int .i64 y2)]] (rB (dE (α := List Cell) [.s (.int .i64 x0), .s (.int .i64 x1), .s (.int .i64 x2)] [.s (.int .i64 y0), .s (.int .i64 y1), .s (.int .i64 y2)])) := by
 refine PC.begin Tryz.func299 rfl (by kernel_rfl) ?_
 refine xb rfl (fun h => ?_) (fun e0 => ?_)
 · exact xv rfl rfl rfl (yj (fun e => by simp only [List.cons.injEq, Cell.s.injEq, Value.int.injEq, Value.bool.injEq, Value.string.injEq] at e; simp [e] at h))
 have e0 : x0 = y0 := by simpa using e0
 refine xb rfl (fun h => ?_) (fun e1 => ?_)
 · exact xv rfl rfl rfl (yj (fun e => by simp only [List.cons.injEq, Cell.s.injEq, Value.int.injEq, Value.bool.injEq, Value.string.injEq] at e; simp [e] at h))
 have e1 : x1 = y1 := by simpa using e1
 refine xb rfl (fun h => ?_) (fun e2 => ?_)
 · exact xv rfl rfl rfl (yj (fun e => by simp only [List.cons.injEq, Cell.s.injEq, Value.int.injEq, Value.bool.injEq, Value.string.injEq] at e; simp [e] at h))
 have e2 : x2 = y2 := by simpa using e2
 exact xv rfl rfl rfl (yx (by simp [e0, e1, e2]))
theorem y41 (p q : List (List Cell)) (hp : WR 9000000000000000000 ye p) (hq : WR 9000000000000000000 ye q) : PC Tryz.prog 195 [.one (.l p), .one (.l q)] (rB (dE p q)) := by
 refine PC.begin Tryz.func195 rfl (by kernel_rfl) ?_
 have hpl := hp.1
 have hql := hq.1
 refine xb rfl ?_ ?_ <;> intro h
 · exact xv rfl rfl rfl (yj (fun e => by subst e; simp at h))
 have hl : p.length = q.length := by simpa [Int.ofNat_inj] using h
 refine zc rfl (ι := Nat) (fun i => i ≤ p.length ∧ p.take i = q.take i) (fun i => ⟨[(5, sV (.int .i64 i)), (0, .one (.b (.l p))), (1, .one (.b (.l q)))], []⟩) (fun i => p.length - i) 0 ⟨Nat.zero_le _, rfl⟩ ?_ ?_
 · repeat' (first | exact trivial | exact rfl | exact Or.inl rfl | refine And.intro ?_ ?_)
 · intro i ⟨hi, he⟩ J hJ
   refine xb rfl ?_ ?_ <;> intro h
   · have h : i < p.length := by simpa using h
     obtain ⟨row, hg⟩ : ∃ row, p[i]? = some row := ⟨_, List.getElem?_eq_getElem h⟩
     obtain ⟨row', hg'⟩ : ∃ row, q[i]? = some row := ⟨_, List.getElem?_eq_getElem (by omega)⟩
     obtain ⟨x0, x1, x2, rfl⟩ := z0m (hp.2 row (List.mem_of_getElem? hg))
     obtain ⟨y0, y1, y2, rfl⟩ := z0m (hq.2 row' (List.mem_of_getElem? hg'))
     refine q9 rfl [] (Tk [0, 1, 2] (.take 3 [8, 9] (Tk [4, 5, 6] (.take 7 [8, 9] (.alt 8 (.take 9 [] .done) .nil))))) (by kernel_rfl) ?_
     refine xs rfl (nn_ _) (y9 rfl _ hg (xs rfl rfl ?_))
     refine xs rfl (nn_ _) (y9 rfl _ hg' (xs rfl rfl ?_))
     refine z1 rfl (q4p _ _ _ _ _ _) rfl ⟨tv4, tv4, trivial⟩ ?_
     refine xb rfl ?_ ?_ <;> intro hb
     · exact xv rfl rfl rfl (yj (fun e => by subst e; rw [hg] at hg'; cases hg'; exact z06 hb rfl))
     · have hb := q05 hb
       refine q8 rfl (hJ _ (i + 1) ⟨by omega, yn he hg (hg'.trans (by rw [hb]))⟩ (by omega) ?_)
       repeat' (first | exact trivial | exact rfl | exact Or.inl rfl | exact cwi (by omega) (by omega) (by omega) | refine And.intro ?_ ?_)
   · have h : ¬ i < p.length := by simpa using h
     exact xv rfl rfl rfl (yx (by rw [show i = p.length by omega, List.take_length] at he; rw [he, hl, List.take_length]))
theorem y7g (x0 : Int) (x1 : Int) (y0 : Int) (y1 : Int)   : PC Tryz.prog 361 [.agg [.s (.int .i64 x0), .s (.int .i64 x1)], .agg [.s (.int .i64 y0), .s (.int .i64 y1)]] (rB (dE (α := List Cell) [.s (.int .i64 x0), .s (.int .i64 x1)] [.s (.int .i64 y0), .s (.int .i64 y1)])) := by
 refine PC.begin Tryz.func361 rfl (by kernel_rfl) ?_
 refine xb rfl (fun h => ?_) (fun e0 => ?_)
 · exact xv rfl rfl rfl (yj (fun e => by simp only [List.cons.injEq, Cell.s.injEq, Value.int.injEq, Value.bool.injEq, Value.string.injEq] at e; simp [e] at h))
 have e0 : x0 = y0 := by simpa using e0
 refine xb rfl (fun h => ?_) (fun e1 => ?_)
 · exact xv rfl rfl rfl (yj (fun e => by simp only [List.cons.injEq, Cell.s.injEq, Value.int.injEq, Value.bool.injEq, Value.string.injEq] at e; simp [e] at h))
 have e1 : x1 = y1 := by simpa using e1
 exact xv rfl rfl rfl (yx (by simp [e0, e1]))
theorem q3m (p q : List (List Cell)) (hp : WR 9000000000000000000 zj p) (hq : WR 9000000000000000000 zj q) : PC Tryz.prog 262 [.one (.l p), .one (.l q)] (rB (dE p q)) := by
 refine PC.begin Tryz.func262 rfl (by kernel_rfl) ?_
 have hpl := hp.1
 have hql := hq.1
 refine xb rfl ?_ ?_ <;> intro h
 · exact xv rfl rfl rfl (yj (fun e => by subst e; simp at h))
 have hl : p.length = q.length := by simpa [Int.ofNat_inj] using h
 refine zc rfl (ι := Nat) (fun i => i ≤ p.length ∧ p.take i = q.take i) (fun i => ⟨[(5, sV (.int .i64 i)), (0, .one (.b (.l p))), (1, .one (.b (.l q)))], []⟩) (fun i => p.length - i) 0 ⟨Nat.zero_le _, rfl⟩ ?_ ?_
 · repeat' (first | exact trivial | exact rfl | exact Or.inl rfl | refine And.intro ?_ ?_)
 · intro i ⟨hi, he⟩ J hJ
   refine xb rfl ?_ ?_ <;> intro h
   · have h : i < p.length := by simpa using h
     obtain ⟨row, hg⟩ : ∃ row, p[i]? = some row := ⟨_, List.getElem?_eq_getElem h⟩
     obtain ⟨row', hg'⟩ : ∃ row, q[i]? = some row := ⟨_, List.getElem?_eq_getElem (by omega)⟩
     obtain ⟨x0, x1, rfl⟩ := z1x (hp.2 row (List.mem_of_getElem? hg))
     obtain ⟨y0, y1, rfl⟩ := z1x (hq.2 row' (List.mem_of_getElem? hg'))
     refine q9 rfl [] (Tk [0, 1, 2] (.take 3 [8, 9] (Tk [4, 5, 6] (.take 7 [8, 9] (.alt 8 (.take 9 [] .done) .nil))))) (by kernel_rfl) ?_
     refine xs rfl (nn_ _) (y9 rfl _ hg (xs rfl rfl ?_))
     refine xs rfl (nn_ _) (y9 rfl _ hg' (xs rfl rfl ?_))
     refine z1 rfl (y7g _ _ _ _) rfl ⟨tv3, tv3, trivial⟩ ?_
     refine xb rfl ?_ ?_ <;> intro hb
     · exact xv rfl rfl rfl (yj (fun e => by subst e; rw [hg] at hg'; cases hg'; exact z06 hb rfl))
     · have hb := q05 hb
       refine q8 rfl (hJ _ (i + 1) ⟨by omega, yn he hg (hg'.trans (by rw [hb]))⟩ (by omega) ?_)
       repeat' (first | exact trivial | exact rfl | exact Or.inl rfl | exact cwi (by omega) (by omega) (by omega) | refine And.intro ?_ ?_)
   · have h : ¬ i < p.length := by simpa using h
     exact xv rfl rfl rfl (yx (by rw [show i = p.length by omega, List.take_length] at he; rw [he, hl, List.take_length]))
theorem y2w (p q : List (List Cell)) (hp : WR 9000000000000000000 (.i .i64 .nil) p) (hq : WR 9000000000000000000 (.i .i64 .nil) q) : PC Tryz.prog 108 [.one (.l p), .one (.l q)] (rB (dE p q)) := by
 refine PC.begin Tryz.func108 rfl (by kernel_rfl) ?_
 have hpl := hp.1
 have hql := hq.1
 refine xb rfl ?_ ?_ <;> intro h
 · exact xv rfl rfl rfl (yj (fun e => by subst e; simp at h))
 have hl : p.length = q.length := by simpa [Int.ofNat_inj] using h
 refine zc rfl (ι := Nat) (fun i => i ≤ p.length ∧ p.take i = q.take i) (fun i => ⟨[(5, sV (.int .i64 i)), (0, .one (.b (.l p))), (1, .one (.b (.l q)))], []⟩) (fun i => p.length - i) 0 ⟨Nat.zero_le _, rfl⟩ ?_ ?_
 · repeat' (first | exact trivial | exact rfl | exact Or.inl rfl | refine And.intro ?_ ?_)
 · intro i ⟨hi, he⟩ J hJ
   refine xb rfl ?_ ?_ <;> intro h
   · have h : i < p.length := by simpa using h
     obtain ⟨row, hg⟩ : ∃ row, p[i]? = some row := ⟨_, List.getElem?_eq_getElem h⟩
     obtain ⟨row', hg'⟩ : ∃ row, q[i]? = some row := ⟨_, List.getElem?_eq_getElem (by omega)⟩
     obtain ⟨x0, _, rfl, hnil⟩ := ((hp.2 row (List.mem_of_getElem? hg))).qw; obtain rfl := hnil.z00
     obtain ⟨y0, _, rfl, knil⟩ := ((hq.2 row' (List.mem_of_getElem? hg'))).qw; obtain rfl := knil.z00
     refine q9 rfl [] (Tk [0, 1, 2] (.take 3 [8] (Tk [4, 5, 6] (.take 7 [8] (.take 8 [] .done))))) (by kernel_rfl) ?_
     refine xs rfl (nn_ _) (y9 rfl _ hg (xs rfl rfl ?_))
     refine xs rfl (nn_ _) (y9 rfl _ hg' (xs rfl rfl ?_))
     refine xb rfl ?_ ?_ <;> intro hb
     · exact xv rfl rfl rfl (yj (fun e => by subst e; rw [hg] at hg'; cases hg'; simp at hb))
     · have hb : x0 = y0 := by simpa using hb
       refine q8 rfl (hJ _ (i + 1) ⟨by omega, yn he hg (hg'.trans (by rw [hb]))⟩ (by omega) ?_)
       repeat' (first | exact trivial | exact rfl | exact Or.inl rfl | exact cwi (by omega) (by omega) (by omega) | refine And.intro ?_ ?_)
   · have h : ¬ i < p.length := by simpa using h
     exact xv rfl rfl rfl (yx (by rw [show i = p.length by omega, List.take_length] at he; rw [he, hl, List.take_length]))
theorem y6l (x0 : Int) (x1 : List (List Cell)) (x2 : List (List Cell)) (x3 : List (List Cell)) (x4 : List (List Cell)) (x5 : List (List Cell)) (y0 : Int) (y1 : List (List Cell)) (y2 : List (List Cell)) (y3 : List (List Cell)) (y4 : List (List Cell)) (y5 : List (List Cell)) (h1 : WR 9000000000000000000 ye x1) (h2 : WR 9000000000000000000 zj x2) (h3 : WR 9000000000000000000 q7 x3) (h4 : WR 9000000000000000000 zj x4) (h5 : WR 9000000000000000000 (.i .i64 .nil) x5) (k1 : WR 9000000000000000000 ye y1) (k2 : WR 9000000000000000000 zj y2) (k3 : WR 9000000000000000000 q7 y3) (k4 : WR 9000000000000000000 zj y4) (k5 : WR 9000000000000000000 (.i .i64 .nil) y5) : PC Tryz.prog 156 [.agg [.s (.int .i64 x0), .l x1, .l x2, .l x3, .l x4, .l x5], .agg [.s (.int .i64 y0), .l y1, .l y2, .l y3, .l y4, .l y5]] (rB (dE (α := List Cell) [.s (.int .i64 x0), .l x1, .l x2, .l x3, .l x4, .l x5] [.s (.int .i64 y0), .l y1, .l y2, .l y3, .l y4, .l y5])) := by
 refine PC.begin Tryz.func156 rfl (by kernel_rfl) ?_
 refine xb rfl (fun h => ?_) (fun e0 => ?_)
 · exact xv rfl rfl rfl (yj (fun e => by simp only [List.cons.injEq, Cell.s.injEq, Value.int.injEq, Value.bool.injEq, Value.string.injEq] at e; simp [e] at h))
 have e0 : x0 = y0 := by simpa using e0
 refine z1 rfl (y41 _ _ h1 k1) rfl tv3 ?_
 refine xb rfl (fun h => ?_) (fun e1 => ?_)
 · exact xv rfl rfl rfl (yj (fun e => z06 h (by simp only [List.cons.injEq, Cell.l.injEq] at e ⊢; simp only [e]; try trivial)))
 have e1 := q05 e1
 refine z1 rfl (q3m _ _ h2 k2) rfl tv3 ?_
 refine xb rfl (fun h => ?_) (fun e2 => ?_)
 · exact xv rfl rfl rfl (yj (fun e => z06 h (by simp only [List.cons.injEq, Cell.l.injEq] at e ⊢; simp only [e]; try trivial)))
 have e2 := q05 e2
 refine z1 rfl (z1k _ _ h3 k3) rfl tv3 ?_
 refine xb rfl (fun h => ?_) (fun e3 => ?_)
 · exact xv rfl rfl rfl (yj (fun e => z06 h (by simp only [List.cons.injEq, Cell.l.injEq] at e ⊢; simp only [e]; try trivial)))
 have e3 := q05 e3
 refine z1 rfl (q3m _ _ h4 k4) rfl tv3 ?_
 refine xb rfl (fun h => ?_) (fun e4 => ?_)
 · exact xv rfl rfl rfl (yj (fun e => z06 h (by simp only [List.cons.injEq, Cell.l.injEq] at e ⊢; simp only [e]; try trivial)))
 have e4 := q05 e4
 refine z1 rfl (y2w _ _ h5 k5) rfl tv3 ?_
 refine xb rfl (fun h => ?_) (fun e5 => ?_)
 · exact xv rfl rfl rfl (yj (fun e => z06 h (by simp only [List.cons.injEq, Cell.l.injEq] at e ⊢; simp only [e]; try trivial)))
 have e5 := q05 e5
 exact xv rfl rfl rfl (yx (by simp [e0, e1, e2, e3, e4, e5]))
theorem y5h (p q : List (List Cell)) (hp : WR 9000000000000000000 zg p) (hq : WR 9000000000000000000 zg q) : PC Tryz.prog 64 [.one (.l p), .one (.l q)] (rB (dE p q)) := by
 refine PC.begin Tryz.func64 rfl (by kernel_rfl) ?_
 have hpl := hp.1
 have hql := hq.1
 refine xb rfl ?_ ?_ <;> intro h
 · exact xv rfl rfl rfl (yj (fun e => by subst e; simp at h))
 have hl : p.length = q.length := by simpa [Int.ofNat_inj] using h
 refine zc rfl (ι := Nat) (fun i => i ≤ p.length ∧ p.take i = q.take i) (fun i => ⟨[(5, sV (.int .i64 i)), (0, .one (.b (.l p))), (1, .one (.b (.l q)))], []⟩) (fun i => p.length - i) 0 ⟨Nat.zero_le _, rfl⟩ ?_ ?_
 · repeat' (first | exact trivial | exact rfl | exact Or.inl rfl | refine And.intro ?_ ?_)
 · intro i ⟨hi, he⟩ J hJ
   refine xb rfl ?_ ?_ <;> intro h
   · have h : i < p.length := by simpa using h
     obtain ⟨row, hg⟩ : ∃ row, p[i]? = some row := ⟨_, List.getElem?_eq_getElem h⟩
     obtain ⟨row', hg'⟩ : ∃ row, q[i]? = some row := ⟨_, List.getElem?_eq_getElem (by omega)⟩
     obtain ⟨x0, x1, x2, x3, x4, x5, rfl, h1, h2, h3, h4, h5⟩ := y16 (hp.2 row (List.mem_of_getElem? hg))
     obtain ⟨y0, y1, y2, y3, y4, y5, rfl, k1, k2, k3, k4, k5⟩ := y16 (hq.2 row' (List.mem_of_getElem? hg'))
     refine q9 rfl [] (Tk [0, 1, 2] (.take 3 [8, 9] (Tk [4, 5, 6] (.take 7 [8, 9] (.alt 8 (.take 9 [] .done) .nil))))) (by kernel_rfl) ?_
     refine xs rfl (nn_ _) (y9 rfl _ hg (xs rfl rfl ?_))
     refine xs rfl (nn_ _) (y9 rfl _ hg' (xs rfl rfl ?_))
     refine z1 rfl (y6l _ _ _ _ _ _ _ _ _ _ _ _ h1 h2 h3 h4 h5 k1 k2 k3 k4 k5) rfl ⟨tv7, tv7, trivial⟩ ?_
     refine xb rfl ?_ ?_ <;> intro hb
     · exact xv rfl rfl rfl (yj (fun e => by subst e; rw [hg] at hg'; cases hg'; exact z06 hb rfl))
     · have hb := q05 hb
       refine q8 rfl (hJ _ (i + 1) ⟨by omega, yn he hg (hg'.trans (by rw [hb]))⟩ (by omega) ?_)
       repeat' (first | exact trivial | exact rfl | exact Or.inl rfl | exact cwi (by omega) (by omega) (by omega) | refine And.intro ?_ ?_)
   · have h : ¬ i < p.length := by simpa using h
     exact xv rfl rfl rfl (yx (by rw [show i = p.length by omega, List.take_length] at he; rw [he, hl, List.take_length]))
theorem q2w (x0 : Int) (x1 : Int) (y0 : Int) (y1 : Int)   : PC Tryz.prog 266 [.agg [.s (.int .i64 x0), .s (.int .i64 x1)], .agg [.s (.int .i64 y0), .s (.int .i64 y1)]] (rB (dE (α := List Cell) [.s (.int .i64 x0), .s (.int .i64 x1)] [.s (.int .i64 y0), .s (.int .i64 y1)])) := by
 refine PC.begin Tryz.func266 rfl (by kernel_rfl) ?_
 refine xb rfl (fun h => ?_) (fun e0 => ?_)
 · exact xv rfl rfl rfl (yj (fun e => by simp only [List.cons.injEq, Cell.s.injEq, Value.int.injEq, Value.bool.injEq, Value.string.injEq] at e; simp [e] at h))
 have e0 : x0 = y0 := by simpa using e0
 refine xb rfl (fun h => ?_) (fun e1 => ?_)
 · exact xv rfl rfl rfl (yj (fun e => by simp only [List.cons.injEq, Cell.s.injEq, Value.int.injEq, Value.bool.injEq, Value.string.injEq] at e; simp [e] at h))
 have e1 : x1 = y1 := by simpa using e1
 exact xv rfl rfl rfl (yx (by simp [e0, e1]))
theorem z3n (p q : List (List Cell)) (hp : WR 9000000000000000000 zp p) (hq : WR 9000000000000000000 zp q) : PC Tryz.prog 428 [.one (.l p), .one (.l q)] (rB (dE p q)) := by
 refine PC.begin Tryz.func428 rfl (by kernel_rfl) ?_
 have hpl := hp.1
 have hql := hq.1
 refine xb rfl ?_ ?_ <;> intro h
 · exact xv rfl rfl rfl (yj (fun e => by subst e; simp at h))
 have hl : p.length = q.length := by simpa [Int.ofNat_inj] using h
 refine zc rfl (ι := Nat) (fun i => i ≤ p.length ∧ p.take i = q.take i) (fun i => ⟨[(5, sV (.int .i64 i)), (0, .one (.b (.l p))), (1, .one (.b (.l q)))], []⟩) (fun i => p.length - i) 0 ⟨Nat.zero_le _, rfl⟩ ?_ ?_
 · repeat' (first | exact trivial | exact rfl | exact Or.inl rfl | refine And.intro ?_ ?_)
 · intro i ⟨hi, he⟩ J hJ
   refine xb rfl ?_ ?_ <;> intro h
   · have h : i < p.length := by simpa using h
     obtain ⟨row, hg⟩ : ∃ row, p[i]? = some row := ⟨_, List.getElem?_eq_getElem h⟩
     obtain ⟨row', hg'⟩ : ∃ row, q[i]? = some row := ⟨_, List.getElem?_eq_getElem (by omega)⟩
     obtain ⟨x0, x1, rfl⟩ := q1x (hp.2 row (List.mem_of_getElem? hg))
     obtain ⟨y0, y1, rfl⟩ := q1x (hq.2 row' (List.mem_of_getElem? hg'))
     refine q9 rfl [] (Tk [0, 1, 2] (.take 3 [8, 9] (Tk [4, 5, 6] (.take 7 [8, 9] (.alt 8 (.take 9 [] .done) .nil))))) (by kernel_rfl) ?_
     refine xs rfl (nn_ _) (y9 rfl _ hg (xs rfl rfl ?_))
     refine xs rfl (nn_ _) (y9 rfl _ hg' (xs rfl rfl ?_))
     refine z1 rfl (q2w _ _ _ _) rfl ⟨tv3, tv3, trivial⟩ ?_
     refine xb rfl ?_ ?_ <;> intro hb
     · exact xv rfl rfl rfl (yj (fun e => by subst e; rw [hg] at hg'; cases hg'; exact z06 hb rfl))
     · have hb := q05 hb
       refine q8 rfl (hJ _ (i + 1) ⟨by omega, yn he hg (hg'.trans (by rw [hb]))⟩ (by omega) ?_)
       repeat' (first | exact trivial | exact rfl | exact Or.inl rfl | exact cwi (by omega) (by omega) (by omega) | refine And.intro ?_ ?_)
   · have h : ¬ i < p.length := by simpa using h
     exact xv rfl rfl rfl (yx (by rw [show i = p.length by omega, List.take_length] at he; rw [he, hl, List.take_length]))
theorem q7g (x0 : Int) (x1 : Int) (x2 : Int) (x3 : Int) (x4 : Int) (x5 : List (List Cell)) (y0 : Int) (y1 : Int) (y2 : Int) (y3 : Int) (y4 : Int) (y5 : List (List Cell)) (h5 : WR 9000000000000000000 zp x5) (k5 : WR 9000000000000000000 zp y5) : PC Tryz.prog 362 [.agg [.s (.int .i64 x0), .s (.int .i64 x1), .s (.int .i64 x2), .s (.int .i64 x3), .s (.int .i64 x4), .l x5], .agg [.s (.int .i64 y0), .s (.int .i64 y1), .s (.int .i64 y2), .s (.int .i64 y3), .s (.int .i64 y4), .l y5]] (rB (dE (α := List Cell) [.s (.int .i64 x0), .s (.int .i64 x1), .s (.int .i64 x2), .s (.int .i64 x3), .s (.int .i64 x4), .l x5] [.s (.int .i64 y0), .s (.int .i64 y1), .s (.int .i64 y2), .s (.int .i64 y3), .s (.int .i64 y4), .l y5])) := by
 refine PC.begin Tryz.func362 rfl (by kernel_rfl) ?_
 refine xb rfl (fun h => ?_) (fun e0 => ?_)
 · exact xv rfl rfl rfl (yj (fun e => by simp only [List.cons.injEq, Cell.s.injEq, Value.int.injEq, Value.bool.injEq, Value.string.injEq] at e; simp [e] at h))
 have e0 : x0 = y0 := by simpa using e0
 refine xb rfl (fun h => ?_) (fun e1 => ?_)
 · exact xv rfl rfl rfl (yj (fun e => by simp only [List.cons.injEq, Cell.s.injEq, Value.int.injEq, Value.bool.injEq, Value.string.injEq] at e; simp [e] at h))
 have e1 : x1 = y1 := by simpa using e1
 refine xb rfl (fun h => ?_) (fun e2 => ?_)
 · exact xv rfl rfl rfl (yj (fun e => by simp only [List.cons.injEq, Cell.s.injEq, Value.int.injEq, Value.bool.injEq, Value.string.injEq] at e; simp [e] at h))
 have e2 : x2 = y2 := by simpa using e2
 refine z1 rfl (q2w _ _ _ _) rfl ⟨tv3, tv3, trivial⟩ ?_
 refine xb rfl (fun h => ?_) (fun e3 => ?_)
 · exact xv rfl rfl rfl (yj (fun e => z06 h (by simp only [List.cons.injEq, Cell.l.injEq] at e ⊢; simp only [e]; try trivial)))
 have e3 := q05 e3
 simp only [List.cons.injEq, Cell.s.injEq, Cell.l.injEq, Value.int.injEq, Value.bool.injEq, and_true, true_and] at e3
 refine z1 rfl (z3n _ _ h5 k5) rfl tv3 ?_
 refine xb rfl (fun h => ?_) (fun e5 => ?_)
 · exact xv rfl rfl rfl (yj (fun e => z06 h (by simp only [List.cons.injEq, Cell.l.injEq] at e ⊢; simp only [e]; try trivial)))
 have e5 := q05 e5
 exact xv rfl rfl rfl (yx (by simp [e0, e1, e2, e3, e5]))
theorem q6l (p q : List (List Cell)) (hp : WR 9000000000000000000 yo p) (hq : WR 9000000000000000000 yo q) : PC Tryz.prog 263 [.one (.l p), .one (.l q)] (rB (dE p q)) := by
 refine PC.begin Tryz.func263 rfl (by kernel_rfl) ?_
 have hpl := hp.1
 have hql := hq.1
 refine xb rfl ?_ ?_ <;> intro h
 · exact xv rfl rfl rfl (yj (fun e => by subst e; simp at h))
 have hl : p.length = q.length := by simpa [Int.ofNat_inj] using h
 refine zc rfl (ι := Nat) (fun i => i ≤ p.length ∧ p.take i = q.take i) (fun i => ⟨[(5, sV (.int .i64 i)), (0, .one (.b (.l p))), (1, .one (.b (.l q)))], []⟩) (fun i => p.length - i) 0 ⟨Nat.zero_le _, rfl⟩ ?_ ?_
 · repeat' (first | exact trivial | exact rfl | exact Or.inl rfl | refine And.intro ?_ ?_)
 · intro i ⟨hi, he⟩ J hJ
   refine xb rfl ?_ ?_ <;> intro h
   · have h : i < p.length := by simpa using h
     obtain ⟨row, hg⟩ : ∃ row, p[i]? = some row := ⟨_, List.getElem?_eq_getElem h⟩
     obtain ⟨row', hg'⟩ : ∃ row, q[i]? = some row := ⟨_, List.getElem?_eq_getElem (by omega)⟩
     obtain ⟨x0, x1, x2, x3, x4, x5, rfl, h5⟩ := y1x (hp.2 row (List.mem_of_getElem? hg))
     obtain ⟨y0, y1, y2, y3, y4, y5, rfl, k5⟩ := y1x (hq.2 row' (List.mem_of_getElem? hg'))
     refine q9 rfl [] (Tk [0, 1, 2] (.take 3 [8, 9] (Tk [4, 5, 6] (.take 7 [8, 9] (.alt 8 (.take 9 [] .done) .nil))))) (by kernel_rfl) ?_
     refine xs rfl (nn_ _) (y9 rfl _ hg (xs rfl rfl ?_))
     refine xs rfl (nn_ _) (y9 rfl _ hg' (xs rfl rfl ?_))
     refine z1 rfl (q7g _ _ _ _ _ _ _ _ _ _ _ _ h5 k5) rfl ⟨tv7, tv7, trivial⟩ ?_
     refine xb rfl ?_ ?_ <;> intro hb
     · exact xv rfl rfl rfl (yj (fun e => by subst e; rw [hg] at hg'; cases hg'; exact z06 hb rfl))
     · have hb := q05 hb
       refine q8 rfl (hJ _ (i + 1) ⟨by omega, yn he hg (hg'.trans (by rw [hb]))⟩ (by omega) ?_)
       repeat' (first | exact trivial | exact rfl | exact Or.inl rfl | exact cwi (by omega) (by omega) (by omega) | refine And.intro ?_ ?_)
   · have h : ¬ i < p.length := by simpa using h
     exact xv rfl rfl rfl (yx (by rw [show i = p.length by omega, List.take_length] at he; rw [he, hl, List.take_length]))
theorem z41 (x0 : List (List Cell)) (y0 : List (List Cell)) (h0 : WR 9000000000000000000 yo x0) (k0 : WR 9000000000000000000 yo y0) : PC Tryz.prog 157 [.agg [.l x0], .agg [.l y0]] (rB (dE (α := List Cell) [.l x0] [.l y0])) := by
 refine PC.begin Tryz.func157 rfl (by kernel_rfl) ?_
 refine z1 rfl (q6l _ _ h0 k0) rfl tv3 ?_
 refine xb rfl (fun h => ?_) (fun e0 => ?_)
 · exact xv rfl rfl rfl (yj (fun e => z06 h (by simp only [List.cons.injEq, Cell.l.injEq] at e ⊢; simp only [e]; try trivial)))
 have e0 := q05 e0
 exact xv rfl rfl rfl (yx (by simp [e0]))
theorem q3g (p q : List (List Cell)) (hp : WR 9000000000000000000 zb p) (hq : WR 9000000000000000000 zb q) : PC Tryz.prog 65 [.one (.l p), .one (.l q)] (rB (dE p q)) := by
 refine PC.begin Tryz.func65 rfl (by kernel_rfl) ?_
 have hpl := hp.1
 have hql := hq.1
 refine xb rfl ?_ ?_ <;> intro h
 · exact xv rfl rfl rfl (yj (fun e => by subst e; simp at h))
 have hl : p.length = q.length := by simpa [Int.ofNat_inj] using h
 refine zc rfl (ι := Nat) (fun i => i ≤ p.length ∧ p.take i = q.take i) (fun i => ⟨[(5, sV (.int .i64 i)), (0, .one (.b (.l p))), (1, .one (.b (.l q)))], []⟩) (fun i => p.length - i) 0 ⟨Nat.zero_le _, rfl⟩ ?_ ?_
 · repeat' (first | exact trivial | exact rfl | exact Or.inl rfl | refine And.intro ?_ ?_)
 · intro i ⟨hi, he⟩ J hJ
   refine xb rfl ?_ ?_ <;> intro h
   · have h : i < p.length := by simpa using h
     obtain ⟨row, hg⟩ : ∃ row, p[i]? = some row := ⟨_, List.getElem?_eq_getElem h⟩
     obtain ⟨row', hg'⟩ : ∃ row, q[i]? = some row := ⟨_, List.getElem?_eq_getElem (by omega)⟩
     obtain ⟨x0, rfl, h0⟩ := y0f (hp.2 row (List.mem_of_getElem? hg))
     obtain ⟨y0, rfl, k0⟩ := y0f (hq.2 row' (List.mem_of_getElem? hg'))
     refine q9 rfl [] (Tk [0, 1, 2] (.take 3 [8, 9] (Tk [4, 5, 6] (.take 7 [8, 9] (.alt 8 (.take 9 [] .done) .nil))))) (by kernel_rfl) ?_
     refine xs rfl (nn_ _) (y9 rfl _ hg (xs rfl rfl ?_))
     refine xs rfl (nn_ _) (y9 rfl _ hg' (xs rfl rfl ?_))
     refine z1 rfl (z41 _ _ h0 k0) rfl ⟨⟨trivial, trivial⟩, ⟨trivial, trivial⟩, trivial⟩ ?_
     refine xb rfl ?_ ?_ <;> intro hb
     · exact xv rfl rfl rfl (yj (fun e => by subst e; rw [hg] at hg'; cases hg'; exact z06 hb rfl))
     · have hb := q05 hb
       refine q8 rfl (hJ _ (i + 1) ⟨by omega, yn he hg (hg'.trans (by rw [hb]))⟩ (by omega) ?_)
       repeat' (first | exact trivial | exact rfl | exact Or.inl rfl | exact cwi (by omega) (by omega) (by omega) | refine And.intro ?_ ?_)
   · have h : ¬ i < p.length := by simpa using h
     exact xv rfl rfl rfl (yx (by rw [show i = p.length by omega, List.take_length] at he; rw [he, hl, List.take_length]))
theorem z8p (x0 : Int) (x1 : Int) (x2 : Int) (x3 : Int) (x4 : List (List Cell)) (x5 : List (List Cell)) (y0 : Int) (y1 : Int) (y2 : Int) (y3 : Int) (y4 : List (List Cell)) (y5 : List (List Cell)) (h4 : WR 9000000000000000000 (.i .i64 .nil) x4) (h5 : WR 9000000000000000000 zp x5) (k4 : WR 9000000000000000000 (.i .i64 .nil) y4) (k5 : WR 9000000000000000000 zp y5) : PC Tryz.prog 363 [.agg [.s (.int .i64 x0), .s (.int .i64 x1), .s (.int .i64 x2), .s (.int .i64 x3), .l x4, .l x5], .agg [.s (.int .i64 y0), .s (.int .i64 y1), .s (.int .i64 y2), .s (.int .i64 y3), .l y4, .l y5]] (rB (dE (α := List Cell) [.s (.int .i64 x0), .s (.int .i64 x1), .s (.int .i64 x2), .s (.int .i64 x3), .l x4, .l x5] [.s (.int .i64 y0), .s (.int .i64 y1), .s (.int .i64 y2), .s (.int .i64 y3), .l y4, .l y5])) := by
 refine PC.begin Tryz.func363 rfl (by kernel_rfl) ?_
 refine xb rfl (fun h => ?_) (fun e0 => ?_)
 · exact xv rfl rfl rfl (yj (fun e => by simp only [List.cons.injEq, Cell.s.injEq, Value.int.injEq, Value.bool.injEq, Value.string.injEq] at e; simp [e] at h))
 have e0 : x0 = y0 := by simpa using e0
 refine xb rfl (fun h => ?_) (fun e1 => ?_)
 · exact xv rfl rfl rfl (yj (fun e => by simp only [List.cons.injEq, Cell.s.injEq, Value.int.injEq, Value.bool.injEq, Value.string.injEq] at e; simp [e] at h))
 have e1 : x1 = y1 := by simpa using e1
 refine xb rfl (fun h => ?_) (fun e2 => ?_)
 · exact xv rfl rfl rfl (yj (fun e => by simp only [List.cons.injEq, Cell.s.injEq, Value.int.injEq, Value.bool.injEq, Value.string.injEq] at e; simp [e] at h))
 have e2 : x2 = y2 := by simpa using e2
 refine xb rfl (fun h => ?_) (fun e3 => ?_)
 · exact xv rfl rfl rfl (yj (fun e => by simp only [List.cons.injEq, Cell.s.injEq, Value.int.injEq, Value.bool.injEq, Value.string.injEq] at e; simp [e] at h))
 have e3 : x3 = y3 := by simpa using e3
 refine z1 rfl (y2w _ _ h4 k4) rfl tv3 ?_
 refine xb rfl (fun h => ?_) (fun e4 => ?_)
 · exact xv rfl rfl rfl (yj (fun e => z06 h (by simp only [List.cons.injEq, Cell.l.injEq] at e ⊢; simp only [e]; try trivial)))
 have e4 := q05 e4
 refine z1 rfl (z3n _ _ h5 k5) rfl tv3 ?_
 refine xb rfl (fun h => ?_) (fun e5 => ?_)
 · exact xv rfl rfl rfl (yj (fun e => z06 h (by simp only [List.cons.injEq, Cell.l.injEq] at e ⊢; simp only [e]; try trivial)))
 have e5 := q05 e5
 exact xv rfl rfl rfl (yx (by simp [e0, e1, e2, e3, e4, e5]))
theorem z7h (p q : List (List Cell)) (hp : WR 9000000000000000000 zr p) (hq : WR 9000000000000000000 zr q) : PC Tryz.prog 264 [.one (.l p), .one (.l q)] (rB (dE p q)) := by
 refine PC.begin Tryz.func264 rfl (by kernel_rfl) ?_
 have hpl := hp.1
 have hql := hq.1
 refine xb rfl ?_ ?_ <;> intro h
 · exact xv rfl rfl rfl (yj (fun e => by subst e; simp at h))
 have hl : p.length = q.length := by simpa [Int.ofNat_inj] using h
 refine zc rfl (ι := Nat) (fun i => i ≤ p.length ∧ p.take i = q.take i) (fun i => ⟨[(5, sV (.int .i64 i)), (0, .one (.b (.l p))), (1, .one (.b (.l q)))], []⟩) (fun i => p.length - i) 0 ⟨Nat.zero_le _, rfl⟩ ?_ ?_
 · repeat' (first | exact trivial | exact rfl | exact Or.inl rfl | refine And.intro ?_ ?_)
 · intro i ⟨hi, he⟩ J hJ
   refine xb rfl ?_ ?_ <;> intro h
   · have h : i < p.length := by simpa using h
     obtain ⟨row, hg⟩ : ∃ row, p[i]? = some row := ⟨_, List.getElem?_eq_getElem h⟩
     obtain ⟨row', hg'⟩ : ∃ row, q[i]? = some row := ⟨_, List.getElem?_eq_getElem (by omega)⟩
     obtain ⟨x0, x1, x2, x3, x4, x5, rfl, h4, h5⟩ := y31 (hp.2 row (List.mem_of_getElem? hg))
     obtain ⟨y0, y1, y2, y3, y4, y5, rfl, k4, k5⟩ := y31 (hq.2 row' (List.mem_of_getElem? hg'))
     refine q9 rfl [] (Tk [0, 1, 2] (.take 3 [8, 9] (Tk [4, 5, 6] (.take 7 [8, 9] (.alt 8 (.take 9 [] .done) .nil))))) (by kernel_rfl) ?_
     refine xs rfl (nn_ _) (y9 rfl _ hg (xs rfl rfl ?_))
     refine xs rfl (nn_ _) (y9 rfl _ hg' (xs rfl rfl ?_))
     refine z1 rfl (z8p _ _ _ _ _ _ _ _ _ _ _ _ h4 h5 k4 k5) rfl ⟨tv7, tv7, trivial⟩ ?_
     refine xb rfl ?_ ?_ <;> intro hb
     · exact xv rfl rfl rfl (yj (fun e => by subst e; rw [hg] at hg'; cases hg'; exact z06 hb rfl))
     · have hb := q05 hb
       refine q8 rfl (hJ _ (i + 1) ⟨by omega, yn he hg (hg'.trans (by rw [hb]))⟩ (by omega) ?_)
       repeat' (first | exact trivial | exact rfl | exact Or.inl rfl | exact cwi (by omega) (by omega) (by omega) | refine And.intro ?_ ?_)
   · have h : ¬ i < p.length := by simpa using h
     exact xv rfl rfl rfl (yx (by rw [show i = p.length by omega, List.take_length] at he; rw [he, hl, List.take_length]))
theorem z6l (x0 : Int) (x1 : Int) (x2 : Int) (x3 : Int) (x4 : Int) (y0 : Int) (y1 : Int) (y2 : Int) (y3 : Int) (y4 : Int)   : PC Tryz.prog 364 [.agg [.s (.int .i64 x0), .s (.int .i64 x1), .s (.int .i64 x2), .s (.int .i64 x3), .s (.int .i64 x4)], .agg [.s (.int .i64 y0), .s (.int .i64 y1), .s (.int .i64 y2), .s (.int .i64 y3), .s (.int .i64 y4)]] (rB (dE (α := List Cell) [.s (.int .i64 x0), .s (.int .i64 x1), .s (.int .i64 x2), .s (.int .i64 x3), .s (.int .i64 x4)] [.s (.int .i64 y0), .s (.int .i64 y1), .s (.int .i64 y2), .s (.int .i64 y3), .s (.int .i64 y4)])) := by
 refine PC.begin Tryz.func364 rfl (by kernel_rfl) ?_
 refine xb rfl (fun h => ?_) (fun e0 => ?_)
 · exact xv rfl rfl rfl (yj (fun e => by simp only [List.cons.injEq, Cell.s.injEq, Value.int.injEq, Value.bool.injEq, Value.string.injEq] at e; simp [e] at h))
 have e0 : x0 = y0 := by simpa using e0
 refine xb rfl (fun h => ?_) (fun e1 => ?_)
 · exact xv rfl rfl rfl (yj (fun e => by simp only [List.cons.injEq, Cell.s.injEq, Value.int.injEq, Value.bool.injEq, Value.string.injEq] at e; simp [e] at h))
 have e1 : x1 = y1 := by simpa using e1
 refine xb rfl (fun h => ?_) (fun e2 => ?_)
 · exact xv rfl rfl rfl (yj (fun e => by simp only [List.cons.injEq, Cell.s.injEq, Value.int.injEq, Value.bool.injEq, Value.string.injEq] at e; simp [e] at h))
 have e2 : x2 = y2 := by simpa using e2
 refine xb rfl (fun h => ?_) (fun e3 => ?_)
 · exact xv rfl rfl rfl (yj (fun e => by simp only [List.cons.injEq, Cell.s.injEq, Value.int.injEq, Value.bool.injEq, Value.string.injEq] at e; simp [e] at h))
 have e3 : x3 = y3 := by simpa using e3
 refine xb rfl (fun h => ?_) (fun e4 => ?_)
 · exact xv rfl rfl rfl (yj (fun e => by simp only [List.cons.injEq, Cell.s.injEq, Value.int.injEq, Value.bool.injEq, Value.string.injEq] at e; simp [e] at h))
 have e4 : x4 = y4 := by simpa using e4
 exact xv rfl rfl rfl (yx (by simp [e0, e1, e2, e3, e4]))
theorem q5g (p q : List (List Cell)) (hp : WR 9000000000000000000 zu p) (hq : WR 9000000000000000000 zu q) : PC Tryz.prog 265 [.one (.l p), .one (.l q)] (rB (dE p q)) := by
 refine PC.begin Tryz.func265 rfl (by kernel_rfl) ?_
 have hpl := hp.1
 have hql := hq.1
 refine xb rfl ?_ ?_ <;> intro h
 · exact xv rfl rfl rfl (yj (fun e => by subst e; simp at h))
 have hl : p.length = q.length := by simpa [Int.ofNat_inj] using h
 refine zc rfl (ι := Nat) (fun i => i ≤ p.length ∧ p.take i = q.take i) (fun i => ⟨[(5, sV (.int .i64 i)), (0, .one (.b (.l p))), (1, .one (.b (.l q)))], []⟩) (fun i => p.length - i) 0 ⟨Nat.zero_le _, rfl⟩ ?_ ?_
 · repeat' (first | exact trivial | exact rfl | exact Or.inl rfl | refine And.intro ?_ ?_)
 · intro i ⟨hi, he⟩ J hJ
   refine xb rfl ?_ ?_ <;> intro h
   · have h : i < p.length := by simpa using h
     obtain ⟨row, hg⟩ : ∃ row, p[i]? = some row := ⟨_, List.getElem?_eq_getElem h⟩
     obtain ⟨row', hg'⟩ : ∃ row, q[i]? = some row := ⟨_, List.getElem?_eq_getElem (by omega)⟩
     obtain ⟨x0, x1, x2, x3, x4, rfl⟩ := z16 (hp.2 row (List.mem_of_getElem? hg))
     obtain ⟨y0, y1, y2, y3, y4, rfl⟩ := z16 (hq.2 row' (List.mem_of_getElem? hg'))
     refine q9 rfl [] (Tk [0, 1, 2] (.take 3 [8, 9] (Tk [4, 5, 6] (.take 7 [8, 9] (.alt 8 (.take 9 [] .done) .nil))))) (by kernel_rfl) ?_
     refine xs rfl (nn_ _) (y9 rfl _ hg (xs rfl rfl ?_))
     refine xs rfl (nn_ _) (y9 rfl _ hg' (xs rfl rfl ?_))
     refine z1 rfl (z6l _ _ _ _ _ _ _ _ _ _) rfl ⟨tv6, tv6, trivial⟩ ?_
     refine xb rfl ?_ ?_ <;> intro hb
     · exact xv rfl rfl rfl (yj (fun e => by subst e; rw [hg] at hg'; cases hg'; exact z06 hb rfl))
     · have hb := q05 hb
       refine q8 rfl (hJ _ (i + 1) ⟨by omega, yn he hg (hg'.trans (by rw [hb]))⟩ (by omega) ?_)
       repeat' (first | exact trivial | exact rfl | exact Or.inl rfl | exact cwi (by omega) (by omega) (by omega) | refine And.intro ?_ ?_)
   · have h : ¬ i < p.length := by simpa using h
     exact xv rfl rfl rfl (yx (by rw [show i = p.length by omega, List.take_length] at he; rw [he, hl, List.take_length]))
theorem z5h (x0 : Int) (x1 : List (List Cell)) (x2 : List (List Cell)) (y0 : Int) (y1 : List (List Cell)) (y2 : List (List Cell)) (h1 : WR 9000000000000000000 zr x1) (h2 : WR 9000000000000000000 zu x2) (k1 : WR 9000000000000000000 zr y1) (k2 : WR 9000000000000000000 zu y2) : PC Tryz.prog 158 [.agg [.s (.int .i64 x0), .l x1, .l x2], .agg [.s (.int .i64 y0), .l y1, .l y2]] (rB (dE (α := List Cell) [.s (.int .i64 x0), .l x1, .l x2] [.s (.int .i64 y0), .l y1, .l y2])) := by
 refine PC.begin Tryz.func158 rfl (by kernel_rfl) ?_
 refine xb rfl (fun h => ?_) (fun e0 => ?_)
 · exact xv rfl rfl rfl (yj (fun e => by simp only [List.cons.injEq, Cell.s.injEq, Value.int.injEq, Value.bool.injEq, Value.string.injEq] at e; simp [e] at h))
 have e0 : x0 = y0 := by simpa using e0
 refine z1 rfl (z7h _ _ h1 k1) rfl tv3 ?_
 refine xb rfl (fun h => ?_) (fun e1 => ?_)
 · exact xv rfl rfl rfl (yj (fun e => z06 h (by simp only [List.cons.injEq, Cell.l.injEq] at e ⊢; simp only [e]; try trivial)))
 have e1 := q05 e1
 refine z1 rfl (q5g _ _ h2 k2) rfl tv3 ?_
 refine xb rfl (fun h => ?_) (fun e2 => ?_)
 · exact xv rfl rfl rfl (yj (fun e => z06 h (by simp only [List.cons.injEq, Cell.l.injEq] at e ⊢; simp only [e]; try trivial)))
 have e2 := q05 e2
 exact xv rfl rfl rfl (yx (by simp [e0, e1, e2]))
theorem y4q (p q : List (List Cell)) (hp : WR 9000000000000000000 qf p) (hq : WR 9000000000000000000 qf q) : PC Tryz.prog 66 [.one (.l p), .one (.l q)] (rB (dE p q)) := by
 refine PC.begin Tryz.func66 rfl (by kernel_rfl) ?_
 have hpl := hp.1
 have hql := hq.1
 refine xb rfl ?_ ?_ <;> intro h
 · exact xv rfl rfl rfl (yj (fun e => by subst e; simp at h))
 have hl : p.length = q.length := by simpa [Int.ofNat_inj] using h
 refine zc rfl (ι := Nat) (fun i => i ≤ p.length ∧ p.take i = q.take i) (fun i => ⟨[(5, sV (.int .i64 i)), (0, .one (.b (.l p))), (1, .one (.b (.l q)))], []⟩) (fun i => p.length - i) 0 ⟨Nat.zero_le _, rfl⟩ ?_ ?_
 · repeat' (first | exact trivial | exact rfl | exact Or.inl rfl | refine And.intro ?_ ?_)
 · intro i ⟨hi, he⟩ J hJ
   refine xb rfl ?_ ?_ <;> intro h
   · have h : i < p.length := by simpa using h
     obtain ⟨row, hg⟩ : ∃ row, p[i]? = some row := ⟨_, List.getElem?_eq_getElem h⟩
     obtain ⟨row', hg'⟩ : ∃ row, q[i]? = some row := ⟨_, List.getElem?_eq_getElem (by omega)⟩
     obtain ⟨x0, x1, x2, rfl, h1, h2⟩ := y0w (hp.2 row (List.mem_of_getElem? hg))
     obtain ⟨y0, y1, y2, rfl, k1, k2⟩ := y0w (hq.2 row' (List.mem_of_getElem? hg'))
     refine q9 rfl [] (Tk [0, 1, 2] (.take 3 [8, 9] (Tk [4, 5, 6] (.take 7 [8, 9] (.alt 8 (.take 9 [] .done) .nil))))) (by kernel_rfl) ?_
     refine xs rfl (nn_ _) (y9 rfl _ hg (xs rfl rfl ?_))
     refine xs rfl (nn_ _) (y9 rfl _ hg' (xs rfl rfl ?_))
     refine z1 rfl (z5h _ _ _ _ _ _ h1 h2 k1 k2) rfl ⟨tv4, tv4, trivial⟩ ?_
     refine xb rfl ?_ ?_ <;> intro hb
     · exact xv rfl rfl rfl (yj (fun e => by subst e; rw [hg] at hg'; cases hg'; exact z06 hb rfl))
     · have hb := q05 hb
       refine q8 rfl (hJ _ (i + 1) ⟨by omega, yn he hg (hg'.trans (by rw [hb]))⟩ (by omega) ?_)
       repeat' (first | exact trivial | exact rfl | exact Or.inl rfl | exact cwi (by omega) (by omega) (by omega) | refine And.intro ?_ ?_)
   · have h : ¬ i < p.length := by simpa using h
     exact xv rfl rfl rfl (yx (by rw [show i = p.length by omega, List.take_length] at he; rw [he, hl, List.take_length]))
theorem q4q (x0 : Int) (x1 : Int) (x2 : Int) (x3 : Int) (x4 : Int) (x5 : Int) (x6 : Int) (x7 : Int) (x8 : Int) (y0 : Int) (y1 : Int) (y2 : Int) (y3 : Int) (y4 : Int) (y5 : Int) (y6 : Int) (y7 : Int) (y8 : Int)   : PC Tryz.prog 159 [.agg [.s (.int .i64 x0), .s (.int .i64 x1), .s (.int .i64 x2), .s (.int .i64 x3), .s (.int .i64 x4), .s (.int .i64 x5), .s (.int .i64 x6), .s (.int .i64 x7), .s (.int .i64 x8)], .agg [.s (.int .i64 y0), .s (.int .i64 y1), .s (.int .i64 y2), .s (.int .i64 y3), .s (.int .i64 y4), .s (.int .i64 y5), .s (.int .i64 y6), .s (.int .i64 y7), .s (.int .i64 y8)]] (rB (dE (α := List Cell) [.s (.int .i64 x0), .s (.int .i64 x1), .s (.int .i64 x2), .s (.int .i64 x3), .s (.int .i64 x4), .s (.int .i64 x5), .s (.int .i64 x6), .s (.int .i64 x7), .s (.int .i64 x8)] [.s (.int .i64 y0), .s (.int .i64 y1), .s (.int .i64 y2), .s (.int .i64 y3), .s (.int .i64 y4), .s (.int .i64 y5), .s (.int .i64 y6), .s (.int .i64 y7), .s (.int .i64 y8)])) := by
 refine PC.begin Tryz.func159 rfl (by kernel_rfl) ?_
 refine xb rfl (fun h => ?_) (fun e0 => ?_)
 · exact xv rfl rfl rfl (yj (fun e => by simp only [List.cons.injEq, Cell.s.injEq, Value.int.injEq, Value.bool.injEq, Value.string.injEq] at e; simp [e] at h))
 have e0 : x0 = y0 := by simpa using e0
 refine xb rfl (fun h => ?_) (fun e1 => ?_)
 · exact xv rfl rfl rfl (yj (fun e => by simp only [List.cons.injEq, Cell.s.injEq, Value.int.injEq, Value.bool.injEq, Value.string.injEq] at e; simp [e] at h))
 have e1 : x1 = y1 := by simpa using e1
 refine xb rfl (fun h => ?_) (fun e2 => ?_)
 · exact xv rfl rfl rfl (yj (fun e => by simp only [List.cons.injEq, Cell.s.injEq, Value.int.injEq, Value.bool.injEq, Value.string.injEq] at e; simp [e] at h))
 have e2 : x2 = y2 := by simpa using e2
 refine xb rfl (fun h => ?_) (fun e3 => ?_)
 · exact xv rfl rfl rfl (yj (fun e => by simp only [List.cons.injEq, Cell.s.injEq, Value.int.injEq, Value.bool.injEq, Value.string.injEq] at e; simp [e] at h))
 have e3 : x3 = y3 := by simpa using e3
 refine xb rfl (fun h => ?_) (fun e4 => ?_)
 · exact xv rfl rfl rfl (yj (fun e => by simp only [List.cons.injEq, Cell.s.injEq, Value.int.injEq, Value.bool.injEq, Value.string.injEq] at e; simp [e] at h))
 have e4 : x4 = y4 := by simpa using e4
 refine xb rfl (fun h => ?_) (fun e5 => ?_)
 · exact xv rfl rfl rfl (yj (fun e => by simp only [List.cons.injEq, Cell.s.injEq, Value.int.injEq, Value.bool.injEq, Value.string.injEq] at e; simp [e] at h))
 have e5 : x5 = y5 := by simpa using e5
 refine xb rfl (fun h => ?_) (fun e6 => ?_)
 · exact xv rfl rfl rfl (yj (fun e => by simp only [List.cons.injEq, Cell.s.injEq, Value.int.injEq, Value.bool.injEq, Value.string.injEq] at e; simp [e] at h))
 have e6 : x6 = y6 := by simpa using e6
 refine z1 rfl (q2w _ _ _ _) rfl ⟨tv3, tv3, trivial⟩ ?_
 refine xb rfl (fun h => ?_) (fun e7 => ?_)
 · exact xv rfl rfl rfl (yj (fun e => z06 h (by simp only [List.cons.injEq, Cell.l.injEq] at e ⊢; simp only [e]; try trivial)))
 have e7 := q05 e7
 simp only [List.cons.injEq, Cell.s.injEq, Cell.l.injEq, Value.int.injEq, Value.bool.injEq, and_true, true_and] at e7
 exact xv rfl rfl rfl (yx (by simp [e0, e1, e2, e3, e4, e5, e6, e7]))
theorem y42 (p q : List (List Cell)) (hp : WR 9000000000000000000 qm p) (hq : WR 9000000000000000000 qm q) : PC Tryz.prog 67 [.one (.l p), .one (.l q)] (rB (dE p q)) := by
 refine PC.begin Tryz.func67 rfl (by kernel_rfl) ?_
 have hpl := hp.1
 have hql := hq.1
 refine xb rfl ?_ ?_ <;> intro h
 · exact xv rfl rfl rfl (yj (fun e => by subst e; simp at h))
 have hl : p.length = q.length := by simpa [Int.ofNat_inj] using h
 refine zc rfl (ι := Nat) (fun i => i ≤ p.length ∧ p.take i = q.take i) (fun i => ⟨[(5, sV (.int .i64 i)), (0, .one (.b (.l p))), (1, .one (.b (.l q)))], []⟩) (fun i => p.length - i) 0 ⟨Nat.zero_le _, rfl⟩ ?_ ?_
 · repeat' (first | exact trivial | exact rfl | exact Or.inl rfl | refine And.intro ?_ ?_)
 · intro i ⟨hi, he⟩ J hJ
   refine xb rfl ?_ ?_ <;> intro h
   · have h : i < p.length := by simpa using h
     obtain ⟨row, hg⟩ : ∃ row, p[i]? = some row := ⟨_, List.getElem?_eq_getElem h⟩
     obtain ⟨row', hg'⟩ : ∃ row, q[i]? = some row := ⟨_, List.getElem?_eq_getElem (by omega)⟩
     obtain ⟨x0, x1, x2, x3, x4, x5, x6, x7, x8, rfl⟩ := y0m (hp.2 row (List.mem_of_getElem? hg))
     obtain ⟨y0, y1, y2, y3, y4, y5, y6, y7, y8, rfl⟩ := y0m (hq.2 row' (List.mem_of_getElem? hg'))
     refine q9 rfl [] (Tk [0, 1, 2] (.take 3 [8, 9] (Tk [4, 5, 6] (.take 7 [8, 9] (.alt 8 (.take 9 [] .done) .nil))))) (by kernel_rfl) ?_
     refine xs rfl (nn_ _) (y9 rfl _ hg (xs rfl rfl ?_))
     refine xs rfl (nn_ _) (y9 rfl _ hg' (xs rfl rfl ?_))
     refine z1 rfl (q4q _ _ _ _ _ _ _ _ _ _ _ _ _ _ _ _ _ _) rfl ⟨tv10, tv10, trivial⟩ ?_
     refine xb rfl ?_ ?_ <;> intro hb
     · exact xv rfl rfl rfl (yj (fun e => by subst e; rw [hg] at hg'; cases hg'; exact z06 hb rfl))
     · have hb := q05 hb
       refine q8 rfl (hJ _ (i + 1) ⟨by omega, yn he hg (hg'.trans (by rw [hb]))⟩ (by omega) ?_)
       repeat' (first | exact trivial | exact rfl | exact Or.inl rfl | exact cwi (by omega) (by omega) (by omega) | refine And.intro ?_ ?_)
   · have h : ¬ i < p.length := by simpa using h
     exact xv rfl rfl rfl (yx (by rw [show i = p.length by omega, List.take_length] at he; rw [he, hl, List.take_length]))
theorem z4q (x0 : List (List Cell)) (x1 : List (List Cell)) (x2 : List (List Cell)) (x3 : List (List Cell)) (x4 : List (List Cell)) (y0 : List (List Cell)) (y1 : List (List Cell)) (y2 : List (List Cell)) (y3 : List (List Cell)) (y4 : List (List Cell)) (h0 : WR 9000000000000000000 q7 x0) (h1 : WR 9000000000000000000 zg x1) (h2 : WR 9000000000000000000 zb x2) (h3 : WR 9000000000000000000 qf x3) (h4 : WR 9000000000000000000 qm x4) (k0 : WR 9000000000000000000 q7 y0) (k1 : WR 9000000000000000000 zg y1) (k2 : WR 9000000000000000000 zb y2) (k3 : WR 9000000000000000000 qf y3) (k4 : WR 9000000000000000000 qm y4) : PC Tryz.prog 14 [.agg [.l x0, .l x1, .l x2, .l x3, .l x4], .agg [.l y0, .l y1, .l y2, .l y3, .l y4]] (rB (dE (α := List Cell) [.l x0, .l x1, .l x2, .l x3, .l x4] [.l y0, .l y1, .l y2, .l y3, .l y4])) := by
 refine PC.begin Tryz.func14 rfl (by kernel_rfl) ?_
 refine z1 rfl (z1k _ _ h0 k0) rfl tv3 ?_
 refine xb rfl (fun h => ?_) (fun e0 => ?_)
 · exact xv rfl rfl rfl (yj (fun e => z06 h (by simp only [List.cons.injEq, Cell.l.injEq] at e ⊢; simp only [e]; try trivial)))
 have e0 := q05 e0
 refine z1 rfl (y5h _ _ h1 k1) rfl tv3 ?_
 refine xb rfl (fun h => ?_) (fun e1 => ?_)
 · exact xv rfl rfl rfl (yj (fun e => z06 h (by simp only [List.cons.injEq, Cell.l.injEq] at e ⊢; simp only [e]; try trivial)))
 have e1 := q05 e1
 refine z1 rfl (q3g _ _ h2 k2) rfl tv3 ?_
 refine xb rfl (fun h => ?_) (fun e2 => ?_)
 · exact xv rfl rfl rfl (yj (fun e => z06 h (by simp only [List.cons.injEq, Cell.l.injEq] at e ⊢; simp only [e]; try trivial)))
 have e2 := q05 e2
 refine z1 rfl (y4q _ _ h3 k3) rfl tv3 ?_
 refine xb rfl (fun h => ?_) (fun e3 => ?_)
 · exact xv rfl rfl rfl (yj (fun e => z06 h (by simp only [List.cons.injEq, Cell.l.injEq] at e ⊢; simp only [e]; try trivial)))
 have e3 := q05 e3
 refine z1 rfl (y42 _ _ h4 k4) rfl tv3 ?_
 refine xb rfl (fun h => ?_) (fun e4 => ?_)
 · exact xv rfl rfl rfl (yj (fun e => z06 h (by simp only [List.cons.injEq, Cell.l.injEq] at e ⊢; simp only [e]; try trivial)))
 have e4 := q05 e4
 exact xv rfl rfl rfl (yx (by simp [e0, e1, e2, e3, e4]))
end Go.Proofs.YtohbmmpkcibnpaaGreat
end
