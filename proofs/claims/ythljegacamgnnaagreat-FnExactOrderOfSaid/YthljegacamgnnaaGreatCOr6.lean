/- WHAT IS PROVED: parts of the proof of fnExactOrderOf_holds: a frame for walks, what each Go function that it reaches answers, and plain lemmas; no condition beyond those that each theorem names. -/
import Derived.Test.YthljegacamgnnaaGreatCOr5
import Derived.WalkKit
import Derived.OrdersHeld
import Derived.DeepKeys
import Derived.Maps.RangeWalk
import Derived.Maps.OwnOps
import Derived.Deep.Slices
import Derived.ChangeArms
import Derived.WideShapes
import Derived.Lib.SlicesCompact
import Derived.Test.YthljegacamgnnaaGreatProg
import Derived.Shelf.SortG.Plain
import Derived.Shelf.SortG.SortNone
import Derived.Shelf.SlicesG.CompactI
import Derived.Lib.OwnBridge
import Derived.RangeFuncGives
import Derived.RangeFuncBox
import Derived.RangeFuncLeaves
import Derived.Shelf.Abstract
import Derived.Maps.AppendAt
import Derived.OwnWalkIn
import Derived.TacticsInMore
import Derived.LoopNIn
import Derived.LoopIn
import Derived.Shelf.SlicesG.Delete
set_option linter.unusedVariables false
set_option linter.unusedSimpArgs false
section
namespace Go.Proofs.YthljegacamgnnaaGreat
open Go Go.Sx
set_option maxRecDepth 20000
set_option maxHeartbeats 4000000
theorem z1p (x : Con) (hl : x.legs.length ≤ 1048576) : PC Tryz.prog 141 [.agg x.cs] (.one (.bor false [.l (ints (shF x.legs))])) := by
 refine PC.begin Tryz.func141 rfl (by kernel_rfl) ?_
 refine xs rfl trivial ?_
 refine yc rfl (ι := Nat) (fun i => i ≤ x.legs.length) (fun i => ⟨[(4, sV (.int .i64 i)), (3, .one (.b (.l (ints (shF (x.legs.take i)))))), (1, .one (.a 1 0))], [(1, .var (x.cs.map .b))]⟩) (fun i => x.legs.length - i) 0 (Nat.zero_le _) ?_ ?_
 · exact ⟨⟨rfl, ⟨rfl, rfl, rfl⟩, ⟨rfl, rfl, rfl⟩, trivial⟩, ⟨lcr, trivial⟩, rfl⟩
 · intro i hi J hJ
   refine xb rfl (fun h => ?_) (fun h => ?_)
   · have h : i < x.legs.length := by simpa using h
     obtain ⟨y, hy⟩ := gx h
     have hg := gm Leg.cs hy
     have hst := q5z hy
     have hlen := y1q x.legs i
     cases hb : (shF (x.legs.take i)).contains y.s with
     | true =>
       have hp := y2p _ _ true hb (by omega) (y3q _)
       have he : z2q (shF (x.legs.take i)) y.s = shF (x.legs.take i) := by
        have := y4a (y3q (x.legs.take i)) hb
        exact this
       rw [he] at hst
       refine xs rfl (Int.natCast_nonneg _) ?_
       refine y9 rfl _ hg ?_
       refine xs rfl rfl ?_
       refine z7 rfl (hp) rfl ⟨trivial, trivial, trivial⟩ ?_
       exact ya rfl (hJ _ (i + 1) (by omega) (by omega) ⟨⟨cwi (by omega) (by omega) (by omega), (by rw [hst]; rfl), ⟨rfl, rfl, rfl⟩, trivial⟩, ⟨lcr, trivial⟩, rfl⟩)
     | false =>
       have hp := y2p _ _ false hb (by omega) (y3q _)
       refine xs rfl (Int.natCast_nonneg _) ?_
       refine y9 rfl _ hg ?_
       refine xs rfl rfl ?_
       refine z7 rfl (hp) rfl ⟨trivial, trivial, trivial⟩ ?_
       exact ya rfl (hJ _ (i + 1) (by omega) (by omega) ⟨⟨cwi (by omega) (by omega) (by omega), ⟨rfl, rfl, (by rw [hst])⟩, ⟨rfl, rfl, rfl⟩, trivial⟩, ⟨lcr, trivial⟩, rfl⟩)
   · have h : i = x.legs.length := by have : ¬ i < x.legs.length := by simpa using h
                                      omega
     subst h
     rw [List.take_length]
     refine xr rfl (q7 rfl ⟨⟨rfl, rfl, trivial⟩, z6 rfl⟩)
theorem qv (c : Clu) (ho : yw c) (id s : Int) : PC Tryz.prog 182 [.one (.p c.cs), .one (i64 id), .one (i64 s)] (rB (q0u c.cons id s)) := by
 refine PC.begin Tryz.func182 rfl (by kernel_rfl) ?_
 have hf := y0d c id ho.1.1
 cases h : z02 c.cons id with
 | none =>
   rw [y1o h] at hf
   have e : q0u c.cons id s = false := by unfold q0u; rw [h]
   rw [e]
   refine z7 rfl (hf) rfl ⟨trivial, trivial, trivial⟩ ?_
   refine xj (k := 11) rfl ?_
   refine xr rfl (q7 rfl ⟨⟨rfl, rfl, trivial⟩, z6 rfl⟩)
 | some x =>
   obtain ⟨i, hi, hx⟩ := y0t h
   rw [hi] at hf
   have hg := gm Con.cs hx
   have hxl := ho.1.2 x (List.mem_of_getElem? hx)
   have e : q0u c.cons id s = (shF x.legs).any (fun y => y == s) := by unfold q0u; rw [h, z9o]
   rw [e]
   refine z7 rfl (hf) rfl ⟨trivial, trivial, trivial⟩ ?_
   refine xj (k := 6) rfl ?_
   refine xs rfl (Int.natCast_nonneg _) ?_
   refine y9 rfl _ hg ?_
   refine xs rfl rfl ?_
   refine xj (k := 2) rfl ?_
   refine z7 rfl (z1p x hxl) rfl ⟨⟨trivial, trivial, trivial⟩, trivial⟩ ?_
   refine xj (k := 2) rfl ?_
   refine z7 rfl (q2q _ (shF x.legs) s rfl (by have := y1q x.legs x.legs.length; rw [List.take_length] at this; omega)) rfl ⟨trivial, trivial, trivial⟩ ?_
   refine xj (k := 1) rfl ?_
   refine xr rfl (q7 rfl ⟨⟨rfl, rfl, trivial⟩, z6 rfl⟩)
   all_goals first
    | (exfalso; simp at b0; omega)
    | skip
theorem q2d (x : Con) (id : Int) : PC Tryz.prog 144 [.agg x.cs, .one (.p [i64 id])] (rB (x.id == id)) := by
 refine PC.begin Tryz.func144 rfl (by kernel_rfl) ?_
 refine xr rfl (q7 rfl ⟨⟨rfl, rfl, trivial⟩, z6 rfl⟩)
theorem z16 (c : Clu) (ho : yw c) (id : Int) (h : z02 c.cons id = none) : PC Tryz.prog 73 [.one (.p c.cs), .one (i64 id)] (.tup [.bor true [i64 0, .l []], .own false [.s (.bool false)]]) := by
 refine PC.begin Tryz.func73 rfl (by kernel_rfl) ?_
 have hi := z76 _ c.cons (fun x => x.id == id) 144 (.p [i64 id]) rfl (fun x _ => q2d x id) ho.1.1
 rw [y1o h] at hi
 refine z7 rfl (hi) rfl ⟨trivial, (List.forall_mem_cons.2 ⟨⟨trivial, trivial⟩, (fun _ h => nomatch h)⟩), trivial⟩ ?_
 refine xj (k := 1) rfl ?_
 refine xr rfl (q7 rfl ⟨(by decide), ⟨⟨rfl, rfl, rfl, trivial⟩, ⟨rfl, rfl, trivial⟩, trivial⟩, z6 rfl⟩)
theorem y0h (c : Clu) (ho : yw c) (id : Int) (x : Con) (h : z02 c.cons id = some x) : PC Tryz.prog 73 [.one (.p c.cs), .one (i64 id)] (.tup [.bor true x.cs, .own false [.s (.bool true)]]) := by
 refine PC.begin Tryz.func73 rfl (by kernel_rfl) ?_
 have hi := z76 _ c.cons (fun x => x.id == id) 144 (.p [i64 id]) rfl (fun x _ => q2d x id) ho.1.1
 obtain ⟨i, hi0, hx⟩ := y0t h
 rw [hi0] at hi
 have hg := gm Con.cs hx
 refine z7 rfl (hi) rfl ⟨trivial, (List.forall_mem_cons.2 ⟨⟨trivial, trivial⟩, (fun _ h => nomatch h)⟩), trivial⟩ ?_
 refine xj (k := 1) rfl ?_
 refine xs rfl (Int.natCast_nonneg _) ?_
 refine y9 rfl _ hg ?_
 refine xs rfl rfl ?_
 refine xr rfl (q7 rfl ⟨(by decide), ⟨⟨rfl, rfl, rfl, trivial⟩, ⟨rfl, rfl, trivial⟩, trivial⟩, z6 rfl⟩)
 all_goals first
  | (exfalso; simp at b0; omega)
  | skip
theorem z13 (c : Clu) (ho : yw c) (id s : Int) : PC Tryz.prog 204 [.one (.p c.cs), .one (i64 id), .one (i64 s)] (rB (q0u c.cons id s)) := by
 refine PC.begin Tryz.func204 rfl (by kernel_rfl) ?_
 cases h : z02 c.cons id with
 | none =>
   have e : q0u c.cons id s = false := by unfold q0u; rw [h]
   rw [e]
   refine z7 rfl (z16 c ho id h) rfl ⟨trivial, trivial, trivial⟩ ?_
   refine xj (k := 6) rfl ?_
   refine xr rfl (q7 rfl ⟨⟨rfl, rfl, trivial⟩, z6 rfl⟩)
 | some x =>
   obtain ⟨i, hi, hx⟩ := y0t h
   have hxl := ho.1.2 x (List.mem_of_getElem? hx)
   have e : q0u c.cons id s = decide (0 < (qi x s).length) := by unfold q0u; rw [h, z6g]
   rw [e]
   refine z7 rfl (y0h c ho id x h) rfl ⟨trivial, trivial, trivial⟩ ?_
   refine xj (k := 3) rfl ?_
   refine z7 rfl (y11 _ _ (by omega)) rfl ⟨⟨trivial, trivial, trivial⟩, trivial, trivial⟩ ?_
   refine xj (k := 3) rfl ?_
   refine xr rfl (q7 rfl ⟨⟨rfl, ?_, trivial⟩, z6 rfl⟩)
   all_goals (refine vb ?_; simp)
theorem z2j (rr : List (List Cell)) : PC Tryz.prog 124 [.one (.l rr)] (rI rr.length) := by
 refine PC.begin Tryz.func124 rfl (by kernel_rfl) ?_
 refine xr rfl (q7 rfl ⟨⟨rfl, rfl, trivial⟩, z6 rfl⟩)
theorem z1d (rr : List (List Cell)) : PC Tryz.prog 125 [.one (.l rr)] (rI rr.length) := by
 refine PC.begin Tryz.func125 rfl (by kernel_rfl) ?_
 refine xr rfl (q7 rfl ⟨⟨rfl, rfl, trivial⟩, z6 rfl⟩)
theorem q4d (rr : List (List Cell)) : PC Tryz.prog 319 [.one (.l rr)] (rI rr.length) := by
 refine PC.begin Tryz.func319 rfl (by kernel_rfl) ?_
 refine xr rfl (q7 rfl ⟨⟨rfl, rfl, trivial⟩, z6 rfl⟩)
theorem q29 (rows : List (List Cell)) (n : Int) (hl : rows.length ≤ 1048576) : PC Tryz.prog 88 [.one (i64 n), .one (.l rows)] (rB (within n 0 ((rows.length : Int) - 1))) := by
 refine PC.begin Tryz.func88 rfl (by kernel_rfl) ?_
 have hw : IntKind.i64.wrap ((rows.length : Int) - 1) = (rows.length : Int) - 1 := wrap_i64 (by omega) (by omega)
 refine z7 rfl (z2j _) rfl ⟨trivial, trivial⟩ ?_
 refine z7 rfl (qm _ _ _) rfl ⟨trivial, trivial, trivial, trivial⟩ ?_
 refine xr rfl (q7 rfl ⟨⟨rfl, ?_, trivial⟩, z6 rfl⟩)
 all_goals (refine vb ?_; rw [hw])
theorem q0c (rows : List (List Cell)) (n : Int) (hl : rows.length ≤ 1048576) : PC Tryz.prog 274 [.one (i64 n), .one (.l rows)] (rB (within n 0 ((rows.length : Int) - 1))) := by
 refine PC.begin Tryz.func274 rfl (by kernel_rfl) ?_
 have hw : IntKind.i64.wrap ((rows.length : Int) - 1) = (rows.length : Int) - 1 := wrap_i64 (by omega) (by omega)
 refine z7 rfl (z1d _) rfl ⟨trivial, trivial⟩ ?_
 refine z7 rfl (qm _ _ _) rfl ⟨trivial, trivial, trivial, trivial⟩ ?_
 refine xr rfl (q7 rfl ⟨⟨rfl, ?_, trivial⟩, z6 rfl⟩)
 all_goals (refine vb ?_; rw [hw])
theorem y29 (rows : List (List Cell)) (n : Int) (hl : rows.length ≤ 1048576) : PC Tryz.prog 276 [.one (i64 n), .one (.l rows)] (rB (within n 0 ((rows.length : Int) - 1))) := by
 refine PC.begin Tryz.func276 rfl (by kernel_rfl) ?_
 have hw : IntKind.i64.wrap ((rows.length : Int) - 1) = (rows.length : Int) - 1 := wrap_i64 (by omega) (by omega)
 refine z7 rfl (q4d _) rfl ⟨trivial, trivial⟩ ?_
 refine z7 rfl (qm _ _ _) rfl ⟨trivial, trivial, trivial, trivial⟩ ?_
 refine xr rfl (q7 rfl ⟨⟨rfl, ?_, trivial⟩, z6 rfl⟩)
 all_goals (refine vb ?_; rw [hw])
end Go.Proofs.YthljegacamgnnaaGreat
end
section
namespace Go.Proofs.YthljegacamgnnaaGreat
open Go Go.Sx
set_option maxRecDepth 20000
set_option maxHeartbeats 4000000
abbrev yay (m : Msg) : Res := .one (.own true [.s (.int .i64 m.k), .s (.int .i64 m.to), .s (.int .i64 m.fr), .s (.int .i64 m.c), .s (.int .i64 m.s), .s (.int .i64 m.b), .s (.int .i64 m.v), .s (.int .i64 m.ob), .s (.int .i64 m.ov)])
theorem kinds {k : Int} (h : Go.Sx.within k 1 6 = true) : k = 1 ∨ k = 2 ∨ k = 3 ∨ k = 4 ∨ k = 5 ∨ k = 6 := by
 have := Go.Sx.within_iff.1 h
 omega
theorem wl1 {α β : Type} (f : α → β) {us : List α} (h : us.length ≤ 1048576) : IntKind.i64.wrap (((us.map f).length : Int) - 1) = (us.length : Int) - 1 := by rw [List.length_map]; exact wrap_i64 (by omega) (by omega)
theorem y0b {α : Type} {p : α → Bool} {l : List α} : decide (q0a p l < 0) = (l.find? p).isNone := by
 cases h : l.find? p with
 | none => rw [y1o h]; rfl
 | some x =>
   obtain ⟨i, hi, _⟩ := y0t h
   rw [hi]; simp
theorem z0d (m : Msg) (hk : Go.Sx.within m.k 1 6 = true) : PC Tryz.prog 192 [.agg m.cs] (yay m.bare) := by
 refine PC.begin Tryz.func192 rfl (by kernel_rfl) ?_
 obtain ⟨k, to, fr, c, s, b, v, ob, ov⟩ := m
 rcases kinds hk with h | h | h | h | h | h
 · dsimp only at h
   subst h
   rw [show Msg.bare ⟨1, to, fr, c, s, b, v, ob, ov⟩ = ⟨1, to, 0, c, 0, 0, 0, 0, 0⟩ from rfl]
   refine xj (k := 20) rfl ?_
   refine xr rfl (q7 rfl ⟨⟨rfl, rfl, rfl, rfl, rfl, rfl, rfl, rfl, rfl, rfl, trivial⟩, z6 rfl⟩)
 · dsimp only at h
   subst h
   rw [show Msg.bare ⟨2, to, fr, c, s, b, v, ob, ov⟩ = ⟨2, to, 0, c, s, b, v, 0, 0⟩ from rfl]
   refine xj (k := 20) rfl ?_
   refine xr rfl (q7 rfl ⟨⟨rfl, rfl, rfl, rfl, rfl, rfl, rfl, rfl, rfl, rfl, trivial⟩, z6 rfl⟩)
 · dsimp only at h
   subst h
   rw [show Msg.bare ⟨3, to, fr, c, s, b, v, ob, ov⟩ = ⟨3, to, fr, c, s, b, v, 0, 0⟩ from rfl]
   refine xj (k := 20) rfl ?_
   refine xr rfl (q7 rfl ⟨⟨rfl, rfl, rfl, rfl, rfl, rfl, rfl, rfl, rfl, rfl, trivial⟩, z6 rfl⟩)
 · dsimp only at h
   subst h
   rw [show Msg.bare ⟨4, to, fr, c, s, b, v, ob, ov⟩ = ⟨4, to, fr, c, s, b, 0, 0, 0⟩ from rfl]
   refine xj (k := 20) rfl ?_
   refine xr rfl (q7 rfl ⟨⟨rfl, rfl, rfl, rfl, rfl, rfl, rfl, rfl, rfl, rfl, trivial⟩, z6 rfl⟩)
 · dsimp only at h
   subst h
   rw [show Msg.bare ⟨5, to, fr, c, s, b, v, ob, ov⟩ = ⟨5, to, fr, c, s, b, 0, ob, ov⟩ from rfl]
   refine xj (k := 20) rfl ?_
   refine xr rfl (q7 rfl ⟨⟨rfl, rfl, rfl, rfl, rfl, rfl, rfl, rfl, rfl, rfl, trivial⟩, z6 rfl⟩)
 · dsimp only at h
   subst h
   rw [show Msg.bare ⟨6, to, fr, c, s, b, v, ob, ov⟩ = ⟨6, to, 0, c, 0, 0, v, 0, 0⟩ from rfl]
   refine xj (k := 20) rfl ?_
   refine xr rfl (q7 rfl ⟨⟨rfl, rfl, rfl, rfl, rfl, rfl, rfl, rfl, rfl, rfl, trivial⟩, z6 rfl⟩)
theorem q8e (m : Msg) (hk : Go.Sx.within m.k 1 6 = true) : PC Tryz.prog 215 [.agg m.cs] (yay m.bare) := by
 refine PC.begin Tryz.func215 rfl (by kernel_rfl) ?_
 obtain ⟨k, to, fr, c, s, b, v, ob, ov⟩ := m
 rcases kinds hk with h | h | h | h | h | h
 · dsimp only at h
   subst h
   rw [show Msg.bare ⟨1, to, fr, c, s, b, v, ob, ov⟩ = ⟨1, to, 0, c, 0, 0, 0, 0, 0⟩ from rfl]
   refine xj (k := 10) rfl ?_
   refine xr rfl (q7 rfl ⟨⟨rfl, rfl, rfl, rfl, rfl, rfl, rfl, rfl, rfl, rfl, trivial⟩, z6 rfl⟩)
 · dsimp only at h
   subst h
   rw [show Msg.bare ⟨2, to, fr, c, s, b, v, ob, ov⟩ = ⟨2, to, 0, c, s, b, v, 0, 0⟩ from rfl]
   refine xj (k := 5) rfl ?_
   refine zc rfl [] (.take 0 [] (.take 1 [4, 5, 6, 7] (.take 2 [] (.take 4 [] (.alt 3 (.alt 5 (.take 6 [] (.alt 7 .done .nil)) .nil) (.alt 5 (.take 3 [6, 7] (.take 6 [] (.alt 7 .done .nil))) .nil)))))) (by kernel_rfl) ?_
   refine q15 rfl ?_ ?_
   refine xj (k := 2) rfl ?_
   refine xr rfl (q7 rfl ⟨⟨rfl, rfl, rfl, rfl, rfl, rfl, rfl, rfl, rfl, rfl, trivial⟩, z6 rfl⟩)
   refine xj (k := 2) rfl ?_
   refine xr rfl (q7 rfl ⟨⟨rfl, rfl, rfl, rfl, rfl, rfl, rfl, rfl, rfl, rfl, trivial⟩, z6 rfl⟩)
 · dsimp only at h
   subst h
   rw [show Msg.bare ⟨3, to, fr, c, s, b, v, ob, ov⟩ = ⟨3, to, fr, c, s, b, v, 0, 0⟩ from rfl]
   refine xj (k := 5) rfl ?_
   refine zc rfl [] (.take 0 [] (.take 1 [4, 5, 6, 7] (.take 2 [] (.take 4 [] (.alt 3 (.alt 5 (.take 6 [] (.alt 7 .done .nil)) .nil) (.alt 5 (.take 3 [6, 7] (.take 6 [] (.alt 7 .done .nil))) .nil)))))) (by kernel_rfl) ?_
   refine q15 rfl ?_ ?_
   refine xj (k := 3) rfl ?_
   refine zc rfl [] (.take 0 [] (.take 1 [4, 5, 6, 7] (.take 2 [] (.take 4 [] (.alt 3 (.alt 5 (.take 6 [] (.alt 7 .done .nil)) .nil) (.alt 5 (.take 3 [6, 7] (.take 6 [] (.alt 7 .done .nil))) .nil)))))) (by kernel_rfl) ?_
   refine q15 rfl ?_ ?_
   refine xr rfl (q7 rfl ⟨⟨rfl, rfl, rfl, rfl, rfl, rfl, rfl, rfl, rfl, rfl, trivial⟩, z6 rfl⟩)
   refine xr rfl (q7 rfl ⟨⟨rfl, rfl, rfl, rfl, rfl, rfl, rfl, rfl, rfl, rfl, trivial⟩, z6 rfl⟩)
   refine xj (k := 3) rfl ?_
   refine zc rfl [] (.take 0 [] (.take 1 [4, 5, 6, 7] (.take 2 [] (.take 4 [] (.alt 3 (.alt 5 (.take 6 [] (.alt 7 .done .nil)) .nil) (.alt 5 (.take 3 [6, 7] (.take 6 [] (.alt 7 .done .nil))) .nil)))))) (by kernel_rfl) ?_
   refine q15 rfl ?_ ?_
   refine xr rfl (q7 rfl ⟨⟨rfl, rfl, rfl, rfl, rfl, rfl, rfl, rfl, rfl, rfl, trivial⟩, z6 rfl⟩)
   refine xr rfl (q7 rfl ⟨⟨rfl, rfl, rfl, rfl, rfl, rfl, rfl, rfl, rfl, rfl, trivial⟩, z6 rfl⟩)
 · dsimp only at h
   subst h
   rw [show Msg.bare ⟨4, to, fr, c, s, b, v, ob, ov⟩ = ⟨4, to, fr, c, s, b, 0, 0, 0⟩ from rfl]
   refine xj (k := 5) rfl ?_
   refine zc rfl [] (.take 0 [] (.take 1 [4, 5, 6, 7] (.take 2 [] (.take 4 [] (.alt 3 (.alt 5 (.take 6 [] (.alt 7 .done .nil)) .nil) (.alt 5 (.take 3 [6, 7] (.take 6 [] (.alt 7 .done .nil))) .nil)))))) (by kernel_rfl) ?_
   refine q15 rfl ?_ ?_
   refine xj (k := 4) rfl ?_
   refine xr rfl (q7 rfl ⟨⟨rfl, rfl, rfl, rfl, rfl, rfl, rfl, rfl, rfl, rfl, trivial⟩, z6 rfl⟩)
   refine xj (k := 4) rfl ?_
   refine xr rfl (q7 rfl ⟨⟨rfl, rfl, rfl, rfl, rfl, rfl, rfl, rfl, rfl, rfl, trivial⟩, z6 rfl⟩)
 · dsimp only at h
   subst h
   rw [show Msg.bare ⟨5, to, fr, c, s, b, v, ob, ov⟩ = ⟨5, to, fr, c, s, b, 0, ob, ov⟩ from rfl]
   refine xj (k := 5) rfl ?_
   refine zc rfl [] (.take 0 [] (.take 1 [4, 5, 6, 7] (.take 2 [] (.take 4 [] (.alt 3 (.alt 5 (.take 6 [] (.alt 7 .done .nil)) .nil) (.alt 5 (.take 3 [6, 7] (.take 6 [] (.alt 7 .done .nil))) .nil)))))) (by kernel_rfl) ?_
   refine q15 rfl ?_ ?_
   refine xj (k := 5) rfl ?_
   refine zc rfl [] (.take 0 [] (.take 1 [4, 5, 6, 7] (.take 2 [] (.take 4 [] (.alt 3 (.alt 5 (.take 6 [] (.alt 7 .done .nil)) .nil) (.alt 5 (.take 3 [6, 7] (.take 6 [] (.alt 7 .done .nil))) .nil)))))) (by kernel_rfl) ?_
   refine q15 rfl ?_ ?_
   refine xr rfl (q7 rfl ⟨⟨rfl, rfl, rfl, rfl, rfl, rfl, rfl, rfl, rfl, rfl, trivial⟩, z6 rfl⟩)
   refine xr rfl (q7 rfl ⟨⟨rfl, rfl, rfl, rfl, rfl, rfl, rfl, rfl, rfl, rfl, trivial⟩, z6 rfl⟩)
   refine xj (k := 5) rfl ?_
   refine zc rfl [] (.take 0 [] (.take 1 [4, 5, 6, 7] (.take 2 [] (.take 4 [] (.alt 3 (.alt 5 (.take 6 [] (.alt 7 .done .nil)) .nil) (.alt 5 (.take 3 [6, 7] (.take 6 [] (.alt 7 .done .nil))) .nil)))))) (by kernel_rfl) ?_
   refine q15 rfl ?_ ?_
   refine xr rfl (q7 rfl ⟨⟨rfl, rfl, rfl, rfl, rfl, rfl, rfl, rfl, rfl, rfl, trivial⟩, z6 rfl⟩)
   refine xr rfl (q7 rfl ⟨⟨rfl, rfl, rfl, rfl, rfl, rfl, rfl, rfl, rfl, rfl, trivial⟩, z6 rfl⟩)
 · dsimp only at h
   subst h
   rw [show Msg.bare ⟨6, to, fr, c, s, b, v, ob, ov⟩ = ⟨6, to, 0, c, 0, 0, v, 0, 0⟩ from rfl]
   refine xj (k := 7) rfl ?_
   refine xr rfl (q7 rfl ⟨⟨rfl, rfl, rfl, rfl, rfl, rfl, rfl, rfl, rfl, rfl, trivial⟩, z6 rfl⟩)
theorem z1h (c : Clu) (ho : yw c) (m : Msg) (hk : Go.Sx.within m.k 1 6 = true) : PC Tryz.prog 189 [.one (.p c.cs), .agg m.cs] (rB (ends c m)) := by
 refine PC.begin Tryz.func189 rfl (by kernel_rfl) ?_
 have q1 := ho.2.1.1
 have q2 := ho.2.2.1.1
 have q3 := ho.2.2.2.1.1
 have p1 : (c.shs.map Shd.cs).length ≤ 1048576 := by simpa using q1
 have p2 : (c.accs.map Acc.cs).length ≤ 1048576 := by simpa using q2
 have p3 : (c.ldrs.map Ldr.cs).length ≤ 1048576 := by simpa using q3
 have w1 := wl1 Shd.cs q1
 have w2 := wl1 Acc.cs q2
 have w3 := wl1 Ldr.cs q3
 obtain ⟨k, to, fr, mc, s, b, v, ob, ov⟩ := m
 rcases kinds hk with h | h | h | h | h | h
 · dsimp only at h
   subst h
   refine xj (k := 11) rfl ?_
   refine z7 rfl (qj _ _ _) rfl ⟨trivial, trivial, trivial, trivial⟩ ?_
   refine xb rfl (fun b0 => ?_) (fun b0 => ?_)
   refine xj (k := 17) rfl ?_
   refine xr rfl (q7 rfl ⟨⟨rfl, ?_, trivial⟩, z6 rfl⟩)
   rotate_left
   refine xj (k := 7) rfl ?_
   refine xr rfl (q7 rfl ⟨⟨rfl, ?_, trivial⟩, z6 rfl⟩)
   rotate_left
   all_goals (refine vb ?_; simp_all [ends, toN, frN]; done)
 · dsimp only at h
   subst h
   refine xj (k := 11) rfl ?_
   refine z7 rfl (qj _ _ _) rfl ⟨trivial, trivial, trivial, trivial⟩ ?_
   refine xb rfl (fun b0 => ?_) (fun b0 => ?_)
   refine xj (k := 17) rfl ?_
   refine xr rfl (q7 rfl ⟨⟨rfl, ?_, trivial⟩, z6 rfl⟩)
   rotate_left
   refine xj (k := 7) rfl ?_
   refine xr rfl (q7 rfl ⟨⟨rfl, ?_, trivial⟩, z6 rfl⟩)
   rotate_left
   all_goals (refine vb ?_; simp_all [ends, toN, frN]; done)
 · dsimp only at h
   subst h
   refine xj (k := 11) rfl ?_
   refine z7 rfl (qj _ _ _) rfl ⟨trivial, trivial, trivial, trivial⟩ ?_
   refine xb rfl (fun b0 => ?_) (fun b0 => ?_)
   refine xj (k := 14) rfl ?_
   refine z7 rfl (qj _ _ _) rfl ⟨trivial, trivial, trivial, trivial⟩ ?_
   refine xj (k := 3) rfl ?_
   refine xr rfl (q7 rfl ⟨⟨rfl, ?_, trivial⟩, z6 rfl⟩)
   rotate_left
   refine xj (k := 7) rfl ?_
   refine xr rfl (q7 rfl ⟨⟨rfl, ?_, trivial⟩, z6 rfl⟩)
   rotate_left
   all_goals (refine vb ?_; simp_all [ends, toN, frN]; done)
 · dsimp only at h
   subst h
   refine xj (k := 11) rfl ?_
   refine z7 rfl (qj _ _ _) rfl ⟨trivial, trivial, trivial, trivial⟩ ?_
   refine xb rfl (fun b0 => ?_) (fun b0 => ?_)
   refine xj (k := 14) rfl ?_
   refine z7 rfl (qj _ _ _) rfl ⟨trivial, trivial, trivial, trivial⟩ ?_
   refine xj (k := 3) rfl ?_
   refine xr rfl (q7 rfl ⟨⟨rfl, ?_, trivial⟩, z6 rfl⟩)
   rotate_left
   refine xj (k := 7) rfl ?_
   refine xr rfl (q7 rfl ⟨⟨rfl, ?_, trivial⟩, z6 rfl⟩)
   rotate_left
   all_goals (refine vb ?_; simp_all [ends, toN, frN]; done)
 · dsimp only at h
   subst h
   refine xj (k := 11) rfl ?_
   refine z7 rfl (qj _ _ _) rfl ⟨trivial, trivial, trivial, trivial⟩ ?_
   refine xb rfl (fun b0 => ?_) (fun b0 => ?_)
   refine xj (k := 14) rfl ?_
   refine z7 rfl (qj _ _ _) rfl ⟨trivial, trivial, trivial, trivial⟩ ?_
   refine xj (k := 3) rfl ?_
   refine xr rfl (q7 rfl ⟨⟨rfl, ?_, trivial⟩, z6 rfl⟩)
   rotate_left
   refine xj (k := 7) rfl ?_
   refine xr rfl (q7 rfl ⟨⟨rfl, ?_, trivial⟩, z6 rfl⟩)
   rotate_left
   all_goals (refine vb ?_; simp_all [ends, toN, frN]; done)
 · dsimp only at h
   subst h
   refine xj (k := 11) rfl ?_
   refine z7 rfl (qj _ _ _) rfl ⟨trivial, trivial, trivial, trivial⟩ ?_
   refine xb rfl (fun b0 => ?_) (fun b0 => ?_)
   refine xj (k := 17) rfl ?_
   refine xr rfl (q7 rfl ⟨⟨rfl, ?_, trivial⟩, z6 rfl⟩)
   rotate_left
   refine xj (k := 7) rfl ?_
   refine xr rfl (q7 rfl ⟨⟨rfl, ?_, trivial⟩, z6 rfl⟩)
   rotate_left
   all_goals (refine vb ?_; simp_all [ends, toN, frN]; done)
theorem z9d (c : Clu) (ho : yw c) (m : Msg) (hk : Go.Sx.within m.k 1 6 = true) : PC Tryz.prog 212 [.one (.p c.cs), .agg m.cs] (rB (within m.to 0 ((toN c m : Int) - 1))) := by
 refine PC.begin Tryz.func212 rfl (by kernel_rfl) ?_
 have q1 := ho.2.1.1
 have q2 := ho.2.2.1.1
 have q3 := ho.2.2.2.1.1
 have p1 : (c.shs.map Shd.cs).length ≤ 1048576 := by simpa using q1
 have p2 : (c.accs.map Acc.cs).length ≤ 1048576 := by simpa using q2
 have p3 : (c.ldrs.map Ldr.cs).length ≤ 1048576 := by simpa using q3
 have w1 := wl1 Shd.cs q1
 have w2 := wl1 Acc.cs q2
 have w3 := wl1 Ldr.cs q3
 obtain ⟨k, to, fr, mc, s, b, v, ob, ov⟩ := m
 rcases kinds hk with h | h | h | h | h | h
 · dsimp only at h
   subst h
   refine xj (k := 2) rfl ?_
   refine zc rfl [] (.take 0 [] (.take 1 [6, 7] (.take 2 [] (.take 3 [] (.take 4 [] (.take 5 [6, 7] (.alt 6 (.take 7 [] .done) .nil))))))) (by kernel_rfl) ?_
   refine z7 rfl (q29 _ _ (by assumption)) rfl ⟨trivial, trivial, trivial⟩ ?_
   refine xr rfl (q7 rfl ⟨⟨rfl, ?_, trivial⟩, z6 rfl⟩)
   all_goals (refine vb ?_; simp_all [toN]; done)
 · dsimp only at h
   subst h
   refine xj (k := 4) rfl ?_
   refine zc rfl [] (.take 0 [] (.take 1 [6, 7] (.take 2 [] (.take 3 [] (.take 4 [] (.take 5 [6, 7] (.alt 6 (.take 7 [] .done) .nil))))))) (by kernel_rfl) ?_
   refine z7 rfl (q0c _ _ (by assumption)) rfl ⟨trivial, trivial, trivial⟩ ?_
   refine xr rfl (q7 rfl ⟨⟨rfl, ?_, trivial⟩, z6 rfl⟩)
   all_goals (refine vb ?_; simp_all [toN]; done)
 · dsimp only at h
   subst h
   refine xj (k := 4) rfl ?_
   refine zc rfl [] (.take 0 [] (.take 1 [6, 7] (.take 2 [] (.take 3 [] (.take 4 [] (.take 5 [6, 7] (.alt 6 (.take 7 [] .done) .nil))))))) (by kernel_rfl) ?_
   refine z7 rfl (y29 _ _ (by assumption)) rfl ⟨trivial, trivial, trivial⟩ ?_
   refine xr rfl (q7 rfl ⟨⟨rfl, ?_, trivial⟩, z6 rfl⟩)
   all_goals (refine vb ?_; simp_all [toN]; done)
 · dsimp only at h
   subst h
   refine xj (k := 4) rfl ?_
   refine zc rfl [] (.take 0 [] (.take 1 [6, 7] (.take 2 [] (.take 3 [] (.take 4 [] (.take 5 [6, 7] (.alt 6 (.take 7 [] .done) .nil))))))) (by kernel_rfl) ?_
   refine z7 rfl (q0c _ _ (by assumption)) rfl ⟨trivial, trivial, trivial⟩ ?_
   refine xr rfl (q7 rfl ⟨⟨rfl, ?_, trivial⟩, z6 rfl⟩)
   all_goals (refine vb ?_; simp_all [toN]; done)
 · dsimp only at h
   subst h
   refine xj (k := 4) rfl ?_
   refine zc rfl [] (.take 0 [] (.take 1 [6, 7] (.take 2 [] (.take 3 [] (.take 4 [] (.take 5 [6, 7] (.alt 6 (.take 7 [] .done) .nil))))))) (by kernel_rfl) ?_
   refine z7 rfl (y29 _ _ (by assumption)) rfl ⟨trivial, trivial, trivial⟩ ?_
   refine xr rfl (q7 rfl ⟨⟨rfl, ?_, trivial⟩, z6 rfl⟩)
   all_goals (refine vb ?_; simp_all [toN]; done)
 · dsimp only at h
   subst h
   refine xj (k := 2) rfl ?_
   refine zc rfl [] (.take 0 [] (.take 1 [6, 7] (.take 2 [] (.take 3 [] (.take 4 [] (.take 5 [6, 7] (.alt 6 (.take 7 [] .done) .nil))))))) (by kernel_rfl) ?_
   refine z7 rfl (q29 _ _ (by assumption)) rfl ⟨trivial, trivial, trivial⟩ ?_
   refine xr rfl (q7 rfl ⟨⟨rfl, ?_, trivial⟩, z6 rfl⟩)
   all_goals (refine vb ?_; simp_all [toN]; done)
theorem y77 (c : Clu) (ho : yw c) (m : Msg) (hk : Go.Sx.within m.k 1 6 = true) : PC Tryz.prog 213 [.one (.p c.cs), .agg m.cs] (rB (decide (m.k < 3) || decide (5 < m.k) || within m.fr 0 ((frN c m : Int) - 1))) := by
 refine PC.begin Tryz.func213 rfl (by kernel_rfl) ?_
 have q1 := ho.2.1.1
 have q2 := ho.2.2.1.1
 have q3 := ho.2.2.2.1.1
 have p1 : (c.shs.map Shd.cs).length ≤ 1048576 := by simpa using q1
 have p2 : (c.accs.map Acc.cs).length ≤ 1048576 := by simpa using q2
 have p3 : (c.ldrs.map Ldr.cs).length ≤ 1048576 := by simpa using q3
 have w1 := wl1 Shd.cs q1
 have w2 := wl1 Acc.cs q2
 have w3 := wl1 Ldr.cs q3
 obtain ⟨k, to, fr, mc, s, b, v, ob, ov⟩ := m
 rcases kinds hk with h | h | h | h | h | h
 · dsimp only at h
   subst h
   refine xj (k := 3) rfl ?_
   refine xr rfl (q7 rfl ⟨⟨rfl, rfl, trivial⟩, z6 rfl⟩)
   all_goals (refine vb ?_; simp_all [frN]; done)
 · dsimp only at h
   subst h
   refine xj (k := 3) rfl ?_
   refine xr rfl (q7 rfl ⟨⟨rfl, rfl, trivial⟩, z6 rfl⟩)
   all_goals (refine vb ?_; simp_all [frN]; done)
 · dsimp only at h
   subst h
   refine xj (k := 3) rfl ?_
   refine zc rfl [] (.take 0 [] (.take 1 [6, 7] (.take 2 [] (.take 3 [] (.take 4 [] (.take 5 [6, 7] (.alt 6 (.take 7 [] .done) .nil))))))) (by kernel_rfl) ?_
   refine z7 rfl (q0c _ _ (by assumption)) rfl ⟨trivial, trivial, trivial⟩ ?_
   refine xr rfl (q7 rfl ⟨⟨rfl, ?_, trivial⟩, z6 rfl⟩)
   all_goals (refine vb ?_; simp_all [frN]; done)
 · dsimp only at h
   subst h
   refine xj (k := 1) rfl ?_
   refine zc rfl [] (.take 0 [] (.take 1 [6, 7] (.take 2 [] (.take 3 [] (.take 4 [] (.take 5 [6, 7] (.alt 6 (.take 7 [] .done) .nil))))))) (by kernel_rfl) ?_
   refine z7 rfl (y29 _ _ (by assumption)) rfl ⟨trivial, trivial, trivial⟩ ?_
   refine xr rfl (q7 rfl ⟨⟨rfl, ?_, trivial⟩, z6 rfl⟩)
   all_goals (refine vb ?_; simp_all [frN]; done)
 · dsimp only at h
   subst h
   refine xj (k := 3) rfl ?_
   refine zc rfl [] (.take 0 [] (.take 1 [6, 7] (.take 2 [] (.take 3 [] (.take 4 [] (.take 5 [6, 7] (.alt 6 (.take 7 [] .done) .nil))))))) (by kernel_rfl) ?_
   refine z7 rfl (q0c _ _ (by assumption)) rfl ⟨trivial, trivial, trivial⟩ ?_
   refine xr rfl (q7 rfl ⟨⟨rfl, ?_, trivial⟩, z6 rfl⟩)
   all_goals (refine vb ?_; simp_all [frN]; done)
 · dsimp only at h
   subst h
   refine xj (k := 3) rfl ?_
   refine xr rfl (q7 rfl ⟨⟨rfl, rfl, trivial⟩, z6 rfl⟩)
   all_goals (refine vb ?_; simp_all [frN]; done)
theorem y5i (c : Clu) (ho : yw c) (m : Msg) (hk : Go.Sx.within m.k 1 6 = true) : PC Tryz.prog 214 [.one (.p c.cs), .agg m.cs] (rB (ranges c m)) := by
 refine PC.begin Tryz.func214 rfl (by kernel_rfl) ?_
 have q1 := ho.2.1.1
 have q2 := ho.2.2.1.1
 have q3 := ho.2.2.2.1.1
 have p1 : (c.shs.map Shd.cs).length ≤ 1048576 := by simpa using q1
 have p2 : (c.accs.map Acc.cs).length ≤ 1048576 := by simpa using q2
 have p3 : (c.ldrs.map Ldr.cs).length ≤ 1048576 := by simpa using q3
 have w1 := wl1 Shd.cs q1
 have w2 := wl1 Acc.cs q2
 have w3 := wl1 Ldr.cs q3
 obtain ⟨k, to, fr, mc, s, b, v, ob, ov⟩ := m
 rcases kinds hk with h | h | h | h | h | h
 · dsimp only at h
   subst h
   refine xj (k := 1) rfl ?_
   refine z7 rfl (z13 _ (by assumption) _ _) rfl ⟨trivial, trivial, trivial, trivial⟩ ?_
   refine xr rfl (q7 rfl ⟨⟨rfl, ?_, trivial⟩, z6 rfl⟩)
   all_goals (refine vb ?_; simp_all [ranges, Msg.shd, q1t, Vt.none]; done)
 · dsimp only at h
   subst h
   refine xj (k := 2) rfl ?_
   refine z7 rfl (z13 _ (by assumption) _ _) rfl ⟨trivial, trivial, trivial, trivial⟩ ?_
   refine xb rfl (fun b0 => ?_) (fun b0 => ?_)
   refine xj (k := 5) rfl ?_
   refine xr rfl (q7 rfl ⟨⟨rfl, ?_, trivial⟩, z6 rfl⟩)
   rotate_left
   refine xj (k := 2) rfl ?_
   refine z7 rfl (y06 _) rfl ⟨trivial, trivial⟩ ?_
   refine xj (k := 2) rfl ?_
   refine xb rfl (fun b1 => ?_) (fun b1 => ?_)
   refine xr rfl (q7 rfl ⟨⟨rfl, ?_, trivial⟩, z6 rfl⟩)
   rotate_left
   refine xj (k := 2) rfl ?_
   refine z7 rfl (q0l _) rfl ⟨trivial, trivial⟩ ?_
   refine xr rfl (q7 rfl ⟨⟨rfl, ?_, trivial⟩, z6 rfl⟩)
   rotate_left
   all_goals (refine vb ?_; simp_all [ranges, Msg.shd, q1t, Vt.none]; done)
 · dsimp only at h
   subst h
   refine xj (k := 2) rfl ?_
   refine z7 rfl (z13 _ (by assumption) _ _) rfl ⟨trivial, trivial, trivial, trivial⟩ ?_
   refine xb rfl (fun b0 => ?_) (fun b0 => ?_)
   refine xj (k := 5) rfl ?_
   refine xr rfl (q7 rfl ⟨⟨rfl, ?_, trivial⟩, z6 rfl⟩)
   rotate_left
   refine xj (k := 2) rfl ?_
   refine z7 rfl (y06 _) rfl ⟨trivial, trivial⟩ ?_
   refine xj (k := 2) rfl ?_
   refine xb rfl (fun b1 => ?_) (fun b1 => ?_)
   refine xr rfl (q7 rfl ⟨⟨rfl, ?_, trivial⟩, z6 rfl⟩)
   rotate_left
   refine xj (k := 2) rfl ?_
   refine z7 rfl (q0l _) rfl ⟨trivial, trivial⟩ ?_
   refine xr rfl (q7 rfl ⟨⟨rfl, ?_, trivial⟩, z6 rfl⟩)
   rotate_left
   all_goals (refine vb ?_; simp_all [ranges, Msg.shd, q1t, Vt.none]; done)
 · dsimp only at h
   subst h
   refine xj (k := 2) rfl ?_
   refine z7 rfl (z13 _ (by assumption) _ _) rfl ⟨trivial, trivial, trivial, trivial⟩ ?_
   refine xb rfl (fun b0 => ?_) (fun b0 => ?_)
   refine xj (k := 5) rfl ?_
   refine xr rfl (q7 rfl ⟨⟨rfl, ?_, trivial⟩, z6 rfl⟩)
   rotate_left
   refine xj (k := 2) rfl ?_
   refine z7 rfl (y06 _) rfl ⟨trivial, trivial⟩ ?_
   refine xj (k := 2) rfl ?_
   refine xb rfl (fun b1 => ?_) (fun b1 => ?_)
   refine xr rfl (q7 rfl ⟨⟨rfl, ?_, trivial⟩, z6 rfl⟩)
   rotate_left
   refine xj (k := 3) rfl ?_
   refine xr rfl (q7 rfl ⟨⟨rfl, ?_, trivial⟩, z6 rfl⟩)
   rotate_left
   all_goals (refine vb ?_; simp_all [ranges, Msg.shd, q1t, Vt.none]; done)
 · dsimp only at h
   subst h
   refine xj (k := 2) rfl ?_
   refine z7 rfl (z13 _ (by assumption) _ _) rfl ⟨trivial, trivial, trivial, trivial⟩ ?_
   refine xb rfl (fun b0 => ?_) (fun b0 => ?_)
   refine xj (k := 5) rfl ?_
   refine xr rfl (q7 rfl ⟨⟨rfl, ?_, trivial⟩, z6 rfl⟩)
   rotate_left
   refine xj (k := 2) rfl ?_
   refine z7 rfl (y06 _) rfl ⟨trivial, trivial⟩ ?_
   refine xj (k := 2) rfl ?_
   refine xb rfl (fun b1 => ?_) (fun b1 => ?_)
   refine xr rfl (q7 rfl ⟨⟨rfl, ?_, trivial⟩, z6 rfl⟩)
   rotate_left
   refine xj (k := 3) rfl ?_
   refine zc rfl [] (.take 0 [] (.take 1 [3, 4, 5, 6, 7, 8, 9] (.alt 2 (.take 3 [] (.take 4 [] (.take 5 [] (.take 6 [7, 8, 9] (.alt 7 (.take 8 [] (.take 9 [] .done)) .nil))))) .nil))) (by kernel_rfl) ?_
   refine z7 rfl (z31) rfl trivial ?_
   refine xb rfl (fun b2 => ?_) (fun b2 => ?_)
   refine xj (k := 3) rfl ?_
   refine xr rfl (q7 rfl ⟨⟨rfl, ?_, trivial⟩, z6 rfl⟩)
   rotate_left
   refine xj (k := 2) rfl ?_
   refine z7 rfl (z1w ⟨ob, ov⟩) rfl ⟨⟨trivial, trivial, trivial⟩, trivial⟩ ?_
   refine xj (k := 1) rfl ?_
   refine xr rfl (q7 rfl ⟨⟨rfl, ?_, trivial⟩, z6 rfl⟩)
   rotate_left
   all_goals (refine vb ?_; simp_all [ranges, Msg.shd, q1t, Vt.none]; done)
 · dsimp only at h
   subst h
   refine xj (k := 2) rfl ?_
   refine z7 rfl (z13 _ (by assumption) _ _) rfl ⟨trivial, trivial, trivial, trivial⟩ ?_
   refine xb rfl (fun b0 => ?_) (fun b0 => ?_)
   refine xj (k := 2) rfl ?_
   refine z7 rfl (z2g _) rfl ⟨trivial, trivial⟩ ?_
   refine xj (k := 1) rfl ?_
   refine xr rfl (q7 rfl ⟨⟨rfl, ?_, trivial⟩, z6 rfl⟩)
   rotate_left
   refine xj (k := 3) rfl ?_
   refine xr rfl (q7 rfl ⟨⟨rfl, ?_, trivial⟩, z6 rfl⟩)
   rotate_left
   all_goals (refine vb ?_; simp_all [ranges, Msg.shd, q1t, Vt.none]; done)
end Go.Proofs.YthljegacamgnnaaGreat
end
section
namespace Go.Proofs.YthljegacamgnnaaGreat
open Go Go.Sx
set_option maxRecDepth 20000
set_option maxHeartbeats 4000000
theorem z5b (m n : Msg) : y16 [.int .i64 m.k, .int .i64 m.to, .int .i64 m.fr, .int .i64 m.c, .int .i64 m.s, .int .i64 m.b, .int .i64 m.v, .int .i64 m.ob, .int .i64 m.ov] [.int .i64 n.k, .int .i64 n.to, .int .i64 n.fr, .int .i64 n.c, .int .i64 n.s, .int .i64 n.b, .int .i64 n.v, .int .i64 n.ob, .int .i64 n.ov] = m.same n := by simp [y16, Msg.same, Bool.and_assoc]
theorem y6b (a b : Int) : y16 [.int .i64 a, .int .i64 b] [.int .i64 Vt.none.b, .int .i64 Vt.none.v] = (a == -1 && b == 0) := by simp [y16, Vt.none]
theorem z4u (c : Clu) (m : Msg) (hk : Go.Sx.within m.k 1 6 = true) {e i r z : Bool} (h1 : ends c m = e) (h2 : (z02 c.cons m.c).isNone = i) (h3 : ranges c m = r) (h4 : m.same m.bare = z) : q0f c m = (if e then (if i then 4 else if r then (if z then 0 else 1) else 3) else 3) := by
 unfold q0f
 rw [hk, h1, h2, h3, h4]
 cases e <;> cases i <;> cases r <;> cases z <;> rfl
theorem y9n (c : Clu) (ho : yw c) (m : Msg) : PC Tryz.prog 117 [.one (.p c.cs), .agg m.cs] (rI (q0f c m)) := by
 refine PC.begin Tryz.func117 rfl (by kernel_rfl) ?_
 by_cases hk : Go.Sx.within m.k 1 6 = true
 · have hf := y0d c m.c ho.1.1
   obtain ⟨k, to, fr, mc, s, b, v, ob, ov⟩ := m
   dsimp only at hf
   rcases kinds hk with h | h | h | h | h | h
   · dsimp only at h
     subst h
     have hE := z1h c ho ⟨1, to, fr, mc, s, b, v, ob, ov⟩ hk
     have hR : ranges c ⟨1, to, fr, mc, s, b, v, ob, ov⟩ = q0u c.cons mc to := by simp [ranges, Msg.shd]
     refine z7 rfl (qj _ _ _) rfl ⟨trivial, trivial, trivial, trivial⟩ ?_
     refine xj (k := 1) rfl ?_
     refine z7 rfl (hE) rfl ⟨trivial, ⟨trivial, trivial, trivial, trivial, trivial, trivial, trivial, trivial, trivial, trivial⟩, trivial⟩ ?_
     refine xb rfl (fun b0 => ?_) (fun b0 => ?_)
     refine xr rfl (q7 rfl ⟨⟨rfl, ?_, trivial⟩, z6 rfl⟩)
     rotate_left
     refine z7 rfl (hf) rfl ⟨trivial, trivial, trivial⟩ ?_
     refine xb rfl (fun b1 => ?_) (fun b1 => ?_)
     refine xr rfl (q7 rfl ⟨⟨rfl, ?_, trivial⟩, z6 rfl⟩)
     rotate_left
     refine xj (k := 5) rfl ?_
     refine z7 rfl (qv _ (by assumption) _ _) rfl ⟨trivial, trivial, trivial, trivial⟩ ?_
     refine xb rfl (fun b2 => ?_) (fun b2 => ?_)
     refine xr rfl (q7 rfl ⟨⟨rfl, ?_, trivial⟩, z6 rfl⟩)
     rotate_left
     refine xj (k := 24) rfl ?_
     refine zc rfl [] (.take 0 [] (.take 1 [2, 3, 4, 5, 6, 7, 8, 9, 10, 11, 12, 13, 14] (.take 2 [] (.take 3 [] (.take 4 [] (.take 5 [7, 8, 9, 10, 11, 12, 13, 14] (.alt 6 (.take 7 [] (.take 8 [] (.take 9 [] (.take 10 [] (.take 11 [12, 13, 14] (.alt 12 (.take 13 [] (.take 14 [] .done)) .nil)))))) .nil))))))) (by kernel_rfl) ?_
     refine xj (k := 11) rfl ?_
     refine zc rfl [] (.take 0 [3] (.take 1 [2, 3] (.alt 2 (.take 3 [] .done) .nil))) (by kernel_rfl) ?_
     refine z7 rfl (z0d ⟨1, to, fr, mc, s, b, v, ob, ov⟩ hk) rfl ⟨⟨trivial, trivial, trivial, trivial, trivial, trivial, trivial, trivial, trivial, trivial⟩, trivial⟩ ?_
     refine xb rfl (fun b3 => ?_) (fun b3 => ?_)
     refine xr rfl (q7 rfl ⟨⟨rfl, ?_, trivial⟩, z6 rfl⟩)
     rotate_left
     refine xr rfl (q7 rfl ⟨⟨rfl, ?_, trivial⟩, z6 rfl⟩)
     rotate_left
     all_goals
      refine vi ?_
      have hI : decide (q0a (fun x : Con => x.id == mc) c.cons < 0) = (z02 c.cons mc).isNone := y0b
      rw [z4u c ⟨1, to, fr, mc, s, b, v, ob, ov⟩ hk rfl hI.symm hR (z5b ⟨1, to, fr, mc, s, b, v, ob, ov⟩ (Msg.bare ⟨1, to, fr, mc, s, b, v, ob, ov⟩)).symm]
      have hN := y6b ob ov
      clear hI hR hE hf hk ho
      ((try dsimp only at *); simp_all only [Bool.not_eq_true', Bool.not_eq_false', Bool.not_true, Bool.not_false, Bool.and_true, Bool.true_and, Bool.and_false, Bool.false_and, Bool.and_self, Bool.or_true, Bool.true_or, Bool.or_false, Bool.false_or, Bool.false_eq_true, if_true, if_false, reduceIte]; done)
   · dsimp only at h
     subst h
     have hE := z1h c ho ⟨2, to, fr, mc, s, b, v, ob, ov⟩ hk
     have hR : ranges c ⟨2, to, fr, mc, s, b, v, ob, ov⟩ = (q0u c.cons mc s && Go.Sx.within b 0 1000 && Go.Sx.within v 1 2) := by simp [ranges, Msg.shd]
     refine z7 rfl (qj _ _ _) rfl ⟨trivial, trivial, trivial, trivial⟩ ?_
     refine xj (k := 1) rfl ?_
     refine z7 rfl (hE) rfl ⟨trivial, ⟨trivial, trivial, trivial, trivial, trivial, trivial, trivial, trivial, trivial, trivial⟩, trivial⟩ ?_
     refine xb rfl (fun b0 => ?_) (fun b0 => ?_)
     refine xr rfl (q7 rfl ⟨⟨rfl, ?_, trivial⟩, z6 rfl⟩)
     rotate_left
     refine z7 rfl (hf) rfl ⟨trivial, trivial, trivial⟩ ?_
     refine xb rfl (fun b1 => ?_) (fun b1 => ?_)
     refine xr rfl (q7 rfl ⟨⟨rfl, ?_, trivial⟩, z6 rfl⟩)
     rotate_left
     refine xj (k := 5) rfl ?_
     refine z7 rfl (qv _ (by assumption) _ _) rfl ⟨trivial, trivial, trivial, trivial⟩ ?_
     refine xb rfl (fun b2 => ?_) (fun b2 => ?_)
     refine xr rfl (q7 rfl ⟨⟨rfl, ?_, trivial⟩, z6 rfl⟩)
     rotate_left
     refine xj (k := 7) rfl ?_
     refine z7 rfl (yz _) rfl ⟨trivial, trivial⟩ ?_
     refine xj (k := 2) rfl ?_
     refine xb rfl (fun b3 => ?_) (fun b3 => ?_)
     refine xr rfl (q7 rfl ⟨⟨rfl, ?_, trivial⟩, z6 rfl⟩)
     rotate_left
     refine xj (k := 11) rfl ?_
     refine z7 rfl (q07 _) rfl ⟨trivial, trivial⟩ ?_
     refine xj (k := 2) rfl ?_
     refine xb rfl (fun b4 => ?_) (fun b4 => ?_)
     refine xr rfl (q7 rfl ⟨⟨rfl, ?_, trivial⟩, z6 rfl⟩)
     rotate_left
     refine zc rfl [] (.take 0 [] (.take 1 [2, 3, 4, 5, 6, 7, 8, 9, 10, 11, 12, 13, 14] (.take 2 [] (.take 3 [] (.take 4 [] (.take 5 [7, 8, 9, 10, 11, 12, 13, 14] (.alt 6 (.take 7 [] (.take 8 [] (.take 9 [] (.take 10 [] (.take 11 [12, 13, 14] (.alt 12 (.take 13 [] (.take 14 [] .done)) .nil)))))) .nil))))))) (by kernel_rfl) ?_
     refine xj (k := 11) rfl ?_
     refine zc rfl [] (.take 0 [3] (.take 1 [2, 3] (.alt 2 (.take 3 [] .done) .nil))) (by kernel_rfl) ?_
     refine z7 rfl (z0d ⟨2, to, fr, mc, s, b, v, ob, ov⟩ hk) rfl ⟨⟨trivial, trivial, trivial, trivial, trivial, trivial, trivial, trivial, trivial, trivial⟩, trivial⟩ ?_
     refine xb rfl (fun b5 => ?_) (fun b5 => ?_)
     refine xr rfl (q7 rfl ⟨⟨rfl, ?_, trivial⟩, z6 rfl⟩)
     rotate_left
     refine xr rfl (q7 rfl ⟨⟨rfl, ?_, trivial⟩, z6 rfl⟩)
     rotate_left
     all_goals
      refine vi ?_
      have hI : decide (q0a (fun x : Con => x.id == mc) c.cons < 0) = (z02 c.cons mc).isNone := y0b
      rw [z4u c ⟨2, to, fr, mc, s, b, v, ob, ov⟩ hk rfl hI.symm hR (z5b ⟨2, to, fr, mc, s, b, v, ob, ov⟩ (Msg.bare ⟨2, to, fr, mc, s, b, v, ob, ov⟩)).symm]
      have hN := y6b ob ov
      clear hI hR hE hf hk ho
      ((try dsimp only at *); simp_all only [Bool.not_eq_true', Bool.not_eq_false', Bool.not_true, Bool.not_false, Bool.and_true, Bool.true_and, Bool.and_false, Bool.false_and, Bool.and_self, Bool.or_true, Bool.true_or, Bool.or_false, Bool.false_or, Bool.false_eq_true, if_true, if_false, reduceIte]; done)
   · dsimp only at h
     subst h
     have hE := z1h c ho ⟨3, to, fr, mc, s, b, v, ob, ov⟩ hk
     have hR : ranges c ⟨3, to, fr, mc, s, b, v, ob, ov⟩ = (q0u c.cons mc s && Go.Sx.within b 0 1000 && Go.Sx.within v 1 2) := by simp [ranges, Msg.shd]
     refine z7 rfl (qj _ _ _) rfl ⟨trivial, trivial, trivial, trivial⟩ ?_
     refine xj (k := 1) rfl ?_
     refine z7 rfl (hE) rfl ⟨trivial, ⟨trivial, trivial, trivial, trivial, trivial, trivial, trivial, trivial, trivial, trivial⟩, trivial⟩ ?_
     refine xb rfl (fun b0 => ?_) (fun b0 => ?_)
     refine xr rfl (q7 rfl ⟨⟨rfl, ?_, trivial⟩, z6 rfl⟩)
     rotate_left
     refine z7 rfl (hf) rfl ⟨trivial, trivial, trivial⟩ ?_
     refine xb rfl (fun b1 => ?_) (fun b1 => ?_)
     refine xr rfl (q7 rfl ⟨⟨rfl, ?_, trivial⟩, z6 rfl⟩)
     rotate_left
     refine xj (k := 5) rfl ?_
     refine z7 rfl (qv _ (by assumption) _ _) rfl ⟨trivial, trivial, trivial, trivial⟩ ?_
     refine xb rfl (fun b2 => ?_) (fun b2 => ?_)
     refine xr rfl (q7 rfl ⟨⟨rfl, ?_, trivial⟩, z6 rfl⟩)
     rotate_left
     refine xj (k := 7) rfl ?_
     refine z7 rfl (yz _) rfl ⟨trivial, trivial⟩ ?_
     refine xj (k := 2) rfl ?_
     refine xb rfl (fun b3 => ?_) (fun b3 => ?_)
     refine xr rfl (q7 rfl ⟨⟨rfl, ?_, trivial⟩, z6 rfl⟩)
     rotate_left
     refine xj (k := 11) rfl ?_
     refine z7 rfl (q07 _) rfl ⟨trivial, trivial⟩ ?_
     refine xj (k := 2) rfl ?_
     refine xb rfl (fun b4 => ?_) (fun b4 => ?_)
     refine xr rfl (q7 rfl ⟨⟨rfl, ?_, trivial⟩, z6 rfl⟩)
     rotate_left
     refine zc rfl [] (.take 0 [] (.take 1 [2, 3, 4, 5, 6, 7, 8, 9, 10, 11, 12, 13, 14] (.take 2 [] (.take 3 [] (.take 4 [] (.take 5 [7, 8, 9, 10, 11, 12, 13, 14] (.alt 6 (.take 7 [] (.take 8 [] (.take 9 [] (.take 10 [] (.take 11 [12, 13, 14] (.alt 12 (.take 13 [] (.take 14 [] .done)) .nil)))))) .nil))))))) (by kernel_rfl) ?_
     refine xj (k := 11) rfl ?_
     refine zc rfl [] (.take 0 [3] (.take 1 [2, 3] (.alt 2 (.take 3 [] .done) .nil))) (by kernel_rfl) ?_
     refine z7 rfl (z0d ⟨3, to, fr, mc, s, b, v, ob, ov⟩ hk) rfl ⟨⟨trivial, trivial, trivial, trivial, trivial, trivial, trivial, trivial, trivial, trivial⟩, trivial⟩ ?_
     refine xb rfl (fun b5 => ?_) (fun b5 => ?_)
     refine xr rfl (q7 rfl ⟨⟨rfl, ?_, trivial⟩, z6 rfl⟩)
     rotate_left
     refine xr rfl (q7 rfl ⟨⟨rfl, ?_, trivial⟩, z6 rfl⟩)
     rotate_left
     all_goals
      refine vi ?_
      have hI : decide (q0a (fun x : Con => x.id == mc) c.cons < 0) = (z02 c.cons mc).isNone := y0b
      rw [z4u c ⟨3, to, fr, mc, s, b, v, ob, ov⟩ hk rfl hI.symm hR (z5b ⟨3, to, fr, mc, s, b, v, ob, ov⟩ (Msg.bare ⟨3, to, fr, mc, s, b, v, ob, ov⟩)).symm]
      have hN := y6b ob ov
      clear hI hR hE hf hk ho
      ((try dsimp only at *); simp_all only [Bool.not_eq_true', Bool.not_eq_false', Bool.not_true, Bool.not_false, Bool.and_true, Bool.true_and, Bool.and_false, Bool.false_and, Bool.and_self, Bool.or_true, Bool.true_or, Bool.or_false, Bool.false_or, Bool.false_eq_true, if_true, if_false, reduceIte]; done)
   · dsimp only at h
     subst h
     have hE := z1h c ho ⟨4, to, fr, mc, s, b, v, ob, ov⟩ hk
     have hR : ranges c ⟨4, to, fr, mc, s, b, v, ob, ov⟩ = (q0u c.cons mc s && Go.Sx.within b 0 1000) := by simp [ranges, Msg.shd]
     refine z7 rfl (qj _ _ _) rfl ⟨trivial, trivial, trivial, trivial⟩ ?_
     refine xj (k := 1) rfl ?_
     refine z7 rfl (hE) rfl ⟨trivial, ⟨trivial, trivial, trivial, trivial, trivial, trivial, trivial, trivial, trivial, trivial⟩, trivial⟩ ?_
     refine xb rfl (fun b0 => ?_) (fun b0 => ?_)
     refine xr rfl (q7 rfl ⟨⟨rfl, ?_, trivial⟩, z6 rfl⟩)
     rotate_left
     refine z7 rfl (hf) rfl ⟨trivial, trivial, trivial⟩ ?_
     refine xb rfl (fun b1 => ?_) (fun b1 => ?_)
     refine xr rfl (q7 rfl ⟨⟨rfl, ?_, trivial⟩, z6 rfl⟩)
     rotate_left
     refine xj (k := 5) rfl ?_
     refine z7 rfl (qv _ (by assumption) _ _) rfl ⟨trivial, trivial, trivial, trivial⟩ ?_
     refine xb rfl (fun b2 => ?_) (fun b2 => ?_)
     refine xr rfl (q7 rfl ⟨⟨rfl, ?_, trivial⟩, z6 rfl⟩)
     rotate_left
     refine xj (k := 7) rfl ?_
     refine z7 rfl (yz _) rfl ⟨trivial, trivial⟩ ?_
     refine xj (k := 2) rfl ?_
     refine xb rfl (fun b3 => ?_) (fun b3 => ?_)
     refine xr rfl (q7 rfl ⟨⟨rfl, ?_, trivial⟩, z6 rfl⟩)
     rotate_left
     refine xj (k := 14) rfl ?_
     refine zc rfl [] (.take 0 [] (.take 1 [2, 3, 4, 5, 6, 7, 8, 9, 10, 11, 12, 13, 14] (.take 2 [] (.take 3 [] (.take 4 [] (.take 5 [7, 8, 9, 10, 11, 12, 13, 14] (.alt 6 (.take 7 [] (.take 8 [] (.take 9 [] (.take 10 [] (.take 11 [12, 13, 14] (.alt 12 (.take 13 [] (.take 14 [] .done)) .nil)))))) .nil))))))) (by kernel_rfl) ?_
     refine xj (k := 11) rfl ?_
     refine zc rfl [] (.take 0 [3] (.take 1 [2, 3] (.alt 2 (.take 3 [] .done) .nil))) (by kernel_rfl) ?_
     refine z7 rfl (z0d ⟨4, to, fr, mc, s, b, v, ob, ov⟩ hk) rfl ⟨⟨trivial, trivial, trivial, trivial, trivial, trivial, trivial, trivial, trivial, trivial⟩, trivial⟩ ?_
     refine xb rfl (fun b4 => ?_) (fun b4 => ?_)
     refine xr rfl (q7 rfl ⟨⟨rfl, ?_, trivial⟩, z6 rfl⟩)
     rotate_left
     refine xr rfl (q7 rfl ⟨⟨rfl, ?_, trivial⟩, z6 rfl⟩)
     rotate_left
     all_goals
      refine vi ?_
      have hI : decide (q0a (fun x : Con => x.id == mc) c.cons < 0) = (z02 c.cons mc).isNone := y0b
      rw [z4u c ⟨4, to, fr, mc, s, b, v, ob, ov⟩ hk rfl hI.symm hR (z5b ⟨4, to, fr, mc, s, b, v, ob, ov⟩ (Msg.bare ⟨4, to, fr, mc, s, b, v, ob, ov⟩)).symm]
      have hN := y6b ob ov
      clear hI hR hE hf hk ho
      ((try dsimp only at *); simp_all only [Bool.not_eq_true', Bool.not_eq_false', Bool.not_true, Bool.not_false, Bool.and_true, Bool.true_and, Bool.and_false, Bool.false_and, Bool.and_self, Bool.or_true, Bool.true_or, Bool.or_false, Bool.false_or, Bool.false_eq_true, if_true, if_false, reduceIte]; done)
   · dsimp only at h
     subst h
     have hE := z1h c ho ⟨5, to, fr, mc, s, b, v, ob, ov⟩ hk
     have hR : ranges c ⟨5, to, fr, mc, s, b, v, ob, ov⟩ = (q0u c.cons mc s && Go.Sx.within b 0 1000 && ((ob == -1 && ov == 0) || Vt.ok ⟨ob, ov⟩)) := by simp [ranges, Msg.shd]
     refine z7 rfl (qj _ _ _) rfl ⟨trivial, trivial, trivial, trivial⟩ ?_
     refine xj (k := 1) rfl ?_
     refine z7 rfl (hE) rfl ⟨trivial, ⟨trivial, trivial, trivial, trivial, trivial, trivial, trivial, trivial, trivial, trivial⟩, trivial⟩ ?_
     refine xb rfl (fun b0 => ?_) (fun b0 => ?_)
     refine xr rfl (q7 rfl ⟨⟨rfl, ?_, trivial⟩, z6 rfl⟩)
     rotate_left
     refine z7 rfl (hf) rfl ⟨trivial, trivial, trivial⟩ ?_
     refine xb rfl (fun b1 => ?_) (fun b1 => ?_)
     refine xr rfl (q7 rfl ⟨⟨rfl, ?_, trivial⟩, z6 rfl⟩)
     rotate_left
     refine xj (k := 5) rfl ?_
     refine z7 rfl (qv _ (by assumption) _ _) rfl ⟨trivial, trivial, trivial, trivial⟩ ?_
     refine xb rfl (fun b2 => ?_) (fun b2 => ?_)
     refine xr rfl (q7 rfl ⟨⟨rfl, ?_, trivial⟩, z6 rfl⟩)
     rotate_left
     refine xj (k := 7) rfl ?_
     refine z7 rfl (yz _) rfl ⟨trivial, trivial⟩ ?_
     refine xj (k := 2) rfl ?_
     refine xb rfl (fun b3 => ?_) (fun b3 => ?_)
     refine xr rfl (q7 rfl ⟨⟨rfl, ?_, trivial⟩, z6 rfl⟩)
     rotate_left
     refine xj (k := 14) rfl ?_
     refine zc rfl [] (.take 0 [] (.take 1 [2, 3, 4, 5, 6, 7, 8, 9, 10, 11, 12, 13, 14] (.take 2 [] (.take 3 [] (.take 4 [] (.take 5 [7, 8, 9, 10, 11, 12, 13, 14] (.alt 6 (.take 7 [] (.take 8 [] (.take 9 [] (.take 10 [] (.take 11 [12, 13, 14] (.alt 12 (.take 13 [] (.take 14 [] .done)) .nil)))))) .nil))))))) (by kernel_rfl) ?_
     refine xj (k := 3) rfl ?_
     refine z7 rfl (y1w) rfl trivial ?_
     refine xj (k := 2) rfl ?_
     refine xb rfl (fun b4 => ?_) (fun b4 => ?_)
     refine xj (k := 2) rfl ?_
     refine z7 rfl (q1o ⟨ob, ov⟩) rfl ⟨⟨trivial, trivial, trivial⟩, trivial⟩ ?_
     refine xj (k := 2) rfl ?_
     refine xb rfl (fun b5 => ?_) (fun b5 => ?_)
     refine xr rfl (q7 rfl ⟨⟨rfl, ?_, trivial⟩, z6 rfl⟩)
     rotate_left
     refine zc rfl [] (.take 0 [3] (.take 1 [2, 3] (.alt 2 (.take 3 [] .done) .nil))) (by kernel_rfl) ?_
     refine z7 rfl (z0d ⟨5, to, fr, mc, s, b, v, ob, ov⟩ hk) rfl ⟨⟨trivial, trivial, trivial, trivial, trivial, trivial, trivial, trivial, trivial, trivial⟩, trivial⟩ ?_
     refine xb rfl (fun b6 => ?_) (fun b6 => ?_)
     refine xr rfl (q7 rfl ⟨⟨rfl, ?_, trivial⟩, z6 rfl⟩)
     rotate_left
     refine xr rfl (q7 rfl ⟨⟨rfl, ?_, trivial⟩, z6 rfl⟩)
     rotate_left
     refine xj (k := 5) rfl ?_
     refine zc rfl [] (.take 0 [3] (.take 1 [2, 3] (.alt 2 (.take 3 [] .done) .nil))) (by kernel_rfl) ?_
     refine z7 rfl (z0d ⟨5, to, fr, mc, s, b, v, ob, ov⟩ hk) rfl ⟨⟨trivial, trivial, trivial, trivial, trivial, trivial, trivial, trivial, trivial, trivial⟩, trivial⟩ ?_
     refine xb rfl (fun b5 => ?_) (fun b5 => ?_)
     refine xr rfl (q7 rfl ⟨⟨rfl, ?_, trivial⟩, z6 rfl⟩)
     rotate_left
     refine xr rfl (q7 rfl ⟨⟨rfl, ?_, trivial⟩, z6 rfl⟩)
     rotate_left
     all_goals
      refine vi ?_
      have hI : decide (q0a (fun x : Con => x.id == mc) c.cons < 0) = (z02 c.cons mc).isNone := y0b
      rw [z4u c ⟨5, to, fr, mc, s, b, v, ob, ov⟩ hk rfl hI.symm hR (z5b ⟨5, to, fr, mc, s, b, v, ob, ov⟩ (Msg.bare ⟨5, to, fr, mc, s, b, v, ob, ov⟩)).symm]
      have hN := y6b ob ov
      clear hI hR hE hf hk ho
      ((try dsimp only at *); simp_all only [Bool.not_eq_true', Bool.not_eq_false', Bool.not_true, Bool.not_false, Bool.and_true, Bool.true_and, Bool.and_false, Bool.false_and, Bool.and_self, Bool.or_true, Bool.true_or, Bool.or_false, Bool.false_or, Bool.false_eq_true, if_true, if_false, reduceIte]; done)
   · dsimp only at h
     subst h
     have hE := z1h c ho ⟨6, to, fr, mc, s, b, v, ob, ov⟩ hk
     have hR : ranges c ⟨6, to, fr, mc, s, b, v, ob, ov⟩ = (q0u c.cons mc to && Go.Sx.within v 1 2) := by simp [ranges, Msg.shd]
     refine z7 rfl (qj _ _ _) rfl ⟨trivial, trivial, trivial, trivial⟩ ?_
     refine xj (k := 1) rfl ?_
     refine z7 rfl (hE) rfl ⟨trivial, ⟨trivial, trivial, trivial, trivial, trivial, trivial, trivial, trivial, trivial, trivial⟩, trivial⟩ ?_
     refine xb rfl (fun b0 => ?_) (fun b0 => ?_)
     refine xr rfl (q7 rfl ⟨⟨rfl, ?_, trivial⟩, z6 rfl⟩)
     rotate_left
     refine z7 rfl (hf) rfl ⟨trivial, trivial, trivial⟩ ?_
     refine xb rfl (fun b1 => ?_) (fun b1 => ?_)
     refine xr rfl (q7 rfl ⟨⟨rfl, ?_, trivial⟩, z6 rfl⟩)
     rotate_left
     refine xj (k := 5) rfl ?_
     refine z7 rfl (qv _ (by assumption) _ _) rfl ⟨trivial, trivial, trivial, trivial⟩ ?_
     refine xb rfl (fun b2 => ?_) (fun b2 => ?_)
     refine xr rfl (q7 rfl ⟨⟨rfl, ?_, trivial⟩, z6 rfl⟩)
     rotate_left
     refine xj (k := 21) rfl ?_
     refine z7 rfl (q07 _) rfl ⟨trivial, trivial⟩ ?_
     refine xj (k := 2) rfl ?_
     refine xb rfl (fun b3 => ?_) (fun b3 => ?_)
     refine xr rfl (q7 rfl ⟨⟨rfl, ?_, trivial⟩, z6 rfl⟩)
     rotate_left
     refine zc rfl [] (.take 0 [] (.take 1 [2, 3, 4, 5, 6, 7, 8, 9, 10, 11, 12, 13, 14] (.take 2 [] (.take 3 [] (.take 4 [] (.take 5 [7, 8, 9, 10, 11, 12, 13, 14] (.alt 6 (.take 7 [] (.take 8 [] (.take 9 [] (.take 10 [] (.take 11 [12, 13, 14] (.alt 12 (.take 13 [] (.take 14 [] .done)) .nil)))))) .nil))))))) (by kernel_rfl) ?_
     refine xj (k := 11) rfl ?_
     refine zc rfl [] (.take 0 [3] (.take 1 [2, 3] (.alt 2 (.take 3 [] .done) .nil))) (by kernel_rfl) ?_
     refine z7 rfl (z0d ⟨6, to, fr, mc, s, b, v, ob, ov⟩ hk) rfl ⟨⟨trivial, trivial, trivial, trivial, trivial, trivial, trivial, trivial, trivial, trivial⟩, trivial⟩ ?_
     refine xb rfl (fun b4 => ?_) (fun b4 => ?_)
     refine xr rfl (q7 rfl ⟨⟨rfl, ?_, trivial⟩, z6 rfl⟩)
     rotate_left
     refine xr rfl (q7 rfl ⟨⟨rfl, ?_, trivial⟩, z6 rfl⟩)
     rotate_left
     all_goals
      refine vi ?_
      have hI : decide (q0a (fun x : Con => x.id == mc) c.cons < 0) = (z02 c.cons mc).isNone := y0b
      rw [z4u c ⟨6, to, fr, mc, s, b, v, ob, ov⟩ hk rfl hI.symm hR (z5b ⟨6, to, fr, mc, s, b, v, ob, ov⟩ (Msg.bare ⟨6, to, fr, mc, s, b, v, ob, ov⟩)).symm]
      have hN := y6b ob ov
      clear hI hR hE hf hk ho
      ((try dsimp only at *); simp_all only [Bool.not_eq_true', Bool.not_eq_false', Bool.not_true, Bool.not_false, Bool.and_true, Bool.true_and, Bool.and_false, Bool.false_and, Bool.and_self, Bool.or_true, Bool.true_or, Bool.or_false, Bool.false_or, Bool.false_eq_true, if_true, if_false, reduceIte]; done)
 · have hk : Go.Sx.within m.k 1 6 = false := by simpa using hk
   refine z7 rfl (qj _ _ _) rfl ⟨trivial, trivial, trivial, trivial⟩ ?_
   refine xb rfl (fun b0 => ?_) (fun b0 => ?_)
   refine xr rfl (q7 rfl ⟨⟨rfl, ?_, trivial⟩, z6 rfl⟩)
   rotate_left
   exact absurd b0 (by simp; omega)
   all_goals first
    | (refine vi ?_; unfold q0f; rw [hk]; rfl)
    | (exfalso; simp_all; done)
theorem q99 (c : Clu) (ho : yw c) (m : Msg) : PC Tryz.prog 135 [.agg c.cs, .agg m.cs] (rI (q0f c m)) := by
 refine PC.begin Tryz.func135 rfl (by kernel_rfl) ?_
 by_cases hk : Go.Sx.within m.k 1 6 = true
 · have hT := z9d c ho m hk
   have hF := y77 c ho m hk
   have hR := y5i c ho m hk
   have hP := q8e m hk
   refine yaa (n := 0) rfl (ι := Unit) (fun _ => True) (fun _ => ⟨[(2, .one (.b (.p c.cs))), (3, .one (.a 3 0))], [(3, .var (m.cs.map .b))]⟩) ?_ ?_
   · intro K hK
     exact ya rfl (hK _ () trivial ⟨⟨⟨rfl, rfl, rfl⟩, ⟨rfl, rfl, rfl⟩, trivial⟩, ⟨lcr, trivial⟩, rfl⟩)
   intro _ _
   cases h : z02 c.cons m.c with
   | none =>
     refine z7 rfl (qm _ _ _) rfl ⟨trivial, trivial, trivial, trivial⟩ ?_
     refine xb rfl (fun b0 => ?_) (fun b0 => ?_)
     exact absurd b0 (by simp; omega)
     refine z7 rfl (hT) rfl ⟨trivial, ⟨trivial, trivial, trivial, trivial, trivial, trivial, trivial, trivial, trivial, trivial⟩, trivial⟩ ?_
     refine xb rfl (fun b1 => ?_) (fun b1 => ?_)
     refine xj (k := 4) rfl ?_
     refine xr rfl (q7 rfl ⟨⟨rfl, ?_, trivial⟩, z6 rfl⟩)
     rotate_left
     refine xj (k := 1) rfl ?_
     refine z7 rfl (hF) rfl ⟨trivial, ⟨trivial, trivial, trivial, trivial, trivial, trivial, trivial, trivial, trivial, trivial⟩, trivial⟩ ?_
     refine xj (k := 2) rfl ?_
     refine xb rfl (fun b2 => ?_) (fun b2 => ?_)
     refine xr rfl (q7 rfl ⟨⟨rfl, ?_, trivial⟩, z6 rfl⟩)
     rotate_left
     refine z7 rfl (z16 c ho m.c h) rfl ⟨trivial, trivial, trivial⟩ ?_
     refine xj (k := 1) rfl ?_
     refine xr rfl (q7 rfl ⟨⟨rfl, ?_, trivial⟩, z6 rfl⟩)
     rotate_left
     all_goals
      refine vi ?_
      rw [z4u c m hk rfl (show (z02 c.cons m.c).isNone = true by rw [h]; rfl) rfl rfl]
      unfold ends
      clear hT hF hR hP ho h hk
      ((try dsimp only at *); simp_all only [Bool.not_eq_true', Bool.not_eq_false', Bool.not_true, Bool.not_false, Bool.and_true, Bool.true_and, Bool.and_false, Bool.false_and, Bool.and_self, Bool.or_true, Bool.true_or, Bool.or_false, Bool.false_or, Bool.false_eq_true, if_true, if_false, reduceIte]; done)
   | some x =>
     refine z7 rfl (qm _ _ _) rfl ⟨trivial, trivial, trivial, trivial⟩ ?_
     refine xb rfl (fun b0 => ?_) (fun b0 => ?_)
     exact absurd b0 (by simp; omega)
     refine z7 rfl (hT) rfl ⟨trivial, ⟨trivial, trivial, trivial, trivial, trivial, trivial, trivial, trivial, trivial, trivial⟩, trivial⟩ ?_
     refine xb rfl (fun b1 => ?_) (fun b1 => ?_)
     refine xj (k := 4) rfl ?_
     refine xr rfl (q7 rfl ⟨⟨rfl, ?_, trivial⟩, z6 rfl⟩)
     rotate_left
     refine xj (k := 1) rfl ?_
     refine z7 rfl (hF) rfl ⟨trivial, ⟨trivial, trivial, trivial, trivial, trivial, trivial, trivial, trivial, trivial, trivial⟩, trivial⟩ ?_
     refine xj (k := 2) rfl ?_
     refine xb rfl (fun b2 => ?_) (fun b2 => ?_)
     refine xr rfl (q7 rfl ⟨⟨rfl, ?_, trivial⟩, z6 rfl⟩)
     rotate_left
     refine z7 rfl (y0h c ho m.c x h) rfl ⟨trivial, trivial, trivial⟩ ?_
     refine xj (k := 1) rfl ?_
     refine z7 rfl (hR) rfl ⟨trivial, ⟨trivial, trivial, trivial, trivial, trivial, trivial, trivial, trivial, trivial, trivial⟩, trivial⟩ ?_
     refine xb rfl (fun b3 => ?_) (fun b3 => ?_)
     refine xr rfl (q7 rfl ⟨⟨rfl, ?_, trivial⟩, z6 rfl⟩)
     rotate_left
     refine zc rfl [] (.take 0 [3, 4] (.take 1 [2, 3, 4] (.alt 2 (.take 3 [] (.take 4 [] .done)) .nil))) (by kernel_rfl) ?_
     refine z7 rfl (hP) rfl ⟨⟨trivial, trivial, trivial, trivial, trivial, trivial, trivial, trivial, trivial, trivial⟩, trivial⟩ ?_
     refine xb rfl (fun b4 => ?_) (fun b4 => ?_)
     refine xr rfl (q7 rfl ⟨⟨rfl, ?_, trivial⟩, z6 rfl⟩)
     rotate_left
     refine xr rfl (q7 rfl ⟨⟨rfl, ?_, trivial⟩, z6 rfl⟩)
     rotate_left
     all_goals
      refine vi ?_
      rw [z4u c m hk rfl (show (z02 c.cons m.c).isNone = false by rw [h]; rfl) rfl (z5b m m.bare).symm]
      unfold ends
      clear hT hF hR hP ho h hk
      ((try dsimp only at *); simp_all only [Bool.not_eq_true', Bool.not_eq_false', Bool.not_true, Bool.not_false, Bool.and_true, Bool.true_and, Bool.and_false, Bool.false_and, Bool.and_self, Bool.or_true, Bool.true_or, Bool.or_false, Bool.false_or, Bool.false_eq_true, if_true, if_false, reduceIte]; done)
 · have hk : Go.Sx.within m.k 1 6 = false := by simpa using hk
   refine z7 rfl (qm _ _ _) rfl ⟨trivial, trivial, trivial, trivial⟩ ?_
   refine xb rfl (fun b0 => ?_) (fun b0 => ?_)
   refine xr rfl (q7 rfl ⟨⟨rfl, ?_, trivial⟩, z6 rfl⟩)
   rotate_left
   exact absurd b0 (by simp; omega)
   all_goals first
    | (refine vi ?_; unfold q0f; rw [hk]; rfl)
    | (exfalso; simp_all; done)
end Go.Proofs.YthljegacamgnnaaGreat
end
section
namespace Go.Proofs.YthljegacamgnnaaGreat
open Go Go.Sx
set_option maxRecDepth 20000
set_option maxHeartbeats 4000000
theorem y84 {a b c d a' b' c' d' : Int} : y16 [.int .i64 a, .int .i64 b, .int .i64 c, .int .i64 d] [.int .i64 a', .int .i64 b', .int .i64 c', .int .i64 d'] = decide (Leg.mk a b c d = Leg.mk a' b' c' d') := by
 rw [Bool.eq_iff_iff]; simp [y16]
theorem y70 (us vs : List Leg) (hx : us.length ≤ 1048576) : PC Tryz.prog 267 [.one (.l (us.map Leg.cs)), .one (.l (vs.map Leg.cs))] (rB (decide (us = vs))) := by
 refine PC.begin Tryz.func267 rfl (by kernel_rfl) ?_
 refine xb rfl (fun h0 => ?_) (fun h0 => ?_)
 · have hne : ¬ us.length = vs.length := by simp at h0; omega
   refine xr rfl (q7 rfl ⟨⟨rfl, ?_, trivial⟩, z6 rfl⟩)
   all_goals (refine vb ?_; rw [eq_comm, decide_eq_false_iff_not]; exact fun e => hne (by rw [e]))
 · have he : us.length = vs.length := by simp at h0; omega
   refine yc rfl (ι := Nat) (fun i => i ≤ us.length ∧ us.take i = vs.take i) (fun i => ⟨[(13, sV (.int .i64 i)), (12, sV (.int .i64 (us.map Leg.cs).length)), (0, .one (.b (.l (us.map Leg.cs)))), (1, .one (.b (.l (vs.map Leg.cs))))], []⟩) (fun i => us.length - i) 0 ⟨Nat.zero_le _, rfl⟩ ?_ ?_
   · exact ⟨⟨rfl, rfl, rfl, rfl, trivial⟩, trivial, rfl⟩
   · intro i ⟨hi, hq⟩ J hJ
     refine xb rfl (fun h => ?_) (fun h => ?_)
     · have h : i < us.length := by simpa using h
       obtain ⟨x, hx1⟩ := gx h
       obtain ⟨y, hy1⟩ := gx (xs := vs) (i := i) (by omega)
       have hg := gm Leg.cs hx1
       have hg2 := gm Leg.cs hy1
       refine zc rfl [] (.take 0 [] (.take 1 [] (.take 2 [] (.take 3 [8] (.take 4 [] (.take 5 [] (.take 6 [] (.take 7 [8] (.take 8 [] .done))))))))) (by kernel_rfl) ?_
       refine xs rfl (Int.natCast_nonneg _) ?_
       refine y9 rfl _ hg ?_
       refine xs rfl rfl ?_
       refine xs rfl (Int.natCast_nonneg _) ?_
       refine y9 rfl _ hg2 ?_
       refine xs rfl rfl ?_
       refine xb rfl (fun b0 => ?_) (fun b0 => ?_)
       refine xr rfl (q7 rfl ⟨⟨rfl, ?_, trivial⟩, z6 rfl⟩)
       rotate_left
       rotate_left
       · rw [y84] at b0
         refine vb ?_; rw [eq_comm, decide_eq_false_iff_not]; intro e; subst e; rw [hx1] at hy1; cases hy1; simp at b0
       · rw [y84] at b0
         have e : x = y := by simpa only [Bool.not_eq_false', decide_eq_true_eq] using b0
         exact ya rfl (hJ _ (i + 1) ⟨by omega, by rw [List.take_add_one, List.take_add_one, hx1, hy1, hq, e]⟩ (by omega) ⟨⟨cwi (by omega) (by omega) (by omega), rfl, rfl, rfl, trivial⟩, trivial, rfl⟩)
     · have h : i = us.length := by have : ¬ i < us.length := by simpa using h
                                    omega
       rw [h, List.take_length, he, List.take_length] at hq
       refine xr rfl (q7 rfl ⟨⟨rfl, ?_, trivial⟩, z6 rfl⟩)
       all_goals (refine vb ?_; rw [hq]; simp)
theorem y5v (a b : Con) (ha : a.legs.length ≤ 1048576) : PC Tryz.prog 206 [.agg a.cs, .agg b.cs] (rB (a.same b)) := by
 refine PC.begin Tryz.func206 rfl (by kernel_rfl) ?_
 refine xb rfl (fun b0 => ?_) (fun b0 => ?_)
 refine xj (k := 4) rfl ?_
 refine z7 rfl (y70 a.legs b.legs ha) rfl ⟨trivial, trivial, trivial⟩ ?_
 refine xj (k := 1) rfl ?_
 refine xr rfl (q7 rfl ⟨⟨rfl, ?_, trivial⟩, z6 rfl⟩)
 rotate_left
 refine xj (k := 5) rfl ?_
 refine xr rfl (q7 rfl ⟨⟨rfl, ?_, trivial⟩, z6 rfl⟩)
 rotate_left
 all_goals (refine vb ?_; unfold Con.same; simp_all)
theorem q4b (a b : Con) (ha : a.legs.length ≤ 1048576) : PC Tryz.prog 183 [.agg a.cs, .agg b.cs] (rB (a.same b)) := by
 refine PC.begin Tryz.func183 rfl (by kernel_rfl) ?_
 refine xb rfl (fun b0 => ?_) (fun b0 => ?_)
 refine xj (k := 8) rfl ?_
 refine xr rfl (q7 rfl ⟨⟨rfl, ?_, trivial⟩, z6 rfl⟩)
 rotate_left
 refine xj (k := 7) rfl ?_
 refine xb rfl (fun b1 => ?_) (fun b1 => ?_)
 refine xr rfl (q7 rfl ⟨⟨rfl, ?_, trivial⟩, z6 rfl⟩)
 rotate_left
 rotate_left
 · have h0 : ¬ a.id = b.id := by simpa using b0
   refine vb ?_; simp [Con.same, h0]
 · have hne : ¬ a.legs.length = b.legs.length := by simp at b1; omega
   refine vb ?_; unfold Con.same; rw [eq_comm, Bool.and_eq_false_iff]; exact .inr (decide_eq_false (fun e => hne (by rw [e])))
 · skip
   · have h0 : a.id = b.id := by simpa using b0
     have he : a.legs.length = b.legs.length := by simp at b1; omega
     clear b0 b1
     refine yc rfl (ι := Nat) (fun i => i ≤ a.legs.length ∧ a.legs.take i = b.legs.take i) (fun i => ⟨[(5, sV (.int .i64 i)), (2, .one (.a 2 0)), (3, .one (.a 3 0))], [(2, .var (a.cs.map .b)), (3, .var (b.cs.map .b))]⟩) (fun i => a.legs.length - i) 0 ⟨Nat.zero_le _, rfl⟩ ?_ ?_
     · exact ⟨⟨rfl, ⟨rfl, rfl, rfl⟩, ⟨rfl, rfl, rfl⟩, trivial⟩, ⟨lcr, lcr, trivial⟩, rfl⟩
     · intro i ⟨hi, hq⟩ J hJ
       refine xb rfl (fun h => ?_) (fun h => ?_)
       · have h : i < a.legs.length := by simpa using h
         obtain ⟨x, hx1⟩ := gx h
         obtain ⟨y, hy1⟩ := gx (xs := b.legs) (i := i) (by omega)
         have hg := gm Leg.cs hx1
         have hg2 := gm Leg.cs hy1
         refine zc rfl [] (.take 0 [] (.take 1 [3, 4, 10] (.take 2 [] (.take 3 [] (.take 4 [10] (.take 5 [] (.take 6 [8, 9, 10] (.take 7 [] (.take 8 [] (.take 9 [10] (.take 10 [] .done))))))))))) (by kernel_rfl) ?_
         refine xs rfl (Int.natCast_nonneg _) ?_
         refine y9 rfl _ hg ?_
         refine xs rfl rfl ?_
         refine xs rfl (Int.natCast_nonneg _) ?_
         refine y9 rfl _ hg2 ?_
         refine xs rfl rfl ?_
         refine xb rfl (fun b0 => ?_) (fun b0 => ?_)
         refine xr rfl (q7 rfl ⟨⟨rfl, ?_, trivial⟩, z6 rfl⟩)
         rotate_left
         rotate_left
         · rw [y84] at b0
           refine vb ?_; unfold Con.same; rw [eq_comm, Bool.and_eq_false_iff]; refine .inr (decide_eq_false (fun e => ?_)); rw [e, hy1] at hx1; cases hx1; simp at b0
         · rw [y84] at b0
           have e : x = y := by simpa only [Bool.not_eq_false', decide_eq_true_eq] using b0
           exact ya rfl (hJ _ (i + 1) ⟨by omega, by rw [List.take_add_one, List.take_add_one, hx1, hy1, hq, e]⟩ (by omega) ⟨⟨cwi (by omega) (by omega) (by omega), ⟨rfl, rfl, rfl⟩, ⟨rfl, rfl, rfl⟩, trivial⟩, ⟨lcr, lcr, trivial⟩, rfl⟩)
       · have h : i = a.legs.length := by have : ¬ i < a.legs.length := by simpa using h
                                          omega
         rw [h, List.take_length, he, List.take_length] at hq
         refine xr rfl (q7 rfl ⟨⟨rfl, ?_, trivial⟩, z6 rfl⟩)
         all_goals (refine vb ?_; simp [Con.same, h0, hq])
theorem z41 (c : Clu) (ho : yw c) (l : Leg) : PC Tryz.prog 257 [.agg l.cs, .one (.p [.p c.cs])] (rB (!(Go.Sx.within l.s 0 ((c.shs.length : Int) - 1)))) := by
 refine PC.begin Tryz.func257 rfl (by kernel_rfl) ?_
 have q1 := ho.2.1.1
 have p1 : (c.shs.map Shd.cs).length ≤ 1048576 := by simpa using q1
 refine zc rfl [] (.take 0 [] (.take 1 [6, 7, 8] (.take 2 [3, 4, 5, 6, 7, 8] (.take 3 [] (.take 4 [] (.take 5 [6, 7, 8] (.alt 6 (.take 7 [] (.take 8 [] .done)) .nil))))))) (by kernel_rfl) ?_
 refine z7 rfl (q29 _ _ (by assumption)) rfl ⟨trivial, trivial, trivial⟩ ?_
 refine xr rfl (q7 rfl ⟨⟨rfl, ?_, trivial⟩, z6 rfl⟩)
 all_goals (refine vb ?_; rw [List.length_map])
theorem y2f (c : Clu) (ho : yw c) (x : Con) (hl : x.legs.length ≤ 1048576) : PC Tryz.prog 201 [.one (.p c.cs), .agg x.cs] (rB (!(y9r c x))) := by
 refine PC.begin Tryz.func201 rfl (by kernel_rfl) ?_
 have hi := z57 _ x.legs (fun l => !(Go.Sx.within l.s 0 ((c.shs.length : Int) - 1))) 257 (.p [.p c.cs]) rfl (fun l _ => z41 c ho l) hl
 refine z7 rfl (hi) rfl ⟨trivial, (List.forall_mem_cons.2 ⟨⟨trivial, trivial⟩, (fun _ h => nomatch h)⟩), trivial⟩ ?_
 refine xr rfl (q7 rfl ⟨⟨rfl, rfl, trivial⟩, z6 rfl⟩)
theorem z87 (c : Clu) (ho : yw c) : PC Tryz.prog 126 [.one (.p c.cs)] (rI (scan (y0a c) c.cons.length)) := by
 refine PC.begin Tryz.func126 rfl (by kernel_rfl) ?_
 have hl := ho.1.1
 refine yc rfl (ι := Nat) (fun i => i ≤ c.cons.length ∧ ∀ j, j < i → y0a c j = 0) (fun i => ⟨[(11, sV (.int .i64 i)), (10, sV (.int .i64 (c.cons.map Con.cs).length)), (9, .one (.b (.l (c.cons.map Con.cs)))), (0, .one (.b (.p c.cs)))], []⟩) (fun i => c.cons.length - i) 0 ⟨Nat.zero_le _, fun j hj => by omega⟩ ?_ ?_
 · exact ⟨⟨rfl, rfl, rfl, rfl, trivial⟩, trivial, rfl⟩
 · intro i ⟨hi, h0⟩ J hJ
   refine xb rfl (fun h => ?_) (fun h => ?_)
   · have h : i < c.cons.length := by simpa using h
     obtain ⟨x, hx⟩ := gx h
     have hg := gm Con.cs hx
     have hxl := ho.1.2 x (List.mem_of_getElem? hx)
     rcases Nat.eq_zero_or_pos i with hz | hz
     · subst hz
       refine xs rfl (Int.natCast_nonneg _) ?_
       refine y9 rfl _ hg ?_
       refine xs rfl rfl ?_
       refine z7 rfl (z42 _ (by assumption)) rfl ⟨⟨trivial, trivial, trivial⟩, trivial⟩ ?_
       refine xb rfl (fun b0 => ?_) (fun b0 => ?_)
       refine xr rfl (q7 rfl ⟨⟨rfl, ?_, trivial⟩, z6 rfl⟩)
       rotate_left
       refine z7 rfl (y2f c ho x hxl) rfl ⟨trivial, ⟨trivial, trivial, trivial⟩, trivial⟩ ?_
       refine xb rfl (fun b1 => ?_) (fun b1 => ?_)
       refine xr rfl (q7 rfl ⟨⟨rfl, ?_, trivial⟩, z6 rfl⟩)
       rotate_left
       refine zc rfl [] (.take 0 [] (.take 1 [] (.take 2 [] (.take 3 [] (.take 4 [] (.take 5 [] (.take 6 [9, 10, 11, 14, 15, 16] (.take 7 [] (.take 8 [] (.take 9 [] (.take 10 [] (.take 11 [14, 15, 16] (.take 12 [] (.take 13 [14, 15, 16] (.take 14 [] (.take 15 [] (.take 16 [] .done))))))))))))))))) (by kernel_rfl) ?_
       refine xj (k := 14) rfl ?_
       rotate_left
       all_goals (first | (refine vi (q8 h h0 ?_ (by first | decide | decide | simp_all)); clear hJ h0 hg; (first | (simp_all [y0a, ahead_zero]; done) | (simp_all [y0a, ahead_zero]; omega)); done) | (refine ya rfl (hJ _ 1 ⟨by omega, qa h0 ?_⟩ (by omega) ⟨⟨cwi (by omega) (by omega) (by omega), rfl, rfl, rfl, trivial⟩, trivial, rfl⟩); clear hJ h0 hg; (first | (simp_all [y0a, ahead_zero]; done) | (simp_all [y0a, ahead_zero]; omega)); done) | skip)
     · obtain ⟨p, hp⟩ := gx (xs := c.cons) (i := i - 1) (by omega)
       have hgp := z15 Con.cs hz (by omega) hp
       refine xs rfl (Int.natCast_nonneg _) ?_
       refine y9 rfl _ hg ?_
       refine xs rfl rfl ?_
       refine z7 rfl (z42 _ (by assumption)) rfl ⟨⟨trivial, trivial, trivial⟩, trivial⟩ ?_
       refine xb rfl (fun b0 => ?_) (fun b0 => ?_)
       refine xr rfl (q7 rfl ⟨⟨rfl, ?_, trivial⟩, z6 rfl⟩)
       rotate_left
       refine z7 rfl (y2f c ho x hxl) rfl ⟨trivial, ⟨trivial, trivial, trivial⟩, trivial⟩ ?_
       refine xb rfl (fun b1 => ?_) (fun b1 => ?_)
       refine xr rfl (q7 rfl ⟨⟨rfl, ?_, trivial⟩, z6 rfl⟩)
       rotate_left
       refine zc rfl [] (.take 0 [] (.take 1 [] (.take 2 [] (.take 3 [] (.take 4 [] (.take 5 [] (.take 6 [9, 10, 11, 14, 15, 16] (.take 7 [] (.take 8 [] (.take 9 [] (.take 10 [] (.take 11 [14, 15, 16] (.take 12 [] (.take 13 [14, 15, 16] (.take 14 [] (.take 15 [] (.take 16 [] .done))))))))))))))))) (by kernel_rfl) ?_
       refine xb rfl (fun b2 => ?_) (fun b2 => ?_)
       refine xj (k := 6) rfl ?_
       refine xs rfl (y0k hz (by omega)) ?_
       refine y9 rfl _ hgp ?_
       refine xs rfl rfl ?_
       refine xj (k := 6) rfl ?_
       refine xb rfl (fun b3 => ?_) (fun b3 => ?_)
       refine xr rfl (q7 rfl ⟨⟨rfl, ?_, trivial⟩, z6 rfl⟩)
       rotate_left
       rotate_left
       refine xj (k := 13) rfl ?_
       rotate_left
       all_goals (first | (refine vi (q8 h h0 ?_ (by first | decide | decide | simp_all)); clear hJ h0 hg hgp; (first | (simp_all [y0a, q9 hz hp]; done) | (simp_all [y0a, q9 hz hp]; omega)); done) | (refine ya rfl (hJ _ (i + 1) ⟨by omega, qa h0 ?_⟩ (by omega) ⟨⟨cwi (by omega) (by omega) (by omega), rfl, rfl, rfl, trivial⟩, trivial, rfl⟩); clear hJ h0 hg hgp; (first | (simp_all [y0a, q9 hz hp]; done) | (simp_all [y0a, q9 hz hp]; omega)); done) | skip)
   · have h : ¬ i < c.cons.length := by simpa using h
     have hz := qf (f := y0a c) (n := c.cons.length) (fun j hj => h0 j (by omega))
     clear hJ
     refine xr rfl (q7 rfl ⟨⟨rfl, ?_, trivial⟩, z6 rfl⟩)
     exact vi (hz.symm)
theorem z8h (c : Clu) (ho : yw c) : PC Tryz.prog 113 [.one (.p c.cs)] (rI (scan (y0a c) c.cons.length)) := by
 refine PC.begin Tryz.func113 rfl (by kernel_rfl) ?_
 have hl := ho.1.1
 have q1 := ho.2.1.1
 refine yc rfl (ι := Nat) (fun i => i ≤ c.cons.length ∧ ∀ j, j < i → y0a c j = 0) (fun i => ⟨[(3, sV (.int .i64 i)), (0, .one (.b (.p c.cs)))], []⟩) (fun i => c.cons.length - i) 0 ⟨Nat.zero_le _, fun j hj => by omega⟩ ?_ ?_
 · exact ⟨⟨rfl, rfl, trivial⟩, trivial, rfl⟩
 · intro i ⟨hi, h0⟩ J hJ
   refine xb rfl (fun h => ?_) (fun h => ?_)
   · have h : i < c.cons.length := by simpa using h
     obtain ⟨x, hx⟩ := gx h
     have hg := gm Con.cs hx
     have hxl := ho.1.2 x (List.mem_of_getElem? hx)
     have hla : zn x = 0 → _ := fun h => q79 h c
     rcases Nat.eq_zero_or_pos i with hz | hz
     · subst hz
       refine xs rfl (Int.natCast_nonneg _) ?_
       refine y9 rfl _ hg ?_
       refine xs rfl rfl ?_
       refine z7 rfl (y4b _ (by assumption)) rfl ⟨⟨trivial, trivial, trivial⟩, trivial⟩ ?_
       refine xb rfl (fun b0 => ?_) (fun b0 => ?_)
       refine xr rfl (q7 rfl ⟨⟨rfl, ?_, trivial⟩, z6 rfl⟩)
       rotate_left
       refine z7 rfl (z1p x hxl) rfl ⟨⟨trivial, trivial, trivial⟩, trivial⟩ ?_
       refine zc rfl [] (.take 0 [] (.take 1 [] (.take 2 [] (.take 3 [] (.take 4 [] (.take 5 [11] (.take 6 [] (.take 7 [] (.take 8 [] (.take 9 [10, 11] (.take 10 [] (.take 11 [] .done)))))))))))) (by kernel_rfl) ?_
       refine xs rfl (z7a (by simpa using b0)) ?_
       refine y9 rfl _ (z4s (by simpa using b0)) ?_
       refine xs rfl rfl ?_
       refine xb rfl (fun b1 => ?_) (fun b1 => ?_)
       refine xr rfl (q7 rfl ⟨⟨rfl, ?_, trivial⟩, z6 rfl⟩)
       rotate_left
       refine zc rfl [] (.take 0 [] (.take 1 [] (.take 2 [] (.take 3 [] (.take 4 [14, 15] (.take 5 [] (.take 6 [] (.take 7 [] (.take 8 [11, 12, 13, 14, 15] (.take 9 [] (.take 10 [] (.take 11 [] (.take 12 [] (.take 13 [14, 15] (.take 14 [] (.take 15 [] .done)))))))))))))))) (by kernel_rfl) ?_
       refine xj (k := 14) rfl ?_
       rotate_left
       all_goals (first | (refine vi (q8 h h0 ?_ (by first | decide | decide | simp_all)); clear hJ h0 hg; (first | (simp_all [y0a, ahead_zero]; done) | (simp_all [y0a, ahead_zero]; omega)); done) | (refine ya rfl (hJ _ 1 ⟨by omega, qa h0 ?_⟩ (by omega) ⟨⟨cwi (by omega) (by omega) (by omega), rfl, trivial⟩, trivial, rfl⟩); clear hJ h0 hg; (first | (simp_all [y0a, ahead_zero]; done) | (simp_all [y0a, ahead_zero]; omega)); done) | skip)
     · obtain ⟨p, hp⟩ := gx (xs := c.cons) (i := i - 1) (by omega)
       have hgp := z15 Con.cs hz (by omega) hp
       refine xs rfl (Int.natCast_nonneg _) ?_
       refine y9 rfl _ hg ?_
       refine xs rfl rfl ?_
       refine z7 rfl (y4b _ (by assumption)) rfl ⟨⟨trivial, trivial, trivial⟩, trivial⟩ ?_
       refine xb rfl (fun b0 => ?_) (fun b0 => ?_)
       refine xr rfl (q7 rfl ⟨⟨rfl, ?_, trivial⟩, z6 rfl⟩)
       rotate_left
       refine z7 rfl (z1p x hxl) rfl ⟨⟨trivial, trivial, trivial⟩, trivial⟩ ?_
       refine zc rfl [] (.take 0 [] (.take 1 [] (.take 2 [] (.take 3 [] (.take 4 [] (.take 5 [11] (.take 6 [] (.take 7 [] (.take 8 [] (.take 9 [10, 11] (.take 10 [] (.take 11 [] .done)))))))))))) (by kernel_rfl) ?_
       refine xs rfl (z7a (by simpa using b0)) ?_
       refine y9 rfl _ (z4s (by simpa using b0)) ?_
       refine xs rfl rfl ?_
       refine xb rfl (fun b1 => ?_) (fun b1 => ?_)
       refine xr rfl (q7 rfl ⟨⟨rfl, ?_, trivial⟩, z6 rfl⟩)
       rotate_left
       refine zc rfl [] (.take 0 [] (.take 1 [] (.take 2 [] (.take 3 [] (.take 4 [14, 15] (.take 5 [] (.take 6 [] (.take 7 [] (.take 8 [11, 12, 13, 14, 15] (.take 9 [] (.take 10 [] (.take 11 [] (.take 12 [] (.take 13 [14, 15] (.take 14 [] (.take 15 [] .done)))))))))))))))) (by kernel_rfl) ?_
       refine xb rfl (fun b2 => ?_) (fun b2 => ?_)
       refine xj (k := 8) rfl ?_
       refine xs rfl (y0k hz (by omega)) ?_
       refine y9 rfl _ hgp ?_
       refine xs rfl rfl ?_
       refine xj (k := 4) rfl ?_
       refine xb rfl (fun b3 => ?_) (fun b3 => ?_)
       refine xr rfl (q7 rfl ⟨⟨rfl, ?_, trivial⟩, z6 rfl⟩)
       rotate_left
       rotate_left
       refine xj (k := 13) rfl ?_
       rotate_left
       all_goals (first | (refine vi (q8 h h0 ?_ (by first | decide | decide | simp_all)); clear hJ h0 hg hgp; (first | (simp_all [y0a, q9 hz hp]; done) | (simp_all [y0a, q9 hz hp]; omega)); done) | (refine ya rfl (hJ _ (i + 1) ⟨by omega, qa h0 ?_⟩ (by omega) ⟨⟨cwi (by omega) (by omega) (by omega), rfl, trivial⟩, trivial, rfl⟩); clear hJ h0 hg hgp; (first | (simp_all [y0a, q9 hz hp]; done) | (simp_all [y0a, q9 hz hp]; omega)); done) | skip)
   · have h : ¬ i < c.cons.length := by simpa using h
     have hz := qf (f := y0a c) (n := c.cons.length) (fun j hj => h0 j (by omega))
     clear hJ
     refine xr rfl (q7 rfl ⟨⟨rfl, ?_, trivial⟩, z6 rfl⟩)
     exact vi (hz.symm)
end Go.Proofs.YthljegacamgnnaaGreat
end
section
namespace Go.Proofs.YthljegacamgnnaaGreat
open Go Go.Sx
set_option maxRecDepth 20000
set_option maxHeartbeats 4000000
theorem ya2 (rr : List (List Cell)) (us : List Mk) (p : Mk → Bool) (fn : Nat) (c0 : Cell) (c1 : Cell) (hr : rr = us.map Mk.cs) (hf : ∀ x ∈ us, PC Tryz.prog fn [.agg x.cs, .one c0, .one c1] (rB (p x))) (hl : us.length ≤ 1048576) : PC Tryz.prog 266 [.one (.l rr), .one (.f fn [c0, c1])] (rI (q0a p us)) := by
 refine PC.begin Tryz.func266 rfl (by kernel_rfl) ?_
 subst hr
 have hn : (us.map Mk.cs).length = us.length := by simp
 refine yc rfl (ι := Nat) (fun i => i ≤ us.length ∧ ∀ j y, j < i → us[j]? = some y → p y = false) (fun i => ⟨[(8, sV (.int .i64 i)), (7, sV (.int .i64 (us.map Mk.cs).length)), (0, .one (.b (.l (us.map Mk.cs)))), (1, .one (.b (.f fn [c0, c1])))], []⟩) (fun i => us.length - i) 0 ⟨Nat.zero_le _, fun j y hj => by omega⟩ ?_ ?_
 · exact ⟨⟨rfl, rfl, rfl, rfl, trivial⟩, trivial, rfl⟩
 · intro i ⟨hi, h0⟩ J hJ
   refine xb rfl (fun h => ?_) (fun h => ?_)
   · have h : i < us.length := by simpa using h
     obtain ⟨x, hx⟩ := gx h
     have hg := gm Mk.cs hx
     have hxm := List.mem_of_getElem? hx
     refine xs rfl (Int.natCast_nonneg _) ?_
     refine y9 rfl _ hg ?_
     refine xs rfl rfl ?_
     refine z7 rfl (hf _ hxm) rfl ⟨⟨trivial, trivial, trivial⟩, trivial, trivial, trivial⟩ ?_
     refine xb rfl (fun b0 => ?_) (fun b0 => ?_)
     refine xr rfl (q7 rfl ⟨⟨rfl, ?_, trivial⟩, z6 rfl⟩)
     rotate_left
     rotate_left
     · exact vi (zz hx h0 b0).symm
     · exact ya rfl (hJ _ (i + 1) ⟨by omega, qe hx h0 b0⟩ (by omega) ⟨⟨cwi (by omega) (by omega) (by omega), rfl, rfl, rfl, trivial⟩, trivial, rfl⟩)
   · have h : ¬ i < us.length := by simpa using h
     refine xr rfl (q7 rfl ⟨⟨rfl, ?_, trivial⟩, z6 rfl⟩)
     exact vi (zt (zi (by omega) h0)).symm
theorem y8p (rr : List (List Cell)) (us : List Mk) (p : Mk → Bool) (fn : Nat) (c0 : Cell) (c1 : Cell) (hr : rr = us.map Mk.cs) (hf : ∀ x ∈ us, PC Tryz.prog fn [.agg x.cs, .one c0, .one c1] (rB (p x))) (hl : us.length ≤ 1048576) : PC Tryz.prog 205 [.one (.l rr), .one (.f fn [c0, c1])] (rB (us.any p)) := by
 refine PC.begin Tryz.func205 rfl (by kernel_rfl) ?_
 have hi := ya2 rr us p fn c0 c1 hr hf hl
 refine z7 rfl (hi) rfl ⟨trivial, trivial, trivial⟩ ?_
 refine xr rfl (q7 rfl ⟨⟨rfl, ?_, trivial⟩, z6 rfl⟩)
 exact vb q09
theorem q9b (rr : List (List Cell)) (us : List Slt) (p : Slt → Bool) (fn : Nat) (c0 : Cell) (hr : rr = us.map Slt.cs) (hf : ∀ x ∈ us, PC Tryz.prog fn [.agg x.cs, .one c0] (rB (p x))) (hl : us.length ≤ 1048576) : PC Tryz.prog 270 [.one (.l rr), .one (.f fn [c0])] (rI (q0a p us)) := by
 refine PC.begin Tryz.func270 rfl (by kernel_rfl) ?_
 subst hr
 have hn : (us.map Slt.cs).length = us.length := by simp
 refine yc rfl (ι := Nat) (fun i => i ≤ us.length ∧ ∀ j y, j < i → us[j]? = some y → p y = false) (fun i => ⟨[(8, sV (.int .i64 i)), (7, sV (.int .i64 (us.map Slt.cs).length)), (0, .one (.b (.l (us.map Slt.cs)))), (1, .one (.b (.f fn [c0])))], []⟩) (fun i => us.length - i) 0 ⟨Nat.zero_le _, fun j y hj => by omega⟩ ?_ ?_
 · exact ⟨⟨rfl, rfl, rfl, rfl, trivial⟩, trivial, rfl⟩
 · intro i ⟨hi, h0⟩ J hJ
   refine xb rfl (fun h => ?_) (fun h => ?_)
   · have h : i < us.length := by simpa using h
     obtain ⟨x, hx⟩ := gx h
     have hg := gm Slt.cs hx
     have hxm := List.mem_of_getElem? hx
     refine xs rfl (Int.natCast_nonneg _) ?_
     refine y9 rfl _ hg ?_
     refine xs rfl rfl ?_
     refine z7 rfl (hf _ hxm) rfl ⟨⟨trivial, trivial, trivial, trivial, trivial, trivial, trivial⟩, trivial, trivial⟩ ?_
     refine xb rfl (fun b0 => ?_) (fun b0 => ?_)
     refine xr rfl (q7 rfl ⟨⟨rfl, ?_, trivial⟩, z6 rfl⟩)
     rotate_left
     rotate_left
     · exact vi (zz hx h0 b0).symm
     · exact ya rfl (hJ _ (i + 1) ⟨by omega, qe hx h0 b0⟩ (by omega) ⟨⟨cwi (by omega) (by omega) (by omega), rfl, rfl, rfl, trivial⟩, trivial, rfl⟩)
   · have h : ¬ i < us.length := by simpa using h
     refine xr rfl (q7 rfl ⟨⟨rfl, ?_, trivial⟩, z6 rfl⟩)
     exact vi (zt (zi (by omega) h0)).symm
theorem q91 (rr : List (List Cell)) (us : List Slt) (p : Slt → Bool) (fn : Nat) (c0 : Cell) (hr : rr = us.map Slt.cs) (hf : ∀ x ∈ us, PC Tryz.prog fn [.agg x.cs, .one c0] (rB (p x))) (hl : us.length ≤ 1048576) : PC Tryz.prog 208 [.one (.l rr), .one (.f fn [c0])] (rB (us.any p)) := by
 refine PC.begin Tryz.func208 rfl (by kernel_rfl) ?_
 have hi := q9b rr us p fn c0 hr hf hl
 refine z7 rfl (hi) rfl ⟨trivial, trivial, trivial⟩ ?_
 refine xr rfl (q7 rfl ⟨⟨rfl, ?_, trivial⟩, z6 rfl⟩)
 exact vb q09
theorem y37 (c : Clu) (ho : yw c) (i : Int) (m : Mk) : PC Tryz.prog 203 [.agg m.cs, .one (.p [.p c.cs]), .one (.p [i64 i])] (rB (!(q0u c.cons m.c i))) := by
 refine PC.begin Tryz.func203 rfl (by kernel_rfl) ?_
 refine z7 rfl (z13 _ (by assumption) _ _) rfl ⟨trivial, trivial, trivial, trivial⟩ ?_
 refine xr rfl (q7 rfl ⟨⟨rfl, rfl, trivial⟩, z6 rfl⟩)
theorem y87 (c : Clu) (ho : yw c) (i : Nat) (s : Shd) (hs : c.shs[i]? = some s) : PC Tryz.prog 127 [.one (.p c.cs), .one (i64 i)] (rI (y8j c i s)) := by
 refine PC.begin Tryz.func127 rfl (by kernel_rfl) ?_
 have hg := gm Shd.cs hs
 have hso := ho.2.1.2 s (List.mem_of_getElem? hs)
 obtain ⟨o1, o2, o3, o4, o5, o6⟩ := id hso
 have hv := y8p _ s.votes (fun m => !(q0u c.cons m.c i)) 203 (.p [.p c.cs]) (.p [i64 i]) rfl (fun m _ => y37 c ho i m) o2
 have hd := y8p _ s.done (fun m => !(q0u c.cons m.c i)) 203 (.p [.p c.cs]) (.p [i64 i]) rfl (fun m _ => y37 c ho i m) o4
 refine zc rfl [] (.take 0 [1, 2, 3, 5, 6, 8] (.take 1 [] (.take 2 [] (.take 3 [5, 6, 8] (.take 4 [5, 6, 8] (.take 5 [] (.take 6 [8] (.alt 7 (.alt 8 .done .nil) .nil)))))))) (by kernel_rfl) ?_
 refine xs rfl (Int.natCast_nonneg _) ?_
 refine y9 rfl _ hg ?_
 refine xs rfl rfl ?_
 refine z7 rfl (q7m s hso) rfl ⟨⟨trivial, trivial, trivial, trivial, trivial, trivial, trivial⟩, trivial⟩ ?_
 refine xb rfl (fun b0 => ?_) (fun b0 => ?_)
 refine xr rfl (q7 rfl ⟨⟨rfl, ?_, trivial⟩, z6 rfl⟩)
 rotate_left
 refine xb rfl (fun b1 => ?_) (fun b1 => ?_)
 refine xj (k := 10) rfl ?_
 refine xr rfl (q7 rfl ⟨⟨rfl, ?_, trivial⟩, z6 rfl⟩)
 rotate_left
 refine xj (k := 3) rfl ?_
 refine z7 rfl (hv) rfl ⟨trivial, (List.forall_mem_cons.2 ⟨⟨trivial, trivial⟩, (List.forall_mem_cons.2 ⟨⟨trivial, trivial⟩, (fun _ h => nomatch h)⟩)⟩), trivial⟩ ?_
 refine xj (k := 1) rfl ?_
 refine xb rfl (fun b2 => ?_) (fun b2 => ?_)
 refine xj (k := 5) rfl ?_
 refine xr rfl (q7 rfl ⟨⟨rfl, ?_, trivial⟩, z6 rfl⟩)
 rotate_left
 refine xj (k := 3) rfl ?_
 refine z7 rfl (hd) rfl ⟨trivial, (List.forall_mem_cons.2 ⟨⟨trivial, trivial⟩, (List.forall_mem_cons.2 ⟨⟨trivial, trivial⟩, (fun _ h => nomatch h)⟩)⟩), trivial⟩ ?_
 refine xj (k := 1) rfl ?_
 refine xb rfl (fun b3 => ?_) (fun b3 => ?_)
 refine xr rfl (q7 rfl ⟨⟨rfl, ?_, trivial⟩, z6 rfl⟩)
 rotate_left
 rotate_left
 all_goals first | (refine vi ?_; unfold y8j; simp_all; done) | skip
 have hsf : yj s = 0 := by simpa using b0
 have hix : s.idx = i := by simpa using b1
 have hvd : ((s.votes.any fun m => !(q0u c.cons m.c i)) || (s.done.any fun m => !(q0u c.cons m.c i))) = false := by rw [b2, b3]; rfl
 rw [y4d hsf hix, hvd]
 have hcon := z2r hsf
 clear hv hd b0 b1 b2 b3 hvd
 refine yc rfl (ι := Nat) (fun i => i ≤ s.held.length ∧ ∀ j y, j < i → s.held[j]? = some y → y2n c y = false) (fun i => ⟨[(44, sV (.int .i64 i)), (43, sV (.int .i64 (s.held.map Con.cs).length)), (42, .one (.b (.l (s.held.map Con.cs)))), (2, .one (.a 2 0))], [(2, .var [.b (.p c.cs)])]⟩) (fun i => s.held.length - i) 0 ⟨Nat.zero_le _, fun j y hj => by omega⟩ ?_ ?_
 · exact ⟨⟨rfl, rfl, rfl, ⟨rfl, rfl, rfl⟩, trivial⟩, ⟨⟨rfl, trivial⟩, trivial⟩, rfl⟩
 · intro k ⟨hk, h0⟩ J hJ
   refine xb rfl (fun h => ?_) (fun h => ?_)
   · have h : k < s.held.length := by simpa using h
     obtain ⟨y, hy⟩ := gx h
     have hgy := gm Con.cs hy
     have hym := List.mem_of_getElem? hy
     have hyl := o6 y hym
     have hid := (z10 (hcon y hym)).1.1
     cases hc : z02 c.cons y.id with
     | none =>
       have hb : y2n c y = true := by unfold y2n; rw [hc]
       have hsm : (Con.mk 0 []).same y = false := by unfold Con.same; rw [Bool.and_eq_false_iff]; exact .inl (beq_false_of_ne (fun e => by have : (0 : Int) = y.id := e; omega))
       have hq := y5v ⟨0, []⟩ y (Nat.zero_le _)
       rw [hsm] at hq
       refine xs rfl (Int.natCast_nonneg _) ?_
       refine y9 rfl _ hgy ?_
       refine xs rfl rfl ?_
       refine z7 rfl (z16 c ho y.id hc) rfl ⟨trivial, trivial, trivial⟩ ?_
       refine z7 rfl (hq) rfl ⟨⟨trivial, trivial, trivial⟩, ⟨trivial, trivial, trivial⟩, trivial⟩ ?_
       refine xj (k := 1) rfl ?_
       refine xr rfl (q7 rfl ⟨⟨rfl, ?_, trivial⟩, z6 rfl⟩)
       exact vi (by rw [if_neg (by decide), if_pos (yr hy hb).symm])
     | some x =>
       have hxl := ho.1.2 x (List.mem_of_find?_eq_some hc)
       have hb : y2n c y = !(x.same y) := by unfold y2n; rw [hc]
       refine xs rfl (Int.natCast_nonneg _) ?_
       refine y9 rfl _ hgy ?_
       refine xs rfl rfl ?_
       refine z7 rfl (y0h c ho y.id x hc) rfl ⟨trivial, trivial, trivial⟩ ?_
       refine z7 rfl (y5v x y hxl) rfl ⟨⟨trivial, trivial, trivial⟩, ⟨trivial, trivial, trivial⟩, trivial⟩ ?_
       refine xb rfl (fun b0 => ?_) (fun b0 => ?_)
       refine xr rfl (q7 rfl ⟨⟨rfl, ?_, trivial⟩, z6 rfl⟩)
       rotate_left
       rotate_left
       · exact vi (by rw [if_neg (by decide), if_pos (yr hy (hb.trans b0)).symm])
       · exact ya rfl (hJ _ (k + 1) ⟨by omega, qe hy h0 (hb.trans b0)⟩ (by omega) ⟨⟨cwi (by omega) (by omega) (by omega), rfl, rfl, ⟨rfl, rfl, rfl⟩, trivial⟩, ⟨⟨rfl, trivial⟩, trivial⟩, rfl⟩)
   · have h : ¬ k < s.held.length := by simpa using h
     have hz := any_none (zi (by omega) h0)
     refine xr rfl (q7 rfl ⟨⟨rfl, ?_, trivial⟩, z6 rfl⟩)
     exact vi (by rw [if_neg (by decide), if_neg (by rw [← hz]; decide)])
theorem y5l (c : Clu) (ho : yw c) (x : Slt) : PC Tryz.prog 209 [.agg x.cs, .one (.p [.p c.cs])] (rB (!(q0u c.cons x.c x.s))) := by
 refine PC.begin Tryz.func209 rfl (by kernel_rfl) ?_
 refine z7 rfl (z13 _ (by assumption) _ _) rfl ⟨trivial, trivial, trivial, trivial⟩ ?_
 refine xr rfl (q7 rfl ⟨⟨rfl, rfl, trivial⟩, z6 rfl⟩)
theorem y86 (c : Clu) (ho : yw c) (a : Acc) (ha : z6p a) : PC Tryz.prog 130 [.one (.p c.cs), .agg a.cs] (rI (y8z c a)) := by
 refine PC.begin Tryz.func130 rfl (by kernel_rfl) ?_
 have hv := q91 _ a.slots (fun x => !(q0u c.cons x.c x.s)) 209 (.p [.p c.cs]) rfl (fun x _ => y5l c ho x) ha.1
 refine z7 rfl (z99 a ha) rfl ⟨⟨trivial, trivial⟩, trivial⟩ ?_
 refine xb rfl (fun b0 => ?_) (fun b0 => ?_)
 refine xr rfl (q7 rfl ⟨⟨rfl, ?_, trivial⟩, z6 rfl⟩)
 rotate_left
 refine z7 rfl (hv) rfl ⟨trivial, (List.forall_mem_cons.2 ⟨⟨trivial, trivial⟩, (fun _ h => nomatch h)⟩), trivial⟩ ?_
 refine xb rfl (fun b1 => ?_) (fun b1 => ?_)
 refine xr rfl (q7 rfl ⟨⟨rfl, ?_, trivial⟩, z6 rfl⟩)
 rotate_left
 refine xr rfl (q7 rfl ⟨⟨rfl, ?_, trivial⟩, z6 rfl⟩)
 rotate_left
 all_goals (refine vi ?_; unfold y8z; clear hv; simp_all; done)
end Go.Proofs.YthljegacamgnnaaGreat
end
section
namespace Go.Proofs.YthljegacamgnnaaGreat
open Go Go.Sx
set_option maxRecDepth 20000
set_option maxHeartbeats 4000000
theorem z28 (us : List Mk) : ∀ row ∈ us.map Mk.cs, row.length = 2 := fun row h => by
 simp at h
 obtain ⟨_, _, rfl⟩ := h; rfl
theorem q6g (us : List Mk) : z00 (us.map Mk.cs) := fun row h => by
 simp only [List.mem_map] at h
 obtain ⟨x, _, rfl⟩ := h
 intro c hc
 simp at hc
 rcases hc with rfl | rfl <;> exact ⟨_, rfl⟩
theorem y8i (c : Clu) (ho : yw c) : PC Tryz.prog 114 [.one (.p c.cs)] (rI (scan (z21 c) c.shs.length)) := by
 refine PC.begin Tryz.func114 rfl (by kernel_rfl) ?_
 have hl := ho.2.1.1
 refine yc rfl (ι := Nat) (fun i => i ≤ c.shs.length ∧ ∀ j, j < i → z21 c j = 0) (fun i => ⟨[(3, sV (.int .i64 i)), (0, .one (.b (.p c.cs)))], []⟩) (fun i => c.shs.length - i) 0 ⟨Nat.zero_le _, fun j hj => by omega⟩ ?_ ?_
 · exact ⟨⟨rfl, rfl, trivial⟩, trivial, rfl⟩
 · intro i ⟨hi, h0⟩ J hJ
   refine xb rfl (fun h => ?_) (fun h => ?_)
   · have h : i < c.shs.length := by simpa using h
     obtain ⟨s, hx⟩ := gx h
     have hg := gm Shd.cs hx
     have hso := ho.2.1.2 s (List.mem_of_getElem? hx)
     obtain ⟨o1, o2, o3, o4, o5, o6⟩ := id hso
     have hF : z21 c i = y8j c i s := by unfold z21; rw [hx]
     refine xs rfl (Int.natCast_nonneg _) ?_
     refine y9 rfl _ hg ?_
     refine xs rfl rfl ?_
     refine z7 rfl (q7l s hso) rfl ⟨⟨trivial, trivial, trivial, trivial, trivial, trivial, trivial⟩, trivial⟩ ?_
     refine xb rfl (fun b0 => ?_) (fun b0 => ?_)
     refine xr rfl (q7 rfl ⟨⟨rfl, ?_, trivial⟩, z6 rfl⟩)
     rotate_left
     refine xb rfl (fun b1 => ?_) (fun b1 => ?_)
     refine xr rfl (q7 rfl ⟨⟨rfl, ?_, trivial⟩, z6 rfl⟩)
     rotate_left
     refine zc rfl [] (.take 1 [] (.take 2 [3, 6, 7] (.take 4 [] (.alt 0 (.alt 3 (.take 5 [6, 7] (.alt 6 (.take 7 [] .done) .nil)) (.alt 5 (.alt 3 (.alt 6 (.take 7 [] .done) .nil) .nil) .nil)) (.alt 5 (.alt 0 (.alt 3 (.alt 6 (.take 7 [] .done) .nil) .nil) .nil) .nil))))) (by kernel_rfl) ?_
     refine q15 rfl ?_ ?_
     refine xs rfl trivial ?_
     refine q15 rfl ?_ ?_
     refine xs rfl rfl ?_
     refine xs rfl (z28 _) ?_
     refine xs rfl (fun _ => q6g _) ?_
     refine xs rfl (by simp; omega) ?_
     refine xs rfl (by simp; omega) ?_
     refine xs rfl (by simp) ?_
     refine xs rfl (z28 _) ?_
     refine xs rfl (fun _ => q6g _) ?_
     refine xs rfl (by simp; omega) ?_
     refine xs rfl (by simp; omega) ?_
     rotate_left
     refine xs rfl rfl ?_
     refine xs rfl (z28 _) ?_
     refine xs rfl (fun _ => q6g _) ?_
     refine xs rfl (by simp; omega) ?_
     refine xs rfl (by simp; omega) ?_
     refine xs rfl (by simp) ?_
     refine xs rfl (z28 _) ?_
     refine xs rfl (fun _ => q6g _) ?_
     refine xs rfl (by simp; omega) ?_
     refine xs rfl (by simp; omega) ?_
     rotate_left
     refine xs rfl trivial ?_
     refine xs rfl rfl ?_
     refine xs rfl (z28 _) ?_
     refine xs rfl (fun _ => q6g _) ?_
     refine xs rfl (by simp; omega) ?_
     refine xs rfl (by simp; omega) ?_
     refine xs rfl (by simp) ?_
     refine xs rfl (z28 _) ?_
     refine xs rfl (fun _ => q6g _) ?_
     refine xs rfl (by simp; omega) ?_
     refine xs rfl (by simp; omega) ?_
     rotate_left
     all_goals first
      | (refine vi (q8 h h0 ?_ (by first | decide | (clear hJ h0; simp_all; done))); clear hJ h0 hg; rw [hF]; unfold y8j; simp_all; done)
      | skip
     · skip
       have hsf : yj s = 0 := by simpa using b0
       have hix : s.idx = i := by simpa using b1
       have hE := y4d (c := c) hsf hix
       have hcon := z2r hsf
       rw [hE] at hF
       obtain ⟨ms, hms⟩ : ∃ ms, ms = s.votes ++ s.done := ⟨_, rfl⟩
       have hml : ms.length ≤ 2097152 := by rw [hms, List.length_append]; omega
       refine yc rfl (ι := Nat) (fun k => k ≤ ms.length ∧ ∀ j y, j < k → ms[j]? = some y → (!(q0u c.cons y.c s.idx)) = false) (fun k => ⟨[(7, sV (.int .i64 k)), (6, .one (.h 35 ms.length)), (4, .one (.a 4 0)), (3, sV (.int .i64 i)), (0, .one (.b (.p c.cs)))], [(35, .arr true 2 0 (ms.map Mk.cs)), (4, .var (s.cs.map .b))]⟩) (fun k => ms.length - k) 0 ⟨Nat.zero_le _, fun j y hj => by omega⟩ ?_ ?_
       · exact ⟨⟨rfl, ⟨rfl, (by rw [hms]; simp), rfl⟩, ⟨rfl, rfl, rfl⟩, rfl, rfl, trivial⟩, ⟨⟨(by rw [hms]; simp), .inl rfl, .inl rfl⟩, ⟨rfl, rfl, rfl, rfl, rfl, rfl, trivial⟩, trivial⟩, rfl⟩
       · intro k ⟨hk, h0k⟩ Jk hJk
         refine xb rfl (fun hh => ?_) (fun hh => ?_)
         · have hh : k < ms.length := by simpa using hh
           have hkl : k < 2097152 := by omega
           obtain ⟨y, hy⟩ := gx hh
           have hgy := gm Mk.cs hy
           refine zc rfl [] (.take 0 [] (.take 1 [] (.take 2 [] (.take 3 [] (.take 4 [] (.take 5 [8, 9] (.take 6 [] (.take 7 [8, 9] (.alt 8 (.take 9 [] .done) .nil))))))))) (by kernel_rfl) ?_
           refine xs rfl (by simp) ?_
           refine xs rfl (Int.natCast_nonneg _) ?_
           refine y9 rfl _ hgy ?_
           refine xs rfl rfl ?_
           refine xs rfl (by simp) ?_
           refine y9 rfl _ hgy ?_
           refine z7 rfl (qv _ (by assumption) _ _) rfl ⟨trivial, trivial, trivial, trivial⟩ ?_
           refine xb rfl (fun b0 => ?_) (fun b0 => ?_)
           refine xr rfl (q7 rfl ⟨⟨rfl, ?_, trivial⟩, z6 rfl⟩)
           rotate_left
           rotate_left
           · refine vi (q8 h h0 ?_ (by decide))
             have ha := yr (p := fun y => !(q0u c.cons y.c s.idx)) hy b0
             rw [hms, List.any_append, hix] at ha
             rw [hF, if_pos ha.symm]
           · exact ya rfl (hJk _ (k + 1) ⟨by omega, qe hy h0k b0⟩ (by omega) ⟨⟨cwi (by omega) (by omega) (by omega), ⟨rfl, rfl, rfl⟩, ⟨rfl, rfl, rfl⟩, rfl, rfl, trivial⟩, ⟨⟨rfl, .inl rfl, .inl rfl⟩, lcr, trivial⟩, rfl⟩)
         · have hh : ¬ k < ms.length := by simpa using hh
           have ha := any_none (zi (by omega) h0k)
           rw [hms, List.any_append, hix] at ha
           rw [if_neg (by rw [← ha]; decide)] at hF
           clear hJk h0k
           refine yc rfl (ι := Nat) (fun k => k ≤ s.held.length ∧ ∀ j y, j < k → s.held[j]? = some y → y2n c y = false) (fun k => ⟨[(8, sV (.int .i64 k)), (4, .one (.a 4 0)), (3, sV (.int .i64 i)), (0, .one (.b (.p c.cs)))], [(4, .var (s.cs.map .b))]⟩) (fun k => s.held.length - k) 0 ⟨Nat.zero_le _, fun j y hj => by omega⟩ ?_ ?_
           · exact ⟨⟨rfl, ⟨rfl, rfl, rfl⟩, rfl, rfl, trivial⟩, ⟨lcr, trivial⟩, rfl⟩
           · intro k ⟨hk, h0k⟩ Jk hJk
             refine xb rfl (fun hh => ?_) (fun hh => ?_)
             · have hh : k < s.held.length := by simpa using hh
               obtain ⟨y, hy⟩ := gx hh
               have hgy := gm Con.cs hy
               have hf := y0d c y.id ho.1.1
               cases hc : z02 c.cons y.id with
               | none =>
                 rw [y1o hc] at hf
                 have hb : y2n c y = true := by unfold y2n; rw [hc]
                 refine xs rfl (Int.natCast_nonneg _) ?_
                 refine y9 rfl _ hgy ?_
                 refine xs rfl rfl ?_
                 refine z7 rfl (hf) rfl ⟨trivial, trivial, trivial⟩ ?_
                 refine zc rfl [] (.take 0 [] (.take 1 [] (.take 2 [] (.take 3 [] (.take 4 [] (.take 5 [] (.take 6 [8, 9, 15, 16, 17] (.take 7 [] (.take 8 [] (.take 9 [15, 16, 17] (.take 10 [] (.take 11 [13, 14, 15, 16, 17] (.take 12 [] (.take 13 [] (.take 14 [15, 16, 17] (.alt 15 (.take 16 [] (.take 17 [] .done)) .nil)))))))))))))))) (by kernel_rfl) ?_
                 refine xj (k := 16) rfl ?_
                 refine xr rfl (q7 rfl ⟨⟨rfl, ?_, trivial⟩, z6 rfl⟩)
                 exact vi (q8 h h0 (by rw [hF, if_pos (yr hy hb).symm]) (by decide))
               | some x =>
                 obtain ⟨q, hq, hqx⟩ := y0t hc
                 rw [hq] at hf
                 have hgq := gm Con.cs hqx
                 have hxl := ho.1.2 x (List.mem_of_find?_eq_some hc)
                 have hb : y2n c y = !(x.same y) := by unfold y2n; rw [hc]
                 refine xs rfl (Int.natCast_nonneg _) ?_
                 refine y9 rfl _ hgy ?_
                 refine xs rfl rfl ?_
                 refine z7 rfl (hf) rfl ⟨trivial, trivial, trivial⟩ ?_
                 refine zc rfl [] (.take 0 [] (.take 1 [] (.take 2 [] (.take 3 [] (.take 4 [] (.take 5 [] (.take 6 [8, 9, 15, 16, 17] (.take 7 [] (.take 8 [] (.take 9 [15, 16, 17] (.take 10 [] (.take 11 [13, 14, 15, 16, 17] (.take 12 [] (.take 13 [] (.take 14 [15, 16, 17] (.alt 15 (.take 16 [] (.take 17 [] .done)) .nil)))))))))))))))) (by kernel_rfl) ?_
                 refine xj (k := 6) rfl ?_
                 refine xs rfl (Int.natCast_nonneg _) ?_
                 refine y9 rfl _ hgq ?_
                 refine xs rfl rfl ?_
                 refine xj (k := 5) rfl ?_
                 refine xs rfl (Int.natCast_nonneg _) ?_
                 refine y9 rfl _ hgy ?_
                 refine xs rfl rfl ?_
                 refine xj (k := 2) rfl ?_
                 refine z7 rfl (q4b x y hxl) rfl ⟨⟨trivial, trivial, trivial⟩, ⟨trivial, trivial, trivial⟩, trivial⟩ ?_
                 refine xj (k := 2) rfl ?_
                 refine xb rfl (fun b0 => ?_) (fun b0 => ?_)
                 refine xr rfl (q7 rfl ⟨⟨rfl, ?_, trivial⟩, z6 rfl⟩)
                 rotate_left
                 rotate_left
                 all_goals first
                  | (exfalso; simp at b0; omega)
                  | exact vi (q8 h h0 (by rw [hF, if_pos (yr hy (hb.trans b0)).symm]) (by decide))
                  | exact ya rfl (hJk _ (k + 1) ⟨by omega, qe hy h0k (hb.trans b0)⟩ (by omega) ⟨⟨cwi (by omega) (by omega) (by omega), ⟨rfl, rfl, rfl⟩, rfl, rfl, trivial⟩, ⟨lcr, trivial⟩, rfl⟩)
             · have hh : ¬ k < s.held.length := by simpa using hh
               have hz := any_none (zi (by omega) h0k)
               rw [if_neg (by rw [← hz]; decide)] at hF
               skip
               exact ya rfl (hJ _ (i + 1) ⟨by omega, qa h0 hF⟩ (by omega) ⟨⟨cwi (by omega) (by omega) (by omega), rfl, trivial⟩, trivial, rfl⟩)
     · skip
       have hsf : yj s = 0 := by simpa using b0
       have hix : s.idx = i := by simpa using b1
       have hE := y4d (c := c) hsf hix
       have hcon := z2r hsf
       rw [hE] at hF
       obtain ⟨ms, hms⟩ : ∃ ms, ms = s.votes ++ s.done := ⟨_, rfl⟩
       have hml : ms.length ≤ 2097152 := by rw [hms, List.length_append]; omega
       refine yc rfl (ι := Nat) (fun k => k ≤ ms.length ∧ ∀ j y, j < k → ms[j]? = some y → (!(q0u c.cons y.c s.idx)) = false) (fun k => ⟨[(7, sV (.int .i64 k)), (6, .one (.h 35 ms.length)), (4, .one (.a 4 0)), (3, sV (.int .i64 i)), (0, .one (.b (.p c.cs)))], [(35, .arr true 2 0 (ms.map Mk.cs)), (4, .var (s.cs.map .b))]⟩) (fun k => ms.length - k) 0 ⟨Nat.zero_le _, fun j y hj => by omega⟩ ?_ ?_
       · exact ⟨⟨rfl, ⟨rfl, (by rw [hms]; simp), rfl⟩, ⟨rfl, rfl, rfl⟩, rfl, rfl, trivial⟩, ⟨⟨(by rw [hms]; simp), .inl rfl, .inl rfl⟩, ⟨rfl, rfl, rfl, rfl, rfl, rfl, trivial⟩, trivial⟩, rfl⟩
       · intro k ⟨hk, h0k⟩ Jk hJk
         refine xb rfl (fun hh => ?_) (fun hh => ?_)
         · have hh : k < ms.length := by simpa using hh
           have hkl : k < 2097152 := by omega
           obtain ⟨y, hy⟩ := gx hh
           have hgy := gm Mk.cs hy
           refine zc rfl [] (.take 0 [] (.take 1 [] (.take 2 [] (.take 3 [] (.take 4 [] (.take 5 [8, 9] (.take 6 [] (.take 7 [8, 9] (.alt 8 (.take 9 [] .done) .nil))))))))) (by kernel_rfl) ?_
           refine xs rfl (by simp) ?_
           refine xs rfl (Int.natCast_nonneg _) ?_
           refine y9 rfl _ hgy ?_
           refine xs rfl rfl ?_
           refine xs rfl (by simp) ?_
           refine y9 rfl _ hgy ?_
           refine z7 rfl (qv _ (by assumption) _ _) rfl ⟨trivial, trivial, trivial, trivial⟩ ?_
           refine xb rfl (fun b0 => ?_) (fun b0 => ?_)
           refine xr rfl (q7 rfl ⟨⟨rfl, ?_, trivial⟩, z6 rfl⟩)
           rotate_left
           rotate_left
           · refine vi (q8 h h0 ?_ (by decide))
             have ha := yr (p := fun y => !(q0u c.cons y.c s.idx)) hy b0
             rw [hms, List.any_append, hix] at ha
             rw [hF, if_pos ha.symm]
           · exact ya rfl (hJk _ (k + 1) ⟨by omega, qe hy h0k b0⟩ (by omega) ⟨⟨cwi (by omega) (by omega) (by omega), ⟨rfl, rfl, rfl⟩, ⟨rfl, rfl, rfl⟩, rfl, rfl, trivial⟩, ⟨⟨rfl, .inl rfl, .inl rfl⟩, lcr, trivial⟩, rfl⟩)
         · have hh : ¬ k < ms.length := by simpa using hh
           have ha := any_none (zi (by omega) h0k)
           rw [hms, List.any_append, hix] at ha
           rw [if_neg (by rw [← ha]; decide)] at hF
           clear hJk h0k
           refine yc rfl (ι := Nat) (fun k => k ≤ s.held.length ∧ ∀ j y, j < k → s.held[j]? = some y → y2n c y = false) (fun k => ⟨[(8, sV (.int .i64 k)), (4, .one (.a 4 0)), (3, sV (.int .i64 i)), (0, .one (.b (.p c.cs)))], [(4, .var (s.cs.map .b))]⟩) (fun k => s.held.length - k) 0 ⟨Nat.zero_le _, fun j y hj => by omega⟩ ?_ ?_
           · exact ⟨⟨rfl, ⟨rfl, rfl, rfl⟩, rfl, rfl, trivial⟩, ⟨lcr, trivial⟩, rfl⟩
           · intro k ⟨hk, h0k⟩ Jk hJk
             refine xb rfl (fun hh => ?_) (fun hh => ?_)
             · have hh : k < s.held.length := by simpa using hh
               obtain ⟨y, hy⟩ := gx hh
               have hgy := gm Con.cs hy
               have hf := y0d c y.id ho.1.1
               cases hc : z02 c.cons y.id with
               | none =>
                 rw [y1o hc] at hf
                 have hb : y2n c y = true := by unfold y2n; rw [hc]
                 refine xs rfl (Int.natCast_nonneg _) ?_
                 refine y9 rfl _ hgy ?_
                 refine xs rfl rfl ?_
                 refine z7 rfl (hf) rfl ⟨trivial, trivial, trivial⟩ ?_
                 refine zc rfl [] (.take 0 [] (.take 1 [] (.take 2 [] (.take 3 [] (.take 4 [] (.take 5 [] (.take 6 [8, 9, 15, 16, 17] (.take 7 [] (.take 8 [] (.take 9 [15, 16, 17] (.take 10 [] (.take 11 [13, 14, 15, 16, 17] (.take 12 [] (.take 13 [] (.take 14 [15, 16, 17] (.alt 15 (.take 16 [] (.take 17 [] .done)) .nil)))))))))))))))) (by kernel_rfl) ?_
                 refine xj (k := 16) rfl ?_
                 refine xr rfl (q7 rfl ⟨⟨rfl, ?_, trivial⟩, z6 rfl⟩)
                 exact vi (q8 h h0 (by rw [hF, if_pos (yr hy hb).symm]) (by decide))
               | some x =>
                 obtain ⟨q, hq, hqx⟩ := y0t hc
                 rw [hq] at hf
                 have hgq := gm Con.cs hqx
                 have hxl := ho.1.2 x (List.mem_of_find?_eq_some hc)
                 have hb : y2n c y = !(x.same y) := by unfold y2n; rw [hc]
                 refine xs rfl (Int.natCast_nonneg _) ?_
                 refine y9 rfl _ hgy ?_
                 refine xs rfl rfl ?_
                 refine z7 rfl (hf) rfl ⟨trivial, trivial, trivial⟩ ?_
                 refine zc rfl [] (.take 0 [] (.take 1 [] (.take 2 [] (.take 3 [] (.take 4 [] (.take 5 [] (.take 6 [8, 9, 15, 16, 17] (.take 7 [] (.take 8 [] (.take 9 [15, 16, 17] (.take 10 [] (.take 11 [13, 14, 15, 16, 17] (.take 12 [] (.take 13 [] (.take 14 [15, 16, 17] (.alt 15 (.take 16 [] (.take 17 [] .done)) .nil)))))))))))))))) (by kernel_rfl) ?_
                 refine xj (k := 6) rfl ?_
                 refine xs rfl (Int.natCast_nonneg _) ?_
                 refine y9 rfl _ hgq ?_
                 refine xs rfl rfl ?_
                 refine xj (k := 5) rfl ?_
                 refine xs rfl (Int.natCast_nonneg _) ?_
                 refine y9 rfl _ hgy ?_
                 refine xs rfl rfl ?_
                 refine xj (k := 2) rfl ?_
                 refine z7 rfl (q4b x y hxl) rfl ⟨⟨trivial, trivial, trivial⟩, ⟨trivial, trivial, trivial⟩, trivial⟩ ?_
                 refine xj (k := 2) rfl ?_
                 refine xb rfl (fun b0 => ?_) (fun b0 => ?_)
                 refine xr rfl (q7 rfl ⟨⟨rfl, ?_, trivial⟩, z6 rfl⟩)
                 rotate_left
                 rotate_left
                 all_goals first
                  | (exfalso; simp at b0; omega)
                  | exact vi (q8 h h0 (by rw [hF, if_pos (yr hy (hb.trans b0)).symm]) (by decide))
                  | exact ya rfl (hJk _ (k + 1) ⟨by omega, qe hy h0k (hb.trans b0)⟩ (by omega) ⟨⟨cwi (by omega) (by omega) (by omega), ⟨rfl, rfl, rfl⟩, rfl, rfl, trivial⟩, ⟨lcr, trivial⟩, rfl⟩)
             · have hh : ¬ k < s.held.length := by simpa using hh
               have hz := any_none (zi (by omega) h0k)
               rw [if_neg (by rw [← hz]; decide)] at hF
               skip
               exact ya rfl (hJ _ (i + 1) ⟨by omega, qa h0 hF⟩ (by omega) ⟨⟨cwi (by omega) (by omega) (by omega), rfl, trivial⟩, trivial, rfl⟩)
     · skip
       have hsf : yj s = 0 := by simpa using b0
       have hix : s.idx = i := by simpa using b1
       have hE := y4d (c := c) hsf hix
       have hcon := z2r hsf
       rw [hE] at hF
       obtain ⟨ms, hms⟩ : ∃ ms, ms = s.votes ++ s.done := ⟨_, rfl⟩
       have hml : ms.length ≤ 2097152 := by rw [hms, List.length_append]; omega
       refine yc rfl (ι := Nat) (fun k => k ≤ ms.length ∧ ∀ j y, j < k → ms[j]? = some y → (!(q0u c.cons y.c s.idx)) = false) (fun k => ⟨[(7, sV (.int .i64 k)), (6, .one (.h 35 ms.length)), (4, .one (.a 4 0)), (3, sV (.int .i64 i)), (0, .one (.b (.p c.cs)))], [(35, .arr true 2 0 (ms.map Mk.cs)), (4, .var (s.cs.map .b))]⟩) (fun k => ms.length - k) 0 ⟨Nat.zero_le _, fun j y hj => by omega⟩ ?_ ?_
       · exact ⟨⟨rfl, ⟨rfl, (by rw [hms]; simp), rfl⟩, ⟨rfl, rfl, rfl⟩, rfl, rfl, trivial⟩, ⟨⟨(by rw [hms]; simp), .inl rfl, .inl rfl⟩, ⟨rfl, rfl, rfl, rfl, rfl, rfl, trivial⟩, trivial⟩, rfl⟩
       · intro k ⟨hk, h0k⟩ Jk hJk
         refine xb rfl (fun hh => ?_) (fun hh => ?_)
         · have hh : k < ms.length := by simpa using hh
           have hkl : k < 2097152 := by omega
           obtain ⟨y, hy⟩ := gx hh
           have hgy := gm Mk.cs hy
           refine zc rfl [] (.take 0 [] (.take 1 [] (.take 2 [] (.take 3 [] (.take 4 [] (.take 5 [8, 9] (.take 6 [] (.take 7 [8, 9] (.alt 8 (.take 9 [] .done) .nil))))))))) (by kernel_rfl) ?_
           refine xs rfl (by simp) ?_
           refine xs rfl (Int.natCast_nonneg _) ?_
           refine y9 rfl _ hgy ?_
           refine xs rfl rfl ?_
           refine xs rfl (by simp) ?_
           refine y9 rfl _ hgy ?_
           refine z7 rfl (qv _ (by assumption) _ _) rfl ⟨trivial, trivial, trivial, trivial⟩ ?_
           refine xb rfl (fun b0 => ?_) (fun b0 => ?_)
           refine xr rfl (q7 rfl ⟨⟨rfl, ?_, trivial⟩, z6 rfl⟩)
           rotate_left
           rotate_left
           · refine vi (q8 h h0 ?_ (by decide))
             have ha := yr (p := fun y => !(q0u c.cons y.c s.idx)) hy b0
             rw [hms, List.any_append, hix] at ha
             rw [hF, if_pos ha.symm]
           · exact ya rfl (hJk _ (k + 1) ⟨by omega, qe hy h0k b0⟩ (by omega) ⟨⟨cwi (by omega) (by omega) (by omega), ⟨rfl, rfl, rfl⟩, ⟨rfl, rfl, rfl⟩, rfl, rfl, trivial⟩, ⟨⟨rfl, .inl rfl, .inl rfl⟩, lcr, trivial⟩, rfl⟩)
         · have hh : ¬ k < ms.length := by simpa using hh
           have ha := any_none (zi (by omega) h0k)
           rw [hms, List.any_append, hix] at ha
           rw [if_neg (by rw [← ha]; decide)] at hF
           clear hJk h0k
           refine yc rfl (ι := Nat) (fun k => k ≤ s.held.length ∧ ∀ j y, j < k → s.held[j]? = some y → y2n c y = false) (fun k => ⟨[(8, sV (.int .i64 k)), (4, .one (.a 4 0)), (3, sV (.int .i64 i)), (0, .one (.b (.p c.cs)))], [(4, .var (s.cs.map .b))]⟩) (fun k => s.held.length - k) 0 ⟨Nat.zero_le _, fun j y hj => by omega⟩ ?_ ?_
           · exact ⟨⟨rfl, ⟨rfl, rfl, rfl⟩, rfl, rfl, trivial⟩, ⟨lcr, trivial⟩, rfl⟩
           · intro k ⟨hk, h0k⟩ Jk hJk
             refine xb rfl (fun hh => ?_) (fun hh => ?_)
             · have hh : k < s.held.length := by simpa using hh
               obtain ⟨y, hy⟩ := gx hh
               have hgy := gm Con.cs hy
               have hf := y0d c y.id ho.1.1
               cases hc : z02 c.cons y.id with
               | none =>
                 rw [y1o hc] at hf
                 have hb : y2n c y = true := by unfold y2n; rw [hc]
                 refine xs rfl (Int.natCast_nonneg _) ?_
                 refine y9 rfl _ hgy ?_
                 refine xs rfl rfl ?_
                 refine z7 rfl (hf) rfl ⟨trivial, trivial, trivial⟩ ?_
                 refine zc rfl [] (.take 0 [] (.take 1 [] (.take 2 [] (.take 3 [] (.take 4 [] (.take 5 [] (.take 6 [8, 9, 15, 16, 17] (.take 7 [] (.take 8 [] (.take 9 [15, 16, 17] (.take 10 [] (.take 11 [13, 14, 15, 16, 17] (.take 12 [] (.take 13 [] (.take 14 [15, 16, 17] (.alt 15 (.take 16 [] (.take 17 [] .done)) .nil)))))))))))))))) (by kernel_rfl) ?_
                 refine xj (k := 16) rfl ?_
                 refine xr rfl (q7 rfl ⟨⟨rfl, ?_, trivial⟩, z6 rfl⟩)
                 exact vi (q8 h h0 (by rw [hF, if_pos (yr hy hb).symm]) (by decide))
               | some x =>
                 obtain ⟨q, hq, hqx⟩ := y0t hc
                 rw [hq] at hf
                 have hgq := gm Con.cs hqx
                 have hxl := ho.1.2 x (List.mem_of_find?_eq_some hc)
                 have hb : y2n c y = !(x.same y) := by unfold y2n; rw [hc]
                 refine xs rfl (Int.natCast_nonneg _) ?_
                 refine y9 rfl _ hgy ?_
                 refine xs rfl rfl ?_
                 refine z7 rfl (hf) rfl ⟨trivial, trivial, trivial⟩ ?_
                 refine zc rfl [] (.take 0 [] (.take 1 [] (.take 2 [] (.take 3 [] (.take 4 [] (.take 5 [] (.take 6 [8, 9, 15, 16, 17] (.take 7 [] (.take 8 [] (.take 9 [15, 16, 17] (.take 10 [] (.take 11 [13, 14, 15, 16, 17] (.take 12 [] (.take 13 [] (.take 14 [15, 16, 17] (.alt 15 (.take 16 [] (.take 17 [] .done)) .nil)))))))))))))))) (by kernel_rfl) ?_
                 refine xj (k := 6) rfl ?_
                 refine xs rfl (Int.natCast_nonneg _) ?_
                 refine y9 rfl _ hgq ?_
                 refine xs rfl rfl ?_
                 refine xj (k := 5) rfl ?_
                 refine xs rfl (Int.natCast_nonneg _) ?_
                 refine y9 rfl _ hgy ?_
                 refine xs rfl rfl ?_
                 refine xj (k := 2) rfl ?_
                 refine z7 rfl (q4b x y hxl) rfl ⟨⟨trivial, trivial, trivial⟩, ⟨trivial, trivial, trivial⟩, trivial⟩ ?_
                 refine xj (k := 2) rfl ?_
                 refine xb rfl (fun b0 => ?_) (fun b0 => ?_)
                 refine xr rfl (q7 rfl ⟨⟨rfl, ?_, trivial⟩, z6 rfl⟩)
                 rotate_left
                 rotate_left
                 all_goals first
                  | (exfalso; simp at b0; omega)
                  | exact vi (q8 h h0 (by rw [hF, if_pos (yr hy (hb.trans b0)).symm]) (by decide))
                  | exact ya rfl (hJk _ (k + 1) ⟨by omega, qe hy h0k (hb.trans b0)⟩ (by omega) ⟨⟨cwi (by omega) (by omega) (by omega), ⟨rfl, rfl, rfl⟩, rfl, rfl, trivial⟩, ⟨lcr, trivial⟩, rfl⟩)
             · have hh : ¬ k < s.held.length := by simpa using hh
               have hz := any_none (zi (by omega) h0k)
               rw [if_neg (by rw [← hz]; decide)] at hF
               skip
               exact ya rfl (hJ _ (i + 1) ⟨by omega, qa h0 hF⟩ (by omega) ⟨⟨cwi (by omega) (by omega) (by omega), rfl, trivial⟩, trivial, rfl⟩)
   · have h : ¬ i < c.shs.length := by simpa using h
     have hz := qf (f := z21 c) (n := c.shs.length) (fun j hj => h0 j (by omega))
     refine xr rfl (q7 rfl ⟨⟨rfl, ?_, trivial⟩, z6 rfl⟩)
     exact vi (hz.symm)
theorem y8g (c : Clu) (ho : yw c) : PC Tryz.prog 115 [.one (.p c.cs)] (rI (scan (q2j c) c.accs.length)) := by
 refine PC.begin Tryz.func115 rfl (by kernel_rfl) ?_
 have hl := ho.2.2.1.1
 refine yc rfl (ι := Nat) (fun i => i ≤ c.accs.length ∧ ∀ j, j < i → q2j c j = 0) (fun i => ⟨[(3, sV (.int .i64 i)), (0, .one (.b (.p c.cs)))], []⟩) (fun i => c.accs.length - i) 0 ⟨Nat.zero_le _, fun j hj => by omega⟩ ?_ ?_
 · exact ⟨⟨rfl, rfl, trivial⟩, trivial, rfl⟩
 · intro i ⟨hi, h0⟩ J hJ
   refine xb rfl (fun h => ?_) (fun h => ?_)
   · have h : i < c.accs.length := by simpa using h
     obtain ⟨a, hx⟩ := gx h
     have hg := gm Acc.cs hx
     have hao := ho.2.2.1.2 a (List.mem_of_getElem? hx)
     have hF : q2j c i = y8z c a := by unfold q2j; rw [hx]
     have hal := hao.1
     refine xs rfl (Int.natCast_nonneg _) ?_
     refine y9 rfl _ hg ?_
     refine xs rfl rfl ?_
     refine z7 rfl (y9m a hao) rfl ⟨⟨trivial, trivial⟩, trivial⟩ ?_
     refine xb rfl (fun b0 => ?_) (fun b0 => ?_)
     refine xr rfl (q7 rfl ⟨⟨rfl, ?_, trivial⟩, z6 rfl⟩)
     rotate_left
     rotate_left
     all_goals first
      | (refine vi (q8 h h0 ?_ (by first | decide | (clear hJ h0; simp_all; done))); clear hJ h0 hg; rw [hF]; unfold y8z; simp_all; done)
      | skip
     have haf : a.fault = 0 := by simpa using b0
     unfold y8z at hF
     rw [if_neg (by simpa using haf)] at hF
     refine yc rfl (ι := Nat) (fun k => k ≤ a.slots.length ∧ ∀ j y, j < k → a.slots[j]? = some y → (!(q0u c.cons y.c y.s)) = false) (fun k => ⟨[(5, sV (.int .i64 k)), (3, sV (.int .i64 i)), (0, .one (.b (.p c.cs)))], []⟩) (fun k => a.slots.length - k) 0 ⟨Nat.zero_le _, fun j y hj => by omega⟩ ?_ ?_
     · exact ⟨⟨rfl, rfl, rfl, trivial⟩, trivial, rfl⟩
     · intro k ⟨hk, h0k⟩ Jk hJk
       refine xs rfl (Int.natCast_nonneg _) ?_
       refine y9 rfl _ hg ?_
       refine xs rfl rfl ?_
       refine xb rfl (fun hh => ?_) (fun hh => ?_)
       · have hh : k < a.slots.length := by simpa using hh
         obtain ⟨y, hy⟩ := gx hh
         have hgy := gm Slt.cs hy
         refine xs rfl (Int.natCast_nonneg _) ?_
         refine y9 rfl _ hg ?_
         refine xs rfl rfl ?_
         refine xs rfl (Int.natCast_nonneg _) ?_
         refine y9 rfl _ hgy ?_
         refine xs rfl rfl ?_
         refine z7 rfl (qv _ (by assumption) _ _) rfl ⟨trivial, trivial, trivial, trivial⟩ ?_
         refine xb rfl (fun b0 => ?_) (fun b0 => ?_)
         refine xr rfl (q7 rfl ⟨⟨rfl, ?_, trivial⟩, z6 rfl⟩)
         rotate_left
         rotate_left
         · exact vi (q8 h h0 (by rw [hF, if_pos (yr hy b0).symm]) (by decide))
         · exact ya rfl (hJk _ (k + 1) ⟨by omega, qe hy h0k b0⟩ (by omega) ⟨⟨cwi (by omega) (by omega) (by omega), rfl, rfl, trivial⟩, trivial, rfl⟩)
       · have hh : ¬ k < a.slots.length := by simpa using hh
         have hz := any_none (zi (by omega) h0k)
         rw [if_neg (by rw [← hz]; decide)] at hF
         skip
         exact ya rfl (hJ _ (i + 1) ⟨by omega, qa h0 hF⟩ (by omega) ⟨⟨cwi (by omega) (by omega) (by omega), rfl, trivial⟩, trivial, rfl⟩)
   · have h : ¬ i < c.accs.length := by simpa using h
     have hz := qf (f := q2j c) (n := c.accs.length) (fun j hj => h0 j (by omega))
     refine xr rfl (q7 rfl ⟨⟨rfl, ?_, trivial⟩, z6 rfl⟩)
     exact vi (hz.symm)
end Go.Proofs.YthljegacamgnnaaGreat
end
section
namespace Go.Proofs.YthljegacamgnnaaGreat
open Go Go.Sx
set_option maxRecDepth 20000
set_option maxHeartbeats 4000000
theorem za3 (rr : List (List Cell)) (us : List Vt) (p : Vt → Bool) (fn : Nat) (hr : rr = us.map Vt.cs) (hf : ∀ x ∈ us, PC Tryz.prog fn [.agg x.cs] (rB (p x))) (hl : us.length ≤ 1048576) : PC Tryz.prog 332 [.one (.l rr), .one (.f fn [])] (rI (q0a p us)) := by
 refine PC.begin Tryz.func332 rfl (by kernel_rfl) ?_
 subst hr
 have hn : (us.map Vt.cs).length = us.length := by simp
 refine yc rfl (ι := Nat) (fun i => i ≤ us.length ∧ ∀ j y, j < i → us[j]? = some y → p y = false) (fun i => ⟨[(8, sV (.int .i64 i)), (7, sV (.int .i64 (us.map Vt.cs).length)), (0, .one (.b (.l (us.map Vt.cs)))), (1, .one (.b (.f fn [])))], []⟩) (fun i => us.length - i) 0 ⟨Nat.zero_le _, fun j y hj => by omega⟩ ?_ ?_
 · exact ⟨⟨rfl, rfl, rfl, rfl, trivial⟩, trivial, rfl⟩
 · intro i ⟨hi, h0⟩ J hJ
   refine xb rfl (fun h => ?_) (fun h => ?_)
   · have h : i < us.length := by simpa using h
     obtain ⟨x, hx⟩ := gx h
     have hg := gm Vt.cs hx
     have hxm := List.mem_of_getElem? hx
     refine xs rfl (Int.natCast_nonneg _) ?_
     refine y9 rfl _ hg ?_
     refine xs rfl rfl ?_
     refine z7 rfl (hf _ hxm) rfl ⟨⟨trivial, trivial, trivial⟩, trivial⟩ ?_
     refine xb rfl (fun b0 => ?_) (fun b0 => ?_)
     refine xr rfl (q7 rfl ⟨⟨rfl, ?_, trivial⟩, z6 rfl⟩)
     rotate_left
     rotate_left
     · exact vi (zz hx h0 b0).symm
     · exact ya rfl (hJ _ (i + 1) ⟨by omega, qe hx h0 b0⟩ (by omega) ⟨⟨cwi (by omega) (by omega) (by omega), rfl, rfl, rfl, trivial⟩, trivial, rfl⟩)
   · have h : ¬ i < us.length := by simpa using h
     refine xr rfl (q7 rfl ⟨⟨rfl, ?_, trivial⟩, z6 rfl⟩)
     exact vi (zt (zi (by omega) h0)).symm
theorem y9y (rr : List (List Cell)) (us : List Vt) (p : Vt → Bool) (fn : Nat) (hr : rr = us.map Vt.cs) (hf : ∀ x ∈ us, PC Tryz.prog fn [.agg x.cs] (rB (p x))) (hl : us.length ≤ 1048576) : PC Tryz.prog 318 [.one (.l rr), .one (.f fn [])] (rB (us.any p)) := by
 refine PC.begin Tryz.func318 rfl (by kernel_rfl) ?_
 have hi := za3 rr us p fn hr hf hl
 refine z7 rfl (hi) rfl ⟨trivial, trivial, trivial⟩ ?_
 refine xr rfl (q7 rfl ⟨⟨rfl, ?_, trivial⟩, z6 rfl⟩)
 exact vb q09
theorem q9a (rr : List (List Cell)) (us : List Int) (p : Int → Bool) (fn : Nat) (c0 : Cell) (hr : rr = ints us) (hf : ∀ x ∈ us, PC Tryz.prog fn [.one (i64 x), .one c0] (rB (p x))) (hl : us.length ≤ 1048576) : PC Tryz.prog 168 [.one (.l rr), .one (.f fn [c0])] (rI (q0a p us)) := by
 refine PC.begin Tryz.func168 rfl (by kernel_rfl) ?_
 subst hr
 have hn : (ints us).length = us.length := by simp
 refine yc rfl (ι := Nat) (fun i => i ≤ us.length ∧ ∀ j y, j < i → us[j]? = some y → p y = false) (fun i => ⟨[(8, sV (.int .i64 i)), (7, sV (.int .i64 (ints us).length)), (0, .one (.b (.l (ints us)))), (1, .one (.b (.f fn [c0])))], []⟩) (fun i => us.length - i) 0 ⟨Nat.zero_le _, fun j y hj => by omega⟩ ?_ ?_
 · exact ⟨⟨rfl, rfl, rfl, rfl, trivial⟩, trivial, rfl⟩
 · intro i ⟨hi, h0⟩ J hJ
   refine xb rfl (fun h => ?_) (fun h => ?_)
   · have h : i < us.length := by simpa using h
     obtain ⟨x, hx⟩ := gx h
     have hg := gm (fun n => [i64 n]) hx
     have hxm := List.mem_of_getElem? hx
     refine xs rfl (Int.natCast_nonneg _) ?_
     refine y9 rfl _ hg ?_
     refine xs rfl rfl ?_
     refine z7 rfl (hf _ hxm) rfl ⟨trivial, trivial, trivial⟩ ?_
     refine xb rfl (fun b0 => ?_) (fun b0 => ?_)
     refine xr rfl (q7 rfl ⟨⟨rfl, ?_, trivial⟩, z6 rfl⟩)
     rotate_left
     rotate_left
     · exact vi (zz hx h0 b0).symm
     · exact ya rfl (hJ _ (i + 1) ⟨by omega, qe hx h0 b0⟩ (by omega) ⟨⟨cwi (by omega) (by omega) (by omega), rfl, rfl, rfl, trivial⟩, trivial, rfl⟩)
   · have h : ¬ i < us.length := by simpa using h
     refine xr rfl (q7 rfl ⟨⟨rfl, ?_, trivial⟩, z6 rfl⟩)
     exact vi (zt (zi (by omega) h0)).symm
theorem q90 (rr : List (List Cell)) (us : List Int) (p : Int → Bool) (fn : Nat) (c0 : Cell) (hr : rr = ints us) (hf : ∀ x ∈ us, PC Tryz.prog fn [.one (i64 x), .one c0] (rB (p x))) (hl : us.length ≤ 1048576) : PC Tryz.prog 170 [.one (.l rr), .one (.f fn [c0])] (rB (us.any p)) := by
 refine PC.begin Tryz.func170 rfl (by kernel_rfl) ?_
 have hi := q9a rr us p fn c0 hr hf hl
 refine z7 rfl (hi) rfl ⟨trivial, trivial, trivial⟩ ?_
 refine xr rfl (q7 rfl ⟨⟨rfl, ?_, trivial⟩, z6 rfl⟩)
 exact vb q09
theorem y76 (us : List Int) (v : Int) (rr : List (List Cell)) (hr : rr = ints us) (hl : us.length ≤ 1048576) : PC Tryz.prog 233 [.one (.l rr), .one (i64 v)] (rI (q0a (fun y => y == v) us)) := by
 refine PC.begin Tryz.func233 rfl (by kernel_rfl) ?_
 subst hr
 have hn : (ints us).length = us.length := by simp
 refine yc rfl (ι := Nat) (fun i => i ≤ us.length ∧ ∀ j y, j < i → us[j]? = some y → (y == v) = false) (fun i => ⟨[(8, sV (.int .i64 i)), (7, sV (.int .i64 (ints us).length)), (0, .one (.b (.l (ints us)))), (1, sV (.int .i64 v))], []⟩) (fun i => us.length - i) 0 ⟨Nat.zero_le _, fun j y hj => by omega⟩ ?_ ?_
 · exact ⟨⟨rfl, rfl, rfl, rfl, trivial⟩, trivial, rfl⟩
 · intro i ⟨hi, h0⟩ J hJ
   refine xb rfl (fun h => ?_) (fun h => ?_)
   · have h : i < us.length := by simpa using h
     obtain ⟨x, hx⟩ := gx h
     have hg := gm (fun n => [i64 n]) hx
     refine xs rfl (Int.natCast_nonneg _) ?_
     refine y9 rfl _ hg ?_
     refine xs rfl rfl ?_
     refine xb rfl (fun b0 => ?_) (fun b0 => ?_)
     refine xr rfl (q7 rfl ⟨⟨rfl, ?_, trivial⟩, z6 rfl⟩)
     rotate_left
     rotate_left
     · exact vi (zz hx h0 (by rw [beq_iff_eq] at b0 ⊢; exact b0.symm)).symm
     · exact ya rfl (hJ _ (i + 1) ⟨by omega, qe hx h0 (by rw [beq_eq_false_iff_ne] at b0 ⊢; exact fun e => b0 e.symm)⟩ (by omega) ⟨⟨cwi (by omega) (by omega) (by omega), rfl, rfl, rfl, trivial⟩, trivial, rfl⟩)
   · have h : ¬ i < us.length := by simpa using h
     refine xr rfl (q7 rfl ⟨⟨rfl, ?_, trivial⟩, z6 rfl⟩)
     exact vi (zt (p := fun y => y == v) (zi (by omega) h0)).symm
theorem q73 (us : List Int) (v : Int) (rr : List (List Cell)) (hr : rr = ints us) (hl : us.length ≤ 1048576) : PC Tryz.prog 235 [.one (.l rr), .one (i64 v)] (rB (us.any fun y => y == v)) := by
 refine PC.begin Tryz.func235 rfl (by kernel_rfl) ?_
 refine z7 rfl (y76 us v _ hr hl) rfl ⟨trivial, trivial, trivial⟩ ?_
 refine xr rfl (q7 rfl ⟨⟨rfl, ?_, trivial⟩, z6 rfl⟩)
 exact vb q09
theorem z5l (c : Clu) (ho : yw c) (p : Int) : PC Tryz.prog 316 [.one (i64 p), .one (.p [.p c.cs])] (rB (y1n c p)) := by
 refine PC.begin Tryz.func316 rfl (by kernel_rfl) ?_
 have q2 := ho.2.2.1.1
 have p2 : (c.accs.map Acc.cs).length ≤ 1048576 := by simpa using q2
 refine z7 rfl (q0c _ _ (by assumption)) rfl ⟨trivial, trivial, trivial⟩ ?_
 refine xr rfl (q7 rfl ⟨⟨rfl, ?_, trivial⟩, z6 rfl⟩)
 all_goals (refine vb ?_; unfold y1n; rw [List.length_map])
theorem q8m (x : Vt) : PC Tryz.prog 317 [.agg x.cs] (rB (q0n x)) := by
 refine PC.begin Tryz.func317 rfl (by kernel_rfl) ?_
 refine zc rfl [] (.take 0 [2, 3, 4, 5, 6, 7, 8] (.alt 1 (.take 2 [] (.take 3 [] (.take 4 [5, 6, 7, 8] (.alt 5 (.take 6 [] (.take 7 [] (.take 8 [] .done))) .nil)))) .nil)) (by kernel_rfl) ?_
 refine z7 rfl (z31) rfl trivial ?_
 refine xb rfl (fun b0 => ?_) (fun b0 => ?_)
 refine xj (k := 1) rfl ?_
 refine z7 rfl (z1w _) rfl ⟨⟨trivial, trivial, trivial⟩, trivial⟩ ?_
 refine xj (k := 2) rfl ?_
 refine xr rfl (q7 rfl ⟨⟨rfl, ?_, trivial⟩, z6 rfl⟩)
 rotate_left
 refine xj (k := 3) rfl ?_
 refine xr rfl (q7 rfl ⟨⟨rfl, ?_, trivial⟩, z6 rfl⟩)
 rotate_left
 all_goals (refine vb ?_; simp_all [q0n, q1t, Vt.none])
theorem z2z (us : List Int) (k : Nat) : List.drop (none.getD 0 : Int).toNat (List.take ((some (k : Int)).getD ((ints us).length : Int)).toNat (ints us)) = ints (us.take k) := by
 simp [ints, List.map_take]
theorem y5o (c : Clu) (ho : yw c) (t : Tr) (ht : z9w t) : PC Tryz.prog 272 [.one (.p c.cs), .agg t.cs] (rI (if t.fr.length != t.olds.length then 1 else q6n c t)) := by
 refine PC.begin Tryz.func272 rfl (by kernel_rfl) ?_
 obtain ⟨o1, o2⟩ := ht
 have hf := q90 _ t.fr (y1n c) 316 (.p [.p c.cs]) rfl (fun x _ => z5l c ho x) o1
 have hw := y9y _ t.olds q0n 317 rfl (fun x _ => q8m x) o2
 refine xb rfl (fun h0 => ?_) (fun h0 => ?_)
 · have h0 : ¬ t.fr.length = t.olds.length := by simp at h0; omega
   rw [if_pos (by simpa using h0)]
   refine xr rfl (q7 rfl ⟨⟨rfl, rfl, trivial⟩, z6 rfl⟩)
 · have h0 : t.fr.length = t.olds.length := by simp at h0; omega
   rw [if_neg (by simpa using h0)]
   refine z7 rfl (hf) rfl ⟨trivial, (List.forall_mem_cons.2 ⟨⟨trivial, trivial⟩, (fun _ h => nomatch h)⟩), trivial⟩ ?_
   refine xb rfl (fun b0 => ?_) (fun b0 => ?_)
   refine xj (k := 5) rfl ?_
   refine xr rfl (q7 rfl ⟨⟨rfl, ?_, trivial⟩, z6 rfl⟩)
   rotate_left
   refine xj (k := 3) rfl ?_
   refine z7 rfl (hw) rfl ⟨trivial, (fun _ h => nomatch h), trivial⟩ ?_
   refine xj (k := 1) rfl ?_
   refine xb rfl (fun b1 => ?_) (fun b1 => ?_)
   refine xr rfl (q7 rfl ⟨⟨rfl, ?_, trivial⟩, z6 rfl⟩)
   rotate_left
   rotate_left
   all_goals first | (refine vi ?_; clear hf hw; unfold q6n; simp_all; done) | skip
   have hfw : (t.fr.any (y1n c) || t.olds.any q0n) = false := by rw [b0, b1]; rfl
   unfold q6n
   rw [hfw]
   rw [if_neg (by decide)]
   clear hf hw b0 b1 hfw
   refine yc rfl (ι := Nat) (fun i => i ≤ t.fr.length ∧ ∀ j, j < i → q0o t.fr j = 0) (fun i => ⟨[(32, sV (.int .i64 i)), (31, sV (.int .i64 (ints t.fr).length)), (30, .one (.b (.l (ints t.fr)))), (3, .one (.a 3 0))], [(3, .var (t.cs.map .b))]⟩) (fun i => t.fr.length - i) 0 ⟨Nat.zero_le _, fun j hj => by omega⟩ ?_ ?_
   · exact ⟨⟨rfl, rfl, rfl, ⟨rfl, rfl, rfl⟩, trivial⟩, ⟨lcr, trivial⟩, rfl⟩
   · intro i ⟨hi, h0⟩ J hJ
     refine xb rfl (fun h => ?_) (fun h => ?_)
     · have h : i < t.fr.length := by simpa using h
       obtain ⟨x, hx⟩ := gx h
       have hg := gm (fun n => [i64 n]) hx
       refine xs rfl (Int.natCast_nonneg _) ?_
       refine y9 rfl _ hg ?_
       refine xs rfl rfl ?_
       refine xs rfl (.inl rfl) ?_
       refine xs rfl (Int.natCast_nonneg _) ?_
       refine xs rfl (Int.natCast_nonneg _) ?_
       refine xs rfl (by simp; omega) ?_
       refine z7 rfl (q73 (t.fr.take i) x _ (z2z _ _) (by rw [List.length_take]; omega)) rfl ⟨trivial, trivial, trivial⟩ ?_
       refine xb rfl (fun b0 => ?_) (fun b0 => ?_)
       refine xr rfl (q7 rfl ⟨⟨rfl, ?_, trivial⟩, z6 rfl⟩)
       rotate_left
       rotate_left
       · exact vi (q8 h h0 (by unfold q0o; rw [hx]; exact if_pos b0) (by decide))
       · exact ya rfl (hJ _ (i + 1) ⟨by omega, qa h0 (by unfold q0o; rw [hx]; exact if_neg (by rw [b0]; decide))⟩ (by omega) ⟨⟨cwi (by omega) (by omega) (by omega), rfl, rfl, ⟨rfl, rfl, rfl⟩, trivial⟩, ⟨lcr, trivial⟩, rfl⟩)
     · have h : ¬ i < t.fr.length := by simpa using h
       have hz := qf (f := q0o t.fr) (n := t.fr.length) (fun j hj => h0 j (by omega))
       refine xr rfl (q7 rfl ⟨⟨rfl, ?_, trivial⟩, z6 rfl⟩)
       exact vi (hz.symm)
theorem q2u (a b : Tr) : PC Tryz.prog 271 [.agg a.cs, .agg b.cs] (rI (orr [z0h a.c b.c, z0h a.s b.s])) := by
 refine PC.begin Tryz.func271 rfl (by kernel_rfl) ?_
 refine zc rfl [] (.take 0 [] (.take 1 [4, 9, 10, 11, 12] (.take 2 [] (.take 3 [4, 9, 10, 11, 12] (.take 5 [] (.take 6 [9, 10, 11, 12] (.take 7 [] (.take 8 [9, 10, 11, 12] (.alt 4 (.alt 9 (.alt 10 (.alt 11 (.take 12 [] .done) .nil) .nil) .nil) .nil))))))))) (by kernel_rfl) ?_
 refine z7 rfl (qs _ _) rfl ⟨trivial, trivial, trivial⟩ ?_
 refine z7 rfl (qs _ _) rfl ⟨trivial, trivial, trivial⟩ ?_
 refine xs rfl ⟨trivial, trivial, trivial⟩ ?_
 refine z7 rfl (z8d [_, _] (by simp)) rfl ⟨rfl, trivial⟩ ?_
 refine xr rfl (q7 rfl ⟨⟨rfl, rfl, trivial⟩, z6 rfl⟩)
theorem q8r {p x : Tr} : 0 ≤ orr [z0h p.c x.c, z0h p.s x.s] ↔ Tr.lt p x = false := by
 unfold orr orr orr z0h Tr.lt
 repeat' split
 all_goals (simp; try omega)
theorem z2u (a b : Hd) : PC Tryz.prog 275 [.agg a.cs, .agg b.cs] (rI (Hd.cmp a b)) := by
 refine PC.begin Tryz.func275 rfl (by kernel_rfl) ?_
 refine zc rfl [] (.take 0 [] (.take 1 [4, 9, 14, 19, 24, 25, 26, 27] (.take 2 [] (.take 3 [4, 9, 14, 19, 24, 25, 26, 27] (.take 5 [] (.take 6 [9, 14, 19, 24, 25, 26, 27] (.take 7 [] (.take 8 [9, 14, 19, 24, 25, 26, 27] (.take 10 [] (.take 11 [14, 19, 24, 25, 26, 27] (.take 12 [] (.take 13 [14, 19, 24, 25, 26, 27] (.take 15 [] (.take 16 [19, 24, 25, 26, 27] (.take 17 [] (.take 18 [19, 24, 25, 26, 27] (.take 20 [] (.take 21 [24, 25, 26, 27] (.take 22 [] (.take 23 [24, 25, 26, 27] (.alt 4 (.alt 9 (.alt 14 (.alt 19 (.alt 24 (.alt 25 (.alt 26 (.take 27 [] .done) .nil) .nil) .nil) .nil) .nil) .nil) .nil))))))))))))))))))))) (by kernel_rfl) ?_
 refine z7 rfl (qs _ _) rfl ⟨trivial, trivial, trivial⟩ ?_
 refine z7 rfl (qs _ _) rfl ⟨trivial, trivial, trivial⟩ ?_
 refine z7 rfl (qs _ _) rfl ⟨trivial, trivial, trivial⟩ ?_
 refine z7 rfl (qs _ _) rfl ⟨trivial, trivial, trivial⟩ ?_
 refine z7 rfl (qs _ _) rfl ⟨trivial, trivial, trivial⟩ ?_
 refine xs rfl ⟨trivial, trivial, trivial, trivial, trivial, trivial⟩ ?_
 refine z7 rfl (z8d [_, _, _, _, _] (by simp)) rfl ⟨rfl, trivial⟩ ?_
 refine xr rfl (q7 rfl ⟨⟨rfl, rfl, trivial⟩, z6 rfl⟩)
theorem z8r {p x : Hd} : 0 ≤ Hd.cmp p x ↔ Hd.lt p x = false := by
 unfold Hd.lt
 simp
theorem q75 (c : Clu) (ho : yw c) (ts : List Tr) (hl : ts.length ≤ 1048576) (ht : ∀ t ∈ ts, z9w t) : PC Tryz.prog 210 [.one (.p c.cs), .one (.l (ts.map Tr.cs))] (rI (scan (y3b c ts) ts.length)) := by
 refine PC.begin Tryz.func210 rfl (by kernel_rfl) ?_
 refine yc rfl (ι := Nat) (fun i => i ≤ ts.length ∧ ∀ j, j < i → y3b c ts j = 0) (fun i => ⟨[(10, sV (.int .i64 i)), (9, sV (.int .i64 (ts.map Tr.cs).length)), (8, .one (.b (.l (ts.map Tr.cs)))), (0, .one (.b (.p c.cs))), (1, .one (.b (.l (ts.map Tr.cs))))], []⟩) (fun i => ts.length - i) 0 ⟨Nat.zero_le _, fun j hj => by omega⟩ ?_ ?_
 · exact ⟨⟨rfl, rfl, rfl, rfl, rfl, trivial⟩, trivial, rfl⟩
 · intro i ⟨hi, h0⟩ J hJ
   refine xb rfl (fun h => ?_) (fun h => ?_)
   · have h : i < ts.length := by simpa using h
     obtain ⟨x, hx⟩ := gx h
     have hg := gm Tr.cs hx
     have hxt := ht x (List.mem_of_getElem? hx)
     rcases Nat.eq_zero_or_pos i with hz | hz
     · subst hz
       refine xs rfl (Int.natCast_nonneg _) ?_
       refine y9 rfl _ hg ?_
       refine xs rfl rfl ?_
       refine z7 rfl (z13 _ (by assumption) _ _) rfl ⟨trivial, trivial, trivial, trivial⟩ ?_
       refine xb rfl (fun b0 => ?_) (fun b0 => ?_)
       refine xr rfl (q7 rfl ⟨⟨rfl, ?_, trivial⟩, z6 rfl⟩)
       rotate_left
       refine z7 rfl (qm _ _ _) rfl ⟨trivial, trivial, trivial, trivial⟩ ?_
       refine xb rfl (fun b1 => ?_) (fun b1 => ?_)
       refine xj (k := 5) rfl ?_
       refine xr rfl (q7 rfl ⟨⟨rfl, ?_, trivial⟩, z6 rfl⟩)
       rotate_left
       refine xj (k := 2) rfl ?_
       refine z7 rfl (qm _ _ _) rfl ⟨trivial, trivial, trivial, trivial⟩ ?_
       refine xj (k := 2) rfl ?_
       refine xb rfl (fun b2 => ?_) (fun b2 => ?_)
       refine xr rfl (q7 rfl ⟨⟨rfl, ?_, trivial⟩, z6 rfl⟩)
       rotate_left
       refine zc rfl [] (.take 0 [] (.take 1 [] (.take 2 [] (.take 3 [] (.take 4 [] (.take 5 [] (.take 6 [] (.take 7 [9, 10, 11, 12] (.take 8 [9, 10, 11, 12] (.alt 9 (.take 10 [] (.take 11 [] (.take 12 [] .done))) .nil)))))))))) (by kernel_rfl) ?_
       refine xj (k := 10) rfl ?_
       refine z7 rfl (y5o c ho x hxt) rfl ⟨trivial, ⟨trivial, trivial, trivial, trivial, trivial, trivial, trivial⟩, trivial⟩ ?_
       refine xb rfl (fun b3 => ?_) (fun b3 => ?_)
       refine xr rfl (q7 rfl ⟨⟨rfl, ?_, trivial⟩, z6 rfl⟩)
       rotate_left
       rotate_left
       all_goals (first | (refine vi (q8 h h0 ?_ (by first | decide | decide | simp_all)); clear hJ h0 hg; (first | (simp_all [y3b, ahead_zero, q8r, q54]; done) | (simp_all [y3b, ahead_zero, q8r, q54]; omega)); done) | (refine ya rfl (hJ _ 1 ⟨by omega, qa h0 ?_⟩ (by omega) ⟨⟨cwi (by omega) (by omega) (by omega), rfl, rfl, rfl, rfl, trivial⟩, trivial, rfl⟩); clear hJ h0 hg; (first | (simp_all [y3b, ahead_zero, q8r, q54]; done) | (simp_all [y3b, ahead_zero, q8r, q54]; omega)); done) | skip)
     · obtain ⟨p, hp⟩ := gx (xs := ts) (i := i - 1) (by omega)
       have hgp := z15 Tr.cs hz (by omega) hp
       refine xs rfl (Int.natCast_nonneg _) ?_
       refine y9 rfl _ hg ?_
       refine xs rfl rfl ?_
       refine z7 rfl (z13 _ (by assumption) _ _) rfl ⟨trivial, trivial, trivial, trivial⟩ ?_
       refine xb rfl (fun b0 => ?_) (fun b0 => ?_)
       refine xr rfl (q7 rfl ⟨⟨rfl, ?_, trivial⟩, z6 rfl⟩)
       rotate_left
       refine z7 rfl (qm _ _ _) rfl ⟨trivial, trivial, trivial, trivial⟩ ?_
       refine xb rfl (fun b1 => ?_) (fun b1 => ?_)
       refine xj (k := 5) rfl ?_
       refine xr rfl (q7 rfl ⟨⟨rfl, ?_, trivial⟩, z6 rfl⟩)
       rotate_left
       refine xj (k := 2) rfl ?_
       refine z7 rfl (qm _ _ _) rfl ⟨trivial, trivial, trivial, trivial⟩ ?_
       refine xj (k := 2) rfl ?_
       refine xb rfl (fun b2 => ?_) (fun b2 => ?_)
       refine xr rfl (q7 rfl ⟨⟨rfl, ?_, trivial⟩, z6 rfl⟩)
       rotate_left
       refine zc rfl [] (.take 0 [] (.take 1 [] (.take 2 [] (.take 3 [] (.take 4 [] (.take 5 [] (.take 6 [] (.take 7 [9, 10, 11, 12] (.take 8 [9, 10, 11, 12] (.alt 9 (.take 10 [] (.take 11 [] (.take 12 [] .done))) .nil)))))))))) (by kernel_rfl) ?_
       refine xb rfl (fun b3 => ?_) (fun b3 => ?_)
       refine xj (k := 3) rfl ?_
       refine xs rfl (y0k hz (by omega)) ?_
       refine y9 rfl _ hgp ?_
       refine xs rfl rfl ?_
       refine xj (k := 3) rfl ?_
       refine z7 rfl (q2u _ _) rfl ⟨⟨trivial, trivial, trivial, trivial, trivial, trivial, trivial⟩, ⟨trivial, trivial, trivial, trivial, trivial, trivial, trivial⟩, trivial⟩ ?_
       refine xj (k := 2) rfl ?_
       refine xb rfl (fun b4 => ?_) (fun b4 => ?_)
       refine xr rfl (q7 rfl ⟨⟨rfl, ?_, trivial⟩, z6 rfl⟩)
       rotate_left
       refine z7 rfl (y5o c ho x hxt) rfl ⟨trivial, ⟨trivial, trivial, trivial, trivial, trivial, trivial, trivial⟩, trivial⟩ ?_
       refine xb rfl (fun b5 => ?_) (fun b5 => ?_)
       refine xr rfl (q7 rfl ⟨⟨rfl, ?_, trivial⟩, z6 rfl⟩)
       rotate_left
       rotate_left
       refine xj (k := 9) rfl ?_
       refine z7 rfl (y5o c ho x hxt) rfl ⟨trivial, ⟨trivial, trivial, trivial, trivial, trivial, trivial, trivial⟩, trivial⟩ ?_
       refine xb rfl (fun b4 => ?_) (fun b4 => ?_)
       refine xr rfl (q7 rfl ⟨⟨rfl, ?_, trivial⟩, z6 rfl⟩)
       rotate_left
       rotate_left
       all_goals (first | (refine vi (q8 h h0 ?_ (by first | decide | decide | simp_all)); clear hJ h0 hg hgp; (first | (simp_all [y3b, q9 hz hp, q8r, q54]; done) | (simp_all [y3b, q9 hz hp, q8r, q54]; omega)); done) | (refine ya rfl (hJ _ (i + 1) ⟨by omega, qa h0 ?_⟩ (by omega) ⟨⟨cwi (by omega) (by omega) (by omega), rfl, rfl, rfl, rfl, trivial⟩, trivial, rfl⟩); clear hJ h0 hg hgp; (first | (simp_all [y3b, q9 hz hp, q8r, q54]; done) | (simp_all [y3b, q9 hz hp, q8r, q54]; omega)); done) | skip)
   · have h : ¬ i < ts.length := by simpa using h
     have hz := qf (f := y3b c ts) (n := ts.length) (fun j hj => h0 j (by omega))
     clear hJ
     refine xr rfl (q7 rfl ⟨⟨rfl, ?_, trivial⟩, z6 rfl⟩)
     exact vi (hz.symm)
theorem q74 (c : Clu) (ho : yw c) (ks : List Hd) (hl : ks.length ≤ 1048576) : PC Tryz.prog 211 [.one (.p c.cs), .one (.l (ks.map Hd.cs))] (rI (scan (hdF c ks) ks.length)) := by
 refine PC.begin Tryz.func211 rfl (by kernel_rfl) ?_
 have q2 := ho.2.2.1.1
 have p2 : (c.accs.map Acc.cs).length ≤ 1048576 := by simpa using q2
 refine yc rfl (ι := Nat) (fun i => i ≤ ks.length ∧ ∀ j, j < i → hdF c ks j = 0) (fun i => ⟨[(9, sV (.int .i64 i)), (8, sV (.int .i64 (ks.map Hd.cs).length)), (7, .one (.b (.l (ks.map Hd.cs)))), (0, .one (.b (.p c.cs))), (1, .one (.b (.l (ks.map Hd.cs))))], []⟩) (fun i => ks.length - i) 0 ⟨Nat.zero_le _, fun j hj => by omega⟩ ?_ ?_
 · exact ⟨⟨rfl, rfl, rfl, rfl, rfl, trivial⟩, trivial, rfl⟩
 · intro i ⟨hi, h0⟩ J hJ
   refine xb rfl (fun h => ?_) (fun h => ?_)
   · have h : i < ks.length := by simpa using h
     obtain ⟨x, hx⟩ := gx h
     have hg := gm Hd.cs hx
     rcases Nat.eq_zero_or_pos i with hz | hz
     · subst hz
       refine xs rfl (Int.natCast_nonneg _) ?_
       refine y9 rfl _ hg ?_
       refine xs rfl rfl ?_
       refine z7 rfl (z13 _ (by assumption) _ _) rfl ⟨trivial, trivial, trivial, trivial⟩ ?_
       refine xb rfl (fun b0 => ?_) (fun b0 => ?_)
       refine xr rfl (q7 rfl ⟨⟨rfl, ?_, trivial⟩, z6 rfl⟩)
       rotate_left
       refine zc rfl [] (.take 0 [] (.take 1 [2, 3, 4, 5, 6, 7, 8, 9, 10, 11, 12, 13, 14, 15, 16, 17, 18, 19, 20] (.alt 2 (.take 3 [] (.take 4 [] (.take 5 [] (.take 6 [7, 8, 9, 10, 11, 12, 13, 14, 15, 16, 17, 18, 19, 20] (.alt 7 (.take 8 [] (.take 9 [] (.take 10 [] (.take 11 [] (.take 12 [17, 18, 19, 20] (.take 13 [] (.take 14 [] (.take 15 [] (.take 16 [17, 18, 19, 20] (.alt 17 (.take 18 [] (.take 19 [] (.take 20 [] .done))) .nil)))))))))) .nil))))) .nil))) (by kernel_rfl) ?_
       refine z7 rfl (y06 _) rfl ⟨trivial, trivial⟩ ?_
       refine xb rfl (fun b1 => ?_) (fun b1 => ?_)
       refine xj (k := 14) rfl ?_
       refine xr rfl (q7 rfl ⟨⟨rfl, ?_, trivial⟩, z6 rfl⟩)
       rotate_left
       refine xj (k := 2) rfl ?_
       refine z7 rfl (q0l _) rfl ⟨trivial, trivial⟩ ?_
       refine xj (k := 2) rfl ?_
       refine xb rfl (fun b2 => ?_) (fun b2 => ?_)
       refine xj (k := 9) rfl ?_
       refine xr rfl (q7 rfl ⟨⟨rfl, ?_, trivial⟩, z6 rfl⟩)
       rotate_left
       refine xj (k := 6) rfl ?_
       refine z7 rfl (q0c _ _ (by assumption)) rfl ⟨trivial, trivial, trivial⟩ ?_
       refine xj (k := 2) rfl ?_
       refine xb rfl (fun b3 => ?_) (fun b3 => ?_)
       refine xr rfl (q7 rfl ⟨⟨rfl, ?_, trivial⟩, z6 rfl⟩)
       rotate_left
       refine zc rfl [] (.take 0 [] (.take 1 [] (.take 2 [] (.take 3 [] (.take 4 [] (.take 5 [] (.take 6 [] (.take 7 [9, 10, 11, 12] (.take 8 [9, 10, 11, 12] (.alt 9 (.take 10 [] (.take 11 [] (.take 12 [] .done))) .nil)))))))))) (by kernel_rfl) ?_
       refine xj (k := 10) rfl ?_
       rotate_left
       all_goals (first | (refine vi (q8 h h0 ?_ (by first | decide | decide | simp_all)); clear hJ h0 hg; (first | (simp_all [hdF, ahead_zero, z8r]; done) | (simp_all [hdF, ahead_zero, z8r]; omega)); done) | (refine ya rfl (hJ _ 1 ⟨by omega, qa h0 ?_⟩ (by omega) ⟨⟨cwi (by omega) (by omega) (by omega), rfl, rfl, rfl, rfl, trivial⟩, trivial, rfl⟩); clear hJ h0 hg; (first | (simp_all [hdF, ahead_zero, z8r]; done) | (simp_all [hdF, ahead_zero, z8r]; omega)); done) | skip)
     · obtain ⟨p, hp⟩ := gx (xs := ks) (i := i - 1) (by omega)
       have hgp := z15 Hd.cs hz (by omega) hp
       refine xs rfl (Int.natCast_nonneg _) ?_
       refine y9 rfl _ hg ?_
       refine xs rfl rfl ?_
       refine z7 rfl (z13 _ (by assumption) _ _) rfl ⟨trivial, trivial, trivial, trivial⟩ ?_
       refine xb rfl (fun b0 => ?_) (fun b0 => ?_)
       refine xr rfl (q7 rfl ⟨⟨rfl, ?_, trivial⟩, z6 rfl⟩)
       rotate_left
       refine zc rfl [] (.take 0 [] (.take 1 [2, 3, 4, 5, 6, 7, 8, 9, 10, 11, 12, 13, 14, 15, 16, 17, 18, 19, 20] (.alt 2 (.take 3 [] (.take 4 [] (.take 5 [] (.take 6 [7, 8, 9, 10, 11, 12, 13, 14, 15, 16, 17, 18, 19, 20] (.alt 7 (.take 8 [] (.take 9 [] (.take 10 [] (.take 11 [] (.take 12 [17, 18, 19, 20] (.take 13 [] (.take 14 [] (.take 15 [] (.take 16 [17, 18, 19, 20] (.alt 17 (.take 18 [] (.take 19 [] (.take 20 [] .done))) .nil)))))))))) .nil))))) .nil))) (by kernel_rfl) ?_
       refine z7 rfl (y06 _) rfl ⟨trivial, trivial⟩ ?_
       refine xb rfl (fun b1 => ?_) (fun b1 => ?_)
       refine xj (k := 14) rfl ?_
       refine xr rfl (q7 rfl ⟨⟨rfl, ?_, trivial⟩, z6 rfl⟩)
       rotate_left
       refine xj (k := 2) rfl ?_
       refine z7 rfl (q0l _) rfl ⟨trivial, trivial⟩ ?_
       refine xj (k := 2) rfl ?_
       refine xb rfl (fun b2 => ?_) (fun b2 => ?_)
       refine xj (k := 9) rfl ?_
       refine xr rfl (q7 rfl ⟨⟨rfl, ?_, trivial⟩, z6 rfl⟩)
       rotate_left
       refine xj (k := 6) rfl ?_
       refine z7 rfl (q0c _ _ (by assumption)) rfl ⟨trivial, trivial, trivial⟩ ?_
       refine xj (k := 2) rfl ?_
       refine xb rfl (fun b3 => ?_) (fun b3 => ?_)
       refine xr rfl (q7 rfl ⟨⟨rfl, ?_, trivial⟩, z6 rfl⟩)
       rotate_left
       refine zc rfl [] (.take 0 [] (.take 1 [] (.take 2 [] (.take 3 [] (.take 4 [] (.take 5 [] (.take 6 [] (.take 7 [9, 10, 11, 12] (.take 8 [9, 10, 11, 12] (.alt 9 (.take 10 [] (.take 11 [] (.take 12 [] .done))) .nil)))))))))) (by kernel_rfl) ?_
       refine xb rfl (fun b4 => ?_) (fun b4 => ?_)
       refine xj (k := 3) rfl ?_
       refine xs rfl (y0k hz (by omega)) ?_
       refine y9 rfl _ hgp ?_
       refine xs rfl rfl ?_
       refine xj (k := 3) rfl ?_
       refine z7 rfl (z2u _ _) rfl ⟨⟨trivial, trivial, trivial, trivial, trivial, trivial⟩, ⟨trivial, trivial, trivial, trivial, trivial, trivial⟩, trivial⟩ ?_
       refine xj (k := 2) rfl ?_
       refine xb rfl (fun b5 => ?_) (fun b5 => ?_)
       refine xr rfl (q7 rfl ⟨⟨rfl, ?_, trivial⟩, z6 rfl⟩)
       rotate_left
       rotate_left
       refine xj (k := 9) rfl ?_
       rotate_left
       all_goals (first | (refine vi (q8 h h0 ?_ (by first | decide | decide | simp_all)); clear hJ h0 hg hgp; (first | (simp_all [hdF, q9 hz hp, z8r]; done) | (simp_all [hdF, q9 hz hp, z8r]; omega)); done) | (refine ya rfl (hJ _ (i + 1) ⟨by omega, qa h0 ?_⟩ (by omega) ⟨⟨cwi (by omega) (by omega) (by omega), rfl, rfl, rfl, rfl, trivial⟩, trivial, rfl⟩); clear hJ h0 hg hgp; (first | (simp_all [hdF, q9 hz hp, z8r]; done) | (simp_all [hdF, q9 hz hp, z8r]; omega)); done) | skip)
   · have h : ¬ i < ks.length := by simpa using h
     have hz := qf (f := hdF c ks) (n := ks.length) (fun j hj => h0 j (by omega))
     clear hJ
     refine xr rfl (q7 rfl ⟨⟨rfl, ?_, trivial⟩, z6 rfl⟩)
     exact vi (hz.symm)
theorem y99 (c : Clu) (ho : yw c) (l : Ldr) (hl : y8y l) : PC Tryz.prog 132 [.one (.p c.cs), .agg l.cs] (rI (y7a c l)) := by
 refine PC.begin Tryz.func132 rfl (by kernel_rfl) ?_
 obtain ⟨l1, l2, l3⟩ := hl
 have hT := q75 c ho l.tries l1 l3
 have hK := q74 c ho l.known l2
 refine z7 rfl (qm _ _ _) rfl ⟨trivial, trivial, trivial, trivial⟩ ?_
 refine xb rfl (fun b0 => ?_) (fun b0 => ?_)
 refine xr rfl (q7 rfl ⟨⟨rfl, ?_, trivial⟩, z6 rfl⟩)
 rotate_left
 refine xb rfl (fun b1 => ?_) (fun b1 => ?_)
 refine xj (k := 5) rfl ?_
 refine xr rfl (q7 rfl ⟨⟨rfl, ?_, trivial⟩, z6 rfl⟩)
 rotate_left
 refine xj (k := 4) rfl ?_
 refine xb rfl (fun b2 => ?_) (fun b2 => ?_)
 refine xr rfl (q7 rfl ⟨⟨rfl, ?_, trivial⟩, z6 rfl⟩)
 rotate_left
 refine zc rfl [] (.take 0 [] (.take 1 [] (.take 2 [3, 7, 8, 9, 10] (.take 4 [] (.take 5 [] (.take 6 [7, 8, 9, 10] (.alt 3 (.alt 7 (.alt 8 (.alt 9 (.take 10 [] .done) .nil) .nil) .nil) .nil))))))) (by kernel_rfl) ?_
 refine z7 rfl (hT) rfl ⟨trivial, trivial, trivial⟩ ?_
 refine z7 rfl (hK) rfl ⟨trivial, trivial, trivial⟩ ?_
 refine xs rfl ⟨trivial, trivial, trivial⟩ ?_
 refine z7 rfl (y26 [_, _] (by simp)) rfl ⟨rfl, trivial⟩ ?_
 refine xr rfl (q7 rfl ⟨⟨rfl, ?_, trivial⟩, z6 rfl⟩)
 rotate_left
 all_goals (refine vi ?_; clear hT hK; unfold y7a; simp_all; try omega)
end Go.Proofs.YthljegacamgnnaaGreat
end
section
namespace Go.Proofs.YthljegacamgnnaaGreat
open Go Go.Sx
set_option maxRecDepth 20000
set_option maxHeartbeats 4000000
theorem q4r (a b : Hd) : PC Tryz.prog 188 [.agg a.cs, .agg b.cs] (rB (Hd.lt a b)) := by
 refine PC.begin Tryz.func188 rfl (by kernel_rfl) ?_
 refine xs rfl ⟨trivial, trivial, trivial, trivial, trivial, trivial⟩ ?_
 refine xs rfl ⟨trivial, trivial, trivial, trivial, trivial, trivial⟩ ?_
 refine yc rfl (ι := Nat) (fun i => i ≤ 5 ∧ (1 ≤ i → a.c = b.c) ∧ (2 ≤ i → a.s = b.s) ∧ (3 ≤ i → a.b = b.b) ∧ (4 ≤ i → a.v = b.v) ∧ (5 ≤ i → a.f = b.f)) (fun i => ⟨[(7, sV (.int .i64 i)), (5, .one (.h 18 5)), (6, .one (.h 29 5))], [(18, .arr true 1 0 [[i64 a.c], [i64 a.s], [i64 a.b], [i64 a.v], [i64 a.f]]), (29, .arr true 1 0 [[i64 b.c], [i64 b.s], [i64 b.b], [i64 b.v], [i64 b.f]])]⟩) (fun i => 5 - i) 0 ⟨by omega, by omega, by omega, by omega, by omega, by omega⟩ ?_ ?_
 · exact ⟨⟨rfl, ⟨rfl, rfl, rfl⟩, ⟨rfl, rfl, rfl⟩, trivial⟩, ⟨⟨rfl, .inl rfl, .inl rfl⟩, ⟨rfl, .inl rfl, .inl rfl⟩, trivial⟩, rfl⟩
 · intro i ⟨hi, h1, h2, h3, h4, h5⟩ J hJ
   have hc : i = 0 ∨ i = 1 ∨ i = 2 ∨ i = 3 ∨ i = 4 ∨ i = 5 := by omega
   rcases hc with rfl | rfl | rfl | rfl | rfl | rfl
   · skip
     clear h1 h2 h3 h4 h5
     have hga : [[i64 a.c], [i64 a.s], [i64 a.b], [i64 a.v], [i64 a.f]][((0 : Nat) : Int).toNat]? = some [i64 a.c] := rfl
     have hgb : [[i64 b.c], [i64 b.s], [i64 b.b], [i64 b.v], [i64 b.f]][((0 : Nat) : Int).toNat]? = some [i64 b.c] := rfl
     refine xj (k := 1) rfl ?_
     refine zc rfl [] (.take 0 [] (.take 1 [] (.take 2 [] (.take 3 [8] (.take 4 [] (.take 5 [] (.take 6 [] (.take 7 [8] (.take 8 [] .done))))))))) (by kernel_rfl) ?_
     refine xs rfl rfl ?_
     refine xs rfl (by decide) ?_
     refine y9 rfl _ hga ?_
     refine xs rfl rfl ?_
     refine xs rfl rfl ?_
     refine y9 rfl _ hga ?_
     refine xs rfl rfl ?_
     refine xs rfl (by decide) ?_
     refine y9 rfl _ hgb ?_
     refine xs rfl rfl ?_
     refine xs rfl rfl ?_
     refine y9 rfl _ hgb ?_
     refine xb rfl (fun b0 => ?_) (fun b0 => ?_)
     refine zc rfl [] (.take 0 [] (.take 1 [] (.take 2 [] (.take 3 [8, 9] (.take 4 [] (.take 5 [] (.take 6 [] (.take 7 [8, 9] (.take 8 [] (.take 9 [] .done)))))))))) (by kernel_rfl) ?_
     refine xs rfl rfl ?_
     refine xs rfl (by decide) ?_
     refine y9 rfl _ hga ?_
     refine xs rfl rfl ?_
     refine xs rfl rfl ?_
     refine y9 rfl _ hga ?_
     refine xs rfl rfl ?_
     refine xs rfl (by decide) ?_
     refine y9 rfl _ hgb ?_
     refine xs rfl rfl ?_
     refine xs rfl rfl ?_
     refine y9 rfl _ hgb ?_
     refine xr rfl (q7 rfl ⟨⟨rfl, ?_, trivial⟩, z6 rfl⟩)
     rotate_left
     rotate_left
     · have hn : ¬ a.c = b.c := by simpa using b0
       refine vb ?_
       rw [Bool.eq_iff_iff]
       simp only [Hd.lt, Hd.cmp, orr, z0h, decide_eq_true_eq]
       (repeat' split) <;> first | omega | (simp; omega) | (simp_all; done) | (simp_all; omega)
     · have hn : a.c = b.c := by simpa using b0
       exact ya rfl (hJ _ 1 ⟨by omega, by omega, by omega, by omega, by omega, by omega⟩ (by omega) ⟨⟨rfl, ⟨rfl, rfl, rfl⟩, ⟨rfl, rfl, rfl⟩, trivial⟩, ⟨⟨rfl, .inl rfl, .inl rfl⟩, ⟨rfl, .inl rfl, .inl rfl⟩, trivial⟩, rfl⟩)
   · skip
     have e1 := h1 (by omega)
     clear h1 h2 h3 h4 h5
     have hga : [[i64 a.c], [i64 a.s], [i64 a.b], [i64 a.v], [i64 a.f]][((1 : Nat) : Int).toNat]? = some [i64 a.s] := rfl
     have hgb : [[i64 b.c], [i64 b.s], [i64 b.b], [i64 b.v], [i64 b.f]][((1 : Nat) : Int).toNat]? = some [i64 b.s] := rfl
     refine xj (k := 1) rfl ?_
     refine zc rfl [] (.take 0 [] (.take 1 [] (.take 2 [] (.take 3 [8] (.take 4 [] (.take 5 [] (.take 6 [] (.take 7 [8] (.take 8 [] .done))))))))) (by kernel_rfl) ?_
     refine xs rfl rfl ?_
     refine xs rfl (by decide) ?_
     refine y9 rfl _ hga ?_
     refine xs rfl rfl ?_
     refine xs rfl rfl ?_
     refine y9 rfl _ hga ?_
     refine xs rfl rfl ?_
     refine xs rfl (by decide) ?_
     refine y9 rfl _ hgb ?_
     refine xs rfl rfl ?_
     refine xs rfl rfl ?_
     refine y9 rfl _ hgb ?_
     refine xb rfl (fun b0 => ?_) (fun b0 => ?_)
     refine zc rfl [] (.take 0 [] (.take 1 [] (.take 2 [] (.take 3 [8, 9] (.take 4 [] (.take 5 [] (.take 6 [] (.take 7 [8, 9] (.take 8 [] (.take 9 [] .done)))))))))) (by kernel_rfl) ?_
     refine xs rfl rfl ?_
     refine xs rfl (by decide) ?_
     refine y9 rfl _ hga ?_
     refine xs rfl rfl ?_
     refine xs rfl rfl ?_
     refine y9 rfl _ hga ?_
     refine xs rfl rfl ?_
     refine xs rfl (by decide) ?_
     refine y9 rfl _ hgb ?_
     refine xs rfl rfl ?_
     refine xs rfl rfl ?_
     refine y9 rfl _ hgb ?_
     refine xr rfl (q7 rfl ⟨⟨rfl, ?_, trivial⟩, z6 rfl⟩)
     rotate_left
     rotate_left
     · have hn : ¬ a.s = b.s := by simpa using b0
       refine vb ?_
       rw [Bool.eq_iff_iff]
       simp only [Hd.lt, Hd.cmp, orr, z0h, e1, decide_eq_true_eq]
       (repeat' split) <;> first | omega | (simp; omega) | (simp_all; done) | (simp_all; omega)
     · have hn : a.s = b.s := by simpa using b0
       exact ya rfl (hJ _ 2 ⟨by omega, by omega, by omega, by omega, by omega, by omega⟩ (by omega) ⟨⟨rfl, ⟨rfl, rfl, rfl⟩, ⟨rfl, rfl, rfl⟩, trivial⟩, ⟨⟨rfl, .inl rfl, .inl rfl⟩, ⟨rfl, .inl rfl, .inl rfl⟩, trivial⟩, rfl⟩)
   · skip
     have e1 := h1 (by omega)
     have e2 := h2 (by omega)
     clear h1 h2 h3 h4 h5
     have hga : [[i64 a.c], [i64 a.s], [i64 a.b], [i64 a.v], [i64 a.f]][((2 : Nat) : Int).toNat]? = some [i64 a.b] := rfl
     have hgb : [[i64 b.c], [i64 b.s], [i64 b.b], [i64 b.v], [i64 b.f]][((2 : Nat) : Int).toNat]? = some [i64 b.b] := rfl
     refine xj (k := 1) rfl ?_
     refine zc rfl [] (.take 0 [] (.take 1 [] (.take 2 [] (.take 3 [8] (.take 4 [] (.take 5 [] (.take 6 [] (.take 7 [8] (.take 8 [] .done))))))))) (by kernel_rfl) ?_
     refine xs rfl rfl ?_
     refine xs rfl (by decide) ?_
     refine y9 rfl _ hga ?_
     refine xs rfl rfl ?_
     refine xs rfl rfl ?_
     refine y9 rfl _ hga ?_
     refine xs rfl rfl ?_
     refine xs rfl (by decide) ?_
     refine y9 rfl _ hgb ?_
     refine xs rfl rfl ?_
     refine xs rfl rfl ?_
     refine y9 rfl _ hgb ?_
     refine xb rfl (fun b0 => ?_) (fun b0 => ?_)
     refine zc rfl [] (.take 0 [] (.take 1 [] (.take 2 [] (.take 3 [8, 9] (.take 4 [] (.take 5 [] (.take 6 [] (.take 7 [8, 9] (.take 8 [] (.take 9 [] .done)))))))))) (by kernel_rfl) ?_
     refine xs rfl rfl ?_
     refine xs rfl (by decide) ?_
     refine y9 rfl _ hga ?_
     refine xs rfl rfl ?_
     refine xs rfl rfl ?_
     refine y9 rfl _ hga ?_
     refine xs rfl rfl ?_
     refine xs rfl (by decide) ?_
     refine y9 rfl _ hgb ?_
     refine xs rfl rfl ?_
     refine xs rfl rfl ?_
     refine y9 rfl _ hgb ?_
     refine xr rfl (q7 rfl ⟨⟨rfl, ?_, trivial⟩, z6 rfl⟩)
     rotate_left
     rotate_left
     · have hn : ¬ a.b = b.b := by simpa using b0
       refine vb ?_
       rw [Bool.eq_iff_iff]
       simp only [Hd.lt, Hd.cmp, orr, z0h, e1, e2, decide_eq_true_eq]
       (repeat' split) <;> first | omega | (simp; omega) | (simp_all; done) | (simp_all; omega)
     · have hn : a.b = b.b := by simpa using b0
       exact ya rfl (hJ _ 3 ⟨by omega, by omega, by omega, by omega, by omega, by omega⟩ (by omega) ⟨⟨rfl, ⟨rfl, rfl, rfl⟩, ⟨rfl, rfl, rfl⟩, trivial⟩, ⟨⟨rfl, .inl rfl, .inl rfl⟩, ⟨rfl, .inl rfl, .inl rfl⟩, trivial⟩, rfl⟩)
   · skip
     have e1 := h1 (by omega)
     have e2 := h2 (by omega)
     have e3 := h3 (by omega)
     clear h1 h2 h3 h4 h5
     have hga : [[i64 a.c], [i64 a.s], [i64 a.b], [i64 a.v], [i64 a.f]][((3 : Nat) : Int).toNat]? = some [i64 a.v] := rfl
     have hgb : [[i64 b.c], [i64 b.s], [i64 b.b], [i64 b.v], [i64 b.f]][((3 : Nat) : Int).toNat]? = some [i64 b.v] := rfl
     refine xj (k := 1) rfl ?_
     refine zc rfl [] (.take 0 [] (.take 1 [] (.take 2 [] (.take 3 [8] (.take 4 [] (.take 5 [] (.take 6 [] (.take 7 [8] (.take 8 [] .done))))))))) (by kernel_rfl) ?_
     refine xs rfl rfl ?_
     refine xs rfl (by decide) ?_
     refine y9 rfl _ hga ?_
     refine xs rfl rfl ?_
     refine xs rfl rfl ?_
     refine y9 rfl _ hga ?_
     refine xs rfl rfl ?_
     refine xs rfl (by decide) ?_
     refine y9 rfl _ hgb ?_
     refine xs rfl rfl ?_
     refine xs rfl rfl ?_
     refine y9 rfl _ hgb ?_
     refine xb rfl (fun b0 => ?_) (fun b0 => ?_)
     refine zc rfl [] (.take 0 [] (.take 1 [] (.take 2 [] (.take 3 [8, 9] (.take 4 [] (.take 5 [] (.take 6 [] (.take 7 [8, 9] (.take 8 [] (.take 9 [] .done)))))))))) (by kernel_rfl) ?_
     refine xs rfl rfl ?_
     refine xs rfl (by decide) ?_
     refine y9 rfl _ hga ?_
     refine xs rfl rfl ?_
     refine xs rfl rfl ?_
     refine y9 rfl _ hga ?_
     refine xs rfl rfl ?_
     refine xs rfl (by decide) ?_
     refine y9 rfl _ hgb ?_
     refine xs rfl rfl ?_
     refine xs rfl rfl ?_
     refine y9 rfl _ hgb ?_
     refine xr rfl (q7 rfl ⟨⟨rfl, ?_, trivial⟩, z6 rfl⟩)
     rotate_left
     rotate_left
     · have hn : ¬ a.v = b.v := by simpa using b0
       refine vb ?_
       rw [Bool.eq_iff_iff]
       simp only [Hd.lt, Hd.cmp, orr, z0h, e1, e2, e3, decide_eq_true_eq]
       (repeat' split) <;> first | omega | (simp; omega) | (simp_all; done) | (simp_all; omega)
     · have hn : a.v = b.v := by simpa using b0
       exact ya rfl (hJ _ 4 ⟨by omega, by omega, by omega, by omega, by omega, by omega⟩ (by omega) ⟨⟨rfl, ⟨rfl, rfl, rfl⟩, ⟨rfl, rfl, rfl⟩, trivial⟩, ⟨⟨rfl, .inl rfl, .inl rfl⟩, ⟨rfl, .inl rfl, .inl rfl⟩, trivial⟩, rfl⟩)
   · skip
     have e1 := h1 (by omega)
     have e2 := h2 (by omega)
     have e3 := h3 (by omega)
     have e4 := h4 (by omega)
     clear h1 h2 h3 h4 h5
     have hga : [[i64 a.c], [i64 a.s], [i64 a.b], [i64 a.v], [i64 a.f]][((4 : Nat) : Int).toNat]? = some [i64 a.f] := rfl
     have hgb : [[i64 b.c], [i64 b.s], [i64 b.b], [i64 b.v], [i64 b.f]][((4 : Nat) : Int).toNat]? = some [i64 b.f] := rfl
     refine xj (k := 1) rfl ?_
     refine zc rfl [] (.take 0 [] (.take 1 [] (.take 2 [] (.take 3 [8] (.take 4 [] (.take 5 [] (.take 6 [] (.take 7 [8] (.take 8 [] .done))))))))) (by kernel_rfl) ?_
     refine xs rfl rfl ?_
     refine xs rfl (by decide) ?_
     refine y9 rfl _ hga ?_
     refine xs rfl rfl ?_
     refine xs rfl rfl ?_
     refine y9 rfl _ hga ?_
     refine xs rfl rfl ?_
     refine xs rfl (by decide) ?_
     refine y9 rfl _ hgb ?_
     refine xs rfl rfl ?_
     refine xs rfl rfl ?_
     refine y9 rfl _ hgb ?_
     refine xb rfl (fun b0 => ?_) (fun b0 => ?_)
     refine zc rfl [] (.take 0 [] (.take 1 [] (.take 2 [] (.take 3 [8, 9] (.take 4 [] (.take 5 [] (.take 6 [] (.take 7 [8, 9] (.take 8 [] (.take 9 [] .done)))))))))) (by kernel_rfl) ?_
     refine xs rfl rfl ?_
     refine xs rfl (by decide) ?_
     refine y9 rfl _ hga ?_
     refine xs rfl rfl ?_
     refine xs rfl rfl ?_
     refine y9 rfl _ hga ?_
     refine xs rfl rfl ?_
     refine xs rfl (by decide) ?_
     refine y9 rfl _ hgb ?_
     refine xs rfl rfl ?_
     refine xs rfl rfl ?_
     refine y9 rfl _ hgb ?_
     refine xr rfl (q7 rfl ⟨⟨rfl, ?_, trivial⟩, z6 rfl⟩)
     rotate_left
     rotate_left
     · have hn : ¬ a.f = b.f := by simpa using b0
       refine vb ?_
       rw [Bool.eq_iff_iff]
       simp only [Hd.lt, Hd.cmp, orr, z0h, e1, e2, e3, e4, decide_eq_true_eq]
       (repeat' split) <;> first | omega | (simp; omega) | (simp_all; done) | (simp_all; omega)
     · have hn : a.f = b.f := by simpa using b0
       exact ya rfl (hJ _ 5 ⟨by omega, by omega, by omega, by omega, by omega, by omega⟩ (by omega) ⟨⟨rfl, ⟨rfl, rfl, rfl⟩, ⟨rfl, rfl, rfl⟩, trivial⟩, ⟨⟨rfl, .inl rfl, .inl rfl⟩, ⟨rfl, .inl rfl, .inl rfl⟩, trivial⟩, rfl⟩)
   · have e1 := h1 (by omega)
     have e2 := h2 (by omega)
     have e3 := h3 (by omega)
     have e4 := h4 (by omega)
     have e5 := h5 (by omega)
     refine xj (k := 1) rfl ?_
     refine xr rfl (q7 rfl ⟨⟨rfl, ?_, trivial⟩, z6 rfl⟩)
     refine vb ?_
     simp [Hd.lt, Hd.cmp, orr, z0h, e1, e2, e3, e4, e5]
end Go.Proofs.YthljegacamgnnaaGreat
end
section
namespace Go.Proofs.YthljegacamgnnaaGreat
open Go Go.Sx
set_option maxRecDepth 20000
set_option maxHeartbeats 4000000
theorem q3s (c : Clu) (y : Int) : True := trivial
theorem y8w {c : Clu} {ts : List Tr} {i : Nat} {t : Tr} {h w1 w2 a d : Bool} (e1 : q0u c.cons t.c t.s = h) (e2 : Go.Sx.within t.b 1 1000 = w1) (e3 : Go.Sx.within t.v 0 2 = w2) (e4 : Go.Sx.ahead Tr.lt ts i t = a) (e5 : (t.fr.length != t.olds.length) = d) : q54 c ts i t = (bif h then (bif w1 then (bif w2 then (bif a then (bif d then 1 else q6n c t) else 1) else 3) else 3) else 4) := by
 unfold q54
 rw [e1, e2, e3, e4, e5]
 cases h <;> cases w1 <;> cases w2 <;> cases a <;> cases d <;> rfl
theorem zb1 {us : List Int} {vs : List Vt} : (((ints us).length : Int) != ((vs.map Vt.cs).length : Int)) = (us.length != vs.length) := by
 rw [Bool.eq_iff_iff]
 simp
 omega
theorem q9n (c : Clu) (ho : yw c) (ts : List Tr) (i : Nat) (t : Tr) (hl : ts.length ≤ 1048576) (ht : z9w t) (hx : ts[i]? = some t) : PC Tryz.prog 185 [.one (.p c.cs), .one (.l (ts.map Tr.cs)), .one (i64 i)] (rI (q54 c ts i t)) := by
 refine PC.begin Tryz.func185 rfl (by kernel_rfl) ?_
 obtain ⟨o1, o2⟩ := ht
 have hg := gm Tr.cs hx
 have hlt := (List.getElem?_eq_some_iff.1 hx).1
 have w2 := wl1 Acc.cs ho.2.2.1.1
 have hD := (zb1 (us := t.fr) (vs := t.olds)).symm
 rcases Nat.eq_zero_or_pos i with hz | hz
 · have hA : Go.Sx.ahead Tr.lt ts i t = true := by subst hz; rfl
   have hK := y8w (c := c) rfl rfl rfl hA hD
   subst hz
   refine xs rfl (Int.natCast_nonneg _) ?_
   refine y9 rfl _ hg ?_
   refine xs rfl rfl ?_
   refine z7 rfl (qv _ (by assumption) _ _) rfl ⟨trivial, trivial, trivial, trivial⟩ ?_
   refine xb rfl (fun b0 => ?_) (fun b0 => ?_)
   refine xr rfl (q7 rfl ⟨⟨rfl, ?_, trivial⟩, z6 rfl⟩)
   rotate_left
   refine z7 rfl (qj _ _ _) rfl ⟨trivial, trivial, trivial, trivial⟩ ?_
   refine xb rfl (fun b1 => ?_) (fun b1 => ?_)
   refine xj (k := 5) rfl ?_
   refine xr rfl (q7 rfl ⟨⟨rfl, ?_, trivial⟩, z6 rfl⟩)
   rotate_left
   refine xj (k := 2) rfl ?_
   refine z7 rfl (qj _ _ _) rfl ⟨trivial, trivial, trivial, trivial⟩ ?_
   refine xj (k := 2) rfl ?_
   refine xb rfl (fun b2 => ?_) (fun b2 => ?_)
   refine xr rfl (q7 rfl ⟨⟨rfl, ?_, trivial⟩, z6 rfl⟩)
   rotate_left
   refine zc rfl [] (.take 0 [] (.take 1 [] (.take 2 [] (.take 3 [] (.take 4 [] (.take 5 [] (.take 6 [] (.take 7 [] (.take 8 [15, 21, 22, 23, 24, 25, 26, 27, 28, 29, 30, 31, 32] (.take 9 [] (.take 10 [] (.take 11 [] (.take 12 [] (.take 13 [] (.take 14 [15, 21, 22, 23, 24, 25, 26, 27, 28, 29, 30, 31, 32] (.take 15 [] (.take 16 [] (.take 17 [20, 21, 22, 23, 24, 25, 26, 27, 28, 29, 30, 31, 32] (.take 18 [] (.take 19 [20, 21, 22, 23, 24, 25, 26, 27, 28, 29, 30, 31, 32] (.take 20 [] (.alt 21 (.take 22 [] (.take 23 [] (.take 24 [] (.take 25 [] (.take 26 [27, 31, 32] (.take 27 [] (.take 28 [] (.take 29 [30, 31, 32] (.take 30 [] (.take 31 [] (.take 32 [] .done))))))))))) .nil)))))))))))))))))))))) (by kernel_rfl) ?_
   refine xj (k := 29) rfl ?_
   refine xb rfl (fun b3 => ?_) (fun b3 => ?_)
   refine xr rfl (q7 rfl ⟨⟨rfl, ?_, trivial⟩, z6 rfl⟩)
   rotate_left
   rotate_left
   all_goals first | (refine vi ?_; rw [hK]; clear hg hK hA; simp_all only [Bool.not_eq_true', Bool.not_eq_false', cond_true, cond_false]; done) | skip
   have hT : q54 c ts 0 t = q6n c t := by rw [hK]; clear hg hK hA; simp_all only [Bool.not_eq_true', Bool.not_eq_false', cond_true, cond_false]
   have hle : t.fr.length = t.olds.length := by have := hD.trans b3; simpa using this
   clear hK hD b0 b1 b2 b3 hA
   refine yc rfl (ι := Nat) (fun k => k ≤ t.fr.length ∧ (∀ j y, j < k → t.fr[j]? = some y → y1n c y = false) ∧ ∀ j y, j < k → t.olds[j]? = some y → q0n y = false) (fun k => ⟨[(8, sV (.int .i64 k)), (7, .one (.a 7 0)), (0, .one (.b (.p c.cs)))], [(7, .var (t.cs.map .b))]⟩) (fun k => t.fr.length - k) 0 ⟨Nat.zero_le _, fun j y hj => by omega, fun j y hj => by omega⟩ ?_ ?_
   · exact ⟨⟨rfl, ⟨rfl, rfl, rfl⟩, rfl, trivial⟩, ⟨⟨rfl, rfl, rfl, rfl, rfl, rfl, trivial⟩, trivial⟩, rfl⟩
   · intro k ⟨hk, h0k, h1k⟩ Jk hJk
     refine xb rfl (fun hh => ?_) (fun hh => ?_)
     · have hh : k < t.fr.length := by simpa using hh
       obtain ⟨y, hy⟩ := gx hh
       obtain ⟨v, hv⟩ := gx (xs := t.olds) (i := k) (by omega)
       have hgy := gm (fun n => [i64 n]) hy
       have hgv := gm Vt.cs hv
       have hwq := q3s c y
       refine zc rfl [] (.take 0 [] (.take 1 [3, 4, 11, 12, 13, 14, 15, 16, 17, 18, 19, 20, 21, 22, 23, 24, 25, 26, 27, 28, 29, 30] (.take 2 [] (.take 3 [] (.take 4 [11, 12, 13, 14, 15, 16, 17, 18, 19, 20, 21, 22, 23, 24, 25, 26, 27, 28, 29, 30] (.take 5 [] (.take 6 [] (.take 7 [] (.take 8 [9, 10, 11, 12, 13, 14, 15, 16, 17, 18, 19, 20, 21, 22, 23, 24, 25, 26, 27, 28, 29, 30] (.take 9 [] (.take 10 [] (.alt 11 (.take 12 [] (.take 13 [] (.take 14 [] (.take 15 [17, 18, 20, 21, 22, 23, 24, 25, 26, 27, 28, 29, 30] (.take 16 [] (.take 17 [] (.take 18 [20, 21, 22, 23, 24, 25, 26, 27, 28, 29, 30] (.alt 19 (.take 20 [] (.take 21 [] (.take 22 [] (.take 23 [25, 26, 27, 28, 29, 30] (.take 24 [] (.take 25 [] (.take 26 [27, 28, 29, 30] (.alt 27 (.take 28 [] (.take 29 [] (.take 30 [] .done))) .nil)))))))) .nil)))))))) .nil)))))))))))) (by kernel_rfl) ?_
       refine xs rfl (Int.natCast_nonneg _) ?_
       refine y9 rfl _ hgy ?_
       refine xs rfl rfl ?_
       refine z7 rfl (qj _ _ _) rfl ⟨trivial, trivial, trivial, trivial⟩ ?_
       refine xb rfl (fun b0 => ?_) (fun b0 => ?_)
       refine xj (k := 10) rfl ?_
       refine xr rfl (q7 rfl ⟨⟨rfl, ?_, trivial⟩, z6 rfl⟩)
       rotate_left
       refine xj (k := 3) rfl ?_
       refine xs rfl (Int.natCast_nonneg _) ?_
       refine y9 rfl _ hgv ?_
       refine xs rfl rfl ?_
       refine xj (k := 2) rfl ?_
       refine z7 rfl (y1w) rfl trivial ?_
       refine xj (k := 2) rfl ?_
       refine xb rfl (fun b1 => ?_) (fun b1 => ?_)
       refine xj (k := 3) rfl ?_
       refine xs rfl (Int.natCast_nonneg _) ?_
       refine y9 rfl _ hgv ?_
       refine xs rfl rfl ?_
       refine xj (k := 2) rfl ?_
       refine z7 rfl (q1o _) rfl ⟨⟨trivial, trivial, trivial⟩, trivial⟩ ?_
       refine xj (k := 4) rfl ?_
       refine xb rfl (fun b2 => ?_) (fun b2 => ?_)
       refine xr rfl (q7 rfl ⟨⟨rfl, ?_, trivial⟩, z6 rfl⟩)
       rotate_left
       rotate_left
       refine xj (k := 10) rfl ?_
       rotate_left
       all_goals first
        | (refine vi ?_
           have hb : y1n c y = true := by unfold y1n; rw [← w2]; assumption
           rw [hT]; unfold q6n; rw [yr hy hb |>.symm]; rfl)
        | (refine vi ?_
           have hb : q0n v = true := by unfold q0n; simp_all [y16, Vt.none]
           rw [hT]; unfold q6n; rw [yr hv hb |>.symm, Bool.or_true]; rfl)
        | (have hb : y1n c y = false := by unfold y1n; rw [← w2]; assumption
           have hb2 : q0n v = false := by unfold q0n; simp_all [y16, Vt.none]
           exact ya rfl (hJk _ (k + 1) ⟨by omega, qe hy h0k hb, qe hv h1k hb2⟩ (by omega) ⟨⟨cwi (by omega) (by omega) (by omega), ⟨rfl, rfl, rfl⟩, rfl, trivial⟩, ⟨lcr, trivial⟩, rfl⟩))
        | skip
     · have hh : ¬ k < t.fr.length := by simpa using hh
       have ha := any_none (zi (by omega) h0k)
       have hb := any_none (l := t.olds) (zi (by omega) h1k)
       have hT2 : q54 c ts 0 t = scan (q0o t.fr) t.fr.length := by rw [hT]; unfold q6n; rw [← ha, ← hb]; rfl
       clear hJk h0k h1k ha hb
       refine yc rfl (ι := Nat) (fun k => k ≤ t.fr.length ∧ ∀ j, j < k → q0o t.fr j = 0) (fun k => ⟨[(9, sV (.int .i64 k)), (7, .one (.a 7 0)), (0, .one (.b (.p c.cs)))], [(7, .var (t.cs.map .b))]⟩) (fun k => t.fr.length - k) 0 ⟨Nat.zero_le _, fun j hj => by omega⟩ ?_ ?_
       · exact ⟨⟨rfl, ⟨rfl, rfl, rfl⟩, rfl, trivial⟩, ⟨lcr, trivial⟩, rfl⟩
       · intro k ⟨hk, h0k⟩ Jk hJk
         refine xb rfl (fun hh => ?_) (fun hh => ?_)
         · have hh : k < t.fr.length := by simpa using hh
           obtain ⟨y, hy⟩ := gx hh
           have hgy := gm (fun n => [i64 n]) hy
           refine zc rfl [] (.take 0 [] (.take 1 [3, 9] (.take 2 [] (.take 3 [] (.take 4 [] (.take 5 [7, 8, 9] (.take 6 [] (.take 7 [] (.take 8 [9] (.alt 9 .done .nil)))))))))) (by kernel_rfl) ?_
           refine xs rfl (.inl rfl) ?_
           refine xs rfl (Int.natCast_nonneg _) ?_
           refine xs rfl (Int.natCast_nonneg _) ?_
           refine xs rfl (by simp; omega) ?_
           refine xs rfl (Int.natCast_nonneg _) ?_
           refine y9 rfl _ hgy ?_
           refine xs rfl rfl ?_
           refine z7 rfl (q2q _ (t.fr.take k) y (z2z _ _) (by rw [List.length_take]; omega)) rfl ⟨trivial, trivial, trivial⟩ ?_
           refine xb rfl (fun b0 => ?_) (fun b0 => ?_)
           refine xr rfl (q7 rfl ⟨⟨rfl, ?_, trivial⟩, z6 rfl⟩)
           rotate_left
           rotate_left
           · exact vi (by rw [hT2]; exact q8 hh h0k (by unfold q0o; rw [hy]; exact if_pos b0) (by decide))
           · exact ya rfl (hJk _ (k + 1) ⟨by omega, qa h0k (by unfold q0o; rw [hy]; exact if_neg (by rw [b0]; decide))⟩ (by omega) ⟨⟨cwi (by omega) (by omega) (by omega), ⟨rfl, rfl, rfl⟩, rfl, trivial⟩, ⟨lcr, trivial⟩, rfl⟩)
         · have hh : ¬ k < t.fr.length := by simpa using hh
           have hz := qf (f := q0o t.fr) (n := t.fr.length) (fun j hj => h0k j (by omega))
           refine xr rfl (q7 rfl ⟨⟨rfl, ?_, trivial⟩, z6 rfl⟩)
           exact vi (by rw [hT2, hz])
 · obtain ⟨p, hp⟩ := gx (xs := ts) (i := i - 1) (by omega)
   have hgp := z15 Tr.cs hz (by omega) hp
   have hA : Go.Sx.ahead Tr.lt ts i t = Slt.lt ⟨p.c, p.s, 0, 0, 0, []⟩ ⟨t.c, t.s, 0, 0, 0, []⟩ := q9 hz hp
   have hK := y8w (c := c) rfl rfl rfl hA hD
   refine xs rfl (Int.natCast_nonneg _) ?_
   refine y9 rfl _ hg ?_
   refine xs rfl rfl ?_
   refine z7 rfl (qv _ (by assumption) _ _) rfl ⟨trivial, trivial, trivial, trivial⟩ ?_
   refine xb rfl (fun b0 => ?_) (fun b0 => ?_)
   refine xr rfl (q7 rfl ⟨⟨rfl, ?_, trivial⟩, z6 rfl⟩)
   rotate_left
   refine z7 rfl (qj _ _ _) rfl ⟨trivial, trivial, trivial, trivial⟩ ?_
   refine xb rfl (fun b1 => ?_) (fun b1 => ?_)
   refine xj (k := 5) rfl ?_
   refine xr rfl (q7 rfl ⟨⟨rfl, ?_, trivial⟩, z6 rfl⟩)
   rotate_left
   refine xj (k := 2) rfl ?_
   refine z7 rfl (qj _ _ _) rfl ⟨trivial, trivial, trivial, trivial⟩ ?_
   refine xj (k := 2) rfl ?_
   refine xb rfl (fun b2 => ?_) (fun b2 => ?_)
   refine xr rfl (q7 rfl ⟨⟨rfl, ?_, trivial⟩, z6 rfl⟩)
   rotate_left
   refine zc rfl [] (.take 0 [] (.take 1 [] (.take 2 [] (.take 3 [] (.take 4 [] (.take 5 [] (.take 6 [] (.take 7 [] (.take 8 [15, 21, 22, 23, 24, 25, 26, 27, 28, 29, 30, 31, 32] (.take 9 [] (.take 10 [] (.take 11 [] (.take 12 [] (.take 13 [] (.take 14 [15, 21, 22, 23, 24, 25, 26, 27, 28, 29, 30, 31, 32] (.take 15 [] (.take 16 [] (.take 17 [20, 21, 22, 23, 24, 25, 26, 27, 28, 29, 30, 31, 32] (.take 18 [] (.take 19 [20, 21, 22, 23, 24, 25, 26, 27, 28, 29, 30, 31, 32] (.take 20 [] (.alt 21 (.take 22 [] (.take 23 [] (.take 24 [] (.take 25 [] (.take 26 [27, 31, 32] (.take 27 [] (.take 28 [] (.take 29 [30, 31, 32] (.take 30 [] (.take 31 [] (.take 32 [] .done))))))))))) .nil)))))))))))))))))))))) (by kernel_rfl) ?_
   refine xb rfl (fun b3 => ?_) (fun b3 => ?_)
   refine xj (k := 3) rfl ?_
   refine xs rfl (y0k hz (by omega)) ?_
   refine y9 rfl _ hgp ?_
   refine xs rfl rfl ?_
   refine xj (k := 6) rfl ?_
   refine xs rfl (y0k hz (by omega)) ?_
   refine y9 rfl _ hgp ?_
   refine xs rfl rfl ?_
   refine xj (k := 9) rfl ?_
   refine z7 rfl (z3m ⟨p.c, p.s, 0, 0, 0, []⟩ ⟨t.c, t.s, 0, 0, 0, []⟩) rfl ⟨⟨trivial, trivial, trivial, trivial, trivial, trivial, trivial⟩, ⟨trivial, trivial, trivial, trivial, trivial, trivial, trivial⟩, trivial⟩ ?_
   refine xj (k := 2) rfl ?_
   refine xb rfl (fun b4 => ?_) (fun b4 => ?_)
   refine xj (k := 8) rfl ?_
   refine xr rfl (q7 rfl ⟨⟨rfl, ?_, trivial⟩, z6 rfl⟩)
   rotate_left
   refine xj (k := 7) rfl ?_
   refine xb rfl (fun b5 => ?_) (fun b5 => ?_)
   refine xr rfl (q7 rfl ⟨⟨rfl, ?_, trivial⟩, z6 rfl⟩)
   rotate_left
   rotate_left
   exact absurd b3 (by simp; omega)
   all_goals first | (refine vi ?_; rw [hK]; clear hg hgp hK hA; simp_all only [Bool.not_eq_true', Bool.not_eq_false', cond_true, cond_false]; done) | (exfalso; clear hK; simp at b3; omega) | skip
   have hT : q54 c ts i t = q6n c t := by rw [hK]; clear hg hgp hK hA; simp_all only [Bool.not_eq_true', Bool.not_eq_false', cond_true, cond_false]
   have hle : t.fr.length = t.olds.length := by have := hD.trans b5; simpa using this
   clear hK hD b0 b1 b2 b3 b4 b5 hA
   refine yc rfl (ι := Nat) (fun k => k ≤ t.fr.length ∧ (∀ j y, j < k → t.fr[j]? = some y → y1n c y = false) ∧ ∀ j y, j < k → t.olds[j]? = some y → q0n y = false) (fun k => ⟨[(8, sV (.int .i64 k)), (7, .one (.a 7 0)), (0, .one (.b (.p c.cs)))], [(7, .var (t.cs.map .b))]⟩) (fun k => t.fr.length - k) 0 ⟨Nat.zero_le _, fun j y hj => by omega, fun j y hj => by omega⟩ ?_ ?_
   · exact ⟨⟨rfl, ⟨rfl, rfl, rfl⟩, rfl, trivial⟩, ⟨⟨rfl, rfl, rfl, rfl, rfl, rfl, trivial⟩, trivial⟩, rfl⟩
   · intro k ⟨hk, h0k, h1k⟩ Jk hJk
     refine xb rfl (fun hh => ?_) (fun hh => ?_)
     · have hh : k < t.fr.length := by simpa using hh
       obtain ⟨y, hy⟩ := gx hh
       obtain ⟨v, hv⟩ := gx (xs := t.olds) (i := k) (by omega)
       have hgy := gm (fun n => [i64 n]) hy
       have hgv := gm Vt.cs hv
       have hwq := q3s c y
       refine zc rfl [] (.take 0 [] (.take 1 [3, 4, 11, 12, 13, 14, 15, 16, 17, 18, 19, 20, 21, 22, 23, 24, 25, 26, 27, 28, 29, 30] (.take 2 [] (.take 3 [] (.take 4 [11, 12, 13, 14, 15, 16, 17, 18, 19, 20, 21, 22, 23, 24, 25, 26, 27, 28, 29, 30] (.take 5 [] (.take 6 [] (.take 7 [] (.take 8 [9, 10, 11, 12, 13, 14, 15, 16, 17, 18, 19, 20, 21, 22, 23, 24, 25, 26, 27, 28, 29, 30] (.take 9 [] (.take 10 [] (.alt 11 (.take 12 [] (.take 13 [] (.take 14 [] (.take 15 [17, 18, 20, 21, 22, 23, 24, 25, 26, 27, 28, 29, 30] (.take 16 [] (.take 17 [] (.take 18 [20, 21, 22, 23, 24, 25, 26, 27, 28, 29, 30] (.alt 19 (.take 20 [] (.take 21 [] (.take 22 [] (.take 23 [25, 26, 27, 28, 29, 30] (.take 24 [] (.take 25 [] (.take 26 [27, 28, 29, 30] (.alt 27 (.take 28 [] (.take 29 [] (.take 30 [] .done))) .nil)))))))) .nil)))))))) .nil)))))))))))) (by kernel_rfl) ?_
       refine xs rfl (Int.natCast_nonneg _) ?_
       refine y9 rfl _ hgy ?_
       refine xs rfl rfl ?_
       refine z7 rfl (qj _ _ _) rfl ⟨trivial, trivial, trivial, trivial⟩ ?_
       refine xb rfl (fun b0 => ?_) (fun b0 => ?_)
       refine xj (k := 10) rfl ?_
       refine xr rfl (q7 rfl ⟨⟨rfl, ?_, trivial⟩, z6 rfl⟩)
       rotate_left
       refine xj (k := 3) rfl ?_
       refine xs rfl (Int.natCast_nonneg _) ?_
       refine y9 rfl _ hgv ?_
       refine xs rfl rfl ?_
       refine xj (k := 2) rfl ?_
       refine z7 rfl (y1w) rfl trivial ?_
       refine xj (k := 2) rfl ?_
       refine xb rfl (fun b1 => ?_) (fun b1 => ?_)
       refine xj (k := 3) rfl ?_
       refine xs rfl (Int.natCast_nonneg _) ?_
       refine y9 rfl _ hgv ?_
       refine xs rfl rfl ?_
       refine xj (k := 2) rfl ?_
       refine z7 rfl (q1o _) rfl ⟨⟨trivial, trivial, trivial⟩, trivial⟩ ?_
       refine xj (k := 4) rfl ?_
       refine xb rfl (fun b2 => ?_) (fun b2 => ?_)
       refine xr rfl (q7 rfl ⟨⟨rfl, ?_, trivial⟩, z6 rfl⟩)
       rotate_left
       rotate_left
       refine xj (k := 10) rfl ?_
       rotate_left
       all_goals first
        | (refine vi ?_
           have hb : y1n c y = true := by unfold y1n; rw [← w2]; assumption
           rw [hT]; unfold q6n; rw [yr hy hb |>.symm]; rfl)
        | (refine vi ?_
           have hb : q0n v = true := by unfold q0n; simp_all [y16, Vt.none]
           rw [hT]; unfold q6n; rw [yr hv hb |>.symm, Bool.or_true]; rfl)
        | (have hb : y1n c y = false := by unfold y1n; rw [← w2]; assumption
           have hb2 : q0n v = false := by unfold q0n; simp_all [y16, Vt.none]
           exact ya rfl (hJk _ (k + 1) ⟨by omega, qe hy h0k hb, qe hv h1k hb2⟩ (by omega) ⟨⟨cwi (by omega) (by omega) (by omega), ⟨rfl, rfl, rfl⟩, rfl, trivial⟩, ⟨lcr, trivial⟩, rfl⟩))
        | skip
     · have hh : ¬ k < t.fr.length := by simpa using hh
       have ha := any_none (zi (by omega) h0k)
       have hb := any_none (l := t.olds) (zi (by omega) h1k)
       have hT2 : q54 c ts i t = scan (q0o t.fr) t.fr.length := by rw [hT]; unfold q6n; rw [← ha, ← hb]; rfl
       clear hJk h0k h1k ha hb
       refine yc rfl (ι := Nat) (fun k => k ≤ t.fr.length ∧ ∀ j, j < k → q0o t.fr j = 0) (fun k => ⟨[(9, sV (.int .i64 k)), (7, .one (.a 7 0)), (0, .one (.b (.p c.cs)))], [(7, .var (t.cs.map .b))]⟩) (fun k => t.fr.length - k) 0 ⟨Nat.zero_le _, fun j hj => by omega⟩ ?_ ?_
       · exact ⟨⟨rfl, ⟨rfl, rfl, rfl⟩, rfl, trivial⟩, ⟨lcr, trivial⟩, rfl⟩
       · intro k ⟨hk, h0k⟩ Jk hJk
         refine xb rfl (fun hh => ?_) (fun hh => ?_)
         · have hh : k < t.fr.length := by simpa using hh
           obtain ⟨y, hy⟩ := gx hh
           have hgy := gm (fun n => [i64 n]) hy
           refine zc rfl [] (.take 0 [] (.take 1 [3, 9] (.take 2 [] (.take 3 [] (.take 4 [] (.take 5 [7, 8, 9] (.take 6 [] (.take 7 [] (.take 8 [9] (.alt 9 .done .nil)))))))))) (by kernel_rfl) ?_
           refine xs rfl (.inl rfl) ?_
           refine xs rfl (Int.natCast_nonneg _) ?_
           refine xs rfl (Int.natCast_nonneg _) ?_
           refine xs rfl (by simp; omega) ?_
           refine xs rfl (Int.natCast_nonneg _) ?_
           refine y9 rfl _ hgy ?_
           refine xs rfl rfl ?_
           refine z7 rfl (q2q _ (t.fr.take k) y (z2z _ _) (by rw [List.length_take]; omega)) rfl ⟨trivial, trivial, trivial⟩ ?_
           refine xb rfl (fun b0 => ?_) (fun b0 => ?_)
           refine xr rfl (q7 rfl ⟨⟨rfl, ?_, trivial⟩, z6 rfl⟩)
           rotate_left
           rotate_left
           · exact vi (by rw [hT2]; exact q8 hh h0k (by unfold q0o; rw [hy]; exact if_pos b0) (by decide))
           · exact ya rfl (hJk _ (k + 1) ⟨by omega, qa h0k (by unfold q0o; rw [hy]; exact if_neg (by rw [b0]; decide))⟩ (by omega) ⟨⟨cwi (by omega) (by omega) (by omega), ⟨rfl, rfl, rfl⟩, rfl, trivial⟩, ⟨lcr, trivial⟩, rfl⟩)
         · have hh : ¬ k < t.fr.length := by simpa using hh
           have hz := qf (f := q0o t.fr) (n := t.fr.length) (fun j hj => h0k j (by omega))
           refine xr rfl (q7 rfl ⟨⟨rfl, ?_, trivial⟩, z6 rfl⟩)
           exact vi (by rw [hT2, hz])
end Go.Proofs.YthljegacamgnnaaGreat
end
section
namespace Go.Proofs.YthljegacamgnnaaGreat
open Go Go.Sx
set_option maxRecDepth 20000
set_option maxHeartbeats 4000000
theorem zan {c : Clu} {l : Ldr} (hn : Go.Sx.within l.n 0 400 = true) (hm : ¬ (60 < l.tries.length ∨ 300 < l.known.length)) {v : Int} (hv : v = scan (y3b c l.tries) l.tries.length) (h : v ≠ 0) : y7a c l = v := by
 unfold y7a
 rw [hn, if_neg (by decide), if_neg hm, orr, ← hv, if_pos h]
theorem q5d {c : Clu} {l : Ldr} (hn : Go.Sx.within l.n 0 400 = true) (hm : ¬ (60 < l.tries.length ∨ 300 < l.known.length)) (h1 : scan (y3b c l.tries) l.tries.length = 0) {v : Int} (hv : v = scan (hdF c l.known) l.known.length) : y7a c l = v := by
 unfold y7a
 rw [hn, if_neg (by decide), if_neg hm, orr, h1, if_neg (by decide), orr, ← hv, orr]
 split
 · rfl
 · rename_i h; have h : v = 0 := by simpa using h
   exact h.symm
theorem z8i (c : Clu) (ho : yw c) : PC Tryz.prog 116 [.one (.p c.cs)] (rI (scan (q2k c) c.ldrs.length)) := by
 refine PC.begin Tryz.func116 rfl (by kernel_rfl) ?_
 have hl := ho.2.2.2.1.1
 have w2 := wl1 Acc.cs ho.2.2.1.1
 refine yc rfl (ι := Nat) (fun i => i ≤ c.ldrs.length ∧ ∀ j, j < i → q2k c j = 0) (fun i => ⟨[(3, sV (.int .i64 i)), (0, .one (.b (.p c.cs)))], []⟩) (fun i => c.ldrs.length - i) 0 ⟨Nat.zero_le _, fun j hj => by omega⟩ ?_ ?_
 · exact ⟨⟨rfl, rfl, trivial⟩, trivial, rfl⟩
 · intro io ⟨hio, h0o⟩ Jo hJo
   refine xb rfl (fun hho => ?_) (fun hho => ?_)
   · have hho : io < c.ldrs.length := by simpa using hho
     obtain ⟨l, hlx⟩ := gx hho
     have hgl := gm Ldr.cs hlx
     obtain ⟨l1, l2, l3⟩ := ho.2.2.2.1.2 l (List.mem_of_getElem? hlx)
     have hF : q2k c io = y7a c l := by unfold q2k; rw [hlx]
     refine xs rfl (Int.natCast_nonneg _) ?_
     refine y9 rfl _ hgl ?_
     refine xs rfl rfl ?_
     refine z7 rfl (qj _ _ _) rfl ⟨trivial, trivial, trivial, trivial⟩ ?_
     refine xb rfl (fun b0 => ?_) (fun b0 => ?_)
     refine xr rfl (q7 rfl ⟨⟨rfl, ?_, trivial⟩, z6 rfl⟩)
     rotate_left
     refine xb rfl (fun b1 => ?_) (fun b1 => ?_)
     refine xj (k := 5) rfl ?_
     refine xr rfl (q7 rfl ⟨⟨rfl, ?_, trivial⟩, z6 rfl⟩)
     rotate_left
     refine xj (k := 4) rfl ?_
     refine xb rfl (fun b2 => ?_) (fun b2 => ?_)
     refine xr rfl (q7 rfl ⟨⟨rfl, ?_, trivial⟩, z6 rfl⟩)
     rotate_left
     rotate_left
     all_goals first
      | (refine vi (q8 hho h0o ?_ (by decide)); clear hJo h0o hgl; rw [hF]; unfold y7a; simp_all; done)
      | (refine vi (q8 hho h0o ?_ (by decide)); clear hJo h0o hgl; rw [hF]; unfold y7a; simp_all; omega)
      | skip
     have hn : Go.Sx.within l.n 0 400 = true := by simpa using b0
     have hm : ¬ (60 < l.tries.length ∨ 300 < l.known.length) := by simp at b1 b2; omega
     clear b0 b1 b2
     refine yc rfl (ι := Nat) (fun i => i ≤ l.tries.length ∧ ∀ j, j < i → y3b c l.tries j = 0) (fun i => ⟨[(5, sV (.int .i64 i)), (4, .one (.a 4 0)), (3, sV (.int .i64 io)), (0, .one (.b (.p c.cs)))], [(4, .var (l.cs.map .b))]⟩) (fun i => l.tries.length - i) 0 ⟨Nat.zero_le _, fun j hj => by omega⟩ ?_ ?_
     · exact ⟨⟨rfl, ⟨rfl, rfl, rfl⟩, rfl, rfl, trivial⟩, ⟨⟨rfl, rfl, rfl, trivial⟩, trivial⟩, rfl⟩
     · intro i ⟨hi, h0⟩ J hJ
       refine xb rfl (fun h => ?_) (fun h => ?_)
       · have h : i < l.tries.length := by simpa using h
         obtain ⟨x, hx⟩ := gx h
         have hg := gm Tr.cs hx
         refine z7 rfl (q9n c ho l.tries i x l1 (l3 x (List.mem_of_getElem? hx)) hx) rfl ⟨trivial, trivial, trivial, trivial⟩ ?_
         refine xb rfl (fun b0 => ?_) (fun b0 => ?_)
         refine xr rfl (q7 rfl ⟨⟨rfl, ?_, trivial⟩, z6 rfl⟩)
         rotate_left
         rotate_left
         all_goals (first | (have hsc := q8 (c := q54 c l.tries i x) h h0 (by clear hJ h0 hg; (first | (simp_all [y3b]; done) | (simp_all [y3b]; omega)); done) (by clear hJ h0; simp_all); exact vi (q8 hho h0o (hF.trans (zan hn hm hsc (by simpa using b0))) (by simpa using b0)); done) | (refine vi (q8 h h0 ?_ (by first | decide | decide | simp_all)); clear hJ h0 hg; (first | (simp_all [y3b]; done) | (simp_all [y3b]; omega)); done) | (refine ya rfl (hJ _ (i + 1) ⟨by omega, qa h0 ?_⟩ (by omega) ⟨⟨cwi (by omega) (by omega) (by omega), ⟨rfl, rfl, rfl⟩, rfl, rfl, trivial⟩, ⟨⟨rfl, rfl, rfl, trivial⟩, trivial⟩, rfl⟩); clear hJ h0 hg; (first | (simp_all [y3b]; done) | (simp_all [y3b]; omega)); done) | skip)
       · have h : ¬ i < l.tries.length := by simpa using h
         have hz := qf (f := y3b c l.tries) (n := l.tries.length) (fun j hj => h0 j (by omega))
         clear hJ
         have hz1 := hz
         clear hz h h0
         refine yc rfl (ι := Nat) (fun i => i ≤ l.known.length ∧ ∀ j, j < i → hdF c l.known j = 0) (fun i => ⟨[(7, sV (.int .i64 i)), (4, .one (.a 4 0)), (3, sV (.int .i64 io)), (0, .one (.b (.p c.cs)))], [(4, .var (l.cs.map .b))]⟩) (fun i => l.known.length - i) 0 ⟨Nat.zero_le _, fun j hj => by omega⟩ ?_ ?_
         · exact ⟨⟨rfl, ⟨rfl, rfl, rfl⟩, rfl, rfl, trivial⟩, ⟨⟨rfl, rfl, rfl, trivial⟩, trivial⟩, rfl⟩
         · intro i ⟨hi, h0⟩ J hJ
           refine xb rfl (fun h => ?_) (fun h => ?_)
           · have h : i < l.known.length := by simpa using h
             obtain ⟨x, hx⟩ := gx h
             have hg := gm Hd.cs hx
             rcases Nat.eq_zero_or_pos i with hz | hz
             · subst hz
               refine xs rfl (Int.natCast_nonneg _) ?_
               refine y9 rfl _ hg ?_
               refine xs rfl rfl ?_
               refine z7 rfl (qv _ (by assumption) _ _) rfl ⟨trivial, trivial, trivial, trivial⟩ ?_
               refine xb rfl (fun b0 => ?_) (fun b0 => ?_)
               refine xr rfl (q7 rfl ⟨⟨rfl, ?_, trivial⟩, z6 rfl⟩)
               rotate_left
               refine zc rfl [] (.take 0 [] (.take 1 [2, 3, 4, 5, 6, 7, 8, 9, 10, 11, 12, 13, 14, 15, 16, 17, 18, 19, 20, 21] (.alt 2 (.take 3 [] (.take 4 [] (.take 5 [] (.take 6 [7, 8, 9, 10, 11, 12, 13, 14, 15, 16, 17, 18, 19, 20, 21] (.alt 7 (.take 8 [] (.take 9 [] (.take 10 [] (.take 11 [] (.take 12 [19, 20, 21] (.take 13 [] (.take 14 [] (.take 15 [] (.take 16 [17, 18, 19, 20, 21] (.take 17 [] (.take 18 [] (.alt 19 (.take 20 [] (.take 21 [] .done)) .nil)))))))))))) .nil))))) .nil))) (by kernel_rfl) ?_
               refine z7 rfl (yz _) rfl ⟨trivial, trivial⟩ ?_
               refine xb rfl (fun b1 => ?_) (fun b1 => ?_)
               refine xj (k := 16) rfl ?_
               refine xr rfl (q7 rfl ⟨⟨rfl, ?_, trivial⟩, z6 rfl⟩)
               rotate_left
               refine xj (k := 2) rfl ?_
               refine z7 rfl (q07 _) rfl ⟨trivial, trivial⟩ ?_
               refine xj (k := 2) rfl ?_
               refine xb rfl (fun b2 => ?_) (fun b2 => ?_)
               refine xj (k := 11) rfl ?_
               refine xr rfl (q7 rfl ⟨⟨rfl, ?_, trivial⟩, z6 rfl⟩)
               rotate_left
               refine xj (k := 8) rfl ?_
               refine z7 rfl (qj _ _ _) rfl ⟨trivial, trivial, trivial, trivial⟩ ?_
               refine xj (k := 2) rfl ?_
               refine xb rfl (fun b3 => ?_) (fun b3 => ?_)
               refine xr rfl (q7 rfl ⟨⟨rfl, ?_, trivial⟩, z6 rfl⟩)
               rotate_left
               refine zc rfl [] (.take 0 [] (.take 1 [] (.take 2 [] (.take 3 [] (.take 4 [7, 8, 10, 11, 12] (.take 5 [] (.take 6 [] (.take 7 [] (.take 8 [10, 11, 12] (.take 9 [10, 11, 12] (.alt 10 (.take 11 [] (.take 12 [] .done)) .nil))))))))))) (by kernel_rfl) ?_
               refine xj (k := 11) rfl ?_
               rotate_left
               all_goals (first | (have hsc := q8 (c := 4) h h0 (by clear hJ h0 hg; (first | (simp_all [hdF, ahead_zero]; done) | (simp_all [hdF, ahead_zero]; omega)); done) (by decide); exact vi (q8 hho h0o (hF.trans (q5d hn hm hz1 hsc)) (by decide)); done) | (have hsc := q8 (c := 3) h h0 (by clear hJ h0 hg; (first | (simp_all [hdF, ahead_zero]; done) | (simp_all [hdF, ahead_zero]; omega)); done) (by decide); exact vi (q8 hho h0o (hF.trans (q5d hn hm hz1 hsc)) (by decide)); done) | (have hsc := q8 (c := 1) h h0 (by clear hJ h0 hg; (first | (simp_all [hdF, ahead_zero]; done) | (simp_all [hdF, ahead_zero]; omega)); done) (by decide); exact vi (q8 hho h0o (hF.trans (q5d hn hm hz1 hsc)) (by decide)); done) | (refine vi (q8 h h0 ?_ (by first | decide | decide | simp_all)); clear hJ h0 hg; (first | (simp_all [hdF, ahead_zero]; done) | (simp_all [hdF, ahead_zero]; omega)); done) | (refine ya rfl (hJ _ 1 ⟨by omega, qa h0 ?_⟩ (by omega) ⟨⟨cwi (by omega) (by omega) (by omega), ⟨rfl, rfl, rfl⟩, rfl, rfl, trivial⟩, ⟨⟨rfl, rfl, rfl, trivial⟩, trivial⟩, rfl⟩); clear hJ h0 hg; (first | (simp_all [hdF, ahead_zero]; done) | (simp_all [hdF, ahead_zero]; omega)); done) | skip)
             · obtain ⟨p, hp⟩ := gx (xs := l.known) (i := i - 1) (by omega)
               have hgp := z15 Hd.cs hz (by omega) hp
               refine xs rfl (Int.natCast_nonneg _) ?_
               refine y9 rfl _ hg ?_
               refine xs rfl rfl ?_
               refine z7 rfl (qv _ (by assumption) _ _) rfl ⟨trivial, trivial, trivial, trivial⟩ ?_
               refine xb rfl (fun b0 => ?_) (fun b0 => ?_)
               refine xr rfl (q7 rfl ⟨⟨rfl, ?_, trivial⟩, z6 rfl⟩)
               rotate_left
               refine zc rfl [] (.take 0 [] (.take 1 [2, 3, 4, 5, 6, 7, 8, 9, 10, 11, 12, 13, 14, 15, 16, 17, 18, 19, 20, 21] (.alt 2 (.take 3 [] (.take 4 [] (.take 5 [] (.take 6 [7, 8, 9, 10, 11, 12, 13, 14, 15, 16, 17, 18, 19, 20, 21] (.alt 7 (.take 8 [] (.take 9 [] (.take 10 [] (.take 11 [] (.take 12 [19, 20, 21] (.take 13 [] (.take 14 [] (.take 15 [] (.take 16 [17, 18, 19, 20, 21] (.take 17 [] (.take 18 [] (.alt 19 (.take 20 [] (.take 21 [] .done)) .nil)))))))))))) .nil))))) .nil))) (by kernel_rfl) ?_
               refine z7 rfl (yz _) rfl ⟨trivial, trivial⟩ ?_
               refine xb rfl (fun b1 => ?_) (fun b1 => ?_)
               refine xj (k := 16) rfl ?_
               refine xr rfl (q7 rfl ⟨⟨rfl, ?_, trivial⟩, z6 rfl⟩)
               rotate_left
               refine xj (k := 2) rfl ?_
               refine z7 rfl (q07 _) rfl ⟨trivial, trivial⟩ ?_
               refine xj (k := 2) rfl ?_
               refine xb rfl (fun b2 => ?_) (fun b2 => ?_)
               refine xj (k := 11) rfl ?_
               refine xr rfl (q7 rfl ⟨⟨rfl, ?_, trivial⟩, z6 rfl⟩)
               rotate_left
               refine xj (k := 8) rfl ?_
               refine z7 rfl (qj _ _ _) rfl ⟨trivial, trivial, trivial, trivial⟩ ?_
               refine xj (k := 2) rfl ?_
               refine xb rfl (fun b3 => ?_) (fun b3 => ?_)
               refine xr rfl (q7 rfl ⟨⟨rfl, ?_, trivial⟩, z6 rfl⟩)
               rotate_left
               refine zc rfl [] (.take 0 [] (.take 1 [] (.take 2 [] (.take 3 [] (.take 4 [7, 8, 10, 11, 12] (.take 5 [] (.take 6 [] (.take 7 [] (.take 8 [10, 11, 12] (.take 9 [10, 11, 12] (.alt 10 (.take 11 [] (.take 12 [] .done)) .nil))))))))))) (by kernel_rfl) ?_
               refine xb rfl (fun b4 => ?_) (fun b4 => ?_)
               refine xj (k := 4) rfl ?_
               refine xs rfl (y0k hz (by omega)) ?_
               refine y9 rfl _ hgp ?_
               refine xs rfl rfl ?_
               refine xj (k := 3) rfl ?_
               refine z7 rfl (q4r _ _) rfl ⟨⟨trivial, trivial, trivial, trivial, trivial, trivial⟩, ⟨trivial, trivial, trivial, trivial, trivial, trivial⟩, trivial⟩ ?_
               refine xj (k := 2) rfl ?_
               refine xb rfl (fun b5 => ?_) (fun b5 => ?_)
               refine xr rfl (q7 rfl ⟨⟨rfl, ?_, trivial⟩, z6 rfl⟩)
               rotate_left
               rotate_left
               refine xj (k := 10) rfl ?_
               rotate_left
               all_goals (first | (have hsc := q8 (c := 4) h h0 (by clear hJ h0 hg hgp; (first | (simp_all [hdF, q9 hz hp]; done) | (simp_all [hdF, q9 hz hp]; omega)); done) (by decide); exact vi (q8 hho h0o (hF.trans (q5d hn hm hz1 hsc)) (by decide)); done) | (have hsc := q8 (c := 3) h h0 (by clear hJ h0 hg hgp; (first | (simp_all [hdF, q9 hz hp]; done) | (simp_all [hdF, q9 hz hp]; omega)); done) (by decide); exact vi (q8 hho h0o (hF.trans (q5d hn hm hz1 hsc)) (by decide)); done) | (have hsc := q8 (c := 1) h h0 (by clear hJ h0 hg hgp; (first | (simp_all [hdF, q9 hz hp]; done) | (simp_all [hdF, q9 hz hp]; omega)); done) (by decide); exact vi (q8 hho h0o (hF.trans (q5d hn hm hz1 hsc)) (by decide)); done) | (refine vi (q8 h h0 ?_ (by first | decide | decide | simp_all)); clear hJ h0 hg hgp; (first | (simp_all [hdF, q9 hz hp]; done) | (simp_all [hdF, q9 hz hp]; omega)); done) | (refine ya rfl (hJ _ (i + 1) ⟨by omega, qa h0 ?_⟩ (by omega) ⟨⟨cwi (by omega) (by omega) (by omega), ⟨rfl, rfl, rfl⟩, rfl, rfl, trivial⟩, ⟨⟨rfl, rfl, rfl, trivial⟩, trivial⟩, rfl⟩); clear hJ h0 hg hgp; (first | (simp_all [hdF, q9 hz hp]; done) | (simp_all [hdF, q9 hz hp]; omega)); done) | skip)
           · have h : ¬ i < l.known.length := by simpa using h
             have hz := qf (f := hdF c l.known) (n := l.known.length) (fun j hj => h0 j (by omega))
             clear hJ
             skip
             exact ya rfl (hJo _ (io + 1) ⟨by omega, qa h0o (hF.trans (q5d hn hm hz1 hz.symm))⟩ (by omega) ⟨⟨cwi (by omega) (by omega) (by omega), rfl, trivial⟩, trivial, rfl⟩)
   · have hho : ¬ io < c.ldrs.length := by simpa using hho
     have hz := qf (f := q2k c) (n := c.ldrs.length) (fun j hj => h0o j (by omega))
     refine xr rfl (q7 rfl ⟨⟨rfl, ?_, trivial⟩, z6 rfl⟩)
     exact vi (hz.symm)
end Go.Proofs.YthljegacamgnnaaGreat
end
section
namespace Go.Proofs.YthljegacamgnnaaGreat
open Go Go.Sx
set_option maxRecDepth 20000
set_option maxHeartbeats 4000000
theorem yb1 {a b c d e : Int} : orr [a, b, c, d, e] = if a ≠ 0 then a else if b ≠ 0 then b else if c ≠ 0 then c else if d ≠ 0 then d else e := by
 unfold orr orr orr orr orr orr
 repeat' split
 all_goals first | rfl | omega
theorem z0b {c : Clu} : z0m c = true ↔ (20 < c.cons.length ∨ ¬ (1 ≤ c.shs.length ∧ c.shs.length ≤ 3) ∨ ¬ (1 ≤ c.accs.length ∧ c.accs.length ≤ 5) ∨ c.ldrs.length ≠ 2 ∨ 200 < c.msgs.length) := by
 unfold z0m Go.Sx.within
 simp
 omega
theorem q8q {c : Clu} (h : z0m c = true) : zl c = 2 := by unfold zl; rw [if_pos h]
theorem q80 {c : Clu} (h : ¬ z0m c = true) : zl c = if scan (y0a c) c.cons.length ≠ 0 then scan (y0a c) c.cons.length else if scan (z21 c) c.shs.length ≠ 0 then scan (z21 c) c.shs.length else if scan (q2j c) c.accs.length ≠ 0 then scan (q2j c) c.accs.length else if scan (q2k c) c.ldrs.length ≠ 0 then scan (q2k c) c.ldrs.length else scan (z48 c) c.msgs.length := by
 unfold zl; rw [if_neg h, yb1]
theorem qak (c : Clu) (us : List Acc) (F : Acc → Int) (G : Nat → Int) (fn : Nat) (hG : ∀ i x, us[i]? = some x → G i = F x) (hf : ∀ x ∈ us, PC Tryz.prog fn [.one (.p c.cs), .agg x.cs] (rI (F x))) (hl : us.length ≤ 1048576) : PC Tryz.prog 129 [.one (.l (us.map Acc.cs)), .one (.m fn false [.p c.cs])] (rI (scan G us.length)) := by
 refine PC.begin Tryz.func129 rfl (by kernel_rfl) ?_
 have hn : (us.map Acc.cs).length = us.length := by simp
 refine yc rfl (ι := Nat) (fun i => i ≤ us.length ∧ ∀ j, j < i → G j = 0) (fun i => ⟨[(10, sV (.int .i64 i)), (9, sV (.int .i64 (us.map Acc.cs).length)), (8, .one (.b (.l (us.map Acc.cs)))), (1, .one (.b (.m fn false [.p c.cs])))], []⟩) (fun i => us.length - i) 0 ⟨Nat.zero_le _, fun j hj => by omega⟩ ?_ ?_
 · exact ⟨⟨rfl, rfl, rfl, rfl, trivial⟩, trivial, rfl⟩
 · intro i ⟨hi, h0⟩ J hJ
   refine xb rfl (fun h => ?_) (fun h => ?_)
   · have h : i < us.length := by simpa using h
     obtain ⟨x, hx⟩ := gx h
     have hg := gm Acc.cs hx
     have hxm := List.mem_of_getElem? hx
     have hGx := hG i x hx
     refine xs rfl (Int.natCast_nonneg _) ?_
     refine y9 rfl _ hg ?_
     refine xs rfl rfl ?_
     refine z7 rfl (hf _ hxm) rfl ⟨trivial, ⟨trivial, trivial⟩, trivial⟩ ?_
     refine xb rfl (fun b0 => ?_) (fun b0 => ?_)
     refine xr rfl (q7 rfl ⟨⟨rfl, ?_, trivial⟩, z6 rfl⟩)
     rotate_left
     rotate_left
     · exact vi (q8 h h0 hGx (by simpa using b0))
     · exact ya rfl (hJ _ (i + 1) ⟨by omega, qa h0 (hGx.trans (by simpa using b0))⟩ (by omega) ⟨⟨cwi (by omega) (by omega) (by omega), rfl, rfl, rfl, trivial⟩, trivial, rfl⟩)
   · have h : ¬ i < us.length := by simpa using h
     have hz := qf (f := G) (n := us.length) (fun j hj => h0 j (by omega))
     refine xr rfl (q7 rfl ⟨⟨rfl, ?_, trivial⟩, z6 rfl⟩)
     exact vi (hz.symm)
theorem zal (c : Clu) (us : List Ldr) (F : Ldr → Int) (G : Nat → Int) (fn : Nat) (hG : ∀ i x, us[i]? = some x → G i = F x) (hf : ∀ x ∈ us, PC Tryz.prog fn [.one (.p c.cs), .agg x.cs] (rI (F x))) (hl : us.length ≤ 1048576) : PC Tryz.prog 131 [.one (.l (us.map Ldr.cs)), .one (.m fn false [.p c.cs])] (rI (scan G us.length)) := by
 refine PC.begin Tryz.func131 rfl (by kernel_rfl) ?_
 have hn : (us.map Ldr.cs).length = us.length := by simp
 refine yc rfl (ι := Nat) (fun i => i ≤ us.length ∧ ∀ j, j < i → G j = 0) (fun i => ⟨[(10, sV (.int .i64 i)), (9, sV (.int .i64 (us.map Ldr.cs).length)), (8, .one (.b (.l (us.map Ldr.cs)))), (1, .one (.b (.m fn false [.p c.cs])))], []⟩) (fun i => us.length - i) 0 ⟨Nat.zero_le _, fun j hj => by omega⟩ ?_ ?_
 · exact ⟨⟨rfl, rfl, rfl, rfl, trivial⟩, trivial, rfl⟩
 · intro i ⟨hi, h0⟩ J hJ
   refine xb rfl (fun h => ?_) (fun h => ?_)
   · have h : i < us.length := by simpa using h
     obtain ⟨x, hx⟩ := gx h
     have hg := gm Ldr.cs hx
     have hxm := List.mem_of_getElem? hx
     have hGx := hG i x hx
     refine xs rfl (Int.natCast_nonneg _) ?_
     refine y9 rfl _ hg ?_
     refine xs rfl rfl ?_
     refine z7 rfl (hf _ hxm) rfl ⟨trivial, ⟨trivial, trivial, trivial, trivial⟩, trivial⟩ ?_
     refine xb rfl (fun b0 => ?_) (fun b0 => ?_)
     refine xr rfl (q7 rfl ⟨⟨rfl, ?_, trivial⟩, z6 rfl⟩)
     rotate_left
     rotate_left
     · exact vi (q8 h h0 hGx (by simpa using b0))
     · exact ya rfl (hJ _ (i + 1) ⟨by omega, qa h0 (hGx.trans (by simpa using b0))⟩ (by omega) ⟨⟨cwi (by omega) (by omega) (by omega), rfl, rfl, rfl, trivial⟩, trivial, rfl⟩)
   · have h : ¬ i < us.length := by simpa using h
     have hz := qf (f := G) (n := us.length) (fun j hj => h0 j (by omega))
     refine xr rfl (q7 rfl ⟨⟨rfl, ?_, trivial⟩, z6 rfl⟩)
     exact vi (hz.symm)
theorem yal (c : Clu) (us : List Msg) (F : Msg → Int) (G : Nat → Int) (fn : Nat) (hG : ∀ i x, us[i]? = some x → G i = F x) (hf : ∀ x ∈ us, PC Tryz.prog fn [.agg x.cs, .one (.p c.cs)] (rI (F x))) (hl : us.length ≤ 1048576) : PC Tryz.prog 133 [.one (.l (us.map Msg.cs)), .one (.f fn [.p c.cs])] (rI (scan G us.length)) := by
 refine PC.begin Tryz.func133 rfl (by kernel_rfl) ?_
 have hn : (us.map Msg.cs).length = us.length := by simp
 refine yc rfl (ι := Nat) (fun i => i ≤ us.length ∧ ∀ j, j < i → G j = 0) (fun i => ⟨[(10, sV (.int .i64 i)), (9, sV (.int .i64 (us.map Msg.cs).length)), (8, .one (.b (.l (us.map Msg.cs)))), (1, .one (.b (.f fn [.p c.cs])))], []⟩) (fun i => us.length - i) 0 ⟨Nat.zero_le _, fun j hj => by omega⟩ ?_ ?_
 · exact ⟨⟨rfl, rfl, rfl, rfl, trivial⟩, trivial, rfl⟩
 · intro i ⟨hi, h0⟩ J hJ
   refine xb rfl (fun h => ?_) (fun h => ?_)
   · have h : i < us.length := by simpa using h
     obtain ⟨x, hx⟩ := gx h
     have hg := gm Msg.cs hx
     have hxm := List.mem_of_getElem? hx
     have hGx := hG i x hx
     refine xs rfl (Int.natCast_nonneg _) ?_
     refine y9 rfl _ hg ?_
     refine xs rfl rfl ?_
     refine z7 rfl (hf _ hxm) rfl ⟨⟨trivial, trivial, trivial, trivial, trivial, trivial, trivial, trivial, trivial, trivial⟩, trivial, trivial⟩ ?_
     refine xb rfl (fun b0 => ?_) (fun b0 => ?_)
     refine xr rfl (q7 rfl ⟨⟨rfl, ?_, trivial⟩, z6 rfl⟩)
     rotate_left
     rotate_left
     · exact vi (q8 h h0 hGx (by simpa using b0))
     · exact ya rfl (hJ _ (i + 1) ⟨by omega, qa h0 (hGx.trans (by simpa using b0))⟩ (by omega) ⟨⟨cwi (by omega) (by omega) (by omega), rfl, rfl, rfl, trivial⟩, trivial, rfl⟩)
   · have h : ¬ i < us.length := by simpa using h
     have hz := qf (f := G) (n := us.length) (fun j hj => h0 j (by omega))
     refine xr rfl (q7 rfl ⟨⟨rfl, ?_, trivial⟩, z6 rfl⟩)
     exact vi (hz.symm)
theorem y9h (c : Clu) (ho : yw c) (m : Msg) : PC Tryz.prog 134 [.agg m.cs, .one (.p c.cs)] (rI (q0f c m)) := by
 refine PC.begin Tryz.func134 rfl (by kernel_rfl) ?_
 refine z7 rfl (q99 c ho m) rfl ⟨⟨trivial, trivial, trivial, trivial, trivial, trivial⟩, ⟨trivial, trivial, trivial, trivial, trivial, trivial, trivial, trivial, trivial, trivial⟩, trivial⟩ ?_
 refine xr rfl (q7 rfl ⟨⟨rfl, rfl, trivial⟩, z6 rfl⟩)
theorem y5c (c : Clu) (ho : yw c) : PC Tryz.prog 64 [.agg c.cs] (rI (zl c)) := by
 refine PC.begin Tryz.func64 rfl (by kernel_rfl) ?_
 have hl := ho.2.1.1
 have hA := qak c c.accs (y8z c) (q2j c) 130 (fun i x h => by unfold q2j; rw [h]) (fun a ha => y86 c ho a (ho.2.2.1.2 a ha)) ho.2.2.1.1
 have hL := zal c c.ldrs (y7a c) (q2k c) 132 (fun i x h => by unfold q2k; rw [h]) (fun l hl => y99 c ho l (ho.2.2.2.1.2 l hl)) ho.2.2.2.1.1
 have hM := yal c c.msgs (q0f c) (z48 c) 134 (fun i x h => by unfold z48; rw [h]) (fun m _ => y9h c ho m) ho.2.2.2.2
 refine xb rfl (fun b0 => ?_) (fun b0 => ?_)
 refine xj (k := 22) rfl ?_
 refine xr rfl (q7 rfl ⟨⟨rfl, ?_, trivial⟩, z6 rfl⟩)
 rotate_left
 refine xj (k := 2) rfl ?_
 refine z7 rfl (z2j _) rfl ⟨trivial, trivial⟩ ?_
 refine xj (k := 1) rfl ?_
 refine z7 rfl (qm _ _ _) rfl ⟨trivial, trivial, trivial, trivial⟩ ?_
 refine xj (k := 2) rfl ?_
 refine xb rfl (fun b1 => ?_) (fun b1 => ?_)
 refine xj (k := 16) rfl ?_
 refine xr rfl (q7 rfl ⟨⟨rfl, ?_, trivial⟩, z6 rfl⟩)
 rotate_left
 refine xj (k := 2) rfl ?_
 refine z7 rfl (z1d _) rfl ⟨trivial, trivial⟩ ?_
 refine xj (k := 1) rfl ?_
 refine z7 rfl (qm _ _ _) rfl ⟨trivial, trivial, trivial, trivial⟩ ?_
 refine xj (k := 2) rfl ?_
 refine xb rfl (fun b2 => ?_) (fun b2 => ?_)
 refine xj (k := 10) rfl ?_
 refine xr rfl (q7 rfl ⟨⟨rfl, ?_, trivial⟩, z6 rfl⟩)
 rotate_left
 refine xj (k := 4) rfl ?_
 refine xb rfl (fun b3 => ?_) (fun b3 => ?_)
 refine xj (k := 5) rfl ?_
 refine xr rfl (q7 rfl ⟨⟨rfl, ?_, trivial⟩, z6 rfl⟩)
 rotate_left
 refine xj (k := 4) rfl ?_
 refine xb rfl (fun b4 => ?_) (fun b4 => ?_)
 refine xr rfl (q7 rfl ⟨⟨rfl, ?_, trivial⟩, z6 rfl⟩)
 rotate_left
 refine z7 rfl (z87 c ho) rfl ⟨⟨trivial, trivial, trivial, trivial, trivial, trivial⟩, trivial⟩ ?_
 refine xb rfl (fun b5 => ?_) (fun b5 => ?_)
 refine xr rfl (q7 rfl ⟨⟨rfl, ?_, trivial⟩, z6 rfl⟩)
 rotate_left
 rotate_left
 all_goals first
  | (refine vi (q8q (z0b.2 ?_)).symm; clear hA hL hM ho; (simp only [List.length_map, Go.Sx.within, gt_iff_lt, ge_iff_le] at *; simp at *; omega); done)
  | skip
 · refine vi ?_
   have hm : ¬ z0m c = true := fun h => by rw [z0b] at h; clear hA hL hM ho; (simp only [List.length_map, Go.Sx.within, gt_iff_lt, ge_iff_le] at *; simp at *; omega)
   rw [q80 hm, if_pos (by simpa using b5)]
 · have hm : ¬ z0m c = true := fun h => by rw [z0b] at h; clear hA hL hM ho; (simp only [List.length_map, Go.Sx.within, gt_iff_lt, ge_iff_le] at *; simp at *; omega)
   have h1 : scan (y0a c) c.cons.length = 0 := by simpa using b5
   rw [q80 hm, if_neg (by simpa using h1)]
   clear b0 b1 b2 b3 b4 b5 h1 hm
   refine yc rfl (ι := Nat) (fun i => i ≤ c.shs.length ∧ ∀ j, j < i → z21 c j = 0) (fun i => ⟨[(44, sV (.int .i64 i)), (43, sV (.int .i64 (c.shs.map Shd.cs).length)), (1, .one (.a 1 0))], [(1, .var (c.cs.map .b))]⟩) (fun i => c.shs.length - i) 0 ⟨Nat.zero_le _, fun j hj => by omega⟩ ?_ ?_
   · exact ⟨⟨rfl, rfl, ⟨rfl, rfl, rfl⟩, trivial⟩, ⟨lcr, trivial⟩, rfl⟩
   · intro i ⟨hi, h0⟩ J hJ
     refine xb rfl (fun h => ?_) (fun h => ?_)
     · have h : i < c.shs.length := by simpa using h
       obtain ⟨s, hx⟩ := gx h
       have hF : z21 c i = y8j c i s := by unfold z21; rw [hx]
       refine z7 rfl (y87 c ho i s hx) rfl ⟨⟨trivial, trivial, trivial, trivial, trivial, trivial⟩, trivial, trivial⟩ ?_
       refine xb rfl (fun b0 => ?_) (fun b0 => ?_)
       refine xr rfl (q7 rfl ⟨⟨rfl, ?_, trivial⟩, z6 rfl⟩)
       rotate_left
       rotate_left
       · have hsc := q8 h h0 hF (by simpa using b0)
         refine vi ?_
         rw [if_pos (by rw [← hsc]; simpa using b0), ← hsc]
       · exact ya rfl (hJ _ (i + 1) ⟨by omega, qa h0 (hF.trans (by simpa using b0))⟩ (by omega) ⟨⟨cwi (by omega) (by omega) (by omega), rfl, ⟨rfl, rfl, rfl⟩, trivial⟩, ⟨lcr, trivial⟩, rfl⟩)
     · have h : ¬ i < c.shs.length := by simpa using h
       have hz := qf (f := z21 c) (n := c.shs.length) (fun j hj => h0 j (by omega))
       rw [if_neg (by simpa using hz)]
       clear hJ h0
       refine zc rfl [] (.take 0 [] (.take 1 [3, 7, 8, 9, 10] (.take 2 [] (.take 4 [] (.take 5 [7, 8, 9, 10] (.take 6 [] (.alt 3 (.alt 7 (.alt 8 (.alt 9 (.take 10 [] .done) .nil) .nil) .nil) .nil))))))) (by kernel_rfl) ?_
       refine z7 rfl (hA) rfl ⟨trivial, ⟨trivial, trivial, trivial, trivial, trivial, trivial⟩, trivial⟩ ?_
       refine z7 rfl (hL) rfl ⟨trivial, ⟨trivial, trivial, trivial, trivial, trivial, trivial⟩, trivial⟩ ?_
       refine xs rfl ⟨trivial, trivial, trivial⟩ ?_
       refine z7 rfl (y26 [_, _] (by simp)) rfl ⟨rfl, trivial⟩ ?_
       refine xb rfl (fun b0 => ?_) (fun b0 => ?_)
       refine xr rfl (q7 rfl ⟨⟨rfl, ?_, trivial⟩, z6 rfl⟩)
       rotate_left
       refine z7 rfl (hM) rfl ⟨trivial, (List.forall_mem_cons.2 ⟨⟨trivial, trivial, trivial, trivial, trivial, trivial⟩, (fun _ h => nomatch h)⟩), trivial⟩ ?_
       refine xr rfl (q7 rfl ⟨⟨rfl, ?_, trivial⟩, z6 rfl⟩)
       rotate_left
       all_goals (refine vi ?_; clear hA hL hM ho; unfold orr orr orr at *; by_cases h1 : scan (q2j c) c.accs.length = 0 <;> by_cases h2 : scan (q2k c) c.ldrs.length = 0 <;> simp_all <;> done)
theorem z5k (c : Clu) (ho : yw c) : PC Tryz.prog 55 [.agg c.cs] (rI (zl c)) := by
 refine PC.begin Tryz.func55 rfl (by kernel_rfl) ?_
 have hl := ho.2.2.2.2
 refine xb rfl (fun b0 => ?_) (fun b0 => ?_)
 refine xj (k := 30) rfl ?_
 refine xr rfl (q7 rfl ⟨⟨rfl, ?_, trivial⟩, z6 rfl⟩)
 rotate_left
 refine xj (k := 4) rfl ?_
 refine xb rfl (fun b1 => ?_) (fun b1 => ?_)
 refine xj (k := 25) rfl ?_
 refine xr rfl (q7 rfl ⟨⟨rfl, ?_, trivial⟩, z6 rfl⟩)
 rotate_left
 refine xj (k := 4) rfl ?_
 refine xb rfl (fun b2 => ?_) (fun b2 => ?_)
 refine xj (k := 20) rfl ?_
 refine xr rfl (q7 rfl ⟨⟨rfl, ?_, trivial⟩, z6 rfl⟩)
 rotate_left
 refine xj (k := 4) rfl ?_
 refine xb rfl (fun b3 => ?_) (fun b3 => ?_)
 refine xj (k := 15) rfl ?_
 refine xr rfl (q7 rfl ⟨⟨rfl, ?_, trivial⟩, z6 rfl⟩)
 rotate_left
 refine xj (k := 4) rfl ?_
 refine xb rfl (fun b4 => ?_) (fun b4 => ?_)
 refine xj (k := 10) rfl ?_
 refine xr rfl (q7 rfl ⟨⟨rfl, ?_, trivial⟩, z6 rfl⟩)
 rotate_left
 refine xj (k := 4) rfl ?_
 refine xb rfl (fun b5 => ?_) (fun b5 => ?_)
 refine xj (k := 5) rfl ?_
 refine xr rfl (q7 rfl ⟨⟨rfl, ?_, trivial⟩, z6 rfl⟩)
 rotate_left
 refine xj (k := 4) rfl ?_
 refine xb rfl (fun b6 => ?_) (fun b6 => ?_)
 refine xr rfl (q7 rfl ⟨⟨rfl, ?_, trivial⟩, z6 rfl⟩)
 rotate_left
 refine z7 rfl (z8h c ho) rfl ⟨⟨trivial, trivial, trivial, trivial, trivial, trivial⟩, trivial⟩ ?_
 refine xb rfl (fun b7 => ?_) (fun b7 => ?_)
 refine xr rfl (q7 rfl ⟨⟨rfl, ?_, trivial⟩, z6 rfl⟩)
 rotate_left
 refine z7 rfl (y8i c ho) rfl ⟨⟨trivial, trivial, trivial, trivial, trivial, trivial⟩, trivial⟩ ?_
 refine xb rfl (fun b8 => ?_) (fun b8 => ?_)
 refine xr rfl (q7 rfl ⟨⟨rfl, ?_, trivial⟩, z6 rfl⟩)
 rotate_left
 refine z7 rfl (y8g c ho) rfl ⟨⟨trivial, trivial, trivial, trivial, trivial, trivial⟩, trivial⟩ ?_
 refine xb rfl (fun b9 => ?_) (fun b9 => ?_)
 refine xr rfl (q7 rfl ⟨⟨rfl, ?_, trivial⟩, z6 rfl⟩)
 rotate_left
 refine z7 rfl (z8i c ho) rfl ⟨⟨trivial, trivial, trivial, trivial, trivial, trivial⟩, trivial⟩ ?_
 refine xb rfl (fun b10 => ?_) (fun b10 => ?_)
 refine xr rfl (q7 rfl ⟨⟨rfl, ?_, trivial⟩, z6 rfl⟩)
 rotate_left
 rotate_left
 all_goals first
  | (refine vi (q8q (z0b.2 ?_)).symm; clear ho; (simp only [List.length_map, Go.Sx.within, gt_iff_lt, ge_iff_le] at *; simp at *; omega); done)
  | (refine vi ?_
     have hm : ¬ z0m c = true := fun h => by rw [z0b] at h; clear ho; (simp only [List.length_map, Go.Sx.within, gt_iff_lt, ge_iff_le] at *; simp at *; omega)
     rw [q80 hm]
     clear hm ho
     simp_all
     done)
  | skip
 have hm : ¬ z0m c = true := fun h => by rw [z0b] at h; clear ho; (simp only [List.length_map, Go.Sx.within, gt_iff_lt, ge_iff_le] at *; simp at *; omega)
 rw [q80 hm, if_neg (by simp_all), if_neg (by simp_all), if_neg (by simp_all), if_neg (by simp_all)]
 refine yc rfl (ι := Nat) (fun i => i ≤ c.msgs.length ∧ ∀ j, j < i → z48 c j = 0) (fun i => ⟨[(7, sV (.int .i64 i)), (1, .one (.a 1 0))], [(1, .var (c.cs.map .b))]⟩) (fun i => c.msgs.length - i) 0 ⟨Nat.zero_le _, fun j hj => by omega⟩ ?_ ?_
 · exact ⟨⟨rfl, ⟨rfl, rfl, rfl⟩, trivial⟩, ⟨lcr, trivial⟩, rfl⟩
 · intro i ⟨hi, h0⟩ J hJ
   refine xb rfl (fun h => ?_) (fun h => ?_)
   · have h : i < c.msgs.length := by simpa using h
     obtain ⟨m, hx⟩ := gx h
     have hg := gm Msg.cs hx
     have hF : z48 c i = q0f c m := by unfold z48; rw [hx]
     refine xs rfl (Int.natCast_nonneg _) ?_
     refine y9 rfl _ hg ?_
     refine xs rfl rfl ?_
     refine z7 rfl (y9n c ho m) rfl ⟨⟨trivial, trivial, trivial, trivial, trivial, trivial⟩, ⟨trivial, trivial, trivial, trivial, trivial, trivial, trivial, trivial, trivial, trivial⟩, trivial⟩ ?_
     refine xb rfl (fun b0 => ?_) (fun b0 => ?_)
     refine xr rfl (q7 rfl ⟨⟨rfl, ?_, trivial⟩, z6 rfl⟩)
     rotate_left
     rotate_left
     · exact vi (q8 h h0 hF (by simpa using b0))
     · exact ya rfl (hJ _ (i + 1) ⟨by omega, qa h0 (hF.trans (by simpa using b0))⟩ (by omega) ⟨⟨cwi (by omega) (by omega) (by omega), ⟨rfl, rfl, rfl⟩, trivial⟩, ⟨lcr, trivial⟩, rfl⟩)
   · have h : ¬ i < c.msgs.length := by simpa using h
     have hz := qf (f := z48 c) (n := c.msgs.length) (fun j hj => h0 j (by omega))
     refine xr rfl (q7 rfl ⟨⟨rfl, ?_, trivial⟩, z6 rfl⟩)
     exact vi (hz.symm)
end Go.Proofs.YthljegacamgnnaaGreat
end
section
namespace Go.Proofs.YthljegacamgnnaaGreat
open Go Go.Sx
set_option maxRecDepth 20000
theorem y00 {α : Type} {f : α → List Cell} {P : α → Prop} {N : Nat} {e : Sh} : ∀ {rr : List (List Cell)}, WR N e rr → (∀ row, WT N e row → ∃ x, row = f x ∧ P x) → ∃ us : List α, rr = us.map f ∧ us.length ≤ N ∧ ∀ x ∈ us, P x
 | [], _, _ => ⟨[], rfl, Nat.zero_le _, fun x hx => by cases hx⟩
 | row :: rr, h, hc => by
   obtain ⟨x, hx, hp⟩ := hc row (h.2 row List.mem_cons_self)
   obtain ⟨us, hu, _, hps⟩ := y00 (rr := rr) ⟨by have := h.1; simp at this; omega, fun r hr => h.2 r (List.mem_cons_of_mem _ hr)⟩ hc
   refine ⟨x :: us, by rw [hx, hu]; rfl, by have := h.1; rw [hu] at this; simpa using this, fun y hy => ?_⟩
   rcases List.mem_cons.1 hy with rfl | hy
   · exact hp
   · exact hps y hy
theorem q81 {N : Nat} (row : List Cell) (h : WT N yy row) : ∃ x : Leg, row = x.cs ∧ True := by
 obtain ⟨a0, a1, a2, a3, rfl⟩ := y28 h
 exact ⟨⟨a0, a1, a2, a3⟩, rfl, trivial⟩
theorem z4l {N : Nat} (row : List Cell) (h : WT N qc row) : ∃ x : Bal, row = x.cs ∧ True := by
 obtain ⟨a0, a1, a2, rfl⟩ := z0c h
 exact ⟨⟨a0, a1, a2⟩, rfl, trivial⟩
theorem q4l {N : Nat} (row : List Cell) (h : WT N yh row) : ∃ x : Mk, row = x.cs ∧ True := by
 obtain ⟨a0, a1, rfl⟩ := z1f h
 exact ⟨⟨a0, a1⟩, rfl, trivial⟩
theorem y4m {N : Nat} (row : List Cell) (h : WT N ym row) : ∃ x : Vt, row = x.cs ∧ True := by
 obtain ⟨a0, a1, rfl⟩ := q1f h
 exact ⟨⟨a0, a1⟩, rfl, trivial⟩
theorem y69 {N : Nat} (row : List Cell) (h : WT N qn row) : ∃ x : Hd, row = x.cs ∧ True := by
 obtain ⟨a0, a1, a2, a3, a4, rfl⟩ := y0w h
 exact ⟨⟨a0, a1, a2, a3, a4⟩, rfl, trivial⟩
theorem z4m {N : Nat} (row : List Cell) (h : WT N zg row) : ∃ x : Msg, row = x.cs ∧ True := by
 obtain ⟨a0, a1, a2, a3, a4, a5, a6, a7, a8, rfl⟩ := y0c h
 exact ⟨⟨a0, a1, a2, a3, a4, a5, a6, a7, a8⟩, rfl, trivial⟩
theorem y5t {N : Nat} (row : List Cell) (h : WT N (.i .i64 .nil) row) : ∃ x : Int, row = [i64 x] ∧ True := by
 obtain ⟨x0, _, rfl, hnil⟩ := h.yv
 obtain rfl := hnil.qx
 exact ⟨x0, rfl, trivial⟩
theorem y1t (row : List Cell) (h : WT 1048576 z8 row) : ∃ x : Con, row = x.cs ∧ x.legs.length ≤ 1048576 := by
 obtain ⟨a, b, rfl, h1⟩ := y07 h
 obtain ⟨us, rfl, hl, _⟩ := y00 h1 q81
 exact ⟨⟨a, us⟩, rfl, hl⟩
theorem q69 (row : List Cell) (h : WT 1048576 zf row) : ∃ x : Shd, row = x.cs ∧ yaw x := by
 obtain ⟨a, b, c, d, e, f, rfl, h1, h2, h3, h4, h5⟩ := q0w h
 obtain ⟨u1, rfl, l1, _⟩ := y00 h1 z4l
 obtain ⟨u2, rfl, l2, _⟩ := y00 h2 q4l
 obtain ⟨u3, rfl, l3, p3⟩ := y00 h3 y1t
 obtain ⟨u4, rfl, l4, _⟩ := y00 h4 q4l
 obtain ⟨u5, rfl, l5, _⟩ := y00 h5 y5t
 exact ⟨⟨a, u1, u2, u3, u4, u5⟩, rfl, l1, l2, l3, l4, l5, p3⟩
theorem q6w (row : List Cell) (h : WT 1048576 ql row) : ∃ x : Slt, row = x.cs ∧ x.cast.length ≤ 1048576 := by
 obtain ⟨a, b, c, d, e, f, rfl, h1⟩ := y1f h
 obtain ⟨u1, rfl, l1, _⟩ := y00 h1 y4m
 exact ⟨⟨a, b, c, d, e, u1⟩, rfl, l1⟩
theorem z3x (row : List Cell) (h : WT 1048576 za row) : ∃ x : Acc, row = x.cs ∧ z6p x := by
 obtain ⟨a, rfl, h1⟩ := z07 h
 obtain ⟨u1, rfl, l1, p1⟩ := y00 h1 q6w
 exact ⟨⟨u1⟩, rfl, l1, p1⟩
theorem z82 (row : List Cell) (h : WT 1048576 yp row) : ∃ x : Tr, row = x.cs ∧ z9w x := by
 obtain ⟨a, b, c, d, e, f, rfl, h1, h2⟩ := z29 h
 obtain ⟨u1, rfl, l1, _⟩ := y00 h1 y5t
 obtain ⟨u2, rfl, l2, _⟩ := y00 h2 y4m
 exact ⟨⟨a, b, c, d, u1, u2⟩, rfl, l1, l2⟩
theorem z59 (row : List Cell) (h : WT 1048576 qd row) : ∃ x : Ldr, row = x.cs ∧ y8y x := by
 obtain ⟨a, b, c, rfl, h1, h2⟩ := y0l h
 obtain ⟨u1, rfl, l1, p1⟩ := y00 h1 z82
 obtain ⟨u2, rfl, l2, _⟩ := y00 h2 y69
 exact ⟨⟨a, u1, u2⟩, rfl, l1, l2, p1⟩
theorem y4l (row : List Cell) (h : WT 1048576 zo row) : ∃ x : Clu, row = x.cs ∧ yw x := by
 obtain ⟨a, b, c, d, e, rfl, h1, h2, h3, h4, h5⟩ := q0m h
 obtain ⟨u1, rfl, l1, p1⟩ := y00 h1 y1t
 obtain ⟨u2, rfl, l2, p2⟩ := y00 h2 q69
 obtain ⟨u3, rfl, l3, p3⟩ := y00 h3 z3x
 obtain ⟨u4, rfl, l4, p4⟩ := y00 h4 z59
 obtain ⟨u5, rfl, l5, _⟩ := y00 h5 z4m
 exact ⟨⟨u1, u2, u3, u4, u5⟩, rfl, ⟨l1, p1⟩, ⟨l2, p2⟩, ⟨l3, p3⟩, ⟨l4, p4⟩, l5⟩
theorem z26 {f : List Cell → Nat} {row : List Cell} : ∀ {rows : List (List Cell)}, row ∈ rows → f row ≤ z01 f rows
 | r :: rows, h => by
   rw [z01]
   rcases List.mem_cons.1 h with rfl | h
   · omega
   · have := z26 (f := f) h; omega
theorem zaa {N M : Nat} {e : Sh} {cs : List Cell} (hw : WT N e cs) : tot e cs ≤ M → WT M e cs := by
 induction hw with
 | nil => exact fun _ => .nil
 | i n _ ih => exact fun h => .i n (ih h)
 | b x _ ih => exact fun h => .b x (ih h)
 | @l e' r' cs' rows h1 h2 h3 ih1 ih2 =>
   intro h
   simp only [tot] at h
   exact .l rows (by omega) (fun row hr => ih1 row hr (by have := z26 (f := tot e') hr; omega)) (ih2 (by omega))
end Go.Proofs.YthljegacamgnnaaGreat
end
section
namespace Go.Sx
open Go.Lib (compact)
def q3c (c : Clu) (i : Nat) : List Int := (c.shs.take i).flatMap Shd.app
def q5h (us : List Int) : List Int := us.foldl z2q []
def z3d (c : Clu) : List Int := q5h (q3c c c.shs.length)
theorem z2t {c : Clu} {i : Nat} {s : Shd} (h : c.shs[i]? = some s) : q3c c (i + 1) = q3c c i ++ s.app := by
 unfold q3c
 rw [List.take_add_one, h]; simp
theorem z4a (us : List Int) : shF (us.map fun v => ⟨v, 0, 0, 0⟩) = q5h us := by
 unfold shF q5h
 rw [List.foldl_map]
theorem z7i (us : List Int) (v : Int) : q5h (us ++ [v]) = z2q (q5h us) v := by
 unfold q5h
 rw [List.foldl_append]; rfl
theorem q49 (us : List Int) : (q5h us).Pairwise (· < ·) := by rw [← z4a]; exact y3q _
theorem q5y (us : List Int) : (q5h us).length ≤ us.length := by
 rw [← z4a]
 have := y1q (us.map fun v => (⟨v, 0, 0, 0⟩ : Leg)) us.length
 rwa [List.take_of_length_le (by simp)] at this
theorem q7h (us : List Int) : compact (q0j us) = q5h us := by
 rw [← z4a, ← za8, List.map_map, show (Leg.s ∘ fun v : Int => (⟨v, 0, 0, 0⟩ : Leg)) = id from rfl, List.map_id]
theorem y8b {us : List Int} {x : Int} : x ∈ q5h us ↔ x ∈ us := by
 rw [← q7h, y30, y4t]
theorem y36 {s : Shd} (h : yj s = 0) : s.bals.length ≤ 18 ∧ s.votes.length ≤ 100 ∧ s.held.length ≤ 100 ∧ s.done.length ≤ 100 ∧ s.app.length ≤ 100 := by
 have hb : zk s.bals = 0 := by
  unfold yj at h
  repeat' split at h
  all_goals first | omega | (simp_all; done)
 have hm : many s = false := by
  unfold yj at h
  repeat' split at h
  all_goals first | omega | (simp_all; done)
 have h1 := (z25 hb).1
 unfold many at hm
 simp only [Bool.or_eq_false_iff, decide_eq_false_iff_not] at hm
 omega
theorem q2s {c : Clu} (h : zl c = 0) : ∀ i, i ≤ c.shs.length → (q3c c i).length ≤ 100 * i
 | 0, _ => by simp [q3c]
 | i + 1, hi => by
   obtain ⟨s, hs⟩ := gx (xs := c.shs) (i := i) (by omega)
   rw [z2t hs, List.length_append]
   have := q2s h i (by omega)
   have := (y36 (y25 h hs).1).2.2.2.2
   omega
theorem y3x {c : Clu} (h : zl c = 0) : (z3d c).length ≤ 300 := by
 have h1 := q5y (q3c c c.shs.length)
 have h2 := q2s h _ (Nat.le_refl _)
 have h3 := (q1s h).2.2.1
 unfold z3d
 omega
end Go.Sx
end
section
namespace Go.Proofs.YthljegacamgnnaaGreat
open Go Go.Sx
set_option maxRecDepth 20000
set_option maxHeartbeats 4000000
theorem q82 (c : Clu) (ho : yw c) (hc : zl c = 0) : PC Tryz.prog 99 [.one (.p c.cs)] (.one (.own false [.l 1 (ints (z3d c))])) := by
 refine PC.begin Tryz.func99 rfl (by kernel_rfl) ?_
 have hl := ho.2.1.1
 refine xs rfl trivial ?_
 refine yc rfl (ι := Nat) (fun i => i ≤ c.shs.length) (fun i => ⟨[(12, sV (.int .i64 i)), (11, sV (.int .i64 (c.shs.map Shd.cs).length)), (10, .one (.b (.l (c.shs.map Shd.cs)))), (3, .one (.h 6 (ints (q3c c i)).length)), (0, .one (.b (.p c.cs)))], [(6, .arr true 1 0 (ints (q3c c i)))]⟩) (fun i => c.shs.length - i) 0 (Nat.zero_le _) ?_ ?_
 · exact ⟨⟨rfl, rfl, rfl, ⟨rfl, rfl, rfl⟩, rfl, trivial⟩, ⟨⟨rfl, .inl rfl, .inl rfl⟩, trivial⟩, rfl⟩
 · intro i hi J hJ
   refine xb rfl (fun h => ?_) (fun h => ?_)
   · have h : i < c.shs.length := by simpa using h
     obtain ⟨s, hx⟩ := gx h
     have hg := gm Shd.cs hx
     have hf := z2t hx
     have h1 := q2s hc i hi
     have h2 := (q1s hc).2.2.1
     have h3 := (y36 (y25 hc hx).1).2.2.2.2
     have hsc : z00 (ints s.app) := fun row hr => by
      simp [ints] at hr
      obtain ⟨x, _, rfl⟩ := hr
      intro c hc
      exact ⟨_, by simpa using hc⟩
     refine xs rfl (by simp) ?_
     refine y9 rfl _ hg ?_
     refine xs rfl rfl ?_
     refine xs rfl rfl ?_
     refine xs rfl (by simp) ?_
     refine xs rfl (fun _ => hsc) ?_
     refine xs rfl (by simp; omega) ?_
     refine xs rfl (by simp; omega) ?_
     exact ya rfl (hJ _ (i + 1) (by omega) (by omega) ⟨⟨cwi (by omega) (by omega) (by omega), rfl, rfl, ⟨rfl, by rw [hf]; simp, rfl⟩, rfl, trivial⟩, ⟨⟨by rw [hf]; simp, .inl rfl, .inl rfl⟩, trivial⟩, rfl⟩)
   · have h : i = c.shs.length := by have : ¬ i < c.shs.length := by simpa using h
                                     omega
     subst h
     have h1 := q2s hc _ (Nat.le_refl _)
     have h2 := (q1s hc).2.2.1
     have hs := y61 (q3c c c.shs.length) (by omega)
     have hms : (q0j (q3c c c.shs.length)).length = (q3c c c.shs.length).length := (List.mergeSort_perm _ _).length_eq
     have hq := y68 (q0j (q3c c c.shs.length)) (by omega)
     rw [q7h] at hq
     refine z0i rfl (hs) ⟨⟨rfl, rfl, rfl, rfl⟩, trivial⟩ rfl ?_
     refine z0i rfl (hq) ⟨⟨rfl, rfl, rfl, (by first | omega | (simp only [ai_len]; omega) | simp_all)⟩, trivial⟩ rfl ?_
     refine xr rfl (q7 rfl ⟨⟨rfl, ⟨rfl, rfl, .inl rfl⟩, trivial⟩, z6 rfl⟩)
theorem y8h (c : Clu) (ho : yw c) (hc : zl c = 0) : PC Tryz.prog 98 [.one (.p c.cs)] (.one (.bor false [.l (ints (z3d c))])) := by
 refine PC.begin Tryz.func98 rfl (by kernel_rfl) ?_
 have hl := ho.2.1.1
 have hsh := (q1s hc).2.2.1
 refine xs rfl trivial ?_
 refine yc rfl (ι := Nat) (fun i => i ≤ c.shs.length) (fun i => ⟨[(4, sV (.int .i64 i)), (3, .one (.b (.l (ints (q5h (q3c c i)))))), (0, .one (.b (.p c.cs)))], []⟩) (fun i => c.shs.length - i) 0 (Nat.zero_le _) ?_ ?_
 · exact ⟨⟨rfl, ⟨rfl, rfl, rfl⟩, rfl, trivial⟩, trivial, rfl⟩
 · intro i hi J hJ
   refine xb rfl (fun h => ?_) (fun h => ?_)
   · have h : i < c.shs.length := by simpa using h
     obtain ⟨s, hx⟩ := gx h
     have hg := gm Shd.cs hx
     have hf := z2t hx
     have h1 := q2s hc i hi
     have h3 := (y36 (y25 hc hx).1).2.2.2.2
     refine yc rfl (ι := Nat) (fun k => k ≤ s.app.length) (fun k => ⟨[(5, sV (.int .i64 k)), (4, sV (.int .i64 i)), (3, .one (.b (.l (ints (q5h (q3c c i ++ s.app.take k)))))), (0, .one (.b (.p c.cs)))], []⟩) (fun k => s.app.length - k) 0 (Nat.zero_le _) ?_ ?_
     · exact ⟨⟨rfl, rfl, by rw [List.take_zero, List.append_nil]; rfl, rfl, trivial⟩, trivial, rfl⟩
     · intro k hk Jk hJk
       refine xs rfl (Int.natCast_nonneg _) ?_
       refine y9 rfl _ hg ?_
       refine xs rfl rfl ?_
       refine xb rfl (fun hh => ?_) (fun hh => ?_)
       · have hh : k < s.app.length := by simpa using hh
         obtain ⟨v, hv⟩ := gx hh
         have hgv := gm (fun n => [i64 n]) hv
         have hst : q5h (q3c c i ++ s.app.take (k + 1)) = z2q (q5h (q3c c i ++ s.app.take k)) v := by
          rw [List.take_add_one, hv, ← List.append_assoc]; exact z7i _ _
         have hlen := q5y (q3c c i ++ s.app.take k)
         have hlen2 : (q3c c i ++ s.app.take k).length ≤ 400 := by
          rw [List.length_append, List.length_take]; omega
         cases hb : (q5h (q3c c i ++ s.app.take k)).contains v with
         | true =>
           have hp := y2p _ _ true hb (by omega) (q49 _)
           rw [y4a (q49 _) hb] at hst
           refine xs rfl (Int.natCast_nonneg _) ?_
           refine y9 rfl _ hg ?_
           refine xs rfl rfl ?_
           refine xs rfl (Int.natCast_nonneg _) ?_
           refine y9 rfl _ hgv ?_
           refine xs rfl rfl ?_
           refine z7 rfl (hp) rfl ⟨trivial, trivial, trivial⟩ ?_
           exact ya rfl (hJk _ (k + 1) (by omega) (by omega) ⟨⟨cwi (by omega) (by omega) (by omega), rfl, (by rw [hst]; rfl), rfl, trivial⟩, trivial, rfl⟩)
         | false =>
           have hp := y2p _ _ false hb (by omega) (q49 _)
           refine xs rfl (Int.natCast_nonneg _) ?_
           refine y9 rfl _ hg ?_
           refine xs rfl rfl ?_
           refine xs rfl (Int.natCast_nonneg _) ?_
           refine y9 rfl _ hgv ?_
           refine xs rfl rfl ?_
           refine z7 rfl (hp) rfl ⟨trivial, trivial, trivial⟩ ?_
           exact ya rfl (hJk _ (k + 1) (by omega) (by omega) ⟨⟨cwi (by omega) (by omega) (by omega), rfl, ⟨rfl, rfl, (by rw [hst])⟩, rfl, trivial⟩, trivial, rfl⟩)
       · have hh : k = s.app.length := by have : ¬ k < s.app.length := by simpa using hh
                                          omega
         subst hh
         rw [List.take_length, ← hf]
         skip
         exact ya rfl (hJ _ (i + 1) (by omega) (by omega) ⟨⟨cwi (by omega) (by omega) (by omega), rfl, rfl, trivial⟩, trivial, rfl⟩)
   · have h : i = c.shs.length := by have : ¬ i < c.shs.length := by simpa using h
                                     omega
     subst h
     refine xr rfl (q7 rfl ⟨⟨rfl, rfl, trivial⟩, z6 rfl⟩)
end Go.Proofs.YthljegacamgnnaaGreat
end
section
namespace Go.Sx
theorem q71 {us : List Mk} {c : Int} (h : q0i us c ≠ 0) : ∃ m ∈ us, m.c = c := by
 rcases Classical.em (∃ m ∈ us, m.c = c) with h1 | h1
 · exact h1
 · exact absurd (y0v (xs := us) (c := c) fun j y hy e => h1 ⟨y, List.mem_of_getElem? hy, e⟩) h
theorem y9o {s : Shd} (h : yj s = 0) : y55 s = true := by
 unfold yj q0s at h
 repeat' split at h
 all_goals first | omega | assumption | (simp_all; done)
theorem y92 {c : Clu} (h : zl c = 0) {i : Nat} {s : Shd} (hs : c.shs[i]? = some s) {a : Int} (ha : a ∈ s.app) : ∃ x, z02 c.cons a = some x := by
 obtain ⟨h1, _, _, h2, _⟩ := y25 h hs
 have h3 := y9o h1
 unfold y55 at h3
 simp only [Bool.and_eq_true, beq_iff_eq] at h3
 obtain ⟨k, hk⟩ := List.mem_iff_getElem?.1 ha
 have h4 := qz h3.1 k (List.getElem?_eq_some_iff.1 hk).1
 simp only [z7y, hk] at h4
 split at h4
 · omega
 · rename_i h5
   simp only [Bool.or_eq_true, not_or, bne_iff_ne, ne_eq, Decidable.not_not] at h5
   obtain ⟨m, hm, e⟩ := q71 (us := s.done) (c := a) (by rw [h5.1]; decide)
   have h6 := h2 m hm
   unfold q0u at h6
   rw [e] at h6
   cases hq : z02 c.cons a with
   | some x => exact ⟨x, rfl⟩
   | none => rw [hq] at h6; cases h6
end Go.Sx
end
section
namespace Go.Sx
def q4k (c : Clu) (id : Int) : Con := (z02 c.cons id).getD ⟨0, []⟩
theorem z1e {c : Clu} {id : Int} {x : Con} (h : z02 c.cons id = some x) : q4k c id = x := by unfold q4k; rw [h]; rfl
def q7y (c : Clu) (a b : Int) (s : Shd) : Bool := decide (0 ≤ q0a (fun y => y == b) s.app) && q46 s (q4k c a) (q4k c b) && !((s.app.take (q0a (fun y => y == b) s.app).toNat).any fun y => y == a)
def y6u (c : Clu) (a b : Int) : Bool := c.shs.any (q7y c a b)
theorem y17 {α : Type} {p : α → Bool} : ∀ {l : List α}, (∃ i : Nat, q0a p l = i ∧ i < l.length ∧ (∃ x, l[i]? = some x ∧ p x = true) ∧ ∀ (j : Nat) (y : α), j < i → l[j]? = some y → p y = false) ∨ (q0a p l = -1 ∧ ∀ y ∈ l, p y = false)
 | [] => .inr ⟨rfl, fun y hy => by cases hy⟩
 | x :: l => by
   by_cases hx : p x = true
   · exact .inl ⟨0, by rw [q0a, if_pos hx]; rfl, by simp, ⟨x, rfl, hx⟩, fun j y hj => by omega⟩
   · have hx' : p x = false := by simpa using hx
     rcases y17 (p := p) (l := l) with ⟨i, h1, h2, ⟨y, h3, h4⟩, h5⟩ | ⟨h1, h2⟩
     · refine .inl ⟨i + 1, by rw [q0a, if_neg hx, h1, if_neg (by omega)]; omega, by simp; omega, ⟨y, by simpa using h3, h4⟩, fun j z hj hz => ?_⟩
       cases j with
       | zero => cases hz; exact hx'
       | succ j => exact h5 j z (by omega) (by simpa using hz)
     · refine .inr ⟨by rw [q0a, if_neg hx, h1]; rfl, fun y hy => ?_⟩
       rcases List.mem_cons.1 hy with rfl | hy
       · exact hx'
       · exact h2 y hy
theorem z93 {c : Clu} {a b : Int} {s : Shd} (hab : a ≠ b) : q7y c a b s = (q3i (qi (q4k c b) s.idx) (qi (q4k c a) s.idx) && decide (0 ≤ q0a (fun y => y == b) s.app) && (decide (q0a (fun y => y == a) s.app < 0) || decide (q0a (fun y => y == b) s.app < q0a (fun y => y == a) s.app))) := by
 unfold q7y
 rw [y3n]
 rcases y17 (p := fun y : Int => y == b) (l := s.app) with ⟨j, h1, h2, ⟨y, h3, h4⟩, h5⟩ | ⟨h1, h2⟩
 · rw [h1]
   have hq : (!((s.app.take ((j : Int)).toNat).any fun y => y == a)) = (decide (q0a (fun y => y == a) s.app < 0) || decide ((j : Int) < q0a (fun y => y == a) s.app)) := by
    rw [Int.toNat_natCast]
    rcases y17 (p := fun y : Int => y == a) (l := s.app) with ⟨k, g1, g2, ⟨z, g3, g4⟩, g5⟩ | ⟨g1, g2⟩
    · rw [g1]
      by_cases hjk : j < k
      · have : ((s.app.take j).any fun y => y == a) = false := by
         rw [List.any_eq_false]
         intro w hw
         obtain ⟨m, hm⟩ := List.mem_iff_getElem?.1 hw
         have hm2 := (List.getElem?_eq_some_iff.1 hm).1
         rw [List.length_take] at hm2
         rw [List.getElem?_take_of_lt (by omega)] at hm
         simpa using g5 m w (by omega) hm
        rw [this]
        simp; omega
      · have hne : j ≠ k := fun e => by
         subst e
         rw [h3] at g3
         cases g3
         have e1 : y = b := by simpa using h4
         have e2 : y = a := by simpa using g4
         exact hab (e2.symm.trans e1)
        have : ((s.app.take j).any fun y => y == a) = true := by
         rw [List.any_eq_true]
         exact ⟨z, List.mem_of_getElem? (i := k) (by rw [List.getElem?_take_of_lt (by omega)]; exact g3), g4⟩
        rw [this]
        simp; omega
    · rw [g1]
      have : ((s.app.take j).any fun y => y == a) = false := by
       rw [List.any_eq_false]
       exact fun w hw => by simpa using g2 w (List.mem_of_mem_take hw)
      rw [this]; rfl
   rw [hq]
   cases q3i (qi (q4k c b) s.idx) (qi (q4k c a) s.idx) <;> cases decide (0 ≤ (j : Int)) <;> simp
 · rw [h1]
   simp
def q0v (c : Clu) (left : List Int) (a : Int) : Bool := !(left.any fun b => b != a && y6u c a b)
def y8v (c : Clu) : Nat → List Int → List Int → Option (List Int)
 | 0, _, out => some out
 | n + 1, left, out => if q0a (q0v c left) left < 0 then none else y8v c n (left.eraseIdx (q0a (q0v c left) left).toNat) (out ++ [(left[(q0a (q0v c left) left).toNat]?).getD 0])
def z32 (c : Clu) : Option (List Int) := y8v c (z3d c).length (z3d c) []
def q3o (c : Clu) : Int × List Int := if zl c ≠ 0 then (zl c, []) else match z32 c with | some l => (0, l) | none => (1, [])
structure q2r (c : Clu) (left : List Int) : Prop where
 pw : left.Pairwise (· < ·)
 con : ∀ x ∈ left, ∃ y, z02 c.cons x = some y
theorem q2r.erase {c : Clu} {left : List Int} (h : q2r c left) (i : Nat) : q2r c (left.eraseIdx i) :=
 ⟨h.pw.sublist (List.eraseIdx_sublist _ _), fun x hx => h.con x ((List.eraseIdx_sublist _ _).subset hx)⟩
theorem q5t {c : Clu} (h : zl c = 0) : q2r c (z3d c) := ⟨q49 _, fun x hx => by
 have h1 := y8b.1 hx
 unfold q3c at h1
 rw [List.take_length] at h1
 obtain ⟨s, hs, hx⟩ := List.mem_flatMap.1 h1
 obtain ⟨i, hi⟩ := List.mem_iff_getElem?.1 hs
 exact y92 h hi hx⟩
theorem q5x {c : Clu} : ∀ {n : Nat} {left out r : List Int}, y8v c n left out = some r → r.length = out.length + n
 | 0, left, out, r, h => by cases h; rfl
 | n + 1, left, out, r, h => by
   rw [y8v] at h
   split at h
   · cases h
   · have := q5x h
     simp at this
     omega
theorem z9j (c : Clu) : (q3o c).2.length ≤ 1048576 := by
 unfold q3o
 split
 · simp
 · rename_i h
   have h : zl c = 0 := by simpa using h
   split
   · rename_i l hl
     have h1 := q5x hl
     have h2 := y3x h
     have h1 : l.length = 0 + (z3d c).length := h1
     show l.length ≤ _
     omega
   · simp
end Go.Sx
end
section
namespace Go.Proofs.YthljegacamgnnaaGreat
open Go Go.Sx
set_option maxRecDepth 20000
set_option maxHeartbeats 4000000
theorem q7q (l : List Int) (n : Nat) : ((ints l).take n).drop 0 = ints (l.take n) := by simp [ints, List.map_take]
theorem y6d (c : Clu) (ho : yw c) (hc : zl c = 0) (a b : Int) (ha : ∃ x, z02 c.cons a = some x) (hb : ∃ x, z02 c.cons b = some x) : PC Tryz.prog 172 [.one (.p c.cs), .one (i64 a), .one (i64 b)] (rB (!(y6u c a b))) := by
 refine PC.begin Tryz.func172 rfl (by kernel_rfl) ?_
 obtain ⟨x, hx⟩ := ha
 obtain ⟨y, hy⟩ := hb
 have hxl := (y10 (q0z hc (z1t hx).1).1).2
 have hyl := (y10 (q0z hc (z1t hy).1).1).2
 have hl := ho.2.1.1
 refine z7 rfl (y0h c ho a x hx) rfl ⟨trivial, trivial, trivial⟩ ?_
 refine z7 rfl (y0h c ho b y hy) rfl ⟨trivial, trivial, trivial⟩ ?_
 refine yc rfl (ι := Nat) (fun i => i ≤ c.shs.length ∧ ∀ j s, j < i → c.shs[j]? = some s → q7y c a b s = false) (fun i => ⟨[(31, sV (.int .i64 i)), (30, sV (.int .i64 (c.shs.map Shd.cs).length)), (29, .one (.b (.l (c.shs.map Shd.cs)))), (9, .one (.a 9 0)), (7, .one (.a 7 0)), (1, sV (.int .i64 a)), (2, sV (.int .i64 b)), (0, .one (.b (.p c.cs)))], [(9, .var (y.cs.map .b)), (7, .var (x.cs.map .b))]⟩) (fun i => c.shs.length - i) 0 ⟨Nat.zero_le _, fun j s hj => by omega⟩ ?_ ?_
 · exact ⟨⟨rfl, rfl, rfl, ⟨rfl, rfl, rfl⟩, ⟨rfl, rfl, rfl⟩, rfl, rfl, rfl, trivial⟩, ⟨⟨rfl, rfl, trivial⟩, ⟨rfl, rfl, trivial⟩, trivial⟩, rfl⟩
 · intro i ⟨hi, h0⟩ J hJ
   refine xb rfl (fun h => ?_) (fun h => ?_)
   · have h : i < c.shs.length := by simpa using h
     obtain ⟨s, hs⟩ := gx h
     have hg := gm Shd.cs hs
     have hal := (y36 (y25 hc hs).1).2.2.2.2
     have hI := y76 s.app b _ rfl (by omega)
     have hM := y1p s x y (by omega) (by omega)
     rcases y17 (p := fun v : Int => v == b) (l := s.app) with ⟨k, hk, hkl, _, _⟩ | ⟨hk, _⟩
     · have hH := q73 (s.app.take k) a _ (q7q s.app k) (by rw [List.length_take]; omega)
       have hB : q7y c a b s = (q46 s x y && !((s.app.take k).any fun v => v == a)) := by
        unfold q7y
        rw [z1e hx, z1e hy, hk, decide_eq_true (Int.natCast_nonneg k), Bool.true_and]; rfl
       rw [hk] at hI
       generalize hm : q46 s x y = m at hM hB
       refine xs rfl (Int.natCast_nonneg _) ?_
       refine y9 rfl _ hg ?_
       refine xs rfl rfl ?_
       refine z7 rfl (hI) rfl ⟨trivial, trivial, trivial⟩ ?_
       refine xj (k := 4) rfl ?_
       refine z7 rfl (y1p _ _ _ (by omega) (by omega)) rfl ⟨⟨trivial, trivial, trivial, trivial, trivial, trivial, trivial⟩, ⟨trivial, trivial, trivial⟩, ⟨trivial, trivial, trivial⟩, trivial⟩ ?_
       refine xj (k := 1) rfl ?_
       refine xb rfl (fun b0 => ?_) (fun b0 => ?_)
       refine xj (k := 3) rfl ?_
       refine xs rfl (.inl rfl) ?_
       refine xs rfl (Int.natCast_nonneg _) ?_
       refine xs rfl (Int.natCast_nonneg _) ?_
       refine xs rfl (by simp; omega) ?_
       refine xj (k := 2) rfl ?_
       refine z7 rfl (hH) rfl ⟨trivial, trivial, trivial⟩ ?_
       refine xj (k := 2) rfl ?_
       refine xb rfl (fun b1 => ?_) (fun b1 => ?_)
       refine xr rfl (q7 rfl ⟨⟨rfl, ?_, trivial⟩, z6 rfl⟩)
       rotate_left
       rotate_left
       refine xj (k := 8) rfl ?_
       rotate_left
       all_goals first
        | exact ya rfl (hJ _ (i + 1) ⟨by omega, qe hs h0 (by rw [hB]; first | (simp_all; done) | (simp_all; omega))⟩ (by omega) ⟨⟨cwi (by omega) (by omega) (by omega), rfl, rfl, ⟨rfl, rfl, rfl⟩, ⟨rfl, rfl, rfl⟩, rfl, rfl, rfl, trivial⟩, ⟨lcr, lcr, trivial⟩, rfl⟩)
        | (refine vb ?_; have : y6u c a b = true := List.any_eq_true.2 ⟨s, List.mem_of_getElem? hs, by rw [hB]; first | (simp_all; done) | (simp_all; omega)⟩; rw [this]; rfl)
        | (exfalso; simp_all; done)
     · have hB : q7y c a b s = false := by
        unfold q7y
        rw [hk]; rfl
       rw [hk] at hI
       refine xs rfl (Int.natCast_nonneg _) ?_
       refine y9 rfl _ hg ?_
       refine xs rfl rfl ?_
       refine z7 rfl (hI) rfl ⟨trivial, trivial, trivial⟩ ?_
       refine xj (k := 14) rfl ?_
       all_goals exact ya rfl (hJ _ (i + 1) ⟨by omega, qe hs h0 hB⟩ (by omega) ⟨⟨cwi (by omega) (by omega) (by omega), rfl, rfl, ⟨rfl, rfl, rfl⟩, ⟨rfl, rfl, rfl⟩, rfl, rfl, rfl, trivial⟩, ⟨lcr, lcr, trivial⟩, rfl⟩)
   · have h : i = c.shs.length := by have : ¬ i < c.shs.length := by simpa using h
                                     omega
     subst h
     refine xr rfl (q7 rfl ⟨⟨rfl, ?_, trivial⟩, z6 rfl⟩)
     refine vb ?_
     have : y6u c a b = false := List.any_eq_false.2 fun s hs => by
      obtain ⟨j, hj⟩ := List.mem_iff_getElem?.1 hs
      simpa using h0 j s (List.getElem?_eq_some_iff.1 hj).1 hj
     rw [this]; rfl
theorem z4z (us : List Int) (v : Int) (hl : us.length ≤ 1048576) : PC Tryz.prog 231 [.one (.l (ints us)), .one (i64 v)] (rI (q0a (fun y => y == v) us)) := by
 refine PC.begin Tryz.func231 rfl (by kernel_rfl) ?_
 refine yc rfl (ι := Nat) (fun i => i ≤ us.length ∧ ∀ j y, j < i → us[j]? = some y → (y == v) = false) (fun i => ⟨[(5, sV (.int .i64 i)), (0, .one (.b (.l (ints us)))), (1, sV (.int .i64 v))], []⟩) (fun i => us.length - i) 0 ⟨Nat.zero_le _, fun j y hj => by omega⟩ ?_ ?_
 · exact ⟨⟨rfl, rfl, rfl, trivial⟩, trivial, rfl⟩
 · intro i ⟨hi, h0⟩ J hJ
   refine xb rfl (fun h => ?_) (fun h => ?_)
   · have h : i < us.length := by simpa using h
     obtain ⟨x, hx⟩ := gx h
     have hg := gm (fun n => [i64 n]) hx
     refine xs rfl (Int.natCast_nonneg _) ?_
     refine y9 rfl _ hg ?_
     refine xs rfl rfl ?_
     refine xb rfl (fun b0 => ?_) (fun b0 => ?_)
     refine xr rfl (q7 rfl ⟨⟨rfl, ?_, trivial⟩, z6 rfl⟩)
     rotate_left
     rotate_left
     · exact vi (zz hx h0 b0).symm
     · exact ya rfl (hJ _ (i + 1) ⟨by omega, qe hx h0 b0⟩ (by omega) ⟨⟨cwi (by omega) (by omega) (by omega), rfl, rfl, trivial⟩, trivial, rfl⟩)
   · have h : ¬ i < us.length := by simpa using h
     refine xr rfl (q7 rfl ⟨⟨rfl, ?_, trivial⟩, z6 rfl⟩)
     exact vi (zt (p := fun y => y == v) (zi (by omega) h0)).symm
theorem q7k (c : Clu) (ho : yw c) (hc : zl c = 0) (a b : Int) (hab : a ≠ b) (ha : ∃ x, z02 c.cons a = some x) (hb : ∃ x, z02 c.cons b = some x) : PC Tryz.prog 167 [.one (.p c.cs), .one (i64 b), .one (i64 a)] (rB (y6u c a b)) := by
 refine PC.begin Tryz.func167 rfl (by kernel_rfl) ?_
 obtain ⟨x, hx⟩ := ha
 obtain ⟨y, hy⟩ := hb
 have hxl := (y10 (q0z hc (z1t hx).1).1).2
 have hyl := (y10 (q0z hc (z1t hy).1).1).2
 have hl := ho.2.1.1
 have hF := y0d c a ho.1.1
 have hF2 := y0d c b ho.1.1
 obtain ⟨k, hk0, hk⟩ := y0t hx
 obtain ⟨k2, hk20, hk2⟩ := y0t hy
 rw [hk0] at hF
 rw [hk20] at hF2
 have hgk := gm Con.cs hk
 have hgk2 := gm Con.cs hk2
 refine yaa (n := 0) rfl (ι := Unit) (fun _ => True) (fun _ => ⟨[(1, sV (.int .i64 b)), (2, sV (.int .i64 a)), (0, .one (.b (.p c.cs)))], []⟩) ?_ ?_
 · intro K hK
   exact ya rfl (hK _ () trivial ⟨⟨rfl, rfl, rfl, trivial⟩, trivial, rfl⟩)
 intro _ _
 refine yaa (n := 0) rfl (ι := Unit) (fun _ => True) (fun _ => ⟨[(7, .one (.a 7 0)), (1, sV (.int .i64 b)), (2, sV (.int .i64 a)), (0, .one (.b (.p c.cs)))], [(7, .var (y.cs.map .b))]⟩) ?_ ?_
 · intro K hK
   refine zc rfl [] (.take 0 [] (.take 1 [] (.take 2 [] (.take 3 [7, 8, 10] (.take 4 [] (.take 5 [] (.alt 6 (.take 7 [] (.take 8 [10] (.alt 9 (.alt 10 .done .nil) .nil))) (.alt 9 (.alt 6 (.take 7 [] (.take 8 [10] (.alt 10 .done .nil))) .nil) .nil)))))))) (by kernel_rfl) ?_
   refine q15 rfl ?_ ?_
   refine z7 rfl (hF2) rfl ⟨trivial, trivial, trivial⟩ ?_
   refine xs rfl (Int.natCast_nonneg _) ?_
   refine y9 rfl _ hgk2 ?_
   refine xs rfl rfl ?_
   rotate_left
   refine z7 rfl (hF2) rfl ⟨trivial, trivial, trivial⟩ ?_
   refine xs rfl (Int.natCast_nonneg _) ?_
   refine y9 rfl _ hgk2 ?_
   refine xs rfl rfl ?_
   rotate_left
   all_goals exact ya rfl (hK _ () trivial ⟨⟨⟨rfl, rfl, rfl⟩, rfl, rfl, rfl, trivial⟩, ⟨⟨rfl, rfl, trivial⟩, trivial⟩, rfl⟩)
 intro _ _
 refine yaa (n := 0) rfl (ι := Unit) (fun _ => True) (fun _ => ⟨[(8, .one (.a 8 0)), (7, .one (.a 7 0)), (1, sV (.int .i64 b)), (2, sV (.int .i64 a)), (0, .one (.b (.p c.cs)))], [(8, .var (x.cs.map .b)), (7, .var (y.cs.map .b))]⟩) ?_ ?_
 · intro K hK
   refine zc rfl [] (.take 0 [] (.take 1 [] (.take 2 [] (.take 3 [7, 8, 10] (.take 4 [] (.take 5 [] (.alt 6 (.take 7 [] (.take 8 [10] (.alt 9 (.alt 10 .done .nil) .nil))) (.alt 9 (.alt 6 (.take 7 [] (.take 8 [10] (.alt 10 .done .nil))) .nil) .nil)))))))) (by kernel_rfl) ?_
   refine q15 rfl ?_ ?_
   refine z7 rfl (hF) rfl ⟨trivial, trivial, trivial⟩ ?_
   refine xs rfl (Int.natCast_nonneg _) ?_
   refine y9 rfl _ hgk ?_
   refine xs rfl rfl ?_
   rotate_left
   refine z7 rfl (hF) rfl ⟨trivial, trivial, trivial⟩ ?_
   refine xs rfl (Int.natCast_nonneg _) ?_
   refine y9 rfl _ hgk ?_
   refine xs rfl rfl ?_
   rotate_left
   all_goals exact ya rfl (hK _ () trivial ⟨⟨⟨rfl, rfl, rfl⟩, ⟨rfl, rfl, rfl⟩, rfl, rfl, rfl, trivial⟩, ⟨⟨rfl, rfl, trivial⟩, lcr, trivial⟩, rfl⟩)
 intro _ _
 refine yc rfl (ι := Nat) (fun i => i ≤ c.shs.length ∧ ∀ j s, j < i → c.shs[j]? = some s → q7y c a b s = false) (fun i => ⟨[(9, sV (.int .i64 i)), (8, .one (.a 8 0)), (7, .one (.a 7 0)), (1, sV (.int .i64 b)), (2, sV (.int .i64 a)), (0, .one (.b (.p c.cs)))], [(8, .var (x.cs.map .b)), (7, .var (y.cs.map .b))]⟩) (fun i => c.shs.length - i) 0 ⟨Nat.zero_le _, fun j s hj => by omega⟩ ?_ ?_
 · exact ⟨⟨rfl, ⟨rfl, rfl, rfl⟩, ⟨rfl, rfl, rfl⟩, rfl, rfl, rfl, trivial⟩, ⟨lcr, lcr, trivial⟩, rfl⟩
 · intro i ⟨hi, h0⟩ J hJ
   refine xb rfl (fun h => ?_) (fun h => ?_)
   · have h : i < c.shs.length := by simpa using h
     obtain ⟨s, hs⟩ := gx h
     have hg := gm Shd.cs hs
     have hal := (y36 (y25 hc hs).1).2.2.2.2
     have hP := z4z s.app b (by omega)
     have hP2 := z4z s.app a (by omega)
     have hL := y0g x s.idx (by omega)
     have hL2 := y0g y s.idx (by omega)
     have hlx : (qi x s.idx).length ≤ 1048576 := Nat.le_trans (List.length_filter_le _ _) (by omega)
     have hly : (qi y s.idx).length ≤ 1048576 := Nat.le_trans (List.length_filter_le _ _) (by omega)
     have hT := y35 (qi y s.idx) (qi x s.idx) hly hlx
     have hB := z93 (c := c) (a := a) (b := b) (s := s) hab
     rw [z1e hx, z1e hy] at hB
     generalize q0a (fun v => v == b) s.app = j at hP hB
     generalize q0a (fun v => v == a) s.app = q at hP2 hB
     refine xs rfl (Int.natCast_nonneg _) ?_
     refine y9 rfl _ hg ?_
     refine xs rfl rfl ?_
     refine z7 rfl (hP) rfl ⟨trivial, trivial, trivial⟩ ?_
     refine z7 rfl (hP2) rfl ⟨trivial, trivial, trivial⟩ ?_
     refine zc rfl [] (.take 0 [3, 7, 8, 9, 10, 11, 12, 13, 14, 15, 16, 17, 18, 19, 20, 21] (.take 1 [] (.take 2 [3, 7, 8, 9, 10, 11, 12, 13, 14, 15, 16, 17, 18, 19, 20, 21] (.take 4 [7, 8, 9, 10, 11, 12, 13, 14, 15, 16, 17, 18, 19, 20, 21] (.take 5 [] (.take 6 [7, 8, 9, 10, 11, 12, 13, 14, 15, 16, 17, 18, 19, 20, 21] (.alt 3 (.alt 7 (.alt 8 (.take 9 [] (.take 10 [] (.take 11 [] (.take 12 [] (.take 13 [] (.take 14 [] (.take 15 [] (.take 16 [] (.take 17 [] (.take 18 [] (.take 19 [] (.take 20 [] (.take 21 [] .done))))))))))))) .nil) .nil) .nil))))))) (by kernel_rfl) ?_
     refine z7 rfl (y0g _ _ (by omega)) rfl ⟨⟨trivial, trivial, trivial⟩, trivial, trivial⟩ ?_
     refine z7 rfl (y0g _ _ (by omega)) rfl ⟨⟨trivial, trivial, trivial⟩, trivial, trivial⟩ ?_
     refine z7 rfl (y35 _ _ (by assumption) (by assumption)) rfl ⟨rfl, rfl, trivial⟩ ?_
     refine xb rfl (fun b0 => ?_) (fun b0 => ?_)
     refine xj (k := 2) rfl ?_
     refine xb rfl (fun b1 => ?_) (fun b1 => ?_)
     refine xj (k := 2) rfl ?_
     refine xb rfl (fun b2 => ?_) (fun b2 => ?_)
     refine xj (k := 6) rfl ?_
     refine xr rfl (q7 rfl ⟨⟨rfl, ?_, trivial⟩, z6 rfl⟩)
     rotate_left
     refine xj (k := 5) rfl ?_
     refine xb rfl (fun b3 => ?_) (fun b3 => ?_)
     refine xr rfl (q7 rfl ⟨⟨rfl, ?_, trivial⟩, z6 rfl⟩)
     rotate_left
     rotate_left
     refine xj (k := 5) rfl ?_
     rotate_left
     refine xj (k := 8) rfl ?_
     rotate_left
     all_goals first
      | exact ya rfl (hJ _ (i + 1) ⟨by omega, qe hs h0 (by rw [hB]; first | (simp_all; done) | (simp_all; omega))⟩ (by omega) ⟨⟨cwi (by omega) (by omega) (by omega), ⟨rfl, rfl, rfl⟩, ⟨rfl, rfl, rfl⟩, rfl, rfl, rfl, trivial⟩, ⟨lcr, lcr, trivial⟩, rfl⟩)
      | (refine vb ?_; have : y6u c a b = true := List.any_eq_true.2 ⟨s, List.mem_of_getElem? hs, by rw [hB]; first | (simp_all; done) | (simp_all; omega)⟩; rw [this]; done)
      | (exfalso; simp_all; done)
   · have h : i = c.shs.length := by have : ¬ i < c.shs.length := by simpa using h
                                     omega
     subst h
     refine xr rfl (q7 rfl ⟨⟨rfl, ?_, trivial⟩, z6 rfl⟩)
     refine vb ?_
     exact (List.any_eq_false.2 fun s hs => by
      obtain ⟨j, hj⟩ := List.mem_iff_getElem?.1 hs
      simpa using h0 j s (List.getElem?_eq_some_iff.1 hj).1 hj).symm
end Go.Proofs.YthljegacamgnnaaGreat
end
section
namespace Go.Proofs.YthljegacamgnnaaGreat
open Go Go.Sx
set_option maxRecDepth 20000
set_option maxHeartbeats 4000000
open Go.Proofs Go.Shelf Go.RowKit Go.Lib
def zb8 : Ren := ⟨fun _ => 173, fun t => bif Nat.beq t 3 then 3 else bif Nat.beq t 4 then 4 else bif Nat.beq t 22 then 66 else bif Nat.beq t 23 then 2 else 0, fun x => x⟩
theorem qam : SlLaysN.n45 Tryz.prog zb8 where
 mixed := by kernel_rfl
 f45 := ⟨ "slices.Delete[[]int64,int64]", by decide, by kernel_rfl⟩
 t0 := Tryz.underlying0
 a0 := Tryz.isAgg0
 z0 := Tryz.sizeOf0
 v0 := Tryz.zeroValue0
 t3 := Tryz.underlying3
 a3 := Tryz.isAgg3
 z3 := Tryz.sizeOf3
 v3 := Tryz.zeroValue3
 t4 := Tryz.underlying4
 a4 := Tryz.isAgg4
 z4 := Tryz.sizeOf4
 v4 := Tryz.zeroValue4
 t22 := Tryz.underlying66
 a22 := Tryz.isAgg66
 z22 := Tryz.sizeOf66
 v22 := Tryz.zeroValue66
 t23 := Tryz.underlying2
 a23 := Tryz.isAgg2
 z23 := Tryz.sizeOf2
 v23 := Tryz.zeroValue2
 i23 := by kernel_rfl
theorem q95 (N : Nat → Prop) (S : Nat → Prop) (us : List Int) (i : Nat) (w : World) (v0 : Value) (hi : i < us.length) (hS : ∀ x, S x → x < w.heap.size) (h0 : q0g w (CN w N true) S 1 (ints us) v0) :
 Calls Tryz.prog 173 #[v0, .int .i64 i, .int .i64 ((i : Int) + 1)] w fun e w' => ∃ (v' : Value) (R : Nat → Prop), e = .returned v' ∧ qq w w' S ∧ q0g w' (Go.Sx.Own w') R 1 (ints (us.eraseIdx i)) v' ∧ ∀ x, R x → S x ∧ x < w'.heap.size := by
 rcases z37 h0 with ⟨rfl, A, rfl⟩ | ⟨e, ho, hSo⟩
 · simp at hi
 · by_cases hn : v0 = .slice none 0 0
   · have hl : us.length = 0 := by
      rcases ho.2 with ⟨_, h⟩ | ⟨g, cap, cur, h, _⟩
      · exact h
      · rw [hn] at h; cases h
     omega
   · obtain ⟨g, cap, rfl, hb, hg, hc1, hc2, hzl, hH⟩ := holds_of_ownsRow ho hn
     refine (AnyG.slices_Delete_int qam g 0 cap i (i + 1) us w hH hc1 hc2 (by omega) (by omega)).mono ?_
     rintro e' w' ⟨rfl, q, rfl⟩
     have hgS := hSo g rfl
     have hel : us.eraseIdx i = us.take i ++ us.drop (i + 1) := List.eraseIdx_eq_take_drop_succ us i
     have hlen : (us.eraseIdx i).length = us.length - 1 := List.length_eraseIdx_of_lt hi
     have hp := ownsRow_putRow (q := q) (k := (us.eraseIdx i).length) (ys := us.take i ++ us.drop (i + 1) ++ List.replicate (i + 1 - i) 0) ho (by rw [← hel]; simp; omega) (by omega)
     rw [← hel, List.take_left' rfl] at hp
     rw [← hel, show us.length - (i + 1 - i) = (us.eraseIdx i).length by omega]
     refine ⟨_, fun x => x = g, rfl, ⟨rfl, rfl, rfl, by simp [Sort.putRow, Sort.mapBlock, Sort.ahead], fun k hk hnk => ?_⟩, z4b hp (fun g' h => by cases h; rfl), fun x hx => ?_⟩
     · simp [Sort.putRow, Sort.mapBlock, Sort.ahead, Array.getElem?_modify, show g ≠ k from fun h => hnk (h ▸ hgS)]
     · cases hx
       exact ⟨hgS, by simpa [Sort.putRow, Sort.mapBlock, Sort.ahead] using hg⟩
theorem qa0 (us : List Int) (i : Nat) (j : Int) (hi : i < us.length) (hj : j = (i : Int) + 1) : PG Tryz.prog 173 [.one (.giv true 1 (ints us)), .one (.bor (i64 i)), .one (.bor (i64 j))] (.one (.own false [.l 1 (ints (us.eraseIdx i))])) [] := by
 subst hj
 refine ⟨by kernel_rfl, fun N S w vals hS hSd hsh hc => ?_⟩
 obtain ⟨v0, v1, v2, rfl⟩ : ∃ v0 v1 v2, vals = #[v0, v1, v2] := by
  match vals, hsh with
  | ⟨[v0, v1, v2]⟩, _ => exact ⟨v0, v1, v2, rfl⟩
 obtain ⟨sz, hz, h0⟩ := hc 0 _ v0 rfl rfl
 obtain rfl := hz (by decide)
 have h1 : Rep w N (i64 i) v1 := hc 1 _ v1 rfl rfl
 have h2 : Rep w N (i64 ((i : Int) + 1)) v2 := hc 2 _ v2 rfl rfl
 obtain rfl : v1 = .int .i64 i := by cases h1; rfl
 obtain rfl : v2 = .int .i64 ((i : Int) + 1) := by cases h2; rfl
 refine (q95 N (S 0) us i w v0 hi (fun x hx => (hS 0 x hx).1) h0).mono ?_
 rintro e w' ⟨v', R, rfl, hk, hsl, hv⟩
 refine ⟨v', R, fun _ _ => False, rfl, hk.mono fun _ _ h => ⟨0, h⟩, ⟨#[v'], fun k x => k = 0 ∧ R x, rfl, rfl, fun k x hx => hx.2, fun k k' x hx hx' => by rw [hx.1, hx'.1], fun k c u hc hu => ?_⟩, fun x hx => ⟨.inr ⟨0, (hv x hx).1⟩, (hv x hx).2, fun _ h => h⟩, fun _ _ h => h.elim, fun _ _ _ h => h.elim, fun t rows' hb => by cases hb⟩
 cases k with
 | succ k => simp at hc
 | zero =>
   cases hc
   cases hu
   exact ⟨1, fun _ => rfl, q0g.imp hsl (fun _ h => ⟨rfl, h⟩) (fun _ _ _ => rfl) (fun _ _ _ _ h => h)⟩
end Go.Proofs.YthljegacamgnnaaGreat
end
section
namespace Go.Proofs.YthljegacamgnnaaGreat
open Go Go.Sx
set_option maxRecDepth 20000
set_option maxHeartbeats 4000000
theorem q76 (rr : List (List Cell)) (us : List Int) (p : Int → Bool) (fn : Nat) (c0 c1 : Cell) (hr : rr = ints us) (hf : ∀ x ∈ us, PC Tryz.prog fn [.one (i64 x), .one c0, .one c1] (rB (p x))) (hl : us.length ≤ 1048576) : PC Tryz.prog 168 [.one (.l rr), .one (.f fn [c0, c1])] (rI (q0a p us)) := by
 refine PC.begin Tryz.func168 rfl (by kernel_rfl) ?_
 subst hr
 have hn : (ints us).length = us.length := by simp
 refine yc rfl (ι := Nat) (fun i => i ≤ us.length ∧ ∀ j y, j < i → us[j]? = some y → p y = false) (fun i => ⟨[(8, sV (.int .i64 i)), (7, sV (.int .i64 (ints us).length)), (0, .one (.b (.l (ints us)))), (1, .one (.b (.f fn [c0, c1])))], []⟩) (fun i => us.length - i) 0 ⟨Nat.zero_le _, fun j y hj => by omega⟩ ?_ ?_
 · exact ⟨⟨rfl, rfl, rfl, rfl, trivial⟩, trivial, rfl⟩
 · intro i ⟨hi, h0⟩ J hJ
   refine xb rfl (fun h => ?_) (fun h => ?_)
   · have h : i < us.length := by simpa using h
     obtain ⟨x, hx⟩ := gx h
     have hg := gm (fun n => [i64 n]) hx
     have hxm := List.mem_of_getElem? hx
     refine xs rfl (Int.natCast_nonneg _) ?_
     refine y9 rfl _ hg ?_
     refine xs rfl rfl ?_
     refine z7 rfl (hf _ hxm) rfl ⟨trivial, trivial, trivial, trivial⟩ ?_
     refine xb rfl (fun b0 => ?_) (fun b0 => ?_)
     refine xr rfl (q7 rfl ⟨⟨rfl, ?_, trivial⟩, z6 rfl⟩)
     rotate_left
     rotate_left
     · exact vi (zz hx h0 b0).symm
     · exact ya rfl (hJ _ (i + 1) ⟨by omega, qe hx h0 b0⟩ (by omega) ⟨⟨cwi (by omega) (by omega) (by omega), rfl, rfl, rfl, trivial⟩, trivial, rfl⟩)
   · have h : ¬ i < us.length := by simpa using h
     refine xr rfl (q7 rfl ⟨⟨rfl, ?_, trivial⟩, z6 rfl⟩)
     exact vi (zt (zi (by omega) h0)).symm
theorem z91 (rr : List (List Cell)) (us : List Int) (p : Int → Bool) (fn : Nat) (c0 c1 : Cell) (hr : rr = ints us) (hf : ∀ x ∈ us, PC Tryz.prog fn [.one (i64 x), .one c0, .one c1] (rB (p x))) (hl : us.length ≤ 1048576) : PC Tryz.prog 170 [.one (.l rr), .one (.f fn [c0, c1])] (rB (us.any p)) := by
 refine PC.begin Tryz.func170 rfl (by kernel_rfl) ?_
 have hi := q76 rr us p fn c0 c1 hr hf hl
 refine z7 rfl (hi) rfl ⟨trivial, trivial, trivial⟩ ?_
 refine xr rfl (q7 rfl ⟨⟨rfl, ?_, trivial⟩, z6 rfl⟩)
 exact vb q09
theorem q9i (c : Clu) (ho : yw c) (hc : zl c = 0) (a b : Int) (ha : ∃ x, z02 c.cons a = some x) (hb : ∃ x, z02 c.cons b = some x) : PC Tryz.prog 171 [.one (i64 b), .one (.p [i64 a]), .one (.p [.p c.cs])] (rB (b != a && y6u c a b)) := by
 refine PC.begin Tryz.func171 rfl (by kernel_rfl) ?_
 have hA := y6d c ho hc a b ha hb
 refine xb rfl (fun b0 => ?_) (fun b0 => ?_)
 refine xj (k := 3) rfl ?_
 refine z7 rfl (hA) rfl ⟨trivial, trivial, trivial, trivial⟩ ?_
 refine xj (k := 2) rfl ?_
 refine xr rfl (q7 rfl ⟨⟨rfl, ?_, trivial⟩, z6 rfl⟩)
 rotate_left
 refine xj (k := 5) rfl ?_
 refine xr rfl (q7 rfl ⟨⟨rfl, ?_, trivial⟩, z6 rfl⟩)
 rotate_left
 all_goals (refine vb ?_; simp_all)
theorem y9i (c : Clu) (ho : yw c) (hc : zl c = 0) (left : List Int) (hL : q2r c left) (hl : left.length ≤ 1048576) (a : Int) (ha : a ∈ left) : PC Tryz.prog 169 [.one (i64 a), .one (.p [.l (ints left)]), .one (.p [.p c.cs])] (rB (q0v c left a)) := by
 refine PC.begin Tryz.func169 rfl (by kernel_rfl) ?_
 refine yaa (n := 0) rfl (ι := Unit) (fun _ => True) (fun _ => ⟨[(3, .one (.b (.p [i64 a]))), (1, .one (.b (.p [.l (ints left)]))), (2, .one (.b (.p [.p c.cs])))], []⟩) ?_ ?_
 · intro K hK
   exact ya rfl (hK _ () trivial ⟨⟨⟨rfl, rfl, rfl⟩, rfl, rfl, trivial⟩, trivial, rfl⟩)
 intro _ _
 have hq := z91 _ left (fun b => b != a && y6u c a b) 171 (.p [i64 a]) (.p [.p c.cs]) rfl (fun b hb => q9i c ho hc a b (hL.con a ha) (hL.con b hb)) hl
 refine z7 rfl (hq) rfl ⟨trivial, trivial, trivial⟩ ?_
 refine xr rfl (q7 rfl ⟨⟨rfl, rfl, trivial⟩, z6 rfl⟩)
def qay : Option (List Int) → Res
 | some l => .tup [.own false [.l 1 (ints l)], .own false [.s (.bool true)]]
 | none => .tup [.own false [.l 1 []], .own false [.s (.bool false)]]
theorem z8e (c : Clu) (ho : yw c) (hc : zl c = 0) : PC Tryz.prog 108 [.one (.p c.cs)] (qay (z32 c)) := by
 refine PC.begin Tryz.func108 rfl (by kernel_rfl) ?_
 have hD := q82 c ho hc
 have hdl := y3x hc
 refine z7 rfl (hD) rfl ⟨trivial, trivial⟩ ?_
 refine xs rfl trivial ?_
 refine q8w rfl (ι := List Int × List Int) (fun z => q2r c z.1 ∧ z.1.length + z.2.length ≤ 300 ∧ y8v c z.1.length z.1 z.2 = z32 c) (fun z => ⟨[(5, .one (.h 9 (ints z.2).length)), (4, .one (.a 4 0)), (1, .one (.a 1 0))], [(4, .var [.h 900000 (ints z.1).length]), (900000, .arr true 1 0 (ints z.1)), (9, .arr true 1 0 (ints z.2)), (1, .var [.b (.p c.cs)])]⟩) (fun z => z.1.length) (z3d c, []) ⟨q5t hc, by simpa using hdl, rfl⟩ (.of ?_) ?_
 · exact ⟨⟨⟨rfl, rfl, rfl⟩, ⟨rfl, rfl, rfl⟩, ⟨rfl, rfl, rfl⟩, trivial⟩, ⟨⟨⟨rfl, rfl, rfl⟩, trivial⟩, ⟨rfl, .inl rfl, .inl rfl⟩, ⟨rfl, .inl rfl, .inl rfl⟩, ⟨rfl, trivial⟩, trivial⟩, rfl⟩
 · intro ⟨left, out⟩ ⟨hL, hlen, hO⟩ J hJ
   dsimp only at hL hlen hO
   have hle : (ints left).length = left.length := by simp
   refine xb rfl (fun h => ?_) (fun h => ?_)
   · have h : 0 < left.length := by simpa using h
     have hn : left.length = (left.length - 1) + 1 := by omega
     rw [hn, y8v] at hO
     have hq := q76 _ left (q0v c left) 169 (.p [.l (ints left)]) (.p [.p c.cs]) rfl (fun a ha => y9i c ho hc left hL (by omega) a ha) (by omega)
     rcases y17 (p := q0v c left) (l := left) with ⟨k, hk, hkl, ⟨v, hv, _⟩, _⟩ | ⟨hk, _⟩
     · rw [hk] at hq hO
       rw [if_neg (by omega)] at hO
       have hgv := gm (fun n => [i64 n]) hv
       have hdel := qa0 left k (IntKind.i64.wrap ((k : Int) + 1)) hkl (wrap_i64 (by omega) (by omega))
       rw [Int.toNat_natCast, hv] at hO
       refine z7 rfl (hq) rfl ⟨rfl, (List.forall_mem_cons.2 ⟨⟨rfl, trivial⟩, (List.forall_mem_cons.2 ⟨⟨trivial, trivial⟩, (fun _ h => nomatch h)⟩)⟩), trivial⟩ ?_
       refine xj (k := 1) rfl ?_
       refine zc rfl [11] (.take 0 [] (.take 1 [3, 4, 5, 6, 11, 12, 13] (.take 2 [] (.take 3 [] (.take 4 [5, 6, 11, 12, 13] (.take 8 [] (.take 9 [] (.take 10 [] (.alt 5 (.alt 6 (.take 7 [11, 12, 13] (.alt 11 (.take 12 [] (.alt 13 .done .nil)) .nil)) (.alt 7 (.alt 6 (.alt 11 (.take 12 [] (.alt 13 .done .nil)) .nil) .nil) .nil)) (.alt 7 (.alt 5 (.alt 6 (.alt 11 (.take 12 [] (.alt 13 .done .nil)) .nil) .nil) .nil) .nil)))))))))) (by kernel_rfl) ?_
       refine xs rfl rfl ?_
       refine xs rfl (Int.natCast_nonneg _) ?_
       refine y9 rfl _ hgv ?_
       refine xs rfl rfl ?_
       refine xs rfl rfl ?_
       refine y9 rfl _ hgv ?_
       refine q15 rfl ?_ ?_
       refine xs rfl ⟨trivial, trivial⟩ ?_
       refine q15 rfl ?_ ?_
       refine xs rfl rfl ?_
       refine xs rfl rfl ?_
       refine xs rfl (.inl rfl) ?_
       refine xs rfl (by simp; omega) ?_
       refine xs rfl (by simp; omega) ?_
       refine z0i rfl (hdel) ⟨⟨rfl, rfl, rfl, rfl⟩, rfl, rfl, trivial⟩ rfl ?_
       rotate_left
       refine xs rfl rfl ?_
       refine xs rfl rfl ?_
       refine xs rfl (.inl rfl) ?_
       refine xs rfl (by simp; omega) ?_
       refine xs rfl (by simp; omega) ?_
       refine z0i rfl (hdel) ⟨⟨rfl, rfl, rfl, rfl⟩, rfl, rfl, trivial⟩ rfl ?_
       rotate_left
       refine xs rfl ⟨trivial, trivial⟩ ?_
       refine xs rfl rfl ?_
       refine xs rfl rfl ?_
       refine xs rfl (.inl rfl) ?_
       refine xs rfl (by simp; omega) ?_
       refine xs rfl (by simp; omega) ?_
       refine z0i rfl (hdel) ⟨⟨rfl, rfl, rfl, rfl⟩, rfl, rfl, trivial⟩ rfl ?_
       rotate_left
       all_goals refine ya rfl (hJ _ (left.eraseIdx k, out ++ [v]) ⟨hL.erase k, by simp [List.length_eraseIdx_of_lt hkl]; omega, by rw [show (left.eraseIdx k).length = left.length - 1 from List.length_eraseIdx_of_lt hkl]; exact hO⟩ (by simp [List.length_eraseIdx_of_lt hkl]; omega) ⟨[(3000000, 900000)], ?_, ?_⟩)
       all_goals first
        | rfl
        | exact ⟨⟨⟨rfl, by simp, rfl⟩, ⟨rfl, rfl, rfl⟩, ⟨rfl, rfl, rfl⟩, trivial⟩, ⟨⟨⟨rfl, rfl, rfl⟩, trivial⟩, ⟨rfl, .inl rfl, .inl rfl⟩, ⟨by simp, .inl rfl, .inl rfl⟩, ⟨rfl, trivial⟩, trivial⟩, rfl⟩
        | skip
     · rw [hk] at hq hO
       rw [if_pos (by omega)] at hO
       rw [← hO]
       refine z7 rfl (hq) rfl ⟨rfl, (List.forall_mem_cons.2 ⟨⟨rfl, trivial⟩, (List.forall_mem_cons.2 ⟨⟨trivial, trivial⟩, (fun _ h => nomatch h)⟩)⟩), trivial⟩ ?_
       refine xj (k := 1) rfl ?_
       refine xr rfl (q7 rfl ⟨(by decide), ⟨⟨rfl, rfl, trivial⟩, ⟨rfl, rfl, trivial⟩, trivial⟩, z6 rfl⟩)
   · have h : left.length = 0 := by have : ¬ 0 < left.length := by simpa using h
                                    omega
     rw [h] at hO
     rw [← hO]
     refine xr rfl (q7 rfl ⟨(by decide), ⟨⟨rfl, ⟨rfl, rfl, .inl rfl⟩, trivial⟩, ⟨rfl, rfl, trivial⟩, trivial⟩, z6 rfl⟩)
end Go.Proofs.YthljegacamgnnaaGreat
end
section
namespace Go.Proofs.YthljegacamgnnaaGreat
open Go Go.Sx
set_option maxRecDepth 20000
set_option maxHeartbeats 4000000
def y2e (c : Clu) (left : List Int) (a : Int) (k : Nat) : Bool := !((left.take k).any fun b => b != a && y6u c a b)
theorem y5b {c : Clu} {left : List Int} {a b : Int} {k : Nat} (h : left[k]? = some b) : y2e c left a (k + 1) = (y2e c left a k && !(b != a && y6u c a b)) := by
 unfold y2e
 rw [List.take_add_one, h, List.any_append]
 simp
theorem q6b (c : Clu) (left : List Int) (a : Int) : y2e c left a left.length = q0v c left a := by unfold y2e q0v; rw [List.take_length]
def yb0 (c : Clu) (left : List Int) (i : Nat) (q : Int) : Prop :=
 (q = -1 ∧ ∀ (j : Nat) (x : Int), j < i → left[j]? = some x → q0v c left x = false) ∨ ∃ (j : Nat) (x : Int), q = j ∧ i = j + 1 ∧ left[j]? = some x ∧ q0v c left x = true ∧ ∀ (j' : Nat) (y : Int), j' < j → left[j']? = some y → q0v c left y = false
theorem zas {left : List Int} (h : left.Pairwise (· < ·)) {i j : Nat} {x y : Int} (hi : left[i]? = some x) (hj : left[j]? = some y) (hij : i ≠ j) : x ≠ y := by
 obtain ⟨h1, h2⟩ := List.getElem?_eq_some_iff.1 hi
 obtain ⟨h3, h4⟩ := List.getElem?_eq_some_iff.1 hj
 rcases Nat.lt_or_gt_of_ne hij with h5 | h5
 · have := (List.pairwise_iff_getElem.1 h) i j h1 h3 h5
   omega
 · have := (List.pairwise_iff_getElem.1 h) j i h3 h1 h5
   omega
theorem y7l (c : Clu) (ho : yw c) (hc : zl c = 0) : PC Tryz.prog 107 [.one (.p c.cs)] (qay (z32 c)) := by
 refine PC.begin Tryz.func107 rfl (by kernel_rfl) ?_
 have hD := y8h c ho hc
 have hdl := y3x hc
 refine z7 rfl (hD) rfl ⟨trivial, trivial⟩ ?_
 refine xs rfl trivial ?_
 refine yc rfl (ι := List Int × List Int) (fun z => q2r c z.1 ∧ z.1.length + z.2.length ≤ 300 ∧ y8v c z.1.length z.1 z.2 = z32 c) (fun z => ⟨[(5, .one (.h 12 (ints z.2).length)), (4, .one (.b (.l (ints z.1)))), (0, .one (.b (.p c.cs)))], [(12, .arr true 1 0 (ints z.2))]⟩) (fun z => z.1.length) (z3d c, []) ⟨q5t hc, by simpa using hdl, rfl⟩ ?_ ?_
 · exact ⟨⟨⟨rfl, rfl, rfl⟩, rfl, rfl, trivial⟩, ⟨⟨rfl, .inl rfl, .inl rfl⟩, trivial⟩, rfl⟩
 · intro ⟨left, out⟩ ⟨hL, hlen, hO⟩ J hJ
   dsimp only at hL hlen hO
   have hle : (ints left).length = left.length := by simp
   refine xb rfl (fun h => ?_) (fun h => ?_)
   · have h : 0 < left.length := by simpa using h
     have hn : left.length = (left.length - 1) + 1 := by omega
     rw [hn, y8v] at hO
     clear hn
     refine yc rfl (ι := Nat × Int) (fun z => z.1 ≤ left.length ∧ yb0 c left z.1 z.2) (fun z => ⟨[(7, sV (.int .i64 z.1)), (6, sV (.int .i64 z.2)), (5, .one (.h 12 (ints out).length)), (4, .one (.b (.l (ints left)))), (0, .one (.b (.p c.cs)))], [(12, .arr true 1 0 (ints out))]⟩) (fun z => left.length - z.1) (0, -1) ⟨Nat.zero_le _, .inl ⟨rfl, fun j x hj => by omega⟩⟩ ?_ ?_
     · exact ⟨⟨rfl, rfl, ⟨rfl, rfl, rfl⟩, rfl, rfl, trivial⟩, ⟨⟨rfl, .inl rfl, .inl rfl⟩, trivial⟩, rfl⟩
     · intro ⟨i, q⟩ ⟨hi, hq⟩ Ji hJi
       dsimp only at hi hq
       by_cases hcon : i < left.length ∧ q < 0
       · obtain ⟨hil, hq0⟩ := hcon
         rcases hq with ⟨rfl, hno⟩ | ⟨j, x, rfl, _⟩
         · obtain ⟨a, ha⟩ := gx hil
           have hga := gm (fun n => [i64 n]) ha
           refine xb rfl (fun b0 => ?_) (fun b0 => ?_)
           refine xj (k := 3) rfl ?_
           rotate_left
           exact absurd b0 (by simp; omega)
           all_goals first
            | (exfalso; simp_all; done)
            | skip
           refine yc rfl (ι := Nat) (fun k => k ≤ left.length) (fun k => ⟨[(9, sV (.int .i64 k)), (8, sV (.bool (y2e c left a k))), (7, sV (.int .i64 i)), (6, sV (.int .i64 (-1))), (5, .one (.h 12 (ints out).length)), (4, .one (.b (.l (ints left)))), (0, .one (.b (.p c.cs)))], [(12, .arr true 1 0 (ints out))]⟩) (fun k => left.length - k) 0 (Nat.zero_le _) ?_ ?_
           · exact ⟨⟨rfl, rfl, rfl, rfl, ⟨rfl, rfl, rfl⟩, rfl, rfl, trivial⟩, ⟨⟨rfl, .inl rfl, .inl rfl⟩, trivial⟩, rfl⟩
           · intro k hk Jk hJk
             refine xb rfl (fun hh => ?_) (fun hh => ?_)
             · have hh : k < left.length := by simpa using hh
               obtain ⟨b, hb⟩ := gx hh
               have hgb := gm (fun n => [i64 n]) hb
               have hst := y5b (c := c) (left := left) (a := a) hb
               by_cases hki : k = i
               · subst hki
                 rw [ha] at hb
                 cases hb
                 generalize y2e c left a k = f at hst ⊢
                 refine zc rfl [] (.take 0 [] (.take 1 [] (.take 2 [] (.take 3 [] (.take 4 [] (.take 5 [] (.take 6 [] (.take 7 [] (.take 8 [] (.take 9 [] (.take 10 [15, 16, 17, 18, 19] (.take 11 [] (.take 12 [] (.take 13 [] (.take 14 [15, 16, 17, 18, 19] (.alt 15 (.take 16 [] (.take 17 [] (.take 18 [] (.take 19 [] .done)))) .nil)))))))))))))))) (by kernel_rfl) ?_
                 refine xb rfl (fun b0 => ?_) (fun b0 => ?_)
                 refine xj (k := 3) rfl ?_
                 refine xb rfl (fun b1 => ?_) (fun b1 => ?_)
                 refine xj (k := 13) rfl ?_
                 rotate_left
                 exact absurd b1 (by simp [*])
                 refine xj (k := 5) rfl ?_
                 rotate_left
                 all_goals first
                  | exact ya rfl (hJk _ (k + 1) (by omega) (by omega) ⟨⟨cwi (by omega) (by omega) (by omega), congrArg (fun t => Cell.s (.bool t)) (by rw [hst]; simp_all), rfl, rfl, ⟨rfl, rfl, rfl⟩, rfl, rfl, trivial⟩, ⟨⟨rfl, .inl rfl, .inl rfl⟩, trivial⟩, rfl⟩)
                  | (exfalso; simp_all; done)
                  | skip
               · have hne := zas hL.pw ha hb (fun e => hki e.symm)
                 have hA := q7k c ho hc a b hne (hL.con a (List.mem_of_getElem? ha)) (hL.con b (List.mem_of_getElem? hb))
                 have hba : (b != a) = true := by simpa using fun e => hne e.symm
                 rw [hba, Bool.true_and] at hst
                 generalize y2e c left a k = f at hst ⊢
                 generalize y6u c a b = bad at hA hst
                 refine zc rfl [] (.take 0 [] (.take 1 [] (.take 2 [] (.take 3 [] (.take 4 [] (.take 5 [] (.take 6 [] (.take 7 [] (.take 8 [] (.take 9 [] (.take 10 [15, 16, 17, 18, 19] (.take 11 [] (.take 12 [] (.take 13 [] (.take 14 [15, 16, 17, 18, 19] (.alt 15 (.take 16 [] (.take 17 [] (.take 18 [] (.take 19 [] .done)))) .nil)))))))))))))))) (by kernel_rfl) ?_
                 refine xb rfl (fun b0 => ?_) (fun b0 => ?_)
                 refine xj (k := 3) rfl ?_
                 refine xb rfl (fun b1 => ?_) (fun b1 => ?_)
                 exact absurd b1 (by simp; omega)
                 refine xj (k := 3) rfl ?_
                 refine xs rfl (Int.natCast_nonneg _) ?_
                 refine y9 rfl _ hgb ?_
                 refine xs rfl rfl ?_
                 refine xj (k := 4) rfl ?_
                 refine xs rfl (Int.natCast_nonneg _) ?_
                 refine y9 rfl _ hga ?_
                 refine xs rfl rfl ?_
                 refine xj (k := 2) rfl ?_
                 refine z7 rfl (hA) rfl ⟨trivial, trivial, trivial, trivial⟩ ?_
                 refine xj (k := 4) rfl ?_
                 rotate_left
                 refine xj (k := 5) rfl ?_
                 rotate_left
                 all_goals first
                  | exact ya rfl (hJk _ (k + 1) (by omega) (by omega) ⟨⟨cwi (by omega) (by omega) (by omega), congrArg (fun t => Cell.s (.bool t)) (by rw [hst]; simp_all; done), rfl, rfl, ⟨rfl, rfl, rfl⟩, rfl, rfl, trivial⟩, ⟨⟨rfl, .inl rfl, .inl rfl⟩, trivial⟩, rfl⟩)
                  | (exfalso; simp_all; omega)
                  | skip
             · have hh : k = left.length := by have : ¬ k < left.length := by simpa using hh
                                               omega
               subst hh
               rw [q6b]
               refine xb rfl (fun b0 => ?_) (fun b0 => ?_)
               rotate_left
               rotate_left
               · exact ya rfl (hJi _ (i + 1, (i : Int)) ⟨by omega, .inr ⟨i, a, rfl, rfl, ha, b0, hno⟩⟩ (by dsimp only; omega) ⟨⟨cwi (by omega) (by omega) (by omega), rfl, ⟨rfl, rfl, rfl⟩, rfl, rfl, trivial⟩, ⟨⟨rfl, .inl rfl, .inl rfl⟩, trivial⟩, rfl⟩)
               · exact ya rfl (hJi _ (i + 1, -1) ⟨by omega, .inl ⟨rfl, qe ha hno b0⟩⟩ (by dsimp only; omega) ⟨⟨cwi (by omega) (by omega) (by omega), rfl, ⟨rfl, rfl, rfl⟩, rfl, rfl, trivial⟩, ⟨⟨rfl, .inl rfl, .inl rfl⟩, trivial⟩, rfl⟩)
         · omega
       · rcases hq with ⟨rfl, hno⟩ | ⟨j, v, rfl, rfl, hv, hp, hmin⟩
         · have hil : i = left.length := by omega
           subst hil
           have hid : q0a (q0v c left) left = -1 := zt (fun m y hm => hno m y (List.getElem?_eq_some_iff.1 hm).1 hm)
           rw [hid, if_pos (by omega)] at hO
           rw [← hO]
           refine xb rfl (fun b0 => ?_) (fun b0 => ?_)
           exact absurd b0 (by simp [*])
           refine xj (k := 4) rfl ?_
           refine xr rfl (q7 rfl ⟨(by decide), ⟨⟨rfl, rfl, trivial⟩, ⟨rfl, rfl, trivial⟩, trivial⟩, z6 rfl⟩)
           all_goals (exfalso; simp_all; done)
         · have hjl := (List.getElem?_eq_some_iff.1 hv).1
           have hid : q0a (q0v c left) left = j := zz hv hmin hp
           rw [hid, if_neg (by omega), Int.toNat_natCast, hv] at hO
           have hgv := gm (fun n => [i64 n]) hv
           have hw0 : (0 : Int) ≤ IntKind.i64.wrap ((j : Int) + 1) := by rw [wrap_i64 (by omega) (by omega)]; omega
           have hw1 : IntKind.i64.wrap ((j : Int) + 1) ≤ ((ints left).length : Int) := by rw [wrap_i64 (by omega) (by omega)]; omega
           have hel : left.eraseIdx j = left.take j ++ left.drop (j + 1) := List.eraseIdx_eq_take_drop_succ left j
           have hcl : ints (left.eraseIdx j) = [] ++ ((ints left).take (j : Int).toNat).drop (0 : Int).toNat ++ ((ints left).take ((ints left).length : Int).toNat).drop (IntKind.i64.wrap ((j : Int) + 1)).toNat := by
            rw [wrap_i64 (by omega) (by omega), hel, show ((j : Int) + 1).toNat = j + 1 by omega]
            simp only [Int.toNat_natCast, List.take_length]
            simp [ints, List.map_take, List.map_drop]
           refine xb rfl (fun b0 => ?_) (fun b0 => ?_)
           refine xj (k := 4) rfl ?_
           refine xs rfl (Int.natCast_nonneg _) ?_
           refine y9 rfl _ hgv ?_
           refine xs rfl rfl ?_
           refine xs rfl ⟨trivial, trivial⟩ ?_
           refine xs rfl rfl ?_
           refine xs rfl rfl ?_
           refine xs rfl (.inl rfl) ?_
           refine xs rfl (by simp; omega) ?_
           refine xs rfl (by simp; omega) ?_
           refine zc rfl [] (.take 1 [] (.take 2 [] (.take 3 [] (.take 5 [] (.take 6 [] (.take 7 [] (.take 8 [] (.alt 0 (.alt 4 (.alt 9 (.take 10 [] .done) .nil) .nil) .nil)))))))) (by kernel_rfl) ?_
           refine xs rfl (.inl rfl) ?_
           refine xs rfl (Int.natCast_nonneg _) ?_
           refine xs rfl (Int.natCast_nonneg _) ?_
           refine xs rfl (by simp; omega) ?_
           refine xs rfl (by simp) ?_
           refine xs rfl (hw0) ?_
           refine xs rfl (hw1) ?_
           refine xs rfl (by simp) ?_
           refine xs rfl trivial ?_
           refine xs rfl rfl ?_
           refine xs rfl (z04 _ _ _) ?_
           refine xs rfl (fun _ => y04 _ _ _) ?_
           refine xs rfl (by simp; omega) ?_
           refine xs rfl (by simp; omega) ?_
           refine xs rfl (by simp) ?_
           refine xs rfl (z04 _ _ _) ?_
           refine xs rfl (fun _ => y04 _ _ _) ?_
           refine xs rfl (by simp; omega) ?_
           refine xs rfl (by simp; omega) ?_
           rotate_left
           refine xj (k := 4) rfl ?_
           refine xs rfl (Int.natCast_nonneg _) ?_
           refine y9 rfl _ hgv ?_
           refine xs rfl rfl ?_
           refine xs rfl ⟨trivial, trivial⟩ ?_
           refine xs rfl rfl ?_
           refine xs rfl rfl ?_
           refine xs rfl (.inl rfl) ?_
           refine xs rfl (by simp; omega) ?_
           refine xs rfl (by simp; omega) ?_
           refine zc rfl [] (.take 1 [] (.take 2 [] (.take 3 [] (.take 5 [] (.take 6 [] (.take 7 [] (.take 8 [] (.alt 0 (.alt 4 (.alt 9 (.take 10 [] .done) .nil) .nil) .nil)))))))) (by kernel_rfl) ?_
           refine xs rfl (.inl rfl) ?_
           refine xs rfl (Int.natCast_nonneg _) ?_
           refine xs rfl (Int.natCast_nonneg _) ?_
           refine xs rfl (by simp; omega) ?_
           refine xs rfl (by simp) ?_
           refine xs rfl (hw0) ?_
           refine xs rfl (hw1) ?_
           refine xs rfl (by simp) ?_
           refine xs rfl trivial ?_
           refine xs rfl rfl ?_
           refine xs rfl (z04 _ _ _) ?_
           refine xs rfl (fun _ => y04 _ _ _) ?_
           refine xs rfl (by simp; omega) ?_
           refine xs rfl (by simp; omega) ?_
           refine xs rfl (by simp) ?_
           refine xs rfl (z04 _ _ _) ?_
           refine xs rfl (fun _ => y04 _ _ _) ?_
           refine xs rfl (by simp; omega) ?_
           refine xs rfl (by simp; omega) ?_
           rotate_left
           all_goals exact ya rfl (hJ _ (left.eraseIdx j, out ++ [v]) ⟨hL.erase j, by simp [List.length_eraseIdx_of_lt hjl]; omega, by rw [show (left.eraseIdx j).length = left.length - 1 from List.length_eraseIdx_of_lt hjl]; exact hO⟩ (by simp [List.length_eraseIdx_of_lt hjl]; omega) ⟨⟨⟨rfl, by simp, rfl⟩, ⟨rfl, List.length_append.symm, congrArg Cell.l hcl⟩, rfl, trivial⟩, ⟨⟨by simp, .inl rfl, .inl rfl⟩, trivial⟩, rfl⟩)
   · have h : left.length = 0 := by have : ¬ 0 < left.length := by simpa using h
                                    omega
     rw [h] at hO
     rw [← hO]
     refine xr rfl (q7 rfl ⟨(by decide), ⟨⟨rfl, ⟨rfl, rfl, .inl rfl⟩, trivial⟩, ⟨rfl, rfl, trivial⟩, trivial⟩, z6 rfl⟩)
end Go.Proofs.YthljegacamgnnaaGreat
end
