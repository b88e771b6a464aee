/- WHAT IS PROVED: parts of the proof of fnExactDoneOf_holds: a frame for walks, what each Go function that it reaches answers, and plain lemmas; no condition beyond those that each theorem names. -/
import Derived.Test.YthljegacamgnnaaGreatCDn5
import Derived.WalkKit
import Derived.OrdersHeld
import Derived.DeepKeys
import Derived.Maps.RangeWalk
import Derived.Maps.OwnOps
import Derived.Deep.Slices
import Derived.ChangeArms
import Derived.WideShapes
import Derived.Lib.SlicesCompact
import Derived.Test.YthljegacamgnnaaGreatProg
import Derived.Shelf.SortG.Plain
import Derived.Shelf.SortG.SortNone
import Derived.Shelf.SlicesG.CompactI
import Derived.Lib.OwnBridge
import Derived.RangeFuncGives
import Derived.RangeFuncBox
import Derived.RangeFuncLeaves
import Derived.Shelf.Abstract
import Derived.Maps.AppendAt
import Derived.OwnWalkIn
import Derived.TacticsInMore
import Derived.LoopNIn
import Derived.LoopIn
set_option linter.unusedVariables false
set_option linter.unusedSimpArgs false
section
namespace Go.Proofs.YthljegacamgnnaaGreat
open Go Go.Sx
set_option maxRecDepth 20000
set_option maxHeartbeats 4000000
theorem y1n (x : Con) (hl : x.legs.length ≤ 1048576) : PC Tryz.prog 141 [.agg x.cs] (.one (.bor false [.l (ints (shF x.legs))])) := by
 refine PC.begin Tryz.func141 rfl (by kernel_rfl) ?_
 refine xs rfl trivial ?_
 refine yd rfl (ι := Nat) (fun i => i ≤ x.legs.length) (fun i => ⟨[(4, sV (.int .i64 i)), (3, .one (.b (.l (ints (shF (x.legs.take i)))))), (1, .one (.a 1 0))], [(1, .var (x.cs.map .b))]⟩) (fun i => x.legs.length - i) 0 (Nat.zero_le _) ?_ ?_
 · exact ⟨⟨rfl, ⟨rfl, rfl, rfl⟩, ⟨rfl, rfl, rfl⟩, trivial⟩, ⟨lcr, trivial⟩, rfl⟩
 · intro i hi J hJ
   refine xb rfl (fun h => ?_) (fun h => ?_)
   · have h : i < x.legs.length := by simpa using h
     obtain ⟨y, hy⟩ := gx h
     have hg := gm Leg.cs hy
     have hst := z5t hy
     have hlen := y1o x.legs i
     cases hb : (shF (x.legs.take i)).contains y.s with
     | true =>
       have hp := y2m _ _ true hb (by omega) (y3k _)
       have he : z2n (shF (x.legs.take i)) y.s = shF (x.legs.take i) := by
        have := y42 (y3k (x.legs.take i)) hb
        exact this
       rw [he] at hst
       refine xs rfl (Int.natCast_nonneg _) ?_
       refine y9 rfl _ hg ?_
       refine xs rfl rfl ?_
       refine z7 rfl (hp) rfl ⟨trivial, trivial, trivial⟩ ?_
       exact ya rfl (hJ _ (i + 1) (by omega) (by omega) ⟨⟨cwi (by omega) (by omega) (by omega), (by rw [hst]; rfl), ⟨rfl, rfl, rfl⟩, trivial⟩, ⟨lcr, trivial⟩, rfl⟩)
     | false =>
       have hp := y2m _ _ false hb (by omega) (y3k _)
       refine xs rfl (Int.natCast_nonneg _) ?_
       refine y9 rfl _ hg ?_
       refine xs rfl rfl ?_
       refine z7 rfl (hp) rfl ⟨trivial, trivial, trivial⟩ ?_
       exact ya rfl (hJ _ (i + 1) (by omega) (by omega) ⟨⟨cwi (by omega) (by omega) (by omega), ⟨rfl, rfl, (by rw [hst])⟩, ⟨rfl, rfl, rfl⟩, trivial⟩, ⟨lcr, trivial⟩, rfl⟩)
   · have h : i = x.legs.length := by have : ¬ i < x.legs.length := by simpa using h
                                      omega
     subst h
     rw [List.take_length]
     refine xr rfl (q7 rfl ⟨⟨rfl, rfl, trivial⟩, z6 rfl⟩)
theorem yv (c : Clu) (ho : y00 c) (id s : Int) : PC Tryz.prog 182 [.one (.p c.cs), .one (i64 id), .one (i64 s)] (rB (q0t c.cons id s)) := by
 refine PC.begin Tryz.func182 rfl (by kernel_rfl) ?_
 have hf := q0u c id ho.1.1
 cases h : y0r c.cons id with
 | none =>
   rw [q1m h] at hf
   have e : q0t c.cons id s = false := by unfold q0t; rw [h]
   rw [e]
   refine z7 rfl (hf) rfl ⟨trivial, trivial, trivial⟩ ?_
   refine xj (k := 11) rfl ?_
   refine xr rfl (q7 rfl ⟨⟨rfl, rfl, trivial⟩, z6 rfl⟩)
 | some x =>
   obtain ⟨i, hi, hx⟩ := y15 h
   rw [hi] at hf
   have hg := gm Con.cs hx
   have hxl := ho.1.2 x (List.mem_of_getElem? hx)
   have e : q0t c.cons id s = (shF x.legs).any (fun y => y == s) := by unfold q0t; rw [h, y9c]
   rw [e]
   refine z7 rfl (hf) rfl ⟨trivial, trivial, trivial⟩ ?_
   refine xj (k := 6) rfl ?_
   refine xs rfl (Int.natCast_nonneg _) ?_
   refine y9 rfl _ hg ?_
   refine xs rfl rfl ?_
   refine xj (k := 2) rfl ?_
   refine z7 rfl (y1n x hxl) rfl ⟨⟨trivial, trivial, trivial⟩, trivial⟩ ?_
   refine xj (k := 2) rfl ?_
   refine z7 rfl (q2n _ (shF x.legs) s rfl (by have := y1o x.legs x.legs.length; rw [List.take_length] at this; omega)) rfl ⟨trivial, trivial, trivial⟩ ?_
   refine xj (k := 1) rfl ?_
   refine xr rfl (q7 rfl ⟨⟨rfl, rfl, trivial⟩, z6 rfl⟩)
   all_goals first
    | (exfalso; simp at b0; omega)
    | skip
theorem y2b (x : Con) (id : Int) : PC Tryz.prog 144 [.agg x.cs, .one (.p [i64 id])] (rB (x.id == id)) := by
 refine PC.begin Tryz.func144 rfl (by kernel_rfl) ?_
 refine xr rfl (q7 rfl ⟨⟨rfl, rfl, trivial⟩, z6 rfl⟩)
theorem y13 (c : Clu) (ho : y00 c) (id : Int) (h : y0r c.cons id = none) : PC Tryz.prog 73 [.one (.p c.cs), .one (i64 id)] (.tup [.bor true [i64 0, .l []], .own false [.s (.bool false)]]) := by
 refine PC.begin Tryz.func73 rfl (by kernel_rfl) ?_
 have hi := z6y _ c.cons (fun x => x.id == id) 144 (.p [i64 id]) rfl (fun x _ => y2b x id) ho.1.1
 rw [q1m h] at hi
 refine z7 rfl (hi) rfl ⟨trivial, (List.forall_mem_cons.2 ⟨⟨trivial, trivial⟩, (fun _ h => nomatch h)⟩), trivial⟩ ?_
 refine xj (k := 1) rfl ?_
 refine xr rfl (q7 rfl ⟨(by decide), ⟨⟨rfl, rfl, rfl, trivial⟩, ⟨rfl, rfl, trivial⟩, trivial⟩, z6 rfl⟩)
theorem q13 (c : Clu) (ho : y00 c) (id : Int) (x : Con) (h : y0r c.cons id = some x) : PC Tryz.prog 73 [.one (.p c.cs), .one (i64 id)] (.tup [.bor true x.cs, .own false [.s (.bool true)]]) := by
 refine PC.begin Tryz.func73 rfl (by kernel_rfl) ?_
 have hi := z6y _ c.cons (fun x => x.id == id) 144 (.p [i64 id]) rfl (fun x _ => y2b x id) ho.1.1
 obtain ⟨i, hi0, hx⟩ := y15 h
 rw [hi0] at hi
 have hg := gm Con.cs hx
 refine z7 rfl (hi) rfl ⟨trivial, (List.forall_mem_cons.2 ⟨⟨trivial, trivial⟩, (fun _ h => nomatch h)⟩), trivial⟩ ?_
 refine xj (k := 1) rfl ?_
 refine xs rfl (Int.natCast_nonneg _) ?_
 refine y9 rfl _ hg ?_
 refine xs rfl rfl ?_
 refine xr rfl (q7 rfl ⟨(by decide), ⟨⟨rfl, rfl, rfl, trivial⟩, ⟨rfl, rfl, trivial⟩, trivial⟩, z6 rfl⟩)
 all_goals first
  | (exfalso; simp at b0; omega)
  | skip
theorem q10 (c : Clu) (ho : y00 c) (id s : Int) : PC Tryz.prog 204 [.one (.p c.cs), .one (i64 id), .one (i64 s)] (rB (q0t c.cons id s)) := by
 refine PC.begin Tryz.func204 rfl (by kernel_rfl) ?_
 cases h : y0r c.cons id with
 | none =>
   have e : q0t c.cons id s = false := by unfold q0t; rw [h]
   rw [e]
   refine z7 rfl (y13 c ho id h) rfl ⟨trivial, trivial, trivial⟩ ?_
   refine xj (k := 6) rfl ?_
   refine xr rfl (q7 rfl ⟨⟨rfl, rfl, trivial⟩, z6 rfl⟩)
 | some x =>
   obtain ⟨i, hi, hx⟩ := y15 h
   have hxl := ho.1.2 x (List.mem_of_getElem? hx)
   have e : q0t c.cons id s = decide (0 < (ql x s).length) := by unfold q0t; rw [h, y68]
   rw [e]
   refine z7 rfl (q13 c ho id x h) rfl ⟨trivial, trivial, trivial⟩ ?_
   refine xj (k := 3) rfl ?_
   refine z7 rfl (z0z _ _ (by omega)) rfl ⟨⟨trivial, trivial, trivial⟩, trivial, trivial⟩ ?_
   refine xj (k := 3) rfl ?_
   refine xr rfl (q7 rfl ⟨⟨rfl, ?_, trivial⟩, z6 rfl⟩)
   all_goals (refine vb ?_; simp)
theorem y2g (rr : List (List Cell)) : PC Tryz.prog 124 [.one (.l rr)] (rI rr.length) := by
 refine PC.begin Tryz.func124 rfl (by kernel_rfl) ?_
 refine xr rfl (q7 rfl ⟨⟨rfl, rfl, trivial⟩, z6 rfl⟩)
theorem z1b (rr : List (List Cell)) : PC Tryz.prog 125 [.one (.l rr)] (rI rr.length) := by
 refine PC.begin Tryz.func125 rfl (by kernel_rfl) ?_
 refine xr rfl (q7 rfl ⟨⟨rfl, rfl, trivial⟩, z6 rfl⟩)
theorem q45 (rr : List (List Cell)) : PC Tryz.prog 319 [.one (.l rr)] (rI rr.length) := by
 refine PC.begin Tryz.func319 rfl (by kernel_rfl) ?_
 refine xr rfl (q7 rfl ⟨⟨rfl, rfl, trivial⟩, z6 rfl⟩)
theorem y26 (rows : List (List Cell)) (n : Int) (hl : rows.length ≤ 1048576) : PC Tryz.prog 88 [.one (i64 n), .one (.l rows)] (rB (within n 0 ((rows.length : Int) - 1))) := by
 refine PC.begin Tryz.func88 rfl (by kernel_rfl) ?_
 have hw : IntKind.i64.wrap ((rows.length : Int) - 1) = (rows.length : Int) - 1 := wrap_i64 (by omega) (by omega)
 refine z7 rfl (y2g _) rfl ⟨trivial, trivial⟩ ?_
 refine z7 rfl (ym _ _ _) rfl ⟨trivial, trivial, trivial, trivial⟩ ?_
 refine xr rfl (q7 rfl ⟨⟨rfl, ?_, trivial⟩, z6 rfl⟩)
 all_goals (refine vb ?_; rw [hw])
theorem z0b (rows : List (List Cell)) (n : Int) (hl : rows.length ≤ 1048576) : PC Tryz.prog 274 [.one (i64 n), .one (.l rows)] (rB (within n 0 ((rows.length : Int) - 1))) := by
 refine PC.begin Tryz.func274 rfl (by kernel_rfl) ?_
 have hw : IntKind.i64.wrap ((rows.length : Int) - 1) = (rows.length : Int) - 1 := wrap_i64 (by omega) (by omega)
 refine z7 rfl (z1b _) rfl ⟨trivial, trivial⟩ ?_
 refine z7 rfl (ym _ _ _) rfl ⟨trivial, trivial, trivial, trivial⟩ ?_
 refine xr rfl (q7 rfl ⟨⟨rfl, ?_, trivial⟩, z6 rfl⟩)
 all_goals (refine vb ?_; rw [hw])
theorem z26 (rows : List (List Cell)) (n : Int) (hl : rows.length ≤ 1048576) : PC Tryz.prog 276 [.one (i64 n), .one (.l rows)] (rB (within n 0 ((rows.length : Int) - 1))) := by
 refine PC.begin Tryz.func276 rfl (by kernel_rfl) ?_
 have hw : IntKind.i64.wrap ((rows.length : Int) - 1) = (rows.length : Int) - 1 := wrap_i64 (by omega) (by omega)
 refine z7 rfl (q45 _) rfl ⟨trivial, trivial⟩ ?_
 refine z7 rfl (ym _ _ _) rfl ⟨trivial, trivial, trivial, trivial⟩ ?_
 refine xr rfl (q7 rfl ⟨⟨rfl, ?_, trivial⟩, z6 rfl⟩)
 all_goals (refine vb ?_; rw [hw])
end Go.Proofs.YthljegacamgnnaaGreat
end
section
namespace Go.Proofs.YthljegacamgnnaaGreat
open Go Go.Sx
set_option maxRecDepth 20000
set_option maxHeartbeats 4000000
abbrev qal (m : Msg) : Res := .one (.own true [.s (.int .i64 m.k), .s (.int .i64 m.to), .s (.int .i64 m.fr), .s (.int .i64 m.c), .s (.int .i64 m.s), .s (.int .i64 m.b), .s (.int .i64 m.v), .s (.int .i64 m.ob), .s (.int .i64 m.ov)])
theorem kinds {k : Int} (h : Go.Sx.within k 1 6 = true) : k = 1 ∨ k = 2 ∨ k = 3 ∨ k = 4 ∨ k = 5 ∨ k = 6 := by
 have := Go.Sx.within_iff.1 h
 omega
theorem wl1 {α β : Type} (f : α → β) {us : List α} (h : us.length ≤ 1048576) : IntKind.i64.wrap (((us.map f).length : Int) - 1) = (us.length : Int) - 1 := by rw [List.length_map]; exact wrap_i64 (by omega) (by omega)
theorem q09 {α : Type} {p : α → Bool} {l : List α} : decide (z15 p l < 0) = (l.find? p).isNone := by
 cases h : l.find? p with
 | none => rw [q1m h]; rfl
 | some x =>
   obtain ⟨i, hi, _⟩ := y15 h
   rw [hi]; simp
theorem y0b (m : Msg) (hk : Go.Sx.within m.k 1 6 = true) : PC Tryz.prog 192 [.agg m.cs] (qal m.bare) := by
 refine PC.begin Tryz.func192 rfl (by kernel_rfl) ?_
 obtain ⟨k, to, fr, c, s, b, v, ob, ov⟩ := m
 rcases kinds hk with h | h | h | h | h | h
 · dsimp only at h
   subst h
   rw [show Msg.bare ⟨1, to, fr, c, s, b, v, ob, ov⟩ = ⟨1, to, 0, c, 0, 0, 0, 0, 0⟩ from rfl]
   refine xj (k := 20) rfl ?_
   refine xr rfl (q7 rfl ⟨⟨rfl, rfl, rfl, rfl, rfl, rfl, rfl, rfl, rfl, rfl, trivial⟩, z6 rfl⟩)
 · dsimp only at h
   subst h
   rw [show Msg.bare ⟨2, to, fr, c, s, b, v, ob, ov⟩ = ⟨2, to, 0, c, s, b, v, 0, 0⟩ from rfl]
   refine xj (k := 20) rfl ?_
   refine xr rfl (q7 rfl ⟨⟨rfl, rfl, rfl, rfl, rfl, rfl, rfl, rfl, rfl, rfl, trivial⟩, z6 rfl⟩)
 · dsimp only at h
   subst h
   rw [show Msg.bare ⟨3, to, fr, c, s, b, v, ob, ov⟩ = ⟨3, to, fr, c, s, b, v, 0, 0⟩ from rfl]
   refine xj (k := 20) rfl ?_
   refine xr rfl (q7 rfl ⟨⟨rfl, rfl, rfl, rfl, rfl, rfl, rfl, rfl, rfl, rfl, trivial⟩, z6 rfl⟩)
 · dsimp only at h
   subst h
   rw [show Msg.bare ⟨4, to, fr, c, s, b, v, ob, ov⟩ = ⟨4, to, fr, c, s, b, 0, 0, 0⟩ from rfl]
   refine xj (k := 20) rfl ?_
   refine xr rfl (q7 rfl ⟨⟨rfl, rfl, rfl, rfl, rfl, rfl, rfl, rfl, rfl, rfl, trivial⟩, z6 rfl⟩)
 · dsimp only at h
   subst h
   rw [show Msg.bare ⟨5, to, fr, c, s, b, v, ob, ov⟩ = ⟨5, to, fr, c, s, b, 0, ob, ov⟩ from rfl]
   refine xj (k := 20) rfl ?_
   refine xr rfl (q7 rfl ⟨⟨rfl, rfl, rfl, rfl, rfl, rfl, rfl, rfl, rfl, rfl, trivial⟩, z6 rfl⟩)
 · dsimp only at h
   subst h
   rw [show Msg.bare ⟨6, to, fr, c, s, b, v, ob, ov⟩ = ⟨6, to, 0, c, 0, 0, v, 0, 0⟩ from rfl]
   refine xj (k := 20) rfl ?_
   refine xr rfl (q7 rfl ⟨⟨rfl, rfl, rfl, rfl, rfl, rfl, rfl, rfl, rfl, rfl, trivial⟩, z6 rfl⟩)
theorem q84 (m : Msg) (hk : Go.Sx.within m.k 1 6 = true) : PC Tryz.prog 215 [.agg m.cs] (qal m.bare) := by
 refine PC.begin Tryz.func215 rfl (by kernel_rfl) ?_
 obtain ⟨k, to, fr, c, s, b, v, ob, ov⟩ := m
 rcases kinds hk with h | h | h | h | h | h
 · dsimp only at h
   subst h
   rw [show Msg.bare ⟨1, to, fr, c, s, b, v, ob, ov⟩ = ⟨1, to, 0, c, 0, 0, 0, 0, 0⟩ from rfl]
   refine xj (k := 10) rfl ?_
   refine xr rfl (q7 rfl ⟨⟨rfl, rfl, rfl, rfl, rfl, rfl, rfl, rfl, rfl, rfl, trivial⟩, z6 rfl⟩)
 · dsimp only at h
   subst h
   rw [show Msg.bare ⟨2, to, fr, c, s, b, v, ob, ov⟩ = ⟨2, to, 0, c, s, b, v, 0, 0⟩ from rfl]
   refine xj (k := 5) rfl ?_
   refine yc rfl [] (.take 0 [] (.take 1 [4, 5, 6, 7] (.take 2 [] (.take 4 [] (.alt 3 (.alt 5 (.take 6 [] (.alt 7 .done .nil)) .nil) (.alt 5 (.take 3 [6, 7] (.take 6 [] (.alt 7 .done .nil))) .nil)))))) (by kernel_rfl) ?_
   refine y1z rfl ?_ ?_
   refine xj (k := 2) rfl ?_
   refine xr rfl (q7 rfl ⟨⟨rfl, rfl, rfl, rfl, rfl, rfl, rfl, rfl, rfl, rfl, trivial⟩, z6 rfl⟩)
   refine xj (k := 2) rfl ?_
   refine xr rfl (q7 rfl ⟨⟨rfl, rfl, rfl, rfl, rfl, rfl, rfl, rfl, rfl, rfl, trivial⟩, z6 rfl⟩)
 · dsimp only at h
   subst h
   rw [show Msg.bare ⟨3, to, fr, c, s, b, v, ob, ov⟩ = ⟨3, to, fr, c, s, b, v, 0, 0⟩ from rfl]
   refine xj (k := 5) rfl ?_
   refine yc rfl [] (.take 0 [] (.take 1 [4, 5, 6, 7] (.take 2 [] (.take 4 [] (.alt 3 (.alt 5 (.take 6 [] (.alt 7 .done .nil)) .nil) (.alt 5 (.take 3 [6, 7] (.take 6 [] (.alt 7 .done .nil))) .nil)))))) (by kernel_rfl) ?_
   refine y1z rfl ?_ ?_
   refine xj (k := 3) rfl ?_
   refine yc rfl [] (.take 0 [] (.take 1 [4, 5, 6, 7] (.take 2 [] (.take 4 [] (.alt 3 (.alt 5 (.take 6 [] (.alt 7 .done .nil)) .nil) (.alt 5 (.take 3 [6, 7] (.take 6 [] (.alt 7 .done .nil))) .nil)))))) (by kernel_rfl) ?_
   refine y1z rfl ?_ ?_
   refine xr rfl (q7 rfl ⟨⟨rfl, rfl, rfl, rfl, rfl, rfl, rfl, rfl, rfl, rfl, trivial⟩, z6 rfl⟩)
   refine xr rfl (q7 rfl ⟨⟨rfl, rfl, rfl, rfl, rfl, rfl, rfl, rfl, rfl, rfl, trivial⟩, z6 rfl⟩)
   refine xj (k := 3) rfl ?_
   refine yc rfl [] (.take 0 [] (.take 1 [4, 5, 6, 7] (.take 2 [] (.take 4 [] (.alt 3 (.alt 5 (.take 6 [] (.alt 7 .done .nil)) .nil) (.alt 5 (.take 3 [6, 7] (.take 6 [] (.alt 7 .done .nil))) .nil)))))) (by kernel_rfl) ?_
   refine y1z rfl ?_ ?_
   refine xr rfl (q7 rfl ⟨⟨rfl, rfl, rfl, rfl, rfl, rfl, rfl, rfl, rfl, rfl, trivial⟩, z6 rfl⟩)
   refine xr rfl (q7 rfl ⟨⟨rfl, rfl, rfl, rfl, rfl, rfl, rfl, rfl, rfl, rfl, trivial⟩, z6 rfl⟩)
 · dsimp only at h
   subst h
   rw [show Msg.bare ⟨4, to, fr, c, s, b, v, ob, ov⟩ = ⟨4, to, fr, c, s, b, 0, 0, 0⟩ from rfl]
   refine xj (k := 5) rfl ?_
   refine yc rfl [] (.take 0 [] (.take 1 [4, 5, 6, 7] (.take 2 [] (.take 4 [] (.alt 3 (.alt 5 (.take 6 [] (.alt 7 .done .nil)) .nil) (.alt 5 (.take 3 [6, 7] (.take 6 [] (.alt 7 .done .nil))) .nil)))))) (by kernel_rfl) ?_
   refine y1z rfl ?_ ?_
   refine xj (k := 4) rfl ?_
   refine xr rfl (q7 rfl ⟨⟨rfl, rfl, rfl, rfl, rfl, rfl, rfl, rfl, rfl, rfl, trivial⟩, z6 rfl⟩)
   refine xj (k := 4) rfl ?_
   refine xr rfl (q7 rfl ⟨⟨rfl, rfl, rfl, rfl, rfl, rfl, rfl, rfl, rfl, rfl, trivial⟩, z6 rfl⟩)
 · dsimp only at h
   subst h
   rw [show Msg.bare ⟨5, to, fr, c, s, b, v, ob, ov⟩ = ⟨5, to, fr, c, s, b, 0, ob, ov⟩ from rfl]
   refine xj (k := 5) rfl ?_
   refine yc rfl [] (.take 0 [] (.take 1 [4, 5, 6, 7] (.take 2 [] (.take 4 [] (.alt 3 (.alt 5 (.take 6 [] (.alt 7 .done .nil)) .nil) (.alt 5 (.take 3 [6, 7] (.take 6 [] (.alt 7 .done .nil))) .nil)))))) (by kernel_rfl) ?_
   refine y1z rfl ?_ ?_
   refine xj (k := 5) rfl ?_
   refine yc rfl [] (.take 0 [] (.take 1 [4, 5, 6, 7] (.take 2 [] (.take 4 [] (.alt 3 (.alt 5 (.take 6 [] (.alt 7 .done .nil)) .nil) (.alt 5 (.take 3 [6, 7] (.take 6 [] (.alt 7 .done .nil))) .nil)))))) (by kernel_rfl) ?_
   refine y1z rfl ?_ ?_
   refine xr rfl (q7 rfl ⟨⟨rfl, rfl, rfl, rfl, rfl, rfl, rfl, rfl, rfl, rfl, trivial⟩, z6 rfl⟩)
   refine xr rfl (q7 rfl ⟨⟨rfl, rfl, rfl, rfl, rfl, rfl, rfl, rfl, rfl, rfl, trivial⟩, z6 rfl⟩)
   refine xj (k := 5) rfl ?_
   refine yc rfl [] (.take 0 [] (.take 1 [4, 5, 6, 7] (.take 2 [] (.take 4 [] (.alt 3 (.alt 5 (.take 6 [] (.alt 7 .done .nil)) .nil) (.alt 5 (.take 3 [6, 7] (.take 6 [] (.alt 7 .done .nil))) .nil)))))) (by kernel_rfl) ?_
   refine y1z rfl ?_ ?_
   refine xr rfl (q7 rfl ⟨⟨rfl, rfl, rfl, rfl, rfl, rfl, rfl, rfl, rfl, rfl, trivial⟩, z6 rfl⟩)
   refine xr rfl (q7 rfl ⟨⟨rfl, rfl, rfl, rfl, rfl, rfl, rfl, rfl, rfl, rfl, trivial⟩, z6 rfl⟩)
 · dsimp only at h
   subst h
   rw [show Msg.bare ⟨6, to, fr, c, s, b, v, ob, ov⟩ = ⟨6, to, 0, c, 0, 0, v, 0, 0⟩ from rfl]
   refine xj (k := 7) rfl ?_
   refine xr rfl (q7 rfl ⟨⟨rfl, rfl, rfl, rfl, rfl, rfl, rfl, rfl, rfl, rfl, trivial⟩, z6 rfl⟩)
theorem y1f (c : Clu) (ho : y00 c) (m : Msg) (hk : Go.Sx.within m.k 1 6 = true) : PC Tryz.prog 189 [.one (.p c.cs), .agg m.cs] (rB (ends c m)) := by
 refine PC.begin Tryz.func189 rfl (by kernel_rfl) ?_
 have q1 := ho.2.1.1
 have q2 := ho.2.2.1.1
 have q3 := ho.2.2.2.1.1
 have p1 : (c.shs.map Shd.cs).length ≤ 1048576 := by simpa using q1
 have p2 : (c.accs.map Acc.cs).length ≤ 1048576 := by simpa using q2
 have p3 : (c.ldrs.map Ldr.cs).length ≤ 1048576 := by simpa using q3
 have w1 := wl1 Shd.cs q1
 have w2 := wl1 Acc.cs q2
 have w3 := wl1 Ldr.cs q3
 obtain ⟨k, to, fr, mc, s, b, v, ob, ov⟩ := m
 rcases kinds hk with h | h | h | h | h | h
 · dsimp only at h
   subst h
   refine xj (k := 11) rfl ?_
   refine z7 rfl (zj _ _ _) rfl ⟨trivial, trivial, trivial, trivial⟩ ?_
   refine xb rfl (fun b0 => ?_) (fun b0 => ?_)
   refine xj (k := 17) rfl ?_
   refine xr rfl (q7 rfl ⟨⟨rfl, ?_, trivial⟩, z6 rfl⟩)
   rotate_left
   refine xj (k := 7) rfl ?_
   refine xr rfl (q7 rfl ⟨⟨rfl, ?_, trivial⟩, z6 rfl⟩)
   rotate_left
   all_goals (refine vb ?_; simp_all [ends, toN, frN]; done)
 · dsimp only at h
   subst h
   refine xj (k := 11) rfl ?_
   refine z7 rfl (zj _ _ _) rfl ⟨trivial, trivial, trivial, trivial⟩ ?_
   refine xb rfl (fun b0 => ?_) (fun b0 => ?_)
   refine xj (k := 17) rfl ?_
   refine xr rfl (q7 rfl ⟨⟨rfl, ?_, trivial⟩, z6 rfl⟩)
   rotate_left
   refine xj (k := 7) rfl ?_
   refine xr rfl (q7 rfl ⟨⟨rfl, ?_, trivial⟩, z6 rfl⟩)
   rotate_left
   all_goals (refine vb ?_; simp_all [ends, toN, frN]; done)
 · dsimp only at h
   subst h
   refine xj (k := 11) rfl ?_
   refine z7 rfl (zj _ _ _) rfl ⟨trivial, trivial, trivial, trivial⟩ ?_
   refine xb rfl (fun b0 => ?_) (fun b0 => ?_)
   refine xj (k := 14) rfl ?_
   refine z7 rfl (zj _ _ _) rfl ⟨trivial, trivial, trivial, trivial⟩ ?_
   refine xj (k := 3) rfl ?_
   refine xr rfl (q7 rfl ⟨⟨rfl, ?_, trivial⟩, z6 rfl⟩)
   rotate_left
   refine xj (k := 7) rfl ?_
   refine xr rfl (q7 rfl ⟨⟨rfl, ?_, trivial⟩, z6 rfl⟩)
   rotate_left
   all_goals (refine vb ?_; simp_all [ends, toN, frN]; done)
 · dsimp only at h
   subst h
   refine xj (k := 11) rfl ?_
   refine z7 rfl (zj _ _ _) rfl ⟨trivial, trivial, trivial, trivial⟩ ?_
   refine xb rfl (fun b0 => ?_) (fun b0 => ?_)
   refine xj (k := 14) rfl ?_
   refine z7 rfl (zj _ _ _) rfl ⟨trivial, trivial, trivial, trivial⟩ ?_
   refine xj (k := 3) rfl ?_
   refine xr rfl (q7 rfl ⟨⟨rfl, ?_, trivial⟩, z6 rfl⟩)
   rotate_left
   refine xj (k := 7) rfl ?_
   refine xr rfl (q7 rfl ⟨⟨rfl, ?_, trivial⟩, z6 rfl⟩)
   rotate_left
   all_goals (refine vb ?_; simp_all [ends, toN, frN]; done)
 · dsimp only at h
   subst h
   refine xj (k := 11) rfl ?_
   refine z7 rfl (zj _ _ _) rfl ⟨trivial, trivial, trivial, trivial⟩ ?_
   refine xb rfl (fun b0 => ?_) (fun b0 => ?_)
   refine xj (k := 14) rfl ?_
   refine z7 rfl (zj _ _ _) rfl ⟨trivial, trivial, trivial, trivial⟩ ?_
   refine xj (k := 3) rfl ?_
   refine xr rfl (q7 rfl ⟨⟨rfl, ?_, trivial⟩, z6 rfl⟩)
   rotate_left
   refine xj (k := 7) rfl ?_
   refine xr rfl (q7 rfl ⟨⟨rfl, ?_, trivial⟩, z6 rfl⟩)
   rotate_left
   all_goals (refine vb ?_; simp_all [ends, toN, frN]; done)
 · dsimp only at h
   subst h
   refine xj (k := 11) rfl ?_
   refine z7 rfl (zj _ _ _) rfl ⟨trivial, trivial, trivial, trivial⟩ ?_
   refine xb rfl (fun b0 => ?_) (fun b0 => ?_)
   refine xj (k := 17) rfl ?_
   refine xr rfl (q7 rfl ⟨⟨rfl, ?_, trivial⟩, z6 rfl⟩)
   rotate_left
   refine xj (k := 7) rfl ?_
   refine xr rfl (q7 rfl ⟨⟨rfl, ?_, trivial⟩, z6 rfl⟩)
   rotate_left
   all_goals (refine vb ?_; simp_all [ends, toN, frN]; done)
theorem z92 (c : Clu) (ho : y00 c) (m : Msg) (hk : Go.Sx.within m.k 1 6 = true) : PC Tryz.prog 212 [.one (.p c.cs), .agg m.cs] (rB (within m.to 0 ((toN c m : Int) - 1))) := by
 refine PC.begin Tryz.func212 rfl (by kernel_rfl) ?_
 have q1 := ho.2.1.1
 have q2 := ho.2.2.1.1
 have q3 := ho.2.2.2.1.1
 have p1 : (c.shs.map Shd.cs).length ≤ 1048576 := by simpa using q1
 have p2 : (c.accs.map Acc.cs).length ≤ 1048576 := by simpa using q2
 have p3 : (c.ldrs.map Ldr.cs).length ≤ 1048576 := by simpa using q3
 have w1 := wl1 Shd.cs q1
 have w2 := wl1 Acc.cs q2
 have w3 := wl1 Ldr.cs q3
 obtain ⟨k, to, fr, mc, s, b, v, ob, ov⟩ := m
 rcases kinds hk with h | h | h | h | h | h
 · dsimp only at h
   subst h
   refine xj (k := 2) rfl ?_
   refine yc rfl [] (.take 0 [] (.take 1 [6, 7] (.take 2 [] (.take 3 [] (.take 4 [] (.take 5 [6, 7] (.alt 6 (.take 7 [] .done) .nil))))))) (by kernel_rfl) ?_
   refine z7 rfl (y26 _ _ (by assumption)) rfl ⟨trivial, trivial, trivial⟩ ?_
   refine xr rfl (q7 rfl ⟨⟨rfl, ?_, trivial⟩, z6 rfl⟩)
   all_goals (refine vb ?_; simp_all [toN]; done)
 · dsimp only at h
   subst h
   refine xj (k := 4) rfl ?_
   refine yc rfl [] (.take 0 [] (.take 1 [6, 7] (.take 2 [] (.take 3 [] (.take 4 [] (.take 5 [6, 7] (.alt 6 (.take 7 [] .done) .nil))))))) (by kernel_rfl) ?_
   refine z7 rfl (z0b _ _ (by assumption)) rfl ⟨trivial, trivial, trivial⟩ ?_
   refine xr rfl (q7 rfl ⟨⟨rfl, ?_, trivial⟩, z6 rfl⟩)
   all_goals (refine vb ?_; simp_all [toN]; done)
 · dsimp only at h
   subst h
   refine xj (k := 4) rfl ?_
   refine yc rfl [] (.take 0 [] (.take 1 [6, 7] (.take 2 [] (.take 3 [] (.take 4 [] (.take 5 [6, 7] (.alt 6 (.take 7 [] .done) .nil))))))) (by kernel_rfl) ?_
   refine z7 rfl (z26 _ _ (by assumption)) rfl ⟨trivial, trivial, trivial⟩ ?_
   refine xr rfl (q7 rfl ⟨⟨rfl, ?_, trivial⟩, z6 rfl⟩)
   all_goals (refine vb ?_; simp_all [toN]; done)
 · dsimp only at h
   subst h
   refine xj (k := 4) rfl ?_
   refine yc rfl [] (.take 0 [] (.take 1 [6, 7] (.take 2 [] (.take 3 [] (.take 4 [] (.take 5 [6, 7] (.alt 6 (.take 7 [] .done) .nil))))))) (by kernel_rfl) ?_
   refine z7 rfl (z0b _ _ (by assumption)) rfl ⟨trivial, trivial, trivial⟩ ?_
   refine xr rfl (q7 rfl ⟨⟨rfl, ?_, trivial⟩, z6 rfl⟩)
   all_goals (refine vb ?_; simp_all [toN]; done)
 · dsimp only at h
   subst h
   refine xj (k := 4) rfl ?_
   refine yc rfl [] (.take 0 [] (.take 1 [6, 7] (.take 2 [] (.take 3 [] (.take 4 [] (.take 5 [6, 7] (.alt 6 (.take 7 [] .done) .nil))))))) (by kernel_rfl) ?_
   refine z7 rfl (z26 _ _ (by assumption)) rfl ⟨trivial, trivial, trivial⟩ ?_
   refine xr rfl (q7 rfl ⟨⟨rfl, ?_, trivial⟩, z6 rfl⟩)
   all_goals (refine vb ?_; simp_all [toN]; done)
 · dsimp only at h
   subst h
   refine xj (k := 2) rfl ?_
   refine yc rfl [] (.take 0 [] (.take 1 [6, 7] (.take 2 [] (.take 3 [] (.take 4 [] (.take 5 [6, 7] (.alt 6 (.take 7 [] .done) .nil))))))) (by kernel_rfl) ?_
   refine z7 rfl (y26 _ _ (by assumption)) rfl ⟨trivial, trivial, trivial⟩ ?_
   refine xr rfl (q7 rfl ⟨⟨rfl, ?_, trivial⟩, z6 rfl⟩)
   all_goals (refine vb ?_; simp_all [toN]; done)
theorem y6z (c : Clu) (ho : y00 c) (m : Msg) (hk : Go.Sx.within m.k 1 6 = true) : PC Tryz.prog 213 [.one (.p c.cs), .agg m.cs] (rB (decide (m.k < 3) || decide (5 < m.k) || within m.fr 0 ((frN c m : Int) - 1))) := by
 refine PC.begin Tryz.func213 rfl (by kernel_rfl) ?_
 have q1 := ho.2.1.1
 have q2 := ho.2.2.1.1
 have q3 := ho.2.2.2.1.1
 have p1 : (c.shs.map Shd.cs).length ≤ 1048576 := by simpa using q1
 have p2 : (c.accs.map Acc.cs).length ≤ 1048576 := by simpa using q2
 have p3 : (c.ldrs.map Ldr.cs).length ≤ 1048576 := by simpa using q3
 have w1 := wl1 Shd.cs q1
 have w2 := wl1 Acc.cs q2
 have w3 := wl1 Ldr.cs q3
 obtain ⟨k, to, fr, mc, s, b, v, ob, ov⟩ := m
 rcases kinds hk with h | h | h | h | h | h
 · dsimp only at h
   subst h
   refine xj (k := 3) rfl ?_
   refine xr rfl (q7 rfl ⟨⟨rfl, rfl, trivial⟩, z6 rfl⟩)
   all_goals (refine vb ?_; simp_all [frN]; done)
 · dsimp only at h
   subst h
   refine xj (k := 3) rfl ?_
   refine xr rfl (q7 rfl ⟨⟨rfl, rfl, trivial⟩, z6 rfl⟩)
   all_goals (refine vb ?_; simp_all [frN]; done)
 · dsimp only at h
   subst h
   refine xj (k := 3) rfl ?_
   refine yc rfl [] (.take 0 [] (.take 1 [6, 7] (.take 2 [] (.take 3 [] (.take 4 [] (.take 5 [6, 7] (.alt 6 (.take 7 [] .done) .nil))))))) (by kernel_rfl) ?_
   refine z7 rfl (z0b _ _ (by assumption)) rfl ⟨trivial, trivial, trivial⟩ ?_
   refine xr rfl (q7 rfl ⟨⟨rfl, ?_, trivial⟩, z6 rfl⟩)
   all_goals (refine vb ?_; simp_all [frN]; done)
 · dsimp only at h
   subst h
   refine xj (k := 1) rfl ?_
   refine yc rfl [] (.take 0 [] (.take 1 [6, 7] (.take 2 [] (.take 3 [] (.take 4 [] (.take 5 [6, 7] (.alt 6 (.take 7 [] .done) .nil))))))) (by kernel_rfl) ?_
   refine z7 rfl (z26 _ _ (by assumption)) rfl ⟨trivial, trivial, trivial⟩ ?_
   refine xr rfl (q7 rfl ⟨⟨rfl, ?_, trivial⟩, z6 rfl⟩)
   all_goals (refine vb ?_; simp_all [frN]; done)
 · dsimp only at h
   subst h
   refine xj (k := 3) rfl ?_
   refine yc rfl [] (.take 0 [] (.take 1 [6, 7] (.take 2 [] (.take 3 [] (.take 4 [] (.take 5 [6, 7] (.alt 6 (.take 7 [] .done) .nil))))))) (by kernel_rfl) ?_
   refine z7 rfl (z0b _ _ (by assumption)) rfl ⟨trivial, trivial, trivial⟩ ?_
   refine xr rfl (q7 rfl ⟨⟨rfl, ?_, trivial⟩, z6 rfl⟩)
   all_goals (refine vb ?_; simp_all [frN]; done)
 · dsimp only at h
   subst h
   refine xj (k := 3) rfl ?_
   refine xr rfl (q7 rfl ⟨⟨rfl, rfl, trivial⟩, z6 rfl⟩)
   all_goals (refine vb ?_; simp_all [frN]; done)
theorem q5a (c : Clu) (ho : y00 c) (m : Msg) (hk : Go.Sx.within m.k 1 6 = true) : PC Tryz.prog 214 [.one (.p c.cs), .agg m.cs] (rB (ranges c m)) := by
 refine PC.begin Tryz.func214 rfl (by kernel_rfl) ?_
 have q1 := ho.2.1.1
 have q2 := ho.2.2.1.1
 have q3 := ho.2.2.2.1.1
 have p1 : (c.shs.map Shd.cs).length ≤ 1048576 := by simpa using q1
 have p2 : (c.accs.map Acc.cs).length ≤ 1048576 := by simpa using q2
 have p3 : (c.ldrs.map Ldr.cs).length ≤ 1048576 := by simpa using q3
 have w1 := wl1 Shd.cs q1
 have w2 := wl1 Acc.cs q2
 have w3 := wl1 Ldr.cs q3
 obtain ⟨k, to, fr, mc, s, b, v, ob, ov⟩ := m
 rcases kinds hk with h | h | h | h | h | h
 · dsimp only at h
   subst h
   refine xj (k := 1) rfl ?_
   refine z7 rfl (q10 _ (by assumption) _ _) rfl ⟨trivial, trivial, trivial, trivial⟩ ?_
   refine xr rfl (q7 rfl ⟨⟨rfl, ?_, trivial⟩, z6 rfl⟩)
   all_goals (refine vb ?_; simp_all [ranges, Msg.shd, y1r, Vt.none]; done)
 · dsimp only at h
   subst h
   refine xj (k := 2) rfl ?_
   refine z7 rfl (q10 _ (by assumption) _ _) rfl ⟨trivial, trivial, trivial, trivial⟩ ?_
   refine xb rfl (fun b0 => ?_) (fun b0 => ?_)
   refine xj (k := 5) rfl ?_
   refine xr rfl (q7 rfl ⟨⟨rfl, ?_, trivial⟩, z6 rfl⟩)
   rotate_left
   refine xj (k := 2) rfl ?_
   refine z7 rfl (y05 _) rfl ⟨trivial, trivial⟩ ?_
   refine xj (k := 2) rfl ?_
   refine xb rfl (fun b1 => ?_) (fun b1 => ?_)
   refine xr rfl (q7 rfl ⟨⟨rfl, ?_, trivial⟩, z6 rfl⟩)
   rotate_left
   refine xj (k := 2) rfl ?_
   refine z7 rfl (q0j _) rfl ⟨trivial, trivial⟩ ?_
   refine xr rfl (q7 rfl ⟨⟨rfl, ?_, trivial⟩, z6 rfl⟩)
   rotate_left
   all_goals (refine vb ?_; simp_all [ranges, Msg.shd, y1r, Vt.none]; done)
 · dsimp only at h
   subst h
   refine xj (k := 2) rfl ?_
   refine z7 rfl (q10 _ (by assumption) _ _) rfl ⟨trivial, trivial, trivial, trivial⟩ ?_
   refine xb rfl (fun b0 => ?_) (fun b0 => ?_)
   refine xj (k := 5) rfl ?_
   refine xr rfl (q7 rfl ⟨⟨rfl, ?_, trivial⟩, z6 rfl⟩)
   rotate_left
   refine xj (k := 2) rfl ?_
   refine z7 rfl (y05 _) rfl ⟨trivial, trivial⟩ ?_
   refine xj (k := 2) rfl ?_
   refine xb rfl (fun b1 => ?_) (fun b1 => ?_)
   refine xr rfl (q7 rfl ⟨⟨rfl, ?_, trivial⟩, z6 rfl⟩)
   rotate_left
   refine xj (k := 2) rfl ?_
   refine z7 rfl (q0j _) rfl ⟨trivial, trivial⟩ ?_
   refine xr rfl (q7 rfl ⟨⟨rfl, ?_, trivial⟩, z6 rfl⟩)
   rotate_left
   all_goals (refine vb ?_; simp_all [ranges, Msg.shd, y1r, Vt.none]; done)
 · dsimp only at h
   subst h
   refine xj (k := 2) rfl ?_
   refine z7 rfl (q10 _ (by assumption) _ _) rfl ⟨trivial, trivial, trivial, trivial⟩ ?_
   refine xb rfl (fun b0 => ?_) (fun b0 => ?_)
   refine xj (k := 5) rfl ?_
   refine xr rfl (q7 rfl ⟨⟨rfl, ?_, trivial⟩, z6 rfl⟩)
   rotate_left
   refine xj (k := 2) rfl ?_
   refine z7 rfl (y05 _) rfl ⟨trivial, trivial⟩ ?_
   refine xj (k := 2) rfl ?_
   refine xb rfl (fun b1 => ?_) (fun b1 => ?_)
   refine xr rfl (q7 rfl ⟨⟨rfl, ?_, trivial⟩, z6 rfl⟩)
   rotate_left
   refine xj (k := 3) rfl ?_
   refine xr rfl (q7 rfl ⟨⟨rfl, ?_, trivial⟩, z6 rfl⟩)
   rotate_left
   all_goals (refine vb ?_; simp_all [ranges, Msg.shd, y1r, Vt.none]; done)
 · dsimp only at h
   subst h
   refine xj (k := 2) rfl ?_
   refine z7 rfl (q10 _ (by assumption) _ _) rfl ⟨trivial, trivial, trivial, trivial⟩ ?_
   refine xb rfl (fun b0 => ?_) (fun b0 => ?_)
   refine xj (k := 5) rfl ?_
   refine xr rfl (q7 rfl ⟨⟨rfl, ?_, trivial⟩, z6 rfl⟩)
   rotate_left
   refine xj (k := 2) rfl ?_
   refine z7 rfl (y05 _) rfl ⟨trivial, trivial⟩ ?_
   refine xj (k := 2) rfl ?_
   refine xb rfl (fun b1 => ?_) (fun b1 => ?_)
   refine xr rfl (q7 rfl ⟨⟨rfl, ?_, trivial⟩, z6 rfl⟩)
   rotate_left
   refine xj (k := 3) rfl ?_
   refine yc rfl [] (.take 0 [] (.take 1 [3, 4, 5, 6, 7, 8, 9] (.alt 2 (.take 3 [] (.take 4 [] (.take 5 [] (.take 6 [7, 8, 9] (.alt 7 (.take 8 [] (.take 9 [] .done)) .nil))))) .nil))) (by kernel_rfl) ?_
   refine z7 rfl (q2x) rfl trivial ?_
   refine xb rfl (fun b2 => ?_) (fun b2 => ?_)
   refine xj (k := 3) rfl ?_
   refine xr rfl (q7 rfl ⟨⟨rfl, ?_, trivial⟩, z6 rfl⟩)
   rotate_left
   refine xj (k := 2) rfl ?_
   refine z7 rfl (y1t ⟨ob, ov⟩) rfl ⟨⟨trivial, trivial, trivial⟩, trivial⟩ ?_
   refine xj (k := 1) rfl ?_
   refine xr rfl (q7 rfl ⟨⟨rfl, ?_, trivial⟩, z6 rfl⟩)
   rotate_left
   all_goals (refine vb ?_; simp_all [ranges, Msg.shd, y1r, Vt.none]; done)
 · dsimp only at h
   subst h
   refine xj (k := 2) rfl ?_
   refine z7 rfl (q10 _ (by assumption) _ _) rfl ⟨trivial, trivial, trivial, trivial⟩ ?_
   refine xb rfl (fun b0 => ?_) (fun b0 => ?_)
   refine xj (k := 2) rfl ?_
   refine z7 rfl (y2d _) rfl ⟨trivial, trivial⟩ ?_
   refine xj (k := 1) rfl ?_
   refine xr rfl (q7 rfl ⟨⟨rfl, ?_, trivial⟩, z6 rfl⟩)
   rotate_left
   refine xj (k := 3) rfl ?_
   refine xr rfl (q7 rfl ⟨⟨rfl, ?_, trivial⟩, z6 rfl⟩)
   rotate_left
   all_goals (refine vb ?_; simp_all [ranges, Msg.shd, y1r, Vt.none]; done)
end Go.Proofs.YthljegacamgnnaaGreat
end
section
namespace Go.Proofs.YthljegacamgnnaaGreat
open Go Go.Sx
set_option maxRecDepth 20000
set_option maxHeartbeats 4000000
theorem y53 (m n : Msg) : z14 [.int .i64 m.k, .int .i64 m.to, .int .i64 m.fr, .int .i64 m.c, .int .i64 m.s, .int .i64 m.b, .int .i64 m.v, .int .i64 m.ob, .int .i64 m.ov] [.int .i64 n.k, .int .i64 n.to, .int .i64 n.fr, .int .i64 n.c, .int .i64 n.s, .int .i64 n.b, .int .i64 n.v, .int .i64 n.ob, .int .i64 n.ov] = m.same n := by simp [z14, Msg.same, Bool.and_assoc]
theorem y63 (a b : Int) : z14 [.int .i64 a, .int .i64 b] [.int .i64 Vt.none.b, .int .i64 Vt.none.v] = (a == -1 && b == 0) := by simp [z14, Vt.none]
theorem z4m (c : Clu) (m : Msg) (hk : Go.Sx.within m.k 1 6 = true) {e i r z : Bool} (h1 : ends c m = e) (h2 : (y0r c.cons m.c).isNone = i) (h3 : ranges c m = r) (h4 : m.same m.bare = z) : z0e c m = (if e then (if i then 4 else if r then (if z then 0 else 1) else 3) else 3) := by
 unfold z0e
 rw [hk, h1, h2, h3, h4]
 cases e <;> cases i <;> cases r <;> cases z <;> rfl
theorem q9b (c : Clu) (ho : y00 c) (m : Msg) : PC Tryz.prog 117 [.one (.p c.cs), .agg m.cs] (rI (z0e c m)) := by
 refine PC.begin Tryz.func117 rfl (by kernel_rfl) ?_
 by_cases hk : Go.Sx.within m.k 1 6 = true
 · have hf := q0u c m.c ho.1.1
   obtain ⟨k, to, fr, mc, s, b, v, ob, ov⟩ := m
   dsimp only at hf
   rcases kinds hk with h | h | h | h | h | h
   · dsimp only at h
     subst h
     have hE := y1f c ho ⟨1, to, fr, mc, s, b, v, ob, ov⟩ hk
     have hR : ranges c ⟨1, to, fr, mc, s, b, v, ob, ov⟩ = q0t c.cons mc to := by simp [ranges, Msg.shd]
     refine z7 rfl (zj _ _ _) rfl ⟨trivial, trivial, trivial, trivial⟩ ?_
     refine xj (k := 1) rfl ?_
     refine z7 rfl (hE) rfl ⟨trivial, ⟨trivial, trivial, trivial, trivial, trivial, trivial, trivial, trivial, trivial, trivial⟩, trivial⟩ ?_
     refine xb rfl (fun b0 => ?_) (fun b0 => ?_)
     refine xr rfl (q7 rfl ⟨⟨rfl, ?_, trivial⟩, z6 rfl⟩)
     rotate_left
     refine z7 rfl (hf) rfl ⟨trivial, trivial, trivial⟩ ?_
     refine xb rfl (fun b1 => ?_) (fun b1 => ?_)
     refine xr rfl (q7 rfl ⟨⟨rfl, ?_, trivial⟩, z6 rfl⟩)
     rotate_left
     refine xj (k := 5) rfl ?_
     refine z7 rfl (yv _ (by assumption) _ _) rfl ⟨trivial, trivial, trivial, trivial⟩ ?_
     refine xb rfl (fun b2 => ?_) (fun b2 => ?_)
     refine xr rfl (q7 rfl ⟨⟨rfl, ?_, trivial⟩, z6 rfl⟩)
     rotate_left
     refine xj (k := 24) rfl ?_
     refine yc rfl [] (.take 0 [] (.take 1 [2, 3, 4, 5, 6, 7, 8, 9, 10, 11, 12, 13, 14] (.take 2 [] (.take 3 [] (.take 4 [] (.take 5 [7, 8, 9, 10, 11, 12, 13, 14] (.alt 6 (.take 7 [] (.take 8 [] (.take 9 [] (.take 10 [] (.take 11 [12, 13, 14] (.alt 12 (.take 13 [] (.take 14 [] .done)) .nil)))))) .nil))))))) (by kernel_rfl) ?_
     refine xj (k := 11) rfl ?_
     refine yc rfl [] (.take 0 [3] (.take 1 [2, 3] (.alt 2 (.take 3 [] .done) .nil))) (by kernel_rfl) ?_
     refine z7 rfl (y0b ⟨1, to, fr, mc, s, b, v, ob, ov⟩ hk) rfl ⟨⟨trivial, trivial, trivial, trivial, trivial, trivial, trivial, trivial, trivial, trivial⟩, trivial⟩ ?_
     refine xb rfl (fun b3 => ?_) (fun b3 => ?_)
     refine xr rfl (q7 rfl ⟨⟨rfl, ?_, trivial⟩, z6 rfl⟩)
     rotate_left
     refine xr rfl (q7 rfl ⟨⟨rfl, ?_, trivial⟩, z6 rfl⟩)
     rotate_left
     all_goals
      refine vi ?_
      have hI : decide (z15 (fun x : Con => x.id == mc) c.cons < 0) = (y0r c.cons mc).isNone := q09
      rw [z4m c ⟨1, to, fr, mc, s, b, v, ob, ov⟩ hk rfl hI.symm hR (y53 ⟨1, to, fr, mc, s, b, v, ob, ov⟩ (Msg.bare ⟨1, to, fr, mc, s, b, v, ob, ov⟩)).symm]
      have hN := y63 ob ov
      clear hI hR hE hf hk ho
      ((try dsimp only at *); simp_all only [Bool.not_eq_true', Bool.not_eq_false', Bool.not_true, Bool.not_false, Bool.and_true, Bool.true_and, Bool.and_false, Bool.false_and, Bool.and_self, Bool.or_true, Bool.true_or, Bool.or_false, Bool.false_or, Bool.false_eq_true, if_true, if_false, reduceIte]; done)
   · dsimp only at h
     subst h
     have hE := y1f c ho ⟨2, to, fr, mc, s, b, v, ob, ov⟩ hk
     have hR : ranges c ⟨2, to, fr, mc, s, b, v, ob, ov⟩ = (q0t c.cons mc s && Go.Sx.within b 0 1000 && Go.Sx.within v 1 2) := by simp [ranges, Msg.shd]
     refine z7 rfl (zj _ _ _) rfl ⟨trivial, trivial, trivial, trivial⟩ ?_
     refine xj (k := 1) rfl ?_
     refine z7 rfl (hE) rfl ⟨trivial, ⟨trivial, trivial, trivial, trivial, trivial, trivial, trivial, trivial, trivial, trivial⟩, trivial⟩ ?_
     refine xb rfl (fun b0 => ?_) (fun b0 => ?_)
     refine xr rfl (q7 rfl ⟨⟨rfl, ?_, trivial⟩, z6 rfl⟩)
     rotate_left
     refine z7 rfl (hf) rfl ⟨trivial, trivial, trivial⟩ ?_
     refine xb rfl (fun b1 => ?_) (fun b1 => ?_)
     refine xr rfl (q7 rfl ⟨⟨rfl, ?_, trivial⟩, z6 rfl⟩)
     rotate_left
     refine xj (k := 5) rfl ?_
     refine z7 rfl (yv _ (by assumption) _ _) rfl ⟨trivial, trivial, trivial, trivial⟩ ?_
     refine xb rfl (fun b2 => ?_) (fun b2 => ?_)
     refine xr rfl (q7 rfl ⟨⟨rfl, ?_, trivial⟩, z6 rfl⟩)
     rotate_left
     refine xj (k := 7) rfl ?_
     refine z7 rfl (yy _) rfl ⟨trivial, trivial⟩ ?_
     refine xj (k := 2) rfl ?_
     refine xb rfl (fun b3 => ?_) (fun b3 => ?_)
     refine xr rfl (q7 rfl ⟨⟨rfl, ?_, trivial⟩, z6 rfl⟩)
     rotate_left
     refine xj (k := 11) rfl ?_
     refine z7 rfl (q06 _) rfl ⟨trivial, trivial⟩ ?_
     refine xj (k := 2) rfl ?_
     refine xb rfl (fun b4 => ?_) (fun b4 => ?_)
     refine xr rfl (q7 rfl ⟨⟨rfl, ?_, trivial⟩, z6 rfl⟩)
     rotate_left
     refine yc rfl [] (.take 0 [] (.take 1 [2, 3, 4, 5, 6, 7, 8, 9, 10, 11, 12, 13, 14] (.take 2 [] (.take 3 [] (.take 4 [] (.take 5 [7, 8, 9, 10, 11, 12, 13, 14] (.alt 6 (.take 7 [] (.take 8 [] (.take 9 [] (.take 10 [] (.take 11 [12, 13, 14] (.alt 12 (.take 13 [] (.take 14 [] .done)) .nil)))))) .nil))))))) (by kernel_rfl) ?_
     refine xj (k := 11) rfl ?_
     refine yc rfl [] (.take 0 [3] (.take 1 [2, 3] (.alt 2 (.take 3 [] .done) .nil))) (by kernel_rfl) ?_
     refine z7 rfl (y0b ⟨2, to, fr, mc, s, b, v, ob, ov⟩ hk) rfl ⟨⟨trivial, trivial, trivial, trivial, trivial, trivial, trivial, trivial, trivial, trivial⟩, trivial⟩ ?_
     refine xb rfl (fun b5 => ?_) (fun b5 => ?_)
     refine xr rfl (q7 rfl ⟨⟨rfl, ?_, trivial⟩, z6 rfl⟩)
     rotate_left
     refine xr rfl (q7 rfl ⟨⟨rfl, ?_, trivial⟩, z6 rfl⟩)
     rotate_left
     all_goals
      refine vi ?_
      have hI : decide (z15 (fun x : Con => x.id == mc) c.cons < 0) = (y0r c.cons mc).isNone := q09
      rw [z4m c ⟨2, to, fr, mc, s, b, v, ob, ov⟩ hk rfl hI.symm hR (y53 ⟨2, to, fr, mc, s, b, v, ob, ov⟩ (Msg.bare ⟨2, to, fr, mc, s, b, v, ob, ov⟩)).symm]
      have hN := y63 ob ov
      clear hI hR hE hf hk ho
      ((try dsimp only at *); simp_all only [Bool.not_eq_true', Bool.not_eq_false', Bool.not_true, Bool.not_false, Bool.and_true, Bool.true_and, Bool.and_false, Bool.false_and, Bool.and_self, Bool.or_true, Bool.true_or, Bool.or_false, Bool.false_or, Bool.false_eq_true, if_true, if_false, reduceIte]; done)
   · dsimp only at h
     subst h
     have hE := y1f c ho ⟨3, to, fr, mc, s, b, v, ob, ov⟩ hk
     have hR : ranges c ⟨3, to, fr, mc, s, b, v, ob, ov⟩ = (q0t c.cons mc s && Go.Sx.within b 0 1000 && Go.Sx.within v 1 2) := by simp [ranges, Msg.shd]
     refine z7 rfl (zj _ _ _) rfl ⟨trivial, trivial, trivial, trivial⟩ ?_
     refine xj (k := 1) rfl ?_
     refine z7 rfl (hE) rfl ⟨trivial, ⟨trivial, trivial, trivial, trivial, trivial, trivial, trivial, trivial, trivial, trivial⟩, trivial⟩ ?_
     refine xb rfl (fun b0 => ?_) (fun b0 => ?_)
     refine xr rfl (q7 rfl ⟨⟨rfl, ?_, trivial⟩, z6 rfl⟩)
     rotate_left
     refine z7 rfl (hf) rfl ⟨trivial, trivial, trivial⟩ ?_
     refine xb rfl (fun b1 => ?_) (fun b1 => ?_)
     refine xr rfl (q7 rfl ⟨⟨rfl, ?_, trivial⟩, z6 rfl⟩)
     rotate_left
     refine xj (k := 5) rfl ?_
     refine z7 rfl (yv _ (by assumption) _ _) rfl ⟨trivial, trivial, trivial, trivial⟩ ?_
     refine xb rfl (fun b2 => ?_) (fun b2 => ?_)
     refine xr rfl (q7 rfl ⟨⟨rfl, ?_, trivial⟩, z6 rfl⟩)
     rotate_left
     refine xj (k := 7) rfl ?_
     refine z7 rfl (yy _) rfl ⟨trivial, trivial⟩ ?_
     refine xj (k := 2) rfl ?_
     refine xb rfl (fun b3 => ?_) (fun b3 => ?_)
     refine xr rfl (q7 rfl ⟨⟨rfl, ?_, trivial⟩, z6 rfl⟩)
     rotate_left
     refine xj (k := 11) rfl ?_
     refine z7 rfl (q06 _) rfl ⟨trivial, trivial⟩ ?_
     refine xj (k := 2) rfl ?_
     refine xb rfl (fun b4 => ?_) (fun b4 => ?_)
     refine xr rfl (q7 rfl ⟨⟨rfl, ?_, trivial⟩, z6 rfl⟩)
     rotate_left
     refine yc rfl [] (.take 0 [] (.take 1 [2, 3, 4, 5, 6, 7, 8, 9, 10, 11, 12, 13, 14] (.take 2 [] (.take 3 [] (.take 4 [] (.take 5 [7, 8, 9, 10, 11, 12, 13, 14] (.alt 6 (.take 7 [] (.take 8 [] (.take 9 [] (.take 10 [] (.take 11 [12, 13, 14] (.alt 12 (.take 13 [] (.take 14 [] .done)) .nil)))))) .nil))))))) (by kernel_rfl) ?_
     refine xj (k := 11) rfl ?_
     refine yc rfl [] (.take 0 [3] (.take 1 [2, 3] (.alt 2 (.take 3 [] .done) .nil))) (by kernel_rfl) ?_
     refine z7 rfl (y0b ⟨3, to, fr, mc, s, b, v, ob, ov⟩ hk) rfl ⟨⟨trivial, trivial, trivial, trivial, trivial, trivial, trivial, trivial, trivial, trivial⟩, trivial⟩ ?_
     refine xb rfl (fun b5 => ?_) (fun b5 => ?_)
     refine xr rfl (q7 rfl ⟨⟨rfl, ?_, trivial⟩, z6 rfl⟩)
     rotate_left
     refine xr rfl (q7 rfl ⟨⟨rfl, ?_, trivial⟩, z6 rfl⟩)
     rotate_left
     all_goals
      refine vi ?_
      have hI : decide (z15 (fun x : Con => x.id == mc) c.cons < 0) = (y0r c.cons mc).isNone := q09
      rw [z4m c ⟨3, to, fr, mc, s, b, v, ob, ov⟩ hk rfl hI.symm hR (y53 ⟨3, to, fr, mc, s, b, v, ob, ov⟩ (Msg.bare ⟨3, to, fr, mc, s, b, v, ob, ov⟩)).symm]
      have hN := y63 ob ov
      clear hI hR hE hf hk ho
      ((try dsimp only at *); simp_all only [Bool.not_eq_true', Bool.not_eq_false', Bool.not_true, Bool.not_false, Bool.and_true, Bool.true_and, Bool.and_false, Bool.false_and, Bool.and_self, Bool.or_true, Bool.true_or, Bool.or_false, Bool.false_or, Bool.false_eq_true, if_true, if_false, reduceIte]; done)
   · dsimp only at h
     subst h
     have hE := y1f c ho ⟨4, to, fr, mc, s, b, v, ob, ov⟩ hk
     have hR : ranges c ⟨4, to, fr, mc, s, b, v, ob, ov⟩ = (q0t c.cons mc s && Go.Sx.within b 0 1000) := by simp [ranges, Msg.shd]
     refine z7 rfl (zj _ _ _) rfl ⟨trivial, trivial, trivial, trivial⟩ ?_
     refine xj (k := 1) rfl ?_
     refine z7 rfl (hE) rfl ⟨trivial, ⟨trivial, trivial, trivial, trivial, trivial, trivial, trivial, trivial, trivial, trivial⟩, trivial⟩ ?_
     refine xb rfl (fun b0 => ?_) (fun b0 => ?_)
     refine xr rfl (q7 rfl ⟨⟨rfl, ?_, trivial⟩, z6 rfl⟩)
     rotate_left
     refine z7 rfl (hf) rfl ⟨trivial, trivial, trivial⟩ ?_
     refine xb rfl (fun b1 => ?_) (fun b1 => ?_)
     refine xr rfl (q7 rfl ⟨⟨rfl, ?_, trivial⟩, z6 rfl⟩)
     rotate_left
     refine xj (k := 5) rfl ?_
     refine z7 rfl (yv _ (by assumption) _ _) rfl ⟨trivial, trivial, trivial, trivial⟩ ?_
     refine xb rfl (fun b2 => ?_) (fun b2 => ?_)
     refine xr rfl (q7 rfl ⟨⟨rfl, ?_, trivial⟩, z6 rfl⟩)
     rotate_left
     refine xj (k := 7) rfl ?_
     refine z7 rfl (yy _) rfl ⟨trivial, trivial⟩ ?_
     refine xj (k := 2) rfl ?_
     refine xb rfl (fun b3 => ?_) (fun b3 => ?_)
     refine xr rfl (q7 rfl ⟨⟨rfl, ?_, trivial⟩, z6 rfl⟩)
     rotate_left
     refine xj (k := 14) rfl ?_
     refine yc rfl [] (.take 0 [] (.take 1 [2, 3, 4, 5, 6, 7, 8, 9, 10, 11, 12, 13, 14] (.take 2 [] (.take 3 [] (.take 4 [] (.take 5 [7, 8, 9, 10, 11, 12, 13, 14] (.alt 6 (.take 7 [] (.take 8 [] (.take 9 [] (.take 10 [] (.take 11 [12, 13, 14] (.alt 12 (.take 13 [] (.take 14 [] .done)) .nil)))))) .nil))))))) (by kernel_rfl) ?_
     refine xj (k := 11) rfl ?_
     refine yc rfl [] (.take 0 [3] (.take 1 [2, 3] (.alt 2 (.take 3 [] .done) .nil))) (by kernel_rfl) ?_
     refine z7 rfl (y0b ⟨4, to, fr, mc, s, b, v, ob, ov⟩ hk) rfl ⟨⟨trivial, trivial, trivial, trivial, trivial, trivial, trivial, trivial, trivial, trivial⟩, trivial⟩ ?_
     refine xb rfl (fun b4 => ?_) (fun b4 => ?_)
     refine xr rfl (q7 rfl ⟨⟨rfl, ?_, trivial⟩, z6 rfl⟩)
     rotate_left
     refine xr rfl (q7 rfl ⟨⟨rfl, ?_, trivial⟩, z6 rfl⟩)
     rotate_left
     all_goals
      refine vi ?_
      have hI : decide (z15 (fun x : Con => x.id == mc) c.cons < 0) = (y0r c.cons mc).isNone := q09
      rw [z4m c ⟨4, to, fr, mc, s, b, v, ob, ov⟩ hk rfl hI.symm hR (y53 ⟨4, to, fr, mc, s, b, v, ob, ov⟩ (Msg.bare ⟨4, to, fr, mc, s, b, v, ob, ov⟩)).symm]
      have hN := y63 ob ov
      clear hI hR hE hf hk ho
      ((try dsimp only at *); simp_all only [Bool.not_eq_true', Bool.not_eq_false', Bool.not_true, Bool.not_false, Bool.and_true, Bool.true_and, Bool.and_false, Bool.false_and, Bool.and_self, Bool.or_true, Bool.true_or, Bool.or_false, Bool.false_or, Bool.false_eq_true, if_true, if_false, reduceIte]; done)
   · dsimp only at h
     subst h
     have hE := y1f c ho ⟨5, to, fr, mc, s, b, v, ob, ov⟩ hk
     have hR : ranges c ⟨5, to, fr, mc, s, b, v, ob, ov⟩ = (q0t c.cons mc s && Go.Sx.within b 0 1000 && ((ob == -1 && ov == 0) || Vt.ok ⟨ob, ov⟩)) := by simp [ranges, Msg.shd]
     refine z7 rfl (zj _ _ _) rfl ⟨trivial, trivial, trivial, trivial⟩ ?_
     refine xj (k := 1) rfl ?_
     refine z7 rfl (hE) rfl ⟨trivial, ⟨trivial, trivial, trivial, trivial, trivial, trivial, trivial, trivial, trivial, trivial⟩, trivial⟩ ?_
     refine xb rfl (fun b0 => ?_) (fun b0 => ?_)
     refine xr rfl (q7 rfl ⟨⟨rfl, ?_, trivial⟩, z6 rfl⟩)
     rotate_left
     refine z7 rfl (hf) rfl ⟨trivial, trivial, trivial⟩ ?_
     refine xb rfl (fun b1 => ?_) (fun b1 => ?_)
     refine xr rfl (q7 rfl ⟨⟨rfl, ?_, trivial⟩, z6 rfl⟩)
     rotate_left
     refine xj (k := 5) rfl ?_
     refine z7 rfl (yv _ (by assumption) _ _) rfl ⟨trivial, trivial, trivial, trivial⟩ ?_
     refine xb rfl (fun b2 => ?_) (fun b2 => ?_)
     refine xr rfl (q7 rfl ⟨⟨rfl, ?_, trivial⟩, z6 rfl⟩)
     rotate_left
     refine xj (k := 7) rfl ?_
     refine z7 rfl (yy _) rfl ⟨trivial, trivial⟩ ?_
     refine xj (k := 2) rfl ?_
     refine xb rfl (fun b3 => ?_) (fun b3 => ?_)
     refine xr rfl (q7 rfl ⟨⟨rfl, ?_, trivial⟩, z6 rfl⟩)
     rotate_left
     refine xj (k := 14) rfl ?_
     refine yc rfl [] (.take 0 [] (.take 1 [2, 3, 4, 5, 6, 7, 8, 9, 10, 11, 12, 13, 14] (.take 2 [] (.take 3 [] (.take 4 [] (.take 5 [7, 8, 9, 10, 11, 12, 13, 14] (.alt 6 (.take 7 [] (.take 8 [] (.take 9 [] (.take 10 [] (.take 11 [12, 13, 14] (.alt 12 (.take 13 [] (.take 14 [] .done)) .nil)))))) .nil))))))) (by kernel_rfl) ?_
     refine xj (k := 3) rfl ?_
     refine z7 rfl (q1t) rfl trivial ?_
     refine xj (k := 2) rfl ?_
     refine xb rfl (fun b4 => ?_) (fun b4 => ?_)
     refine xj (k := 2) rfl ?_
     refine z7 rfl (z1n ⟨ob, ov⟩) rfl ⟨⟨trivial, trivial, trivial⟩, trivial⟩ ?_
     refine xj (k := 2) rfl ?_
     refine xb rfl (fun b5 => ?_) (fun b5 => ?_)
     refine xr rfl (q7 rfl ⟨⟨rfl, ?_, trivial⟩, z6 rfl⟩)
     rotate_left
     refine yc rfl [] (.take 0 [3] (.take 1 [2, 3] (.alt 2 (.take 3 [] .done) .nil))) (by kernel_rfl) ?_
     refine z7 rfl (y0b ⟨5, to, fr, mc, s, b, v, ob, ov⟩ hk) rfl ⟨⟨trivial, trivial, trivial, trivial, trivial, trivial, trivial, trivial, trivial, trivial⟩, trivial⟩ ?_
     refine xb rfl (fun b6 => ?_) (fun b6 => ?_)
     refine xr rfl (q7 rfl ⟨⟨rfl, ?_, trivial⟩, z6 rfl⟩)
     rotate_left
     refine xr rfl (q7 rfl ⟨⟨rfl, ?_, trivial⟩, z6 rfl⟩)
     rotate_left
     refine xj (k := 5) rfl ?_
     refine yc rfl [] (.take 0 [3] (.take 1 [2, 3] (.alt 2 (.take 3 [] .done) .nil))) (by kernel_rfl) ?_
     refine z7 rfl (y0b ⟨5, to, fr, mc, s, b, v, ob, ov⟩ hk) rfl ⟨⟨trivial, trivial, trivial, trivial, trivial, trivial, trivial, trivial, trivial, trivial⟩, trivial⟩ ?_
     refine xb rfl (fun b5 => ?_) (fun b5 => ?_)
     refine xr rfl (q7 rfl ⟨⟨rfl, ?_, trivial⟩, z6 rfl⟩)
     rotate_left
     refine xr rfl (q7 rfl ⟨⟨rfl, ?_, trivial⟩, z6 rfl⟩)
     rotate_left
     all_goals
      refine vi ?_
      have hI : decide (z15 (fun x : Con => x.id == mc) c.cons < 0) = (y0r c.cons mc).isNone := q09
      rw [z4m c ⟨5, to, fr, mc, s, b, v, ob, ov⟩ hk rfl hI.symm hR (y53 ⟨5, to, fr, mc, s, b, v, ob, ov⟩ (Msg.bare ⟨5, to, fr, mc, s, b, v, ob, ov⟩)).symm]
      have hN := y63 ob ov
      clear hI hR hE hf hk ho
      ((try dsimp only at *); simp_all only [Bool.not_eq_true', Bool.not_eq_false', Bool.not_true, Bool.not_false, Bool.and_true, Bool.true_and, Bool.and_false, Bool.false_and, Bool.and_self, Bool.or_true, Bool.true_or, Bool.or_false, Bool.false_or, Bool.false_eq_true, if_true, if_false, reduceIte]; done)
   · dsimp only at h
     subst h
     have hE := y1f c ho ⟨6, to, fr, mc, s, b, v, ob, ov⟩ hk
     have hR : ranges c ⟨6, to, fr, mc, s, b, v, ob, ov⟩ = (q0t c.cons mc to && Go.Sx.within v 1 2) := by simp [ranges, Msg.shd]
     refine z7 rfl (zj _ _ _) rfl ⟨trivial, trivial, trivial, trivial⟩ ?_
     refine xj (k := 1) rfl ?_
     refine z7 rfl (hE) rfl ⟨trivial, ⟨trivial, trivial, trivial, trivial, trivial, trivial, trivial, trivial, trivial, trivial⟩, trivial⟩ ?_
     refine xb rfl (fun b0 => ?_) (fun b0 => ?_)
     refine xr rfl (q7 rfl ⟨⟨rfl, ?_, trivial⟩, z6 rfl⟩)
     rotate_left
     refine z7 rfl (hf) rfl ⟨trivial, trivial, trivial⟩ ?_
     refine xb rfl (fun b1 => ?_) (fun b1 => ?_)
     refine xr rfl (q7 rfl ⟨⟨rfl, ?_, trivial⟩, z6 rfl⟩)
     rotate_left
     refine xj (k := 5) rfl ?_
     refine z7 rfl (yv _ (by assumption) _ _) rfl ⟨trivial, trivial, trivial, trivial⟩ ?_
     refine xb rfl (fun b2 => ?_) (fun b2 => ?_)
     refine xr rfl (q7 rfl ⟨⟨rfl, ?_, trivial⟩, z6 rfl⟩)
     rotate_left
     refine xj (k := 21) rfl ?_
     refine z7 rfl (q06 _) rfl ⟨trivial, trivial⟩ ?_
     refine xj (k := 2) rfl ?_
     refine xb rfl (fun b3 => ?_) (fun b3 => ?_)
     refine xr rfl (q7 rfl ⟨⟨rfl, ?_, trivial⟩, z6 rfl⟩)
     rotate_left
     refine yc rfl [] (.take 0 [] (.take 1 [2, 3, 4, 5, 6, 7, 8, 9, 10, 11, 12, 13, 14] (.take 2 [] (.take 3 [] (.take 4 [] (.take 5 [7, 8, 9, 10, 11, 12, 13, 14] (.alt 6 (.take 7 [] (.take 8 [] (.take 9 [] (.take 10 [] (.take 11 [12, 13, 14] (.alt 12 (.take 13 [] (.take 14 [] .done)) .nil)))))) .nil))))))) (by kernel_rfl) ?_
     refine xj (k := 11) rfl ?_
     refine yc rfl [] (.take 0 [3] (.take 1 [2, 3] (.alt 2 (.take 3 [] .done) .nil))) (by kernel_rfl) ?_
     refine z7 rfl (y0b ⟨6, to, fr, mc, s, b, v, ob, ov⟩ hk) rfl ⟨⟨trivial, trivial, trivial, trivial, trivial, trivial, trivial, trivial, trivial, trivial⟩, trivial⟩ ?_
     refine xb rfl (fun b4 => ?_) (fun b4 => ?_)
     refine xr rfl (q7 rfl ⟨⟨rfl, ?_, trivial⟩, z6 rfl⟩)
     rotate_left
     refine xr rfl (q7 rfl ⟨⟨rfl, ?_, trivial⟩, z6 rfl⟩)
     rotate_left
     all_goals
      refine vi ?_
      have hI : decide (z15 (fun x : Con => x.id == mc) c.cons < 0) = (y0r c.cons mc).isNone := q09
      rw [z4m c ⟨6, to, fr, mc, s, b, v, ob, ov⟩ hk rfl hI.symm hR (y53 ⟨6, to, fr, mc, s, b, v, ob, ov⟩ (Msg.bare ⟨6, to, fr, mc, s, b, v, ob, ov⟩)).symm]
      have hN := y63 ob ov
      clear hI hR hE hf hk ho
      ((try dsimp only at *); simp_all only [Bool.not_eq_true', Bool.not_eq_false', Bool.not_true, Bool.not_false, Bool.and_true, Bool.true_and, Bool.and_false, Bool.false_and, Bool.and_self, Bool.or_true, Bool.true_or, Bool.or_false, Bool.false_or, Bool.false_eq_true, if_true, if_false, reduceIte]; done)
 · have hk : Go.Sx.within m.k 1 6 = false := by simpa using hk
   refine z7 rfl (zj _ _ _) rfl ⟨trivial, trivial, trivial, trivial⟩ ?_
   refine xb rfl (fun b0 => ?_) (fun b0 => ?_)
   refine xr rfl (q7 rfl ⟨⟨rfl, ?_, trivial⟩, z6 rfl⟩)
   rotate_left
   exact absurd b0 (by simp; omega)
   all_goals first
    | (refine vi ?_; unfold z0e; rw [hk]; rfl)
    | (exfalso; simp_all; done)
theorem y8y (c : Clu) (ho : y00 c) (m : Msg) : PC Tryz.prog 135 [.agg c.cs, .agg m.cs] (rI (z0e c m)) := by
 refine PC.begin Tryz.func135 rfl (by kernel_rfl) ?_
 by_cases hk : Go.Sx.within m.k 1 6 = true
 · have hT := z92 c ho m hk
   have hF := y6z c ho m hk
   have hR := q5a c ho m hk
   have hP := q84 m hk
   refine yan (n := 0) rfl (ι := Unit) (fun _ => True) (fun _ => ⟨[(2, .one (.b (.p c.cs))), (3, .one (.a 3 0))], [(3, .var (m.cs.map .b))]⟩) ?_ ?_
   · intro K hK
     exact ya rfl (hK _ () trivial ⟨⟨⟨rfl, rfl, rfl⟩, ⟨rfl, rfl, rfl⟩, trivial⟩, ⟨lcr, trivial⟩, rfl⟩)
   intro _ _
   cases h : y0r c.cons m.c with
   | none =>
     refine z7 rfl (ym _ _ _) rfl ⟨trivial, trivial, trivial, trivial⟩ ?_
     refine xb rfl (fun b0 => ?_) (fun b0 => ?_)
     exact absurd b0 (by simp; omega)
     refine z7 rfl (hT) rfl ⟨trivial, ⟨trivial, trivial, trivial, trivial, trivial, trivial, trivial, trivial, trivial, trivial⟩, trivial⟩ ?_
     refine xb rfl (fun b1 => ?_) (fun b1 => ?_)
     refine xj (k := 4) rfl ?_
     refine xr rfl (q7 rfl ⟨⟨rfl, ?_, trivial⟩, z6 rfl⟩)
     rotate_left
     refine xj (k := 1) rfl ?_
     refine z7 rfl (hF) rfl ⟨trivial, ⟨trivial, trivial, trivial, trivial, trivial, trivial, trivial, trivial, trivial, trivial⟩, trivial⟩ ?_
     refine xj (k := 2) rfl ?_
     refine xb rfl (fun b2 => ?_) (fun b2 => ?_)
     refine xr rfl (q7 rfl ⟨⟨rfl, ?_, trivial⟩, z6 rfl⟩)
     rotate_left
     refine z7 rfl (y13 c ho m.c h) rfl ⟨trivial, trivial, trivial⟩ ?_
     refine xj (k := 1) rfl ?_
     refine xr rfl (q7 rfl ⟨⟨rfl, ?_, trivial⟩, z6 rfl⟩)
     rotate_left
     all_goals
      refine vi ?_
      rw [z4m c m hk rfl (show (y0r c.cons m.c).isNone = true by rw [h]; rfl) rfl rfl]
      unfold ends
      clear hT hF hR hP ho h hk
      ((try dsimp only at *); simp_all only [Bool.not_eq_true', Bool.not_eq_false', Bool.not_true, Bool.not_false, Bool.and_true, Bool.true_and, Bool.and_false, Bool.false_and, Bool.and_self, Bool.or_true, Bool.true_or, Bool.or_false, Bool.false_or, Bool.false_eq_true, if_true, if_false, reduceIte]; done)
   | some x =>
     refine z7 rfl (ym _ _ _) rfl ⟨trivial, trivial, trivial, trivial⟩ ?_
     refine xb rfl (fun b0 => ?_) (fun b0 => ?_)
     exact absurd b0 (by simp; omega)
     refine z7 rfl (hT) rfl ⟨trivial, ⟨trivial, trivial, trivial, trivial, trivial, trivial, trivial, trivial, trivial, trivial⟩, trivial⟩ ?_
     refine xb rfl (fun b1 => ?_) (fun b1 => ?_)
     refine xj (k := 4) rfl ?_
     refine xr rfl (q7 rfl ⟨⟨rfl, ?_, trivial⟩, z6 rfl⟩)
     rotate_left
     refine xj (k := 1) rfl ?_
     refine z7 rfl (hF) rfl ⟨trivial, ⟨trivial, trivial, trivial, trivial, trivial, trivial, trivial, trivial, trivial, trivial⟩, trivial⟩ ?_
     refine xj (k := 2) rfl ?_
     refine xb rfl (fun b2 => ?_) (fun b2 => ?_)
     refine xr rfl (q7 rfl ⟨⟨rfl, ?_, trivial⟩, z6 rfl⟩)
     rotate_left
     refine z7 rfl (q13 c ho m.c x h) rfl ⟨trivial, trivial, trivial⟩ ?_
     refine xj (k := 1) rfl ?_
     refine z7 rfl (hR) rfl ⟨trivial, ⟨trivial, trivial, trivial, trivial, trivial, trivial, trivial, trivial, trivial, trivial⟩, trivial⟩ ?_
     refine xb rfl (fun b3 => ?_) (fun b3 => ?_)
     refine xr rfl (q7 rfl ⟨⟨rfl, ?_, trivial⟩, z6 rfl⟩)
     rotate_left
     refine yc rfl [] (.take 0 [3, 4] (.take 1 [2, 3, 4] (.alt 2 (.take 3 [] (.take 4 [] .done)) .nil))) (by kernel_rfl) ?_
     refine z7 rfl (hP) rfl ⟨⟨trivial, trivial, trivial, trivial, trivial, trivial, trivial, trivial, trivial, trivial⟩, trivial⟩ ?_
     refine xb rfl (fun b4 => ?_) (fun b4 => ?_)
     refine xr rfl (q7 rfl ⟨⟨rfl, ?_, trivial⟩, z6 rfl⟩)
     rotate_left
     refine xr rfl (q7 rfl ⟨⟨rfl, ?_, trivial⟩, z6 rfl⟩)
     rotate_left
     all_goals
      refine vi ?_
      rw [z4m c m hk rfl (show (y0r c.cons m.c).isNone = false by rw [h]; rfl) rfl (y53 m m.bare).symm]
      unfold ends
      clear hT hF hR hP ho h hk
      ((try dsimp only at *); simp_all only [Bool.not_eq_true', Bool.not_eq_false', Bool.not_true, Bool.not_false, Bool.and_true, Bool.true_and, Bool.and_false, Bool.false_and, Bool.and_self, Bool.or_true, Bool.true_or, Bool.or_false, Bool.false_or, Bool.false_eq_true, if_true, if_false, reduceIte]; done)
 · have hk : Go.Sx.within m.k 1 6 = false := by simpa using hk
   refine z7 rfl (ym _ _ _) rfl ⟨trivial, trivial, trivial, trivial⟩ ?_
   refine xb rfl (fun b0 => ?_) (fun b0 => ?_)
   refine xr rfl (q7 rfl ⟨⟨rfl, ?_, trivial⟩, z6 rfl⟩)
   rotate_left
   exact absurd b0 (by simp; omega)
   all_goals first
    | (refine vi ?_; unfold z0e; rw [hk]; rfl)
    | (exfalso; simp_all; done)
end Go.Proofs.YthljegacamgnnaaGreat
end
section
namespace Go.Proofs.YthljegacamgnnaaGreat
open Go Go.Sx
set_option maxRecDepth 20000
set_option maxHeartbeats 4000000
theorem z7v {a b c d a' b' c' d' : Int} : z14 [.int .i64 a, .int .i64 b, .int .i64 c, .int .i64 d] [.int .i64 a', .int .i64 b', .int .i64 c', .int .i64 d'] = decide (Leg.mk a b c d = Leg.mk a' b' c' d') := by
 rw [Bool.eq_iff_iff]; simp [z14]
theorem y6t (us vs : List Leg) (hx : us.length ≤ 1048576) : PC Tryz.prog 267 [.one (.l (us.map Leg.cs)), .one (.l (vs.map Leg.cs))] (rB (decide (us = vs))) := by
 refine PC.begin Tryz.func267 rfl (by kernel_rfl) ?_
 refine xb rfl (fun h0 => ?_) (fun h0 => ?_)
 · have hne : ¬ us.length = vs.length := by simp at h0; omega
   refine xr rfl (q7 rfl ⟨⟨rfl, ?_, trivial⟩, z6 rfl⟩)
   all_goals (refine vb ?_; rw [eq_comm, decide_eq_false_iff_not]; exact fun e => hne (by rw [e]))
 · have he : us.length = vs.length := by simp at h0; omega
   refine yd rfl (ι := Nat) (fun i => i ≤ us.length ∧ us.take i = vs.take i) (fun i => ⟨[(13, sV (.int .i64 i)), (12, sV (.int .i64 (us.map Leg.cs).length)), (0, .one (.b (.l (us.map Leg.cs)))), (1, .one (.b (.l (vs.map Leg.cs))))], []⟩) (fun i => us.length - i) 0 ⟨Nat.zero_le _, rfl⟩ ?_ ?_
   · exact ⟨⟨rfl, rfl, rfl, rfl, trivial⟩, trivial, rfl⟩
   · intro i ⟨hi, hq⟩ J hJ
     refine xb rfl (fun h => ?_) (fun h => ?_)
     · have h : i < us.length := by simpa using h
       obtain ⟨x, hx1⟩ := gx h
       obtain ⟨y, hy1⟩ := gx (xs := vs) (i := i) (by omega)
       have hg := gm Leg.cs hx1
       have hg2 := gm Leg.cs hy1
       refine yc rfl [] (.take 0 [] (.take 1 [] (.take 2 [] (.take 3 [8] (.take 4 [] (.take 5 [] (.take 6 [] (.take 7 [8] (.take 8 [] .done))))))))) (by kernel_rfl) ?_
       refine xs rfl (Int.natCast_nonneg _) ?_
       refine y9 rfl _ hg ?_
       refine xs rfl rfl ?_
       refine xs rfl (Int.natCast_nonneg _) ?_
       refine y9 rfl _ hg2 ?_
       refine xs rfl rfl ?_
       refine xb rfl (fun b0 => ?_) (fun b0 => ?_)
       refine xr rfl (q7 rfl ⟨⟨rfl, ?_, trivial⟩, z6 rfl⟩)
       rotate_left
       rotate_left
       · rw [z7v] at b0
         refine vb ?_; rw [eq_comm, decide_eq_false_iff_not]; intro e; subst e; rw [hx1] at hy1; cases hy1; simp at b0
       · rw [z7v] at b0
         have e : x = y := by simpa only [Bool.not_eq_false', decide_eq_true_eq] using b0
         exact ya rfl (hJ _ (i + 1) ⟨by omega, by rw [List.take_add_one, List.take_add_one, hx1, hy1, hq, e]⟩ (by omega) ⟨⟨cwi (by omega) (by omega) (by omega), rfl, rfl, rfl, trivial⟩, trivial, rfl⟩)
     · have h : i = us.length := by have : ¬ i < us.length := by simpa using h
                                    omega
       rw [h, List.take_length, he, List.take_length] at hq
       refine xr rfl (q7 rfl ⟨⟨rfl, ?_, trivial⟩, z6 rfl⟩)
       all_goals (refine vb ?_; rw [hq]; simp)
theorem z5o (a b : Con) (ha : a.legs.length ≤ 1048576) : PC Tryz.prog 206 [.agg a.cs, .agg b.cs] (rB (a.same b)) := by
 refine PC.begin Tryz.func206 rfl (by kernel_rfl) ?_
 refine xb rfl (fun b0 => ?_) (fun b0 => ?_)
 refine xj (k := 4) rfl ?_
 refine z7 rfl (y6t a.legs b.legs ha) rfl ⟨trivial, trivial, trivial⟩ ?_
 refine xj (k := 1) rfl ?_
 refine xr rfl (q7 rfl ⟨⟨rfl, ?_, trivial⟩, z6 rfl⟩)
 rotate_left
 refine xj (k := 5) rfl ?_
 refine xr rfl (q7 rfl ⟨⟨rfl, ?_, trivial⟩, z6 rfl⟩)
 rotate_left
 all_goals (refine vb ?_; unfold Con.same; simp_all)
theorem y43 (a b : Con) (ha : a.legs.length ≤ 1048576) : PC Tryz.prog 183 [.agg a.cs, .agg b.cs] (rB (a.same b)) := by
 refine PC.begin Tryz.func183 rfl (by kernel_rfl) ?_
 refine xb rfl (fun b0 => ?_) (fun b0 => ?_)
 refine xj (k := 8) rfl ?_
 refine xr rfl (q7 rfl ⟨⟨rfl, ?_, trivial⟩, z6 rfl⟩)
 rotate_left
 refine xj (k := 7) rfl ?_
 refine xb rfl (fun b1 => ?_) (fun b1 => ?_)
 refine xr rfl (q7 rfl ⟨⟨rfl, ?_, trivial⟩, z6 rfl⟩)
 rotate_left
 rotate_left
 · have h0 : ¬ a.id = b.id := by simpa using b0
   refine vb ?_; simp [Con.same, h0]
 · have hne : ¬ a.legs.length = b.legs.length := by simp at b1; omega
   refine vb ?_; unfold Con.same; rw [eq_comm, Bool.and_eq_false_iff]; exact .inr (decide_eq_false (fun e => hne (by rw [e])))
 · skip
   · have h0 : a.id = b.id := by simpa using b0
     have he : a.legs.length = b.legs.length := by simp at b1; omega
     clear b0 b1
     refine yd rfl (ι := Nat) (fun i => i ≤ a.legs.length ∧ a.legs.take i = b.legs.take i) (fun i => ⟨[(5, sV (.int .i64 i)), (2, .one (.a 2 0)), (3, .one (.a 3 0))], [(2, .var (a.cs.map .b)), (3, .var (b.cs.map .b))]⟩) (fun i => a.legs.length - i) 0 ⟨Nat.zero_le _, rfl⟩ ?_ ?_
     · exact ⟨⟨rfl, ⟨rfl, rfl, rfl⟩, ⟨rfl, rfl, rfl⟩, trivial⟩, ⟨lcr, lcr, trivial⟩, rfl⟩
     · intro i ⟨hi, hq⟩ J hJ
       refine xb rfl (fun h => ?_) (fun h => ?_)
       · have h : i < a.legs.length := by simpa using h
         obtain ⟨x, hx1⟩ := gx h
         obtain ⟨y, hy1⟩ := gx (xs := b.legs) (i := i) (by omega)
         have hg := gm Leg.cs hx1
         have hg2 := gm Leg.cs hy1
         refine yc rfl [] (.take 0 [] (.take 1 [3, 4, 10] (.take 2 [] (.take 3 [] (.take 4 [10] (.take 5 [] (.take 6 [8, 9, 10] (.take 7 [] (.take 8 [] (.take 9 [10] (.take 10 [] .done))))))))))) (by kernel_rfl) ?_
         refine xs rfl (Int.natCast_nonneg _) ?_
         refine y9 rfl _ hg ?_
         refine xs rfl rfl ?_
         refine xs rfl (Int.natCast_nonneg _) ?_
         refine y9 rfl _ hg2 ?_
         refine xs rfl rfl ?_
         refine xb rfl (fun b0 => ?_) (fun b0 => ?_)
         refine xr rfl (q7 rfl ⟨⟨rfl, ?_, trivial⟩, z6 rfl⟩)
         rotate_left
         rotate_left
         · rw [z7v] at b0
           refine vb ?_; unfold Con.same; rw [eq_comm, Bool.and_eq_false_iff]; refine .inr (decide_eq_false (fun e => ?_)); rw [e, hy1] at hx1; cases hx1; simp at b0
         · rw [z7v] at b0
           have e : x = y := by simpa only [Bool.not_eq_false', decide_eq_true_eq] using b0
           exact ya rfl (hJ _ (i + 1) ⟨by omega, by rw [List.take_add_one, List.take_add_one, hx1, hy1, hq, e]⟩ (by omega) ⟨⟨cwi (by omega) (by omega) (by omega), ⟨rfl, rfl, rfl⟩, ⟨rfl, rfl, rfl⟩, trivial⟩, ⟨lcr, lcr, trivial⟩, rfl⟩)
       · have h : i = a.legs.length := by have : ¬ i < a.legs.length := by simpa using h
                                          omega
         rw [h, List.take_length, he, List.take_length] at hq
         refine xr rfl (q7 rfl ⟨⟨rfl, ?_, trivial⟩, z6 rfl⟩)
         all_goals (refine vb ?_; simp [Con.same, h0, hq])
theorem y3u (c : Clu) (ho : y00 c) (l : Leg) : PC Tryz.prog 257 [.agg l.cs, .one (.p [.p c.cs])] (rB (!(Go.Sx.within l.s 0 ((c.shs.length : Int) - 1)))) := by
 refine PC.begin Tryz.func257 rfl (by kernel_rfl) ?_
 have q1 := ho.2.1.1
 have p1 : (c.shs.map Shd.cs).length ≤ 1048576 := by simpa using q1
 refine yc rfl [] (.take 0 [] (.take 1 [6, 7, 8] (.take 2 [3, 4, 5, 6, 7, 8] (.take 3 [] (.take 4 [] (.take 5 [6, 7, 8] (.alt 6 (.take 7 [] (.take 8 [] .done)) .nil))))))) (by kernel_rfl) ?_
 refine z7 rfl (y26 _ _ (by assumption)) rfl ⟨trivial, trivial, trivial⟩ ?_
 refine xr rfl (q7 rfl ⟨⟨rfl, ?_, trivial⟩, z6 rfl⟩)
 all_goals (refine vb ?_; rw [List.length_map])
theorem q2c (c : Clu) (ho : y00 c) (x : Con) (hl : x.legs.length ≤ 1048576) : PC Tryz.prog 201 [.one (.p c.cs), .agg x.cs] (rB (!(qa2 c x))) := by
 refine PC.begin Tryz.func201 rfl (by kernel_rfl) ?_
 have hi := q4y _ x.legs (fun l => !(Go.Sx.within l.s 0 ((c.shs.length : Int) - 1))) 257 (.p [.p c.cs]) rfl (fun l _ => y3u c ho l) hl
 refine z7 rfl (hi) rfl ⟨trivial, (List.forall_mem_cons.2 ⟨⟨trivial, trivial⟩, (fun _ h => nomatch h)⟩), trivial⟩ ?_
 refine xr rfl (q7 rfl ⟨⟨rfl, rfl, trivial⟩, z6 rfl⟩)
theorem q7x (c : Clu) (ho : y00 c) : PC Tryz.prog 126 [.one (.p c.cs)] (rI (scan (y09 c) c.cons.length)) := by
 refine PC.begin Tryz.func126 rfl (by kernel_rfl) ?_
 have hl := ho.1.1
 refine yd rfl (ι := Nat) (fun i => i ≤ c.cons.length ∧ ∀ j, j < i → y09 c j = 0) (fun i => ⟨[(11, sV (.int .i64 i)), (10, sV (.int .i64 (c.cons.map Con.cs).length)), (9, .one (.b (.l (c.cons.map Con.cs)))), (0, .one (.b (.p c.cs)))], []⟩) (fun i => c.cons.length - i) 0 ⟨Nat.zero_le _, fun j hj => by omega⟩ ?_ ?_
 · exact ⟨⟨rfl, rfl, rfl, rfl, trivial⟩, trivial, rfl⟩
 · intro i ⟨hi, h0⟩ J hJ
   refine xb rfl (fun h => ?_) (fun h => ?_)
   · have h : i < c.cons.length := by simpa using h
     obtain ⟨x, hx⟩ := gx h
     have hg := gm Con.cs hx
     have hxl := ho.1.2 x (List.mem_of_getElem? hx)
     rcases Nat.eq_zero_or_pos i with hz | hz
     · subst hz
       refine xs rfl (Int.natCast_nonneg _) ?_
       refine y9 rfl _ hg ?_
       refine xs rfl rfl ?_
       refine z7 rfl (y3v _ (by assumption)) rfl ⟨⟨trivial, trivial, trivial⟩, trivial⟩ ?_
       refine xb rfl (fun b0 => ?_) (fun b0 => ?_)
       refine xr rfl (q7 rfl ⟨⟨rfl, ?_, trivial⟩, z6 rfl⟩)
       rotate_left
       refine z7 rfl (q2c c ho x hxl) rfl ⟨trivial, ⟨trivial, trivial, trivial⟩, trivial⟩ ?_
       refine xb rfl (fun b1 => ?_) (fun b1 => ?_)
       refine xr rfl (q7 rfl ⟨⟨rfl, ?_, trivial⟩, z6 rfl⟩)
       rotate_left
       refine yc rfl [] (.take 0 [] (.take 1 [] (.take 2 [] (.take 3 [] (.take 4 [] (.take 5 [] (.take 6 [9, 10, 11, 14, 15, 16] (.take 7 [] (.take 8 [] (.take 9 [] (.take 10 [] (.take 11 [14, 15, 16] (.take 12 [] (.take 13 [14, 15, 16] (.take 14 [] (.take 15 [] (.take 16 [] .done))))))))))))))))) (by kernel_rfl) ?_
       refine xj (k := 14) rfl ?_
       rotate_left
       all_goals (first | (refine vi (q8 h h0 ?_ (by first | decide | decide | simp_all)); clear hJ h0 hg; (first | (simp_all [y09, ahead_zero]; done) | (simp_all [y09, ahead_zero]; omega)); done) | (refine ya rfl (hJ _ 1 ⟨by omega, qa h0 ?_⟩ (by omega) ⟨⟨cwi (by omega) (by omega) (by omega), rfl, rfl, rfl, trivial⟩, trivial, rfl⟩); clear hJ h0 hg; (first | (simp_all [y09, ahead_zero]; done) | (simp_all [y09, ahead_zero]; omega)); done) | skip)
     · obtain ⟨p, hp⟩ := gx (xs := c.cons) (i := i - 1) (by omega)
       have hgp := q12 Con.cs hz (by omega) hp
       refine xs rfl (Int.natCast_nonneg _) ?_
       refine y9 rfl _ hg ?_
       refine xs rfl rfl ?_
       refine z7 rfl (y3v _ (by assumption)) rfl ⟨⟨trivial, trivial, trivial⟩, trivial⟩ ?_
       refine xb rfl (fun b0 => ?_) (fun b0 => ?_)
       refine xr rfl (q7 rfl ⟨⟨rfl, ?_, trivial⟩, z6 rfl⟩)
       rotate_left
       refine z7 rfl (q2c c ho x hxl) rfl ⟨trivial, ⟨trivial, trivial, trivial⟩, trivial⟩ ?_
       refine xb rfl (fun b1 => ?_) (fun b1 => ?_)
       refine xr rfl (q7 rfl ⟨⟨rfl, ?_, trivial⟩, z6 rfl⟩)
       rotate_left
       refine yc rfl [] (.take 0 [] (.take 1 [] (.take 2 [] (.take 3 [] (.take 4 [] (.take 5 [] (.take 6 [9, 10, 11, 14, 15, 16] (.take 7 [] (.take 8 [] (.take 9 [] (.take 10 [] (.take 11 [14, 15, 16] (.take 12 [] (.take 13 [14, 15, 16] (.take 14 [] (.take 15 [] (.take 16 [] .done))))))))))))))))) (by kernel_rfl) ?_
       refine xb rfl (fun b2 => ?_) (fun b2 => ?_)
       refine xj (k := 6) rfl ?_
       refine xs rfl (y0i hz (by omega)) ?_
       refine y9 rfl _ hgp ?_
       refine xs rfl rfl ?_
       refine xj (k := 6) rfl ?_
       refine xb rfl (fun b3 => ?_) (fun b3 => ?_)
       refine xr rfl (q7 rfl ⟨⟨rfl, ?_, trivial⟩, z6 rfl⟩)
       rotate_left
       rotate_left
       refine xj (k := 13) rfl ?_
       rotate_left
       all_goals (first | (refine vi (q8 h h0 ?_ (by first | decide | decide | simp_all)); clear hJ h0 hg hgp; (first | (simp_all [y09, q9 hz hp]; done) | (simp_all [y09, q9 hz hp]; omega)); done) | (refine ya rfl (hJ _ (i + 1) ⟨by omega, qa h0 ?_⟩ (by omega) ⟨⟨cwi (by omega) (by omega) (by omega), rfl, rfl, rfl, trivial⟩, trivial, rfl⟩); clear hJ h0 hg hgp; (first | (simp_all [y09, q9 hz hp]; done) | (simp_all [y09, q9 hz hp]; omega)); done) | skip)
   · have h : ¬ i < c.cons.length := by simpa using h
     have hz := zf (f := y09 c) (n := c.cons.length) (fun j hj => h0 j (by omega))
     clear hJ
     refine xr rfl (q7 rfl ⟨⟨rfl, ?_, trivial⟩, z6 rfl⟩)
     exact vi (hz.symm)
theorem z87 (c : Clu) (ho : y00 c) : PC Tryz.prog 113 [.one (.p c.cs)] (rI (scan (y09 c) c.cons.length)) := by
 refine PC.begin Tryz.func113 rfl (by kernel_rfl) ?_
 have hl := ho.1.1
 have q1 := ho.2.1.1
 refine yd rfl (ι := Nat) (fun i => i ≤ c.cons.length ∧ ∀ j, j < i → y09 c j = 0) (fun i => ⟨[(3, sV (.int .i64 i)), (0, .one (.b (.p c.cs)))], []⟩) (fun i => c.cons.length - i) 0 ⟨Nat.zero_le _, fun j hj => by omega⟩ ?_ ?_
 · exact ⟨⟨rfl, rfl, trivial⟩, trivial, rfl⟩
 · intro i ⟨hi, h0⟩ J hJ
   refine xb rfl (fun h => ?_) (fun h => ?_)
   · have h : i < c.cons.length := by simpa using h
     obtain ⟨x, hx⟩ := gx h
     have hg := gm Con.cs hx
     have hxl := ho.1.2 x (List.mem_of_getElem? hx)
     have hla : yo x = 0 → _ := fun h => y71 h c
     rcases Nat.eq_zero_or_pos i with hz | hz
     · subst hz
       refine xs rfl (Int.natCast_nonneg _) ?_
       refine y9 rfl _ hg ?_
       refine xs rfl rfl ?_
       refine z7 rfl (z43 _ (by assumption)) rfl ⟨⟨trivial, trivial, trivial⟩, trivial⟩ ?_
       refine xb rfl (fun b0 => ?_) (fun b0 => ?_)
       refine xr rfl (q7 rfl ⟨⟨rfl, ?_, trivial⟩, z6 rfl⟩)
       rotate_left
       refine z7 rfl (y1n x hxl) rfl ⟨⟨trivial, trivial, trivial⟩, trivial⟩ ?_
       refine yc rfl [] (.take 0 [] (.take 1 [] (.take 2 [] (.take 3 [] (.take 4 [] (.take 5 [11] (.take 6 [] (.take 7 [] (.take 8 [] (.take 9 [10, 11] (.take 10 [] (.take 11 [] .done)))))))))))) (by kernel_rfl) ?_
       refine xs rfl (q71 (by simpa using b0)) ?_
       refine y9 rfl _ (y4k (by simpa using b0)) ?_
       refine xs rfl rfl ?_
       refine xb rfl (fun b1 => ?_) (fun b1 => ?_)
       refine xr rfl (q7 rfl ⟨⟨rfl, ?_, trivial⟩, z6 rfl⟩)
       rotate_left
       refine yc rfl [] (.take 0 [] (.take 1 [] (.take 2 [] (.take 3 [] (.take 4 [14, 15] (.take 5 [] (.take 6 [] (.take 7 [] (.take 8 [11, 12, 13, 14, 15] (.take 9 [] (.take 10 [] (.take 11 [] (.take 12 [] (.take 13 [14, 15] (.take 14 [] (.take 15 [] .done)))))))))))))))) (by kernel_rfl) ?_
       refine xj (k := 14) rfl ?_
       rotate_left
       all_goals (first | (refine vi (q8 h h0 ?_ (by first | decide | decide | simp_all)); clear hJ h0 hg; (first | (simp_all [y09, ahead_zero]; done) | (simp_all [y09, ahead_zero]; omega)); done) | (refine ya rfl (hJ _ 1 ⟨by omega, qa h0 ?_⟩ (by omega) ⟨⟨cwi (by omega) (by omega) (by omega), rfl, trivial⟩, trivial, rfl⟩); clear hJ h0 hg; (first | (simp_all [y09, ahead_zero]; done) | (simp_all [y09, ahead_zero]; omega)); done) | skip)
     · obtain ⟨p, hp⟩ := gx (xs := c.cons) (i := i - 1) (by omega)
       have hgp := q12 Con.cs hz (by omega) hp
       refine xs rfl (Int.natCast_nonneg _) ?_
       refine y9 rfl _ hg ?_
       refine xs rfl rfl ?_
       refine z7 rfl (z43 _ (by assumption)) rfl ⟨⟨trivial, trivial, trivial⟩, trivial⟩ ?_
       refine xb rfl (fun b0 => ?_) (fun b0 => ?_)
       refine xr rfl (q7 rfl ⟨⟨rfl, ?_, trivial⟩, z6 rfl⟩)
       rotate_left
       refine z7 rfl (y1n x hxl) rfl ⟨⟨trivial, trivial, trivial⟩, trivial⟩ ?_
       refine yc rfl [] (.take 0 [] (.take 1 [] (.take 2 [] (.take 3 [] (.take 4 [] (.take 5 [11] (.take 6 [] (.take 7 [] (.take 8 [] (.take 9 [10, 11] (.take 10 [] (.take 11 [] .done)))))))))))) (by kernel_rfl) ?_
       refine xs rfl (q71 (by simpa using b0)) ?_
       refine y9 rfl _ (y4k (by simpa using b0)) ?_
       refine xs rfl rfl ?_
       refine xb rfl (fun b1 => ?_) (fun b1 => ?_)
       refine xr rfl (q7 rfl ⟨⟨rfl, ?_, trivial⟩, z6 rfl⟩)
       rotate_left
       refine yc rfl [] (.take 0 [] (.take 1 [] (.take 2 [] (.take 3 [] (.take 4 [14, 15] (.take 5 [] (.take 6 [] (.take 7 [] (.take 8 [11, 12, 13, 14, 15] (.take 9 [] (.take 10 [] (.take 11 [] (.take 12 [] (.take 13 [14, 15] (.take 14 [] (.take 15 [] .done)))))))))))))))) (by kernel_rfl) ?_
       refine xb rfl (fun b2 => ?_) (fun b2 => ?_)
       refine xj (k := 8) rfl ?_
       refine xs rfl (y0i hz (by omega)) ?_
       refine y9 rfl _ hgp ?_
       refine xs rfl rfl ?_
       refine xj (k := 4) rfl ?_
       refine xb rfl (fun b3 => ?_) (fun b3 => ?_)
       refine xr rfl (q7 rfl ⟨⟨rfl, ?_, trivial⟩, z6 rfl⟩)
       rotate_left
       rotate_left
       refine xj (k := 13) rfl ?_
       rotate_left
       all_goals (first | (refine vi (q8 h h0 ?_ (by first | decide | decide | simp_all)); clear hJ h0 hg hgp; (first | (simp_all [y09, q9 hz hp]; done) | (simp_all [y09, q9 hz hp]; omega)); done) | (refine ya rfl (hJ _ (i + 1) ⟨by omega, qa h0 ?_⟩ (by omega) ⟨⟨cwi (by omega) (by omega) (by omega), rfl, trivial⟩, trivial, rfl⟩); clear hJ h0 hg hgp; (first | (simp_all [y09, q9 hz hp]; done) | (simp_all [y09, q9 hz hp]; omega)); done) | skip)
   · have h : ¬ i < c.cons.length := by simpa using h
     have hz := zf (f := y09 c) (n := c.cons.length) (fun j hj => h0 j (by omega))
     clear hJ
     refine xr rfl (q7 rfl ⟨⟨rfl, ?_, trivial⟩, z6 rfl⟩)
     exact vi (hz.symm)
end Go.Proofs.YthljegacamgnnaaGreat
end
section
namespace Go.Proofs.YthljegacamgnnaaGreat
open Go Go.Sx
set_option maxRecDepth 20000
set_option maxHeartbeats 4000000
theorem q9p (rr : List (List Cell)) (us : List Mk) (p : Mk → Bool) (fn : Nat) (c0 : Cell) (c1 : Cell) (hr : rr = us.map Mk.cs) (hf : ∀ x ∈ us, PC Tryz.prog fn [.agg x.cs, .one c0, .one c1] (rB (p x))) (hl : us.length ≤ 1048576) : PC Tryz.prog 266 [.one (.l rr), .one (.f fn [c0, c1])] (rI (z15 p us)) := by
 refine PC.begin Tryz.func266 rfl (by kernel_rfl) ?_
 subst hr
 have hn : (us.map Mk.cs).length = us.length := by simp
 refine yd rfl (ι := Nat) (fun i => i ≤ us.length ∧ ∀ j y, j < i → us[j]? = some y → p y = false) (fun i => ⟨[(8, sV (.int .i64 i)), (7, sV (.int .i64 (us.map Mk.cs).length)), (0, .one (.b (.l (us.map Mk.cs)))), (1, .one (.b (.f fn [c0, c1])))], []⟩) (fun i => us.length - i) 0 ⟨Nat.zero_le _, fun j y hj => by omega⟩ ?_ ?_
 · exact ⟨⟨rfl, rfl, rfl, rfl, trivial⟩, trivial, rfl⟩
 · intro i ⟨hi, h0⟩ J hJ
   refine xb rfl (fun h => ?_) (fun h => ?_)
   · have h : i < us.length := by simpa using h
     obtain ⟨x, hx⟩ := gx h
     have hg := gm Mk.cs hx
     have hxm := List.mem_of_getElem? hx
     refine xs rfl (Int.natCast_nonneg _) ?_
     refine y9 rfl _ hg ?_
     refine xs rfl rfl ?_
     refine z7 rfl (hf _ hxm) rfl ⟨⟨trivial, trivial, trivial⟩, trivial, trivial, trivial⟩ ?_
     refine xb rfl (fun b0 => ?_) (fun b0 => ?_)
     refine xr rfl (q7 rfl ⟨⟨rfl, ?_, trivial⟩, z6 rfl⟩)
     rotate_left
     rotate_left
     · exact vi (y04 hx h0 b0).symm
     · exact ya rfl (hJ _ (i + 1) ⟨by omega, qf hx h0 b0⟩ (by omega) ⟨⟨cwi (by omega) (by omega) (by omega), rfl, rfl, rfl, trivial⟩, trivial, rfl⟩)
   · have h : ¬ i < us.length := by simpa using h
     refine xr rfl (q7 rfl ⟨⟨rfl, ?_, trivial⟩, z6 rfl⟩)
     exact vi (qy (qi (by omega) h0)).symm
theorem y8f (rr : List (List Cell)) (us : List Mk) (p : Mk → Bool) (fn : Nat) (c0 : Cell) (c1 : Cell) (hr : rr = us.map Mk.cs) (hf : ∀ x ∈ us, PC Tryz.prog fn [.agg x.cs, .one c0, .one c1] (rB (p x))) (hl : us.length ≤ 1048576) : PC Tryz.prog 205 [.one (.l rr), .one (.f fn [c0, c1])] (rB (us.any p)) := by
 refine PC.begin Tryz.func205 rfl (by kernel_rfl) ?_
 have hi := q9p rr us p fn c0 c1 hr hf hl
 refine z7 rfl (hi) rfl ⟨trivial, trivial, trivial⟩ ?_
 refine xr rfl (q7 rfl ⟨⟨rfl, ?_, trivial⟩, z6 rfl⟩)
 exact vb q0d
theorem q90 (rr : List (List Cell)) (us : List Slt) (p : Slt → Bool) (fn : Nat) (c0 : Cell) (hr : rr = us.map Slt.cs) (hf : ∀ x ∈ us, PC Tryz.prog fn [.agg x.cs, .one c0] (rB (p x))) (hl : us.length ≤ 1048576) : PC Tryz.prog 270 [.one (.l rr), .one (.f fn [c0])] (rI (z15 p us)) := by
 refine PC.begin Tryz.func270 rfl (by kernel_rfl) ?_
 subst hr
 have hn : (us.map Slt.cs).length = us.length := by simp
 refine yd rfl (ι := Nat) (fun i => i ≤ us.length ∧ ∀ j y, j < i → us[j]? = some y → p y = false) (fun i => ⟨[(8, sV (.int .i64 i)), (7, sV (.int .i64 (us.map Slt.cs).length)), (0, .one (.b (.l (us.map Slt.cs)))), (1, .one (.b (.f fn [c0])))], []⟩) (fun i => us.length - i) 0 ⟨Nat.zero_le _, fun j y hj => by omega⟩ ?_ ?_
 · exact ⟨⟨rfl, rfl, rfl, rfl, trivial⟩, trivial, rfl⟩
 · intro i ⟨hi, h0⟩ J hJ
   refine xb rfl (fun h => ?_) (fun h => ?_)
   · have h : i < us.length := by simpa using h
     obtain ⟨x, hx⟩ := gx h
     have hg := gm Slt.cs hx
     have hxm := List.mem_of_getElem? hx
     refine xs rfl (Int.natCast_nonneg _) ?_
     refine y9 rfl _ hg ?_
     refine xs rfl rfl ?_
     refine z7 rfl (hf _ hxm) rfl ⟨⟨trivial, trivial, trivial, trivial, trivial, trivial, trivial⟩, trivial, trivial⟩ ?_
     refine xb rfl (fun b0 => ?_) (fun b0 => ?_)
     refine xr rfl (q7 rfl ⟨⟨rfl, ?_, trivial⟩, z6 rfl⟩)
     rotate_left
     rotate_left
     · exact vi (y04 hx h0 b0).symm
     · exact ya rfl (hJ _ (i + 1) ⟨by omega, qf hx h0 b0⟩ (by omega) ⟨⟨cwi (by omega) (by omega) (by omega), rfl, rfl, rfl, trivial⟩, trivial, rfl⟩)
   · have h : ¬ i < us.length := by simpa using h
     refine xr rfl (q7 rfl ⟨⟨rfl, ?_, trivial⟩, z6 rfl⟩)
     exact vi (qy (qi (by omega) h0)).symm
theorem z8r (rr : List (List Cell)) (us : List Slt) (p : Slt → Bool) (fn : Nat) (c0 : Cell) (hr : rr = us.map Slt.cs) (hf : ∀ x ∈ us, PC Tryz.prog fn [.agg x.cs, .one c0] (rB (p x))) (hl : us.length ≤ 1048576) : PC Tryz.prog 208 [.one (.l rr), .one (.f fn [c0])] (rB (us.any p)) := by
 refine PC.begin Tryz.func208 rfl (by kernel_rfl) ?_
 have hi := q90 rr us p fn c0 hr hf hl
 refine z7 rfl (hi) rfl ⟨trivial, trivial, trivial⟩ ?_
 refine xr rfl (q7 rfl ⟨⟨rfl, ?_, trivial⟩, z6 rfl⟩)
 exact vb q0d
theorem q32 (c : Clu) (ho : y00 c) (i : Int) (m : Mk) : PC Tryz.prog 203 [.agg m.cs, .one (.p [.p c.cs]), .one (.p [i64 i])] (rB (!(q0t c.cons m.c i))) := by
 refine PC.begin Tryz.func203 rfl (by kernel_rfl) ?_
 refine z7 rfl (q10 _ (by assumption) _ _) rfl ⟨trivial, trivial, trivial, trivial⟩ ?_
 refine xr rfl (q7 rfl ⟨⟨rfl, rfl, trivial⟩, z6 rfl⟩)
theorem z7y (c : Clu) (ho : y00 c) (i : Nat) (s : Shd) (hs : c.shs[i]? = some s) : PC Tryz.prog 127 [.one (.p c.cs), .one (i64 i)] (rI (y89 c i s)) := by
 refine PC.begin Tryz.func127 rfl (by kernel_rfl) ?_
 have hg := gm Shd.cs hs
 have hso := ho.2.1.2 s (List.mem_of_getElem? hs)
 obtain ⟨o1, o2, o3, o4, o5, o6⟩ := id hso
 have hv := y8f _ s.votes (fun m => !(q0t c.cons m.c i)) 203 (.p [.p c.cs]) (.p [i64 i]) rfl (fun m _ => q32 c ho i m) o2
 have hd := y8f _ s.done (fun m => !(q0t c.cons m.c i)) 203 (.p [.p c.cs]) (.p [i64 i]) rfl (fun m _ => q32 c ho i m) o4
 refine yc rfl [] (.take 0 [1, 2, 3, 5, 6, 8] (.take 1 [] (.take 2 [] (.take 3 [5, 6, 8] (.take 4 [5, 6, 8] (.take 5 [] (.take 6 [8] (.alt 7 (.alt 8 .done .nil) .nil)))))))) (by kernel_rfl) ?_
 refine xs rfl (Int.natCast_nonneg _) ?_
 refine y9 rfl _ hg ?_
 refine xs rfl rfl ?_
 refine z7 rfl (q7e s hso) rfl ⟨⟨trivial, trivial, trivial, trivial, trivial, trivial, trivial⟩, trivial⟩ ?_
 refine xb rfl (fun b0 => ?_) (fun b0 => ?_)
 refine xr rfl (q7 rfl ⟨⟨rfl, ?_, trivial⟩, z6 rfl⟩)
 rotate_left
 refine xb rfl (fun b1 => ?_) (fun b1 => ?_)
 refine xj (k := 10) rfl ?_
 refine xr rfl (q7 rfl ⟨⟨rfl, ?_, trivial⟩, z6 rfl⟩)
 rotate_left
 refine xj (k := 3) rfl ?_
 refine z7 rfl (hv) rfl ⟨trivial, (List.forall_mem_cons.2 ⟨⟨trivial, trivial⟩, (List.forall_mem_cons.2 ⟨⟨trivial, trivial⟩, (fun _ h => nomatch h)⟩)⟩), trivial⟩ ?_
 refine xj (k := 1) rfl ?_
 refine xb rfl (fun b2 => ?_) (fun b2 => ?_)
 refine xj (k := 5) rfl ?_
 refine xr rfl (q7 rfl ⟨⟨rfl, ?_, trivial⟩, z6 rfl⟩)
 rotate_left
 refine xj (k := 3) rfl ?_
 refine z7 rfl (hd) rfl ⟨trivial, (List.forall_mem_cons.2 ⟨⟨trivial, trivial⟩, (List.forall_mem_cons.2 ⟨⟨trivial, trivial⟩, (fun _ h => nomatch h)⟩)⟩), trivial⟩ ?_
 refine xj (k := 1) rfl ?_
 refine xb rfl (fun b3 => ?_) (fun b3 => ?_)
 refine xr rfl (q7 rfl ⟨⟨rfl, ?_, trivial⟩, z6 rfl⟩)
 rotate_left
 rotate_left
 all_goals first | (refine vi ?_; unfold y89; simp_all; done) | skip
 have hsf : yk s = 0 := by simpa using b0
 have hix : s.idx = i := by simpa using b1
 have hvd : ((s.votes.any fun m => !(q0t c.cons m.c i)) || (s.done.any fun m => !(q0t c.cons m.c i))) = false := by rw [b2, b3]; rfl
 rw [y45 hsf hix, hvd]
 have hcon := z2o hsf
 clear hv hd b0 b1 b2 b3 hvd
 refine yd rfl (ι := Nat) (fun i => i ≤ s.held.length ∧ ∀ j y, j < i → s.held[j]? = some y → y2k c y = false) (fun i => ⟨[(44, sV (.int .i64 i)), (43, sV (.int .i64 (s.held.map Con.cs).length)), (42, .one (.b (.l (s.held.map Con.cs)))), (2, .one (.a 2 0))], [(2, .var [.b (.p c.cs)])]⟩) (fun i => s.held.length - i) 0 ⟨Nat.zero_le _, fun j y hj => by omega⟩ ?_ ?_
 · exact ⟨⟨rfl, rfl, rfl, ⟨rfl, rfl, rfl⟩, trivial⟩, ⟨⟨rfl, trivial⟩, trivial⟩, rfl⟩
 · intro k ⟨hk, h0⟩ J hJ
   refine xb rfl (fun h => ?_) (fun h => ?_)
   · have h : k < s.held.length := by simpa using h
     obtain ⟨y, hy⟩ := gx h
     have hgy := gm Con.cs hy
     have hym := List.mem_of_getElem? hy
     have hyl := o6 y hym
     have hid := (z0y (hcon y hym)).1.1
     cases hc : y0r c.cons y.id with
     | none =>
       have hb : y2k c y = true := by unfold y2k; rw [hc]
       have hsm : (Con.mk 0 []).same y = false := by unfold Con.same; rw [Bool.and_eq_false_iff]; exact .inl (beq_false_of_ne (fun e => by have : (0 : Int) = y.id := e; omega))
       have hq := z5o ⟨0, []⟩ y (Nat.zero_le _)
       rw [hsm] at hq
       refine xs rfl (Int.natCast_nonneg _) ?_
       refine y9 rfl _ hgy ?_
       refine xs rfl rfl ?_
       refine z7 rfl (y13 c ho y.id hc) rfl ⟨trivial, trivial, trivial⟩ ?_
       refine z7 rfl (hq) rfl ⟨⟨trivial, trivial, trivial⟩, ⟨trivial, trivial, trivial⟩, trivial⟩ ?_
       refine xj (k := 1) rfl ?_
       refine xr rfl (q7 rfl ⟨⟨rfl, ?_, trivial⟩, z6 rfl⟩)
       exact vi (by rw [if_neg (by decide), if_pos (yr hy hb).symm])
     | some x =>
       have hxl := ho.1.2 x (List.mem_of_find?_eq_some hc)
       have hb : y2k c y = !(x.same y) := by unfold y2k; rw [hc]
       refine xs rfl (Int.natCast_nonneg _) ?_
       refine y9 rfl _ hgy ?_
       refine xs rfl rfl ?_
       refine z7 rfl (q13 c ho y.id x hc) rfl ⟨trivial, trivial, trivial⟩ ?_
       refine z7 rfl (z5o x y hxl) rfl ⟨⟨trivial, trivial, trivial⟩, ⟨trivial, trivial, trivial⟩, trivial⟩ ?_
       refine xb rfl (fun b0 => ?_) (fun b0 => ?_)
       refine xr rfl (q7 rfl ⟨⟨rfl, ?_, trivial⟩, z6 rfl⟩)
       rotate_left
       rotate_left
       · exact vi (by rw [if_neg (by decide), if_pos (yr hy (hb.trans b0)).symm])
       · exact ya rfl (hJ _ (k + 1) ⟨by omega, qf hy h0 (hb.trans b0)⟩ (by omega) ⟨⟨cwi (by omega) (by omega) (by omega), rfl, rfl, ⟨rfl, rfl, rfl⟩, trivial⟩, ⟨⟨rfl, trivial⟩, trivial⟩, rfl⟩)
   · have h : ¬ k < s.held.length := by simpa using h
     have hz := any_none (qi (by omega) h0)
     refine xr rfl (q7 rfl ⟨⟨rfl, ?_, trivial⟩, z6 rfl⟩)
     exact vi (by rw [if_neg (by decide), if_neg (by rw [← hz]; decide)])
theorem q5d (c : Clu) (ho : y00 c) (x : Slt) : PC Tryz.prog 209 [.agg x.cs, .one (.p [.p c.cs])] (rB (!(q0t c.cons x.c x.s))) := by
 refine PC.begin Tryz.func209 rfl (by kernel_rfl) ?_
 refine z7 rfl (q10 _ (by assumption) _ _) rfl ⟨trivial, trivial, trivial, trivial⟩ ?_
 refine xr rfl (q7 rfl ⟨⟨rfl, rfl, trivial⟩, z6 rfl⟩)
theorem z7x (c : Clu) (ho : y00 c) (a : Acc) (ha : q6i a) : PC Tryz.prog 130 [.one (.p c.cs), .agg a.cs] (rI (z8p c a)) := by
 refine PC.begin Tryz.func130 rfl (by kernel_rfl) ?_
 have hv := z8r _ a.slots (fun x => !(q0t c.cons x.c x.s)) 209 (.p [.p c.cs]) rfl (fun x _ => q5d c ho x) ha.1
 refine z7 rfl (q8x a ha) rfl ⟨⟨trivial, trivial⟩, trivial⟩ ?_
 refine xb rfl (fun b0 => ?_) (fun b0 => ?_)
 refine xr rfl (q7 rfl ⟨⟨rfl, ?_, trivial⟩, z6 rfl⟩)
 rotate_left
 refine z7 rfl (hv) rfl ⟨trivial, (List.forall_mem_cons.2 ⟨⟨trivial, trivial⟩, (fun _ h => nomatch h)⟩), trivial⟩ ?_
 refine xb rfl (fun b1 => ?_) (fun b1 => ?_)
 refine xr rfl (q7 rfl ⟨⟨rfl, ?_, trivial⟩, z6 rfl⟩)
 rotate_left
 refine xr rfl (q7 rfl ⟨⟨rfl, ?_, trivial⟩, z6 rfl⟩)
 rotate_left
 all_goals (refine vi ?_; unfold z8p; clear hv; simp_all; done)
end Go.Proofs.YthljegacamgnnaaGreat
end
section
namespace Go.Proofs.YthljegacamgnnaaGreat
open Go Go.Sx
set_option maxRecDepth 20000
set_option maxHeartbeats 4000000
theorem y24 (us : List Mk) : ∀ row ∈ us.map Mk.cs, row.length = 2 := fun row h => by
 simp at h
 obtain ⟨_, _, rfl⟩ := h; rfl
theorem z6a (us : List Mk) : zz (us.map Mk.cs) := fun row h => by
 simp only [List.mem_map] at h
 obtain ⟨x, _, rfl⟩ := h
 intro c hc
 simp at hc
 rcases hc with rfl | rfl <;> exact ⟨_, rfl⟩
theorem y88 (c : Clu) (ho : y00 c) : PC Tryz.prog 114 [.one (.p c.cs)] (rI (scan (z1y c) c.shs.length)) := by
 refine PC.begin Tryz.func114 rfl (by kernel_rfl) ?_
 have hl := ho.2.1.1
 refine yd rfl (ι := Nat) (fun i => i ≤ c.shs.length ∧ ∀ j, j < i → z1y c j = 0) (fun i => ⟨[(3, sV (.int .i64 i)), (0, .one (.b (.p c.cs)))], []⟩) (fun i => c.shs.length - i) 0 ⟨Nat.zero_le _, fun j hj => by omega⟩ ?_ ?_
 · exact ⟨⟨rfl, rfl, trivial⟩, trivial, rfl⟩
 · intro i ⟨hi, h0⟩ J hJ
   refine xb rfl (fun h => ?_) (fun h => ?_)
   · have h : i < c.shs.length := by simpa using h
     obtain ⟨s, hx⟩ := gx h
     have hg := gm Shd.cs hx
     have hso := ho.2.1.2 s (List.mem_of_getElem? hx)
     obtain ⟨o1, o2, o3, o4, o5, o6⟩ := id hso
     have hF : z1y c i = y89 c i s := by unfold z1y; rw [hx]
     refine xs rfl (Int.natCast_nonneg _) ?_
     refine y9 rfl _ hg ?_
     refine xs rfl rfl ?_
     refine z7 rfl (y7d s hso) rfl ⟨⟨trivial, trivial, trivial, trivial, trivial, trivial, trivial⟩, trivial⟩ ?_
     refine xb rfl (fun b0 => ?_) (fun b0 => ?_)
     refine xr rfl (q7 rfl ⟨⟨rfl, ?_, trivial⟩, z6 rfl⟩)
     rotate_left
     refine xb rfl (fun b1 => ?_) (fun b1 => ?_)
     refine xr rfl (q7 rfl ⟨⟨rfl, ?_, trivial⟩, z6 rfl⟩)
     rotate_left
     refine yc rfl [] (.take 1 [] (.take 2 [3, 6, 7] (.take 4 [] (.alt 0 (.alt 3 (.take 5 [6, 7] (.alt 6 (.take 7 [] .done) .nil)) (.alt 5 (.alt 3 (.alt 6 (.take 7 [] .done) .nil) .nil) .nil)) (.alt 5 (.alt 0 (.alt 3 (.alt 6 (.take 7 [] .done) .nil) .nil) .nil) .nil))))) (by kernel_rfl) ?_
     refine y1z rfl ?_ ?_
     refine xs rfl trivial ?_
     refine y1z rfl ?_ ?_
     refine xs rfl rfl ?_
     refine xs rfl (y24 _) ?_
     refine xs rfl (fun _ => z6a _) ?_
     refine xs rfl (by simp; omega) ?_
     refine xs rfl (by simp; omega) ?_
     refine xs rfl (by simp) ?_
     refine xs rfl (y24 _) ?_
     refine xs rfl (fun _ => z6a _) ?_
     refine xs rfl (by simp; omega) ?_
     refine xs rfl (by simp; omega) ?_
     rotate_left
     refine xs rfl rfl ?_
     refine xs rfl (y24 _) ?_
     refine xs rfl (fun _ => z6a _) ?_
     refine xs rfl (by simp; omega) ?_
     refine xs rfl (by simp; omega) ?_
     refine xs rfl (by simp) ?_
     refine xs rfl (y24 _) ?_
     refine xs rfl (fun _ => z6a _) ?_
     refine xs rfl (by simp; omega) ?_
     refine xs rfl (by simp; omega) ?_
     rotate_left
     refine xs rfl trivial ?_
     refine xs rfl rfl ?_
     refine xs rfl (y24 _) ?_
     refine xs rfl (fun _ => z6a _) ?_
     refine xs rfl (by simp; omega) ?_
     refine xs rfl (by simp; omega) ?_
     refine xs rfl (by simp) ?_
     refine xs rfl (y24 _) ?_
     refine xs rfl (fun _ => z6a _) ?_
     refine xs rfl (by simp; omega) ?_
     refine xs rfl (by simp; omega) ?_
     rotate_left
     all_goals first
      | (refine vi (q8 h h0 ?_ (by first | decide | (clear hJ h0; simp_all; done))); clear hJ h0 hg; rw [hF]; unfold y89; simp_all; done)
      | skip
     · skip
       have hsf : yk s = 0 := by simpa using b0
       have hix : s.idx = i := by simpa using b1
       have hE := y45 (c := c) hsf hix
       have hcon := z2o hsf
       rw [hE] at hF
       obtain ⟨ms, hms⟩ : ∃ ms, ms = s.votes ++ s.done := ⟨_, rfl⟩
       have hml : ms.length ≤ 2097152 := by rw [hms, List.length_append]; omega
       refine yd rfl (ι := Nat) (fun k => k ≤ ms.length ∧ ∀ j y, j < k → ms[j]? = some y → (!(q0t c.cons y.c s.idx)) = false) (fun k => ⟨[(7, sV (.int .i64 k)), (6, .one (.h 35 ms.length)), (4, .one (.a 4 0)), (3, sV (.int .i64 i)), (0, .one (.b (.p c.cs)))], [(35, .arr true 2 0 (ms.map Mk.cs)), (4, .var (s.cs.map .b))]⟩) (fun k => ms.length - k) 0 ⟨Nat.zero_le _, fun j y hj => by omega⟩ ?_ ?_
       · exact ⟨⟨rfl, ⟨rfl, (by rw [hms]; simp), rfl⟩, ⟨rfl, rfl, rfl⟩, rfl, rfl, trivial⟩, ⟨⟨(by rw [hms]; simp), .inl rfl, .inl rfl⟩, ⟨rfl, rfl, rfl, rfl, rfl, rfl, trivial⟩, trivial⟩, rfl⟩
       · intro k ⟨hk, h0k⟩ Jk hJk
         refine xb rfl (fun hh => ?_) (fun hh => ?_)
         · have hh : k < ms.length := by simpa using hh
           have hkl : k < 2097152 := by omega
           obtain ⟨y, hy⟩ := gx hh
           have hgy := gm Mk.cs hy
           refine yc rfl [] (.take 0 [] (.take 1 [] (.take 2 [] (.take 3 [] (.take 4 [] (.take 5 [8, 9] (.take 6 [] (.take 7 [8, 9] (.alt 8 (.take 9 [] .done) .nil))))))))) (by kernel_rfl) ?_
           refine xs rfl (by simp) ?_
           refine xs rfl (Int.natCast_nonneg _) ?_
           refine y9 rfl _ hgy ?_
           refine xs rfl rfl ?_
           refine xs rfl (by simp) ?_
           refine y9 rfl _ hgy ?_
           refine z7 rfl (yv _ (by assumption) _ _) rfl ⟨trivial, trivial, trivial, trivial⟩ ?_
           refine xb rfl (fun b0 => ?_) (fun b0 => ?_)
           refine xr rfl (q7 rfl ⟨⟨rfl, ?_, trivial⟩, z6 rfl⟩)
           rotate_left
           rotate_left
           · refine vi (q8 h h0 ?_ (by decide))
             have ha := yr (p := fun y => !(q0t c.cons y.c s.idx)) hy b0
             rw [hms, List.any_append, hix] at ha
             rw [hF, if_pos ha.symm]
           · exact ya rfl (hJk _ (k + 1) ⟨by omega, qf hy h0k b0⟩ (by omega) ⟨⟨cwi (by omega) (by omega) (by omega), ⟨rfl, rfl, rfl⟩, ⟨rfl, rfl, rfl⟩, rfl, rfl, trivial⟩, ⟨⟨rfl, .inl rfl, .inl rfl⟩, lcr, trivial⟩, rfl⟩)
         · have hh : ¬ k < ms.length := by simpa using hh
           have ha := any_none (qi (by omega) h0k)
           rw [hms, List.any_append, hix] at ha
           rw [if_neg (by rw [← ha]; decide)] at hF
           clear hJk h0k
           refine yd rfl (ι := Nat) (fun k => k ≤ s.held.length ∧ ∀ j y, j < k → s.held[j]? = some y → y2k c y = false) (fun k => ⟨[(8, sV (.int .i64 k)), (4, .one (.a 4 0)), (3, sV (.int .i64 i)), (0, .one (.b (.p c.cs)))], [(4, .var (s.cs.map .b))]⟩) (fun k => s.held.length - k) 0 ⟨Nat.zero_le _, fun j y hj => by omega⟩ ?_ ?_
           · exact ⟨⟨rfl, ⟨rfl, rfl, rfl⟩, rfl, rfl, trivial⟩, ⟨lcr, trivial⟩, rfl⟩
           · intro k ⟨hk, h0k⟩ Jk hJk
             refine xb rfl (fun hh => ?_) (fun hh => ?_)
             · have hh : k < s.held.length := by simpa using hh
               obtain ⟨y, hy⟩ := gx hh
               have hgy := gm Con.cs hy
               have hf := q0u c y.id ho.1.1
               cases hc : y0r c.cons y.id with
               | none =>
                 rw [q1m hc] at hf
                 have hb : y2k c y = true := by unfold y2k; rw [hc]
                 refine xs rfl (Int.natCast_nonneg _) ?_
                 refine y9 rfl _ hgy ?_
                 refine xs rfl rfl ?_
                 refine z7 rfl (hf) rfl ⟨trivial, trivial, trivial⟩ ?_
                 refine yc rfl [] (.take 0 [] (.take 1 [] (.take 2 [] (.take 3 [] (.take 4 [] (.take 5 [] (.take 6 [8, 9, 15, 16, 17] (.take 7 [] (.take 8 [] (.take 9 [15, 16, 17] (.take 10 [] (.take 11 [13, 14, 15, 16, 17] (.take 12 [] (.take 13 [] (.take 14 [15, 16, 17] (.alt 15 (.take 16 [] (.take 17 [] .done)) .nil)))))))))))))))) (by kernel_rfl) ?_
                 refine xj (k := 16) rfl ?_
                 refine xr rfl (q7 rfl ⟨⟨rfl, ?_, trivial⟩, z6 rfl⟩)
                 exact vi (q8 h h0 (by rw [hF, if_pos (yr hy hb).symm]) (by decide))
               | some x =>
                 obtain ⟨q, hq, hqx⟩ := y15 hc
                 rw [hq] at hf
                 have hgq := gm Con.cs hqx
                 have hxl := ho.1.2 x (List.mem_of_find?_eq_some hc)
                 have hb : y2k c y = !(x.same y) := by unfold y2k; rw [hc]
                 refine xs rfl (Int.natCast_nonneg _) ?_
                 refine y9 rfl _ hgy ?_
                 refine xs rfl rfl ?_
                 refine z7 rfl (hf) rfl ⟨trivial, trivial, trivial⟩ ?_
                 refine yc rfl [] (.take 0 [] (.take 1 [] (.take 2 [] (.take 3 [] (.take 4 [] (.take 5 [] (.take 6 [8, 9, 15, 16, 17] (.take 7 [] (.take 8 [] (.take 9 [15, 16, 17] (.take 10 [] (.take 11 [13, 14, 15, 16, 17] (.take 12 [] (.take 13 [] (.take 14 [15, 16, 17] (.alt 15 (.take 16 [] (.take 17 [] .done)) .nil)))))))))))))))) (by kernel_rfl) ?_
                 refine xj (k := 6) rfl ?_
                 refine xs rfl (Int.natCast_nonneg _) ?_
                 refine y9 rfl _ hgq ?_
                 refine xs rfl rfl ?_
                 refine xj (k := 5) rfl ?_
                 refine xs rfl (Int.natCast_nonneg _) ?_
                 refine y9 rfl _ hgy ?_
                 refine xs rfl rfl ?_
                 refine xj (k := 2) rfl ?_
                 refine z7 rfl (y43 x y hxl) rfl ⟨⟨trivial, trivial, trivial⟩, ⟨trivial, trivial, trivial⟩, trivial⟩ ?_
                 refine xj (k := 2) rfl ?_
                 refine xb rfl (fun b0 => ?_) (fun b0 => ?_)
                 refine xr rfl (q7 rfl ⟨⟨rfl, ?_, trivial⟩, z6 rfl⟩)
                 rotate_left
                 rotate_left
                 all_goals first
                  | (exfalso; simp at b0; omega)
                  | exact vi (q8 h h0 (by rw [hF, if_pos (yr hy (hb.trans b0)).symm]) (by decide))
                  | exact ya rfl (hJk _ (k + 1) ⟨by omega, qf hy h0k (hb.trans b0)⟩ (by omega) ⟨⟨cwi (by omega) (by omega) (by omega), ⟨rfl, rfl, rfl⟩, rfl, rfl, trivial⟩, ⟨lcr, trivial⟩, rfl⟩)
             · have hh : ¬ k < s.held.length := by simpa using hh
               have hz := any_none (qi (by omega) h0k)
               rw [if_neg (by rw [← hz]; decide)] at hF
               skip
               exact ya rfl (hJ _ (i + 1) ⟨by omega, qa h0 hF⟩ (by omega) ⟨⟨cwi (by omega) (by omega) (by omega), rfl, trivial⟩, trivial, rfl⟩)
     · skip
       have hsf : yk s = 0 := by simpa using b0
       have hix : s.idx = i := by simpa using b1
       have hE := y45 (c := c) hsf hix
       have hcon := z2o hsf
       rw [hE] at hF
       obtain ⟨ms, hms⟩ : ∃ ms, ms = s.votes ++ s.done := ⟨_, rfl⟩
       have hml : ms.length ≤ 2097152 := by rw [hms, List.length_append]; omega
       refine yd rfl (ι := Nat) (fun k => k ≤ ms.length ∧ ∀ j y, j < k → ms[j]? = some y → (!(q0t c.cons y.c s.idx)) = false) (fun k => ⟨[(7, sV (.int .i64 k)), (6, .one (.h 35 ms.length)), (4, .one (.a 4 0)), (3, sV (.int .i64 i)), (0, .one (.b (.p c.cs)))], [(35, .arr true 2 0 (ms.map Mk.cs)), (4, .var (s.cs.map .b))]⟩) (fun k => ms.length - k) 0 ⟨Nat.zero_le _, fun j y hj => by omega⟩ ?_ ?_
       · exact ⟨⟨rfl, ⟨rfl, (by rw [hms]; simp), rfl⟩, ⟨rfl, rfl, rfl⟩, rfl, rfl, trivial⟩, ⟨⟨(by rw [hms]; simp), .inl rfl, .inl rfl⟩, ⟨rfl, rfl, rfl, rfl, rfl, rfl, trivial⟩, trivial⟩, rfl⟩
       · intro k ⟨hk, h0k⟩ Jk hJk
         refine xb rfl (fun hh => ?_) (fun hh => ?_)
         · have hh : k < ms.length := by simpa using hh
           have hkl : k < 2097152 := by omega
           obtain ⟨y, hy⟩ := gx hh
           have hgy := gm Mk.cs hy
           refine yc rfl [] (.take 0 [] (.take 1 [] (.take 2 [] (.take 3 [] (.take 4 [] (.take 5 [8, 9] (.take 6 [] (.take 7 [8, 9] (.alt 8 (.take 9 [] .done) .nil))))))))) (by kernel_rfl) ?_
           refine xs rfl (by simp) ?_
           refine xs rfl (Int.natCast_nonneg _) ?_
           refine y9 rfl _ hgy ?_
           refine xs rfl rfl ?_
           refine xs rfl (by simp) ?_
           refine y9 rfl _ hgy ?_
           refine z7 rfl (yv _ (by assumption) _ _) rfl ⟨trivial, trivial, trivial, trivial⟩ ?_
           refine xb rfl (fun b0 => ?_) (fun b0 => ?_)
           refine xr rfl (q7 rfl ⟨⟨rfl, ?_, trivial⟩, z6 rfl⟩)
           rotate_left
           rotate_left
           · refine vi (q8 h h0 ?_ (by decide))
             have ha := yr (p := fun y => !(q0t c.cons y.c s.idx)) hy b0
             rw [hms, List.any_append, hix] at ha
             rw [hF, if_pos ha.symm]
           · exact ya rfl (hJk _ (k + 1) ⟨by omega, qf hy h0k b0⟩ (by omega) ⟨⟨cwi (by omega) (by omega) (by omega), ⟨rfl, rfl, rfl⟩, ⟨rfl, rfl, rfl⟩, rfl, rfl, trivial⟩, ⟨⟨rfl, .inl rfl, .inl rfl⟩, lcr, trivial⟩, rfl⟩)
         · have hh : ¬ k < ms.length := by simpa using hh
           have ha := any_none (qi (by omega) h0k)
           rw [hms, List.any_append, hix] at ha
           rw [if_neg (by rw [← ha]; decide)] at hF
           clear hJk h0k
           refine yd rfl (ι := Nat) (fun k => k ≤ s.held.length ∧ ∀ j y, j < k → s.held[j]? = some y → y2k c y = false) (fun k => ⟨[(8, sV (.int .i64 k)), (4, .one (.a 4 0)), (3, sV (.int .i64 i)), (0, .one (.b (.p c.cs)))], [(4, .var (s.cs.map .b))]⟩) (fun k => s.held.length - k) 0 ⟨Nat.zero_le _, fun j y hj => by omega⟩ ?_ ?_
           · exact ⟨⟨rfl, ⟨rfl, rfl, rfl⟩, rfl, rfl, trivial⟩, ⟨lcr, trivial⟩, rfl⟩
           · intro k ⟨hk, h0k⟩ Jk hJk
             refine xb rfl (fun hh => ?_) (fun hh => ?_)
             · have hh : k < s.held.length := by simpa using hh
               obtain ⟨y, hy⟩ := gx hh
               have hgy := gm Con.cs hy
               have hf := q0u c y.id ho.1.1
               cases hc : y0r c.cons y.id with
               | none =>
                 rw [q1m hc] at hf
                 have hb : y2k c y = true := by unfold y2k; rw [hc]
                 refine xs rfl (Int.natCast_nonneg _) ?_
                 refine y9 rfl _ hgy ?_
                 refine xs rfl rfl ?_
                 refine z7 rfl (hf) rfl ⟨trivial, trivial, trivial⟩ ?_
                 refine yc rfl [] (.take 0 [] (.take 1 [] (.take 2 [] (.take 3 [] (.take 4 [] (.take 5 [] (.take 6 [8, 9, 15, 16, 17] (.take 7 [] (.take 8 [] (.take 9 [15, 16, 17] (.take 10 [] (.take 11 [13, 14, 15, 16, 17] (.take 12 [] (.take 13 [] (.take 14 [15, 16, 17] (.alt 15 (.take 16 [] (.take 17 [] .done)) .nil)))))))))))))))) (by kernel_rfl) ?_
                 refine xj (k := 16) rfl ?_
                 refine xr rfl (q7 rfl ⟨⟨rfl, ?_, trivial⟩, z6 rfl⟩)
                 exact vi (q8 h h0 (by rw [hF, if_pos (yr hy hb).symm]) (by decide))
               | some x =>
                 obtain ⟨q, hq, hqx⟩ := y15 hc
                 rw [hq] at hf
                 have hgq := gm Con.cs hqx
                 have hxl := ho.1.2 x (List.mem_of_find?_eq_some hc)
                 have hb : y2k c y = !(x.same y) := by unfold y2k; rw [hc]
                 refine xs rfl (Int.natCast_nonneg _) ?_
                 refine y9 rfl _ hgy ?_
                 refine xs rfl rfl ?_
                 refine z7 rfl (hf) rfl ⟨trivial, trivial, trivial⟩ ?_
                 refine yc rfl [] (.take 0 [] (.take 1 [] (.take 2 [] (.take 3 [] (.take 4 [] (.take 5 [] (.take 6 [8, 9, 15, 16, 17] (.take 7 [] (.take 8 [] (.take 9 [15, 16, 17] (.take 10 [] (.take 11 [13, 14, 15, 16, 17] (.take 12 [] (.take 13 [] (.take 14 [15, 16, 17] (.alt 15 (.take 16 [] (.take 17 [] .done)) .nil)))))))))))))))) (by kernel_rfl) ?_
                 refine xj (k := 6) rfl ?_
                 refine xs rfl (Int.natCast_nonneg _) ?_
                 refine y9 rfl _ hgq ?_
                 refine xs rfl rfl ?_
                 refine xj (k := 5) rfl ?_
                 refine xs rfl (Int.natCast_nonneg _) ?_
                 refine y9 rfl _ hgy ?_
                 refine xs rfl rfl ?_
                 refine xj (k := 2) rfl ?_
                 refine z7 rfl (y43 x y hxl) rfl ⟨⟨trivial, trivial, trivial⟩, ⟨trivial, trivial, trivial⟩, trivial⟩ ?_
                 refine xj (k := 2) rfl ?_
                 refine xb rfl (fun b0 => ?_) (fun b0 => ?_)
                 refine xr rfl (q7 rfl ⟨⟨rfl, ?_, trivial⟩, z6 rfl⟩)
                 rotate_left
                 rotate_left
                 all_goals first
                  | (exfalso; simp at b0; omega)
                  | exact vi (q8 h h0 (by rw [hF, if_pos (yr hy (hb.trans b0)).symm]) (by decide))
                  | exact ya rfl (hJk _ (k + 1) ⟨by omega, qf hy h0k (hb.trans b0)⟩ (by omega) ⟨⟨cwi (by omega) (by omega) (by omega), ⟨rfl, rfl, rfl⟩, rfl, rfl, trivial⟩, ⟨lcr, trivial⟩, rfl⟩)
             · have hh : ¬ k < s.held.length := by simpa using hh
               have hz := any_none (qi (by omega) h0k)
               rw [if_neg (by rw [← hz]; decide)] at hF
               skip
               exact ya rfl (hJ _ (i + 1) ⟨by omega, qa h0 hF⟩ (by omega) ⟨⟨cwi (by omega) (by omega) (by omega), rfl, trivial⟩, trivial, rfl⟩)
     · skip
       have hsf : yk s = 0 := by simpa using b0
       have hix : s.idx = i := by simpa using b1
       have hE := y45 (c := c) hsf hix
       have hcon := z2o hsf
       rw [hE] at hF
       obtain ⟨ms, hms⟩ : ∃ ms, ms = s.votes ++ s.done := ⟨_, rfl⟩
       have hml : ms.length ≤ 2097152 := by rw [hms, List.length_append]; omega
       refine yd rfl (ι := Nat) (fun k => k ≤ ms.length ∧ ∀ j y, j < k → ms[j]? = some y → (!(q0t c.cons y.c s.idx)) = false) (fun k => ⟨[(7, sV (.int .i64 k)), (6, .one (.h 35 ms.length)), (4, .one (.a 4 0)), (3, sV (.int .i64 i)), (0, .one (.b (.p c.cs)))], [(35, .arr true 2 0 (ms.map Mk.cs)), (4, .var (s.cs.map .b))]⟩) (fun k => ms.length - k) 0 ⟨Nat.zero_le _, fun j y hj => by omega⟩ ?_ ?_
       · exact ⟨⟨rfl, ⟨rfl, (by rw [hms]; simp), rfl⟩, ⟨rfl, rfl, rfl⟩, rfl, rfl, trivial⟩, ⟨⟨(by rw [hms]; simp), .inl rfl, .inl rfl⟩, ⟨rfl, rfl, rfl, rfl, rfl, rfl, trivial⟩, trivial⟩, rfl⟩
       · intro k ⟨hk, h0k⟩ Jk hJk
         refine xb rfl (fun hh => ?_) (fun hh => ?_)
         · have hh : k < ms.length := by simpa using hh
           have hkl : k < 2097152 := by omega
           obtain ⟨y, hy⟩ := gx hh
           have hgy := gm Mk.cs hy
           refine yc rfl [] (.take 0 [] (.take 1 [] (.take 2 [] (.take 3 [] (.take 4 [] (.take 5 [8, 9] (.take 6 [] (.take 7 [8, 9] (.alt 8 (.take 9 [] .done) .nil))))))))) (by kernel_rfl) ?_
           refine xs rfl (by simp) ?_
           refine xs rfl (Int.natCast_nonneg _) ?_
           refine y9 rfl _ hgy ?_
           refine xs rfl rfl ?_
           refine xs rfl (by simp) ?_
           refine y9 rfl _ hgy ?_
           refine z7 rfl (yv _ (by assumption) _ _) rfl ⟨trivial, trivial, trivial, trivial⟩ ?_
           refine xb rfl (fun b0 => ?_) (fun b0 => ?_)
           refine xr rfl (q7 rfl ⟨⟨rfl, ?_, trivial⟩, z6 rfl⟩)
           rotate_left
           rotate_left
           · refine vi (q8 h h0 ?_ (by decide))
             have ha := yr (p := fun y => !(q0t c.cons y.c s.idx)) hy b0
             rw [hms, List.any_append, hix] at ha
             rw [hF, if_pos ha.symm]
           · exact ya rfl (hJk _ (k + 1) ⟨by omega, qf hy h0k b0⟩ (by omega) ⟨⟨cwi (by omega) (by omega) (by omega), ⟨rfl, rfl, rfl⟩, ⟨rfl, rfl, rfl⟩, rfl, rfl, trivial⟩, ⟨⟨rfl, .inl rfl, .inl rfl⟩, lcr, trivial⟩, rfl⟩)
         · have hh : ¬ k < ms.length := by simpa using hh
           have ha := any_none (qi (by omega) h0k)
           rw [hms, List.any_append, hix] at ha
           rw [if_neg (by rw [← ha]; decide)] at hF
           clear hJk h0k
           refine yd rfl (ι := Nat) (fun k => k ≤ s.held.length ∧ ∀ j y, j < k → s.held[j]? = some y → y2k c y = false) (fun k => ⟨[(8, sV (.int .i64 k)), (4, .one (.a 4 0)), (3, sV (.int .i64 i)), (0, .one (.b (.p c.cs)))], [(4, .var (s.cs.map .b))]⟩) (fun k => s.held.length - k) 0 ⟨Nat.zero_le _, fun j y hj => by omega⟩ ?_ ?_
           · exact ⟨⟨rfl, ⟨rfl, rfl, rfl⟩, rfl, rfl, trivial⟩, ⟨lcr, trivial⟩, rfl⟩
           · intro k ⟨hk, h0k⟩ Jk hJk
             refine xb rfl (fun hh => ?_) (fun hh => ?_)
             · have hh : k < s.held.length := by simpa using hh
               obtain ⟨y, hy⟩ := gx hh
               have hgy := gm Con.cs hy
               have hf := q0u c y.id ho.1.1
               cases hc : y0r c.cons y.id with
               | none =>
                 rw [q1m hc] at hf
                 have hb : y2k c y = true := by unfold y2k; rw [hc]
                 refine xs rfl (Int.natCast_nonneg _) ?_
                 refine y9 rfl _ hgy ?_
                 refine xs rfl rfl ?_
                 refine z7 rfl (hf) rfl ⟨trivial, trivial, trivial⟩ ?_
                 refine yc rfl [] (.take 0 [] (.take 1 [] (.take 2 [] (.take 3 [] (.take 4 [] (.take 5 [] (.take 6 [8, 9, 15, 16, 17] (.take 7 [] (.take 8 [] (.take 9 [15, 16, 17] (.take 10 [] (.take 11 [13, 14, 15, 16, 17] (.take 12 [] (.take 13 [] (.take 14 [15, 16, 17] (.alt 15 (.take 16 [] (.take 17 [] .done)) .nil)))))))))))))))) (by kernel_rfl) ?_
                 refine xj (k := 16) rfl ?_
                 refine xr rfl (q7 rfl ⟨⟨rfl, ?_, trivial⟩, z6 rfl⟩)
                 exact vi (q8 h h0 (by rw [hF, if_pos (yr hy hb).symm]) (by decide))
               | some x =>
                 obtain ⟨q, hq, hqx⟩ := y15 hc
                 rw [hq] at hf
                 have hgq := gm Con.cs hqx
                 have hxl := ho.1.2 x (List.mem_of_find?_eq_some hc)
                 have hb : y2k c y = !(x.same y) := by unfold y2k; rw [hc]
                 refine xs rfl (Int.natCast_nonneg _) ?_
                 refine y9 rfl _ hgy ?_
                 refine xs rfl rfl ?_
                 refine z7 rfl (hf) rfl ⟨trivial, trivial, trivial⟩ ?_
                 refine yc rfl [] (.take 0 [] (.take 1 [] (.take 2 [] (.take 3 [] (.take 4 [] (.take 5 [] (.take 6 [8, 9, 15, 16, 17] (.take 7 [] (.take 8 [] (.take 9 [15, 16, 17] (.take 10 [] (.take 11 [13, 14, 15, 16, 17] (.take 12 [] (.take 13 [] (.take 14 [15, 16, 17] (.alt 15 (.take 16 [] (.take 17 [] .done)) .nil)))))))))))))))) (by kernel_rfl) ?_
                 refine xj (k := 6) rfl ?_
                 refine xs rfl (Int.natCast_nonneg _) ?_
                 refine y9 rfl _ hgq ?_
                 refine xs rfl rfl ?_
                 refine xj (k := 5) rfl ?_
                 refine xs rfl (Int.natCast_nonneg _) ?_
                 refine y9 rfl _ hgy ?_
                 refine xs rfl rfl ?_
                 refine xj (k := 2) rfl ?_
                 refine z7 rfl (y43 x y hxl) rfl ⟨⟨trivial, trivial, trivial⟩, ⟨trivial, trivial, trivial⟩, trivial⟩ ?_
                 refine xj (k := 2) rfl ?_
                 refine xb rfl (fun b0 => ?_) (fun b0 => ?_)
                 refine xr rfl (q7 rfl ⟨⟨rfl, ?_, trivial⟩, z6 rfl⟩)
                 rotate_left
                 rotate_left
                 all_goals first
                  | (exfalso; simp at b0; omega)
                  | exact vi (q8 h h0 (by rw [hF, if_pos (yr hy (hb.trans b0)).symm]) (by decide))
                  | exact ya rfl (hJk _ (k + 1) ⟨by omega, qf hy h0k (hb.trans b0)⟩ (by omega) ⟨⟨cwi (by omega) (by omega) (by omega), ⟨rfl, rfl, rfl⟩, rfl, rfl, trivial⟩, ⟨lcr, trivial⟩, rfl⟩)
             · have hh : ¬ k < s.held.length := by simpa using hh
               have hz := any_none (qi (by omega) h0k)
               rw [if_neg (by rw [← hz]; decide)] at hF
               skip
               exact ya rfl (hJ _ (i + 1) ⟨by omega, qa h0 hF⟩ (by omega) ⟨⟨cwi (by omega) (by omega) (by omega), rfl, trivial⟩, trivial, rfl⟩)
   · have h : ¬ i < c.shs.length := by simpa using h
     have hz := zf (f := z1y c) (n := c.shs.length) (fun j hj => h0 j (by omega))
     refine xr rfl (q7 rfl ⟨⟨rfl, ?_, trivial⟩, z6 rfl⟩)
     exact vi (hz.symm)
theorem y86 (c : Clu) (ho : y00 c) : PC Tryz.prog 115 [.one (.p c.cs)] (rI (scan (z2h c) c.accs.length)) := by
 refine PC.begin Tryz.func115 rfl (by kernel_rfl) ?_
 have hl := ho.2.2.1.1
 refine yd rfl (ι := Nat) (fun i => i ≤ c.accs.length ∧ ∀ j, j < i → z2h c j = 0) (fun i => ⟨[(3, sV (.int .i64 i)), (0, .one (.b (.p c.cs)))], []⟩) (fun i => c.accs.length - i) 0 ⟨Nat.zero_le _, fun j hj => by omega⟩ ?_ ?_
 · exact ⟨⟨rfl, rfl, trivial⟩, trivial, rfl⟩
 · intro i ⟨hi, h0⟩ J hJ
   refine xb rfl (fun h => ?_) (fun h => ?_)
   · have h : i < c.accs.length := by simpa using h
     obtain ⟨a, hx⟩ := gx h
     have hg := gm Acc.cs hx
     have hao := ho.2.2.1.2 a (List.mem_of_getElem? hx)
     have hF : z2h c i = z8p c a := by unfold z2h; rw [hx]
     have hal := hao.1
     refine xs rfl (Int.natCast_nonneg _) ?_
     refine y9 rfl _ hg ?_
     refine xs rfl rfl ?_
     refine z7 rfl (q9a a hao) rfl ⟨⟨trivial, trivial⟩, trivial⟩ ?_
     refine xb rfl (fun b0 => ?_) (fun b0 => ?_)
     refine xr rfl (q7 rfl ⟨⟨rfl, ?_, trivial⟩, z6 rfl⟩)
     rotate_left
     rotate_left
     all_goals first
      | (refine vi (q8 h h0 ?_ (by first | decide | (clear hJ h0; simp_all; done))); clear hJ h0 hg; rw [hF]; unfold z8p; simp_all; done)
      | skip
     have haf : a.fault = 0 := by simpa using b0
     unfold z8p at hF
     rw [if_neg (by simpa using haf)] at hF
     refine yd rfl (ι := Nat) (fun k => k ≤ a.slots.length ∧ ∀ j y, j < k → a.slots[j]? = some y → (!(q0t c.cons y.c y.s)) = false) (fun k => ⟨[(5, sV (.int .i64 k)), (3, sV (.int .i64 i)), (0, .one (.b (.p c.cs)))], []⟩) (fun k => a.slots.length - k) 0 ⟨Nat.zero_le _, fun j y hj => by omega⟩ ?_ ?_
     · exact ⟨⟨rfl, rfl, rfl, trivial⟩, trivial, rfl⟩
     · intro k ⟨hk, h0k⟩ Jk hJk
       refine xs rfl (Int.natCast_nonneg _) ?_
       refine y9 rfl _ hg ?_
       refine xs rfl rfl ?_
       refine xb rfl (fun hh => ?_) (fun hh => ?_)
       · have hh : k < a.slots.length := by simpa using hh
         obtain ⟨y, hy⟩ := gx hh
         have hgy := gm Slt.cs hy
         refine xs rfl (Int.natCast_nonneg _) ?_
         refine y9 rfl _ hg ?_
         refine xs rfl rfl ?_
         refine xs rfl (Int.natCast_nonneg _) ?_
         refine y9 rfl _ hgy ?_
         refine xs rfl rfl ?_
         refine z7 rfl (yv _ (by assumption) _ _) rfl ⟨trivial, trivial, trivial, trivial⟩ ?_
         refine xb rfl (fun b0 => ?_) (fun b0 => ?_)
         refine xr rfl (q7 rfl ⟨⟨rfl, ?_, trivial⟩, z6 rfl⟩)
         rotate_left
         rotate_left
         · exact vi (q8 h h0 (by rw [hF, if_pos (yr hy b0).symm]) (by decide))
         · exact ya rfl (hJk _ (k + 1) ⟨by omega, qf hy h0k b0⟩ (by omega) ⟨⟨cwi (by omega) (by omega) (by omega), rfl, rfl, trivial⟩, trivial, rfl⟩)
       · have hh : ¬ k < a.slots.length := by simpa using hh
         have hz := any_none (qi (by omega) h0k)
         rw [if_neg (by rw [← hz]; decide)] at hF
         skip
         exact ya rfl (hJ _ (i + 1) ⟨by omega, qa h0 hF⟩ (by omega) ⟨⟨cwi (by omega) (by omega) (by omega), rfl, trivial⟩, trivial, rfl⟩)
   · have h : ¬ i < c.accs.length := by simpa using h
     have hz := zf (f := z2h c) (n := c.accs.length) (fun j hj => h0 j (by omega))
     refine xr rfl (q7 rfl ⟨⟨rfl, ?_, trivial⟩, z6 rfl⟩)
     exact vi (hz.symm)
end Go.Proofs.YthljegacamgnnaaGreat
end
section
namespace Go.Proofs.YthljegacamgnnaaGreat
open Go Go.Sx
set_option maxRecDepth 20000
set_option maxHeartbeats 4000000
theorem y9q (rr : List (List Cell)) (us : List Vt) (p : Vt → Bool) (fn : Nat) (hr : rr = us.map Vt.cs) (hf : ∀ x ∈ us, PC Tryz.prog fn [.agg x.cs] (rB (p x))) (hl : us.length ≤ 1048576) : PC Tryz.prog 332 [.one (.l rr), .one (.f fn [])] (rI (z15 p us)) := by
 refine PC.begin Tryz.func332 rfl (by kernel_rfl) ?_
 subst hr
 have hn : (us.map Vt.cs).length = us.length := by simp
 refine yd rfl (ι := Nat) (fun i => i ≤ us.length ∧ ∀ j y, j < i → us[j]? = some y → p y = false) (fun i => ⟨[(8, sV (.int .i64 i)), (7, sV (.int .i64 (us.map Vt.cs).length)), (0, .one (.b (.l (us.map Vt.cs)))), (1, .one (.b (.f fn [])))], []⟩) (fun i => us.length - i) 0 ⟨Nat.zero_le _, fun j y hj => by omega⟩ ?_ ?_
 · exact ⟨⟨rfl, rfl, rfl, rfl, trivial⟩, trivial, rfl⟩
 · intro i ⟨hi, h0⟩ J hJ
   refine xb rfl (fun h => ?_) (fun h => ?_)
   · have h : i < us.length := by simpa using h
     obtain ⟨x, hx⟩ := gx h
     have hg := gm Vt.cs hx
     have hxm := List.mem_of_getElem? hx
     refine xs rfl (Int.natCast_nonneg _) ?_
     refine y9 rfl _ hg ?_
     refine xs rfl rfl ?_
     refine z7 rfl (hf _ hxm) rfl ⟨⟨trivial, trivial, trivial⟩, trivial⟩ ?_
     refine xb rfl (fun b0 => ?_) (fun b0 => ?_)
     refine xr rfl (q7 rfl ⟨⟨rfl, ?_, trivial⟩, z6 rfl⟩)
     rotate_left
     rotate_left
     · exact vi (y04 hx h0 b0).symm
     · exact ya rfl (hJ _ (i + 1) ⟨by omega, qf hx h0 b0⟩ (by omega) ⟨⟨cwi (by omega) (by omega) (by omega), rfl, rfl, rfl, trivial⟩, trivial, rfl⟩)
   · have h : ¬ i < us.length := by simpa using h
     refine xr rfl (q7 rfl ⟨⟨rfl, ?_, trivial⟩, z6 rfl⟩)
     exact vi (qy (qi (by omega) h0)).symm
theorem z9m (rr : List (List Cell)) (us : List Vt) (p : Vt → Bool) (fn : Nat) (hr : rr = us.map Vt.cs) (hf : ∀ x ∈ us, PC Tryz.prog fn [.agg x.cs] (rB (p x))) (hl : us.length ≤ 1048576) : PC Tryz.prog 318 [.one (.l rr), .one (.f fn [])] (rB (us.any p)) := by
 refine PC.begin Tryz.func318 rfl (by kernel_rfl) ?_
 have hi := y9q rr us p fn hr hf hl
 refine z7 rfl (hi) rfl ⟨trivial, trivial, trivial⟩ ?_
 refine xr rfl (q7 rfl ⟨⟨rfl, ?_, trivial⟩, z6 rfl⟩)
 exact vb q0d
theorem q8z (rr : List (List Cell)) (us : List Int) (p : Int → Bool) (fn : Nat) (c0 : Cell) (hr : rr = ints us) (hf : ∀ x ∈ us, PC Tryz.prog fn [.one (i64 x), .one c0] (rB (p x))) (hl : us.length ≤ 1048576) : PC Tryz.prog 168 [.one (.l rr), .one (.f fn [c0])] (rI (z15 p us)) := by
 refine PC.begin Tryz.func168 rfl (by kernel_rfl) ?_
 subst hr
 have hn : (ints us).length = us.length := by simp
 refine yd rfl (ι := Nat) (fun i => i ≤ us.length ∧ ∀ j y, j < i → us[j]? = some y → p y = false) (fun i => ⟨[(8, sV (.int .i64 i)), (7, sV (.int .i64 (ints us).length)), (0, .one (.b (.l (ints us)))), (1, .one (.b (.f fn [c0])))], []⟩) (fun i => us.length - i) 0 ⟨Nat.zero_le _, fun j y hj => by omega⟩ ?_ ?_
 · exact ⟨⟨rfl, rfl, rfl, rfl, trivial⟩, trivial, rfl⟩
 · intro i ⟨hi, h0⟩ J hJ
   refine xb rfl (fun h => ?_) (fun h => ?_)
   · have h : i < us.length := by simpa using h
     obtain ⟨x, hx⟩ := gx h
     have hg := gm (fun n => [i64 n]) hx
     have hxm := List.mem_of_getElem? hx
     refine xs rfl (Int.natCast_nonneg _) ?_
     refine y9 rfl _ hg ?_
     refine xs rfl rfl ?_
     refine z7 rfl (hf _ hxm) rfl ⟨trivial, trivial, trivial⟩ ?_
     refine xb rfl (fun b0 => ?_) (fun b0 => ?_)
     refine xr rfl (q7 rfl ⟨⟨rfl, ?_, trivial⟩, z6 rfl⟩)
     rotate_left
     rotate_left
     · exact vi (y04 hx h0 b0).symm
     · exact ya rfl (hJ _ (i + 1) ⟨by omega, qf hx h0 b0⟩ (by omega) ⟨⟨cwi (by omega) (by omega) (by omega), rfl, rfl, rfl, trivial⟩, trivial, rfl⟩)
   · have h : ¬ i < us.length := by simpa using h
     refine xr rfl (q7 rfl ⟨⟨rfl, ?_, trivial⟩, z6 rfl⟩)
     exact vi (qy (qi (by omega) h0)).symm
theorem y8q (rr : List (List Cell)) (us : List Int) (p : Int → Bool) (fn : Nat) (c0 : Cell) (hr : rr = ints us) (hf : ∀ x ∈ us, PC Tryz.prog fn [.one (i64 x), .one c0] (rB (p x))) (hl : us.length ≤ 1048576) : PC Tryz.prog 170 [.one (.l rr), .one (.f fn [c0])] (rB (us.any p)) := by
 refine PC.begin Tryz.func170 rfl (by kernel_rfl) ?_
 have hi := q8z rr us p fn c0 hr hf hl
 refine z7 rfl (hi) rfl ⟨trivial, trivial, trivial⟩ ?_
 refine xr rfl (q7 rfl ⟨⟨rfl, ?_, trivial⟩, z6 rfl⟩)
 exact vb q0d
theorem y8z (us : List Int) (v : Int) (rr : List (List Cell)) (hr : rr = ints us) (hl : us.length ≤ 1048576) : PC Tryz.prog 233 [.one (.l rr), .one (i64 v)] (rI (z15 (fun y => y == v) us)) := by
 refine PC.begin Tryz.func233 rfl (by kernel_rfl) ?_
 subst hr
 have hn : (ints us).length = us.length := by simp
 refine yd rfl (ι := Nat) (fun i => i ≤ us.length ∧ ∀ j y, j < i → us[j]? = some y → (y == v) = false) (fun i => ⟨[(8, sV (.int .i64 i)), (7, sV (.int .i64 (ints us).length)), (0, .one (.b (.l (ints us)))), (1, sV (.int .i64 v))], []⟩) (fun i => us.length - i) 0 ⟨Nat.zero_le _, fun j y hj => by omega⟩ ?_ ?_
 · exact ⟨⟨rfl, rfl, rfl, rfl, trivial⟩, trivial, rfl⟩
 · intro i ⟨hi, h0⟩ J hJ
   refine xb rfl (fun h => ?_) (fun h => ?_)
   · have h : i < us.length := by simpa using h
     obtain ⟨x, hx⟩ := gx h
     have hg := gm (fun n => [i64 n]) hx
     refine xs rfl (Int.natCast_nonneg _) ?_
     refine y9 rfl _ hg ?_
     refine xs rfl rfl ?_
     refine xb rfl (fun b0 => ?_) (fun b0 => ?_)
     refine xr rfl (q7 rfl ⟨⟨rfl, ?_, trivial⟩, z6 rfl⟩)
     rotate_left
     rotate_left
     · exact vi (y04 hx h0 (by rw [beq_iff_eq] at b0 ⊢; exact b0.symm)).symm
     · exact ya rfl (hJ _ (i + 1) ⟨by omega, qf hx h0 (by rw [beq_eq_false_iff_ne] at b0 ⊢; exact fun e => b0 e.symm)⟩ (by omega) ⟨⟨cwi (by omega) (by omega) (by omega), rfl, rfl, rfl, trivial⟩, trivial, rfl⟩)
   · have h : ¬ i < us.length := by simpa using h
     refine xr rfl (q7 rfl ⟨⟨rfl, ?_, trivial⟩, z6 rfl⟩)
     exact vi (qy (p := fun y => y == v) (qi (by omega) h0)).symm
theorem y8x (us : List Int) (v : Int) (rr : List (List Cell)) (hr : rr = ints us) (hl : us.length ≤ 1048576) : PC Tryz.prog 235 [.one (.l rr), .one (i64 v)] (rB (us.any fun y => y == v)) := by
 refine PC.begin Tryz.func235 rfl (by kernel_rfl) ?_
 refine z7 rfl (y8z us v _ hr hl) rfl ⟨trivial, trivial, trivial⟩ ?_
 refine xr rfl (q7 rfl ⟨⟨rfl, ?_, trivial⟩, z6 rfl⟩)
 exact vb q0d
theorem y5d (c : Clu) (ho : y00 c) (p : Int) : PC Tryz.prog 316 [.one (i64 p), .one (.p [.p c.cs])] (rB (q1l c p)) := by
 refine PC.begin Tryz.func316 rfl (by kernel_rfl) ?_
 have q2 := ho.2.2.1.1
 have p2 : (c.accs.map Acc.cs).length ≤ 1048576 := by simpa using q2
 refine z7 rfl (z0b _ _ (by assumption)) rfl ⟨trivial, trivial, trivial⟩ ?_
 refine xr rfl (q7 rfl ⟨⟨rfl, ?_, trivial⟩, z6 rfl⟩)
 all_goals (refine vb ?_; unfold q1l; rw [List.length_map])
theorem q8c (x : Vt) : PC Tryz.prog 317 [.agg x.cs] (rB (q0l x)) := by
 refine PC.begin Tryz.func317 rfl (by kernel_rfl) ?_
 refine yc rfl [] (.take 0 [2, 3, 4, 5, 6, 7, 8] (.alt 1 (.take 2 [] (.take 3 [] (.take 4 [5, 6, 7, 8] (.alt 5 (.take 6 [] (.take 7 [] (.take 8 [] .done))) .nil)))) .nil)) (by kernel_rfl) ?_
 refine z7 rfl (q2x) rfl trivial ?_
 refine xb rfl (fun b0 => ?_) (fun b0 => ?_)
 refine xj (k := 1) rfl ?_
 refine z7 rfl (y1t _) rfl ⟨⟨trivial, trivial, trivial⟩, trivial⟩ ?_
 refine xj (k := 2) rfl ?_
 refine xr rfl (q7 rfl ⟨⟨rfl, ?_, trivial⟩, z6 rfl⟩)
 rotate_left
 refine xj (k := 3) rfl ?_
 refine xr rfl (q7 rfl ⟨⟨rfl, ?_, trivial⟩, z6 rfl⟩)
 rotate_left
 all_goals (refine vb ?_; simp_all [q0l, y1r, Vt.none])
theorem z2w (us : List Int) (k : Nat) : List.drop (none.getD 0 : Int).toNat (List.take ((some (k : Int)).getD ((ints us).length : Int)).toNat (ints us)) = ints (us.take k) := by
 simp [ints, List.map_take]
theorem q5g (c : Clu) (ho : y00 c) (t : Tr) (ht : q9j t) : PC Tryz.prog 272 [.one (.p c.cs), .agg t.cs] (rI (if t.fr.length != t.olds.length then 1 else y6h c t)) := by
 refine PC.begin Tryz.func272 rfl (by kernel_rfl) ?_
 obtain ⟨o1, o2⟩ := ht
 have hf := y8q _ t.fr (q1l c) 316 (.p [.p c.cs]) rfl (fun x _ => y5d c ho x) o1
 have hw := z9m _ t.olds q0l 317 rfl (fun x _ => q8c x) o2
 refine xb rfl (fun h0 => ?_) (fun h0 => ?_)
 · have h0 : ¬ t.fr.length = t.olds.length := by simp at h0; omega
   rw [if_pos (by simpa using h0)]
   refine xr rfl (q7 rfl ⟨⟨rfl, rfl, trivial⟩, z6 rfl⟩)
 · have h0 : t.fr.length = t.olds.length := by simp at h0; omega
   rw [if_neg (by simpa using h0)]
   refine z7 rfl (hf) rfl ⟨trivial, (List.forall_mem_cons.2 ⟨⟨trivial, trivial⟩, (fun _ h => nomatch h)⟩), trivial⟩ ?_
   refine xb rfl (fun b0 => ?_) (fun b0 => ?_)
   refine xj (k := 5) rfl ?_
   refine xr rfl (q7 rfl ⟨⟨rfl, ?_, trivial⟩, z6 rfl⟩)
   rotate_left
   refine xj (k := 3) rfl ?_
   refine z7 rfl (hw) rfl ⟨trivial, (fun _ h => nomatch h), trivial⟩ ?_
   refine xj (k := 1) rfl ?_
   refine xb rfl (fun b1 => ?_) (fun b1 => ?_)
   refine xr rfl (q7 rfl ⟨⟨rfl, ?_, trivial⟩, z6 rfl⟩)
   rotate_left
   rotate_left
   all_goals first | (refine vi ?_; clear hf hw; unfold y6h; simp_all; done) | skip
   have hfw : (t.fr.any (q1l c) || t.olds.any q0l) = false := by rw [b0, b1]; rfl
   unfold y6h
   rw [hfw]
   rw [if_neg (by decide)]
   clear hf hw b0 b1 hfw
   refine yd rfl (ι := Nat) (fun i => i ≤ t.fr.length ∧ ∀ j, j < i → q0m t.fr j = 0) (fun i => ⟨[(32, sV (.int .i64 i)), (31, sV (.int .i64 (ints t.fr).length)), (30, .one (.b (.l (ints t.fr)))), (3, .one (.a 3 0))], [(3, .var (t.cs.map .b))]⟩) (fun i => t.fr.length - i) 0 ⟨Nat.zero_le _, fun j hj => by omega⟩ ?_ ?_
   · exact ⟨⟨rfl, rfl, rfl, ⟨rfl, rfl, rfl⟩, trivial⟩, ⟨lcr, trivial⟩, rfl⟩
   · intro i ⟨hi, h0⟩ J hJ
     refine xb rfl (fun h => ?_) (fun h => ?_)
     · have h : i < t.fr.length := by simpa using h
       obtain ⟨x, hx⟩ := gx h
       have hg := gm (fun n => [i64 n]) hx
       refine xs rfl (Int.natCast_nonneg _) ?_
       refine y9 rfl _ hg ?_
       refine xs rfl rfl ?_
       refine xs rfl (.inl rfl) ?_
       refine xs rfl (Int.natCast_nonneg _) ?_
       refine xs rfl (Int.natCast_nonneg _) ?_
       refine xs rfl (by simp; omega) ?_
       refine z7 rfl (y8x (t.fr.take i) x _ (z2w _ _) (by rw [List.length_take]; omega)) rfl ⟨trivial, trivial, trivial⟩ ?_
       refine xb rfl (fun b0 => ?_) (fun b0 => ?_)
       refine xr rfl (q7 rfl ⟨⟨rfl, ?_, trivial⟩, z6 rfl⟩)
       rotate_left
       rotate_left
       · exact vi (q8 h h0 (by unfold q0m; rw [hx]; exact if_pos b0) (by decide))
       · exact ya rfl (hJ _ (i + 1) ⟨by omega, qa h0 (by unfold q0m; rw [hx]; exact if_neg (by rw [b0]; decide))⟩ (by omega) ⟨⟨cwi (by omega) (by omega) (by omega), rfl, rfl, ⟨rfl, rfl, rfl⟩, trivial⟩, ⟨lcr, trivial⟩, rfl⟩)
     · have h : ¬ i < t.fr.length := by simpa using h
       have hz := zf (f := q0m t.fr) (n := t.fr.length) (fun j hj => h0 j (by omega))
       refine xr rfl (q7 rfl ⟨⟨rfl, ?_, trivial⟩, z6 rfl⟩)
       exact vi (hz.symm)
theorem z2r (a b : Tr) : PC Tryz.prog 271 [.agg a.cs, .agg b.cs] (rI (orr [q0e a.c b.c, q0e a.s b.s])) := by
 refine PC.begin Tryz.func271 rfl (by kernel_rfl) ?_
 refine yc rfl [] (.take 0 [] (.take 1 [4, 9, 10, 11, 12] (.take 2 [] (.take 3 [4, 9, 10, 11, 12] (.take 5 [] (.take 6 [9, 10, 11, 12] (.take 7 [] (.take 8 [9, 10, 11, 12] (.alt 4 (.alt 9 (.alt 10 (.alt 11 (.take 12 [] .done) .nil) .nil) .nil) .nil))))))))) (by kernel_rfl) ?_
 refine z7 rfl (qs _ _) rfl ⟨trivial, trivial, trivial⟩ ?_
 refine z7 rfl (qs _ _) rfl ⟨trivial, trivial, trivial⟩ ?_
 refine xs rfl ⟨trivial, trivial, trivial⟩ ?_
 refine z7 rfl (q83 [_, _] (by simp)) rfl ⟨rfl, trivial⟩ ?_
 refine xr rfl (q7 rfl ⟨⟨rfl, rfl, trivial⟩, z6 rfl⟩)
theorem z8i {p x : Tr} : 0 ≤ orr [q0e p.c x.c, q0e p.s x.s] ↔ Tr.lt p x = false := by
 unfold orr orr orr q0e Tr.lt
 repeat' split
 all_goals (simp; try omega)
theorem y2q (a b : Hd) : PC Tryz.prog 275 [.agg a.cs, .agg b.cs] (rI (Hd.cmp a b)) := by
 refine PC.begin Tryz.func275 rfl (by kernel_rfl) ?_
 refine yc rfl [] (.take 0 [] (.take 1 [4, 9, 14, 19, 24, 25, 26, 27] (.take 2 [] (.take 3 [4, 9, 14, 19, 24, 25, 26, 27] (.take 5 [] (.take 6 [9, 14, 19, 24, 25, 26, 27] (.take 7 [] (.take 8 [9, 14, 19, 24, 25, 26, 27] (.take 10 [] (.take 11 [14, 19, 24, 25, 26, 27] (.take 12 [] (.take 13 [14, 19, 24, 25, 26, 27] (.take 15 [] (.take 16 [19, 24, 25, 26, 27] (.take 17 [] (.take 18 [19, 24, 25, 26, 27] (.take 20 [] (.take 21 [24, 25, 26, 27] (.take 22 [] (.take 23 [24, 25, 26, 27] (.alt 4 (.alt 9 (.alt 14 (.alt 19 (.alt 24 (.alt 25 (.alt 26 (.take 27 [] .done) .nil) .nil) .nil) .nil) .nil) .nil) .nil))))))))))))))))))))) (by kernel_rfl) ?_
 refine z7 rfl (qs _ _) rfl ⟨trivial, trivial, trivial⟩ ?_
 refine z7 rfl (qs _ _) rfl ⟨trivial, trivial, trivial⟩ ?_
 refine z7 rfl (qs _ _) rfl ⟨trivial, trivial, trivial⟩ ?_
 refine z7 rfl (qs _ _) rfl ⟨trivial, trivial, trivial⟩ ?_
 refine z7 rfl (qs _ _) rfl ⟨trivial, trivial, trivial⟩ ?_
 refine xs rfl ⟨trivial, trivial, trivial, trivial, trivial, trivial⟩ ?_
 refine z7 rfl (q83 [_, _, _, _, _] (by simp)) rfl ⟨rfl, trivial⟩ ?_
 refine xr rfl (q7 rfl ⟨⟨rfl, rfl, trivial⟩, z6 rfl⟩)
theorem y8h {p x : Hd} : 0 ≤ Hd.cmp p x ↔ Hd.lt p x = false := by
 unfold Hd.lt
 simp
theorem q6x (c : Clu) (ho : y00 c) (ts : List Tr) (hl : ts.length ≤ 1048576) (ht : ∀ t ∈ ts, q9j t) : PC Tryz.prog 210 [.one (.p c.cs), .one (.l (ts.map Tr.cs))] (rI (scan (q36 c ts) ts.length)) := by
 refine PC.begin Tryz.func210 rfl (by kernel_rfl) ?_
 refine yd rfl (ι := Nat) (fun i => i ≤ ts.length ∧ ∀ j, j < i → q36 c ts j = 0) (fun i => ⟨[(10, sV (.int .i64 i)), (9, sV (.int .i64 (ts.map Tr.cs).length)), (8, .one (.b (.l (ts.map Tr.cs)))), (0, .one (.b (.p c.cs))), (1, .one (.b (.l (ts.map Tr.cs))))], []⟩) (fun i => ts.length - i) 0 ⟨Nat.zero_le _, fun j hj => by omega⟩ ?_ ?_
 · exact ⟨⟨rfl, rfl, rfl, rfl, rfl, trivial⟩, trivial, rfl⟩
 · intro i ⟨hi, h0⟩ J hJ
   refine xb rfl (fun h => ?_) (fun h => ?_)
   · have h : i < ts.length := by simpa using h
     obtain ⟨x, hx⟩ := gx h
     have hg := gm Tr.cs hx
     have hxt := ht x (List.mem_of_getElem? hx)
     rcases Nat.eq_zero_or_pos i with hz | hz
     · subst hz
       refine xs rfl (Int.natCast_nonneg _) ?_
       refine y9 rfl _ hg ?_
       refine xs rfl rfl ?_
       refine z7 rfl (q10 _ (by assumption) _ _) rfl ⟨trivial, trivial, trivial, trivial⟩ ?_
       refine xb rfl (fun b0 => ?_) (fun b0 => ?_)
       refine xr rfl (q7 rfl ⟨⟨rfl, ?_, trivial⟩, z6 rfl⟩)
       rotate_left
       refine z7 rfl (ym _ _ _) rfl ⟨trivial, trivial, trivial, trivial⟩ ?_
       refine xb rfl (fun b1 => ?_) (fun b1 => ?_)
       refine xj (k := 5) rfl ?_
       refine xr rfl (q7 rfl ⟨⟨rfl, ?_, trivial⟩, z6 rfl⟩)
       rotate_left
       refine xj (k := 2) rfl ?_
       refine z7 rfl (ym _ _ _) rfl ⟨trivial, trivial, trivial, trivial⟩ ?_
       refine xj (k := 2) rfl ?_
       refine xb rfl (fun b2 => ?_) (fun b2 => ?_)
       refine xr rfl (q7 rfl ⟨⟨rfl, ?_, trivial⟩, z6 rfl⟩)
       rotate_left
       refine yc rfl [] (.take 0 [] (.take 1 [] (.take 2 [] (.take 3 [] (.take 4 [] (.take 5 [] (.take 6 [] (.take 7 [9, 10, 11, 12] (.take 8 [9, 10, 11, 12] (.alt 9 (.take 10 [] (.take 11 [] (.take 12 [] .done))) .nil)))))))))) (by kernel_rfl) ?_
       refine xj (k := 10) rfl ?_
       refine z7 rfl (q5g c ho x hxt) rfl ⟨trivial, ⟨trivial, trivial, trivial, trivial, trivial, trivial, trivial⟩, trivial⟩ ?_
       refine xb rfl (fun b3 => ?_) (fun b3 => ?_)
       refine xr rfl (q7 rfl ⟨⟨rfl, ?_, trivial⟩, z6 rfl⟩)
       rotate_left
       rotate_left
       all_goals (first | (refine vi (q8 h h0 ?_ (by first | decide | decide | simp_all)); clear hJ h0 hg; (first | (simp_all [q36, ahead_zero, z8i, q4w]; done) | (simp_all [q36, ahead_zero, z8i, q4w]; omega)); done) | (refine ya rfl (hJ _ 1 ⟨by omega, qa h0 ?_⟩ (by omega) ⟨⟨cwi (by omega) (by omega) (by omega), rfl, rfl, rfl, rfl, trivial⟩, trivial, rfl⟩); clear hJ h0 hg; (first | (simp_all [q36, ahead_zero, z8i, q4w]; done) | (simp_all [q36, ahead_zero, z8i, q4w]; omega)); done) | skip)
     · obtain ⟨p, hp⟩ := gx (xs := ts) (i := i - 1) (by omega)
       have hgp := q12 Tr.cs hz (by omega) hp
       refine xs rfl (Int.natCast_nonneg _) ?_
       refine y9 rfl _ hg ?_
       refine xs rfl rfl ?_
       refine z7 rfl (q10 _ (by assumption) _ _) rfl ⟨trivial, trivial, trivial, trivial⟩ ?_
       refine xb rfl (fun b0 => ?_) (fun b0 => ?_)
       refine xr rfl (q7 rfl ⟨⟨rfl, ?_, trivial⟩, z6 rfl⟩)
       rotate_left
       refine z7 rfl (ym _ _ _) rfl ⟨trivial, trivial, trivial, trivial⟩ ?_
       refine xb rfl (fun b1 => ?_) (fun b1 => ?_)
       refine xj (k := 5) rfl ?_
       refine xr rfl (q7 rfl ⟨⟨rfl, ?_, trivial⟩, z6 rfl⟩)
       rotate_left
       refine xj (k := 2) rfl ?_
       refine z7 rfl (ym _ _ _) rfl ⟨trivial, trivial, trivial, trivial⟩ ?_
       refine xj (k := 2) rfl ?_
       refine xb rfl (fun b2 => ?_) (fun b2 => ?_)
       refine xr rfl (q7 rfl ⟨⟨rfl, ?_, trivial⟩, z6 rfl⟩)
       rotate_left
       refine yc rfl [] (.take 0 [] (.take 1 [] (.take 2 [] (.take 3 [] (.take 4 [] (.take 5 [] (.take 6 [] (.take 7 [9, 10, 11, 12] (.take 8 [9, 10, 11, 12] (.alt 9 (.take 10 [] (.take 11 [] (.take 12 [] .done))) .nil)))))))))) (by kernel_rfl) ?_
       refine xb rfl (fun b3 => ?_) (fun b3 => ?_)
       refine xj (k := 3) rfl ?_
       refine xs rfl (y0i hz (by omega)) ?_
       refine y9 rfl _ hgp ?_
       refine xs rfl rfl ?_
       refine xj (k := 3) rfl ?_
       refine z7 rfl (z2r _ _) rfl ⟨⟨trivial, trivial, trivial, trivial, trivial, trivial, trivial⟩, ⟨trivial, trivial, trivial, trivial, trivial, trivial, trivial⟩, trivial⟩ ?_
       refine xj (k := 2) rfl ?_
       refine xb rfl (fun b4 => ?_) (fun b4 => ?_)
       refine xr rfl (q7 rfl ⟨⟨rfl, ?_, trivial⟩, z6 rfl⟩)
       rotate_left
       refine z7 rfl (q5g c ho x hxt) rfl ⟨trivial, ⟨trivial, trivial, trivial, trivial, trivial, trivial, trivial⟩, trivial⟩ ?_
       refine xb rfl (fun b5 => ?_) (fun b5 => ?_)
       refine xr rfl (q7 rfl ⟨⟨rfl, ?_, trivial⟩, z6 rfl⟩)
       rotate_left
       rotate_left
       refine xj (k := 9) rfl ?_
       refine z7 rfl (q5g c ho x hxt) rfl ⟨trivial, ⟨trivial, trivial, trivial, trivial, trivial, trivial, trivial⟩, trivial⟩ ?_
       refine xb rfl (fun b4 => ?_) (fun b4 => ?_)
       refine xr rfl (q7 rfl ⟨⟨rfl, ?_, trivial⟩, z6 rfl⟩)
       rotate_left
       rotate_left
       all_goals (first | (refine vi (q8 h h0 ?_ (by first | decide | decide | simp_all)); clear hJ h0 hg hgp; (first | (simp_all [q36, q9 hz hp, z8i, q4w]; done) | (simp_all [q36, q9 hz hp, z8i, q4w]; omega)); done) | (refine ya rfl (hJ _ (i + 1) ⟨by omega, qa h0 ?_⟩ (by omega) ⟨⟨cwi (by omega) (by omega) (by omega), rfl, rfl, rfl, rfl, trivial⟩, trivial, rfl⟩); clear hJ h0 hg hgp; (first | (simp_all [q36, q9 hz hp, z8i, q4w]; done) | (simp_all [q36, q9 hz hp, z8i, q4w]; omega)); done) | skip)
   · have h : ¬ i < ts.length := by simpa using h
     have hz := zf (f := q36 c ts) (n := ts.length) (fun j hj => h0 j (by omega))
     clear hJ
     refine xr rfl (q7 rfl ⟨⟨rfl, ?_, trivial⟩, z6 rfl⟩)
     exact vi (hz.symm)
theorem y6x (c : Clu) (ho : y00 c) (ks : List Hd) (hl : ks.length ≤ 1048576) : PC Tryz.prog 211 [.one (.p c.cs), .one (.l (ks.map Hd.cs))] (rI (scan (hdF c ks) ks.length)) := by
 refine PC.begin Tryz.func211 rfl (by kernel_rfl) ?_
 have q2 := ho.2.2.1.1
 have p2 : (c.accs.map Acc.cs).length ≤ 1048576 := by simpa using q2
 refine yd rfl (ι := Nat) (fun i => i ≤ ks.length ∧ ∀ j, j < i → hdF c ks j = 0) (fun i => ⟨[(9, sV (.int .i64 i)), (8, sV (.int .i64 (ks.map Hd.cs).length)), (7, .one (.b (.l (ks.map Hd.cs)))), (0, .one (.b (.p c.cs))), (1, .one (.b (.l (ks.map Hd.cs))))], []⟩) (fun i => ks.length - i) 0 ⟨Nat.zero_le _, fun j hj => by omega⟩ ?_ ?_
 · exact ⟨⟨rfl, rfl, rfl, rfl, rfl, trivial⟩, trivial, rfl⟩
 · intro i ⟨hi, h0⟩ J hJ
   refine xb rfl (fun h => ?_) (fun h => ?_)
   · have h : i < ks.length := by simpa using h
     obtain ⟨x, hx⟩ := gx h
     have hg := gm Hd.cs hx
     rcases Nat.eq_zero_or_pos i with hz | hz
     · subst hz
       refine xs rfl (Int.natCast_nonneg _) ?_
       refine y9 rfl _ hg ?_
       refine xs rfl rfl ?_
       refine z7 rfl (q10 _ (by assumption) _ _) rfl ⟨trivial, trivial, trivial, trivial⟩ ?_
       refine xb rfl (fun b0 => ?_) (fun b0 => ?_)
       refine xr rfl (q7 rfl ⟨⟨rfl, ?_, trivial⟩, z6 rfl⟩)
       rotate_left
       refine yc rfl [] (.take 0 [] (.take 1 [2, 3, 4, 5, 6, 7, 8, 9, 10, 11, 12, 13, 14, 15, 16, 17, 18, 19, 20] (.alt 2 (.take 3 [] (.take 4 [] (.take 5 [] (.take 6 [7, 8, 9, 10, 11, 12, 13, 14, 15, 16, 17, 18, 19, 20] (.alt 7 (.take 8 [] (.take 9 [] (.take 10 [] (.take 11 [] (.take 12 [17, 18, 19, 20] (.take 13 [] (.take 14 [] (.take 15 [] (.take 16 [17, 18, 19, 20] (.alt 17 (.take 18 [] (.take 19 [] (.take 20 [] .done))) .nil)))))))))) .nil))))) .nil))) (by kernel_rfl) ?_
       refine z7 rfl (y05 _) rfl ⟨trivial, trivial⟩ ?_
       refine xb rfl (fun b1 => ?_) (fun b1 => ?_)
       refine xj (k := 14) rfl ?_
       refine xr rfl (q7 rfl ⟨⟨rfl, ?_, trivial⟩, z6 rfl⟩)
       rotate_left
       refine xj (k := 2) rfl ?_
       refine z7 rfl (q0j _) rfl ⟨trivial, trivial⟩ ?_
       refine xj (k := 2) rfl ?_
       refine xb rfl (fun b2 => ?_) (fun b2 => ?_)
       refine xj (k := 9) rfl ?_
       refine xr rfl (q7 rfl ⟨⟨rfl, ?_, trivial⟩, z6 rfl⟩)
       rotate_left
       refine xj (k := 6) rfl ?_
       refine z7 rfl (z0b _ _ (by assumption)) rfl ⟨trivial, trivial, trivial⟩ ?_
       refine xj (k := 2) rfl ?_
       refine xb rfl (fun b3 => ?_) (fun b3 => ?_)
       refine xr rfl (q7 rfl ⟨⟨rfl, ?_, trivial⟩, z6 rfl⟩)
       rotate_left
       refine yc rfl [] (.take 0 [] (.take 1 [] (.take 2 [] (.take 3 [] (.take 4 [] (.take 5 [] (.take 6 [] (.take 7 [9, 10, 11, 12] (.take 8 [9, 10, 11, 12] (.alt 9 (.take 10 [] (.take 11 [] (.take 12 [] .done))) .nil)))))))))) (by kernel_rfl) ?_
       refine xj (k := 10) rfl ?_
       rotate_left
       all_goals (first | (refine vi (q8 h h0 ?_ (by first | decide | decide | simp_all)); clear hJ h0 hg; (first | (simp_all [hdF, ahead_zero, y8h]; done) | (simp_all [hdF, ahead_zero, y8h]; omega)); done) | (refine ya rfl (hJ _ 1 ⟨by omega, qa h0 ?_⟩ (by omega) ⟨⟨cwi (by omega) (by omega) (by omega), rfl, rfl, rfl, rfl, trivial⟩, trivial, rfl⟩); clear hJ h0 hg; (first | (simp_all [hdF, ahead_zero, y8h]; done) | (simp_all [hdF, ahead_zero, y8h]; omega)); done) | skip)
     · obtain ⟨p, hp⟩ := gx (xs := ks) (i := i - 1) (by omega)
       have hgp := q12 Hd.cs hz (by omega) hp
       refine xs rfl (Int.natCast_nonneg _) ?_
       refine y9 rfl _ hg ?_
       refine xs rfl rfl ?_
       refine z7 rfl (q10 _ (by assumption) _ _) rfl ⟨trivial, trivial, trivial, trivial⟩ ?_
       refine xb rfl (fun b0 => ?_) (fun b0 => ?_)
       refine xr rfl (q7 rfl ⟨⟨rfl, ?_, trivial⟩, z6 rfl⟩)
       rotate_left
       refine yc rfl [] (.take 0 [] (.take 1 [2, 3, 4, 5, 6, 7, 8, 9, 10, 11, 12, 13, 14, 15, 16, 17, 18, 19, 20] (.alt 2 (.take 3 [] (.take 4 [] (.take 5 [] (.take 6 [7, 8, 9, 10, 11, 12, 13, 14, 15, 16, 17, 18, 19, 20] (.alt 7 (.take 8 [] (.take 9 [] (.take 10 [] (.take 11 [] (.take 12 [17, 18, 19, 20] (.take 13 [] (.take 14 [] (.take 15 [] (.take 16 [17, 18, 19, 20] (.alt 17 (.take 18 [] (.take 19 [] (.take 20 [] .done))) .nil)))))))))) .nil))))) .nil))) (by kernel_rfl) ?_
       refine z7 rfl (y05 _) rfl ⟨trivial, trivial⟩ ?_
       refine xb rfl (fun b1 => ?_) (fun b1 => ?_)
       refine xj (k := 14) rfl ?_
       refine xr rfl (q7 rfl ⟨⟨rfl, ?_, trivial⟩, z6 rfl⟩)
       rotate_left
       refine xj (k := 2) rfl ?_
       refine z7 rfl (q0j _) rfl ⟨trivial, trivial⟩ ?_
       refine xj (k := 2) rfl ?_
       refine xb rfl (fun b2 => ?_) (fun b2 => ?_)
       refine xj (k := 9) rfl ?_
       refine xr rfl (q7 rfl ⟨⟨rfl, ?_, trivial⟩, z6 rfl⟩)
       rotate_left
       refine xj (k := 6) rfl ?_
       refine z7 rfl (z0b _ _ (by assumption)) rfl ⟨trivial, trivial, trivial⟩ ?_
       refine xj (k := 2) rfl ?_
       refine xb rfl (fun b3 => ?_) (fun b3 => ?_)
       refine xr rfl (q7 rfl ⟨⟨rfl, ?_, trivial⟩, z6 rfl⟩)
       rotate_left
       refine yc rfl [] (.take 0 [] (.take 1 [] (.take 2 [] (.take 3 [] (.take 4 [] (.take 5 [] (.take 6 [] (.take 7 [9, 10, 11, 12] (.take 8 [9, 10, 11, 12] (.alt 9 (.take 10 [] (.take 11 [] (.take 12 [] .done))) .nil)))))))))) (by kernel_rfl) ?_
       refine xb rfl (fun b4 => ?_) (fun b4 => ?_)
       refine xj (k := 3) rfl ?_
       refine xs rfl (y0i hz (by omega)) ?_
       refine y9 rfl _ hgp ?_
       refine xs rfl rfl ?_
       refine xj (k := 3) rfl ?_
       refine z7 rfl (y2q _ _) rfl ⟨⟨trivial, trivial, trivial, trivial, trivial, trivial⟩, ⟨trivial, trivial, trivial, trivial, trivial, trivial⟩, trivial⟩ ?_
       refine xj (k := 2) rfl ?_
       refine xb rfl (fun b5 => ?_) (fun b5 => ?_)
       refine xr rfl (q7 rfl ⟨⟨rfl, ?_, trivial⟩, z6 rfl⟩)
       rotate_left
       rotate_left
       refine xj (k := 9) rfl ?_
       rotate_left
       all_goals (first | (refine vi (q8 h h0 ?_ (by first | decide | decide | simp_all)); clear hJ h0 hg hgp; (first | (simp_all [hdF, q9 hz hp, y8h]; done) | (simp_all [hdF, q9 hz hp, y8h]; omega)); done) | (refine ya rfl (hJ _ (i + 1) ⟨by omega, qa h0 ?_⟩ (by omega) ⟨⟨cwi (by omega) (by omega) (by omega), rfl, rfl, rfl, rfl, trivial⟩, trivial, rfl⟩); clear hJ h0 hg hgp; (first | (simp_all [hdF, q9 hz hp, y8h]; done) | (simp_all [hdF, q9 hz hp, y8h]; omega)); done) | skip)
   · have h : ¬ i < ks.length := by simpa using h
     have hz := zf (f := hdF c ks) (n := ks.length) (fun j hj => h0 j (by omega))
     clear hJ
     refine xr rfl (q7 rfl ⟨⟨rfl, ?_, trivial⟩, z6 rfl⟩)
     exact vi (hz.symm)
theorem z8y (c : Clu) (ho : y00 c) (l : Ldr) (hl : z8o l) : PC Tryz.prog 132 [.one (.p c.cs), .agg l.cs] (rI (z72 c l)) := by
 refine PC.begin Tryz.func132 rfl (by kernel_rfl) ?_
 obtain ⟨l1, l2, l3⟩ := hl
 have hT := q6x c ho l.tries l1 l3
 have hK := y6x c ho l.known l2
 refine z7 rfl (ym _ _ _) rfl ⟨trivial, trivial, trivial, trivial⟩ ?_
 refine xb rfl (fun b0 => ?_) (fun b0 => ?_)
 refine xr rfl (q7 rfl ⟨⟨rfl, ?_, trivial⟩, z6 rfl⟩)
 rotate_left
 refine xb rfl (fun b1 => ?_) (fun b1 => ?_)
 refine xj (k := 5) rfl ?_
 refine xr rfl (q7 rfl ⟨⟨rfl, ?_, trivial⟩, z6 rfl⟩)
 rotate_left
 refine xj (k := 4) rfl ?_
 refine xb rfl (fun b2 => ?_) (fun b2 => ?_)
 refine xr rfl (q7 rfl ⟨⟨rfl, ?_, trivial⟩, z6 rfl⟩)
 rotate_left
 refine yc rfl [] (.take 0 [] (.take 1 [] (.take 2 [3, 7, 8, 9, 10] (.take 4 [] (.take 5 [] (.take 6 [7, 8, 9, 10] (.alt 3 (.alt 7 (.alt 8 (.alt 9 (.take 10 [] .done) .nil) .nil) .nil) .nil))))))) (by kernel_rfl) ?_
 refine z7 rfl (hT) rfl ⟨trivial, trivial, trivial⟩ ?_
 refine z7 rfl (hK) rfl ⟨trivial, trivial, trivial⟩ ?_
 refine xs rfl ⟨trivial, trivial, trivial⟩ ?_
 refine z7 rfl (y21 [_, _] (by simp)) rfl ⟨rfl, trivial⟩ ?_
 refine xr rfl (q7 rfl ⟨⟨rfl, ?_, trivial⟩, z6 rfl⟩)
 rotate_left
 all_goals (refine vi ?_; clear hT hK; unfold z72; simp_all; try omega)
end Go.Proofs.YthljegacamgnnaaGreat
end
section
namespace Go.Proofs.YthljegacamgnnaaGreat
open Go Go.Sx
set_option maxRecDepth 20000
set_option maxHeartbeats 4000000
theorem z4k (a b : Hd) : PC Tryz.prog 188 [.agg a.cs, .agg b.cs] (rB (Hd.lt a b)) := by
 refine PC.begin Tryz.func188 rfl (by kernel_rfl) ?_
 refine xs rfl ⟨trivial, trivial, trivial, trivial, trivial, trivial⟩ ?_
 refine xs rfl ⟨trivial, trivial, trivial, trivial, trivial, trivial⟩ ?_
 refine yd rfl (ι := Nat) (fun i => i ≤ 5 ∧ (1 ≤ i → a.c = b.c) ∧ (2 ≤ i → a.s = b.s) ∧ (3 ≤ i → a.b = b.b) ∧ (4 ≤ i → a.v = b.v) ∧ (5 ≤ i → a.f = b.f)) (fun i => ⟨[(7, sV (.int .i64 i)), (5, .one (.h 18 5)), (6, .one (.h 29 5))], [(18, .arr true 1 0 [[i64 a.c], [i64 a.s], [i64 a.b], [i64 a.v], [i64 a.f]]), (29, .arr true 1 0 [[i64 b.c], [i64 b.s], [i64 b.b], [i64 b.v], [i64 b.f]])]⟩) (fun i => 5 - i) 0 ⟨by omega, by omega, by omega, by omega, by omega, by omega⟩ ?_ ?_
 · exact ⟨⟨rfl, ⟨rfl, rfl, rfl⟩, ⟨rfl, rfl, rfl⟩, trivial⟩, ⟨⟨rfl, .inl rfl, .inl rfl⟩, ⟨rfl, .inl rfl, .inl rfl⟩, trivial⟩, rfl⟩
 · intro i ⟨hi, h1, h2, h3, h4, h5⟩ J hJ
   have hc : i = 0 ∨ i = 1 ∨ i = 2 ∨ i = 3 ∨ i = 4 ∨ i = 5 := by omega
   rcases hc with rfl | rfl | rfl | rfl | rfl | rfl
   · skip
     clear h1 h2 h3 h4 h5
     have hga : [[i64 a.c], [i64 a.s], [i64 a.b], [i64 a.v], [i64 a.f]][((0 : Nat) : Int).toNat]? = some [i64 a.c] := rfl
     have hgb : [[i64 b.c], [i64 b.s], [i64 b.b], [i64 b.v], [i64 b.f]][((0 : Nat) : Int).toNat]? = some [i64 b.c] := rfl
     refine xj (k := 1) rfl ?_
     refine yc rfl [] (.take 0 [] (.take 1 [] (.take 2 [] (.take 3 [8] (.take 4 [] (.take 5 [] (.take 6 [] (.take 7 [8] (.take 8 [] .done))))))))) (by kernel_rfl) ?_
     refine xs rfl rfl ?_
     refine xs rfl (by decide) ?_
     refine y9 rfl _ hga ?_
     refine xs rfl rfl ?_
     refine xs rfl rfl ?_
     refine y9 rfl _ hga ?_
     refine xs rfl rfl ?_
     refine xs rfl (by decide) ?_
     refine y9 rfl _ hgb ?_
     refine xs rfl rfl ?_
     refine xs rfl rfl ?_
     refine y9 rfl _ hgb ?_
     refine xb rfl (fun b0 => ?_) (fun b0 => ?_)
     refine yc rfl [] (.take 0 [] (.take 1 [] (.take 2 [] (.take 3 [8, 9] (.take 4 [] (.take 5 [] (.take 6 [] (.take 7 [8, 9] (.take 8 [] (.take 9 [] .done)))))))))) (by kernel_rfl) ?_
     refine xs rfl rfl ?_
     refine xs rfl (by decide) ?_
     refine y9 rfl _ hga ?_
     refine xs rfl rfl ?_
     refine xs rfl rfl ?_
     refine y9 rfl _ hga ?_
     refine xs rfl rfl ?_
     refine xs rfl (by decide) ?_
     refine y9 rfl _ hgb ?_
     refine xs rfl rfl ?_
     refine xs rfl rfl ?_
     refine y9 rfl _ hgb ?_
     refine xr rfl (q7 rfl ⟨⟨rfl, ?_, trivial⟩, z6 rfl⟩)
     rotate_left
     rotate_left
     · have hn : ¬ a.c = b.c := by simpa using b0
       refine vb ?_
       rw [Bool.eq_iff_iff]
       simp only [Hd.lt, Hd.cmp, orr, q0e, decide_eq_true_eq]
       (repeat' split) <;> first | omega | (simp; omega) | (simp_all; done) | (simp_all; omega)
     · have hn : a.c = b.c := by simpa using b0
       exact ya rfl (hJ _ 1 ⟨by omega, by omega, by omega, by omega, by omega, by omega⟩ (by omega) ⟨⟨rfl, ⟨rfl, rfl, rfl⟩, ⟨rfl, rfl, rfl⟩, trivial⟩, ⟨⟨rfl, .inl rfl, .inl rfl⟩, ⟨rfl, .inl rfl, .inl rfl⟩, trivial⟩, rfl⟩)
   · skip
     have e1 := h1 (by omega)
     clear h1 h2 h3 h4 h5
     have hga : [[i64 a.c], [i64 a.s], [i64 a.b], [i64 a.v], [i64 a.f]][((1 : Nat) : Int).toNat]? = some [i64 a.s] := rfl
     have hgb : [[i64 b.c], [i64 b.s], [i64 b.b], [i64 b.v], [i64 b.f]][((1 : Nat) : Int).toNat]? = some [i64 b.s] := rfl
     refine xj (k := 1) rfl ?_
     refine yc rfl [] (.take 0 [] (.take 1 [] (.take 2 [] (.take 3 [8] (.take 4 [] (.take 5 [] (.take 6 [] (.take 7 [8] (.take 8 [] .done))))))))) (by kernel_rfl) ?_
     refine xs rfl rfl ?_
     refine xs rfl (by decide) ?_
     refine y9 rfl _ hga ?_
     refine xs rfl rfl ?_
     refine xs rfl rfl ?_
     refine y9 rfl _ hga ?_
     refine xs rfl rfl ?_
     refine xs rfl (by decide) ?_
     refine y9 rfl _ hgb ?_
     refine xs rfl rfl ?_
     refine xs rfl rfl ?_
     refine y9 rfl _ hgb ?_
     refine xb rfl (fun b0 => ?_) (fun b0 => ?_)
     refine yc rfl [] (.take 0 [] (.take 1 [] (.take 2 [] (.take 3 [8, 9] (.take 4 [] (.take 5 [] (.take 6 [] (.take 7 [8, 9] (.take 8 [] (.take 9 [] .done)))))))))) (by kernel_rfl) ?_
     refine xs rfl rfl ?_
     refine xs rfl (by decide) ?_
     refine y9 rfl _ hga ?_
     refine xs rfl rfl ?_
     refine xs rfl rfl ?_
     refine y9 rfl _ hga ?_
     refine xs rfl rfl ?_
     refine xs rfl (by decide) ?_
     refine y9 rfl _ hgb ?_
     refine xs rfl rfl ?_
     refine xs rfl rfl ?_
     refine y9 rfl _ hgb ?_
     refine xr rfl (q7 rfl ⟨⟨rfl, ?_, trivial⟩, z6 rfl⟩)
     rotate_left
     rotate_left
     · have hn : ¬ a.s = b.s := by simpa using b0
       refine vb ?_
       rw [Bool.eq_iff_iff]
       simp only [Hd.lt, Hd.cmp, orr, q0e, e1, decide_eq_true_eq]
       (repeat' split) <;> first | omega | (simp; omega) | (simp_all; done) | (simp_all; omega)
     · have hn : a.s = b.s := by simpa using b0
       exact ya rfl (hJ _ 2 ⟨by omega, by omega, by omega, by omega, by omega, by omega⟩ (by omega) ⟨⟨rfl, ⟨rfl, rfl, rfl⟩, ⟨rfl, rfl, rfl⟩, trivial⟩, ⟨⟨rfl, .inl rfl, .inl rfl⟩, ⟨rfl, .inl rfl, .inl rfl⟩, trivial⟩, rfl⟩)
   · skip
     have e1 := h1 (by omega)
     have e2 := h2 (by omega)
     clear h1 h2 h3 h4 h5
     have hga : [[i64 a.c], [i64 a.s], [i64 a.b], [i64 a.v], [i64 a.f]][((2 : Nat) : Int).toNat]? = some [i64 a.b] := rfl
     have hgb : [[i64 b.c], [i64 b.s], [i64 b.b], [i64 b.v], [i64 b.f]][((2 : Nat) : Int).toNat]? = some [i64 b.b] := rfl
     refine xj (k := 1) rfl ?_
     refine yc rfl [] (.take 0 [] (.take 1 [] (.take 2 [] (.take 3 [8] (.take 4 [] (.take 5 [] (.take 6 [] (.take 7 [8] (.take 8 [] .done))))))))) (by kernel_rfl) ?_
     refine xs rfl rfl ?_
     refine xs rfl (by decide) ?_
     refine y9 rfl _ hga ?_
     refine xs rfl rfl ?_
     refine xs rfl rfl ?_
     refine y9 rfl _ hga ?_
     refine xs rfl rfl ?_
     refine xs rfl (by decide) ?_
     refine y9 rfl _ hgb ?_
     refine xs rfl rfl ?_
     refine xs rfl rfl ?_
     refine y9 rfl _ hgb ?_
     refine xb rfl (fun b0 => ?_) (fun b0 => ?_)
     refine yc rfl [] (.take 0 [] (.take 1 [] (.take 2 [] (.take 3 [8, 9] (.take 4 [] (.take 5 [] (.take 6 [] (.take 7 [8, 9] (.take 8 [] (.take 9 [] .done)))))))))) (by kernel_rfl) ?_
     refine xs rfl rfl ?_
     refine xs rfl (by decide) ?_
     refine y9 rfl _ hga ?_
     refine xs rfl rfl ?_
     refine xs rfl rfl ?_
     refine y9 rfl _ hga ?_
     refine xs rfl rfl ?_
     refine xs rfl (by decide) ?_
     refine y9 rfl _ hgb ?_
     refine xs rfl rfl ?_
     refine xs rfl rfl ?_
     refine y9 rfl _ hgb ?_
     refine xr rfl (q7 rfl ⟨⟨rfl, ?_, trivial⟩, z6 rfl⟩)
     rotate_left
     rotate_left
     · have hn : ¬ a.b = b.b := by simpa using b0
       refine vb ?_
       rw [Bool.eq_iff_iff]
       simp only [Hd.lt, Hd.cmp, orr, q0e, e1, e2, decide_eq_true_eq]
       (repeat' split) <;> first | omega | (simp; omega) | (simp_all; done) | (simp_all; omega)
     · have hn : a.b = b.b := by simpa using b0
       exact ya rfl (hJ _ 3 ⟨by omega, by omega, by omega, by omega, by omega, by omega⟩ (by omega) ⟨⟨rfl, ⟨rfl, rfl, rfl⟩, ⟨rfl, rfl, rfl⟩, trivial⟩, ⟨⟨rfl, .inl rfl, .inl rfl⟩, ⟨rfl, .inl rfl, .inl rfl⟩, trivial⟩, rfl⟩)
   · skip
     have e1 := h1 (by omega)
     have e2 := h2 (by omega)
     have e3 := h3 (by omega)
     clear h1 h2 h3 h4 h5
     have hga : [[i64 a.c], [i64 a.s], [i64 a.b], [i64 a.v], [i64 a.f]][((3 : Nat) : Int).toNat]? = some [i64 a.v] := rfl
     have hgb : [[i64 b.c], [i64 b.s], [i64 b.b], [i64 b.v], [i64 b.f]][((3 : Nat) : Int).toNat]? = some [i64 b.v] := rfl
     refine xj (k := 1) rfl ?_
     refine yc rfl [] (.take 0 [] (.take 1 [] (.take 2 [] (.take 3 [8] (.take 4 [] (.take 5 [] (.take 6 [] (.take 7 [8] (.take 8 [] .done))))))))) (by kernel_rfl) ?_
     refine xs rfl rfl ?_
     refine xs rfl (by decide) ?_
     refine y9 rfl _ hga ?_
     refine xs rfl rfl ?_
     refine xs rfl rfl ?_
     refine y9 rfl _ hga ?_
     refine xs rfl rfl ?_
     refine xs rfl (by decide) ?_
     refine y9 rfl _ hgb ?_
     refine xs rfl rfl ?_
     refine xs rfl rfl ?_
     refine y9 rfl _ hgb ?_
     refine xb rfl (fun b0 => ?_) (fun b0 => ?_)
     refine yc rfl [] (.take 0 [] (.take 1 [] (.take 2 [] (.take 3 [8, 9] (.take 4 [] (.take 5 [] (.take 6 [] (.take 7 [8, 9] (.take 8 [] (.take 9 [] .done)))))))))) (by kernel_rfl) ?_
     refine xs rfl rfl ?_
     refine xs rfl (by decide) ?_
     refine y9 rfl _ hga ?_
     refine xs rfl rfl ?_
     refine xs rfl rfl ?_
     refine y9 rfl _ hga ?_
     refine xs rfl rfl ?_
     refine xs rfl (by decide) ?_
     refine y9 rfl _ hgb ?_
     refine xs rfl rfl ?_
     refine xs rfl rfl ?_
     refine y9 rfl _ hgb ?_
     refine xr rfl (q7 rfl ⟨⟨rfl, ?_, trivial⟩, z6 rfl⟩)
     rotate_left
     rotate_left
     · have hn : ¬ a.v = b.v := by simpa using b0
       refine vb ?_
       rw [Bool.eq_iff_iff]
       simp only [Hd.lt, Hd.cmp, orr, q0e, e1, e2, e3, decide_eq_true_eq]
       (repeat' split) <;> first | omega | (simp; omega) | (simp_all; done) | (simp_all; omega)
     · have hn : a.v = b.v := by simpa using b0
       exact ya rfl (hJ _ 4 ⟨by omega, by omega, by omega, by omega, by omega, by omega⟩ (by omega) ⟨⟨rfl, ⟨rfl, rfl, rfl⟩, ⟨rfl, rfl, rfl⟩, trivial⟩, ⟨⟨rfl, .inl rfl, .inl rfl⟩, ⟨rfl, .inl rfl, .inl rfl⟩, trivial⟩, rfl⟩)
   · skip
     have e1 := h1 (by omega)
     have e2 := h2 (by omega)
     have e3 := h3 (by omega)
     have e4 := h4 (by omega)
     clear h1 h2 h3 h4 h5
     have hga : [[i64 a.c], [i64 a.s], [i64 a.b], [i64 a.v], [i64 a.f]][((4 : Nat) : Int).toNat]? = some [i64 a.f] := rfl
     have hgb : [[i64 b.c], [i64 b.s], [i64 b.b], [i64 b.v], [i64 b.f]][((4 : Nat) : Int).toNat]? = some [i64 b.f] := rfl
     refine xj (k := 1) rfl ?_
     refine yc rfl [] (.take 0 [] (.take 1 [] (.take 2 [] (.take 3 [8] (.take 4 [] (.take 5 [] (.take 6 [] (.take 7 [8] (.take 8 [] .done))))))))) (by kernel_rfl) ?_
     refine xs rfl rfl ?_
     refine xs rfl (by decide) ?_
     refine y9 rfl _ hga ?_
     refine xs rfl rfl ?_
     refine xs rfl rfl ?_
     refine y9 rfl _ hga ?_
     refine xs rfl rfl ?_
     refine xs rfl (by decide) ?_
     refine y9 rfl _ hgb ?_
     refine xs rfl rfl ?_
     refine xs rfl rfl ?_
     refine y9 rfl _ hgb ?_
     refine xb rfl (fun b0 => ?_) (fun b0 => ?_)
     refine yc rfl [] (.take 0 [] (.take 1 [] (.take 2 [] (.take 3 [8, 9] (.take 4 [] (.take 5 [] (.take 6 [] (.take 7 [8, 9] (.take 8 [] (.take 9 [] .done)))))))))) (by kernel_rfl) ?_
     refine xs rfl rfl ?_
     refine xs rfl (by decide) ?_
     refine y9 rfl _ hga ?_
     refine xs rfl rfl ?_
     refine xs rfl rfl ?_
     refine y9 rfl _ hga ?_
     refine xs rfl rfl ?_
     refine xs rfl (by decide) ?_
     refine y9 rfl _ hgb ?_
     refine xs rfl rfl ?_
     refine xs rfl rfl ?_
     refine y9 rfl _ hgb ?_
     refine xr rfl (q7 rfl ⟨⟨rfl, ?_, trivial⟩, z6 rfl⟩)
     rotate_left
     rotate_left
     · have hn : ¬ a.f = b.f := by simpa using b0
       refine vb ?_
       rw [Bool.eq_iff_iff]
       simp only [Hd.lt, Hd.cmp, orr, q0e, e1, e2, e3, e4, decide_eq_true_eq]
       (repeat' split) <;> first | omega | (simp; omega) | (simp_all; done) | (simp_all; omega)
     · have hn : a.f = b.f := by simpa using b0
       exact ya rfl (hJ _ 5 ⟨by omega, by omega, by omega, by omega, by omega, by omega⟩ (by omega) ⟨⟨rfl, ⟨rfl, rfl, rfl⟩, ⟨rfl, rfl, rfl⟩, trivial⟩, ⟨⟨rfl, .inl rfl, .inl rfl⟩, ⟨rfl, .inl rfl, .inl rfl⟩, trivial⟩, rfl⟩)
   · have e1 := h1 (by omega)
     have e2 := h2 (by omega)
     have e3 := h3 (by omega)
     have e4 := h4 (by omega)
     have e5 := h5 (by omega)
     refine xj (k := 1) rfl ?_
     refine xr rfl (q7 rfl ⟨⟨rfl, ?_, trivial⟩, z6 rfl⟩)
     refine vb ?_
     simp [Hd.lt, Hd.cmp, orr, q0e, e1, e2, e3, e4, e5]
end Go.Proofs.YthljegacamgnnaaGreat
end
section
namespace Go.Proofs.YthljegacamgnnaaGreat
open Go Go.Sx
set_option maxRecDepth 20000
set_option maxHeartbeats 4000000
theorem q3m (c : Clu) (y : Int) : True := trivial
theorem y8m {c : Clu} {ts : List Tr} {i : Nat} {t : Tr} {h w1 w2 a d : Bool} (e1 : q0t c.cons t.c t.s = h) (e2 : Go.Sx.within t.b 1 1000 = w1) (e3 : Go.Sx.within t.v 0 2 = w2) (e4 : Go.Sx.ahead Tr.lt ts i t = a) (e5 : (t.fr.length != t.olds.length) = d) : q4w c ts i t = (bif h then (bif w1 then (bif w2 then (bif a then (bif d then 1 else y6h c t) else 1) else 3) else 3) else 4) := by
 unfold q4w
 rw [e1, e2, e3, e4, e5]
 cases h <;> cases w1 <;> cases w2 <;> cases a <;> cases d <;> rfl
theorem zao {us : List Int} {vs : List Vt} : (((ints us).length : Int) != ((vs.map Vt.cs).length : Int)) = (us.length != vs.length) := by
 rw [Bool.eq_iff_iff]
 simp
 omega
theorem z9c (c : Clu) (ho : y00 c) (ts : List Tr) (i : Nat) (t : Tr) (hl : ts.length ≤ 1048576) (ht : q9j t) (hx : ts[i]? = some t) : PC Tryz.prog 185 [.one (.p c.cs), .one (.l (ts.map Tr.cs)), .one (i64 i)] (rI (q4w c ts i t)) := by
 refine PC.begin Tryz.func185 rfl (by kernel_rfl) ?_
 obtain ⟨o1, o2⟩ := ht
 have hg := gm Tr.cs hx
 have hlt := (List.getElem?_eq_some_iff.1 hx).1
 have w2 := wl1 Acc.cs ho.2.2.1.1
 have hD := (zao (us := t.fr) (vs := t.olds)).symm
 rcases Nat.eq_zero_or_pos i with hz | hz
 · have hA : Go.Sx.ahead Tr.lt ts i t = true := by subst hz; rfl
   have hK := y8m (c := c) rfl rfl rfl hA hD
   subst hz
   refine xs rfl (Int.natCast_nonneg _) ?_
   refine y9 rfl _ hg ?_
   refine xs rfl rfl ?_
   refine z7 rfl (yv _ (by assumption) _ _) rfl ⟨trivial, trivial, trivial, trivial⟩ ?_
   refine xb rfl (fun b0 => ?_) (fun b0 => ?_)
   refine xr rfl (q7 rfl ⟨⟨rfl, ?_, trivial⟩, z6 rfl⟩)
   rotate_left
   refine z7 rfl (zj _ _ _) rfl ⟨trivial, trivial, trivial, trivial⟩ ?_
   refine xb rfl (fun b1 => ?_) (fun b1 => ?_)
   refine xj (k := 5) rfl ?_
   refine xr rfl (q7 rfl ⟨⟨rfl, ?_, trivial⟩, z6 rfl⟩)
   rotate_left
   refine xj (k := 2) rfl ?_
   refine z7 rfl (zj _ _ _) rfl ⟨trivial, trivial, trivial, trivial⟩ ?_
   refine xj (k := 2) rfl ?_
   refine xb rfl (fun b2 => ?_) (fun b2 => ?_)
   refine xr rfl (q7 rfl ⟨⟨rfl, ?_, trivial⟩, z6 rfl⟩)
   rotate_left
   refine yc rfl [] (.take 0 [] (.take 1 [] (.take 2 [] (.take 3 [] (.take 4 [] (.take 5 [] (.take 6 [] (.take 7 [] (.take 8 [15, 21, 22, 23, 24, 25, 26, 27, 28, 29, 30, 31, 32] (.take 9 [] (.take 10 [] (.take 11 [] (.take 12 [] (.take 13 [] (.take 14 [15, 21, 22, 23, 24, 25, 26, 27, 28, 29, 30, 31, 32] (.take 15 [] (.take 16 [] (.take 17 [20, 21, 22, 23, 24, 25, 26, 27, 28, 29, 30, 31, 32] (.take 18 [] (.take 19 [20, 21, 22, 23, 24, 25, 26, 27, 28, 29, 30, 31, 32] (.take 20 [] (.alt 21 (.take 22 [] (.take 23 [] (.take 24 [] (.take 25 [] (.take 26 [27, 31, 32] (.take 27 [] (.take 28 [] (.take 29 [30, 31, 32] (.take 30 [] (.take 31 [] (.take 32 [] .done))))))))))) .nil)))))))))))))))))))))) (by kernel_rfl) ?_
   refine xj (k := 29) rfl ?_
   refine xb rfl (fun b3 => ?_) (fun b3 => ?_)
   refine xr rfl (q7 rfl ⟨⟨rfl, ?_, trivial⟩, z6 rfl⟩)
   rotate_left
   rotate_left
   all_goals first | (refine vi ?_; rw [hK]; clear hg hK hA; simp_all only [Bool.not_eq_true', Bool.not_eq_false', cond_true, cond_false]; done) | skip
   have hT : q4w c ts 0 t = y6h c t := by rw [hK]; clear hg hK hA; simp_all only [Bool.not_eq_true', Bool.not_eq_false', cond_true, cond_false]
   have hle : t.fr.length = t.olds.length := by have := hD.trans b3; simpa using this
   clear hK hD b0 b1 b2 b3 hA
   refine yd rfl (ι := Nat) (fun k => k ≤ t.fr.length ∧ (∀ j y, j < k → t.fr[j]? = some y → q1l c y = false) ∧ ∀ j y, j < k → t.olds[j]? = some y → q0l y = false) (fun k => ⟨[(8, sV (.int .i64 k)), (7, .one (.a 7 0)), (0, .one (.b (.p c.cs)))], [(7, .var (t.cs.map .b))]⟩) (fun k => t.fr.length - k) 0 ⟨Nat.zero_le _, fun j y hj => by omega, fun j y hj => by omega⟩ ?_ ?_
   · exact ⟨⟨rfl, ⟨rfl, rfl, rfl⟩, rfl, trivial⟩, ⟨⟨rfl, rfl, rfl, rfl, rfl, rfl, trivial⟩, trivial⟩, rfl⟩
   · intro k ⟨hk, h0k, h1k⟩ Jk hJk
     refine xb rfl (fun hh => ?_) (fun hh => ?_)
     · have hh : k < t.fr.length := by simpa using hh
       obtain ⟨y, hy⟩ := gx hh
       obtain ⟨v, hv⟩ := gx (xs := t.olds) (i := k) (by omega)
       have hgy := gm (fun n => [i64 n]) hy
       have hgv := gm Vt.cs hv
       have hwq := q3m c y
       refine yc rfl [] (.take 0 [] (.take 1 [3, 4, 11, 12, 13, 14, 15, 16, 17, 18, 19, 20, 21, 22, 23, 24, 25, 26, 27, 28, 29, 30] (.take 2 [] (.take 3 [] (.take 4 [11, 12, 13, 14, 15, 16, 17, 18, 19, 20, 21, 22, 23, 24, 25, 26, 27, 28, 29, 30] (.take 5 [] (.take 6 [] (.take 7 [] (.take 8 [9, 10, 11, 12, 13, 14, 15, 16, 17, 18, 19, 20, 21, 22, 23, 24, 25, 26, 27, 28, 29, 30] (.take 9 [] (.take 10 [] (.alt 11 (.take 12 [] (.take 13 [] (.take 14 [] (.take 15 [17, 18, 20, 21, 22, 23, 24, 25, 26, 27, 28, 29, 30] (.take 16 [] (.take 17 [] (.take 18 [20, 21, 22, 23, 24, 25, 26, 27, 28, 29, 30] (.alt 19 (.take 20 [] (.take 21 [] (.take 22 [] (.take 23 [25, 26, 27, 28, 29, 30] (.take 24 [] (.take 25 [] (.take 26 [27, 28, 29, 30] (.alt 27 (.take 28 [] (.take 29 [] (.take 30 [] .done))) .nil)))))))) .nil)))))))) .nil)))))))))))) (by kernel_rfl) ?_
       refine xs rfl (Int.natCast_nonneg _) ?_
       refine y9 rfl _ hgy ?_
       refine xs rfl rfl ?_
       refine z7 rfl (zj _ _ _) rfl ⟨trivial, trivial, trivial, trivial⟩ ?_
       refine xb rfl (fun b0 => ?_) (fun b0 => ?_)
       refine xj (k := 10) rfl ?_
       refine xr rfl (q7 rfl ⟨⟨rfl, ?_, trivial⟩, z6 rfl⟩)
       rotate_left
       refine xj (k := 3) rfl ?_
       refine xs rfl (Int.natCast_nonneg _) ?_
       refine y9 rfl _ hgv ?_
       refine xs rfl rfl ?_
       refine xj (k := 2) rfl ?_
       refine z7 rfl (q1t) rfl trivial ?_
       refine xj (k := 2) rfl ?_
       refine xb rfl (fun b1 => ?_) (fun b1 => ?_)
       refine xj (k := 3) rfl ?_
       refine xs rfl (Int.natCast_nonneg _) ?_
       refine y9 rfl _ hgv ?_
       refine xs rfl rfl ?_
       refine xj (k := 2) rfl ?_
       refine z7 rfl (z1n _) rfl ⟨⟨trivial, trivial, trivial⟩, trivial⟩ ?_
       refine xj (k := 4) rfl ?_
       refine xb rfl (fun b2 => ?_) (fun b2 => ?_)
       refine xr rfl (q7 rfl ⟨⟨rfl, ?_, trivial⟩, z6 rfl⟩)
       rotate_left
       rotate_left
       refine xj (k := 10) rfl ?_
       rotate_left
       all_goals first
        | (refine vi ?_
           have hb : q1l c y = true := by unfold q1l; rw [← w2]; assumption
           rw [hT]; unfold y6h; rw [yr hy hb |>.symm]; rfl)
        | (refine vi ?_
           have hb : q0l v = true := by unfold q0l; simp_all [z14, Vt.none]
           rw [hT]; unfold y6h; rw [yr hv hb |>.symm, Bool.or_true]; rfl)
        | (have hb : q1l c y = false := by unfold q1l; rw [← w2]; assumption
           have hb2 : q0l v = false := by unfold q0l; simp_all [z14, Vt.none]
           exact ya rfl (hJk _ (k + 1) ⟨by omega, qf hy h0k hb, qf hv h1k hb2⟩ (by omega) ⟨⟨cwi (by omega) (by omega) (by omega), ⟨rfl, rfl, rfl⟩, rfl, trivial⟩, ⟨lcr, trivial⟩, rfl⟩))
        | skip
     · have hh : ¬ k < t.fr.length := by simpa using hh
       have ha := any_none (qi (by omega) h0k)
       have hb := any_none (l := t.olds) (qi (by omega) h1k)
       have hT2 : q4w c ts 0 t = scan (q0m t.fr) t.fr.length := by rw [hT]; unfold y6h; rw [← ha, ← hb]; rfl
       clear hJk h0k h1k ha hb
       refine yd rfl (ι := Nat) (fun k => k ≤ t.fr.length ∧ ∀ j, j < k → q0m t.fr j = 0) (fun k => ⟨[(9, sV (.int .i64 k)), (7, .one (.a 7 0)), (0, .one (.b (.p c.cs)))], [(7, .var (t.cs.map .b))]⟩) (fun k => t.fr.length - k) 0 ⟨Nat.zero_le _, fun j hj => by omega⟩ ?_ ?_
       · exact ⟨⟨rfl, ⟨rfl, rfl, rfl⟩, rfl, trivial⟩, ⟨lcr, trivial⟩, rfl⟩
       · intro k ⟨hk, h0k⟩ Jk hJk
         refine xb rfl (fun hh => ?_) (fun hh => ?_)
         · have hh : k < t.fr.length := by simpa using hh
           obtain ⟨y, hy⟩ := gx hh
           have hgy := gm (fun n => [i64 n]) hy
           refine yc rfl [] (.take 0 [] (.take 1 [3, 9] (.take 2 [] (.take 3 [] (.take 4 [] (.take 5 [7, 8, 9] (.take 6 [] (.take 7 [] (.take 8 [9] (.alt 9 .done .nil)))))))))) (by kernel_rfl) ?_
           refine xs rfl (.inl rfl) ?_
           refine xs rfl (Int.natCast_nonneg _) ?_
           refine xs rfl (Int.natCast_nonneg _) ?_
           refine xs rfl (by simp; omega) ?_
           refine xs rfl (Int.natCast_nonneg _) ?_
           refine y9 rfl _ hgy ?_
           refine xs rfl rfl ?_
           refine z7 rfl (q2n _ (t.fr.take k) y (z2w _ _) (by rw [List.length_take]; omega)) rfl ⟨trivial, trivial, trivial⟩ ?_
           refine xb rfl (fun b0 => ?_) (fun b0 => ?_)
           refine xr rfl (q7 rfl ⟨⟨rfl, ?_, trivial⟩, z6 rfl⟩)
           rotate_left
           rotate_left
           · exact vi (by rw [hT2]; exact q8 hh h0k (by unfold q0m; rw [hy]; exact if_pos b0) (by decide))
           · exact ya rfl (hJk _ (k + 1) ⟨by omega, qa h0k (by unfold q0m; rw [hy]; exact if_neg (by rw [b0]; decide))⟩ (by omega) ⟨⟨cwi (by omega) (by omega) (by omega), ⟨rfl, rfl, rfl⟩, rfl, trivial⟩, ⟨lcr, trivial⟩, rfl⟩)
         · have hh : ¬ k < t.fr.length := by simpa using hh
           have hz := zf (f := q0m t.fr) (n := t.fr.length) (fun j hj => h0k j (by omega))
           refine xr rfl (q7 rfl ⟨⟨rfl, ?_, trivial⟩, z6 rfl⟩)
           exact vi (by rw [hT2, hz])
 · obtain ⟨p, hp⟩ := gx (xs := ts) (i := i - 1) (by omega)
   have hgp := q12 Tr.cs hz (by omega) hp
   have hA : Go.Sx.ahead Tr.lt ts i t = Slt.lt ⟨p.c, p.s, 0, 0, 0, []⟩ ⟨t.c, t.s, 0, 0, 0, []⟩ := q9 hz hp
   have hK := y8m (c := c) rfl rfl rfl hA hD
   refine xs rfl (Int.natCast_nonneg _) ?_
   refine y9 rfl _ hg ?_
   refine xs rfl rfl ?_
   refine z7 rfl (yv _ (by assumption) _ _) rfl ⟨trivial, trivial, trivial, trivial⟩ ?_
   refine xb rfl (fun b0 => ?_) (fun b0 => ?_)
   refine xr rfl (q7 rfl ⟨⟨rfl, ?_, trivial⟩, z6 rfl⟩)
   rotate_left
   refine z7 rfl (zj _ _ _) rfl ⟨trivial, trivial, trivial, trivial⟩ ?_
   refine xb rfl (fun b1 => ?_) (fun b1 => ?_)
   refine xj (k := 5) rfl ?_
   refine xr rfl (q7 rfl ⟨⟨rfl, ?_, trivial⟩, z6 rfl⟩)
   rotate_left
   refine xj (k := 2) rfl ?_
   refine z7 rfl (zj _ _ _) rfl ⟨trivial, trivial, trivial, trivial⟩ ?_
   refine xj (k := 2) rfl ?_
   refine xb rfl (fun b2 => ?_) (fun b2 => ?_)
   refine xr rfl (q7 rfl ⟨⟨rfl, ?_, trivial⟩, z6 rfl⟩)
   rotate_left
   refine yc rfl [] (.take 0 [] (.take 1 [] (.take 2 [] (.take 3 [] (.take 4 [] (.take 5 [] (.take 6 [] (.take 7 [] (.take 8 [15, 21, 22, 23, 24, 25, 26, 27, 28, 29, 30, 31, 32] (.take 9 [] (.take 10 [] (.take 11 [] (.take 12 [] (.take 13 [] (.take 14 [15, 21, 22, 23, 24, 25, 26, 27, 28, 29, 30, 31, 32] (.take 15 [] (.take 16 [] (.take 17 [20, 21, 22, 23, 24, 25, 26, 27, 28, 29, 30, 31, 32] (.take 18 [] (.take 19 [20, 21, 22, 23, 24, 25, 26, 27, 28, 29, 30, 31, 32] (.take 20 [] (.alt 21 (.take 22 [] (.take 23 [] (.take 24 [] (.take 25 [] (.take 26 [27, 31, 32] (.take 27 [] (.take 28 [] (.take 29 [30, 31, 32] (.take 30 [] (.take 31 [] (.take 32 [] .done))))))))))) .nil)))))))))))))))))))))) (by kernel_rfl) ?_
   refine xb rfl (fun b3 => ?_) (fun b3 => ?_)
   refine xj (k := 3) rfl ?_
   refine xs rfl (y0i hz (by omega)) ?_
   refine y9 rfl _ hgp ?_
   refine xs rfl rfl ?_
   refine xj (k := 6) rfl ?_
   refine xs rfl (y0i hz (by omega)) ?_
   refine y9 rfl _ hgp ?_
   refine xs rfl rfl ?_
   refine xj (k := 9) rfl ?_
   refine z7 rfl (q3g ⟨p.c, p.s, 0, 0, 0, []⟩ ⟨t.c, t.s, 0, 0, 0, []⟩) rfl ⟨⟨trivial, trivial, trivial, trivial, trivial, trivial, trivial⟩, ⟨trivial, trivial, trivial, trivial, trivial, trivial, trivial⟩, trivial⟩ ?_
   refine xj (k := 2) rfl ?_
   refine xb rfl (fun b4 => ?_) (fun b4 => ?_)
   refine xj (k := 8) rfl ?_
   refine xr rfl (q7 rfl ⟨⟨rfl, ?_, trivial⟩, z6 rfl⟩)
   rotate_left
   refine xj (k := 7) rfl ?_
   refine xb rfl (fun b5 => ?_) (fun b5 => ?_)
   refine xr rfl (q7 rfl ⟨⟨rfl, ?_, trivial⟩, z6 rfl⟩)
   rotate_left
   rotate_left
   exact absurd b3 (by simp; omega)
   all_goals first | (refine vi ?_; rw [hK]; clear hg hgp hK hA; simp_all only [Bool.not_eq_true', Bool.not_eq_false', cond_true, cond_false]; done) | (exfalso; clear hK; simp at b3; omega) | skip
   have hT : q4w c ts i t = y6h c t := by rw [hK]; clear hg hgp hK hA; simp_all only [Bool.not_eq_true', Bool.not_eq_false', cond_true, cond_false]
   have hle : t.fr.length = t.olds.length := by have := hD.trans b5; simpa using this
   clear hK hD b0 b1 b2 b3 b4 b5 hA
   refine yd rfl (ι := Nat) (fun k => k ≤ t.fr.length ∧ (∀ j y, j < k → t.fr[j]? = some y → q1l c y = false) ∧ ∀ j y, j < k → t.olds[j]? = some y → q0l y = false) (fun k => ⟨[(8, sV (.int .i64 k)), (7, .one (.a 7 0)), (0, .one (.b (.p c.cs)))], [(7, .var (t.cs.map .b))]⟩) (fun k => t.fr.length - k) 0 ⟨Nat.zero_le _, fun j y hj => by omega, fun j y hj => by omega⟩ ?_ ?_
   · exact ⟨⟨rfl, ⟨rfl, rfl, rfl⟩, rfl, trivial⟩, ⟨⟨rfl, rfl, rfl, rfl, rfl, rfl, trivial⟩, trivial⟩, rfl⟩
   · intro k ⟨hk, h0k, h1k⟩ Jk hJk
     refine xb rfl (fun hh => ?_) (fun hh => ?_)
     · have hh : k < t.fr.length := by simpa using hh
       obtain ⟨y, hy⟩ := gx hh
       obtain ⟨v, hv⟩ := gx (xs := t.olds) (i := k) (by omega)
       have hgy := gm (fun n => [i64 n]) hy
       have hgv := gm Vt.cs hv
       have hwq := q3m c y
       refine yc rfl [] (.take 0 [] (.take 1 [3, 4, 11, 12, 13, 14, 15, 16, 17, 18, 19, 20, 21, 22, 23, 24, 25, 26, 27, 28, 29, 30] (.take 2 [] (.take 3 [] (.take 4 [11, 12, 13, 14, 15, 16, 17, 18, 19, 20, 21, 22, 23, 24, 25, 26, 27, 28, 29, 30] (.take 5 [] (.take 6 [] (.take 7 [] (.take 8 [9, 10, 11, 12, 13, 14, 15, 16, 17, 18, 19, 20, 21, 22, 23, 24, 25, 26, 27, 28, 29, 30] (.take 9 [] (.take 10 [] (.alt 11 (.take 12 [] (.take 13 [] (.take 14 [] (.take 15 [17, 18, 20, 21, 22, 23, 24, 25, 26, 27, 28, 29, 30] (.take 16 [] (.take 17 [] (.take 18 [20, 21, 22, 23, 24, 25, 26, 27, 28, 29, 30] (.alt 19 (.take 20 [] (.take 21 [] (.take 22 [] (.take 23 [25, 26, 27, 28, 29, 30] (.take 24 [] (.take 25 [] (.take 26 [27, 28, 29, 30] (.alt 27 (.take 28 [] (.take 29 [] (.take 30 [] .done))) .nil)))))))) .nil)))))))) .nil)))))))))))) (by kernel_rfl) ?_
       refine xs rfl (Int.natCast_nonneg _) ?_
       refine y9 rfl _ hgy ?_
       refine xs rfl rfl ?_
       refine z7 rfl (zj _ _ _) rfl ⟨trivial, trivial, trivial, trivial⟩ ?_
       refine xb rfl (fun b0 => ?_) (fun b0 => ?_)
       refine xj (k := 10) rfl ?_
       refine xr rfl (q7 rfl ⟨⟨rfl, ?_, trivial⟩, z6 rfl⟩)
       rotate_left
       refine xj (k := 3) rfl ?_
       refine xs rfl (Int.natCast_nonneg _) ?_
       refine y9 rfl _ hgv ?_
       refine xs rfl rfl ?_
       refine xj (k := 2) rfl ?_
       refine z7 rfl (q1t) rfl trivial ?_
       refine xj (k := 2) rfl ?_
       refine xb rfl (fun b1 => ?_) (fun b1 => ?_)
       refine xj (k := 3) rfl ?_
       refine xs rfl (Int.natCast_nonneg _) ?_
       refine y9 rfl _ hgv ?_
       refine xs rfl rfl ?_
       refine xj (k := 2) rfl ?_
       refine z7 rfl (z1n _) rfl ⟨⟨trivial, trivial, trivial⟩, trivial⟩ ?_
       refine xj (k := 4) rfl ?_
       refine xb rfl (fun b2 => ?_) (fun b2 => ?_)
       refine xr rfl (q7 rfl ⟨⟨rfl, ?_, trivial⟩, z6 rfl⟩)
       rotate_left
       rotate_left
       refine xj (k := 10) rfl ?_
       rotate_left
       all_goals first
        | (refine vi ?_
           have hb : q1l c y = true := by unfold q1l; rw [← w2]; assumption
           rw [hT]; unfold y6h; rw [yr hy hb |>.symm]; rfl)
        | (refine vi ?_
           have hb : q0l v = true := by unfold q0l; simp_all [z14, Vt.none]
           rw [hT]; unfold y6h; rw [yr hv hb |>.symm, Bool.or_true]; rfl)
        | (have hb : q1l c y = false := by unfold q1l; rw [← w2]; assumption
           have hb2 : q0l v = false := by unfold q0l; simp_all [z14, Vt.none]
           exact ya rfl (hJk _ (k + 1) ⟨by omega, qf hy h0k hb, qf hv h1k hb2⟩ (by omega) ⟨⟨cwi (by omega) (by omega) (by omega), ⟨rfl, rfl, rfl⟩, rfl, trivial⟩, ⟨lcr, trivial⟩, rfl⟩))
        | skip
     · have hh : ¬ k < t.fr.length := by simpa using hh
       have ha := any_none (qi (by omega) h0k)
       have hb := any_none (l := t.olds) (qi (by omega) h1k)
       have hT2 : q4w c ts i t = scan (q0m t.fr) t.fr.length := by rw [hT]; unfold y6h; rw [← ha, ← hb]; rfl
       clear hJk h0k h1k ha hb
       refine yd rfl (ι := Nat) (fun k => k ≤ t.fr.length ∧ ∀ j, j < k → q0m t.fr j = 0) (fun k => ⟨[(9, sV (.int .i64 k)), (7, .one (.a 7 0)), (0, .one (.b (.p c.cs)))], [(7, .var (t.cs.map .b))]⟩) (fun k => t.fr.length - k) 0 ⟨Nat.zero_le _, fun j hj => by omega⟩ ?_ ?_
       · exact ⟨⟨rfl, ⟨rfl, rfl, rfl⟩, rfl, trivial⟩, ⟨lcr, trivial⟩, rfl⟩
       · intro k ⟨hk, h0k⟩ Jk hJk
         refine xb rfl (fun hh => ?_) (fun hh => ?_)
         · have hh : k < t.fr.length := by simpa using hh
           obtain ⟨y, hy⟩ := gx hh
           have hgy := gm (fun n => [i64 n]) hy
           refine yc rfl [] (.take 0 [] (.take 1 [3, 9] (.take 2 [] (.take 3 [] (.take 4 [] (.take 5 [7, 8, 9] (.take 6 [] (.take 7 [] (.take 8 [9] (.alt 9 .done .nil)))))))))) (by kernel_rfl) ?_
           refine xs rfl (.inl rfl) ?_
           refine xs rfl (Int.natCast_nonneg _) ?_
           refine xs rfl (Int.natCast_nonneg _) ?_
           refine xs rfl (by simp; omega) ?_
           refine xs rfl (Int.natCast_nonneg _) ?_
           refine y9 rfl _ hgy ?_
           refine xs rfl rfl ?_
           refine z7 rfl (q2n _ (t.fr.take k) y (z2w _ _) (by rw [List.length_take]; omega)) rfl ⟨trivial, trivial, trivial⟩ ?_
           refine xb rfl (fun b0 => ?_) (fun b0 => ?_)
           refine xr rfl (q7 rfl ⟨⟨rfl, ?_, trivial⟩, z6 rfl⟩)
           rotate_left
           rotate_left
           · exact vi (by rw [hT2]; exact q8 hh h0k (by unfold q0m; rw [hy]; exact if_pos b0) (by decide))
           · exact ya rfl (hJk _ (k + 1) ⟨by omega, qa h0k (by unfold q0m; rw [hy]; exact if_neg (by rw [b0]; decide))⟩ (by omega) ⟨⟨cwi (by omega) (by omega) (by omega), ⟨rfl, rfl, rfl⟩, rfl, trivial⟩, ⟨lcr, trivial⟩, rfl⟩)
         · have hh : ¬ k < t.fr.length := by simpa using hh
           have hz := zf (f := q0m t.fr) (n := t.fr.length) (fun j hj => h0k j (by omega))
           refine xr rfl (q7 rfl ⟨⟨rfl, ?_, trivial⟩, z6 rfl⟩)
           exact vi (by rw [hT2, hz])
end Go.Proofs.YthljegacamgnnaaGreat
end
section
namespace Go.Proofs.YthljegacamgnnaaGreat
open Go Go.Sx
set_option maxRecDepth 20000
set_option maxHeartbeats 4000000
theorem qaa {c : Clu} {l : Ldr} (hn : Go.Sx.within l.n 0 400 = true) (hm : ¬ (60 < l.tries.length ∨ 300 < l.known.length)) {v : Int} (hv : v = scan (q36 c l.tries) l.tries.length) (h : v ≠ 0) : z72 c l = v := by
 unfold z72
 rw [hn, if_neg (by decide), if_neg hm, orr, ← hv, if_pos h]
theorem y55 {c : Clu} {l : Ldr} (hn : Go.Sx.within l.n 0 400 = true) (hm : ¬ (60 < l.tries.length ∨ 300 < l.known.length)) (h1 : scan (q36 c l.tries) l.tries.length = 0) {v : Int} (hv : v = scan (hdF c l.known) l.known.length) : z72 c l = v := by
 unfold z72
 rw [hn, if_neg (by decide), if_neg hm, orr, h1, if_neg (by decide), orr, ← hv, orr]
 split
 · rfl
 · rename_i h; have h : v = 0 := by simpa using h
   exact h.symm
theorem z88 (c : Clu) (ho : y00 c) : PC Tryz.prog 116 [.one (.p c.cs)] (rI (scan (q2h c) c.ldrs.length)) := by
 refine PC.begin Tryz.func116 rfl (by kernel_rfl) ?_
 have hl := ho.2.2.2.1.1
 have w2 := wl1 Acc.cs ho.2.2.1.1
 refine yd rfl (ι := Nat) (fun i => i ≤ c.ldrs.length ∧ ∀ j, j < i → q2h c j = 0) (fun i => ⟨[(3, sV (.int .i64 i)), (0, .one (.b (.p c.cs)))], []⟩) (fun i => c.ldrs.length - i) 0 ⟨Nat.zero_le _, fun j hj => by omega⟩ ?_ ?_
 · exact ⟨⟨rfl, rfl, trivial⟩, trivial, rfl⟩
 · intro io ⟨hio, h0o⟩ Jo hJo
   refine xb rfl (fun hho => ?_) (fun hho => ?_)
   · have hho : io < c.ldrs.length := by simpa using hho
     obtain ⟨l, hlx⟩ := gx hho
     have hgl := gm Ldr.cs hlx
     obtain ⟨l1, l2, l3⟩ := ho.2.2.2.1.2 l (List.mem_of_getElem? hlx)
     have hF : q2h c io = z72 c l := by unfold q2h; rw [hlx]
     refine xs rfl (Int.natCast_nonneg _) ?_
     refine y9 rfl _ hgl ?_
     refine xs rfl rfl ?_
     refine z7 rfl (zj _ _ _) rfl ⟨trivial, trivial, trivial, trivial⟩ ?_
     refine xb rfl (fun b0 => ?_) (fun b0 => ?_)
     refine xr rfl (q7 rfl ⟨⟨rfl, ?_, trivial⟩, z6 rfl⟩)
     rotate_left
     refine xb rfl (fun b1 => ?_) (fun b1 => ?_)
     refine xj (k := 5) rfl ?_
     refine xr rfl (q7 rfl ⟨⟨rfl, ?_, trivial⟩, z6 rfl⟩)
     rotate_left
     refine xj (k := 4) rfl ?_
     refine xb rfl (fun b2 => ?_) (fun b2 => ?_)
     refine xr rfl (q7 rfl ⟨⟨rfl, ?_, trivial⟩, z6 rfl⟩)
     rotate_left
     rotate_left
     all_goals first
      | (refine vi (q8 hho h0o ?_ (by decide)); clear hJo h0o hgl; rw [hF]; unfold z72; simp_all; done)
      | (refine vi (q8 hho h0o ?_ (by decide)); clear hJo h0o hgl; rw [hF]; unfold z72; simp_all; omega)
      | skip
     have hn : Go.Sx.within l.n 0 400 = true := by simpa using b0
     have hm : ¬ (60 < l.tries.length ∨ 300 < l.known.length) := by simp at b1 b2; omega
     clear b0 b1 b2
     refine yd rfl (ι := Nat) (fun i => i ≤ l.tries.length ∧ ∀ j, j < i → q36 c l.tries j = 0) (fun i => ⟨[(5, sV (.int .i64 i)), (4, .one (.a 4 0)), (3, sV (.int .i64 io)), (0, .one (.b (.p c.cs)))], [(4, .var (l.cs.map .b))]⟩) (fun i => l.tries.length - i) 0 ⟨Nat.zero_le _, fun j hj => by omega⟩ ?_ ?_
     · exact ⟨⟨rfl, ⟨rfl, rfl, rfl⟩, rfl, rfl, trivial⟩, ⟨⟨rfl, rfl, rfl, trivial⟩, trivial⟩, rfl⟩
     · intro i ⟨hi, h0⟩ J hJ
       refine xb rfl (fun h => ?_) (fun h => ?_)
       · have h : i < l.tries.length := by simpa using h
         obtain ⟨x, hx⟩ := gx h
         have hg := gm Tr.cs hx
         refine z7 rfl (z9c c ho l.tries i x l1 (l3 x (List.mem_of_getElem? hx)) hx) rfl ⟨trivial, trivial, trivial, trivial⟩ ?_
         refine xb rfl (fun b0 => ?_) (fun b0 => ?_)
         refine xr rfl (q7 rfl ⟨⟨rfl, ?_, trivial⟩, z6 rfl⟩)
         rotate_left
         rotate_left
         all_goals (first | (have hsc := q8 (c := q4w c l.tries i x) h h0 (by clear hJ h0 hg; (first | (simp_all [q36]; done) | (simp_all [q36]; omega)); done) (by clear hJ h0; simp_all); exact vi (q8 hho h0o (hF.trans (qaa hn hm hsc (by simpa using b0))) (by simpa using b0)); done) | (refine vi (q8 h h0 ?_ (by first | decide | decide | simp_all)); clear hJ h0 hg; (first | (simp_all [q36]; done) | (simp_all [q36]; omega)); done) | (refine ya rfl (hJ _ (i + 1) ⟨by omega, qa h0 ?_⟩ (by omega) ⟨⟨cwi (by omega) (by omega) (by omega), ⟨rfl, rfl, rfl⟩, rfl, rfl, trivial⟩, ⟨⟨rfl, rfl, rfl, trivial⟩, trivial⟩, rfl⟩); clear hJ h0 hg; (first | (simp_all [q36]; done) | (simp_all [q36]; omega)); done) | skip)
       · have h : ¬ i < l.tries.length := by simpa using h
         have hz := zf (f := q36 c l.tries) (n := l.tries.length) (fun j hj => h0 j (by omega))
         clear hJ
         have hz1 := hz
         clear hz h h0
         refine yd rfl (ι := Nat) (fun i => i ≤ l.known.length ∧ ∀ j, j < i → hdF c l.known j = 0) (fun i => ⟨[(7, sV (.int .i64 i)), (4, .one (.a 4 0)), (3, sV (.int .i64 io)), (0, .one (.b (.p c.cs)))], [(4, .var (l.cs.map .b))]⟩) (fun i => l.known.length - i) 0 ⟨Nat.zero_le _, fun j hj => by omega⟩ ?_ ?_
         · exact ⟨⟨rfl, ⟨rfl, rfl, rfl⟩, rfl, rfl, trivial⟩, ⟨⟨rfl, rfl, rfl, trivial⟩, trivial⟩, rfl⟩
         · intro i ⟨hi, h0⟩ J hJ
           refine xb rfl (fun h => ?_) (fun h => ?_)
           · have h : i < l.known.length := by simpa using h
             obtain ⟨x, hx⟩ := gx h
             have hg := gm Hd.cs hx
             rcases Nat.eq_zero_or_pos i with hz | hz
             · subst hz
               refine xs rfl (Int.natCast_nonneg _) ?_
               refine y9 rfl _ hg ?_
               refine xs rfl rfl ?_
               refine z7 rfl (yv _ (by assumption) _ _) rfl ⟨trivial, trivial, trivial, trivial⟩ ?_
               refine xb rfl (fun b0 => ?_) (fun b0 => ?_)
               refine xr rfl (q7 rfl ⟨⟨rfl, ?_, trivial⟩, z6 rfl⟩)
               rotate_left
               refine yc rfl [] (.take 0 [] (.take 1 [2, 3, 4, 5, 6, 7, 8, 9, 10, 11, 12, 13, 14, 15, 16, 17, 18, 19, 20, 21] (.alt 2 (.take 3 [] (.take 4 [] (.take 5 [] (.take 6 [7, 8, 9, 10, 11, 12, 13, 14, 15, 16, 17, 18, 19, 20, 21] (.alt 7 (.take 8 [] (.take 9 [] (.take 10 [] (.take 11 [] (.take 12 [19, 20, 21] (.take 13 [] (.take 14 [] (.take 15 [] (.take 16 [17, 18, 19, 20, 21] (.take 17 [] (.take 18 [] (.alt 19 (.take 20 [] (.take 21 [] .done)) .nil)))))))))))) .nil))))) .nil))) (by kernel_rfl) ?_
               refine z7 rfl (yy _) rfl ⟨trivial, trivial⟩ ?_
               refine xb rfl (fun b1 => ?_) (fun b1 => ?_)
               refine xj (k := 16) rfl ?_
               refine xr rfl (q7 rfl ⟨⟨rfl, ?_, trivial⟩, z6 rfl⟩)
               rotate_left
               refine xj (k := 2) rfl ?_
               refine z7 rfl (q06 _) rfl ⟨trivial, trivial⟩ ?_
               refine xj (k := 2) rfl ?_
               refine xb rfl (fun b2 => ?_) (fun b2 => ?_)
               refine xj (k := 11) rfl ?_
               refine xr rfl (q7 rfl ⟨⟨rfl, ?_, trivial⟩, z6 rfl⟩)
               rotate_left
               refine xj (k := 8) rfl ?_
               refine z7 rfl (zj _ _ _) rfl ⟨trivial, trivial, trivial, trivial⟩ ?_
               refine xj (k := 2) rfl ?_
               refine xb rfl (fun b3 => ?_) (fun b3 => ?_)
               refine xr rfl (q7 rfl ⟨⟨rfl, ?_, trivial⟩, z6 rfl⟩)
               rotate_left
               refine yc rfl [] (.take 0 [] (.take 1 [] (.take 2 [] (.take 3 [] (.take 4 [7, 8, 10, 11, 12] (.take 5 [] (.take 6 [] (.take 7 [] (.take 8 [10, 11, 12] (.take 9 [10, 11, 12] (.alt 10 (.take 11 [] (.take 12 [] .done)) .nil))))))))))) (by kernel_rfl) ?_
               refine xj (k := 11) rfl ?_
               rotate_left
               all_goals (first | (have hsc := q8 (c := 4) h h0 (by clear hJ h0 hg; (first | (simp_all [hdF, ahead_zero]; done) | (simp_all [hdF, ahead_zero]; omega)); done) (by decide); exact vi (q8 hho h0o (hF.trans (y55 hn hm hz1 hsc)) (by decide)); done) | (have hsc := q8 (c := 3) h h0 (by clear hJ h0 hg; (first | (simp_all [hdF, ahead_zero]; done) | (simp_all [hdF, ahead_zero]; omega)); done) (by decide); exact vi (q8 hho h0o (hF.trans (y55 hn hm hz1 hsc)) (by decide)); done) | (have hsc := q8 (c := 1) h h0 (by clear hJ h0 hg; (first | (simp_all [hdF, ahead_zero]; done) | (simp_all [hdF, ahead_zero]; omega)); done) (by decide); exact vi (q8 hho h0o (hF.trans (y55 hn hm hz1 hsc)) (by decide)); done) | (refine vi (q8 h h0 ?_ (by first | decide | decide | simp_all)); clear hJ h0 hg; (first | (simp_all [hdF, ahead_zero]; done) | (simp_all [hdF, ahead_zero]; omega)); done) | (refine ya rfl (hJ _ 1 ⟨by omega, qa h0 ?_⟩ (by omega) ⟨⟨cwi (by omega) (by omega) (by omega), ⟨rfl, rfl, rfl⟩, rfl, rfl, trivial⟩, ⟨⟨rfl, rfl, rfl, trivial⟩, trivial⟩, rfl⟩); clear hJ h0 hg; (first | (simp_all [hdF, ahead_zero]; done) | (simp_all [hdF, ahead_zero]; omega)); done) | skip)
             · obtain ⟨p, hp⟩ := gx (xs := l.known) (i := i - 1) (by omega)
               have hgp := q12 Hd.cs hz (by omega) hp
               refine xs rfl (Int.natCast_nonneg _) ?_
               refine y9 rfl _ hg ?_
               refine xs rfl rfl ?_
               refine z7 rfl (yv _ (by assumption) _ _) rfl ⟨trivial, trivial, trivial, trivial⟩ ?_
               refine xb rfl (fun b0 => ?_) (fun b0 => ?_)
               refine xr rfl (q7 rfl ⟨⟨rfl, ?_, trivial⟩, z6 rfl⟩)
               rotate_left
               refine yc rfl [] (.take 0 [] (.take 1 [2, 3, 4, 5, 6, 7, 8, 9, 10, 11, 12, 13, 14, 15, 16, 17, 18, 19, 20, 21] (.alt 2 (.take 3 [] (.take 4 [] (.take 5 [] (.take 6 [7, 8, 9, 10, 11, 12, 13, 14, 15, 16, 17, 18, 19, 20, 21] (.alt 7 (.take 8 [] (.take 9 [] (.take 10 [] (.take 11 [] (.take 12 [19, 20, 21] (.take 13 [] (.take 14 [] (.take 15 [] (.take 16 [17, 18, 19, 20, 21] (.take 17 [] (.take 18 [] (.alt 19 (.take 20 [] (.take 21 [] .done)) .nil)))))))))))) .nil))))) .nil))) (by kernel_rfl) ?_
               refine z7 rfl (yy _) rfl ⟨trivial, trivial⟩ ?_
               refine xb rfl (fun b1 => ?_) (fun b1 => ?_)
               refine xj (k := 16) rfl ?_
               refine xr rfl (q7 rfl ⟨⟨rfl, ?_, trivial⟩, z6 rfl⟩)
               rotate_left
               refine xj (k := 2) rfl ?_
               refine z7 rfl (q06 _) rfl ⟨trivial, trivial⟩ ?_
               refine xj (k := 2) rfl ?_
               refine xb rfl (fun b2 => ?_) (fun b2 => ?_)
               refine xj (k := 11) rfl ?_
               refine xr rfl (q7 rfl ⟨⟨rfl, ?_, trivial⟩, z6 rfl⟩)
               rotate_left
               refine xj (k := 8) rfl ?_
               refine z7 rfl (zj _ _ _) rfl ⟨trivial, trivial, trivial, trivial⟩ ?_
               refine xj (k := 2) rfl ?_
               refine xb rfl (fun b3 => ?_) (fun b3 => ?_)
               refine xr rfl (q7 rfl ⟨⟨rfl, ?_, trivial⟩, z6 rfl⟩)
               rotate_left
               refine yc rfl [] (.take 0 [] (.take 1 [] (.take 2 [] (.take 3 [] (.take 4 [7, 8, 10, 11, 12] (.take 5 [] (.take 6 [] (.take 7 [] (.take 8 [10, 11, 12] (.take 9 [10, 11, 12] (.alt 10 (.take 11 [] (.take 12 [] .done)) .nil))))))))))) (by kernel_rfl) ?_
               refine xb rfl (fun b4 => ?_) (fun b4 => ?_)
               refine xj (k := 4) rfl ?_
               refine xs rfl (y0i hz (by omega)) ?_
               refine y9 rfl _ hgp ?_
               refine xs rfl rfl ?_
               refine xj (k := 3) rfl ?_
               refine z7 rfl (z4k _ _) rfl ⟨⟨trivial, trivial, trivial, trivial, trivial, trivial⟩, ⟨trivial, trivial, trivial, trivial, trivial, trivial⟩, trivial⟩ ?_
               refine xj (k := 2) rfl ?_
               refine xb rfl (fun b5 => ?_) (fun b5 => ?_)
               refine xr rfl (q7 rfl ⟨⟨rfl, ?_, trivial⟩, z6 rfl⟩)
               rotate_left
               rotate_left
               refine xj (k := 10) rfl ?_
               rotate_left
               all_goals (first | (have hsc := q8 (c := 4) h h0 (by clear hJ h0 hg hgp; (first | (simp_all [hdF, q9 hz hp]; done) | (simp_all [hdF, q9 hz hp]; omega)); done) (by decide); exact vi (q8 hho h0o (hF.trans (y55 hn hm hz1 hsc)) (by decide)); done) | (have hsc := q8 (c := 3) h h0 (by clear hJ h0 hg hgp; (first | (simp_all [hdF, q9 hz hp]; done) | (simp_all [hdF, q9 hz hp]; omega)); done) (by decide); exact vi (q8 hho h0o (hF.trans (y55 hn hm hz1 hsc)) (by decide)); done) | (have hsc := q8 (c := 1) h h0 (by clear hJ h0 hg hgp; (first | (simp_all [hdF, q9 hz hp]; done) | (simp_all [hdF, q9 hz hp]; omega)); done) (by decide); exact vi (q8 hho h0o (hF.trans (y55 hn hm hz1 hsc)) (by decide)); done) | (refine vi (q8 h h0 ?_ (by first | decide | decide | simp_all)); clear hJ h0 hg hgp; (first | (simp_all [hdF, q9 hz hp]; done) | (simp_all [hdF, q9 hz hp]; omega)); done) | (refine ya rfl (hJ _ (i + 1) ⟨by omega, qa h0 ?_⟩ (by omega) ⟨⟨cwi (by omega) (by omega) (by omega), ⟨rfl, rfl, rfl⟩, rfl, rfl, trivial⟩, ⟨⟨rfl, rfl, rfl, trivial⟩, trivial⟩, rfl⟩); clear hJ h0 hg hgp; (first | (simp_all [hdF, q9 hz hp]; done) | (simp_all [hdF, q9 hz hp]; omega)); done) | skip)
           · have h : ¬ i < l.known.length := by simpa using h
             have hz := zf (f := hdF c l.known) (n := l.known.length) (fun j hj => h0 j (by omega))
             clear hJ
             skip
             exact ya rfl (hJo _ (io + 1) ⟨by omega, qa h0o (hF.trans (y55 hn hm hz1 hz.symm))⟩ (by omega) ⟨⟨cwi (by omega) (by omega) (by omega), rfl, trivial⟩, trivial, rfl⟩)
   · have hho : ¬ io < c.ldrs.length := by simpa using hho
     have hz := zf (f := q2h c) (n := c.ldrs.length) (fun j hj => h0o j (by omega))
     refine xr rfl (q7 rfl ⟨⟨rfl, ?_, trivial⟩, z6 rfl⟩)
     exact vi (hz.symm)
end Go.Proofs.YthljegacamgnnaaGreat
end
section
namespace Go.Proofs.YthljegacamgnnaaGreat
open Go Go.Sx
set_option maxRecDepth 20000
set_option maxHeartbeats 4000000
theorem qao {a b c d e : Int} : orr [a, b, c, d, e] = if a ≠ 0 then a else if b ≠ 0 then b else if c ≠ 0 then c else if d ≠ 0 then d else e := by
 unfold orr orr orr orr orr orr
 repeat' split
 all_goals first | rfl | omega
theorem z09 {c : Clu} : z0k c = true ↔ (20 < c.cons.length ∨ ¬ (1 ≤ c.shs.length ∧ c.shs.length ≤ 3) ∨ ¬ (1 ≤ c.accs.length ∧ c.accs.length ≤ 5) ∨ c.ldrs.length ≠ 2 ∨ 200 < c.msgs.length) := by
 unfold z0k Go.Sx.within
 simp
 omega
theorem z8h {c : Clu} (h : z0k c = true) : qq c = 2 := by unfold qq; rw [if_pos h]
theorem q7r {c : Clu} (h : ¬ z0k c = true) : qq c = if scan (y09 c) c.cons.length ≠ 0 then scan (y09 c) c.cons.length else if scan (z1y c) c.shs.length ≠ 0 then scan (z1y c) c.shs.length else if scan (z2h c) c.accs.length ≠ 0 then scan (z2h c) c.accs.length else if scan (q2h c) c.ldrs.length ≠ 0 then scan (q2h c) c.ldrs.length else scan (y40 c) c.msgs.length := by
 unfold qq; rw [if_neg h, qao]
theorem qa8 (c : Clu) (us : List Acc) (F : Acc → Int) (G : Nat → Int) (fn : Nat) (hG : ∀ i x, us[i]? = some x → G i = F x) (hf : ∀ x ∈ us, PC Tryz.prog fn [.one (.p c.cs), .agg x.cs] (rI (F x))) (hl : us.length ≤ 1048576) : PC Tryz.prog 129 [.one (.l (us.map Acc.cs)), .one (.m fn false [.p c.cs])] (rI (scan G us.length)) := by
 refine PC.begin Tryz.func129 rfl (by kernel_rfl) ?_
 have hn : (us.map Acc.cs).length = us.length := by simp
 refine yd rfl (ι := Nat) (fun i => i ≤ us.length ∧ ∀ j, j < i → G j = 0) (fun i => ⟨[(10, sV (.int .i64 i)), (9, sV (.int .i64 (us.map Acc.cs).length)), (8, .one (.b (.l (us.map Acc.cs)))), (1, .one (.b (.m fn false [.p c.cs])))], []⟩) (fun i => us.length - i) 0 ⟨Nat.zero_le _, fun j hj => by omega⟩ ?_ ?_
 · exact ⟨⟨rfl, rfl, rfl, rfl, trivial⟩, trivial, rfl⟩
 · intro i ⟨hi, h0⟩ J hJ
   refine xb rfl (fun h => ?_) (fun h => ?_)
   · have h : i < us.length := by simpa using h
     obtain ⟨x, hx⟩ := gx h
     have hg := gm Acc.cs hx
     have hxm := List.mem_of_getElem? hx
     have hGx := hG i x hx
     refine xs rfl (Int.natCast_nonneg _) ?_
     refine y9 rfl _ hg ?_
     refine xs rfl rfl ?_
     refine z7 rfl (hf _ hxm) rfl ⟨trivial, ⟨trivial, trivial⟩, trivial⟩ ?_
     refine xb rfl (fun b0 => ?_) (fun b0 => ?_)
     refine xr rfl (q7 rfl ⟨⟨rfl, ?_, trivial⟩, z6 rfl⟩)
     rotate_left
     rotate_left
     · exact vi (q8 h h0 hGx (by simpa using b0))
     · exact ya rfl (hJ _ (i + 1) ⟨by omega, qa h0 (hGx.trans (by simpa using b0))⟩ (by omega) ⟨⟨cwi (by omega) (by omega) (by omega), rfl, rfl, rfl, trivial⟩, trivial, rfl⟩)
   · have h : ¬ i < us.length := by simpa using h
     have hz := zf (f := G) (n := us.length) (fun j hj => h0 j (by omega))
     refine xr rfl (q7 rfl ⟨⟨rfl, ?_, trivial⟩, z6 rfl⟩)
     exact vi (hz.symm)
theorem za9 (c : Clu) (us : List Ldr) (F : Ldr → Int) (G : Nat → Int) (fn : Nat) (hG : ∀ i x, us[i]? = some x → G i = F x) (hf : ∀ x ∈ us, PC Tryz.prog fn [.one (.p c.cs), .agg x.cs] (rI (F x))) (hl : us.length ≤ 1048576) : PC Tryz.prog 131 [.one (.l (us.map Ldr.cs)), .one (.m fn false [.p c.cs])] (rI (scan G us.length)) := by
 refine PC.begin Tryz.func131 rfl (by kernel_rfl) ?_
 have hn : (us.map Ldr.cs).length = us.length := by simp
 refine yd rfl (ι := Nat) (fun i => i ≤ us.length ∧ ∀ j, j < i → G j = 0) (fun i => ⟨[(10, sV (.int .i64 i)), (9, sV (.int .i64 (us.map Ldr.cs).length)), (8, .one (.b (.l (us.map Ldr.cs)))), (1, .one (.b (.m fn false [.p c.cs])))], []⟩) (fun i => us.length - i) 0 ⟨Nat.zero_le _, fun j hj => by omega⟩ ?_ ?_
 · exact ⟨⟨rfl, rfl, rfl, rfl, trivial⟩, trivial, rfl⟩
 · intro i ⟨hi, h0⟩ J hJ
   refine xb rfl (fun h => ?_) (fun h => ?_)
   · have h : i < us.length := by simpa using h
     obtain ⟨x, hx⟩ := gx h
     have hg := gm Ldr.cs hx
     have hxm := List.mem_of_getElem? hx
     have hGx := hG i x hx
     refine xs rfl (Int.natCast_nonneg _) ?_
     refine y9 rfl _ hg ?_
     refine xs rfl rfl ?_
     refine z7 rfl (hf _ hxm) rfl ⟨trivial, ⟨trivial, trivial, trivial, trivial⟩, trivial⟩ ?_
     refine xb rfl (fun b0 => ?_) (fun b0 => ?_)
     refine xr rfl (q7 rfl ⟨⟨rfl, ?_, trivial⟩, z6 rfl⟩)
     rotate_left
     rotate_left
     · exact vi (q8 h h0 hGx (by simpa using b0))
     · exact ya rfl (hJ _ (i + 1) ⟨by omega, qa h0 (hGx.trans (by simpa using b0))⟩ (by omega) ⟨⟨cwi (by omega) (by omega) (by omega), rfl, rfl, rfl, trivial⟩, trivial, rfl⟩)
   · have h : ¬ i < us.length := by simpa using h
     have hz := zf (f := G) (n := us.length) (fun j hj => h0 j (by omega))
     refine xr rfl (q7 rfl ⟨⟨rfl, ?_, trivial⟩, z6 rfl⟩)
     exact vi (hz.symm)
theorem ya9 (c : Clu) (us : List Msg) (F : Msg → Int) (G : Nat → Int) (fn : Nat) (hG : ∀ i x, us[i]? = some x → G i = F x) (hf : ∀ x ∈ us, PC Tryz.prog fn [.agg x.cs, .one (.p c.cs)] (rI (F x))) (hl : us.length ≤ 1048576) : PC Tryz.prog 133 [.one (.l (us.map Msg.cs)), .one (.f fn [.p c.cs])] (rI (scan G us.length)) := by
 refine PC.begin Tryz.func133 rfl (by kernel_rfl) ?_
 have hn : (us.map Msg.cs).length = us.length := by simp
 refine yd rfl (ι := Nat) (fun i => i ≤ us.length ∧ ∀ j, j < i → G j = 0) (fun i => ⟨[(10, sV (.int .i64 i)), (9, sV (.int .i64 (us.map Msg.cs).length)), (8, .one (.b (.l (us.map Msg.cs)))), (1, .one (.b (.f fn [.p c.cs])))], []⟩) (fun i => us.length - i) 0 ⟨Nat.zero_le _, fun j hj => by omega⟩ ?_ ?_
 · exact ⟨⟨rfl, rfl, rfl, rfl, trivial⟩, trivial, rfl⟩
 · intro i ⟨hi, h0⟩ J hJ
   refine xb rfl (fun h => ?_) (fun h => ?_)
   · have h : i < us.length := by simpa using h
     obtain ⟨x, hx⟩ := gx h
     have hg := gm Msg.cs hx
     have hxm := List.mem_of_getElem? hx
     have hGx := hG i x hx
     refine xs rfl (Int.natCast_nonneg _) ?_
     refine y9 rfl _ hg ?_
     refine xs rfl rfl ?_
     refine z7 rfl (hf _ hxm) rfl ⟨⟨trivial, trivial, trivial, trivial, trivial, trivial, trivial, trivial, trivial, trivial⟩, trivial, trivial⟩ ?_
     refine xb rfl (fun b0 => ?_) (fun b0 => ?_)
     refine xr rfl (q7 rfl ⟨⟨rfl, ?_, trivial⟩, z6 rfl⟩)
     rotate_left
     rotate_left
     · exact vi (q8 h h0 hGx (by simpa using b0))
     · exact ya rfl (hJ _ (i + 1) ⟨by omega, qa h0 (hGx.trans (by simpa using b0))⟩ (by omega) ⟨⟨cwi (by omega) (by omega) (by omega), rfl, rfl, rfl, trivial⟩, trivial, rfl⟩)
   · have h : ¬ i < us.length := by simpa using h
     have hz := zf (f := G) (n := us.length) (fun j hj => h0 j (by omega))
     refine xr rfl (q7 rfl ⟨⟨rfl, ?_, trivial⟩, z6 rfl⟩)
     exact vi (hz.symm)
theorem y96 (c : Clu) (ho : y00 c) (m : Msg) : PC Tryz.prog 134 [.agg m.cs, .one (.p c.cs)] (rI (z0e c m)) := by
 refine PC.begin Tryz.func134 rfl (by kernel_rfl) ?_
 refine z7 rfl (y8y c ho m) rfl ⟨⟨trivial, trivial, trivial, trivial, trivial, trivial⟩, ⟨trivial, trivial, trivial, trivial, trivial, trivial, trivial, trivial, trivial, trivial⟩, trivial⟩ ?_
 refine xr rfl (q7 rfl ⟨⟨rfl, rfl, trivial⟩, z6 rfl⟩)
theorem z6x (c : Clu) (ho : y00 c) : PC Tryz.prog 64 [.agg c.cs] (rI (qq c)) := by
 refine PC.begin Tryz.func64 rfl (by kernel_rfl) ?_
 have hl := ho.2.1.1
 have hA := qa8 c c.accs (z8p c) (z2h c) 130 (fun i x h => by unfold z2h; rw [h]) (fun a ha => z7x c ho a (ho.2.2.1.2 a ha)) ho.2.2.1.1
 have hL := za9 c c.ldrs (z72 c) (q2h c) 132 (fun i x h => by unfold q2h; rw [h]) (fun l hl => z8y c ho l (ho.2.2.2.1.2 l hl)) ho.2.2.2.1.1
 have hM := ya9 c c.msgs (z0e c) (y40 c) 134 (fun i x h => by unfold y40; rw [h]) (fun m _ => y96 c ho m) ho.2.2.2.2
 refine xb rfl (fun b0 => ?_) (fun b0 => ?_)
 refine xj (k := 22) rfl ?_
 refine xr rfl (q7 rfl ⟨⟨rfl, ?_, trivial⟩, z6 rfl⟩)
 rotate_left
 refine xj (k := 2) rfl ?_
 refine z7 rfl (y2g _) rfl ⟨trivial, trivial⟩ ?_
 refine xj (k := 1) rfl ?_
 refine z7 rfl (ym _ _ _) rfl ⟨trivial, trivial, trivial, trivial⟩ ?_
 refine xj (k := 2) rfl ?_
 refine xb rfl (fun b1 => ?_) (fun b1 => ?_)
 refine xj (k := 16) rfl ?_
 refine xr rfl (q7 rfl ⟨⟨rfl, ?_, trivial⟩, z6 rfl⟩)
 rotate_left
 refine xj (k := 2) rfl ?_
 refine z7 rfl (z1b _) rfl ⟨trivial, trivial⟩ ?_
 refine xj (k := 1) rfl ?_
 refine z7 rfl (ym _ _ _) rfl ⟨trivial, trivial, trivial, trivial⟩ ?_
 refine xj (k := 2) rfl ?_
 refine xb rfl (fun b2 => ?_) (fun b2 => ?_)
 refine xj (k := 10) rfl ?_
 refine xr rfl (q7 rfl ⟨⟨rfl, ?_, trivial⟩, z6 rfl⟩)
 rotate_left
 refine xj (k := 4) rfl ?_
 refine xb rfl (fun b3 => ?_) (fun b3 => ?_)
 refine xj (k := 5) rfl ?_
 refine xr rfl (q7 rfl ⟨⟨rfl, ?_, trivial⟩, z6 rfl⟩)
 rotate_left
 refine xj (k := 4) rfl ?_
 refine xb rfl (fun b4 => ?_) (fun b4 => ?_)
 refine xr rfl (q7 rfl ⟨⟨rfl, ?_, trivial⟩, z6 rfl⟩)
 rotate_left
 refine z7 rfl (q7x c ho) rfl ⟨⟨trivial, trivial, trivial, trivial, trivial, trivial⟩, trivial⟩ ?_
 refine xb rfl (fun b5 => ?_) (fun b5 => ?_)
 refine xr rfl (q7 rfl ⟨⟨rfl, ?_, trivial⟩, z6 rfl⟩)
 rotate_left
 rotate_left
 all_goals first
  | (refine vi (z8h (z09.2 ?_)).symm; clear hA hL hM ho; (simp only [List.length_map, Go.Sx.within, gt_iff_lt, ge_iff_le] at *; simp at *; omega); done)
  | skip
 · refine vi ?_
   have hm : ¬ z0k c = true := fun h => by rw [z09] at h; clear hA hL hM ho; (simp only [List.length_map, Go.Sx.within, gt_iff_lt, ge_iff_le] at *; simp at *; omega)
   rw [q7r hm, if_pos (by simpa using b5)]
 · have hm : ¬ z0k c = true := fun h => by rw [z09] at h; clear hA hL hM ho; (simp only [List.length_map, Go.Sx.within, gt_iff_lt, ge_iff_le] at *; simp at *; omega)
   have h1 : scan (y09 c) c.cons.length = 0 := by simpa using b5
   rw [q7r hm, if_neg (by simpa using h1)]
   clear b0 b1 b2 b3 b4 b5 h1 hm
   refine yd rfl (ι := Nat) (fun i => i ≤ c.shs.length ∧ ∀ j, j < i → z1y c j = 0) (fun i => ⟨[(44, sV (.int .i64 i)), (43, sV (.int .i64 (c.shs.map Shd.cs).length)), (1, .one (.a 1 0))], [(1, .var (c.cs.map .b))]⟩) (fun i => c.shs.length - i) 0 ⟨Nat.zero_le _, fun j hj => by omega⟩ ?_ ?_
   · exact ⟨⟨rfl, rfl, ⟨rfl, rfl, rfl⟩, trivial⟩, ⟨lcr, trivial⟩, rfl⟩
   · intro i ⟨hi, h0⟩ J hJ
     refine xb rfl (fun h => ?_) (fun h => ?_)
     · have h : i < c.shs.length := by simpa using h
       obtain ⟨s, hx⟩ := gx h
       have hF : z1y c i = y89 c i s := by unfold z1y; rw [hx]
       refine z7 rfl (z7y c ho i s hx) rfl ⟨⟨trivial, trivial, trivial, trivial, trivial, trivial⟩, trivial, trivial⟩ ?_
       refine xb rfl (fun b0 => ?_) (fun b0 => ?_)
       refine xr rfl (q7 rfl ⟨⟨rfl, ?_, trivial⟩, z6 rfl⟩)
       rotate_left
       rotate_left
       · have hsc := q8 h h0 hF (by simpa using b0)
         refine vi ?_
         rw [if_pos (by rw [← hsc]; simpa using b0), ← hsc]
       · exact ya rfl (hJ _ (i + 1) ⟨by omega, qa h0 (hF.trans (by simpa using b0))⟩ (by omega) ⟨⟨cwi (by omega) (by omega) (by omega), rfl, ⟨rfl, rfl, rfl⟩, trivial⟩, ⟨lcr, trivial⟩, rfl⟩)
     · have h : ¬ i < c.shs.length := by simpa using h
       have hz := zf (f := z1y c) (n := c.shs.length) (fun j hj => h0 j (by omega))
       rw [if_neg (by simpa using hz)]
       clear hJ h0
       refine yc rfl [] (.take 0 [] (.take 1 [3, 7, 8, 9, 10] (.take 2 [] (.take 4 [] (.take 5 [7, 8, 9, 10] (.take 6 [] (.alt 3 (.alt 7 (.alt 8 (.alt 9 (.take 10 [] .done) .nil) .nil) .nil) .nil))))))) (by kernel_rfl) ?_
       refine z7 rfl (hA) rfl ⟨trivial, ⟨trivial, trivial, trivial, trivial, trivial, trivial⟩, trivial⟩ ?_
       refine z7 rfl (hL) rfl ⟨trivial, ⟨trivial, trivial, trivial, trivial, trivial, trivial⟩, trivial⟩ ?_
       refine xs rfl ⟨trivial, trivial, trivial⟩ ?_
       refine z7 rfl (y21 [_, _] (by simp)) rfl ⟨rfl, trivial⟩ ?_
       refine xb rfl (fun b0 => ?_) (fun b0 => ?_)
       refine xr rfl (q7 rfl ⟨⟨rfl, ?_, trivial⟩, z6 rfl⟩)
       rotate_left
       refine z7 rfl (hM) rfl ⟨trivial, (List.forall_mem_cons.2 ⟨⟨trivial, trivial, trivial, trivial, trivial, trivial⟩, (fun _ h => nomatch h)⟩), trivial⟩ ?_
       refine xr rfl (q7 rfl ⟨⟨rfl, ?_, trivial⟩, z6 rfl⟩)
       rotate_left
       all_goals (refine vi ?_; clear hA hL hM ho; unfold orr orr orr at *; by_cases h1 : scan (z2h c) c.accs.length = 0 <;> by_cases h2 : scan (q2h c) c.ldrs.length = 0 <;> simp_all <;> done)
theorem z7d (c : Clu) (ho : y00 c) : PC Tryz.prog 55 [.agg c.cs] (rI (qq c)) := by
 refine PC.begin Tryz.func55 rfl (by kernel_rfl) ?_
 have hl := ho.2.2.2.2
 refine xb rfl (fun b0 => ?_) (fun b0 => ?_)
 refine xj (k := 30) rfl ?_
 refine xr rfl (q7 rfl ⟨⟨rfl, ?_, trivial⟩, z6 rfl⟩)
 rotate_left
 refine xj (k := 4) rfl ?_
 refine xb rfl (fun b1 => ?_) (fun b1 => ?_)
 refine xj (k := 25) rfl ?_
 refine xr rfl (q7 rfl ⟨⟨rfl, ?_, trivial⟩, z6 rfl⟩)
 rotate_left
 refine xj (k := 4) rfl ?_
 refine xb rfl (fun b2 => ?_) (fun b2 => ?_)
 refine xj (k := 20) rfl ?_
 refine xr rfl (q7 rfl ⟨⟨rfl, ?_, trivial⟩, z6 rfl⟩)
 rotate_left
 refine xj (k := 4) rfl ?_
 refine xb rfl (fun b3 => ?_) (fun b3 => ?_)
 refine xj (k := 15) rfl ?_
 refine xr rfl (q7 rfl ⟨⟨rfl, ?_, trivial⟩, z6 rfl⟩)
 rotate_left
 refine xj (k := 4) rfl ?_
 refine xb rfl (fun b4 => ?_) (fun b4 => ?_)
 refine xj (k := 10) rfl ?_
 refine xr rfl (q7 rfl ⟨⟨rfl, ?_, trivial⟩, z6 rfl⟩)
 rotate_left
 refine xj (k := 4) rfl ?_
 refine xb rfl (fun b5 => ?_) (fun b5 => ?_)
 refine xj (k := 5) rfl ?_
 refine xr rfl (q7 rfl ⟨⟨rfl, ?_, trivial⟩, z6 rfl⟩)
 rotate_left
 refine xj (k := 4) rfl ?_
 refine xb rfl (fun b6 => ?_) (fun b6 => ?_)
 refine xr rfl (q7 rfl ⟨⟨rfl, ?_, trivial⟩, z6 rfl⟩)
 rotate_left
 refine z7 rfl (z87 c ho) rfl ⟨⟨trivial, trivial, trivial, trivial, trivial, trivial⟩, trivial⟩ ?_
 refine xb rfl (fun b7 => ?_) (fun b7 => ?_)
 refine xr rfl (q7 rfl ⟨⟨rfl, ?_, trivial⟩, z6 rfl⟩)
 rotate_left
 refine z7 rfl (y88 c ho) rfl ⟨⟨trivial, trivial, trivial, trivial, trivial, trivial⟩, trivial⟩ ?_
 refine xb rfl (fun b8 => ?_) (fun b8 => ?_)
 refine xr rfl (q7 rfl ⟨⟨rfl, ?_, trivial⟩, z6 rfl⟩)
 rotate_left
 refine z7 rfl (y86 c ho) rfl ⟨⟨trivial, trivial, trivial, trivial, trivial, trivial⟩, trivial⟩ ?_
 refine xb rfl (fun b9 => ?_) (fun b9 => ?_)
 refine xr rfl (q7 rfl ⟨⟨rfl, ?_, trivial⟩, z6 rfl⟩)
 rotate_left
 refine z7 rfl (z88 c ho) rfl ⟨⟨trivial, trivial, trivial, trivial, trivial, trivial⟩, trivial⟩ ?_
 refine xb rfl (fun b10 => ?_) (fun b10 => ?_)
 refine xr rfl (q7 rfl ⟨⟨rfl, ?_, trivial⟩, z6 rfl⟩)
 rotate_left
 rotate_left
 all_goals first
  | (refine vi (z8h (z09.2 ?_)).symm; clear ho; (simp only [List.length_map, Go.Sx.within, gt_iff_lt, ge_iff_le] at *; simp at *; omega); done)
  | (refine vi ?_
     have hm : ¬ z0k c = true := fun h => by rw [z09] at h; clear ho; (simp only [List.length_map, Go.Sx.within, gt_iff_lt, ge_iff_le] at *; simp at *; omega)
     rw [q7r hm]
     clear hm ho
     simp_all
     done)
  | skip
 have hm : ¬ z0k c = true := fun h => by rw [z09] at h; clear ho; (simp only [List.length_map, Go.Sx.within, gt_iff_lt, ge_iff_le] at *; simp at *; omega)
 rw [q7r hm, if_neg (by simp_all), if_neg (by simp_all), if_neg (by simp_all), if_neg (by simp_all)]
 refine yd rfl (ι := Nat) (fun i => i ≤ c.msgs.length ∧ ∀ j, j < i → y40 c j = 0) (fun i => ⟨[(7, sV (.int .i64 i)), (1, .one (.a 1 0))], [(1, .var (c.cs.map .b))]⟩) (fun i => c.msgs.length - i) 0 ⟨Nat.zero_le _, fun j hj => by omega⟩ ?_ ?_
 · exact ⟨⟨rfl, ⟨rfl, rfl, rfl⟩, trivial⟩, ⟨lcr, trivial⟩, rfl⟩
 · intro i ⟨hi, h0⟩ J hJ
   refine xb rfl (fun h => ?_) (fun h => ?_)
   · have h : i < c.msgs.length := by simpa using h
     obtain ⟨m, hx⟩ := gx h
     have hg := gm Msg.cs hx
     have hF : y40 c i = z0e c m := by unfold y40; rw [hx]
     refine xs rfl (Int.natCast_nonneg _) ?_
     refine y9 rfl _ hg ?_
     refine xs rfl rfl ?_
     refine z7 rfl (q9b c ho m) rfl ⟨⟨trivial, trivial, trivial, trivial, trivial, trivial⟩, ⟨trivial, trivial, trivial, trivial, trivial, trivial, trivial, trivial, trivial, trivial⟩, trivial⟩ ?_
     refine xb rfl (fun b0 => ?_) (fun b0 => ?_)
     refine xr rfl (q7 rfl ⟨⟨rfl, ?_, trivial⟩, z6 rfl⟩)
     rotate_left
     rotate_left
     · exact vi (q8 h h0 hF (by simpa using b0))
     · exact ya rfl (hJ _ (i + 1) ⟨by omega, qa h0 (hF.trans (by simpa using b0))⟩ (by omega) ⟨⟨cwi (by omega) (by omega) (by omega), ⟨rfl, rfl, rfl⟩, trivial⟩, ⟨lcr, trivial⟩, rfl⟩)
   · have h : ¬ i < c.msgs.length := by simpa using h
     have hz := zf (f := y40 c) (n := c.msgs.length) (fun j hj => h0 j (by omega))
     refine xr rfl (q7 rfl ⟨⟨rfl, ?_, trivial⟩, z6 rfl⟩)
     exact vi (hz.symm)
end Go.Proofs.YthljegacamgnnaaGreat
end
section
namespace Go.Proofs.YthljegacamgnnaaGreat
open Go Go.Sx
set_option maxRecDepth 20000
theorem yz {α : Type} {f : α → List Cell} {P : α → Prop} {N : Nat} {e : Sh} : ∀ {rr : List (List Cell)}, WR N e rr → (∀ row, WT N e row → ∃ x, row = f x ∧ P x) → ∃ us : List α, rr = us.map f ∧ us.length ≤ N ∧ ∀ x ∈ us, P x
 | [], _, _ => ⟨[], rfl, Nat.zero_le _, fun x hx => by cases hx⟩
 | row :: rr, h, hc => by
   obtain ⟨x, hx, hp⟩ := hc row (h.2 row List.mem_cons_self)
   obtain ⟨us, hu, _, hps⟩ := yz (rr := rr) ⟨by have := h.1; simp at this; omega, fun r hr => h.2 r (List.mem_cons_of_mem _ hr)⟩ hc
   refine ⟨x :: us, by rw [hx, hu]; rfl, by have := h.1; rw [hu] at this; simpa using this, fun y hy => ?_⟩
   rcases List.mem_cons.1 hy with rfl | hy
   · exact hp
   · exact hps y hy
theorem q7s {N : Nat} (row : List Cell) (h : WT N qx row) : ∃ x : Leg, row = x.cs ∧ True := by
 obtain ⟨a0, a1, a2, a3, rfl⟩ := z25 h
 exact ⟨⟨a0, a1, a2, a3⟩, rfl, trivial⟩
theorem z4d {N : Nat} (row : List Cell) (h : WT N zc row) : ∃ x : Bal, row = x.cs ∧ True := by
 obtain ⟨a0, a1, a2, rfl⟩ := y0a h
 exact ⟨⟨a0, a1, a2⟩, rfl, trivial⟩
theorem q4d {N : Nat} (row : List Cell) (h : WT N yh row) : ∃ x : Mk, row = x.cs ∧ True := by
 obtain ⟨a0, a1, rfl⟩ := z1d h
 exact ⟨⟨a0, a1⟩, rfl, trivial⟩
theorem y4e {N : Nat} (row : List Cell) (h : WT N zm row) : ∃ x : Vt, row = x.cs ∧ True := by
 obtain ⟨a0, a1, rfl⟩ := q1d h
 exact ⟨⟨a0, a1⟩, rfl, trivial⟩
theorem y61 {N : Nat} (row : List Cell) (h : WT N zn row) : ∃ x : Hd, row = x.cs ∧ True := by
 obtain ⟨a0, a1, a2, a3, a4, rfl⟩ := z0u h
 exact ⟨⟨a0, a1, a2, a3, a4⟩, rfl, trivial⟩
theorem z4e {N : Nat} (row : List Cell) (h : WT N zg row) : ∃ x : Msg, row = x.cs ∧ True := by
 obtain ⟨a0, a1, a2, a3, a4, a5, a6, a7, a8, rfl⟩ := q0a h
 exact ⟨⟨a0, a1, a2, a3, a4, a5, a6, a7, a8⟩, rfl, trivial⟩
theorem z5m {N : Nat} (row : List Cell) (h : WT N (.i .i64 .nil) row) : ∃ x : Int, row = [i64 x] ∧ True := by
 obtain ⟨x0, _, rfl, hnil⟩ := h.zv
 obtain rfl := hnil.zx
 exact ⟨x0, rfl, trivial⟩
theorem z1r (row : List Cell) (h : WT 1048576 z8 row) : ∃ x : Con, row = x.cs ∧ x.legs.length ≤ 1048576 := by
 obtain ⟨a, b, rfl, h1⟩ := y06 h
 obtain ⟨us, rfl, hl, _⟩ := yz h1 q7s
 exact ⟨⟨a, us⟩, rfl, hl⟩
theorem q61 (row : List Cell) (h : WT 1048576 qe row) : ∃ x : Shd, row = x.cs ∧ qaj x := by
 obtain ⟨a, b, c, d, e, f, rfl, h1, h2, h3, h4, h5⟩ := y0u h
 obtain ⟨u1, rfl, l1, _⟩ := yz h1 z4d
 obtain ⟨u2, rfl, l2, _⟩ := yz h2 q4d
 obtain ⟨u3, rfl, l3, p3⟩ := yz h3 z1r
 obtain ⟨u4, rfl, l4, _⟩ := yz h4 q4d
 obtain ⟨u5, rfl, l5, _⟩ := yz h5 z5m
 exact ⟨⟨a, u1, u2, u3, u4, u5⟩, rfl, l1, l2, l3, l4, l5, p3⟩
theorem q6p (row : List Cell) (h : WT 1048576 zl row) : ∃ x : Slt, row = x.cs ∧ x.cast.length ≤ 1048576 := by
 obtain ⟨a, b, c, d, e, f, rfl, h1⟩ := y1d h
 obtain ⟨u1, rfl, l1, _⟩ := yz h1 y4e
 exact ⟨⟨a, b, c, d, e, u1⟩, rfl, l1⟩
theorem q3q (row : List Cell) (h : WT 1048576 za row) : ∃ x : Acc, row = x.cs ∧ q6i x := by
 obtain ⟨a, rfl, h1⟩ := z06 h
 obtain ⟨u1, rfl, l1, p1⟩ := yz h1 q6p
 exact ⟨⟨u1⟩, rfl, l1, p1⟩
theorem z7t (row : List Cell) (h : WT 1048576 zp row) : ∃ x : Tr, row = x.cs ∧ q9j x := by
 obtain ⟨a, b, c, d, e, f, rfl, h1, h2⟩ := y25 h
 obtain ⟨u1, rfl, l1, _⟩ := yz h1 z5m
 obtain ⟨u2, rfl, l2, _⟩ := yz h2 y4e
 exact ⟨⟨a, b, c, d, u1, u2⟩, rfl, l1, l2⟩
theorem y51 (row : List Cell) (h : WT 1048576 qd row) : ∃ x : Ldr, row = x.cs ∧ z8o x := by
 obtain ⟨a, b, c, rfl, h1, h2⟩ := y0j h
 obtain ⟨u1, rfl, l1, p1⟩ := yz h1 z7t
 obtain ⟨u2, rfl, l2, _⟩ := yz h2 y61
 exact ⟨⟨a, u1, u2⟩, rfl, l1, l2, p1⟩
theorem y4d (row : List Cell) (h : WT 1048576 yn row) : ∃ x : Clu, row = x.cs ∧ y00 x := by
 obtain ⟨a, b, c, d, e, rfl, h1, h2, h3, h4, h5⟩ := q0k h
 obtain ⟨u1, rfl, l1, p1⟩ := yz h1 z1r
 obtain ⟨u2, rfl, l2, p2⟩ := yz h2 q61
 obtain ⟨u3, rfl, l3, p3⟩ := yz h3 q3q
 obtain ⟨u4, rfl, l4, p4⟩ := yz h4 y51
 obtain ⟨u5, rfl, l5, _⟩ := yz h5 z4e
 exact ⟨⟨u1, u2, u3, u4, u5⟩, rfl, ⟨l1, p1⟩, ⟨l2, p2⟩, ⟨l3, p3⟩, ⟨l4, p4⟩, l5⟩
theorem z21 {f : List Cell → Nat} {row : List Cell} : ∀ {rows : List (List Cell)}, row ∈ rows → f row ≤ q00 f rows
 | r :: rows, h => by
   rw [q00]
   rcases List.mem_cons.1 h with rfl | h
   · omega
   · have := z21 (f := f) h; omega
theorem q9x {N M : Nat} {e : Sh} {cs : List Cell} (hw : WT N e cs) : tot e cs ≤ M → WT M e cs := by
 induction hw with
 | nil => exact fun _ => .nil
 | i n _ ih => exact fun h => .i n (ih h)
 | b x _ ih => exact fun h => .b x (ih h)
 | @l e' r' cs' rows h1 h2 h3 ih1 ih2 =>
   intro h
   simp only [tot] at h
   exact .l rows (by omega) (fun row hr => ih1 row hr (by have := z21 (f := tot e') hr; omega)) (ih2 (by omega))
end Go.Proofs.YthljegacamgnnaaGreat
end
section
namespace Go.Sx
open Go.Lib (compact)
def q3d (c : Clu) (i : Nat) : List Int := (c.shs.take i).flatMap Shd.app
def y5r (us : List Int) : List Int := us.foldl z2n []
def q4e (c : Clu) : List Int := y5r (q3d c c.shs.length)
theorem q2p {c : Clu} {i : Nat} {s : Shd} (h : c.shs[i]? = some s) : q3d c (i + 1) = q3d c i ++ s.app := by
 unfold q3d
 rw [List.take_add_one, h]; simp
theorem z42 (us : List Int) : shF (us.map fun v => ⟨v, 0, 0, 0⟩) = y5r us := by
 unfold shF y5r
 rw [List.foldl_map]
theorem y7a (us : List Int) (v : Int) : y5r (us ++ [v]) = z2n (y5r us) v := by
 unfold y5r
 rw [List.foldl_append]; rfl
theorem z5a (us : List Int) : (y5r us).Pairwise (· < ·) := by rw [← z42]; exact y3k _
theorem q5r (us : List Int) : (y5r us).length ≤ us.length := by
 rw [← z42]
 have := y1o (us.map fun v => (⟨v, 0, 0, 0⟩ : Leg)) us.length
 rwa [List.take_of_length_le (by simp)] at this
theorem z98 (us : List Int) : compact (q0h us) = y5r us := by
 rw [← z42, ← q9v, List.map_map, show (Leg.s ∘ fun v : Int => (⟨v, 0, 0, 0⟩ : Leg)) = id from rfl, List.map_id]
theorem q5c {s : Shd} (h : yk s = 0) : s.bals.length ≤ 18 ∧ s.votes.length ≤ 100 ∧ s.held.length ≤ 100 ∧ s.done.length ≤ 100 ∧ s.app.length ≤ 100 := by
 have hb : yj s.bals = 0 := by
  unfold yk at h
  repeat' split at h
  all_goals first | omega | (simp_all; done)
 have hm : many s = false := by
  unfold yk at h
  repeat' split at h
  all_goals first | omega | (simp_all; done)
 have h1 := (q20 hb).1
 unfold many at hm
 simp only [Bool.or_eq_false_iff, decide_eq_false_iff_not] at hm
 omega
theorem y2p {c : Clu} (h : qq c = 0) : ∀ i, i ≤ c.shs.length → (q3d c i).length ≤ 100 * i
 | 0, _ => by simp [q3d]
 | i + 1, hi => by
   obtain ⟨s, hs⟩ := gx (xs := c.shs) (i := i) (by omega)
   rw [q2p hs, List.length_append]
   have := y2p h i (by omega)
   have := (q5c (y50 h hs).1).2.2.2.2
   omega
def z0t (c : Clu) : Int × List Int := if qq c ≠ 0 then (qq c, []) else (0, q4e c)
theorem z7u {c : Clu} (h : qq c = 0) : (q4e c).length ≤ 300 := by
 have h1 := q5r (q3d c c.shs.length)
 have h2 := y2p h _ (Nat.le_refl _)
 have h3 := (q1q h).2.2.1
 unfold q4e
 omega
theorem q5m (c : Clu) : (z0t c).2.length ≤ 1048576 := by
 unfold z0t
 split
 · simp
 · rename_i h
   have := z7u (c := c) (by simpa using h)
   show (q4e c).length ≤ _
   omega
end Go.Sx
end
section
namespace Go.Proofs.YthljegacamgnnaaGreat
open Go Go.Sx
set_option maxRecDepth 20000
set_option maxHeartbeats 4000000
theorem q7t (c : Clu) (ho : y00 c) (hc : qq c = 0) : PC Tryz.prog 99 [.one (.p c.cs)] (.one (.own false [.l 1 (ints (q4e c))])) := by
 refine PC.begin Tryz.func99 rfl (by kernel_rfl) ?_
 have hl := ho.2.1.1
 refine xs rfl trivial ?_
 refine yd rfl (ι := Nat) (fun i => i ≤ c.shs.length) (fun i => ⟨[(12, sV (.int .i64 i)), (11, sV (.int .i64 (c.shs.map Shd.cs).length)), (10, .one (.b (.l (c.shs.map Shd.cs)))), (3, .one (.h 6 (ints (q3d c i)).length)), (0, .one (.b (.p c.cs)))], [(6, .arr true 1 0 (ints (q3d c i)))]⟩) (fun i => c.shs.length - i) 0 (Nat.zero_le _) ?_ ?_
 · exact ⟨⟨rfl, rfl, rfl, ⟨rfl, rfl, rfl⟩, rfl, trivial⟩, ⟨⟨rfl, .inl rfl, .inl rfl⟩, trivial⟩, rfl⟩
 · intro i hi J hJ
   refine xb rfl (fun h => ?_) (fun h => ?_)
   · have h : i < c.shs.length := by simpa using h
     obtain ⟨s, hx⟩ := gx h
     have hg := gm Shd.cs hx
     have hf := q2p hx
     have h1 := y2p hc i hi
     have h2 := (q1q hc).2.2.1
     have h3 := (q5c (y50 hc hx).1).2.2.2.2
     have hsc : zz (ints s.app) := fun row hr => by
      simp [ints] at hr
      obtain ⟨x, _, rfl⟩ := hr
      intro c hc
      exact ⟨_, by simpa using hc⟩
     refine xs rfl (by simp) ?_
     refine y9 rfl _ hg ?_
     refine xs rfl rfl ?_
     refine xs rfl rfl ?_
     refine xs rfl (by simp) ?_
     refine xs rfl (fun _ => hsc) ?_
     refine xs rfl (by simp; omega) ?_
     refine xs rfl (by simp; omega) ?_
     exact ya rfl (hJ _ (i + 1) (by omega) (by omega) ⟨⟨cwi (by omega) (by omega) (by omega), rfl, rfl, ⟨rfl, by rw [hf]; simp, rfl⟩, rfl, trivial⟩, ⟨⟨by rw [hf]; simp, .inl rfl, .inl rfl⟩, trivial⟩, rfl⟩)
   · have h : i = c.shs.length := by have : ¬ i < c.shs.length := by simpa using h
                                     omega
     subst h
     have h1 := y2p hc _ (Nat.le_refl _)
     have h2 := (q1q hc).2.2.1
     have hs := z5u (q3d c c.shs.length) (by omega)
     have hms : (q0h (q3d c c.shs.length)).length = (q3d c c.shs.length).length := (List.mergeSort_perm _ _).length_eq
     have hq := y60 (q0h (q3d c c.shs.length)) (by omega)
     rw [z98] at hq
     refine y0n rfl (hs) ⟨⟨rfl, rfl, rfl, rfl⟩, trivial⟩ rfl ?_
     refine y0n rfl (hq) ⟨⟨rfl, rfl, rfl, (by first | omega | (simp only [ai_len]; omega) | simp_all)⟩, trivial⟩ rfl ?_
     refine xr rfl (q7 rfl ⟨⟨rfl, ⟨rfl, rfl, .inl rfl⟩, trivial⟩, z6 rfl⟩)
theorem y87 (c : Clu) (ho : y00 c) (hc : qq c = 0) : PC Tryz.prog 98 [.one (.p c.cs)] (.one (.bor false [.l (ints (q4e c))])) := by
 refine PC.begin Tryz.func98 rfl (by kernel_rfl) ?_
 have hl := ho.2.1.1
 have hsh := (q1q hc).2.2.1
 refine xs rfl trivial ?_
 refine yd rfl (ι := Nat) (fun i => i ≤ c.shs.length) (fun i => ⟨[(4, sV (.int .i64 i)), (3, .one (.b (.l (ints (y5r (q3d c i)))))), (0, .one (.b (.p c.cs)))], []⟩) (fun i => c.shs.length - i) 0 (Nat.zero_le _) ?_ ?_
 · exact ⟨⟨rfl, ⟨rfl, rfl, rfl⟩, rfl, trivial⟩, trivial, rfl⟩
 · intro i hi J hJ
   refine xb rfl (fun h => ?_) (fun h => ?_)
   · have h : i < c.shs.length := by simpa using h
     obtain ⟨s, hx⟩ := gx h
     have hg := gm Shd.cs hx
     have hf := q2p hx
     have h1 := y2p hc i hi
     have h3 := (q5c (y50 hc hx).1).2.2.2.2
     refine yd rfl (ι := Nat) (fun k => k ≤ s.app.length) (fun k => ⟨[(5, sV (.int .i64 k)), (4, sV (.int .i64 i)), (3, .one (.b (.l (ints (y5r (q3d c i ++ s.app.take k)))))), (0, .one (.b (.p c.cs)))], []⟩) (fun k => s.app.length - k) 0 (Nat.zero_le _) ?_ ?_
     · exact ⟨⟨rfl, rfl, by rw [List.take_zero, List.append_nil]; rfl, rfl, trivial⟩, trivial, rfl⟩
     · intro k hk Jk hJk
       refine xs rfl (Int.natCast_nonneg _) ?_
       refine y9 rfl _ hg ?_
       refine xs rfl rfl ?_
       refine xb rfl (fun hh => ?_) (fun hh => ?_)
       · have hh : k < s.app.length := by simpa using hh
         obtain ⟨v, hv⟩ := gx hh
         have hgv := gm (fun n => [i64 n]) hv
         have hst : y5r (q3d c i ++ s.app.take (k + 1)) = z2n (y5r (q3d c i ++ s.app.take k)) v := by
          rw [List.take_add_one, hv, ← List.append_assoc]; exact y7a _ _
         have hlen := q5r (q3d c i ++ s.app.take k)
         have hlen2 : (q3d c i ++ s.app.take k).length ≤ 400 := by
          rw [List.length_append, List.length_take]; omega
         cases hb : (y5r (q3d c i ++ s.app.take k)).contains v with
         | true =>
           have hp := y2m _ _ true hb (by omega) (z5a _)
           rw [y42 (z5a _) hb] at hst
           refine xs rfl (Int.natCast_nonneg _) ?_
           refine y9 rfl _ hg ?_
           refine xs rfl rfl ?_
           refine xs rfl (Int.natCast_nonneg _) ?_
           refine y9 rfl _ hgv ?_
           refine xs rfl rfl ?_
           refine z7 rfl (hp) rfl ⟨trivial, trivial, trivial⟩ ?_
           exact ya rfl (hJk _ (k + 1) (by omega) (by omega) ⟨⟨cwi (by omega) (by omega) (by omega), rfl, (by rw [hst]; rfl), rfl, trivial⟩, trivial, rfl⟩)
         | false =>
           have hp := y2m _ _ false hb (by omega) (z5a _)
           refine xs rfl (Int.natCast_nonneg _) ?_
           refine y9 rfl _ hg ?_
           refine xs rfl rfl ?_
           refine xs rfl (Int.natCast_nonneg _) ?_
           refine y9 rfl _ hgv ?_
           refine xs rfl rfl ?_
           refine z7 rfl (hp) rfl ⟨trivial, trivial, trivial⟩ ?_
           exact ya rfl (hJk _ (k + 1) (by omega) (by omega) ⟨⟨cwi (by omega) (by omega) (by omega), rfl, ⟨rfl, rfl, (by rw [hst])⟩, rfl, trivial⟩, trivial, rfl⟩)
       · have hh : k = s.app.length := by have : ¬ k < s.app.length := by simpa using hh
                                          omega
         subst hh
         rw [List.take_length, ← hf]
         skip
         exact ya rfl (hJ _ (i + 1) (by omega) (by omega) ⟨⟨cwi (by omega) (by omega) (by omega), rfl, rfl, trivial⟩, trivial, rfl⟩)
   · have h : i = c.shs.length := by have : ¬ i < c.shs.length := by simpa using h
                                     omega
     subst h
     refine xr rfl (q7 rfl ⟨⟨rfl, rfl, trivial⟩, z6 rfl⟩)
end Go.Proofs.YthljegacamgnnaaGreat
end
section
namespace Go.Proofs.YthljegacamgnnaaGreat
open Go Go.Sx
set_option maxRecDepth 20000
theorem q8a (x0 : Int) (x1 : Int) (x2 : Int) (x3 : Int)  : PC Tryz.prog 246 [.agg [.s (.int .i64 x0), .s (.int .i64 x1), .s (.int .i64 x2), .s (.int .i64 x3)]] (.one (.own true [.s (.int .i64 x0), .s (.int .i64 x1), .s (.int .i64 x2), .s (.int .i64 x3)])) := by
 refine PC.begin Tryz.func246 rfl (by kernel_rfl) ?_
 exact xr rfl (q7 rfl ⟨⟨rfl, rfl, rfl, rfl, rfl, trivial⟩, z6 rfl⟩)
theorem z7j (rr : List (List Cell)) (hw : WR 1048576 qx rr) : PC Tryz.prog 193 [.one (.l rr)] (.one (.own false [.l 4 rr])) := by
 refine PC.begin Tryz.func193 rfl (by kernel_rfl) ?_
 have hlen := hw.1
 refine xs rfl rfl (xs rfl (Int.natCast_nonneg _) (xs rfl (by omega) (xs rfl (by omega) ?_)))
 refine yd rfl (ι := Nat) (fun i => i ≤ rr.length) (fun i => ⟨[(4, sV (.int .i64 i)), (3, .one (.h 7 rr.length)), (0, .one (.b (.l rr)))], [(7, .arr true 4 0 (rr.take i ++ List.replicate (rr.length - i) [.s (.int .i64 0), .s (.int .i64 0), .s (.int .i64 0), .s (.int .i64 0)]))]⟩) (fun i => rr.length - i) 0 (Nat.zero_le _) ?_ ?_
 · repeat' (first | exact trivial | exact rfl | exact Or.inl rfl | refine And.intro ?_ ?_)
 · intro i hi J hJ
   refine xb rfl (fun h => ?_) (fun h => ?_)
   · have h : i < rr.length := by simpa using h
     obtain ⟨row, hg⟩ : ∃ row, rr[i]? = some row := ⟨_, List.getElem?_eq_getElem h⟩
     obtain ⟨x0, x1, x2, x3, rfl⟩ := z25 (hw.2 row (List.mem_of_getElem? hg))
     refine xs rfl (Int.natCast_nonneg _) (y9 rfl _ hg (xs rfl rfl ?_))
     refine z7 rfl (q8a _ _ _ _) rfl ⟨⟨trivial, trivial, trivial, trivial, trivial⟩, trivial⟩ ?_
     refine xs rfl (qg _ _ _ _ (by omega) rfl).symm (xs rfl (Int.natCast_nonneg _) (y9 rfl [.s (.int .i64 0), .s (.int .i64 0), .s (.int .i64 0), .s (.int .i64 0)] (qm _ _ _ _ (by omega) rfl) (xs rfl rfl ?_)))
     refine xs rfl (qg _ _ _ _ (by omega) rfl).symm (y9 rfl [.s (.int .i64 0), .s (.int .i64 0), .s (.int .i64 0), .s (.int .i64 0)] (qm _ _ _ _ (by omega) rfl) (xs rfl (by decide) (xs rfl ⟨trivial, trivial, trivial, trivial, trivial⟩ ?_)))
     refine ya rfl (hJ _ (i + 1) (by omega) (by omega) ?_)
     repeat' (first | exact trivial | exact rfl | exact Or.inl rfl | exact cwi (by omega) (by omega) (by omega) | refine And.intro ?_ ?_)
     exact q02 _ _ _ _ _ hg rfl
   · have h : ¬ i < rr.length := by simpa using h
     have : i = rr.length := by omega
     subst this
     refine xr rfl (q7 rfl ⟨⟨rfl, ⟨(qg _ _ _ _ (by omega) rfl).symm, y01 _ _ _ rfl, Or.inl rfl⟩, trivial⟩, z6 rfl⟩)
theorem y48 (x0 : Int) (x1 : List (List Cell)) (h1 : WR 1048576 qx x1) : PC Tryz.prog 118 [.agg [.s (.int .i64 x0), .l x1]] (.one (.own true [.s (.int .i64 x0), .l 4 x1])) := by
 refine PC.begin Tryz.func118 rfl (by kernel_rfl) ?_
 refine z7 rfl (z7j _ h1) rfl ⟨trivial, trivial⟩ ?_
 exact xr rfl (q7 rfl ⟨⟨rfl, rfl, ⟨rfl, rfl, .inl rfl⟩, trivial⟩, z6 rfl⟩)
theorem q1j (rr : List (List Cell)) (hw : WR 1048576 z8 rr) : PC Tryz.prog 59 [.one (.l rr)] (.one (.own false [.l 2 rr])) := by
 refine PC.begin Tryz.func59 rfl (by kernel_rfl) ?_
 have hlen := hw.1
 refine xs rfl rfl (xs rfl (Int.natCast_nonneg _) (xs rfl (by omega) (xs rfl (by omega) ?_)))
 refine yd rfl (ι := Nat) (fun i => i ≤ rr.length) (fun i => ⟨[(4, sV (.int .i64 i)), (3, .one (.h 7 rr.length)), (0, .one (.b (.l rr)))], [(7, .arr true 2 0 (rr.take i ++ List.replicate (rr.length - i) [.s (.int .i64 0), .l []]))]⟩) (fun i => rr.length - i) 0 (Nat.zero_le _) ?_ ?_
 · repeat' (first | exact trivial | exact rfl | exact Or.inl rfl | refine And.intro ?_ ?_)
 · intro i hi J hJ
   refine xb rfl (fun h => ?_) (fun h => ?_)
   · have h : i < rr.length := by simpa using h
     obtain ⟨row, hg⟩ : ∃ row, rr[i]? = some row := ⟨_, List.getElem?_eq_getElem h⟩
     obtain ⟨x0, x1, rfl, h1⟩ := y06 (hw.2 row (List.mem_of_getElem? hg))
     refine xs rfl (Int.natCast_nonneg _) (y9 rfl _ hg (xs rfl rfl ?_))
     refine z7 rfl (y48 _ _ h1) rfl ⟨⟨trivial, trivial, trivial⟩, trivial⟩ ?_
     refine xs rfl (qg _ _ _ _ (by omega) rfl).symm (xs rfl (Int.natCast_nonneg _) (y9 rfl [.s (.int .i64 0), .l []] (qm _ _ _ _ (by omega) rfl) (xs rfl rfl ?_)))
     refine xs rfl (qg _ _ _ _ (by omega) rfl).symm (y9 rfl [.s (.int .i64 0), .l []] (qm _ _ _ _ (by omega) rfl) (xs rfl (by decide) (xs rfl ⟨trivial, ⟨rfl, rfl⟩, trivial⟩ ?_)))
     refine ya rfl (hJ _ (i + 1) (by omega) (by omega) ?_)
     repeat' (first | exact trivial | exact rfl | exact Or.inl rfl | exact cwi (by omega) (by omega) (by omega) | refine And.intro ?_ ?_)
     exact q02 _ _ _ _ _ hg rfl
   · have h : ¬ i < rr.length := by simpa using h
     have : i = rr.length := by omega
     subst this
     refine xr rfl (q7 rfl ⟨⟨rfl, ⟨(qg _ _ _ _ (by omega) rfl).symm, y01 _ _ _ rfl, Or.inl rfl⟩, trivial⟩, z6 rfl⟩)
theorem q4u (x0 : Int) (x1 : Int) (x2 : Int)  : PC Tryz.prog 223 [.agg [.s (.int .i64 x0), .s (.int .i64 x1), .s (.int .i64 x2)]] (.one (.own true [.s (.int .i64 x0), .s (.int .i64 x1), .s (.int .i64 x2)])) := by
 refine PC.begin Tryz.func223 rfl (by kernel_rfl) ?_
 exact xr rfl (q7 rfl ⟨⟨rfl, rfl, rfl, rfl, trivial⟩, z6 rfl⟩)
theorem z48 (rr : List (List Cell)) (hw : WR 1048576 zc rr) : PC Tryz.prog 151 [.one (.l rr)] (.one (.own false [.l 3 rr])) := by
 refine PC.begin Tryz.func151 rfl (by kernel_rfl) ?_
 have hlen := hw.1
 refine xs rfl rfl (xs rfl (Int.natCast_nonneg _) (xs rfl (by omega) (xs rfl (by omega) ?_)))
 refine yd rfl (ι := Nat) (fun i => i ≤ rr.length) (fun i => ⟨[(4, sV (.int .i64 i)), (3, .one (.h 7 rr.length)), (0, .one (.b (.l rr)))], [(7, .arr true 3 0 (rr.take i ++ List.replicate (rr.length - i) [.s (.int .i64 0), .s (.int .i64 0), .s (.int .i64 0)]))]⟩) (fun i => rr.length - i) 0 (Nat.zero_le _) ?_ ?_
 · repeat' (first | exact trivial | exact rfl | exact Or.inl rfl | refine And.intro ?_ ?_)
 · intro i hi J hJ
   refine xb rfl (fun h => ?_) (fun h => ?_)
   · have h : i < rr.length := by simpa using h
     obtain ⟨row, hg⟩ : ∃ row, rr[i]? = some row := ⟨_, List.getElem?_eq_getElem h⟩
     obtain ⟨x0, x1, x2, rfl⟩ := y0a (hw.2 row (List.mem_of_getElem? hg))
     refine xs rfl (Int.natCast_nonneg _) (y9 rfl _ hg (xs rfl rfl ?_))
     refine z7 rfl (q4u _ _ _) rfl ⟨⟨trivial, trivial, trivial, trivial⟩, trivial⟩ ?_
     refine xs rfl (qg _ _ _ _ (by omega) rfl).symm (xs rfl (Int.natCast_nonneg _) (y9 rfl [.s (.int .i64 0), .s (.int .i64 0), .s (.int .i64 0)] (qm _ _ _ _ (by omega) rfl) (xs rfl rfl ?_)))
     refine xs rfl (qg _ _ _ _ (by omega) rfl).symm (y9 rfl [.s (.int .i64 0), .s (.int .i64 0), .s (.int .i64 0)] (qm _ _ _ _ (by omega) rfl) (xs rfl (by decide) (xs rfl ⟨trivial, trivial, trivial, trivial⟩ ?_)))
     refine ya rfl (hJ _ (i + 1) (by omega) (by omega) ?_)
     repeat' (first | exact trivial | exact rfl | exact Or.inl rfl | exact cwi (by omega) (by omega) (by omega) | refine And.intro ?_ ?_)
     exact q02 _ _ _ _ _ hg rfl
   · have h : ¬ i < rr.length := by simpa using h
     have : i = rr.length := by omega
     subst this
     refine xr rfl (q7 rfl ⟨⟨rfl, ⟨(qg _ _ _ _ (by omega) rfl).symm, y01 _ _ _ rfl, Or.inl rfl⟩, trivial⟩, z6 rfl⟩)
theorem y7j (x0 : Int) (x1 : Int)  : PC Tryz.prog 247 [.agg [.s (.int .i64 x0), .s (.int .i64 x1)]] (.one (.own true [.s (.int .i64 x0), .s (.int .i64 x1)])) := by
 refine PC.begin Tryz.func247 rfl (by kernel_rfl) ?_
 exact xr rfl (q7 rfl ⟨⟨rfl, rfl, rfl, trivial⟩, z6 rfl⟩)
theorem y3l (rr : List (List Cell)) (hw : WR 1048576 yh rr) : PC Tryz.prog 194 [.one (.l rr)] (.one (.own false [.l 2 rr])) := by
 refine PC.begin Tryz.func194 rfl (by kernel_rfl) ?_
 have hlen := hw.1
 refine xs rfl rfl (xs rfl (Int.natCast_nonneg _) (xs rfl (by omega) (xs rfl (by omega) ?_)))
 refine yd rfl (ι := Nat) (fun i => i ≤ rr.length) (fun i => ⟨[(4, sV (.int .i64 i)), (3, .one (.h 7 rr.length)), (0, .one (.b (.l rr)))], [(7, .arr true 2 0 (rr.take i ++ List.replicate (rr.length - i) [.s (.int .i64 0), .s (.int .i64 0)]))]⟩) (fun i => rr.length - i) 0 (Nat.zero_le _) ?_ ?_
 · repeat' (first | exact trivial | exact rfl | exact Or.inl rfl | refine And.intro ?_ ?_)
 · intro i hi J hJ
   refine xb rfl (fun h => ?_) (fun h => ?_)
   · have h : i < rr.length := by simpa using h
     obtain ⟨row, hg⟩ : ∃ row, rr[i]? = some row := ⟨_, List.getElem?_eq_getElem h⟩
     obtain ⟨x0, x1, rfl⟩ := z1d (hw.2 row (List.mem_of_getElem? hg))
     refine xs rfl (Int.natCast_nonneg _) (y9 rfl _ hg (xs rfl rfl ?_))
     refine z7 rfl (y7j _ _) rfl ⟨⟨trivial, trivial, trivial⟩, trivial⟩ ?_
     refine xs rfl (qg _ _ _ _ (by omega) rfl).symm (xs rfl (Int.natCast_nonneg _) (y9 rfl [.s (.int .i64 0), .s (.int .i64 0)] (qm _ _ _ _ (by omega) rfl) (xs rfl rfl ?_)))
     refine xs rfl (qg _ _ _ _ (by omega) rfl).symm (y9 rfl [.s (.int .i64 0), .s (.int .i64 0)] (qm _ _ _ _ (by omega) rfl) (xs rfl (by decide) (xs rfl ⟨trivial, trivial, trivial⟩ ?_)))
     refine ya rfl (hJ _ (i + 1) (by omega) (by omega) ?_)
     repeat' (first | exact trivial | exact rfl | exact Or.inl rfl | exact cwi (by omega) (by omega) (by omega) | refine And.intro ?_ ?_)
     exact q02 _ _ _ _ _ hg rfl
   · have h : ¬ i < rr.length := by simpa using h
     have : i = rr.length := by omega
     subst this
     refine xr rfl (q7 rfl ⟨⟨rfl, ⟨(qg _ _ _ _ (by omega) rfl).symm, y01 _ _ _ rfl, Or.inl rfl⟩, trivial⟩, z6 rfl⟩)
theorem y34 (rr : List (List Cell)) (hw : WR 1048576 (.i .i64 .nil) rr) : PC Tryz.prog 195 [.one (.l rr)] (.one (.own false [.l 1 rr])) := by
 refine PC.begin Tryz.func195 rfl (by kernel_rfl) ?_
 have hlen := hw.1
 refine xs rfl rfl (xs rfl (Int.natCast_nonneg _) (xs rfl (by omega) (xs rfl (by omega) ?_)))
 refine yd rfl (ι := Nat) (fun i => i ≤ rr.length) (fun i => ⟨[(4, sV (.int .i64 i)), (3, .one (.h 7 rr.length)), (0, .one (.b (.l rr)))], [(7, .arr true 1 0 (rr.take i ++ List.replicate (rr.length - i) [.s (.int .i64 0)]))]⟩) (fun i => rr.length - i) 0 (Nat.zero_le _) ?_ ?_
 · repeat' (first | exact trivial | exact rfl | exact Or.inl rfl | refine And.intro ?_ ?_)
 · intro i hi J hJ
   refine xb rfl (fun h => ?_) (fun h => ?_)
   · have h : i < rr.length := by simpa using h
     obtain ⟨row, hg⟩ : ∃ row, rr[i]? = some row := ⟨_, List.getElem?_eq_getElem h⟩
     obtain ⟨x0, _, rfl, hnil⟩ := ((hw.2 row (List.mem_of_getElem? hg))).zv; obtain rfl := hnil.zx
     refine xs rfl (Int.natCast_nonneg _) (y9 rfl _ hg (xs rfl rfl ?_))
     refine xs rfl (qg _ _ _ _ (by omega) rfl).symm (xs rfl (Int.natCast_nonneg _) (y9 rfl [.s (.int .i64 0)] (qm _ _ _ _ (by omega) rfl) (xs rfl rfl ?_)))
     refine xs rfl (qg _ _ _ _ (by omega) rfl).symm (y9 rfl [.s (.int .i64 0)] (qm _ _ _ _ (by omega) rfl) (xs rfl (by decide) (xs rfl ⟨trivial, trivial⟩ ?_)))
     refine ya rfl (hJ _ (i + 1) (by omega) (by omega) ?_)
     repeat' (first | exact trivial | exact rfl | exact Or.inl rfl | exact cwi (by omega) (by omega) (by omega) | refine And.intro ?_ ?_)
     exact q02 _ _ _ _ _ hg rfl
   · have h : ¬ i < rr.length := by simpa using h
     have : i = rr.length := by omega
     subst this
     refine xr rfl (q7 rfl ⟨⟨rfl, ⟨(qg _ _ _ _ (by omega) rfl).symm, y01 _ _ _ rfl, Or.inl rfl⟩, trivial⟩, z6 rfl⟩)
theorem y6g (x0 : Int) (x1 : List (List Cell)) (x2 : List (List Cell)) (x3 : List (List Cell)) (x4 : List (List Cell)) (x5 : List (List Cell)) (h1 : WR 1048576 zc x1) (h2 : WR 1048576 yh x2) (h3 : WR 1048576 z8 x3) (h4 : WR 1048576 yh x4) (h5 : WR 1048576 (.i .i64 .nil) x5) : PC Tryz.prog 119 [.agg [.s (.int .i64 x0), .l x1, .l x2, .l x3, .l x4, .l x5]] (.one (.own true [.s (.int .i64 x0), .l 3 x1, .l 2 x2, .l 2 x3, .l 2 x4, .l 1 x5])) := by
 refine PC.begin Tryz.func119 rfl (by kernel_rfl) ?_
 refine z7 rfl (z48 _ h1) rfl ⟨trivial, trivial⟩ ?_
 refine z7 rfl (y3l _ h2) rfl ⟨trivial, trivial⟩ ?_
 refine z7 rfl (q1j _ h3) rfl ⟨trivial, trivial⟩ ?_
 refine z7 rfl (y3l _ h4) rfl ⟨trivial, trivial⟩ ?_
 refine z7 rfl (y34 _ h5) rfl ⟨trivial, trivial⟩ ?_
 exact xr rfl (q7 rfl ⟨⟨rfl, rfl, ⟨rfl, rfl, .inl rfl⟩, ⟨rfl, rfl, .inl rfl⟩, ⟨rfl, rfl, .inl rfl⟩, ⟨rfl, rfl, .inl rfl⟩, ⟨rfl, rfl, .inl rfl⟩, trivial⟩, z6 rfl⟩)
theorem z5g (rr : List (List Cell)) (hw : WR 1048576 qe rr) : PC Tryz.prog 60 [.one (.l rr)] (.one (.own false [.l 6 rr])) := by
 refine PC.begin Tryz.func60 rfl (by kernel_rfl) ?_
 have hlen := hw.1
 refine xs rfl rfl (xs rfl (Int.natCast_nonneg _) (xs rfl (by omega) (xs rfl (by omega) ?_)))
 refine yd rfl (ι := Nat) (fun i => i ≤ rr.length) (fun i => ⟨[(4, sV (.int .i64 i)), (3, .one (.h 7 rr.length)), (0, .one (.b (.l rr)))], [(7, .arr true 6 0 (rr.take i ++ List.replicate (rr.length - i) [.s (.int .i64 0), .l [], .l [], .l [], .l [], .l []]))]⟩) (fun i => rr.length - i) 0 (Nat.zero_le _) ?_ ?_
 · repeat' (first | exact trivial | exact rfl | exact Or.inl rfl | refine And.intro ?_ ?_)
 · intro i hi J hJ
   refine xb rfl (fun h => ?_) (fun h => ?_)
   · have h : i < rr.length := by simpa using h
     obtain ⟨row, hg⟩ : ∃ row, rr[i]? = some row := ⟨_, List.getElem?_eq_getElem h⟩
     obtain ⟨x0, x1, x2, x3, x4, x5, rfl, h1, h2, h3, h4, h5⟩ := y0u (hw.2 row (List.mem_of_getElem? hg))
     refine xs rfl (Int.natCast_nonneg _) (y9 rfl _ hg (xs rfl rfl ?_))
     refine z7 rfl (y6g _ _ _ _ _ _ h1 h2 h3 h4 h5) rfl ⟨⟨trivial, trivial, trivial, trivial, trivial, trivial, trivial⟩, trivial⟩ ?_
     refine xs rfl (qg _ _ _ _ (by omega) rfl).symm (xs rfl (Int.natCast_nonneg _) (y9 rfl [.s (.int .i64 0), .l [], .l [], .l [], .l [], .l []] (qm _ _ _ _ (by omega) rfl) (xs rfl rfl ?_)))
     refine xs rfl (qg _ _ _ _ (by omega) rfl).symm (y9 rfl [.s (.int .i64 0), .l [], .l [], .l [], .l [], .l []] (qm _ _ _ _ (by omega) rfl) (xs rfl (by decide) (xs rfl ⟨trivial, ⟨rfl, rfl⟩, ⟨rfl, rfl⟩, ⟨rfl, rfl⟩, ⟨rfl, rfl⟩, ⟨rfl, rfl⟩, trivial⟩ ?_)))
     refine ya rfl (hJ _ (i + 1) (by omega) (by omega) ?_)
     repeat' (first | exact trivial | exact rfl | exact Or.inl rfl | exact cwi (by omega) (by omega) (by omega) | refine And.intro ?_ ?_)
     exact q02 _ _ _ _ _ hg rfl
   · have h : ¬ i < rr.length := by simpa using h
     have : i = rr.length := by omega
     subst this
     refine xr rfl (q7 rfl ⟨⟨rfl, ⟨(qg _ _ _ _ (by omega) rfl).symm, y01 _ _ _ rfl, Or.inl rfl⟩, trivial⟩, z6 rfl⟩)
theorem q34 (x0 : Int) (x1 : Int)  : PC Tryz.prog 199 [.agg [.s (.int .i64 x0), .s (.int .i64 x1)]] (.one (.own true [.s (.int .i64 x0), .s (.int .i64 x1)])) := by
 refine PC.begin Tryz.func199 rfl (by kernel_rfl) ?_
 exact xr rfl (q7 rfl ⟨⟨rfl, rfl, rfl, trivial⟩, z6 rfl⟩)
theorem q3l (rr : List (List Cell)) (hw : WR 1048576 zm rr) : PC Tryz.prog 305 [.one (.l rr)] (.one (.own false [.l 2 rr])) := by
 refine PC.begin Tryz.func305 rfl (by kernel_rfl) ?_
 have hlen := hw.1
 refine xs rfl rfl (xs rfl (Int.natCast_nonneg _) (xs rfl (by omega) (xs rfl (by omega) ?_)))
 refine yd rfl (ι := Nat) (fun i => i ≤ rr.length) (fun i => ⟨[(4, sV (.int .i64 i)), (3, .one (.h 7 rr.length)), (0, .one (.b (.l rr)))], [(7, .arr true 2 0 (rr.take i ++ List.replicate (rr.length - i) [.s (.int .i64 0), .s (.int .i64 0)]))]⟩) (fun i => rr.length - i) 0 (Nat.zero_le _) ?_ ?_
 · repeat' (first | exact trivial | exact rfl | exact Or.inl rfl | refine And.intro ?_ ?_)
 · intro i hi J hJ
   refine xb rfl (fun h => ?_) (fun h => ?_)
   · have h : i < rr.length := by simpa using h
     obtain ⟨row, hg⟩ : ∃ row, rr[i]? = some row := ⟨_, List.getElem?_eq_getElem h⟩
     obtain ⟨x0, x1, rfl⟩ := q1d (hw.2 row (List.mem_of_getElem? hg))
     refine xs rfl (Int.natCast_nonneg _) (y9 rfl _ hg (xs rfl rfl ?_))
     refine z7 rfl (q34 _ _) rfl ⟨⟨trivial, trivial, trivial⟩, trivial⟩ ?_
     refine xs rfl (qg _ _ _ _ (by omega) rfl).symm (xs rfl (Int.natCast_nonneg _) (y9 rfl [.s (.int .i64 0), .s (.int .i64 0)] (qm _ _ _ _ (by omega) rfl) (xs rfl rfl ?_)))
     refine xs rfl (qg _ _ _ _ (by omega) rfl).symm (y9 rfl [.s (.int .i64 0), .s (.int .i64 0)] (qm _ _ _ _ (by omega) rfl) (xs rfl (by decide) (xs rfl ⟨trivial, trivial, trivial⟩ ?_)))
     refine ya rfl (hJ _ (i + 1) (by omega) (by omega) ?_)
     repeat' (first | exact trivial | exact rfl | exact Or.inl rfl | exact cwi (by omega) (by omega) (by omega) | refine And.intro ?_ ?_)
     exact q02 _ _ _ _ _ hg rfl
   · have h : ¬ i < rr.length := by simpa using h
     have : i = rr.length := by omega
     subst this
     refine xr rfl (q7 rfl ⟨⟨rfl, ⟨(qg _ _ _ _ (by omega) rfl).symm, y01 _ _ _ rfl, Or.inl rfl⟩, trivial⟩, z6 rfl⟩)
theorem q7j (x0 : Int) (x1 : Int) (x2 : Int) (x3 : Int) (x4 : Int) (x5 : List (List Cell)) (h5 : WR 1048576 zm x5) : PC Tryz.prog 248 [.agg [.s (.int .i64 x0), .s (.int .i64 x1), .s (.int .i64 x2), .s (.int .i64 x3), .s (.int .i64 x4), .l x5]] (.one (.own true [.s (.int .i64 x0), .s (.int .i64 x1), .s (.int .i64 x2), .s (.int .i64 x3), .s (.int .i64 x4), .l 2 x5])) := by
 refine PC.begin Tryz.func248 rfl (by kernel_rfl) ?_
 refine z7 rfl (q34 _ _) rfl ⟨⟨trivial, trivial, trivial⟩, trivial⟩ ?_
 refine z7 rfl (q3l _ h5) rfl ⟨trivial, trivial⟩ ?_
 exact xr rfl (q7 rfl ⟨⟨rfl, rfl, rfl, rfl, rfl, rfl, ⟨rfl, rfl, .inl rfl⟩, trivial⟩, z6 rfl⟩)
theorem q6g (rr : List (List Cell)) (hw : WR 1048576 zl rr) : PC Tryz.prog 196 [.one (.l rr)] (.one (.own false [.l 6 rr])) := by
 refine PC.begin Tryz.func196 rfl (by kernel_rfl) ?_
 have hlen := hw.1
 refine xs rfl rfl (xs rfl (Int.natCast_nonneg _) (xs rfl (by omega) (xs rfl (by omega) ?_)))
 refine yd rfl (ι := Nat) (fun i => i ≤ rr.length) (fun i => ⟨[(4, sV (.int .i64 i)), (3, .one (.h 7 rr.length)), (0, .one (.b (.l rr)))], [(7, .arr true 6 0 (rr.take i ++ List.replicate (rr.length - i) [.s (.int .i64 0), .s (.int .i64 0), .s (.int .i64 0), .s (.int .i64 0), .s (.int .i64 0), .l []]))]⟩) (fun i => rr.length - i) 0 (Nat.zero_le _) ?_ ?_
 · repeat' (first | exact trivial | exact rfl | exact Or.inl rfl | refine And.intro ?_ ?_)
 · intro i hi J hJ
   refine xb rfl (fun h => ?_) (fun h => ?_)
   · have h : i < rr.length := by simpa using h
     obtain ⟨row, hg⟩ : ∃ row, rr[i]? = some row := ⟨_, List.getElem?_eq_getElem h⟩
     obtain ⟨x0, x1, x2, x3, x4, x5, rfl, h5⟩ := y1d (hw.2 row (List.mem_of_getElem? hg))
     refine xs rfl (Int.natCast_nonneg _) (y9 rfl _ hg (xs rfl rfl ?_))
     refine z7 rfl (q7j _ _ _ _ _ _ h5) rfl ⟨⟨trivial, trivial, trivial, trivial, trivial, trivial, trivial⟩, trivial⟩ ?_
     refine xs rfl (qg _ _ _ _ (by omega) rfl).symm (xs rfl (Int.natCast_nonneg _) (y9 rfl [.s (.int .i64 0), .s (.int .i64 0), .s (.int .i64 0), .s (.int .i64 0), .s (.int .i64 0), .l []] (qm _ _ _ _ (by omega) rfl) (xs rfl rfl ?_)))
     refine xs rfl (qg _ _ _ _ (by omega) rfl).symm (y9 rfl [.s (.int .i64 0), .s (.int .i64 0), .s (.int .i64 0), .s (.int .i64 0), .s (.int .i64 0), .l []] (qm _ _ _ _ (by omega) rfl) (xs rfl (by decide) (xs rfl ⟨trivial, trivial, trivial, trivial, trivial, ⟨rfl, rfl⟩, trivial⟩ ?_)))
     refine ya rfl (hJ _ (i + 1) (by omega) (by omega) ?_)
     repeat' (first | exact trivial | exact rfl | exact Or.inl rfl | exact cwi (by omega) (by omega) (by omega) | refine And.intro ?_ ?_)
     exact q02 _ _ _ _ _ hg rfl
   · have h : ¬ i < rr.length := by simpa using h
     have : i = rr.length := by omega
     subst this
     refine xr rfl (q7 rfl ⟨⟨rfl, ⟨(qg _ _ _ _ (by omega) rfl).symm, y01 _ _ _ rfl, Or.inl rfl⟩, trivial⟩, z6 rfl⟩)
theorem q47 (x0 : List (List Cell)) (h0 : WR 1048576 zl x0) : PC Tryz.prog 120 [.agg [.l x0]] (.one (.own true [.l 6 x0])) := by
 refine PC.begin Tryz.func120 rfl (by kernel_rfl) ?_
 refine z7 rfl (q6g _ h0) rfl ⟨trivial, trivial⟩ ?_
 exact xr rfl (q7 rfl ⟨⟨rfl, ⟨rfl, rfl, .inl rfl⟩, trivial⟩, z6 rfl⟩)
theorem z3d (rr : List (List Cell)) (hw : WR 1048576 za rr) : PC Tryz.prog 61 [.one (.l rr)] (.one (.own false [.l 1 rr])) := by
 refine PC.begin Tryz.func61 rfl (by kernel_rfl) ?_
 have hlen := hw.1
 refine xs rfl rfl (xs rfl (Int.natCast_nonneg _) (xs rfl (by omega) (xs rfl (by omega) ?_)))
 refine yd rfl (ι := Nat) (fun i => i ≤ rr.length) (fun i => ⟨[(4, sV (.int .i64 i)), (3, .one (.h 7 rr.length)), (0, .one (.b (.l rr)))], [(7, .arr true 1 0 (rr.take i ++ List.replicate (rr.length - i) [.l []]))]⟩) (fun i => rr.length - i) 0 (Nat.zero_le _) ?_ ?_
 · repeat' (first | exact trivial | exact rfl | exact Or.inl rfl | refine And.intro ?_ ?_)
 · intro i hi J hJ
   refine xb rfl (fun h => ?_) (fun h => ?_)
   · have h : i < rr.length := by simpa using h
     obtain ⟨row, hg⟩ : ∃ row, rr[i]? = some row := ⟨_, List.getElem?_eq_getElem h⟩
     obtain ⟨x0, rfl, h0⟩ := z06 (hw.2 row (List.mem_of_getElem? hg))
     refine xs rfl (Int.natCast_nonneg _) (y9 rfl _ hg (xs rfl rfl ?_))
     refine z7 rfl (q47 _ h0) rfl ⟨⟨trivial, trivial⟩, trivial⟩ ?_
     refine xs rfl (qg _ _ _ _ (by omega) rfl).symm (xs rfl (Int.natCast_nonneg _) (y9 rfl [.l []] (qm _ _ _ _ (by omega) rfl) (xs rfl rfl ?_)))
     refine xs rfl (qg _ _ _ _ (by omega) rfl).symm (y9 rfl [.l []] (qm _ _ _ _ (by omega) rfl) (xs rfl (by decide) (xs rfl ⟨⟨rfl, rfl⟩, trivial⟩ ?_)))
     refine ya rfl (hJ _ (i + 1) (by omega) (by omega) ?_)
     repeat' (first | exact trivial | exact rfl | exact Or.inl rfl | exact cwi (by omega) (by omega) (by omega) | refine And.intro ?_ ?_)
     exact q02 _ _ _ _ _ hg rfl
   · have h : ¬ i < rr.length := by simpa using h
     have : i = rr.length := by omega
     subst this
     refine xr rfl (q7 rfl ⟨⟨rfl, ⟨(qg _ _ _ _ (by omega) rfl).symm, y01 _ _ _ rfl, Or.inl rfl⟩, trivial⟩, z6 rfl⟩)
theorem z8b (x0 : Int) (x1 : Int) (x2 : Int) (x3 : Int) (x4 : List (List Cell)) (x5 : List (List Cell)) (h4 : WR 1048576 (.i .i64 .nil) x4) (h5 : WR 1048576 zm x5) : PC Tryz.prog 249 [.agg [.s (.int .i64 x0), .s (.int .i64 x1), .s (.int .i64 x2), .s (.int .i64 x3), .l x4, .l x5]] (.one (.own true [.s (.int .i64 x0), .s (.int .i64 x1), .s (.int .i64 x2), .s (.int .i64 x3), .l 1 x4, .l 2 x5])) := by
 refine PC.begin Tryz.func249 rfl (by kernel_rfl) ?_
 refine z7 rfl (y34 _ h4) rfl ⟨trivial, trivial⟩ ?_
 refine z7 rfl (q3l _ h5) rfl ⟨trivial, trivial⟩ ?_
 exact xr rfl (q7 rfl ⟨⟨rfl, rfl, rfl, rfl, rfl, ⟨rfl, rfl, .inl rfl⟩, ⟨rfl, rfl, .inl rfl⟩, trivial⟩, z6 rfl⟩)
theorem z7k (rr : List (List Cell)) (hw : WR 1048576 zp rr) : PC Tryz.prog 197 [.one (.l rr)] (.one (.own false [.l 6 rr])) := by
 refine PC.begin Tryz.func197 rfl (by kernel_rfl) ?_
 have hlen := hw.1
 refine xs rfl rfl (xs rfl (Int.natCast_nonneg _) (xs rfl (by omega) (xs rfl (by omega) ?_)))
 refine yd rfl (ι := Nat) (fun i => i ≤ rr.length) (fun i => ⟨[(4, sV (.int .i64 i)), (3, .one (.h 7 rr.length)), (0, .one (.b (.l rr)))], [(7, .arr true 6 0 (rr.take i ++ List.replicate (rr.length - i) [.s (.int .i64 0), .s (.int .i64 0), .s (.int .i64 0), .s (.int .i64 0), .l [], .l []]))]⟩) (fun i => rr.length - i) 0 (Nat.zero_le _) ?_ ?_
 · repeat' (first | exact trivial | exact rfl | exact Or.inl rfl | refine And.intro ?_ ?_)
 · intro i hi J hJ
   refine xb rfl (fun h => ?_) (fun h => ?_)
   · have h : i < rr.length := by simpa using h
     obtain ⟨row, hg⟩ : ∃ row, rr[i]? = some row := ⟨_, List.getElem?_eq_getElem h⟩
     obtain ⟨x0, x1, x2, x3, x4, x5, rfl, h4, h5⟩ := y25 (hw.2 row (List.mem_of_getElem? hg))
     refine xs rfl (Int.natCast_nonneg _) (y9 rfl _ hg (xs rfl rfl ?_))
     refine z7 rfl (z8b _ _ _ _ _ _ h4 h5) rfl ⟨⟨trivial, trivial, trivial, trivial, trivial, trivial, trivial⟩, trivial⟩ ?_
     refine xs rfl (qg _ _ _ _ (by omega) rfl).symm (xs rfl (Int.natCast_nonneg _) (y9 rfl [.s (.int .i64 0), .s (.int .i64 0), .s (.int .i64 0), .s (.int .i64 0), .l [], .l []] (qm _ _ _ _ (by omega) rfl) (xs rfl rfl ?_)))
     refine xs rfl (qg _ _ _ _ (by omega) rfl).symm (y9 rfl [.s (.int .i64 0), .s (.int .i64 0), .s (.int .i64 0), .s (.int .i64 0), .l [], .l []] (qm _ _ _ _ (by omega) rfl) (xs rfl (by decide) (xs rfl ⟨trivial, trivial, trivial, trivial, ⟨rfl, rfl⟩, ⟨rfl, rfl⟩, trivial⟩ ?_)))
     refine ya rfl (hJ _ (i + 1) (by omega) (by omega) ?_)
     repeat' (first | exact trivial | exact rfl | exact Or.inl rfl | exact cwi (by omega) (by omega) (by omega) | refine And.intro ?_ ?_)
     exact q02 _ _ _ _ _ hg rfl
   · have h : ¬ i < rr.length := by simpa using h
     have : i = rr.length := by omega
     subst this
     refine xr rfl (q7 rfl ⟨⟨rfl, ⟨(qg _ _ _ _ (by omega) rfl).symm, y01 _ _ _ rfl, Or.inl rfl⟩, trivial⟩, z6 rfl⟩)
theorem z6g (x0 : Int) (x1 : Int) (x2 : Int) (x3 : Int) (x4 : Int)  : PC Tryz.prog 250 [.agg [.s (.int .i64 x0), .s (.int .i64 x1), .s (.int .i64 x2), .s (.int .i64 x3), .s (.int .i64 x4)]] (.one (.own true [.s (.int .i64 x0), .s (.int .i64 x1), .s (.int .i64 x2), .s (.int .i64 x3), .s (.int .i64 x4)])) := by
 refine PC.begin Tryz.func250 rfl (by kernel_rfl) ?_
 exact xr rfl (q7 rfl ⟨⟨rfl, rfl, rfl, rfl, rfl, rfl, trivial⟩, z6 rfl⟩)
theorem y5f (rr : List (List Cell)) (hw : WR 1048576 zn rr) : PC Tryz.prog 198 [.one (.l rr)] (.one (.own false [.l 5 rr])) := by
 refine PC.begin Tryz.func198 rfl (by kernel_rfl) ?_
 have hlen := hw.1
 refine xs rfl rfl (xs rfl (Int.natCast_nonneg _) (xs rfl (by omega) (xs rfl (by omega) ?_)))
 refine yd rfl (ι := Nat) (fun i => i ≤ rr.length) (fun i => ⟨[(4, sV (.int .i64 i)), (3, .one (.h 7 rr.length)), (0, .one (.b (.l rr)))], [(7, .arr true 5 0 (rr.take i ++ List.replicate (rr.length - i) [.s (.int .i64 0), .s (.int .i64 0), .s (.int .i64 0), .s (.int .i64 0), .s (.int .i64 0)]))]⟩) (fun i => rr.length - i) 0 (Nat.zero_le _) ?_ ?_
 · repeat' (first | exact trivial | exact rfl | exact Or.inl rfl | refine And.intro ?_ ?_)
 · intro i hi J hJ
   refine xb rfl (fun h => ?_) (fun h => ?_)
   · have h : i < rr.length := by simpa using h
     obtain ⟨row, hg⟩ : ∃ row, rr[i]? = some row := ⟨_, List.getElem?_eq_getElem h⟩
     obtain ⟨x0, x1, x2, x3, x4, rfl⟩ := z0u (hw.2 row (List.mem_of_getElem? hg))
     refine xs rfl (Int.natCast_nonneg _) (y9 rfl _ hg (xs rfl rfl ?_))
     refine z7 rfl (z6g _ _ _ _ _) rfl ⟨⟨trivial, trivial, trivial, trivial, trivial, trivial⟩, trivial⟩ ?_
     refine xs rfl (qg _ _ _ _ (by omega) rfl).symm (xs rfl (Int.natCast_nonneg _) (y9 rfl [.s (.int .i64 0), .s (.int .i64 0), .s (.int .i64 0), .s (.int .i64 0), .s (.int .i64 0)] (qm _ _ _ _ (by omega) rfl) (xs rfl rfl ?_)))
     refine xs rfl (qg _ _ _ _ (by omega) rfl).symm (y9 rfl [.s (.int .i64 0), .s (.int .i64 0), .s (.int .i64 0), .s (.int .i64 0), .s (.int .i64 0)] (qm _ _ _ _ (by omega) rfl) (xs rfl (by decide) (xs rfl ⟨trivial, trivial, trivial, trivial, trivial, trivial⟩ ?_)))
     refine ya rfl (hJ _ (i + 1) (by omega) (by omega) ?_)
     repeat' (first | exact trivial | exact rfl | exact Or.inl rfl | exact cwi (by omega) (by omega) (by omega) | refine And.intro ?_ ?_)
     exact q02 _ _ _ _ _ hg rfl
   · have h : ¬ i < rr.length := by simpa using h
     have : i = rr.length := by omega
     subst this
     refine xr rfl (q7 rfl ⟨⟨rfl, ⟨(qg _ _ _ _ (by omega) rfl).symm, y01 _ _ _ rfl, Or.inl rfl⟩, trivial⟩, z6 rfl⟩)
theorem q5f (x0 : Int) (x1 : List (List Cell)) (x2 : List (List Cell)) (h1 : WR 1048576 zp x1) (h2 : WR 1048576 zn x2) : PC Tryz.prog 121 [.agg [.s (.int .i64 x0), .l x1, .l x2]] (.one (.own true [.s (.int .i64 x0), .l 6 x1, .l 5 x2])) := by
 refine PC.begin Tryz.func121 rfl (by kernel_rfl) ?_
 refine z7 rfl (z7k _ h1) rfl ⟨trivial, trivial⟩ ?_
 refine z7 rfl (y5f _ h2) rfl ⟨trivial, trivial⟩ ?_
 exact xr rfl (q7 rfl ⟨⟨rfl, rfl, ⟨rfl, rfl, .inl rfl⟩, ⟨rfl, rfl, .inl rfl⟩, trivial⟩, z6 rfl⟩)
theorem y4v (rr : List (List Cell)) (hw : WR 1048576 qd rr) : PC Tryz.prog 62 [.one (.l rr)] (.one (.own false [.l 3 rr])) := by
 refine PC.begin Tryz.func62 rfl (by kernel_rfl) ?_
 have hlen := hw.1
 refine xs rfl rfl (xs rfl (Int.natCast_nonneg _) (xs rfl (by omega) (xs rfl (by omega) ?_)))
 refine yd rfl (ι := Nat) (fun i => i ≤ rr.length) (fun i => ⟨[(4, sV (.int .i64 i)), (3, .one (.h 7 rr.length)), (0, .one (.b (.l rr)))], [(7, .arr true 3 0 (rr.take i ++ List.replicate (rr.length - i) [.s (.int .i64 0), .l [], .l []]))]⟩) (fun i => rr.length - i) 0 (Nat.zero_le _) ?_ ?_
 · repeat' (first | exact trivial | exact rfl | exact Or.inl rfl | refine And.intro ?_ ?_)
 · intro i hi J hJ
   refine xb rfl (fun h => ?_) (fun h => ?_)
   · have h : i < rr.length := by simpa using h
     obtain ⟨row, hg⟩ : ∃ row, rr[i]? = some row := ⟨_, List.getElem?_eq_getElem h⟩
     obtain ⟨x0, x1, x2, rfl, h1, h2⟩ := y0j (hw.2 row (List.mem_of_getElem? hg))
     refine xs rfl (Int.natCast_nonneg _) (y9 rfl _ hg (xs rfl rfl ?_))
     refine z7 rfl (q5f _ _ _ h1 h2) rfl ⟨⟨trivial, trivial, trivial, trivial⟩, trivial⟩ ?_
     refine xs rfl (qg _ _ _ _ (by omega) rfl).symm (xs rfl (Int.natCast_nonneg _) (y9 rfl [.s (.int .i64 0), .l [], .l []] (qm _ _ _ _ (by omega) rfl) (xs rfl rfl ?_)))
     refine xs rfl (qg _ _ _ _ (by omega) rfl).symm (y9 rfl [.s (.int .i64 0), .l [], .l []] (qm _ _ _ _ (by omega) rfl) (xs rfl (by decide) (xs rfl ⟨trivial, ⟨rfl, rfl⟩, ⟨rfl, rfl⟩, trivial⟩ ?_)))
     refine ya rfl (hJ _ (i + 1) (by omega) (by omega) ?_)
     repeat' (first | exact trivial | exact rfl | exact Or.inl rfl | exact cwi (by omega) (by omega) (by omega) | refine And.intro ?_ ?_)
     exact q02 _ _ _ _ _ hg rfl
   · have h : ¬ i < rr.length := by simpa using h
     have : i = rr.length := by omega
     subst this
     refine xr rfl (q7 rfl ⟨⟨rfl, ⟨(qg _ _ _ _ (by omega) rfl).symm, y01 _ _ _ rfl, Or.inl rfl⟩, trivial⟩, z6 rfl⟩)
theorem q4v (x0 : Int) (x1 : Int) (x2 : Int) (x3 : Int) (x4 : Int) (x5 : Int) (x6 : Int) (x7 : Int) (x8 : Int)  : PC Tryz.prog 122 [.agg [.s (.int .i64 x0), .s (.int .i64 x1), .s (.int .i64 x2), .s (.int .i64 x3), .s (.int .i64 x4), .s (.int .i64 x5), .s (.int .i64 x6), .s (.int .i64 x7), .s (.int .i64 x8)]] (.one (.own true [.s (.int .i64 x0), .s (.int .i64 x1), .s (.int .i64 x2), .s (.int .i64 x3), .s (.int .i64 x4), .s (.int .i64 x5), .s (.int .i64 x6), .s (.int .i64 x7), .s (.int .i64 x8)])) := by
 refine PC.begin Tryz.func122 rfl (by kernel_rfl) ?_
 refine z7 rfl (q34 _ _) rfl ⟨⟨trivial, trivial, trivial⟩, trivial⟩ ?_
 exact xr rfl (q7 rfl ⟨⟨rfl, rfl, rfl, rfl, rfl, rfl, rfl, rfl, rfl, rfl, trivial⟩, z6 rfl⟩)
theorem q48 (rr : List (List Cell)) (hw : WR 1048576 zg rr) : PC Tryz.prog 63 [.one (.l rr)] (.one (.own false [.l 9 rr])) := by
 refine PC.begin Tryz.func63 rfl (by kernel_rfl) ?_
 have hlen := hw.1
 refine xs rfl rfl (xs rfl (Int.natCast_nonneg _) (xs rfl (by omega) (xs rfl (by omega) ?_)))
 refine yd rfl (ι := Nat) (fun i => i ≤ rr.length) (fun i => ⟨[(4, sV (.int .i64 i)), (3, .one (.h 7 rr.length)), (0, .one (.b (.l rr)))], [(7, .arr true 9 0 (rr.take i ++ List.replicate (rr.length - i) [.s (.int .i64 0), .s (.int .i64 0), .s (.int .i64 0), .s (.int .i64 0), .s (.int .i64 0), .s (.int .i64 0), .s (.int .i64 0), .s (.int .i64 0), .s (.int .i64 0)]))]⟩) (fun i => rr.length - i) 0 (Nat.zero_le _) ?_ ?_
 · repeat' (first | exact trivial | exact rfl | exact Or.inl rfl | refine And.intro ?_ ?_)
 · intro i hi J hJ
   refine xb rfl (fun h => ?_) (fun h => ?_)
   · have h : i < rr.length := by simpa using h
     obtain ⟨row, hg⟩ : ∃ row, rr[i]? = some row := ⟨_, List.getElem?_eq_getElem h⟩
     obtain ⟨x0, x1, x2, x3, x4, x5, x6, x7, x8, rfl⟩ := q0a (hw.2 row (List.mem_of_getElem? hg))
     refine xs rfl (Int.natCast_nonneg _) (y9 rfl _ hg (xs rfl rfl ?_))
     refine z7 rfl (q4v _ _ _ _ _ _ _ _ _) rfl ⟨⟨trivial, trivial, trivial, trivial, trivial, trivial, trivial, trivial, trivial, trivial⟩, trivial⟩ ?_
     refine xs rfl (qg _ _ _ _ (by omega) rfl).symm (xs rfl (Int.natCast_nonneg _) (y9 rfl [.s (.int .i64 0), .s (.int .i64 0), .s (.int .i64 0), .s (.int .i64 0), .s (.int .i64 0), .s (.int .i64 0), .s (.int .i64 0), .s (.int .i64 0), .s (.int .i64 0)] (qm _ _ _ _ (by omega) rfl) (xs rfl rfl ?_)))
     refine xs rfl (qg _ _ _ _ (by omega) rfl).symm (y9 rfl [.s (.int .i64 0), .s (.int .i64 0), .s (.int .i64 0), .s (.int .i64 0), .s (.int .i64 0), .s (.int .i64 0), .s (.int .i64 0), .s (.int .i64 0), .s (.int .i64 0)] (qm _ _ _ _ (by omega) rfl) (xs rfl (by decide) (xs rfl ⟨trivial, trivial, trivial, trivial, trivial, trivial, trivial, trivial, trivial, trivial⟩ ?_)))
     refine ya rfl (hJ _ (i + 1) (by omega) (by omega) ?_)
     repeat' (first | exact trivial | exact rfl | exact Or.inl rfl | exact cwi (by omega) (by omega) (by omega) | refine And.intro ?_ ?_)
     exact q02 _ _ _ _ _ hg rfl
   · have h : ¬ i < rr.length := by simpa using h
     have : i = rr.length := by omega
     subst this
     refine xr rfl (q7 rfl ⟨⟨rfl, ⟨(qg _ _ _ _ (by omega) rfl).symm, y01 _ _ _ rfl, Or.inl rfl⟩, trivial⟩, z6 rfl⟩)
theorem z4v (x0 : List (List Cell)) (x1 : List (List Cell)) (x2 : List (List Cell)) (x3 : List (List Cell)) (x4 : List (List Cell)) (h0 : WR 1048576 z8 x0) (h1 : WR 1048576 qe x1) (h2 : WR 1048576 za x2) (h3 : WR 1048576 qd x3) (h4 : WR 1048576 zg x4) : PC Tryz.prog 14 [.agg [.l x0, .l x1, .l x2, .l x3, .l x4]] (.one (.own true [.l 2 x0, .l 6 x1, .l 1 x2, .l 3 x3, .l 9 x4])) := by
 refine PC.begin Tryz.func14 rfl (by kernel_rfl) ?_
 refine z7 rfl (q1j _ h0) rfl ⟨trivial, trivial⟩ ?_
 refine z7 rfl (z5g _ h1) rfl ⟨trivial, trivial⟩ ?_
 refine z7 rfl (z3d _ h2) rfl ⟨trivial, trivial⟩ ?_
 refine z7 rfl (y4v _ h3) rfl ⟨trivial, trivial⟩ ?_
 refine z7 rfl (q48 _ h4) rfl ⟨trivial, trivial⟩ ?_
 exact xr rfl (q7 rfl ⟨⟨rfl, ⟨rfl, rfl, .inl rfl⟩, ⟨rfl, rfl, .inl rfl⟩, ⟨rfl, rfl, .inl rfl⟩, ⟨rfl, rfl, .inl rfl⟩, ⟨rfl, rfl, .inl rfl⟩, trivial⟩, z6 rfl⟩)
end Go.Proofs.YthljegacamgnnaaGreat
end
