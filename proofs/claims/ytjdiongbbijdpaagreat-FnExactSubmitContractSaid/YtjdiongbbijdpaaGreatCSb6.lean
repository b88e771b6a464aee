/- WHAT IS PROVED: parts of the proof of fnExactSubmitContract_holds: a frame for walks, what each Go function that it reaches answers, and plain lemmas; no condition beyond those that each theorem names. -/
import Derived.Test.YtjdiongbbijdpaaGreatCSb5
import Derived.WalkKit
import Derived.OrdersHeld
import Derived.DeepKeys
import Derived.Maps.RangeWalk
import Derived.Maps.OwnOps
import Derived.WideKeyEntry
import Derived.Orders
import Derived.Deep.Slices
import Derived.ChangeArms
import Derived.WideShapes
import Derived.Sort.AssemblyPlain
import Derived.Lib.SlicesCompact
import Derived.Test.YtjdiongbbijdpaaGreatProg
import Derived.Shelf.SortG.Plain
import Derived.Shelf.SortG.SortNone
import Derived.Shelf.SlicesG.CompactI
import Derived.Lib.OwnBridge
import Derived.RangeFuncGives
import Derived.RangeFuncBox
import Derived.RangeFuncLeaves
import Derived.Shelf.Abstract
import Derived.Maps.AppendAt
import Derived.OwnWalkIn
import Derived.TacticsInMore
import Derived.LoopNIn
import Derived.LoopIn
import Derived.Shelf.SlicesG.Delete
set_option linter.unusedVariables false
set_option linter.unusedSimpArgs false
section
namespace Go.Proofs.YtjdiongbbijdpaaGreat
open Go Go.Sx
set_option maxRecDepth 20000
set_option maxHeartbeats 4000000
abbrev zcb (m : Msg) : Res := .one (.own true [.s (.int .i64 m.k), .s (.int .i64 m.to), .s (.int .i64 m.fr), .s (.int .i64 m.c), .s (.int .i64 m.s), .s (.int .i64 m.b), .s (.int .i64 m.v), .s (.int .i64 m.ob), .s (.int .i64 m.ov)])
theorem kinds {k : Int} (h : Go.Sx.within k 1 6 = true) : k = 1 ∨ k = 2 ∨ k = 3 ∨ k = 4 ∨ k = 5 ∨ k = 6 := by
 have := Go.Sx.within_iff.1 h; omega
theorem wl1 {α β : Type} (f : α → β) {us : List α} (h : us.length ≤ 1048576) : IntKind.i64.wrap (((us.map f).length : Int) - 1) = (us.length : Int) - 1 := by rw [List.length_map]; exact wrap_i64 (by omega) (by omega)
theorem z0f {α : Type} {p : α → Bool} {l : List α} : decide (q1g p l < 0) = (l.find? p).isNone := by
 cases h : l.find? p with
 | none => rw [q18 h]; rfl
 | some x =>
   obtain ⟨i, hi, _⟩ := y18 h; rw [hi]; simp
theorem y0g (m : Msg) (hk : Go.Sx.within m.k 1 6 = true) : PC Tryz.prog 216 [.agg m.cs] (zcb m.bare) := by
 refine PC.begin Tryz.func216 Y (by kernel_rfl) ?_; obtain ⟨k, to, fr, c, s, b, v, ob, ov⟩ := m; rcases kinds hk with h | h | h | h | h | h
 · dsimp only at h
   subst h; rw [show Msg.bare ⟨1, to, fr, c, s, b, v, ob, ov⟩ = ⟨1, to, 0, c, 0, 0, 0, 0, 0⟩ from rfl]; refine xj (k := 20) Y ?_; refine xr Y (zm Y ⟨⟨Y, Y, Y, Y, Y, Y, Y, Y, Y, Y, trivial⟩, z6 Y⟩)
 · dsimp only at h
   subst h; rw [show Msg.bare ⟨2, to, fr, c, s, b, v, ob, ov⟩ = ⟨2, to, 0, c, s, b, v, 0, 0⟩ from rfl]; refine xj (k := 20) Y ?_; refine xr Y (zm Y ⟨⟨Y, Y, Y, Y, Y, Y, Y, Y, Y, Y, trivial⟩, z6 Y⟩)
 · dsimp only at h
   subst h; rw [show Msg.bare ⟨3, to, fr, c, s, b, v, ob, ov⟩ = ⟨3, to, fr, c, s, b, v, 0, 0⟩ from rfl]; refine xj (k := 20) Y ?_; refine xr Y (zm Y ⟨⟨Y, Y, Y, Y, Y, Y, Y, Y, Y, Y, trivial⟩, z6 Y⟩)
 · dsimp only at h
   subst h; rw [show Msg.bare ⟨4, to, fr, c, s, b, v, ob, ov⟩ = ⟨4, to, fr, c, s, b, 0, 0, 0⟩ from rfl]; refine xj (k := 20) Y ?_; refine xr Y (zm Y ⟨⟨Y, Y, Y, Y, Y, Y, Y, Y, Y, Y, trivial⟩, z6 Y⟩)
 · dsimp only at h
   subst h; rw [show Msg.bare ⟨5, to, fr, c, s, b, v, ob, ov⟩ = ⟨5, to, fr, c, s, b, 0, ob, ov⟩ from rfl]; refine xj (k := 20) Y ?_; refine xr Y (zm Y ⟨⟨Y, Y, Y, Y, Y, Y, Y, Y, Y, Y, trivial⟩, z6 Y⟩)
 · dsimp only at h
   subst h; rw [show Msg.bare ⟨6, to, fr, c, s, b, v, ob, ov⟩ = ⟨6, to, 0, c, 0, 0, v, 0, 0⟩ from rfl]; refine xj (k := 20) Y ?_; refine xr Y (zm Y ⟨⟨Y, Y, Y, Y, Y, Y, Y, Y, Y, Y, trivial⟩, z6 Y⟩)
theorem q9d (m : Msg) (hk : Go.Sx.within m.k 1 6 = true) : PC Tryz.prog 275 [.agg m.cs] (zcb m.bare) := by
 refine PC.begin Tryz.func275 Y (by kernel_rfl) ?_; obtain ⟨k, to, fr, c, s, b, v, ob, ov⟩ := m; rcases kinds hk with h | h | h | h | h | h
 · dsimp only at h
   subst h; rw [show Msg.bare ⟨1, to, fr, c, s, b, v, ob, ov⟩ = ⟨1, to, 0, c, 0, 0, 0, 0, 0⟩ from rfl]; refine xj (k := 10) Y ?_; refine xr Y (zm Y ⟨⟨Y, Y, Y, Y, Y, Y, Y, Y, Y, Y, trivial⟩, z6 Y⟩)
 · dsimp only at h
   subst h; rw [show Msg.bare ⟨2, to, fr, c, s, b, v, ob, ov⟩ = ⟨2, to, 0, c, s, b, v, 0, 0⟩ from rfl]; refine xj (k := 5) Y (yb Y [] (.take 0 [] (.take 1 (Rg 4 4) (Tk [2, 4] (.alt 3 (.alt 5 (.take 6 [] (.alt 7 .done .nil)) .nil) (.alt 5 (.take 3 [6, 7] (.take 6 [] (.alt 7 .done .nil))) .nil))))) (by kernel_rfl) ?_); refine yr Y ?_ ?_; refine xj (k := 2) Y ?_; refine xr Y (zm Y ⟨⟨Y, Y, Y, Y, Y, Y, Y, Y, Y, Y, trivial⟩, z6 Y⟩); refine xj (k := 2) Y ?_; refine xr Y (zm Y ⟨⟨Y, Y, Y, Y, Y, Y, Y, Y, Y, Y, trivial⟩, z6 Y⟩)
 · dsimp only at h
   subst h; rw [show Msg.bare ⟨3, to, fr, c, s, b, v, ob, ov⟩ = ⟨3, to, fr, c, s, b, v, 0, 0⟩ from rfl]; refine xj (k := 5) Y (yb Y [] (.take 0 [] (.take 1 (Rg 4 4) (Tk [2, 4] (.alt 3 (.alt 5 (.take 6 [] (.alt 7 .done .nil)) .nil) (.alt 5 (.take 3 [6, 7] (.take 6 [] (.alt 7 .done .nil))) .nil))))) (by kernel_rfl) ?_); refine yr Y ?_ ?_; refine xj (k := 3) Y (yb Y [] (.take 0 [] (.take 1 (Rg 4 4) (Tk [2, 4] (.alt 3 (.alt 5 (.take 6 [] (.alt 7 .done .nil)) .nil) (.alt 5 (.take 3 [6, 7] (.take 6 [] (.alt 7 .done .nil))) .nil))))) (by kernel_rfl) ?_); refine yr Y ?_ ?_; refine xr Y (zm Y ⟨⟨Y, Y, Y, Y, Y, Y, Y, Y, Y, Y, trivial⟩, z6 Y⟩); refine xr Y (zm Y ⟨⟨Y, Y, Y, Y, Y, Y, Y, Y, Y, Y, trivial⟩, z6 Y⟩); refine xj (k := 3) Y (yb Y [] (.take 0 [] (.take 1 (Rg 4 4) (Tk [2, 4] (.alt 3 (.alt 5 (.take 6 [] (.alt 7 .done .nil)) .nil) (.alt 5 (.take 3 [6, 7] (.take 6 [] (.alt 7 .done .nil))) .nil))))) (by kernel_rfl) ?_); refine yr Y ?_ ?_; refine xr Y (zm Y ⟨⟨Y, Y, Y, Y, Y, Y, Y, Y, Y, Y, trivial⟩, z6 Y⟩); refine xr Y (zm Y ⟨⟨Y, Y, Y, Y, Y, Y, Y, Y, Y, Y, trivial⟩, z6 Y⟩)
 · dsimp only at h
   subst h; rw [show Msg.bare ⟨4, to, fr, c, s, b, v, ob, ov⟩ = ⟨4, to, fr, c, s, b, 0, 0, 0⟩ from rfl]; refine xj (k := 5) Y (yb Y [] (.take 0 [] (.take 1 (Rg 4 4) (Tk [2, 4] (.alt 3 (.alt 5 (.take 6 [] (.alt 7 .done .nil)) .nil) (.alt 5 (.take 3 [6, 7] (.take 6 [] (.alt 7 .done .nil))) .nil))))) (by kernel_rfl) ?_); refine yr Y ?_ ?_; refine xj (k := 4) Y ?_; refine xr Y (zm Y ⟨⟨Y, Y, Y, Y, Y, Y, Y, Y, Y, Y, trivial⟩, z6 Y⟩); refine xj (k := 4) Y ?_; refine xr Y (zm Y ⟨⟨Y, Y, Y, Y, Y, Y, Y, Y, Y, Y, trivial⟩, z6 Y⟩)
 · dsimp only at h
   subst h; rw [show Msg.bare ⟨5, to, fr, c, s, b, v, ob, ov⟩ = ⟨5, to, fr, c, s, b, 0, ob, ov⟩ from rfl]; refine xj (k := 5) Y (yb Y [] (.take 0 [] (.take 1 (Rg 4 4) (Tk [2, 4] (.alt 3 (.alt 5 (.take 6 [] (.alt 7 .done .nil)) .nil) (.alt 5 (.take 3 [6, 7] (.take 6 [] (.alt 7 .done .nil))) .nil))))) (by kernel_rfl) ?_); refine yr Y ?_ ?_; refine xj (k := 5) Y (yb Y [] (.take 0 [] (.take 1 (Rg 4 4) (Tk [2, 4] (.alt 3 (.alt 5 (.take 6 [] (.alt 7 .done .nil)) .nil) (.alt 5 (.take 3 [6, 7] (.take 6 [] (.alt 7 .done .nil))) .nil))))) (by kernel_rfl) ?_); refine yr Y ?_ ?_; refine xr Y (zm Y ⟨⟨Y, Y, Y, Y, Y, Y, Y, Y, Y, Y, trivial⟩, z6 Y⟩); refine xr Y (zm Y ⟨⟨Y, Y, Y, Y, Y, Y, Y, Y, Y, Y, trivial⟩, z6 Y⟩); refine xj (k := 5) Y (yb Y [] (.take 0 [] (.take 1 (Rg 4 4) (Tk [2, 4] (.alt 3 (.alt 5 (.take 6 [] (.alt 7 .done .nil)) .nil) (.alt 5 (.take 3 [6, 7] (.take 6 [] (.alt 7 .done .nil))) .nil))))) (by kernel_rfl) ?_); refine yr Y ?_ ?_; refine xr Y (zm Y ⟨⟨Y, Y, Y, Y, Y, Y, Y, Y, Y, Y, trivial⟩, z6 Y⟩); refine xr Y (zm Y ⟨⟨Y, Y, Y, Y, Y, Y, Y, Y, Y, Y, trivial⟩, z6 Y⟩)
 · dsimp only at h
   subst h; rw [show Msg.bare ⟨6, to, fr, c, s, b, v, ob, ov⟩ = ⟨6, to, 0, c, 0, 0, v, 0, 0⟩ from rfl]; refine xj (k := 7) Y ?_; refine xr Y (zm Y ⟨⟨Y, Y, Y, Y, Y, Y, Y, Y, Y, Y, trivial⟩, z6 Y⟩)
theorem q1p (c : Clu) (ho : zz c) (m : Msg) (hk : Go.Sx.within m.k 1 6 = true) : PC Tryz.prog 213 [.one (.p c.cs), .agg m.cs] (rB (ends c m)) := by
 refine PC.begin Tryz.func213 Y (by kernel_rfl) ?_; have q1 := ho.2.1.1; have q2 := ho.2.2.1.1; have q3 := ho.2.2.2.1.1; have p1 : (c.shs.map Shd.cs).length ≤ 1048576 := by simpa using q1
 have p2 : (c.accs.map Acc.cs).length ≤ 1048576 := by simpa using q2
 have p3 : (c.ldrs.map Ldr.cs).length ≤ 1048576 := by simpa using q3
 have w1 := wl1 Shd.cs q1; have w2 := wl1 Acc.cs q2; have w3 := wl1 Ldr.cs q3; obtain ⟨k, to, fr, mc, s, b, v, ob, ov⟩ := m; rcases kinds hk with h | h | h | h | h | h
 · dsimp only at h
   subst h; refine xj (k := 11) Y (z7 Y (zl _ _ _) Y tv4 ?_); refine xb Y ?_ ?_ <;> intro b0
   refine xj (k := 17) Y ?_; refine xv Y Y Y ?_; rotate_left; refine xj (k := 7) Y ?_; refine xv Y Y Y ?_; rotate_left; all_goals (refine vb ?_; simp_all [ends, toN, frN]; done)
 · dsimp only at h
   subst h; refine xj (k := 11) Y (z7 Y (zl _ _ _) Y tv4 ?_); refine xb Y ?_ ?_ <;> intro b0
   refine xj (k := 17) Y ?_; refine xv Y Y Y ?_; rotate_left; refine xj (k := 7) Y ?_; refine xv Y Y Y ?_; rotate_left; all_goals (refine vb ?_; simp_all [ends, toN, frN]; done)
 · dsimp only at h
   subst h; refine xj (k := 11) Y (z7 Y (zl _ _ _) Y tv4 ?_); refine xb Y ?_ ?_ <;> intro b0
   refine xj (k := 14) Y (z7 Y (zl _ _ _) Y tv4 (xj (k := 3) Y ?_)); refine xv Y Y Y ?_; rotate_left; refine xj (k := 7) Y ?_; refine xv Y Y Y ?_; rotate_left; all_goals (refine vb ?_; simp_all [ends, toN, frN]; done)
 · dsimp only at h
   subst h; refine xj (k := 11) Y (z7 Y (zl _ _ _) Y tv4 ?_); refine xb Y ?_ ?_ <;> intro b0
   refine xj (k := 14) Y (z7 Y (zl _ _ _) Y tv4 (xj (k := 3) Y ?_)); refine xv Y Y Y ?_; rotate_left; refine xj (k := 7) Y ?_; refine xv Y Y Y ?_; rotate_left; all_goals (refine vb ?_; simp_all [ends, toN, frN]; done)
 · dsimp only at h
   subst h; refine xj (k := 11) Y (z7 Y (zl _ _ _) Y tv4 ?_); refine xb Y ?_ ?_ <;> intro b0
   refine xj (k := 14) Y (z7 Y (zl _ _ _) Y tv4 (xj (k := 3) Y ?_)); refine xv Y Y Y ?_; rotate_left; refine xj (k := 7) Y ?_; refine xv Y Y Y ?_; rotate_left; all_goals (refine vb ?_; simp_all [ends, toN, frN]; done)
 · dsimp only at h
   subst h; refine xj (k := 11) Y (z7 Y (zl _ _ _) Y tv4 ?_); refine xb Y ?_ ?_ <;> intro b0
   refine xj (k := 17) Y ?_; refine xv Y Y Y ?_; rotate_left; refine xj (k := 7) Y ?_; refine xv Y Y Y ?_; rotate_left; all_goals (refine vb ?_; simp_all [ends, toN, frN]; done)
theorem qah (c : Clu) (ho : zz c) (m : Msg) (hk : Go.Sx.within m.k 1 6 = true) : PC Tryz.prog 272 [.one (.p c.cs), .agg m.cs] (rB (within m.to 0 ((toN c m : Int) - 1))) := by
 refine PC.begin Tryz.func272 Y (by kernel_rfl) ?_; have q1 := ho.2.1.1; have q2 := ho.2.2.1.1; have q3 := ho.2.2.2.1.1; have p1 : (c.shs.map Shd.cs).length ≤ 1048576 := by simpa using q1
 have p2 : (c.accs.map Acc.cs).length ≤ 1048576 := by simpa using q2
 have p3 : (c.ldrs.map Ldr.cs).length ≤ 1048576 := by simpa using q3
 have w1 := wl1 Shd.cs q1; have w2 := wl1 Acc.cs q2; have w3 := wl1 Ldr.cs q3; obtain ⟨k, to, fr, mc, s, b, v, ob, ov⟩ := m; rcases kinds hk with h | h | h | h | h | h
 · dsimp only at h
   subst h; refine xj (k := 2) Y (yb Y [] (.take 0 [] (.take 1 [6, 7] (Tk [2, 3, 4] (.take 5 [6, 7] (.alt 6 (.take 7 [] .done) .nil))))) (by kernel_rfl) (z7 Y (z2j _ _ (by assumption)) Y tv3 (xv Y Y Y ?_))); all_goals (refine vb ?_; simp_all [toN]; done)
 · dsimp only at h
   subst h; refine xj (k := 4) Y (yb Y [] (.take 0 [] (.take 1 [6, 7] (Tk [2, 3, 4] (.take 5 [6, 7] (.alt 6 (.take 7 [] .done) .nil))))) (by kernel_rfl) (z7 Y (z0g _ _ (by assumption)) Y tv3 (xv Y Y Y ?_))); all_goals (refine vb ?_; simp_all [toN]; done)
 · dsimp only at h
   subst h; refine xj (k := 4) Y (yb Y [] (.take 0 [] (.take 1 [6, 7] (Tk [2, 3, 4] (.take 5 [6, 7] (.alt 6 (.take 7 [] .done) .nil))))) (by kernel_rfl) (z7 Y (q2i _ _ (by assumption)) Y tv3 (xv Y Y Y ?_))); all_goals (refine vb ?_; simp_all [toN]; done)
 · dsimp only at h
   subst h; refine xj (k := 4) Y (yb Y [] (.take 0 [] (.take 1 [6, 7] (Tk [2, 3, 4] (.take 5 [6, 7] (.alt 6 (.take 7 [] .done) .nil))))) (by kernel_rfl) (z7 Y (z0g _ _ (by assumption)) Y tv3 (xv Y Y Y ?_))); all_goals (refine vb ?_; simp_all [toN]; done)
 · dsimp only at h
   subst h; refine xj (k := 4) Y (yb Y [] (.take 0 [] (.take 1 [6, 7] (Tk [2, 3, 4] (.take 5 [6, 7] (.alt 6 (.take 7 [] .done) .nil))))) (by kernel_rfl) (z7 Y (q2i _ _ (by assumption)) Y tv3 (xv Y Y Y ?_))); all_goals (refine vb ?_; simp_all [toN]; done)
 · dsimp only at h
   subst h; refine xj (k := 2) Y (yb Y [] (.take 0 [] (.take 1 [6, 7] (Tk [2, 3, 4] (.take 5 [6, 7] (.alt 6 (.take 7 [] .done) .nil))))) (by kernel_rfl) (z7 Y (z2j _ _ (by assumption)) Y tv3 (xv Y Y Y ?_))); all_goals (refine vb ?_; simp_all [toN]; done)
theorem y85 (c : Clu) (ho : zz c) (m : Msg) (hk : Go.Sx.within m.k 1 6 = true) : PC Tryz.prog 273 [.one (.p c.cs), .agg m.cs] (rB (decide (m.k < 3) || decide (5 < m.k) || within m.fr 0 ((frN c m : Int) - 1))) := by
 refine PC.begin Tryz.func273 Y (by kernel_rfl) ?_; have q1 := ho.2.1.1; have q2 := ho.2.2.1.1; have q3 := ho.2.2.2.1.1; have p1 : (c.shs.map Shd.cs).length ≤ 1048576 := by simpa using q1
 have p2 : (c.accs.map Acc.cs).length ≤ 1048576 := by simpa using q2
 have p3 : (c.ldrs.map Ldr.cs).length ≤ 1048576 := by simpa using q3
 have w1 := wl1 Shd.cs q1; have w2 := wl1 Acc.cs q2; have w3 := wl1 Ldr.cs q3; obtain ⟨k, to, fr, mc, s, b, v, ob, ov⟩ := m; rcases kinds hk with h | h | h | h | h | h
 · dsimp only at h
   subst h; refine xj (k := 3) Y ?_; refine xr Y (zm Y ⟨⟨Y, Y, trivial⟩, z6 Y⟩); all_goals (refine vb ?_; simp_all [frN]; done)
 · dsimp only at h
   subst h; refine xj (k := 3) Y ?_; refine xr Y (zm Y ⟨⟨Y, Y, trivial⟩, z6 Y⟩); all_goals (refine vb ?_; simp_all [frN]; done)
 · dsimp only at h
   subst h; refine xj (k := 3) Y (yb Y [] (.take 0 [] (.take 1 [6, 7] (Tk [2, 3, 4] (.take 5 [6, 7] (.alt 6 (.take 7 [] .done) .nil))))) (by kernel_rfl) (z7 Y (z0g _ _ (by assumption)) Y tv3 (xv Y Y Y ?_))); all_goals (refine vb ?_; simp_all [frN]; done)
 · dsimp only at h
   subst h; refine xj (k := 1) Y (yb Y [] (.take 0 [] (.take 1 [6, 7] (Tk [2, 3, 4] (.take 5 [6, 7] (.alt 6 (.take 7 [] .done) .nil))))) (by kernel_rfl) (z7 Y (q2i _ _ (by assumption)) Y tv3 (xv Y Y Y ?_))); all_goals (refine vb ?_; simp_all [frN]; done)
 · dsimp only at h
   subst h; refine xj (k := 3) Y (yb Y [] (.take 0 [] (.take 1 [6, 7] (Tk [2, 3, 4] (.take 5 [6, 7] (.alt 6 (.take 7 [] .done) .nil))))) (by kernel_rfl) (z7 Y (z0g _ _ (by assumption)) Y tv3 (xv Y Y Y ?_))); all_goals (refine vb ?_; simp_all [frN]; done)
 · dsimp only at h
   subst h; refine xj (k := 3) Y ?_; refine xr Y (zm Y ⟨⟨Y, Y, trivial⟩, z6 Y⟩); all_goals (refine vb ?_; simp_all [frN]; done)
theorem z65 (c : Clu) (ho : zz c) (m : Msg) (hk : Go.Sx.within m.k 1 6 = true) : PC Tryz.prog 274 [.one (.p c.cs), .agg m.cs] (rB (ranges c m)) := by
 refine PC.begin Tryz.func274 Y (by kernel_rfl) ?_; have q1 := ho.2.1.1; have q2 := ho.2.2.1.1; have q3 := ho.2.2.2.1.1; have p1 : (c.shs.map Shd.cs).length ≤ 1048576 := by simpa using q1
 have p2 : (c.accs.map Acc.cs).length ≤ 1048576 := by simpa using q2
 have p3 : (c.ldrs.map Ldr.cs).length ≤ 1048576 := by simpa using q3
 have w1 := wl1 Shd.cs q1; have w2 := wl1 Acc.cs q2; have w3 := wl1 Ldr.cs q3; obtain ⟨k, to, fr, mc, s, b, v, ob, ov⟩ := m; rcases kinds hk with h | h | h | h | h | h
 · dsimp only at h
   subst h; refine xj (k := 1) Y (z7 Y (q1b _ (by assumption) _ _) Y tv4 (xv Y Y Y ?_)); all_goals (refine vb ?_; simp_all [ranges, Msg.shd, z27, Vt.none]; done)
 · dsimp only at h
   subst h; refine xj (k := 2) Y (z7 Y (q1b _ (by assumption) _ _) Y tv4 ?_); refine xb Y ?_ ?_ <;> intro b0
   refine xj (k := 5) Y ?_; refine xv Y Y Y ?_; rotate_left; refine xj (k := 2) Y (z7 Y (z0a _) Y ⟨trivial, trivial⟩ (xj (k := 2) Y ?_)); refine xb Y ?_ ?_ <;> intro b1
   refine xv Y Y Y ?_; rotate_left; refine xj (k := 2) Y (z7 Y (y0p _) Y ⟨trivial, trivial⟩ ?_); refine xv Y Y Y ?_; rotate_left; all_goals (refine vb ?_; simp_all [ranges, Msg.shd, z27, Vt.none]; done)
 · dsimp only at h
   subst h; refine xj (k := 2) Y (z7 Y (q1b _ (by assumption) _ _) Y tv4 ?_); refine xb Y ?_ ?_ <;> intro b0
   refine xj (k := 5) Y ?_; refine xv Y Y Y ?_; rotate_left; refine xj (k := 2) Y (z7 Y (z0a _) Y ⟨trivial, trivial⟩ (xj (k := 2) Y ?_)); refine xb Y ?_ ?_ <;> intro b1
   refine xv Y Y Y ?_; rotate_left; refine xj (k := 2) Y (z7 Y (y0p _) Y ⟨trivial, trivial⟩ ?_); refine xv Y Y Y ?_; rotate_left; all_goals (refine vb ?_; simp_all [ranges, Msg.shd, z27, Vt.none]; done)
 · dsimp only at h
   subst h; refine xj (k := 2) Y (z7 Y (q1b _ (by assumption) _ _) Y tv4 ?_); refine xb Y ?_ ?_ <;> intro b0
   refine xj (k := 5) Y ?_; refine xv Y Y Y ?_; rotate_left; refine xj (k := 2) Y (z7 Y (z0a _) Y ⟨trivial, trivial⟩ (xj (k := 2) Y ?_)); refine xb Y ?_ ?_ <;> intro b1
   refine xv Y Y Y ?_; rotate_left; refine xj (k := 3) Y ?_; refine xv Y Y Y ?_; rotate_left; all_goals (refine vb ?_; simp_all [ranges, Msg.shd, z27, Vt.none]; done)
 · dsimp only at h
   subst h; refine xj (k := 2) Y (z7 Y (q1b _ (by assumption) _ _) Y tv4 ?_); refine xb Y ?_ ?_ <;> intro b0
   refine xj (k := 5) Y ?_; refine xv Y Y Y ?_; rotate_left; refine xj (k := 2) Y (z7 Y (z0a _) Y ⟨trivial, trivial⟩ (xj (k := 2) Y ?_)); refine xb Y ?_ ?_ <;> intro b1
   refine xv Y Y Y ?_; rotate_left; refine xj (k := 3) Y (yb Y [] (.take 0 [] (.take 1 (Rg 3 7) (.alt 2 (Tk [3, 4, 5] (.take 6 (Rg 7 3) (.alt 7 (Tk [8, 9] .done) .nil))) .nil))) (by kernel_rfl) (z7 Y (y3f) Y trivial ?_)); refine xb Y ?_ ?_ <;> intro b2
   refine xj (k := 3) Y ?_; refine xv Y Y Y ?_; rotate_left; refine xj (k := 2) Y (z7 Y (z29 ⟨ob, ov⟩) Y ⟨tv3, trivial⟩ (xj (k := 1) Y ?_)); refine xv Y Y Y ?_; rotate_left; all_goals (refine vb ?_; simp_all [ranges, Msg.shd, z27, Vt.none]; done)
 · dsimp only at h
   subst h; refine xj (k := 2) Y (z7 Y (q1b _ (by assumption) _ _) Y tv4 ?_); refine xb Y ?_ ?_ <;> intro b0
   refine xj (k := 2) Y (z7 Y (q2q _) Y ⟨trivial, trivial⟩ (xj (k := 1) Y ?_)); refine xv Y Y Y ?_; rotate_left; refine xj (k := 3) Y ?_; refine xv Y Y Y ?_; rotate_left; all_goals (refine vb ?_; simp_all [ranges, Msg.shd, z27, Vt.none]; done)
theorem y5u (m n : Msg) : q1f [.int .i64 m.k, .int .i64 m.to, .int .i64 m.fr, .int .i64 m.c, .int .i64 m.s, .int .i64 m.b, .int .i64 m.v, .int .i64 m.ob, .int .i64 m.ov] [.int .i64 n.k, .int .i64 n.to, .int .i64 n.fr, .int .i64 n.c, .int .i64 n.s, .int .i64 n.b, .int .i64 n.v, .int .i64 n.ob, .int .i64 n.ov] = m.same n := by simp [q1f, Msg.same, Bool.and_assoc]
theorem z73 (a b : Int) : q1f [.int .i64 a, .int .i64 b] [.int .i64 Vt.none.b, .int .i64 Vt.none.v] = (a == -1 && b == 0) := by simp [q1f, Vt.none]
theorem z5c (c : Clu) (m : Msg) (hk : Go.Sx.within m.k 1 6 = true) {e i r z : Bool} (h1 : ends c m = e) (h2 : (y07 c.cons m.c).isNone = i) (h3 : ranges c m = r) (h4 : m.same m.bare = z) : z0j c m = (if e then (if i then 4 else if r then (if z then 0 else 1) else 3) else 3) := by
 unfold z0j; rw [hk, h1, h2, h3, h4]; cases e <;> cases i <;> cases r <;> cases z <;> rfl
theorem yaq (c : Clu) (ho : zz c) (m : Msg) : PC Tryz.prog 117 [.one (.p c.cs), .agg m.cs] (rI (z0j c m)) := by
 refine PC.begin Tryz.func117 Y (by kernel_rfl) ?_; by_cases hk : Go.Sx.within m.k 1 6 = true
 · have hf := q0p c m.c ho.1.1
   obtain ⟨k, to, fr, mc, s, b, v, ob, ov⟩ := m; dsimp only at hf; rcases kinds hk with h | h | h | h | h | h
   · dsimp only at h
     subst h; have hE := q1p c ho ⟨1, to, fr, mc, s, b, v, ob, ov⟩ hk; have hR : ranges c ⟨1, to, fr, mc, s, b, v, ob, ov⟩ = q17 c.cons mc to := by simp [ranges, Msg.shd]
     refine z7 Y (zl _ _ _) Y tv4 (xj (k := 1) Y (z7 Y (hE) Y ⟨trivial, tv10, trivial⟩ ?_)); refine xb Y ?_ ?_ <;> intro b0
     refine xv Y Y Y ?_; rotate_left; refine z7 Y (hf) Y tv3 ?_; refine xb Y ?_ ?_ <;> intro b1
     refine xv Y Y Y ?_; rotate_left; refine xj (k := 5) Y (z7 Y (qy _ (by assumption) _ _) Y tv4 ?_); refine xb Y ?_ ?_ <;> intro b2
     refine xv Y Y Y ?_; rotate_left; refine xj (k := 24) Y (yb Y [] (.take 0 [] (.take 1 (Rg 2 13) (Tk [2, 3, 4] (.take 5 (Rg 7 8) (.alt 6 (Tk (Rg 7 4) (.take 11 (Rg 12 3) (.alt 12 (Tk [13, 14] .done) .nil))) .nil))))) (by kernel_rfl) (xj (k := 11) Y (yb Y [] (.take 0 [3] (.take 1 [2, 3] (.alt 2 (.take 3 [] .done) .nil))) (by kernel_rfl) (z7 Y (y0g ⟨1, to, fr, mc, s, b, v, ob, ov⟩ hk) Y ⟨tv10, trivial⟩ ?_)))); refine xb Y ?_ ?_ <;> intro b3
     refine xv Y Y Y ?_; rotate_left; refine xv Y Y Y ?_; rotate_left
     all_goals
      refine vi ?_; have hI : decide (q1g (fun x : Con => x.id == mc) c.cons < 0) = (y07 c.cons mc).isNone := z0f; rw [z5c c ⟨1, to, fr, mc, s, b, v, ob, ov⟩ hk rfl hI.symm hR (y5u ⟨1, to, fr, mc, s, b, v, ob, ov⟩ (Msg.bare ⟨1, to, fr, mc, s, b, v, ob, ov⟩)).symm]; have hN := z73 ob ov; clear hI hR hE hf hk ho
      ((try dsimp only at *); simp_all only [Bool.not_eq_true', Bool.not_eq_false', Bool.not_true, Bool.not_false, Bool.and_true, Bool.true_and, Bool.and_false, Bool.false_and, Bool.and_self, Bool.or_true, Bool.true_or, Bool.or_false, Bool.false_or, Bool.false_eq_true, if_true, if_false, reduceIte]; done)
   · dsimp only at h
     subst h; have hE := q1p c ho ⟨2, to, fr, mc, s, b, v, ob, ov⟩ hk; have hR : ranges c ⟨2, to, fr, mc, s, b, v, ob, ov⟩ = (q17 c.cons mc s && Go.Sx.within b 0 1000 && Go.Sx.within v 1 2) := by simp [ranges, Msg.shd]
     refine z7 Y (zl _ _ _) Y tv4 (xj (k := 1) Y (z7 Y (hE) Y ⟨trivial, tv10, trivial⟩ ?_)); refine xb Y ?_ ?_ <;> intro b0
     refine xv Y Y Y ?_; rotate_left; refine z7 Y (hf) Y tv3 ?_; refine xb Y ?_ ?_ <;> intro b1
     refine xv Y Y Y ?_; rotate_left; refine xj (k := 5) Y (z7 Y (qy _ (by assumption) _ _) Y tv4 ?_); refine xb Y ?_ ?_ <;> intro b2
     refine xv Y Y Y ?_; rotate_left; refine xj (k := 7) Y (z7 Y (z02 _) Y ⟨trivial, trivial⟩ (xj (k := 2) Y ?_)); refine xb Y ?_ ?_ <;> intro b3
     refine xv Y Y Y ?_; rotate_left; refine xj (k := 11) Y (z7 Y (z0b _) Y ⟨trivial, trivial⟩ (xj (k := 2) Y ?_)); refine xb Y ?_ ?_ <;> intro b4
     refine xv Y Y Y ?_; rotate_left; refine yb Y [] (.take 0 [] (.take 1 (Rg 2 13) (Tk [2, 3, 4] (.take 5 (Rg 7 8) (.alt 6 (Tk (Rg 7 4) (.take 11 (Rg 12 3) (.alt 12 (Tk [13, 14] .done) .nil))) .nil))))) (by kernel_rfl) (xj (k := 11) Y (yb Y [] (.take 0 [3] (.take 1 [2, 3] (.alt 2 (.take 3 [] .done) .nil))) (by kernel_rfl) (z7 Y (y0g ⟨2, to, fr, mc, s, b, v, ob, ov⟩ hk) Y ⟨tv10, trivial⟩ ?_))); refine xb Y ?_ ?_ <;> intro b5
     refine xv Y Y Y ?_; rotate_left; refine xv Y Y Y ?_; rotate_left
     all_goals
      refine vi ?_; have hI : decide (q1g (fun x : Con => x.id == mc) c.cons < 0) = (y07 c.cons mc).isNone := z0f; rw [z5c c ⟨2, to, fr, mc, s, b, v, ob, ov⟩ hk rfl hI.symm hR (y5u ⟨2, to, fr, mc, s, b, v, ob, ov⟩ (Msg.bare ⟨2, to, fr, mc, s, b, v, ob, ov⟩)).symm]; have hN := z73 ob ov; clear hI hR hE hf hk ho
      ((try dsimp only at *); simp_all only [Bool.not_eq_true', Bool.not_eq_false', Bool.not_true, Bool.not_false, Bool.and_true, Bool.true_and, Bool.and_false, Bool.false_and, Bool.and_self, Bool.or_true, Bool.true_or, Bool.or_false, Bool.false_or, Bool.false_eq_true, if_true, if_false, reduceIte]; done)
   · dsimp only at h
     subst h; have hE := q1p c ho ⟨3, to, fr, mc, s, b, v, ob, ov⟩ hk; have hR : ranges c ⟨3, to, fr, mc, s, b, v, ob, ov⟩ = (q17 c.cons mc s && Go.Sx.within b 0 1000 && Go.Sx.within v 1 2) := by simp [ranges, Msg.shd]
     refine z7 Y (zl _ _ _) Y tv4 (xj (k := 1) Y (z7 Y (hE) Y ⟨trivial, tv10, trivial⟩ ?_)); refine xb Y ?_ ?_ <;> intro b0
     refine xv Y Y Y ?_; rotate_left; refine z7 Y (hf) Y tv3 ?_; refine xb Y ?_ ?_ <;> intro b1
     refine xv Y Y Y ?_; rotate_left; refine xj (k := 5) Y (z7 Y (qy _ (by assumption) _ _) Y tv4 ?_); refine xb Y ?_ ?_ <;> intro b2
     refine xv Y Y Y ?_; rotate_left; refine xj (k := 7) Y (z7 Y (z02 _) Y ⟨trivial, trivial⟩ (xj (k := 2) Y ?_)); refine xb Y ?_ ?_ <;> intro b3
     refine xv Y Y Y ?_; rotate_left; refine xj (k := 11) Y (z7 Y (z0b _) Y ⟨trivial, trivial⟩ (xj (k := 2) Y ?_)); refine xb Y ?_ ?_ <;> intro b4
     refine xv Y Y Y ?_; rotate_left; refine yb Y [] (.take 0 [] (.take 1 (Rg 2 13) (Tk [2, 3, 4] (.take 5 (Rg 7 8) (.alt 6 (Tk (Rg 7 4) (.take 11 (Rg 12 3) (.alt 12 (Tk [13, 14] .done) .nil))) .nil))))) (by kernel_rfl) (xj (k := 11) Y (yb Y [] (.take 0 [3] (.take 1 [2, 3] (.alt 2 (.take 3 [] .done) .nil))) (by kernel_rfl) (z7 Y (y0g ⟨3, to, fr, mc, s, b, v, ob, ov⟩ hk) Y ⟨tv10, trivial⟩ ?_))); refine xb Y ?_ ?_ <;> intro b5
     refine xv Y Y Y ?_; rotate_left; refine xv Y Y Y ?_; rotate_left
     all_goals
      refine vi ?_; have hI : decide (q1g (fun x : Con => x.id == mc) c.cons < 0) = (y07 c.cons mc).isNone := z0f; rw [z5c c ⟨3, to, fr, mc, s, b, v, ob, ov⟩ hk rfl hI.symm hR (y5u ⟨3, to, fr, mc, s, b, v, ob, ov⟩ (Msg.bare ⟨3, to, fr, mc, s, b, v, ob, ov⟩)).symm]; have hN := z73 ob ov; clear hI hR hE hf hk ho
      ((try dsimp only at *); simp_all only [Bool.not_eq_true', Bool.not_eq_false', Bool.not_true, Bool.not_false, Bool.and_true, Bool.true_and, Bool.and_false, Bool.false_and, Bool.and_self, Bool.or_true, Bool.true_or, Bool.or_false, Bool.false_or, Bool.false_eq_true, if_true, if_false, reduceIte]; done)
   · dsimp only at h
     subst h; have hE := q1p c ho ⟨4, to, fr, mc, s, b, v, ob, ov⟩ hk; have hR : ranges c ⟨4, to, fr, mc, s, b, v, ob, ov⟩ = (q17 c.cons mc s && Go.Sx.within b 0 1000) := by simp [ranges, Msg.shd]
     refine z7 Y (zl _ _ _) Y tv4 (xj (k := 1) Y (z7 Y (hE) Y ⟨trivial, tv10, trivial⟩ ?_)); refine xb Y ?_ ?_ <;> intro b0
     refine xv Y Y Y ?_; rotate_left; refine z7 Y (hf) Y tv3 ?_; refine xb Y ?_ ?_ <;> intro b1
     refine xv Y Y Y ?_; rotate_left; refine xj (k := 5) Y (z7 Y (qy _ (by assumption) _ _) Y tv4 ?_); refine xb Y ?_ ?_ <;> intro b2
     refine xv Y Y Y ?_; rotate_left; refine xj (k := 7) Y (z7 Y (z02 _) Y ⟨trivial, trivial⟩ (xj (k := 2) Y ?_)); refine xb Y ?_ ?_ <;> intro b3
     refine xv Y Y Y ?_; rotate_left; refine xj (k := 14) Y (yb Y [] (.take 0 [] (.take 1 (Rg 2 13) (Tk [2, 3, 4] (.take 5 (Rg 7 8) (.alt 6 (Tk (Rg 7 4) (.take 11 (Rg 12 3) (.alt 12 (Tk [13, 14] .done) .nil))) .nil))))) (by kernel_rfl) (xj (k := 11) Y (yb Y [] (.take 0 [3] (.take 1 [2, 3] (.alt 2 (.take 3 [] .done) .nil))) (by kernel_rfl) (z7 Y (y0g ⟨4, to, fr, mc, s, b, v, ob, ov⟩ hk) Y ⟨tv10, trivial⟩ ?_)))); refine xb Y ?_ ?_ <;> intro b4
     refine xv Y Y Y ?_; rotate_left; refine xv Y Y Y ?_; rotate_left
     all_goals
      refine vi ?_; have hI : decide (q1g (fun x : Con => x.id == mc) c.cons < 0) = (y07 c.cons mc).isNone := z0f; rw [z5c c ⟨4, to, fr, mc, s, b, v, ob, ov⟩ hk rfl hI.symm hR (y5u ⟨4, to, fr, mc, s, b, v, ob, ov⟩ (Msg.bare ⟨4, to, fr, mc, s, b, v, ob, ov⟩)).symm]; have hN := z73 ob ov; clear hI hR hE hf hk ho
      ((try dsimp only at *); simp_all only [Bool.not_eq_true', Bool.not_eq_false', Bool.not_true, Bool.not_false, Bool.and_true, Bool.true_and, Bool.and_false, Bool.false_and, Bool.and_self, Bool.or_true, Bool.true_or, Bool.or_false, Bool.false_or, Bool.false_eq_true, if_true, if_false, reduceIte]; done)
   · dsimp only at h
     subst h; have hE := q1p c ho ⟨5, to, fr, mc, s, b, v, ob, ov⟩ hk; have hR : ranges c ⟨5, to, fr, mc, s, b, v, ob, ov⟩ = (q17 c.cons mc s && Go.Sx.within b 0 1000 && ((ob == -1 && ov == 0) || Vt.ok ⟨ob, ov⟩)) := by simp [ranges, Msg.shd]
     refine z7 Y (zl _ _ _) Y tv4 (xj (k := 1) Y (z7 Y (hE) Y ⟨trivial, tv10, trivial⟩ ?_)); refine xb Y ?_ ?_ <;> intro b0
     refine xv Y Y Y ?_; rotate_left; refine z7 Y (hf) Y tv3 ?_; refine xb Y ?_ ?_ <;> intro b1
     refine xv Y Y Y ?_; rotate_left; refine xj (k := 5) Y (z7 Y (qy _ (by assumption) _ _) Y tv4 ?_); refine xb Y ?_ ?_ <;> intro b2
     refine xv Y Y Y ?_; rotate_left; refine xj (k := 7) Y (z7 Y (z02 _) Y ⟨trivial, trivial⟩ (xj (k := 2) Y ?_)); refine xb Y ?_ ?_ <;> intro b3
     refine xv Y Y Y ?_; rotate_left; refine xj (k := 14) Y (yb Y [] (.take 0 [] (.take 1 (Rg 2 13) (Tk [2, 3, 4] (.take 5 (Rg 7 8) (.alt 6 (Tk (Rg 7 4) (.take 11 (Rg 12 3) (.alt 12 (Tk [13, 14] .done) .nil))) .nil))))) (by kernel_rfl) (xj (k := 3) Y (z7 Y (y29) Y trivial (xj (k := 2) Y ?_)))); refine xb Y ?_ ?_ <;> intro b4
     refine xj (k := 2) Y (z7 Y (q1z ⟨ob, ov⟩) Y ⟨tv3, trivial⟩ (xj (k := 2) Y ?_)); refine xb Y ?_ ?_ <;> intro b5
     refine xv Y Y Y ?_; rotate_left; refine yb Y [] (.take 0 [3] (.take 1 [2, 3] (.alt 2 (.take 3 [] .done) .nil))) (by kernel_rfl) (z7 Y (y0g ⟨5, to, fr, mc, s, b, v, ob, ov⟩ hk) Y ⟨tv10, trivial⟩ ?_); refine xb Y ?_ ?_ <;> intro b6
     refine xv Y Y Y ?_; rotate_left; refine xv Y Y Y ?_; rotate_left; refine xj (k := 5) Y (yb Y [] (.take 0 [3] (.take 1 [2, 3] (.alt 2 (.take 3 [] .done) .nil))) (by kernel_rfl) (z7 Y (y0g ⟨5, to, fr, mc, s, b, v, ob, ov⟩ hk) Y ⟨tv10, trivial⟩ ?_)); refine xb Y ?_ ?_ <;> intro b5
     refine xv Y Y Y ?_; rotate_left; refine xv Y Y Y ?_; rotate_left
     all_goals
      refine vi ?_; have hI : decide (q1g (fun x : Con => x.id == mc) c.cons < 0) = (y07 c.cons mc).isNone := z0f; rw [z5c c ⟨5, to, fr, mc, s, b, v, ob, ov⟩ hk rfl hI.symm hR (y5u ⟨5, to, fr, mc, s, b, v, ob, ov⟩ (Msg.bare ⟨5, to, fr, mc, s, b, v, ob, ov⟩)).symm]; have hN := z73 ob ov; clear hI hR hE hf hk ho
      ((try dsimp only at *); simp_all only [Bool.not_eq_true', Bool.not_eq_false', Bool.not_true, Bool.not_false, Bool.and_true, Bool.true_and, Bool.and_false, Bool.false_and, Bool.and_self, Bool.or_true, Bool.true_or, Bool.or_false, Bool.false_or, Bool.false_eq_true, if_true, if_false, reduceIte]; done)
   · dsimp only at h
     subst h; have hE := q1p c ho ⟨6, to, fr, mc, s, b, v, ob, ov⟩ hk; have hR : ranges c ⟨6, to, fr, mc, s, b, v, ob, ov⟩ = (q17 c.cons mc to && Go.Sx.within v 1 2) := by simp [ranges, Msg.shd]
     refine z7 Y (zl _ _ _) Y tv4 (xj (k := 1) Y (z7 Y (hE) Y ⟨trivial, tv10, trivial⟩ ?_)); refine xb Y ?_ ?_ <;> intro b0
     refine xv Y Y Y ?_; rotate_left; refine z7 Y (hf) Y tv3 ?_; refine xb Y ?_ ?_ <;> intro b1
     refine xv Y Y Y ?_; rotate_left; refine xj (k := 5) Y (z7 Y (qy _ (by assumption) _ _) Y tv4 ?_); refine xb Y ?_ ?_ <;> intro b2
     refine xv Y Y Y ?_; rotate_left; refine xj (k := 21) Y (z7 Y (z0b _) Y ⟨trivial, trivial⟩ (xj (k := 2) Y ?_)); refine xb Y ?_ ?_ <;> intro b3
     refine xv Y Y Y ?_; rotate_left; refine yb Y [] (.take 0 [] (.take 1 (Rg 2 13) (Tk [2, 3, 4] (.take 5 (Rg 7 8) (.alt 6 (Tk (Rg 7 4) (.take 11 (Rg 12 3) (.alt 12 (Tk [13, 14] .done) .nil))) .nil))))) (by kernel_rfl) (xj (k := 11) Y (yb Y [] (.take 0 [3] (.take 1 [2, 3] (.alt 2 (.take 3 [] .done) .nil))) (by kernel_rfl) (z7 Y (y0g ⟨6, to, fr, mc, s, b, v, ob, ov⟩ hk) Y ⟨tv10, trivial⟩ ?_))); refine xb Y ?_ ?_ <;> intro b4
     refine xv Y Y Y ?_; rotate_left; refine xv Y Y Y ?_; rotate_left
     all_goals
      refine vi ?_; have hI : decide (q1g (fun x : Con => x.id == mc) c.cons < 0) = (y07 c.cons mc).isNone := z0f; rw [z5c c ⟨6, to, fr, mc, s, b, v, ob, ov⟩ hk rfl hI.symm hR (y5u ⟨6, to, fr, mc, s, b, v, ob, ov⟩ (Msg.bare ⟨6, to, fr, mc, s, b, v, ob, ov⟩)).symm]; have hN := z73 ob ov; clear hI hR hE hf hk ho
      ((try dsimp only at *); simp_all only [Bool.not_eq_true', Bool.not_eq_false', Bool.not_true, Bool.not_false, Bool.and_true, Bool.true_and, Bool.and_false, Bool.false_and, Bool.and_self, Bool.or_true, Bool.true_or, Bool.or_false, Bool.false_or, Bool.false_eq_true, if_true, if_false, reduceIte]; done)
 · have hk : Go.Sx.within m.k 1 6 = false := by simpa using hk
   refine z7 Y (zl _ _ _) Y tv4 ?_; refine xb Y ?_ ?_ <;> intro b0
   refine xv Y Y Y ?_; rotate_left; exact absurd b0 (by simp; omega)
   all_goals first
    | (refine vi ?_; unfold z0j; rw [hk]; rfl)
    | (exfalso; simp_all; done)
theorem zae (c : Clu) (ho : zz c) (m : Msg) : PC Tryz.prog 176 [.agg c.cs, .agg m.cs] (rI (z0j c m)) := by
 refine PC.begin Tryz.func176 Y (by kernel_rfl) ?_; by_cases hk : Go.Sx.within m.k 1 6 = true
 · have hT := qah c ho m hk
   have hF := y85 c ho m hk; have hR := z65 c ho m hk; have hP := q9d m hk; refine z5n (n := 0) Y (ι := Unit) (fun _ => True) (fun _ => ⟨[(2, .one (.b (.p c.cs))), (3, .one (.a 3 0))], [(3, .var (m.cs.map .b))]⟩) ?_ ?_
   · intro K hK
     exact q9 Y (hK _ () trivial ⟨⟨I, I, trivial⟩, ⟨lcr, trivial⟩, Y⟩)
   intro _ _
   cases h : y07 c.cons m.c with
   | none =>
     refine z7 Y (qo _ _ _) Y tv4 ?_; refine xb Y ?_ ?_ <;> intro b0
     exact absurd b0 (by simp; omega); refine z7 Y (hT) Y ⟨trivial, tv10, trivial⟩ ?_; refine xb Y ?_ ?_ <;> intro b1
     refine xj (k := 4) Y ?_; refine xv Y Y Y ?_; rotate_left; refine xj (k := 1) Y (z7 Y (hF) Y ⟨trivial, tv10, trivial⟩ (xj (k := 2) Y ?_)); refine xb Y ?_ ?_ <;> intro b2
     refine xv Y Y Y ?_; rotate_left; refine z7 Y (q0w c ho m.c h) Y tv3 (xj (k := 1) Y ?_); refine xv Y Y Y ?_; rotate_left
     all_goals
      refine vi ?_; rw [z5c c m hk rfl (show (y07 c.cons m.c).isNone = true by rw [h]; rfl) rfl rfl]; unfold ends; clear hT hF hR hP ho h hk
      ((try dsimp only at *); simp_all only [Bool.not_eq_true', Bool.not_eq_false', Bool.not_true, Bool.not_false, Bool.and_true, Bool.true_and, Bool.and_false, Bool.false_and, Bool.and_self, Bool.or_true, Bool.true_or, Bool.or_false, Bool.false_or, Bool.false_eq_true, if_true, if_false, reduceIte]; done)
   | some x =>
     refine z7 Y (qo _ _ _) Y tv4 ?_; refine xb Y ?_ ?_ <;> intro b0
     exact absurd b0 (by simp; omega); refine z7 Y (hT) Y ⟨trivial, tv10, trivial⟩ ?_; refine xb Y ?_ ?_ <;> intro b1
     refine xj (k := 4) Y ?_; refine xv Y Y Y ?_; rotate_left; refine xj (k := 1) Y (z7 Y (hF) Y ⟨trivial, tv10, trivial⟩ (xj (k := 2) Y ?_)); refine xb Y ?_ ?_ <;> intro b2
     refine xv Y Y Y ?_; rotate_left; refine z7 Y (z0x c ho m.c x h) Y tv3 (xj (k := 1) Y (z7 Y (hR) Y ⟨trivial, tv10, trivial⟩ ?_)); refine xb Y ?_ ?_ <;> intro b3
     refine xv Y Y Y ?_; rotate_left; refine yb Y [] (.take 0 [3, 4] (.take 1 (Rg 2 3) (.alt 2 (Tk [3, 4] .done) .nil))) (by kernel_rfl) (z7 Y (hP) Y ⟨tv10, trivial⟩ ?_); refine xb Y ?_ ?_ <;> intro b4
     refine xv Y Y Y ?_; rotate_left; refine xv Y Y Y ?_; rotate_left
     all_goals
      refine vi ?_; rw [z5c c m hk rfl (show (y07 c.cons m.c).isNone = false by rw [h]; rfl) rfl (y5u m m.bare).symm]; unfold ends; clear hT hF hR hP ho h hk
      ((try dsimp only at *); simp_all only [Bool.not_eq_true', Bool.not_eq_false', Bool.not_true, Bool.not_false, Bool.and_true, Bool.true_and, Bool.and_false, Bool.false_and, Bool.and_self, Bool.or_true, Bool.true_or, Bool.or_false, Bool.false_or, Bool.false_eq_true, if_true, if_false, reduceIte]; done)
 · have hk : Go.Sx.within m.k 1 6 = false := by simpa using hk
   refine z7 Y (qo _ _ _) Y tv4 ?_; refine xb Y ?_ ?_ <;> intro b0
   refine xv Y Y Y ?_; rotate_left; exact absurd b0 (by simp; omega)
   all_goals first
    | (refine vi ?_; unfold z0j; rw [hk]; rfl)
    | (exfalso; simp_all; done)
theorem y94 {a b c d a' b' c' d' : Int} : q1f [.int .i64 a, .int .i64 b, .int .i64 c, .int .i64 d] [.int .i64 a', .int .i64 b', .int .i64 c', .int .i64 d'] = decide (Leg.mk a b c d = Leg.mk a' b' c' d') := by
 rw [Bool.eq_iff_iff]; simp [q1f]
theorem z7y (us vs : List Leg) (hx : us.length ≤ 1048576) : PC Tryz.prog 234 [.one (.l (us.map Leg.cs)), .one (.l (vs.map Leg.cs))] (rB (decide (us = vs))) := by
 refine PC.begin Tryz.func234 Y (by kernel_rfl) ?_; refine xb Y ?_ ?_ <;> intro h0
 · have hne : ¬ us.length = vs.length := by simp at h0; omega
   refine xv Y Y Y ?_; all_goals (refine vb ?_; rw [eq_comm, decide_eq_false_iff_not]; exact fun e => hne (by rw [e]))
 · have he : us.length = vs.length := by simp at h0; omega
   refine qc Y (ι := Nat) (fun i => i ≤ us.length ∧ us.take i = vs.take i) (fun i => ⟨[(13, sV (.int .i64 i)), (12, sV (.int .i64 (us.map Leg.cs).length)), (0, .one (.b (.l (us.map Leg.cs)))), (1, .one (.b (.l (vs.map Leg.cs))))], []⟩) (fun i => us.length - i) 0 ⟨Nat.zero_le _, Y⟩ ?_ ?_
   · exact ⟨⟨Y, Y, Y, Y, trivial⟩, trivial, Y⟩
   · intro i ⟨hi, hq⟩ J hJ
     refine xb Y ?_ ?_ <;> intro h
     · have h : i < us.length := by simpa using h
       obtain ⟨x, hx1⟩ := gx h; obtain ⟨y, hy1⟩ := gx (xs := vs) (i := i) (by omega); have hg := gm Leg.cs hx1; have hg2 := gm Leg.cs hy1; refine yb Y [] (Tk [0, 1, 2] (.take 3 [8] (Tk [4, 5, 6] (.take 7 [8] (.take 8 [] .done))))) (by kernel_rfl) (xs Y (nn_ _) (y9 Y _ hg (xs Y Y (xs Y (nn_ _) (y9 Y _ hg2 (xs Y Y ?_)))))); refine xb Y ?_ ?_ <;> intro b0
       refine xv Y Y Y ?_; rotate_left; rotate_left
       · rw [y94] at b0
         refine vb ?_; rw [eq_comm, decide_eq_false_iff_not]; intro e; subst e; rw [hx1] at hy1; cases hy1; simp at b0
       · rw [y94] at b0
         have e : x = y := by simpa only [Bool.not_eq_false', decide_eq_true_eq] using b0
         exact q9 Y (hJ _ (i + 1) ⟨by omega, by rw [List.take_add_one, List.take_add_one, hx1, hy1, hq, e]⟩ (by omega) ⟨⟨cwi (by omega) (by omega) (by omega), Y, Y, Y, trivial⟩, trivial, Y⟩)
     · have h : i = us.length := by have : ¬ i < us.length := (by simpa using h); omega
       rw [h, List.take_length, he, List.take_length] at hq; refine xv Y Y Y ?_; all_goals (refine vb ?_; rw [hq]; simp)
theorem z4j (a b : Con) (ha : a.legs.length ≤ 1048576) : PC Tryz.prog 131 [.agg a.cs, .agg b.cs] (rB (a.same b)) := by
 refine PC.begin Tryz.func131 Y (by kernel_rfl) ?_; refine xb Y ?_ ?_ <;> intro b0
 refine xj (k := 4) Y (z7 Y (z7y a.legs b.legs ha) Y tv3 (xj (k := 1) Y ?_)); refine xv Y Y Y ?_; rotate_left; refine xj (k := 5) Y ?_; refine xv Y Y Y ?_; rotate_left; all_goals (refine vb ?_; unfold Con.same; simp_all)
theorem y31 (a b : Con) (ha : a.legs.length ≤ 1048576) : PC Tryz.prog 54 [.agg a.cs, .agg b.cs] (rB (a.same b)) := by
 refine PC.begin Tryz.func54 Y (by kernel_rfl) ?_; refine xb Y ?_ ?_ <;> intro b0
 refine xj (k := 8) Y ?_; refine xv Y Y Y ?_; rotate_left; refine xj (k := 7) Y ?_; refine xb Y ?_ ?_ <;> intro b1
 refine xv Y Y Y ?_; rotate_left; rotate_left
 · have h0 : ¬ a.id = b.id := by simpa using b0
   refine vb ?_; simp [Con.same, h0]
 · have hne : ¬ a.legs.length = b.legs.length := by simp at b1; omega
   refine vb ?_; unfold Con.same; rw [eq_comm, Bool.and_eq_false_iff]; exact .inr (decide_eq_false (fun e => hne (by rw [e])))
 · skip
   · have h0 : a.id = b.id := by simpa using b0
     have he : a.legs.length = b.legs.length := by simp at b1; omega
     clear b0 b1; refine qc Y (ι := Nat) (fun i => i ≤ a.legs.length ∧ a.legs.take i = b.legs.take i) (fun i => ⟨[(5, sV (.int .i64 i)), (2, .one (.a 2 0)), (3, .one (.a 3 0))], [(2, .var (a.cs.map .b)), (3, .var (b.cs.map .b))]⟩) (fun i => a.legs.length - i) 0 ⟨Nat.zero_le _, Y⟩ ?_ ?_
     · exact ⟨⟨Y, I, I, trivial⟩, ⟨lcr, lcr, trivial⟩, Y⟩
     · intro i ⟨hi, hq⟩ J hJ
       refine xb Y ?_ ?_ <;> intro h
       · have h : i < a.legs.length := by simpa using h
         obtain ⟨x, hx1⟩ := gx h; obtain ⟨y, hy1⟩ := gx (xs := b.legs) (i := i) (by omega); have hg := gm Leg.cs hx1; have hg2 := gm Leg.cs hy1; refine yb Y [] (.take 0 [] (.take 1 [3, 4, 10] (Tk [2, 3] (.take 4 [10] (.take 5 [] (.take 6 (Rg 8 3) (Tk [7, 8] (.take 9 [10] (.take 10 [] .done))))))))) (by kernel_rfl) (xs Y (nn_ _) (y9 Y _ hg (xs Y Y (xs Y (nn_ _) (y9 Y _ hg2 (xs Y Y ?_)))))); refine xb Y ?_ ?_ <;> intro b0
         refine xv Y Y Y ?_; rotate_left; rotate_left
         · rw [y94] at b0
           refine vb ?_; unfold Con.same; rw [eq_comm, Bool.and_eq_false_iff]; refine .inr (decide_eq_false (fun e => ?_)); rw [e, hy1] at hx1; cases hx1; simp at b0
         · rw [y94] at b0
           have e : x = y := by simpa only [Bool.not_eq_false', decide_eq_true_eq] using b0
           exact q9 Y (hJ _ (i + 1) ⟨by omega, by rw [List.take_add_one, List.take_add_one, hx1, hy1, hq, e]⟩ (by omega) ⟨⟨cwi (by omega) (by omega) (by omega), I, I, trivial⟩, ⟨lcr, lcr, trivial⟩, Y⟩)
       · have h : i = a.legs.length := by have : ¬ i < a.legs.length := (by simpa using h); omega
         rw [h, List.take_length, he, List.take_length] at hq; refine xv Y Y Y ?_; all_goals (refine vb ?_; simp [Con.same, h0, hq])
theorem q4h (c : Clu) (ho : zz c) (l : Leg) : PC Tryz.prog 232 [.agg l.cs, .one (.p [.p c.cs])] (rB (!(Go.Sx.within l.s 0 ((c.shs.length : Int) - 1)))) := by
 refine PC.begin Tryz.func232 Y (by kernel_rfl) ?_; have q1 := ho.2.1.1; have p1 : (c.shs.map Shd.cs).length ≤ 1048576 := by simpa using q1
 refine yb Y [] (.take 0 [] (.take 1 (Rg 6 3) (.take 2 (Rg 3 6) (Tk [3, 4] (.take 5 (Rg 6 3) (.alt 6 (Tk [7, 8] .done) .nil)))))) (by kernel_rfl) (z7 Y (z2j _ _ (by assumption)) Y tv3 (xv Y Y Y ?_)); all_goals (refine vb ?_; rw [List.length_map])
theorem q0x (c : Clu) (ho : zz c) (x : Con) (hl : x.legs.length ≤ 1048576) : PC Tryz.prog 130 [.one (.p c.cs), .agg x.cs] (rB (!(z7l c x))) := by
 refine PC.begin Tryz.func130 Y (by kernel_rfl) ?_; have hi := q5o _ x.legs (fun l => !(Go.Sx.within l.s 0 ((c.shs.length : Int) - 1))) 232 (.p [.p c.cs]) rfl (fun l _ => q4h c ho l) hl; refine z7 rfl (hi) rfl ⟨trivial, (List.forall_mem_cons.2 ⟨⟨trivial, trivial⟩, (fun _ h => nomatch h)⟩), trivial⟩ ?_; refine xr Y (zm Y ⟨⟨Y, Y, trivial⟩, z6 Y⟩)
theorem q96 (c : Clu) (ho : zz c) : PC Tryz.prog 168 [.one (.p c.cs)] (rI (scan (q0d c) c.cons.length)) := by
 refine PC.begin Tryz.func168 Y (by kernel_rfl) ?_; have hl := ho.1.1; refine qc Y (ι := Nat) (fun i => i ≤ c.cons.length ∧ ∀ j, j < i → q0d c j = 0) (fun i => ⟨[(11, sV (.int .i64 i)), (10, sV (.int .i64 (c.cons.map Con.cs).length)), (9, .one (.b (.l (c.cons.map Con.cs)))), (0, .one (.b (.p c.cs)))], []⟩) (fun i => c.cons.length - i) 0 ⟨Nat.zero_le _, fun j hj => by omega⟩ ?_ ?_
 · exact ⟨⟨Y, Y, Y, Y, trivial⟩, trivial, Y⟩
 · intro i ⟨hi, h0⟩ J hJ
   refine xb Y ?_ ?_ <;> intro h
   · have h : i < c.cons.length := by simpa using h
     obtain ⟨x, hx⟩ := gx h; have hg := gm Con.cs hx; have hxl := ho.1.2 x (List.mem_of_getElem? hx); rcases Nat.eq_zero_or_pos i with hz | hz
     · subst hz
       refine xs Y (nn_ _) (y9 Y _ hg (xs Y Y (z7 Y (z0l _ (by assumption)) Y ⟨tv3, trivial⟩ ?_))); refine xb Y ?_ ?_ <;> intro b0
       refine xv Y Y Y ?_; rotate_left; refine z7 Y (q0x c ho x hxl) Y ⟨trivial, tv3, trivial⟩ ?_; refine xb Y ?_ ?_ <;> intro b1
       refine xv Y Y Y ?_; rotate_left; refine yb Y [] (Tk (Rg 0 6) (.take 6 (Rg 9 3 ++ Rg 14 3) (Tk (Rg 7 4) (.take 11 (Rg 14 3) (.take 12 [] (.take 13 (Rg 14 3) (Tk [14, 15, 16] .done))))))) (by kernel_rfl) ?_; refine xj (k := 14) Y ?_; rotate_left; all_goals (first | (refine vi (q8 h h0 ?_ (by first | decide | decide | simp_all)); clear hJ h0 hg; (first | (simp_all [q0d, ahead_zero]; done) | (simp_all [q0d, ahead_zero]; omega)); done) | (refine q9 Y (hJ _ 1 ⟨by omega, zc h0 ?_⟩ (by omega) ⟨⟨cwi (by omega) (by omega) (by omega), Y, Y, Y, trivial⟩, trivial, Y⟩); clear hJ h0 hg; (first | (simp_all [q0d, ahead_zero]; done) | (simp_all [q0d, ahead_zero]; omega)); done) | skip)
     · obtain ⟨p, hp⟩ := gx (xs := c.cons) (i := i - 1) (by omega)
       have hgp := z1e Con.cs hz (by omega) hp; refine xs Y (nn_ _) (y9 Y _ hg (xs Y Y (z7 Y (z0l _ (by assumption)) Y ⟨tv3, trivial⟩ ?_))); refine xb Y ?_ ?_ <;> intro b0
       refine xv Y Y Y ?_; rotate_left; refine z7 Y (q0x c ho x hxl) Y ⟨trivial, tv3, trivial⟩ ?_; refine xb Y ?_ ?_ <;> intro b1
       refine xv Y Y Y ?_; rotate_left; refine yb Y [] (Tk (Rg 0 6) (.take 6 (Rg 9 3 ++ Rg 14 3) (Tk (Rg 7 4) (.take 11 (Rg 14 3) (.take 12 [] (.take 13 (Rg 14 3) (Tk [14, 15, 16] .done))))))) (by kernel_rfl) ?_; refine xb Y ?_ ?_ <;> intro b2
       refine xj (k := 6) Y (xs Y (q0o hz (by omega)) (y9 Y _ hgp (xs Y Y (xj (k := 6) Y ?_)))); refine xb Y ?_ ?_ <;> intro b3
       refine xv Y Y Y ?_; rotate_left; rotate_left; refine xj (k := 13) Y ?_; rotate_left; all_goals (first | (refine vi (q8 h h0 ?_ (by first | decide | decide | simp_all)); clear hJ h0 hg hgp; (first | (simp_all [q0d, ya hz hp]; done) | (simp_all [q0d, ya hz hp]; omega)); done) | (refine q9 Y (hJ _ (i + 1) ⟨by omega, zc h0 ?_⟩ (by omega) ⟨⟨cwi (by omega) (by omega) (by omega), Y, Y, Y, trivial⟩, trivial, Y⟩); clear hJ h0 hg hgp; (first | (simp_all [q0d, ya hz hp]; done) | (simp_all [q0d, ya hz hp]; omega)); done) | skip)
   · have h : ¬ i < c.cons.length := by simpa using h
     have hz := zg (f := q0d c) (n := c.cons.length) (fun j hj => h0 j (by omega)); clear hJ; refine xv Y Y Y ?_; exact vi (hz.symm)
theorem q9g (c : Clu) (ho : zz c) : PC Tryz.prog 113 [.one (.p c.cs)] (rI (scan (q0d c) c.cons.length)) := by
 refine PC.begin Tryz.func113 Y (by kernel_rfl) ?_; have hl := ho.1.1; have q1 := ho.2.1.1; refine qc Y (ι := Nat) (fun i => i ≤ c.cons.length ∧ ∀ j, j < i → q0d c j = 0) (fun i => ⟨[(3, sV (.int .i64 i)), (0, .one (.b (.p c.cs)))], []⟩) (fun i => c.cons.length - i) 0 ⟨Nat.zero_le _, fun j hj => by omega⟩ ?_ ?_
 · exact ⟨⟨Y, Y, trivial⟩, trivial, Y⟩
 · intro i ⟨hi, h0⟩ J hJ
   refine xb Y ?_ ?_ <;> intro h
   · have h : i < c.cons.length := by simpa using h
     obtain ⟨x, hx⟩ := gx h; have hg := gm Con.cs hx; have hxl := ho.1.2 x (List.mem_of_getElem? hx); have hla : yi x = 0 → _ := fun h => z5a h c
     rcases Nat.eq_zero_or_pos i with hz | hz
     · subst hz
       refine xs Y (nn_ _) (y9 Y _ hg (xs Y Y (z7 Y (z0t _ (by assumption)) Y ⟨tv3, trivial⟩ ?_))); refine xb Y ?_ ?_ <;> intro b0
       refine xv Y Y Y ?_; rotate_left; refine z7 Y (z1a x hxl) Y ⟨tv3, trivial⟩ (yb Y [] (Tk (Rg 0 5) (.take 5 [11] (Tk [6, 7, 8] (.take 9 [10, 11] (Tk [10, 11] .done))))) (by kernel_rfl) (xs Y (y5y (by simpa using b0)) (y9 Y _ (y3d (by simpa using b0)) (xs Y Y ?_)))); refine xb Y ?_ ?_ <;> intro b1
       refine xv Y Y Y ?_; rotate_left; refine yb Y [] (Tk (Rg 0 4) (.take 4 [14, 15] (Tk [5, 6, 7] (.take 8 (Rg 11 5) (Tk (Rg 9 4) (.take 13 [14, 15] (Tk [14, 15] .done))))))) (by kernel_rfl) ?_; refine xj (k := 14) Y ?_; rotate_left; all_goals (first | (refine vi (q8 h h0 ?_ (by first | decide | decide | simp_all)); clear hJ h0 hg; (first | (simp_all [q0d, ahead_zero]; done) | (simp_all [q0d, ahead_zero]; omega)); done) | (refine q9 Y (hJ _ 1 ⟨by omega, zc h0 ?_⟩ (by omega) ⟨⟨cwi (by omega) (by omega) (by omega), Y, trivial⟩, trivial, Y⟩); clear hJ h0 hg; (first | (simp_all [q0d, ahead_zero]; done) | (simp_all [q0d, ahead_zero]; omega)); done) | skip)
     · obtain ⟨p, hp⟩ := gx (xs := c.cons) (i := i - 1) (by omega)
       have hgp := z1e Con.cs hz (by omega) hp; refine xs Y (nn_ _) (y9 Y _ hg (xs Y Y (z7 Y (z0t _ (by assumption)) Y ⟨tv3, trivial⟩ ?_))); refine xb Y ?_ ?_ <;> intro b0
       refine xv Y Y Y ?_; rotate_left; refine z7 Y (z1a x hxl) Y ⟨tv3, trivial⟩ (yb Y [] (Tk (Rg 0 5) (.take 5 [11] (Tk [6, 7, 8] (.take 9 [10, 11] (Tk [10, 11] .done))))) (by kernel_rfl) (xs Y (y5y (by simpa using b0)) (y9 Y _ (y3d (by simpa using b0)) (xs Y Y ?_)))); refine xb Y ?_ ?_ <;> intro b1
       refine xv Y Y Y ?_; rotate_left; refine yb Y [] (Tk (Rg 0 4) (.take 4 [14, 15] (Tk [5, 6, 7] (.take 8 (Rg 11 5) (Tk (Rg 9 4) (.take 13 [14, 15] (Tk [14, 15] .done))))))) (by kernel_rfl) ?_; refine xb Y ?_ ?_ <;> intro b2
       refine xj (k := 8) Y (xs Y (q0o hz (by omega)) (y9 Y _ hgp (xs Y Y (xj (k := 4) Y ?_)))); refine xb Y ?_ ?_ <;> intro b3
       refine xv Y Y Y ?_; rotate_left; rotate_left; refine xj (k := 13) Y ?_; rotate_left; all_goals (first | (refine vi (q8 h h0 ?_ (by first | decide | decide | simp_all)); clear hJ h0 hg hgp; (first | (simp_all [q0d, ya hz hp]; done) | (simp_all [q0d, ya hz hp]; omega)); done) | (refine q9 Y (hJ _ (i + 1) ⟨by omega, zc h0 ?_⟩ (by omega) ⟨⟨cwi (by omega) (by omega) (by omega), Y, trivial⟩, trivial, Y⟩); clear hJ h0 hg hgp; (first | (simp_all [q0d, ya hz hp]; done) | (simp_all [q0d, ya hz hp]; omega)); done) | skip)
   · have h : ¬ i < c.cons.length := by simpa using h
     have hz := zg (f := q0d c) (n := c.cons.length) (fun j hj => h0 j (by omega)); clear hJ; refine xv Y Y Y ?_; exact vi (hz.symm)
theorem zbb (rr : List (List Cell)) (us : List Mk) (p : Mk → Bool) (fn : Nat) (c0 : Cell) (c1 : Cell) (hr : rr = us.map Mk.cs) (hf : ∀ x ∈ us, PC Tryz.prog fn [.agg x.cs, .one c0, .one c1] (rB (p x))) (hl : us.length ≤ 1048576) : PC Tryz.prog 352 [.one (.l rr), .one (.f fn [c0, c1])] (rI (q1g p us)) := by
 refine PC.begin Tryz.func352 Y (by kernel_rfl) ?_; subst hr; have hn : (us.map Mk.cs).length = us.length := by simp
 refine qc Y (ι := Nat) (fun i => i ≤ us.length ∧ ∀ j y, j < i → us[j]? = some y → p y = false) (fun i => ⟨[(8, sV (.int .i64 i)), (7, sV (.int .i64 (us.map Mk.cs).length)), (0, .one (.b (.l (us.map Mk.cs)))), (1, .one (.b (.f fn [c0, c1])))], []⟩) (fun i => us.length - i) 0 ⟨Nat.zero_le _, fun j y hj => by omega⟩ ?_ ?_
 · exact ⟨⟨Y, Y, Y, Y, trivial⟩, trivial, Y⟩
 · intro i ⟨hi, h0⟩ J hJ
   refine xb Y ?_ ?_ <;> intro h
   · have h : i < us.length := by simpa using h
     obtain ⟨x, hx⟩ := gx h; have hg := gm Mk.cs hx; have hxm := List.mem_of_getElem? hx; refine xs Y (nn_ _) (y9 Y _ hg (xs Y Y (z7 Y (hf _ hxm) Y ⟨tv3, trivial, trivial, trivial⟩ ?_))); refine xb Y ?_ ?_ <;> intro b0
     refine xv Y Y Y ?_; rotate_left; rotate_left
     · exact vi (y08 hx h0 b0).symm
     · exact q9 Y (hJ _ (i + 1) ⟨by omega, qg hx h0 b0⟩ (by omega) ⟨⟨cwi (by omega) (by omega) (by omega), Y, Y, Y, trivial⟩, trivial, Y⟩)
   · have h : ¬ i < us.length := by simpa using h
     refine xv Y Y Y ?_; exact vi (z03 (yk (by omega) h0)).symm
theorem z9r (rr : List (List Cell)) (us : List Mk) (p : Mk → Bool) (fn : Nat) (c0 : Cell) (c1 : Cell) (hr : rr = us.map Mk.cs) (hf : ∀ x ∈ us, PC Tryz.prog fn [.agg x.cs, .one c0, .one c1] (rB (p x))) (hl : us.length ≤ 1048576) : PC Tryz.prog 266 [.one (.l rr), .one (.f fn [c0, c1])] (rB (us.any p)) := by
 refine PC.begin Tryz.func266 Y (by kernel_rfl) ?_; have hi := zbb rr us p fn c0 c1 hr hf hl; refine z7 Y (hi) Y tv3 (xv Y Y Y ?_); exact vb q0i
theorem yag (rr : List (List Cell)) (us : List Slt) (p : Slt → Bool) (fn : Nat) (c0 : Cell) (hr : rr = us.map Slt.cs) (hf : ∀ x ∈ us, PC Tryz.prog fn [.agg x.cs, .one c0] (rB (p x))) (hl : us.length ≤ 1048576) : PC Tryz.prog 355 [.one (.l rr), .one (.f fn [c0])] (rI (q1g p us)) := by
 refine PC.begin Tryz.func355 Y (by kernel_rfl) ?_; subst hr; have hn : (us.map Slt.cs).length = us.length := by simp
 refine qc Y (ι := Nat) (fun i => i ≤ us.length ∧ ∀ j y, j < i → us[j]? = some y → p y = false) (fun i => ⟨[(8, sV (.int .i64 i)), (7, sV (.int .i64 (us.map Slt.cs).length)), (0, .one (.b (.l (us.map Slt.cs)))), (1, .one (.b (.f fn [c0])))], []⟩) (fun i => us.length - i) 0 ⟨Nat.zero_le _, fun j y hj => by omega⟩ ?_ ?_
 · exact ⟨⟨Y, Y, Y, Y, trivial⟩, trivial, Y⟩
 · intro i ⟨hi, h0⟩ J hJ
   refine xb Y ?_ ?_ <;> intro h
   · have h : i < us.length := by simpa using h
     obtain ⟨x, hx⟩ := gx h; have hg := gm Slt.cs hx; have hxm := List.mem_of_getElem? hx; refine xs Y (nn_ _) (y9 Y _ hg (xs Y Y (z7 Y (hf _ hxm) Y ⟨tv7, trivial, trivial⟩ ?_))); refine xb Y ?_ ?_ <;> intro b0
     refine xv Y Y Y ?_; rotate_left; rotate_left
     · exact vi (y08 hx h0 b0).symm
     · exact q9 Y (hJ _ (i + 1) ⟨by omega, qg hx h0 b0⟩ (by omega) ⟨⟨cwi (by omega) (by omega) (by omega), Y, Y, Y, trivial⟩, trivial, Y⟩)
   · have h : ¬ i < us.length := by simpa using h
     refine xv Y Y Y ?_; exact vi (z03 (yk (by omega) h0)).symm
theorem za6 (rr : List (List Cell)) (us : List Slt) (p : Slt → Bool) (fn : Nat) (c0 : Cell) (hr : rr = us.map Slt.cs) (hf : ∀ x ∈ us, PC Tryz.prog fn [.agg x.cs, .one c0] (rB (p x))) (hl : us.length ≤ 1048576) : PC Tryz.prog 268 [.one (.l rr), .one (.f fn [c0])] (rB (us.any p)) := by
 refine PC.begin Tryz.func268 Y (by kernel_rfl) ?_; have hi := yag rr us p fn c0 hr hf hl; refine z7 Y (hi) Y tv3 (xv Y Y Y ?_); exact vb q0i
theorem q3m (c : Clu) (ho : zz c) (i : Int) (m : Mk) : PC Tryz.prog 264 [.agg m.cs, .one (.p [.p c.cs]), .one (.p [i64 i])] (rB (!(q17 c.cons m.c i))) := by
 refine PC.begin Tryz.func264 Y (by kernel_rfl) ?_; refine z7 Y (q1b _ (by assumption) _ _) Y tv4 ?_; refine xr Y (zm Y ⟨⟨Y, Y, trivial⟩, z6 Y⟩)
theorem z97 (c : Clu) (ho : zz c) (i : Nat) (s : Shd) (hs : c.shs[i]? = some s) : PC Tryz.prog 169 [.one (.p c.cs), .one (i64 i)] (rI (ya0 c i s)) := by
 refine PC.begin Tryz.func169 Y (by kernel_rfl) ?_; have hg := gm Shd.cs hs; have hso := ho.2.1.2 s (List.mem_of_getElem? hs); obtain ⟨o1, o2, o3, o4, o5, o6⟩ := id hso; have hv := z9r _ s.votes (fun m => !(q17 c.cons m.c i)) 264 (.p [.p c.cs]) (.p [i64 i]) rfl (fun m _ => q3m c ho i m) o2; have hd := z9r _ s.done (fun m => !(q17 c.cons m.c i)) 264 (.p [.p c.cs]) (.p [i64 i]) rfl (fun m _ => q3m c ho i m) o4; refine yb Y [] (.take 0 [1, 2, 3, 5, 6, 8] (Tk [1, 2] (.take 3 [5, 6, 8] (.take 4 [5, 6, 8] (.take 5 [] (.take 6 [8] (.alt 7 (.alt 8 .done .nil) .nil))))))) (by kernel_rfl) (xs Y (nn_ _) (y9 Y _ hg (xs Y Y (z7 Y (q8m s hso) Y ⟨tv7, trivial⟩ ?_)))); refine xb Y ?_ ?_ <;> intro b0
 refine xv Y Y Y ?_; rotate_left; refine xb Y ?_ ?_ <;> intro b1
 refine xj (k := 10) Y ?_; refine xv Y Y Y ?_; rotate_left; refine xj (k := 3) rfl (z7 rfl (hv) rfl ⟨trivial, (List.forall_mem_cons.2 ⟨⟨trivial, trivial⟩, (List.forall_mem_cons.2 ⟨⟨trivial, trivial⟩, (fun _ h => nomatch h)⟩)⟩), trivial⟩ (xj (k := 1) rfl ?_)); refine xb Y ?_ ?_ <;> intro b2
 refine xj (k := 5) Y ?_; refine xv Y Y Y ?_; rotate_left; refine xj (k := 3) rfl (z7 rfl (hd) rfl ⟨trivial, (List.forall_mem_cons.2 ⟨⟨trivial, trivial⟩, (List.forall_mem_cons.2 ⟨⟨trivial, trivial⟩, (fun _ h => nomatch h)⟩)⟩), trivial⟩ (xj (k := 1) rfl ?_)); refine xb Y ?_ ?_ <;> intro b3
 refine xv Y Y Y ?_; rotate_left; rotate_left; all_goals first | (refine vi ?_; unfold ya0; simp_all; done) | skip
 have hsf : zq s = 0 := by simpa using b0
 have hix : s.idx = i := by simpa using b1
 have hvd : ((s.votes.any fun m => !(q17 c.cons m.c i)) || (s.done.any fun m => !(q17 c.cons m.c i))) = false := by rw [b2, b3]; rfl
 rw [y4r hsf hix, hvd]; have hcon := z32 hsf; clear hv hd b0 b1 b2 b3 hvd; refine qc Y (ι := Nat) (fun i => i ≤ s.held.length ∧ ∀ j y, j < i → s.held[j]? = some y → z3q c y = false) (fun i => ⟨[(44, sV (.int .i64 i)), (43, sV (.int .i64 (s.held.map Con.cs).length)), (42, .one (.b (.l (s.held.map Con.cs)))), (2, .one (.a 2 0))], [(2, .var [.b (.p c.cs)])]⟩) (fun i => s.held.length - i) 0 ⟨Nat.zero_le _, fun j y hj => by omega⟩ ?_ ?_
 · exact ⟨⟨Y, Y, Y, I, trivial⟩, ⟨⟨Y, trivial⟩, trivial⟩, Y⟩
 · intro k ⟨hk, h0⟩ J hJ
   refine xb Y ?_ ?_ <;> intro h
   · have h : k < s.held.length := by simpa using h
     obtain ⟨y, hy⟩ := gx h; have hgy := gm Con.cs hy; have hym := List.mem_of_getElem? hy; have hyl := o6 y hym; have hid := (q15 (hcon y hym)).1.1
     cases hc : y07 c.cons y.id with
     | none =>
       have hb : z3q c y = true := by unfold z3q; rw [hc]
       have hsm : (Con.mk 0 []).same y = false := by unfold Con.same; rw [Bool.and_eq_false_iff]; exact .inl (beq_false_of_ne (fun e => by have : (0 : Int) = y.id := e; omega))
       have hq := z4j ⟨0, []⟩ y (Nat.zero_le _); rw [hsm] at hq; refine xs Y (nn_ _) (y9 Y _ hgy (xs Y Y (z7 Y (q0w c ho y.id hc) Y tv3 (z7 Y (hq) Y ⟨tv3, tv3, trivial⟩ (xj (k := 1) Y (xv Y Y Y ?_)))))); exact vi (by rw [if_neg (by decide), if_pos (zv hy hb).symm])
     | some x =>
       have hxl := ho.1.2 x (List.mem_of_find?_eq_some hc); have hb : z3q c y = !(x.same y) := by unfold z3q; rw [hc]
       refine xs Y (nn_ _) (y9 Y _ hgy (xs Y Y (z7 Y (z0x c ho y.id x hc) Y tv3 (z7 Y (z4j x y hxl) Y ⟨tv3, tv3, trivial⟩ ?_)))); refine xb Y ?_ ?_ <;> intro b0
       refine xv Y Y Y ?_; rotate_left; rotate_left
       · exact vi (by rw [if_neg (by decide), if_pos (zv hy (hb.trans b0)).symm])
       · exact q9 Y (hJ _ (k + 1) ⟨by omega, qg hy h0 (hb.trans b0)⟩ (by omega) ⟨⟨cwi (by omega) (by omega) (by omega), Y, Y, I, trivial⟩, ⟨⟨Y, trivial⟩, trivial⟩, Y⟩)
   · have h : ¬ k < s.held.length := by simpa using h
     have hz := any_none (yk (by omega) h0); refine xv Y Y Y ?_; exact vi (by rw [if_neg (by decide), if_neg (by rw [← hz]; decide)])
theorem q69 (c : Clu) (ho : zz c) (x : Slt) : PC Tryz.prog 269 [.agg x.cs, .one (.p [.p c.cs])] (rB (!(q17 c.cons x.c x.s))) := by
 refine PC.begin Tryz.func269 Y (by kernel_rfl) ?_; refine z7 Y (q1b _ (by assumption) _ _) Y tv4 ?_; refine xr Y (zm Y ⟨⟨Y, Y, trivial⟩, z6 Y⟩)
theorem z96 (c : Clu) (ho : zz c) (a : Acc) (ha : q49 a) : PC Tryz.prog 171 [.one (.p c.cs), .agg a.cs] (rI (qa3 c a)) := by
 refine PC.begin Tryz.func171 Y (by kernel_rfl) ?_; have hv := za6 _ a.slots (fun x => !(q17 c.cons x.c x.s)) 269 (.p [.p c.cs]) rfl (fun x _ => q69 c ho x) ha.1; refine z7 Y (yad a ha) Y ⟨⟨trivial, trivial⟩, trivial⟩ ?_; refine xb Y ?_ ?_ <;> intro b0
 refine xv Y Y Y ?_; rotate_left; refine z7 rfl (hv) rfl ⟨trivial, (List.forall_mem_cons.2 ⟨⟨trivial, trivial⟩, (fun _ h => nomatch h)⟩), trivial⟩ ?_; refine xb Y ?_ ?_ <;> intro b1
 refine xv Y Y Y ?_; rotate_left; refine xv Y Y Y ?_; rotate_left; all_goals (refine vi ?_; unfold qa3; clear hv; simp_all; done)
theorem y2i (us : List Mk) : ∀ row ∈ us.map Mk.cs, row.length = 2 := fun row h => by
 simp at h; obtain ⟨_, _, rfl⟩ := h; rfl
theorem q7a (us : List Mk) : qt (us.map Mk.cs) := fun row h => by
 simp only [List.mem_map] at h; obtain ⟨x, _, rfl⟩ := h; intro c hc; simp at hc; rcases hc with rfl | rfl <;> exact ⟨_, Y⟩
theorem z9i (c : Clu) (ho : zz c) : PC Tryz.prog 114 [.one (.p c.cs)] (rI (scan (q2l c) c.shs.length)) := by
 refine PC.begin Tryz.func114 Y (by kernel_rfl) ?_; have hl := ho.2.1.1; refine qc Y (ι := Nat) (fun i => i ≤ c.shs.length ∧ ∀ j, j < i → q2l c j = 0) (fun i => ⟨[(3, sV (.int .i64 i)), (0, .one (.b (.p c.cs)))], []⟩) (fun i => c.shs.length - i) 0 ⟨Nat.zero_le _, fun j hj => by omega⟩ ?_ ?_
 · exact ⟨⟨Y, Y, trivial⟩, trivial, Y⟩
 · intro i ⟨hi, h0⟩ J hJ
   refine xb Y ?_ ?_ <;> intro h
   · have h : i < c.shs.length := by simpa using h
     obtain ⟨s, hx⟩ := gx h; have hg := gm Shd.cs hx; have hso := ho.2.1.2 s (List.mem_of_getElem? hx); obtain ⟨o1, o2, o3, o4, o5, o6⟩ := id hso; have hF : q2l c i = ya0 c i s := by unfold q2l; rw [hx]
     refine xs Y (nn_ _) (y9 Y _ hg (xs Y Y (z7 Y (z8l s hso) Y ⟨tv7, trivial⟩ ?_))); refine xb Y ?_ ?_ <;> intro b0
     refine xv Y Y Y ?_; rotate_left; refine xb Y ?_ ?_ <;> intro b1
     refine xv Y Y Y ?_; rotate_left; refine yb Y [] (.take 1 [] (.take 2 [3, 6, 7] (.take 4 [] (.alt 0 (.alt 3 (.take 5 [6, 7] (.alt 6 (.take 7 [] .done) .nil)) (.alt 5 (.alt 3 (.alt 6 (.take 7 [] .done) .nil) .nil) .nil)) (.alt 5 (.alt 0 (.alt 3 (.alt 6 (.take 7 [] .done) .nil) .nil) .nil) .nil))))) (by kernel_rfl) ?_; refine yr Y ?_ ?_; refine xs Y trivial ?_; refine yr Y ?_ ?_; refine xs Y Y (xs Y (y2i _) (xs Y (fun _ => q7a _) (xs Y (by simp; omega) (xs Y (by simp; omega) (xs Y (by simp) (xs Y (y2i _) (xs Y (fun _ => q7a _) (xs Y (by simp; omega) ?_)))))))); refine xs Y (by simp; omega) ?_; rotate_left; refine xs Y Y (xs Y (y2i _) (xs Y (fun _ => q7a _) (xs Y (by simp; omega) (xs Y (by simp; omega) (xs Y (by simp) (xs Y (y2i _) (xs Y (fun _ => q7a _) (xs Y (by simp; omega) ?_)))))))); refine xs Y (by simp; omega) ?_; rotate_left; refine xs Y trivial (xs Y Y (xs Y (y2i _) (xs Y (fun _ => q7a _) (xs Y (by simp; omega) (xs Y (by simp; omega) (xs Y (by simp) (xs Y (y2i _) (xs Y (fun _ => q7a _) (xs Y (by simp; omega) ?_))))))))); refine xs Y (by simp; omega) ?_; rotate_left
     all_goals first
      | (refine vi (q8 h h0 ?_ (by first | decide | (clear hJ h0; simp_all; done))); clear hJ h0 hg; rw [hF]; unfold ya0; simp_all; done)
      | skip
     · skip
       have hsf : zq s = 0 := by simpa using b0
       have hix : s.idx = i := by simpa using b1
       have hE := y4r (c := c) hsf hix; have hcon := z32 hsf; rw [hE] at hF; obtain ⟨ms, hms⟩ : ∃ ms, ms = s.votes ++ s.done := ⟨_, rfl⟩
       have hml : ms.length ≤ 2097152 := by rw [hms, List.length_append]; omega
       refine qc Y (ι := Nat) (fun k => k ≤ ms.length ∧ ∀ j y, j < k → ms[j]? = some y → (!(q17 c.cons y.c s.idx)) = false) (fun k => ⟨[(7, sV (.int .i64 k)), (6, .one (.h 35 ms.length)), (4, .one (.a 4 0)), (3, sV (.int .i64 i)), (0, .one (.b (.p c.cs)))], [(35, .arr true 2 0 (ms.map Mk.cs)), (4, .var (s.cs.map .b))]⟩) (fun k => ms.length - k) 0 ⟨Nat.zero_le _, fun j y hj => by omega⟩ ?_ ?_
       · exact ⟨⟨Y, ⟨Y, (by rw [hms]; simp), Y⟩, I, Y, Y, trivial⟩, ⟨⟨(by rw [hms]; simp), .inl Y, .inl Y⟩, ⟨Y, Y, Y, Y, Y, Y, trivial⟩, trivial⟩, Y⟩
       · intro k ⟨hk, h0k⟩ Jk hJk
         refine xb Y ?_ ?_ <;> intro hh
         · have hh : k < ms.length := by simpa using hh
           have hkl : k < 2097152 := by omega
           obtain ⟨y, hy⟩ := gx hh; have hgy := gm Mk.cs hy; refine yb Y [] (Tk (Rg 0 5) (.take 5 [8, 9] (.take 6 [] (.take 7 [8, 9] (.alt 8 (.take 9 [] .done) .nil))))) (by kernel_rfl) (xs Y (by simp) (xs Y (nn_ _) (y9 Y _ hgy (xs Y Y (xs Y (by simp) (y9 Y _ hgy (z7 Y (qy _ (by assumption) _ _) Y tv4 ?_))))))); refine xb Y ?_ ?_ <;> intro b0
           refine xv Y Y Y ?_; rotate_left; rotate_left
           · refine vi (q8 h h0 ?_ (by decide))
             have ha := zv (p := fun y => !(q17 c.cons y.c s.idx)) hy b0; rw [hms, List.any_append, hix] at ha; rw [hF, if_pos ha.symm]
           · exact q9 Y (hJk _ (k + 1) ⟨by omega, qg hy h0k b0⟩ (by omega) ⟨⟨cwi (by omega) (by omega) (by omega), I, I, Y, Y, trivial⟩, ⟨U, lcr, trivial⟩, Y⟩)
         · have hh : ¬ k < ms.length := by simpa using hh
           have ha := any_none (yk (by omega) h0k); rw [hms, List.any_append, hix] at ha; rw [if_neg (by rw [← ha]; decide)] at hF; clear hJk h0k; refine qc Y (ι := Nat) (fun k => k ≤ s.held.length ∧ ∀ j y, j < k → s.held[j]? = some y → z3q c y = false) (fun k => ⟨[(8, sV (.int .i64 k)), (4, .one (.a 4 0)), (3, sV (.int .i64 i)), (0, .one (.b (.p c.cs)))], [(4, .var (s.cs.map .b))]⟩) (fun k => s.held.length - k) 0 ⟨Nat.zero_le _, fun j y hj => by omega⟩ ?_ ?_
           · exact ⟨⟨Y, I, Y, Y, trivial⟩, ⟨lcr, trivial⟩, Y⟩
           · intro k ⟨hk, h0k⟩ Jk hJk
             refine xb Y ?_ ?_ <;> intro hh
             · have hh : k < s.held.length := by simpa using hh
               obtain ⟨y, hy⟩ := gx hh; have hgy := gm Con.cs hy; have hf := q0p c y.id ho.1.1
               cases hc : y07 c.cons y.id with
               | none =>
                 rw [q18 hc] at hf; have hb : z3q c y = true := by unfold z3q; rw [hc]
                 refine xs Y (nn_ _) (y9 Y _ hgy (xs Y Y (z7 Y (hf) Y tv3 (yb Y [] (Tk (Rg 0 6) (.take 6 [8, 9, 15, 16, 17] (Tk [7, 8] (.take 9 (Rg 15 3) (.take 10 [] (.take 11 (Rg 13 5) (Tk [12, 13] (.take 14 (Rg 15 3) (.alt 15 (Tk [16, 17] .done) .nil))))))))) (by kernel_rfl) (xj (k := 16) Y (xv Y Y Y ?_)))))); exact vi (q8 h h0 (by rw [hF, if_pos (zv hy hb).symm]) (by decide))
               | some x =>
                 obtain ⟨q, hq, hqx⟩ := y18 hc; rw [hq] at hf; have hgq := gm Con.cs hqx; have hxl := ho.1.2 x (List.mem_of_find?_eq_some hc); have hb : z3q c y = !(x.same y) := by unfold z3q; rw [hc]
                 refine xs Y (nn_ _) (y9 Y _ hgy (xs Y Y (z7 Y (hf) Y tv3 (yb Y [] (Tk (Rg 0 6) (.take 6 [8, 9, 15, 16, 17] (Tk [7, 8] (.take 9 (Rg 15 3) (.take 10 [] (.take 11 (Rg 13 5) (Tk [12, 13] (.take 14 (Rg 15 3) (.alt 15 (Tk [16, 17] .done) .nil))))))))) (by kernel_rfl) (xj (k := 6) Y (xs Y (nn_ _) (y9 Y _ hgq (xs Y Y (xj (k := 5) Y ?_))))))))); refine xs Y (nn_ _) (y9 Y _ hgy (xs Y Y (xj (k := 2) Y (z7 Y (y31 x y hxl) Y ⟨tv3, tv3, trivial⟩ (xj (k := 2) Y ?_))))); refine xb Y ?_ ?_ <;> intro b0
                 refine xv Y Y Y ?_; rotate_left; rotate_left
                 all_goals first
                  | (exfalso; simp at b0; omega)
                  | exact vi (q8 h h0 (by rw [hF, if_pos (zv hy (hb.trans b0)).symm]) (by decide))
                  | exact q9 Y (hJk _ (k + 1) ⟨by omega, qg hy h0k (hb.trans b0)⟩ (by omega) ⟨⟨cwi (by omega) (by omega) (by omega), I, Y, Y, trivial⟩, ⟨lcr, trivial⟩, Y⟩)
             · have hh : ¬ k < s.held.length := by simpa using hh
               have hz := any_none (yk (by omega) h0k); rw [if_neg (by rw [← hz]; decide)] at hF; skip; exact q9 Y (hJ _ (i + 1) ⟨by omega, zc h0 hF⟩ (by omega) ⟨⟨cwi (by omega) (by omega) (by omega), Y, trivial⟩, trivial, Y⟩)
     · skip
       have hsf : zq s = 0 := by simpa using b0
       have hix : s.idx = i := by simpa using b1
       have hE := y4r (c := c) hsf hix; have hcon := z32 hsf; rw [hE] at hF; obtain ⟨ms, hms⟩ : ∃ ms, ms = s.votes ++ s.done := ⟨_, rfl⟩
       have hml : ms.length ≤ 2097152 := by rw [hms, List.length_append]; omega
       refine qc Y (ι := Nat) (fun k => k ≤ ms.length ∧ ∀ j y, j < k → ms[j]? = some y → (!(q17 c.cons y.c s.idx)) = false) (fun k => ⟨[(7, sV (.int .i64 k)), (6, .one (.h 35 ms.length)), (4, .one (.a 4 0)), (3, sV (.int .i64 i)), (0, .one (.b (.p c.cs)))], [(35, .arr true 2 0 (ms.map Mk.cs)), (4, .var (s.cs.map .b))]⟩) (fun k => ms.length - k) 0 ⟨Nat.zero_le _, fun j y hj => by omega⟩ ?_ ?_
       · exact ⟨⟨Y, ⟨Y, (by rw [hms]; simp), Y⟩, I, Y, Y, trivial⟩, ⟨⟨(by rw [hms]; simp), .inl Y, .inl Y⟩, ⟨Y, Y, Y, Y, Y, Y, trivial⟩, trivial⟩, Y⟩
       · intro k ⟨hk, h0k⟩ Jk hJk
         refine xb Y ?_ ?_ <;> intro hh
         · have hh : k < ms.length := by simpa using hh
           have hkl : k < 2097152 := by omega
           obtain ⟨y, hy⟩ := gx hh; have hgy := gm Mk.cs hy; refine yb Y [] (Tk (Rg 0 5) (.take 5 [8, 9] (.take 6 [] (.take 7 [8, 9] (.alt 8 (.take 9 [] .done) .nil))))) (by kernel_rfl) (xs Y (by simp) (xs Y (nn_ _) (y9 Y _ hgy (xs Y Y (xs Y (by simp) (y9 Y _ hgy (z7 Y (qy _ (by assumption) _ _) Y tv4 ?_))))))); refine xb Y ?_ ?_ <;> intro b0
           refine xv Y Y Y ?_; rotate_left; rotate_left
           · refine vi (q8 h h0 ?_ (by decide))
             have ha := zv (p := fun y => !(q17 c.cons y.c s.idx)) hy b0; rw [hms, List.any_append, hix] at ha; rw [hF, if_pos ha.symm]
           · exact q9 Y (hJk _ (k + 1) ⟨by omega, qg hy h0k b0⟩ (by omega) ⟨⟨cwi (by omega) (by omega) (by omega), I, I, Y, Y, trivial⟩, ⟨U, lcr, trivial⟩, Y⟩)
         · have hh : ¬ k < ms.length := by simpa using hh
           have ha := any_none (yk (by omega) h0k); rw [hms, List.any_append, hix] at ha; rw [if_neg (by rw [← ha]; decide)] at hF; clear hJk h0k; refine qc Y (ι := Nat) (fun k => k ≤ s.held.length ∧ ∀ j y, j < k → s.held[j]? = some y → z3q c y = false) (fun k => ⟨[(8, sV (.int .i64 k)), (4, .one (.a 4 0)), (3, sV (.int .i64 i)), (0, .one (.b (.p c.cs)))], [(4, .var (s.cs.map .b))]⟩) (fun k => s.held.length - k) 0 ⟨Nat.zero_le _, fun j y hj => by omega⟩ ?_ ?_
           · exact ⟨⟨Y, I, Y, Y, trivial⟩, ⟨lcr, trivial⟩, Y⟩
           · intro k ⟨hk, h0k⟩ Jk hJk
             refine xb Y ?_ ?_ <;> intro hh
             · have hh : k < s.held.length := by simpa using hh
               obtain ⟨y, hy⟩ := gx hh; have hgy := gm Con.cs hy; have hf := q0p c y.id ho.1.1
               cases hc : y07 c.cons y.id with
               | none =>
                 rw [q18 hc] at hf; have hb : z3q c y = true := by unfold z3q; rw [hc]
                 refine xs Y (nn_ _) (y9 Y _ hgy (xs Y Y (z7 Y (hf) Y tv3 (yb Y [] (Tk (Rg 0 6) (.take 6 [8, 9, 15, 16, 17] (Tk [7, 8] (.take 9 (Rg 15 3) (.take 10 [] (.take 11 (Rg 13 5) (Tk [12, 13] (.take 14 (Rg 15 3) (.alt 15 (Tk [16, 17] .done) .nil))))))))) (by kernel_rfl) (xj (k := 16) Y (xv Y Y Y ?_)))))); exact vi (q8 h h0 (by rw [hF, if_pos (zv hy hb).symm]) (by decide))
               | some x =>
                 obtain ⟨q, hq, hqx⟩ := y18 hc; rw [hq] at hf; have hgq := gm Con.cs hqx; have hxl := ho.1.2 x (List.mem_of_find?_eq_some hc); have hb : z3q c y = !(x.same y) := by unfold z3q; rw [hc]
                 refine xs Y (nn_ _) (y9 Y _ hgy (xs Y Y (z7 Y (hf) Y tv3 (yb Y [] (Tk (Rg 0 6) (.take 6 [8, 9, 15, 16, 17] (Tk [7, 8] (.take 9 (Rg 15 3) (.take 10 [] (.take 11 (Rg 13 5) (Tk [12, 13] (.take 14 (Rg 15 3) (.alt 15 (Tk [16, 17] .done) .nil))))))))) (by kernel_rfl) (xj (k := 6) Y (xs Y (nn_ _) (y9 Y _ hgq (xs Y Y (xj (k := 5) Y ?_))))))))); refine xs Y (nn_ _) (y9 Y _ hgy (xs Y Y (xj (k := 2) Y (z7 Y (y31 x y hxl) Y ⟨tv3, tv3, trivial⟩ (xj (k := 2) Y ?_))))); refine xb Y ?_ ?_ <;> intro b0
                 refine xv Y Y Y ?_; rotate_left; rotate_left
                 all_goals first
                  | (exfalso; simp at b0; omega)
                  | exact vi (q8 h h0 (by rw [hF, if_pos (zv hy (hb.trans b0)).symm]) (by decide))
                  | exact q9 Y (hJk _ (k + 1) ⟨by omega, qg hy h0k (hb.trans b0)⟩ (by omega) ⟨⟨cwi (by omega) (by omega) (by omega), I, Y, Y, trivial⟩, ⟨lcr, trivial⟩, Y⟩)
             · have hh : ¬ k < s.held.length := by simpa using hh
               have hz := any_none (yk (by omega) h0k); rw [if_neg (by rw [← hz]; decide)] at hF; skip; exact q9 Y (hJ _ (i + 1) ⟨by omega, zc h0 hF⟩ (by omega) ⟨⟨cwi (by omega) (by omega) (by omega), Y, trivial⟩, trivial, Y⟩)
     · skip
       have hsf : zq s = 0 := by simpa using b0
       have hix : s.idx = i := by simpa using b1
       have hE := y4r (c := c) hsf hix; have hcon := z32 hsf; rw [hE] at hF; obtain ⟨ms, hms⟩ : ∃ ms, ms = s.votes ++ s.done := ⟨_, rfl⟩
       have hml : ms.length ≤ 2097152 := by rw [hms, List.length_append]; omega
       refine qc Y (ι := Nat) (fun k => k ≤ ms.length ∧ ∀ j y, j < k → ms[j]? = some y → (!(q17 c.cons y.c s.idx)) = false) (fun k => ⟨[(7, sV (.int .i64 k)), (6, .one (.h 35 ms.length)), (4, .one (.a 4 0)), (3, sV (.int .i64 i)), (0, .one (.b (.p c.cs)))], [(35, .arr true 2 0 (ms.map Mk.cs)), (4, .var (s.cs.map .b))]⟩) (fun k => ms.length - k) 0 ⟨Nat.zero_le _, fun j y hj => by omega⟩ ?_ ?_
       · exact ⟨⟨Y, ⟨Y, (by rw [hms]; simp), Y⟩, I, Y, Y, trivial⟩, ⟨⟨(by rw [hms]; simp), .inl Y, .inl Y⟩, ⟨Y, Y, Y, Y, Y, Y, trivial⟩, trivial⟩, Y⟩
       · intro k ⟨hk, h0k⟩ Jk hJk
         refine xb Y ?_ ?_ <;> intro hh
         · have hh : k < ms.length := by simpa using hh
           have hkl : k < 2097152 := by omega
           obtain ⟨y, hy⟩ := gx hh; have hgy := gm Mk.cs hy; refine yb Y [] (Tk (Rg 0 5) (.take 5 [8, 9] (.take 6 [] (.take 7 [8, 9] (.alt 8 (.take 9 [] .done) .nil))))) (by kernel_rfl) (xs Y (by simp) (xs Y (nn_ _) (y9 Y _ hgy (xs Y Y (xs Y (by simp) (y9 Y _ hgy (z7 Y (qy _ (by assumption) _ _) Y tv4 ?_))))))); refine xb Y ?_ ?_ <;> intro b0
           refine xv Y Y Y ?_; rotate_left; rotate_left
           · refine vi (q8 h h0 ?_ (by decide))
             have ha := zv (p := fun y => !(q17 c.cons y.c s.idx)) hy b0; rw [hms, List.any_append, hix] at ha; rw [hF, if_pos ha.symm]
           · exact q9 Y (hJk _ (k + 1) ⟨by omega, qg hy h0k b0⟩ (by omega) ⟨⟨cwi (by omega) (by omega) (by omega), I, I, Y, Y, trivial⟩, ⟨U, lcr, trivial⟩, Y⟩)
         · have hh : ¬ k < ms.length := by simpa using hh
           have ha := any_none (yk (by omega) h0k); rw [hms, List.any_append, hix] at ha; rw [if_neg (by rw [← ha]; decide)] at hF; clear hJk h0k; refine qc Y (ι := Nat) (fun k => k ≤ s.held.length ∧ ∀ j y, j < k → s.held[j]? = some y → z3q c y = false) (fun k => ⟨[(8, sV (.int .i64 k)), (4, .one (.a 4 0)), (3, sV (.int .i64 i)), (0, .one (.b (.p c.cs)))], [(4, .var (s.cs.map .b))]⟩) (fun k => s.held.length - k) 0 ⟨Nat.zero_le _, fun j y hj => by omega⟩ ?_ ?_
           · exact ⟨⟨Y, I, Y, Y, trivial⟩, ⟨lcr, trivial⟩, Y⟩
           · intro k ⟨hk, h0k⟩ Jk hJk
             refine xb Y ?_ ?_ <;> intro hh
             · have hh : k < s.held.length := by simpa using hh
               obtain ⟨y, hy⟩ := gx hh; have hgy := gm Con.cs hy; have hf := q0p c y.id ho.1.1
               cases hc : y07 c.cons y.id with
               | none =>
                 rw [q18 hc] at hf; have hb : z3q c y = true := by unfold z3q; rw [hc]
                 refine xs Y (nn_ _) (y9 Y _ hgy (xs Y Y (z7 Y (hf) Y tv3 (yb Y [] (Tk (Rg 0 6) (.take 6 [8, 9, 15, 16, 17] (Tk [7, 8] (.take 9 (Rg 15 3) (.take 10 [] (.take 11 (Rg 13 5) (Tk [12, 13] (.take 14 (Rg 15 3) (.alt 15 (Tk [16, 17] .done) .nil))))))))) (by kernel_rfl) (xj (k := 16) Y (xv Y Y Y ?_)))))); exact vi (q8 h h0 (by rw [hF, if_pos (zv hy hb).symm]) (by decide))
               | some x =>
                 obtain ⟨q, hq, hqx⟩ := y18 hc; rw [hq] at hf; have hgq := gm Con.cs hqx; have hxl := ho.1.2 x (List.mem_of_find?_eq_some hc); have hb : z3q c y = !(x.same y) := by unfold z3q; rw [hc]
                 refine xs Y (nn_ _) (y9 Y _ hgy (xs Y Y (z7 Y (hf) Y tv3 (yb Y [] (Tk (Rg 0 6) (.take 6 [8, 9, 15, 16, 17] (Tk [7, 8] (.take 9 (Rg 15 3) (.take 10 [] (.take 11 (Rg 13 5) (Tk [12, 13] (.take 14 (Rg 15 3) (.alt 15 (Tk [16, 17] .done) .nil))))))))) (by kernel_rfl) (xj (k := 6) Y (xs Y (nn_ _) (y9 Y _ hgq (xs Y Y (xj (k := 5) Y ?_))))))))); refine xs Y (nn_ _) (y9 Y _ hgy (xs Y Y (xj (k := 2) Y (z7 Y (y31 x y hxl) Y ⟨tv3, tv3, trivial⟩ (xj (k := 2) Y ?_))))); refine xb Y ?_ ?_ <;> intro b0
                 refine xv Y Y Y ?_; rotate_left; rotate_left
                 all_goals first
                  | (exfalso; simp at b0; omega)
                  | exact vi (q8 h h0 (by rw [hF, if_pos (zv hy (hb.trans b0)).symm]) (by decide))
                  | exact q9 Y (hJk _ (k + 1) ⟨by omega, qg hy h0k (hb.trans b0)⟩ (by omega) ⟨⟨cwi (by omega) (by omega) (by omega), I, Y, Y, trivial⟩, ⟨lcr, trivial⟩, Y⟩)
             · have hh : ¬ k < s.held.length := by simpa using hh
               have hz := any_none (yk (by omega) h0k); rw [if_neg (by rw [← hz]; decide)] at hF; skip; exact q9 Y (hJ _ (i + 1) ⟨by omega, zc h0 hF⟩ (by omega) ⟨⟨cwi (by omega) (by omega) (by omega), Y, trivial⟩, trivial, Y⟩)
   · have h : ¬ i < c.shs.length := by simpa using h
     have hz := zg (f := q2l c) (n := c.shs.length) (fun j hj => h0 j (by omega)); refine xv Y Y Y ?_; exact vi (hz.symm)
theorem z9g (c : Clu) (ho : zz c) : PC Tryz.prog 115 [.one (.p c.cs)] (rI (scan (z2u c) c.accs.length)) := by
 refine PC.begin Tryz.func115 Y (by kernel_rfl) ?_; have hl := ho.2.2.1.1; refine qc Y (ι := Nat) (fun i => i ≤ c.accs.length ∧ ∀ j, j < i → z2u c j = 0) (fun i => ⟨[(3, sV (.int .i64 i)), (0, .one (.b (.p c.cs)))], []⟩) (fun i => c.accs.length - i) 0 ⟨Nat.zero_le _, fun j hj => by omega⟩ ?_ ?_
 · exact ⟨⟨Y, Y, trivial⟩, trivial, Y⟩
 · intro i ⟨hi, h0⟩ J hJ
   refine xb Y ?_ ?_ <;> intro h
   · have h : i < c.accs.length := by simpa using h
     obtain ⟨a, hx⟩ := gx h; have hg := gm Acc.cs hx; have hao := ho.2.2.1.2 a (List.mem_of_getElem? hx); have hF : z2u c i = qa3 c a := by unfold z2u; rw [hx]
     have hal := hao.1; refine xs Y (nn_ _) (y9 Y _ hg (xs Y Y (z7 Y (zap a hao) Y ⟨⟨trivial, trivial⟩, trivial⟩ ?_))); refine xb Y ?_ ?_ <;> intro b0
     refine xv Y Y Y ?_; rotate_left; rotate_left
     all_goals first
      | (refine vi (q8 h h0 ?_ (by first | decide | (clear hJ h0; simp_all; done))); clear hJ h0 hg; rw [hF]; unfold qa3; simp_all; done)
      | skip
     have haf : a.fault = 0 := by simpa using b0
     unfold qa3 at hF; rw [if_neg (by simpa using haf)] at hF; refine qc Y (ι := Nat) (fun k => k ≤ a.slots.length ∧ ∀ j y, j < k → a.slots[j]? = some y → (!(q17 c.cons y.c y.s)) = false) (fun k => ⟨[(5, sV (.int .i64 k)), (3, sV (.int .i64 i)), (0, .one (.b (.p c.cs)))], []⟩) (fun k => a.slots.length - k) 0 ⟨Nat.zero_le _, fun j y hj => by omega⟩ ?_ ?_
     · exact ⟨⟨Y, Y, Y, trivial⟩, trivial, Y⟩
     · intro k ⟨hk, h0k⟩ Jk hJk
       refine xs Y (nn_ _) (y9 Y _ hg (xs Y Y ?_)); refine xb Y ?_ ?_ <;> intro hh
       · have hh : k < a.slots.length := by simpa using hh
         obtain ⟨y, hy⟩ := gx hh; have hgy := gm Slt.cs hy; refine xs Y (nn_ _) (y9 Y _ hg (xs Y Y (xs Y (nn_ _) (y9 Y _ hgy (xs Y Y (z7 Y (qy _ (by assumption) _ _) Y tv4 ?_)))))); refine xb Y ?_ ?_ <;> intro b0
         refine xv Y Y Y ?_; rotate_left; rotate_left
         · exact vi (q8 h h0 (by rw [hF, if_pos (zv hy b0).symm]) (by decide))
         · exact q9 Y (hJk _ (k + 1) ⟨by omega, qg hy h0k b0⟩ (by omega) ⟨⟨cwi (by omega) (by omega) (by omega), Y, Y, trivial⟩, trivial, Y⟩)
       · have hh : ¬ k < a.slots.length := by simpa using hh
         have hz := any_none (yk (by omega) h0k); rw [if_neg (by rw [← hz]; decide)] at hF; skip; exact q9 Y (hJ _ (i + 1) ⟨by omega, zc h0 hF⟩ (by omega) ⟨⟨cwi (by omega) (by omega) (by omega), Y, trivial⟩, trivial, Y⟩)
   · have h : ¬ i < c.accs.length := by simpa using h
     have hz := zg (f := z2u c) (n := c.accs.length) (fun j hj => h0 j (by omega)); refine xv Y Y Y ?_; exact vi (hz.symm)
theorem qbb (rr : List (List Cell)) (us : List Vt) (p : Vt → Bool) (fn : Nat) (hr : rr = us.map Vt.cs) (hf : ∀ x ∈ us, PC Tryz.prog fn [.agg x.cs] (rB (p x))) (hl : us.length ≤ 1048576) : PC Tryz.prog 446 [.one (.l rr), .one (.f fn [])] (rI (q1g p us)) := by
 refine PC.begin Tryz.func446 Y (by kernel_rfl) ?_; subst hr; have hn : (us.map Vt.cs).length = us.length := by simp
 refine qc Y (ι := Nat) (fun i => i ≤ us.length ∧ ∀ j y, j < i → us[j]? = some y → p y = false) (fun i => ⟨[(8, sV (.int .i64 i)), (7, sV (.int .i64 (us.map Vt.cs).length)), (0, .one (.b (.l (us.map Vt.cs)))), (1, .one (.b (.f fn [])))], []⟩) (fun i => us.length - i) 0 ⟨Nat.zero_le _, fun j y hj => by omega⟩ ?_ ?_
 · exact ⟨⟨Y, Y, Y, Y, trivial⟩, trivial, Y⟩
 · intro i ⟨hi, h0⟩ J hJ
   refine xb Y ?_ ?_ <;> intro h
   · have h : i < us.length := by simpa using h
     obtain ⟨x, hx⟩ := gx h; have hg := gm Vt.cs hx; have hxm := List.mem_of_getElem? hx; refine xs Y (nn_ _) (y9 Y _ hg (xs Y Y (z7 Y (hf _ hxm) Y ⟨tv3, trivial⟩ ?_))); refine xb Y ?_ ?_ <;> intro b0
     refine xv Y Y Y ?_; rotate_left; rotate_left
     · exact vi (y08 hx h0 b0).symm
     · exact q9 Y (hJ _ (i + 1) ⟨by omega, qg hx h0 b0⟩ (by omega) ⟨⟨cwi (by omega) (by omega) (by omega), Y, Y, Y, trivial⟩, trivial, Y⟩)
   · have h : ¬ i < us.length := by simpa using h
     refine xv Y Y Y ?_; exact vi (z03 (yk (by omega) h0)).symm
theorem qb5 (rr : List (List Cell)) (us : List Vt) (p : Vt → Bool) (fn : Nat) (hr : rr = us.map Vt.cs) (hf : ∀ x ∈ us, PC Tryz.prog fn [.agg x.cs] (rB (p x))) (hl : us.length ≤ 1048576) : PC Tryz.prog 388 [.one (.l rr), .one (.f fn [])] (rB (us.any p)) := by
 refine PC.begin Tryz.func388 Y (by kernel_rfl) ?_; have hi := qbb rr us p fn hr hf hl; refine z7 Y (hi) Y tv3 (xv Y Y Y ?_); exact vb q0i
theorem yaf (rr : List (List Cell)) (us : List Int) (p : Int → Bool) (fn : Nat) (c0 : Cell) (hr : rr = ints us) (hf : ∀ x ∈ us, PC Tryz.prog fn [.one (i64 x), .one c0] (rB (p x))) (hl : us.length ≤ 1048576) : PC Tryz.prog 459 [.one (.l rr), .one (.f fn [c0])] (rI (q1g p us)) := by
 refine PC.begin Tryz.func459 Y (by kernel_rfl) ?_; subst hr; have hn : (ints us).length = us.length := by simp
 refine qc Y (ι := Nat) (fun i => i ≤ us.length ∧ ∀ j y, j < i → us[j]? = some y → p y = false) (fun i => ⟨[(8, sV (.int .i64 i)), (7, sV (.int .i64 (ints us).length)), (0, .one (.b (.l (ints us)))), (1, .one (.b (.f fn [c0])))], []⟩) (fun i => us.length - i) 0 ⟨Nat.zero_le _, fun j y hj => by omega⟩ ?_ ?_
 · exact ⟨⟨Y, Y, Y, Y, trivial⟩, trivial, Y⟩
 · intro i ⟨hi, h0⟩ J hJ
   refine xb Y ?_ ?_ <;> intro h
   · have h : i < us.length := by simpa using h
     obtain ⟨x, hx⟩ := gx h; have hg := gm (fun n => [i64 n]) hx; have hxm := List.mem_of_getElem? hx; refine xs Y (nn_ _) (y9 Y _ hg (xs Y Y (z7 Y (hf _ hxm) Y tv3 ?_))); refine xb Y ?_ ?_ <;> intro b0
     refine xv Y Y Y ?_; rotate_left; rotate_left
     · exact vi (y08 hx h0 b0).symm
     · exact q9 Y (hJ _ (i + 1) ⟨by omega, qg hx h0 b0⟩ (by omega) ⟨⟨cwi (by omega) (by omega) (by omega), Y, Y, Y, trivial⟩, trivial, Y⟩)
   · have h : ¬ i < us.length := by simpa using h
     refine xv Y Y Y ?_; exact vi (z03 (yk (by omega) h0)).symm
theorem ya5 (rr : List (List Cell)) (us : List Int) (p : Int → Bool) (fn : Nat) (c0 : Cell) (hr : rr = ints us) (hf : ∀ x ∈ us, PC Tryz.prog fn [.one (i64 x), .one c0] (rB (p x))) (hl : us.length ≤ 1048576) : PC Tryz.prog 427 [.one (.l rr), .one (.f fn [c0])] (rB (us.any p)) := by
 refine PC.begin Tryz.func427 Y (by kernel_rfl) ?_; have hi := yaf rr us p fn c0 hr hf hl; refine z7 Y (hi) Y tv3 (xv Y Y Y ?_); exact vb q0i
theorem zaf (us : List Int) (v : Int) (rr : List (List Cell)) (hr : rr = ints us) (hl : us.length ≤ 1048576) : PC Tryz.prog 387 [.one (.l rr), .one (i64 v)] (rI (q1g (fun y => y == v) us)) := by
 refine PC.begin Tryz.func387 Y (by kernel_rfl) ?_; subst hr; have hn : (ints us).length = us.length := by simp
 refine qc Y (ι := Nat) (fun i => i ≤ us.length ∧ ∀ j y, j < i → us[j]? = some y → (y == v) = false) (fun i => ⟨[(8, sV (.int .i64 i)), (7, sV (.int .i64 (ints us).length)), (0, .one (.b (.l (ints us)))), (1, sV (.int .i64 v))], []⟩) (fun i => us.length - i) 0 ⟨Nat.zero_le _, fun j y hj => by omega⟩ ?_ ?_
 · exact ⟨⟨Y, Y, Y, Y, trivial⟩, trivial, Y⟩
 · intro i ⟨hi, h0⟩ J hJ
   refine xb Y ?_ ?_ <;> intro h
   · have h : i < us.length := by simpa using h
     obtain ⟨x, hx⟩ := gx h; have hg := gm (fun n => [i64 n]) hx; refine xs Y (nn_ _) (y9 Y _ hg (xs Y Y ?_)); refine xb Y ?_ ?_ <;> intro b0
     refine xv Y Y Y ?_; rotate_left; rotate_left
     · exact vi (y08 hx h0 (by rw [beq_iff_eq] at b0 ⊢; exact b0.symm)).symm
     · exact q9 Y (hJ _ (i + 1) ⟨by omega, qg hx h0 (by rw [beq_eq_false_iff_ne] at b0 ⊢; exact fun e => b0 e.symm)⟩ (by omega) ⟨⟨cwi (by omega) (by omega) (by omega), Y, Y, Y, trivial⟩, trivial, Y⟩)
   · have h : ¬ i < us.length := by simpa using h
     refine xv Y Y Y ?_; exact vi (z03 (p := fun y => y == v) (yk (by omega) h0)).symm
theorem zad (us : List Int) (v : Int) (rr : List (List Cell)) (hr : rr = ints us) (hl : us.length ≤ 1048576) : PC Tryz.prog 299 [.one (.l rr), .one (i64 v)] (rB (us.any fun y => y == v)) := by
 refine PC.begin Tryz.func299 Y (by kernel_rfl) ?_; refine z7 Y (zaf us v _ hr hl) Y tv3 (xv Y Y Y ?_); exact vb q0i
theorem y69 (c : Clu) (ho : zz c) (p : Int) : PC Tryz.prog 425 [.one (i64 p), .one (.p [.p c.cs])] (rB (z1y c p)) := by
 refine PC.begin Tryz.func425 Y (by kernel_rfl) ?_; have q2 := ho.2.2.1.1; have p2 : (c.accs.map Acc.cs).length ≤ 1048576 := by simpa using q2
 refine z7 Y (z0g _ _ (by assumption)) Y tv3 (xv Y Y Y ?_); all_goals (refine vb ?_; unfold z1y; rw [List.length_map])
theorem q9o (x : Vt) : PC Tryz.prog 426 [.agg x.cs] (rB (y0s x)) := by
 refine PC.begin Tryz.func426 Y (by kernel_rfl) ?_; refine yb Y [] (.take 0 (Rg 2 7) (.alt 1 (Tk [2, 3] (.take 4 (Rg 5 4) (.alt 5 (Tk [6, 7, 8] .done) .nil))) .nil)) (by kernel_rfl) (z7 Y (y3f) Y trivial ?_); refine xb Y ?_ ?_ <;> intro b0
 refine xj (k := 1) Y (z7 Y (z29 _) Y ⟨tv3, trivial⟩ (xj (k := 2) Y ?_)); refine xv Y Y Y ?_; rotate_left; refine xj (k := 3) Y ?_; refine xv Y Y Y ?_; rotate_left; all_goals (refine vb ?_; simp_all [y0s, z27, Vt.none])
theorem q3c (us : List Int) (k : Nat) : List.drop (none.getD 0 : Int).toNat (List.take ((some (k : Int)).getD ((ints us).length : Int)).toNat (ints us)) = ints (us.take k) := by
 simp [ints, List.map_take]
theorem z6d (c : Clu) (ho : zz c) (t : Tr) (ht : yb3 t) : PC Tryz.prog 356 [.one (.p c.cs), .agg t.cs] (rI (if t.fr.length != t.olds.length then 1 else y7j c t)) := by
 refine PC.begin Tryz.func356 Y (by kernel_rfl) ?_; obtain ⟨o1, o2⟩ := ht; have hf := ya5 _ t.fr (z1y c) 425 (.p [.p c.cs]) rfl (fun x _ => y69 c ho x) o1; have hw := qb5 _ t.olds y0s 426 rfl (fun x _ => q9o x) o2; refine xb Y ?_ ?_ <;> intro h0
 · have h0 : ¬ t.fr.length = t.olds.length := by simp at h0; omega
   rw [if_pos (by simpa using h0)]; refine xr Y (zm Y ⟨⟨Y, Y, trivial⟩, z6 Y⟩)
 · have h0 : t.fr.length = t.olds.length := by simp at h0; omega
   rw [if_neg (by simpa using h0)]; refine z7 rfl (hf) rfl ⟨trivial, (List.forall_mem_cons.2 ⟨⟨trivial, trivial⟩, (fun _ h => nomatch h)⟩), trivial⟩ ?_; refine xb Y ?_ ?_ <;> intro b0
   refine xj (k := 5) Y ?_; refine xv Y Y Y ?_; rotate_left; refine xj (k := 3) rfl (z7 rfl (hw) rfl ⟨trivial, (fun _ h => nomatch h), trivial⟩ (xj (k := 1) rfl ?_)); refine xb Y ?_ ?_ <;> intro b1
   refine xv Y Y Y ?_; rotate_left; rotate_left; all_goals first | (refine vi ?_; clear hf hw; unfold y7j; simp_all; done) | skip
   have hfw : (t.fr.any (z1y c) || t.olds.any y0s) = false := by rw [b0, b1]; rfl
   unfold y7j; rw [hfw]; rw [if_neg (by decide)]; clear hf hw b0 b1 hfw; refine qc Y (ι := Nat) (fun i => i ≤ t.fr.length ∧ ∀ j, j < i → q0t t.fr j = 0) (fun i => ⟨[(32, sV (.int .i64 i)), (31, sV (.int .i64 (ints t.fr).length)), (30, .one (.b (.l (ints t.fr)))), (3, .one (.a 3 0))], [(3, .var (t.cs.map .b))]⟩) (fun i => t.fr.length - i) 0 ⟨Nat.zero_le _, fun j hj => by omega⟩ ?_ ?_
   · exact ⟨⟨Y, Y, Y, I, trivial⟩, ⟨lcr, trivial⟩, Y⟩
   · intro i ⟨hi, h0⟩ J hJ
     refine xb Y ?_ ?_ <;> intro h
     · have h : i < t.fr.length := by simpa using h
       obtain ⟨x, hx⟩ := gx h; have hg := gm (fun n => [i64 n]) hx; refine xs Y (nn_ _) (y9 Y _ hg (xs Y Y (xs Y (.inl Y) (xs Y (nn_ _) (xs Y (nn_ _) (xs Y (by simp; omega) (z7 Y (zad (t.fr.take i) x _ (q3c _ _) (by rw [List.length_take]; omega)) Y tv3 ?_))))))); refine xb Y ?_ ?_ <;> intro b0
       refine xv Y Y Y ?_; rotate_left; rotate_left
       · exact vi (q8 h h0 (by unfold q0t; rw [hx]; exact if_pos b0) (by decide))
       · exact q9 Y (hJ _ (i + 1) ⟨by omega, zc h0 (by unfold q0t; rw [hx]; exact if_neg (by rw [b0]; decide))⟩ (by omega) ⟨⟨cwi (by omega) (by omega) (by omega), Y, Y, I, trivial⟩, ⟨lcr, trivial⟩, Y⟩)
     · have h : ¬ i < t.fr.length := by simpa using h
       have hz := zg (f := q0t t.fr) (n := t.fr.length) (fun j hj => h0 j (by omega)); refine xv Y Y Y ?_; exact vi (hz.symm)
theorem z36 (a b : Tr) : PC Tryz.prog 259 [.agg a.cs, .agg b.cs] (rI (orr [z0c a.c b.c, z0c a.s b.s])) := by
 refine PC.begin Tryz.func259 Y (by kernel_rfl) ?_; refine yb Y [] (.take 0 [] (.take 1 [4, 9, 10, 11, 12] (.take 2 [] (.take 3 [4, 9, 10, 11, 12] (.take 5 [] (.take 6 (Rg 9 4) (.take 7 [] (.take 8 (Rg 9 4) (.alt 4 (.alt 9 (.alt 10 (.alt 11 (.take 12 [] .done) .nil) .nil) .nil) .nil))))))))) (by kernel_rfl) (z7 Y (zw _ _) Y tv3 (z7 Y (zw _ _) Y tv3 (xs Y tv3 (z7 Y (q9c [_, _] (by simp)) Y ⟨Y, trivial⟩ ?_)))); refine xr Y (zm Y ⟨⟨Y, Y, trivial⟩, z6 Y⟩)
theorem z9v {p x : Tr} : 0 ≤ orr [z0c p.c x.c, z0c p.s x.s] ↔ Tr.lt p x = false := by
 unfold orr orr orr z0c Tr.lt
 repeat' split
 all_goals (simp; try omega)
theorem y35 (a b : Hd) : PC Tryz.prog 302 [.agg a.cs, .agg b.cs] (rI (Hd.cmp a b)) := by
 refine PC.begin Tryz.func302 Y (by kernel_rfl) ?_; refine yb Y [] (.take 0 [] (.take 1 [4, 9, 14, 19, 24, 25, 26, 27] (.take 2 [] (.take 3 [4, 9, 14, 19, 24, 25, 26, 27] (.take 5 [] (.take 6 [9, 14, 19, 24, 25, 26, 27] (.take 7 [] (.take 8 [9, 14, 19, 24, 25, 26, 27] (.take 10 [] (.take 11 [14, 19, 24, 25, 26, 27] (.take 12 [] (.take 13 [14, 19, 24, 25, 26, 27] (.take 15 [] (.take 16 [19, 24, 25, 26, 27] (.take 17 [] (.take 18 [19, 24, 25, 26, 27] (.take 20 [] (.take 21 (Rg 24 4) (.take 22 [] (.take 23 (Rg 24 4) (.alt 4 (.alt 9 (.alt 14 (.alt 19 (.alt 24 (.alt 25 (.alt 26 (.take 27 [] .done) .nil) .nil) .nil) .nil) .nil) .nil) .nil))))))))))))))))))))) (by kernel_rfl) (z7 Y (zw _ _) Y tv3 (z7 Y (zw _ _) Y tv3 (z7 Y (zw _ _) Y tv3 (z7 Y (zw _ _) Y tv3 (z7 Y (zw _ _) Y tv3 (xs Y tv6 (z7 Y (q9c [_, _, _, _, _] (by simp)) Y ⟨Y, trivial⟩ ?_))))))); refine xr Y (zm Y ⟨⟨Y, Y, trivial⟩, z6 Y⟩)
theorem y9u {p x : Hd} : 0 ≤ Hd.cmp p x ↔ Hd.lt p x = false := by
 unfold Hd.lt; simp
theorem q84 (c : Clu) (ho : zz c) (ts : List Tr) (hl : ts.length ≤ 1048576) (ht : ∀ t ∈ ts, yb3 t) : PC Tryz.prog 270 [.one (.p c.cs), .one (.l (ts.map Tr.cs))] (rI (scan (z3r c ts) ts.length)) := by
 refine PC.begin Tryz.func270 Y (by kernel_rfl) ?_; refine qc Y (ι := Nat) (fun i => i ≤ ts.length ∧ ∀ j, j < i → z3r c ts j = 0) (fun i => ⟨[(10, sV (.int .i64 i)), (9, sV (.int .i64 (ts.map Tr.cs).length)), (8, .one (.b (.l (ts.map Tr.cs)))), (0, .one (.b (.p c.cs))), (1, .one (.b (.l (ts.map Tr.cs))))], []⟩) (fun i => ts.length - i) 0 ⟨Nat.zero_le _, fun j hj => by omega⟩ ?_ ?_
 · exact ⟨⟨Y, Y, Y, Y, Y, trivial⟩, trivial, Y⟩
 · intro i ⟨hi, h0⟩ J hJ
   refine xb Y ?_ ?_ <;> intro h
   · have h : i < ts.length := by simpa using h
     obtain ⟨x, hx⟩ := gx h; have hg := gm Tr.cs hx; have hxt := ht x (List.mem_of_getElem? hx); rcases Nat.eq_zero_or_pos i with hz | hz
     · subst hz
       refine xs Y (nn_ _) (y9 Y _ hg (xs Y Y (z7 Y (q1b _ (by assumption) _ _) Y tv4 ?_))); refine xb Y ?_ ?_ <;> intro b0
       refine xv Y Y Y ?_; rotate_left; refine z7 Y (qo _ _ _) Y tv4 ?_; refine xb Y ?_ ?_ <;> intro b1
       refine xj (k := 5) Y ?_; refine xv Y Y Y ?_; rotate_left; refine xj (k := 2) Y (z7 Y (qo _ _ _) Y tv4 (xj (k := 2) Y ?_)); refine xb Y ?_ ?_ <;> intro b2
       refine xv Y Y Y ?_; rotate_left; refine yb Y [] (Tk (Rg 0 7) (.take 7 (Rg 9 4) (.take 8 (Rg 9 4) (.alt 9 (Tk [10, 11, 12] .done) .nil)))) (by kernel_rfl) (xj (k := 10) Y (z7 Y (z6d c ho x hxt) Y ⟨trivial, tv7, trivial⟩ ?_)); refine xb Y ?_ ?_ <;> intro b3
       refine xv Y Y Y ?_; rotate_left; rotate_left; all_goals (first | (refine vi (q8 h h0 ?_ (by first | decide | decide | simp_all)); clear hJ h0 hg; (first | (simp_all [z3r, ahead_zero, z9v, y5m]; done) | (simp_all [z3r, ahead_zero, z9v, y5m]; omega)); done) | (refine q9 Y (hJ _ 1 ⟨by omega, zc h0 ?_⟩ (by omega) ⟨⟨cwi (by omega) (by omega) (by omega), Y, Y, Y, Y, trivial⟩, trivial, Y⟩); clear hJ h0 hg; (first | (simp_all [z3r, ahead_zero, z9v, y5m]; done) | (simp_all [z3r, ahead_zero, z9v, y5m]; omega)); done) | skip)
     · obtain ⟨p, hp⟩ := gx (xs := ts) (i := i - 1) (by omega)
       have hgp := z1e Tr.cs hz (by omega) hp; refine xs Y (nn_ _) (y9 Y _ hg (xs Y Y (z7 Y (q1b _ (by assumption) _ _) Y tv4 ?_))); refine xb Y ?_ ?_ <;> intro b0
       refine xv Y Y Y ?_; rotate_left; refine z7 Y (qo _ _ _) Y tv4 ?_; refine xb Y ?_ ?_ <;> intro b1
       refine xj (k := 5) Y ?_; refine xv Y Y Y ?_; rotate_left; refine xj (k := 2) Y (z7 Y (qo _ _ _) Y tv4 (xj (k := 2) Y ?_)); refine xb Y ?_ ?_ <;> intro b2
       refine xv Y Y Y ?_; rotate_left; refine yb Y [] (Tk (Rg 0 7) (.take 7 (Rg 9 4) (.take 8 (Rg 9 4) (.alt 9 (Tk [10, 11, 12] .done) .nil)))) (by kernel_rfl) ?_; refine xb Y ?_ ?_ <;> intro b3
       refine xj (k := 3) Y (xs Y (q0o hz (by omega)) (y9 Y _ hgp (xs Y Y (xj (k := 3) Y (z7 Y (z36 _ _) Y ⟨tv7, tv7, trivial⟩ (xj (k := 2) Y ?_)))))); refine xb Y ?_ ?_ <;> intro b4
       refine xv Y Y Y ?_; rotate_left; refine z7 Y (z6d c ho x hxt) Y ⟨trivial, tv7, trivial⟩ ?_; refine xb Y ?_ ?_ <;> intro b5
       refine xv Y Y Y ?_; rotate_left; rotate_left; refine xj (k := 9) Y (z7 Y (z6d c ho x hxt) Y ⟨trivial, tv7, trivial⟩ ?_); refine xb Y ?_ ?_ <;> intro b4
       refine xv Y Y Y ?_; rotate_left; rotate_left; all_goals (first | (refine vi (q8 h h0 ?_ (by first | decide | decide | simp_all)); clear hJ h0 hg hgp; (first | (simp_all [z3r, ya hz hp, z9v, y5m]; done) | (simp_all [z3r, ya hz hp, z9v, y5m]; omega)); done) | (refine q9 Y (hJ _ (i + 1) ⟨by omega, zc h0 ?_⟩ (by omega) ⟨⟨cwi (by omega) (by omega) (by omega), Y, Y, Y, Y, trivial⟩, trivial, Y⟩); clear hJ h0 hg hgp; (first | (simp_all [z3r, ya hz hp, z9v, y5m]; done) | (simp_all [z3r, ya hz hp, z9v, y5m]; omega)); done) | skip)
   · have h : ¬ i < ts.length := by simpa using h
     have hz := zg (f := z3r c ts) (n := ts.length) (fun j hj => h0 j (by omega)); clear hJ; refine xv Y Y Y ?_; exact vi (hz.symm)
theorem y84 (c : Clu) (ho : zz c) (ks : List Hd) (hl : ks.length ≤ 1048576) : PC Tryz.prog 271 [.one (.p c.cs), .one (.l (ks.map Hd.cs))] (rI (scan (hdF c ks) ks.length)) := by
 refine PC.begin Tryz.func271 Y (by kernel_rfl) ?_; have q2 := ho.2.2.1.1; have p2 : (c.accs.map Acc.cs).length ≤ 1048576 := by simpa using q2
 refine qc Y (ι := Nat) (fun i => i ≤ ks.length ∧ ∀ j, j < i → hdF c ks j = 0) (fun i => ⟨[(9, sV (.int .i64 i)), (8, sV (.int .i64 (ks.map Hd.cs).length)), (7, .one (.b (.l (ks.map Hd.cs)))), (0, .one (.b (.p c.cs))), (1, .one (.b (.l (ks.map Hd.cs))))], []⟩) (fun i => ks.length - i) 0 ⟨Nat.zero_le _, fun j hj => by omega⟩ ?_ ?_
 · exact ⟨⟨Y, Y, Y, Y, Y, trivial⟩, trivial, Y⟩
 · intro i ⟨hi, h0⟩ J hJ
   refine xb Y ?_ ?_ <;> intro h
   · have h : i < ks.length := by simpa using h
     obtain ⟨x, hx⟩ := gx h; have hg := gm Hd.cs hx; rcases Nat.eq_zero_or_pos i with hz | hz
     · subst hz
       refine xs Y (nn_ _) (y9 Y _ hg (xs Y Y (z7 Y (q1b _ (by assumption) _ _) Y tv4 ?_))); refine xb Y ?_ ?_ <;> intro b0
       refine xv Y Y Y ?_; rotate_left; refine yb Y [] (.take 0 [] (.take 1 (Rg 2 19) (.alt 2 (Tk [3, 4, 5] (.take 6 (Rg 7 14) (.alt 7 (Tk (Rg 8 4) (.take 12 (Rg 17 4) (Tk [13, 14, 15] (.take 16 (Rg 17 4) (.alt 17 (Tk [18, 19, 20] .done) .nil))))) .nil))) .nil))) (by kernel_rfl) (z7 Y (z0a _) Y ⟨trivial, trivial⟩ ?_); refine xb Y ?_ ?_ <;> intro b1
       refine xj (k := 14) Y ?_; refine xv Y Y Y ?_; rotate_left; refine xj (k := 2) Y (z7 Y (y0p _) Y ⟨trivial, trivial⟩ (xj (k := 2) Y ?_)); refine xb Y ?_ ?_ <;> intro b2
       refine xj (k := 9) Y ?_; refine xv Y Y Y ?_; rotate_left; refine xj (k := 6) Y (z7 Y (z0g _ _ (by assumption)) Y tv3 (xj (k := 2) Y ?_)); refine xb Y ?_ ?_ <;> intro b3
       refine xv Y Y Y ?_; rotate_left; refine yb Y [] (Tk (Rg 0 7) (.take 7 (Rg 9 4) (.take 8 (Rg 9 4) (.alt 9 (Tk [10, 11, 12] .done) .nil)))) (by kernel_rfl) ?_; refine xj (k := 10) Y ?_; rotate_left; all_goals (first | (refine vi (q8 h h0 ?_ (by first | decide | decide | simp_all)); clear hJ h0 hg; (first | (simp_all [hdF, ahead_zero, y9u]; done) | (simp_all [hdF, ahead_zero, y9u]; omega)); done) | (refine q9 Y (hJ _ 1 ⟨by omega, zc h0 ?_⟩ (by omega) ⟨⟨cwi (by omega) (by omega) (by omega), Y, Y, Y, Y, trivial⟩, trivial, Y⟩); clear hJ h0 hg; (first | (simp_all [hdF, ahead_zero, y9u]; done) | (simp_all [hdF, ahead_zero, y9u]; omega)); done) | skip)
     · obtain ⟨p, hp⟩ := gx (xs := ks) (i := i - 1) (by omega)
       have hgp := z1e Hd.cs hz (by omega) hp; refine xs Y (nn_ _) (y9 Y _ hg (xs Y Y (z7 Y (q1b _ (by assumption) _ _) Y tv4 ?_))); refine xb Y ?_ ?_ <;> intro b0
       refine xv Y Y Y ?_; rotate_left; refine yb Y [] (.take 0 [] (.take 1 (Rg 2 19) (.alt 2 (Tk [3, 4, 5] (.take 6 (Rg 7 14) (.alt 7 (Tk (Rg 8 4) (.take 12 (Rg 17 4) (Tk [13, 14, 15] (.take 16 (Rg 17 4) (.alt 17 (Tk [18, 19, 20] .done) .nil))))) .nil))) .nil))) (by kernel_rfl) (z7 Y (z0a _) Y ⟨trivial, trivial⟩ ?_); refine xb Y ?_ ?_ <;> intro b1
       refine xj (k := 14) Y ?_; refine xv Y Y Y ?_; rotate_left; refine xj (k := 2) Y (z7 Y (y0p _) Y ⟨trivial, trivial⟩ (xj (k := 2) Y ?_)); refine xb Y ?_ ?_ <;> intro b2
       refine xj (k := 9) Y ?_; refine xv Y Y Y ?_; rotate_left; refine xj (k := 6) Y (z7 Y (z0g _ _ (by assumption)) Y tv3 (xj (k := 2) Y ?_)); refine xb Y ?_ ?_ <;> intro b3
       refine xv Y Y Y ?_; rotate_left; refine yb Y [] (Tk (Rg 0 7) (.take 7 (Rg 9 4) (.take 8 (Rg 9 4) (.alt 9 (Tk [10, 11, 12] .done) .nil)))) (by kernel_rfl) ?_; refine xb Y ?_ ?_ <;> intro b4
       refine xj (k := 3) Y (xs Y (q0o hz (by omega)) (y9 Y _ hgp (xs Y Y (xj (k := 3) Y (z7 Y (y35 _ _) Y ⟨tv6, tv6, trivial⟩ (xj (k := 2) Y ?_)))))); refine xb Y ?_ ?_ <;> intro b5
       refine xv Y Y Y ?_; rotate_left; rotate_left; refine xj (k := 9) Y ?_; rotate_left; all_goals (first | (refine vi (q8 h h0 ?_ (by first | decide | decide | simp_all)); clear hJ h0 hg hgp; (first | (simp_all [hdF, ya hz hp, y9u]; done) | (simp_all [hdF, ya hz hp, y9u]; omega)); done) | (refine q9 Y (hJ _ (i + 1) ⟨by omega, zc h0 ?_⟩ (by omega) ⟨⟨cwi (by omega) (by omega) (by omega), Y, Y, Y, Y, trivial⟩, trivial, Y⟩); clear hJ h0 hg hgp; (first | (simp_all [hdF, ya hz hp, y9u]; done) | (simp_all [hdF, ya hz hp, y9u]; omega)); done) | skip)
   · have h : ¬ i < ks.length := by simpa using h
     have hz := zg (f := hdF c ks) (n := ks.length) (fun j hj => h0 j (by omega)); clear hJ; refine xv Y Y Y ?_; exact vi (hz.symm)
theorem qad (c : Clu) (ho : zz c) (l : Ldr) (hl : y8z l) : PC Tryz.prog 173 [.one (.p c.cs), .agg l.cs] (rI (y88 c l)) := by
 refine PC.begin Tryz.func173 Y (by kernel_rfl) ?_; obtain ⟨l1, l2, l3⟩ := hl; have hT := q84 c ho l.tries l1 l3; have hK := y84 c ho l.known l2; refine z7 Y (qo _ _ _) Y tv4 ?_; refine xb Y ?_ ?_ <;> intro b0
 refine xv Y Y Y ?_; rotate_left; refine xb Y ?_ ?_ <;> intro b1
 refine xj (k := 5) Y ?_; refine xv Y Y Y ?_; rotate_left; refine xj (k := 4) Y ?_; refine xb Y ?_ ?_ <;> intro b2
 refine xv Y Y Y ?_; rotate_left; refine yb Y [] (Tk [0, 1] (.take 2 [3, 7, 8, 9, 10] (Tk [4, 5] (.take 6 (Rg 7 4) (.alt 3 (.alt 7 (.alt 8 (.alt 9 (.take 10 [] .done) .nil) .nil) .nil) .nil))))) (by kernel_rfl) (z7 Y (hT) Y tv3 (z7 Y (hK) Y tv3 (xs Y tv3 (z7 Y (z2h [_, _] (by simp)) Y ⟨Y, trivial⟩ ?_)))); refine xv Y Y Y ?_; rotate_left; all_goals (refine vi ?_; clear hT hK; unfold y88; simp_all; try omega)
theorem q58 (a b : Hd) : PC Tryz.prog 212 [.agg a.cs, .agg b.cs] (rB (Hd.lt a b)) := by
 refine PC.begin Tryz.func212 Y (by kernel_rfl) ?_; refine xs Y tv6 (xs Y tv6 ?_); refine qc Y (ι := Nat) (fun i => i ≤ 5 ∧ (1 ≤ i → a.c = b.c) ∧ (2 ≤ i → a.s = b.s) ∧ (3 ≤ i → a.b = b.b) ∧ (4 ≤ i → a.v = b.v) ∧ (5 ≤ i → a.f = b.f)) (fun i => ⟨[(7, sV (.int .i64 i)), (5, .one (.h 18 5)), (6, .one (.h 29 5))], [(18, .arr true 1 0 [[i64 a.c], [i64 a.s], [i64 a.b], [i64 a.v], [i64 a.f]]), (29, .arr true 1 0 [[i64 b.c], [i64 b.s], [i64 b.b], [i64 b.v], [i64 b.f]])]⟩) (fun i => 5 - i) 0 ⟨by omega, by omega, by omega, by omega, by omega, by omega⟩ ?_ ?_
 · exact ⟨⟨Y, I, I, trivial⟩, ⟨U, U, trivial⟩, Y⟩
 · intro i ⟨hi, h1, h2, h3, h4, h5⟩ J hJ
   have hc : i = 0 ∨ i = 1 ∨ i = 2 ∨ i = 3 ∨ i = 4 ∨ i = 5 := by omega
   rcases hc with rfl | rfl | rfl | rfl | rfl | rfl
   · skip
     clear h1 h2 h3 h4 h5; have hga : [[i64 a.c], [i64 a.s], [i64 a.b], [i64 a.v], [i64 a.f]][((0 : Nat) : Int).toNat]? = some [i64 a.c] := rfl; have hgb : [[i64 b.c], [i64 b.s], [i64 b.b], [i64 b.v], [i64 b.f]][((0 : Nat) : Int).toNat]? = some [i64 b.c] := rfl; refine xj (k := 1) Y (yb Y [] (Tk [0, 1, 2] (.take 3 [8] (Tk [4, 5, 6] (.take 7 [8] (.take 8 [] .done))))) (by kernel_rfl) (xs Y Y (xs Y (by decide) (y9 Y _ hga (xs Y Y (xs Y Y (y9 Y _ hga (xs Y Y (xs Y (by decide) ?_))))))))); refine y9 Y _ hgb (xs Y Y (xs Y Y (y9 Y _ hgb ?_))); refine xb Y ?_ ?_ <;> intro b0
     refine yb Y [] (Tk [0, 1, 2] (.take 3 [8, 9] (Tk [4, 5, 6] (.take 7 [8, 9] (Tk [8, 9] .done))))) (by kernel_rfl) (xs Y Y (xs Y (by decide) (y9 Y _ hga (xs Y Y (xs Y Y (y9 Y _ hga (xs Y Y (xs Y (by decide) (y9 Y _ hgb ?_))))))))); refine xs Y Y (xs Y Y (y9 Y _ hgb ?_)); refine xv Y Y Y ?_; rotate_left; rotate_left
     · have hn : ¬ a.c = b.c := by simpa using b0
       refine vb ?_; rw [Bool.eq_iff_iff]; simp only [Hd.lt, Hd.cmp, orr, z0c, decide_eq_true_eq]
       (repeat' split) <;> first | omega | (simp; omega) | (simp_all; done) | (simp_all; omega)
     · have hn : a.c = b.c := by simpa using b0
       exact q9 Y (hJ _ 1 ⟨by omega, by omega, by omega, by omega, by omega, by omega⟩ (by omega) ⟨⟨Y, I, I, trivial⟩, ⟨U, U, trivial⟩, Y⟩)
   · skip
     have e1 := h1 (by omega); clear h1 h2 h3 h4 h5; have hga : [[i64 a.c], [i64 a.s], [i64 a.b], [i64 a.v], [i64 a.f]][((1 : Nat) : Int).toNat]? = some [i64 a.s] := rfl; have hgb : [[i64 b.c], [i64 b.s], [i64 b.b], [i64 b.v], [i64 b.f]][((1 : Nat) : Int).toNat]? = some [i64 b.s] := rfl; refine xj (k := 1) Y (yb Y [] (Tk [0, 1, 2] (.take 3 [8] (Tk [4, 5, 6] (.take 7 [8] (.take 8 [] .done))))) (by kernel_rfl) (xs Y Y (xs Y (by decide) (y9 Y _ hga (xs Y Y (xs Y Y (y9 Y _ hga (xs Y Y (xs Y (by decide) ?_))))))))); refine y9 Y _ hgb (xs Y Y (xs Y Y (y9 Y _ hgb ?_))); refine xb Y ?_ ?_ <;> intro b0
     refine yb Y [] (Tk [0, 1, 2] (.take 3 [8, 9] (Tk [4, 5, 6] (.take 7 [8, 9] (Tk [8, 9] .done))))) (by kernel_rfl) (xs Y Y (xs Y (by decide) (y9 Y _ hga (xs Y Y (xs Y Y (y9 Y _ hga (xs Y Y (xs Y (by decide) (y9 Y _ hgb ?_))))))))); refine xs Y Y (xs Y Y (y9 Y _ hgb ?_)); refine xv Y Y Y ?_; rotate_left; rotate_left
     · have hn : ¬ a.s = b.s := by simpa using b0
       refine vb ?_; rw [Bool.eq_iff_iff]; simp only [Hd.lt, Hd.cmp, orr, z0c, e1, decide_eq_true_eq]
       (repeat' split) <;> first | omega | (simp; omega) | (simp_all; done) | (simp_all; omega)
     · have hn : a.s = b.s := by simpa using b0
       exact q9 Y (hJ _ 2 ⟨by omega, by omega, by omega, by omega, by omega, by omega⟩ (by omega) ⟨⟨Y, I, I, trivial⟩, ⟨U, U, trivial⟩, Y⟩)
   · skip
     have e1 := h1 (by omega); have e2 := h2 (by omega); clear h1 h2 h3 h4 h5; have hga : [[i64 a.c], [i64 a.s], [i64 a.b], [i64 a.v], [i64 a.f]][((2 : Nat) : Int).toNat]? = some [i64 a.b] := rfl; have hgb : [[i64 b.c], [i64 b.s], [i64 b.b], [i64 b.v], [i64 b.f]][((2 : Nat) : Int).toNat]? = some [i64 b.b] := rfl; refine xj (k := 1) Y (yb Y [] (Tk [0, 1, 2] (.take 3 [8] (Tk [4, 5, 6] (.take 7 [8] (.take 8 [] .done))))) (by kernel_rfl) (xs Y Y (xs Y (by decide) (y9 Y _ hga (xs Y Y (xs Y Y (y9 Y _ hga (xs Y Y (xs Y (by decide) ?_))))))))); refine y9 Y _ hgb (xs Y Y (xs Y Y (y9 Y _ hgb ?_))); refine xb Y ?_ ?_ <;> intro b0
     refine yb Y [] (Tk [0, 1, 2] (.take 3 [8, 9] (Tk [4, 5, 6] (.take 7 [8, 9] (Tk [8, 9] .done))))) (by kernel_rfl) (xs Y Y (xs Y (by decide) (y9 Y _ hga (xs Y Y (xs Y Y (y9 Y _ hga (xs Y Y (xs Y (by decide) (y9 Y _ hgb ?_))))))))); refine xs Y Y (xs Y Y (y9 Y _ hgb ?_)); refine xv Y Y Y ?_; rotate_left; rotate_left
     · have hn : ¬ a.b = b.b := by simpa using b0
       refine vb ?_; rw [Bool.eq_iff_iff]; simp only [Hd.lt, Hd.cmp, orr, z0c, e1, e2, decide_eq_true_eq]
       (repeat' split) <;> first | omega | (simp; omega) | (simp_all; done) | (simp_all; omega)
     · have hn : a.b = b.b := by simpa using b0
       exact q9 Y (hJ _ 3 ⟨by omega, by omega, by omega, by omega, by omega, by omega⟩ (by omega) ⟨⟨Y, I, I, trivial⟩, ⟨U, U, trivial⟩, Y⟩)
   · skip
     have e1 := h1 (by omega); have e2 := h2 (by omega); have e3 := h3 (by omega); clear h1 h2 h3 h4 h5; have hga : [[i64 a.c], [i64 a.s], [i64 a.b], [i64 a.v], [i64 a.f]][((3 : Nat) : Int).toNat]? = some [i64 a.v] := rfl; have hgb : [[i64 b.c], [i64 b.s], [i64 b.b], [i64 b.v], [i64 b.f]][((3 : Nat) : Int).toNat]? = some [i64 b.v] := rfl; refine xj (k := 1) Y (yb Y [] (Tk [0, 1, 2] (.take 3 [8] (Tk [4, 5, 6] (.take 7 [8] (.take 8 [] .done))))) (by kernel_rfl) (xs Y Y (xs Y (by decide) (y9 Y _ hga (xs Y Y (xs Y Y (y9 Y _ hga (xs Y Y (xs Y (by decide) ?_))))))))); refine y9 Y _ hgb (xs Y Y (xs Y Y (y9 Y _ hgb ?_))); refine xb Y ?_ ?_ <;> intro b0
     refine yb Y [] (Tk [0, 1, 2] (.take 3 [8, 9] (Tk [4, 5, 6] (.take 7 [8, 9] (Tk [8, 9] .done))))) (by kernel_rfl) (xs Y Y (xs Y (by decide) (y9 Y _ hga (xs Y Y (xs Y Y (y9 Y _ hga (xs Y Y (xs Y (by decide) (y9 Y _ hgb ?_))))))))); refine xs Y Y (xs Y Y (y9 Y _ hgb ?_)); refine xv Y Y Y ?_; rotate_left; rotate_left
     · have hn : ¬ a.v = b.v := by simpa using b0
       refine vb ?_; rw [Bool.eq_iff_iff]; simp only [Hd.lt, Hd.cmp, orr, z0c, e1, e2, e3, decide_eq_true_eq]
       (repeat' split) <;> first | omega | (simp; omega) | (simp_all; done) | (simp_all; omega)
     · have hn : a.v = b.v := by simpa using b0
       exact q9 Y (hJ _ 4 ⟨by omega, by omega, by omega, by omega, by omega, by omega⟩ (by omega) ⟨⟨Y, I, I, trivial⟩, ⟨U, U, trivial⟩, Y⟩)
   · skip
     have e1 := h1 (by omega); have e2 := h2 (by omega); have e3 := h3 (by omega); have e4 := h4 (by omega); clear h1 h2 h3 h4 h5; have hga : [[i64 a.c], [i64 a.s], [i64 a.b], [i64 a.v], [i64 a.f]][((4 : Nat) : Int).toNat]? = some [i64 a.f] := rfl; have hgb : [[i64 b.c], [i64 b.s], [i64 b.b], [i64 b.v], [i64 b.f]][((4 : Nat) : Int).toNat]? = some [i64 b.f] := rfl; refine xj (k := 1) Y (yb Y [] (Tk [0, 1, 2] (.take 3 [8] (Tk [4, 5, 6] (.take 7 [8] (.take 8 [] .done))))) (by kernel_rfl) (xs Y Y (xs Y (by decide) (y9 Y _ hga (xs Y Y (xs Y Y (y9 Y _ hga (xs Y Y (xs Y (by decide) ?_))))))))); refine y9 Y _ hgb (xs Y Y (xs Y Y (y9 Y _ hgb ?_))); refine xb Y ?_ ?_ <;> intro b0
     refine yb Y [] (Tk [0, 1, 2] (.take 3 [8, 9] (Tk [4, 5, 6] (.take 7 [8, 9] (Tk [8, 9] .done))))) (by kernel_rfl) (xs Y Y (xs Y (by decide) (y9 Y _ hga (xs Y Y (xs Y Y (y9 Y _ hga (xs Y Y (xs Y (by decide) (y9 Y _ hgb ?_))))))))); refine xs Y Y (xs Y Y (y9 Y _ hgb ?_)); refine xv Y Y Y ?_; rotate_left; rotate_left
     · have hn : ¬ a.f = b.f := by simpa using b0
       refine vb ?_; rw [Bool.eq_iff_iff]; simp only [Hd.lt, Hd.cmp, orr, z0c, e1, e2, e3, e4, decide_eq_true_eq]
       (repeat' split) <;> first | omega | (simp; omega) | (simp_all; done) | (simp_all; omega)
     · have hn : a.f = b.f := by simpa using b0
       exact q9 Y (hJ _ 5 ⟨by omega, by omega, by omega, by omega, by omega, by omega⟩ (by omega) ⟨⟨Y, I, I, trivial⟩, ⟨U, U, trivial⟩, Y⟩)
   · have e1 := h1 (by omega)
     have e2 := h2 (by omega); have e3 := h3 (by omega); have e4 := h4 (by omega); have e5 := h5 (by omega); refine xj (k := 1) Y (xv Y Y Y ?_); refine vb ?_; simp [Hd.lt, Hd.cmp, orr, z0c, e1, e2, e3, e4, e5]
theorem z49 (c : Clu) (y : Int) : True := trivial
theorem za1 {c : Clu} {ts : List Tr} {i : Nat} {t : Tr} {h w1 w2 a d : Bool} (e1 : q17 c.cons t.c t.s = h) (e2 : Go.Sx.within t.b 1 1000 = w1) (e3 : Go.Sx.within t.v 0 2 = w2) (e4 : Go.Sx.ahead Tr.lt ts i t = a) (e5 : (t.fr.length != t.olds.length) = d) : y5m c ts i t = (bif h then (bif w1 then (bif w2 then (bif a then (bif d then 1 else y7j c t) else 1) else 3) else 3) else 4) := by
 unfold y5m; rw [e1, e2, e3, e4, e5]; cases h <;> cases w1 <;> cases w2 <;> cases a <;> cases d <;> rfl
theorem zcd {us : List Int} {vs : List Vt} : (((ints us).length : Int) != ((vs.map Vt.cs).length : Int)) = (us.length != vs.length) := by
 rw [Bool.eq_iff_iff]; simp; omega
theorem qaq (c : Clu) (ho : zz c) (ts : List Tr) (i : Nat) (t : Tr) (hl : ts.length ≤ 1048576) (ht : yb3 t) (hx : ts[i]? = some t) : PC Tryz.prog 209 [.one (.p c.cs), .one (.l (ts.map Tr.cs)), .one (i64 i)] (rI (y5m c ts i t)) := by
 refine PC.begin Tryz.func209 Y (by kernel_rfl) ?_; obtain ⟨o1, o2⟩ := ht; have hg := gm Tr.cs hx; have hlt := (List.getElem?_eq_some_iff.1 hx).1; have w2 := wl1 Acc.cs ho.2.2.1.1; have hD := (zcd (us := t.fr) (vs := t.olds)).symm; rcases Nat.eq_zero_or_pos i with hz | hz
 · have hA : Go.Sx.ahead Tr.lt ts i t = true := by subst hz; rfl
   have hK := za1 (c := c) rfl rfl rfl hA hD; subst hz; refine xs Y (nn_ _) (y9 Y _ hg (xs Y Y (z7 Y (qy _ (by assumption) _ _) Y tv4 ?_))); refine xb Y ?_ ?_ <;> intro b0
   refine xv Y Y Y ?_; rotate_left; refine z7 Y (zl _ _ _) Y tv4 ?_; refine xb Y ?_ ?_ <;> intro b1
   refine xj (k := 5) Y ?_; refine xv Y Y Y ?_; rotate_left; refine xj (k := 2) Y (z7 Y (zl _ _ _) Y tv4 (xj (k := 2) Y ?_)); refine xb Y ?_ ?_ <;> intro b2
   refine xv Y Y Y ?_; rotate_left; refine yb Y [] (Tk (Rg 0 8) (.take 8 (Rg 15 1 ++ Rg 21 12) (Tk (Rg 9 5) (.take 14 (Rg 15 1 ++ Rg 21 12) (Tk [15, 16] (.take 17 (Rg 20 13) (.take 18 [] (.take 19 (Rg 20 13) (.take 20 [] (.alt 21 (Tk (Rg 22 4) (.take 26 [27, 31, 32] (Tk [27, 28] (.take 29 (Rg 30 3) (Tk [30, 31, 32] .done))))) .nil)))))))))) (by kernel_rfl) (xj (k := 29) Y ?_); refine xb Y ?_ ?_ <;> intro b3
   refine xv Y Y Y ?_; rotate_left; rotate_left; all_goals first | (refine vi ?_; rw [hK]; clear hg hK hA; simp_all only [Bool.not_eq_true', Bool.not_eq_false', cond_true, cond_false]; done) | skip
   have hT : y5m c ts 0 t = y7j c t := by rw [hK]; clear hg hK hA; simp_all only [Bool.not_eq_true', Bool.not_eq_false', cond_true, cond_false]
   have hle : t.fr.length = t.olds.length := by have := hD.trans b3; simpa using this
   clear hK hD b0 b1 b2 b3 hA; refine qc Y (ι := Nat) (fun k => k ≤ t.fr.length ∧ (∀ j y, j < k → t.fr[j]? = some y → z1y c y = false) ∧ ∀ j y, j < k → t.olds[j]? = some y → y0s y = false) (fun k => ⟨[(8, sV (.int .i64 k)), (7, .one (.a 7 0)), (0, .one (.b (.p c.cs)))], [(7, .var (t.cs.map .b))]⟩) (fun k => t.fr.length - k) 0 ⟨Nat.zero_le _, fun j y hj => by omega, fun j y hj => by omega⟩ ?_ ?_
   · exact ⟨⟨Y, I, Y, trivial⟩, ⟨⟨Y, Y, Y, Y, Y, Y, trivial⟩, trivial⟩, Y⟩
   · intro k ⟨hk, h0k, h1k⟩ Jk hJk
     refine xb Y ?_ ?_ <;> intro hh
     · have hh : k < t.fr.length := by simpa using hh
       obtain ⟨y, hy⟩ := gx hh; obtain ⟨v, hv⟩ := gx (xs := t.olds) (i := k) (by omega); have hgy := gm (fun n => [i64 n]) hy; have hgv := gm Vt.cs hv; have hwq := z49 c y; refine yb Y [] (.take 0 [] (.take 1 (Rg 3 2 ++ Rg 11 20) (Tk [2, 3] (.take 4 (Rg 11 20) (Tk [5, 6, 7] (.take 8 (Rg 9 22) (Tk [9, 10] (.alt 11 (Tk [12, 13, 14] (.take 15 (Rg 17 2 ++ Rg 20 11) (Tk [16, 17] (.take 18 (Rg 20 11) (.alt 19 (Tk [20, 21, 22] (.take 23 (Rg 25 6) (Tk [24, 25] (.take 26 (Rg 27 4) (.alt 27 (Tk [28, 29, 30] .done) .nil))))) .nil))))) .nil)))))))) (by kernel_rfl) (xs Y (nn_ _) (y9 Y _ hgy (xs Y Y (z7 Y (zl _ _ _) Y tv4 ?_)))); refine xb Y ?_ ?_ <;> intro b0
       refine xj (k := 10) Y ?_; refine xv Y Y Y ?_; rotate_left; refine xj (k := 3) Y (xs Y (nn_ _) (y9 Y _ hgv (xs Y Y (xj (k := 2) Y (z7 Y (y29) Y trivial (xj (k := 2) Y ?_)))))); refine xb Y ?_ ?_ <;> intro b1
       refine xj (k := 3) Y (xs Y (nn_ _) (y9 Y _ hgv (xs Y Y (xj (k := 2) Y (z7 Y (q1z _) Y ⟨tv3, trivial⟩ (xj (k := 4) Y ?_)))))); refine xb Y ?_ ?_ <;> intro b2
       refine xv Y Y Y ?_; rotate_left; rotate_left; refine xj (k := 10) Y ?_; rotate_left
       all_goals first
        | (refine vi ?_
           have hb : z1y c y = true := by unfold z1y; rw [← w2]; assumption
           rw [hT]; unfold y7j; rw [zv hy hb |>.symm]; rfl)
        | (refine vi ?_
           have hb : y0s v = true := by unfold y0s; simp_all [q1f, Vt.none]
           rw [hT]; unfold y7j; rw [zv hv hb |>.symm, Bool.or_true]; rfl)
        | (have hb : z1y c y = false := by unfold z1y; rw [← w2]; assumption
           have hb2 : y0s v = false := by unfold y0s; simp_all [q1f, Vt.none]
           exact q9 Y (hJk _ (k + 1) ⟨by omega, qg hy h0k hb, qg hv h1k hb2⟩ (by omega) ⟨⟨cwi (by omega) (by omega) (by omega), I, Y, trivial⟩, ⟨lcr, trivial⟩, Y⟩))
        | skip
     · have hh : ¬ k < t.fr.length := by simpa using hh
       have ha := any_none (yk (by omega) h0k); have hb := any_none (l := t.olds) (yk (by omega) h1k); have hT2 : y5m c ts 0 t = scan (q0t t.fr) t.fr.length := by rw [hT]; unfold y7j; rw [← ha, ← hb]; rfl
       clear hJk h0k h1k ha hb; refine qc Y (ι := Nat) (fun k => k ≤ t.fr.length ∧ ∀ j, j < k → q0t t.fr j = 0) (fun k => ⟨[(9, sV (.int .i64 k)), (7, .one (.a 7 0)), (0, .one (.b (.p c.cs)))], [(7, .var (t.cs.map .b))]⟩) (fun k => t.fr.length - k) 0 ⟨Nat.zero_le _, fun j hj => by omega⟩ ?_ ?_
       · exact ⟨⟨Y, I, Y, trivial⟩, ⟨lcr, trivial⟩, Y⟩
       · intro k ⟨hk, h0k⟩ Jk hJk
         refine xb Y ?_ ?_ <;> intro hh
         · have hh : k < t.fr.length := by simpa using hh
           obtain ⟨y, hy⟩ := gx hh; have hgy := gm (fun n => [i64 n]) hy; refine yb Y [] (.take 0 [] (.take 1 [3, 9] (Tk [2, 3, 4] (.take 5 (Rg 7 3) (Tk [6, 7] (.take 8 [9] (.alt 9 .done .nil))))))) (by kernel_rfl) (xs Y (.inl Y) (xs Y (nn_ _) (xs Y (nn_ _) (xs Y (by simp; omega) (xs Y (nn_ _) (y9 Y _ hgy (xs Y Y (z7 Y (z31 _ (t.fr.take k) y (q3c _ _) (by rw [List.length_take]; omega)) Y tv3 ?_)))))))); refine xb Y ?_ ?_ <;> intro b0
           refine xv Y Y Y ?_; rotate_left; rotate_left
           · exact vi (by rw [hT2]; exact q8 hh h0k (by unfold q0t; rw [hy]; exact if_pos b0) (by decide))
           · exact q9 Y (hJk _ (k + 1) ⟨by omega, zc h0k (by unfold q0t; rw [hy]; exact if_neg (by rw [b0]; decide))⟩ (by omega) ⟨⟨cwi (by omega) (by omega) (by omega), I, Y, trivial⟩, ⟨lcr, trivial⟩, Y⟩)
         · have hh : ¬ k < t.fr.length := by simpa using hh
           have hz := zg (f := q0t t.fr) (n := t.fr.length) (fun j hj => h0k j (by omega)); refine xv Y Y Y ?_; exact vi (by rw [hT2, hz])
 · obtain ⟨p, hp⟩ := gx (xs := ts) (i := i - 1) (by omega)
   have hgp := z1e Tr.cs hz (by omega) hp; have hA : Go.Sx.ahead Tr.lt ts i t = Slt.lt ⟨p.c, p.s, 0, 0, 0, []⟩ ⟨t.c, t.s, 0, 0, 0, []⟩ := ya hz hp; have hK := za1 (c := c) rfl rfl rfl hA hD; refine xs Y (nn_ _) (y9 Y _ hg (xs Y Y (z7 Y (qy _ (by assumption) _ _) Y tv4 ?_))); refine xb Y ?_ ?_ <;> intro b0
   refine xv Y Y Y ?_; rotate_left; refine z7 Y (zl _ _ _) Y tv4 ?_; refine xb Y ?_ ?_ <;> intro b1
   refine xj (k := 5) Y ?_; refine xv Y Y Y ?_; rotate_left; refine xj (k := 2) Y (z7 Y (zl _ _ _) Y tv4 (xj (k := 2) Y ?_)); refine xb Y ?_ ?_ <;> intro b2
   refine xv Y Y Y ?_; rotate_left; refine yb Y [] (Tk (Rg 0 8) (.take 8 (Rg 15 1 ++ Rg 21 12) (Tk (Rg 9 5) (.take 14 (Rg 15 1 ++ Rg 21 12) (Tk [15, 16] (.take 17 (Rg 20 13) (.take 18 [] (.take 19 (Rg 20 13) (.take 20 [] (.alt 21 (Tk (Rg 22 4) (.take 26 [27, 31, 32] (Tk [27, 28] (.take 29 (Rg 30 3) (Tk [30, 31, 32] .done))))) .nil)))))))))) (by kernel_rfl) ?_; refine xb Y ?_ ?_ <;> intro b3
   refine xj (k := 3) Y (xs Y (q0o hz (by omega)) (y9 Y _ hgp (xs Y Y (xj (k := 6) Y (xs Y (q0o hz (by omega)) (y9 Y _ hgp (xs Y Y (xj (k := 9) Y (z7 Y (z42 ⟨p.c, p.s, 0, 0, 0, []⟩ ⟨t.c, t.s, 0, 0, 0, []⟩) Y ⟨tv7, tv7, trivial⟩ ?_))))))))); refine xj (k := 2) Y ?_; refine xb Y ?_ ?_ <;> intro b4
   refine xj (k := 8) Y ?_; refine xv Y Y Y ?_; rotate_left; refine xj (k := 7) Y ?_; refine xb Y ?_ ?_ <;> intro b5
   refine xv Y Y Y ?_; rotate_left; rotate_left; exact absurd b3 (by simp; omega); all_goals first | (refine vi ?_; rw [hK]; clear hg hgp hK hA; simp_all only [Bool.not_eq_true', Bool.not_eq_false', cond_true, cond_false]; done) | (exfalso; clear hK; simp at b3; omega) | skip
   have hT : y5m c ts i t = y7j c t := by rw [hK]; clear hg hgp hK hA; simp_all only [Bool.not_eq_true', Bool.not_eq_false', cond_true, cond_false]
   have hle : t.fr.length = t.olds.length := by have := hD.trans b5; simpa using this
   clear hK hD b0 b1 b2 b3 b4 b5 hA; refine qc Y (ι := Nat) (fun k => k ≤ t.fr.length ∧ (∀ j y, j < k → t.fr[j]? = some y → z1y c y = false) ∧ ∀ j y, j < k → t.olds[j]? = some y → y0s y = false) (fun k => ⟨[(8, sV (.int .i64 k)), (7, .one (.a 7 0)), (0, .one (.b (.p c.cs)))], [(7, .var (t.cs.map .b))]⟩) (fun k => t.fr.length - k) 0 ⟨Nat.zero_le _, fun j y hj => by omega, fun j y hj => by omega⟩ ?_ ?_
   · exact ⟨⟨Y, I, Y, trivial⟩, ⟨⟨Y, Y, Y, Y, Y, Y, trivial⟩, trivial⟩, Y⟩
   · intro k ⟨hk, h0k, h1k⟩ Jk hJk
     refine xb Y ?_ ?_ <;> intro hh
     · have hh : k < t.fr.length := by simpa using hh
       obtain ⟨y, hy⟩ := gx hh; obtain ⟨v, hv⟩ := gx (xs := t.olds) (i := k) (by omega); have hgy := gm (fun n => [i64 n]) hy; have hgv := gm Vt.cs hv; have hwq := z49 c y; refine yb Y [] (.take 0 [] (.take 1 (Rg 3 2 ++ Rg 11 20) (Tk [2, 3] (.take 4 (Rg 11 20) (Tk [5, 6, 7] (.take 8 (Rg 9 22) (Tk [9, 10] (.alt 11 (Tk [12, 13, 14] (.take 15 (Rg 17 2 ++ Rg 20 11) (Tk [16, 17] (.take 18 (Rg 20 11) (.alt 19 (Tk [20, 21, 22] (.take 23 (Rg 25 6) (Tk [24, 25] (.take 26 (Rg 27 4) (.alt 27 (Tk [28, 29, 30] .done) .nil))))) .nil))))) .nil)))))))) (by kernel_rfl) (xs Y (nn_ _) (y9 Y _ hgy (xs Y Y (z7 Y (zl _ _ _) Y tv4 ?_)))); refine xb Y ?_ ?_ <;> intro b0
       refine xj (k := 10) Y ?_; refine xv Y Y Y ?_; rotate_left; refine xj (k := 3) Y (xs Y (nn_ _) (y9 Y _ hgv (xs Y Y (xj (k := 2) Y (z7 Y (y29) Y trivial (xj (k := 2) Y ?_)))))); refine xb Y ?_ ?_ <;> intro b1
       refine xj (k := 3) Y (xs Y (nn_ _) (y9 Y _ hgv (xs Y Y (xj (k := 2) Y (z7 Y (q1z _) Y ⟨tv3, trivial⟩ (xj (k := 4) Y ?_)))))); refine xb Y ?_ ?_ <;> intro b2
       refine xv Y Y Y ?_; rotate_left; rotate_left; refine xj (k := 10) Y ?_; rotate_left
       all_goals first
        | (refine vi ?_
           have hb : z1y c y = true := by unfold z1y; rw [← w2]; assumption
           rw [hT]; unfold y7j; rw [zv hy hb |>.symm]; rfl)
        | (refine vi ?_
           have hb : y0s v = true := by unfold y0s; simp_all [q1f, Vt.none]
           rw [hT]; unfold y7j; rw [zv hv hb |>.symm, Bool.or_true]; rfl)
        | (have hb : z1y c y = false := by unfold z1y; rw [← w2]; assumption
           have hb2 : y0s v = false := by unfold y0s; simp_all [q1f, Vt.none]
           exact q9 Y (hJk _ (k + 1) ⟨by omega, qg hy h0k hb, qg hv h1k hb2⟩ (by omega) ⟨⟨cwi (by omega) (by omega) (by omega), I, Y, trivial⟩, ⟨lcr, trivial⟩, Y⟩))
        | skip
     · have hh : ¬ k < t.fr.length := by simpa using hh
       have ha := any_none (yk (by omega) h0k); have hb := any_none (l := t.olds) (yk (by omega) h1k); have hT2 : y5m c ts i t = scan (q0t t.fr) t.fr.length := by rw [hT]; unfold y7j; rw [← ha, ← hb]; rfl
       clear hJk h0k h1k ha hb; refine qc Y (ι := Nat) (fun k => k ≤ t.fr.length ∧ ∀ j, j < k → q0t t.fr j = 0) (fun k => ⟨[(9, sV (.int .i64 k)), (7, .one (.a 7 0)), (0, .one (.b (.p c.cs)))], [(7, .var (t.cs.map .b))]⟩) (fun k => t.fr.length - k) 0 ⟨Nat.zero_le _, fun j hj => by omega⟩ ?_ ?_
       · exact ⟨⟨Y, I, Y, trivial⟩, ⟨lcr, trivial⟩, Y⟩
       · intro k ⟨hk, h0k⟩ Jk hJk
         refine xb Y ?_ ?_ <;> intro hh
         · have hh : k < t.fr.length := by simpa using hh
           obtain ⟨y, hy⟩ := gx hh; have hgy := gm (fun n => [i64 n]) hy; refine yb Y [] (.take 0 [] (.take 1 [3, 9] (Tk [2, 3, 4] (.take 5 (Rg 7 3) (Tk [6, 7] (.take 8 [9] (.alt 9 .done .nil))))))) (by kernel_rfl) (xs Y (.inl Y) (xs Y (nn_ _) (xs Y (nn_ _) (xs Y (by simp; omega) (xs Y (nn_ _) (y9 Y _ hgy (xs Y Y (z7 Y (z31 _ (t.fr.take k) y (q3c _ _) (by rw [List.length_take]; omega)) Y tv3 ?_)))))))); refine xb Y ?_ ?_ <;> intro b0
           refine xv Y Y Y ?_; rotate_left; rotate_left
           · exact vi (by rw [hT2]; exact q8 hh h0k (by unfold q0t; rw [hy]; exact if_pos b0) (by decide))
           · exact q9 Y (hJk _ (k + 1) ⟨by omega, zc h0k (by unfold q0t; rw [hy]; exact if_neg (by rw [b0]; decide))⟩ (by omega) ⟨⟨cwi (by omega) (by omega) (by omega), I, Y, trivial⟩, ⟨lcr, trivial⟩, Y⟩)
         · have hh : ¬ k < t.fr.length := by simpa using hh
           have hz := zg (f := q0t t.fr) (n := t.fr.length) (fun j hj => h0k j (by omega)); refine xv Y Y Y ?_; exact vi (by rw [hT2, hz])
theorem qbz {c : Clu} {l : Ldr} (hn : Go.Sx.within l.n 0 400 = true) (hm : ¬ (60 < l.tries.length ∨ 300 < l.known.length)) {v : Int} (hv : v = scan (z3r c l.tries) l.tries.length) (h : v ≠ 0) : y88 c l = v := by
 unfold y88; rw [hn, if_neg (by decide), if_neg hm, orr, ← hv, if_pos h]
theorem q5y {c : Clu} {l : Ldr} (hn : Go.Sx.within l.n 0 400 = true) (hm : ¬ (60 < l.tries.length ∨ 300 < l.known.length)) (h1 : scan (z3r c l.tries) l.tries.length = 0) {v : Int} (hv : v = scan (hdF c l.known) l.known.length) : y88 c l = v := by
 unfold y88; rw [hn, if_neg (by decide), if_neg hm, orr, h1, if_neg (by decide), orr, ← hv, orr]; split
 · rfl
 · rename_i h; have h : v = 0 := by simpa using h
   exact h.symm
theorem y9h (c : Clu) (ho : zz c) : PC Tryz.prog 116 [.one (.p c.cs)] (rI (scan (y2v c) c.ldrs.length)) := by
 refine PC.begin Tryz.func116 Y (by kernel_rfl) ?_; have hl := ho.2.2.2.1.1; have w2 := wl1 Acc.cs ho.2.2.1.1; refine qc Y (ι := Nat) (fun i => i ≤ c.ldrs.length ∧ ∀ j, j < i → y2v c j = 0) (fun i => ⟨[(3, sV (.int .i64 i)), (0, .one (.b (.p c.cs)))], []⟩) (fun i => c.ldrs.length - i) 0 ⟨Nat.zero_le _, fun j hj => by omega⟩ ?_ ?_
 · exact ⟨⟨Y, Y, trivial⟩, trivial, Y⟩
 · intro io ⟨hio, h0o⟩ Jo hJo
   refine xb Y ?_ ?_ <;> intro hho
   · have hho : io < c.ldrs.length := by simpa using hho
     obtain ⟨l, hlx⟩ := gx hho; have hgl := gm Ldr.cs hlx; obtain ⟨l1, l2, l3⟩ := ho.2.2.2.1.2 l (List.mem_of_getElem? hlx); have hF : y2v c io = y88 c l := by unfold y2v; rw [hlx]
     refine xs Y (nn_ _) (y9 Y _ hgl (xs Y Y (z7 Y (zl _ _ _) Y tv4 ?_))); refine xb Y ?_ ?_ <;> intro b0
     refine xv Y Y Y ?_; rotate_left; refine xb Y ?_ ?_ <;> intro b1
     refine xj (k := 5) Y ?_; refine xv Y Y Y ?_; rotate_left; refine xj (k := 4) Y ?_; refine xb Y ?_ ?_ <;> intro b2
     refine xv Y Y Y ?_; rotate_left; rotate_left
     all_goals first
      | (refine vi (q8 hho h0o ?_ (by decide)); clear hJo h0o hgl; rw [hF]; unfold y88; simp_all; done)
      | (refine vi (q8 hho h0o ?_ (by decide)); clear hJo h0o hgl; rw [hF]; unfold y88; simp_all; omega)
      | skip
     have hn : Go.Sx.within l.n 0 400 = true := by simpa using b0
     have hm : ¬ (60 < l.tries.length ∨ 300 < l.known.length) := by simp at b1 b2; omega
     clear b0 b1 b2; refine qc Y (ι := Nat) (fun i => i ≤ l.tries.length ∧ ∀ j, j < i → z3r c l.tries j = 0) (fun i => ⟨[(5, sV (.int .i64 i)), (4, .one (.a 4 0)), (3, sV (.int .i64 io)), (0, .one (.b (.p c.cs)))], [(4, .var (l.cs.map .b))]⟩) (fun i => l.tries.length - i) 0 ⟨Nat.zero_le _, fun j hj => by omega⟩ ?_ ?_
     · exact ⟨⟨Y, I, Y, Y, trivial⟩, ⟨⟨Y, Y, Y, trivial⟩, trivial⟩, Y⟩
     · intro i ⟨hi, h0⟩ J hJ
       refine xb Y ?_ ?_ <;> intro h
       · have h : i < l.tries.length := by simpa using h
         obtain ⟨x, hx⟩ := gx h; have hg := gm Tr.cs hx; refine z7 Y (qaq c ho l.tries i x l1 (l3 x (List.mem_of_getElem? hx)) hx) Y tv4 ?_; refine xb Y ?_ ?_ <;> intro b0
         refine xv Y Y Y ?_; rotate_left; rotate_left; all_goals (first | (have hsc := q8 (c := y5m c l.tries i x) h h0 (by clear hJ h0 hg; (first | (simp_all [z3r]; done) | (simp_all [z3r]; omega)); done) (by clear hJ h0; simp_all); exact vi (q8 hho h0o (hF.trans (qbz hn hm hsc (by simpa using b0))) (by simpa using b0)); done) | (refine vi (q8 h h0 ?_ (by first | decide | decide | simp_all)); clear hJ h0 hg; (first | (simp_all [z3r]; done) | (simp_all [z3r]; omega)); done) | (refine q9 Y (hJ _ (i + 1) ⟨by omega, zc h0 ?_⟩ (by omega) ⟨⟨cwi (by omega) (by omega) (by omega), I, Y, Y, trivial⟩, ⟨⟨Y, Y, Y, trivial⟩, trivial⟩, Y⟩); clear hJ h0 hg; (first | (simp_all [z3r]; done) | (simp_all [z3r]; omega)); done) | skip)
       · have h : ¬ i < l.tries.length := by simpa using h
         have hz := zg (f := z3r c l.tries) (n := l.tries.length) (fun j hj => h0 j (by omega)); clear hJ; have hz1 := hz; clear hz h h0; refine qc Y (ι := Nat) (fun i => i ≤ l.known.length ∧ ∀ j, j < i → hdF c l.known j = 0) (fun i => ⟨[(7, sV (.int .i64 i)), (4, .one (.a 4 0)), (3, sV (.int .i64 io)), (0, .one (.b (.p c.cs)))], [(4, .var (l.cs.map .b))]⟩) (fun i => l.known.length - i) 0 ⟨Nat.zero_le _, fun j hj => by omega⟩ ?_ ?_
         · exact ⟨⟨Y, I, Y, Y, trivial⟩, ⟨⟨Y, Y, Y, trivial⟩, trivial⟩, Y⟩
         · intro i ⟨hi, h0⟩ J hJ
           refine xb Y ?_ ?_ <;> intro h
           · have h : i < l.known.length := by simpa using h
             obtain ⟨x, hx⟩ := gx h; have hg := gm Hd.cs hx; rcases Nat.eq_zero_or_pos i with hz | hz
             · subst hz
               refine xs Y (nn_ _) (y9 Y _ hg (xs Y Y (z7 Y (qy _ (by assumption) _ _) Y tv4 ?_))); refine xb Y ?_ ?_ <;> intro b0
               refine xv Y Y Y ?_; rotate_left; refine yb Y [] (.take 0 [] (.take 1 (Rg 2 20) (.alt 2 (Tk [3, 4, 5] (.take 6 (Rg 7 15) (.alt 7 (Tk (Rg 8 4) (.take 12 (Rg 19 3) (Tk [13, 14, 15] (.take 16 (Rg 17 5) (Tk [17, 18] (.alt 19 (Tk [20, 21] .done) .nil)))))) .nil))) .nil))) (by kernel_rfl) (z7 Y (z02 _) Y ⟨trivial, trivial⟩ ?_); refine xb Y ?_ ?_ <;> intro b1
               refine xj (k := 16) Y ?_; refine xv Y Y Y ?_; rotate_left; refine xj (k := 2) Y (z7 Y (z0b _) Y ⟨trivial, trivial⟩ (xj (k := 2) Y ?_)); refine xb Y ?_ ?_ <;> intro b2
               refine xj (k := 11) Y ?_; refine xv Y Y Y ?_; rotate_left; refine xj (k := 8) Y (z7 Y (zl _ _ _) Y tv4 (xj (k := 2) Y ?_)); refine xb Y ?_ ?_ <;> intro b3
               refine xv Y Y Y ?_; rotate_left; refine yb Y [] (Tk (Rg 0 4) (.take 4 [7, 8, 10, 11, 12] (Tk [5, 6, 7] (.take 8 (Rg 10 3) (.take 9 (Rg 10 3) (.alt 10 (Tk [11, 12] .done) .nil)))))) (by kernel_rfl) ?_; refine xj (k := 11) Y ?_; rotate_left; all_goals (first | (have hsc := q8 (c := 4) h h0 (by clear hJ h0 hg; (first | (simp_all [hdF, ahead_zero]; done) | (simp_all [hdF, ahead_zero]; omega)); done) (by decide); exact vi (q8 hho h0o (hF.trans (q5y hn hm hz1 hsc)) (by decide)); done) | (have hsc := q8 (c := 3) h h0 (by clear hJ h0 hg; (first | (simp_all [hdF, ahead_zero]; done) | (simp_all [hdF, ahead_zero]; omega)); done) (by decide); exact vi (q8 hho h0o (hF.trans (q5y hn hm hz1 hsc)) (by decide)); done) | (have hsc := q8 (c := 1) h h0 (by clear hJ h0 hg; (first | (simp_all [hdF, ahead_zero]; done) | (simp_all [hdF, ahead_zero]; omega)); done) (by decide); exact vi (q8 hho h0o (hF.trans (q5y hn hm hz1 hsc)) (by decide)); done) | (refine vi (q8 h h0 ?_ (by first | decide | decide | simp_all)); clear hJ h0 hg; (first | (simp_all [hdF, ahead_zero]; done) | (simp_all [hdF, ahead_zero]; omega)); done) | (refine q9 Y (hJ _ 1 ⟨by omega, zc h0 ?_⟩ (by omega) ⟨⟨cwi (by omega) (by omega) (by omega), I, Y, Y, trivial⟩, ⟨⟨Y, Y, Y, trivial⟩, trivial⟩, Y⟩); clear hJ h0 hg; (first | (simp_all [hdF, ahead_zero]; done) | (simp_all [hdF, ahead_zero]; omega)); done) | skip)
             · obtain ⟨p, hp⟩ := gx (xs := l.known) (i := i - 1) (by omega)
               have hgp := z1e Hd.cs hz (by omega) hp; refine xs Y (nn_ _) (y9 Y _ hg (xs Y Y (z7 Y (qy _ (by assumption) _ _) Y tv4 ?_))); refine xb Y ?_ ?_ <;> intro b0
               refine xv Y Y Y ?_; rotate_left; refine yb Y [] (.take 0 [] (.take 1 (Rg 2 20) (.alt 2 (Tk [3, 4, 5] (.take 6 (Rg 7 15) (.alt 7 (Tk (Rg 8 4) (.take 12 (Rg 19 3) (Tk [13, 14, 15] (.take 16 (Rg 17 5) (Tk [17, 18] (.alt 19 (Tk [20, 21] .done) .nil)))))) .nil))) .nil))) (by kernel_rfl) (z7 Y (z02 _) Y ⟨trivial, trivial⟩ ?_); refine xb Y ?_ ?_ <;> intro b1
               refine xj (k := 16) Y ?_; refine xv Y Y Y ?_; rotate_left; refine xj (k := 2) Y (z7 Y (z0b _) Y ⟨trivial, trivial⟩ (xj (k := 2) Y ?_)); refine xb Y ?_ ?_ <;> intro b2
               refine xj (k := 11) Y ?_; refine xv Y Y Y ?_; rotate_left; refine xj (k := 8) Y (z7 Y (zl _ _ _) Y tv4 (xj (k := 2) Y ?_)); refine xb Y ?_ ?_ <;> intro b3
               refine xv Y Y Y ?_; rotate_left; refine yb Y [] (Tk (Rg 0 4) (.take 4 [7, 8, 10, 11, 12] (Tk [5, 6, 7] (.take 8 (Rg 10 3) (.take 9 (Rg 10 3) (.alt 10 (Tk [11, 12] .done) .nil)))))) (by kernel_rfl) ?_; refine xb Y ?_ ?_ <;> intro b4
               refine xj (k := 4) Y (xs Y (q0o hz (by omega)) (y9 Y _ hgp (xs Y Y (xj (k := 3) Y (z7 Y (q58 _ _) Y ⟨tv6, tv6, trivial⟩ (xj (k := 2) Y ?_)))))); refine xb Y ?_ ?_ <;> intro b5
               refine xv Y Y Y ?_; rotate_left; rotate_left; refine xj (k := 10) Y ?_; rotate_left; all_goals (first | (have hsc := q8 (c := 4) h h0 (by clear hJ h0 hg hgp; (first | (simp_all [hdF, ya hz hp]; done) | (simp_all [hdF, ya hz hp]; omega)); done) (by decide); exact vi (q8 hho h0o (hF.trans (q5y hn hm hz1 hsc)) (by decide)); done) | (have hsc := q8 (c := 3) h h0 (by clear hJ h0 hg hgp; (first | (simp_all [hdF, ya hz hp]; done) | (simp_all [hdF, ya hz hp]; omega)); done) (by decide); exact vi (q8 hho h0o (hF.trans (q5y hn hm hz1 hsc)) (by decide)); done) | (have hsc := q8 (c := 1) h h0 (by clear hJ h0 hg hgp; (first | (simp_all [hdF, ya hz hp]; done) | (simp_all [hdF, ya hz hp]; omega)); done) (by decide); exact vi (q8 hho h0o (hF.trans (q5y hn hm hz1 hsc)) (by decide)); done) | (refine vi (q8 h h0 ?_ (by first | decide | decide | simp_all)); clear hJ h0 hg hgp; (first | (simp_all [hdF, ya hz hp]; done) | (simp_all [hdF, ya hz hp]; omega)); done) | (refine q9 Y (hJ _ (i + 1) ⟨by omega, zc h0 ?_⟩ (by omega) ⟨⟨cwi (by omega) (by omega) (by omega), I, Y, Y, trivial⟩, ⟨⟨Y, Y, Y, trivial⟩, trivial⟩, Y⟩); clear hJ h0 hg hgp; (first | (simp_all [hdF, ya hz hp]; done) | (simp_all [hdF, ya hz hp]; omega)); done) | skip)
           · have h : ¬ i < l.known.length := by simpa using h
             have hz := zg (f := hdF c l.known) (n := l.known.length) (fun j hj => h0 j (by omega)); clear hJ; skip; exact q9 Y (hJo _ (io + 1) ⟨by omega, zc h0o (hF.trans (q5y hn hm hz1 hz.symm))⟩ (by omega) ⟨⟨cwi (by omega) (by omega) (by omega), Y, trivial⟩, trivial, Y⟩)
   · have hho : ¬ io < c.ldrs.length := by simpa using hho
     have hz := zg (f := y2v c) (n := c.ldrs.length) (fun j hj => h0o j (by omega)); refine xv Y Y Y ?_; exact vi (hz.symm)
theorem qcd {a b c d e : Int} : orr [a, b, c, d, e] = if a ≠ 0 then a else if b ≠ 0 then b else if c ≠ 0 then c else if d ≠ 0 then d else e := by
 unfold orr orr orr orr orr orr
 repeat' split
 all_goals first | rfl | omega
theorem y0e {c : Clu} : z0q c = true ↔ (20 < c.cons.length ∨ ¬ (1 ≤ c.shs.length ∧ c.shs.length ≤ 3) ∨ ¬ (1 ≤ c.accs.length ∧ c.accs.length ≤ 5) ∨ c.ldrs.length ≠ 2 ∨ 200 < c.msgs.length) := by
 unfold z0q Go.Sx.within; simp; omega
theorem q9t {c : Clu} (h : z0q c = true) : zj c = 2 := by unfold zj; rw [if_pos h]
theorem q91 {c : Clu} (h : ¬ z0q c = true) : zj c = if scan (q0d c) c.cons.length ≠ 0 then scan (q0d c) c.cons.length else if scan (q2l c) c.shs.length ≠ 0 then scan (q2l c) c.shs.length else if scan (z2u c) c.accs.length ≠ 0 then scan (z2u c) c.accs.length else if scan (y2v c) c.ldrs.length ≠ 0 then scan (y2v c) c.ldrs.length else scan (y4o c) c.msgs.length := by
 unfold zj; rw [if_neg h, qcd]
theorem qbw (c : Clu) (us : List Acc) (F : Acc → Int) (G : Nat → Int) (fn : Nat) (hG : ∀ i x, us[i]? = some x → G i = F x) (hf : ∀ x ∈ us, PC Tryz.prog fn [.one (.p c.cs), .agg x.cs] (rI (F x))) (hl : us.length ≤ 1048576) : PC Tryz.prog 170 [.one (.l (us.map Acc.cs)), .one (.m fn false [.p c.cs])] (rI (scan G us.length)) := by
 refine PC.begin Tryz.func170 Y (by kernel_rfl) ?_; have hn : (us.map Acc.cs).length = us.length := by simp
 refine qc Y (ι := Nat) (fun i => i ≤ us.length ∧ ∀ j, j < i → G j = 0) (fun i => ⟨[(10, sV (.int .i64 i)), (9, sV (.int .i64 (us.map Acc.cs).length)), (8, .one (.b (.l (us.map Acc.cs)))), (1, .one (.b (.m fn false [.p c.cs])))], []⟩) (fun i => us.length - i) 0 ⟨Nat.zero_le _, fun j hj => by omega⟩ ?_ ?_
 · exact ⟨⟨Y, Y, Y, Y, trivial⟩, trivial, Y⟩
 · intro i ⟨hi, h0⟩ J hJ
   refine xb Y ?_ ?_ <;> intro h
   · have h : i < us.length := by simpa using h
     obtain ⟨x, hx⟩ := gx h; have hg := gm Acc.cs hx; have hxm := List.mem_of_getElem? hx; have hGx := hG i x hx; refine xs Y (nn_ _) (y9 Y _ hg (xs Y Y (z7 Y (hf _ hxm) Y ⟨trivial, ⟨trivial, trivial⟩, trivial⟩ ?_))); refine xb Y ?_ ?_ <;> intro b0
     refine xv Y Y Y ?_; rotate_left; rotate_left
     · exact vi (q8 h h0 hGx (by simpa using b0))
     · exact q9 Y (hJ _ (i + 1) ⟨by omega, zc h0 (hGx.trans (by simpa using b0))⟩ (by omega) ⟨⟨cwi (by omega) (by omega) (by omega), Y, Y, Y, trivial⟩, trivial, Y⟩)
   · have h : ¬ i < us.length := by simpa using h
     have hz := zg (f := G) (n := us.length) (fun j hj => h0 j (by omega)); refine xv Y Y Y ?_; exact vi (hz.symm)
theorem zbx (c : Clu) (us : List Ldr) (F : Ldr → Int) (G : Nat → Int) (fn : Nat) (hG : ∀ i x, us[i]? = some x → G i = F x) (hf : ∀ x ∈ us, PC Tryz.prog fn [.one (.p c.cs), .agg x.cs] (rI (F x))) (hl : us.length ≤ 1048576) : PC Tryz.prog 172 [.one (.l (us.map Ldr.cs)), .one (.m fn false [.p c.cs])] (rI (scan G us.length)) := by
 refine PC.begin Tryz.func172 Y (by kernel_rfl) ?_; have hn : (us.map Ldr.cs).length = us.length := by simp
 refine qc Y (ι := Nat) (fun i => i ≤ us.length ∧ ∀ j, j < i → G j = 0) (fun i => ⟨[(10, sV (.int .i64 i)), (9, sV (.int .i64 (us.map Ldr.cs).length)), (8, .one (.b (.l (us.map Ldr.cs)))), (1, .one (.b (.m fn false [.p c.cs])))], []⟩) (fun i => us.length - i) 0 ⟨Nat.zero_le _, fun j hj => by omega⟩ ?_ ?_
 · exact ⟨⟨Y, Y, Y, Y, trivial⟩, trivial, Y⟩
 · intro i ⟨hi, h0⟩ J hJ
   refine xb Y ?_ ?_ <;> intro h
   · have h : i < us.length := by simpa using h
     obtain ⟨x, hx⟩ := gx h; have hg := gm Ldr.cs hx; have hxm := List.mem_of_getElem? hx; have hGx := hG i x hx; refine xs Y (nn_ _) (y9 Y _ hg (xs Y Y (z7 Y (hf _ hxm) Y ⟨trivial, tv4, trivial⟩ ?_))); refine xb Y ?_ ?_ <;> intro b0
     refine xv Y Y Y ?_; rotate_left; rotate_left
     · exact vi (q8 h h0 hGx (by simpa using b0))
     · exact q9 Y (hJ _ (i + 1) ⟨by omega, zc h0 (hGx.trans (by simpa using b0))⟩ (by omega) ⟨⟨cwi (by omega) (by omega) (by omega), Y, Y, Y, trivial⟩, trivial, Y⟩)
   · have h : ¬ i < us.length := by simpa using h
     have hz := zg (f := G) (n := us.length) (fun j hj => h0 j (by omega)); refine xv Y Y Y ?_; exact vi (hz.symm)
theorem ybx (c : Clu) (us : List Msg) (F : Msg → Int) (G : Nat → Int) (fn : Nat) (hG : ∀ i x, us[i]? = some x → G i = F x) (hf : ∀ x ∈ us, PC Tryz.prog fn [.agg x.cs, .one (.p c.cs)] (rI (F x))) (hl : us.length ≤ 1048576) : PC Tryz.prog 174 [.one (.l (us.map Msg.cs)), .one (.f fn [.p c.cs])] (rI (scan G us.length)) := by
 refine PC.begin Tryz.func174 Y (by kernel_rfl) ?_; have hn : (us.map Msg.cs).length = us.length := by simp
 refine qc Y (ι := Nat) (fun i => i ≤ us.length ∧ ∀ j, j < i → G j = 0) (fun i => ⟨[(10, sV (.int .i64 i)), (9, sV (.int .i64 (us.map Msg.cs).length)), (8, .one (.b (.l (us.map Msg.cs)))), (1, .one (.b (.f fn [.p c.cs])))], []⟩) (fun i => us.length - i) 0 ⟨Nat.zero_le _, fun j hj => by omega⟩ ?_ ?_
 · exact ⟨⟨Y, Y, Y, Y, trivial⟩, trivial, Y⟩
 · intro i ⟨hi, h0⟩ J hJ
   refine xb Y ?_ ?_ <;> intro h
   · have h : i < us.length := by simpa using h
     obtain ⟨x, hx⟩ := gx h; have hg := gm Msg.cs hx; have hxm := List.mem_of_getElem? hx; have hGx := hG i x hx; refine xs Y (nn_ _) (y9 Y _ hg (xs Y Y (z7 Y (hf _ hxm) Y ⟨tv10, trivial, trivial⟩ ?_))); refine xb Y ?_ ?_ <;> intro b0
     refine xv Y Y Y ?_; rotate_left; rotate_left
     · exact vi (q8 h h0 hGx (by simpa using b0))
     · exact q9 Y (hJ _ (i + 1) ⟨by omega, zc h0 (hGx.trans (by simpa using b0))⟩ (by omega) ⟨⟨cwi (by omega) (by omega) (by omega), Y, Y, Y, trivial⟩, trivial, Y⟩)
   · have h : ¬ i < us.length := by simpa using h
     have hz := zg (f := G) (n := us.length) (fun j hj => h0 j (by omega)); refine xv Y Y Y ?_; exact vi (hz.symm)
theorem zam (c : Clu) (ho : zz c) (m : Msg) : PC Tryz.prog 175 [.agg m.cs, .one (.p c.cs)] (rI (z0j c m)) := by
 refine PC.begin Tryz.func175 Y (by kernel_rfl) ?_; refine z7 Y (zae c ho m) Y ⟨tv6, tv10, trivial⟩ ?_; refine xr Y (zm Y ⟨⟨Y, Y, trivial⟩, z6 Y⟩)
theorem q83 (c : Clu) (ho : zz c) : PC Tryz.prog 90 [.agg c.cs] (rI (zj c)) := by
 refine PC.begin Tryz.func90 Y (by kernel_rfl) ?_; have hl := ho.2.1.1; have hA := qbw c c.accs (qa3 c) (z2u c) 171 (fun i x h => by unfold z2u; rw [h]) (fun a ha => z96 c ho a (ho.2.2.1.2 a ha)) ho.2.2.1.1; have hL := zbx c c.ldrs (y88 c) (y2v c) 173 (fun i x h => by unfold y2v; rw [h]) (fun l hl => qad c ho l (ho.2.2.2.1.2 l hl)) ho.2.2.2.1.1; have hM := ybx c c.msgs (z0j c) (y4o c) 175 (fun i x h => by unfold y4o; rw [h]) (fun m _ => zam c ho m) ho.2.2.2.2; refine xb Y ?_ ?_ <;> intro b0
 refine xj (k := 22) Y ?_; refine xv Y Y Y ?_; rotate_left; refine xj (k := 2) Y (z7 Y (y2t _) Y ⟨trivial, trivial⟩ (xj (k := 1) Y (z7 Y (qo _ _ _) Y tv4 (xj (k := 2) Y ?_)))); refine xb Y ?_ ?_ <;> intro b1
 refine xj (k := 16) Y ?_; refine xv Y Y Y ?_; rotate_left; refine xj (k := 2) Y (z7 Y (q1m _) Y ⟨trivial, trivial⟩ (xj (k := 1) Y (z7 Y (qo _ _ _) Y tv4 (xj (k := 2) Y ?_)))); refine xb Y ?_ ?_ <;> intro b2
 refine xj (k := 10) Y ?_; refine xv Y Y Y ?_; rotate_left; refine xj (k := 4) Y ?_; refine xb Y ?_ ?_ <;> intro b3
 refine xj (k := 5) Y ?_; refine xv Y Y Y ?_; rotate_left; refine xj (k := 4) Y ?_; refine xb Y ?_ ?_ <;> intro b4
 refine xv Y Y Y ?_; rotate_left; refine z7 Y (q96 c ho) Y ⟨tv6, trivial⟩ ?_; refine xb Y ?_ ?_ <;> intro b5
 refine xv Y Y Y ?_; rotate_left; rotate_left
 all_goals first
  | (refine vi (q9t (y0e.2 ?_)).symm; clear hA hL hM ho; (simp only [List.length_map, Go.Sx.within, gt_iff_lt, ge_iff_le] at *; simp at *; omega); done)
  | skip
 · refine vi ?_
   have hm : ¬ z0q c = true := fun h => by rw [y0e] at h; clear hA hL hM ho; (simp only [List.length_map, Go.Sx.within, gt_iff_lt, ge_iff_le] at *; simp at *; omega)
   rw [q91 hm, if_pos (by simpa using b5)]
 · have hm : ¬ z0q c = true := fun h => by rw [y0e] at h; clear hA hL hM ho; (simp only [List.length_map, Go.Sx.within, gt_iff_lt, ge_iff_le] at *; simp at *; omega)
   have h1 : scan (q0d c) c.cons.length = 0 := by simpa using b5
   rw [q91 hm, if_neg (by simpa using h1)]; clear b0 b1 b2 b3 b4 b5 h1 hm; refine qc Y (ι := Nat) (fun i => i ≤ c.shs.length ∧ ∀ j, j < i → q2l c j = 0) (fun i => ⟨[(44, sV (.int .i64 i)), (43, sV (.int .i64 (c.shs.map Shd.cs).length)), (1, .one (.a 1 0))], [(1, .var (c.cs.map .b))]⟩) (fun i => c.shs.length - i) 0 ⟨Nat.zero_le _, fun j hj => by omega⟩ ?_ ?_
   · exact ⟨⟨Y, Y, I, trivial⟩, ⟨lcr, trivial⟩, Y⟩
   · intro i ⟨hi, h0⟩ J hJ
     refine xb Y ?_ ?_ <;> intro h
     · have h : i < c.shs.length := by simpa using h
       obtain ⟨s, hx⟩ := gx h; have hF : q2l c i = ya0 c i s := by unfold q2l; rw [hx]
       refine z7 Y (z97 c ho i s hx) Y ⟨tv6, trivial, trivial⟩ ?_; refine xb Y ?_ ?_ <;> intro b0
       refine xv Y Y Y ?_; rotate_left; rotate_left
       · have hsc := q8 h h0 hF (by simpa using b0)
         refine vi ?_; rw [if_pos (by rw [← hsc]; simpa using b0), ← hsc]
       · exact q9 Y (hJ _ (i + 1) ⟨by omega, zc h0 (hF.trans (by simpa using b0))⟩ (by omega) ⟨⟨cwi (by omega) (by omega) (by omega), Y, I, trivial⟩, ⟨lcr, trivial⟩, Y⟩)
     · have h : ¬ i < c.shs.length := by simpa using h
       have hz := zg (f := q2l c) (n := c.shs.length) (fun j hj => h0 j (by omega)); rw [if_neg (by simpa using hz)]; clear hJ h0; refine yb Y [] (.take 0 [] (.take 1 [3, 7, 8, 9, 10] (Tk [2, 4] (.take 5 (Rg 7 4) (.take 6 [] (.alt 3 (.alt 7 (.alt 8 (.alt 9 (.take 10 [] .done) .nil) .nil) .nil) .nil)))))) (by kernel_rfl) (z7 Y (hA) Y ⟨trivial, tv6, trivial⟩ (z7 Y (hL) Y ⟨trivial, tv6, trivial⟩ (xs Y tv3 (z7 Y (z2h [_, _] (by simp)) Y ⟨Y, trivial⟩ ?_)))); refine xb Y ?_ ?_ <;> intro b0
       refine xv Y Y Y ?_; rotate_left; refine z7 rfl (hM) rfl ⟨trivial, (List.forall_mem_cons.2 ⟨tv6, (fun _ h => nomatch h)⟩), trivial⟩ ?_; refine xv Y Y Y ?_; rotate_left; all_goals (refine vi ?_; clear hA hL hM ho; unfold orr orr orr at *; by_cases h1 : scan (z2u c) c.accs.length = 0 <;> by_cases h2 : scan (y2v c) c.ldrs.length = 0 <;> simp_all <;> done)
theorem qap (c : Clu) (ho : zz c) : PC Tryz.prog 48 [.agg c.cs] (rI (zj c)) := by
 refine PC.begin Tryz.func48 Y (by kernel_rfl) ?_; have hl := ho.2.2.2.2; refine xb Y ?_ ?_ <;> intro b0
 refine xj (k := 30) Y ?_; refine xv Y Y Y ?_; rotate_left; refine xj (k := 4) Y ?_; refine xb Y ?_ ?_ <;> intro b1
 refine xj (k := 25) Y ?_; refine xv Y Y Y ?_; rotate_left; refine xj (k := 4) Y ?_; refine xb Y ?_ ?_ <;> intro b2
 refine xj (k := 20) Y ?_; refine xv Y Y Y ?_; rotate_left; refine xj (k := 4) Y ?_; refine xb Y ?_ ?_ <;> intro b3
 refine xj (k := 15) Y ?_; refine xv Y Y Y ?_; rotate_left; refine xj (k := 4) Y ?_; refine xb Y ?_ ?_ <;> intro b4
 refine xj (k := 10) Y ?_; refine xv Y Y Y ?_; rotate_left; refine xj (k := 4) Y ?_; refine xb Y ?_ ?_ <;> intro b5
 refine xj (k := 5) Y ?_; refine xv Y Y Y ?_; rotate_left; refine xj (k := 4) Y ?_; refine xb Y ?_ ?_ <;> intro b6
 refine xv Y Y Y ?_; rotate_left; refine z7 Y (q9g c ho) Y ⟨tv6, trivial⟩ ?_; refine xb Y ?_ ?_ <;> intro b7
 refine xv Y Y Y ?_; rotate_left; refine z7 Y (z9i c ho) Y ⟨tv6, trivial⟩ ?_; refine xb Y ?_ ?_ <;> intro b8
 refine xv Y Y Y ?_; rotate_left; refine z7 Y (z9g c ho) Y ⟨tv6, trivial⟩ ?_; refine xb Y ?_ ?_ <;> intro b9
 refine xv Y Y Y ?_; rotate_left; refine z7 Y (y9h c ho) Y ⟨tv6, trivial⟩ ?_; refine xb Y ?_ ?_ <;> intro b10
 refine xv Y Y Y ?_; rotate_left; rotate_left
 all_goals first
  | (refine vi (q9t (y0e.2 ?_)).symm; clear ho; (simp only [List.length_map, Go.Sx.within, gt_iff_lt, ge_iff_le] at *; simp at *; omega); done)
  | (refine vi ?_
     have hm : ¬ z0q c = true := fun h => by rw [y0e] at h; clear ho; (simp only [List.length_map, Go.Sx.within, gt_iff_lt, ge_iff_le] at *; simp at *; omega)
     rw [q91 hm]; clear hm ho
     simp_all
     done)
  | skip
 have hm : ¬ z0q c = true := fun h => by rw [y0e] at h; clear ho; (simp only [List.length_map, Go.Sx.within, gt_iff_lt, ge_iff_le] at *; simp at *; omega)
 rw [q91 hm, if_neg (by simp_all), if_neg (by simp_all), if_neg (by simp_all), if_neg (by simp_all)]; refine qc Y (ι := Nat) (fun i => i ≤ c.msgs.length ∧ ∀ j, j < i → y4o c j = 0) (fun i => ⟨[(7, sV (.int .i64 i)), (1, .one (.a 1 0))], [(1, .var (c.cs.map .b))]⟩) (fun i => c.msgs.length - i) 0 ⟨Nat.zero_le _, fun j hj => by omega⟩ ?_ ?_
 · exact ⟨⟨Y, I, trivial⟩, ⟨lcr, trivial⟩, Y⟩
 · intro i ⟨hi, h0⟩ J hJ
   refine xb Y ?_ ?_ <;> intro h
   · have h : i < c.msgs.length := by simpa using h
     obtain ⟨m, hx⟩ := gx h; have hg := gm Msg.cs hx; have hF : y4o c i = z0j c m := by unfold y4o; rw [hx]
     refine xs Y (nn_ _) (y9 Y _ hg (xs Y Y (z7 Y (yaq c ho m) Y ⟨tv6, tv10, trivial⟩ ?_))); refine xb Y ?_ ?_ <;> intro b0
     refine xv Y Y Y ?_; rotate_left; rotate_left
     · exact vi (q8 h h0 hF (by simpa using b0))
     · exact q9 Y (hJ _ (i + 1) ⟨by omega, zc h0 (hF.trans (by simpa using b0))⟩ (by omega) ⟨⟨cwi (by omega) (by omega) (by omega), I, trivial⟩, ⟨lcr, trivial⟩, Y⟩)
   · have h : ¬ i < c.msgs.length := by simpa using h
     have hz := zg (f := y4o c) (n := c.msgs.length) (fun j hj => h0 j (by omega)); refine xv Y Y Y ?_; exact vi (hz.symm)
end Go.Proofs.YtjdiongbbijdpaaGreat
end
section
namespace Go.Proofs.YtjdiongbbijdpaaGreat
open Go Go.Sx
set_option maxRecDepth 20000
set_option maxHeartbeats 4000000
open Go.Proofs Go.Shelf Go.RowKit Go.Lib Go.Sort
abbrev vid : Value → Value := fun v => v
theorem yba {w : World} {base : Nat} {e : TypeId} {g n cap sz : Nat} {xs : List Value} (h : w.ownsRow base e sz (.slice (some ⟨g, 0, none⟩) n cap) n xs) : Holds vid w g 0 xs.toArray ∧ n ≤ cap ∧ cap ≤ maxLen ∧ g < w.heap.size := by
 rcases h.2 with ⟨e0, _⟩ | ⟨g', cap', cur, e0, hb, hg, hn, hm, hs, ht⟩
 · cases e0
 · injection e0 with e1 _ e3
   injection e1 with e1
   injection e1 with e1
   subst e1; subst e3; have hl := h.1; refine ⟨fun j hj => ⟨?_, by simp [World.frozen?, hg]⟩, hn, hm, ?_⟩
   · have hj' : j < xs.length := by simpa using hj
     have h1 : xs[j]? = cur[j]? := by rw [← ht, List.getElem?_take, if_pos (by omega), Array.getElem?_toList]
     have hcj : j < cur.size := by
      have : n * sz ≤ cap * sz := Nat.mul_le_mul_right _ hn; omega
     simp only [World.cell?, hg, Nat.zero_add]; rw [List.getElem?_eq_getElem hj', Array.getElem?_eq_getElem hcj] at h1; simp only [Option.some.injEq] at h1; simp [hj', hcj, ← h1, getElem!_pos]
   · rcases Nat.lt_or_ge g w.heap.size with h' | h'
     · exact h'
     · rw [Array.getElem?_eq_none h'] at hg; cases hg
theorem y5d {w : World} {base : Nat} {e : TypeId} {g n cap q k sz : Nat} {xs ys : List Value} (h : w.ownsRow base e sz (.slice (some ⟨g, 0, none⟩) n cap) n xs) (hy : ys.length = n * sz) (hk : k ≤ n) :
 (putRow vid (Sort.ahead w q) g 0 ys.toArray).ownsRow base e sz (.slice (some ⟨g, 0, none⟩) k cap) k (ys.take (k * sz)) := by
 rcases h.2 with ⟨e0, _⟩ | ⟨g', cap', cur, e0, hb, hg, hn, hm, hs, ht⟩
 · cases e0
 · injection e0 with e1 _ e3
   injection e1 with e1
   injection e1 with e1
   subst e1; subst e3; have hkn : k * sz ≤ n * sz := Nat.mul_le_mul_right _ hk; have hnc : n * sz ≤ cap * sz := Nat.mul_le_mul_right _ hn; refine ⟨by simp; omega, .inr ⟨g, cap, Go.Sort.putCells vid 0 ys.toArray cur, Y, hb, ?_, by omega, hm, by simpa [Go.Sort.putCells] using hs, ?_⟩⟩
   · simp [Go.Sort.putRow, Go.Sort.mapBlock, Go.Sort.ahead, Array.getElem?_modify, hg, Go.Sort.onCells]
   · apply List.ext_getElem?
     intro j; rw [List.getElem?_take, List.getElem?_take, Array.getElem?_toList]; by_cases hj : j < k * sz
     · have hjc : j < cur.size := by omega
       simp only [if_pos hj, Go.Sort.putCells, Array.getElem?_mapIdx, Array.getElem?_eq_getElem hjc, Option.map_some]; rw [if_pos (by simp; omega), List.getElem?_eq_getElem (by omega)]; simp [getElem!_pos, show j < ys.length by omega]
     · simp [hj]
end Go.Proofs.YtjdiongbbijdpaaGreat
end
section
namespace Go.Proofs.YtjdiongbbijdpaaGreat
open Go Go.Sx
set_option maxRecDepth 20000
theorem q93 (x0 : Int) (x1 : Int) (x2 : Int) (x3 : Int) (y0 : Int) (y1 : Int) (y2 : Int) (y3 : Int)   : PC Tryz.prog 98 [.agg [.s (.int .i64 x0), .s (.int .i64 x1), .s (.int .i64 x2), .s (.int .i64 x3)], .agg [.s (.int .i64 y0), .s (.int .i64 y1), .s (.int .i64 y2), .s (.int .i64 y3)]] (rB (dE (α := List Cell) [.s (.int .i64 x0), .s (.int .i64 x1), .s (.int .i64 x2), .s (.int .i64 x3)] [.s (.int .i64 y0), .s (.int .i64 y1), .s (.int .i64 y2), .s (.int .i64 y3)])) := by
 refine PC.begin Tryz.func98 Y (by kernel_rfl) ?_; refine xb Y (fun h => ?_) (fun e0 => ?_)
 · exact xv Y Y Y (ql (fun e => by simp only [List.cons.injEq, Cell.s.injEq, Value.int.injEq, Value.bool.injEq, Value.string.injEq] at e; simp [e] at h))
 have e0 : x0 = y0 := by simpa using e0
 refine xb Y (fun h => ?_) (fun e1 => ?_)
 · exact xv Y Y Y (ql (fun e => by simp only [List.cons.injEq, Cell.s.injEq, Value.int.injEq, Value.bool.injEq, Value.string.injEq] at e; simp [e] at h))
 have e1 : x1 = y1 := by simpa using e1
 refine xb Y (fun h => ?_) (fun e2 => ?_)
 · exact xv Y Y Y (ql (fun e => by simp only [List.cons.injEq, Cell.s.injEq, Value.int.injEq, Value.bool.injEq, Value.string.injEq] at e; simp [e] at h))
 have e2 : x2 = y2 := by simpa using e2
 refine xb Y (fun h => ?_) (fun e3 => ?_)
 · exact xv Y Y Y (ql (fun e => by simp only [List.cons.injEq, Cell.s.injEq, Value.int.injEq, Value.bool.injEq, Value.string.injEq] at e; simp [e] at h))
 have e3 : x3 = y3 := by simpa using e3
 exact xv Y Y Y (zy (by simp [e0, e1, e2, e3]))
theorem y7w (p q : List (List Cell)) (hp : WR 9000000000000000000 qs p) (hq : WR 9000000000000000000 qs q) : PC Tryz.prog 32 [.one (.l p), .one (.l q)] (rB (dE p q)) := by
 refine PC.begin Tryz.func32 Y (by kernel_rfl) ?_; have hpl := hp.1; have hql := hq.1; refine xb Y ?_ ?_ <;> intro h
 · exact xv Y Y Y (ql (fun e => by subst e; simp at h))
 have hl : p.length = q.length := by simpa [Int.ofNat_inj] using h
 refine qc Y (ι := Nat) (fun i => i ≤ p.length ∧ p.take i = q.take i) (fun i => ⟨[(5, sV (.int .i64 i)), (0, .one (.b (.l p))), (1, .one (.b (.l q)))], []⟩) (fun i => p.length - i) 0 ⟨Nat.zero_le _, Y⟩ ?_ ?_
 · repeat' (first | exact trivial | exact Y | exact Or.inl Y | refine And.intro ?_ ?_)
 · intro i ⟨hi, he⟩ J hJ
   refine xb Y ?_ ?_ <;> intro h
   · have h : i < p.length := by simpa using h
     obtain ⟨row, hg⟩ := gx h; obtain ⟨row', hg'⟩ : ∃ row, q[i]? = some row := ⟨_, List.getElem?_eq_getElem (by omega)⟩
     obtain ⟨x0, x1, x2, x3, rfl⟩ := z1z (hp.2 row (List.mem_of_getElem? hg)); obtain ⟨y0, y1, y2, y3, rfl⟩ := z1z (hq.2 row' (List.mem_of_getElem? hg')); refine yb Y [] (Tk [0, 1, 2] (.take 3 [8, 9] (Tk [4, 5, 6] (.take 7 [8, 9] (.alt 8 (.take 9 [] .done) .nil))))) (by kernel_rfl) ?_; refine xs Y (nn_ _) (y9 Y _ hg (xs Y Y ?_)); refine xs Y (nn_ _) (y9 Y _ hg' (xs Y Y ?_)); refine z7 Y (q93 _ _ _ _ _ _ _ _) Y ⟨tv5, tv5, trivial⟩ ?_; refine xb Y ?_ ?_ <;> intro hb
     · exact xv Y Y Y (ql (fun e => by subst e; rw [hg] at hg'; cases hg'; exact z08 hb rfl))
     · have hb := q07 hb
       refine q9 Y (hJ _ (i + 1) ⟨by omega, yq he hg (hg'.trans (by rw [hb]))⟩ (by omega) ?_)
       repeat' (first | exact trivial | exact Y | exact Or.inl Y | exact cwi (by omega) (by omega) (by omega) | refine And.intro ?_ ?_)
   · have h : ¬ i < p.length := by simpa using h
     exact xv Y Y Y (zy (by rw [show i = p.length by omega, List.take_length] at he; rw [he, hl, List.take_length]))
theorem y26 (x0 : Int) (x1 : List (List Cell)) (y0 : Int) (y1 : List (List Cell)) (h1 : WR 9000000000000000000 qs x1) (k1 : WR 9000000000000000000 qs y1) : PC Tryz.prog 17 [.agg [.s (.int .i64 x0), .l x1], .agg [.s (.int .i64 y0), .l y1]] (rB (dE (α := List Cell) [.s (.int .i64 x0), .l x1] [.s (.int .i64 y0), .l y1])) := by
 refine PC.begin Tryz.func17 Y (by kernel_rfl) ?_; refine xb Y (fun h => ?_) (fun e0 => ?_)
 · exact xv Y Y Y (ql (fun e => by simp only [List.cons.injEq, Cell.s.injEq, Value.int.injEq, Value.bool.injEq, Value.string.injEq] at e; simp [e] at h))
 have e0 : x0 = y0 := by simpa using e0
 refine z7 Y (y7w _ _ h1 k1) Y tv3 ?_; refine xb Y (fun h => ?_) (fun e1 => ?_)
 · exact xv Y Y Y (ql (fun e => z08 h (by simp only [List.cons.injEq, Cell.l.injEq] at e ⊢; simp only [e]; try trivial)))
 have e1 := q07 e1; exact xv Y Y Y (zy (by simp [e0, e1]))
theorem y1u (p q : List (List Cell)) (hp : WR 9000000000000000000 q7 p) (hq : WR 9000000000000000000 q7 q) : PC Tryz.prog 66 [.one (.l p), .one (.l q)] (rB (dE p q)) := by
 refine PC.begin Tryz.func66 Y (by kernel_rfl) ?_; have hpl := hp.1; have hql := hq.1; refine xb Y ?_ ?_ <;> intro h
 · exact xv Y Y Y (ql (fun e => by subst e; simp at h))
 have hl : p.length = q.length := by simpa [Int.ofNat_inj] using h
 refine qc Y (ι := Nat) (fun i => i ≤ p.length ∧ p.take i = q.take i) (fun i => ⟨[(5, sV (.int .i64 i)), (0, .one (.b (.l p))), (1, .one (.b (.l q)))], []⟩) (fun i => p.length - i) 0 ⟨Nat.zero_le _, Y⟩ ?_ ?_
 · repeat' (first | exact trivial | exact Y | exact Or.inl Y | refine And.intro ?_ ?_)
 · intro i ⟨hi, he⟩ J hJ
   refine xb Y ?_ ?_ <;> intro h
   · have h : i < p.length := by simpa using h
     obtain ⟨row, hg⟩ := gx h; obtain ⟨row', hg'⟩ : ∃ row, q[i]? = some row := ⟨_, List.getElem?_eq_getElem (by omega)⟩
     obtain ⟨x0, x1, rfl, h1⟩ := yu (hp.2 row (List.mem_of_getElem? hg)); obtain ⟨y0, y1, rfl, k1⟩ := yu (hq.2 row' (List.mem_of_getElem? hg')); refine yb Y [] (Tk [0, 1, 2] (.take 3 [8, 9] (Tk [4, 5, 6] (.take 7 [8, 9] (.alt 8 (.take 9 [] .done) .nil))))) (by kernel_rfl) ?_; refine xs Y (nn_ _) (y9 Y _ hg (xs Y Y ?_)); refine xs Y (nn_ _) (y9 Y _ hg' (xs Y Y ?_)); refine z7 Y (y26 _ _ _ _ h1 k1) Y ⟨tv3, tv3, trivial⟩ ?_; refine xb Y ?_ ?_ <;> intro hb
     · exact xv Y Y Y (ql (fun e => by subst e; rw [hg] at hg'; cases hg'; exact z08 hb rfl))
     · have hb := q07 hb
       refine q9 Y (hJ _ (i + 1) ⟨by omega, yq he hg (hg'.trans (by rw [hb]))⟩ (by omega) ?_)
       repeat' (first | exact trivial | exact Y | exact Or.inl Y | exact cwi (by omega) (by omega) (by omega) | refine And.intro ?_ ?_)
   · have h : ¬ i < p.length := by simpa using h
     exact xv Y Y Y (zy (by rw [show i = p.length by omega, List.take_length] at he; rw [he, hl, List.take_length]))
theorem y53 (x0 : Int) (x1 : Int) (x2 : Int) (y0 : Int) (y1 : Int) (y2 : Int)   : PC Tryz.prog 336 [.agg [.s (.int .i64 x0), .s (.int .i64 x1), .s (.int .i64 x2)], .agg [.s (.int .i64 y0), .s (.int .i64 y1), .s (.int .i64 y2)]] (rB (dE (α := List Cell) [.s (.int .i64 x0), .s (.int .i64 x1), .s (.int .i64 x2)] [.s (.int .i64 y0), .s (.int .i64 y1), .s (.int .i64 y2)])) := by
 refine PC.begin Tryz.func336 Y (by kernel_rfl) ?_; refine xb Y (fun h => ?_) (fun e0 => ?_)
 · exact xv Y Y Y (ql (fun e => by simp only [List.cons.injEq, Cell.s.injEq, Value.int.injEq, Value.bool.injEq, Value.string.injEq] at e; simp [e] at h))
 have e0 : x0 = y0 := by simpa using e0
 refine xb Y (fun h => ?_) (fun e1 => ?_)
 · exact xv Y Y Y (ql (fun e => by simp only [List.cons.injEq, Cell.s.injEq, Value.int.injEq, Value.bool.injEq, Value.string.injEq] at e; simp [e] at h))
 have e1 : x1 = y1 := by simpa using e1
 refine xb Y (fun h => ?_) (fun e2 => ?_)
 · exact xv Y Y Y (ql (fun e => by simp only [List.cons.injEq, Cell.s.injEq, Value.int.injEq, Value.bool.injEq, Value.string.injEq] at e; simp [e] at h))
 have e2 : x2 = y2 := by simpa using e2
 exact xv Y Y Y (zy (by simp [e0, e1, e2]))
theorem q4e (p q : List (List Cell)) (hp : WR 9000000000000000000 qd p) (hq : WR 9000000000000000000 qd q) : PC Tryz.prog 241 [.one (.l p), .one (.l q)] (rB (dE p q)) := by
 refine PC.begin Tryz.func241 Y (by kernel_rfl) ?_; have hpl := hp.1; have hql := hq.1; refine xb Y ?_ ?_ <;> intro h
 · exact xv Y Y Y (ql (fun e => by subst e; simp at h))
 have hl : p.length = q.length := by simpa [Int.ofNat_inj] using h
 refine qc Y (ι := Nat) (fun i => i ≤ p.length ∧ p.take i = q.take i) (fun i => ⟨[(5, sV (.int .i64 i)), (0, .one (.b (.l p))), (1, .one (.b (.l q)))], []⟩) (fun i => p.length - i) 0 ⟨Nat.zero_le _, Y⟩ ?_ ?_
 · repeat' (first | exact trivial | exact Y | exact Or.inl Y | refine And.intro ?_ ?_)
 · intro i ⟨hi, he⟩ J hJ
   refine xb Y ?_ ?_ <;> intro h
   · have h : i < p.length := by simpa using h
     obtain ⟨row, hg⟩ := gx h; obtain ⟨row', hg'⟩ : ∃ row, q[i]? = some row := ⟨_, List.getElem?_eq_getElem (by omega)⟩
     obtain ⟨x0, x1, x2, rfl⟩ := y09 (hp.2 row (List.mem_of_getElem? hg)); obtain ⟨y0, y1, y2, rfl⟩ := y09 (hq.2 row' (List.mem_of_getElem? hg')); refine yb Y [] (Tk [0, 1, 2] (.take 3 [8, 9] (Tk [4, 5, 6] (.take 7 [8, 9] (.alt 8 (.take 9 [] .done) .nil))))) (by kernel_rfl) ?_; refine xs Y (nn_ _) (y9 Y _ hg (xs Y Y ?_)); refine xs Y (nn_ _) (y9 Y _ hg' (xs Y Y ?_)); refine z7 Y (y53 _ _ _ _ _ _) Y ⟨tv4, tv4, trivial⟩ ?_; refine xb Y ?_ ?_ <;> intro hb
     · exact xv Y Y Y (ql (fun e => by subst e; rw [hg] at hg'; cases hg'; exact z08 hb rfl))
     · have hb := q07 hb
       refine q9 Y (hJ _ (i + 1) ⟨by omega, yq he hg (hg'.trans (by rw [hb]))⟩ (by omega) ?_)
       repeat' (first | exact trivial | exact Y | exact Or.inl Y | exact cwi (by omega) (by omega) (by omega) | refine And.intro ?_ ?_)
   · have h : ¬ i < p.length := by simpa using h
     exact xv Y Y Y (zy (by rw [show i = p.length by omega, List.take_length] at he; rw [he, hl, List.take_length]))
theorem q7w (x0 : Int) (x1 : Int) (y0 : Int) (y1 : Int)   : PC Tryz.prog 337 [.agg [.s (.int .i64 x0), .s (.int .i64 x1)], .agg [.s (.int .i64 y0), .s (.int .i64 y1)]] (rB (dE (α := List Cell) [.s (.int .i64 x0), .s (.int .i64 x1)] [.s (.int .i64 y0), .s (.int .i64 y1)])) := by
 refine PC.begin Tryz.func337 Y (by kernel_rfl) ?_; refine xb Y (fun h => ?_) (fun e0 => ?_)
 · exact xv Y Y Y (ql (fun e => by simp only [List.cons.injEq, Cell.s.injEq, Value.int.injEq, Value.bool.injEq, Value.string.injEq] at e; simp [e] at h))
 have e0 : x0 = y0 := by simpa using e0
 refine xb Y (fun h => ?_) (fun e1 => ?_)
 · exact xv Y Y Y (ql (fun e => by simp only [List.cons.injEq, Cell.s.injEq, Value.int.injEq, Value.bool.injEq, Value.string.injEq] at e; simp [e] at h))
 have e1 : x1 = y1 := by simpa using e1
 exact xv Y Y Y (zy (by simp [e0, e1]))
theorem z40 (p q : List (List Cell)) (hp : WR 9000000000000000000 zh p) (hq : WR 9000000000000000000 zh q) : PC Tryz.prog 242 [.one (.l p), .one (.l q)] (rB (dE p q)) := by
 refine PC.begin Tryz.func242 Y (by kernel_rfl) ?_; have hpl := hp.1; have hql := hq.1; refine xb Y ?_ ?_ <;> intro h
 · exact xv Y Y Y (ql (fun e => by subst e; simp at h))
 have hl : p.length = q.length := by simpa [Int.ofNat_inj] using h
 refine qc Y (ι := Nat) (fun i => i ≤ p.length ∧ p.take i = q.take i) (fun i => ⟨[(5, sV (.int .i64 i)), (0, .one (.b (.l p))), (1, .one (.b (.l q)))], []⟩) (fun i => p.length - i) 0 ⟨Nat.zero_le _, Y⟩ ?_ ?_
 · repeat' (first | exact trivial | exact Y | exact Or.inl Y | refine And.intro ?_ ?_)
 · intro i ⟨hi, he⟩ J hJ
   refine xb Y ?_ ?_ <;> intro h
   · have h : i < p.length := by simpa using h
     obtain ⟨row, hg⟩ := gx h; obtain ⟨row', hg'⟩ : ∃ row, q[i]? = some row := ⟨_, List.getElem?_eq_getElem (by omega)⟩
     obtain ⟨x0, x1, rfl⟩ := z19 (hp.2 row (List.mem_of_getElem? hg)); obtain ⟨y0, y1, rfl⟩ := z19 (hq.2 row' (List.mem_of_getElem? hg')); refine yb Y [] (Tk [0, 1, 2] (.take 3 [8, 9] (Tk [4, 5, 6] (.take 7 [8, 9] (.alt 8 (.take 9 [] .done) .nil))))) (by kernel_rfl) ?_; refine xs Y (nn_ _) (y9 Y _ hg (xs Y Y ?_)); refine xs Y (nn_ _) (y9 Y _ hg' (xs Y Y ?_)); refine z7 Y (q7w _ _ _ _) Y ⟨tv3, tv3, trivial⟩ ?_; refine xb Y ?_ ?_ <;> intro hb
     · exact xv Y Y Y (ql (fun e => by subst e; rw [hg] at hg'; cases hg'; exact z08 hb rfl))
     · have hb := q07 hb
       refine q9 Y (hJ _ (i + 1) ⟨by omega, yq he hg (hg'.trans (by rw [hb]))⟩ (by omega) ?_)
       repeat' (first | exact trivial | exact Y | exact Or.inl Y | exact cwi (by omega) (by omega) (by omega) | refine And.intro ?_ ?_)
   · have h : ¬ i < p.length := by simpa using h
     exact xv Y Y Y (zy (by rw [show i = p.length by omega, List.take_length] at he; rw [he, hl, List.take_length]))
theorem y37 (p q : List (List Cell)) (hp : WR 9000000000000000000 (.i .i64 .nil) p) (hq : WR 9000000000000000000 (.i .i64 .nil) q) : PC Tryz.prog 180 [.one (.l p), .one (.l q)] (rB (dE p q)) := by
 refine PC.begin Tryz.func180 Y (by kernel_rfl) ?_; have hpl := hp.1; have hql := hq.1; refine xb Y ?_ ?_ <;> intro h
 · exact xv Y Y Y (ql (fun e => by subst e; simp at h))
 have hl : p.length = q.length := by simpa [Int.ofNat_inj] using h
 refine qc Y (ι := Nat) (fun i => i ≤ p.length ∧ p.take i = q.take i) (fun i => ⟨[(5, sV (.int .i64 i)), (0, .one (.b (.l p))), (1, .one (.b (.l q)))], []⟩) (fun i => p.length - i) 0 ⟨Nat.zero_le _, Y⟩ ?_ ?_
 · repeat' (first | exact trivial | exact Y | exact Or.inl Y | refine And.intro ?_ ?_)
 · intro i ⟨hi, he⟩ J hJ
   refine xb Y ?_ ?_ <;> intro h
   · have h : i < p.length := by simpa using h
     obtain ⟨row, hg⟩ := gx h; obtain ⟨row', hg'⟩ : ∃ row, q[i]? = some row := ⟨_, List.getElem?_eq_getElem (by omega)⟩
     obtain ⟨x0, _, rfl, hnil⟩ := ((hp.2 row (List.mem_of_getElem? hg))).yy; obtain rfl := hnil.q00; obtain ⟨y0, _, rfl, knil⟩ := ((hq.2 row' (List.mem_of_getElem? hg'))).yy; obtain rfl := knil.q00; refine yb Y [] (Tk [0, 1, 2] (.take 3 [8] (Tk [4, 5, 6] (.take 7 [8] (.take 8 [] .done))))) (by kernel_rfl) ?_; refine xs Y (nn_ _) (y9 Y _ hg (xs Y Y ?_)); refine xs Y (nn_ _) (y9 Y _ hg' (xs Y Y ?_)); refine xb Y ?_ ?_ <;> intro hb
     · exact xv Y Y Y (ql (fun e => by subst e; rw [hg] at hg'; cases hg'; simp at hb))
     · have hb : x0 = y0 := by simpa using hb
       refine q9 Y (hJ _ (i + 1) ⟨by omega, yq he hg (hg'.trans (by rw [hb]))⟩ (by omega) ?_)
       repeat' (first | exact trivial | exact Y | exact Or.inl Y | exact cwi (by omega) (by omega) (by omega) | refine And.intro ?_ ?_)
   · have h : ¬ i < p.length := by simpa using h
     exact xv Y Y Y (zy (by rw [show i = p.length by omega, List.take_length] at he; rw [he, hl, List.take_length]))
theorem y72 (x0 : Int) (x1 : List (List Cell)) (x2 : List (List Cell)) (x3 : List (List Cell)) (x4 : List (List Cell)) (x5 : List (List Cell)) (y0 : Int) (y1 : List (List Cell)) (y2 : List (List Cell)) (y3 : List (List Cell)) (y4 : List (List Cell)) (y5 : List (List Cell)) (h1 : WR 9000000000000000000 qd x1) (h2 : WR 9000000000000000000 zh x2) (h3 : WR 9000000000000000000 q7 x3) (h4 : WR 9000000000000000000 zh x4) (h5 : WR 9000000000000000000 (.i .i64 .nil) x5) (k1 : WR 9000000000000000000 qd y1) (k2 : WR 9000000000000000000 zh y2) (k3 : WR 9000000000000000000 q7 y3) (k4 : WR 9000000000000000000 zh y4) (k5 : WR 9000000000000000000 (.i .i64 .nil) y5) : PC Tryz.prog 138 [.agg [.s (.int .i64 x0), .l x1, .l x2, .l x3, .l x4, .l x5], .agg [.s (.int .i64 y0), .l y1, .l y2, .l y3, .l y4, .l y5]] (rB (dE (α := List Cell) [.s (.int .i64 x0), .l x1, .l x2, .l x3, .l x4, .l x5] [.s (.int .i64 y0), .l y1, .l y2, .l y3, .l y4, .l y5])) := by
 refine PC.begin Tryz.func138 Y (by kernel_rfl) ?_; refine xb Y (fun h => ?_) (fun e0 => ?_)
 · exact xv Y Y Y (ql (fun e => by simp only [List.cons.injEq, Cell.s.injEq, Value.int.injEq, Value.bool.injEq, Value.string.injEq] at e; simp [e] at h))
 have e0 : x0 = y0 := by simpa using e0
 refine z7 Y (q4e _ _ h1 k1) Y tv3 ?_; refine xb Y (fun h => ?_) (fun e1 => ?_)
 · exact xv Y Y Y (ql (fun e => z08 h (by simp only [List.cons.injEq, Cell.l.injEq] at e ⊢; simp only [e]; try trivial)))
 have e1 := q07 e1; refine z7 Y (z40 _ _ h2 k2) Y tv3 ?_; refine xb Y (fun h => ?_) (fun e2 => ?_)
 · exact xv Y Y Y (ql (fun e => z08 h (by simp only [List.cons.injEq, Cell.l.injEq] at e ⊢; simp only [e]; try trivial)))
 have e2 := q07 e2; refine z7 Y (y1u _ _ h3 k3) Y tv3 ?_; refine xb Y (fun h => ?_) (fun e3 => ?_)
 · exact xv Y Y Y (ql (fun e => z08 h (by simp only [List.cons.injEq, Cell.l.injEq] at e ⊢; simp only [e]; try trivial)))
 have e3 := q07 e3; refine z7 Y (z40 _ _ h4 k4) Y tv3 ?_; refine xb Y (fun h => ?_) (fun e4 => ?_)
 · exact xv Y Y Y (ql (fun e => z08 h (by simp only [List.cons.injEq, Cell.l.injEq] at e ⊢; simp only [e]; try trivial)))
 have e4 := q07 e4; refine z7 Y (y37 _ _ h5 k5) Y tv3 ?_; refine xb Y (fun h => ?_) (fun e5 => ?_)
 · exact xv Y Y Y (ql (fun e => z08 h (by simp only [List.cons.injEq, Cell.l.injEq] at e ⊢; simp only [e]; try trivial)))
 have e5 := q07 e5; exact xv Y Y Y (zy (by simp [e0, e1, e2, e3, e4, e5]))
theorem z5u (p q : List (List Cell)) (hp : WR 9000000000000000000 zb p) (hq : WR 9000000000000000000 zb q) : PC Tryz.prog 67 [.one (.l p), .one (.l q)] (rB (dE p q)) := by
 refine PC.begin Tryz.func67 Y (by kernel_rfl) ?_; have hpl := hp.1; have hql := hq.1; refine xb Y ?_ ?_ <;> intro h
 · exact xv Y Y Y (ql (fun e => by subst e; simp at h))
 have hl : p.length = q.length := by simpa [Int.ofNat_inj] using h
 refine qc Y (ι := Nat) (fun i => i ≤ p.length ∧ p.take i = q.take i) (fun i => ⟨[(5, sV (.int .i64 i)), (0, .one (.b (.l p))), (1, .one (.b (.l q)))], []⟩) (fun i => p.length - i) 0 ⟨Nat.zero_le _, Y⟩ ?_ ?_
 · repeat' (first | exact trivial | exact Y | exact Or.inl Y | refine And.intro ?_ ?_)
 · intro i ⟨hi, he⟩ J hJ
   refine xb Y ?_ ?_ <;> intro h
   · have h : i < p.length := by simpa using h
     obtain ⟨row, hg⟩ := gx h; obtain ⟨row', hg'⟩ : ∃ row, q[i]? = some row := ⟨_, List.getElem?_eq_getElem (by omega)⟩
     obtain ⟨x0, x1, x2, x3, x4, x5, rfl, h1, h2, h3, h4, h5⟩ := y0r (hp.2 row (List.mem_of_getElem? hg)); obtain ⟨y0, y1, y2, y3, y4, y5, rfl, k1, k2, k3, k4, k5⟩ := y0r (hq.2 row' (List.mem_of_getElem? hg')); refine yb Y [] (Tk [0, 1, 2] (.take 3 [8, 9] (Tk [4, 5, 6] (.take 7 [8, 9] (.alt 8 (.take 9 [] .done) .nil))))) (by kernel_rfl) ?_; refine xs Y (nn_ _) (y9 Y _ hg (xs Y Y ?_)); refine xs Y (nn_ _) (y9 Y _ hg' (xs Y Y ?_)); refine z7 Y (y72 _ _ _ _ _ _ _ _ _ _ _ _ h1 h2 h3 h4 h5 k1 k2 k3 k4 k5) Y ⟨tv7, tv7, trivial⟩ ?_; refine xb Y ?_ ?_ <;> intro hb
     · exact xv Y Y Y (ql (fun e => by subst e; rw [hg] at hg'; cases hg'; exact z08 hb rfl))
     · have hb := q07 hb
       refine q9 Y (hJ _ (i + 1) ⟨by omega, yq he hg (hg'.trans (by rw [hb]))⟩ (by omega) ?_)
       repeat' (first | exact trivial | exact Y | exact Or.inl Y | exact cwi (by omega) (by omega) (by omega) | refine And.intro ?_ ?_)
   · have h : ¬ i < p.length := by simpa using h
     exact xv Y Y Y (zy (by rw [show i = p.length by omega, List.take_length] at he; rw [he, hl, List.take_length]))
theorem q37 (x0 : Int) (x1 : Int) (y0 : Int) (y1 : Int)   : PC Tryz.prog 246 [.agg [.s (.int .i64 x0), .s (.int .i64 x1)], .agg [.s (.int .i64 y0), .s (.int .i64 y1)]] (rB (dE (α := List Cell) [.s (.int .i64 x0), .s (.int .i64 x1)] [.s (.int .i64 y0), .s (.int .i64 y1)])) := by
 refine PC.begin Tryz.func246 Y (by kernel_rfl) ?_; refine xb Y (fun h => ?_) (fun e0 => ?_)
 · exact xv Y Y Y (ql (fun e => by simp only [List.cons.injEq, Cell.s.injEq, Value.int.injEq, Value.bool.injEq, Value.string.injEq] at e; simp [e] at h))
 have e0 : x0 = y0 := by simpa using e0
 refine xb Y (fun h => ?_) (fun e1 => ?_)
 · exact xv Y Y Y (ql (fun e => by simp only [List.cons.injEq, Cell.s.injEq, Value.int.injEq, Value.bool.injEq, Value.string.injEq] at e; simp [e] at h))
 have e1 : x1 = y1 := by simpa using e1
 exact xv Y Y Y (zy (by simp [e0, e1]))
theorem y40 (p q : List (List Cell)) (hp : WR 9000000000000000000 yl p) (hq : WR 9000000000000000000 yl q) : PC Tryz.prog 414 [.one (.l p), .one (.l q)] (rB (dE p q)) := by
 refine PC.begin Tryz.func414 Y (by kernel_rfl) ?_; have hpl := hp.1; have hql := hq.1; refine xb Y ?_ ?_ <;> intro h
 · exact xv Y Y Y (ql (fun e => by subst e; simp at h))
 have hl : p.length = q.length := by simpa [Int.ofNat_inj] using h
 refine qc Y (ι := Nat) (fun i => i ≤ p.length ∧ p.take i = q.take i) (fun i => ⟨[(5, sV (.int .i64 i)), (0, .one (.b (.l p))), (1, .one (.b (.l q)))], []⟩) (fun i => p.length - i) 0 ⟨Nat.zero_le _, Y⟩ ?_ ?_
 · repeat' (first | exact trivial | exact Y | exact Or.inl Y | refine And.intro ?_ ?_)
 · intro i ⟨hi, he⟩ J hJ
   refine xb Y ?_ ?_ <;> intro h
   · have h : i < p.length := by simpa using h
     obtain ⟨row, hg⟩ := gx h; obtain ⟨row', hg'⟩ : ∃ row, q[i]? = some row := ⟨_, List.getElem?_eq_getElem (by omega)⟩
     obtain ⟨x0, x1, rfl⟩ := q19 (hp.2 row (List.mem_of_getElem? hg)); obtain ⟨y0, y1, rfl⟩ := q19 (hq.2 row' (List.mem_of_getElem? hg')); refine yb Y [] (Tk [0, 1, 2] (.take 3 [8, 9] (Tk [4, 5, 6] (.take 7 [8, 9] (.alt 8 (.take 9 [] .done) .nil))))) (by kernel_rfl) ?_; refine xs Y (nn_ _) (y9 Y _ hg (xs Y Y ?_)); refine xs Y (nn_ _) (y9 Y _ hg' (xs Y Y ?_)); refine z7 Y (q37 _ _ _ _) Y ⟨tv3, tv3, trivial⟩ ?_; refine xb Y ?_ ?_ <;> intro hb
     · exact xv Y Y Y (ql (fun e => by subst e; rw [hg] at hg'; cases hg'; exact z08 hb rfl))
     · have hb := q07 hb
       refine q9 Y (hJ _ (i + 1) ⟨by omega, yq he hg (hg'.trans (by rw [hb]))⟩ (by omega) ?_)
       repeat' (first | exact trivial | exact Y | exact Or.inl Y | exact cwi (by omega) (by omega) (by omega) | refine And.intro ?_ ?_)
   · have h : ¬ i < p.length := by simpa using h
     exact xv Y Y Y (zy (by rw [show i = p.length by omega, List.take_length] at he; rw [he, hl, List.take_length]))
theorem z7x (x0 : Int) (x1 : Int) (x2 : Int) (x3 : Int) (x4 : Int) (x5 : List (List Cell)) (y0 : Int) (y1 : Int) (y2 : Int) (y3 : Int) (y4 : Int) (y5 : List (List Cell)) (h5 : WR 9000000000000000000 yl x5) (k5 : WR 9000000000000000000 yl y5) : PC Tryz.prog 338 [.agg [.s (.int .i64 x0), .s (.int .i64 x1), .s (.int .i64 x2), .s (.int .i64 x3), .s (.int .i64 x4), .l x5], .agg [.s (.int .i64 y0), .s (.int .i64 y1), .s (.int .i64 y2), .s (.int .i64 y3), .s (.int .i64 y4), .l y5]] (rB (dE (α := List Cell) [.s (.int .i64 x0), .s (.int .i64 x1), .s (.int .i64 x2), .s (.int .i64 x3), .s (.int .i64 x4), .l x5] [.s (.int .i64 y0), .s (.int .i64 y1), .s (.int .i64 y2), .s (.int .i64 y3), .s (.int .i64 y4), .l y5])) := by
 refine PC.begin Tryz.func338 Y (by kernel_rfl) ?_; refine xb Y (fun h => ?_) (fun e0 => ?_)
 · exact xv Y Y Y (ql (fun e => by simp only [List.cons.injEq, Cell.s.injEq, Value.int.injEq, Value.bool.injEq, Value.string.injEq] at e; simp [e] at h))
 have e0 : x0 = y0 := by simpa using e0
 refine xb Y (fun h => ?_) (fun e1 => ?_)
 · exact xv Y Y Y (ql (fun e => by simp only [List.cons.injEq, Cell.s.injEq, Value.int.injEq, Value.bool.injEq, Value.string.injEq] at e; simp [e] at h))
 have e1 : x1 = y1 := by simpa using e1
 refine xb Y (fun h => ?_) (fun e2 => ?_)
 · exact xv Y Y Y (ql (fun e => by simp only [List.cons.injEq, Cell.s.injEq, Value.int.injEq, Value.bool.injEq, Value.string.injEq] at e; simp [e] at h))
 have e2 : x2 = y2 := by simpa using e2
 refine z7 Y (q37 _ _ _ _) Y ⟨tv3, tv3, trivial⟩ ?_; refine xb Y (fun h => ?_) (fun e3 => ?_)
 · exact xv Y Y Y (ql (fun e => z08 h (by simp only [List.cons.injEq, Cell.l.injEq] at e ⊢; simp only [e]; try trivial)))
 have e3 := q07 e3; simp only [List.cons.injEq, Cell.s.injEq, Cell.l.injEq, Value.int.injEq, Value.bool.injEq, and_true, true_and] at e3; refine z7 Y (y40 _ _ h5 k5) Y tv3 ?_; refine xb Y (fun h => ?_) (fun e5 => ?_)
 · exact xv Y Y Y (ql (fun e => z08 h (by simp only [List.cons.injEq, Cell.l.injEq] at e ⊢; simp only [e]; try trivial)))
 have e5 := q07 e5; exact xv Y Y Y (zy (by simp [e0, e1, e2, e3, e5]))
theorem q72 (p q : List (List Cell)) (hp : WR 9000000000000000000 zk p) (hq : WR 9000000000000000000 zk q) : PC Tryz.prog 243 [.one (.l p), .one (.l q)] (rB (dE p q)) := by
 refine PC.begin Tryz.func243 Y (by kernel_rfl) ?_; have hpl := hp.1; have hql := hq.1; refine xb Y ?_ ?_ <;> intro h
 · exact xv Y Y Y (ql (fun e => by subst e; simp at h))
 have hl : p.length = q.length := by simpa [Int.ofNat_inj] using h
 refine qc Y (ι := Nat) (fun i => i ≤ p.length ∧ p.take i = q.take i) (fun i => ⟨[(5, sV (.int .i64 i)), (0, .one (.b (.l p))), (1, .one (.b (.l q)))], []⟩) (fun i => p.length - i) 0 ⟨Nat.zero_le _, Y⟩ ?_ ?_
 · repeat' (first | exact trivial | exact Y | exact Or.inl Y | refine And.intro ?_ ?_)
 · intro i ⟨hi, he⟩ J hJ
   refine xb Y ?_ ?_ <;> intro h
   · have h : i < p.length := by simpa using h
     obtain ⟨row, hg⟩ := gx h; obtain ⟨row', hg'⟩ : ∃ row, q[i]? = some row := ⟨_, List.getElem?_eq_getElem (by omega)⟩
     obtain ⟨x0, x1, x2, x3, x4, x5, rfl, h5⟩ := y19 (hp.2 row (List.mem_of_getElem? hg)); obtain ⟨y0, y1, y2, y3, y4, y5, rfl, k5⟩ := y19 (hq.2 row' (List.mem_of_getElem? hg')); refine yb Y [] (Tk [0, 1, 2] (.take 3 [8, 9] (Tk [4, 5, 6] (.take 7 [8, 9] (.alt 8 (.take 9 [] .done) .nil))))) (by kernel_rfl) ?_; refine xs Y (nn_ _) (y9 Y _ hg (xs Y Y ?_)); refine xs Y (nn_ _) (y9 Y _ hg' (xs Y Y ?_)); refine z7 Y (z7x _ _ _ _ _ _ _ _ _ _ _ _ h5 k5) Y ⟨tv7, tv7, trivial⟩ ?_; refine xb Y ?_ ?_ <;> intro hb
     · exact xv Y Y Y (ql (fun e => by subst e; rw [hg] at hg'; cases hg'; exact z08 hb rfl))
     · have hb := q07 hb
       refine q9 Y (hJ _ (i + 1) ⟨by omega, yq he hg (hg'.trans (by rw [hb]))⟩ (by omega) ?_)
       repeat' (first | exact trivial | exact Y | exact Or.inl Y | exact cwi (by omega) (by omega) (by omega) | refine And.intro ?_ ?_)
   · have h : ¬ i < p.length := by simpa using h
     exact xv Y Y Y (zy (by rw [show i = p.length by omega, List.take_length] at he; rw [he, hl, List.take_length]))
theorem y4e (x0 : List (List Cell)) (y0 : List (List Cell)) (h0 : WR 9000000000000000000 zk x0) (k0 : WR 9000000000000000000 zk y0) : PC Tryz.prog 139 [.agg [.l x0], .agg [.l y0]] (rB (dE (α := List Cell) [.l x0] [.l y0])) := by
 refine PC.begin Tryz.func139 Y (by kernel_rfl) ?_; refine z7 Y (q72 _ _ h0 k0) Y tv3 ?_; refine xb Y (fun h => ?_) (fun e0 => ?_)
 · exact xv Y Y Y (ql (fun e => z08 h (by simp only [List.cons.injEq, Cell.l.injEq] at e ⊢; simp only [e]; try trivial)))
 have e0 := q07 e0; exact xv Y Y Y (zy (by simp [e0]))
theorem q3s (p q : List (List Cell)) (hp : WR 9000000000000000000 z8 p) (hq : WR 9000000000000000000 z8 q) : PC Tryz.prog 68 [.one (.l p), .one (.l q)] (rB (dE p q)) := by
 refine PC.begin Tryz.func68 Y (by kernel_rfl) ?_; have hpl := hp.1; have hql := hq.1; refine xb Y ?_ ?_ <;> intro h
 · exact xv Y Y Y (ql (fun e => by subst e; simp at h))
 have hl : p.length = q.length := by simpa [Int.ofNat_inj] using h
 refine qc Y (ι := Nat) (fun i => i ≤ p.length ∧ p.take i = q.take i) (fun i => ⟨[(5, sV (.int .i64 i)), (0, .one (.b (.l p))), (1, .one (.b (.l q)))], []⟩) (fun i => p.length - i) 0 ⟨Nat.zero_le _, Y⟩ ?_ ?_
 · repeat' (first | exact trivial | exact Y | exact Or.inl Y | refine And.intro ?_ ?_)
 · intro i ⟨hi, he⟩ J hJ
   refine xb Y ?_ ?_ <;> intro h
   · have h : i < p.length := by simpa using h
     obtain ⟨row, hg⟩ := gx h; obtain ⟨row', hg'⟩ : ∃ row, q[i]? = some row := ⟨_, List.getElem?_eq_getElem (by omega)⟩
     obtain ⟨x0, rfl, h0⟩ := y04 (hp.2 row (List.mem_of_getElem? hg)); obtain ⟨y0, rfl, k0⟩ := y04 (hq.2 row' (List.mem_of_getElem? hg')); refine yb Y [] (Tk [0, 1, 2] (.take 3 [8, 9] (Tk [4, 5, 6] (.take 7 [8, 9] (.alt 8 (.take 9 [] .done) .nil))))) (by kernel_rfl) ?_; refine xs Y (nn_ _) (y9 Y _ hg (xs Y Y ?_)); refine xs Y (nn_ _) (y9 Y _ hg' (xs Y Y ?_)); refine z7 Y (y4e _ _ h0 k0) Y ⟨⟨trivial, trivial⟩, ⟨trivial, trivial⟩, trivial⟩ ?_; refine xb Y ?_ ?_ <;> intro hb
     · exact xv Y Y Y (ql (fun e => by subst e; rw [hg] at hg'; cases hg'; exact z08 hb rfl))
     · have hb := q07 hb
       refine q9 Y (hJ _ (i + 1) ⟨by omega, yq he hg (hg'.trans (by rw [hb]))⟩ (by omega) ?_)
       repeat' (first | exact trivial | exact Y | exact Or.inl Y | exact cwi (by omega) (by omega) (by omega) | refine And.intro ?_ ?_)
   · have h : ¬ i < p.length := by simpa using h
     exact xv Y Y Y (zy (by rw [show i = p.length by omega, List.take_length] at he; rw [he, hl, List.take_length]))
theorem z94 (x0 : Int) (x1 : Int) (x2 : Int) (x3 : Int) (x4 : List (List Cell)) (x5 : List (List Cell)) (y0 : Int) (y1 : Int) (y2 : Int) (y3 : Int) (y4 : List (List Cell)) (y5 : List (List Cell)) (h4 : WR 9000000000000000000 (.i .i64 .nil) x4) (h5 : WR 9000000000000000000 yl x5) (k4 : WR 9000000000000000000 (.i .i64 .nil) y4) (k5 : WR 9000000000000000000 yl y5) : PC Tryz.prog 339 [.agg [.s (.int .i64 x0), .s (.int .i64 x1), .s (.int .i64 x2), .s (.int .i64 x3), .l x4, .l x5], .agg [.s (.int .i64 y0), .s (.int .i64 y1), .s (.int .i64 y2), .s (.int .i64 y3), .l y4, .l y5]] (rB (dE (α := List Cell) [.s (.int .i64 x0), .s (.int .i64 x1), .s (.int .i64 x2), .s (.int .i64 x3), .l x4, .l x5] [.s (.int .i64 y0), .s (.int .i64 y1), .s (.int .i64 y2), .s (.int .i64 y3), .l y4, .l y5])) := by
 refine PC.begin Tryz.func339 Y (by kernel_rfl) ?_; refine xb Y (fun h => ?_) (fun e0 => ?_)
 · exact xv Y Y Y (ql (fun e => by simp only [List.cons.injEq, Cell.s.injEq, Value.int.injEq, Value.bool.injEq, Value.string.injEq] at e; simp [e] at h))
 have e0 : x0 = y0 := by simpa using e0
 refine xb Y (fun h => ?_) (fun e1 => ?_)
 · exact xv Y Y Y (ql (fun e => by simp only [List.cons.injEq, Cell.s.injEq, Value.int.injEq, Value.bool.injEq, Value.string.injEq] at e; simp [e] at h))
 have e1 : x1 = y1 := by simpa using e1
 refine xb Y (fun h => ?_) (fun e2 => ?_)
 · exact xv Y Y Y (ql (fun e => by simp only [List.cons.injEq, Cell.s.injEq, Value.int.injEq, Value.bool.injEq, Value.string.injEq] at e; simp [e] at h))
 have e2 : x2 = y2 := by simpa using e2
 refine xb Y (fun h => ?_) (fun e3 => ?_)
 · exact xv Y Y Y (ql (fun e => by simp only [List.cons.injEq, Cell.s.injEq, Value.int.injEq, Value.bool.injEq, Value.string.injEq] at e; simp [e] at h))
 have e3 : x3 = y3 := by simpa using e3
 refine z7 Y (y37 _ _ h4 k4) Y tv3 ?_; refine xb Y (fun h => ?_) (fun e4 => ?_)
 · exact xv Y Y Y (ql (fun e => z08 h (by simp only [List.cons.injEq, Cell.l.injEq] at e ⊢; simp only [e]; try trivial)))
 have e4 := q07 e4; refine z7 Y (y40 _ _ h5 k5) Y tv3 ?_; refine xb Y (fun h => ?_) (fun e5 => ?_)
 · exact xv Y Y Y (ql (fun e => z08 h (by simp only [List.cons.injEq, Cell.l.injEq] at e ⊢; simp only [e]; try trivial)))
 have e5 := q07 e5; exact xv Y Y Y (zy (by simp [e0, e1, e2, e3, e4, e5]))
theorem y7x (p q : List (List Cell)) (hp : WR 9000000000000000000 qp p) (hq : WR 9000000000000000000 qp q) : PC Tryz.prog 244 [.one (.l p), .one (.l q)] (rB (dE p q)) := by
 refine PC.begin Tryz.func244 Y (by kernel_rfl) ?_; have hpl := hp.1; have hql := hq.1; refine xb Y ?_ ?_ <;> intro h
 · exact xv Y Y Y (ql (fun e => by subst e; simp at h))
 have hl : p.length = q.length := by simpa [Int.ofNat_inj] using h
 refine qc Y (ι := Nat) (fun i => i ≤ p.length ∧ p.take i = q.take i) (fun i => ⟨[(5, sV (.int .i64 i)), (0, .one (.b (.l p))), (1, .one (.b (.l q)))], []⟩) (fun i => p.length - i) 0 ⟨Nat.zero_le _, Y⟩ ?_ ?_
 · repeat' (first | exact trivial | exact Y | exact Or.inl Y | refine And.intro ?_ ?_)
 · intro i ⟨hi, he⟩ J hJ
   refine xb Y ?_ ?_ <;> intro h
   · have h : i < p.length := by simpa using h
     obtain ⟨row, hg⟩ := gx h; obtain ⟨row', hg'⟩ : ∃ row, q[i]? = some row := ⟨_, List.getElem?_eq_getElem (by omega)⟩
     obtain ⟨x0, x1, x2, x3, x4, x5, rfl, h4, h5⟩ := y1z (hp.2 row (List.mem_of_getElem? hg)); obtain ⟨y0, y1, y2, y3, y4, y5, rfl, k4, k5⟩ := y1z (hq.2 row' (List.mem_of_getElem? hg')); refine yb Y [] (Tk [0, 1, 2] (.take 3 [8, 9] (Tk [4, 5, 6] (.take 7 [8, 9] (.alt 8 (.take 9 [] .done) .nil))))) (by kernel_rfl) ?_; refine xs Y (nn_ _) (y9 Y _ hg (xs Y Y ?_)); refine xs Y (nn_ _) (y9 Y _ hg' (xs Y Y ?_)); refine z7 Y (z94 _ _ _ _ _ _ _ _ _ _ _ _ h4 h5 k4 k5) Y ⟨tv7, tv7, trivial⟩ ?_; refine xb Y ?_ ?_ <;> intro hb
     · exact xv Y Y Y (ql (fun e => by subst e; rw [hg] at hg'; cases hg'; exact z08 hb rfl))
     · have hb := q07 hb
       refine q9 Y (hJ _ (i + 1) ⟨by omega, yq he hg (hg'.trans (by rw [hb]))⟩ (by omega) ?_)
       repeat' (first | exact trivial | exact Y | exact Or.inl Y | exact cwi (by omega) (by omega) (by omega) | refine And.intro ?_ ?_)
   · have h : ¬ i < p.length := by simpa using h
     exact xv Y Y Y (zy (by rw [show i = p.length by omega, List.take_length] at he; rw [he, hl, List.take_length]))
theorem z72 (x0 : Int) (x1 : Int) (x2 : Int) (x3 : Int) (x4 : Int) (y0 : Int) (y1 : Int) (y2 : Int) (y3 : Int) (y4 : Int)   : PC Tryz.prog 340 [.agg [.s (.int .i64 x0), .s (.int .i64 x1), .s (.int .i64 x2), .s (.int .i64 x3), .s (.int .i64 x4)], .agg [.s (.int .i64 y0), .s (.int .i64 y1), .s (.int .i64 y2), .s (.int .i64 y3), .s (.int .i64 y4)]] (rB (dE (α := List Cell) [.s (.int .i64 x0), .s (.int .i64 x1), .s (.int .i64 x2), .s (.int .i64 x3), .s (.int .i64 x4)] [.s (.int .i64 y0), .s (.int .i64 y1), .s (.int .i64 y2), .s (.int .i64 y3), .s (.int .i64 y4)])) := by
 refine PC.begin Tryz.func340 Y (by kernel_rfl) ?_; refine xb Y (fun h => ?_) (fun e0 => ?_)
 · exact xv Y Y Y (ql (fun e => by simp only [List.cons.injEq, Cell.s.injEq, Value.int.injEq, Value.bool.injEq, Value.string.injEq] at e; simp [e] at h))
 have e0 : x0 = y0 := by simpa using e0
 refine xb Y (fun h => ?_) (fun e1 => ?_)
 · exact xv Y Y Y (ql (fun e => by simp only [List.cons.injEq, Cell.s.injEq, Value.int.injEq, Value.bool.injEq, Value.string.injEq] at e; simp [e] at h))
 have e1 : x1 = y1 := by simpa using e1
 refine xb Y (fun h => ?_) (fun e2 => ?_)
 · exact xv Y Y Y (ql (fun e => by simp only [List.cons.injEq, Cell.s.injEq, Value.int.injEq, Value.bool.injEq, Value.string.injEq] at e; simp [e] at h))
 have e2 : x2 = y2 := by simpa using e2
 refine xb Y (fun h => ?_) (fun e3 => ?_)
 · exact xv Y Y Y (ql (fun e => by simp only [List.cons.injEq, Cell.s.injEq, Value.int.injEq, Value.bool.injEq, Value.string.injEq] at e; simp [e] at h))
 have e3 : x3 = y3 := by simpa using e3
 refine xb Y (fun h => ?_) (fun e4 => ?_)
 · exact xv Y Y Y (ql (fun e => by simp only [List.cons.injEq, Cell.s.injEq, Value.int.injEq, Value.bool.injEq, Value.string.injEq] at e; simp [e] at h))
 have e4 : x4 = y4 := by simpa using e4
 exact xv Y Y Y (zy (by simp [e0, e1, e2, e3, e4]))
theorem y5t (p q : List (List Cell)) (hp : WR 9000000000000000000 zn p) (hq : WR 9000000000000000000 zn q) : PC Tryz.prog 245 [.one (.l p), .one (.l q)] (rB (dE p q)) := by
 refine PC.begin Tryz.func245 Y (by kernel_rfl) ?_; have hpl := hp.1; have hql := hq.1; refine xb Y ?_ ?_ <;> intro h
 · exact xv Y Y Y (ql (fun e => by subst e; simp at h))
 have hl : p.length = q.length := by simpa [Int.ofNat_inj] using h
 refine qc Y (ι := Nat) (fun i => i ≤ p.length ∧ p.take i = q.take i) (fun i => ⟨[(5, sV (.int .i64 i)), (0, .one (.b (.l p))), (1, .one (.b (.l q)))], []⟩) (fun i => p.length - i) 0 ⟨Nat.zero_le _, Y⟩ ?_ ?_
 · repeat' (first | exact trivial | exact Y | exact Or.inl Y | refine And.intro ?_ ?_)
 · intro i ⟨hi, he⟩ J hJ
   refine xb Y ?_ ?_ <;> intro h
   · have h : i < p.length := by simpa using h
     obtain ⟨row, hg⟩ := gx h; obtain ⟨row', hg'⟩ : ∃ row, q[i]? = some row := ⟨_, List.getElem?_eq_getElem (by omega)⟩
     obtain ⟨x0, x1, x2, x3, x4, rfl⟩ := z0r (hp.2 row (List.mem_of_getElem? hg)); obtain ⟨y0, y1, y2, y3, y4, rfl⟩ := z0r (hq.2 row' (List.mem_of_getElem? hg')); refine yb Y [] (Tk [0, 1, 2] (.take 3 [8, 9] (Tk [4, 5, 6] (.take 7 [8, 9] (.alt 8 (.take 9 [] .done) .nil))))) (by kernel_rfl) ?_; refine xs Y (nn_ _) (y9 Y _ hg (xs Y Y ?_)); refine xs Y (nn_ _) (y9 Y _ hg' (xs Y Y ?_)); refine z7 Y (z72 _ _ _ _ _ _ _ _ _ _) Y ⟨tv6, tv6, trivial⟩ ?_; refine xb Y ?_ ?_ <;> intro hb
     · exact xv Y Y Y (ql (fun e => by subst e; rw [hg] at hg'; cases hg'; exact z08 hb rfl))
     · have hb := q07 hb
       refine q9 Y (hJ _ (i + 1) ⟨by omega, yq he hg (hg'.trans (by rw [hb]))⟩ (by omega) ?_)
       repeat' (first | exact trivial | exact Y | exact Or.inl Y | exact cwi (by omega) (by omega) (by omega) | refine And.intro ?_ ?_)
   · have h : ¬ i < p.length := by simpa using h
     exact xv Y Y Y (zy (by rw [show i = p.length by omega, List.take_length] at he; rw [he, hl, List.take_length]))
theorem q5t (x0 : Int) (x1 : List (List Cell)) (x2 : List (List Cell)) (y0 : Int) (y1 : List (List Cell)) (y2 : List (List Cell)) (h1 : WR 9000000000000000000 qp x1) (h2 : WR 9000000000000000000 zn x2) (k1 : WR 9000000000000000000 qp y1) (k2 : WR 9000000000000000000 zn y2) : PC Tryz.prog 140 [.agg [.s (.int .i64 x0), .l x1, .l x2], .agg [.s (.int .i64 y0), .l y1, .l y2]] (rB (dE (α := List Cell) [.s (.int .i64 x0), .l x1, .l x2] [.s (.int .i64 y0), .l y1, .l y2])) := by
 refine PC.begin Tryz.func140 Y (by kernel_rfl) ?_; refine xb Y (fun h => ?_) (fun e0 => ?_)
 · exact xv Y Y Y (ql (fun e => by simp only [List.cons.injEq, Cell.s.injEq, Value.int.injEq, Value.bool.injEq, Value.string.injEq] at e; simp [e] at h))
 have e0 : x0 = y0 := by simpa using e0
 refine z7 Y (y7x _ _ h1 k1) Y tv3 ?_; refine xb Y (fun h => ?_) (fun e1 => ?_)
 · exact xv Y Y Y (ql (fun e => z08 h (by simp only [List.cons.injEq, Cell.l.injEq] at e ⊢; simp only [e]; try trivial)))
 have e1 := q07 e1; refine z7 Y (y5t _ _ h2 k2) Y tv3 ?_; refine xb Y (fun h => ?_) (fun e2 => ?_)
 · exact xv Y Y Y (ql (fun e => z08 h (by simp only [List.cons.injEq, Cell.l.injEq] at e ⊢; simp only [e]; try trivial)))
 have e2 := q07 e2; exact xv Y Y Y (zy (by simp [e0, e1, e2]))
theorem q53 (p q : List (List Cell)) (hp : WR 9000000000000000000 qa p) (hq : WR 9000000000000000000 qa q) : PC Tryz.prog 69 [.one (.l p), .one (.l q)] (rB (dE p q)) := by
 refine PC.begin Tryz.func69 Y (by kernel_rfl) ?_; have hpl := hp.1; have hql := hq.1; refine xb Y ?_ ?_ <;> intro h
 · exact xv Y Y Y (ql (fun e => by subst e; simp at h))
 have hl : p.length = q.length := by simpa [Int.ofNat_inj] using h
 refine qc Y (ι := Nat) (fun i => i ≤ p.length ∧ p.take i = q.take i) (fun i => ⟨[(5, sV (.int .i64 i)), (0, .one (.b (.l p))), (1, .one (.b (.l q)))], []⟩) (fun i => p.length - i) 0 ⟨Nat.zero_le _, Y⟩ ?_ ?_
 · repeat' (first | exact trivial | exact Y | exact Or.inl Y | refine And.intro ?_ ?_)
 · intro i ⟨hi, he⟩ J hJ
   refine xb Y ?_ ?_ <;> intro h
   · have h : i < p.length := by simpa using h
     obtain ⟨row, hg⟩ := gx h; obtain ⟨row', hg'⟩ : ∃ row, q[i]? = some row := ⟨_, List.getElem?_eq_getElem (by omega)⟩
     obtain ⟨x0, x1, x2, rfl, h1, h2⟩ := q0f (hp.2 row (List.mem_of_getElem? hg)); obtain ⟨y0, y1, y2, rfl, k1, k2⟩ := q0f (hq.2 row' (List.mem_of_getElem? hg')); refine yb Y [] (Tk [0, 1, 2] (.take 3 [8, 9] (Tk [4, 5, 6] (.take 7 [8, 9] (.alt 8 (.take 9 [] .done) .nil))))) (by kernel_rfl) ?_; refine xs Y (nn_ _) (y9 Y _ hg (xs Y Y ?_)); refine xs Y (nn_ _) (y9 Y _ hg' (xs Y Y ?_)); refine z7 Y (q5t _ _ _ _ _ _ h1 h2 k1 k2) Y ⟨tv4, tv4, trivial⟩ ?_; refine xb Y ?_ ?_ <;> intro hb
     · exact xv Y Y Y (ql (fun e => by subst e; rw [hg] at hg'; cases hg'; exact z08 hb rfl))
     · have hb := q07 hb
       refine q9 Y (hJ _ (i + 1) ⟨by omega, yq he hg (hg'.trans (by rw [hb]))⟩ (by omega) ?_)
       repeat' (first | exact trivial | exact Y | exact Or.inl Y | exact cwi (by omega) (by omega) (by omega) | refine And.intro ?_ ?_)
   · have h : ¬ i < p.length := by simpa using h
     exact xv Y Y Y (zy (by rw [show i = p.length by omega, List.take_length] at he; rw [he, hl, List.take_length]))
theorem z54 (x0 : Int) (x1 : Int) (x2 : Int) (x3 : Int) (x4 : Int) (x5 : Int) (x6 : Int) (x7 : Int) (x8 : Int) (y0 : Int) (y1 : Int) (y2 : Int) (y3 : Int) (y4 : Int) (y5 : Int) (y6 : Int) (y7 : Int) (y8 : Int)   : PC Tryz.prog 141 [.agg [.s (.int .i64 x0), .s (.int .i64 x1), .s (.int .i64 x2), .s (.int .i64 x3), .s (.int .i64 x4), .s (.int .i64 x5), .s (.int .i64 x6), .s (.int .i64 x7), .s (.int .i64 x8)], .agg [.s (.int .i64 y0), .s (.int .i64 y1), .s (.int .i64 y2), .s (.int .i64 y3), .s (.int .i64 y4), .s (.int .i64 y5), .s (.int .i64 y6), .s (.int .i64 y7), .s (.int .i64 y8)]] (rB (dE (α := List Cell) [.s (.int .i64 x0), .s (.int .i64 x1), .s (.int .i64 x2), .s (.int .i64 x3), .s (.int .i64 x4), .s (.int .i64 x5), .s (.int .i64 x6), .s (.int .i64 x7), .s (.int .i64 x8)] [.s (.int .i64 y0), .s (.int .i64 y1), .s (.int .i64 y2), .s (.int .i64 y3), .s (.int .i64 y4), .s (.int .i64 y5), .s (.int .i64 y6), .s (.int .i64 y7), .s (.int .i64 y8)])) := by
 refine PC.begin Tryz.func141 Y (by kernel_rfl) ?_; refine xb Y (fun h => ?_) (fun e0 => ?_)
 · exact xv Y Y Y (ql (fun e => by simp only [List.cons.injEq, Cell.s.injEq, Value.int.injEq, Value.bool.injEq, Value.string.injEq] at e; simp [e] at h))
 have e0 : x0 = y0 := by simpa using e0
 refine xb Y (fun h => ?_) (fun e1 => ?_)
 · exact xv Y Y Y (ql (fun e => by simp only [List.cons.injEq, Cell.s.injEq, Value.int.injEq, Value.bool.injEq, Value.string.injEq] at e; simp [e] at h))
 have e1 : x1 = y1 := by simpa using e1
 refine xb Y (fun h => ?_) (fun e2 => ?_)
 · exact xv Y Y Y (ql (fun e => by simp only [List.cons.injEq, Cell.s.injEq, Value.int.injEq, Value.bool.injEq, Value.string.injEq] at e; simp [e] at h))
 have e2 : x2 = y2 := by simpa using e2
 refine xb Y (fun h => ?_) (fun e3 => ?_)
 · exact xv Y Y Y (ql (fun e => by simp only [List.cons.injEq, Cell.s.injEq, Value.int.injEq, Value.bool.injEq, Value.string.injEq] at e; simp [e] at h))
 have e3 : x3 = y3 := by simpa using e3
 refine xb Y (fun h => ?_) (fun e4 => ?_)
 · exact xv Y Y Y (ql (fun e => by simp only [List.cons.injEq, Cell.s.injEq, Value.int.injEq, Value.bool.injEq, Value.string.injEq] at e; simp [e] at h))
 have e4 : x4 = y4 := by simpa using e4
 refine xb Y (fun h => ?_) (fun e5 => ?_)
 · exact xv Y Y Y (ql (fun e => by simp only [List.cons.injEq, Cell.s.injEq, Value.int.injEq, Value.bool.injEq, Value.string.injEq] at e; simp [e] at h))
 have e5 : x5 = y5 := by simpa using e5
 refine xb Y (fun h => ?_) (fun e6 => ?_)
 · exact xv Y Y Y (ql (fun e => by simp only [List.cons.injEq, Cell.s.injEq, Value.int.injEq, Value.bool.injEq, Value.string.injEq] at e; simp [e] at h))
 have e6 : x6 = y6 := by simpa using e6
 refine z7 Y (q37 _ _ _ _) Y ⟨tv3, tv3, trivial⟩ ?_; refine xb Y (fun h => ?_) (fun e7 => ?_)
 · exact xv Y Y Y (ql (fun e => z08 h (by simp only [List.cons.injEq, Cell.l.injEq] at e ⊢; simp only [e]; try trivial)))
 have e7 := q07 e7; simp only [List.cons.injEq, Cell.s.injEq, Cell.l.injEq, Value.int.injEq, Value.bool.injEq, and_true, true_and] at e7; exact xv Y Y Y (zy (by simp [e0, e1, e2, e3, e4, e5, e6, e7]))
theorem y4f (p q : List (List Cell)) (hp : WR 9000000000000000000 qb p) (hq : WR 9000000000000000000 qb q) : PC Tryz.prog 70 [.one (.l p), .one (.l q)] (rB (dE p q)) := by
 refine PC.begin Tryz.func70 Y (by kernel_rfl) ?_; have hpl := hp.1; have hql := hq.1; refine xb Y ?_ ?_ <;> intro h
 · exact xv Y Y Y (ql (fun e => by subst e; simp at h))
 have hl : p.length = q.length := by simpa [Int.ofNat_inj] using h
 refine qc Y (ι := Nat) (fun i => i ≤ p.length ∧ p.take i = q.take i) (fun i => ⟨[(5, sV (.int .i64 i)), (0, .one (.b (.l p))), (1, .one (.b (.l q)))], []⟩) (fun i => p.length - i) 0 ⟨Nat.zero_le _, Y⟩ ?_ ?_
 · repeat' (first | exact trivial | exact Y | exact Or.inl Y | refine And.intro ?_ ?_)
 · intro i ⟨hi, he⟩ J hJ
   refine xb Y ?_ ?_ <;> intro h
   · have h : i < p.length := by simpa using h
     obtain ⟨row, hg⟩ := gx h; obtain ⟨row', hg'⟩ : ∃ row, q[i]? = some row := ⟨_, List.getElem?_eq_getElem (by omega)⟩
     obtain ⟨x0, x1, x2, x3, x4, x5, x6, x7, x8, rfl⟩ := q09 (hp.2 row (List.mem_of_getElem? hg)); obtain ⟨y0, y1, y2, y3, y4, y5, y6, y7, y8, rfl⟩ := q09 (hq.2 row' (List.mem_of_getElem? hg')); refine yb Y [] (Tk [0, 1, 2] (.take 3 [8, 9] (Tk [4, 5, 6] (.take 7 [8, 9] (.alt 8 (.take 9 [] .done) .nil))))) (by kernel_rfl) ?_; refine xs Y (nn_ _) (y9 Y _ hg (xs Y Y ?_)); refine xs Y (nn_ _) (y9 Y _ hg' (xs Y Y ?_)); refine z7 Y (z54 _ _ _ _ _ _ _ _ _ _ _ _ _ _ _ _ _ _) Y ⟨tv10, tv10, trivial⟩ ?_; refine xb Y ?_ ?_ <;> intro hb
     · exact xv Y Y Y (ql (fun e => by subst e; rw [hg] at hg'; cases hg'; exact z08 hb rfl))
     · have hb := q07 hb
       refine q9 Y (hJ _ (i + 1) ⟨by omega, yq he hg (hg'.trans (by rw [hb]))⟩ (by omega) ?_)
       repeat' (first | exact trivial | exact Y | exact Or.inl Y | exact cwi (by omega) (by omega) (by omega) | refine And.intro ?_ ?_)
   · have h : ¬ i < p.length := by simpa using h
     exact xv Y Y Y (zy (by rw [show i = p.length by omega, List.take_length] at he; rw [he, hl, List.take_length]))
theorem z2o (x0 : List (List Cell)) (x1 : List (List Cell)) (x2 : List (List Cell)) (x3 : List (List Cell)) (x4 : List (List Cell)) (y0 : List (List Cell)) (y1 : List (List Cell)) (y2 : List (List Cell)) (y3 : List (List Cell)) (y4 : List (List Cell)) (h0 : WR 9000000000000000000 q7 x0) (h1 : WR 9000000000000000000 zb x1) (h2 : WR 9000000000000000000 z8 x2) (h3 : WR 9000000000000000000 qa x3) (h4 : WR 9000000000000000000 qb x4) (k0 : WR 9000000000000000000 q7 y0) (k1 : WR 9000000000000000000 zb y1) (k2 : WR 9000000000000000000 z8 y2) (k3 : WR 9000000000000000000 qa y3) (k4 : WR 9000000000000000000 qb y4) : PC Tryz.prog 16 [.agg [.l x0, .l x1, .l x2, .l x3, .l x4], .agg [.l y0, .l y1, .l y2, .l y3, .l y4]] (rB (dE (α := List Cell) [.l x0, .l x1, .l x2, .l x3, .l x4] [.l y0, .l y1, .l y2, .l y3, .l y4])) := by
 refine PC.begin Tryz.func16 Y (by kernel_rfl) ?_; refine z7 Y (y1u _ _ h0 k0) Y tv3 ?_; refine xb Y (fun h => ?_) (fun e0 => ?_)
 · exact xv Y Y Y (ql (fun e => z08 h (by simp only [List.cons.injEq, Cell.l.injEq] at e ⊢; simp only [e]; try trivial)))
 have e0 := q07 e0; refine z7 Y (z5u _ _ h1 k1) Y tv3 ?_; refine xb Y (fun h => ?_) (fun e1 => ?_)
 · exact xv Y Y Y (ql (fun e => z08 h (by simp only [List.cons.injEq, Cell.l.injEq] at e ⊢; simp only [e]; try trivial)))
 have e1 := q07 e1; refine z7 Y (q3s _ _ h2 k2) Y tv3 ?_; refine xb Y (fun h => ?_) (fun e2 => ?_)
 · exact xv Y Y Y (ql (fun e => z08 h (by simp only [List.cons.injEq, Cell.l.injEq] at e ⊢; simp only [e]; try trivial)))
 have e2 := q07 e2; refine z7 Y (q53 _ _ h3 k3) Y tv3 ?_; refine xb Y (fun h => ?_) (fun e3 => ?_)
 · exact xv Y Y Y (ql (fun e => z08 h (by simp only [List.cons.injEq, Cell.l.injEq] at e ⊢; simp only [e]; try trivial)))
 have e3 := q07 e3; refine z7 Y (y4f _ _ h4 k4) Y tv3 ?_; refine xb Y (fun h => ?_) (fun e4 => ?_)
 · exact xv Y Y Y (ql (fun e => z08 h (by simp only [List.cons.injEq, Cell.l.injEq] at e ⊢; simp only [e]; try trivial)))
 have e4 := q07 e4; exact xv Y Y Y (zy (by simp [e0, e1, e2, e3, e4]))
end Go.Proofs.YtjdiongbbijdpaaGreat
end
