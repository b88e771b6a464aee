/- WHAT IS PROVED: parts of the proof of fnExactBooksBalance_holds: a frame for walks, what each Go function that it reaches answers, and plain lemmas; no condition beyond those that each theorem names. -/
import Derived.Test.YtbnbjaedijbnpaaGreatCBb5
import Derived.WalkKit
import Derived.OrdersHeld
import Derived.DeepKeys
import Derived.Maps.RangeWalk
import Derived.Maps.OwnOps
import Derived.WideKeyEntry
import Derived.Deep.Slices
import Derived.ChangeArms
import Derived.WideShapes
import Derived.Sort.AssemblyPlain
import Derived.WideKeyPair
import Derived.Test.YtbnbjaedijbnpaaGreatProg
import Derived.Shelf.SortG.Plain
import Derived.Shelf.SortG.SortNone
import Derived.Shelf.SlicesG.CompactI
import Derived.Lib.OwnBridge
import Derived.RangeFuncGives
import Derived.RangeFuncBox
import Derived.RangeFuncLeaves
import Derived.Shelf.Abstract
import Derived.Maps.AppendAt
import Derived.OwnWalkIn
import Derived.TacticsInMore
import Derived.LoopNIn
import Derived.LoopIn
set_option linter.unusedVariables false
set_option linter.unusedSimpArgs false
section
namespace Go.Proofs.YtbnbjaedijbnpaaGreat
open Go Go.Sx
set_option maxRecDepth 20000
set_option maxHeartbeats 4000000
theorem z1m (x : Con) (hl : x.legs.length ≤ 1048576) : PC Tryz.prog 62 [.agg x.cs] (.one (.bor false [.l (ints (shF x.legs))])) := by
 refine PC.begin Tryz.func62 rfl (by kernel_rfl) ?_
 refine xs rfl trivial ?_
 refine qc rfl (ι := Nat) (fun i => i ≤ x.legs.length) (fun i => ⟨[(4, sV (.int .i64 i)), (3, .one (.b (.l (ints (shF (x.legs.take i)))))), (1, .one (.a 1 0))], [(1, .var (x.cs.map .b))]⟩) (fun i => x.legs.length - i) 0 (Nat.zero_le _) ?_ ?_
 · exact ⟨⟨rfl, ⟨rfl, rfl, rfl⟩, ⟨rfl, rfl, rfl⟩, trivial⟩, ⟨lcr, trivial⟩, rfl⟩
 · intro i hi J hJ
   refine xb rfl (fun h => ?_) (fun h => ?_)
   · have h : i < x.legs.length := by simpa using h
     obtain ⟨y, hy⟩ := gx h
     have hg := gm Leg.cs hy
     have hst := z5t hy
     have hlen := z26 x.legs i
     cases hb : (shF (x.legs.take i)).contains y.s with
     | true =>
       have hp := z5p _ _ true hb (by omega) (q5s _)
       have he : q39 (shF (x.legs.take i)) y.s = shF (x.legs.take i) := by
        have := q5r (q5s (x.legs.take i)) hb
        exact this
       rw [he] at hst
       refine xs rfl (Int.natCast_nonneg _) ?_
       refine ya rfl _ hg ?_
       refine xs rfl rfl ?_
       refine z6 rfl (hp) rfl ⟨trivial, trivial, trivial⟩ ?_
       exact q9 rfl (hJ _ (i + 1) (by omega) (by omega) ⟨⟨cwi (by omega) (by omega) (by omega), (by rw [hst]; rfl), ⟨rfl, rfl, rfl⟩, trivial⟩, ⟨lcr, trivial⟩, rfl⟩)
     | false =>
       have hp := z5p _ _ false hb (by omega) (q5s _)
       refine xs rfl (Int.natCast_nonneg _) ?_
       refine ya rfl _ hg ?_
       refine xs rfl rfl ?_
       refine z6 rfl (hp) rfl ⟨trivial, trivial, trivial⟩ ?_
       exact q9 rfl (hJ _ (i + 1) (by omega) (by omega) ⟨⟨cwi (by omega) (by omega) (by omega), ⟨rfl, rfl, (by rw [hst])⟩, ⟨rfl, rfl, rfl⟩, trivial⟩, ⟨lcr, trivial⟩, rfl⟩)
   · have h : i = x.legs.length := by have : ¬ i < x.legs.length := (by simpa using h); omega
     subst h
     rw [List.take_length]
     refine xr rfl (z7 rfl ⟨⟨rfl, rfl, trivial⟩, z1 rfl⟩)
theorem qt (c : Clu) (ho : y00 c) (id s : Int) : PC Tryz.prog 177 [.one (.p c.cs), .one (i64 id), .one (i64 s)] (rB (q0s c.cons id s)) := by
 refine PC.begin Tryz.func177 rfl (by kernel_rfl) ?_
 have hf := q0h c id ho.1.1
 cases h : q05 c.cons id with
 | none =>
   rw [y1l h] at hf
   have e : q0s c.cons id s = false := by unfold q0s; rw [h]
   rw [e]
   refine z6 rfl (hf) rfl ⟨trivial, trivial, trivial⟩ ?_
   refine xj (k := 11) rfl ?_
   refine xr rfl (z7 rfl ⟨⟨rfl, rfl, trivial⟩, z1 rfl⟩)
 | some x =>
   obtain ⟨i, hi, hx⟩ := q0x h
   rw [hi] at hf
   have hg := gm Con.cs hx
   have hxl := ho.1.2 x (List.mem_of_getElem? hx)
   have e : q0s c.cons id s = (shF x.legs).any (fun y => y == s) := by unfold q0s; rw [h, z9g]
   rw [e]
   refine z6 rfl (hf) rfl ⟨trivial, trivial, trivial⟩ ?_
   refine xj (k := 6) rfl ?_
   refine xs rfl (Int.natCast_nonneg _) ?_
   refine ya rfl _ hg ?_
   refine xs rfl rfl ?_
   refine xj (k := 2) rfl ?_
   refine z6 rfl (z1m x hxl) rfl ⟨⟨trivial, trivial, trivial⟩, trivial⟩ ?_
   refine xj (k := 2) rfl ?_
   refine z6 rfl (q2l _ (shF x.legs) s rfl (by have := z26 x.legs x.legs.length; rw [List.take_length] at this; omega)) rfl ⟨trivial, trivial, trivial⟩ ?_
   refine xj (k := 1) rfl ?_
   refine xr rfl (z7 rfl ⟨⟨rfl, rfl, trivial⟩, z1 rfl⟩)
   all_goals first
    | (exfalso; simp at b0; omega)
    | skip
theorem y29 (x : Con) (id : Int) : PC Tryz.prog 135 [.agg x.cs, .one (.p [i64 id])] (rB (x.id == id)) := by
 refine PC.begin Tryz.func135 rfl (by kernel_rfl) ?_
 refine xr rfl (z7 rfl ⟨⟨rfl, rfl, trivial⟩, z1 rfl⟩)
theorem z13 (c : Clu) (ho : y00 c) (id : Int) (h : q05 c.cons id = none) : PC Tryz.prog 60 [.one (.p c.cs), .one (i64 id)] (.tup [.bor true [i64 0, .l []], .own false [.s (.bool false)]]) := by
 refine PC.begin Tryz.func60 rfl (by kernel_rfl) ?_
 have hi := y70 _ c.cons (fun x => x.id == id) 135 (.p [i64 id]) rfl (fun x _ => y29 x id) ho.1.1
 rw [y1l h] at hi
 refine z6 rfl (hi) rfl ⟨trivial, (List.forall_mem_cons.2 ⟨⟨trivial, trivial⟩, (fun _ h => nomatch h)⟩), trivial⟩ ?_
 refine xj (k := 1) rfl ?_
 refine xr rfl (z7 rfl ⟨(by decide), ⟨⟨rfl, rfl, rfl, trivial⟩, ⟨rfl, rfl, trivial⟩, trivial⟩, z1 rfl⟩)
theorem q0o (c : Clu) (ho : y00 c) (id : Int) (x : Con) (h : q05 c.cons id = some x) : PC Tryz.prog 60 [.one (.p c.cs), .one (i64 id)] (.tup [.bor true x.cs, .own false [.s (.bool true)]]) := by
 refine PC.begin Tryz.func60 rfl (by kernel_rfl) ?_
 have hi := y70 _ c.cons (fun x => x.id == id) 135 (.p [i64 id]) rfl (fun x _ => y29 x id) ho.1.1
 obtain ⟨i, hi0, hx⟩ := q0x h
 rw [hi0] at hi
 have hg := gm Con.cs hx
 refine z6 rfl (hi) rfl ⟨trivial, (List.forall_mem_cons.2 ⟨⟨trivial, trivial⟩, (fun _ h => nomatch h)⟩), trivial⟩ ?_
 refine xj (k := 1) rfl ?_
 refine xs rfl (Int.natCast_nonneg _) ?_
 refine ya rfl _ hg ?_
 refine xs rfl rfl ?_
 refine xr rfl (z7 rfl ⟨(by decide), ⟨⟨rfl, rfl, rfl, trivial⟩, ⟨rfl, rfl, trivial⟩, trivial⟩, z1 rfl⟩)
 all_goals first
  | (exfalso; simp at b0; omega)
  | skip
theorem z10 (c : Clu) (ho : y00 c) (id s : Int) : PC Tryz.prog 201 [.one (.p c.cs), .one (i64 id), .one (i64 s)] (rB (q0s c.cons id s)) := by
 refine PC.begin Tryz.func201 rfl (by kernel_rfl) ?_
 cases h : q05 c.cons id with
 | none =>
   have e : q0s c.cons id s = false := by unfold q0s; rw [h]
   rw [e]
   refine z6 rfl (z13 c ho id h) rfl ⟨trivial, trivial, trivial⟩ ?_
   refine xj (k := 6) rfl ?_
   refine xr rfl (z7 rfl ⟨⟨rfl, rfl, trivial⟩, z1 rfl⟩)
 | some x =>
   obtain ⟨i, hi, hx⟩ := q0x h
   have hxl := ho.1.2 x (List.mem_of_getElem? hx)
   have e : q0s c.cons id s = decide (0 < (zf x s).length) := by unfold q0s; rw [h, y67]
   rw [e]
   refine z6 rfl (q0o c ho id x h) rfl ⟨trivial, trivial, trivial⟩ ?_
   refine xj (k := 3) rfl ?_
   refine z6 rfl (y0p _ _ (by omega)) rfl ⟨⟨trivial, trivial, trivial⟩, trivial, trivial⟩ ?_
   refine xj (k := 3) rfl ?_
   refine xr rfl (z7 rfl ⟨⟨rfl, ?_, trivial⟩, z1 rfl⟩)
   all_goals (refine vb ?_; simp)
theorem q2e (rr : List (List Cell)) : PC Tryz.prog 113 [.one (.l rr)] (rI rr.length) := by
 refine PC.begin Tryz.func113 rfl (by kernel_rfl) ?_
 refine xr rfl (z7 rfl ⟨⟨rfl, rfl, trivial⟩, z1 rfl⟩)
theorem y1a (rr : List (List Cell)) : PC Tryz.prog 114 [.one (.l rr)] (rI rr.length) := by
 refine PC.begin Tryz.func114 rfl (by kernel_rfl) ?_
 refine xr rfl (z7 rfl ⟨⟨rfl, rfl, trivial⟩, z1 rfl⟩)
theorem q47 (rr : List (List Cell)) : PC Tryz.prog 350 [.one (.l rr)] (rI rr.length) := by
 refine PC.begin Tryz.func350 rfl (by kernel_rfl) ?_
 refine xr rfl (z7 rfl ⟨⟨rfl, rfl, trivial⟩, z1 rfl⟩)
theorem y22 (rows : List (List Cell)) (n : Int) (hl : rows.length ≤ 1048576) : PC Tryz.prog 166 [.one (i64 n), .one (.l rows)] (rB (within n 0 ((rows.length : Int) - 1))) := by
 refine PC.begin Tryz.func166 rfl (by kernel_rfl) ?_
 have hw : IntKind.i64.wrap ((rows.length : Int) - 1) = (rows.length : Int) - 1 := wrap_i64 (by omega) (by omega)
 refine z6 rfl (q2e _) rfl ⟨trivial, trivial⟩ ?_
 refine z6 rfl (yk _ _ _) rfl ⟨trivial, trivial, trivial, trivial⟩ ?_
 refine xr rfl (z7 rfl ⟨⟨rfl, ?_, trivial⟩, z1 rfl⟩)
 all_goals (refine vb ?_; rw [hw])
theorem y0a (rows : List (List Cell)) (n : Int) (hl : rows.length ≤ 1048576) : PC Tryz.prog 285 [.one (i64 n), .one (.l rows)] (rB (within n 0 ((rows.length : Int) - 1))) := by
 refine PC.begin Tryz.func285 rfl (by kernel_rfl) ?_
 have hw : IntKind.i64.wrap ((rows.length : Int) - 1) = (rows.length : Int) - 1 := wrap_i64 (by omega) (by omega)
 refine z6 rfl (y1a _) rfl ⟨trivial, trivial⟩ ?_
 refine z6 rfl (yk _ _ _) rfl ⟨trivial, trivial, trivial, trivial⟩ ?_
 refine xr rfl (z7 rfl ⟨⟨rfl, ?_, trivial⟩, z1 rfl⟩)
 all_goals (refine vb ?_; rw [hw])
theorem q21 (rows : List (List Cell)) (n : Int) (hl : rows.length ≤ 1048576) : PC Tryz.prog 287 [.one (i64 n), .one (.l rows)] (rB (within n 0 ((rows.length : Int) - 1))) := by
 refine PC.begin Tryz.func287 rfl (by kernel_rfl) ?_
 have hw : IntKind.i64.wrap ((rows.length : Int) - 1) = (rows.length : Int) - 1 := wrap_i64 (by omega) (by omega)
 refine z6 rfl (q47 _) rfl ⟨trivial, trivial⟩ ?_
 refine z6 rfl (yk _ _ _) rfl ⟨trivial, trivial, trivial, trivial⟩ ?_
 refine xr rfl (z7 rfl ⟨⟨rfl, ?_, trivial⟩, z1 rfl⟩)
 all_goals (refine vb ?_; rw [hw])
end Go.Proofs.YtbnbjaedijbnpaaGreat
end
section
namespace Go.Proofs.YtbnbjaedijbnpaaGreat
open Go Go.Sx
set_option maxRecDepth 20000
set_option maxHeartbeats 4000000
theorem y5y : WideMaps.ArrKey Tryz.prog 93 2 2 := ⟨Tryz.underlying93, by kernel_rfl, by kernel_rfl, by kernel_rfl⟩
theorem szK : ∃ m, Tryz.prog.types.size = m + 1 := ⟨Tryz.prog.types.size - 1, by kernel_rfl⟩
theorem z9y : ∃ i, Tryz.prog.info? 2 = some i ∧ i.size = 1 := by
 have h : (match Tryz.prog.info? 2 with | some i => Nat.beq i.size 1 | none => false) = true := by kernel_rfl
 split at h
 · rename_i i hi; exact ⟨i, hi, Nat.eq_of_beq_eq_true h⟩
 · cases h
theorem z9j : y11 Tryz.prog 93 = some (.agg [.b (i64 0), .b (i64 0)]) := by kernel_rfl
theorem q3h {us : List Bal} (h : qd us = 0) : ∀ l ∈ us.map Bal.leg, inK l.a l.b ∧ l.small := fun l hl => by
 obtain ⟨x, hx, rfl⟩ := List.mem_map.1 hl
 have := (zt h).2.1 x hx
 simp [Bal.bad, Go.Sx.within] at this
 unfold inK Leg.small Bal.leg
 dsimp only
 omega
theorem y9h (c : Clu) (ho : y00 c) (hc : qn c = 0) (us : List Bal) (hub : qd us = 0) (sh : Int) (app : List Int) (hal : app.length ≤ 100) (happ : ∀ a ∈ app, ∃ x, q05 c.cons a = some x) :
 PM Tryz.prog 52 [.one (.p c.cs), .one (.l (us.map Bal.cs)), .one (i64 sh), .one (.l (ints app))] 93 2 (us.length + (z00 c sh app).length) (DL (us.map Bal.leg ++ z00 c sh app)) := by
 refine PM.begin Tryz.func52 rfl (by kernel_rfl) ?_
 have hL := y5y.law
 obtain ⟨i2, hi2, hs2⟩ := z9y
 have hKd := Maps.Keyed.of_law hL
 have hz : ∀ w, (zeroValue 2).run Tryz.prog w = .ok (.int .i64 0) w := fun w => by kernel_rfl
 have hul := (zt hub).1
 have hlok := q3h hub
 have hLl : (us.map Bal.leg).length = us.length := by simp
 refine z8r rfl rfl rfl Tryz.underlying89 rfl ?_
 refine qc rfl (ι := Nat) (fun i => i ≤ us.length) (fun i => ⟨[(21, sV (.int .i64 i)), (20, sV (.int .i64 (us.map Bal.cs).length)), (19, .one (.b (.l (us.map Bal.cs)))), (9, .one (.mx 0 18)), (3, .one (.b (.l (ints app)))), (2, sV (.int .i64 sh)), (0, .one (.b (.p c.cs)))], [(18, .mp 93 2 i (DL ((us.map Bal.leg).take i)) none)]⟩) (fun i => us.length - i) 0 (Nat.zero_le _) ?_ ?_
 · exact ⟨⟨rfl, rfl, rfl, ⟨rfl, rfl, rfl⟩, rfl, rfl, rfl, trivial⟩, ⟨⟨rfl, rfl, rfl, rfl, rfl⟩, trivial⟩, rfl⟩
 · intro i hi J hJ
   refine xb rfl (fun h => ?_) (fun h => ?_)
   · have h : i < us.length := by simpa using h
     obtain ⟨x, hx⟩ := gx h
     have hg := gm Bal.cs hx
     have hxl : (us.map Bal.leg)[i]? = some x.leg := by rw [List.getElem?_map, hx]; rfl
     have hxk := hlok x.leg (List.mem_of_getElem? hxl)
     have htk : ∀ l ∈ (us.map Bal.leg).take i, inK l.a l.b ∧ l.small := fun l hl => hlok l (List.mem_of_mem_take hl)
     have hkey : keyOf Tryz.prog 93 (z7s x.a x.b) = some (kP x.a x.b) := y3g y5y Tryz.underlying2 szK (q33 hxk.1)
     refine xs rfl (Int.natCast_nonneg _) ?_
     refine ya rfl _ hg ?_
     refine xs rfl rfl ?_
     refine zb rfl [] (.take 0 [] (.take 1 [] (.take 2 [5, 6, 9, 10, 11, 12] (.take 3 [] (.take 4 [5, 6, 9, 10, 11, 12] (.take 5 [] (.take 7 [] (.take 8 [9, 10, 11, 12] (.alt 6 (.take 9 [] (.alt 10 (.take 11 [] (.alt 12 .done .nil)) .nil)) (.alt 10 (.take 11 [] (.alt 6 (.take 9 [] (.alt 12 .done .nil)) .nil)) .nil)))))))))) (by kernel_rfl) ?_
     refine q5i rfl rfl Tryz.underlying93 hi2 hs2 z9j rfl ?_
     refine y1b rfl ?_ ?_
     · refine z8g rfl rfl rfl rfl Tryz.underlying89 Tryz.underlying2 hKd hz rfl rfl hkey (fun cc hat hwc => ?_)
       have hnx : cc = z11 ((us.map Bal.leg).take i) x.a x.b ∧ IntKind.i64.wrap (cc + x.v) = z11 ((us.map Bal.leg).take i) x.a x.b + x.v ∧ (Lit.int .i64 (z11 ((us.map Bal.leg).take i) x.a x.b + x.v)).wf = true := q3o y5y Tryz.underlying2 szK (l := x.leg) htk hxk (by rw [List.length_take]; omega) hat
       refine y9l rfl rfl rfl rfl rfl Tryz.underlying89 Tryz.underlying2 hL (show i < maxLen by unfold maxLen; omega) hz rfl rfl hkey (fun c2 born => ?_)
       refine q9l rfl rfl rfl rfl rfl Tryz.underlying2 rfl rfl (by rw [hnx.2.1]; exact hnx.2.2) ?_
       exact q9 rfl (hJ _ (i + 1) (by omega) (by omega) ⟨⟨cwi (by omega) (by omega) (by omega), rfl, rfl, ⟨rfl, rfl, rfl⟩, rfl, rfl, rfl, trivial⟩, ⟨⟨rfl, rfl, rfl, (by rw [hnx.2.1]; exact (y6i hxl).symm), rfl⟩, trivial⟩, rfl⟩)
     · refine y9l rfl rfl rfl rfl rfl Tryz.underlying89 Tryz.underlying2 hL (show i < maxLen by unfold maxLen; omega) hz rfl rfl hkey (fun c2 born => ?_)
       refine y7n rfl rfl rfl rfl Tryz.underlying89 Tryz.underlying2 hz rfl rfl hkey (fun cc hat hwc => ?_)
       have hnx : cc = z11 ((us.map Bal.leg).take i) x.a x.b ∧ IntKind.i64.wrap (cc + x.v) = z11 ((us.map Bal.leg).take i) x.a x.b + x.v ∧ (Lit.int .i64 (z11 ((us.map Bal.leg).take i) x.a x.b + x.v)).wf = true := q3o y5y Tryz.underlying2 szK (l := x.leg) htk hxk (by rw [List.length_take]; omega) hat
       refine q9l rfl rfl rfl rfl rfl Tryz.underlying2 rfl rfl (by rw [hnx.2.1]; exact hnx.2.2) ?_
       exact q9 rfl (hJ _ (i + 1) (by omega) (by omega) ⟨⟨cwi (by omega) (by omega) (by omega), rfl, rfl, ⟨rfl, rfl, rfl⟩, rfl, rfl, rfl, trivial⟩, ⟨⟨rfl, rfl, rfl, (by rw [hnx.2.1]; exact (y6i hxl).symm), rfl⟩, trivial⟩, rfl⟩)
   · have h : i = us.length := by have : ¬ i < us.length := (by simpa using h); omega
     subst h
     have e0 : (us.map Bal.leg).take us.length = us.map Bal.leg ++ z00 c sh (app.take 0) := by rw [List.take_of_length_le (by simp)]; simp [z00]
     refine qc rfl (ι := Nat) (fun k => k ≤ app.length) (fun k => ⟨[(40, sV (.int .i64 k)), (39, sV (.int .i64 (ints app).length)), (38, .one (.b (.l (ints app)))), (9, .one (.mx 0 18)), (2, sV (.int .i64 sh)), (0, .one (.b (.p c.cs)))], [(18, .mp 93 2 (us.length + (z00 c sh (app.take k)).length) (DL (us.map Bal.leg ++ z00 c sh (app.take k))) none)]⟩) (fun k => app.length - k) 0 (Nat.zero_le _) ?_ ?_
     · exact ⟨⟨rfl, rfl, rfl, ⟨rfl, rfl, rfl⟩, rfl, rfl, trivial⟩, ⟨⟨rfl, rfl, rfl, (by rw [e0]), rfl⟩, trivial⟩, rfl⟩
     · intro k hk Jk hJk
       refine xb rfl (fun hh => ?_) (fun hh => ?_)
       · have hh : k < app.length := by simpa using hh
         obtain ⟨a, ha⟩ := gx hh
         have hga := gm (fun n => [i64 n]) ha
         obtain ⟨x, hx⟩ := happ a (List.mem_of_getElem? ha)
         have hst := z3i (sh := sh) ha hx
         have hxl := (y0w (z0w hc (z1p hx).1).1).2
         have hln := z1u hc sh (app.take k)
         rw [List.length_take] at hln
         have hat4 : (zf x sh).length ≤ x.legs.length := List.length_filter_le _ _
         have hox := (y2j hc a).2
         rw [z20 hx] at hox
         have hlk : ∀ l ∈ zf x sh, inK l.a l.b ∧ l.small := fun l hl => hox l (List.mem_filter.1 hl).1
         have hnk := q2k hc sh (app.take k)
         refine xs rfl (Int.natCast_nonneg _) ?_
         refine ya rfl _ hga ?_
         refine xs rfl rfl ?_
         refine z6 rfl (q0o c ho a x hx) rfl ⟨trivial, trivial, trivial⟩ ?_
         refine z6 rfl (y0p _ _ (by omega)) rfl ⟨⟨trivial, trivial, trivial⟩, trivial, trivial⟩ ?_
         all_goals first
          | (exfalso; simp_all; done)
          | skip
         refine qc rfl (ι := Nat) (fun j => j ≤ (zf x sh).length) (fun j => ⟨[(54, sV (.int .i64 j)), (53, sV (.int .i64 ((zf x sh).map Leg.cs).length)), (52, .one (.b (.l ((zf x sh).map Leg.cs)))), (40, sV (.int .i64 k)), (39, sV (.int .i64 (ints app).length)), (38, .one (.b (.l (ints app)))), (9, .one (.mx 0 18)), (2, sV (.int .i64 sh)), (0, .one (.b (.p c.cs)))], [(18, .mp 93 2 (us.length + (z00 c sh (app.take k)).length + j) (DL (us.map Bal.leg ++ z00 c sh (app.take k) ++ (zf x sh).take j)) none)]⟩) (fun j => (zf x sh).length - j) 0 (Nat.zero_le _) ?_ ?_
         · exact ⟨⟨rfl, rfl, ⟨rfl, rfl, rfl⟩, rfl, rfl, rfl, ⟨rfl, rfl, rfl⟩, rfl, rfl, trivial⟩, ⟨⟨rfl, rfl, rfl, (by rw [List.take_zero, List.append_nil]), rfl⟩, trivial⟩, rfl⟩
         · intro j hj Jj hJj
           refine xb rfl (fun hq => ?_) (fun hq => ?_)
           · have hq : j < (zf x sh).length := by simpa using hq
             obtain ⟨l, hl⟩ := gx hq
             have hgl := gm Leg.cs hl
             have hlo := hlk l (List.mem_of_getElem? hl)
             have htk : ∀ l ∈ us.map Bal.leg ++ z00 c sh (app.take k) ++ (zf x sh).take j, inK l.a l.b ∧ l.small := fun y hy => by
              rcases List.mem_append.1 hy with hy | hy
              · rcases List.mem_append.1 hy with hy | hy
                · exact hlok y hy
                · exact hnk y hy
              · exact hlk y (List.mem_of_mem_take hy)
             have htl : (us.map Bal.leg ++ z00 c sh (app.take k) ++ (zf x sh).take j).length ≤ 100000 := by rw [List.length_append, List.length_append, List.length_take]; omega
             have hkey : keyOf Tryz.prog 93 (z7s l.a l.b) = some (kP l.a l.b) := y3g y5y Tryz.underlying2 szK (q33 hlo.1)
             refine xs rfl (Int.natCast_nonneg _) ?_
             refine ya rfl _ hgl ?_
             refine xs rfl rfl ?_
             refine zb rfl [] (.take 0 [] (.take 1 [] (.take 2 [5, 6, 9, 10, 11, 12] (.take 3 [] (.take 4 [5, 6, 9, 10, 11, 12] (.take 5 [] (.take 7 [] (.take 8 [9, 10, 11, 12] (.alt 6 (.take 9 [] (.alt 10 (.take 11 [] (.alt 12 .done .nil)) .nil)) (.alt 10 (.take 11 [] (.alt 6 (.take 9 [] (.alt 12 .done .nil)) .nil)) .nil)))))))))) (by kernel_rfl) ?_
             refine q5i rfl rfl Tryz.underlying93 hi2 hs2 z9j rfl ?_
             refine y1b rfl ?_ ?_
             · refine z8g rfl rfl rfl rfl Tryz.underlying89 Tryz.underlying2 hKd hz rfl rfl hkey (fun cc hat hwc => ?_)
               have hnx := q3o y5y Tryz.underlying2 szK htk hlo htl hat
               refine y9l rfl rfl rfl rfl rfl Tryz.underlying89 Tryz.underlying2 hL (show us.length + (z00 c sh (app.take k)).length + j < maxLen by unfold maxLen; omega) hz rfl rfl hkey (fun c2 born => ?_)
               refine q9l rfl rfl rfl rfl rfl Tryz.underlying2 rfl rfl (by rw [hnx.2.1]; exact hnx.2.2) ?_
               exact q9 rfl (hJj _ (j + 1) (by omega) (by omega) ⟨⟨cwi (by omega) (by omega) (by omega), rfl, rfl, rfl, rfl, rfl, ⟨rfl, rfl, rfl⟩, rfl, rfl, trivial⟩, ⟨⟨rfl, rfl, rfl, (by rw [List.take_add_one, hl, Option.toList_some, ← List.append_assoc, z3p, hnx.2.1]), rfl⟩, trivial⟩, rfl⟩)
             · refine y9l rfl rfl rfl rfl rfl Tryz.underlying89 Tryz.underlying2 hL (show us.length + (z00 c sh (app.take k)).length + j < maxLen by unfold maxLen; omega) hz rfl rfl hkey (fun c2 born => ?_)
               refine y7n rfl rfl rfl rfl Tryz.underlying89 Tryz.underlying2 hz rfl rfl hkey (fun cc hat hwc => ?_)
               have hnx := q3o y5y Tryz.underlying2 szK htk hlo htl hat
               refine q9l rfl rfl rfl rfl rfl Tryz.underlying2 rfl rfl (by rw [hnx.2.1]; exact hnx.2.2) ?_
               exact q9 rfl (hJj _ (j + 1) (by omega) (by omega) ⟨⟨cwi (by omega) (by omega) (by omega), rfl, rfl, rfl, rfl, rfl, ⟨rfl, rfl, rfl⟩, rfl, rfl, trivial⟩, ⟨⟨rfl, rfl, rfl, (by rw [List.take_add_one, hl, Option.toList_some, ← List.append_assoc, z3p, hnx.2.1]), rfl⟩, trivial⟩, rfl⟩)
           · have hq : j = (zf x sh).length := by have : ¬ j < (zf x sh).length := (by simpa using hq); omega
             subst hq
             exact q9 rfl (hJk _ (k + 1) (by omega) (by omega) ⟨⟨cwi (by omega) (by omega) (by omega), rfl, rfl, ⟨rfl, rfl, rfl⟩, rfl, rfl, trivial⟩, ⟨⟨rfl, rfl, (by rw [hst, List.length_append]; omega), (by rw [hst, List.take_length, List.append_assoc]), rfl⟩, trivial⟩, rfl⟩)
       · have hh : k = app.length := by have : ¬ k < app.length := (by simpa using hh); omega
         subst hh
         rw [List.take_length]
         exact xr rfl (qao rfl 8 18 rfl rfl rfl)
end Go.Proofs.YtbnbjaedijbnpaaGreat
end
section
namespace Go.Proofs.YtbnbjaedijbnpaaGreat
open Go Go.Sx
set_option maxRecDepth 20000
set_option maxHeartbeats 4000000
theorem z3b (rows : List (List Cell)) (hl : rows.length ≤ 1048576) : PC Tryz.prog 125 [.one (.l rows)] (rI rows.length) := by
 refine PC.begin Tryz.func125 rfl (by kernel_rfl) ?_
 refine xr rfl (z7 rfl ⟨⟨rfl, rfl, trivial⟩, z1 rfl⟩)
theorem z9f (l : List (List Bal)) (hl : l.length ≤ 1048576) (hb : ∀ us ∈ l, us.length ≤ 1048576) : PC Tryz.prog 39 [.agg [.l (qj l)]] (rI (zu l)) := by
 refine PC.begin Tryz.func39 rfl (by kernel_rfl) ?_
 refine z9l (n := 0) rfl (ι := Unit) (fun _ => True) (fun _ => ⟨[(1, .one (.a 1 0))], [(1, .var [.b (.l (qj l))])]⟩) ?_ ?_
 · intro K hK
   exact q9 rfl (hK _ () trivial ⟨⟨⟨rfl, rfl, rfl⟩, trivial⟩, ⟨⟨rfl, trivial⟩, trivial⟩, rfl⟩)
 intro _ _
 have hle : (qj l).length = l.length := by simp
 by_cases hn : l.length < 1 ∨ 3 < l.length
 · have hr : zu l = 2 := by unfold zu; rw [if_pos hn]
   rw [hr]
   refine xb rfl (fun b0 => ?_) (fun b0 => ?_)
   refine xj (k := 5) rfl ?_
   refine xr rfl (z7 rfl ⟨⟨rfl, rfl, trivial⟩, z1 rfl⟩)
   refine xj (k := 4) rfl ?_
   refine xb rfl (fun b1 => ?_) (fun b1 => ?_)
   refine xr rfl (z7 rfl ⟨⟨rfl, rfl, trivial⟩, z1 rfl⟩)
   all_goals (exfalso; simp only [hle, decide_eq_true_eq, decide_eq_false_iff_not] at *; omega)
 have hr : zu l = scan (y40 l) l.length := by unfold zu; rw [if_neg hn]
 rw [hr]
 refine xb rfl (fun b0 => ?_) (fun b0 => ?_)
 refine xj (k := 5) rfl ?_
 refine xr rfl (z7 rfl ⟨⟨rfl, ?_, trivial⟩, z1 rfl⟩)
 rotate_left
 refine xj (k := 4) rfl ?_
 refine xb rfl (fun b1 => ?_) (fun b1 => ?_)
 refine xr rfl (z7 rfl ⟨⟨rfl, ?_, trivial⟩, z1 rfl⟩)
 rotate_left
 rotate_left
 all_goals first
  | (exfalso; simp only [hle, decide_eq_true_eq, decide_eq_false_iff_not] at *; omega)
  | skip
 refine qc rfl (ι := Nat) (fun i => i ≤ l.length ∧ ∀ j, j < i → y40 l j = 0) (fun i => ⟨[(3, sV (.int .i64 i)), (1, .one (.a 1 0))], [(1, .var [.b (.l (qj l))])]⟩) (fun i => l.length - i) 0 ⟨Nat.zero_le _, fun j hj => by omega⟩ ?_ ?_
 · exact ⟨⟨rfl, ⟨rfl, rfl, rfl⟩, trivial⟩, ⟨⟨rfl, trivial⟩, trivial⟩, rfl⟩
 · intro i ⟨hi, h0⟩ J hJ
   refine xb rfl (fun h => ?_) (fun h => ?_)
   · have h : i < l.length := by simpa using h
     obtain ⟨us, hx⟩ := gx h
     have hg := gm z2c hx
     have hul := hb us (List.mem_of_getElem? hx)
     have hq := q44 us hul
     have hf := q40 hx
     refine xs rfl (Int.natCast_nonneg _) ?_
     refine ya rfl _ hg ?_
     refine xs rfl rfl ?_
     refine z6 rfl (q44 _ (by omega)) rfl ⟨trivial, trivial⟩ ?_
     refine xb rfl (fun b0 => ?_) (fun b0 => ?_)
     refine xr rfl (z7 rfl ⟨⟨rfl, ?_, trivial⟩, z1 rfl⟩)
     rotate_left
     rotate_left
     · exact vi (q7 h h0 (by rw [hf]) (by simpa using b0))
     · exact q9 rfl (hJ _ (i + 1) ⟨by omega, za h0 (by rw [hf]; simpa using b0)⟩ (by omega) ⟨⟨cwi (by omega) (by omega) (by omega), ⟨rfl, rfl, rfl⟩, trivial⟩, ⟨⟨rfl, trivial⟩, trivial⟩, rfl⟩)
   · have h : ¬ i < l.length := by simpa using h
     have hz := yd (f := y40 l) (n := l.length) (fun j hj => h0 j (by omega))
     refine xr rfl (z7 rfl ⟨⟨rfl, ?_, trivial⟩, z1 rfl⟩)
     exact vi hz.symm
theorem y92 (l : List (List Bal)) (hl : l.length ≤ 1048576) (hb : ∀ us ∈ l, us.length ≤ 1048576) : PC Tryz.prog 51 [.agg [.l (qj l)]] (rI (zu l)) := by
 refine PC.begin Tryz.func51 rfl (by kernel_rfl) ?_
 refine z9l (n := 0) rfl (ι := Unit) (fun _ => True) (fun _ => ⟨[(1, .one (.a 1 0))], [(1, .var [.b (.l (qj l))])]⟩) ?_ ?_
 · intro K hK
   exact q9 rfl (hK _ () trivial ⟨⟨⟨rfl, rfl, rfl⟩, trivial⟩, ⟨⟨rfl, trivial⟩, trivial⟩, rfl⟩)
 intro _ _
 have hle : (qj l).length = l.length := by simp
 have hsz : (Go.Sx.within (((qj l).length : Nat) : Int) 1 3 = true) = (1 ≤ l.length ∧ l.length ≤ 3) := by rw [Go.Sx.within_iff, hle]; apply propext; omega
 have hsl := z3b (qj l) (by omega)
 by_cases hn : l.length < 1 ∨ 3 < l.length
 · have hr : zu l = 2 := by unfold zu; rw [if_pos hn]
   rw [hr]
   refine z6 rfl (hsl) rfl ⟨trivial, trivial⟩ ?_
   refine z6 rfl (yk _ _ _) rfl ⟨trivial, trivial, trivial, trivial⟩ ?_
   refine xb rfl (fun b0 => ?_) (fun b0 => ?_)
   refine xr rfl (z7 rfl ⟨⟨rfl, rfl, trivial⟩, z1 rfl⟩)
   exfalso
   have h3 : 1 ≤ l.length ∧ l.length ≤ 3 := by rw [← hsz]; simpa using b0
   omega
 have hr : zu l = scan (y40 l) l.length := by unfold zu; rw [if_neg hn]
 rw [hr]
 have h3 : Go.Sx.within (((qj l).length : Nat) : Int) 1 3 = true := by rw [hsz]; omega
 refine z6 rfl (hsl) rfl ⟨trivial, trivial⟩ ?_
 refine z6 rfl (yk _ _ _) rfl ⟨trivial, trivial, trivial, trivial⟩ ?_
 refine xb rfl (fun b0 => ?_) (fun b0 => ?_)
 refine xr rfl (z7 rfl ⟨⟨rfl, ?_, trivial⟩, z1 rfl⟩)
 rotate_left
 rotate_left
 · exfalso
   rw [h3] at b0
   cases b0
 refine qc rfl (ι := Nat) (fun i => i ≤ l.length ∧ ∀ j, j < i → y40 l j = 0) (fun i => ⟨[(14, sV (.int .i64 i)), (13, sV (.int .i64 (qj l).length)), (12, .one (.b (.l (qj l))))], []⟩) (fun i => l.length - i) 0 ⟨Nat.zero_le _, fun j hj => by omega⟩ ?_ ?_
 · exact ⟨⟨rfl, rfl, rfl, trivial⟩, trivial, rfl⟩
 · intro i ⟨hi, h0⟩ J hJ
   refine xb rfl (fun h => ?_) (fun h => ?_)
   · have h : i < l.length := by simpa using h
     obtain ⟨us, hx⟩ := gx h
     have hg := gm z2c hx
     have hul := hb us (List.mem_of_getElem? hx)
     have hq := y3x us hul
     have hf := q40 hx
     refine xs rfl (Int.natCast_nonneg _) ?_
     refine ya rfl _ hg ?_
     refine xs rfl rfl ?_
     refine z6 rfl (y3x _ (by omega)) rfl ⟨trivial, trivial⟩ ?_
     refine xb rfl (fun b0 => ?_) (fun b0 => ?_)
     refine xr rfl (z7 rfl ⟨⟨rfl, ?_, trivial⟩, z1 rfl⟩)
     rotate_left
     rotate_left
     · exact vi (q7 h h0 (by rw [hf]) (by simpa using b0))
     · exact q9 rfl (hJ _ (i + 1) ⟨by omega, za h0 (by rw [hf]; simpa using b0)⟩ (by omega) ⟨⟨cwi (by omega) (by omega) (by omega), rfl, rfl, trivial⟩, trivial, rfl⟩)
   · have h : ¬ i < l.length := by simpa using h
     have hz := yd (f := y40 l) (n := l.length) (fun j hj => h0 j (by omega))
     refine xr rfl (z7 rfl ⟨⟨rfl, ?_, trivial⟩, z1 rfl⟩)
     exact vi hz.symm
end Go.Proofs.YtbnbjaedijbnpaaGreat
end
section
namespace Go.Proofs.YtbnbjaedijbnpaaGreat
open Go Go.Sx
set_option maxRecDepth 20000
set_option maxHeartbeats 4000000
abbrev zau (m : Msg) : Res := .one (.own true [.s (.int .i64 m.k), .s (.int .i64 m.to), .s (.int .i64 m.fr), .s (.int .i64 m.c), .s (.int .i64 m.s), .s (.int .i64 m.b), .s (.int .i64 m.v), .s (.int .i64 m.ob), .s (.int .i64 m.ov)])
theorem kinds {k : Int} (h : Go.Sx.within k 1 6 = true) : k = 1 ∨ k = 2 ∨ k = 3 ∨ k = 4 ∨ k = 5 ∨ k = 6 := by
 have := Go.Sx.within_iff.1 h
 omega
theorem wl1 {α β : Type} (f : α → β) {us : List α} (h : us.length ≤ 1048576) : IntKind.i64.wrap (((us.map f).length : Int) - 1) = (us.length : Int) - 1 := by rw [List.length_map]; exact wrap_i64 (by omega) (by omega)
theorem q09 {α : Type} {p : α → Bool} {l : List α} : decide (y14 p l < 0) = (l.find? p).isNone := by
 cases h : l.find? p with
 | none => rw [y1l h]; rfl
 | some x =>
   obtain ⟨i, hi, _⟩ := q0x h
   rw [hi]; simp
theorem q0a (m : Msg) (hk : Go.Sx.within m.k 1 6 = true) : PC Tryz.prog 187 [.agg m.cs] (zau m.bare) := by
 refine PC.begin Tryz.func187 rfl (by kernel_rfl) ?_
 obtain ⟨k, to, fr, c, s, b, v, ob, ov⟩ := m
 rcases kinds hk with h | h | h | h | h | h
 · dsimp only at h
   subst h
   rw [show Msg.bare ⟨1, to, fr, c, s, b, v, ob, ov⟩ = ⟨1, to, 0, c, 0, 0, 0, 0, 0⟩ from rfl]
   refine xj (k := 20) rfl ?_
   refine xr rfl (z7 rfl ⟨⟨rfl, rfl, rfl, rfl, rfl, rfl, rfl, rfl, rfl, rfl, trivial⟩, z1 rfl⟩)
 · dsimp only at h
   subst h
   rw [show Msg.bare ⟨2, to, fr, c, s, b, v, ob, ov⟩ = ⟨2, to, 0, c, s, b, v, 0, 0⟩ from rfl]
   refine xj (k := 20) rfl ?_
   refine xr rfl (z7 rfl ⟨⟨rfl, rfl, rfl, rfl, rfl, rfl, rfl, rfl, rfl, rfl, trivial⟩, z1 rfl⟩)
 · dsimp only at h
   subst h
   rw [show Msg.bare ⟨3, to, fr, c, s, b, v, ob, ov⟩ = ⟨3, to, fr, c, s, b, v, 0, 0⟩ from rfl]
   refine xj (k := 20) rfl ?_
   refine xr rfl (z7 rfl ⟨⟨rfl, rfl, rfl, rfl, rfl, rfl, rfl, rfl, rfl, rfl, trivial⟩, z1 rfl⟩)
 · dsimp only at h
   subst h
   rw [show Msg.bare ⟨4, to, fr, c, s, b, v, ob, ov⟩ = ⟨4, to, fr, c, s, b, 0, 0, 0⟩ from rfl]
   refine xj (k := 20) rfl ?_
   refine xr rfl (z7 rfl ⟨⟨rfl, rfl, rfl, rfl, rfl, rfl, rfl, rfl, rfl, rfl, trivial⟩, z1 rfl⟩)
 · dsimp only at h
   subst h
   rw [show Msg.bare ⟨5, to, fr, c, s, b, v, ob, ov⟩ = ⟨5, to, fr, c, s, b, 0, ob, ov⟩ from rfl]
   refine xj (k := 20) rfl ?_
   refine xr rfl (z7 rfl ⟨⟨rfl, rfl, rfl, rfl, rfl, rfl, rfl, rfl, rfl, rfl, trivial⟩, z1 rfl⟩)
 · dsimp only at h
   subst h
   rw [show Msg.bare ⟨6, to, fr, c, s, b, v, ob, ov⟩ = ⟨6, to, 0, c, 0, 0, v, 0, 0⟩ from rfl]
   refine xj (k := 20) rfl ?_
   refine xr rfl (z7 rfl ⟨⟨rfl, rfl, rfl, rfl, rfl, rfl, rfl, rfl, rfl, rfl, trivial⟩, z1 rfl⟩)
theorem q86 (m : Msg) (hk : Go.Sx.within m.k 1 6 = true) : PC Tryz.prog 212 [.agg m.cs] (zau m.bare) := by
 refine PC.begin Tryz.func212 rfl (by kernel_rfl) ?_
 obtain ⟨k, to, fr, c, s, b, v, ob, ov⟩ := m
 rcases kinds hk with h | h | h | h | h | h
 · dsimp only at h
   subst h
   rw [show Msg.bare ⟨1, to, fr, c, s, b, v, ob, ov⟩ = ⟨1, to, 0, c, 0, 0, 0, 0, 0⟩ from rfl]
   refine xj (k := 10) rfl ?_
   refine xr rfl (z7 rfl ⟨⟨rfl, rfl, rfl, rfl, rfl, rfl, rfl, rfl, rfl, rfl, trivial⟩, z1 rfl⟩)
 · dsimp only at h
   subst h
   rw [show Msg.bare ⟨2, to, fr, c, s, b, v, ob, ov⟩ = ⟨2, to, 0, c, s, b, v, 0, 0⟩ from rfl]
   refine xj (k := 5) rfl ?_
   refine zb rfl [] (.take 0 [] (.take 1 [4, 5, 6, 7] (.take 2 [] (.take 4 [] (.alt 3 (.alt 5 (.take 6 [] (.alt 7 .done .nil)) .nil) (.alt 5 (.take 3 [6, 7] (.take 6 [] (.alt 7 .done .nil))) .nil)))))) (by kernel_rfl) ?_
   refine y1b rfl ?_ ?_
   refine xj (k := 2) rfl ?_
   refine xr rfl (z7 rfl ⟨⟨rfl, rfl, rfl, rfl, rfl, rfl, rfl, rfl, rfl, rfl, trivial⟩, z1 rfl⟩)
   refine xj (k := 2) rfl ?_
   refine xr rfl (z7 rfl ⟨⟨rfl, rfl, rfl, rfl, rfl, rfl, rfl, rfl, rfl, rfl, trivial⟩, z1 rfl⟩)
 · dsimp only at h
   subst h
   rw [show Msg.bare ⟨3, to, fr, c, s, b, v, ob, ov⟩ = ⟨3, to, fr, c, s, b, v, 0, 0⟩ from rfl]
   refine xj (k := 5) rfl ?_
   refine zb rfl [] (.take 0 [] (.take 1 [4, 5, 6, 7] (.take 2 [] (.take 4 [] (.alt 3 (.alt 5 (.take 6 [] (.alt 7 .done .nil)) .nil) (.alt 5 (.take 3 [6, 7] (.take 6 [] (.alt 7 .done .nil))) .nil)))))) (by kernel_rfl) ?_
   refine y1b rfl ?_ ?_
   refine xj (k := 3) rfl ?_
   refine zb rfl [] (.take 0 [] (.take 1 [4, 5, 6, 7] (.take 2 [] (.take 4 [] (.alt 3 (.alt 5 (.take 6 [] (.alt 7 .done .nil)) .nil) (.alt 5 (.take 3 [6, 7] (.take 6 [] (.alt 7 .done .nil))) .nil)))))) (by kernel_rfl) ?_
   refine y1b rfl ?_ ?_
   refine xr rfl (z7 rfl ⟨⟨rfl, rfl, rfl, rfl, rfl, rfl, rfl, rfl, rfl, rfl, trivial⟩, z1 rfl⟩)
   refine xr rfl (z7 rfl ⟨⟨rfl, rfl, rfl, rfl, rfl, rfl, rfl, rfl, rfl, rfl, trivial⟩, z1 rfl⟩)
   refine xj (k := 3) rfl ?_
   refine zb rfl [] (.take 0 [] (.take 1 [4, 5, 6, 7] (.take 2 [] (.take 4 [] (.alt 3 (.alt 5 (.take 6 [] (.alt 7 .done .nil)) .nil) (.alt 5 (.take 3 [6, 7] (.take 6 [] (.alt 7 .done .nil))) .nil)))))) (by kernel_rfl) ?_
   refine y1b rfl ?_ ?_
   refine xr rfl (z7 rfl ⟨⟨rfl, rfl, rfl, rfl, rfl, rfl, rfl, rfl, rfl, rfl, trivial⟩, z1 rfl⟩)
   refine xr rfl (z7 rfl ⟨⟨rfl, rfl, rfl, rfl, rfl, rfl, rfl, rfl, rfl, rfl, trivial⟩, z1 rfl⟩)
 · dsimp only at h
   subst h
   rw [show Msg.bare ⟨4, to, fr, c, s, b, v, ob, ov⟩ = ⟨4, to, fr, c, s, b, 0, 0, 0⟩ from rfl]
   refine xj (k := 5) rfl ?_
   refine zb rfl [] (.take 0 [] (.take 1 [4, 5, 6, 7] (.take 2 [] (.take 4 [] (.alt 3 (.alt 5 (.take 6 [] (.alt 7 .done .nil)) .nil) (.alt 5 (.take 3 [6, 7] (.take 6 [] (.alt 7 .done .nil))) .nil)))))) (by kernel_rfl) ?_
   refine y1b rfl ?_ ?_
   refine xj (k := 4) rfl ?_
   refine xr rfl (z7 rfl ⟨⟨rfl, rfl, rfl, rfl, rfl, rfl, rfl, rfl, rfl, rfl, trivial⟩, z1 rfl⟩)
   refine xj (k := 4) rfl ?_
   refine xr rfl (z7 rfl ⟨⟨rfl, rfl, rfl, rfl, rfl, rfl, rfl, rfl, rfl, rfl, trivial⟩, z1 rfl⟩)
 · dsimp only at h
   subst h
   rw [show Msg.bare ⟨5, to, fr, c, s, b, v, ob, ov⟩ = ⟨5, to, fr, c, s, b, 0, ob, ov⟩ from rfl]
   refine xj (k := 5) rfl ?_
   refine zb rfl [] (.take 0 [] (.take 1 [4, 5, 6, 7] (.take 2 [] (.take 4 [] (.alt 3 (.alt 5 (.take 6 [] (.alt 7 .done .nil)) .nil) (.alt 5 (.take 3 [6, 7] (.take 6 [] (.alt 7 .done .nil))) .nil)))))) (by kernel_rfl) ?_
   refine y1b rfl ?_ ?_
   refine xj (k := 5) rfl ?_
   refine zb rfl [] (.take 0 [] (.take 1 [4, 5, 6, 7] (.take 2 [] (.take 4 [] (.alt 3 (.alt 5 (.take 6 [] (.alt 7 .done .nil)) .nil) (.alt 5 (.take 3 [6, 7] (.take 6 [] (.alt 7 .done .nil))) .nil)))))) (by kernel_rfl) ?_
   refine y1b rfl ?_ ?_
   refine xr rfl (z7 rfl ⟨⟨rfl, rfl, rfl, rfl, rfl, rfl, rfl, rfl, rfl, rfl, trivial⟩, z1 rfl⟩)
   refine xr rfl (z7 rfl ⟨⟨rfl, rfl, rfl, rfl, rfl, rfl, rfl, rfl, rfl, rfl, trivial⟩, z1 rfl⟩)
   refine xj (k := 5) rfl ?_
   refine zb rfl [] (.take 0 [] (.take 1 [4, 5, 6, 7] (.take 2 [] (.take 4 [] (.alt 3 (.alt 5 (.take 6 [] (.alt 7 .done .nil)) .nil) (.alt 5 (.take 3 [6, 7] (.take 6 [] (.alt 7 .done .nil))) .nil)))))) (by kernel_rfl) ?_
   refine y1b rfl ?_ ?_
   refine xr rfl (z7 rfl ⟨⟨rfl, rfl, rfl, rfl, rfl, rfl, rfl, rfl, rfl, rfl, trivial⟩, z1 rfl⟩)
   refine xr rfl (z7 rfl ⟨⟨rfl, rfl, rfl, rfl, rfl, rfl, rfl, rfl, rfl, rfl, trivial⟩, z1 rfl⟩)
 · dsimp only at h
   subst h
   rw [show Msg.bare ⟨6, to, fr, c, s, b, v, ob, ov⟩ = ⟨6, to, 0, c, 0, 0, v, 0, 0⟩ from rfl]
   refine xj (k := 7) rfl ?_
   refine xr rfl (z7 rfl ⟨⟨rfl, rfl, rfl, rfl, rfl, rfl, rfl, rfl, rfl, rfl, trivial⟩, z1 rfl⟩)
theorem z1e (c : Clu) (ho : y00 c) (m : Msg) (hk : Go.Sx.within m.k 1 6 = true) : PC Tryz.prog 184 [.one (.p c.cs), .agg m.cs] (rB (ends c m)) := by
 refine PC.begin Tryz.func184 rfl (by kernel_rfl) ?_
 have q1 := ho.2.1.1
 have q2 := ho.2.2.1.1
 have q3 := ho.2.2.2.1.1
 have p1 : (c.shs.map Shd.cs).length ≤ 1048576 := by simpa using q1
 have p2 : (c.accs.map Acc.cs).length ≤ 1048576 := by simpa using q2
 have p3 : (c.ldrs.map Ldr.cs).length ≤ 1048576 := by simpa using q3
 have w1 := wl1 Shd.cs q1
 have w2 := wl1 Acc.cs q2
 have w3 := wl1 Ldr.cs q3
 obtain ⟨k, to, fr, mc, s, b, v, ob, ov⟩ := m
 rcases kinds hk with h | h | h | h | h | h
 · dsimp only at h
   subst h
   refine xj (k := 11) rfl ?_
   refine z6 rfl (qi _ _ _) rfl ⟨trivial, trivial, trivial, trivial⟩ ?_
   refine xb rfl (fun b0 => ?_) (fun b0 => ?_)
   refine xj (k := 17) rfl ?_
   refine xr rfl (z7 rfl ⟨⟨rfl, ?_, trivial⟩, z1 rfl⟩)
   rotate_left
   refine xj (k := 7) rfl ?_
   refine xr rfl (z7 rfl ⟨⟨rfl, ?_, trivial⟩, z1 rfl⟩)
   rotate_left
   all_goals (refine vb ?_; simp_all [ends, toN, frN]; done)
 · dsimp only at h
   subst h
   refine xj (k := 11) rfl ?_
   refine z6 rfl (qi _ _ _) rfl ⟨trivial, trivial, trivial, trivial⟩ ?_
   refine xb rfl (fun b0 => ?_) (fun b0 => ?_)
   refine xj (k := 17) rfl ?_
   refine xr rfl (z7 rfl ⟨⟨rfl, ?_, trivial⟩, z1 rfl⟩)
   rotate_left
   refine xj (k := 7) rfl ?_
   refine xr rfl (z7 rfl ⟨⟨rfl, ?_, trivial⟩, z1 rfl⟩)
   rotate_left
   all_goals (refine vb ?_; simp_all [ends, toN, frN]; done)
 · dsimp only at h
   subst h
   refine xj (k := 11) rfl ?_
   refine z6 rfl (qi _ _ _) rfl ⟨trivial, trivial, trivial, trivial⟩ ?_
   refine xb rfl (fun b0 => ?_) (fun b0 => ?_)
   refine xj (k := 14) rfl ?_
   refine z6 rfl (qi _ _ _) rfl ⟨trivial, trivial, trivial, trivial⟩ ?_
   refine xj (k := 3) rfl ?_
   refine xr rfl (z7 rfl ⟨⟨rfl, ?_, trivial⟩, z1 rfl⟩)
   rotate_left
   refine xj (k := 7) rfl ?_
   refine xr rfl (z7 rfl ⟨⟨rfl, ?_, trivial⟩, z1 rfl⟩)
   rotate_left
   all_goals (refine vb ?_; simp_all [ends, toN, frN]; done)
 · dsimp only at h
   subst h
   refine xj (k := 11) rfl ?_
   refine z6 rfl (qi _ _ _) rfl ⟨trivial, trivial, trivial, trivial⟩ ?_
   refine xb rfl (fun b0 => ?_) (fun b0 => ?_)
   refine xj (k := 14) rfl ?_
   refine z6 rfl (qi _ _ _) rfl ⟨trivial, trivial, trivial, trivial⟩ ?_
   refine xj (k := 3) rfl ?_
   refine xr rfl (z7 rfl ⟨⟨rfl, ?_, trivial⟩, z1 rfl⟩)
   rotate_left
   refine xj (k := 7) rfl ?_
   refine xr rfl (z7 rfl ⟨⟨rfl, ?_, trivial⟩, z1 rfl⟩)
   rotate_left
   all_goals (refine vb ?_; simp_all [ends, toN, frN]; done)
 · dsimp only at h
   subst h
   refine xj (k := 11) rfl ?_
   refine z6 rfl (qi _ _ _) rfl ⟨trivial, trivial, trivial, trivial⟩ ?_
   refine xb rfl (fun b0 => ?_) (fun b0 => ?_)
   refine xj (k := 14) rfl ?_
   refine z6 rfl (qi _ _ _) rfl ⟨trivial, trivial, trivial, trivial⟩ ?_
   refine xj (k := 3) rfl ?_
   refine xr rfl (z7 rfl ⟨⟨rfl, ?_, trivial⟩, z1 rfl⟩)
   rotate_left
   refine xj (k := 7) rfl ?_
   refine xr rfl (z7 rfl ⟨⟨rfl, ?_, trivial⟩, z1 rfl⟩)
   rotate_left
   all_goals (refine vb ?_; simp_all [ends, toN, frN]; done)
 · dsimp only at h
   subst h
   refine xj (k := 11) rfl ?_
   refine z6 rfl (qi _ _ _) rfl ⟨trivial, trivial, trivial, trivial⟩ ?_
   refine xb rfl (fun b0 => ?_) (fun b0 => ?_)
   refine xj (k := 17) rfl ?_
   refine xr rfl (z7 rfl ⟨⟨rfl, ?_, trivial⟩, z1 rfl⟩)
   rotate_left
   refine xj (k := 7) rfl ?_
   refine xr rfl (z7 rfl ⟨⟨rfl, ?_, trivial⟩, z1 rfl⟩)
   rotate_left
   all_goals (refine vb ?_; simp_all [ends, toN, frN]; done)
theorem y96 (c : Clu) (ho : y00 c) (m : Msg) (hk : Go.Sx.within m.k 1 6 = true) : PC Tryz.prog 209 [.one (.p c.cs), .agg m.cs] (rB (within m.to 0 ((toN c m : Int) - 1))) := by
 refine PC.begin Tryz.func209 rfl (by kernel_rfl) ?_
 have q1 := ho.2.1.1
 have q2 := ho.2.2.1.1
 have q3 := ho.2.2.2.1.1
 have p1 : (c.shs.map Shd.cs).length ≤ 1048576 := by simpa using q1
 have p2 : (c.accs.map Acc.cs).length ≤ 1048576 := by simpa using q2
 have p3 : (c.ldrs.map Ldr.cs).length ≤ 1048576 := by simpa using q3
 have w1 := wl1 Shd.cs q1
 have w2 := wl1 Acc.cs q2
 have w3 := wl1 Ldr.cs q3
 obtain ⟨k, to, fr, mc, s, b, v, ob, ov⟩ := m
 rcases kinds hk with h | h | h | h | h | h
 · dsimp only at h
   subst h
   refine xj (k := 2) rfl ?_
   refine zb rfl [] (.take 0 [] (.take 1 [6, 7] (.take 2 [] (.take 3 [] (.take 4 [] (.take 5 [6, 7] (.alt 6 (.take 7 [] .done) .nil))))))) (by kernel_rfl) ?_
   refine z6 rfl (y22 _ _ (by assumption)) rfl ⟨trivial, trivial, trivial⟩ ?_
   refine xr rfl (z7 rfl ⟨⟨rfl, ?_, trivial⟩, z1 rfl⟩)
   all_goals (refine vb ?_; simp_all [toN]; done)
 · dsimp only at h
   subst h
   refine xj (k := 4) rfl ?_
   refine zb rfl [] (.take 0 [] (.take 1 [6, 7] (.take 2 [] (.take 3 [] (.take 4 [] (.take 5 [6, 7] (.alt 6 (.take 7 [] .done) .nil))))))) (by kernel_rfl) ?_
   refine z6 rfl (y0a _ _ (by assumption)) rfl ⟨trivial, trivial, trivial⟩ ?_
   refine xr rfl (z7 rfl ⟨⟨rfl, ?_, trivial⟩, z1 rfl⟩)
   all_goals (refine vb ?_; simp_all [toN]; done)
 · dsimp only at h
   subst h
   refine xj (k := 4) rfl ?_
   refine zb rfl [] (.take 0 [] (.take 1 [6, 7] (.take 2 [] (.take 3 [] (.take 4 [] (.take 5 [6, 7] (.alt 6 (.take 7 [] .done) .nil))))))) (by kernel_rfl) ?_
   refine z6 rfl (q21 _ _ (by assumption)) rfl ⟨trivial, trivial, trivial⟩ ?_
   refine xr rfl (z7 rfl ⟨⟨rfl, ?_, trivial⟩, z1 rfl⟩)
   all_goals (refine vb ?_; simp_all [toN]; done)
 · dsimp only at h
   subst h
   refine xj (k := 4) rfl ?_
   refine zb rfl [] (.take 0 [] (.take 1 [6, 7] (.take 2 [] (.take 3 [] (.take 4 [] (.take 5 [6, 7] (.alt 6 (.take 7 [] .done) .nil))))))) (by kernel_rfl) ?_
   refine z6 rfl (y0a _ _ (by assumption)) rfl ⟨trivial, trivial, trivial⟩ ?_
   refine xr rfl (z7 rfl ⟨⟨rfl, ?_, trivial⟩, z1 rfl⟩)
   all_goals (refine vb ?_; simp_all [toN]; done)
 · dsimp only at h
   subst h
   refine xj (k := 4) rfl ?_
   refine zb rfl [] (.take 0 [] (.take 1 [6, 7] (.take 2 [] (.take 3 [] (.take 4 [] (.take 5 [6, 7] (.alt 6 (.take 7 [] .done) .nil))))))) (by kernel_rfl) ?_
   refine z6 rfl (q21 _ _ (by assumption)) rfl ⟨trivial, trivial, trivial⟩ ?_
   refine xr rfl (z7 rfl ⟨⟨rfl, ?_, trivial⟩, z1 rfl⟩)
   all_goals (refine vb ?_; simp_all [toN]; done)
 · dsimp only at h
   subst h
   refine xj (k := 2) rfl ?_
   refine zb rfl [] (.take 0 [] (.take 1 [6, 7] (.take 2 [] (.take 3 [] (.take 4 [] (.take 5 [6, 7] (.alt 6 (.take 7 [] .done) .nil))))))) (by kernel_rfl) ?_
   refine z6 rfl (y22 _ _ (by assumption)) rfl ⟨trivial, trivial, trivial⟩ ?_
   refine xr rfl (z7 rfl ⟨⟨rfl, ?_, trivial⟩, z1 rfl⟩)
   all_goals (refine vb ?_; simp_all [toN]; done)
theorem q70 (c : Clu) (ho : y00 c) (m : Msg) (hk : Go.Sx.within m.k 1 6 = true) : PC Tryz.prog 210 [.one (.p c.cs), .agg m.cs] (rB (decide (m.k < 3) || decide (5 < m.k) || within m.fr 0 ((frN c m : Int) - 1))) := by
 refine PC.begin Tryz.func210 rfl (by kernel_rfl) ?_
 have q1 := ho.2.1.1
 have q2 := ho.2.2.1.1
 have q3 := ho.2.2.2.1.1
 have p1 : (c.shs.map Shd.cs).length ≤ 1048576 := by simpa using q1
 have p2 : (c.accs.map Acc.cs).length ≤ 1048576 := by simpa using q2
 have p3 : (c.ldrs.map Ldr.cs).length ≤ 1048576 := by simpa using q3
 have w1 := wl1 Shd.cs q1
 have w2 := wl1 Acc.cs q2
 have w3 := wl1 Ldr.cs q3
 obtain ⟨k, to, fr, mc, s, b, v, ob, ov⟩ := m
 rcases kinds hk with h | h | h | h | h | h
 · dsimp only at h
   subst h
   refine xj (k := 3) rfl ?_
   refine xr rfl (z7 rfl ⟨⟨rfl, rfl, trivial⟩, z1 rfl⟩)
   all_goals (refine vb ?_; simp_all [frN]; done)
 · dsimp only at h
   subst h
   refine xj (k := 3) rfl ?_
   refine xr rfl (z7 rfl ⟨⟨rfl, rfl, trivial⟩, z1 rfl⟩)
   all_goals (refine vb ?_; simp_all [frN]; done)
 · dsimp only at h
   subst h
   refine xj (k := 3) rfl ?_
   refine zb rfl [] (.take 0 [] (.take 1 [6, 7] (.take 2 [] (.take 3 [] (.take 4 [] (.take 5 [6, 7] (.alt 6 (.take 7 [] .done) .nil))))))) (by kernel_rfl) ?_
   refine z6 rfl (y0a _ _ (by assumption)) rfl ⟨trivial, trivial, trivial⟩ ?_
   refine xr rfl (z7 rfl ⟨⟨rfl, ?_, trivial⟩, z1 rfl⟩)
   all_goals (refine vb ?_; simp_all [frN]; done)
 · dsimp only at h
   subst h
   refine xj (k := 1) rfl ?_
   refine zb rfl [] (.take 0 [] (.take 1 [6, 7] (.take 2 [] (.take 3 [] (.take 4 [] (.take 5 [6, 7] (.alt 6 (.take 7 [] .done) .nil))))))) (by kernel_rfl) ?_
   refine z6 rfl (q21 _ _ (by assumption)) rfl ⟨trivial, trivial, trivial⟩ ?_
   refine xr rfl (z7 rfl ⟨⟨rfl, ?_, trivial⟩, z1 rfl⟩)
   all_goals (refine vb ?_; simp_all [frN]; done)
 · dsimp only at h
   subst h
   refine xj (k := 3) rfl ?_
   refine zb rfl [] (.take 0 [] (.take 1 [6, 7] (.take 2 [] (.take 3 [] (.take 4 [] (.take 5 [6, 7] (.alt 6 (.take 7 [] .done) .nil))))))) (by kernel_rfl) ?_
   refine z6 rfl (y0a _ _ (by assumption)) rfl ⟨trivial, trivial, trivial⟩ ?_
   refine xr rfl (z7 rfl ⟨⟨rfl, ?_, trivial⟩, z1 rfl⟩)
   all_goals (refine vb ?_; simp_all [frN]; done)
 · dsimp only at h
   subst h
   refine xj (k := 3) rfl ?_
   refine xr rfl (z7 rfl ⟨⟨rfl, rfl, trivial⟩, z1 rfl⟩)
   all_goals (refine vb ?_; simp_all [frN]; done)
theorem z5b (c : Clu) (ho : y00 c) (m : Msg) (hk : Go.Sx.within m.k 1 6 = true) : PC Tryz.prog 211 [.one (.p c.cs), .agg m.cs] (rB (ranges c m)) := by
 refine PC.begin Tryz.func211 rfl (by kernel_rfl) ?_
 have q1 := ho.2.1.1
 have q2 := ho.2.2.1.1
 have q3 := ho.2.2.2.1.1
 have p1 : (c.shs.map Shd.cs).length ≤ 1048576 := by simpa using q1
 have p2 : (c.accs.map Acc.cs).length ≤ 1048576 := by simpa using q2
 have p3 : (c.ldrs.map Ldr.cs).length ≤ 1048576 := by simpa using q3
 have w1 := wl1 Shd.cs q1
 have w2 := wl1 Acc.cs q2
 have w3 := wl1 Ldr.cs q3
 obtain ⟨k, to, fr, mc, s, b, v, ob, ov⟩ := m
 rcases kinds hk with h | h | h | h | h | h
 · dsimp only at h
   subst h
   refine xj (k := 1) rfl ?_
   refine z6 rfl (z10 _ (by assumption) _ _) rfl ⟨trivial, trivial, trivial, trivial⟩ ?_
   refine xr rfl (z7 rfl ⟨⟨rfl, ?_, trivial⟩, z1 rfl⟩)
   all_goals (refine vb ?_; simp_all [ranges, Msg.shd, z1q, Vt.none]; done)
 · dsimp only at h
   subst h
   refine xj (k := 2) rfl ?_
   refine z6 rfl (z10 _ (by assumption) _ _) rfl ⟨trivial, trivial, trivial, trivial⟩ ?_
   refine xb rfl (fun b0 => ?_) (fun b0 => ?_)
   refine xj (k := 5) rfl ?_
   refine xr rfl (z7 rfl ⟨⟨rfl, ?_, trivial⟩, z1 rfl⟩)
   rotate_left
   refine xj (k := 2) rfl ?_
   refine z6 rfl (z04 _) rfl ⟨trivial, trivial⟩ ?_
   refine xj (k := 2) rfl ?_
   refine xb rfl (fun b1 => ?_) (fun b1 => ?_)
   refine xr rfl (z7 rfl ⟨⟨rfl, ?_, trivial⟩, z1 rfl⟩)
   rotate_left
   refine xj (k := 2) rfl ?_
   refine z6 rfl (y0h _) rfl ⟨trivial, trivial⟩ ?_
   refine xr rfl (z7 rfl ⟨⟨rfl, ?_, trivial⟩, z1 rfl⟩)
   rotate_left
   all_goals (refine vb ?_; simp_all [ranges, Msg.shd, z1q, Vt.none]; done)
 · dsimp only at h
   subst h
   refine xj (k := 2) rfl ?_
   refine z6 rfl (z10 _ (by assumption) _ _) rfl ⟨trivial, trivial, trivial, trivial⟩ ?_
   refine xb rfl (fun b0 => ?_) (fun b0 => ?_)
   refine xj (k := 5) rfl ?_
   refine xr rfl (z7 rfl ⟨⟨rfl, ?_, trivial⟩, z1 rfl⟩)
   rotate_left
   refine xj (k := 2) rfl ?_
   refine z6 rfl (z04 _) rfl ⟨trivial, trivial⟩ ?_
   refine xj (k := 2) rfl ?_
   refine xb rfl (fun b1 => ?_) (fun b1 => ?_)
   refine xr rfl (z7 rfl ⟨⟨rfl, ?_, trivial⟩, z1 rfl⟩)
   rotate_left
   refine xj (k := 2) rfl ?_
   refine z6 rfl (y0h _) rfl ⟨trivial, trivial⟩ ?_
   refine xr rfl (z7 rfl ⟨⟨rfl, ?_, trivial⟩, z1 rfl⟩)
   rotate_left
   all_goals (refine vb ?_; simp_all [ranges, Msg.shd, z1q, Vt.none]; done)
 · dsimp only at h
   subst h
   refine xj (k := 2) rfl ?_
   refine z6 rfl (z10 _ (by assumption) _ _) rfl ⟨trivial, trivial, trivial, trivial⟩ ?_
   refine xb rfl (fun b0 => ?_) (fun b0 => ?_)
   refine xj (k := 5) rfl ?_
   refine xr rfl (z7 rfl ⟨⟨rfl, ?_, trivial⟩, z1 rfl⟩)
   rotate_left
   refine xj (k := 2) rfl ?_
   refine z6 rfl (z04 _) rfl ⟨trivial, trivial⟩ ?_
   refine xj (k := 2) rfl ?_
   refine xb rfl (fun b1 => ?_) (fun b1 => ?_)
   refine xr rfl (z7 rfl ⟨⟨rfl, ?_, trivial⟩, z1 rfl⟩)
   rotate_left
   refine xj (k := 3) rfl ?_
   refine xr rfl (z7 rfl ⟨⟨rfl, ?_, trivial⟩, z1 rfl⟩)
   rotate_left
   all_goals (refine vb ?_; simp_all [ranges, Msg.shd, z1q, Vt.none]; done)
 · dsimp only at h
   subst h
   refine xj (k := 2) rfl ?_
   refine z6 rfl (z10 _ (by assumption) _ _) rfl ⟨trivial, trivial, trivial, trivial⟩ ?_
   refine xb rfl (fun b0 => ?_) (fun b0 => ?_)
   refine xj (k := 5) rfl ?_
   refine xr rfl (z7 rfl ⟨⟨rfl, ?_, trivial⟩, z1 rfl⟩)
   rotate_left
   refine xj (k := 2) rfl ?_
   refine z6 rfl (z04 _) rfl ⟨trivial, trivial⟩ ?_
   refine xj (k := 2) rfl ?_
   refine xb rfl (fun b1 => ?_) (fun b1 => ?_)
   refine xr rfl (z7 rfl ⟨⟨rfl, ?_, trivial⟩, z1 rfl⟩)
   rotate_left
   refine xj (k := 3) rfl ?_
   refine zb rfl [] (.take 0 [] (.take 1 [3, 4, 5, 6, 7, 8, 9] (.alt 2 (.take 3 [] (.take 4 [] (.take 5 [] (.take 6 [7, 8, 9] (.alt 7 (.take 8 [] (.take 9 [] .done)) .nil))))) .nil))) (by kernel_rfl) ?_
   refine z6 rfl (z2w) rfl trivial ?_
   refine xb rfl (fun b2 => ?_) (fun b2 => ?_)
   refine xj (k := 3) rfl ?_
   refine xr rfl (z7 rfl ⟨⟨rfl, ?_, trivial⟩, z1 rfl⟩)
   rotate_left
   refine xj (k := 2) rfl ?_
   refine z6 rfl (y1t ⟨ob, ov⟩) rfl ⟨⟨trivial, trivial, trivial⟩, trivial⟩ ?_
   refine xj (k := 1) rfl ?_
   refine xr rfl (z7 rfl ⟨⟨rfl, ?_, trivial⟩, z1 rfl⟩)
   rotate_left
   all_goals (refine vb ?_; simp_all [ranges, Msg.shd, z1q, Vt.none]; done)
 · dsimp only at h
   subst h
   refine xj (k := 2) rfl ?_
   refine z6 rfl (z10 _ (by assumption) _ _) rfl ⟨trivial, trivial, trivial, trivial⟩ ?_
   refine xb rfl (fun b0 => ?_) (fun b0 => ?_)
   refine xj (k := 2) rfl ?_
   refine z6 rfl (q2b _) rfl ⟨trivial, trivial⟩ ?_
   refine xj (k := 1) rfl ?_
   refine xr rfl (z7 rfl ⟨⟨rfl, ?_, trivial⟩, z1 rfl⟩)
   rotate_left
   refine xj (k := 3) rfl ?_
   refine xr rfl (z7 rfl ⟨⟨rfl, ?_, trivial⟩, z1 rfl⟩)
   rotate_left
   all_goals (refine vb ?_; simp_all [ranges, Msg.shd, z1q, Vt.none]; done)
end Go.Proofs.YtbnbjaedijbnpaaGreat
end
section
namespace Go.Proofs.YtbnbjaedijbnpaaGreat
open Go Go.Sx
set_option maxRecDepth 20000
set_option maxHeartbeats 4000000
theorem z55 (m n : Msg) : q0z [.int .i64 m.k, .int .i64 m.to, .int .i64 m.fr, .int .i64 m.c, .int .i64 m.s, .int .i64 m.b, .int .i64 m.v, .int .i64 m.ob, .int .i64 m.ov] [.int .i64 n.k, .int .i64 n.to, .int .i64 n.fr, .int .i64 n.c, .int .i64 n.s, .int .i64 n.b, .int .i64 n.v, .int .i64 n.ob, .int .i64 n.ov] = m.same n := by simp [q0z, Msg.same, Bool.and_assoc]
theorem q62 (a b : Int) : q0z [.int .i64 a, .int .i64 b] [.int .i64 Vt.none.b, .int .i64 Vt.none.v] = (a == -1 && b == 0) := by simp [q0z, Vt.none]
theorem z4n (c : Clu) (m : Msg) (hk : Go.Sx.within m.k 1 6 = true) {e i r z : Bool} (h1 : ends c m = e) (h2 : (q05 c.cons m.c).isNone = i) (h3 : ranges c m = r) (h4 : m.same m.bare = z) : z0c c m = (if e then (if i then 4 else if r then (if z then 0 else 1) else 3) else 3) := by
 unfold z0c
 rw [hk, h1, h2, h3, h4]
 cases e <;> cases i <;> cases r <;> cases z <;> rfl
theorem y9f (c : Clu) (ho : y00 c) (m : Msg) : PC Tryz.prog 102 [.one (.p c.cs), .agg m.cs] (rI (z0c c m)) := by
 refine PC.begin Tryz.func102 rfl (by kernel_rfl) ?_
 by_cases hk : Go.Sx.within m.k 1 6 = true
 · have hf := q0h c m.c ho.1.1
   obtain ⟨k, to, fr, mc, s, b, v, ob, ov⟩ := m
   dsimp only at hf
   rcases kinds hk with h | h | h | h | h | h
   · dsimp only at h
     subst h
     have hE := z1e c ho ⟨1, to, fr, mc, s, b, v, ob, ov⟩ hk
     have hR : ranges c ⟨1, to, fr, mc, s, b, v, ob, ov⟩ = q0s c.cons mc to := by simp [ranges, Msg.shd]
     refine z6 rfl (qi _ _ _) rfl ⟨trivial, trivial, trivial, trivial⟩ ?_
     refine xj (k := 1) rfl ?_
     refine z6 rfl (hE) rfl ⟨trivial, ⟨trivial, trivial, trivial, trivial, trivial, trivial, trivial, trivial, trivial, trivial⟩, trivial⟩ ?_
     refine xb rfl (fun b0 => ?_) (fun b0 => ?_)
     refine xr rfl (z7 rfl ⟨⟨rfl, ?_, trivial⟩, z1 rfl⟩)
     rotate_left
     refine z6 rfl (hf) rfl ⟨trivial, trivial, trivial⟩ ?_
     refine xb rfl (fun b1 => ?_) (fun b1 => ?_)
     refine xr rfl (z7 rfl ⟨⟨rfl, ?_, trivial⟩, z1 rfl⟩)
     rotate_left
     refine xj (k := 5) rfl ?_
     refine z6 rfl (qt _ (by assumption) _ _) rfl ⟨trivial, trivial, trivial, trivial⟩ ?_
     refine xb rfl (fun b2 => ?_) (fun b2 => ?_)
     refine xr rfl (z7 rfl ⟨⟨rfl, ?_, trivial⟩, z1 rfl⟩)
     rotate_left
     refine xj (k := 24) rfl ?_
     refine zb rfl [] (.take 0 [] (.take 1 [2, 3, 4, 5, 6, 7, 8, 9, 10, 11, 12, 13, 14] (.take 2 [] (.take 3 [] (.take 4 [] (.take 5 [7, 8, 9, 10, 11, 12, 13, 14] (.alt 6 (.take 7 [] (.take 8 [] (.take 9 [] (.take 10 [] (.take 11 [12, 13, 14] (.alt 12 (.take 13 [] (.take 14 [] .done)) .nil)))))) .nil))))))) (by kernel_rfl) ?_
     refine xj (k := 11) rfl ?_
     refine zb rfl [] (.take 0 [3] (.take 1 [2, 3] (.alt 2 (.take 3 [] .done) .nil))) (by kernel_rfl) ?_
     refine z6 rfl (q0a ⟨1, to, fr, mc, s, b, v, ob, ov⟩ hk) rfl ⟨⟨trivial, trivial, trivial, trivial, trivial, trivial, trivial, trivial, trivial, trivial⟩, trivial⟩ ?_
     refine xb rfl (fun b3 => ?_) (fun b3 => ?_)
     refine xr rfl (z7 rfl ⟨⟨rfl, ?_, trivial⟩, z1 rfl⟩)
     rotate_left
     refine xr rfl (z7 rfl ⟨⟨rfl, ?_, trivial⟩, z1 rfl⟩)
     rotate_left
     all_goals
      refine vi ?_
      have hI : decide (y14 (fun x : Con => x.id == mc) c.cons < 0) = (q05 c.cons mc).isNone := q09
      rw [z4n c ⟨1, to, fr, mc, s, b, v, ob, ov⟩ hk rfl hI.symm hR (z55 ⟨1, to, fr, mc, s, b, v, ob, ov⟩ (Msg.bare ⟨1, to, fr, mc, s, b, v, ob, ov⟩)).symm]
      have hN := q62 ob ov
      clear hI hR hE hf hk ho
      ((try dsimp only at *); simp_all only [Bool.not_eq_true', Bool.not_eq_false', Bool.not_true, Bool.not_false, Bool.and_true, Bool.true_and, Bool.and_false, Bool.false_and, Bool.and_self, Bool.or_true, Bool.true_or, Bool.or_false, Bool.false_or, Bool.false_eq_true, if_true, if_false, reduceIte]; done)
   · dsimp only at h
     subst h
     have hE := z1e c ho ⟨2, to, fr, mc, s, b, v, ob, ov⟩ hk
     have hR : ranges c ⟨2, to, fr, mc, s, b, v, ob, ov⟩ = (q0s c.cons mc s && Go.Sx.within b 0 1000 && Go.Sx.within v 1 2) := by simp [ranges, Msg.shd]
     refine z6 rfl (qi _ _ _) rfl ⟨trivial, trivial, trivial, trivial⟩ ?_
     refine xj (k := 1) rfl ?_
     refine z6 rfl (hE) rfl ⟨trivial, ⟨trivial, trivial, trivial, trivial, trivial, trivial, trivial, trivial, trivial, trivial⟩, trivial⟩ ?_
     refine xb rfl (fun b0 => ?_) (fun b0 => ?_)
     refine xr rfl (z7 rfl ⟨⟨rfl, ?_, trivial⟩, z1 rfl⟩)
     rotate_left
     refine z6 rfl (hf) rfl ⟨trivial, trivial, trivial⟩ ?_
     refine xb rfl (fun b1 => ?_) (fun b1 => ?_)
     refine xr rfl (z7 rfl ⟨⟨rfl, ?_, trivial⟩, z1 rfl⟩)
     rotate_left
     refine xj (k := 5) rfl ?_
     refine z6 rfl (qt _ (by assumption) _ _) rfl ⟨trivial, trivial, trivial, trivial⟩ ?_
     refine xb rfl (fun b2 => ?_) (fun b2 => ?_)
     refine xr rfl (z7 rfl ⟨⟨rfl, ?_, trivial⟩, z1 rfl⟩)
     rotate_left
     refine xj (k := 7) rfl ?_
     refine z6 rfl (yx _) rfl ⟨trivial, trivial⟩ ?_
     refine xj (k := 2) rfl ?_
     refine xb rfl (fun b3 => ?_) (fun b3 => ?_)
     refine xr rfl (z7 rfl ⟨⟨rfl, ?_, trivial⟩, z1 rfl⟩)
     rotate_left
     refine xj (k := 11) rfl ?_
     refine z6 rfl (z05 _) rfl ⟨trivial, trivial⟩ ?_
     refine xj (k := 2) rfl ?_
     refine xb rfl (fun b4 => ?_) (fun b4 => ?_)
     refine xr rfl (z7 rfl ⟨⟨rfl, ?_, trivial⟩, z1 rfl⟩)
     rotate_left
     refine zb rfl [] (.take 0 [] (.take 1 [2, 3, 4, 5, 6, 7, 8, 9, 10, 11, 12, 13, 14] (.take 2 [] (.take 3 [] (.take 4 [] (.take 5 [7, 8, 9, 10, 11, 12, 13, 14] (.alt 6 (.take 7 [] (.take 8 [] (.take 9 [] (.take 10 [] (.take 11 [12, 13, 14] (.alt 12 (.take 13 [] (.take 14 [] .done)) .nil)))))) .nil))))))) (by kernel_rfl) ?_
     refine xj (k := 11) rfl ?_
     refine zb rfl [] (.take 0 [3] (.take 1 [2, 3] (.alt 2 (.take 3 [] .done) .nil))) (by kernel_rfl) ?_
     refine z6 rfl (q0a ⟨2, to, fr, mc, s, b, v, ob, ov⟩ hk) rfl ⟨⟨trivial, trivial, trivial, trivial, trivial, trivial, trivial, trivial, trivial, trivial⟩, trivial⟩ ?_
     refine xb rfl (fun b5 => ?_) (fun b5 => ?_)
     refine xr rfl (z7 rfl ⟨⟨rfl, ?_, trivial⟩, z1 rfl⟩)
     rotate_left
     refine xr rfl (z7 rfl ⟨⟨rfl, ?_, trivial⟩, z1 rfl⟩)
     rotate_left
     all_goals
      refine vi ?_
      have hI : decide (y14 (fun x : Con => x.id == mc) c.cons < 0) = (q05 c.cons mc).isNone := q09
      rw [z4n c ⟨2, to, fr, mc, s, b, v, ob, ov⟩ hk rfl hI.symm hR (z55 ⟨2, to, fr, mc, s, b, v, ob, ov⟩ (Msg.bare ⟨2, to, fr, mc, s, b, v, ob, ov⟩)).symm]
      have hN := q62 ob ov
      clear hI hR hE hf hk ho
      ((try dsimp only at *); simp_all only [Bool.not_eq_true', Bool.not_eq_false', Bool.not_true, Bool.not_false, Bool.and_true, Bool.true_and, Bool.and_false, Bool.false_and, Bool.and_self, Bool.or_true, Bool.true_or, Bool.or_false, Bool.false_or, Bool.false_eq_true, if_true, if_false, reduceIte]; done)
   · dsimp only at h
     subst h
     have hE := z1e c ho ⟨3, to, fr, mc, s, b, v, ob, ov⟩ hk
     have hR : ranges c ⟨3, to, fr, mc, s, b, v, ob, ov⟩ = (q0s c.cons mc s && Go.Sx.within b 0 1000 && Go.Sx.within v 1 2) := by simp [ranges, Msg.shd]
     refine z6 rfl (qi _ _ _) rfl ⟨trivial, trivial, trivial, trivial⟩ ?_
     refine xj (k := 1) rfl ?_
     refine z6 rfl (hE) rfl ⟨trivial, ⟨trivial, trivial, trivial, trivial, trivial, trivial, trivial, trivial, trivial, trivial⟩, trivial⟩ ?_
     refine xb rfl (fun b0 => ?_) (fun b0 => ?_)
     refine xr rfl (z7 rfl ⟨⟨rfl, ?_, trivial⟩, z1 rfl⟩)
     rotate_left
     refine z6 rfl (hf) rfl ⟨trivial, trivial, trivial⟩ ?_
     refine xb rfl (fun b1 => ?_) (fun b1 => ?_)
     refine xr rfl (z7 rfl ⟨⟨rfl, ?_, trivial⟩, z1 rfl⟩)
     rotate_left
     refine xj (k := 5) rfl ?_
     refine z6 rfl (qt _ (by assumption) _ _) rfl ⟨trivial, trivial, trivial, trivial⟩ ?_
     refine xb rfl (fun b2 => ?_) (fun b2 => ?_)
     refine xr rfl (z7 rfl ⟨⟨rfl, ?_, trivial⟩, z1 rfl⟩)
     rotate_left
     refine xj (k := 7) rfl ?_
     refine z6 rfl (yx _) rfl ⟨trivial, trivial⟩ ?_
     refine xj (k := 2) rfl ?_
     refine xb rfl (fun b3 => ?_) (fun b3 => ?_)
     refine xr rfl (z7 rfl ⟨⟨rfl, ?_, trivial⟩, z1 rfl⟩)
     rotate_left
     refine xj (k := 11) rfl ?_
     refine z6 rfl (z05 _) rfl ⟨trivial, trivial⟩ ?_
     refine xj (k := 2) rfl ?_
     refine xb rfl (fun b4 => ?_) (fun b4 => ?_)
     refine xr rfl (z7 rfl ⟨⟨rfl, ?_, trivial⟩, z1 rfl⟩)
     rotate_left
     refine zb rfl [] (.take 0 [] (.take 1 [2, 3, 4, 5, 6, 7, 8, 9, 10, 11, 12, 13, 14] (.take 2 [] (.take 3 [] (.take 4 [] (.take 5 [7, 8, 9, 10, 11, 12, 13, 14] (.alt 6 (.take 7 [] (.take 8 [] (.take 9 [] (.take 10 [] (.take 11 [12, 13, 14] (.alt 12 (.take 13 [] (.take 14 [] .done)) .nil)))))) .nil))))))) (by kernel_rfl) ?_
     refine xj (k := 11) rfl ?_
     refine zb rfl [] (.take 0 [3] (.take 1 [2, 3] (.alt 2 (.take 3 [] .done) .nil))) (by kernel_rfl) ?_
     refine z6 rfl (q0a ⟨3, to, fr, mc, s, b, v, ob, ov⟩ hk) rfl ⟨⟨trivial, trivial, trivial, trivial, trivial, trivial, trivial, trivial, trivial, trivial⟩, trivial⟩ ?_
     refine xb rfl (fun b5 => ?_) (fun b5 => ?_)
     refine xr rfl (z7 rfl ⟨⟨rfl, ?_, trivial⟩, z1 rfl⟩)
     rotate_left
     refine xr rfl (z7 rfl ⟨⟨rfl, ?_, trivial⟩, z1 rfl⟩)
     rotate_left
     all_goals
      refine vi ?_
      have hI : decide (y14 (fun x : Con => x.id == mc) c.cons < 0) = (q05 c.cons mc).isNone := q09
      rw [z4n c ⟨3, to, fr, mc, s, b, v, ob, ov⟩ hk rfl hI.symm hR (z55 ⟨3, to, fr, mc, s, b, v, ob, ov⟩ (Msg.bare ⟨3, to, fr, mc, s, b, v, ob, ov⟩)).symm]
      have hN := q62 ob ov
      clear hI hR hE hf hk ho
      ((try dsimp only at *); simp_all only [Bool.not_eq_true', Bool.not_eq_false', Bool.not_true, Bool.not_false, Bool.and_true, Bool.true_and, Bool.and_false, Bool.false_and, Bool.and_self, Bool.or_true, Bool.true_or, Bool.or_false, Bool.false_or, Bool.false_eq_true, if_true, if_false, reduceIte]; done)
   · dsimp only at h
     subst h
     have hE := z1e c ho ⟨4, to, fr, mc, s, b, v, ob, ov⟩ hk
     have hR : ranges c ⟨4, to, fr, mc, s, b, v, ob, ov⟩ = (q0s c.cons mc s && Go.Sx.within b 0 1000) := by simp [ranges, Msg.shd]
     refine z6 rfl (qi _ _ _) rfl ⟨trivial, trivial, trivial, trivial⟩ ?_
     refine xj (k := 1) rfl ?_
     refine z6 rfl (hE) rfl ⟨trivial, ⟨trivial, trivial, trivial, trivial, trivial, trivial, trivial, trivial, trivial, trivial⟩, trivial⟩ ?_
     refine xb rfl (fun b0 => ?_) (fun b0 => ?_)
     refine xr rfl (z7 rfl ⟨⟨rfl, ?_, trivial⟩, z1 rfl⟩)
     rotate_left
     refine z6 rfl (hf) rfl ⟨trivial, trivial, trivial⟩ ?_
     refine xb rfl (fun b1 => ?_) (fun b1 => ?_)
     refine xr rfl (z7 rfl ⟨⟨rfl, ?_, trivial⟩, z1 rfl⟩)
     rotate_left
     refine xj (k := 5) rfl ?_
     refine z6 rfl (qt _ (by assumption) _ _) rfl ⟨trivial, trivial, trivial, trivial⟩ ?_
     refine xb rfl (fun b2 => ?_) (fun b2 => ?_)
     refine xr rfl (z7 rfl ⟨⟨rfl, ?_, trivial⟩, z1 rfl⟩)
     rotate_left
     refine xj (k := 7) rfl ?_
     refine z6 rfl (yx _) rfl ⟨trivial, trivial⟩ ?_
     refine xj (k := 2) rfl ?_
     refine xb rfl (fun b3 => ?_) (fun b3 => ?_)
     refine xr rfl (z7 rfl ⟨⟨rfl, ?_, trivial⟩, z1 rfl⟩)
     rotate_left
     refine xj (k := 14) rfl ?_
     refine zb rfl [] (.take 0 [] (.take 1 [2, 3, 4, 5, 6, 7, 8, 9, 10, 11, 12, 13, 14] (.take 2 [] (.take 3 [] (.take 4 [] (.take 5 [7, 8, 9, 10, 11, 12, 13, 14] (.alt 6 (.take 7 [] (.take 8 [] (.take 9 [] (.take 10 [] (.take 11 [12, 13, 14] (.alt 12 (.take 13 [] (.take 14 [] .done)) .nil)))))) .nil))))))) (by kernel_rfl) ?_
     refine xj (k := 11) rfl ?_
     refine zb rfl [] (.take 0 [3] (.take 1 [2, 3] (.alt 2 (.take 3 [] .done) .nil))) (by kernel_rfl) ?_
     refine z6 rfl (q0a ⟨4, to, fr, mc, s, b, v, ob, ov⟩ hk) rfl ⟨⟨trivial, trivial, trivial, trivial, trivial, trivial, trivial, trivial, trivial, trivial⟩, trivial⟩ ?_
     refine xb rfl (fun b4 => ?_) (fun b4 => ?_)
     refine xr rfl (z7 rfl ⟨⟨rfl, ?_, trivial⟩, z1 rfl⟩)
     rotate_left
     refine xr rfl (z7 rfl ⟨⟨rfl, ?_, trivial⟩, z1 rfl⟩)
     rotate_left
     all_goals
      refine vi ?_
      have hI : decide (y14 (fun x : Con => x.id == mc) c.cons < 0) = (q05 c.cons mc).isNone := q09
      rw [z4n c ⟨4, to, fr, mc, s, b, v, ob, ov⟩ hk rfl hI.symm hR (z55 ⟨4, to, fr, mc, s, b, v, ob, ov⟩ (Msg.bare ⟨4, to, fr, mc, s, b, v, ob, ov⟩)).symm]
      have hN := q62 ob ov
      clear hI hR hE hf hk ho
      ((try dsimp only at *); simp_all only [Bool.not_eq_true', Bool.not_eq_false', Bool.not_true, Bool.not_false, Bool.and_true, Bool.true_and, Bool.and_false, Bool.false_and, Bool.and_self, Bool.or_true, Bool.true_or, Bool.or_false, Bool.false_or, Bool.false_eq_true, if_true, if_false, reduceIte]; done)
   · dsimp only at h
     subst h
     have hE := z1e c ho ⟨5, to, fr, mc, s, b, v, ob, ov⟩ hk
     have hR : ranges c ⟨5, to, fr, mc, s, b, v, ob, ov⟩ = (q0s c.cons mc s && Go.Sx.within b 0 1000 && ((ob == -1 && ov == 0) || Vt.ok ⟨ob, ov⟩)) := by simp [ranges, Msg.shd]
     refine z6 rfl (qi _ _ _) rfl ⟨trivial, trivial, trivial, trivial⟩ ?_
     refine xj (k := 1) rfl ?_
     refine z6 rfl (hE) rfl ⟨trivial, ⟨trivial, trivial, trivial, trivial, trivial, trivial, trivial, trivial, trivial, trivial⟩, trivial⟩ ?_
     refine xb rfl (fun b0 => ?_) (fun b0 => ?_)
     refine xr rfl (z7 rfl ⟨⟨rfl, ?_, trivial⟩, z1 rfl⟩)
     rotate_left
     refine z6 rfl (hf) rfl ⟨trivial, trivial, trivial⟩ ?_
     refine xb rfl (fun b1 => ?_) (fun b1 => ?_)
     refine xr rfl (z7 rfl ⟨⟨rfl, ?_, trivial⟩, z1 rfl⟩)
     rotate_left
     refine xj (k := 5) rfl ?_
     refine z6 rfl (qt _ (by assumption) _ _) rfl ⟨trivial, trivial, trivial, trivial⟩ ?_
     refine xb rfl (fun b2 => ?_) (fun b2 => ?_)
     refine xr rfl (z7 rfl ⟨⟨rfl, ?_, trivial⟩, z1 rfl⟩)
     rotate_left
     refine xj (k := 7) rfl ?_
     refine z6 rfl (yx _) rfl ⟨trivial, trivial⟩ ?_
     refine xj (k := 2) rfl ?_
     refine xb rfl (fun b3 => ?_) (fun b3 => ?_)
     refine xr rfl (z7 rfl ⟨⟨rfl, ?_, trivial⟩, z1 rfl⟩)
     rotate_left
     refine xj (k := 14) rfl ?_
     refine zb rfl [] (.take 0 [] (.take 1 [2, 3, 4, 5, 6, 7, 8, 9, 10, 11, 12, 13, 14] (.take 2 [] (.take 3 [] (.take 4 [] (.take 5 [7, 8, 9, 10, 11, 12, 13, 14] (.alt 6 (.take 7 [] (.take 8 [] (.take 9 [] (.take 10 [] (.take 11 [12, 13, 14] (.alt 12 (.take 13 [] (.take 14 [] .done)) .nil)))))) .nil))))))) (by kernel_rfl) ?_
     refine xj (k := 3) rfl ?_
     refine z6 rfl (q1t) rfl trivial ?_
     refine xj (k := 2) rfl ?_
     refine xb rfl (fun b4 => ?_) (fun b4 => ?_)
     refine xj (k := 2) rfl ?_
     refine z6 rfl (q1l ⟨ob, ov⟩) rfl ⟨⟨trivial, trivial, trivial⟩, trivial⟩ ?_
     refine xj (k := 2) rfl ?_
     refine xb rfl (fun b5 => ?_) (fun b5 => ?_)
     refine xr rfl (z7 rfl ⟨⟨rfl, ?_, trivial⟩, z1 rfl⟩)
     rotate_left
     refine zb rfl [] (.take 0 [3] (.take 1 [2, 3] (.alt 2 (.take 3 [] .done) .nil))) (by kernel_rfl) ?_
     refine z6 rfl (q0a ⟨5, to, fr, mc, s, b, v, ob, ov⟩ hk) rfl ⟨⟨trivial, trivial, trivial, trivial, trivial, trivial, trivial, trivial, trivial, trivial⟩, trivial⟩ ?_
     refine xb rfl (fun b6 => ?_) (fun b6 => ?_)
     refine xr rfl (z7 rfl ⟨⟨rfl, ?_, trivial⟩, z1 rfl⟩)
     rotate_left
     refine xr rfl (z7 rfl ⟨⟨rfl, ?_, trivial⟩, z1 rfl⟩)
     rotate_left
     refine xj (k := 5) rfl ?_
     refine zb rfl [] (.take 0 [3] (.take 1 [2, 3] (.alt 2 (.take 3 [] .done) .nil))) (by kernel_rfl) ?_
     refine z6 rfl (q0a ⟨5, to, fr, mc, s, b, v, ob, ov⟩ hk) rfl ⟨⟨trivial, trivial, trivial, trivial, trivial, trivial, trivial, trivial, trivial, trivial⟩, trivial⟩ ?_
     refine xb rfl (fun b5 => ?_) (fun b5 => ?_)
     refine xr rfl (z7 rfl ⟨⟨rfl, ?_, trivial⟩, z1 rfl⟩)
     rotate_left
     refine xr rfl (z7 rfl ⟨⟨rfl, ?_, trivial⟩, z1 rfl⟩)
     rotate_left
     all_goals
      refine vi ?_
      have hI : decide (y14 (fun x : Con => x.id == mc) c.cons < 0) = (q05 c.cons mc).isNone := q09
      rw [z4n c ⟨5, to, fr, mc, s, b, v, ob, ov⟩ hk rfl hI.symm hR (z55 ⟨5, to, fr, mc, s, b, v, ob, ov⟩ (Msg.bare ⟨5, to, fr, mc, s, b, v, ob, ov⟩)).symm]
      have hN := q62 ob ov
      clear hI hR hE hf hk ho
      ((try dsimp only at *); simp_all only [Bool.not_eq_true', Bool.not_eq_false', Bool.not_true, Bool.not_false, Bool.and_true, Bool.true_and, Bool.and_false, Bool.false_and, Bool.and_self, Bool.or_true, Bool.true_or, Bool.or_false, Bool.false_or, Bool.false_eq_true, if_true, if_false, reduceIte]; done)
   · dsimp only at h
     subst h
     have hE := z1e c ho ⟨6, to, fr, mc, s, b, v, ob, ov⟩ hk
     have hR : ranges c ⟨6, to, fr, mc, s, b, v, ob, ov⟩ = (q0s c.cons mc to && Go.Sx.within v 1 2) := by simp [ranges, Msg.shd]
     refine z6 rfl (qi _ _ _) rfl ⟨trivial, trivial, trivial, trivial⟩ ?_
     refine xj (k := 1) rfl ?_
     refine z6 rfl (hE) rfl ⟨trivial, ⟨trivial, trivial, trivial, trivial, trivial, trivial, trivial, trivial, trivial, trivial⟩, trivial⟩ ?_
     refine xb rfl (fun b0 => ?_) (fun b0 => ?_)
     refine xr rfl (z7 rfl ⟨⟨rfl, ?_, trivial⟩, z1 rfl⟩)
     rotate_left
     refine z6 rfl (hf) rfl ⟨trivial, trivial, trivial⟩ ?_
     refine xb rfl (fun b1 => ?_) (fun b1 => ?_)
     refine xr rfl (z7 rfl ⟨⟨rfl, ?_, trivial⟩, z1 rfl⟩)
     rotate_left
     refine xj (k := 5) rfl ?_
     refine z6 rfl (qt _ (by assumption) _ _) rfl ⟨trivial, trivial, trivial, trivial⟩ ?_
     refine xb rfl (fun b2 => ?_) (fun b2 => ?_)
     refine xr rfl (z7 rfl ⟨⟨rfl, ?_, trivial⟩, z1 rfl⟩)
     rotate_left
     refine xj (k := 21) rfl ?_
     refine z6 rfl (z05 _) rfl ⟨trivial, trivial⟩ ?_
     refine xj (k := 2) rfl ?_
     refine xb rfl (fun b3 => ?_) (fun b3 => ?_)
     refine xr rfl (z7 rfl ⟨⟨rfl, ?_, trivial⟩, z1 rfl⟩)
     rotate_left
     refine zb rfl [] (.take 0 [] (.take 1 [2, 3, 4, 5, 6, 7, 8, 9, 10, 11, 12, 13, 14] (.take 2 [] (.take 3 [] (.take 4 [] (.take 5 [7, 8, 9, 10, 11, 12, 13, 14] (.alt 6 (.take 7 [] (.take 8 [] (.take 9 [] (.take 10 [] (.take 11 [12, 13, 14] (.alt 12 (.take 13 [] (.take 14 [] .done)) .nil)))))) .nil))))))) (by kernel_rfl) ?_
     refine xj (k := 11) rfl ?_
     refine zb rfl [] (.take 0 [3] (.take 1 [2, 3] (.alt 2 (.take 3 [] .done) .nil))) (by kernel_rfl) ?_
     refine z6 rfl (q0a ⟨6, to, fr, mc, s, b, v, ob, ov⟩ hk) rfl ⟨⟨trivial, trivial, trivial, trivial, trivial, trivial, trivial, trivial, trivial, trivial⟩, trivial⟩ ?_
     refine xb rfl (fun b4 => ?_) (fun b4 => ?_)
     refine xr rfl (z7 rfl ⟨⟨rfl, ?_, trivial⟩, z1 rfl⟩)
     rotate_left
     refine xr rfl (z7 rfl ⟨⟨rfl, ?_, trivial⟩, z1 rfl⟩)
     rotate_left
     all_goals
      refine vi ?_
      have hI : decide (y14 (fun x : Con => x.id == mc) c.cons < 0) = (q05 c.cons mc).isNone := q09
      rw [z4n c ⟨6, to, fr, mc, s, b, v, ob, ov⟩ hk rfl hI.symm hR (z55 ⟨6, to, fr, mc, s, b, v, ob, ov⟩ (Msg.bare ⟨6, to, fr, mc, s, b, v, ob, ov⟩)).symm]
      have hN := q62 ob ov
      clear hI hR hE hf hk ho
      ((try dsimp only at *); simp_all only [Bool.not_eq_true', Bool.not_eq_false', Bool.not_true, Bool.not_false, Bool.and_true, Bool.true_and, Bool.and_false, Bool.false_and, Bool.and_self, Bool.or_true, Bool.true_or, Bool.or_false, Bool.false_or, Bool.false_eq_true, if_true, if_false, reduceIte]; done)
 · have hk : Go.Sx.within m.k 1 6 = false := by simpa using hk
   refine z6 rfl (qi _ _ _) rfl ⟨trivial, trivial, trivial, trivial⟩ ?_
   refine xb rfl (fun b0 => ?_) (fun b0 => ?_)
   refine xr rfl (z7 rfl ⟨⟨rfl, ?_, trivial⟩, z1 rfl⟩)
   rotate_left
   exact absurd b0 (by simp; omega)
   all_goals first
    | (refine vi ?_; unfold z0c; rw [hk]; rfl)
    | (exfalso; simp_all; done)
theorem q92 (c : Clu) (ho : y00 c) (m : Msg) : PC Tryz.prog 124 [.agg c.cs, .agg m.cs] (rI (z0c c m)) := by
 refine PC.begin Tryz.func124 rfl (by kernel_rfl) ?_
 by_cases hk : Go.Sx.within m.k 1 6 = true
 · have hT := y96 c ho m hk
   have hF := q70 c ho m hk
   have hR := z5b c ho m hk
   have hP := q86 m hk
   refine z9l (n := 0) rfl (ι := Unit) (fun _ => True) (fun _ => ⟨[(2, .one (.b (.p c.cs))), (3, .one (.a 3 0))], [(3, .var (m.cs.map .b))]⟩) ?_ ?_
   · intro K hK
     exact q9 rfl (hK _ () trivial ⟨⟨⟨rfl, rfl, rfl⟩, ⟨rfl, rfl, rfl⟩, trivial⟩, ⟨lcr, trivial⟩, rfl⟩)
   intro _ _
   cases h : q05 c.cons m.c with
   | none =>
     refine z6 rfl (yk _ _ _) rfl ⟨trivial, trivial, trivial, trivial⟩ ?_
     refine xb rfl (fun b0 => ?_) (fun b0 => ?_)
     exact absurd b0 (by simp; omega)
     refine z6 rfl (hT) rfl ⟨trivial, ⟨trivial, trivial, trivial, trivial, trivial, trivial, trivial, trivial, trivial, trivial⟩, trivial⟩ ?_
     refine xb rfl (fun b1 => ?_) (fun b1 => ?_)
     refine xj (k := 4) rfl ?_
     refine xr rfl (z7 rfl ⟨⟨rfl, ?_, trivial⟩, z1 rfl⟩)
     rotate_left
     refine xj (k := 1) rfl ?_
     refine z6 rfl (hF) rfl ⟨trivial, ⟨trivial, trivial, trivial, trivial, trivial, trivial, trivial, trivial, trivial, trivial⟩, trivial⟩ ?_
     refine xj (k := 2) rfl ?_
     refine xb rfl (fun b2 => ?_) (fun b2 => ?_)
     refine xr rfl (z7 rfl ⟨⟨rfl, ?_, trivial⟩, z1 rfl⟩)
     rotate_left
     refine z6 rfl (z13 c ho m.c h) rfl ⟨trivial, trivial, trivial⟩ ?_
     refine xj (k := 1) rfl ?_
     refine xr rfl (z7 rfl ⟨⟨rfl, ?_, trivial⟩, z1 rfl⟩)
     rotate_left
     all_goals
      refine vi ?_
      rw [z4n c m hk rfl (show (q05 c.cons m.c).isNone = true by rw [h]; rfl) rfl rfl]
      unfold ends
      clear hT hF hR hP ho h hk
      ((try dsimp only at *); simp_all only [Bool.not_eq_true', Bool.not_eq_false', Bool.not_true, Bool.not_false, Bool.and_true, Bool.true_and, Bool.and_false, Bool.false_and, Bool.and_self, Bool.or_true, Bool.true_or, Bool.or_false, Bool.false_or, Bool.false_eq_true, if_true, if_false, reduceIte]; done)
   | some x =>
     refine z6 rfl (yk _ _ _) rfl ⟨trivial, trivial, trivial, trivial⟩ ?_
     refine xb rfl (fun b0 => ?_) (fun b0 => ?_)
     exact absurd b0 (by simp; omega)
     refine z6 rfl (hT) rfl ⟨trivial, ⟨trivial, trivial, trivial, trivial, trivial, trivial, trivial, trivial, trivial, trivial⟩, trivial⟩ ?_
     refine xb rfl (fun b1 => ?_) (fun b1 => ?_)
     refine xj (k := 4) rfl ?_
     refine xr rfl (z7 rfl ⟨⟨rfl, ?_, trivial⟩, z1 rfl⟩)
     rotate_left
     refine xj (k := 1) rfl ?_
     refine z6 rfl (hF) rfl ⟨trivial, ⟨trivial, trivial, trivial, trivial, trivial, trivial, trivial, trivial, trivial, trivial⟩, trivial⟩ ?_
     refine xj (k := 2) rfl ?_
     refine xb rfl (fun b2 => ?_) (fun b2 => ?_)
     refine xr rfl (z7 rfl ⟨⟨rfl, ?_, trivial⟩, z1 rfl⟩)
     rotate_left
     refine z6 rfl (q0o c ho m.c x h) rfl ⟨trivial, trivial, trivial⟩ ?_
     refine xj (k := 1) rfl ?_
     refine z6 rfl (hR) rfl ⟨trivial, ⟨trivial, trivial, trivial, trivial, trivial, trivial, trivial, trivial, trivial, trivial⟩, trivial⟩ ?_
     refine xb rfl (fun b3 => ?_) (fun b3 => ?_)
     refine xr rfl (z7 rfl ⟨⟨rfl, ?_, trivial⟩, z1 rfl⟩)
     rotate_left
     refine zb rfl [] (.take 0 [3, 4] (.take 1 [2, 3, 4] (.alt 2 (.take 3 [] (.take 4 [] .done)) .nil))) (by kernel_rfl) ?_
     refine z6 rfl (hP) rfl ⟨⟨trivial, trivial, trivial, trivial, trivial, trivial, trivial, trivial, trivial, trivial⟩, trivial⟩ ?_
     refine xb rfl (fun b4 => ?_) (fun b4 => ?_)
     refine xr rfl (z7 rfl ⟨⟨rfl, ?_, trivial⟩, z1 rfl⟩)
     rotate_left
     refine xr rfl (z7 rfl ⟨⟨rfl, ?_, trivial⟩, z1 rfl⟩)
     rotate_left
     all_goals
      refine vi ?_
      rw [z4n c m hk rfl (show (q05 c.cons m.c).isNone = false by rw [h]; rfl) rfl (z55 m m.bare).symm]
      unfold ends
      clear hT hF hR hP ho h hk
      ((try dsimp only at *); simp_all only [Bool.not_eq_true', Bool.not_eq_false', Bool.not_true, Bool.not_false, Bool.and_true, Bool.true_and, Bool.and_false, Bool.false_and, Bool.and_self, Bool.or_true, Bool.true_or, Bool.or_false, Bool.false_or, Bool.false_eq_true, if_true, if_false, reduceIte]; done)
 · have hk : Go.Sx.within m.k 1 6 = false := by simpa using hk
   refine z6 rfl (yk _ _ _) rfl ⟨trivial, trivial, trivial, trivial⟩ ?_
   refine xb rfl (fun b0 => ?_) (fun b0 => ?_)
   refine xr rfl (z7 rfl ⟨⟨rfl, ?_, trivial⟩, z1 rfl⟩)
   rotate_left
   exact absurd b0 (by simp; omega)
   all_goals first
    | (refine vi ?_; unfold z0c; rw [hk]; rfl)
    | (exfalso; simp_all; done)
end Go.Proofs.YtbnbjaedijbnpaaGreat
end
section
namespace Go.Proofs.YtbnbjaedijbnpaaGreat
open Go Go.Sx
set_option maxRecDepth 20000
set_option maxHeartbeats 4000000
theorem y7y {a b c d a' b' c' d' : Int} : q0z [.int .i64 a, .int .i64 b, .int .i64 c, .int .i64 d] [.int .i64 a', .int .i64 b', .int .i64 c', .int .i64 d'] = decide (Leg.mk a b c d = Leg.mk a' b' c' d') := by
 rw [Bool.eq_iff_iff]; simp [q0z]
theorem q6u (us vs : List Leg) (hx : us.length ≤ 1048576) : PC Tryz.prog 278 [.one (.l (us.map Leg.cs)), .one (.l (vs.map Leg.cs))] (rB (decide (us = vs))) := by
 refine PC.begin Tryz.func278 rfl (by kernel_rfl) ?_
 refine xb rfl (fun h0 => ?_) (fun h0 => ?_)
 · have hne : ¬ us.length = vs.length := by simp at h0; omega
   refine xr rfl (z7 rfl ⟨⟨rfl, ?_, trivial⟩, z1 rfl⟩)
   all_goals (refine vb ?_; rw [eq_comm, decide_eq_false_iff_not]; exact fun e => hne (by rw [e]))
 · have he : us.length = vs.length := by simp at h0; omega
   refine qc rfl (ι := Nat) (fun i => i ≤ us.length ∧ us.take i = vs.take i) (fun i => ⟨[(13, sV (.int .i64 i)), (12, sV (.int .i64 (us.map Leg.cs).length)), (0, .one (.b (.l (us.map Leg.cs)))), (1, .one (.b (.l (vs.map Leg.cs))))], []⟩) (fun i => us.length - i) 0 ⟨Nat.zero_le _, rfl⟩ ?_ ?_
   · exact ⟨⟨rfl, rfl, rfl, rfl, trivial⟩, trivial, rfl⟩
   · intro i ⟨hi, hq⟩ J hJ
     refine xb rfl (fun h => ?_) (fun h => ?_)
     · have h : i < us.length := by simpa using h
       obtain ⟨x, hx1⟩ := gx h
       obtain ⟨y, hy1⟩ := gx (xs := vs) (i := i) (by omega)
       have hg := gm Leg.cs hx1
       have hg2 := gm Leg.cs hy1
       refine zb rfl [] (.take 0 [] (.take 1 [] (.take 2 [] (.take 3 [8] (.take 4 [] (.take 5 [] (.take 6 [] (.take 7 [8] (.take 8 [] .done))))))))) (by kernel_rfl) ?_
       refine xs rfl (Int.natCast_nonneg _) ?_
       refine ya rfl _ hg ?_
       refine xs rfl rfl ?_
       refine xs rfl (Int.natCast_nonneg _) ?_
       refine ya rfl _ hg2 ?_
       refine xs rfl rfl ?_
       refine xb rfl (fun b0 => ?_) (fun b0 => ?_)
       refine xr rfl (z7 rfl ⟨⟨rfl, ?_, trivial⟩, z1 rfl⟩)
       rotate_left
       rotate_left
       · rw [y7y] at b0
         refine vb ?_; rw [eq_comm, decide_eq_false_iff_not]; intro e; subst e; rw [hx1] at hy1; cases hy1; simp at b0
       · rw [y7y] at b0
         have e : x = y := by simpa only [Bool.not_eq_false', decide_eq_true_eq] using b0
         exact q9 rfl (hJ _ (i + 1) ⟨by omega, by rw [List.take_add_one, List.take_add_one, hx1, hy1, hq, e]⟩ (by omega) ⟨⟨cwi (by omega) (by omega) (by omega), rfl, rfl, rfl, trivial⟩, trivial, rfl⟩)
     · have h : i = us.length := by have : ¬ i < us.length := (by simpa using h); omega
       rw [h, List.take_length, he, List.take_length] at hq
       refine xr rfl (z7 rfl ⟨⟨rfl, ?_, trivial⟩, z1 rfl⟩)
       all_goals (refine vb ?_; rw [hq]; simp)
theorem z5o (a b : Con) (ha : a.legs.length ≤ 1048576) : PC Tryz.prog 203 [.agg a.cs, .agg b.cs] (rB (a.same b)) := by
 refine PC.begin Tryz.func203 rfl (by kernel_rfl) ?_
 refine xb rfl (fun b0 => ?_) (fun b0 => ?_)
 refine xj (k := 4) rfl ?_
 refine z6 rfl (q6u a.legs b.legs ha) rfl ⟨trivial, trivial, trivial⟩ ?_
 refine xj (k := 1) rfl ?_
 refine xr rfl (z7 rfl ⟨⟨rfl, ?_, trivial⟩, z1 rfl⟩)
 rotate_left
 refine xj (k := 5) rfl ?_
 refine xr rfl (z7 rfl ⟨⟨rfl, ?_, trivial⟩, z1 rfl⟩)
 rotate_left
 all_goals (refine vb ?_; unfold Con.same; simp_all)
theorem q45 (a b : Con) (ha : a.legs.length ≤ 1048576) : PC Tryz.prog 178 [.agg a.cs, .agg b.cs] (rB (a.same b)) := by
 refine PC.begin Tryz.func178 rfl (by kernel_rfl) ?_
 refine xb rfl (fun b0 => ?_) (fun b0 => ?_)
 refine xj (k := 8) rfl ?_
 refine xr rfl (z7 rfl ⟨⟨rfl, ?_, trivial⟩, z1 rfl⟩)
 rotate_left
 refine xj (k := 7) rfl ?_
 refine xb rfl (fun b1 => ?_) (fun b1 => ?_)
 refine xr rfl (z7 rfl ⟨⟨rfl, ?_, trivial⟩, z1 rfl⟩)
 rotate_left
 rotate_left
 · have h0 : ¬ a.id = b.id := by simpa using b0
   refine vb ?_; simp [Con.same, h0]
 · have hne : ¬ a.legs.length = b.legs.length := by simp at b1; omega
   refine vb ?_; unfold Con.same; rw [eq_comm, Bool.and_eq_false_iff]; exact .inr (decide_eq_false (fun e => hne (by rw [e])))
 · skip
   · have h0 : a.id = b.id := by simpa using b0
     have he : a.legs.length = b.legs.length := by simp at b1; omega
     clear b0 b1
     refine qc rfl (ι := Nat) (fun i => i ≤ a.legs.length ∧ a.legs.take i = b.legs.take i) (fun i => ⟨[(5, sV (.int .i64 i)), (2, .one (.a 2 0)), (3, .one (.a 3 0))], [(2, .var (a.cs.map .b)), (3, .var (b.cs.map .b))]⟩) (fun i => a.legs.length - i) 0 ⟨Nat.zero_le _, rfl⟩ ?_ ?_
     · exact ⟨⟨rfl, ⟨rfl, rfl, rfl⟩, ⟨rfl, rfl, rfl⟩, trivial⟩, ⟨lcr, lcr, trivial⟩, rfl⟩
     · intro i ⟨hi, hq⟩ J hJ
       refine xb rfl (fun h => ?_) (fun h => ?_)
       · have h : i < a.legs.length := by simpa using h
         obtain ⟨x, hx1⟩ := gx h
         obtain ⟨y, hy1⟩ := gx (xs := b.legs) (i := i) (by omega)
         have hg := gm Leg.cs hx1
         have hg2 := gm Leg.cs hy1
         refine zb rfl [] (.take 0 [] (.take 1 [3, 4, 10] (.take 2 [] (.take 3 [] (.take 4 [10] (.take 5 [] (.take 6 [8, 9, 10] (.take 7 [] (.take 8 [] (.take 9 [10] (.take 10 [] .done))))))))))) (by kernel_rfl) ?_
         refine xs rfl (Int.natCast_nonneg _) ?_
         refine ya rfl _ hg ?_
         refine xs rfl rfl ?_
         refine xs rfl (Int.natCast_nonneg _) ?_
         refine ya rfl _ hg2 ?_
         refine xs rfl rfl ?_
         refine xb rfl (fun b0 => ?_) (fun b0 => ?_)
         refine xr rfl (z7 rfl ⟨⟨rfl, ?_, trivial⟩, z1 rfl⟩)
         rotate_left
         rotate_left
         · rw [y7y] at b0
           refine vb ?_; unfold Con.same; rw [eq_comm, Bool.and_eq_false_iff]; refine .inr (decide_eq_false (fun e => ?_)); rw [e, hy1] at hx1; cases hx1; simp at b0
         · rw [y7y] at b0
           have e : x = y := by simpa only [Bool.not_eq_false', decide_eq_true_eq] using b0
           exact q9 rfl (hJ _ (i + 1) ⟨by omega, by rw [List.take_add_one, List.take_add_one, hx1, hy1, hq, e]⟩ (by omega) ⟨⟨cwi (by omega) (by omega) (by omega), ⟨rfl, rfl, rfl⟩, ⟨rfl, rfl, rfl⟩, trivial⟩, ⟨lcr, lcr, trivial⟩, rfl⟩)
       · have h : i = a.legs.length := by have : ¬ i < a.legs.length := (by simpa using h); omega
         rw [h, List.take_length, he, List.take_length] at hq
         refine xr rfl (z7 rfl ⟨⟨rfl, ?_, trivial⟩, z1 rfl⟩)
         all_goals (refine vb ?_; simp [Con.same, h0, hq])
theorem q3w (c : Clu) (ho : y00 c) (l : Leg) : PC Tryz.prog 268 [.agg l.cs, .one (.p [.p c.cs])] (rB (!(Go.Sx.within l.s 0 ((c.shs.length : Int) - 1)))) := by
 refine PC.begin Tryz.func268 rfl (by kernel_rfl) ?_
 have q1 := ho.2.1.1
 have p1 : (c.shs.map Shd.cs).length ≤ 1048576 := by simpa using q1
 refine zb rfl [] (.take 0 [] (.take 1 [6, 7, 8] (.take 2 [3, 4, 5, 6, 7, 8] (.take 3 [] (.take 4 [] (.take 5 [6, 7, 8] (.alt 6 (.take 7 [] (.take 8 [] .done)) .nil))))))) (by kernel_rfl) ?_
 refine z6 rfl (y22 _ _ (by assumption)) rfl ⟨trivial, trivial, trivial⟩ ?_
 refine xr rfl (z7 rfl ⟨⟨rfl, ?_, trivial⟩, z1 rfl⟩)
 all_goals (refine vb ?_; rw [List.length_map])
theorem z2b (c : Clu) (ho : y00 c) (x : Con) (hl : x.legs.length ≤ 1048576) : PC Tryz.prog 198 [.one (.p c.cs), .agg x.cs] (rB (!(q9j c x))) := by
 refine PC.begin Tryz.func198 rfl (by kernel_rfl) ?_
 have hi := y50 _ x.legs (fun l => !(Go.Sx.within l.s 0 ((c.shs.length : Int) - 1))) 268 (.p [.p c.cs]) rfl (fun l _ => q3w c ho l) hl
 refine z6 rfl (hi) rfl ⟨trivial, (List.forall_mem_cons.2 ⟨⟨trivial, trivial⟩, (fun _ h => nomatch h)⟩), trivial⟩ ?_
 refine xr rfl (z7 rfl ⟨⟨rfl, rfl, trivial⟩, z1 rfl⟩)
theorem z80 (c : Clu) (ho : y00 c) : PC Tryz.prog 115 [.one (.p c.cs)] (rI (scan (y08 c) c.cons.length)) := by
 refine PC.begin Tryz.func115 rfl (by kernel_rfl) ?_
 have hl := ho.1.1
 refine qc rfl (ι := Nat) (fun i => i ≤ c.cons.length ∧ ∀ j, j < i → y08 c j = 0) (fun i => ⟨[(11, sV (.int .i64 i)), (10, sV (.int .i64 (c.cons.map Con.cs).length)), (9, .one (.b (.l (c.cons.map Con.cs)))), (0, .one (.b (.p c.cs)))], []⟩) (fun i => c.cons.length - i) 0 ⟨Nat.zero_le _, fun j hj => by omega⟩ ?_ ?_
 · exact ⟨⟨rfl, rfl, rfl, rfl, trivial⟩, trivial, rfl⟩
 · intro i ⟨hi, h0⟩ J hJ
   refine xb rfl (fun h => ?_) (fun h => ?_)
   · have h : i < c.cons.length := by simpa using h
     obtain ⟨x, hx⟩ := gx h
     have hg := gm Con.cs hx
     have hxl := ho.1.2 x (List.mem_of_getElem? hx)
     rcases Nat.eq_zero_or_pos i with hz | hz
     · subst hz
       refine xs rfl (Int.natCast_nonneg _) ?_
       refine ya rfl _ hg ?_
       refine xs rfl rfl ?_
       refine z6 rfl (z3y _ (by assumption)) rfl ⟨⟨trivial, trivial, trivial⟩, trivial⟩ ?_
       refine xb rfl (fun b0 => ?_) (fun b0 => ?_)
       refine xr rfl (z7 rfl ⟨⟨rfl, ?_, trivial⟩, z1 rfl⟩)
       rotate_left
       refine z6 rfl (z2b c ho x hxl) rfl ⟨trivial, ⟨trivial, trivial, trivial⟩, trivial⟩ ?_
       refine xb rfl (fun b1 => ?_) (fun b1 => ?_)
       refine xr rfl (z7 rfl ⟨⟨rfl, ?_, trivial⟩, z1 rfl⟩)
       rotate_left
       refine zb rfl [] (.take 0 [] (.take 1 [] (.take 2 [] (.take 3 [] (.take 4 [] (.take 5 [] (.take 6 [9, 10, 11, 14, 15, 16] (.take 7 [] (.take 8 [] (.take 9 [] (.take 10 [] (.take 11 [14, 15, 16] (.take 12 [] (.take 13 [14, 15, 16] (.take 14 [] (.take 15 [] (.take 16 [] .done))))))))))))))))) (by kernel_rfl) ?_
       refine xj (k := 14) rfl ?_
       rotate_left
       all_goals (first | (refine vi (q7 h h0 ?_ (by first | decide | decide | simp_all)); clear hJ h0 hg; (first | (simp_all [y08, ahead_zero]; done) | (simp_all [y08, ahead_zero]; omega)); done) | (refine q9 rfl (hJ _ 1 ⟨by omega, za h0 ?_⟩ (by omega) ⟨⟨cwi (by omega) (by omega) (by omega), rfl, rfl, rfl, trivial⟩, trivial, rfl⟩); clear hJ h0 hg; (first | (simp_all [y08, ahead_zero]; done) | (simp_all [y08, ahead_zero]; omega)); done) | skip)
     · obtain ⟨p, hp⟩ := gx (xs := c.cons) (i := i - 1) (by omega)
       have hgp := q11 Con.cs hz (by omega) hp
       refine xs rfl (Int.natCast_nonneg _) ?_
       refine ya rfl _ hg ?_
       refine xs rfl rfl ?_
       refine z6 rfl (z3y _ (by assumption)) rfl ⟨⟨trivial, trivial, trivial⟩, trivial⟩ ?_
       refine xb rfl (fun b0 => ?_) (fun b0 => ?_)
       refine xr rfl (z7 rfl ⟨⟨rfl, ?_, trivial⟩, z1 rfl⟩)
       rotate_left
       refine z6 rfl (z2b c ho x hxl) rfl ⟨trivial, ⟨trivial, trivial, trivial⟩, trivial⟩ ?_
       refine xb rfl (fun b1 => ?_) (fun b1 => ?_)
       refine xr rfl (z7 rfl ⟨⟨rfl, ?_, trivial⟩, z1 rfl⟩)
       rotate_left
       refine zb rfl [] (.take 0 [] (.take 1 [] (.take 2 [] (.take 3 [] (.take 4 [] (.take 5 [] (.take 6 [9, 10, 11, 14, 15, 16] (.take 7 [] (.take 8 [] (.take 9 [] (.take 10 [] (.take 11 [14, 15, 16] (.take 12 [] (.take 13 [14, 15, 16] (.take 14 [] (.take 15 [] (.take 16 [] .done))))))))))))))))) (by kernel_rfl) ?_
       refine xb rfl (fun b2 => ?_) (fun b2 => ?_)
       refine xj (k := 6) rfl ?_
       refine xs rfl (q0g hz (by omega)) ?_
       refine ya rfl _ hgp ?_
       refine xs rfl rfl ?_
       refine xj (k := 6) rfl ?_
       refine xb rfl (fun b3 => ?_) (fun b3 => ?_)
       refine xr rfl (z7 rfl ⟨⟨rfl, ?_, trivial⟩, z1 rfl⟩)
       rotate_left
       rotate_left
       refine xj (k := 13) rfl ?_
       rotate_left
       all_goals (first | (refine vi (q7 h h0 ?_ (by first | decide | decide | simp_all)); clear hJ h0 hg hgp; (first | (simp_all [y08, y9 hz hp]; done) | (simp_all [y08, y9 hz hp]; omega)); done) | (refine q9 rfl (hJ _ (i + 1) ⟨by omega, za h0 ?_⟩ (by omega) ⟨⟨cwi (by omega) (by omega) (by omega), rfl, rfl, rfl, trivial⟩, trivial, rfl⟩); clear hJ h0 hg hgp; (first | (simp_all [y08, y9 hz hp]; done) | (simp_all [y08, y9 hz hp]; omega)); done) | skip)
   · have h : ¬ i < c.cons.length := by simpa using h
     have hz := yd (f := y08 c) (n := c.cons.length) (fun j hj => h0 j (by omega))
     clear hJ
     refine xr rfl (z7 rfl ⟨⟨rfl, ?_, trivial⟩, z1 rfl⟩)
     exact vi (hz.symm)
theorem z89 (c : Clu) (ho : y00 c) : PC Tryz.prog 98 [.one (.p c.cs)] (rI (scan (y08 c) c.cons.length)) := by
 refine PC.begin Tryz.func98 rfl (by kernel_rfl) ?_
 have hl := ho.1.1
 have q1 := ho.2.1.1
 refine qc rfl (ι := Nat) (fun i => i ≤ c.cons.length ∧ ∀ j, j < i → y08 c j = 0) (fun i => ⟨[(3, sV (.int .i64 i)), (0, .one (.b (.p c.cs)))], []⟩) (fun i => c.cons.length - i) 0 ⟨Nat.zero_le _, fun j hj => by omega⟩ ?_ ?_
 · exact ⟨⟨rfl, rfl, trivial⟩, trivial, rfl⟩
 · intro i ⟨hi, h0⟩ J hJ
   refine xb rfl (fun h => ?_) (fun h => ?_)
   · have h : i < c.cons.length := by simpa using h
     obtain ⟨x, hx⟩ := gx h
     have hg := gm Con.cs hx
     have hxl := ho.1.2 x (List.mem_of_getElem? hx)
     have hla : zm x = 0 → _ := fun h => q72 h c
     rcases Nat.eq_zero_or_pos i with hz | hz
     · subst hz
       refine xs rfl (Int.natCast_nonneg _) ?_
       refine ya rfl _ hg ?_
       refine xs rfl rfl ?_
       refine z6 rfl (y45 _ (by assumption)) rfl ⟨⟨trivial, trivial, trivial⟩, trivial⟩ ?_
       refine xb rfl (fun b0 => ?_) (fun b0 => ?_)
       refine xr rfl (z7 rfl ⟨⟨rfl, ?_, trivial⟩, z1 rfl⟩)
       rotate_left
       refine z6 rfl (z1m x hxl) rfl ⟨⟨trivial, trivial, trivial⟩, trivial⟩ ?_
       refine zb rfl [] (.take 0 [] (.take 1 [] (.take 2 [] (.take 3 [] (.take 4 [] (.take 5 [11] (.take 6 [] (.take 7 [] (.take 8 [] (.take 9 [10, 11] (.take 10 [] (.take 11 [] .done)))))))))))) (by kernel_rfl) ?_
       refine xs rfl (z73 (by simpa using b0)) ?_
       refine ya rfl _ (z4m (by simpa using b0)) ?_
       refine xs rfl rfl ?_
       refine xb rfl (fun b1 => ?_) (fun b1 => ?_)
       refine xr rfl (z7 rfl ⟨⟨rfl, ?_, trivial⟩, z1 rfl⟩)
       rotate_left
       refine zb rfl [] (.take 0 [] (.take 1 [] (.take 2 [] (.take 3 [] (.take 4 [14, 15] (.take 5 [] (.take 6 [] (.take 7 [] (.take 8 [11, 12, 13, 14, 15] (.take 9 [] (.take 10 [] (.take 11 [] (.take 12 [] (.take 13 [14, 15] (.take 14 [] (.take 15 [] .done)))))))))))))))) (by kernel_rfl) ?_
       refine xj (k := 14) rfl ?_
       rotate_left
       all_goals (first | (refine vi (q7 h h0 ?_ (by first | decide | decide | simp_all)); clear hJ h0 hg; (first | (simp_all [y08, ahead_zero]; done) | (simp_all [y08, ahead_zero]; omega)); done) | (refine q9 rfl (hJ _ 1 ⟨by omega, za h0 ?_⟩ (by omega) ⟨⟨cwi (by omega) (by omega) (by omega), rfl, trivial⟩, trivial, rfl⟩); clear hJ h0 hg; (first | (simp_all [y08, ahead_zero]; done) | (simp_all [y08, ahead_zero]; omega)); done) | skip)
     · obtain ⟨p, hp⟩ := gx (xs := c.cons) (i := i - 1) (by omega)
       have hgp := q11 Con.cs hz (by omega) hp
       refine xs rfl (Int.natCast_nonneg _) ?_
       refine ya rfl _ hg ?_
       refine xs rfl rfl ?_
       refine z6 rfl (y45 _ (by assumption)) rfl ⟨⟨trivial, trivial, trivial⟩, trivial⟩ ?_
       refine xb rfl (fun b0 => ?_) (fun b0 => ?_)
       refine xr rfl (z7 rfl ⟨⟨rfl, ?_, trivial⟩, z1 rfl⟩)
       rotate_left
       refine z6 rfl (z1m x hxl) rfl ⟨⟨trivial, trivial, trivial⟩, trivial⟩ ?_
       refine zb rfl [] (.take 0 [] (.take 1 [] (.take 2 [] (.take 3 [] (.take 4 [] (.take 5 [11] (.take 6 [] (.take 7 [] (.take 8 [] (.take 9 [10, 11] (.take 10 [] (.take 11 [] .done)))))))))))) (by kernel_rfl) ?_
       refine xs rfl (z73 (by simpa using b0)) ?_
       refine ya rfl _ (z4m (by simpa using b0)) ?_
       refine xs rfl rfl ?_
       refine xb rfl (fun b1 => ?_) (fun b1 => ?_)
       refine xr rfl (z7 rfl ⟨⟨rfl, ?_, trivial⟩, z1 rfl⟩)
       rotate_left
       refine zb rfl [] (.take 0 [] (.take 1 [] (.take 2 [] (.take 3 [] (.take 4 [14, 15] (.take 5 [] (.take 6 [] (.take 7 [] (.take 8 [11, 12, 13, 14, 15] (.take 9 [] (.take 10 [] (.take 11 [] (.take 12 [] (.take 13 [14, 15] (.take 14 [] (.take 15 [] .done)))))))))))))))) (by kernel_rfl) ?_
       refine xb rfl (fun b2 => ?_) (fun b2 => ?_)
       refine xj (k := 8) rfl ?_
       refine xs rfl (q0g hz (by omega)) ?_
       refine ya rfl _ hgp ?_
       refine xs rfl rfl ?_
       refine xj (k := 4) rfl ?_
       refine xb rfl (fun b3 => ?_) (fun b3 => ?_)
       refine xr rfl (z7 rfl ⟨⟨rfl, ?_, trivial⟩, z1 rfl⟩)
       rotate_left
       rotate_left
       refine xj (k := 13) rfl ?_
       rotate_left
       all_goals (first | (refine vi (q7 h h0 ?_ (by first | decide | decide | simp_all)); clear hJ h0 hg hgp; (first | (simp_all [y08, y9 hz hp]; done) | (simp_all [y08, y9 hz hp]; omega)); done) | (refine q9 rfl (hJ _ (i + 1) ⟨by omega, za h0 ?_⟩ (by omega) ⟨⟨cwi (by omega) (by omega) (by omega), rfl, trivial⟩, trivial, rfl⟩); clear hJ h0 hg hgp; (first | (simp_all [y08, y9 hz hp]; done) | (simp_all [y08, y9 hz hp]; omega)); done) | skip)
   · have h : ¬ i < c.cons.length := by simpa using h
     have hz := yd (f := y08 c) (n := c.cons.length) (fun j hj => h0 j (by omega))
     clear hJ
     refine xr rfl (z7 rfl ⟨⟨rfl, ?_, trivial⟩, z1 rfl⟩)
     exact vi (hz.symm)
end Go.Proofs.YtbnbjaedijbnpaaGreat
end
section
namespace Go.Proofs.YtbnbjaedijbnpaaGreat
open Go Go.Sx
set_option maxRecDepth 20000
set_option maxHeartbeats 4000000
theorem z9x (rr : List (List Cell)) (us : List Mk) (p : Mk → Bool) (fn : Nat) (c0 : Cell) (c1 : Cell) (hr : rr = us.map Mk.cs) (hf : ∀ x ∈ us, PC Tryz.prog fn [.agg x.cs, .one c0, .one c1] (rB (p x))) (hl : us.length ≤ 1048576) : PC Tryz.prog 277 [.one (.l rr), .one (.f fn [c0, c1])] (rI (y14 p us)) := by
 refine PC.begin Tryz.func277 rfl (by kernel_rfl) ?_
 subst hr
 have hn : (us.map Mk.cs).length = us.length := by simp
 refine qc rfl (ι := Nat) (fun i => i ≤ us.length ∧ ∀ j y, j < i → us[j]? = some y → p y = false) (fun i => ⟨[(8, sV (.int .i64 i)), (7, sV (.int .i64 (us.map Mk.cs).length)), (0, .one (.b (.l (us.map Mk.cs)))), (1, .one (.b (.f fn [c0, c1])))], []⟩) (fun i => us.length - i) 0 ⟨Nat.zero_le _, fun j y hj => by omega⟩ ?_ ?_
 · exact ⟨⟨rfl, rfl, rfl, rfl, trivial⟩, trivial, rfl⟩
 · intro i ⟨hi, h0⟩ J hJ
   refine xb rfl (fun h => ?_) (fun h => ?_)
   · have h : i < us.length := by simpa using h
     obtain ⟨x, hx⟩ := gx h
     have hg := gm Mk.cs hx
     have hxm := List.mem_of_getElem? hx
     refine xs rfl (Int.natCast_nonneg _) ?_
     refine ya rfl _ hg ?_
     refine xs rfl rfl ?_
     refine z6 rfl (hf _ hxm) rfl ⟨⟨trivial, trivial, trivial⟩, trivial, trivial, trivial⟩ ?_
     refine xb rfl (fun b0 => ?_) (fun b0 => ?_)
     refine xr rfl (z7 rfl ⟨⟨rfl, ?_, trivial⟩, z1 rfl⟩)
     rotate_left
     rotate_left
     · exact vi (z03 hx h0 b0).symm
     · exact q9 rfl (hJ _ (i + 1) ⟨by omega, ye hx h0 b0⟩ (by omega) ⟨⟨cwi (by omega) (by omega) (by omega), rfl, rfl, rfl, trivial⟩, trivial, rfl⟩)
   · have h : ¬ i < us.length := by simpa using h
     refine xr rfl (z7 rfl ⟨⟨rfl, ?_, trivial⟩, z1 rfl⟩)
     exact vi (qx (zi (by omega) h0)).symm
theorem q8i (rr : List (List Cell)) (us : List Mk) (p : Mk → Bool) (fn : Nat) (c0 : Cell) (c1 : Cell) (hr : rr = us.map Mk.cs) (hf : ∀ x ∈ us, PC Tryz.prog fn [.agg x.cs, .one c0, .one c1] (rB (p x))) (hl : us.length ≤ 1048576) : PC Tryz.prog 202 [.one (.l rr), .one (.f fn [c0, c1])] (rB (us.any p)) := by
 refine PC.begin Tryz.func202 rfl (by kernel_rfl) ?_
 have hi := z9x rr us p fn c0 c1 hr hf hl
 refine z6 rfl (hi) rfl ⟨trivial, trivial, trivial⟩ ?_
 refine xr rfl (z7 rfl ⟨⟨rfl, ?_, trivial⟩, z1 rfl⟩)
 exact vb q0b
theorem z95 (rr : List (List Cell)) (us : List Slt) (p : Slt → Bool) (fn : Nat) (c0 : Cell) (hr : rr = us.map Slt.cs) (hf : ∀ x ∈ us, PC Tryz.prog fn [.agg x.cs, .one c0] (rB (p x))) (hl : us.length ≤ 1048576) : PC Tryz.prog 281 [.one (.l rr), .one (.f fn [c0])] (rI (y14 p us)) := by
 refine PC.begin Tryz.func281 rfl (by kernel_rfl) ?_
 subst hr
 have hn : (us.map Slt.cs).length = us.length := by simp
 refine qc rfl (ι := Nat) (fun i => i ≤ us.length ∧ ∀ j y, j < i → us[j]? = some y → p y = false) (fun i => ⟨[(8, sV (.int .i64 i)), (7, sV (.int .i64 (us.map Slt.cs).length)), (0, .one (.b (.l (us.map Slt.cs)))), (1, .one (.b (.f fn [c0])))], []⟩) (fun i => us.length - i) 0 ⟨Nat.zero_le _, fun j y hj => by omega⟩ ?_ ?_
 · exact ⟨⟨rfl, rfl, rfl, rfl, trivial⟩, trivial, rfl⟩
 · intro i ⟨hi, h0⟩ J hJ
   refine xb rfl (fun h => ?_) (fun h => ?_)
   · have h : i < us.length := by simpa using h
     obtain ⟨x, hx⟩ := gx h
     have hg := gm Slt.cs hx
     have hxm := List.mem_of_getElem? hx
     refine xs rfl (Int.natCast_nonneg _) ?_
     refine ya rfl _ hg ?_
     refine xs rfl rfl ?_
     refine z6 rfl (hf _ hxm) rfl ⟨⟨trivial, trivial, trivial, trivial, trivial, trivial, trivial⟩, trivial, trivial⟩ ?_
     refine xb rfl (fun b0 => ?_) (fun b0 => ?_)
     refine xr rfl (z7 rfl ⟨⟨rfl, ?_, trivial⟩, z1 rfl⟩)
     rotate_left
     rotate_left
     · exact vi (z03 hx h0 b0).symm
     · exact q9 rfl (hJ _ (i + 1) ⟨by omega, ye hx h0 b0⟩ (by omega) ⟨⟨cwi (by omega) (by omega) (by omega), rfl, rfl, rfl, trivial⟩, trivial, rfl⟩)
   · have h : ¬ i < us.length := by simpa using h
     refine xr rfl (z7 rfl ⟨⟨rfl, ?_, trivial⟩, z1 rfl⟩)
     exact vi (qx (zi (by omega) h0)).symm
theorem y8w (rr : List (List Cell)) (us : List Slt) (p : Slt → Bool) (fn : Nat) (c0 : Cell) (hr : rr = us.map Slt.cs) (hf : ∀ x ∈ us, PC Tryz.prog fn [.agg x.cs, .one c0] (rB (p x))) (hl : us.length ≤ 1048576) : PC Tryz.prog 205 [.one (.l rr), .one (.f fn [c0])] (rB (us.any p)) := by
 refine PC.begin Tryz.func205 rfl (by kernel_rfl) ?_
 have hi := z95 rr us p fn c0 hr hf hl
 refine z6 rfl (hi) rfl ⟨trivial, trivial, trivial⟩ ?_
 refine xr rfl (z7 rfl ⟨⟨rfl, ?_, trivial⟩, z1 rfl⟩)
 exact vb q0b
theorem y30 (c : Clu) (ho : y00 c) (i : Int) (m : Mk) : PC Tryz.prog 200 [.agg m.cs, .one (.p [.p c.cs]), .one (.p [i64 i])] (rB (!(q0s c.cons m.c i))) := by
 refine PC.begin Tryz.func200 rfl (by kernel_rfl) ?_
 refine z6 rfl (z10 _ (by assumption) _ _) rfl ⟨trivial, trivial, trivial, trivial⟩ ?_
 refine xr rfl (z7 rfl ⟨⟨rfl, rfl, trivial⟩, z1 rfl⟩)
theorem y80 (c : Clu) (ho : y00 c) (i : Nat) (s : Shd) (hs : c.shs[i]? = some s) : PC Tryz.prog 116 [.one (.p c.cs), .one (i64 i)] (rI (y8b c i s)) := by
 refine PC.begin Tryz.func116 rfl (by kernel_rfl) ?_
 have hg := gm Shd.cs hs
 have hso := ho.2.1.2 s (List.mem_of_getElem? hs)
 obtain ⟨o1, o2, o3, o4, o5, o6⟩ := id hso
 have hv := q8i _ s.votes (fun m => !(q0s c.cons m.c i)) 200 (.p [.p c.cs]) (.p [i64 i]) rfl (fun m _ => y30 c ho i m) o2
 have hd := q8i _ s.done (fun m => !(q0s c.cons m.c i)) 200 (.p [.p c.cs]) (.p [i64 i]) rfl (fun m _ => y30 c ho i m) o4
 refine zb rfl [] (.take 0 [1, 2, 3, 5, 6, 8] (.take 1 [] (.take 2 [] (.take 3 [5, 6, 8] (.take 4 [5, 6, 8] (.take 5 [] (.take 6 [8] (.alt 7 (.alt 8 .done .nil) .nil)))))))) (by kernel_rfl) ?_
 refine xs rfl (Int.natCast_nonneg _) ?_
 refine ya rfl _ hg ?_
 refine xs rfl rfl ?_
 refine z6 rfl (z7f s hso) rfl ⟨⟨trivial, trivial, trivial, trivial, trivial, trivial, trivial⟩, trivial⟩ ?_
 refine xb rfl (fun b0 => ?_) (fun b0 => ?_)
 refine xr rfl (z7 rfl ⟨⟨rfl, ?_, trivial⟩, z1 rfl⟩)
 rotate_left
 refine xb rfl (fun b1 => ?_) (fun b1 => ?_)
 refine xj (k := 10) rfl ?_
 refine xr rfl (z7 rfl ⟨⟨rfl, ?_, trivial⟩, z1 rfl⟩)
 rotate_left
 refine xj (k := 3) rfl ?_
 refine z6 rfl (hv) rfl ⟨trivial, (List.forall_mem_cons.2 ⟨⟨trivial, trivial⟩, (List.forall_mem_cons.2 ⟨⟨trivial, trivial⟩, (fun _ h => nomatch h)⟩)⟩), trivial⟩ ?_
 refine xj (k := 1) rfl ?_
 refine xb rfl (fun b2 => ?_) (fun b2 => ?_)
 refine xj (k := 5) rfl ?_
 refine xr rfl (z7 rfl ⟨⟨rfl, ?_, trivial⟩, z1 rfl⟩)
 rotate_left
 refine xj (k := 3) rfl ?_
 refine z6 rfl (hd) rfl ⟨trivial, (List.forall_mem_cons.2 ⟨⟨trivial, trivial⟩, (List.forall_mem_cons.2 ⟨⟨trivial, trivial⟩, (fun _ h => nomatch h)⟩)⟩), trivial⟩ ?_
 refine xj (k := 1) rfl ?_
 refine xb rfl (fun b3 => ?_) (fun b3 => ?_)
 refine xr rfl (z7 rfl ⟨⟨rfl, ?_, trivial⟩, z1 rfl⟩)
 rotate_left
 rotate_left
 all_goals first | (refine vi ?_; unfold y8b; simp_all; done) | skip
 have hsf : zh s = 0 := by simpa using b0
 have hix : s.idx = i := by simpa using b1
 have hvd : ((s.votes.any fun m => !(q0s c.cons m.c i)) || (s.done.any fun m => !(q0s c.cons m.c i))) = false := by rw [b2, b3]; rfl
 rw [y47 hsf hix, hvd]
 have hcon := q2m hsf
 clear hv hd b0 b1 b2 b3 hvd
 refine qc rfl (ι := Nat) (fun i => i ≤ s.held.length ∧ ∀ j y, j < i → s.held[j]? = some y → y2i c y = false) (fun i => ⟨[(44, sV (.int .i64 i)), (43, sV (.int .i64 (s.held.map Con.cs).length)), (42, .one (.b (.l (s.held.map Con.cs)))), (2, .one (.a 2 0))], [(2, .var [.b (.p c.cs)])]⟩) (fun i => s.held.length - i) 0 ⟨Nat.zero_le _, fun j y hj => by omega⟩ ?_ ?_
 · exact ⟨⟨rfl, rfl, rfl, ⟨rfl, rfl, rfl⟩, trivial⟩, ⟨⟨rfl, trivial⟩, trivial⟩, rfl⟩
 · intro k ⟨hk, h0⟩ J hJ
   refine xb rfl (fun h => ?_) (fun h => ?_)
   · have h : k < s.held.length := by simpa using h
     obtain ⟨y, hy⟩ := gx h
     have hgy := gm Con.cs hy
     have hym := List.mem_of_getElem? hy
     have hyl := o6 y hym
     have hid := (y0i (hcon y hym)).1.1
     cases hc : q05 c.cons y.id with
     | none =>
       have hb : y2i c y = true := by unfold y2i; rw [hc]
       have hsm : (Con.mk 0 []).same y = false := by unfold Con.same; rw [Bool.and_eq_false_iff]; exact .inl (beq_false_of_ne (fun e => by have : (0 : Int) = y.id := e; omega))
       have hq := z5o ⟨0, []⟩ y (Nat.zero_le _)
       rw [hsm] at hq
       refine xs rfl (Int.natCast_nonneg _) ?_
       refine ya rfl _ hgy ?_
       refine xs rfl rfl ?_
       refine z6 rfl (z13 c ho y.id hc) rfl ⟨trivial, trivial, trivial⟩ ?_
       refine z6 rfl (hq) rfl ⟨⟨trivial, trivial, trivial⟩, ⟨trivial, trivial, trivial⟩, trivial⟩ ?_
       refine xj (k := 1) rfl ?_
       refine xr rfl (z7 rfl ⟨⟨rfl, ?_, trivial⟩, z1 rfl⟩)
       exact vi (by rw [if_neg (by decide), if_pos (yp hy hb).symm])
     | some x =>
       have hxl := ho.1.2 x (List.mem_of_find?_eq_some hc)
       have hb : y2i c y = !(x.same y) := by unfold y2i; rw [hc]
       refine xs rfl (Int.natCast_nonneg _) ?_
       refine ya rfl _ hgy ?_
       refine xs rfl rfl ?_
       refine z6 rfl (q0o c ho y.id x hc) rfl ⟨trivial, trivial, trivial⟩ ?_
       refine z6 rfl (z5o x y hxl) rfl ⟨⟨trivial, trivial, trivial⟩, ⟨trivial, trivial, trivial⟩, trivial⟩ ?_
       refine xb rfl (fun b0 => ?_) (fun b0 => ?_)
       refine xr rfl (z7 rfl ⟨⟨rfl, ?_, trivial⟩, z1 rfl⟩)
       rotate_left
       rotate_left
       · exact vi (by rw [if_neg (by decide), if_pos (yp hy (hb.trans b0)).symm])
       · exact q9 rfl (hJ _ (k + 1) ⟨by omega, ye hy h0 (hb.trans b0)⟩ (by omega) ⟨⟨cwi (by omega) (by omega) (by omega), rfl, rfl, ⟨rfl, rfl, rfl⟩, trivial⟩, ⟨⟨rfl, trivial⟩, trivial⟩, rfl⟩)
   · have h : ¬ k < s.held.length := by simpa using h
     have hz := any_none (zi (by omega) h0)
     refine xr rfl (z7 rfl ⟨⟨rfl, ?_, trivial⟩, z1 rfl⟩)
     exact vi (by rw [if_neg (by decide), if_neg (by rw [← hz]; decide)])
theorem z5e (c : Clu) (ho : y00 c) (x : Slt) : PC Tryz.prog 206 [.agg x.cs, .one (.p [.p c.cs])] (rB (!(q0s c.cons x.c x.s))) := by
 refine PC.begin Tryz.func206 rfl (by kernel_rfl) ?_
 refine z6 rfl (z10 _ (by assumption) _ _) rfl ⟨trivial, trivial, trivial, trivial⟩ ?_
 refine xr rfl (z7 rfl ⟨⟨rfl, rfl, trivial⟩, z1 rfl⟩)
theorem q7z (c : Clu) (ho : y00 c) (a : Acc) (ha : z6i a) : PC Tryz.prog 119 [.one (.p c.cs), .agg a.cs] (rI (q8u c a)) := by
 refine PC.begin Tryz.func119 rfl (by kernel_rfl) ?_
 have hv := y8w _ a.slots (fun x => !(q0s c.cons x.c x.s)) 206 (.p [.p c.cs]) rfl (fun x _ => z5e c ho x) ha.1
 refine z6 rfl (q91 a ha) rfl ⟨⟨trivial, trivial⟩, trivial⟩ ?_
 refine xb rfl (fun b0 => ?_) (fun b0 => ?_)
 refine xr rfl (z7 rfl ⟨⟨rfl, ?_, trivial⟩, z1 rfl⟩)
 rotate_left
 refine z6 rfl (hv) rfl ⟨trivial, (List.forall_mem_cons.2 ⟨⟨trivial, trivial⟩, (fun _ h => nomatch h)⟩), trivial⟩ ?_
 refine xb rfl (fun b1 => ?_) (fun b1 => ?_)
 refine xr rfl (z7 rfl ⟨⟨rfl, ?_, trivial⟩, z1 rfl⟩)
 rotate_left
 refine xr rfl (z7 rfl ⟨⟨rfl, ?_, trivial⟩, z1 rfl⟩)
 rotate_left
 all_goals (refine vi ?_; unfold q8u; clear hv; simp_all; done)
end Go.Proofs.YtbnbjaedijbnpaaGreat
end
section
namespace Go.Proofs.YtbnbjaedijbnpaaGreat
open Go Go.Sx
set_option maxRecDepth 20000
set_option maxHeartbeats 4000000
theorem z21 (us : List Mk) : ∀ row ∈ us.map Mk.cs, row.length = 2 := fun row h => by
 simp at h
 obtain ⟨_, _, rfl⟩ := h; rfl
theorem y69 (us : List Mk) : zy (us.map Mk.cs) := fun row h => by
 simp only [List.mem_map] at h
 obtain ⟨x, _, rfl⟩ := h
 intro c hc
 simp at hc
 rcases hc with rfl | rfl <;> exact ⟨_, rfl⟩
theorem z8a (c : Clu) (ho : y00 c) : PC Tryz.prog 99 [.one (.p c.cs)] (rI (scan (q1x c) c.shs.length)) := by
 refine PC.begin Tryz.func99 rfl (by kernel_rfl) ?_
 have hl := ho.2.1.1
 refine qc rfl (ι := Nat) (fun i => i ≤ c.shs.length ∧ ∀ j, j < i → q1x c j = 0) (fun i => ⟨[(3, sV (.int .i64 i)), (0, .one (.b (.p c.cs)))], []⟩) (fun i => c.shs.length - i) 0 ⟨Nat.zero_le _, fun j hj => by omega⟩ ?_ ?_
 · exact ⟨⟨rfl, rfl, trivial⟩, trivial, rfl⟩
 · intro i ⟨hi, h0⟩ J hJ
   refine xb rfl (fun h => ?_) (fun h => ?_)
   · have h : i < c.shs.length := by simpa using h
     obtain ⟨s, hx⟩ := gx h
     have hg := gm Shd.cs hx
     have hso := ho.2.1.2 s (List.mem_of_getElem? hx)
     obtain ⟨o1, o2, o3, o4, o5, o6⟩ := id hso
     have hF : q1x c i = y8b c i s := by unfold q1x; rw [hx]
     refine xs rfl (Int.natCast_nonneg _) ?_
     refine ya rfl _ hg ?_
     refine xs rfl rfl ?_
     refine z6 rfl (q7d s hso) rfl ⟨⟨trivial, trivial, trivial, trivial, trivial, trivial, trivial⟩, trivial⟩ ?_
     refine xb rfl (fun b0 => ?_) (fun b0 => ?_)
     refine xr rfl (z7 rfl ⟨⟨rfl, ?_, trivial⟩, z1 rfl⟩)
     rotate_left
     refine xb rfl (fun b1 => ?_) (fun b1 => ?_)
     refine xr rfl (z7 rfl ⟨⟨rfl, ?_, trivial⟩, z1 rfl⟩)
     rotate_left
     refine zb rfl [] (.take 1 [] (.take 2 [3, 6, 7] (.take 4 [] (.alt 0 (.alt 3 (.take 5 [6, 7] (.alt 6 (.take 7 [] .done) .nil)) (.alt 5 (.alt 3 (.alt 6 (.take 7 [] .done) .nil) .nil) .nil)) (.alt 5 (.alt 0 (.alt 3 (.alt 6 (.take 7 [] .done) .nil) .nil) .nil) .nil))))) (by kernel_rfl) ?_
     refine y1b rfl ?_ ?_
     refine xs rfl trivial ?_
     refine y1b rfl ?_ ?_
     refine xs rfl rfl ?_
     refine xs rfl (z21 _) ?_
     refine xs rfl (fun _ => y69 _) ?_
     refine xs rfl (by simp; omega) ?_
     refine xs rfl (by simp; omega) ?_
     refine xs rfl (by simp) ?_
     refine xs rfl (z21 _) ?_
     refine xs rfl (fun _ => y69 _) ?_
     refine xs rfl (by simp; omega) ?_
     refine xs rfl (by simp; omega) ?_
     rotate_left
     refine xs rfl rfl ?_
     refine xs rfl (z21 _) ?_
     refine xs rfl (fun _ => y69 _) ?_
     refine xs rfl (by simp; omega) ?_
     refine xs rfl (by simp; omega) ?_
     refine xs rfl (by simp) ?_
     refine xs rfl (z21 _) ?_
     refine xs rfl (fun _ => y69 _) ?_
     refine xs rfl (by simp; omega) ?_
     refine xs rfl (by simp; omega) ?_
     rotate_left
     refine xs rfl trivial ?_
     refine xs rfl rfl ?_
     refine xs rfl (z21 _) ?_
     refine xs rfl (fun _ => y69 _) ?_
     refine xs rfl (by simp; omega) ?_
     refine xs rfl (by simp; omega) ?_
     refine xs rfl (by simp) ?_
     refine xs rfl (z21 _) ?_
     refine xs rfl (fun _ => y69 _) ?_
     refine xs rfl (by simp; omega) ?_
     refine xs rfl (by simp; omega) ?_
     rotate_left
     all_goals first
      | (refine vi (q7 h h0 ?_ (by first | decide | (clear hJ h0; simp_all; done))); clear hJ h0 hg; rw [hF]; unfold y8b; simp_all; done)
      | skip
     · skip
       have hsf : zh s = 0 := by simpa using b0
       have hix : s.idx = i := by simpa using b1
       have hE := y47 (c := c) hsf hix
       have hcon := q2m hsf
       rw [hE] at hF
       obtain ⟨ms, hms⟩ : ∃ ms, ms = s.votes ++ s.done := ⟨_, rfl⟩
       have hml : ms.length ≤ 2097152 := by rw [hms, List.length_append]; omega
       refine qc rfl (ι := Nat) (fun k => k ≤ ms.length ∧ ∀ j y, j < k → ms[j]? = some y → (!(q0s c.cons y.c s.idx)) = false) (fun k => ⟨[(7, sV (.int .i64 k)), (6, .one (.h 35 ms.length)), (4, .one (.a 4 0)), (3, sV (.int .i64 i)), (0, .one (.b (.p c.cs)))], [(35, .arr true 2 0 (ms.map Mk.cs)), (4, .var (s.cs.map .b))]⟩) (fun k => ms.length - k) 0 ⟨Nat.zero_le _, fun j y hj => by omega⟩ ?_ ?_
       · exact ⟨⟨rfl, ⟨rfl, (by rw [hms]; simp), rfl⟩, ⟨rfl, rfl, rfl⟩, rfl, rfl, trivial⟩, ⟨⟨(by rw [hms]; simp), .inl rfl, .inl rfl⟩, ⟨rfl, rfl, rfl, rfl, rfl, rfl, trivial⟩, trivial⟩, rfl⟩
       · intro k ⟨hk, h0k⟩ Jk hJk
         refine xb rfl (fun hh => ?_) (fun hh => ?_)
         · have hh : k < ms.length := by simpa using hh
           have hkl : k < 2097152 := by omega
           obtain ⟨y, hy⟩ := gx hh
           have hgy := gm Mk.cs hy
           refine zb rfl [] (.take 0 [] (.take 1 [] (.take 2 [] (.take 3 [] (.take 4 [] (.take 5 [8, 9] (.take 6 [] (.take 7 [8, 9] (.alt 8 (.take 9 [] .done) .nil))))))))) (by kernel_rfl) ?_
           refine xs rfl (by simp) ?_
           refine xs rfl (Int.natCast_nonneg _) ?_
           refine ya rfl _ hgy ?_
           refine xs rfl rfl ?_
           refine xs rfl (by simp) ?_
           refine ya rfl _ hgy ?_
           refine z6 rfl (qt _ (by assumption) _ _) rfl ⟨trivial, trivial, trivial, trivial⟩ ?_
           refine xb rfl (fun b0 => ?_) (fun b0 => ?_)
           refine xr rfl (z7 rfl ⟨⟨rfl, ?_, trivial⟩, z1 rfl⟩)
           rotate_left
           rotate_left
           · refine vi (q7 h h0 ?_ (by decide))
             have ha := yp (p := fun y => !(q0s c.cons y.c s.idx)) hy b0
             rw [hms, List.any_append, hix] at ha
             rw [hF, if_pos ha.symm]
           · exact q9 rfl (hJk _ (k + 1) ⟨by omega, ye hy h0k b0⟩ (by omega) ⟨⟨cwi (by omega) (by omega) (by omega), ⟨rfl, rfl, rfl⟩, ⟨rfl, rfl, rfl⟩, rfl, rfl, trivial⟩, ⟨⟨rfl, .inl rfl, .inl rfl⟩, lcr, trivial⟩, rfl⟩)
         · have hh : ¬ k < ms.length := by simpa using hh
           have ha := any_none (zi (by omega) h0k)
           rw [hms, List.any_append, hix] at ha
           rw [if_neg (by rw [← ha]; decide)] at hF
           clear hJk h0k
           refine qc rfl (ι := Nat) (fun k => k ≤ s.held.length ∧ ∀ j y, j < k → s.held[j]? = some y → y2i c y = false) (fun k => ⟨[(8, sV (.int .i64 k)), (4, .one (.a 4 0)), (3, sV (.int .i64 i)), (0, .one (.b (.p c.cs)))], [(4, .var (s.cs.map .b))]⟩) (fun k => s.held.length - k) 0 ⟨Nat.zero_le _, fun j y hj => by omega⟩ ?_ ?_
           · exact ⟨⟨rfl, ⟨rfl, rfl, rfl⟩, rfl, rfl, trivial⟩, ⟨lcr, trivial⟩, rfl⟩
           · intro k ⟨hk, h0k⟩ Jk hJk
             refine xb rfl (fun hh => ?_) (fun hh => ?_)
             · have hh : k < s.held.length := by simpa using hh
               obtain ⟨y, hy⟩ := gx hh
               have hgy := gm Con.cs hy
               have hf := q0h c y.id ho.1.1
               cases hc : q05 c.cons y.id with
               | none =>
                 rw [y1l hc] at hf
                 have hb : y2i c y = true := by unfold y2i; rw [hc]
                 refine xs rfl (Int.natCast_nonneg _) ?_
                 refine ya rfl _ hgy ?_
                 refine xs rfl rfl ?_
                 refine z6 rfl (hf) rfl ⟨trivial, trivial, trivial⟩ ?_
                 refine zb rfl [] (.take 0 [] (.take 1 [] (.take 2 [] (.take 3 [] (.take 4 [] (.take 5 [] (.take 6 [8, 9, 15, 16, 17] (.take 7 [] (.take 8 [] (.take 9 [15, 16, 17] (.take 10 [] (.take 11 [13, 14, 15, 16, 17] (.take 12 [] (.take 13 [] (.take 14 [15, 16, 17] (.alt 15 (.take 16 [] (.take 17 [] .done)) .nil)))))))))))))))) (by kernel_rfl) ?_
                 refine xj (k := 16) rfl ?_
                 refine xr rfl (z7 rfl ⟨⟨rfl, ?_, trivial⟩, z1 rfl⟩)
                 exact vi (q7 h h0 (by rw [hF, if_pos (yp hy hb).symm]) (by decide))
               | some x =>
                 obtain ⟨q, hq, hqx⟩ := q0x hc
                 rw [hq] at hf
                 have hgq := gm Con.cs hqx
                 have hxl := ho.1.2 x (List.mem_of_find?_eq_some hc)
                 have hb : y2i c y = !(x.same y) := by unfold y2i; rw [hc]
                 refine xs rfl (Int.natCast_nonneg _) ?_
                 refine ya rfl _ hgy ?_
                 refine xs rfl rfl ?_
                 refine z6 rfl (hf) rfl ⟨trivial, trivial, trivial⟩ ?_
                 refine zb rfl [] (.take 0 [] (.take 1 [] (.take 2 [] (.take 3 [] (.take 4 [] (.take 5 [] (.take 6 [8, 9, 15, 16, 17] (.take 7 [] (.take 8 [] (.take 9 [15, 16, 17] (.take 10 [] (.take 11 [13, 14, 15, 16, 17] (.take 12 [] (.take 13 [] (.take 14 [15, 16, 17] (.alt 15 (.take 16 [] (.take 17 [] .done)) .nil)))))))))))))))) (by kernel_rfl) ?_
                 refine xj (k := 6) rfl ?_
                 refine xs rfl (Int.natCast_nonneg _) ?_
                 refine ya rfl _ hgq ?_
                 refine xs rfl rfl ?_
                 refine xj (k := 5) rfl ?_
                 refine xs rfl (Int.natCast_nonneg _) ?_
                 refine ya rfl _ hgy ?_
                 refine xs rfl rfl ?_
                 refine xj (k := 2) rfl ?_
                 refine z6 rfl (q45 x y hxl) rfl ⟨⟨trivial, trivial, trivial⟩, ⟨trivial, trivial, trivial⟩, trivial⟩ ?_
                 refine xj (k := 2) rfl ?_
                 refine xb rfl (fun b0 => ?_) (fun b0 => ?_)
                 refine xr rfl (z7 rfl ⟨⟨rfl, ?_, trivial⟩, z1 rfl⟩)
                 rotate_left
                 rotate_left
                 all_goals first
                  | (exfalso; simp at b0; omega)
                  | exact vi (q7 h h0 (by rw [hF, if_pos (yp hy (hb.trans b0)).symm]) (by decide))
                  | exact q9 rfl (hJk _ (k + 1) ⟨by omega, ye hy h0k (hb.trans b0)⟩ (by omega) ⟨⟨cwi (by omega) (by omega) (by omega), ⟨rfl, rfl, rfl⟩, rfl, rfl, trivial⟩, ⟨lcr, trivial⟩, rfl⟩)
             · have hh : ¬ k < s.held.length := by simpa using hh
               have hz := any_none (zi (by omega) h0k)
               rw [if_neg (by rw [← hz]; decide)] at hF
               skip
               exact q9 rfl (hJ _ (i + 1) ⟨by omega, za h0 hF⟩ (by omega) ⟨⟨cwi (by omega) (by omega) (by omega), rfl, trivial⟩, trivial, rfl⟩)
     · skip
       have hsf : zh s = 0 := by simpa using b0
       have hix : s.idx = i := by simpa using b1
       have hE := y47 (c := c) hsf hix
       have hcon := q2m hsf
       rw [hE] at hF
       obtain ⟨ms, hms⟩ : ∃ ms, ms = s.votes ++ s.done := ⟨_, rfl⟩
       have hml : ms.length ≤ 2097152 := by rw [hms, List.length_append]; omega
       refine qc rfl (ι := Nat) (fun k => k ≤ ms.length ∧ ∀ j y, j < k → ms[j]? = some y → (!(q0s c.cons y.c s.idx)) = false) (fun k => ⟨[(7, sV (.int .i64 k)), (6, .one (.h 35 ms.length)), (4, .one (.a 4 0)), (3, sV (.int .i64 i)), (0, .one (.b (.p c.cs)))], [(35, .arr true 2 0 (ms.map Mk.cs)), (4, .var (s.cs.map .b))]⟩) (fun k => ms.length - k) 0 ⟨Nat.zero_le _, fun j y hj => by omega⟩ ?_ ?_
       · exact ⟨⟨rfl, ⟨rfl, (by rw [hms]; simp), rfl⟩, ⟨rfl, rfl, rfl⟩, rfl, rfl, trivial⟩, ⟨⟨(by rw [hms]; simp), .inl rfl, .inl rfl⟩, ⟨rfl, rfl, rfl, rfl, rfl, rfl, trivial⟩, trivial⟩, rfl⟩
       · intro k ⟨hk, h0k⟩ Jk hJk
         refine xb rfl (fun hh => ?_) (fun hh => ?_)
         · have hh : k < ms.length := by simpa using hh
           have hkl : k < 2097152 := by omega
           obtain ⟨y, hy⟩ := gx hh
           have hgy := gm Mk.cs hy
           refine zb rfl [] (.take 0 [] (.take 1 [] (.take 2 [] (.take 3 [] (.take 4 [] (.take 5 [8, 9] (.take 6 [] (.take 7 [8, 9] (.alt 8 (.take 9 [] .done) .nil))))))))) (by kernel_rfl) ?_
           refine xs rfl (by simp) ?_
           refine xs rfl (Int.natCast_nonneg _) ?_
           refine ya rfl _ hgy ?_
           refine xs rfl rfl ?_
           refine xs rfl (by simp) ?_
           refine ya rfl _ hgy ?_
           refine z6 rfl (qt _ (by assumption) _ _) rfl ⟨trivial, trivial, trivial, trivial⟩ ?_
           refine xb rfl (fun b0 => ?_) (fun b0 => ?_)
           refine xr rfl (z7 rfl ⟨⟨rfl, ?_, trivial⟩, z1 rfl⟩)
           rotate_left
           rotate_left
           · refine vi (q7 h h0 ?_ (by decide))
             have ha := yp (p := fun y => !(q0s c.cons y.c s.idx)) hy b0
             rw [hms, List.any_append, hix] at ha
             rw [hF, if_pos ha.symm]
           · exact q9 rfl (hJk _ (k + 1) ⟨by omega, ye hy h0k b0⟩ (by omega) ⟨⟨cwi (by omega) (by omega) (by omega), ⟨rfl, rfl, rfl⟩, ⟨rfl, rfl, rfl⟩, rfl, rfl, trivial⟩, ⟨⟨rfl, .inl rfl, .inl rfl⟩, lcr, trivial⟩, rfl⟩)
         · have hh : ¬ k < ms.length := by simpa using hh
           have ha := any_none (zi (by omega) h0k)
           rw [hms, List.any_append, hix] at ha
           rw [if_neg (by rw [← ha]; decide)] at hF
           clear hJk h0k
           refine qc rfl (ι := Nat) (fun k => k ≤ s.held.length ∧ ∀ j y, j < k → s.held[j]? = some y → y2i c y = false) (fun k => ⟨[(8, sV (.int .i64 k)), (4, .one (.a 4 0)), (3, sV (.int .i64 i)), (0, .one (.b (.p c.cs)))], [(4, .var (s.cs.map .b))]⟩) (fun k => s.held.length - k) 0 ⟨Nat.zero_le _, fun j y hj => by omega⟩ ?_ ?_
           · exact ⟨⟨rfl, ⟨rfl, rfl, rfl⟩, rfl, rfl, trivial⟩, ⟨lcr, trivial⟩, rfl⟩
           · intro k ⟨hk, h0k⟩ Jk hJk
             refine xb rfl (fun hh => ?_) (fun hh => ?_)
             · have hh : k < s.held.length := by simpa using hh
               obtain ⟨y, hy⟩ := gx hh
               have hgy := gm Con.cs hy
               have hf := q0h c y.id ho.1.1
               cases hc : q05 c.cons y.id with
               | none =>
                 rw [y1l hc] at hf
                 have hb : y2i c y = true := by unfold y2i; rw [hc]
                 refine xs rfl (Int.natCast_nonneg _) ?_
                 refine ya rfl _ hgy ?_
                 refine xs rfl rfl ?_
                 refine z6 rfl (hf) rfl ⟨trivial, trivial, trivial⟩ ?_
                 refine zb rfl [] (.take 0 [] (.take 1 [] (.take 2 [] (.take 3 [] (.take 4 [] (.take 5 [] (.take 6 [8, 9, 15, 16, 17] (.take 7 [] (.take 8 [] (.take 9 [15, 16, 17] (.take 10 [] (.take 11 [13, 14, 15, 16, 17] (.take 12 [] (.take 13 [] (.take 14 [15, 16, 17] (.alt 15 (.take 16 [] (.take 17 [] .done)) .nil)))))))))))))))) (by kernel_rfl) ?_
                 refine xj (k := 16) rfl ?_
                 refine xr rfl (z7 rfl ⟨⟨rfl, ?_, trivial⟩, z1 rfl⟩)
                 exact vi (q7 h h0 (by rw [hF, if_pos (yp hy hb).symm]) (by decide))
               | some x =>
                 obtain ⟨q, hq, hqx⟩ := q0x hc
                 rw [hq] at hf
                 have hgq := gm Con.cs hqx
                 have hxl := ho.1.2 x (List.mem_of_find?_eq_some hc)
                 have hb : y2i c y = !(x.same y) := by unfold y2i; rw [hc]
                 refine xs rfl (Int.natCast_nonneg _) ?_
                 refine ya rfl _ hgy ?_
                 refine xs rfl rfl ?_
                 refine z6 rfl (hf) rfl ⟨trivial, trivial, trivial⟩ ?_
                 refine zb rfl [] (.take 0 [] (.take 1 [] (.take 2 [] (.take 3 [] (.take 4 [] (.take 5 [] (.take 6 [8, 9, 15, 16, 17] (.take 7 [] (.take 8 [] (.take 9 [15, 16, 17] (.take 10 [] (.take 11 [13, 14, 15, 16, 17] (.take 12 [] (.take 13 [] (.take 14 [15, 16, 17] (.alt 15 (.take 16 [] (.take 17 [] .done)) .nil)))))))))))))))) (by kernel_rfl) ?_
                 refine xj (k := 6) rfl ?_
                 refine xs rfl (Int.natCast_nonneg _) ?_
                 refine ya rfl _ hgq ?_
                 refine xs rfl rfl ?_
                 refine xj (k := 5) rfl ?_
                 refine xs rfl (Int.natCast_nonneg _) ?_
                 refine ya rfl _ hgy ?_
                 refine xs rfl rfl ?_
                 refine xj (k := 2) rfl ?_
                 refine z6 rfl (q45 x y hxl) rfl ⟨⟨trivial, trivial, trivial⟩, ⟨trivial, trivial, trivial⟩, trivial⟩ ?_
                 refine xj (k := 2) rfl ?_
                 refine xb rfl (fun b0 => ?_) (fun b0 => ?_)
                 refine xr rfl (z7 rfl ⟨⟨rfl, ?_, trivial⟩, z1 rfl⟩)
                 rotate_left
                 rotate_left
                 all_goals first
                  | (exfalso; simp at b0; omega)
                  | exact vi (q7 h h0 (by rw [hF, if_pos (yp hy (hb.trans b0)).symm]) (by decide))
                  | exact q9 rfl (hJk _ (k + 1) ⟨by omega, ye hy h0k (hb.trans b0)⟩ (by omega) ⟨⟨cwi (by omega) (by omega) (by omega), ⟨rfl, rfl, rfl⟩, rfl, rfl, trivial⟩, ⟨lcr, trivial⟩, rfl⟩)
             · have hh : ¬ k < s.held.length := by simpa using hh
               have hz := any_none (zi (by omega) h0k)
               rw [if_neg (by rw [← hz]; decide)] at hF
               skip
               exact q9 rfl (hJ _ (i + 1) ⟨by omega, za h0 hF⟩ (by omega) ⟨⟨cwi (by omega) (by omega) (by omega), rfl, trivial⟩, trivial, rfl⟩)
     · skip
       have hsf : zh s = 0 := by simpa using b0
       have hix : s.idx = i := by simpa using b1
       have hE := y47 (c := c) hsf hix
       have hcon := q2m hsf
       rw [hE] at hF
       obtain ⟨ms, hms⟩ : ∃ ms, ms = s.votes ++ s.done := ⟨_, rfl⟩
       have hml : ms.length ≤ 2097152 := by rw [hms, List.length_append]; omega
       refine qc rfl (ι := Nat) (fun k => k ≤ ms.length ∧ ∀ j y, j < k → ms[j]? = some y → (!(q0s c.cons y.c s.idx)) = false) (fun k => ⟨[(7, sV (.int .i64 k)), (6, .one (.h 35 ms.length)), (4, .one (.a 4 0)), (3, sV (.int .i64 i)), (0, .one (.b (.p c.cs)))], [(35, .arr true 2 0 (ms.map Mk.cs)), (4, .var (s.cs.map .b))]⟩) (fun k => ms.length - k) 0 ⟨Nat.zero_le _, fun j y hj => by omega⟩ ?_ ?_
       · exact ⟨⟨rfl, ⟨rfl, (by rw [hms]; simp), rfl⟩, ⟨rfl, rfl, rfl⟩, rfl, rfl, trivial⟩, ⟨⟨(by rw [hms]; simp), .inl rfl, .inl rfl⟩, ⟨rfl, rfl, rfl, rfl, rfl, rfl, trivial⟩, trivial⟩, rfl⟩
       · intro k ⟨hk, h0k⟩ Jk hJk
         refine xb rfl (fun hh => ?_) (fun hh => ?_)
         · have hh : k < ms.length := by simpa using hh
           have hkl : k < 2097152 := by omega
           obtain ⟨y, hy⟩ := gx hh
           have hgy := gm Mk.cs hy
           refine zb rfl [] (.take 0 [] (.take 1 [] (.take 2 [] (.take 3 [] (.take 4 [] (.take 5 [8, 9] (.take 6 [] (.take 7 [8, 9] (.alt 8 (.take 9 [] .done) .nil))))))))) (by kernel_rfl) ?_
           refine xs rfl (by simp) ?_
           refine xs rfl (Int.natCast_nonneg _) ?_
           refine ya rfl _ hgy ?_
           refine xs rfl rfl ?_
           refine xs rfl (by simp) ?_
           refine ya rfl _ hgy ?_
           refine z6 rfl (qt _ (by assumption) _ _) rfl ⟨trivial, trivial, trivial, trivial⟩ ?_
           refine xb rfl (fun b0 => ?_) (fun b0 => ?_)
           refine xr rfl (z7 rfl ⟨⟨rfl, ?_, trivial⟩, z1 rfl⟩)
           rotate_left
           rotate_left
           · refine vi (q7 h h0 ?_ (by decide))
             have ha := yp (p := fun y => !(q0s c.cons y.c s.idx)) hy b0
             rw [hms, List.any_append, hix] at ha
             rw [hF, if_pos ha.symm]
           · exact q9 rfl (hJk _ (k + 1) ⟨by omega, ye hy h0k b0⟩ (by omega) ⟨⟨cwi (by omega) (by omega) (by omega), ⟨rfl, rfl, rfl⟩, ⟨rfl, rfl, rfl⟩, rfl, rfl, trivial⟩, ⟨⟨rfl, .inl rfl, .inl rfl⟩, lcr, trivial⟩, rfl⟩)
         · have hh : ¬ k < ms.length := by simpa using hh
           have ha := any_none (zi (by omega) h0k)
           rw [hms, List.any_append, hix] at ha
           rw [if_neg (by rw [← ha]; decide)] at hF
           clear hJk h0k
           refine qc rfl (ι := Nat) (fun k => k ≤ s.held.length ∧ ∀ j y, j < k → s.held[j]? = some y → y2i c y = false) (fun k => ⟨[(8, sV (.int .i64 k)), (4, .one (.a 4 0)), (3, sV (.int .i64 i)), (0, .one (.b (.p c.cs)))], [(4, .var (s.cs.map .b))]⟩) (fun k => s.held.length - k) 0 ⟨Nat.zero_le _, fun j y hj => by omega⟩ ?_ ?_
           · exact ⟨⟨rfl, ⟨rfl, rfl, rfl⟩, rfl, rfl, trivial⟩, ⟨lcr, trivial⟩, rfl⟩
           · intro k ⟨hk, h0k⟩ Jk hJk
             refine xb rfl (fun hh => ?_) (fun hh => ?_)
             · have hh : k < s.held.length := by simpa using hh
               obtain ⟨y, hy⟩ := gx hh
               have hgy := gm Con.cs hy
               have hf := q0h c y.id ho.1.1
               cases hc : q05 c.cons y.id with
               | none =>
                 rw [y1l hc] at hf
                 have hb : y2i c y = true := by unfold y2i; rw [hc]
                 refine xs rfl (Int.natCast_nonneg _) ?_
                 refine ya rfl _ hgy ?_
                 refine xs rfl rfl ?_
                 refine z6 rfl (hf) rfl ⟨trivial, trivial, trivial⟩ ?_
                 refine zb rfl [] (.take 0 [] (.take 1 [] (.take 2 [] (.take 3 [] (.take 4 [] (.take 5 [] (.take 6 [8, 9, 15, 16, 17] (.take 7 [] (.take 8 [] (.take 9 [15, 16, 17] (.take 10 [] (.take 11 [13, 14, 15, 16, 17] (.take 12 [] (.take 13 [] (.take 14 [15, 16, 17] (.alt 15 (.take 16 [] (.take 17 [] .done)) .nil)))))))))))))))) (by kernel_rfl) ?_
                 refine xj (k := 16) rfl ?_
                 refine xr rfl (z7 rfl ⟨⟨rfl, ?_, trivial⟩, z1 rfl⟩)
                 exact vi (q7 h h0 (by rw [hF, if_pos (yp hy hb).symm]) (by decide))
               | some x =>
                 obtain ⟨q, hq, hqx⟩ := q0x hc
                 rw [hq] at hf
                 have hgq := gm Con.cs hqx
                 have hxl := ho.1.2 x (List.mem_of_find?_eq_some hc)
                 have hb : y2i c y = !(x.same y) := by unfold y2i; rw [hc]
                 refine xs rfl (Int.natCast_nonneg _) ?_
                 refine ya rfl _ hgy ?_
                 refine xs rfl rfl ?_
                 refine z6 rfl (hf) rfl ⟨trivial, trivial, trivial⟩ ?_
                 refine zb rfl [] (.take 0 [] (.take 1 [] (.take 2 [] (.take 3 [] (.take 4 [] (.take 5 [] (.take 6 [8, 9, 15, 16, 17] (.take 7 [] (.take 8 [] (.take 9 [15, 16, 17] (.take 10 [] (.take 11 [13, 14, 15, 16, 17] (.take 12 [] (.take 13 [] (.take 14 [15, 16, 17] (.alt 15 (.take 16 [] (.take 17 [] .done)) .nil)))))))))))))))) (by kernel_rfl) ?_
                 refine xj (k := 6) rfl ?_
                 refine xs rfl (Int.natCast_nonneg _) ?_
                 refine ya rfl _ hgq ?_
                 refine xs rfl rfl ?_
                 refine xj (k := 5) rfl ?_
                 refine xs rfl (Int.natCast_nonneg _) ?_
                 refine ya rfl _ hgy ?_
                 refine xs rfl rfl ?_
                 refine xj (k := 2) rfl ?_
                 refine z6 rfl (q45 x y hxl) rfl ⟨⟨trivial, trivial, trivial⟩, ⟨trivial, trivial, trivial⟩, trivial⟩ ?_
                 refine xj (k := 2) rfl ?_
                 refine xb rfl (fun b0 => ?_) (fun b0 => ?_)
                 refine xr rfl (z7 rfl ⟨⟨rfl, ?_, trivial⟩, z1 rfl⟩)
                 rotate_left
                 rotate_left
                 all_goals first
                  | (exfalso; simp at b0; omega)
                  | exact vi (q7 h h0 (by rw [hF, if_pos (yp hy (hb.trans b0)).symm]) (by decide))
                  | exact q9 rfl (hJk _ (k + 1) ⟨by omega, ye hy h0k (hb.trans b0)⟩ (by omega) ⟨⟨cwi (by omega) (by omega) (by omega), ⟨rfl, rfl, rfl⟩, rfl, rfl, trivial⟩, ⟨lcr, trivial⟩, rfl⟩)
             · have hh : ¬ k < s.held.length := by simpa using hh
               have hz := any_none (zi (by omega) h0k)
               rw [if_neg (by rw [← hz]; decide)] at hF
               skip
               exact q9 rfl (hJ _ (i + 1) ⟨by omega, za h0 hF⟩ (by omega) ⟨⟨cwi (by omega) (by omega) (by omega), rfl, trivial⟩, trivial, rfl⟩)
   · have h : ¬ i < c.shs.length := by simpa using h
     have hz := yd (f := q1x c) (n := c.shs.length) (fun j hj => h0 j (by omega))
     refine xr rfl (z7 rfl ⟨⟨rfl, ?_, trivial⟩, z1 rfl⟩)
     exact vi (hz.symm)
theorem q88 (c : Clu) (ho : y00 c) : PC Tryz.prog 100 [.one (.p c.cs)] (rI (scan (y2f c) c.accs.length)) := by
 refine PC.begin Tryz.func100 rfl (by kernel_rfl) ?_
 have hl := ho.2.2.1.1
 refine qc rfl (ι := Nat) (fun i => i ≤ c.accs.length ∧ ∀ j, j < i → y2f c j = 0) (fun i => ⟨[(3, sV (.int .i64 i)), (0, .one (.b (.p c.cs)))], []⟩) (fun i => c.accs.length - i) 0 ⟨Nat.zero_le _, fun j hj => by omega⟩ ?_ ?_
 · exact ⟨⟨rfl, rfl, trivial⟩, trivial, rfl⟩
 · intro i ⟨hi, h0⟩ J hJ
   refine xb rfl (fun h => ?_) (fun h => ?_)
   · have h : i < c.accs.length := by simpa using h
     obtain ⟨a, hx⟩ := gx h
     have hg := gm Acc.cs hx
     have hao := ho.2.2.1.2 a (List.mem_of_getElem? hx)
     have hF : y2f c i = q8u c a := by unfold y2f; rw [hx]
     have hal := hao.1
     refine xs rfl (Int.natCast_nonneg _) ?_
     refine ya rfl _ hg ?_
     refine xs rfl rfl ?_
     refine z6 rfl (y9e a hao) rfl ⟨⟨trivial, trivial⟩, trivial⟩ ?_
     refine xb rfl (fun b0 => ?_) (fun b0 => ?_)
     refine xr rfl (z7 rfl ⟨⟨rfl, ?_, trivial⟩, z1 rfl⟩)
     rotate_left
     rotate_left
     all_goals first
      | (refine vi (q7 h h0 ?_ (by first | decide | (clear hJ h0; simp_all; done))); clear hJ h0 hg; rw [hF]; unfold q8u; simp_all; done)
      | skip
     have haf : a.fault = 0 := by simpa using b0
     unfold q8u at hF
     rw [if_neg (by simpa using haf)] at hF
     refine qc rfl (ι := Nat) (fun k => k ≤ a.slots.length ∧ ∀ j y, j < k → a.slots[j]? = some y → (!(q0s c.cons y.c y.s)) = false) (fun k => ⟨[(5, sV (.int .i64 k)), (3, sV (.int .i64 i)), (0, .one (.b (.p c.cs)))], []⟩) (fun k => a.slots.length - k) 0 ⟨Nat.zero_le _, fun j y hj => by omega⟩ ?_ ?_
     · exact ⟨⟨rfl, rfl, rfl, trivial⟩, trivial, rfl⟩
     · intro k ⟨hk, h0k⟩ Jk hJk
       refine xs rfl (Int.natCast_nonneg _) ?_
       refine ya rfl _ hg ?_
       refine xs rfl rfl ?_
       refine xb rfl (fun hh => ?_) (fun hh => ?_)
       · have hh : k < a.slots.length := by simpa using hh
         obtain ⟨y, hy⟩ := gx hh
         have hgy := gm Slt.cs hy
         refine xs rfl (Int.natCast_nonneg _) ?_
         refine ya rfl _ hg ?_
         refine xs rfl rfl ?_
         refine xs rfl (Int.natCast_nonneg _) ?_
         refine ya rfl _ hgy ?_
         refine xs rfl rfl ?_
         refine z6 rfl (qt _ (by assumption) _ _) rfl ⟨trivial, trivial, trivial, trivial⟩ ?_
         refine xb rfl (fun b0 => ?_) (fun b0 => ?_)
         refine xr rfl (z7 rfl ⟨⟨rfl, ?_, trivial⟩, z1 rfl⟩)
         rotate_left
         rotate_left
         · exact vi (q7 h h0 (by rw [hF, if_pos (yp hy b0).symm]) (by decide))
         · exact q9 rfl (hJk _ (k + 1) ⟨by omega, ye hy h0k b0⟩ (by omega) ⟨⟨cwi (by omega) (by omega) (by omega), rfl, rfl, trivial⟩, trivial, rfl⟩)
       · have hh : ¬ k < a.slots.length := by simpa using hh
         have hz := any_none (zi (by omega) h0k)
         rw [if_neg (by rw [← hz]; decide)] at hF
         skip
         exact q9 rfl (hJ _ (i + 1) ⟨by omega, za h0 hF⟩ (by omega) ⟨⟨cwi (by omega) (by omega) (by omega), rfl, trivial⟩, trivial, rfl⟩)
   · have h : ¬ i < c.accs.length := by simpa using h
     have hz := yd (f := y2f c) (n := c.accs.length) (fun j hj => h0 j (by omega))
     refine xr rfl (z7 rfl ⟨⟨rfl, ?_, trivial⟩, z1 rfl⟩)
     exact vi (hz.symm)
end Go.Proofs.YtbnbjaedijbnpaaGreat
end
section
namespace Go.Proofs.YtbnbjaedijbnpaaGreat
open Go Go.Sx
set_option maxRecDepth 20000
set_option maxHeartbeats 4000000
theorem q9x (rr : List (List Cell)) (us : List Vt) (p : Vt → Bool) (fn : Nat) (hr : rr = us.map Vt.cs) (hf : ∀ x ∈ us, PC Tryz.prog fn [.agg x.cs] (rB (p x))) (hl : us.length ≤ 1048576) : PC Tryz.prog 320 [.one (.l rr), .one (.f fn [])] (rI (y14 p us)) := by
 refine PC.begin Tryz.func320 rfl (by kernel_rfl) ?_
 subst hr
 have hn : (us.map Vt.cs).length = us.length := by simp
 refine qc rfl (ι := Nat) (fun i => i ≤ us.length ∧ ∀ j y, j < i → us[j]? = some y → p y = false) (fun i => ⟨[(8, sV (.int .i64 i)), (7, sV (.int .i64 (us.map Vt.cs).length)), (0, .one (.b (.l (us.map Vt.cs)))), (1, .one (.b (.f fn [])))], []⟩) (fun i => us.length - i) 0 ⟨Nat.zero_le _, fun j y hj => by omega⟩ ?_ ?_
 · exact ⟨⟨rfl, rfl, rfl, rfl, trivial⟩, trivial, rfl⟩
 · intro i ⟨hi, h0⟩ J hJ
   refine xb rfl (fun h => ?_) (fun h => ?_)
   · have h : i < us.length := by simpa using h
     obtain ⟨x, hx⟩ := gx h
     have hg := gm Vt.cs hx
     have hxm := List.mem_of_getElem? hx
     refine xs rfl (Int.natCast_nonneg _) ?_
     refine ya rfl _ hg ?_
     refine xs rfl rfl ?_
     refine z6 rfl (hf _ hxm) rfl ⟨⟨trivial, trivial, trivial⟩, trivial⟩ ?_
     refine xb rfl (fun b0 => ?_) (fun b0 => ?_)
     refine xr rfl (z7 rfl ⟨⟨rfl, ?_, trivial⟩, z1 rfl⟩)
     rotate_left
     rotate_left
     · exact vi (z03 hx h0 b0).symm
     · exact q9 rfl (hJ _ (i + 1) ⟨by omega, ye hx h0 b0⟩ (by omega) ⟨⟨cwi (by omega) (by omega) (by omega), rfl, rfl, rfl, trivial⟩, trivial, rfl⟩)
   · have h : ¬ i < us.length := by simpa using h
     refine xr rfl (z7 rfl ⟨⟨rfl, ?_, trivial⟩, z1 rfl⟩)
     exact vi (qx (zi (by omega) h0)).symm
theorem q9s (rr : List (List Cell)) (us : List Vt) (p : Vt → Bool) (fn : Nat) (hr : rr = us.map Vt.cs) (hf : ∀ x ∈ us, PC Tryz.prog fn [.agg x.cs] (rB (p x))) (hl : us.length ≤ 1048576) : PC Tryz.prog 233 [.one (.l rr), .one (.f fn [])] (rB (us.any p)) := by
 refine PC.begin Tryz.func233 rfl (by kernel_rfl) ?_
 have hi := q9x rr us p fn hr hf hl
 refine z6 rfl (hi) rfl ⟨trivial, trivial, trivial⟩ ?_
 refine xr rfl (z7 rfl ⟨⟨rfl, ?_, trivial⟩, z1 rfl⟩)
 exact vb q0b
theorem z94 (rr : List (List Cell)) (us : List Int) (p : Int → Bool) (fn : Nat) (c0 : Cell) (hr : rr = ints us) (hf : ∀ x ∈ us, PC Tryz.prog fn [.one (i64 x), .one c0] (rB (p x))) (hl : us.length ≤ 1048576) : PC Tryz.prog 142 [.one (.l rr), .one (.f fn [c0])] (rI (y14 p us)) := by
 refine PC.begin Tryz.func142 rfl (by kernel_rfl) ?_
 subst hr
 have hn : (ints us).length = us.length := by simp
 refine qc rfl (ι := Nat) (fun i => i ≤ us.length ∧ ∀ j y, j < i → us[j]? = some y → p y = false) (fun i => ⟨[(8, sV (.int .i64 i)), (7, sV (.int .i64 (ints us).length)), (0, .one (.b (.l (ints us)))), (1, .one (.b (.f fn [c0])))], []⟩) (fun i => us.length - i) 0 ⟨Nat.zero_le _, fun j y hj => by omega⟩ ?_ ?_
 · exact ⟨⟨rfl, rfl, rfl, rfl, trivial⟩, trivial, rfl⟩
 · intro i ⟨hi, h0⟩ J hJ
   refine xb rfl (fun h => ?_) (fun h => ?_)
   · have h : i < us.length := by simpa using h
     obtain ⟨x, hx⟩ := gx h
     have hg := gm (fun n => [i64 n]) hx
     have hxm := List.mem_of_getElem? hx
     refine xs rfl (Int.natCast_nonneg _) ?_
     refine ya rfl _ hg ?_
     refine xs rfl rfl ?_
     refine z6 rfl (hf _ hxm) rfl ⟨trivial, trivial, trivial⟩ ?_
     refine xb rfl (fun b0 => ?_) (fun b0 => ?_)
     refine xr rfl (z7 rfl ⟨⟨rfl, ?_, trivial⟩, z1 rfl⟩)
     rotate_left
     rotate_left
     · exact vi (z03 hx h0 b0).symm
     · exact q9 rfl (hJ _ (i + 1) ⟨by omega, ye hx h0 b0⟩ (by omega) ⟨⟨cwi (by omega) (by omega) (by omega), rfl, rfl, rfl, trivial⟩, trivial, rfl⟩)
   · have h : ¬ i < us.length := by simpa using h
     refine xr rfl (z7 rfl ⟨⟨rfl, ?_, trivial⟩, z1 rfl⟩)
     exact vi (qx (zi (by omega) h0)).symm
theorem q8v (rr : List (List Cell)) (us : List Int) (p : Int → Bool) (fn : Nat) (c0 : Cell) (hr : rr = ints us) (hf : ∀ x ∈ us, PC Tryz.prog fn [.one (i64 x), .one c0] (rB (p x))) (hl : us.length ≤ 1048576) : PC Tryz.prog 68 [.one (.l rr), .one (.f fn [c0])] (rB (us.any p)) := by
 refine PC.begin Tryz.func68 rfl (by kernel_rfl) ?_
 have hi := z94 rr us p fn c0 hr hf hl
 refine z6 rfl (hi) rfl ⟨trivial, trivial, trivial⟩ ?_
 refine xr rfl (z7 rfl ⟨⟨rfl, ?_, trivial⟩, z1 rfl⟩)
 exact vb q0b
theorem q93 (us : List Int) (v : Int) (rr : List (List Cell)) (hr : rr = ints us) (hl : us.length ≤ 1048576) : PC Tryz.prog 371 [.one (.l rr), .one (i64 v)] (rI (y14 (fun y => y == v) us)) := by
 refine PC.begin Tryz.func371 rfl (by kernel_rfl) ?_
 subst hr
 have hn : (ints us).length = us.length := by simp
 refine qc rfl (ι := Nat) (fun i => i ≤ us.length ∧ ∀ j y, j < i → us[j]? = some y → (y == v) = false) (fun i => ⟨[(8, sV (.int .i64 i)), (7, sV (.int .i64 (ints us).length)), (0, .one (.b (.l (ints us)))), (1, sV (.int .i64 v))], []⟩) (fun i => us.length - i) 0 ⟨Nat.zero_le _, fun j y hj => by omega⟩ ?_ ?_
 · exact ⟨⟨rfl, rfl, rfl, rfl, trivial⟩, trivial, rfl⟩
 · intro i ⟨hi, h0⟩ J hJ
   refine xb rfl (fun h => ?_) (fun h => ?_)
   · have h : i < us.length := by simpa using h
     obtain ⟨x, hx⟩ := gx h
     have hg := gm (fun n => [i64 n]) hx
     refine xs rfl (Int.natCast_nonneg _) ?_
     refine ya rfl _ hg ?_
     refine xs rfl rfl ?_
     refine xb rfl (fun b0 => ?_) (fun b0 => ?_)
     refine xr rfl (z7 rfl ⟨⟨rfl, ?_, trivial⟩, z1 rfl⟩)
     rotate_left
     rotate_left
     · exact vi (z03 hx h0 (by rw [beq_iff_eq] at b0 ⊢; exact b0.symm)).symm
     · exact q9 rfl (hJ _ (i + 1) ⟨by omega, ye hx h0 (by rw [beq_eq_false_iff_ne] at b0 ⊢; exact fun e => b0 e.symm)⟩ (by omega) ⟨⟨cwi (by omega) (by omega) (by omega), rfl, rfl, rfl, trivial⟩, trivial, rfl⟩)
   · have h : ¬ i < us.length := by simpa using h
     refine xr rfl (z7 rfl ⟨⟨rfl, ?_, trivial⟩, z1 rfl⟩)
     exact vi (qx (p := fun y => y == v) (zi (by omega) h0)).symm
theorem y91 (us : List Int) (v : Int) (rr : List (List Cell)) (hr : rr = ints us) (hl : us.length ≤ 1048576) : PC Tryz.prog 349 [.one (.l rr), .one (i64 v)] (rB (us.any fun y => y == v)) := by
 refine PC.begin Tryz.func349 rfl (by kernel_rfl) ?_
 refine z6 rfl (q93 us v _ hr hl) rfl ⟨trivial, trivial, trivial⟩ ?_
 refine xr rfl (z7 rfl ⟨⟨rfl, ?_, trivial⟩, z1 rfl⟩)
 exact vb q0b
theorem q5d (c : Clu) (ho : y00 c) (p : Int) : PC Tryz.prog 347 [.one (i64 p), .one (.p [.p c.cs])] (rB (z1k c p)) := by
 refine PC.begin Tryz.func347 rfl (by kernel_rfl) ?_
 have q2 := ho.2.2.1.1
 have p2 : (c.accs.map Acc.cs).length ≤ 1048576 := by simpa using q2
 refine z6 rfl (y0a _ _ (by assumption)) rfl ⟨trivial, trivial, trivial⟩ ?_
 refine xr rfl (z7 rfl ⟨⟨rfl, ?_, trivial⟩, z1 rfl⟩)
 all_goals (refine vb ?_; unfold z1k; rw [List.length_map])
theorem q8f (x : Vt) : PC Tryz.prog 348 [.agg x.cs] (rB (q0k x)) := by
 refine PC.begin Tryz.func348 rfl (by kernel_rfl) ?_
 refine zb rfl [] (.take 0 [2, 3, 4, 5, 6, 7, 8] (.alt 1 (.take 2 [] (.take 3 [] (.take 4 [5, 6, 7, 8] (.alt 5 (.take 6 [] (.take 7 [] (.take 8 [] .done))) .nil)))) .nil)) (by kernel_rfl) ?_
 refine z6 rfl (z2w) rfl trivial ?_
 refine xb rfl (fun b0 => ?_) (fun b0 => ?_)
 refine xj (k := 1) rfl ?_
 refine z6 rfl (y1t _) rfl ⟨⟨trivial, trivial, trivial⟩, trivial⟩ ?_
 refine xj (k := 2) rfl ?_
 refine xr rfl (z7 rfl ⟨⟨rfl, ?_, trivial⟩, z1 rfl⟩)
 rotate_left
 refine xj (k := 3) rfl ?_
 refine xr rfl (z7 rfl ⟨⟨rfl, ?_, trivial⟩, z1 rfl⟩)
 rotate_left
 all_goals (refine vb ?_; simp_all [q0k, z1q, Vt.none])
theorem z2u (us : List Int) (k : Nat) : List.drop (none.getD 0 : Int).toNat (List.take ((some (k : Int)).getD ((ints us).length : Int)).toNat (ints us)) = ints (us.take k) := by
 simp [ints, List.map_take]
theorem q5h (c : Clu) (ho : y00 c) (t : Tr) (ht : y9q t) : PC Tryz.prog 283 [.one (.p c.cs), .agg t.cs] (rI (if t.fr.length != t.olds.length then 1 else z6g c t)) := by
 refine PC.begin Tryz.func283 rfl (by kernel_rfl) ?_
 obtain ⟨o1, o2⟩ := ht
 have hf := q8v _ t.fr (z1k c) 347 (.p [.p c.cs]) rfl (fun x _ => q5d c ho x) o1
 have hw := q9s _ t.olds q0k 348 rfl (fun x _ => q8f x) o2
 refine xb rfl (fun h0 => ?_) (fun h0 => ?_)
 · have h0 : ¬ t.fr.length = t.olds.length := by simp at h0; omega
   rw [if_pos (by simpa using h0)]
   refine xr rfl (z7 rfl ⟨⟨rfl, rfl, trivial⟩, z1 rfl⟩)
 · have h0 : t.fr.length = t.olds.length := by simp at h0; omega
   rw [if_neg (by simpa using h0)]
   refine z6 rfl (hf) rfl ⟨trivial, (List.forall_mem_cons.2 ⟨⟨trivial, trivial⟩, (fun _ h => nomatch h)⟩), trivial⟩ ?_
   refine xb rfl (fun b0 => ?_) (fun b0 => ?_)
   refine xj (k := 5) rfl ?_
   refine xr rfl (z7 rfl ⟨⟨rfl, ?_, trivial⟩, z1 rfl⟩)
   rotate_left
   refine xj (k := 3) rfl ?_
   refine z6 rfl (hw) rfl ⟨trivial, (fun _ h => nomatch h), trivial⟩ ?_
   refine xj (k := 1) rfl ?_
   refine xb rfl (fun b1 => ?_) (fun b1 => ?_)
   refine xr rfl (z7 rfl ⟨⟨rfl, ?_, trivial⟩, z1 rfl⟩)
   rotate_left
   rotate_left
   all_goals first | (refine vi ?_; clear hf hw; unfold z6g; simp_all; done) | skip
   have hfw : (t.fr.any (z1k c) || t.olds.any q0k) = false := by rw [b0, b1]; rfl
   unfold z6g
   rw [hfw]
   rw [if_neg (by decide)]
   clear hf hw b0 b1 hfw
   refine qc rfl (ι := Nat) (fun i => i ≤ t.fr.length ∧ ∀ j, j < i → q0l t.fr j = 0) (fun i => ⟨[(32, sV (.int .i64 i)), (31, sV (.int .i64 (ints t.fr).length)), (30, .one (.b (.l (ints t.fr)))), (3, .one (.a 3 0))], [(3, .var (t.cs.map .b))]⟩) (fun i => t.fr.length - i) 0 ⟨Nat.zero_le _, fun j hj => by omega⟩ ?_ ?_
   · exact ⟨⟨rfl, rfl, rfl, ⟨rfl, rfl, rfl⟩, trivial⟩, ⟨lcr, trivial⟩, rfl⟩
   · intro i ⟨hi, h0⟩ J hJ
     refine xb rfl (fun h => ?_) (fun h => ?_)
     · have h : i < t.fr.length := by simpa using h
       obtain ⟨x, hx⟩ := gx h
       have hg := gm (fun n => [i64 n]) hx
       refine xs rfl (Int.natCast_nonneg _) ?_
       refine ya rfl _ hg ?_
       refine xs rfl rfl ?_
       refine xs rfl (.inl rfl) ?_
       refine xs rfl (Int.natCast_nonneg _) ?_
       refine xs rfl (Int.natCast_nonneg _) ?_
       refine xs rfl (by simp; omega) ?_
       refine z6 rfl (y91 (t.fr.take i) x _ (z2u _ _) (by rw [List.length_take]; omega)) rfl ⟨trivial, trivial, trivial⟩ ?_
       refine xb rfl (fun b0 => ?_) (fun b0 => ?_)
       refine xr rfl (z7 rfl ⟨⟨rfl, ?_, trivial⟩, z1 rfl⟩)
       rotate_left
       rotate_left
       · exact vi (q7 h h0 (by unfold q0l; rw [hx]; exact if_pos b0) (by decide))
       · exact q9 rfl (hJ _ (i + 1) ⟨by omega, za h0 (by unfold q0l; rw [hx]; exact if_neg (by rw [b0]; decide))⟩ (by omega) ⟨⟨cwi (by omega) (by omega) (by omega), rfl, rfl, ⟨rfl, rfl, rfl⟩, trivial⟩, ⟨lcr, trivial⟩, rfl⟩)
     · have h : ¬ i < t.fr.length := by simpa using h
       have hz := yd (f := q0l t.fr) (n := t.fr.length) (fun j hj => h0 j (by omega))
       refine xr rfl (z7 rfl ⟨⟨rfl, ?_, trivial⟩, z1 rfl⟩)
       exact vi (hz.symm)
theorem z2p (a b : Tr) : PC Tryz.prog 282 [.agg a.cs, .agg b.cs] (rI (orr [q0c a.c b.c, q0c a.s b.s])) := by
 refine PC.begin Tryz.func282 rfl (by kernel_rfl) ?_
 refine zb rfl [] (.take 0 [] (.take 1 [4, 9, 10, 11, 12] (.take 2 [] (.take 3 [4, 9, 10, 11, 12] (.take 5 [] (.take 6 [9, 10, 11, 12] (.take 7 [] (.take 8 [9, 10, 11, 12] (.alt 4 (.alt 9 (.alt 10 (.alt 11 (.take 12 [] .done) .nil) .nil) .nil) .nil))))))))) (by kernel_rfl) ?_
 refine z6 rfl (yq _ _) rfl ⟨trivial, trivial, trivial⟩ ?_
 refine z6 rfl (yq _ _) rfl ⟨trivial, trivial, trivial⟩ ?_
 refine xs rfl ⟨trivial, trivial, trivial⟩ ?_
 refine z6 rfl (z86 [_, _] (by simp)) rfl ⟨rfl, trivial⟩ ?_
 refine xr rfl (z7 rfl ⟨⟨rfl, rfl, trivial⟩, z1 rfl⟩)
theorem y8l {p x : Tr} : 0 ≤ orr [q0c p.c x.c, q0c p.s x.s] ↔ Tr.lt p x = false := by
 unfold orr orr orr q0c Tr.lt
 repeat' split
 all_goals (simp; try omega)
theorem y2o (a b : Hd) : PC Tryz.prog 286 [.agg a.cs, .agg b.cs] (rI (Hd.cmp a b)) := by
 refine PC.begin Tryz.func286 rfl (by kernel_rfl) ?_
 refine zb rfl [] (.take 0 [] (.take 1 [4, 9, 14, 19, 24, 25, 26, 27] (.take 2 [] (.take 3 [4, 9, 14, 19, 24, 25, 26, 27] (.take 5 [] (.take 6 [9, 14, 19, 24, 25, 26, 27] (.take 7 [] (.take 8 [9, 14, 19, 24, 25, 26, 27] (.take 10 [] (.take 11 [14, 19, 24, 25, 26, 27] (.take 12 [] (.take 13 [14, 19, 24, 25, 26, 27] (.take 15 [] (.take 16 [19, 24, 25, 26, 27] (.take 17 [] (.take 18 [19, 24, 25, 26, 27] (.take 20 [] (.take 21 [24, 25, 26, 27] (.take 22 [] (.take 23 [24, 25, 26, 27] (.alt 4 (.alt 9 (.alt 14 (.alt 19 (.alt 24 (.alt 25 (.alt 26 (.take 27 [] .done) .nil) .nil) .nil) .nil) .nil) .nil) .nil))))))))))))))))))))) (by kernel_rfl) ?_
 refine z6 rfl (yq _ _) rfl ⟨trivial, trivial, trivial⟩ ?_
 refine z6 rfl (yq _ _) rfl ⟨trivial, trivial, trivial⟩ ?_
 refine z6 rfl (yq _ _) rfl ⟨trivial, trivial, trivial⟩ ?_
 refine z6 rfl (yq _ _) rfl ⟨trivial, trivial, trivial⟩ ?_
 refine z6 rfl (yq _ _) rfl ⟨trivial, trivial, trivial⟩ ?_
 refine xs rfl ⟨trivial, trivial, trivial, trivial, trivial, trivial⟩ ?_
 refine z6 rfl (z86 [_, _, _, _, _] (by simp)) rfl ⟨rfl, trivial⟩ ?_
 refine xr rfl (z7 rfl ⟨⟨rfl, rfl, trivial⟩, z1 rfl⟩)
theorem q8k {p x : Hd} : 0 ≤ Hd.cmp p x ↔ Hd.lt p x = false := by
 unfold Hd.lt
 simp
theorem z70 (c : Clu) (ho : y00 c) (ts : List Tr) (hl : ts.length ≤ 1048576) (ht : ∀ t ∈ ts, y9q t) : PC Tryz.prog 207 [.one (.p c.cs), .one (.l (ts.map Tr.cs))] (rI (scan (y35 c ts) ts.length)) := by
 refine PC.begin Tryz.func207 rfl (by kernel_rfl) ?_
 refine qc rfl (ι := Nat) (fun i => i ≤ ts.length ∧ ∀ j, j < i → y35 c ts j = 0) (fun i => ⟨[(10, sV (.int .i64 i)), (9, sV (.int .i64 (ts.map Tr.cs).length)), (8, .one (.b (.l (ts.map Tr.cs)))), (0, .one (.b (.p c.cs))), (1, .one (.b (.l (ts.map Tr.cs))))], []⟩) (fun i => ts.length - i) 0 ⟨Nat.zero_le _, fun j hj => by omega⟩ ?_ ?_
 · exact ⟨⟨rfl, rfl, rfl, rfl, rfl, trivial⟩, trivial, rfl⟩
 · intro i ⟨hi, h0⟩ J hJ
   refine xb rfl (fun h => ?_) (fun h => ?_)
   · have h : i < ts.length := by simpa using h
     obtain ⟨x, hx⟩ := gx h
     have hg := gm Tr.cs hx
     have hxt := ht x (List.mem_of_getElem? hx)
     rcases Nat.eq_zero_or_pos i with hz | hz
     · subst hz
       refine xs rfl (Int.natCast_nonneg _) ?_
       refine ya rfl _ hg ?_
       refine xs rfl rfl ?_
       refine z6 rfl (z10 _ (by assumption) _ _) rfl ⟨trivial, trivial, trivial, trivial⟩ ?_
       refine xb rfl (fun b0 => ?_) (fun b0 => ?_)
       refine xr rfl (z7 rfl ⟨⟨rfl, ?_, trivial⟩, z1 rfl⟩)
       rotate_left
       refine z6 rfl (yk _ _ _) rfl ⟨trivial, trivial, trivial, trivial⟩ ?_
       refine xb rfl (fun b1 => ?_) (fun b1 => ?_)
       refine xj (k := 5) rfl ?_
       refine xr rfl (z7 rfl ⟨⟨rfl, ?_, trivial⟩, z1 rfl⟩)
       rotate_left
       refine xj (k := 2) rfl ?_
       refine z6 rfl (yk _ _ _) rfl ⟨trivial, trivial, trivial, trivial⟩ ?_
       refine xj (k := 2) rfl ?_
       refine xb rfl (fun b2 => ?_) (fun b2 => ?_)
       refine xr rfl (z7 rfl ⟨⟨rfl, ?_, trivial⟩, z1 rfl⟩)
       rotate_left
       refine zb rfl [] (.take 0 [] (.take 1 [] (.take 2 [] (.take 3 [] (.take 4 [] (.take 5 [] (.take 6 [] (.take 7 [9, 10, 11, 12] (.take 8 [9, 10, 11, 12] (.alt 9 (.take 10 [] (.take 11 [] (.take 12 [] .done))) .nil)))))))))) (by kernel_rfl) ?_
       refine xj (k := 10) rfl ?_
       refine z6 rfl (q5h c ho x hxt) rfl ⟨trivial, ⟨trivial, trivial, trivial, trivial, trivial, trivial, trivial⟩, trivial⟩ ?_
       refine xb rfl (fun b3 => ?_) (fun b3 => ?_)
       refine xr rfl (z7 rfl ⟨⟨rfl, ?_, trivial⟩, z1 rfl⟩)
       rotate_left
       rotate_left
       all_goals (first | (refine vi (q7 h h0 ?_ (by first | decide | decide | simp_all)); clear hJ h0 hg; (first | (simp_all [y35, ahead_zero, y8l, q4x]; done) | (simp_all [y35, ahead_zero, y8l, q4x]; omega)); done) | (refine q9 rfl (hJ _ 1 ⟨by omega, za h0 ?_⟩ (by omega) ⟨⟨cwi (by omega) (by omega) (by omega), rfl, rfl, rfl, rfl, trivial⟩, trivial, rfl⟩); clear hJ h0 hg; (first | (simp_all [y35, ahead_zero, y8l, q4x]; done) | (simp_all [y35, ahead_zero, y8l, q4x]; omega)); done) | skip)
     · obtain ⟨p, hp⟩ := gx (xs := ts) (i := i - 1) (by omega)
       have hgp := q11 Tr.cs hz (by omega) hp
       refine xs rfl (Int.natCast_nonneg _) ?_
       refine ya rfl _ hg ?_
       refine xs rfl rfl ?_
       refine z6 rfl (z10 _ (by assumption) _ _) rfl ⟨trivial, trivial, trivial, trivial⟩ ?_
       refine xb rfl (fun b0 => ?_) (fun b0 => ?_)
       refine xr rfl (z7 rfl ⟨⟨rfl, ?_, trivial⟩, z1 rfl⟩)
       rotate_left
       refine z6 rfl (yk _ _ _) rfl ⟨trivial, trivial, trivial, trivial⟩ ?_
       refine xb rfl (fun b1 => ?_) (fun b1 => ?_)
       refine xj (k := 5) rfl ?_
       refine xr rfl (z7 rfl ⟨⟨rfl, ?_, trivial⟩, z1 rfl⟩)
       rotate_left
       refine xj (k := 2) rfl ?_
       refine z6 rfl (yk _ _ _) rfl ⟨trivial, trivial, trivial, trivial⟩ ?_
       refine xj (k := 2) rfl ?_
       refine xb rfl (fun b2 => ?_) (fun b2 => ?_)
       refine xr rfl (z7 rfl ⟨⟨rfl, ?_, trivial⟩, z1 rfl⟩)
       rotate_left
       refine zb rfl [] (.take 0 [] (.take 1 [] (.take 2 [] (.take 3 [] (.take 4 [] (.take 5 [] (.take 6 [] (.take 7 [9, 10, 11, 12] (.take 8 [9, 10, 11, 12] (.alt 9 (.take 10 [] (.take 11 [] (.take 12 [] .done))) .nil)))))))))) (by kernel_rfl) ?_
       refine xb rfl (fun b3 => ?_) (fun b3 => ?_)
       refine xj (k := 3) rfl ?_
       refine xs rfl (q0g hz (by omega)) ?_
       refine ya rfl _ hgp ?_
       refine xs rfl rfl ?_
       refine xj (k := 3) rfl ?_
       refine z6 rfl (z2p _ _) rfl ⟨⟨trivial, trivial, trivial, trivial, trivial, trivial, trivial⟩, ⟨trivial, trivial, trivial, trivial, trivial, trivial, trivial⟩, trivial⟩ ?_
       refine xj (k := 2) rfl ?_
       refine xb rfl (fun b4 => ?_) (fun b4 => ?_)
       refine xr rfl (z7 rfl ⟨⟨rfl, ?_, trivial⟩, z1 rfl⟩)
       rotate_left
       refine z6 rfl (q5h c ho x hxt) rfl ⟨trivial, ⟨trivial, trivial, trivial, trivial, trivial, trivial, trivial⟩, trivial⟩ ?_
       refine xb rfl (fun b5 => ?_) (fun b5 => ?_)
       refine xr rfl (z7 rfl ⟨⟨rfl, ?_, trivial⟩, z1 rfl⟩)
       rotate_left
       rotate_left
       refine xj (k := 9) rfl ?_
       refine z6 rfl (q5h c ho x hxt) rfl ⟨trivial, ⟨trivial, trivial, trivial, trivial, trivial, trivial, trivial⟩, trivial⟩ ?_
       refine xb rfl (fun b4 => ?_) (fun b4 => ?_)
       refine xr rfl (z7 rfl ⟨⟨rfl, ?_, trivial⟩, z1 rfl⟩)
       rotate_left
       rotate_left
       all_goals (first | (refine vi (q7 h h0 ?_ (by first | decide | decide | simp_all)); clear hJ h0 hg hgp; (first | (simp_all [y35, y9 hz hp, y8l, q4x]; done) | (simp_all [y35, y9 hz hp, y8l, q4x]; omega)); done) | (refine q9 rfl (hJ _ (i + 1) ⟨by omega, za h0 ?_⟩ (by omega) ⟨⟨cwi (by omega) (by omega) (by omega), rfl, rfl, rfl, rfl, trivial⟩, trivial, rfl⟩); clear hJ h0 hg hgp; (first | (simp_all [y35, y9 hz hp, y8l, q4x]; done) | (simp_all [y35, y9 hz hp, y8l, q4x]; omega)); done) | skip)
   · have h : ¬ i < ts.length := by simpa using h
     have hz := yd (f := y35 c ts) (n := ts.length) (fun j hj => h0 j (by omega))
     clear hJ
     refine xr rfl (z7 rfl ⟨⟨rfl, ?_, trivial⟩, z1 rfl⟩)
     exact vi (hz.symm)
theorem q6z (c : Clu) (ho : y00 c) (ks : List Hd) (hl : ks.length ≤ 1048576) : PC Tryz.prog 208 [.one (.p c.cs), .one (.l (ks.map Hd.cs))] (rI (scan (hdF c ks) ks.length)) := by
 refine PC.begin Tryz.func208 rfl (by kernel_rfl) ?_
 have q2 := ho.2.2.1.1
 have p2 : (c.accs.map Acc.cs).length ≤ 1048576 := by simpa using q2
 refine qc rfl (ι := Nat) (fun i => i ≤ ks.length ∧ ∀ j, j < i → hdF c ks j = 0) (fun i => ⟨[(9, sV (.int .i64 i)), (8, sV (.int .i64 (ks.map Hd.cs).length)), (7, .one (.b (.l (ks.map Hd.cs)))), (0, .one (.b (.p c.cs))), (1, .one (.b (.l (ks.map Hd.cs))))], []⟩) (fun i => ks.length - i) 0 ⟨Nat.zero_le _, fun j hj => by omega⟩ ?_ ?_
 · exact ⟨⟨rfl, rfl, rfl, rfl, rfl, trivial⟩, trivial, rfl⟩
 · intro i ⟨hi, h0⟩ J hJ
   refine xb rfl (fun h => ?_) (fun h => ?_)
   · have h : i < ks.length := by simpa using h
     obtain ⟨x, hx⟩ := gx h
     have hg := gm Hd.cs hx
     rcases Nat.eq_zero_or_pos i with hz | hz
     · subst hz
       refine xs rfl (Int.natCast_nonneg _) ?_
       refine ya rfl _ hg ?_
       refine xs rfl rfl ?_
       refine z6 rfl (z10 _ (by assumption) _ _) rfl ⟨trivial, trivial, trivial, trivial⟩ ?_
       refine xb rfl (fun b0 => ?_) (fun b0 => ?_)
       refine xr rfl (z7 rfl ⟨⟨rfl, ?_, trivial⟩, z1 rfl⟩)
       rotate_left
       refine zb rfl [] (.take 0 [] (.take 1 [2, 3, 4, 5, 6, 7, 8, 9, 10, 11, 12, 13, 14, 15, 16, 17, 18, 19, 20] (.alt 2 (.take 3 [] (.take 4 [] (.take 5 [] (.take 6 [7, 8, 9, 10, 11, 12, 13, 14, 15, 16, 17, 18, 19, 20] (.alt 7 (.take 8 [] (.take 9 [] (.take 10 [] (.take 11 [] (.take 12 [17, 18, 19, 20] (.take 13 [] (.take 14 [] (.take 15 [] (.take 16 [17, 18, 19, 20] (.alt 17 (.take 18 [] (.take 19 [] (.take 20 [] .done))) .nil)))))))))) .nil))))) .nil))) (by kernel_rfl) ?_
       refine z6 rfl (z04 _) rfl ⟨trivial, trivial⟩ ?_
       refine xb rfl (fun b1 => ?_) (fun b1 => ?_)
       refine xj (k := 14) rfl ?_
       refine xr rfl (z7 rfl ⟨⟨rfl, ?_, trivial⟩, z1 rfl⟩)
       rotate_left
       refine xj (k := 2) rfl ?_
       refine z6 rfl (y0h _) rfl ⟨trivial, trivial⟩ ?_
       refine xj (k := 2) rfl ?_
       refine xb rfl (fun b2 => ?_) (fun b2 => ?_)
       refine xj (k := 9) rfl ?_
       refine xr rfl (z7 rfl ⟨⟨rfl, ?_, trivial⟩, z1 rfl⟩)
       rotate_left
       refine xj (k := 6) rfl ?_
       refine z6 rfl (y0a _ _ (by assumption)) rfl ⟨trivial, trivial, trivial⟩ ?_
       refine xj (k := 2) rfl ?_
       refine xb rfl (fun b3 => ?_) (fun b3 => ?_)
       refine xr rfl (z7 rfl ⟨⟨rfl, ?_, trivial⟩, z1 rfl⟩)
       rotate_left
       refine zb rfl [] (.take 0 [] (.take 1 [] (.take 2 [] (.take 3 [] (.take 4 [] (.take 5 [] (.take 6 [] (.take 7 [9, 10, 11, 12] (.take 8 [9, 10, 11, 12] (.alt 9 (.take 10 [] (.take 11 [] (.take 12 [] .done))) .nil)))))))))) (by kernel_rfl) ?_
       refine xj (k := 10) rfl ?_
       rotate_left
       all_goals (first | (refine vi (q7 h h0 ?_ (by first | decide | decide | simp_all)); clear hJ h0 hg; (first | (simp_all [hdF, ahead_zero, q8k]; done) | (simp_all [hdF, ahead_zero, q8k]; omega)); done) | (refine q9 rfl (hJ _ 1 ⟨by omega, za h0 ?_⟩ (by omega) ⟨⟨cwi (by omega) (by omega) (by omega), rfl, rfl, rfl, rfl, trivial⟩, trivial, rfl⟩); clear hJ h0 hg; (first | (simp_all [hdF, ahead_zero, q8k]; done) | (simp_all [hdF, ahead_zero, q8k]; omega)); done) | skip)
     · obtain ⟨p, hp⟩ := gx (xs := ks) (i := i - 1) (by omega)
       have hgp := q11 Hd.cs hz (by omega) hp
       refine xs rfl (Int.natCast_nonneg _) ?_
       refine ya rfl _ hg ?_
       refine xs rfl rfl ?_
       refine z6 rfl (z10 _ (by assumption) _ _) rfl ⟨trivial, trivial, trivial, trivial⟩ ?_
       refine xb rfl (fun b0 => ?_) (fun b0 => ?_)
       refine xr rfl (z7 rfl ⟨⟨rfl, ?_, trivial⟩, z1 rfl⟩)
       rotate_left
       refine zb rfl [] (.take 0 [] (.take 1 [2, 3, 4, 5, 6, 7, 8, 9, 10, 11, 12, 13, 14, 15, 16, 17, 18, 19, 20] (.alt 2 (.take 3 [] (.take 4 [] (.take 5 [] (.take 6 [7, 8, 9, 10, 11, 12, 13, 14, 15, 16, 17, 18, 19, 20] (.alt 7 (.take 8 [] (.take 9 [] (.take 10 [] (.take 11 [] (.take 12 [17, 18, 19, 20] (.take 13 [] (.take 14 [] (.take 15 [] (.take 16 [17, 18, 19, 20] (.alt 17 (.take 18 [] (.take 19 [] (.take 20 [] .done))) .nil)))))))))) .nil))))) .nil))) (by kernel_rfl) ?_
       refine z6 rfl (z04 _) rfl ⟨trivial, trivial⟩ ?_
       refine xb rfl (fun b1 => ?_) (fun b1 => ?_)
       refine xj (k := 14) rfl ?_
       refine xr rfl (z7 rfl ⟨⟨rfl, ?_, trivial⟩, z1 rfl⟩)
       rotate_left
       refine xj (k := 2) rfl ?_
       refine z6 rfl (y0h _) rfl ⟨trivial, trivial⟩ ?_
       refine xj (k := 2) rfl ?_
       refine xb rfl (fun b2 => ?_) (fun b2 => ?_)
       refine xj (k := 9) rfl ?_
       refine xr rfl (z7 rfl ⟨⟨rfl, ?_, trivial⟩, z1 rfl⟩)
       rotate_left
       refine xj (k := 6) rfl ?_
       refine z6 rfl (y0a _ _ (by assumption)) rfl ⟨trivial, trivial, trivial⟩ ?_
       refine xj (k := 2) rfl ?_
       refine xb rfl (fun b3 => ?_) (fun b3 => ?_)
       refine xr rfl (z7 rfl ⟨⟨rfl, ?_, trivial⟩, z1 rfl⟩)
       rotate_left
       refine zb rfl [] (.take 0 [] (.take 1 [] (.take 2 [] (.take 3 [] (.take 4 [] (.take 5 [] (.take 6 [] (.take 7 [9, 10, 11, 12] (.take 8 [9, 10, 11, 12] (.alt 9 (.take 10 [] (.take 11 [] (.take 12 [] .done))) .nil)))))))))) (by kernel_rfl) ?_
       refine xb rfl (fun b4 => ?_) (fun b4 => ?_)
       refine xj (k := 3) rfl ?_
       refine xs rfl (q0g hz (by omega)) ?_
       refine ya rfl _ hgp ?_
       refine xs rfl rfl ?_
       refine xj (k := 3) rfl ?_
       refine z6 rfl (y2o _ _) rfl ⟨⟨trivial, trivial, trivial, trivial, trivial, trivial⟩, ⟨trivial, trivial, trivial, trivial, trivial, trivial⟩, trivial⟩ ?_
       refine xj (k := 2) rfl ?_
       refine xb rfl (fun b5 => ?_) (fun b5 => ?_)
       refine xr rfl (z7 rfl ⟨⟨rfl, ?_, trivial⟩, z1 rfl⟩)
       rotate_left
       rotate_left
       refine xj (k := 9) rfl ?_
       rotate_left
       all_goals (first | (refine vi (q7 h h0 ?_ (by first | decide | decide | simp_all)); clear hJ h0 hg hgp; (first | (simp_all [hdF, y9 hz hp, q8k]; done) | (simp_all [hdF, y9 hz hp, q8k]; omega)); done) | (refine q9 rfl (hJ _ (i + 1) ⟨by omega, za h0 ?_⟩ (by omega) ⟨⟨cwi (by omega) (by omega) (by omega), rfl, rfl, rfl, rfl, trivial⟩, trivial, rfl⟩); clear hJ h0 hg hgp; (first | (simp_all [hdF, y9 hz hp, q8k]; done) | (simp_all [hdF, y9 hz hp, q8k]; omega)); done) | skip)
   · have h : ¬ i < ks.length := by simpa using h
     have hz := yd (f := hdF c ks) (n := ks.length) (fun j hj => h0 j (by omega))
     clear hJ
     refine xr rfl (z7 rfl ⟨⟨rfl, ?_, trivial⟩, z1 rfl⟩)
     exact vi (hz.symm)
theorem z92 (c : Clu) (ho : y00 c) (l : Ldr) (hl : z8t l) : PC Tryz.prog 121 [.one (.p c.cs), .agg l.cs] (rI (y73 c l)) := by
 refine PC.begin Tryz.func121 rfl (by kernel_rfl) ?_
 obtain ⟨l1, l2, l3⟩ := hl
 have hT := z70 c ho l.tries l1 l3
 have hK := q6z c ho l.known l2
 refine z6 rfl (yk _ _ _) rfl ⟨trivial, trivial, trivial, trivial⟩ ?_
 refine xb rfl (fun b0 => ?_) (fun b0 => ?_)
 refine xr rfl (z7 rfl ⟨⟨rfl, ?_, trivial⟩, z1 rfl⟩)
 rotate_left
 refine xb rfl (fun b1 => ?_) (fun b1 => ?_)
 refine xj (k := 5) rfl ?_
 refine xr rfl (z7 rfl ⟨⟨rfl, ?_, trivial⟩, z1 rfl⟩)
 rotate_left
 refine xj (k := 4) rfl ?_
 refine xb rfl (fun b2 => ?_) (fun b2 => ?_)
 refine xr rfl (z7 rfl ⟨⟨rfl, ?_, trivial⟩, z1 rfl⟩)
 rotate_left
 refine zb rfl [] (.take 0 [] (.take 1 [] (.take 2 [3, 7, 8, 9, 10] (.take 4 [] (.take 5 [] (.take 6 [7, 8, 9, 10] (.alt 3 (.alt 7 (.alt 8 (.alt 9 (.take 10 [] .done) .nil) .nil) .nil) .nil))))))) (by kernel_rfl) ?_
 refine z6 rfl (hT) rfl ⟨trivial, trivial, trivial⟩ ?_
 refine z6 rfl (hK) rfl ⟨trivial, trivial, trivial⟩ ?_
 refine xs rfl ⟨trivial, trivial, trivial⟩ ?_
 refine z6 rfl (y20 [_, _] (by simp)) rfl ⟨rfl, trivial⟩ ?_
 refine xr rfl (z7 rfl ⟨⟨rfl, ?_, trivial⟩, z1 rfl⟩)
 rotate_left
 all_goals (refine vi ?_; clear hT hK; unfold y73; simp_all; try omega)
end Go.Proofs.YtbnbjaedijbnpaaGreat
end
section
namespace Go.Proofs.YtbnbjaedijbnpaaGreat
open Go Go.Sx
set_option maxRecDepth 20000
set_option maxHeartbeats 4000000
theorem y4l (a b : Hd) : PC Tryz.prog 183 [.agg a.cs, .agg b.cs] (rB (Hd.lt a b)) := by
 refine PC.begin Tryz.func183 rfl (by kernel_rfl) ?_
 refine xs rfl ⟨trivial, trivial, trivial, trivial, trivial, trivial⟩ ?_
 refine xs rfl ⟨trivial, trivial, trivial, trivial, trivial, trivial⟩ ?_
 refine qc rfl (ι := Nat) (fun i => i ≤ 5 ∧ (1 ≤ i → a.c = b.c) ∧ (2 ≤ i → a.s = b.s) ∧ (3 ≤ i → a.b = b.b) ∧ (4 ≤ i → a.v = b.v) ∧ (5 ≤ i → a.f = b.f)) (fun i => ⟨[(7, sV (.int .i64 i)), (5, .one (.h 18 5)), (6, .one (.h 29 5))], [(18, .arr true 1 0 [[i64 a.c], [i64 a.s], [i64 a.b], [i64 a.v], [i64 a.f]]), (29, .arr true 1 0 [[i64 b.c], [i64 b.s], [i64 b.b], [i64 b.v], [i64 b.f]])]⟩) (fun i => 5 - i) 0 ⟨by omega, by omega, by omega, by omega, by omega, by omega⟩ ?_ ?_
 · exact ⟨⟨rfl, ⟨rfl, rfl, rfl⟩, ⟨rfl, rfl, rfl⟩, trivial⟩, ⟨⟨rfl, .inl rfl, .inl rfl⟩, ⟨rfl, .inl rfl, .inl rfl⟩, trivial⟩, rfl⟩
 · intro i ⟨hi, h1, h2, h3, h4, h5⟩ J hJ
   have hc : i = 0 ∨ i = 1 ∨ i = 2 ∨ i = 3 ∨ i = 4 ∨ i = 5 := by omega
   rcases hc with rfl | rfl | rfl | rfl | rfl | rfl
   · skip
     clear h1 h2 h3 h4 h5
     have hga : [[i64 a.c], [i64 a.s], [i64 a.b], [i64 a.v], [i64 a.f]][((0 : Nat) : Int).toNat]? = some [i64 a.c] := rfl
     have hgb : [[i64 b.c], [i64 b.s], [i64 b.b], [i64 b.v], [i64 b.f]][((0 : Nat) : Int).toNat]? = some [i64 b.c] := rfl
     refine xj (k := 1) rfl ?_
     refine zb rfl [] (.take 0 [] (.take 1 [] (.take 2 [] (.take 3 [8] (.take 4 [] (.take 5 [] (.take 6 [] (.take 7 [8] (.take 8 [] .done))))))))) (by kernel_rfl) ?_
     refine xs rfl rfl ?_
     refine xs rfl (by decide) ?_
     refine ya rfl _ hga ?_
     refine xs rfl rfl ?_
     refine xs rfl rfl ?_
     refine ya rfl _ hga ?_
     refine xs rfl rfl ?_
     refine xs rfl (by decide) ?_
     refine ya rfl _ hgb ?_
     refine xs rfl rfl ?_
     refine xs rfl rfl ?_
     refine ya rfl _ hgb ?_
     refine xb rfl (fun b0 => ?_) (fun b0 => ?_)
     refine zb rfl [] (.take 0 [] (.take 1 [] (.take 2 [] (.take 3 [8, 9] (.take 4 [] (.take 5 [] (.take 6 [] (.take 7 [8, 9] (.take 8 [] (.take 9 [] .done)))))))))) (by kernel_rfl) ?_
     refine xs rfl rfl ?_
     refine xs rfl (by decide) ?_
     refine ya rfl _ hga ?_
     refine xs rfl rfl ?_
     refine xs rfl rfl ?_
     refine ya rfl _ hga ?_
     refine xs rfl rfl ?_
     refine xs rfl (by decide) ?_
     refine ya rfl _ hgb ?_
     refine xs rfl rfl ?_
     refine xs rfl rfl ?_
     refine ya rfl _ hgb ?_
     refine xr rfl (z7 rfl ⟨⟨rfl, ?_, trivial⟩, z1 rfl⟩)
     rotate_left
     rotate_left
     · have hn : ¬ a.c = b.c := by simpa using b0
       refine vb ?_
       rw [Bool.eq_iff_iff]
       simp only [Hd.lt, Hd.cmp, orr, q0c, decide_eq_true_eq]
       (repeat' split) <;> first | omega | (simp; omega) | (simp_all; done) | (simp_all; omega)
     · have hn : a.c = b.c := by simpa using b0
       exact q9 rfl (hJ _ 1 ⟨by omega, by omega, by omega, by omega, by omega, by omega⟩ (by omega) ⟨⟨rfl, ⟨rfl, rfl, rfl⟩, ⟨rfl, rfl, rfl⟩, trivial⟩, ⟨⟨rfl, .inl rfl, .inl rfl⟩, ⟨rfl, .inl rfl, .inl rfl⟩, trivial⟩, rfl⟩)
   · skip
     have e1 := h1 (by omega)
     clear h1 h2 h3 h4 h5
     have hga : [[i64 a.c], [i64 a.s], [i64 a.b], [i64 a.v], [i64 a.f]][((1 : Nat) : Int).toNat]? = some [i64 a.s] := rfl
     have hgb : [[i64 b.c], [i64 b.s], [i64 b.b], [i64 b.v], [i64 b.f]][((1 : Nat) : Int).toNat]? = some [i64 b.s] := rfl
     refine xj (k := 1) rfl ?_
     refine zb rfl [] (.take 0 [] (.take 1 [] (.take 2 [] (.take 3 [8] (.take 4 [] (.take 5 [] (.take 6 [] (.take 7 [8] (.take 8 [] .done))))))))) (by kernel_rfl) ?_
     refine xs rfl rfl ?_
     refine xs rfl (by decide) ?_
     refine ya rfl _ hga ?_
     refine xs rfl rfl ?_
     refine xs rfl rfl ?_
     refine ya rfl _ hga ?_
     refine xs rfl rfl ?_
     refine xs rfl (by decide) ?_
     refine ya rfl _ hgb ?_
     refine xs rfl rfl ?_
     refine xs rfl rfl ?_
     refine ya rfl _ hgb ?_
     refine xb rfl (fun b0 => ?_) (fun b0 => ?_)
     refine zb rfl [] (.take 0 [] (.take 1 [] (.take 2 [] (.take 3 [8, 9] (.take 4 [] (.take 5 [] (.take 6 [] (.take 7 [8, 9] (.take 8 [] (.take 9 [] .done)))))))))) (by kernel_rfl) ?_
     refine xs rfl rfl ?_
     refine xs rfl (by decide) ?_
     refine ya rfl _ hga ?_
     refine xs rfl rfl ?_
     refine xs rfl rfl ?_
     refine ya rfl _ hga ?_
     refine xs rfl rfl ?_
     refine xs rfl (by decide) ?_
     refine ya rfl _ hgb ?_
     refine xs rfl rfl ?_
     refine xs rfl rfl ?_
     refine ya rfl _ hgb ?_
     refine xr rfl (z7 rfl ⟨⟨rfl, ?_, trivial⟩, z1 rfl⟩)
     rotate_left
     rotate_left
     · have hn : ¬ a.s = b.s := by simpa using b0
       refine vb ?_
       rw [Bool.eq_iff_iff]
       simp only [Hd.lt, Hd.cmp, orr, q0c, e1, decide_eq_true_eq]
       (repeat' split) <;> first | omega | (simp; omega) | (simp_all; done) | (simp_all; omega)
     · have hn : a.s = b.s := by simpa using b0
       exact q9 rfl (hJ _ 2 ⟨by omega, by omega, by omega, by omega, by omega, by omega⟩ (by omega) ⟨⟨rfl, ⟨rfl, rfl, rfl⟩, ⟨rfl, rfl, rfl⟩, trivial⟩, ⟨⟨rfl, .inl rfl, .inl rfl⟩, ⟨rfl, .inl rfl, .inl rfl⟩, trivial⟩, rfl⟩)
   · skip
     have e1 := h1 (by omega)
     have e2 := h2 (by omega)
     clear h1 h2 h3 h4 h5
     have hga : [[i64 a.c], [i64 a.s], [i64 a.b], [i64 a.v], [i64 a.f]][((2 : Nat) : Int).toNat]? = some [i64 a.b] := rfl
     have hgb : [[i64 b.c], [i64 b.s], [i64 b.b], [i64 b.v], [i64 b.f]][((2 : Nat) : Int).toNat]? = some [i64 b.b] := rfl
     refine xj (k := 1) rfl ?_
     refine zb rfl [] (.take 0 [] (.take 1 [] (.take 2 [] (.take 3 [8] (.take 4 [] (.take 5 [] (.take 6 [] (.take 7 [8] (.take 8 [] .done))))))))) (by kernel_rfl) ?_
     refine xs rfl rfl ?_
     refine xs rfl (by decide) ?_
     refine ya rfl _ hga ?_
     refine xs rfl rfl ?_
     refine xs rfl rfl ?_
     refine ya rfl _ hga ?_
     refine xs rfl rfl ?_
     refine xs rfl (by decide) ?_
     refine ya rfl _ hgb ?_
     refine xs rfl rfl ?_
     refine xs rfl rfl ?_
     refine ya rfl _ hgb ?_
     refine xb rfl (fun b0 => ?_) (fun b0 => ?_)
     refine zb rfl [] (.take 0 [] (.take 1 [] (.take 2 [] (.take 3 [8, 9] (.take 4 [] (.take 5 [] (.take 6 [] (.take 7 [8, 9] (.take 8 [] (.take 9 [] .done)))))))))) (by kernel_rfl) ?_
     refine xs rfl rfl ?_
     refine xs rfl (by decide) ?_
     refine ya rfl _ hga ?_
     refine xs rfl rfl ?_
     refine xs rfl rfl ?_
     refine ya rfl _ hga ?_
     refine xs rfl rfl ?_
     refine xs rfl (by decide) ?_
     refine ya rfl _ hgb ?_
     refine xs rfl rfl ?_
     refine xs rfl rfl ?_
     refine ya rfl _ hgb ?_
     refine xr rfl (z7 rfl ⟨⟨rfl, ?_, trivial⟩, z1 rfl⟩)
     rotate_left
     rotate_left
     · have hn : ¬ a.b = b.b := by simpa using b0
       refine vb ?_
       rw [Bool.eq_iff_iff]
       simp only [Hd.lt, Hd.cmp, orr, q0c, e1, e2, decide_eq_true_eq]
       (repeat' split) <;> first | omega | (simp; omega) | (simp_all; done) | (simp_all; omega)
     · have hn : a.b = b.b := by simpa using b0
       exact q9 rfl (hJ _ 3 ⟨by omega, by omega, by omega, by omega, by omega, by omega⟩ (by omega) ⟨⟨rfl, ⟨rfl, rfl, rfl⟩, ⟨rfl, rfl, rfl⟩, trivial⟩, ⟨⟨rfl, .inl rfl, .inl rfl⟩, ⟨rfl, .inl rfl, .inl rfl⟩, trivial⟩, rfl⟩)
   · skip
     have e1 := h1 (by omega)
     have e2 := h2 (by omega)
     have e3 := h3 (by omega)
     clear h1 h2 h3 h4 h5
     have hga : [[i64 a.c], [i64 a.s], [i64 a.b], [i64 a.v], [i64 a.f]][((3 : Nat) : Int).toNat]? = some [i64 a.v] := rfl
     have hgb : [[i64 b.c], [i64 b.s], [i64 b.b], [i64 b.v], [i64 b.f]][((3 : Nat) : Int).toNat]? = some [i64 b.v] := rfl
     refine xj (k := 1) rfl ?_
     refine zb rfl [] (.take 0 [] (.take 1 [] (.take 2 [] (.take 3 [8] (.take 4 [] (.take 5 [] (.take 6 [] (.take 7 [8] (.take 8 [] .done))))))))) (by kernel_rfl) ?_
     refine xs rfl rfl ?_
     refine xs rfl (by decide) ?_
     refine ya rfl _ hga ?_
     refine xs rfl rfl ?_
     refine xs rfl rfl ?_
     refine ya rfl _ hga ?_
     refine xs rfl rfl ?_
     refine xs rfl (by decide) ?_
     refine ya rfl _ hgb ?_
     refine xs rfl rfl ?_
     refine xs rfl rfl ?_
     refine ya rfl _ hgb ?_
     refine xb rfl (fun b0 => ?_) (fun b0 => ?_)
     refine zb rfl [] (.take 0 [] (.take 1 [] (.take 2 [] (.take 3 [8, 9] (.take 4 [] (.take 5 [] (.take 6 [] (.take 7 [8, 9] (.take 8 [] (.take 9 [] .done)))))))))) (by kernel_rfl) ?_
     refine xs rfl rfl ?_
     refine xs rfl (by decide) ?_
     refine ya rfl _ hga ?_
     refine xs rfl rfl ?_
     refine xs rfl rfl ?_
     refine ya rfl _ hga ?_
     refine xs rfl rfl ?_
     refine xs rfl (by decide) ?_
     refine ya rfl _ hgb ?_
     refine xs rfl rfl ?_
     refine xs rfl rfl ?_
     refine ya rfl _ hgb ?_
     refine xr rfl (z7 rfl ⟨⟨rfl, ?_, trivial⟩, z1 rfl⟩)
     rotate_left
     rotate_left
     · have hn : ¬ a.v = b.v := by simpa using b0
       refine vb ?_
       rw [Bool.eq_iff_iff]
       simp only [Hd.lt, Hd.cmp, orr, q0c, e1, e2, e3, decide_eq_true_eq]
       (repeat' split) <;> first | omega | (simp; omega) | (simp_all; done) | (simp_all; omega)
     · have hn : a.v = b.v := by simpa using b0
       exact q9 rfl (hJ _ 4 ⟨by omega, by omega, by omega, by omega, by omega, by omega⟩ (by omega) ⟨⟨rfl, ⟨rfl, rfl, rfl⟩, ⟨rfl, rfl, rfl⟩, trivial⟩, ⟨⟨rfl, .inl rfl, .inl rfl⟩, ⟨rfl, .inl rfl, .inl rfl⟩, trivial⟩, rfl⟩)
   · skip
     have e1 := h1 (by omega)
     have e2 := h2 (by omega)
     have e3 := h3 (by omega)
     have e4 := h4 (by omega)
     clear h1 h2 h3 h4 h5
     have hga : [[i64 a.c], [i64 a.s], [i64 a.b], [i64 a.v], [i64 a.f]][((4 : Nat) : Int).toNat]? = some [i64 a.f] := rfl
     have hgb : [[i64 b.c], [i64 b.s], [i64 b.b], [i64 b.v], [i64 b.f]][((4 : Nat) : Int).toNat]? = some [i64 b.f] := rfl
     refine xj (k := 1) rfl ?_
     refine zb rfl [] (.take 0 [] (.take 1 [] (.take 2 [] (.take 3 [8] (.take 4 [] (.take 5 [] (.take 6 [] (.take 7 [8] (.take 8 [] .done))))))))) (by kernel_rfl) ?_
     refine xs rfl rfl ?_
     refine xs rfl (by decide) ?_
     refine ya rfl _ hga ?_
     refine xs rfl rfl ?_
     refine xs rfl rfl ?_
     refine ya rfl _ hga ?_
     refine xs rfl rfl ?_
     refine xs rfl (by decide) ?_
     refine ya rfl _ hgb ?_
     refine xs rfl rfl ?_
     refine xs rfl rfl ?_
     refine ya rfl _ hgb ?_
     refine xb rfl (fun b0 => ?_) (fun b0 => ?_)
     refine zb rfl [] (.take 0 [] (.take 1 [] (.take 2 [] (.take 3 [8, 9] (.take 4 [] (.take 5 [] (.take 6 [] (.take 7 [8, 9] (.take 8 [] (.take 9 [] .done)))))))))) (by kernel_rfl) ?_
     refine xs rfl rfl ?_
     refine xs rfl (by decide) ?_
     refine ya rfl _ hga ?_
     refine xs rfl rfl ?_
     refine xs rfl rfl ?_
     refine ya rfl _ hga ?_
     refine xs rfl rfl ?_
     refine xs rfl (by decide) ?_
     refine ya rfl _ hgb ?_
     refine xs rfl rfl ?_
     refine xs rfl rfl ?_
     refine ya rfl _ hgb ?_
     refine xr rfl (z7 rfl ⟨⟨rfl, ?_, trivial⟩, z1 rfl⟩)
     rotate_left
     rotate_left
     · have hn : ¬ a.f = b.f := by simpa using b0
       refine vb ?_
       rw [Bool.eq_iff_iff]
       simp only [Hd.lt, Hd.cmp, orr, q0c, e1, e2, e3, e4, decide_eq_true_eq]
       (repeat' split) <;> first | omega | (simp; omega) | (simp_all; done) | (simp_all; omega)
     · have hn : a.f = b.f := by simpa using b0
       exact q9 rfl (hJ _ 5 ⟨by omega, by omega, by omega, by omega, by omega, by omega⟩ (by omega) ⟨⟨rfl, ⟨rfl, rfl, rfl⟩, ⟨rfl, rfl, rfl⟩, trivial⟩, ⟨⟨rfl, .inl rfl, .inl rfl⟩, ⟨rfl, .inl rfl, .inl rfl⟩, trivial⟩, rfl⟩)
   · have e1 := h1 (by omega)
     have e2 := h2 (by omega)
     have e3 := h3 (by omega)
     have e4 := h4 (by omega)
     have e5 := h5 (by omega)
     refine xj (k := 1) rfl ?_
     refine xr rfl (z7 rfl ⟨⟨rfl, ?_, trivial⟩, z1 rfl⟩)
     refine vb ?_
     simp [Hd.lt, Hd.cmp, orr, q0c, e1, e2, e3, e4, e5]
end Go.Proofs.YtbnbjaedijbnpaaGreat
end
section
namespace Go.Proofs.YtbnbjaedijbnpaaGreat
open Go Go.Sx
set_option maxRecDepth 20000
set_option maxHeartbeats 4000000
theorem y3n (c : Clu) (y : Int) : True := trivial
theorem z8q {c : Clu} {ts : List Tr} {i : Nat} {t : Tr} {h w1 w2 a d : Bool} (e1 : q0s c.cons t.c t.s = h) (e2 : Go.Sx.within t.b 1 1000 = w1) (e3 : Go.Sx.within t.v 0 2 = w2) (e4 : Go.Sx.ahead Tr.lt ts i t = a) (e5 : (t.fr.length != t.olds.length) = d) : q4x c ts i t = (bif h then (bif w1 then (bif w2 then (bif a then (bif d then 1 else z6g c t) else 1) else 3) else 3) else 4) := by
 unfold q4x
 rw [e1, e2, e3, e4, e5]
 cases h <;> cases w1 <;> cases w2 <;> cases a <;> cases d <;> rfl
theorem zaw {us : List Int} {vs : List Vt} : (((ints us).length : Int) != ((vs.map Vt.cs).length : Int)) = (us.length != vs.length) := by
 rw [Bool.eq_iff_iff]
 simp
 omega
theorem q9f (c : Clu) (ho : y00 c) (ts : List Tr) (i : Nat) (t : Tr) (hl : ts.length ≤ 1048576) (ht : y9q t) (hx : ts[i]? = some t) : PC Tryz.prog 180 [.one (.p c.cs), .one (.l (ts.map Tr.cs)), .one (i64 i)] (rI (q4x c ts i t)) := by
 refine PC.begin Tryz.func180 rfl (by kernel_rfl) ?_
 obtain ⟨o1, o2⟩ := ht
 have hg := gm Tr.cs hx
 have hlt := (List.getElem?_eq_some_iff.1 hx).1
 have w2 := wl1 Acc.cs ho.2.2.1.1
 have hD := (zaw (us := t.fr) (vs := t.olds)).symm
 rcases Nat.eq_zero_or_pos i with hz | hz
 · have hA : Go.Sx.ahead Tr.lt ts i t = true := by subst hz; rfl
   have hK := z8q (c := c) rfl rfl rfl hA hD
   subst hz
   refine xs rfl (Int.natCast_nonneg _) ?_
   refine ya rfl _ hg ?_
   refine xs rfl rfl ?_
   refine z6 rfl (qt _ (by assumption) _ _) rfl ⟨trivial, trivial, trivial, trivial⟩ ?_
   refine xb rfl (fun b0 => ?_) (fun b0 => ?_)
   refine xr rfl (z7 rfl ⟨⟨rfl, ?_, trivial⟩, z1 rfl⟩)
   rotate_left
   refine z6 rfl (qi _ _ _) rfl ⟨trivial, trivial, trivial, trivial⟩ ?_
   refine xb rfl (fun b1 => ?_) (fun b1 => ?_)
   refine xj (k := 5) rfl ?_
   refine xr rfl (z7 rfl ⟨⟨rfl, ?_, trivial⟩, z1 rfl⟩)
   rotate_left
   refine xj (k := 2) rfl ?_
   refine z6 rfl (qi _ _ _) rfl ⟨trivial, trivial, trivial, trivial⟩ ?_
   refine xj (k := 2) rfl ?_
   refine xb rfl (fun b2 => ?_) (fun b2 => ?_)
   refine xr rfl (z7 rfl ⟨⟨rfl, ?_, trivial⟩, z1 rfl⟩)
   rotate_left
   refine zb rfl [] (.take 0 [] (.take 1 [] (.take 2 [] (.take 3 [] (.take 4 [] (.take 5 [] (.take 6 [] (.take 7 [] (.take 8 [15, 21, 22, 23, 24, 25, 26, 27, 28, 29, 30, 31, 32] (.take 9 [] (.take 10 [] (.take 11 [] (.take 12 [] (.take 13 [] (.take 14 [15, 21, 22, 23, 24, 25, 26, 27, 28, 29, 30, 31, 32] (.take 15 [] (.take 16 [] (.take 17 [20, 21, 22, 23, 24, 25, 26, 27, 28, 29, 30, 31, 32] (.take 18 [] (.take 19 [20, 21, 22, 23, 24, 25, 26, 27, 28, 29, 30, 31, 32] (.take 20 [] (.alt 21 (.take 22 [] (.take 23 [] (.take 24 [] (.take 25 [] (.take 26 [27, 31, 32] (.take 27 [] (.take 28 [] (.take 29 [30, 31, 32] (.take 30 [] (.take 31 [] (.take 32 [] .done))))))))))) .nil)))))))))))))))))))))) (by kernel_rfl) ?_
   refine xj (k := 29) rfl ?_
   refine xb rfl (fun b3 => ?_) (fun b3 => ?_)
   refine xr rfl (z7 rfl ⟨⟨rfl, ?_, trivial⟩, z1 rfl⟩)
   rotate_left
   rotate_left
   all_goals first | (refine vi ?_; rw [hK]; clear hg hK hA; simp_all only [Bool.not_eq_true', Bool.not_eq_false', cond_true, cond_false]; done) | skip
   have hT : q4x c ts 0 t = z6g c t := by rw [hK]; clear hg hK hA; simp_all only [Bool.not_eq_true', Bool.not_eq_false', cond_true, cond_false]
   have hle : t.fr.length = t.olds.length := by have := hD.trans b3; simpa using this
   clear hK hD b0 b1 b2 b3 hA
   refine qc rfl (ι := Nat) (fun k => k ≤ t.fr.length ∧ (∀ j y, j < k → t.fr[j]? = some y → z1k c y = false) ∧ ∀ j y, j < k → t.olds[j]? = some y → q0k y = false) (fun k => ⟨[(8, sV (.int .i64 k)), (7, .one (.a 7 0)), (0, .one (.b (.p c.cs)))], [(7, .var (t.cs.map .b))]⟩) (fun k => t.fr.length - k) 0 ⟨Nat.zero_le _, fun j y hj => by omega, fun j y hj => by omega⟩ ?_ ?_
   · exact ⟨⟨rfl, ⟨rfl, rfl, rfl⟩, rfl, trivial⟩, ⟨⟨rfl, rfl, rfl, rfl, rfl, rfl, trivial⟩, trivial⟩, rfl⟩
   · intro k ⟨hk, h0k, h1k⟩ Jk hJk
     refine xb rfl (fun hh => ?_) (fun hh => ?_)
     · have hh : k < t.fr.length := by simpa using hh
       obtain ⟨y, hy⟩ := gx hh
       obtain ⟨v, hv⟩ := gx (xs := t.olds) (i := k) (by omega)
       have hgy := gm (fun n => [i64 n]) hy
       have hgv := gm Vt.cs hv
       have hwq := y3n c y
       refine zb rfl [] (.take 0 [] (.take 1 [3, 4, 11, 12, 13, 14, 15, 16, 17, 18, 19, 20, 21, 22, 23, 24, 25, 26, 27, 28, 29, 30] (.take 2 [] (.take 3 [] (.take 4 [11, 12, 13, 14, 15, 16, 17, 18, 19, 20, 21, 22, 23, 24, 25, 26, 27, 28, 29, 30] (.take 5 [] (.take 6 [] (.take 7 [] (.take 8 [9, 10, 11, 12, 13, 14, 15, 16, 17, 18, 19, 20, 21, 22, 23, 24, 25, 26, 27, 28, 29, 30] (.take 9 [] (.take 10 [] (.alt 11 (.take 12 [] (.take 13 [] (.take 14 [] (.take 15 [17, 18, 20, 21, 22, 23, 24, 25, 26, 27, 28, 29, 30] (.take 16 [] (.take 17 [] (.take 18 [20, 21, 22, 23, 24, 25, 26, 27, 28, 29, 30] (.alt 19 (.take 20 [] (.take 21 [] (.take 22 [] (.take 23 [25, 26, 27, 28, 29, 30] (.take 24 [] (.take 25 [] (.take 26 [27, 28, 29, 30] (.alt 27 (.take 28 [] (.take 29 [] (.take 30 [] .done))) .nil)))))))) .nil)))))))) .nil)))))))))))) (by kernel_rfl) ?_
       refine xs rfl (Int.natCast_nonneg _) ?_
       refine ya rfl _ hgy ?_
       refine xs rfl rfl ?_
       refine z6 rfl (qi _ _ _) rfl ⟨trivial, trivial, trivial, trivial⟩ ?_
       refine xb rfl (fun b0 => ?_) (fun b0 => ?_)
       refine xj (k := 10) rfl ?_
       refine xr rfl (z7 rfl ⟨⟨rfl, ?_, trivial⟩, z1 rfl⟩)
       rotate_left
       refine xj (k := 3) rfl ?_
       refine xs rfl (Int.natCast_nonneg _) ?_
       refine ya rfl _ hgv ?_
       refine xs rfl rfl ?_
       refine xj (k := 2) rfl ?_
       refine z6 rfl (q1t) rfl trivial ?_
       refine xj (k := 2) rfl ?_
       refine xb rfl (fun b1 => ?_) (fun b1 => ?_)
       refine xj (k := 3) rfl ?_
       refine xs rfl (Int.natCast_nonneg _) ?_
       refine ya rfl _ hgv ?_
       refine xs rfl rfl ?_
       refine xj (k := 2) rfl ?_
       refine z6 rfl (q1l _) rfl ⟨⟨trivial, trivial, trivial⟩, trivial⟩ ?_
       refine xj (k := 4) rfl ?_
       refine xb rfl (fun b2 => ?_) (fun b2 => ?_)
       refine xr rfl (z7 rfl ⟨⟨rfl, ?_, trivial⟩, z1 rfl⟩)
       rotate_left
       rotate_left
       refine xj (k := 10) rfl ?_
       rotate_left
       all_goals first
        | (refine vi ?_
           have hb : z1k c y = true := by unfold z1k; rw [← w2]; assumption
           rw [hT]; unfold z6g; rw [yp hy hb |>.symm]; rfl)
        | (refine vi ?_
           have hb : q0k v = true := by unfold q0k; simp_all [q0z, Vt.none]
           rw [hT]; unfold z6g; rw [yp hv hb |>.symm, Bool.or_true]; rfl)
        | (have hb : z1k c y = false := by unfold z1k; rw [← w2]; assumption
           have hb2 : q0k v = false := by unfold q0k; simp_all [q0z, Vt.none]
           exact q9 rfl (hJk _ (k + 1) ⟨by omega, ye hy h0k hb, ye hv h1k hb2⟩ (by omega) ⟨⟨cwi (by omega) (by omega) (by omega), ⟨rfl, rfl, rfl⟩, rfl, trivial⟩, ⟨lcr, trivial⟩, rfl⟩))
        | skip
     · have hh : ¬ k < t.fr.length := by simpa using hh
       have ha := any_none (zi (by omega) h0k)
       have hb := any_none (l := t.olds) (zi (by omega) h1k)
       have hT2 : q4x c ts 0 t = scan (q0l t.fr) t.fr.length := by rw [hT]; unfold z6g; rw [← ha, ← hb]; rfl
       clear hJk h0k h1k ha hb
       refine qc rfl (ι := Nat) (fun k => k ≤ t.fr.length ∧ ∀ j, j < k → q0l t.fr j = 0) (fun k => ⟨[(9, sV (.int .i64 k)), (7, .one (.a 7 0)), (0, .one (.b (.p c.cs)))], [(7, .var (t.cs.map .b))]⟩) (fun k => t.fr.length - k) 0 ⟨Nat.zero_le _, fun j hj => by omega⟩ ?_ ?_
       · exact ⟨⟨rfl, ⟨rfl, rfl, rfl⟩, rfl, trivial⟩, ⟨lcr, trivial⟩, rfl⟩
       · intro k ⟨hk, h0k⟩ Jk hJk
         refine xb rfl (fun hh => ?_) (fun hh => ?_)
         · have hh : k < t.fr.length := by simpa using hh
           obtain ⟨y, hy⟩ := gx hh
           have hgy := gm (fun n => [i64 n]) hy
           refine zb rfl [] (.take 0 [] (.take 1 [3, 9] (.take 2 [] (.take 3 [] (.take 4 [] (.take 5 [7, 8, 9] (.take 6 [] (.take 7 [] (.take 8 [9] (.alt 9 .done .nil)))))))))) (by kernel_rfl) ?_
           refine xs rfl (.inl rfl) ?_
           refine xs rfl (Int.natCast_nonneg _) ?_
           refine xs rfl (Int.natCast_nonneg _) ?_
           refine xs rfl (by simp; omega) ?_
           refine xs rfl (Int.natCast_nonneg _) ?_
           refine ya rfl _ hgy ?_
           refine xs rfl rfl ?_
           refine z6 rfl (q2l _ (t.fr.take k) y (z2u _ _) (by rw [List.length_take]; omega)) rfl ⟨trivial, trivial, trivial⟩ ?_
           refine xb rfl (fun b0 => ?_) (fun b0 => ?_)
           refine xr rfl (z7 rfl ⟨⟨rfl, ?_, trivial⟩, z1 rfl⟩)
           rotate_left
           rotate_left
           · exact vi (by rw [hT2]; exact q7 hh h0k (by unfold q0l; rw [hy]; exact if_pos b0) (by decide))
           · exact q9 rfl (hJk _ (k + 1) ⟨by omega, za h0k (by unfold q0l; rw [hy]; exact if_neg (by rw [b0]; decide))⟩ (by omega) ⟨⟨cwi (by omega) (by omega) (by omega), ⟨rfl, rfl, rfl⟩, rfl, trivial⟩, ⟨lcr, trivial⟩, rfl⟩)
         · have hh : ¬ k < t.fr.length := by simpa using hh
           have hz := yd (f := q0l t.fr) (n := t.fr.length) (fun j hj => h0k j (by omega))
           refine xr rfl (z7 rfl ⟨⟨rfl, ?_, trivial⟩, z1 rfl⟩)
           exact vi (by rw [hT2, hz])
 · obtain ⟨p, hp⟩ := gx (xs := ts) (i := i - 1) (by omega)
   have hgp := q11 Tr.cs hz (by omega) hp
   have hA : Go.Sx.ahead Tr.lt ts i t = Slt.lt ⟨p.c, p.s, 0, 0, 0, []⟩ ⟨t.c, t.s, 0, 0, 0, []⟩ := y9 hz hp
   have hK := z8q (c := c) rfl rfl rfl hA hD
   refine xs rfl (Int.natCast_nonneg _) ?_
   refine ya rfl _ hg ?_
   refine xs rfl rfl ?_
   refine z6 rfl (qt _ (by assumption) _ _) rfl ⟨trivial, trivial, trivial, trivial⟩ ?_
   refine xb rfl (fun b0 => ?_) (fun b0 => ?_)
   refine xr rfl (z7 rfl ⟨⟨rfl, ?_, trivial⟩, z1 rfl⟩)
   rotate_left
   refine z6 rfl (qi _ _ _) rfl ⟨trivial, trivial, trivial, trivial⟩ ?_
   refine xb rfl (fun b1 => ?_) (fun b1 => ?_)
   refine xj (k := 5) rfl ?_
   refine xr rfl (z7 rfl ⟨⟨rfl, ?_, trivial⟩, z1 rfl⟩)
   rotate_left
   refine xj (k := 2) rfl ?_
   refine z6 rfl (qi _ _ _) rfl ⟨trivial, trivial, trivial, trivial⟩ ?_
   refine xj (k := 2) rfl ?_
   refine xb rfl (fun b2 => ?_) (fun b2 => ?_)
   refine xr rfl (z7 rfl ⟨⟨rfl, ?_, trivial⟩, z1 rfl⟩)
   rotate_left
   refine zb rfl [] (.take 0 [] (.take 1 [] (.take 2 [] (.take 3 [] (.take 4 [] (.take 5 [] (.take 6 [] (.take 7 [] (.take 8 [15, 21, 22, 23, 24, 25, 26, 27, 28, 29, 30, 31, 32] (.take 9 [] (.take 10 [] (.take 11 [] (.take 12 [] (.take 13 [] (.take 14 [15, 21, 22, 23, 24, 25, 26, 27, 28, 29, 30, 31, 32] (.take 15 [] (.take 16 [] (.take 17 [20, 21, 22, 23, 24, 25, 26, 27, 28, 29, 30, 31, 32] (.take 18 [] (.take 19 [20, 21, 22, 23, 24, 25, 26, 27, 28, 29, 30, 31, 32] (.take 20 [] (.alt 21 (.take 22 [] (.take 23 [] (.take 24 [] (.take 25 [] (.take 26 [27, 31, 32] (.take 27 [] (.take 28 [] (.take 29 [30, 31, 32] (.take 30 [] (.take 31 [] (.take 32 [] .done))))))))))) .nil)))))))))))))))))))))) (by kernel_rfl) ?_
   refine xb rfl (fun b3 => ?_) (fun b3 => ?_)
   refine xj (k := 3) rfl ?_
   refine xs rfl (q0g hz (by omega)) ?_
   refine ya rfl _ hgp ?_
   refine xs rfl rfl ?_
   refine xj (k := 6) rfl ?_
   refine xs rfl (q0g hz (by omega)) ?_
   refine ya rfl _ hgp ?_
   refine xs rfl rfl ?_
   refine xj (k := 9) rfl ?_
   refine z6 rfl (z3h ⟨p.c, p.s, 0, 0, 0, []⟩ ⟨t.c, t.s, 0, 0, 0, []⟩) rfl ⟨⟨trivial, trivial, trivial, trivial, trivial, trivial, trivial⟩, ⟨trivial, trivial, trivial, trivial, trivial, trivial, trivial⟩, trivial⟩ ?_
   refine xj (k := 2) rfl ?_
   refine xb rfl (fun b4 => ?_) (fun b4 => ?_)
   refine xj (k := 8) rfl ?_
   refine xr rfl (z7 rfl ⟨⟨rfl, ?_, trivial⟩, z1 rfl⟩)
   rotate_left
   refine xj (k := 7) rfl ?_
   refine xb rfl (fun b5 => ?_) (fun b5 => ?_)
   refine xr rfl (z7 rfl ⟨⟨rfl, ?_, trivial⟩, z1 rfl⟩)
   rotate_left
   rotate_left
   exact absurd b3 (by simp; omega)
   all_goals first | (refine vi ?_; rw [hK]; clear hg hgp hK hA; simp_all only [Bool.not_eq_true', Bool.not_eq_false', cond_true, cond_false]; done) | (exfalso; clear hK; simp at b3; omega) | skip
   have hT : q4x c ts i t = z6g c t := by rw [hK]; clear hg hgp hK hA; simp_all only [Bool.not_eq_true', Bool.not_eq_false', cond_true, cond_false]
   have hle : t.fr.length = t.olds.length := by have := hD.trans b5; simpa using this
   clear hK hD b0 b1 b2 b3 b4 b5 hA
   refine qc rfl (ι := Nat) (fun k => k ≤ t.fr.length ∧ (∀ j y, j < k → t.fr[j]? = some y → z1k c y = false) ∧ ∀ j y, j < k → t.olds[j]? = some y → q0k y = false) (fun k => ⟨[(8, sV (.int .i64 k)), (7, .one (.a 7 0)), (0, .one (.b (.p c.cs)))], [(7, .var (t.cs.map .b))]⟩) (fun k => t.fr.length - k) 0 ⟨Nat.zero_le _, fun j y hj => by omega, fun j y hj => by omega⟩ ?_ ?_
   · exact ⟨⟨rfl, ⟨rfl, rfl, rfl⟩, rfl, trivial⟩, ⟨⟨rfl, rfl, rfl, rfl, rfl, rfl, trivial⟩, trivial⟩, rfl⟩
   · intro k ⟨hk, h0k, h1k⟩ Jk hJk
     refine xb rfl (fun hh => ?_) (fun hh => ?_)
     · have hh : k < t.fr.length := by simpa using hh
       obtain ⟨y, hy⟩ := gx hh
       obtain ⟨v, hv⟩ := gx (xs := t.olds) (i := k) (by omega)
       have hgy := gm (fun n => [i64 n]) hy
       have hgv := gm Vt.cs hv
       have hwq := y3n c y
       refine zb rfl [] (.take 0 [] (.take 1 [3, 4, 11, 12, 13, 14, 15, 16, 17, 18, 19, 20, 21, 22, 23, 24, 25, 26, 27, 28, 29, 30] (.take 2 [] (.take 3 [] (.take 4 [11, 12, 13, 14, 15, 16, 17, 18, 19, 20, 21, 22, 23, 24, 25, 26, 27, 28, 29, 30] (.take 5 [] (.take 6 [] (.take 7 [] (.take 8 [9, 10, 11, 12, 13, 14, 15, 16, 17, 18, 19, 20, 21, 22, 23, 24, 25, 26, 27, 28, 29, 30] (.take 9 [] (.take 10 [] (.alt 11 (.take 12 [] (.take 13 [] (.take 14 [] (.take 15 [17, 18, 20, 21, 22, 23, 24, 25, 26, 27, 28, 29, 30] (.take 16 [] (.take 17 [] (.take 18 [20, 21, 22, 23, 24, 25, 26, 27, 28, 29, 30] (.alt 19 (.take 20 [] (.take 21 [] (.take 22 [] (.take 23 [25, 26, 27, 28, 29, 30] (.take 24 [] (.take 25 [] (.take 26 [27, 28, 29, 30] (.alt 27 (.take 28 [] (.take 29 [] (.take 30 [] .done))) .nil)))))))) .nil)))))))) .nil)))))))))))) (by kernel_rfl) ?_
       refine xs rfl (Int.natCast_nonneg _) ?_
       refine ya rfl _ hgy ?_
       refine xs rfl rfl ?_
       refine z6 rfl (qi _ _ _) rfl ⟨trivial, trivial, trivial, trivial⟩ ?_
       refine xb rfl (fun b0 => ?_) (fun b0 => ?_)
       refine xj (k := 10) rfl ?_
       refine xr rfl (z7 rfl ⟨⟨rfl, ?_, trivial⟩, z1 rfl⟩)
       rotate_left
       refine xj (k := 3) rfl ?_
       refine xs rfl (Int.natCast_nonneg _) ?_
       refine ya rfl _ hgv ?_
       refine xs rfl rfl ?_
       refine xj (k := 2) rfl ?_
       refine z6 rfl (q1t) rfl trivial ?_
       refine xj (k := 2) rfl ?_
       refine xb rfl (fun b1 => ?_) (fun b1 => ?_)
       refine xj (k := 3) rfl ?_
       refine xs rfl (Int.natCast_nonneg _) ?_
       refine ya rfl _ hgv ?_
       refine xs rfl rfl ?_
       refine xj (k := 2) rfl ?_
       refine z6 rfl (q1l _) rfl ⟨⟨trivial, trivial, trivial⟩, trivial⟩ ?_
       refine xj (k := 4) rfl ?_
       refine xb rfl (fun b2 => ?_) (fun b2 => ?_)
       refine xr rfl (z7 rfl ⟨⟨rfl, ?_, trivial⟩, z1 rfl⟩)
       rotate_left
       rotate_left
       refine xj (k := 10) rfl ?_
       rotate_left
       all_goals first
        | (refine vi ?_
           have hb : z1k c y = true := by unfold z1k; rw [← w2]; assumption
           rw [hT]; unfold z6g; rw [yp hy hb |>.symm]; rfl)
        | (refine vi ?_
           have hb : q0k v = true := by unfold q0k; simp_all [q0z, Vt.none]
           rw [hT]; unfold z6g; rw [yp hv hb |>.symm, Bool.or_true]; rfl)
        | (have hb : z1k c y = false := by unfold z1k; rw [← w2]; assumption
           have hb2 : q0k v = false := by unfold q0k; simp_all [q0z, Vt.none]
           exact q9 rfl (hJk _ (k + 1) ⟨by omega, ye hy h0k hb, ye hv h1k hb2⟩ (by omega) ⟨⟨cwi (by omega) (by omega) (by omega), ⟨rfl, rfl, rfl⟩, rfl, trivial⟩, ⟨lcr, trivial⟩, rfl⟩))
        | skip
     · have hh : ¬ k < t.fr.length := by simpa using hh
       have ha := any_none (zi (by omega) h0k)
       have hb := any_none (l := t.olds) (zi (by omega) h1k)
       have hT2 : q4x c ts i t = scan (q0l t.fr) t.fr.length := by rw [hT]; unfold z6g; rw [← ha, ← hb]; rfl
       clear hJk h0k h1k ha hb
       refine qc rfl (ι := Nat) (fun k => k ≤ t.fr.length ∧ ∀ j, j < k → q0l t.fr j = 0) (fun k => ⟨[(9, sV (.int .i64 k)), (7, .one (.a 7 0)), (0, .one (.b (.p c.cs)))], [(7, .var (t.cs.map .b))]⟩) (fun k => t.fr.length - k) 0 ⟨Nat.zero_le _, fun j hj => by omega⟩ ?_ ?_
       · exact ⟨⟨rfl, ⟨rfl, rfl, rfl⟩, rfl, trivial⟩, ⟨lcr, trivial⟩, rfl⟩
       · intro k ⟨hk, h0k⟩ Jk hJk
         refine xb rfl (fun hh => ?_) (fun hh => ?_)
         · have hh : k < t.fr.length := by simpa using hh
           obtain ⟨y, hy⟩ := gx hh
           have hgy := gm (fun n => [i64 n]) hy
           refine zb rfl [] (.take 0 [] (.take 1 [3, 9] (.take 2 [] (.take 3 [] (.take 4 [] (.take 5 [7, 8, 9] (.take 6 [] (.take 7 [] (.take 8 [9] (.alt 9 .done .nil)))))))))) (by kernel_rfl) ?_
           refine xs rfl (.inl rfl) ?_
           refine xs rfl (Int.natCast_nonneg _) ?_
           refine xs rfl (Int.natCast_nonneg _) ?_
           refine xs rfl (by simp; omega) ?_
           refine xs rfl (Int.natCast_nonneg _) ?_
           refine ya rfl _ hgy ?_
           refine xs rfl rfl ?_
           refine z6 rfl (q2l _ (t.fr.take k) y (z2u _ _) (by rw [List.length_take]; omega)) rfl ⟨trivial, trivial, trivial⟩ ?_
           refine xb rfl (fun b0 => ?_) (fun b0 => ?_)
           refine xr rfl (z7 rfl ⟨⟨rfl, ?_, trivial⟩, z1 rfl⟩)
           rotate_left
           rotate_left
           · exact vi (by rw [hT2]; exact q7 hh h0k (by unfold q0l; rw [hy]; exact if_pos b0) (by decide))
           · exact q9 rfl (hJk _ (k + 1) ⟨by omega, za h0k (by unfold q0l; rw [hy]; exact if_neg (by rw [b0]; decide))⟩ (by omega) ⟨⟨cwi (by omega) (by omega) (by omega), ⟨rfl, rfl, rfl⟩, rfl, trivial⟩, ⟨lcr, trivial⟩, rfl⟩)
         · have hh : ¬ k < t.fr.length := by simpa using hh
           have hz := yd (f := q0l t.fr) (n := t.fr.length) (fun j hj => h0k j (by omega))
           refine xr rfl (z7 rfl ⟨⟨rfl, ?_, trivial⟩, z1 rfl⟩)
           exact vi (by rw [hT2, hz])
end Go.Proofs.YtbnbjaedijbnpaaGreat
end
section
namespace Go.Proofs.YtbnbjaedijbnpaaGreat
open Go Go.Sx
set_option maxRecDepth 20000
set_option maxHeartbeats 4000000
theorem zai {c : Clu} {l : Ldr} (hn : Go.Sx.within l.n 0 400 = true) (hm : ¬ (60 < l.tries.length ∨ 300 < l.known.length)) {v : Int} (hv : v = scan (y35 c l.tries) l.tries.length) (h : v ≠ 0) : y73 c l = v := by
 unfold y73
 rw [hn, if_neg (by decide), if_neg hm, orr, ← hv, if_pos h]
theorem z57 {c : Clu} {l : Ldr} (hn : Go.Sx.within l.n 0 400 = true) (hm : ¬ (60 < l.tries.length ∨ 300 < l.known.length)) (h1 : scan (y35 c l.tries) l.tries.length = 0) {v : Int} (hv : v = scan (hdF c l.known) l.known.length) : y73 c l = v := by
 unfold y73
 rw [hn, if_neg (by decide), if_neg hm, orr, h1, if_neg (by decide), orr, ← hv, orr]
 split
 · rfl
 · rename_i h; have h : v = 0 := by simpa using h
   exact h.symm
theorem q89 (c : Clu) (ho : y00 c) : PC Tryz.prog 101 [.one (.p c.cs)] (rI (scan (z2g c) c.ldrs.length)) := by
 refine PC.begin Tryz.func101 rfl (by kernel_rfl) ?_
 have hl := ho.2.2.2.1.1
 have w2 := wl1 Acc.cs ho.2.2.1.1
 refine qc rfl (ι := Nat) (fun i => i ≤ c.ldrs.length ∧ ∀ j, j < i → z2g c j = 0) (fun i => ⟨[(3, sV (.int .i64 i)), (0, .one (.b (.p c.cs)))], []⟩) (fun i => c.ldrs.length - i) 0 ⟨Nat.zero_le _, fun j hj => by omega⟩ ?_ ?_
 · exact ⟨⟨rfl, rfl, trivial⟩, trivial, rfl⟩
 · intro io ⟨hio, h0o⟩ Jo hJo
   refine xb rfl (fun hho => ?_) (fun hho => ?_)
   · have hho : io < c.ldrs.length := by simpa using hho
     obtain ⟨l, hlx⟩ := gx hho
     have hgl := gm Ldr.cs hlx
     obtain ⟨l1, l2, l3⟩ := ho.2.2.2.1.2 l (List.mem_of_getElem? hlx)
     have hF : z2g c io = y73 c l := by unfold z2g; rw [hlx]
     refine xs rfl (Int.natCast_nonneg _) ?_
     refine ya rfl _ hgl ?_
     refine xs rfl rfl ?_
     refine z6 rfl (qi _ _ _) rfl ⟨trivial, trivial, trivial, trivial⟩ ?_
     refine xb rfl (fun b0 => ?_) (fun b0 => ?_)
     refine xr rfl (z7 rfl ⟨⟨rfl, ?_, trivial⟩, z1 rfl⟩)
     rotate_left
     refine xb rfl (fun b1 => ?_) (fun b1 => ?_)
     refine xj (k := 5) rfl ?_
     refine xr rfl (z7 rfl ⟨⟨rfl, ?_, trivial⟩, z1 rfl⟩)
     rotate_left
     refine xj (k := 4) rfl ?_
     refine xb rfl (fun b2 => ?_) (fun b2 => ?_)
     refine xr rfl (z7 rfl ⟨⟨rfl, ?_, trivial⟩, z1 rfl⟩)
     rotate_left
     rotate_left
     all_goals first
      | (refine vi (q7 hho h0o ?_ (by decide)); clear hJo h0o hgl; rw [hF]; unfold y73; simp_all; done)
      | (refine vi (q7 hho h0o ?_ (by decide)); clear hJo h0o hgl; rw [hF]; unfold y73; simp_all; omega)
      | skip
     have hn : Go.Sx.within l.n 0 400 = true := by simpa using b0
     have hm : ¬ (60 < l.tries.length ∨ 300 < l.known.length) := by simp at b1 b2; omega
     clear b0 b1 b2
     refine qc rfl (ι := Nat) (fun i => i ≤ l.tries.length ∧ ∀ j, j < i → y35 c l.tries j = 0) (fun i => ⟨[(5, sV (.int .i64 i)), (4, .one (.a 4 0)), (3, sV (.int .i64 io)), (0, .one (.b (.p c.cs)))], [(4, .var (l.cs.map .b))]⟩) (fun i => l.tries.length - i) 0 ⟨Nat.zero_le _, fun j hj => by omega⟩ ?_ ?_
     · exact ⟨⟨rfl, ⟨rfl, rfl, rfl⟩, rfl, rfl, trivial⟩, ⟨⟨rfl, rfl, rfl, trivial⟩, trivial⟩, rfl⟩
     · intro i ⟨hi, h0⟩ J hJ
       refine xb rfl (fun h => ?_) (fun h => ?_)
       · have h : i < l.tries.length := by simpa using h
         obtain ⟨x, hx⟩ := gx h
         have hg := gm Tr.cs hx
         refine z6 rfl (q9f c ho l.tries i x l1 (l3 x (List.mem_of_getElem? hx)) hx) rfl ⟨trivial, trivial, trivial, trivial⟩ ?_
         refine xb rfl (fun b0 => ?_) (fun b0 => ?_)
         refine xr rfl (z7 rfl ⟨⟨rfl, ?_, trivial⟩, z1 rfl⟩)
         rotate_left
         rotate_left
         all_goals (first | (have hsc := q7 (c := q4x c l.tries i x) h h0 (by clear hJ h0 hg; (first | (simp_all [y35]; done) | (simp_all [y35]; omega)); done) (by clear hJ h0; simp_all); exact vi (q7 hho h0o (hF.trans (zai hn hm hsc (by simpa using b0))) (by simpa using b0)); done) | (refine vi (q7 h h0 ?_ (by first | decide | decide | simp_all)); clear hJ h0 hg; (first | (simp_all [y35]; done) | (simp_all [y35]; omega)); done) | (refine q9 rfl (hJ _ (i + 1) ⟨by omega, za h0 ?_⟩ (by omega) ⟨⟨cwi (by omega) (by omega) (by omega), ⟨rfl, rfl, rfl⟩, rfl, rfl, trivial⟩, ⟨⟨rfl, rfl, rfl, trivial⟩, trivial⟩, rfl⟩); clear hJ h0 hg; (first | (simp_all [y35]; done) | (simp_all [y35]; omega)); done) | skip)
       · have h : ¬ i < l.tries.length := by simpa using h
         have hz := yd (f := y35 c l.tries) (n := l.tries.length) (fun j hj => h0 j (by omega))
         clear hJ
         have hz1 := hz
         clear hz h h0
         refine qc rfl (ι := Nat) (fun i => i ≤ l.known.length ∧ ∀ j, j < i → hdF c l.known j = 0) (fun i => ⟨[(7, sV (.int .i64 i)), (4, .one (.a 4 0)), (3, sV (.int .i64 io)), (0, .one (.b (.p c.cs)))], [(4, .var (l.cs.map .b))]⟩) (fun i => l.known.length - i) 0 ⟨Nat.zero_le _, fun j hj => by omega⟩ ?_ ?_
         · exact ⟨⟨rfl, ⟨rfl, rfl, rfl⟩, rfl, rfl, trivial⟩, ⟨⟨rfl, rfl, rfl, trivial⟩, trivial⟩, rfl⟩
         · intro i ⟨hi, h0⟩ J hJ
           refine xb rfl (fun h => ?_) (fun h => ?_)
           · have h : i < l.known.length := by simpa using h
             obtain ⟨x, hx⟩ := gx h
             have hg := gm Hd.cs hx
             rcases Nat.eq_zero_or_pos i with hz | hz
             · subst hz
               refine xs rfl (Int.natCast_nonneg _) ?_
               refine ya rfl _ hg ?_
               refine xs rfl rfl ?_
               refine z6 rfl (qt _ (by assumption) _ _) rfl ⟨trivial, trivial, trivial, trivial⟩ ?_
               refine xb rfl (fun b0 => ?_) (fun b0 => ?_)
               refine xr rfl (z7 rfl ⟨⟨rfl, ?_, trivial⟩, z1 rfl⟩)
               rotate_left
               refine zb rfl [] (.take 0 [] (.take 1 [2, 3, 4, 5, 6, 7, 8, 9, 10, 11, 12, 13, 14, 15, 16, 17, 18, 19, 20, 21] (.alt 2 (.take 3 [] (.take 4 [] (.take 5 [] (.take 6 [7, 8, 9, 10, 11, 12, 13, 14, 15, 16, 17, 18, 19, 20, 21] (.alt 7 (.take 8 [] (.take 9 [] (.take 10 [] (.take 11 [] (.take 12 [19, 20, 21] (.take 13 [] (.take 14 [] (.take 15 [] (.take 16 [17, 18, 19, 20, 21] (.take 17 [] (.take 18 [] (.alt 19 (.take 20 [] (.take 21 [] .done)) .nil)))))))))))) .nil))))) .nil))) (by kernel_rfl) ?_
               refine z6 rfl (yx _) rfl ⟨trivial, trivial⟩ ?_
               refine xb rfl (fun b1 => ?_) (fun b1 => ?_)
               refine xj (k := 16) rfl ?_
               refine xr rfl (z7 rfl ⟨⟨rfl, ?_, trivial⟩, z1 rfl⟩)
               rotate_left
               refine xj (k := 2) rfl ?_
               refine z6 rfl (z05 _) rfl ⟨trivial, trivial⟩ ?_
               refine xj (k := 2) rfl ?_
               refine xb rfl (fun b2 => ?_) (fun b2 => ?_)
               refine xj (k := 11) rfl ?_
               refine xr rfl (z7 rfl ⟨⟨rfl, ?_, trivial⟩, z1 rfl⟩)
               rotate_left
               refine xj (k := 8) rfl ?_
               refine z6 rfl (qi _ _ _) rfl ⟨trivial, trivial, trivial, trivial⟩ ?_
               refine xj (k := 2) rfl ?_
               refine xb rfl (fun b3 => ?_) (fun b3 => ?_)
               refine xr rfl (z7 rfl ⟨⟨rfl, ?_, trivial⟩, z1 rfl⟩)
               rotate_left
               refine zb rfl [] (.take 0 [] (.take 1 [] (.take 2 [] (.take 3 [] (.take 4 [7, 8, 10, 11, 12] (.take 5 [] (.take 6 [] (.take 7 [] (.take 8 [10, 11, 12] (.take 9 [10, 11, 12] (.alt 10 (.take 11 [] (.take 12 [] .done)) .nil))))))))))) (by kernel_rfl) ?_
               refine xj (k := 11) rfl ?_
               rotate_left
               all_goals (first | (have hsc := q7 (c := 4) h h0 (by clear hJ h0 hg; (first | (simp_all [hdF, ahead_zero]; done) | (simp_all [hdF, ahead_zero]; omega)); done) (by decide); exact vi (q7 hho h0o (hF.trans (z57 hn hm hz1 hsc)) (by decide)); done) | (have hsc := q7 (c := 3) h h0 (by clear hJ h0 hg; (first | (simp_all [hdF, ahead_zero]; done) | (simp_all [hdF, ahead_zero]; omega)); done) (by decide); exact vi (q7 hho h0o (hF.trans (z57 hn hm hz1 hsc)) (by decide)); done) | (have hsc := q7 (c := 1) h h0 (by clear hJ h0 hg; (first | (simp_all [hdF, ahead_zero]; done) | (simp_all [hdF, ahead_zero]; omega)); done) (by decide); exact vi (q7 hho h0o (hF.trans (z57 hn hm hz1 hsc)) (by decide)); done) | (refine vi (q7 h h0 ?_ (by first | decide | decide | simp_all)); clear hJ h0 hg; (first | (simp_all [hdF, ahead_zero]; done) | (simp_all [hdF, ahead_zero]; omega)); done) | (refine q9 rfl (hJ _ 1 ⟨by omega, za h0 ?_⟩ (by omega) ⟨⟨cwi (by omega) (by omega) (by omega), ⟨rfl, rfl, rfl⟩, rfl, rfl, trivial⟩, ⟨⟨rfl, rfl, rfl, trivial⟩, trivial⟩, rfl⟩); clear hJ h0 hg; (first | (simp_all [hdF, ahead_zero]; done) | (simp_all [hdF, ahead_zero]; omega)); done) | skip)
             · obtain ⟨p, hp⟩ := gx (xs := l.known) (i := i - 1) (by omega)
               have hgp := q11 Hd.cs hz (by omega) hp
               refine xs rfl (Int.natCast_nonneg _) ?_
               refine ya rfl _ hg ?_
               refine xs rfl rfl ?_
               refine z6 rfl (qt _ (by assumption) _ _) rfl ⟨trivial, trivial, trivial, trivial⟩ ?_
               refine xb rfl (fun b0 => ?_) (fun b0 => ?_)
               refine xr rfl (z7 rfl ⟨⟨rfl, ?_, trivial⟩, z1 rfl⟩)
               rotate_left
               refine zb rfl [] (.take 0 [] (.take 1 [2, 3, 4, 5, 6, 7, 8, 9, 10, 11, 12, 13, 14, 15, 16, 17, 18, 19, 20, 21] (.alt 2 (.take 3 [] (.take 4 [] (.take 5 [] (.take 6 [7, 8, 9, 10, 11, 12, 13, 14, 15, 16, 17, 18, 19, 20, 21] (.alt 7 (.take 8 [] (.take 9 [] (.take 10 [] (.take 11 [] (.take 12 [19, 20, 21] (.take 13 [] (.take 14 [] (.take 15 [] (.take 16 [17, 18, 19, 20, 21] (.take 17 [] (.take 18 [] (.alt 19 (.take 20 [] (.take 21 [] .done)) .nil)))))))))))) .nil))))) .nil))) (by kernel_rfl) ?_
               refine z6 rfl (yx _) rfl ⟨trivial, trivial⟩ ?_
               refine xb rfl (fun b1 => ?_) (fun b1 => ?_)
               refine xj (k := 16) rfl ?_
               refine xr rfl (z7 rfl ⟨⟨rfl, ?_, trivial⟩, z1 rfl⟩)
               rotate_left
               refine xj (k := 2) rfl ?_
               refine z6 rfl (z05 _) rfl ⟨trivial, trivial⟩ ?_
               refine xj (k := 2) rfl ?_
               refine xb rfl (fun b2 => ?_) (fun b2 => ?_)
               refine xj (k := 11) rfl ?_
               refine xr rfl (z7 rfl ⟨⟨rfl, ?_, trivial⟩, z1 rfl⟩)
               rotate_left
               refine xj (k := 8) rfl ?_
               refine z6 rfl (qi _ _ _) rfl ⟨trivial, trivial, trivial, trivial⟩ ?_
               refine xj (k := 2) rfl ?_
               refine xb rfl (fun b3 => ?_) (fun b3 => ?_)
               refine xr rfl (z7 rfl ⟨⟨rfl, ?_, trivial⟩, z1 rfl⟩)
               rotate_left
               refine zb rfl [] (.take 0 [] (.take 1 [] (.take 2 [] (.take 3 [] (.take 4 [7, 8, 10, 11, 12] (.take 5 [] (.take 6 [] (.take 7 [] (.take 8 [10, 11, 12] (.take 9 [10, 11, 12] (.alt 10 (.take 11 [] (.take 12 [] .done)) .nil))))))))))) (by kernel_rfl) ?_
               refine xb rfl (fun b4 => ?_) (fun b4 => ?_)
               refine xj (k := 4) rfl ?_
               refine xs rfl (q0g hz (by omega)) ?_
               refine ya rfl _ hgp ?_
               refine xs rfl rfl ?_
               refine xj (k := 3) rfl ?_
               refine z6 rfl (y4l _ _) rfl ⟨⟨trivial, trivial, trivial, trivial, trivial, trivial⟩, ⟨trivial, trivial, trivial, trivial, trivial, trivial⟩, trivial⟩ ?_
               refine xj (k := 2) rfl ?_
               refine xb rfl (fun b5 => ?_) (fun b5 => ?_)
               refine xr rfl (z7 rfl ⟨⟨rfl, ?_, trivial⟩, z1 rfl⟩)
               rotate_left
               rotate_left
               refine xj (k := 10) rfl ?_
               rotate_left
               all_goals (first | (have hsc := q7 (c := 4) h h0 (by clear hJ h0 hg hgp; (first | (simp_all [hdF, y9 hz hp]; done) | (simp_all [hdF, y9 hz hp]; omega)); done) (by decide); exact vi (q7 hho h0o (hF.trans (z57 hn hm hz1 hsc)) (by decide)); done) | (have hsc := q7 (c := 3) h h0 (by clear hJ h0 hg hgp; (first | (simp_all [hdF, y9 hz hp]; done) | (simp_all [hdF, y9 hz hp]; omega)); done) (by decide); exact vi (q7 hho h0o (hF.trans (z57 hn hm hz1 hsc)) (by decide)); done) | (have hsc := q7 (c := 1) h h0 (by clear hJ h0 hg hgp; (first | (simp_all [hdF, y9 hz hp]; done) | (simp_all [hdF, y9 hz hp]; omega)); done) (by decide); exact vi (q7 hho h0o (hF.trans (z57 hn hm hz1 hsc)) (by decide)); done) | (refine vi (q7 h h0 ?_ (by first | decide | decide | simp_all)); clear hJ h0 hg hgp; (first | (simp_all [hdF, y9 hz hp]; done) | (simp_all [hdF, y9 hz hp]; omega)); done) | (refine q9 rfl (hJ _ (i + 1) ⟨by omega, za h0 ?_⟩ (by omega) ⟨⟨cwi (by omega) (by omega) (by omega), ⟨rfl, rfl, rfl⟩, rfl, rfl, trivial⟩, ⟨⟨rfl, rfl, rfl, trivial⟩, trivial⟩, rfl⟩); clear hJ h0 hg hgp; (first | (simp_all [hdF, y9 hz hp]; done) | (simp_all [hdF, y9 hz hp]; omega)); done) | skip)
           · have h : ¬ i < l.known.length := by simpa using h
             have hz := yd (f := hdF c l.known) (n := l.known.length) (fun j hj => h0 j (by omega))
             clear hJ
             skip
             exact q9 rfl (hJo _ (io + 1) ⟨by omega, za h0o (hF.trans (z57 hn hm hz1 hz.symm))⟩ (by omega) ⟨⟨cwi (by omega) (by omega) (by omega), rfl, trivial⟩, trivial, rfl⟩)
   · have hho : ¬ io < c.ldrs.length := by simpa using hho
     have hz := yd (f := z2g c) (n := c.ldrs.length) (fun j hj => h0o j (by omega))
     refine xr rfl (z7 rfl ⟨⟨rfl, ?_, trivial⟩, z1 rfl⟩)
     exact vi (hz.symm)
end Go.Proofs.YtbnbjaedijbnpaaGreat
end
section
namespace Go.Proofs.YtbnbjaedijbnpaaGreat
open Go Go.Sx
set_option maxRecDepth 20000
set_option maxHeartbeats 4000000
theorem qaw {a b c d e : Int} : orr [a, b, c, d, e] = if a ≠ 0 then a else if b ≠ 0 then b else if c ≠ 0 then c else if d ≠ 0 then d else e := by
 unfold orr orr orr orr orr orr
 repeat' split
 all_goals first | rfl | omega
theorem z09 {c : Clu} : y0r c = true ↔ (20 < c.cons.length ∨ ¬ (1 ≤ c.shs.length ∧ c.shs.length ≤ 3) ∨ ¬ (1 ≤ c.accs.length ∧ c.accs.length ≤ 5) ∨ c.ldrs.length ≠ 2 ∨ 200 < c.msgs.length) := by
 unfold y0r Go.Sx.within
 simp
 omega
theorem y8k {c : Clu} (h : y0r c = true) : qn c = 2 := by unfold qn; rw [if_pos h]
theorem q7v {c : Clu} (h : ¬ y0r c = true) : qn c = if scan (y08 c) c.cons.length ≠ 0 then scan (y08 c) c.cons.length else if scan (q1x c) c.shs.length ≠ 0 then scan (q1x c) c.shs.length else if scan (y2f c) c.accs.length ≠ 0 then scan (y2f c) c.accs.length else if scan (z2g c) c.ldrs.length ≠ 0 then scan (z2g c) c.ldrs.length else scan (q42 c) c.msgs.length := by
 unfold qn; rw [if_neg h, qaw]
theorem zag (c : Clu) (us : List Acc) (F : Acc → Int) (G : Nat → Int) (fn : Nat) (hG : ∀ i x, us[i]? = some x → G i = F x) (hf : ∀ x ∈ us, PC Tryz.prog fn [.one (.p c.cs), .agg x.cs] (rI (F x))) (hl : us.length ≤ 1048576) : PC Tryz.prog 118 [.one (.l (us.map Acc.cs)), .one (.m fn false [.p c.cs])] (rI (scan G us.length)) := by
 refine PC.begin Tryz.func118 rfl (by kernel_rfl) ?_
 have hn : (us.map Acc.cs).length = us.length := by simp
 refine qc rfl (ι := Nat) (fun i => i ≤ us.length ∧ ∀ j, j < i → G j = 0) (fun i => ⟨[(10, sV (.int .i64 i)), (9, sV (.int .i64 (us.map Acc.cs).length)), (8, .one (.b (.l (us.map Acc.cs)))), (1, .one (.b (.m fn false [.p c.cs])))], []⟩) (fun i => us.length - i) 0 ⟨Nat.zero_le _, fun j hj => by omega⟩ ?_ ?_
 · exact ⟨⟨rfl, rfl, rfl, rfl, trivial⟩, trivial, rfl⟩
 · intro i ⟨hi, h0⟩ J hJ
   refine xb rfl (fun h => ?_) (fun h => ?_)
   · have h : i < us.length := by simpa using h
     obtain ⟨x, hx⟩ := gx h
     have hg := gm Acc.cs hx
     have hxm := List.mem_of_getElem? hx
     have hGx := hG i x hx
     refine xs rfl (Int.natCast_nonneg _) ?_
     refine ya rfl _ hg ?_
     refine xs rfl rfl ?_
     refine z6 rfl (hf _ hxm) rfl ⟨trivial, ⟨trivial, trivial⟩, trivial⟩ ?_
     refine xb rfl (fun b0 => ?_) (fun b0 => ?_)
     refine xr rfl (z7 rfl ⟨⟨rfl, ?_, trivial⟩, z1 rfl⟩)
     rotate_left
     rotate_left
     · exact vi (q7 h h0 hGx (by simpa using b0))
     · exact q9 rfl (hJ _ (i + 1) ⟨by omega, za h0 (hGx.trans (by simpa using b0))⟩ (by omega) ⟨⟨cwi (by omega) (by omega) (by omega), rfl, rfl, rfl, trivial⟩, trivial, rfl⟩)
   · have h : ¬ i < us.length := by simpa using h
     have hz := yd (f := G) (n := us.length) (fun j hj => h0 j (by omega))
     refine xr rfl (z7 rfl ⟨⟨rfl, ?_, trivial⟩, z1 rfl⟩)
     exact vi (hz.symm)
theorem yag (c : Clu) (us : List Ldr) (F : Ldr → Int) (G : Nat → Int) (fn : Nat) (hG : ∀ i x, us[i]? = some x → G i = F x) (hf : ∀ x ∈ us, PC Tryz.prog fn [.one (.p c.cs), .agg x.cs] (rI (F x))) (hl : us.length ≤ 1048576) : PC Tryz.prog 120 [.one (.l (us.map Ldr.cs)), .one (.m fn false [.p c.cs])] (rI (scan G us.length)) := by
 refine PC.begin Tryz.func120 rfl (by kernel_rfl) ?_
 have hn : (us.map Ldr.cs).length = us.length := by simp
 refine qc rfl (ι := Nat) (fun i => i ≤ us.length ∧ ∀ j, j < i → G j = 0) (fun i => ⟨[(10, sV (.int .i64 i)), (9, sV (.int .i64 (us.map Ldr.cs).length)), (8, .one (.b (.l (us.map Ldr.cs)))), (1, .one (.b (.m fn false [.p c.cs])))], []⟩) (fun i => us.length - i) 0 ⟨Nat.zero_le _, fun j hj => by omega⟩ ?_ ?_
 · exact ⟨⟨rfl, rfl, rfl, rfl, trivial⟩, trivial, rfl⟩
 · intro i ⟨hi, h0⟩ J hJ
   refine xb rfl (fun h => ?_) (fun h => ?_)
   · have h : i < us.length := by simpa using h
     obtain ⟨x, hx⟩ := gx h
     have hg := gm Ldr.cs hx
     have hxm := List.mem_of_getElem? hx
     have hGx := hG i x hx
     refine xs rfl (Int.natCast_nonneg _) ?_
     refine ya rfl _ hg ?_
     refine xs rfl rfl ?_
     refine z6 rfl (hf _ hxm) rfl ⟨trivial, ⟨trivial, trivial, trivial, trivial⟩, trivial⟩ ?_
     refine xb rfl (fun b0 => ?_) (fun b0 => ?_)
     refine xr rfl (z7 rfl ⟨⟨rfl, ?_, trivial⟩, z1 rfl⟩)
     rotate_left
     rotate_left
     · exact vi (q7 h h0 hGx (by simpa using b0))
     · exact q9 rfl (hJ _ (i + 1) ⟨by omega, za h0 (hGx.trans (by simpa using b0))⟩ (by omega) ⟨⟨cwi (by omega) (by omega) (by omega), rfl, rfl, rfl, trivial⟩, trivial, rfl⟩)
   · have h : ¬ i < us.length := by simpa using h
     have hz := yd (f := G) (n := us.length) (fun j hj => h0 j (by omega))
     refine xr rfl (z7 rfl ⟨⟨rfl, ?_, trivial⟩, z1 rfl⟩)
     exact vi (hz.symm)
theorem qag (c : Clu) (us : List Msg) (F : Msg → Int) (G : Nat → Int) (fn : Nat) (hG : ∀ i x, us[i]? = some x → G i = F x) (hf : ∀ x ∈ us, PC Tryz.prog fn [.agg x.cs, .one (.p c.cs)] (rI (F x))) (hl : us.length ≤ 1048576) : PC Tryz.prog 122 [.one (.l (us.map Msg.cs)), .one (.f fn [.p c.cs])] (rI (scan G us.length)) := by
 refine PC.begin Tryz.func122 rfl (by kernel_rfl) ?_
 have hn : (us.map Msg.cs).length = us.length := by simp
 refine qc rfl (ι := Nat) (fun i => i ≤ us.length ∧ ∀ j, j < i → G j = 0) (fun i => ⟨[(10, sV (.int .i64 i)), (9, sV (.int .i64 (us.map Msg.cs).length)), (8, .one (.b (.l (us.map Msg.cs)))), (1, .one (.b (.f fn [.p c.cs])))], []⟩) (fun i => us.length - i) 0 ⟨Nat.zero_le _, fun j hj => by omega⟩ ?_ ?_
 · exact ⟨⟨rfl, rfl, rfl, rfl, trivial⟩, trivial, rfl⟩
 · intro i ⟨hi, h0⟩ J hJ
   refine xb rfl (fun h => ?_) (fun h => ?_)
   · have h : i < us.length := by simpa using h
     obtain ⟨x, hx⟩ := gx h
     have hg := gm Msg.cs hx
     have hxm := List.mem_of_getElem? hx
     have hGx := hG i x hx
     refine xs rfl (Int.natCast_nonneg _) ?_
     refine ya rfl _ hg ?_
     refine xs rfl rfl ?_
     refine z6 rfl (hf _ hxm) rfl ⟨⟨trivial, trivial, trivial, trivial, trivial, trivial, trivial, trivial, trivial, trivial⟩, trivial, trivial⟩ ?_
     refine xb rfl (fun b0 => ?_) (fun b0 => ?_)
     refine xr rfl (z7 rfl ⟨⟨rfl, ?_, trivial⟩, z1 rfl⟩)
     rotate_left
     rotate_left
     · exact vi (q7 h h0 hGx (by simpa using b0))
     · exact q9 rfl (hJ _ (i + 1) ⟨by omega, za h0 (hGx.trans (by simpa using b0))⟩ (by omega) ⟨⟨cwi (by omega) (by omega) (by omega), rfl, rfl, rfl, trivial⟩, trivial, rfl⟩)
   · have h : ¬ i < us.length := by simpa using h
     have hz := yd (f := G) (n := us.length) (fun j hj => h0 j (by omega))
     refine xr rfl (z7 rfl ⟨⟨rfl, ?_, trivial⟩, z1 rfl⟩)
     exact vi (hz.symm)
theorem q9a (c : Clu) (ho : y00 c) (m : Msg) : PC Tryz.prog 123 [.agg m.cs, .one (.p c.cs)] (rI (z0c c m)) := by
 refine PC.begin Tryz.func123 rfl (by kernel_rfl) ?_
 refine z6 rfl (q92 c ho m) rfl ⟨⟨trivial, trivial, trivial, trivial, trivial, trivial⟩, ⟨trivial, trivial, trivial, trivial, trivial, trivial, trivial, trivial, trivial, trivial⟩, trivial⟩ ?_
 refine xr rfl (z7 rfl ⟨⟨rfl, rfl, trivial⟩, z1 rfl⟩)
theorem q3x (c : Clu) (ho : y00 c) : PC Tryz.prog 50 [.agg c.cs] (rI (qn c)) := by
 refine PC.begin Tryz.func50 rfl (by kernel_rfl) ?_
 have hl := ho.2.1.1
 have hA := zag c c.accs (q8u c) (y2f c) 119 (fun i x h => by unfold y2f; rw [h]) (fun a ha => q7z c ho a (ho.2.2.1.2 a ha)) ho.2.2.1.1
 have hL := yag c c.ldrs (y73 c) (z2g c) 121 (fun i x h => by unfold z2g; rw [h]) (fun l hl => z92 c ho l (ho.2.2.2.1.2 l hl)) ho.2.2.2.1.1
 have hM := qag c c.msgs (z0c c) (q42 c) 123 (fun i x h => by unfold q42; rw [h]) (fun m _ => q9a c ho m) ho.2.2.2.2
 refine xb rfl (fun b0 => ?_) (fun b0 => ?_)
 refine xj (k := 22) rfl ?_
 refine xr rfl (z7 rfl ⟨⟨rfl, ?_, trivial⟩, z1 rfl⟩)
 rotate_left
 refine xj (k := 2) rfl ?_
 refine z6 rfl (q2e _) rfl ⟨trivial, trivial⟩ ?_
 refine xj (k := 1) rfl ?_
 refine z6 rfl (yk _ _ _) rfl ⟨trivial, trivial, trivial, trivial⟩ ?_
 refine xj (k := 2) rfl ?_
 refine xb rfl (fun b1 => ?_) (fun b1 => ?_)
 refine xj (k := 16) rfl ?_
 refine xr rfl (z7 rfl ⟨⟨rfl, ?_, trivial⟩, z1 rfl⟩)
 rotate_left
 refine xj (k := 2) rfl ?_
 refine z6 rfl (y1a _) rfl ⟨trivial, trivial⟩ ?_
 refine xj (k := 1) rfl ?_
 refine z6 rfl (yk _ _ _) rfl ⟨trivial, trivial, trivial, trivial⟩ ?_
 refine xj (k := 2) rfl ?_
 refine xb rfl (fun b2 => ?_) (fun b2 => ?_)
 refine xj (k := 10) rfl ?_
 refine xr rfl (z7 rfl ⟨⟨rfl, ?_, trivial⟩, z1 rfl⟩)
 rotate_left
 refine xj (k := 4) rfl ?_
 refine xb rfl (fun b3 => ?_) (fun b3 => ?_)
 refine xj (k := 5) rfl ?_
 refine xr rfl (z7 rfl ⟨⟨rfl, ?_, trivial⟩, z1 rfl⟩)
 rotate_left
 refine xj (k := 4) rfl ?_
 refine xb rfl (fun b4 => ?_) (fun b4 => ?_)
 refine xr rfl (z7 rfl ⟨⟨rfl, ?_, trivial⟩, z1 rfl⟩)
 rotate_left
 refine z6 rfl (z80 c ho) rfl ⟨⟨trivial, trivial, trivial, trivial, trivial, trivial⟩, trivial⟩ ?_
 refine xb rfl (fun b5 => ?_) (fun b5 => ?_)
 refine xr rfl (z7 rfl ⟨⟨rfl, ?_, trivial⟩, z1 rfl⟩)
 rotate_left
 rotate_left
 all_goals first
  | (refine vi (y8k (z09.2 ?_)).symm; clear hA hL hM ho; (simp only [List.length_map, Go.Sx.within, gt_iff_lt, ge_iff_le] at *; simp at *; omega); done)
  | skip
 · refine vi ?_
   have hm : ¬ y0r c = true := fun h => by rw [z09] at h; clear hA hL hM ho; (simp only [List.length_map, Go.Sx.within, gt_iff_lt, ge_iff_le] at *; simp at *; omega)
   rw [q7v hm, if_pos (by simpa using b5)]
 · have hm : ¬ y0r c = true := fun h => by rw [z09] at h; clear hA hL hM ho; (simp only [List.length_map, Go.Sx.within, gt_iff_lt, ge_iff_le] at *; simp at *; omega)
   have h1 : scan (y08 c) c.cons.length = 0 := by simpa using b5
   rw [q7v hm, if_neg (by simpa using h1)]
   clear b0 b1 b2 b3 b4 b5 h1 hm
   refine qc rfl (ι := Nat) (fun i => i ≤ c.shs.length ∧ ∀ j, j < i → q1x c j = 0) (fun i => ⟨[(44, sV (.int .i64 i)), (43, sV (.int .i64 (c.shs.map Shd.cs).length)), (1, .one (.a 1 0))], [(1, .var (c.cs.map .b))]⟩) (fun i => c.shs.length - i) 0 ⟨Nat.zero_le _, fun j hj => by omega⟩ ?_ ?_
   · exact ⟨⟨rfl, rfl, ⟨rfl, rfl, rfl⟩, trivial⟩, ⟨lcr, trivial⟩, rfl⟩
   · intro i ⟨hi, h0⟩ J hJ
     refine xb rfl (fun h => ?_) (fun h => ?_)
     · have h : i < c.shs.length := by simpa using h
       obtain ⟨s, hx⟩ := gx h
       have hF : q1x c i = y8b c i s := by unfold q1x; rw [hx]
       refine z6 rfl (y80 c ho i s hx) rfl ⟨⟨trivial, trivial, trivial, trivial, trivial, trivial⟩, trivial, trivial⟩ ?_
       refine xb rfl (fun b0 => ?_) (fun b0 => ?_)
       refine xr rfl (z7 rfl ⟨⟨rfl, ?_, trivial⟩, z1 rfl⟩)
       rotate_left
       rotate_left
       · have hsc := q7 h h0 hF (by simpa using b0)
         refine vi ?_
         rw [if_pos (by rw [← hsc]; simpa using b0), ← hsc]
       · exact q9 rfl (hJ _ (i + 1) ⟨by omega, za h0 (hF.trans (by simpa using b0))⟩ (by omega) ⟨⟨cwi (by omega) (by omega) (by omega), rfl, ⟨rfl, rfl, rfl⟩, trivial⟩, ⟨lcr, trivial⟩, rfl⟩)
     · have h : ¬ i < c.shs.length := by simpa using h
       have hz := yd (f := q1x c) (n := c.shs.length) (fun j hj => h0 j (by omega))
       rw [if_neg (by simpa using hz)]
       clear hJ h0
       refine zb rfl [] (.take 0 [] (.take 1 [3, 7, 8, 9, 10] (.take 2 [] (.take 4 [] (.take 5 [7, 8, 9, 10] (.take 6 [] (.alt 3 (.alt 7 (.alt 8 (.alt 9 (.take 10 [] .done) .nil) .nil) .nil) .nil))))))) (by kernel_rfl) ?_
       refine z6 rfl (hA) rfl ⟨trivial, ⟨trivial, trivial, trivial, trivial, trivial, trivial⟩, trivial⟩ ?_
       refine z6 rfl (hL) rfl ⟨trivial, ⟨trivial, trivial, trivial, trivial, trivial, trivial⟩, trivial⟩ ?_
       refine xs rfl ⟨trivial, trivial, trivial⟩ ?_
       refine z6 rfl (y20 [_, _] (by simp)) rfl ⟨rfl, trivial⟩ ?_
       refine xb rfl (fun b0 => ?_) (fun b0 => ?_)
       refine xr rfl (z7 rfl ⟨⟨rfl, ?_, trivial⟩, z1 rfl⟩)
       rotate_left
       refine z6 rfl (hM) rfl ⟨trivial, (List.forall_mem_cons.2 ⟨⟨trivial, trivial, trivial, trivial, trivial, trivial⟩, (fun _ h => nomatch h)⟩), trivial⟩ ?_
       refine xr rfl (z7 rfl ⟨⟨rfl, ?_, trivial⟩, z1 rfl⟩)
       rotate_left
       all_goals (refine vi ?_; clear hA hL hM ho; unfold orr orr orr at *; by_cases h1 : scan (y2f c) c.accs.length = 0 <;> by_cases h2 : scan (z2g c) c.ldrs.length = 0 <;> simp_all <;> done)
theorem z45 (c : Clu) (ho : y00 c) : PC Tryz.prog 38 [.agg c.cs] (rI (qn c)) := by
 refine PC.begin Tryz.func38 rfl (by kernel_rfl) ?_
 have hl := ho.2.2.2.2
 refine xb rfl (fun b0 => ?_) (fun b0 => ?_)
 refine xj (k := 30) rfl ?_
 refine xr rfl (z7 rfl ⟨⟨rfl, ?_, trivial⟩, z1 rfl⟩)
 rotate_left
 refine xj (k := 4) rfl ?_
 refine xb rfl (fun b1 => ?_) (fun b1 => ?_)
 refine xj (k := 25) rfl ?_
 refine xr rfl (z7 rfl ⟨⟨rfl, ?_, trivial⟩, z1 rfl⟩)
 rotate_left
 refine xj (k := 4) rfl ?_
 refine xb rfl (fun b2 => ?_) (fun b2 => ?_)
 refine xj (k := 20) rfl ?_
 refine xr rfl (z7 rfl ⟨⟨rfl, ?_, trivial⟩, z1 rfl⟩)
 rotate_left
 refine xj (k := 4) rfl ?_
 refine xb rfl (fun b3 => ?_) (fun b3 => ?_)
 refine xj (k := 15) rfl ?_
 refine xr rfl (z7 rfl ⟨⟨rfl, ?_, trivial⟩, z1 rfl⟩)
 rotate_left
 refine xj (k := 4) rfl ?_
 refine xb rfl (fun b4 => ?_) (fun b4 => ?_)
 refine xj (k := 10) rfl ?_
 refine xr rfl (z7 rfl ⟨⟨rfl, ?_, trivial⟩, z1 rfl⟩)
 rotate_left
 refine xj (k := 4) rfl ?_
 refine xb rfl (fun b5 => ?_) (fun b5 => ?_)
 refine xj (k := 5) rfl ?_
 refine xr rfl (z7 rfl ⟨⟨rfl, ?_, trivial⟩, z1 rfl⟩)
 rotate_left
 refine xj (k := 4) rfl ?_
 refine xb rfl (fun b6 => ?_) (fun b6 => ?_)
 refine xr rfl (z7 rfl ⟨⟨rfl, ?_, trivial⟩, z1 rfl⟩)
 rotate_left
 refine z6 rfl (z89 c ho) rfl ⟨⟨trivial, trivial, trivial, trivial, trivial, trivial⟩, trivial⟩ ?_
 refine xb rfl (fun b7 => ?_) (fun b7 => ?_)
 refine xr rfl (z7 rfl ⟨⟨rfl, ?_, trivial⟩, z1 rfl⟩)
 rotate_left
 refine z6 rfl (z8a c ho) rfl ⟨⟨trivial, trivial, trivial, trivial, trivial, trivial⟩, trivial⟩ ?_
 refine xb rfl (fun b8 => ?_) (fun b8 => ?_)
 refine xr rfl (z7 rfl ⟨⟨rfl, ?_, trivial⟩, z1 rfl⟩)
 rotate_left
 refine z6 rfl (q88 c ho) rfl ⟨⟨trivial, trivial, trivial, trivial, trivial, trivial⟩, trivial⟩ ?_
 refine xb rfl (fun b9 => ?_) (fun b9 => ?_)
 refine xr rfl (z7 rfl ⟨⟨rfl, ?_, trivial⟩, z1 rfl⟩)
 rotate_left
 refine z6 rfl (q89 c ho) rfl ⟨⟨trivial, trivial, trivial, trivial, trivial, trivial⟩, trivial⟩ ?_
 refine xb rfl (fun b10 => ?_) (fun b10 => ?_)
 refine xr rfl (z7 rfl ⟨⟨rfl, ?_, trivial⟩, z1 rfl⟩)
 rotate_left
 rotate_left
 all_goals first
  | (refine vi (y8k (z09.2 ?_)).symm; clear ho; (simp only [List.length_map, Go.Sx.within, gt_iff_lt, ge_iff_le] at *; simp at *; omega); done)
  | (refine vi ?_
     have hm : ¬ y0r c = true := fun h => by rw [z09] at h; clear ho; (simp only [List.length_map, Go.Sx.within, gt_iff_lt, ge_iff_le] at *; simp at *; omega)
     rw [q7v hm]
     clear hm ho
     simp_all
     done)
  | skip
 have hm : ¬ y0r c = true := fun h => by rw [z09] at h; clear ho; (simp only [List.length_map, Go.Sx.within, gt_iff_lt, ge_iff_le] at *; simp at *; omega)
 rw [q7v hm, if_neg (by simp_all), if_neg (by simp_all), if_neg (by simp_all), if_neg (by simp_all)]
 refine qc rfl (ι := Nat) (fun i => i ≤ c.msgs.length ∧ ∀ j, j < i → q42 c j = 0) (fun i => ⟨[(7, sV (.int .i64 i)), (1, .one (.a 1 0))], [(1, .var (c.cs.map .b))]⟩) (fun i => c.msgs.length - i) 0 ⟨Nat.zero_le _, fun j hj => by omega⟩ ?_ ?_
 · exact ⟨⟨rfl, ⟨rfl, rfl, rfl⟩, trivial⟩, ⟨lcr, trivial⟩, rfl⟩
 · intro i ⟨hi, h0⟩ J hJ
   refine xb rfl (fun h => ?_) (fun h => ?_)
   · have h : i < c.msgs.length := by simpa using h
     obtain ⟨m, hx⟩ := gx h
     have hg := gm Msg.cs hx
     have hF : q42 c i = z0c c m := by unfold q42; rw [hx]
     refine xs rfl (Int.natCast_nonneg _) ?_
     refine ya rfl _ hg ?_
     refine xs rfl rfl ?_
     refine z6 rfl (y9f c ho m) rfl ⟨⟨trivial, trivial, trivial, trivial, trivial, trivial⟩, ⟨trivial, trivial, trivial, trivial, trivial, trivial, trivial, trivial, trivial, trivial⟩, trivial⟩ ?_
     refine xb rfl (fun b0 => ?_) (fun b0 => ?_)
     refine xr rfl (z7 rfl ⟨⟨rfl, ?_, trivial⟩, z1 rfl⟩)
     rotate_left
     rotate_left
     · exact vi (q7 h h0 hF (by simpa using b0))
     · exact q9 rfl (hJ _ (i + 1) ⟨by omega, za h0 (hF.trans (by simpa using b0))⟩ (by omega) ⟨⟨cwi (by omega) (by omega) (by omega), ⟨rfl, rfl, rfl⟩, trivial⟩, ⟨lcr, trivial⟩, rfl⟩)
   · have h : ¬ i < c.msgs.length := by simpa using h
     have hz := yd (f := q42 c) (n := c.msgs.length) (fun j hj => h0 j (by omega))
     refine xr rfl (z7 rfl ⟨⟨rfl, ?_, trivial⟩, z1 rfl⟩)
     exact vi (hz.symm)
end Go.Proofs.YtbnbjaedijbnpaaGreat
end
section
namespace Go.Proofs.YtbnbjaedijbnpaaGreat
open Go Go.Sx
set_option maxRecDepth 20000
set_option maxHeartbeats 4000000
def q6h (us : List Bal) (ls : List Leg) (ws : List Bal) (k : Nat) (a b : Int) : Int := z11 (us.map Bal.leg ++ ls) a b - z11 ((ws.map Bal.leg).take k) a b
theorem ofV (a b : Int) : y12 (z7s a b) = some (.agg [.b (i64 a), .b (i64 b)]) := by
 simp [z7s, y12, y2d, Value.oneCell']
theorem q5q {us : List Bal} {ls : List Leg} {ws : List Bal} {k : Nat} {x : Bal} {D : DataW Unit} (hu : qd us = 0) (hw : qd ws = 0) (hl : ∀ l ∈ ls, inK l.a l.b ∧ l.small) (hn : ls.length ≤ 90000) (hx : ws[k]? = some x) (h : SP (q6h us ls ws k) D) {cc : Int} (hat : D.atKey (kP x.a x.b) (.lit (.int .i64 0)) = .lit (.int .i64 cc)) :
 (Lit.int .i64 (IntKind.i64.wrap (cc - x.v))).wf = true ∧ SP (q6h us ls ws (k + 1)) (D.put (kP x.a x.b) (.lit (.int .i64 (IntKind.i64.wrap (cc - x.v))))) := by
 have hxl : (ws.map Bal.leg)[k]? = some x.leg := by rw [List.getElem?_map, hx]; rfl
 have hxk := q3h hw x.leg (List.mem_of_getElem? hxl)
 have hc : cc = q6h us ls ws k x.a x.b := z8u h (a := x.a) (b := x.b) (q33 hxk.1) hat
 have hb1 := y27 (us.map Bal.leg ++ ls) x.a x.b (fun l hm => by
  rcases List.mem_append.1 hm with hm | hm
  · exact (q3h hu l hm).2
  · exact (hl l hm).2)
 have hb2 := y27 ((ws.map Bal.leg).take k) x.a x.b (fun l hm => (q3h hw l (List.mem_of_mem_take hm)).2)
 have h1 := (zt hu).1
 have h2 := (zt hw).1
 have h3 : ((ws.map Bal.leg).take k).length ≤ 18 := by rw [List.length_take, List.length_map]; omega
 have h4 : (us.map Bal.leg ++ ls).length ≤ 90018 := by rw [List.length_append, List.length_map]; omega
 have hv := hxk.2
 unfold Leg.small at hv
 change -1000000000000 ≤ x.v ∧ x.v ≤ 1000000000000 at hv
 unfold q6h at hc
 have hwr : IntKind.i64.wrap (cc - x.v) = cc - x.v := wrap_i64 (by omega) (by omega)
 rw [hwr]
 refine ⟨wfi (by omega) (by omega), y8i y5y Tryz.underlying2 szK h (q33 hxk.1) ?_ (fun a' b' hne => ?_)⟩
 · unfold q6h
   rw [z4u hxl, if_pos ⟨rfl, rfl⟩, hc]
   show _ - (_ + x.v) = _
   omega
 · unfold q6h
   rw [z4u hxl, if_neg (fun e => hne ⟨e.1.symm, e.2.symm⟩)]
   omega
theorem z7u {c : Clu} {us : List Bal} {s : Shd} (hc : qn c = 0) (hu : qd us = 0) (hw : qd s.bals = 0) : y3d c us s ↔ ∀ a b, wf2 a b → q6h us (z00 c s.idx s.app) s.bals s.bals.length a b = 0 := by
 unfold y3d q6h
 rw [q6o (q55 hu) (q55 hw) (fun l hl => (q2k hc s.idx s.app l hl).1), List.take_of_length_le (by simp)]
 constructor
 · intro h a b hab
   have := h a b hab
   rw [z01]
   omega
 · intro h a b hab
   have := h a b hab
   rw [z01] at this
   omega
theorem y6z (st : List (List Bal)) (c : Clu) (ho : y00 c) (hsl : st.length ≤ 1048576) (hsb : ∀ us ∈ st, us.length ≤ 1048576) : PC Tryz.prog 14 [.agg [.l (qj st)], .agg c.cs] (rB (y5l st c)) := by
 refine PC.begin Tryz.func14 rfl (by kernel_rfl) ?_
 have hq := y92 st hsl hsb
 have hL := y5y.law
 obtain ⟨i2, hi2, hs2⟩ := z9y
 have hKd := Maps.Keyed.of_law hL
 have hz : ∀ w, (zeroValue 2).run Tryz.prog w = .ok (.int .i64 0) w := fun w => by kernel_rfl
 have hll : (qj st).length = st.length := by simp
 have hcl : (c.shs.map Shd.cs).length = c.shs.length := by simp
 refine z9l (n := 0) rfl (ι := Unit) (fun _ => True) (fun _ => ⟨[(3, .one (.b (.p c.cs))), (2, .one (.b (.p [.l (qj st)])))], []⟩) ?_ ?_
 · intro K hK
   exact q9 rfl (hK _ () trivial ⟨⟨⟨rfl, rfl, rfl⟩, ⟨rfl, rfl, rfl⟩, trivial⟩, trivial, rfl⟩)
 intro _ _
 by_cases hc : ¬ qn c = 0
 · rw [y0c (fun h => hc h.1)]
   refine z6 rfl (q3x c ho) rfl ⟨⟨trivial, trivial, trivial, trivial, trivial, trivial⟩, trivial⟩ ?_
   refine xb rfl (fun b0 => ?_) (fun b0 => ?_)
   refine xj (k := 12) rfl ?_
   refine xr rfl (z7 rfl ⟨⟨rfl, rfl, trivial⟩, z1 rfl⟩)
   exact absurd b0 (by simp; omega)
   all_goals (exfalso; simp_all; done)
 have hc : qn c = 0 := by simpa using hc
 by_cases hf : ¬ zu st = 0
 · rw [y0c (fun h => hf h.2.1)]
   refine z6 rfl (q3x c ho) rfl ⟨⟨trivial, trivial, trivial, trivial, trivial, trivial⟩, trivial⟩ ?_
   refine xb rfl (fun b0 => ?_) (fun b0 => ?_)
   exact absurd b0 (by simp; omega)
   refine xj (k := 1) rfl ?_
   refine z6 rfl (hq) rfl ⟨⟨trivial, trivial⟩, trivial⟩ ?_
   refine xj (k := 2) rfl ?_
   refine xb rfl (fun b1 => ?_) (fun b1 => ?_)
   refine xj (k := 8) rfl ?_
   refine xr rfl (z7 rfl ⟨⟨rfl, rfl, trivial⟩, z1 rfl⟩)
   exact absurd b1 (by simp; omega)
   all_goals (exfalso; simp_all; done)
 have hf : zu st = 0 := by simpa using hf
 by_cases hn : ¬ st.length = c.shs.length
 · rw [y0c (fun h => hn h.2.2.1)]
   refine z6 rfl (q3x c ho) rfl ⟨⟨trivial, trivial, trivial, trivial, trivial, trivial⟩, trivial⟩ ?_
   refine xb rfl (fun b0 => ?_) (fun b0 => ?_)
   exact absurd b0 (by simp; omega)
   refine xj (k := 1) rfl ?_
   refine z6 rfl (hq) rfl ⟨⟨trivial, trivial⟩, trivial⟩ ?_
   refine xj (k := 2) rfl ?_
   refine xb rfl (fun b1 => ?_) (fun b1 => ?_)
   exact absurd b1 (by simp; omega)
   refine xj (k := 7) rfl ?_
   refine xb rfl (fun b2 => ?_) (fun b2 => ?_)
   refine xr rfl (z7 rfl ⟨⟨rfl, rfl, trivial⟩, z1 rfl⟩)
   exact absurd b2 (by simp; omega)
   all_goals first
    | (exfalso; simp_all; done)
    | (exfalso; simp_all; omega)
    | skip
 have hn : st.length = c.shs.length := by omega
 refine z6 rfl (q3x c ho) rfl ⟨⟨trivial, trivial, trivial, trivial, trivial, trivial⟩, trivial⟩ ?_
 refine xb rfl (fun b0 => ?_) (fun b0 => ?_)
 exact absurd b0 (by simp; omega)
 refine xj (k := 1) rfl ?_
 refine z6 rfl (hq) rfl ⟨⟨trivial, trivial⟩, trivial⟩ ?_
 refine xj (k := 2) rfl ?_
 refine xb rfl (fun b1 => ?_) (fun b1 => ?_)
 exact absurd b1 (by simp; omega)
 refine xj (k := 7) rfl ?_
 refine xb rfl (fun b2 => ?_) (fun b2 => ?_)
 exact absurd b2 (by simp; omega)
 all_goals first
  | (exfalso; simp_all; done)
  | (exfalso; simp_all; omega)
  | skip
 refine qc rfl (ι := Nat) (fun i => i ≤ c.shs.length ∧ ∀ (j : Nat) (us : List Bal) (s : Shd), j < i → st[j]? = some us → c.shs[j]? = some s → y3d c us s) (fun i => ⟨[(32, sV (.int .i64 i)), (31, sV (.int .i64 (c.shs.map Shd.cs).length)), (30, .one (.b (.l (c.shs.map Shd.cs)))), (3, .one (.b (.p c.cs))), (2, .one (.b (.p [.l (qj st)])))], []⟩) (fun i => c.shs.length - i) 0 ⟨Nat.zero_le _, fun j us s hj => by omega⟩ ?_ ?_
 · exact ⟨⟨rfl, rfl, rfl, rfl, rfl, trivial⟩, trivial, rfl⟩
 · intro i ⟨hi, h0⟩ J hJ
   refine xb rfl (fun h => ?_) (fun h => ?_)
   · have h : i < c.shs.length := by simpa using h
     obtain ⟨s, hs⟩ := gx h
     obtain ⟨us, hu⟩ := gx (show i < st.length by omega)
     have hgs := gm Shd.cs hs
     have hgu := gm z2c hu
     have hsf := (y3s hc hs).1
     have hidx : s.idx = (i : Int) := (y3s hc hs).2.1
     have hal := (z5d hsf).2.2.2.2
     have hwb := q8b hsf
     have hub := y8n hf hu
     have hlk := q2k hc s.idx s.app
     have hln := z1u hc s.idx s.app
     have hul := (zt hub).1
     have hwl := (zt hwb).1
     have hS0 : SP (q6h us (z00 c s.idx s.app) s.bals 0) (DL (us.map Bal.leg ++ z00 c s.idx s.app)) := by
      have h9 := y9n y5y Tryz.underlying2 szK (ls := us.map Bal.leg ++ z00 c s.idx s.app) (fun l hl => by
       rcases List.mem_append.1 hl with hl | hl
       · exact (q3h hub l hl).1
       · exact (hlk l hl).1)
      refine ⟨h9.1, fun a b hab => ?_⟩
      rw [h9.2 a b hab]
      unfold q6h
      rw [List.take_zero]
      show _ = DataW.lit (.int .i64 (_ - 0))
      rw [Int.sub_zero]
     have hM := y9h c ho hc us hub s.idx s.app hal (fun a ha => q6m hc hs ha)
     rw [hidx] at hM hS0 hlk hln
     generalize hLLe : z00 c (i : Int) s.app = LL at hM hS0 hlk hln
     refine xs rfl (Int.natCast_nonneg _) ?_
     refine ya rfl _ hgs ?_
     refine xs rfl rfl ?_
     refine zb rfl [8] (.take 0 [] (.take 1 [3, 4, 8, 9] (.take 2 [] (.take 3 [] (.take 4 [8, 9] (.take 5 [] (.take 6 [] (.take 7 [8, 9] (.alt 8 (.take 9 [] .done) .nil))))))))) (by kernel_rfl) ?_
     refine xs rfl (Int.natCast_nonneg _) ?_
     refine ya rfl _ hgu ?_
     refine xs rfl rfl ?_
     refine zb3 rfl hM ⟨trivial, trivial, trivial, trivial, trivial⟩ rfl ?_
     skip
     refine qc rfl (ι := Nat × DataW Unit) (fun p => p.1 ≤ s.bals.length ∧ SP (q6h us LL s.bals p.1) p.2) (fun p => ⟨[(49, sV (.int .i64 p.1)), (48, sV (.int .i64 (s.bals.map Bal.cs).length)), (47, .one (.b (.l (s.bals.map Bal.cs)))), (7, .one (.mx 0 4600000)), (32, sV (.int .i64 i)), (31, sV (.int .i64 (c.shs.map Shd.cs).length)), (30, .one (.b (.l (c.shs.map Shd.cs)))), (3, .one (.b (.p c.cs))), (2, .one (.b (.p [.l (qj st)])))], [(4600000, .mp 93 2 (us.length + LL.length + p.1) p.2 none)]⟩) (fun p => s.bals.length - p.1) (0, DL (us.map Bal.leg ++ LL)) ⟨Nat.zero_le _, hS0⟩ ?_ ?_
     · exact ⟨⟨rfl, rfl, rfl, ⟨rfl, rfl, rfl⟩, rfl, rfl, rfl, rfl, rfl, trivial⟩, ⟨⟨rfl, rfl, rfl, rfl, rfl⟩, trivial⟩, rfl⟩
     · intro ⟨k, D⟩ ⟨hk, hS⟩ Jk hJk
       dsimp only at hk hS
       refine xb rfl (fun hh => ?_) (fun hh => ?_)
       · have hh : k < s.bals.length := by simpa using hh
         obtain ⟨x, hx⟩ := gx hh
         have hg := gm Bal.cs hx
         have hxk := q3h hwb x.leg (List.mem_map.2 ⟨x, List.mem_of_getElem? hx, rfl⟩)
         have hkey : keyOf Tryz.prog 93 (z7s x.a x.b) = some (kP x.a x.b) := y3g y5y Tryz.underlying2 szK (q33 hxk.1)
         refine xs rfl (Int.natCast_nonneg _) ?_
         refine ya rfl _ hg ?_
         refine xs rfl rfl ?_
         refine zb rfl [] (.take 0 [] (.take 1 [] (.take 2 [5, 6, 9, 10, 11, 12] (.take 3 [] (.take 4 [5, 6, 9, 10, 11, 12] (.take 5 [] (.take 7 [] (.take 8 [9, 10, 11, 12] (.alt 6 (.take 9 [] (.alt 10 (.take 11 [] (.alt 12 .done .nil)) .nil)) (.alt 10 (.take 11 [] (.alt 6 (.take 9 [] (.alt 12 .done .nil)) .nil)) .nil)))))))))) (by kernel_rfl) ?_
         refine q5i rfl rfl Tryz.underlying93 hi2 hs2 z9j rfl ?_
         refine y1b rfl ?_ ?_
         · refine z8g rfl rfl rfl rfl Tryz.underlying89 Tryz.underlying2 hKd hz rfl rfl hkey (fun cc hat hwc => ?_)
           have hnx := q5q hub hwb hlk (by omega) hx hS hat
           refine y9l rfl rfl rfl rfl rfl Tryz.underlying89 Tryz.underlying2 hL (show us.length + LL.length + k < maxLen by unfold maxLen; omega) hz rfl rfl hkey (fun c2 born => ?_)
           refine q9l rfl rfl rfl rfl rfl Tryz.underlying2 rfl rfl hnx.1 ?_
           exact q9 rfl (hJk _ (k + 1, _) ⟨by dsimp only; omega, hnx.2⟩ (by dsimp only; omega) ⟨⟨cwi (by omega) (by omega) (by omega), rfl, rfl, ⟨rfl, rfl, rfl⟩, rfl, rfl, rfl, rfl, rfl, trivial⟩, ⟨⟨rfl, rfl, rfl, rfl, rfl⟩, trivial⟩, rfl⟩)
         · refine y9l rfl rfl rfl rfl rfl Tryz.underlying89 Tryz.underlying2 hL (show us.length + LL.length + k < maxLen by unfold maxLen; omega) hz rfl rfl hkey (fun c2 born => ?_)
           refine y7n rfl rfl rfl rfl Tryz.underlying89 Tryz.underlying2 hz rfl rfl hkey (fun cc hat hwc => ?_)
           have hnx := q5q hub hwb hlk (by omega) hx hS hat
           refine q9l rfl rfl rfl rfl rfl Tryz.underlying2 rfl rfl hnx.1 ?_
           exact q9 rfl (hJk _ (k + 1, _) ⟨by dsimp only; omega, hnx.2⟩ (by dsimp only; omega) ⟨⟨cwi (by omega) (by omega) (by omega), rfl, rfl, ⟨rfl, rfl, rfl⟩, rfl, rfl, rfl, rfl, rfl, trivial⟩, ⟨⟨rfl, rfl, rfl, rfl, rfl⟩, trivial⟩, rfl⟩)
       · have hh2 : ¬ k < s.bals.length := by simpa using hh
         have hh : k = s.bals.length := by omega
         subst hh
         have hbo := z7u hc hub hwb (s := s)
         rw [hidx, hLLe] at hbo
         refine y8r rfl rfl rfl rfl rfl rfl Tryz.underlying89 hKd ?_
         refine qc rfl (ι := (Lit → Bool) × Nat × Option (Value × Value)) (fun p => ∀ a b : Int, wf2 a b → p.1 (kP a b) = false → q6h us LL s.bals s.bals.length a b = 0) (fun p => ⟨[(67, .one (.mx 1 67)), (32, sV (.int .i64 i)), (31, sV (.int .i64 (c.shs.map Shd.cs).length)), (30, .one (.b (.l (c.shs.map Shd.cs)))), (3, .one (.b (.p c.cs))), (2, .one (.b (.p [.l (qj st)])))], [(67, .mp 93 2 (us.length + LL.length + s.bals.length) D (some p))]⟩) (fun p => p.2.1) (Maps.has D, Maps.size D, none) (y8u hS) ?_ ?_
         · exact ⟨⟨⟨rfl, rfl, rfl⟩, rfl, rfl, rfl, rfl, rfl, trivial⟩, ⟨⟨rfl, rfl, rfl, rfl, rfl⟩, trivial⟩, rfl⟩
         · intro ⟨left, cnt, cur⟩ hLf J2 hJ2
           dsimp only at hLf hJ2 ⊢
           refine za6 rfl rfl rfl rfl rfl hKd Tryz.underlying2 (fun _ hall => ?_) (fun key kl cc cnt' hkl hl hat hwc hlt => ?_)
           · have hok : y3d c us s := hbo.2 fun a b hab => hLf a b hab (hall _)
             refine xj (k := 1) rfl ?_
             exact q9 rfl (hJ _ (i + 1) ⟨by omega, fun j us' s' hj hu' hs' => by
              rcases Nat.lt_or_ge j i with h9 | h9
              · exact h0 j us' s' h9 hu' hs'
              · have h10 : j = i := by omega
                subst h10
                rw [hu] at hu'
                rw [hs] at hs'
                cases hu'
                cases hs'
                exact hok⟩ (by omega) ⟨⟨cwi (by omega) (by omega) (by omega), rfl, rfl, rfl, rfl, trivial⟩, trivial, rfl⟩)
           · obtain ⟨a, b, rfl, hab, rfl⟩ := y9y y5y Tryz.underlying2 szK hkl
             have hcc := z8u hS hab (hat _)
             refine ⟨.agg [.b (i64 a), .b (i64 b)], ofV a b, fun vs h => (nomatch h), ?_⟩
             refine xj (k := 1) rfl ?_
             refine q8q rfl rfl rfl rfl rfl (ofV a b) rfl (fun vs h => (nomatch h)) (fun vs h => (nomatch h)) ?_
             refine xb rfl (fun b0 => ?_) (fun b0 => ?_)
             refine xr rfl (z7 rfl ⟨⟨rfl, ?_, trivial⟩, z1 rfl⟩)
             rotate_left
             rotate_left
             · refine vb (y0c fun h => ?_).symm
               have h9 := hbo.1 (h.2.2.2 i us s hu hs) a b hab
               rw [← hcc] at h9
               simp [h9] at b0
             · exact q9 rfl (hJ2 _ (_, cnt', _) (zal y5y Tryz.underlying2 szK hLf hab (by rw [← hcc]; simpa using b0)) hlt ⟨⟨⟨rfl, rfl, rfl⟩, rfl, rfl, rfl, rfl, rfl, trivial⟩, ⟨⟨rfl, rfl, rfl, rfl, rfl⟩, trivial⟩, rfl⟩)
   · have h : i = c.shs.length := by have : ¬ i < c.shs.length := (by simpa using h); omega
     rw [q3d ⟨hc, hf, hn, fun j us s hu hs => h0 j us s (by rw [h]; exact (List.getElem?_eq_some_iff.1 hs).1) hu hs⟩]
     refine xr rfl (z7 rfl ⟨⟨rfl, rfl, trivial⟩, z1 rfl⟩)
end Go.Proofs.YtbnbjaedijbnpaaGreat
end
section
namespace Go.Proofs.YtbnbjaedijbnpaaGreat
open Go Go.Sx
set_option maxRecDepth 20000
set_option maxHeartbeats 4000000
theorem qar {a b : Int} (h : inK a b) : IntKind.i64.wrap (IntKind.i64.wrap (a * 3) + b) = a * 3 + b := by
 unfold inK at h
 rw [wrap_i64 (n := a * 3) (by omega) (by omega), wrap_i64 (by omega) (by omega)]
theorem q81 (us : List Bal) (a b v : Int) (hl : us.length ≤ 1048576) (hk : inK a b) (hu : ∀ x ∈ us, inK x.a x.b) : PC Tryz.prog 104 [.one (.l (us.map Bal.cs)), .one (i64 a), .one (i64 b), .one (i64 v)] (.one (.own false [.l 3 ((z2m a b v us (decide (v = 0))).map Bal.cs)])) := by
 refine PC.begin Tryz.func104 rfl (by kernel_rfl) ?_
 have hkw := qar hk
 refine xs rfl trivial ?_
 refine qc rfl (ι := Nat × List Bal × Bool) (fun z => z.1 ≤ us.length ∧ z.2.1.length + (bif z.2.2 then 0 else 1) ≤ z.1 + 1 ∧ z.2.1 ++ z2m a b v (us.drop z.1) z.2.2 = z2m a b v us (decide (v = 0))) (fun z => ⟨[(11, sV (.int .i64 z.1)), (10, sV (.bool z.2.2)), (9, .one (.h 13 z.2.1.length)), (0, .one (.b (.l (us.map Bal.cs)))), (1, sV (.int .i64 a)), (2, sV (.int .i64 b)), (3, sV (.int .i64 v))], [(13, .arr true 3 0 (z.2.1.map Bal.cs))]⟩) (fun z => us.length - z.1) (0, [], decide (v = 0)) ⟨Nat.zero_le _, by cases decide (v = 0) <;> simp, by simp⟩ ?_ ?_
 · exact ⟨⟨rfl, rfl, ⟨rfl, rfl, rfl⟩, rfl, rfl, rfl, rfl, trivial⟩, ⟨⟨rfl, .inl rfl, .inl rfl⟩, trivial⟩, rfl⟩
 · intro ⟨i, out, d⟩ ⟨hi, hn, hE⟩ J hJ
   dsimp only at hi hn hE
   have hon : out.length ≤ i + 1 := by omega
   refine xb rfl (fun h => ?_) (fun h => ?_)
   · have h : i < us.length := by simpa using h
     obtain ⟨x, hx⟩ := gx h
     have hg := gm Bal.cs hx
     have hxk := hu x (List.mem_of_getElem? hx)
     have hxw := qar hxk
     have hdr : us.drop i = x :: us.drop (i + 1) := by
      rw [List.drop_eq_getElem_cons h]
      rw [List.getElem?_eq_getElem h] at hx
      cases hx; rfl
     rw [hdr, z2m] at hE
     clear hdr
     cases d with
     | true =>
       refine xs rfl (by simp) ?_
       refine ya rfl _ hg ?_
       refine xs rfl rfl ?_
       refine xb rfl (fun b0 => ?_) (fun b0 => ?_)
       refine xj (k := 4) rfl ?_
       refine xb rfl (fun b1 => ?_) (fun b1 => ?_)
       rotate_left
       refine xj (k := 13) rfl ?_
       refine xs rfl ⟨trivial, trivial, trivial, trivial⟩ ?_
       refine xs rfl (by simp) ?_
       refine xs rfl rfl ?_
       refine xs rfl (.inl rfl) ?_
       refine xs rfl (by simp; omega) ?_
       refine xs rfl (by simp; omega) ?_
       rotate_left
       refine xj (k := 18) rfl ?_
       refine xs rfl ⟨trivial, trivial, trivial, trivial⟩ ?_
       refine xs rfl (by simp) ?_
       refine xs rfl rfl ?_
       refine xs rfl (.inl rfl) ?_
       refine xs rfl (by simp; omega) ?_
       refine xs rfl (by simp; omega) ?_
       rotate_left
       all_goals first
        | exact q9 rfl (hJ _ (i + 1, out, true) ⟨by omega, by simp at hn ⊢; omega, by rwa [if_pos ⟨by simpa using b0, by simpa using b1⟩] at hE⟩ (by dsimp only; omega) ⟨⟨cwi (by omega) (by omega) (by omega), rfl, ⟨rfl, rfl, rfl⟩, rfl, rfl, rfl, rfl, trivial⟩, ⟨⟨rfl, .inl rfl, .inl rfl⟩, trivial⟩, rfl⟩)
        | exact q9 rfl (hJ _ (i + 1, out ++ [x], true) ⟨by omega, by simp at hn ⊢; omega, by rw [if_neg (fun e => by simp_all), if_neg (fun e => by simp_all)] at hE; simpa using hE⟩ (by dsimp only; omega) ⟨⟨cwi (by omega) (by omega) (by omega), rfl, ⟨rfl, by simp, rfl⟩, rfl, rfl, rfl, rfl, trivial⟩, ⟨⟨by simp, .inl rfl, .inl rfl⟩, trivial⟩, rfl⟩)
        | skip
     | false =>
       refine xs rfl (by simp) ?_
       refine ya rfl _ hg ?_
       refine xs rfl rfl ?_
       refine xb rfl (fun b0 => ?_) (fun b0 => ?_)
       refine xj (k := 4) rfl ?_
       refine xb rfl (fun b1 => ?_) (fun b1 => ?_)
       rotate_left
       refine xj (k := 12) rfl ?_
       refine xb rfl (fun b2 => ?_) (fun b2 => ?_)
       refine xs rfl ⟨trivial, trivial, trivial, trivial⟩ ?_
       refine xs rfl (by simp) ?_
       refine xs rfl rfl ?_
       refine xs rfl (.inl rfl) ?_
       refine xs rfl (by simp; omega) ?_
       refine xs rfl (by simp; omega) ?_
       refine xs rfl ⟨trivial, trivial, trivial, trivial⟩ ?_
       refine xs rfl (by simp) ?_
       refine xs rfl rfl ?_
       refine xs rfl (.inl rfl) ?_
       refine xs rfl (by simp; omega) ?_
       refine xs rfl (by simp; omega) ?_
       rotate_left
       refine xs rfl ⟨trivial, trivial, trivial, trivial⟩ ?_
       refine xs rfl (by simp) ?_
       refine xs rfl rfl ?_
       refine xs rfl (.inl rfl) ?_
       refine xs rfl (by simp; omega) ?_
       refine xs rfl (by simp; omega) ?_
       rotate_left
       refine xj (k := 17) rfl ?_
       refine xb rfl (fun b1 => ?_) (fun b1 => ?_)
       refine xs rfl ⟨trivial, trivial, trivial, trivial⟩ ?_
       refine xs rfl (by simp) ?_
       refine xs rfl rfl ?_
       refine xs rfl (.inl rfl) ?_
       refine xs rfl (by simp; omega) ?_
       refine xs rfl (by simp; omega) ?_
       refine xs rfl ⟨trivial, trivial, trivial, trivial⟩ ?_
       refine xs rfl (by simp) ?_
       refine xs rfl rfl ?_
       refine xs rfl (.inl rfl) ?_
       refine xs rfl (by simp; omega) ?_
       refine xs rfl (by simp; omega) ?_
       rotate_left
       refine xs rfl ⟨trivial, trivial, trivial, trivial⟩ ?_
       refine xs rfl (by simp) ?_
       refine xs rfl rfl ?_
       refine xs rfl (.inl rfl) ?_
       refine xs rfl (by simp; omega) ?_
       refine xs rfl (by simp; omega) ?_
       rotate_left
       all_goals first
        | exact q9 rfl (hJ _ (i + 1, out, false) ⟨by omega, by simp at hn ⊢; omega, by rwa [if_pos ⟨by simpa using b0, by simpa using b1⟩] at hE⟩ (by dsimp only; omega) ⟨⟨cwi (by omega) (by omega) (by omega), rfl, ⟨rfl, rfl, rfl⟩, rfl, rfl, rfl, rfl, trivial⟩, ⟨⟨rfl, .inl rfl, .inl rfl⟩, trivial⟩, rfl⟩)
        | exact q9 rfl (hJ _ (i + 1, out ++ [⟨a, b, v⟩, x], true) ⟨by omega, by simp at hn ⊢; omega, by rw [if_neg (fun e => by simp_all), if_pos ⟨rfl, by rw [hxw, hkw] at *; unfold Bal.key; simp_all⟩] at hE; simpa using hE⟩ (by dsimp only; omega) ⟨⟨cwi (by omega) (by omega) (by omega), rfl, ⟨rfl, by simp, rfl⟩, rfl, rfl, rfl, rfl, trivial⟩, ⟨⟨by simp, .inl rfl, .inl rfl⟩, trivial⟩, rfl⟩)
        | exact q9 rfl (hJ _ (i + 1, out ++ [x], false) ⟨by omega, by simp at hn ⊢; omega, by rw [if_neg (fun e => by simp_all), if_neg (fun e => by rw [hxw, hkw] at *; unfold Bal.key at e; simp_all; omega)] at hE; simpa using hE⟩ (by dsimp only; omega) ⟨⟨cwi (by omega) (by omega) (by omega), rfl, ⟨rfl, by simp, rfl⟩, rfl, rfl, rfl, rfl, trivial⟩, ⟨⟨by simp, .inl rfl, .inl rfl⟩, trivial⟩, rfl⟩)
        | exact q9 rfl (hJ _ (i + 1, out ++ [x], false) ⟨by omega, by simp at hn ⊢; omega, by rw [if_neg (fun e => by simp_all), if_neg (fun e => by have h5 := e.2; rw [hxw, hkw] at b1; unfold Bal.key at h5; exact absurd h5 (by simpa using b1))] at hE; simpa using hE⟩ (by dsimp only; omega) ⟨⟨cwi (by omega) (by omega) (by omega), rfl, ⟨rfl, by simp, rfl⟩, rfl, rfl, rfl, rfl, trivial⟩, ⟨⟨by simp, .inl rfl, .inl rfl⟩, trivial⟩, rfl⟩)
        | skip
   · have h : ¬ i < us.length := by simpa using h
     rw [List.drop_eq_nil_of_le (by omega)] at hE
     cases d with
     | true =>
       rw [← hE]
       refine xj (k := 1) rfl ?_
       refine xr rfl (z7 rfl ⟨⟨rfl, ⟨?_, ?_, .inl rfl⟩, trivial⟩, z1 rfl⟩)
       rotate_left
       rotate_left
       all_goals first | (simp [z2m]; done) | skip
     | false =>
       rw [← hE]
       refine xj (k := 1) rfl ?_
       refine xs rfl ⟨trivial, trivial, trivial, trivial⟩ ?_
       refine xs rfl (by simp) ?_
       refine xs rfl rfl ?_
       refine xs rfl (.inl rfl) ?_
       refine xs rfl (by simp; omega) ?_
       refine xs rfl (by simp; omega) ?_
       refine xr rfl (z7 rfl ⟨⟨rfl, ⟨?_, ?_, .inl rfl⟩, trivial⟩, z1 rfl⟩)
       rotate_left
       rotate_left
       all_goals first | (simp [z2m]; done) | skip
end Go.Proofs.YtbnbjaedijbnpaaGreat
end
section
namespace Go.Proofs.YtbnbjaedijbnpaaGreat
open Go Go.Sx
set_option maxRecDepth 20000
set_option maxHeartbeats 4000000
theorem z9t (us : List Bal) : zy (us.map Bal.cs) := fun row hr => by
 obtain ⟨x, _, rfl⟩ := List.mem_map.1 hr
 intro c hc
 simp at hc
 rcases hc with rfl | rfl | rfl <;> exact ⟨_, rfl⟩
theorem y81 (us : List Bal) (ls : List Leg) (hl : us.length ≤ 100000) (hll : ls.length ≤ 100000) (hu : y1z us) (hk : ∀ l ∈ ls, inK l.a l.b ∧ l.small) (hB : ∀ a b, -4000000000000000000 ≤ hasB us a b ∧ hasB us a b ≤ 4000000000000000000) : PC Tryz.prog 40 [.one (.l (us.map Bal.cs)), .one (.l (ls.map Leg.cs))] (.one (.bor false [.l ((q1b us ls).map Bal.cs)])) := by
 refine PC.begin Tryz.func40 rfl (by kernel_rfl) ?_
 have hsc := z9t us
 refine xs rfl trivial ?_
 refine xs rfl rfl ?_
 refine xs rfl (by simp) ?_
 refine xs rfl (fun _ => hsc) ?_
 refine xs rfl (by simp; omega) ?_
 refine xs rfl (by simp; omega) ?_
 refine qc rfl (ι := Nat) (fun i => i ≤ ls.length) (fun i => ⟨[(6, sV (.int .i64 i)), (5, .one (.b (.l ((q1b us (ls.take i)).map Bal.cs)))), (1, .one (.b (.l (ls.map Leg.cs))))], []⟩) (fun i => ls.length - i) 0 (Nat.zero_le _) ?_ ?_
 · exact ⟨⟨rfl, ⟨rfl, by simp, by simp [q1b]⟩, rfl, trivial⟩, trivial, rfl⟩
 · intro i hi J hJ
   refine xb rfl (fun h => ?_) (fun h => ?_)
   · have h : i < ls.length := by simpa using h
     obtain ⟨l, hx⟩ := gx h
     have hg := gm Leg.cs hx
     have hlm := hk l (List.mem_of_getElem? hx)
     have hst := q6k (us := us) hx
     have hgd := q1r (ls := ls.take i) hu (fun x hx => (hk x (List.mem_of_mem_take hx)).1)
     have hlen := q2h (ls.take i) us
     rw [List.length_take] at hlen
     have hlen : (q1b us (ls.take i)).length ≤ 1048576 := by omega
     have hv := z14 (ls.take i) us l.a l.b
     have hb := hB l.a l.b
     have hs := y27 (ls.take i) l.a l.b (fun x hx => (hk x (List.mem_of_mem_take hx)).2)
     have hti : (ls.take i).length ≤ 100000 := by rw [List.length_take]; omega
     have hsm := hlm.2
     unfold Leg.small at hsm
     have hw : IntKind.i64.wrap (hasB (q1b us (ls.take i)) l.a l.b + l.v) = hasB (q1b us (ls.take i)) l.a l.b + l.v := wrap_i64 (by omega) (by omega)
     have hset := q81 (q1b us (ls.take i)) l.a l.b (IntKind.i64.wrap (hasB (q1b us (ls.take i)) l.a l.b + l.v)) hlen hlm.1 (fun x hx => (hgd.2 x hx).1)
     unfold y6h at hst
     rw [← hw] at hst
     generalize q1b us (ls.take i) = cur at hset hst hlen hw ⊢
     clear hv hb hs hsm hgd
     refine zb rfl [] (.take 0 [] (.take 1 [] (.take 2 [] (.take 3 [] (.take 4 [] (.take 5 [29, 30] (.take 6 [] (.take 7 [] (.take 8 [] (.take 9 [] (.take 10 [29, 30] (.take 11 [] (.take 12 [] (.take 13 [] (.take 14 [] (.take 15 [] (.take 16 [22, 28, 29, 30] (.take 17 [] (.take 18 [] (.take 19 [] (.take 20 [] (.take 21 [22, 28, 29, 30] (.take 23 [] (.take 24 [] (.take 25 [] (.take 26 [] (.take 27 [28, 29, 30] (.alt 22 (.take 28 [] (.alt 29 (.take 30 [] .done) .nil)) .nil)))))))))))))))))))))))))))) (by kernel_rfl) ?_
     refine xs rfl (Int.natCast_nonneg _) ?_
     refine ya rfl _ hg ?_
     refine xs rfl rfl ?_
     refine xs rfl (Int.natCast_nonneg _) ?_
     refine ya rfl _ hg ?_
     refine xs rfl rfl ?_
     refine xs rfl (Int.natCast_nonneg _) ?_
     refine ya rfl _ hg ?_
     refine xs rfl rfl ?_
     refine xs rfl (Int.natCast_nonneg _) ?_
     refine ya rfl _ hg ?_
     refine xs rfl rfl ?_
     refine xs rfl (Int.natCast_nonneg _) ?_
     refine ya rfl _ hg ?_
     refine xs rfl rfl ?_
     refine z6 rfl (y7d _ _ _ (by assumption)) rfl ⟨trivial, trivial, trivial, trivial⟩ ?_
     refine z6 rfl (hset) rfl ⟨trivial, trivial, trivial, trivial, trivial⟩ ?_
     all_goals first
      | exact q9 rfl (hJ _ (i + 1) (by omega) (by omega) ⟨⟨cwi (by omega) (by omega) (by omega), ⟨rfl, rfl, by rw [hst]⟩, rfl, trivial⟩, trivial, rfl⟩)
      | skip
   · have h : i = ls.length := by have : ¬ i < ls.length := (by simpa using h); omega
     subst h
     rw [List.take_length]
     refine xr rfl (z7 rfl ⟨⟨rfl, rfl, trivial⟩, z1 rfl⟩)
theorem y9v (x y : Bal) : q0z [.int .i64 x.a, .int .i64 x.b, .int .i64 x.v] [.int .i64 y.a, .int .i64 y.b, .int .i64 y.v] = decide (x = y) := by
 by_cases h : x = y
 · subst h; simp [q0z]
 · rw [decide_eq_false h]
   cases x; cases y
   simpa [q0z] using h
theorem y5u {α : Type} {l m : List α} {i : Nat} {x : α} (h : l.take i = m.take i) (hx : l[i]? = some x) (hy : m[i]? = some x) : l.take (i + 1) = m.take (i + 1) := by
 rw [List.take_add_one, List.take_add_one, h, hx, hy]
theorem y49 {α : Type} {l m : List α} {i : Nat} {x y : α} (hx : l[i]? = some x) (hy : m[i]? = some y) (h : x ≠ y) : l ≠ m := fun e => by
 subst e
 rw [hx] at hy
 exact h (Option.some.inj hy)
theorem q6c (l m : List (List Bal)) (hl : l.length ≤ 100000) (hm : m.length ≤ 100000) (hul : ∀ us ∈ l, us.length ≤ 100000) (hum : ∀ us ∈ m, us.length ≤ 100000) : PC Tryz.prog 43 [.agg [.l (qj l)], .agg [.l (qj m)]] (rB (decide (l = m))) := by
 refine PC.begin Tryz.func43 rfl (by kernel_rfl) ?_
 refine z9l (n := 0) rfl (ι := Unit) (fun _ => True) (fun _ => ⟨[(3, .one (.a 3 0)), (2, .one (.a 2 0))], [(3, .var [.b (.l (qj m))]), (2, .var [.b (.l (qj l))])]⟩) ?_ ?_
 · intro K hK
   exact q9 rfl (hK _ () trivial ⟨⟨⟨rfl, rfl, rfl⟩, ⟨rfl, rfl, rfl⟩, trivial⟩, ⟨⟨rfl, trivial⟩, ⟨rfl, trivial⟩, trivial⟩, rfl⟩)
 intro _ _
 have hll : (qj l).length = l.length := by simp
 have hml : (qj m).length = m.length := by simp
 by_cases hlm : ¬ l.length = m.length
 · rw [decide_eq_false (fun e => hlm (by rw [e]))]
   refine xb rfl (fun b0 => ?_) (fun b0 => ?_)
   refine xr rfl (z7 rfl ⟨⟨rfl, rfl, trivial⟩, z1 rfl⟩)
   exact absurd b0 (by simp; omega)
   all_goals (exfalso; simp_all; omega)
 have hlm : l.length = m.length := by omega
 refine xb rfl (fun b0 => ?_) (fun b0 => ?_)
 exact absurd b0 (by simp; omega)
 all_goals first
  | (exfalso; simp_all; done)
  | (exfalso; simp_all; omega)
  | skip
 refine qc rfl (ι := Nat) (fun i => i ≤ l.length ∧ l.take i = m.take i) (fun i => ⟨[(5, sV (.int .i64 i)), (3, .one (.a 3 0)), (2, .one (.a 2 0))], [(3, .var [.b (.l (qj m))]), (2, .var [.b (.l (qj l))])]⟩) (fun i => l.length - i) 0 ⟨Nat.zero_le _, rfl⟩ ?_ ?_
 · exact ⟨⟨rfl, ⟨rfl, rfl, rfl⟩, ⟨rfl, rfl, rfl⟩, trivial⟩, ⟨⟨rfl, trivial⟩, ⟨rfl, trivial⟩, trivial⟩, rfl⟩
 · intro i ⟨hi, hT⟩ J hJ
   refine xb rfl (fun h => ?_) (fun h => ?_)
   · have h : i < l.length := by simpa using h
     obtain ⟨us, hx⟩ := gx h
     obtain ⟨ws, hy⟩ := gx (show i < m.length by omega)
     have hg := gm z2c hx
     have hg2 := gm z2c hy
     have hu := hul us (List.mem_of_getElem? hx)
     have hw := hum ws (List.mem_of_getElem? hy)
     by_cases huw : ¬ us.length = ws.length
     · rw [decide_eq_false (y49 hx hy (fun e => huw (by rw [e])))]
       refine zb rfl [] (.take 0 [] (.take 1 [3, 4, 5, 12] (.take 2 [] (.take 3 [] (.take 4 [5, 12] (.take 5 [] (.take 6 [] (.take 7 [9, 10, 11, 12] (.take 8 [] (.take 9 [] (.take 10 [11, 12] (.take 11 [] (.take 12 [] .done))))))))))))) (by kernel_rfl) ?_
       refine xs rfl (Int.natCast_nonneg _) ?_
       refine ya rfl _ hg ?_
       refine xs rfl rfl ?_
       refine xs rfl (Int.natCast_nonneg _) ?_
       refine ya rfl _ hg2 ?_
       refine xs rfl rfl ?_
       refine xb rfl (fun b0 => ?_) (fun b0 => ?_)
       refine xr rfl (z7 rfl ⟨⟨rfl, rfl, trivial⟩, z1 rfl⟩)
       exact absurd b0 (by simp; omega)
       all_goals (exfalso; simp_all; omega)
     have huw : us.length = ws.length := by omega
     refine zb rfl [] (.take 0 [] (.take 1 [3, 4, 5, 12] (.take 2 [] (.take 3 [] (.take 4 [5, 12] (.take 5 [] (.take 6 [] (.take 7 [9, 10, 11, 12] (.take 8 [] (.take 9 [] (.take 10 [11, 12] (.take 11 [] (.take 12 [] .done))))))))))))) (by kernel_rfl) ?_
     refine xs rfl (Int.natCast_nonneg _) ?_
     refine ya rfl _ hg ?_
     refine xs rfl rfl ?_
     refine xs rfl (Int.natCast_nonneg _) ?_
     refine ya rfl _ hg2 ?_
     refine xs rfl rfl ?_
     refine xb rfl (fun b0 => ?_) (fun b0 => ?_)
     exact absurd b0 (by simp; omega)
     all_goals first
      | (exfalso; simp_all; done)
      | (exfalso; simp_all; omega)
      | skip
     refine qc rfl (ι := Nat) (fun k => k ≤ us.length ∧ us.take k = ws.take k) (fun k => ⟨[(6, sV (.int .i64 k)), (5, sV (.int .i64 i)), (3, .one (.a 3 0)), (2, .one (.a 2 0))], [(3, .var [.b (.l (qj m))]), (2, .var [.b (.l (qj l))])]⟩) (fun k => us.length - k) 0 ⟨Nat.zero_le _, rfl⟩ ?_ ?_
     · exact ⟨⟨rfl, rfl, ⟨rfl, rfl, rfl⟩, ⟨rfl, rfl, rfl⟩, trivial⟩, ⟨⟨rfl, trivial⟩, ⟨rfl, trivial⟩, trivial⟩, rfl⟩
     · intro k ⟨hk, hS⟩ Jk hJk
       refine xs rfl (Int.natCast_nonneg _) ?_
       refine ya rfl _ hg ?_
       refine xs rfl rfl ?_
       refine xb rfl (fun hh => ?_) (fun hh => ?_)
       · have hh : k < us.length := by simpa using hh
         obtain ⟨x, hkx⟩ := gx hh
         obtain ⟨y, hky⟩ := gx (show k < ws.length by omega)
         have hgx := gm Bal.cs hkx
         have hgy := gm Bal.cs hky
         refine zb rfl [] (.take 0 [] (.take 1 [3, 4, 6, 7, 16] (.take 2 [] (.take 3 [] (.take 4 [6, 7, 16] (.take 5 [] (.take 6 [] (.take 7 [16] (.take 8 [] (.take 9 [11, 12, 14, 15, 16] (.take 10 [] (.take 11 [] (.take 12 [14, 15, 16] (.take 13 [] (.take 14 [] (.take 15 [16] (.take 16 [] .done))))))))))))))))) (by kernel_rfl) ?_
         refine xs rfl (Int.natCast_nonneg _) ?_
         refine ya rfl _ hg ?_
         refine xs rfl rfl ?_
         refine xs rfl (Int.natCast_nonneg _) ?_
         refine ya rfl _ hgx ?_
         refine xs rfl rfl ?_
         refine xs rfl (Int.natCast_nonneg _) ?_
         refine ya rfl _ hg2 ?_
         refine xs rfl rfl ?_
         refine xs rfl (Int.natCast_nonneg _) ?_
         refine ya rfl _ hgy ?_
         refine xs rfl rfl ?_
         refine xb rfl (fun b0 => ?_) (fun b0 => ?_)
         refine xr rfl (z7 rfl ⟨⟨rfl, ?_, trivial⟩, z1 rfl⟩)
         rotate_left
         rotate_left
         · rw [y9v] at b0
           exact vb (decide_eq_false (y49 hx hy (y49 hkx hky (by simpa using b0)))).symm
         · rw [y9v] at b0
           have e : x = y := by simpa using b0
           exact q9 rfl (hJk _ (k + 1) ⟨by omega, y5u hS hkx (by rw [e]; exact hky)⟩ (by omega) ⟨⟨cwi (by omega) (by omega) (by omega), rfl, ⟨rfl, rfl, rfl⟩, ⟨rfl, rfl, rfl⟩, trivial⟩, ⟨⟨rfl, trivial⟩, ⟨rfl, trivial⟩, trivial⟩, rfl⟩)
       · have hh : k = us.length := by have : ¬ k < us.length := (by simpa using hh); omega
         have e : us = ws := by
          rw [hh, List.take_length, huw, List.take_length] at hS
          exact hS
         skip
         exact q9 rfl (hJ _ (i + 1) ⟨by omega, y5u hT hx (by rw [e]; exact hy)⟩ (by omega) ⟨⟨cwi (by omega) (by omega) (by omega), ⟨rfl, rfl, rfl⟩, ⟨rfl, rfl, rfl⟩, trivial⟩, ⟨⟨rfl, trivial⟩, ⟨rfl, trivial⟩, trivial⟩, rfl⟩)
   · have h : i = l.length := by have : ¬ i < l.length := (by simpa using h); omega
     have e : l = m := by
      rw [h, List.take_length, hlm, List.take_length] at hT
      exact hT
     rw [decide_eq_true e]
     refine xr rfl (z7 rfl ⟨⟨rfl, rfl, trivial⟩, z1 rfl⟩)
end Go.Proofs.YtbnbjaedijbnpaaGreat
end
section
namespace Go.Proofs.YtbnbjaedijbnpaaGreat
open Go Go.Sx
set_option maxRecDepth 20000
set_option maxHeartbeats 4000000
theorem y9w {us : List Bal} (h : qd us = 0) (a b : Int) : 0 ≤ hasB us a b ∧ hasB us a b ≤ 1000000000000 := y6y (zt h).2.1 a b
theorem z7d (st : List (List Bal)) (c : Clu) (ho : y00 c) (hsl : st.length ≤ 1048576) (hsb : ∀ us ∈ st, us.length ≤ 1048576) : PC Tryz.prog 11 [.agg [.l (qj st)], .agg c.cs] (rB (y5l st c)) := by
 refine PC.begin Tryz.func11 rfl (by kernel_rfl) ?_
 have hq := z9f st hsl hsb
 have hll : (qj st).length = st.length := by simp
 have hcl : (c.shs.map Shd.cs).length = c.shs.length := by simp
 refine z9l (n := 0) rfl (ι := Unit) (fun _ => True) (fun _ => ⟨[(3, .one (.b (.p c.cs))), (2, .one (.b (.p [.l (qj st)])))], []⟩) ?_ ?_
 · intro K hK
   exact q9 rfl (hK _ () trivial ⟨⟨⟨rfl, rfl, rfl⟩, ⟨rfl, rfl, rfl⟩, trivial⟩, trivial, rfl⟩)
 intro _ _
 by_cases hc : ¬ qn c = 0
 · rw [y0c (fun h => hc h.1)]
   refine z6 rfl (z45 c ho) rfl ⟨⟨trivial, trivial, trivial, trivial, trivial, trivial⟩, trivial⟩ ?_
   refine xb rfl (fun b0 => ?_) (fun b0 => ?_)
   refine xj (k := 12) rfl ?_
   refine xr rfl (z7 rfl ⟨⟨rfl, rfl, trivial⟩, z1 rfl⟩)
   exact absurd b0 (by simp; omega)
   all_goals (exfalso; simp_all; done)
 have hc : qn c = 0 := by simpa using hc
 by_cases hf : ¬ zu st = 0
 · rw [y0c (fun h => hf h.2.1)]
   refine z6 rfl (z45 c ho) rfl ⟨⟨trivial, trivial, trivial, trivial, trivial, trivial⟩, trivial⟩ ?_
   refine xb rfl (fun b0 => ?_) (fun b0 => ?_)
   exact absurd b0 (by simp; omega)
   refine xj (k := 1) rfl ?_
   refine z6 rfl (hq) rfl ⟨⟨trivial, trivial⟩, trivial⟩ ?_
   refine xj (k := 2) rfl ?_
   refine xb rfl (fun b1 => ?_) (fun b1 => ?_)
   refine xj (k := 8) rfl ?_
   refine xr rfl (z7 rfl ⟨⟨rfl, rfl, trivial⟩, z1 rfl⟩)
   exact absurd b1 (by simp; omega)
   all_goals (exfalso; simp_all; done)
 have hf : zu st = 0 := by simpa using hf
 by_cases hn : ¬ st.length = c.shs.length
 · rw [y0c (fun h => hn h.2.2.1)]
   refine z6 rfl (z45 c ho) rfl ⟨⟨trivial, trivial, trivial, trivial, trivial, trivial⟩, trivial⟩ ?_
   refine xb rfl (fun b0 => ?_) (fun b0 => ?_)
   exact absurd b0 (by simp; omega)
   refine xj (k := 1) rfl ?_
   refine z6 rfl (hq) rfl ⟨⟨trivial, trivial⟩, trivial⟩ ?_
   refine xj (k := 2) rfl ?_
   refine xb rfl (fun b1 => ?_) (fun b1 => ?_)
   exact absurd b1 (by simp; omega)
   refine xj (k := 7) rfl ?_
   refine xb rfl (fun b2 => ?_) (fun b2 => ?_)
   refine xr rfl (z7 rfl ⟨⟨rfl, rfl, trivial⟩, z1 rfl⟩)
   exact absurd b2 (by simp; omega)
   all_goals first
    | (exfalso; simp_all; done)
    | (exfalso; simp_all; omega)
    | skip
 have hn : st.length = c.shs.length := by omega
 refine z6 rfl (z45 c ho) rfl ⟨⟨trivial, trivial, trivial, trivial, trivial, trivial⟩, trivial⟩ ?_
 refine xb rfl (fun b0 => ?_) (fun b0 => ?_)
 exact absurd b0 (by simp; omega)
 refine xj (k := 1) rfl ?_
 refine z6 rfl (hq) rfl ⟨⟨trivial, trivial⟩, trivial⟩ ?_
 refine xj (k := 2) rfl ?_
 refine xb rfl (fun b1 => ?_) (fun b1 => ?_)
 exact absurd b1 (by simp; omega)
 refine xj (k := 7) rfl ?_
 refine xb rfl (fun b2 => ?_) (fun b2 => ?_)
 exact absurd b2 (by simp; omega)
 all_goals first
  | (exfalso; simp_all; done)
  | (exfalso; simp_all; omega)
  | skip
 refine qc rfl (ι := Nat) (fun i => i ≤ c.shs.length ∧ ∀ (j : Nat) (us : List Bal) (s : Shd), j < i → st[j]? = some us → c.shs[j]? = some s → y3d c us s) (fun i => ⟨[(5, sV (.int .i64 i)), (3, .one (.b (.p c.cs))), (2, .one (.b (.p [.l (qj st)])))], []⟩) (fun i => c.shs.length - i) 0 ⟨Nat.zero_le _, fun j us s hj => by omega⟩ ?_ ?_
 · exact ⟨⟨rfl, rfl, rfl, trivial⟩, trivial, rfl⟩
 · intro i ⟨hi, h0⟩ J hJ
   refine xb rfl (fun h => ?_) (fun h => ?_)
   · have h : i < c.shs.length := by simpa using h
     obtain ⟨s, hs⟩ := gx h
     obtain ⟨us, hu⟩ := gx (show i < st.length by omega)
     have hgs := gm Shd.cs hs
     have hgu := gm z2c hu
     have hsf := (y3s hc hs).1
     have hal := (z5d hsf).2.2.2.2
     have hsl2 := (z5d hsf).1
     have hub := y8n hf hu
     have hul := (zt hub).1
     have hsc := z9t us
     refine xs rfl (Int.natCast_nonneg _) ?_
     refine ya rfl _ hgs ?_
     refine xs rfl rfl ?_
     refine xs rfl trivial ?_
     refine xs rfl (Int.natCast_nonneg _) ?_
     refine ya rfl _ hgu ?_
     refine xs rfl rfl ?_
     refine xs rfl rfl ?_
     refine xs rfl (by simp) ?_
     refine xs rfl (fun _ => hsc) ?_
     refine xs rfl (by simp; omega) ?_
     refine xs rfl (by simp; omega) ?_
     refine qc rfl (ι := Nat) (fun k => k ≤ s.app.length) (fun k => ⟨[(8, sV (.int .i64 k)), (7, .one (.b (.l ((q1b us (z00 c s.idx (s.app.take k))).map Bal.cs)))), (6, .one (.a 6 0)), (5, sV (.int .i64 i)), (3, .one (.b (.p c.cs))), (2, .one (.b (.p [.l (qj st)])))], [(6, .var (s.cs.map .b))]⟩) (fun k => s.app.length - k) 0 (Nat.zero_le _) ?_ ?_
     · exact ⟨⟨rfl, ⟨rfl, by simp, by simp [q1b, z00]⟩, ⟨rfl, rfl, rfl⟩, rfl, rfl, rfl, trivial⟩, ⟨⟨rfl, rfl, rfl, rfl, rfl, rfl, trivial⟩, trivial⟩, rfl⟩
     · intro k hk Jk hJk
       refine xb rfl (fun hh => ?_) (fun hh => ?_)
       · have hh : k < s.app.length := by simpa using hh
         obtain ⟨a, ha⟩ := gx hh
         have hga := gm (fun n => [i64 n]) ha
         obtain ⟨x, hx⟩ := q6m hc hs (List.mem_of_getElem? ha)
         have hF := q0h c a ho.1.1
         obtain ⟨q, hq0, hqx⟩ := q0x hx
         rw [hq0] at hF
         have hgk := gm Con.cs hqx
         have hL := PC.yaw (z0z x s.idx (by have := (y0w (z0w hc (z1p hx).1).1).2; omega))
         have hst : q1b us (z00 c s.idx (s.app.take (k + 1))) = q1b (q1b us (z00 c s.idx (s.app.take k))) (zf x s.idx) := by rw [z3i ha hx, z4z]
         have hA : PC Tryz.prog 40 [.one (.l ((q1b us (z00 c s.idx (s.app.take k))).map Bal.cs)), .one (.l ((zf x s.idx).map Leg.cs))] (.one (.bor false [.l ((q1b us (z00 c s.idx (s.app.take (k + 1)))).map Bal.cs)])) := by
          have h1 := z1u hc s.idx (s.app.take k)
          have h2 := q2h (z00 c s.idx (s.app.take k)) us
          rw [List.length_take] at h1
          have h3 := (y0w (z0w hc (z1p hx).1).1).2
          have h4 : (zf x s.idx).length ≤ x.legs.length := List.length_filter_le _ _
          have h5 := q2k hc s.idx (s.app.take k)
          have h6 := y2j hc a
          rw [z20 hx] at h6
          rw [hst]
          refine y81 _ _ (by omega) (by omega) (q1r (q55 hub) fun l hl => (h5 l hl).1) (fun l hl => h6.2 l (List.mem_filter.1 hl).1) (fun y z => ?_)
          have h7 := y9w hub y z
          have h8 := y27 (z00 c s.idx (s.app.take k)) y z (fun l hl => (h5 l hl).2)
          rw [z14]
          omega
         refine zb rfl [] (.take 0 [] (.take 1 [] (.take 2 [9, 10, 13, 14, 15] (.take 3 [] (.take 4 [6, 7, 8, 9, 10, 13, 14, 15] (.take 5 [] (.take 6 [] (.take 7 [8, 9, 10, 13, 14, 15] (.take 11 [] (.take 12 [13, 14, 15] (.alt 8 (.take 9 [] (.take 10 [13, 14, 15] (.alt 13 (.alt 14 (.take 15 [] .done) .nil) .nil))) .nil))))))))))) (by kernel_rfl) ?_
         refine xs rfl (Int.natCast_nonneg _) ?_
         refine ya rfl _ hga ?_
         refine xs rfl rfl ?_
         refine z6 rfl (hF) rfl ⟨trivial, trivial, trivial⟩ ?_
         refine xs rfl (Int.natCast_nonneg _) ?_
         refine ya rfl _ hgk ?_
         refine xs rfl rfl ?_
         refine z6 rfl (hL) rfl ⟨⟨trivial, trivial, trivial⟩, trivial, trivial⟩ ?_
         refine z6 rfl (hA) rfl ⟨trivial, trivial, trivial⟩ ?_
         all_goals first
          | exact q9 rfl (hJk _ (k + 1) (by omega) (by omega) ⟨⟨cwi (by omega) (by omega) (by omega), rfl, ⟨rfl, rfl, rfl⟩, rfl, rfl, rfl, trivial⟩, ⟨lcr, trivial⟩, rfl⟩)
          | skip
       · have hh : k = s.app.length := by have : ¬ k < s.app.length := (by simpa using hh); omega
         subst hh
         rw [List.take_length]
         have h1 := z1u hc s.idx s.app
         have h2 := q2h (z00 c s.idx s.app) us
         have hsame := q6c [q1b us (z00 c s.idx s.app)] [s.bals] (by simp) (by simp) (fun z hz => by simp at hz; subst hz; omega) (fun z hz => by simp at hz; subst hz; omega)
         by_cases hok : q1b us (z00 c s.idx s.app) = s.bals
         · rw [decide_eq_true (by rw [hok])] at hsame
           refine xs rfl ⟨rfl, trivial⟩ ?_
           refine xs rfl ⟨rfl, trivial⟩ ?_
           refine z6 rfl (hsame) rfl ⟨⟨rfl, trivial⟩, ⟨rfl, trivial⟩, trivial⟩ ?_
           refine xj (k := 1) rfl ?_
           all_goals first
            | exact q9 rfl (hJ _ (i + 1) ⟨by omega, fun j us' s' hj hu' hs' => by
               rcases Nat.lt_or_ge j i with h9 | h9
               · exact h0 j us' s' h9 hu' hs'
               · have h10 : j = i := by omega
                 subst h10
                 rw [hu] at hu'
                 rw [hs] at hs'
                 cases hu'
                 cases hs'
                 exact hok⟩ (by omega) ⟨⟨cwi (by omega) (by omega) (by omega), rfl, rfl, trivial⟩, trivial, rfl⟩)
            | (exfalso; simp_all; done)
            | skip
         · rw [decide_eq_false (fun e => hok (List.cons.inj e).1)] at hsame
           rw [y0c (fun h => hok (h.2.2.2 i us s hu hs))]
           refine xs rfl ⟨rfl, trivial⟩ ?_
           refine xs rfl ⟨rfl, trivial⟩ ?_
           refine z6 rfl (hsame) rfl ⟨⟨rfl, trivial⟩, ⟨rfl, trivial⟩, trivial⟩ ?_
           refine xj (k := 1) rfl ?_
           refine xr rfl (z7 rfl ⟨⟨rfl, rfl, trivial⟩, z1 rfl⟩)
           all_goals first
            | (exfalso; simp_all; done)
            | skip
   · have h : i = c.shs.length := by have : ¬ i < c.shs.length := (by simpa using h); omega
     rw [q3d ⟨hc, hf, hn, fun j us s hu hs => h0 j us s (by rw [h]; exact (List.getElem?_eq_some_iff.1 hs).1) hu hs⟩]
     refine xr rfl (z7 rfl ⟨⟨rfl, rfl, trivial⟩, z1 rfl⟩)
end Go.Proofs.YtbnbjaedijbnpaaGreat
end
section
namespace Go.Proofs.YtbnbjaedijbnpaaGreat
open Go Go.Sx
set_option maxRecDepth 20000
theorem zx {α : Type} {f : α → List Cell} {P : α → Prop} {N : Nat} {e : Sh} : ∀ {rr : List (List Cell)}, WR N e rr → (∀ row, WT N e row → ∃ x, row = f x ∧ P x) → ∃ us : List α, rr = us.map f ∧ us.length ≤ N ∧ ∀ x ∈ us, P x
 | [], _, _ => ⟨[], rfl, Nat.zero_le _, fun x hx => by cases hx⟩
 | row :: rr, h, hc => by
   obtain ⟨x, hx, hp⟩ := hc row (h.2 row List.mem_cons_self)
   obtain ⟨us, hu, _, hps⟩ := zx (rr := rr) ⟨by have := h.1; simp at this; omega, fun r hr => h.2 r (List.mem_cons_of_mem _ hr)⟩ hc
   refine ⟨x :: us, by rw [hx, hu]; rfl, by have := h.1; rw [hu] at this; simpa using this, fun y hy => ?_⟩
   rcases List.mem_cons.1 hy with rfl | hy
   · exact hp
   · exact hps y hy
theorem q7w {N : Nat} (row : List Cell) (h : WT N q08 row) : ∃ x : Leg, row = x.cs ∧ True := by
 obtain ⟨a0, a1, a2, a3, rfl⟩ := y2u h
 exact ⟨⟨a0, a1, a2, a3⟩, rfl, trivial⟩
theorem z2a {N : Nat} (row : List Cell) (h : WT N q8 row) : ∃ x : Bal, row = x.cs ∧ True := by
 obtain ⟨a0, a1, a2, rfl⟩ := z0j h
 exact ⟨⟨a0, a1, a2⟩, rfl, trivial⟩
theorem z4g {N : Nat} (row : List Cell) (h : WT N zk row) : ∃ x : Mk, row = x.cs ∧ True := by
 obtain ⟨a0, a1, rfl⟩ := y1s h
 exact ⟨⟨a0, a1⟩, rfl, trivial⟩
theorem q4g {N : Nat} (row : List Cell) (h : WT N zo row) : ∃ x : Vt, row = x.cs ∧ True := by
 obtain ⟨a0, a1, rfl⟩ := z1t h
 exact ⟨⟨a0, a1⟩, rfl, trivial⟩
theorem y60 {N : Nat} (row : List Cell) (h : WT N yr row) : ∃ x : Hd, row = x.cs ∧ True := by
 obtain ⟨a0, a1, a2, a3, a4, rfl⟩ := q14 h
 exact ⟨⟨a0, a1, a2, a3, a4⟩, rfl, trivial⟩
theorem y4g {N : Nat} (row : List Cell) (h : WT N qm row) : ∃ x : Msg, row = x.cs ∧ True := by
 obtain ⟨a0, a1, a2, a3, a4, a5, a6, a7, a8, rfl⟩ := y0j h
 exact ⟨⟨a0, a1, a2, a3, a4, a5, a6, a7, a8⟩, rfl, trivial⟩
theorem y5m {N : Nat} (row : List Cell) (h : WT N (.i .i64 .nil) row) : ∃ x : Int, row = [i64 x] ∧ True := by
 obtain ⟨x0, _, rfl, hnil⟩ := h.qv
 obtain rfl := hnil.qp
 exact ⟨x0, rfl, trivial⟩
theorem y1p (row : List Cell) (h : WT 1048576 z8 row) : ∃ x : Con, row = x.cs ∧ x.legs.length ≤ 1048576 := by
 obtain ⟨a, b, rfl, h1⟩ := y0d h
 obtain ⟨us, rfl, hl, _⟩ := zx h1 q7w
 exact ⟨⟨a, us⟩, rfl, hl⟩
theorem q60 (row : List Cell) (h : WT 1048576 yg row) : ∃ x : Shd, row = x.cs ∧ qaq x := by
 obtain ⟨a, b, c, d, e, f, rfl, h1, h2, h3, h4, h5⟩ := z15 h
 obtain ⟨u1, rfl, l1, _⟩ := zx h1 z2a
 obtain ⟨u2, rfl, l2, _⟩ := zx h2 z4g
 obtain ⟨u3, rfl, l3, p3⟩ := zx h3 y1p
 obtain ⟨u4, rfl, l4, _⟩ := zx h4 z4g
 obtain ⟨u5, rfl, l5, _⟩ := zx h5 y5m
 exact ⟨⟨a, u1, u2, u3, u4, u5⟩, rfl, l1, l2, l3, l4, l5, p3⟩
theorem z6r (row : List Cell) (h : WT 1048576 yn row) : ∃ x : Slt, row = x.cs ∧ x.cast.length ≤ 1048576 := by
 obtain ⟨a, b, c, d, e, f, rfl, h1⟩ := q1s h
 obtain ⟨u1, rfl, l1, _⟩ := zx h1 q4g
 exact ⟨⟨a, b, c, d, e, u1⟩, rfl, l1⟩
theorem y3t (row : List Cell) (h : WT 1048576 qb row) : ∃ x : Acc, row = x.cs ∧ z6i x := by
 obtain ⟨a, rfl, h1⟩ := z0d h
 obtain ⟨u1, rfl, l1, p1⟩ := zx h1 z6r
 exact ⟨⟨u1⟩, rfl, l1, p1⟩
theorem z7x (row : List Cell) (h : WT 1048576 zq row) : ∃ x : Tr, row = x.cs ∧ y9q x := by
 obtain ⟨a, b, c, d, e, f, rfl, h1, h2⟩ := q2u h
 obtain ⟨u1, rfl, l1, _⟩ := zx h1 y5m
 obtain ⟨u2, rfl, l2, _⟩ := zx h2 q4g
 exact ⟨⟨a, b, c, d, u1, u2⟩, rfl, l1, l2⟩
theorem q52 (row : List Cell) (h : WT 1048576 zg row) : ∃ x : Ldr, row = x.cs ∧ z8t x := by
 obtain ⟨a, b, c, rfl, h1, h2⟩ := z0u h
 obtain ⟨u1, rfl, l1, p1⟩ := zx h1 z7x
 obtain ⟨u2, rfl, l2, _⟩ := zx h2 y60
 exact ⟨⟨a, u1, u2⟩, rfl, l1, l2, p1⟩
theorem q4f (row : List Cell) (h : WT 1048576 qq row) : ∃ x : Clu, row = x.cs ∧ y00 x := by
 obtain ⟨a, b, c, d, e, rfl, h1, h2, h3, h4, h5⟩ := z0y h
 obtain ⟨u1, rfl, l1, p1⟩ := zx h1 y1p
 obtain ⟨u2, rfl, l2, p2⟩ := zx h2 q60
 obtain ⟨u3, rfl, l3, p3⟩ := zx h3 y3t
 obtain ⟨u4, rfl, l4, p4⟩ := zx h4 q52
 obtain ⟨u5, rfl, l5, _⟩ := zx h5 y4g
 exact ⟨⟨u1, u2, u3, u4, u5⟩, rfl, ⟨l1, p1⟩, ⟨l2, p2⟩, ⟨l3, p3⟩, ⟨l4, p4⟩, l5⟩
theorem z3t {f : List Cell → Nat} {row : List Cell} : ∀ {rows : List (List Cell)}, row ∈ rows → f row ≤ z08 f rows
 | r :: rows, h => by
   rw [z08]
   rcases List.mem_cons.1 h with rfl | h
   · omega
   · have := z3t (f := f) h; omega
theorem y8q {N M : Nat} {e : Sh} {cs : List Cell} (hw : WT N e cs) : tot e cs ≤ M → WT M e cs := by
 induction hw with
 | nil => exact fun _ => .nil
 | i n _ ih => exact fun h => .i n (ih h)
 | b x _ ih => exact fun h => .b x (ih h)
 | @l e' r' cs' rows h1 h2 h3 ih1 ih2 =>
   intro h
   simp only [tot] at h
   exact .l rows (by omega) (fun row hr => ih1 row hr (by have := z3t (f := tot e') hr; omega)) (ih2 (by omega))
end Go.Proofs.YtbnbjaedijbnpaaGreat
end
