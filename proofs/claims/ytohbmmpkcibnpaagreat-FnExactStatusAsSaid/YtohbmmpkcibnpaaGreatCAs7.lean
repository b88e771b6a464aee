/- WHAT IS PROVED: FnExactStatusAs, for every argument of its parameters' types that can be read as data: the call returns true and its arguments read as before. No condition. -/
import Derived.Test.YtohbmmpkcibnpaaGreatCAs6
import Derived.WalkKit
import Derived.OrdersHeld
import Derived.DeepKeys
import Derived.Maps.RangeWalk
import Derived.Maps.OwnOps
import Derived.WideKeyEntry
import Derived.Deep.Slices
import Derived.ChangeArms
import Derived.WideShapes
import Derived.Sort.AssemblyPlain
import Derived.Lib.SlicesCompact
import Derived.Test.YtohbmmpkcibnpaaGreatProg
import Derived.Shelf.SortG.Plain
import Derived.Shelf.SortG.SortNone
import Derived.Shelf.SlicesG.CompactI
import Derived.Lib.OwnBridge
import Derived.RangeFuncGives
import Derived.RangeFuncBox
import Derived.RangeFuncLeaves
import Derived.Shelf.Abstract
import Derived.Maps.AppendAt
import Derived.OwnWalkIn
import Derived.TacticsInMore
import Derived.LoopNIn
import Derived.LoopIn
import Derived.Test.YtohbmmpkcibnpaaGreatRows
import Derived.ProofKit
import Derived.OpenShut
import Derived.ShutString
import Derived.ChangeOld
import Derived.Below
import Derived.SizedLaws
set_option linter.unusedVariables false
set_option linter.unusedSimpArgs false
section
namespace Go.Proofs.YtohbmmpkcibnpaaGreat
open Go Go.Sx
set_option maxRecDepth 20000
set_option maxHeartbeats 4000000
theorem q51 (c : Clu) (ho : q00 c) (hc : qp c = 0) (x : Con) (hx : x ∈ c.cons) : PC Tryz.prog 177 [.one (.p c.cs), .agg x.cs] (rB (settled c x)) := by
 refine PC.begin Tryz.func177 rfl (by kernel_rfl) ?_
 obtain ⟨hcf, hfar⟩ := z07 hc hx
 have hlen := q0o hcf
 have hS := y38 x (by omega)
 have hsl := y1h x.legs x.legs.length
 rw [List.take_length] at hsl
 have hn : (ints (shF x.legs)).length = (shF x.legs).length := by simp
 refine z6 rfl (hS) rfl ⟨tv3, trivial⟩ ?_
 refine zc rfl (ι := Nat) (fun i => i ≤ (shF x.legs).length ∧ ∀ j s, j < i → (shF x.legs)[j]? = some s → (!(q8o c x s)) = false) (fun i => ⟨[(10, sV (.int .i64 i)), (9, sV (.int .i64 (ints (shF x.legs)).length)), (8, .one (.h 900000 (ints (shF x.legs)).length)), (3, .one (.a 3 0)), (0, .one (.b (.p c.cs)))], [(900000, .arr true 1 0 (ints (shF x.legs))), (3, .var (x.cs.map .b))]⟩) (fun i => (shF x.legs).length - i) 0 ⟨Nat.zero_le _, fun j s hj => by omega⟩ ?_ ?_
 · exact ⟨⟨rfl, rfl, ⟨rfl, rfl, rfl⟩, ⟨rfl, rfl, rfl⟩, rfl, trivial⟩, ⟨⟨rfl, .inl rfl, .inl rfl⟩, lcr, trivial⟩, rfl⟩
 · intro i ⟨hi, h0⟩ J hJ
   refine xb rfl ?_ ?_ <;> intro h
   · have h : i < (shF x.legs).length := by simpa using h
     obtain ⟨s, hs⟩ := gx h
     have hg := gm (fun n => [i64 n]) hs
     obtain ⟨hs0, hs1⟩ := z91 hfar (List.mem_of_getElem? hs)
     obtain ⟨sh, hsh⟩ := gx (xs := c.shs) (i := s.toNat) (by omega)
     have hgs := gm Shd.cs hsh
     have hm := q05 sh.done x.id ((ho.2.1.2 sh (List.mem_of_getElem? hsh)).2.2.2.1)
     rw [y13 (z53 (q3w hc hsh).1).2] at hm
     have hset : q8o c x s = !(z0a sh.done x.id == 0) := by unfold q8o; rw [hsh]
     refine xs rfl rfl (xs rfl (by simp) (q8 rfl _ hg (xs rfl rfl (xs rfl rfl (q8 rfl _ hg (zb rfl [] (Tk [0, 1, 2] (.take 3 [5, 6, 7, 10, 11] (Tk [4, 5, 6] (.take 7 [10, 11] (.take 8 [] (.take 9 [10, 11] (.alt 10 (.take 11 [] .done) .nil))))))) (by kernel_rfl) (xs rfl (hs0) (q8 rfl _ hgs (xs rfl rfl ?_)))))))))
     refine z6 rfl (hm) rfl tv3 ?_
     refine xb rfl ?_ ?_ <;> intro b0
     refine xv rfl rfl rfl ?_; rotate_left
     rotate_left
     · exact vb (q3q hs (by rw [hset, b0]; rfl)).symm
     · exact za rfl (hJ _ (i + 1) ⟨by omega, yf hs h0 (by rw [hset, b0]; rfl)⟩ (by omega) ⟨⟨cwi (by omega) (by omega) (by omega), rfl, ⟨rfl, rfl, rfl⟩, ⟨rfl, rfl, rfl⟩, rfl, trivial⟩, ⟨⟨rfl, .inl rfl, .inl rfl⟩, lcr, trivial⟩, rfl⟩)
   · have h : i = (shF x.legs).length := by have : ¬ i < (shF x.legs).length := (by simpa using h); omega
     subst h
     refine xv rfl rfl rfl ?_
     exact vb (z37 h0).symm
theorem z5p (c : Clu) (ho : q00 c) (hc : qp c = 0) (id : Int) : PC Tryz.prog 83 [.one (.p c.cs), .one (i64 id)] (rB (q0r c id)) := by
 refine PC.begin Tryz.func83 rfl (by kernel_rfl) ?_
 have hF := y0g c id ho.1.1
 cases hq : z03 c.cons id with
 | none =>
   rw [q0z hq] at hF
   have e : q0r c id = false := by unfold q0r; rw [hq]
   rw [e]
   refine z6 rfl (hF) rfl tv3 (xj (k := 1) rfl ?_)
   refine xr rfl (zm rfl ⟨⟨rfl, rfl, trivial⟩, z7 rfl⟩)
 | some x =>
   obtain ⟨k, hk0, hk⟩ := y0p hq
   rw [hk0] at hF
   have e : q0r c id = settled c x := by unfold q0r; rw [hq]
   rw [e]
   have hgk := gm Con.cs hk
   obtain ⟨hx, hid⟩ := z1b hq
   obtain ⟨hcf, hfar⟩ := z07 hc hx
   have hlen := q0o hcf
   have hS := y0q x (by omega)
   have hsl := y1h x.legs x.legs.length
   rw [List.take_length] at hsl
   have hn : (ints (shF x.legs)).length = (shF x.legs).length := by simp
   refine z6 rfl (hF) rfl tv3 (xj (k := 1) rfl (xs rfl (nn_ _) (q8 rfl _ hgk (xs rfl rfl (z6 rfl (hS) rfl ⟨tv3, trivial⟩ ?_)))))
   all_goals first
    | (exfalso; simp at b0; omega)
    | skip
   refine zc rfl (ι := Nat) (fun i => i ≤ (shF x.legs).length ∧ ∀ j s, j < i → (shF x.legs)[j]? = some s → (!(q8o c x s)) = false) (fun i => ⟨[(7, sV (.int .i64 i)), (6, .one (.b (.l (ints (shF x.legs))))), (1, sV (.int .i64 id)), (0, .one (.b (.p c.cs)))], []⟩) (fun i => (shF x.legs).length - i) 0 ⟨Nat.zero_le _, fun j s hj => by omega⟩ ?_ ?_
   · exact ⟨⟨rfl, rfl, rfl, rfl, trivial⟩, trivial, rfl⟩
   · intro i ⟨hi, h0⟩ J hJ
     refine xb rfl ?_ ?_ <;> intro h
     · have h : i < (shF x.legs).length := by simpa using h
       obtain ⟨s, hs⟩ := gx h
       have hg := gm (fun n => [i64 n]) hs
       obtain ⟨hs0, hs1⟩ := z91 hfar (List.mem_of_getElem? hs)
       obtain ⟨sh, hsh⟩ := gx (xs := c.shs) (i := s.toNat) (by omega)
       have hgs := gm Shd.cs hsh
       have hm := q0i sh.done id ((ho.2.1.2 sh (List.mem_of_getElem? hsh)).2.2.2.1)
       have hset : q8o c x s = !(z0a sh.done id == 0) := by unfold q8o; rw [hsh, hid]
       refine zb rfl [] (Tk [0, 1, 2] (.take 3 [8, 9, 10, 12, 13] (Tk [4, 5, 6] (.take 7 [8, 9, 10, 12, 13] (Tk [8, 9] (.take 10 [12, 13] (.take 11 [] (.alt 12 (.take 13 [] .done) .nil)))))))) (by kernel_rfl) (xs rfl (nn_ _) (q8 rfl _ hg (xs rfl rfl (xs rfl (hs0) (q8 rfl _ hgs (xs rfl rfl (z6 rfl (hm) rfl tv3 ?_)))))))
       refine xb rfl ?_ ?_ <;> intro b0
       refine xv rfl rfl rfl ?_; rotate_left
       rotate_left
       · exact vb (q3q hs (by rw [hset, b0]; rfl)).symm
       · exact za rfl (hJ _ (i + 1) ⟨by omega, yf hs h0 (by rw [hset, b0]; rfl)⟩ (by omega) ⟨⟨cwi (by omega) (by omega) (by omega), rfl, rfl, rfl, trivial⟩, trivial, rfl⟩)
     · have h : i = (shF x.legs).length := by have : ¬ i < (shF x.legs).length := (by simpa using h); omega
       subst h
       refine xv rfl rfl rfl ?_
       exact vb (z37 h0).symm
theorem yah {c : Clu} (hc : qp c = 0) {x : Con} (hx : x ∈ c.cons) {s : Int} (hs : s ∈ shF x.legs) : ∃ sh, c.shs[s.toNat]? = some sh ∧ 0 ≤ s ∧ s < c.shs.length := by
 obtain ⟨h1, h2⟩ := z07 hc hx
 obtain ⟨l, hl, rfl⟩ := y2e.1 hs
 unfold z8b at h2
 rw [List.any_eq_false] at h2
 have h3 := h2 l hl
 simp [Go.Sx.within] at h3
 have h4 := y8z h1 l hl
 obtain ⟨sh, hsh⟩ := gx (xs := c.shs) (i := l.s.toNat) (by omega)
 exact ⟨sh, hsh, h4, by omega⟩
theorem y61 {c : Clu} (hc : qp c = 0) {x : Con} (hx : x ∈ c.cons) : ∃ s sh, (shF x.legs)[0]? = some s ∧ c.shs[s.toNat]? = some sh ∧ 0 ≤ s ∧ (settled c x = true → z1a c x = z0a sh.done x.id) := by
 have hxf := (z07 hc hx).1
 obtain ⟨_, _, h2, _⟩ := y2s (q0o hxf).1
 obtain ⟨s, hs⟩ := gx h2
 obtain ⟨sh, hsh, h0, _⟩ := yah hc hx (List.mem_of_getElem? hs)
 refine ⟨s, sh, hs, hsh, h0, fun e => ?_⟩
 unfold z1a
 rw [e, if_pos rfl, hs]
 dsimp only
 unfold z90
 rw [hsh]
theorem z81 {c : Clu} {x : Con} (h : settled c x = false) : z1a c x = 0 := by unfold z1a; rw [h]; rfl
theorem y4x (c : Clu) (ho : q00 c) (hc : qp c = 0) (x : Con) (hx : x ∈ c.cons) : PC Tryz.prog 90 [.one (.p c.cs), .agg x.cs] (rI (z1a c x)) := by
 refine PC.begin Tryz.func90 rfl (by kernel_rfl) ?_
 have hS := q51 c ho hc x hx
 have hxf := (z07 hc hx).1
 have hx2 := q0o hxf
 have hSh := y38 x (by omega)
 obtain ⟨s, sh, hs, hsh, h0, hw⟩ := y61 hc hx
 have hgs : (ints (shF x.legs))[(0 : Int).toNat]? = some [i64 s] := by simp [ints, hs]
 have hgsh := gm Shd.cs hsh
 have hf := (z7t (q3w hc hsh).1).2.2.2.1
 have hM := q05 sh.done x.id (by omega)
 have hmk := (z53 (q3w hc hsh).1).2
 cases hst : settled c x with
 | false =>
   rw [hst] at hS
   rw [z81 hst]
   refine z6 rfl (hS) rfl ⟨trivial, tv3, trivial⟩ (xj (k := 1) rfl ?_)
   refine xr rfl (zm rfl ⟨⟨rfl, rfl, trivial⟩, z7 rfl⟩)
 | true =>
   rw [hst] at hS
   rw [hw hst, ← y13 hmk]
   refine z6 rfl (hS) rfl ⟨trivial, tv3, trivial⟩ (xj (k := 1) rfl (zb rfl [] (Tk [0, 1, 2] (.take 3 [8, 9, 10, 13, 14] (.take 4 (Rg 5 6 ++ Rg 13 2) (.take 11 [] (.take 12 [13, 14] (.alt 5 (.take 6 [] (.take 7 [8, 9, 10, 13, 14] (Tk [8, 9] (.take 10 [13, 14] (.alt 13 (.take 14 [] .done) .nil))))) .nil)))))) (by kernel_rfl) (z6 rfl (hSh) rfl ⟨tv3, trivial⟩ (xs rfl rfl (xs rfl (nn_ _) (q8 rfl _ hgs (xs rfl rfl (xs rfl rfl (q8 rfl _ hgs ?_)))))))))
   refine xs rfl (h0) (q8 rfl _ hgsh (xs rfl rfl (z6 rfl (q05 _ _ (by omega)) rfl tv3 ?_)))
   refine xr rfl (zm rfl ⟨⟨rfl, rfl, trivial⟩, z7 rfl⟩)
abbrev zb8 (a : Int × Int × List Leg) : Res := .one (.own true [.s (.int .i64 a.1), .s (.int .i64 a.2.1), .l 4 (a.2.2.map Leg.cs)])
theorem q9f (ss : List Ses) (c : Clu) (hl : ss.length ≤ 1048576) (hs : ∀ x ∈ ss, x.sent.length ≤ 1048576) (ho : q00 c) (cl n : Int) : PC Tryz.prog 20 [.one (.l (ss.map Ses.cs)), .agg c.cs, .one (i64 cl), .one (i64 n)] (zb8 (answer ss c cl n)) := by
 refine PC.begin Tryz.func20 rfl (by kernel_rfl) ?_
 refine yaj (n := 0) rfl (ι := Unit) (fun _ => True) (fun _ => ⟨[(8, .one (.a 8 0)), (5, .one (.b (.p c.cs))), (0, .one (.b (.l (ss.map Ses.cs)))), (2, sV (.int .i64 cl)), (3, sV (.int .i64 n))], [(8, .var [.b (i64 0), .b (i64 0), .nil])]⟩) ?_ ?_
 · intro K hK
   exact za rfl (hK _ () trivial ⟨⟨⟨rfl, rfl, rfl⟩, ⟨rfl, rfl, rfl⟩, rfl, rfl, rfl, trivial⟩, ⟨⟨rfl, rfl, trivial, trivial⟩, trivial⟩, rfl⟩)
 intro _ _
 have hF := z9h ss hl hs
 have hC := z9g c ho
 by_cases h1 : y06 ss = 0
 case neg =>
  have e : answer ss c cl n = (y06 ss, 0, []) := by unfold answer; rw [if_pos h1]
  rw [e]
  refine zb rfl [] (.take 0 [] (.take 2 (Rg 3 4) (.alt 1 (.alt 3 (.alt 4 (.alt 5 (.take 6 [] .done) .nil) .nil) .nil) .nil))) (by kernel_rfl) (z6 rfl (hF) rfl ⟨trivial, trivial⟩ (z6 rfl (hC) rfl ⟨tv6, trivial⟩ (xs rfl tv3 (z6 rfl (q03 [_, _] (by simp)) rfl ⟨rfl, trivial⟩ ?_))))
  refine xb rfl ?_ ?_ <;> intro b0
  refine xr rfl (zm rfl ⟨⟨rfl, ?_, rfl, rfl, trivial⟩, z7 rfl⟩); rotate_left
  rotate_left
  all_goals first | (exfalso; simp_all [orr]; done) | (refine vi ?_; simp_all [orr]; done) | skip
 by_cases hc : qp c = 0
 case neg =>
  have e : answer ss c cl n = (qp c, 0, []) := by unfold answer; rw [if_neg (by simpa using h1), if_pos hc]
  rw [e]
  refine zb rfl [] (.take 0 [] (.take 2 (Rg 3 4) (.alt 1 (.alt 3 (.alt 4 (.alt 5 (.take 6 [] .done) .nil) .nil) .nil) .nil))) (by kernel_rfl) (z6 rfl (hF) rfl ⟨trivial, trivial⟩ (z6 rfl (hC) rfl ⟨tv6, trivial⟩ (xs rfl tv3 (z6 rfl (q03 [_, _] (by simp)) rfl ⟨rfl, trivial⟩ ?_))))
  refine xb rfl ?_ ?_ <;> intro b0
  refine xr rfl (zm rfl ⟨⟨rfl, ?_, rfl, rfl, trivial⟩, z7 rfl⟩); rotate_left
  rotate_left
  all_goals first | (exfalso; simp_all [orr]; done) | (refine vi ?_; simp_all [orr]; done) | skip
 have e : answer ss c cl n = match ss.find? fun s => s.cl == cl with
  | none => (4, 0, [])
  | some s => if 1 ≤ n ∧ n ≤ s.nx - 1 then (match z03 c.cons (1000 * cl + n) with | none => (4, 0, []) | some x => (0, z1a c x, x.legs)) else (4, 0, []) := by unfold answer; rw [if_neg (by simpa using h1), if_neg (by simpa using hc)]; rfl
 have hA := y51 ss cl hl
 obtain ⟨_, hok, hch⟩ := z94 h1
 cases hq : ss.find? fun s => s.cl == cl with
 | none =>
   rw [show answer ss c cl n = (4, 0, []) by rw [e, hq]]
   have hB : bsF (fun x : Ses => y0c x.cl cl) ss = false := q3v fun i x hi h0 => by
    have := List.find?_eq_none.1 hq x (List.mem_of_getElem? hi)
    exact this (by simpa using z2a.1 h0)
   refine zb rfl [] (.take 0 [] (.take 2 (Rg 3 4) (.alt 1 (.alt 3 (.alt 4 (.alt 5 (.take 6 [] .done) .nil) .nil) .nil) .nil))) (by kernel_rfl) (z6 rfl (hF) rfl ⟨trivial, trivial⟩ (z6 rfl (hC) rfl ⟨tv6, trivial⟩ (xs rfl tv3 (z6 rfl (q03 [_, _] (by simp)) rfl ⟨rfl, trivial⟩ ?_))))
   refine xb rfl ?_ ?_ <;> intro b0
   refine xr rfl (zm rfl ⟨⟨rfl, ?_, rfl, rfl, trivial⟩, z7 rfl⟩); rotate_left
   refine z6 rfl (hA) rfl tv3 ?_
   refine xb rfl ?_ ?_ <;> intro b1
   refine xj (k := 9) rfl ?_
   refine xr rfl (zm rfl ⟨⟨rfl, rfl, rfl, rfl, trivial⟩, z7 rfl⟩)
   exact absurd b1 (by simp; omega)
   all_goals first | (exfalso; simp_all [orr]; done) | skip
 | some s =>
   have e2 : answer ss c cl n = (if 1 ≤ n ∧ n ≤ s.nx - 1 then (match z03 c.cons (1000 * cl + n) with | none => (4, 0, []) | some x => (0, z1a c x, x.legs)) else (4, 0, []) : Int × Int × List Leg) := by rw [e, hq]
   obtain ⟨hsm, hcl⟩ := z68 hq
   obtain ⟨i, hi⟩ := List.mem_iff_getElem?.1 hsm
   obtain ⟨b1, b2⟩ := q2p (z18 (key := Ses.cl) hch cl) hi (z2a.2 hcl)
   have hg : (ss.map Ses.cs)[((bsP (fun x : Ses => y0c x.cl cl) ss : Nat) : Int).toNat]? = some s.cs := gm Ses.cs (by rw [b1]; exact hi)
   obtain ⟨hs1, hs2, hs3⟩ := hok s hsm
   unfold z1o at hs3
   simp only [Bool.and_eq_true, beq_iff_eq] at hs3
   have hI := y7c s.sent n (ints s.sent) rfl (hs s hsm)
   have hmem := z7s hs3.1 n
   by_cases hn : 1 ≤ n ∧ n ≤ s.nx - 1
   · rw [if_pos hn] at e2
     have hin : (s.sent.any fun y => y == n) = true := by simpa using hmem.2 ⟨hn.1, by omega⟩
     have hid := y7d cl n (by omega) (by omega)
     cases hx : z03 c.cons (1000 * cl + n) with
     | none =>
       rw [show answer ss c cl n = (4, 0, []) by rw [e2, hx]]
       refine zb rfl [] (.take 0 [] (.take 2 (Rg 3 4) (.alt 1 (.alt 3 (.alt 4 (.alt 5 (.take 6 [] .done) .nil) .nil) .nil) .nil))) (by kernel_rfl) (z6 rfl (hF) rfl ⟨trivial, trivial⟩ (z6 rfl (hC) rfl ⟨tv6, trivial⟩ (xs rfl tv3 (z6 rfl (q03 [_, _] (by simp)) rfl ⟨rfl, trivial⟩ ?_))))
       refine xb rfl ?_ ?_ <;> intro b0
       refine xr rfl (zm rfl ⟨⟨rfl, ?_, rfl, rfl, trivial⟩, z7 rfl⟩); rotate_left
       refine z6 rfl (hA) rfl tv3 ?_
       refine xb rfl ?_ ?_ <;> intro b1
       exact absurd b1 (by simp; omega)
       refine xj (k := 2) rfl (xs rfl (nn_ _) (q8 rfl _ hg (xs rfl rfl (xj (k := 4) rfl (z6 rfl (hI) rfl tv3 (xj (k := 2) rfl ?_))))))
       refine xb rfl ?_ ?_ <;> intro b2
       exact absurd b2 (by simp [*])
       refine z6 rfl (hid) rfl tv3 (z6 rfl (y0v c ho _ hx) rfl tv3 (xj (k := 1) rfl ?_))
       refine xr rfl (zm rfl ⟨⟨rfl, rfl, rfl, rfl, trivial⟩, z7 rfl⟩)
       all_goals first | (exfalso; simp_all [orr]; done) | skip
     | some x =>
       rw [show answer ss c cl n = (0, z1a c x, x.legs) by rw [e2, hx]]
       obtain ⟨hxm, hxi⟩ := z1b hx
       have hO := y4x c ho hc x hxm
       have hx2 := q0o (z07 hc hxm).1
       have hCl := y5c x.legs (by omega)
       refine zb rfl [] (.take 0 [] (.take 2 (Rg 3 4) (.alt 1 (.alt 3 (.alt 4 (.alt 5 (.take 6 [] .done) .nil) .nil) .nil) .nil))) (by kernel_rfl) (z6 rfl (hF) rfl ⟨trivial, trivial⟩ (z6 rfl (hC) rfl ⟨tv6, trivial⟩ (xs rfl tv3 (z6 rfl (q03 [_, _] (by simp)) rfl ⟨rfl, trivial⟩ ?_))))
       refine xb rfl ?_ ?_ <;> intro b0
       refine xr rfl (zm rfl ⟨⟨rfl, ?_, ?_, ?_, trivial⟩, z7 rfl⟩); rotate_left
       rotate_left
       rotate_left
       refine z6 rfl (hA) rfl tv3 ?_
       refine xb rfl ?_ ?_ <;> intro b1
       exact absurd b1 (by simp; omega)
       refine xj (k := 2) rfl (xs rfl (nn_ _) (q8 rfl _ hg (xs rfl rfl (xj (k := 4) rfl (z6 rfl (hI) rfl tv3 (xj (k := 2) rfl ?_))))))
       refine xb rfl ?_ ?_ <;> intro b2
       exact absurd b2 (by simp [*])
       refine z6 rfl (hid) rfl tv3 (z6 rfl (q0v c ho _ x hx) rfl tv3 (xj (k := 1) rfl (zb rfl [] (.take 0 [1, 4, 5, 6] (.take 2 [] (.take 3 (Rg 4 3) (.alt 1 (.alt 4 (.take 5 [] (.alt 6 .done .nil)) .nil) .nil)))) (by kernel_rfl) (z6 rfl (hO) rfl ⟨trivial, tv3, trivial⟩ (z6 rfl (hCl) rfl ⟨trivial, trivial⟩ ?_)))))
       refine xr rfl (zm rfl ⟨⟨rfl, rfl, rfl, ⟨rfl, rfl, .inl rfl⟩, trivial⟩, z7 rfl⟩)
       all_goals first | (exfalso; simp_all [orr]; done) | skip
   · rw [if_neg hn] at e2
     rw [e2]
     have hin : (s.sent.any fun y => y == n) = false := by
      rw [List.any_eq_false]
      intro y hy e
      have e : y = n := by simpa using e
      subst e
      have := hmem.1 hy
      exact hn (by omega)
     refine zb rfl [] (.take 0 [] (.take 2 (Rg 3 4) (.alt 1 (.alt 3 (.alt 4 (.alt 5 (.take 6 [] .done) .nil) .nil) .nil) .nil))) (by kernel_rfl) (z6 rfl (hF) rfl ⟨trivial, trivial⟩ (z6 rfl (hC) rfl ⟨tv6, trivial⟩ (xs rfl tv3 (z6 rfl (q03 [_, _] (by simp)) rfl ⟨rfl, trivial⟩ ?_))))
     refine xb rfl ?_ ?_ <;> intro b0
     refine xr rfl (zm rfl ⟨⟨rfl, ?_, rfl, rfl, trivial⟩, z7 rfl⟩); rotate_left
     refine z6 rfl (hA) rfl tv3 ?_
     refine xb rfl ?_ ?_ <;> intro b1
     exact absurd b1 (by simp; omega)
     refine xj (k := 2) rfl (xs rfl (nn_ _) (q8 rfl _ hg (xs rfl rfl (xj (k := 4) rfl (z6 rfl (hI) rfl tv3 (xj (k := 2) rfl ?_))))))
     refine xb rfl ?_ ?_ <;> intro b2
     refine xr rfl (zm rfl ⟨⟨rfl, rfl, rfl, rfl, trivial⟩, z7 rfl⟩)
     exact absurd b2 (by simp [*])
     all_goals first | (exfalso; simp_all [orr]; done) | skip
theorem q5o (ss : List Ses) (cl : Int) (hl : ss.length ≤ 1048576) : PC Tryz.prog 80 [.one (.l (ss.map Ses.cs)), .one (i64 cl)] (rI (q1a (fun s : Ses => s.cl == cl) ss)) := by
 refine PC.begin Tryz.func80 rfl (by kernel_rfl) ?_
 refine zc rfl (ι := Nat) (fun i => i ≤ ss.length ∧ ∀ j y, j < i → ss[j]? = some y → (y.cl == cl) = false) (fun i => ⟨[(5, sV (.int .i64 i)), (0, .one (.b (.l (ss.map Ses.cs)))), (1, sV (.int .i64 cl))], []⟩) (fun i => ss.length - i) 0 ⟨Nat.zero_le _, fun j y hj => by omega⟩ ?_ ?_
 · exact ⟨⟨rfl, rfl, rfl, trivial⟩, trivial, rfl⟩
 · intro i ⟨hi, h0⟩ J hJ
   refine xb rfl ?_ ?_ <;> intro h
   · have h : i < ss.length := by simpa using h
     obtain ⟨x, hx⟩ := gx h
     have hg := gm Ses.cs hx
     refine xs rfl (nn_ _) (q8 rfl _ hg (xs rfl rfl ?_))
     refine xb rfl ?_ ?_ <;> intro b0
     refine xv rfl rfl rfl ?_; rotate_left
     rotate_left
     · exact vi (z04 hx h0 b0).symm
     · exact za rfl (hJ _ (i + 1) ⟨by omega, yf hx h0 b0⟩ (by omega) ⟨⟨cwi (by omega) (by omega) (by omega), rfl, rfl, trivial⟩, trivial, rfl⟩)
   · have h : ¬ i < ss.length := by simpa using h
     refine xv rfl rfl rfl ?_
     exact vi (zy (zj (by omega) h0)).symm
abbrev zag (a : Int × Int × List Leg) : Res := .one (.bor true [.s (.int .i64 a.1), .s (.int .i64 a.2.1), .l (a.2.2.map Leg.cs)])
theorem y9t (ss : List Ses) (c : Clu) (hl : ss.length ≤ 1048576) (hs : ∀ x ∈ ss, x.sent.length ≤ 1048576) (ho : q00 c) (cl n : Int) : PC Tryz.prog 18 [.one (.l (ss.map Ses.cs)), .agg c.cs, .one (i64 cl), .one (i64 n)] (zag (answer ss c cl n)) := by
 refine PC.begin Tryz.func18 rfl (by kernel_rfl) ?_
 refine yaj (n := 0) rfl (ι := Unit) (fun _ => True) (fun _ => ⟨[(8, .one (.a 8 0)), (5, .one (.b (.p c.cs))), (0, .one (.b (.l (ss.map Ses.cs)))), (2, sV (.int .i64 cl)), (3, sV (.int .i64 n))], [(8, .var [.b (i64 0), .b (i64 0), .nil])]⟩) ?_ ?_
 · intro K hK
   exact za rfl (hK _ () trivial ⟨⟨⟨rfl, rfl, rfl⟩, ⟨rfl, rfl, rfl⟩, rfl, rfl, rfl, trivial⟩, ⟨⟨rfl, rfl, trivial, trivial⟩, trivial⟩, rfl⟩)
 intro _ _
 have hF := z9v ss hl hs
 have hC := z9u c ho
 by_cases h1 : y06 ss = 0
 case neg =>
  have e : answer ss c cl n = (y06 ss, 0, []) := by unfold answer; rw [if_pos h1]
  rw [e]
  refine z6 rfl (hF) rfl ⟨trivial, trivial⟩ ?_
  refine xb rfl ?_ ?_ <;> intro b0
  refine xr rfl (zm rfl ⟨⟨rfl, rfl, rfl, rfl, trivial⟩, z7 rfl⟩)
  exact absurd b0 (by simp; omega)
  all_goals first | (exfalso; simp_all; done) | skip
 by_cases hc : qp c = 0
 case neg =>
  have e : answer ss c cl n = (qp c, 0, []) := by unfold answer; rw [if_neg (by simpa using h1), if_pos hc]
  rw [e]
  refine z6 rfl (hF) rfl ⟨trivial, trivial⟩ ?_
  refine xb rfl ?_ ?_ <;> intro b0
  exact absurd b0 (by simp; omega)
  refine z6 rfl (hC) rfl ⟨tv6, trivial⟩ ?_
  refine xb rfl ?_ ?_ <;> intro b1
  refine xr rfl (zm rfl ⟨⟨rfl, rfl, rfl, rfl, trivial⟩, z7 rfl⟩)
  exact absurd b1 (by simp; omega)
  all_goals first | (exfalso; simp_all; done) | skip
 have e : answer ss c cl n = match ss.find? fun s => s.cl == cl with
  | none => (4, 0, [])
  | some s => if 1 ≤ n ∧ n ≤ s.nx - 1 then (match z03 c.cons (1000 * cl + n) with | none => (4, 0, []) | some x => (0, z1a c x, x.legs)) else (4, 0, []) := by unfold answer; rw [if_neg (by simpa using h1), if_neg (by simpa using hc)]; rfl
 have hA := q5o ss cl hl
 obtain ⟨_, hok, hch⟩ := z94 h1
 cases hq : ss.find? fun s => s.cl == cl with
 | none =>
   rw [show answer ss c cl n = (4, 0, []) by rw [e, hq]]
   rw [q0z hq] at hA
   refine z6 rfl (hF) rfl ⟨trivial, trivial⟩ ?_
   refine xb rfl ?_ ?_ <;> intro b0
   exact absurd b0 (by simp; omega)
   refine z6 rfl (hC) rfl ⟨tv6, trivial⟩ ?_
   refine xb rfl ?_ ?_ <;> intro b1
   exact absurd b1 (by simp; omega)
   refine z6 rfl (hA) rfl tv3 (xj (k := 11) rfl ?_)
   refine xr rfl (zm rfl ⟨⟨rfl, rfl, rfl, rfl, trivial⟩, z7 rfl⟩)
   all_goals first | (exfalso; simp_all; done) | skip
 | some s =>
   have e2 : answer ss c cl n = (if 1 ≤ n ∧ n ≤ s.nx - 1 then (match z03 c.cons (1000 * cl + n) with | none => (4, 0, []) | some x => (0, z1a c x, x.legs)) else (4, 0, []) : Int × Int × List Leg) := by rw [e, hq]
   obtain ⟨hsm, hcl⟩ := z68 hq
   obtain ⟨i, hi0, hi⟩ := y0p hq
   rw [hi0] at hA
   have hg := gm Ses.cs hi
   obtain ⟨hs1, hs2, hs3⟩ := hok s hsm
   have hwn : IntKind.i64.wrap (s.nx - 1) = s.nx - 1 := wrap_i64 (by omega) (by omega)
   by_cases hn : 1 ≤ n ∧ n ≤ s.nx - 1
   · rw [if_pos hn] at e2
     have hwi : IntKind.i64.wrap (IntKind.i64.wrap (1000 * cl) + n) = 1000 * cl + n := by rw [wrap_i64 (n := 1000 * cl) (by omega) (by omega), wrap_i64 (by omega) (by omega)]
     have hfd := y0g c (1000 * cl + n) ho.1.1
     have hin : within n 1 (IntKind.i64.wrap (s.nx - 1)) = true := by rw [hwn]; simp [within]; omega
     rw [← hwi] at hfd
     cases hx : z03 c.cons (1000 * cl + n) with
     | none =>
       rw [show answer ss c cl n = (4, 0, []) by rw [e2, hx]]
       rw [hwi, q0z hx, ← hwi] at hfd
       refine z6 rfl (hF) rfl ⟨trivial, trivial⟩ ?_
       refine xb rfl ?_ ?_ <;> intro b0
       exact absurd b0 (by simp; omega)
       refine z6 rfl (hC) rfl ⟨tv6, trivial⟩ ?_
       refine xb rfl ?_ ?_ <;> intro b1
       exact absurd b1 (by simp; omega)
       refine z6 rfl (hA) rfl tv3 (xj (k := 4) rfl (xs rfl (nn_ _) (q8 rfl _ hg (xs rfl rfl (xj (k := 4) rfl (z6 rfl (zh _ _ _) rfl tv4 (xj (k := 2) rfl ?_)))))))
       refine xb rfl ?_ ?_ <;> intro b2
       exact absurd b2 (by simp; omega)
       refine z6 rfl (hfd) rfl tv3 (xj (k := 1) rfl ?_)
       refine xr rfl (zm rfl ⟨⟨rfl, rfl, rfl, rfl, trivial⟩, z7 rfl⟩)
       all_goals first | (exfalso; simp_all; done) | (exfalso; simp at b0; omega) | (exfalso; simp at b1; omega) | (exfalso; simp at b2; omega) | (exfalso; simp at b3; omega) | skip
     | some x =>
       rw [show answer ss c cl n = (0, z1a c x, x.legs) by rw [e2, hx]]
       obtain ⟨k, hk0, hk⟩ := y0p hx
       rw [hwi, hk0, ← hwi] at hfd
       have hgk := gm Con.cs hk
       obtain ⟨hxm, hxi⟩ := z1b hx
       have hxf := (z07 hc hxm).1
       have hx2 := q0o hxf
       have hCp := PC.q9y (q3e x (by omega))
       have hSt := z5p c ho hc x.id
       have hsid : q0r c x.id = settled c x := by unfold q0r; rw [y88 hc hxm]
       rw [hsid] at hSt
       have hSh := y0q x (by omega)
       obtain ⟨s1, sh, hss, hsh, h0, hw⟩ := y61 hc hxm
       have hgs : (ints (shF x.legs))[(0 : Int).toNat]? = some [i64 s1] := by simp [ints, hss]
       have hgsh := gm Shd.cs hsh
       have hf := (z7t (q3w hc hsh).1).2.2.2.1
       have hM := q0i sh.done x.id (by omega)
       cases hst : settled c x with
       | false =>
         rw [hst] at hSt
         rw [z81 hst]
         refine z6 rfl (hF) rfl ⟨trivial, trivial⟩ ?_
         refine xb rfl ?_ ?_ <;> intro b0
         exact absurd b0 (by simp; omega)
         refine z6 rfl (hC) rfl ⟨tv6, trivial⟩ ?_
         refine xb rfl ?_ ?_ <;> intro b1
         exact absurd b1 (by simp; omega)
         refine z6 rfl (hA) rfl tv3 (xj (k := 4) rfl (xs rfl (nn_ _) (q8 rfl _ hg (xs rfl rfl (xj (k := 4) rfl (z6 rfl (zh _ _ _) rfl tv4 (xj (k := 2) rfl ?_)))))))
         refine xb rfl ?_ ?_ <;> intro b2
         exact absurd b2 (by simp; omega)
         refine z6 rfl (hfd) rfl tv3 (xj (k := 1) rfl (xs rfl (nn_ _) (q8 rfl _ hgk (xs rfl rfl (z6 rfl (hCp) rfl ⟨tv3, trivial⟩ (z6 rfl (hSt) rfl tv3 (xj (k := 1) rfl ?_)))))))
         refine xr rfl (zm rfl ⟨⟨rfl, rfl, rfl, rfl, trivial⟩, z7 rfl⟩)
         all_goals first | (exfalso; simp_all; done) | (exfalso; simp at b0; omega) | (exfalso; simp at b1; omega) | (exfalso; simp at b2; omega) | (exfalso; simp at b3; omega) | skip
       | true =>
         rw [hst] at hSt
         rw [hw hst]
         refine z6 rfl (hF) rfl ⟨trivial, trivial⟩ ?_
         refine xb rfl ?_ ?_ <;> intro b0
         exact absurd b0 (by simp; omega)
         refine z6 rfl (hC) rfl ⟨tv6, trivial⟩ ?_
         refine xb rfl ?_ ?_ <;> intro b1
         exact absurd b1 (by simp; omega)
         refine z6 rfl (hA) rfl tv3 (xj (k := 4) rfl (xs rfl (nn_ _) (q8 rfl _ hg (xs rfl rfl (xj (k := 4) rfl (z6 rfl (zh _ _ _) rfl tv4 (xj (k := 2) rfl ?_)))))))
         refine xb rfl ?_ ?_ <;> intro b2
         exact absurd b2 (by simp; omega)
         refine z6 rfl (hfd) rfl tv3 (xj (k := 1) rfl (xs rfl (nn_ _) (q8 rfl _ hgk (xs rfl rfl (z6 rfl (hCp) rfl ⟨tv3, trivial⟩ (z6 rfl (hSt) rfl tv3 (xj (k := 1) rfl (zb rfl [] (.take 0 [] (.take 1 (Rg 6 3 ++ Rg 11 3) (.take 2 (Rg 3 6 ++ Rg 11 3) (.take 9 [] (.take 10 (Rg 11 3) (.alt 3 (.take 4 [] (.take 5 (Rg 6 3 ++ Rg 11 3) (Tk [6, 7] (.take 8 (Rg 11 3) (.alt 11 (.take 12 [] (.alt 13 .done .nil)) .nil))))) .nil)))))) (by kernel_rfl) (z6 rfl (hSh) rfl ⟨tv3, trivial⟩ ?_)))))))))
         refine xs rfl (nn_ _) (q8 rfl _ hgs (xs rfl rfl (xs rfl (h0) (q8 rfl _ hgsh (xs rfl rfl (z6 rfl (hM) rfl tv3 ?_))))))
         refine xr rfl (zm rfl ⟨⟨rfl, rfl, rfl, rfl, trivial⟩, z7 rfl⟩)
         all_goals first | (exfalso; simp_all; done) | (exfalso; simp at b0; omega) | (exfalso; simp at b1; omega) | (exfalso; simp at b2; omega) | (exfalso; simp at b3; omega) | skip
   · rw [if_neg hn] at e2
     rw [e2]
     have hin : within n 1 (IntKind.i64.wrap (s.nx - 1)) = false := by rw [hwn]; simp [within]; omega
     refine z6 rfl (hF) rfl ⟨trivial, trivial⟩ ?_
     refine xb rfl ?_ ?_ <;> intro b0
     exact absurd b0 (by simp; omega)
     refine z6 rfl (hC) rfl ⟨tv6, trivial⟩ ?_
     refine xb rfl ?_ ?_ <;> intro b1
     exact absurd b1 (by simp; omega)
     refine z6 rfl (hA) rfl tv3 (xj (k := 4) rfl (xs rfl (nn_ _) (q8 rfl _ hg (xs rfl rfl (xj (k := 4) rfl (z6 rfl (zh _ _ _) rfl tv4 (xj (k := 2) rfl ?_)))))))
     refine xb rfl ?_ ?_ <;> intro b2
     refine xr rfl (zm rfl ⟨⟨rfl, rfl, rfl, rfl, trivial⟩, z7 rfl⟩)
     exact absurd b2 (by simp; omega)
     all_goals first | (exfalso; simp_all; done) | (exfalso; simp at b0; omega) | skip
end Go.Proofs.YtohbmmpkcibnpaaGreat
end
section
namespace Go.Proofs.YtohbmmpkcibnpaaGreat
open Go Go.Sx
set_option maxRecDepth 20000
theorem z8a (x0 : Int) (x1 : Int) (x2 : Int) (x3 : Int) (y0 : Int) (y1 : Int) (y2 : Int) (y3 : Int)   : PC Tryz.prog 178 [.agg [.s (.int .i64 x0), .s (.int .i64 x1), .s (.int .i64 x2), .s (.int .i64 x3)], .agg [.s (.int .i64 y0), .s (.int .i64 y1), .s (.int .i64 y2), .s (.int .i64 y3)]] (rB (dE (α := List Cell) [.s (.int .i64 x0), .s (.int .i64 x1), .s (.int .i64 x2), .s (.int .i64 x3)] [.s (.int .i64 y0), .s (.int .i64 y1), .s (.int .i64 y2), .s (.int .i64 y3)])) := by
 refine PC.begin Tryz.func178 rfl (by kernel_rfl) ?_
 refine xb rfl (fun h => ?_) (fun e0 => ?_)
 · exact xv rfl rfl rfl (qi (fun e => by simp only [List.cons.injEq, Cell.s.injEq, Value.int.injEq, Value.bool.injEq, Value.string.injEq] at e; simp [e] at h))
 have e0 : x0 = y0 := by simpa using e0
 refine xb rfl (fun h => ?_) (fun e1 => ?_)
 · exact xv rfl rfl rfl (qi (fun e => by simp only [List.cons.injEq, Cell.s.injEq, Value.int.injEq, Value.bool.injEq, Value.string.injEq] at e; simp [e] at h))
 have e1 : x1 = y1 := by simpa using e1
 refine xb rfl (fun h => ?_) (fun e2 => ?_)
 · exact xv rfl rfl rfl (qi (fun e => by simp only [List.cons.injEq, Cell.s.injEq, Value.int.injEq, Value.bool.injEq, Value.string.injEq] at e; simp [e] at h))
 have e2 : x2 = y2 := by simpa using e2
 refine xb rfl (fun h => ?_) (fun e3 => ?_)
 · exact xv rfl rfl rfl (qi (fun e => by simp only [List.cons.injEq, Cell.s.injEq, Value.int.injEq, Value.bool.injEq, Value.string.injEq] at e; simp [e] at h))
 have e3 : x3 = y3 := by simpa using e3
 exact xv rfl rfl rfl (yu (by simp [e0, e1, e2, e3]))
theorem y4o (p q : List (List Cell)) (hp : WR 9000000000000000000 qn p) (hq : WR 9000000000000000000 qn q) : PC Tryz.prog 92 [.one (.l p), .one (.l q)] (rB (dE p q)) := by
 refine PC.begin Tryz.func92 rfl (by kernel_rfl) ?_
 have hpl := hp.1
 have hql := hq.1
 refine xb rfl ?_ ?_ <;> intro h
 · exact xv rfl rfl rfl (qi (fun e => by subst e; simp at h))
 have hl : p.length = q.length := by simpa [Int.ofNat_inj] using h
 refine zc rfl (ι := Nat) (fun i => i ≤ p.length ∧ p.take i = q.take i) (fun i => ⟨[(5, sV (.int .i64 i)), (0, .one (.b (.l p))), (1, .one (.b (.l q)))], []⟩) (fun i => p.length - i) 0 ⟨Nat.zero_le _, rfl⟩ ?_ ?_
 · repeat' (first | exact trivial | exact rfl | exact Or.inl rfl | refine And.intro ?_ ?_)
 · intro i ⟨hi, he⟩ J hJ
   refine xb rfl ?_ ?_ <;> intro h
   · have h : i < p.length := by simpa using h
     obtain ⟨row, hg⟩ : ∃ row, p[i]? = some row := ⟨_, List.getElem?_eq_getElem h⟩
     obtain ⟨row', hg'⟩ : ∃ row, q[i]? = some row := ⟨_, List.getElem?_eq_getElem (by omega)⟩
     obtain ⟨x0, x1, x2, x3, rfl⟩ := z1u (hp.2 row (List.mem_of_getElem? hg))
     obtain ⟨y0, y1, y2, y3, rfl⟩ := z1u (hq.2 row' (List.mem_of_getElem? hg'))
     refine zb rfl [] (Tk [0, 1, 2] (.take 3 [8, 9] (Tk [4, 5, 6] (.take 7 [8, 9] (.alt 8 (.take 9 [] .done) .nil))))) (by kernel_rfl) ?_
     refine xs rfl (nn_ _) (q8 rfl _ hg (xs rfl rfl ?_))
     refine xs rfl (nn_ _) (q8 rfl _ hg' (xs rfl rfl ?_))
     refine z6 rfl (z8a _ _ _ _ _ _ _ _) rfl ⟨tv5, tv5, trivial⟩ ?_
     refine xb rfl ?_ ?_ <;> intro hb
     · exact xv rfl rfl rfl (qi (fun e => by subst e; rw [hg] at hg'; cases hg'; exact q04 hb rfl))
     · have hb := y04 hb
       refine za rfl (hJ _ (i + 1) ⟨by omega, zp he hg (hg'.trans (by rw [hb]))⟩ (by omega) ?_)
       repeat' (first | exact trivial | exact rfl | exact Or.inl rfl | exact cwi (by omega) (by omega) (by omega) | refine And.intro ?_ ?_)
   · have h : ¬ i < p.length := by simpa using h
     exact xv rfl rfl rfl (yu (by rw [show i = p.length by omega, List.take_length] at he; rw [he, hl, List.take_length]))
theorem y3y (x0 : Int) (x1 : List (List Cell)) (y0 : Int) (y1 : List (List Cell)) (h1 : WR 9000000000000000000 qn x1) (k1 : WR 9000000000000000000 qn y1) : PC Tryz.prog 41 [.agg [.s (.int .i64 x0), .l x1], .agg [.s (.int .i64 y0), .l y1]] (rB (dE (α := List Cell) [.s (.int .i64 x0), .l x1] [.s (.int .i64 y0), .l y1])) := by
 refine PC.begin Tryz.func41 rfl (by kernel_rfl) ?_
 refine xb rfl (fun h => ?_) (fun e0 => ?_)
 · exact xv rfl rfl rfl (qi (fun e => by simp only [List.cons.injEq, Cell.s.injEq, Value.int.injEq, Value.bool.injEq, Value.string.injEq] at e; simp [e] at h))
 have e0 : x0 = y0 := by simpa using e0
 refine z6 rfl (y4o _ _ h1 k1) rfl tv3 ?_
 refine xb rfl (fun h => ?_) (fun e1 => ?_)
 · exact xv rfl rfl rfl (qi (fun e => q04 h (by simp only [List.cons.injEq, Cell.l.injEq] at e ⊢; simp only [e]; try trivial)))
 have e1 := y04 e1
 exact xv rfl rfl rfl (yu (by simp [e0, e1]))
theorem z1p (p q : List (List Cell)) (hp : WR 9000000000000000000 z8 p) (hq : WR 9000000000000000000 z8 q) : PC Tryz.prog 63 [.one (.l p), .one (.l q)] (rB (dE p q)) := by
 refine PC.begin Tryz.func63 rfl (by kernel_rfl) ?_
 have hpl := hp.1
 have hql := hq.1
 refine xb rfl ?_ ?_ <;> intro h
 · exact xv rfl rfl rfl (qi (fun e => by subst e; simp at h))
 have hl : p.length = q.length := by simpa [Int.ofNat_inj] using h
 refine zc rfl (ι := Nat) (fun i => i ≤ p.length ∧ p.take i = q.take i) (fun i => ⟨[(5, sV (.int .i64 i)), (0, .one (.b (.l p))), (1, .one (.b (.l q)))], []⟩) (fun i => p.length - i) 0 ⟨Nat.zero_le _, rfl⟩ ?_ ?_
 · repeat' (first | exact trivial | exact rfl | exact Or.inl rfl | refine And.intro ?_ ?_)
 · intro i ⟨hi, he⟩ J hJ
   refine xb rfl ?_ ?_ <;> intro h
   · have h : i < p.length := by simpa using h
     obtain ⟨row, hg⟩ : ∃ row, p[i]? = some row := ⟨_, List.getElem?_eq_getElem h⟩
     obtain ⟨row', hg'⟩ : ∃ row, q[i]? = some row := ⟨_, List.getElem?_eq_getElem (by omega)⟩
     obtain ⟨x0, x1, rfl, h1⟩ := z09 (hp.2 row (List.mem_of_getElem? hg))
     obtain ⟨y0, y1, rfl, k1⟩ := z09 (hq.2 row' (List.mem_of_getElem? hg'))
     refine zb rfl [] (Tk [0, 1, 2] (.take 3 [8, 9] (Tk [4, 5, 6] (.take 7 [8, 9] (.alt 8 (.take 9 [] .done) .nil))))) (by kernel_rfl) ?_
     refine xs rfl (nn_ _) (q8 rfl _ hg (xs rfl rfl ?_))
     refine xs rfl (nn_ _) (q8 rfl _ hg' (xs rfl rfl ?_))
     refine z6 rfl (y3y _ _ _ _ h1 k1) rfl ⟨tv3, tv3, trivial⟩ ?_
     refine xb rfl ?_ ?_ <;> intro hb
     · exact xv rfl rfl rfl (qi (fun e => by subst e; rw [hg] at hg'; cases hg'; exact q04 hb rfl))
     · have hb := y04 hb
       refine za rfl (hJ _ (i + 1) ⟨by omega, zp he hg (hg'.trans (by rw [hb]))⟩ (by omega) ?_)
       repeat' (first | exact trivial | exact rfl | exact Or.inl rfl | exact cwi (by omega) (by omega) (by omega) | refine And.intro ?_ ?_)
   · have h : ¬ i < p.length := by simpa using h
     exact xv rfl rfl rfl (yu (by rw [show i = p.length by omega, List.take_length] at he; rw [he, hl, List.take_length]))
theorem y4n (x0 : Int) (x1 : Int) (x2 : Int) (y0 : Int) (y1 : Int) (y2 : Int)   : PC Tryz.prog 299 [.agg [.s (.int .i64 x0), .s (.int .i64 x1), .s (.int .i64 x2)], .agg [.s (.int .i64 y0), .s (.int .i64 y1), .s (.int .i64 y2)]] (rB (dE (α := List Cell) [.s (.int .i64 x0), .s (.int .i64 x1), .s (.int .i64 x2)] [.s (.int .i64 y0), .s (.int .i64 y1), .s (.int .i64 y2)])) := by
 refine PC.begin Tryz.func299 rfl (by kernel_rfl) ?_
 refine xb rfl (fun h => ?_) (fun e0 => ?_)
 · exact xv rfl rfl rfl (qi (fun e => by simp only [List.cons.injEq, Cell.s.injEq, Value.int.injEq, Value.bool.injEq, Value.string.injEq] at e; simp [e] at h))
 have e0 : x0 = y0 := by simpa using e0
 refine xb rfl (fun h => ?_) (fun e1 => ?_)
 · exact xv rfl rfl rfl (qi (fun e => by simp only [List.cons.injEq, Cell.s.injEq, Value.int.injEq, Value.bool.injEq, Value.string.injEq] at e; simp [e] at h))
 have e1 : x1 = y1 := by simpa using e1
 refine xb rfl (fun h => ?_) (fun e2 => ?_)
 · exact xv rfl rfl rfl (qi (fun e => by simp only [List.cons.injEq, Cell.s.injEq, Value.int.injEq, Value.bool.injEq, Value.string.injEq] at e; simp [e] at h))
 have e2 : x2 = y2 := by simpa using e2
 exact xv rfl rfl rfl (yu (by simp [e0, e1, e2]))
theorem z3y (p q : List (List Cell)) (hp : WR 9000000000000000000 yd p) (hq : WR 9000000000000000000 yd q) : PC Tryz.prog 195 [.one (.l p), .one (.l q)] (rB (dE p q)) := by
 refine PC.begin Tryz.func195 rfl (by kernel_rfl) ?_
 have hpl := hp.1
 have hql := hq.1
 refine xb rfl ?_ ?_ <;> intro h
 · exact xv rfl rfl rfl (qi (fun e => by subst e; simp at h))
 have hl : p.length = q.length := by simpa [Int.ofNat_inj] using h
 refine zc rfl (ι := Nat) (fun i => i ≤ p.length ∧ p.take i = q.take i) (fun i => ⟨[(5, sV (.int .i64 i)), (0, .one (.b (.l p))), (1, .one (.b (.l q)))], []⟩) (fun i => p.length - i) 0 ⟨Nat.zero_le _, rfl⟩ ?_ ?_
 · repeat' (first | exact trivial | exact rfl | exact Or.inl rfl | refine And.intro ?_ ?_)
 · intro i ⟨hi, he⟩ J hJ
   refine xb rfl ?_ ?_ <;> intro h
   · have h : i < p.length := by simpa using h
     obtain ⟨row, hg⟩ : ∃ row, p[i]? = some row := ⟨_, List.getElem?_eq_getElem h⟩
     obtain ⟨row', hg'⟩ : ∃ row, q[i]? = some row := ⟨_, List.getElem?_eq_getElem (by omega)⟩
     obtain ⟨x0, x1, x2, rfl⟩ := q0e (hp.2 row (List.mem_of_getElem? hg))
     obtain ⟨y0, y1, y2, rfl⟩ := q0e (hq.2 row' (List.mem_of_getElem? hg'))
     refine zb rfl [] (Tk [0, 1, 2] (.take 3 [8, 9] (Tk [4, 5, 6] (.take 7 [8, 9] (.alt 8 (.take 9 [] .done) .nil))))) (by kernel_rfl) ?_
     refine xs rfl (nn_ _) (q8 rfl _ hg (xs rfl rfl ?_))
     refine xs rfl (nn_ _) (q8 rfl _ hg' (xs rfl rfl ?_))
     refine z6 rfl (y4n _ _ _ _ _ _) rfl ⟨tv4, tv4, trivial⟩ ?_
     refine xb rfl ?_ ?_ <;> intro hb
     · exact xv rfl rfl rfl (qi (fun e => by subst e; rw [hg] at hg'; cases hg'; exact q04 hb rfl))
     · have hb := y04 hb
       refine za rfl (hJ _ (i + 1) ⟨by omega, zp he hg (hg'.trans (by rw [hb]))⟩ (by omega) ?_)
       repeat' (first | exact trivial | exact rfl | exact Or.inl rfl | exact cwi (by omega) (by omega) (by omega) | refine And.intro ?_ ?_)
   · have h : ¬ i < p.length := by simpa using h
     exact xv rfl rfl rfl (yu (by rw [show i = p.length by omega, List.take_length] at he; rw [he, hl, List.take_length]))
theorem z77 (x0 : Int) (x1 : Int) (y0 : Int) (y1 : Int)   : PC Tryz.prog 361 [.agg [.s (.int .i64 x0), .s (.int .i64 x1)], .agg [.s (.int .i64 y0), .s (.int .i64 y1)]] (rB (dE (α := List Cell) [.s (.int .i64 x0), .s (.int .i64 x1)] [.s (.int .i64 y0), .s (.int .i64 y1)])) := by
 refine PC.begin Tryz.func361 rfl (by kernel_rfl) ?_
 refine xb rfl (fun h => ?_) (fun e0 => ?_)
 · exact xv rfl rfl rfl (qi (fun e => by simp only [List.cons.injEq, Cell.s.injEq, Value.int.injEq, Value.bool.injEq, Value.string.injEq] at e; simp [e] at h))
 have e0 : x0 = y0 := by simpa using e0
 refine xb rfl (fun h => ?_) (fun e1 => ?_)
 · exact xv rfl rfl rfl (qi (fun e => by simp only [List.cons.injEq, Cell.s.injEq, Value.int.injEq, Value.bool.injEq, Value.string.injEq] at e; simp [e] at h))
 have e1 : x1 = y1 := by simpa using e1
 exact xv rfl rfl rfl (yu (by simp [e0, e1]))
theorem z3k (p q : List (List Cell)) (hp : WR 9000000000000000000 zi p) (hq : WR 9000000000000000000 zi q) : PC Tryz.prog 262 [.one (.l p), .one (.l q)] (rB (dE p q)) := by
 refine PC.begin Tryz.func262 rfl (by kernel_rfl) ?_
 have hpl := hp.1
 have hql := hq.1
 refine xb rfl ?_ ?_ <;> intro h
 · exact xv rfl rfl rfl (qi (fun e => by subst e; simp at h))
 have hl : p.length = q.length := by simpa [Int.ofNat_inj] using h
 refine zc rfl (ι := Nat) (fun i => i ≤ p.length ∧ p.take i = q.take i) (fun i => ⟨[(5, sV (.int .i64 i)), (0, .one (.b (.l p))), (1, .one (.b (.l q)))], []⟩) (fun i => p.length - i) 0 ⟨Nat.zero_le _, rfl⟩ ?_ ?_
 · repeat' (first | exact trivial | exact rfl | exact Or.inl rfl | refine And.intro ?_ ?_)
 · intro i ⟨hi, he⟩ J hJ
   refine xb rfl ?_ ?_ <;> intro h
   · have h : i < p.length := by simpa using h
     obtain ⟨row, hg⟩ : ∃ row, p[i]? = some row := ⟨_, List.getElem?_eq_getElem h⟩
     obtain ⟨row', hg'⟩ : ∃ row, q[i]? = some row := ⟨_, List.getElem?_eq_getElem (by omega)⟩
     obtain ⟨x0, x1, rfl⟩ := q1j (hp.2 row (List.mem_of_getElem? hg))
     obtain ⟨y0, y1, rfl⟩ := q1j (hq.2 row' (List.mem_of_getElem? hg'))
     refine zb rfl [] (Tk [0, 1, 2] (.take 3 [8, 9] (Tk [4, 5, 6] (.take 7 [8, 9] (.alt 8 (.take 9 [] .done) .nil))))) (by kernel_rfl) ?_
     refine xs rfl (nn_ _) (q8 rfl _ hg (xs rfl rfl ?_))
     refine xs rfl (nn_ _) (q8 rfl _ hg' (xs rfl rfl ?_))
     refine z6 rfl (z77 _ _ _ _) rfl ⟨tv3, tv3, trivial⟩ ?_
     refine xb rfl ?_ ?_ <;> intro hb
     · exact xv rfl rfl rfl (qi (fun e => by subst e; rw [hg] at hg'; cases hg'; exact q04 hb rfl))
     · have hb := y04 hb
       refine za rfl (hJ _ (i + 1) ⟨by omega, zp he hg (hg'.trans (by rw [hb]))⟩ (by omega) ?_)
       repeat' (first | exact trivial | exact rfl | exact Or.inl rfl | exact cwi (by omega) (by omega) (by omega) | refine And.intro ?_ ?_)
   · have h : ¬ i < p.length := by simpa using h
     exact xv rfl rfl rfl (yu (by rw [show i = p.length by omega, List.take_length] at he; rw [he, hl, List.take_length]))
theorem q1s (p q : List (List Cell)) (hp : WR 9000000000000000000 (.i .i64 .nil) p) (hq : WR 9000000000000000000 (.i .i64 .nil) q) : PC Tryz.prog 108 [.one (.l p), .one (.l q)] (rB (dE p q)) := by
 refine PC.begin Tryz.func108 rfl (by kernel_rfl) ?_
 have hpl := hp.1
 have hql := hq.1
 refine xb rfl ?_ ?_ <;> intro h
 · exact xv rfl rfl rfl (qi (fun e => by subst e; simp at h))
 have hl : p.length = q.length := by simpa [Int.ofNat_inj] using h
 refine zc rfl (ι := Nat) (fun i => i ≤ p.length ∧ p.take i = q.take i) (fun i => ⟨[(5, sV (.int .i64 i)), (0, .one (.b (.l p))), (1, .one (.b (.l q)))], []⟩) (fun i => p.length - i) 0 ⟨Nat.zero_le _, rfl⟩ ?_ ?_
 · repeat' (first | exact trivial | exact rfl | exact Or.inl rfl | refine And.intro ?_ ?_)
 · intro i ⟨hi, he⟩ J hJ
   refine xb rfl ?_ ?_ <;> intro h
   · have h : i < p.length := by simpa using h
     obtain ⟨row, hg⟩ : ∃ row, p[i]? = some row := ⟨_, List.getElem?_eq_getElem h⟩
     obtain ⟨row', hg'⟩ : ∃ row, q[i]? = some row := ⟨_, List.getElem?_eq_getElem (by omega)⟩
     obtain ⟨x0, _, rfl, hnil⟩ := ((hp.2 row (List.mem_of_getElem? hg))).yv; obtain rfl := hnil.yy
     obtain ⟨y0, _, rfl, knil⟩ := ((hq.2 row' (List.mem_of_getElem? hg'))).yv; obtain rfl := knil.yy
     refine zb rfl [] (Tk [0, 1, 2] (.take 3 [8] (Tk [4, 5, 6] (.take 7 [8] (.take 8 [] .done))))) (by kernel_rfl) ?_
     refine xs rfl (nn_ _) (q8 rfl _ hg (xs rfl rfl ?_))
     refine xs rfl (nn_ _) (q8 rfl _ hg' (xs rfl rfl ?_))
     refine xb rfl ?_ ?_ <;> intro hb
     · exact xv rfl rfl rfl (qi (fun e => by subst e; rw [hg] at hg'; cases hg'; simp at hb))
     · have hb : x0 = y0 := by simpa using hb
       refine za rfl (hJ _ (i + 1) ⟨by omega, zp he hg (hg'.trans (by rw [hb]))⟩ (by omega) ?_)
       repeat' (first | exact trivial | exact rfl | exact Or.inl rfl | exact cwi (by omega) (by omega) (by omega) | refine And.intro ?_ ?_)
   · have h : ¬ i < p.length := by simpa using h
     exact xv rfl rfl rfl (yu (by rw [show i = p.length by omega, List.take_length] at he; rw [he, hl, List.take_length]))
theorem z6i (x0 : Int) (x1 : List (List Cell)) (x2 : List (List Cell)) (x3 : List (List Cell)) (x4 : List (List Cell)) (x5 : List (List Cell)) (y0 : Int) (y1 : List (List Cell)) (y2 : List (List Cell)) (y3 : List (List Cell)) (y4 : List (List Cell)) (y5 : List (List Cell)) (h1 : WR 9000000000000000000 yd x1) (h2 : WR 9000000000000000000 zi x2) (h3 : WR 9000000000000000000 z8 x3) (h4 : WR 9000000000000000000 zi x4) (h5 : WR 9000000000000000000 (.i .i64 .nil) x5) (k1 : WR 9000000000000000000 yd y1) (k2 : WR 9000000000000000000 zi y2) (k3 : WR 9000000000000000000 z8 y3) (k4 : WR 9000000000000000000 zi y4) (k5 : WR 9000000000000000000 (.i .i64 .nil) y5) : PC Tryz.prog 156 [.agg [.s (.int .i64 x0), .l x1, .l x2, .l x3, .l x4, .l x5], .agg [.s (.int .i64 y0), .l y1, .l y2, .l y3, .l y4, .l y5]] (rB (dE (α := List Cell) [.s (.int .i64 x0), .l x1, .l x2, .l x3, .l x4, .l x5] [.s (.int .i64 y0), .l y1, .l y2, .l y3, .l y4, .l y5])) := by
 refine PC.begin Tryz.func156 rfl (by kernel_rfl) ?_
 refine xb rfl (fun h => ?_) (fun e0 => ?_)
 · exact xv rfl rfl rfl (qi (fun e => by simp only [List.cons.injEq, Cell.s.injEq, Value.int.injEq, Value.bool.injEq, Value.string.injEq] at e; simp [e] at h))
 have e0 : x0 = y0 := by simpa using e0
 refine z6 rfl (z3y _ _ h1 k1) rfl tv3 ?_
 refine xb rfl (fun h => ?_) (fun e1 => ?_)
 · exact xv rfl rfl rfl (qi (fun e => q04 h (by simp only [List.cons.injEq, Cell.l.injEq] at e ⊢; simp only [e]; try trivial)))
 have e1 := y04 e1
 refine z6 rfl (z3k _ _ h2 k2) rfl tv3 ?_
 refine xb rfl (fun h => ?_) (fun e2 => ?_)
 · exact xv rfl rfl rfl (qi (fun e => q04 h (by simp only [List.cons.injEq, Cell.l.injEq] at e ⊢; simp only [e]; try trivial)))
 have e2 := y04 e2
 refine z6 rfl (z1p _ _ h3 k3) rfl tv3 ?_
 refine xb rfl (fun h => ?_) (fun e3 => ?_)
 · exact xv rfl rfl rfl (qi (fun e => q04 h (by simp only [List.cons.injEq, Cell.l.injEq] at e ⊢; simp only [e]; try trivial)))
 have e3 := y04 e3
 refine z6 rfl (z3k _ _ h4 k4) rfl tv3 ?_
 refine xb rfl (fun h => ?_) (fun e4 => ?_)
 · exact xv rfl rfl rfl (qi (fun e => q04 h (by simp only [List.cons.injEq, Cell.l.injEq] at e ⊢; simp only [e]; try trivial)))
 have e4 := y04 e4
 refine z6 rfl (q1s _ _ h5 k5) rfl tv3 ?_
 refine xb rfl (fun h => ?_) (fun e5 => ?_)
 · exact xv rfl rfl rfl (qi (fun e => q04 h (by simp only [List.cons.injEq, Cell.l.injEq] at e ⊢; simp only [e]; try trivial)))
 have e5 := y04 e5
 exact xv rfl rfl rfl (yu (by simp [e0, e1, e2, e3, e4, e5]))
theorem y5f (p q : List (List Cell)) (hp : WR 9000000000000000000 zf p) (hq : WR 9000000000000000000 zf q) : PC Tryz.prog 64 [.one (.l p), .one (.l q)] (rB (dE p q)) := by
 refine PC.begin Tryz.func64 rfl (by kernel_rfl) ?_
 have hpl := hp.1
 have hql := hq.1
 refine xb rfl ?_ ?_ <;> intro h
 · exact xv rfl rfl rfl (qi (fun e => by subst e; simp at h))
 have hl : p.length = q.length := by simpa [Int.ofNat_inj] using h
 refine zc rfl (ι := Nat) (fun i => i ≤ p.length ∧ p.take i = q.take i) (fun i => ⟨[(5, sV (.int .i64 i)), (0, .one (.b (.l p))), (1, .one (.b (.l q)))], []⟩) (fun i => p.length - i) 0 ⟨Nat.zero_le _, rfl⟩ ?_ ?_
 · repeat' (first | exact trivial | exact rfl | exact Or.inl rfl | refine And.intro ?_ ?_)
 · intro i ⟨hi, he⟩ J hJ
   refine xb rfl ?_ ?_ <;> intro h
   · have h : i < p.length := by simpa using h
     obtain ⟨row, hg⟩ : ∃ row, p[i]? = some row := ⟨_, List.getElem?_eq_getElem h⟩
     obtain ⟨row', hg'⟩ : ∃ row, q[i]? = some row := ⟨_, List.getElem?_eq_getElem (by omega)⟩
     obtain ⟨x0, x1, x2, x3, x4, x5, rfl, h1, h2, h3, h4, h5⟩ := q12 (hp.2 row (List.mem_of_getElem? hg))
     obtain ⟨y0, y1, y2, y3, y4, y5, rfl, k1, k2, k3, k4, k5⟩ := q12 (hq.2 row' (List.mem_of_getElem? hg'))
     refine zb rfl [] (Tk [0, 1, 2] (.take 3 [8, 9] (Tk [4, 5, 6] (.take 7 [8, 9] (.alt 8 (.take 9 [] .done) .nil))))) (by kernel_rfl) ?_
     refine xs rfl (nn_ _) (q8 rfl _ hg (xs rfl rfl ?_))
     refine xs rfl (nn_ _) (q8 rfl _ hg' (xs rfl rfl ?_))
     refine z6 rfl (z6i _ _ _ _ _ _ _ _ _ _ _ _ h1 h2 h3 h4 h5 k1 k2 k3 k4 k5) rfl ⟨tv7, tv7, trivial⟩ ?_
     refine xb rfl ?_ ?_ <;> intro hb
     · exact xv rfl rfl rfl (qi (fun e => by subst e; rw [hg] at hg'; cases hg'; exact q04 hb rfl))
     · have hb := y04 hb
       refine za rfl (hJ _ (i + 1) ⟨by omega, zp he hg (hg'.trans (by rw [hb]))⟩ (by omega) ?_)
       repeat' (first | exact trivial | exact rfl | exact Or.inl rfl | exact cwi (by omega) (by omega) (by omega) | refine And.intro ?_ ?_)
   · have h : ¬ i < p.length := by simpa using h
     exact xv rfl rfl rfl (yu (by rw [show i = p.length by omega, List.take_length] at he; rw [he, hl, List.take_length]))
theorem y2w (x0 : Int) (x1 : Int) (y0 : Int) (y1 : Int)   : PC Tryz.prog 266 [.agg [.s (.int .i64 x0), .s (.int .i64 x1)], .agg [.s (.int .i64 y0), .s (.int .i64 y1)]] (rB (dE (α := List Cell) [.s (.int .i64 x0), .s (.int .i64 x1)] [.s (.int .i64 y0), .s (.int .i64 y1)])) := by
 refine PC.begin Tryz.func266 rfl (by kernel_rfl) ?_
 refine xb rfl (fun h => ?_) (fun e0 => ?_)
 · exact xv rfl rfl rfl (qi (fun e => by simp only [List.cons.injEq, Cell.s.injEq, Value.int.injEq, Value.bool.injEq, Value.string.injEq] at e; simp [e] at h))
 have e0 : x0 = y0 := by simpa using e0
 refine xb rfl (fun h => ?_) (fun e1 => ?_)
 · exact xv rfl rfl rfl (qi (fun e => by simp only [List.cons.injEq, Cell.s.injEq, Value.int.injEq, Value.bool.injEq, Value.string.injEq] at e; simp [e] at h))
 have e1 : x1 = y1 := by simpa using e1
 exact xv rfl rfl rfl (yu (by simp [e0, e1]))
theorem y3k (p q : List (List Cell)) (hp : WR 9000000000000000000 zn p) (hq : WR 9000000000000000000 zn q) : PC Tryz.prog 428 [.one (.l p), .one (.l q)] (rB (dE p q)) := by
 refine PC.begin Tryz.func428 rfl (by kernel_rfl) ?_
 have hpl := hp.1
 have hql := hq.1
 refine xb rfl ?_ ?_ <;> intro h
 · exact xv rfl rfl rfl (qi (fun e => by subst e; simp at h))
 have hl : p.length = q.length := by simpa [Int.ofNat_inj] using h
 refine zc rfl (ι := Nat) (fun i => i ≤ p.length ∧ p.take i = q.take i) (fun i => ⟨[(5, sV (.int .i64 i)), (0, .one (.b (.l p))), (1, .one (.b (.l q)))], []⟩) (fun i => p.length - i) 0 ⟨Nat.zero_le _, rfl⟩ ?_ ?_
 · repeat' (first | exact trivial | exact rfl | exact Or.inl rfl | refine And.intro ?_ ?_)
 · intro i ⟨hi, he⟩ J hJ
   refine xb rfl ?_ ?_ <;> intro h
   · have h : i < p.length := by simpa using h
     obtain ⟨row, hg⟩ : ∃ row, p[i]? = some row := ⟨_, List.getElem?_eq_getElem h⟩
     obtain ⟨row', hg'⟩ : ∃ row, q[i]? = some row := ⟨_, List.getElem?_eq_getElem (by omega)⟩
     obtain ⟨x0, x1, rfl⟩ := y1k (hp.2 row (List.mem_of_getElem? hg))
     obtain ⟨y0, y1, rfl⟩ := y1k (hq.2 row' (List.mem_of_getElem? hg'))
     refine zb rfl [] (Tk [0, 1, 2] (.take 3 [8, 9] (Tk [4, 5, 6] (.take 7 [8, 9] (.alt 8 (.take 9 [] .done) .nil))))) (by kernel_rfl) ?_
     refine xs rfl (nn_ _) (q8 rfl _ hg (xs rfl rfl ?_))
     refine xs rfl (nn_ _) (q8 rfl _ hg' (xs rfl rfl ?_))
     refine z6 rfl (y2w _ _ _ _) rfl ⟨tv3, tv3, trivial⟩ ?_
     refine xb rfl ?_ ?_ <;> intro hb
     · exact xv rfl rfl rfl (qi (fun e => by subst e; rw [hg] at hg'; cases hg'; exact q04 hb rfl))
     · have hb := y04 hb
       refine za rfl (hJ _ (i + 1) ⟨by omega, zp he hg (hg'.trans (by rw [hb]))⟩ (by omega) ?_)
       repeat' (first | exact trivial | exact rfl | exact Or.inl rfl | exact cwi (by omega) (by omega) (by omega) | refine And.intro ?_ ?_)
   · have h : ¬ i < p.length := by simpa using h
     exact xv rfl rfl rfl (yu (by rw [show i = p.length by omega, List.take_length] at he; rw [he, hl, List.take_length]))
theorem y77 (x0 : Int) (x1 : Int) (x2 : Int) (x3 : Int) (x4 : Int) (x5 : List (List Cell)) (y0 : Int) (y1 : Int) (y2 : Int) (y3 : Int) (y4 : Int) (y5 : List (List Cell)) (h5 : WR 9000000000000000000 zn x5) (k5 : WR 9000000000000000000 zn y5) : PC Tryz.prog 362 [.agg [.s (.int .i64 x0), .s (.int .i64 x1), .s (.int .i64 x2), .s (.int .i64 x3), .s (.int .i64 x4), .l x5], .agg [.s (.int .i64 y0), .s (.int .i64 y1), .s (.int .i64 y2), .s (.int .i64 y3), .s (.int .i64 y4), .l y5]] (rB (dE (α := List Cell) [.s (.int .i64 x0), .s (.int .i64 x1), .s (.int .i64 x2), .s (.int .i64 x3), .s (.int .i64 x4), .l x5] [.s (.int .i64 y0), .s (.int .i64 y1), .s (.int .i64 y2), .s (.int .i64 y3), .s (.int .i64 y4), .l y5])) := by
 refine PC.begin Tryz.func362 rfl (by kernel_rfl) ?_
 refine xb rfl (fun h => ?_) (fun e0 => ?_)
 · exact xv rfl rfl rfl (qi (fun e => by simp only [List.cons.injEq, Cell.s.injEq, Value.int.injEq, Value.bool.injEq, Value.string.injEq] at e; simp [e] at h))
 have e0 : x0 = y0 := by simpa using e0
 refine xb rfl (fun h => ?_) (fun e1 => ?_)
 · exact xv rfl rfl rfl (qi (fun e => by simp only [List.cons.injEq, Cell.s.injEq, Value.int.injEq, Value.bool.injEq, Value.string.injEq] at e; simp [e] at h))
 have e1 : x1 = y1 := by simpa using e1
 refine xb rfl (fun h => ?_) (fun e2 => ?_)
 · exact xv rfl rfl rfl (qi (fun e => by simp only [List.cons.injEq, Cell.s.injEq, Value.int.injEq, Value.bool.injEq, Value.string.injEq] at e; simp [e] at h))
 have e2 : x2 = y2 := by simpa using e2
 refine z6 rfl (y2w _ _ _ _) rfl ⟨tv3, tv3, trivial⟩ ?_
 refine xb rfl (fun h => ?_) (fun e3 => ?_)
 · exact xv rfl rfl rfl (qi (fun e => q04 h (by simp only [List.cons.injEq, Cell.l.injEq] at e ⊢; simp only [e]; try trivial)))
 have e3 := y04 e3
 simp only [List.cons.injEq, Cell.s.injEq, Cell.l.injEq, Value.int.injEq, Value.bool.injEq, and_true, true_and] at e3
 refine z6 rfl (y3k _ _ h5 k5) rfl tv3 ?_
 refine xb rfl (fun h => ?_) (fun e5 => ?_)
 · exact xv rfl rfl rfl (qi (fun e => q04 h (by simp only [List.cons.injEq, Cell.l.injEq] at e ⊢; simp only [e]; try trivial)))
 have e5 := y04 e5
 exact xv rfl rfl rfl (yu (by simp [e0, e1, e2, e3, e5]))
theorem y6i (p q : List (List Cell)) (hp : WR 9000000000000000000 ql p) (hq : WR 9000000000000000000 ql q) : PC Tryz.prog 263 [.one (.l p), .one (.l q)] (rB (dE p q)) := by
 refine PC.begin Tryz.func263 rfl (by kernel_rfl) ?_
 have hpl := hp.1
 have hql := hq.1
 refine xb rfl ?_ ?_ <;> intro h
 · exact xv rfl rfl rfl (qi (fun e => by subst e; simp at h))
 have hl : p.length = q.length := by simpa [Int.ofNat_inj] using h
 refine zc rfl (ι := Nat) (fun i => i ≤ p.length ∧ p.take i = q.take i) (fun i => ⟨[(5, sV (.int .i64 i)), (0, .one (.b (.l p))), (1, .one (.b (.l q)))], []⟩) (fun i => p.length - i) 0 ⟨Nat.zero_le _, rfl⟩ ?_ ?_
 · repeat' (first | exact trivial | exact rfl | exact Or.inl rfl | refine And.intro ?_ ?_)
 · intro i ⟨hi, he⟩ J hJ
   refine xb rfl ?_ ?_ <;> intro h
   · have h : i < p.length := by simpa using h
     obtain ⟨row, hg⟩ : ∃ row, p[i]? = some row := ⟨_, List.getElem?_eq_getElem h⟩
     obtain ⟨row', hg'⟩ : ∃ row, q[i]? = some row := ⟨_, List.getElem?_eq_getElem (by omega)⟩
     obtain ⟨x0, x1, x2, x3, x4, x5, rfl, h5⟩ := z1k (hp.2 row (List.mem_of_getElem? hg))
     obtain ⟨y0, y1, y2, y3, y4, y5, rfl, k5⟩ := z1k (hq.2 row' (List.mem_of_getElem? hg'))
     refine zb rfl [] (Tk [0, 1, 2] (.take 3 [8, 9] (Tk [4, 5, 6] (.take 7 [8, 9] (.alt 8 (.take 9 [] .done) .nil))))) (by kernel_rfl) ?_
     refine xs rfl (nn_ _) (q8 rfl _ hg (xs rfl rfl ?_))
     refine xs rfl (nn_ _) (q8 rfl _ hg' (xs rfl rfl ?_))
     refine z6 rfl (y77 _ _ _ _ _ _ _ _ _ _ _ _ h5 k5) rfl ⟨tv7, tv7, trivial⟩ ?_
     refine xb rfl ?_ ?_ <;> intro hb
     · exact xv rfl rfl rfl (qi (fun e => by subst e; rw [hg] at hg'; cases hg'; exact q04 hb rfl))
     · have hb := y04 hb
       refine za rfl (hJ _ (i + 1) ⟨by omega, zp he hg (hg'.trans (by rw [hb]))⟩ (by omega) ?_)
       repeat' (first | exact trivial | exact rfl | exact Or.inl rfl | exact cwi (by omega) (by omega) (by omega) | refine And.intro ?_ ?_)
   · have h : ¬ i < p.length := by simpa using h
     exact xv rfl rfl rfl (yu (by rw [show i = p.length by omega, List.take_length] at he; rw [he, hl, List.take_length]))
theorem q3x (x0 : List (List Cell)) (y0 : List (List Cell)) (h0 : WR 9000000000000000000 ql x0) (k0 : WR 9000000000000000000 ql y0) : PC Tryz.prog 157 [.agg [.l x0], .agg [.l y0]] (rB (dE (α := List Cell) [.l x0] [.l y0])) := by
 refine PC.begin Tryz.func157 rfl (by kernel_rfl) ?_
 refine z6 rfl (y6i _ _ h0 k0) rfl tv3 ?_
 refine xb rfl (fun h => ?_) (fun e0 => ?_)
 · exact xv rfl rfl rfl (qi (fun e => q04 h (by simp only [List.cons.injEq, Cell.l.injEq] at e ⊢; simp only [e]; try trivial)))
 have e0 := y04 e0
 exact xv rfl rfl rfl (yu (by simp [e0]))
theorem q3d (p q : List (List Cell)) (hp : WR 9000000000000000000 q9 p) (hq : WR 9000000000000000000 q9 q) : PC Tryz.prog 65 [.one (.l p), .one (.l q)] (rB (dE p q)) := by
 refine PC.begin Tryz.func65 rfl (by kernel_rfl) ?_
 have hpl := hp.1
 have hql := hq.1
 refine xb rfl ?_ ?_ <;> intro h
 · exact xv rfl rfl rfl (qi (fun e => by subst e; simp at h))
 have hl : p.length = q.length := by simpa [Int.ofNat_inj] using h
 refine zc rfl (ι := Nat) (fun i => i ≤ p.length ∧ p.take i = q.take i) (fun i => ⟨[(5, sV (.int .i64 i)), (0, .one (.b (.l p))), (1, .one (.b (.l q)))], []⟩) (fun i => p.length - i) 0 ⟨Nat.zero_le _, rfl⟩ ?_ ?_
 · repeat' (first | exact trivial | exact rfl | exact Or.inl rfl | refine And.intro ?_ ?_)
 · intro i ⟨hi, he⟩ J hJ
   refine xb rfl ?_ ?_ <;> intro h
   · have h : i < p.length := by simpa using h
     obtain ⟨row, hg⟩ : ∃ row, p[i]? = some row := ⟨_, List.getElem?_eq_getElem h⟩
     obtain ⟨row', hg'⟩ : ∃ row, q[i]? = some row := ⟨_, List.getElem?_eq_getElem (by omega)⟩
     obtain ⟨x0, rfl, h0⟩ := q08 (hp.2 row (List.mem_of_getElem? hg))
     obtain ⟨y0, rfl, k0⟩ := q08 (hq.2 row' (List.mem_of_getElem? hg'))
     refine zb rfl [] (Tk [0, 1, 2] (.take 3 [8, 9] (Tk [4, 5, 6] (.take 7 [8, 9] (.alt 8 (.take 9 [] .done) .nil))))) (by kernel_rfl) ?_
     refine xs rfl (nn_ _) (q8 rfl _ hg (xs rfl rfl ?_))
     refine xs rfl (nn_ _) (q8 rfl _ hg' (xs rfl rfl ?_))
     refine z6 rfl (q3x _ _ h0 k0) rfl ⟨⟨trivial, trivial⟩, ⟨trivial, trivial⟩, trivial⟩ ?_
     refine xb rfl ?_ ?_ <;> intro hb
     · exact xv rfl rfl rfl (qi (fun e => by subst e; rw [hg] at hg'; cases hg'; exact q04 hb rfl))
     · have hb := y04 hb
       refine za rfl (hJ _ (i + 1) ⟨by omega, zp he hg (hg'.trans (by rw [hb]))⟩ (by omega) ?_)
       repeat' (first | exact trivial | exact rfl | exact Or.inl rfl | exact cwi (by omega) (by omega) (by omega) | refine And.intro ?_ ?_)
   · have h : ¬ i < p.length := by simpa using h
     exact xv rfl rfl rfl (yu (by rw [show i = p.length by omega, List.take_length] at he; rw [he, hl, List.take_length]))
theorem y8a (x0 : Int) (x1 : Int) (x2 : Int) (x3 : Int) (x4 : List (List Cell)) (x5 : List (List Cell)) (y0 : Int) (y1 : Int) (y2 : Int) (y3 : Int) (y4 : List (List Cell)) (y5 : List (List Cell)) (h4 : WR 9000000000000000000 (.i .i64 .nil) x4) (h5 : WR 9000000000000000000 zn x5) (k4 : WR 9000000000000000000 (.i .i64 .nil) y4) (k5 : WR 9000000000000000000 zn y5) : PC Tryz.prog 363 [.agg [.s (.int .i64 x0), .s (.int .i64 x1), .s (.int .i64 x2), .s (.int .i64 x3), .l x4, .l x5], .agg [.s (.int .i64 y0), .s (.int .i64 y1), .s (.int .i64 y2), .s (.int .i64 y3), .l y4, .l y5]] (rB (dE (α := List Cell) [.s (.int .i64 x0), .s (.int .i64 x1), .s (.int .i64 x2), .s (.int .i64 x3), .l x4, .l x5] [.s (.int .i64 y0), .s (.int .i64 y1), .s (.int .i64 y2), .s (.int .i64 y3), .l y4, .l y5])) := by
 refine PC.begin Tryz.func363 rfl (by kernel_rfl) ?_
 refine xb rfl (fun h => ?_) (fun e0 => ?_)
 · exact xv rfl rfl rfl (qi (fun e => by simp only [List.cons.injEq, Cell.s.injEq, Value.int.injEq, Value.bool.injEq, Value.string.injEq] at e; simp [e] at h))
 have e0 : x0 = y0 := by simpa using e0
 refine xb rfl (fun h => ?_) (fun e1 => ?_)
 · exact xv rfl rfl rfl (qi (fun e => by simp only [List.cons.injEq, Cell.s.injEq, Value.int.injEq, Value.bool.injEq, Value.string.injEq] at e; simp [e] at h))
 have e1 : x1 = y1 := by simpa using e1
 refine xb rfl (fun h => ?_) (fun e2 => ?_)
 · exact xv rfl rfl rfl (qi (fun e => by simp only [List.cons.injEq, Cell.s.injEq, Value.int.injEq, Value.bool.injEq, Value.string.injEq] at e; simp [e] at h))
 have e2 : x2 = y2 := by simpa using e2
 refine xb rfl (fun h => ?_) (fun e3 => ?_)
 · exact xv rfl rfl rfl (qi (fun e => by simp only [List.cons.injEq, Cell.s.injEq, Value.int.injEq, Value.bool.injEq, Value.string.injEq] at e; simp [e] at h))
 have e3 : x3 = y3 := by simpa using e3
 refine z6 rfl (q1s _ _ h4 k4) rfl tv3 ?_
 refine xb rfl (fun h => ?_) (fun e4 => ?_)
 · exact xv rfl rfl rfl (qi (fun e => q04 h (by simp only [List.cons.injEq, Cell.l.injEq] at e ⊢; simp only [e]; try trivial)))
 have e4 := y04 e4
 refine z6 rfl (y3k _ _ h5 k5) rfl tv3 ?_
 refine xb rfl (fun h => ?_) (fun e5 => ?_)
 · exact xv rfl rfl rfl (qi (fun e => q04 h (by simp only [List.cons.injEq, Cell.l.injEq] at e ⊢; simp only [e]; try trivial)))
 have e5 := y04 e5
 exact xv rfl rfl rfl (yu (by simp [e0, e1, e2, e3, e4, e5]))
theorem z78 (p q : List (List Cell)) (hp : WR 9000000000000000000 zq p) (hq : WR 9000000000000000000 zq q) : PC Tryz.prog 264 [.one (.l p), .one (.l q)] (rB (dE p q)) := by
 refine PC.begin Tryz.func264 rfl (by kernel_rfl) ?_
 have hpl := hp.1
 have hql := hq.1
 refine xb rfl ?_ ?_ <;> intro h
 · exact xv rfl rfl rfl (qi (fun e => by subst e; simp at h))
 have hl : p.length = q.length := by simpa [Int.ofNat_inj] using h
 refine zc rfl (ι := Nat) (fun i => i ≤ p.length ∧ p.take i = q.take i) (fun i => ⟨[(5, sV (.int .i64 i)), (0, .one (.b (.l p))), (1, .one (.b (.l q)))], []⟩) (fun i => p.length - i) 0 ⟨Nat.zero_le _, rfl⟩ ?_ ?_
 · repeat' (first | exact trivial | exact rfl | exact Or.inl rfl | refine And.intro ?_ ?_)
 · intro i ⟨hi, he⟩ J hJ
   refine xb rfl ?_ ?_ <;> intro h
   · have h : i < p.length := by simpa using h
     obtain ⟨row, hg⟩ : ∃ row, p[i]? = some row := ⟨_, List.getElem?_eq_getElem h⟩
     obtain ⟨row', hg'⟩ : ∃ row, q[i]? = some row := ⟨_, List.getElem?_eq_getElem (by omega)⟩
     obtain ⟨x0, x1, x2, x3, x4, x5, rfl, h4, h5⟩ := z2c (hp.2 row (List.mem_of_getElem? hg))
     obtain ⟨y0, y1, y2, y3, y4, y5, rfl, k4, k5⟩ := z2c (hq.2 row' (List.mem_of_getElem? hg'))
     refine zb rfl [] (Tk [0, 1, 2] (.take 3 [8, 9] (Tk [4, 5, 6] (.take 7 [8, 9] (.alt 8 (.take 9 [] .done) .nil))))) (by kernel_rfl) ?_
     refine xs rfl (nn_ _) (q8 rfl _ hg (xs rfl rfl ?_))
     refine xs rfl (nn_ _) (q8 rfl _ hg' (xs rfl rfl ?_))
     refine z6 rfl (y8a _ _ _ _ _ _ _ _ _ _ _ _ h4 h5 k4 k5) rfl ⟨tv7, tv7, trivial⟩ ?_
     refine xb rfl ?_ ?_ <;> intro hb
     · exact xv rfl rfl rfl (qi (fun e => by subst e; rw [hg] at hg'; cases hg'; exact q04 hb rfl))
     · have hb := y04 hb
       refine za rfl (hJ _ (i + 1) ⟨by omega, zp he hg (hg'.trans (by rw [hb]))⟩ (by omega) ?_)
       repeat' (first | exact trivial | exact rfl | exact Or.inl rfl | exact cwi (by omega) (by omega) (by omega) | refine And.intro ?_ ?_)
   · have h : ¬ i < p.length := by simpa using h
     exact xv rfl rfl rfl (yu (by rw [show i = p.length by omega, List.take_length] at he; rw [he, hl, List.take_length]))
theorem q6h (x0 : Int) (x1 : Int) (x2 : Int) (x3 : Int) (x4 : Int) (y0 : Int) (y1 : Int) (y2 : Int) (y3 : Int) (y4 : Int)   : PC Tryz.prog 364 [.agg [.s (.int .i64 x0), .s (.int .i64 x1), .s (.int .i64 x2), .s (.int .i64 x3), .s (.int .i64 x4)], .agg [.s (.int .i64 y0), .s (.int .i64 y1), .s (.int .i64 y2), .s (.int .i64 y3), .s (.int .i64 y4)]] (rB (dE (α := List Cell) [.s (.int .i64 x0), .s (.int .i64 x1), .s (.int .i64 x2), .s (.int .i64 x3), .s (.int .i64 x4)] [.s (.int .i64 y0), .s (.int .i64 y1), .s (.int .i64 y2), .s (.int .i64 y3), .s (.int .i64 y4)])) := by
 refine PC.begin Tryz.func364 rfl (by kernel_rfl) ?_
 refine xb rfl (fun h => ?_) (fun e0 => ?_)
 · exact xv rfl rfl rfl (qi (fun e => by simp only [List.cons.injEq, Cell.s.injEq, Value.int.injEq, Value.bool.injEq, Value.string.injEq] at e; simp [e] at h))
 have e0 : x0 = y0 := by simpa using e0
 refine xb rfl (fun h => ?_) (fun e1 => ?_)
 · exact xv rfl rfl rfl (qi (fun e => by simp only [List.cons.injEq, Cell.s.injEq, Value.int.injEq, Value.bool.injEq, Value.string.injEq] at e; simp [e] at h))
 have e1 : x1 = y1 := by simpa using e1
 refine xb rfl (fun h => ?_) (fun e2 => ?_)
 · exact xv rfl rfl rfl (qi (fun e => by simp only [List.cons.injEq, Cell.s.injEq, Value.int.injEq, Value.bool.injEq, Value.string.injEq] at e; simp [e] at h))
 have e2 : x2 = y2 := by simpa using e2
 refine xb rfl (fun h => ?_) (fun e3 => ?_)
 · exact xv rfl rfl rfl (qi (fun e => by simp only [List.cons.injEq, Cell.s.injEq, Value.int.injEq, Value.bool.injEq, Value.string.injEq] at e; simp [e] at h))
 have e3 : x3 = y3 := by simpa using e3
 refine xb rfl (fun h => ?_) (fun e4 => ?_)
 · exact xv rfl rfl rfl (qi (fun e => by simp only [List.cons.injEq, Cell.s.injEq, Value.int.injEq, Value.bool.injEq, Value.string.injEq] at e; simp [e] at h))
 have e4 : x4 = y4 := by simpa using e4
 exact xv rfl rfl rfl (yu (by simp [e0, e1, e2, e3, e4]))
theorem q5e (p q : List (List Cell)) (hp : WR 9000000000000000000 qo p) (hq : WR 9000000000000000000 qo q) : PC Tryz.prog 265 [.one (.l p), .one (.l q)] (rB (dE p q)) := by
 refine PC.begin Tryz.func265 rfl (by kernel_rfl) ?_
 have hpl := hp.1
 have hql := hq.1
 refine xb rfl ?_ ?_ <;> intro h
 · exact xv rfl rfl rfl (qi (fun e => by subst e; simp at h))
 have hl : p.length = q.length := by simpa [Int.ofNat_inj] using h
 refine zc rfl (ι := Nat) (fun i => i ≤ p.length ∧ p.take i = q.take i) (fun i => ⟨[(5, sV (.int .i64 i)), (0, .one (.b (.l p))), (1, .one (.b (.l q)))], []⟩) (fun i => p.length - i) 0 ⟨Nat.zero_le _, rfl⟩ ?_ ?_
 · repeat' (first | exact trivial | exact rfl | exact Or.inl rfl | refine And.intro ?_ ?_)
 · intro i ⟨hi, he⟩ J hJ
   refine xb rfl ?_ ?_ <;> intro h
   · have h : i < p.length := by simpa using h
     obtain ⟨row, hg⟩ : ∃ row, p[i]? = some row := ⟨_, List.getElem?_eq_getElem h⟩
     obtain ⟨row', hg'⟩ : ∃ row, q[i]? = some row := ⟨_, List.getElem?_eq_getElem (by omega)⟩
     obtain ⟨x0, x1, x2, x3, x4, rfl⟩ := y12 (hp.2 row (List.mem_of_getElem? hg))
     obtain ⟨y0, y1, y2, y3, y4, rfl⟩ := y12 (hq.2 row' (List.mem_of_getElem? hg'))
     refine zb rfl [] (Tk [0, 1, 2] (.take 3 [8, 9] (Tk [4, 5, 6] (.take 7 [8, 9] (.alt 8 (.take 9 [] .done) .nil))))) (by kernel_rfl) ?_
     refine xs rfl (nn_ _) (q8 rfl _ hg (xs rfl rfl ?_))
     refine xs rfl (nn_ _) (q8 rfl _ hg' (xs rfl rfl ?_))
     refine z6 rfl (q6h _ _ _ _ _ _ _ _ _ _) rfl ⟨tv6, tv6, trivial⟩ ?_
     refine xb rfl ?_ ?_ <;> intro hb
     · exact xv rfl rfl rfl (qi (fun e => by subst e; rw [hg] at hg'; cases hg'; exact q04 hb rfl))
     · have hb := y04 hb
       refine za rfl (hJ _ (i + 1) ⟨by omega, zp he hg (hg'.trans (by rw [hb]))⟩ (by omega) ?_)
       repeat' (first | exact trivial | exact rfl | exact Or.inl rfl | exact cwi (by omega) (by omega) (by omega) | refine And.intro ?_ ?_)
   · have h : ¬ i < p.length := by simpa using h
     exact xv rfl rfl rfl (yu (by rw [show i = p.length by omega, List.take_length] at he; rw [he, hl, List.take_length]))
theorem z5f (x0 : Int) (x1 : List (List Cell)) (x2 : List (List Cell)) (y0 : Int) (y1 : List (List Cell)) (y2 : List (List Cell)) (h1 : WR 9000000000000000000 zq x1) (h2 : WR 9000000000000000000 qo x2) (k1 : WR 9000000000000000000 zq y1) (k2 : WR 9000000000000000000 qo y2) : PC Tryz.prog 158 [.agg [.s (.int .i64 x0), .l x1, .l x2], .agg [.s (.int .i64 y0), .l y1, .l y2]] (rB (dE (α := List Cell) [.s (.int .i64 x0), .l x1, .l x2] [.s (.int .i64 y0), .l y1, .l y2])) := by
 refine PC.begin Tryz.func158 rfl (by kernel_rfl) ?_
 refine xb rfl (fun h => ?_) (fun e0 => ?_)
 · exact xv rfl rfl rfl (qi (fun e => by simp only [List.cons.injEq, Cell.s.injEq, Value.int.injEq, Value.bool.injEq, Value.string.injEq] at e; simp [e] at h))
 have e0 : x0 = y0 := by simpa using e0
 refine z6 rfl (z78 _ _ h1 k1) rfl tv3 ?_
 refine xb rfl (fun h => ?_) (fun e1 => ?_)
 · exact xv rfl rfl rfl (qi (fun e => q04 h (by simp only [List.cons.injEq, Cell.l.injEq] at e ⊢; simp only [e]; try trivial)))
 have e1 := y04 e1
 refine z6 rfl (q5e _ _ h2 k2) rfl tv3 ?_
 refine xb rfl (fun h => ?_) (fun e2 => ?_)
 · exact xv rfl rfl rfl (qi (fun e => q04 h (by simp only [List.cons.injEq, Cell.l.injEq] at e ⊢; simp only [e]; try trivial)))
 have e2 := y04 e2
 exact xv rfl rfl rfl (yu (by simp [e0, e1, e2]))
theorem z4o (p q : List (List Cell)) (hp : WR 9000000000000000000 qd p) (hq : WR 9000000000000000000 qd q) : PC Tryz.prog 66 [.one (.l p), .one (.l q)] (rB (dE p q)) := by
 refine PC.begin Tryz.func66 rfl (by kernel_rfl) ?_
 have hpl := hp.1
 have hql := hq.1
 refine xb rfl ?_ ?_ <;> intro h
 · exact xv rfl rfl rfl (qi (fun e => by subst e; simp at h))
 have hl : p.length = q.length := by simpa [Int.ofNat_inj] using h
 refine zc rfl (ι := Nat) (fun i => i ≤ p.length ∧ p.take i = q.take i) (fun i => ⟨[(5, sV (.int .i64 i)), (0, .one (.b (.l p))), (1, .one (.b (.l q)))], []⟩) (fun i => p.length - i) 0 ⟨Nat.zero_le _, rfl⟩ ?_ ?_
 · repeat' (first | exact trivial | exact rfl | exact Or.inl rfl | refine And.intro ?_ ?_)
 · intro i ⟨hi, he⟩ J hJ
   refine xb rfl ?_ ?_ <;> intro h
   · have h : i < p.length := by simpa using h
     obtain ⟨row, hg⟩ : ∃ row, p[i]? = some row := ⟨_, List.getElem?_eq_getElem h⟩
     obtain ⟨row', hg'⟩ : ∃ row, q[i]? = some row := ⟨_, List.getElem?_eq_getElem (by omega)⟩
     obtain ⟨x0, x1, x2, rfl, h1, h2⟩ := q0n (hp.2 row (List.mem_of_getElem? hg))
     obtain ⟨y0, y1, y2, rfl, k1, k2⟩ := q0n (hq.2 row' (List.mem_of_getElem? hg'))
     refine zb rfl [] (Tk [0, 1, 2] (.take 3 [8, 9] (Tk [4, 5, 6] (.take 7 [8, 9] (.alt 8 (.take 9 [] .done) .nil))))) (by kernel_rfl) ?_
     refine xs rfl (nn_ _) (q8 rfl _ hg (xs rfl rfl ?_))
     refine xs rfl (nn_ _) (q8 rfl _ hg' (xs rfl rfl ?_))
     refine z6 rfl (z5f _ _ _ _ _ _ h1 h2 k1 k2) rfl ⟨tv4, tv4, trivial⟩ ?_
     refine xb rfl ?_ ?_ <;> intro hb
     · exact xv rfl rfl rfl (qi (fun e => by subst e; rw [hg] at hg'; cases hg'; exact q04 hb rfl))
     · have hb := y04 hb
       refine za rfl (hJ _ (i + 1) ⟨by omega, zp he hg (hg'.trans (by rw [hb]))⟩ (by omega) ?_)
       repeat' (first | exact trivial | exact rfl | exact Or.inl rfl | exact cwi (by omega) (by omega) (by omega) | refine And.intro ?_ ?_)
   · have h : ¬ i < p.length := by simpa using h
     exact xv rfl rfl rfl (yu (by rw [show i = p.length by omega, List.take_length] at he; rw [he, hl, List.take_length]))
theorem q4o (x0 : Int) (x1 : Int) (x2 : Int) (x3 : Int) (x4 : Int) (x5 : Int) (x6 : Int) (x7 : Int) (x8 : Int) (y0 : Int) (y1 : Int) (y2 : Int) (y3 : Int) (y4 : Int) (y5 : Int) (y6 : Int) (y7 : Int) (y8 : Int)   : PC Tryz.prog 159 [.agg [.s (.int .i64 x0), .s (.int .i64 x1), .s (.int .i64 x2), .s (.int .i64 x3), .s (.int .i64 x4), .s (.int .i64 x5), .s (.int .i64 x6), .s (.int .i64 x7), .s (.int .i64 x8)], .agg [.s (.int .i64 y0), .s (.int .i64 y1), .s (.int .i64 y2), .s (.int .i64 y3), .s (.int .i64 y4), .s (.int .i64 y5), .s (.int .i64 y6), .s (.int .i64 y7), .s (.int .i64 y8)]] (rB (dE (α := List Cell) [.s (.int .i64 x0), .s (.int .i64 x1), .s (.int .i64 x2), .s (.int .i64 x3), .s (.int .i64 x4), .s (.int .i64 x5), .s (.int .i64 x6), .s (.int .i64 x7), .s (.int .i64 x8)] [.s (.int .i64 y0), .s (.int .i64 y1), .s (.int .i64 y2), .s (.int .i64 y3), .s (.int .i64 y4), .s (.int .i64 y5), .s (.int .i64 y6), .s (.int .i64 y7), .s (.int .i64 y8)])) := by
 refine PC.begin Tryz.func159 rfl (by kernel_rfl) ?_
 refine xb rfl (fun h => ?_) (fun e0 => ?_)
 · exact xv rfl rfl rfl (qi (fun e => by simp only [List.cons.injEq, Cell.s.injEq, Value.int.injEq, Value.bool.injEq, Value.string.injEq] at e; simp [e] at h))
 have e0 : x0 = y0 := by simpa using e0
 refine xb rfl (fun h => ?_) (fun e1 => ?_)
 · exact xv rfl rfl rfl (qi (fun e => by simp only [List.cons.injEq, Cell.s.injEq, Value.int.injEq, Value.bool.injEq, Value.string.injEq] at e; simp [e] at h))
 have e1 : x1 = y1 := by simpa using e1
 refine xb rfl (fun h => ?_) (fun e2 => ?_)
 · exact xv rfl rfl rfl (qi (fun e => by simp only [List.cons.injEq, Cell.s.injEq, Value.int.injEq, Value.bool.injEq, Value.string.injEq] at e; simp [e] at h))
 have e2 : x2 = y2 := by simpa using e2
 refine xb rfl (fun h => ?_) (fun e3 => ?_)
 · exact xv rfl rfl rfl (qi (fun e => by simp only [List.cons.injEq, Cell.s.injEq, Value.int.injEq, Value.bool.injEq, Value.string.injEq] at e; simp [e] at h))
 have e3 : x3 = y3 := by simpa using e3
 refine xb rfl (fun h => ?_) (fun e4 => ?_)
 · exact xv rfl rfl rfl (qi (fun e => by simp only [List.cons.injEq, Cell.s.injEq, Value.int.injEq, Value.bool.injEq, Value.string.injEq] at e; simp [e] at h))
 have e4 : x4 = y4 := by simpa using e4
 refine xb rfl (fun h => ?_) (fun e5 => ?_)
 · exact xv rfl rfl rfl (qi (fun e => by simp only [List.cons.injEq, Cell.s.injEq, Value.int.injEq, Value.bool.injEq, Value.string.injEq] at e; simp [e] at h))
 have e5 : x5 = y5 := by simpa using e5
 refine xb rfl (fun h => ?_) (fun e6 => ?_)
 · exact xv rfl rfl rfl (qi (fun e => by simp only [List.cons.injEq, Cell.s.injEq, Value.int.injEq, Value.bool.injEq, Value.string.injEq] at e; simp [e] at h))
 have e6 : x6 = y6 := by simpa using e6
 refine z6 rfl (y2w _ _ _ _) rfl ⟨tv3, tv3, trivial⟩ ?_
 refine xb rfl (fun h => ?_) (fun e7 => ?_)
 · exact xv rfl rfl rfl (qi (fun e => q04 h (by simp only [List.cons.injEq, Cell.l.injEq] at e ⊢; simp only [e]; try trivial)))
 have e7 := y04 e7
 simp only [List.cons.injEq, Cell.s.injEq, Cell.l.injEq, Value.int.injEq, Value.bool.injEq, and_true, true_and] at e7
 exact xv rfl rfl rfl (yu (by simp [e0, e1, e2, e3, e4, e5, e6, e7]))
theorem z3z (p q : List (List Cell)) (hp : WR 9000000000000000000 qg p) (hq : WR 9000000000000000000 qg q) : PC Tryz.prog 67 [.one (.l p), .one (.l q)] (rB (dE p q)) := by
 refine PC.begin Tryz.func67 rfl (by kernel_rfl) ?_
 have hpl := hp.1
 have hql := hq.1
 refine xb rfl ?_ ?_ <;> intro h
 · exact xv rfl rfl rfl (qi (fun e => by subst e; simp at h))
 have hl : p.length = q.length := by simpa [Int.ofNat_inj] using h
 refine zc rfl (ι := Nat) (fun i => i ≤ p.length ∧ p.take i = q.take i) (fun i => ⟨[(5, sV (.int .i64 i)), (0, .one (.b (.l p))), (1, .one (.b (.l q)))], []⟩) (fun i => p.length - i) 0 ⟨Nat.zero_le _, rfl⟩ ?_ ?_
 · repeat' (first | exact trivial | exact rfl | exact Or.inl rfl | refine And.intro ?_ ?_)
 · intro i ⟨hi, he⟩ J hJ
   refine xb rfl ?_ ?_ <;> intro h
   · have h : i < p.length := by simpa using h
     obtain ⟨row, hg⟩ : ∃ row, p[i]? = some row := ⟨_, List.getElem?_eq_getElem h⟩
     obtain ⟨row', hg'⟩ : ∃ row, q[i]? = some row := ⟨_, List.getElem?_eq_getElem (by omega)⟩
     obtain ⟨x0, x1, x2, x3, x4, x5, x6, x7, x8, rfl⟩ := z0f (hp.2 row (List.mem_of_getElem? hg))
     obtain ⟨y0, y1, y2, y3, y4, y5, y6, y7, y8, rfl⟩ := z0f (hq.2 row' (List.mem_of_getElem? hg'))
     refine zb rfl [] (Tk [0, 1, 2] (.take 3 [8, 9] (Tk [4, 5, 6] (.take 7 [8, 9] (.alt 8 (.take 9 [] .done) .nil))))) (by kernel_rfl) ?_
     refine xs rfl (nn_ _) (q8 rfl _ hg (xs rfl rfl ?_))
     refine xs rfl (nn_ _) (q8 rfl _ hg' (xs rfl rfl ?_))
     refine z6 rfl (q4o _ _ _ _ _ _ _ _ _ _ _ _ _ _ _ _ _ _) rfl ⟨tv10, tv10, trivial⟩ ?_
     refine xb rfl ?_ ?_ <;> intro hb
     · exact xv rfl rfl rfl (qi (fun e => by subst e; rw [hg] at hg'; cases hg'; exact q04 hb rfl))
     · have hb := y04 hb
       refine za rfl (hJ _ (i + 1) ⟨by omega, zp he hg (hg'.trans (by rw [hb]))⟩ (by omega) ?_)
       repeat' (first | exact trivial | exact rfl | exact Or.inl rfl | exact cwi (by omega) (by omega) (by omega) | refine And.intro ?_ ?_)
   · have h : ¬ i < p.length := by simpa using h
     exact xv rfl rfl rfl (yu (by rw [show i = p.length by omega, List.take_length] at he; rw [he, hl, List.take_length]))
theorem q4n (x0 : List (List Cell)) (x1 : List (List Cell)) (x2 : List (List Cell)) (x3 : List (List Cell)) (x4 : List (List Cell)) (y0 : List (List Cell)) (y1 : List (List Cell)) (y2 : List (List Cell)) (y3 : List (List Cell)) (y4 : List (List Cell)) (h0 : WR 9000000000000000000 z8 x0) (h1 : WR 9000000000000000000 zf x1) (h2 : WR 9000000000000000000 q9 x2) (h3 : WR 9000000000000000000 qd x3) (h4 : WR 9000000000000000000 qg x4) (k0 : WR 9000000000000000000 z8 y0) (k1 : WR 9000000000000000000 zf y1) (k2 : WR 9000000000000000000 q9 y2) (k3 : WR 9000000000000000000 qd y3) (k4 : WR 9000000000000000000 qg y4) : PC Tryz.prog 14 [.agg [.l x0, .l x1, .l x2, .l x3, .l x4], .agg [.l y0, .l y1, .l y2, .l y3, .l y4]] (rB (dE (α := List Cell) [.l x0, .l x1, .l x2, .l x3, .l x4] [.l y0, .l y1, .l y2, .l y3, .l y4])) := by
 refine PC.begin Tryz.func14 rfl (by kernel_rfl) ?_
 refine z6 rfl (z1p _ _ h0 k0) rfl tv3 ?_
 refine xb rfl (fun h => ?_) (fun e0 => ?_)
 · exact xv rfl rfl rfl (qi (fun e => q04 h (by simp only [List.cons.injEq, Cell.l.injEq] at e ⊢; simp only [e]; try trivial)))
 have e0 := y04 e0
 refine z6 rfl (y5f _ _ h1 k1) rfl tv3 ?_
 refine xb rfl (fun h => ?_) (fun e1 => ?_)
 · exact xv rfl rfl rfl (qi (fun e => q04 h (by simp only [List.cons.injEq, Cell.l.injEq] at e ⊢; simp only [e]; try trivial)))
 have e1 := y04 e1
 refine z6 rfl (q3d _ _ h2 k2) rfl tv3 ?_
 refine xb rfl (fun h => ?_) (fun e2 => ?_)
 · exact xv rfl rfl rfl (qi (fun e => q04 h (by simp only [List.cons.injEq, Cell.l.injEq] at e ⊢; simp only [e]; try trivial)))
 have e2 := y04 e2
 refine z6 rfl (z4o _ _ h3 k3) rfl tv3 ?_
 refine xb rfl (fun h => ?_) (fun e3 => ?_)
 · exact xv rfl rfl rfl (qi (fun e => q04 h (by simp only [List.cons.injEq, Cell.l.injEq] at e ⊢; simp only [e]; try trivial)))
 have e3 := y04 e3
 refine z6 rfl (z3z _ _ h4 k4) rfl tv3 ?_
 refine xb rfl (fun h => ?_) (fun e4 => ?_)
 · exact xv rfl rfl rfl (qi (fun e => q04 h (by simp only [List.cons.injEq, Cell.l.injEq] at e ⊢; simp only [e]; try trivial)))
 have e4 := y04 e4
 exact xv rfl rfl rfl (yu (by simp [e0, e1, e2, e3, e4]))
theorem z7w (rr : List (List Cell)) (b : Int) (hw : WR 9223372036854775807 qn rr) (p0 : 0 ≤ b) (p1 : b ≤ 1048576) : PC Tryz.prog 113 [.one (.l rr), .one (.s (.int .i64 b))] (rI (szn b (zl qn rr))) := by
 refine PC.begin Tryz.func113 rfl (by kernel_rfl) ?_
 have hlen := hw.1
 have w1 : IntKind.i64.wrap (b - rr.length) = b - rr.length := wrap_i64 (by omega) (by omega)
 rw [q0s (fun row hr => by obtain ⟨x0, x1, x2, x3, rfl⟩ := z1u hr; rfl) hw]
 refine xb rfl ?_ ?_ <;> intro h
 · simp only [w1, decide_eq_true_eq] at h
   exact xv rfl rfl rfl (by show Value.int _ _ = Value.int _ _; rw [szn, if_pos h])
 · simp only [w1, decide_eq_false_iff_not] at h
   exact xv rfl rfl rfl (by show Value.int .i64 (IntKind.i64.wrap (b - rr.length)) = Value.int _ _; rw [szn, if_neg h, w1])
theorem z4e (x0 : Int) (x1 : List (List Cell)) (b : Int) (h1 : WR 9223372036854775807 qn x1) (hb0 : 0 ≤ b) (hb1 : b ≤ 1048576) : PC Tryz.prog 36 [.agg [.s (.int .i64 x0), .l x1], .one (.s (.int .i64 b))] (rI (szn b (tot z8 [.s (.int .i64 x0), .l x1]))) := by
 refine PC.begin Tryz.func36 rfl (by kernel_rfl) ?_
 have ht : tot z8 [.s (.int .i64 x0), .l x1] = zl qn x1 := by simp only [tot, zl] <;> omega
 refine z6 rfl (z7w x1 b h1 hb0 hb1) rfl tv3 ?_
 refine xb rfl (fun h => ?_) (fun e0 => ?_)
 · have h : szn b (zl qn x1) < 0 := by simpa using h
   exact xv rfl rfl rfl (by show Value.int _ _ = Value.int _ _; congr 1; rw [ht]; unfold szn at *; split at h <;> rw [if_pos] <;> omega)
 have e0 : 0 ≤ szn b (zl qn x1) := by simpa using e0
 exact xv rfl rfl rfl (by show Value.int _ _ = Value.int _ _; rw [ht])
theorem y1q (rr : List (List Cell)) (b : Int) (hw : WR 9223372036854775807 z8 rr) (p0 : 0 ≤ b) (p1 : b ≤ 1048576) : PC Tryz.prog 47 [.one (.l rr), .one (.s (.int .i64 b))] (rI (szn b (zl z8 rr))) := by
 refine PC.begin Tryz.func47 rfl (by kernel_rfl) ?_
 have hlen := hw.1
 have w1 : IntKind.i64.wrap (b - rr.length) = b - rr.length := wrap_i64 (by omega) (by omega)
 refine xb rfl ?_ ?_ <;> intro h
 · simp only [w1, decide_eq_true_eq] at h
   exact xv rfl rfl rfl (by show Value.int _ _ = Value.int _ _; unfold szn zl; rw [if_pos (by omega)])
 simp only [w1, decide_eq_false_iff_not] at h
 have hs : szn b rr.length = b - rr.length := by unfold szn; rw [if_neg h]
 refine zc rfl (ι := Nat) (fun i => i ≤ rr.length ∧ 0 ≤ szn b (rr.length + y00 (tot z8) (rr.take i))) (fun i => ⟨[(5, sV (.int .i64 i)), (1, sV (.int .i64 (szn b (rr.length + y00 (tot z8) (rr.take i))))), (0, .one (.b (.l rr)))], []⟩) (fun i => rr.length - i) 0 ⟨Nat.zero_le _, by simp only [List.take_zero, y00, Nat.add_zero, hs]; omega⟩ ?_ ?_
 · refine ⟨⟨rfl, ?_, rfl, trivial⟩, trivial, rfl⟩
   show Cell.s (.int .i64 (IntKind.i64.wrap (b - rr.length))) = Cell.s (.int .i64 (szn b (rr.length + 0)))
   rw [w1, Nat.add_zero, hs]
 · intro i ⟨hi, hb⟩ J hJ
   refine xb rfl ?_ ?_ <;> intro h
   · have h : i < rr.length := by simpa using h
     obtain ⟨row, hg⟩ : ∃ row, rr[i]? = some row := ⟨_, List.getElem?_eq_getElem h⟩
     have hc := y0o (f := tot z8) hg
     have hc2 := q0d (tot z8) rr (i + 1)
     obtain ⟨x0, x1, rfl, h1⟩ := z09 (hw.2 row (List.mem_of_getElem? hg))
     refine xs rfl (nn_ _) (q8 rfl _ hg (xs rfl rfl ?_))
     refine z6 rfl (z4e _ _ _ h1 hb (y0j p1 p0)) rfl ⟨tv3, trivial, trivial⟩ ?_
     refine xb rfl ?_ ?_ <;> intro hn
     · have hn : szn (szn b (rr.length + y00 (tot z8) (rr.take i))) (tot z8 [.s (.int .i64 x0), .l x1]) < 0 := by simpa using hn
       rw [yi hb] at hn
       exact xv rfl rfl rfl (by show Value.int _ _ = Value.int _ _; congr 1; unfold szn zl at *; split at hn <;> rw [if_pos] <;> omega)
     · have hn : ¬ szn (szn b (rr.length + y00 (tot z8) (rr.take i))) (tot z8 [.s (.int .i64 x0), .l x1]) < 0 := by simpa using hn
       have he := yi (n := tot z8 [.s (.int .i64 x0), .l x1]) hb
       rw [he] at hn
       rw [Nat.add_assoc, ← hc] at he hn
       refine za rfl (hJ _ (i + 1) ⟨by omega, by omega⟩ (by omega) ?_)
       refine ⟨⟨cwi (by omega) (by omega) (by omega), ?_, rfl, trivial⟩, trivial, rfl⟩
       exact congrArg (fun n => Cell.s (.int .i64 n)) he
   · have h : ¬ i < rr.length := by simpa using h
     have : i = rr.length := by omega
     subst this
     exact xv rfl rfl rfl (by show Value.int _ _ = Value.int _ _; rw [List.take_length]; rfl)
theorem q4d (rr : List (List Cell)) (b : Int) (hw : WR 9223372036854775807 yd rr) (p0 : 0 ≤ b) (p1 : b ≤ 1048576) : PC Tryz.prog 184 [.one (.l rr), .one (.s (.int .i64 b))] (rI (szn b (zl yd rr))) := by
 refine PC.begin Tryz.func184 rfl (by kernel_rfl) ?_
 have hlen := hw.1
 have w1 : IntKind.i64.wrap (b - rr.length) = b - rr.length := wrap_i64 (by omega) (by omega)
 rw [q0s (fun row hr => by obtain ⟨x0, x1, x2, rfl⟩ := q0e hr; rfl) hw]
 refine xb rfl ?_ ?_ <;> intro h
 · simp only [w1, decide_eq_true_eq] at h
   exact xv rfl rfl rfl (by show Value.int _ _ = Value.int _ _; rw [szn, if_pos h])
 · simp only [w1, decide_eq_false_iff_not] at h
   exact xv rfl rfl rfl (by show Value.int .i64 (IntKind.i64.wrap (b - rr.length)) = Value.int _ _; rw [szn, if_neg h, w1])
theorem z3r (rr : List (List Cell)) (b : Int) (hw : WR 9223372036854775807 zi rr) (p0 : 0 ≤ b) (p1 : b ≤ 1048576) : PC Tryz.prog 226 [.one (.l rr), .one (.s (.int .i64 b))] (rI (szn b (zl zi rr))) := by
 refine PC.begin Tryz.func226 rfl (by kernel_rfl) ?_
 have hlen := hw.1
 have w1 : IntKind.i64.wrap (b - rr.length) = b - rr.length := wrap_i64 (by omega) (by omega)
 rw [q0s (fun row hr => by obtain ⟨x0, x1, rfl⟩ := q1j hr; rfl) hw]
 refine xb rfl ?_ ?_ <;> intro h
 · simp only [w1, decide_eq_true_eq] at h
   exact xv rfl rfl rfl (by show Value.int _ _ = Value.int _ _; rw [szn, if_pos h])
 · simp only [w1, decide_eq_false_iff_not] at h
   exact xv rfl rfl rfl (by show Value.int .i64 (IntKind.i64.wrap (b - rr.length)) = Value.int _ _; rw [szn, if_neg h, w1])
theorem y1w (rr : List (List Cell)) (b : Int) (hw : WR 9223372036854775807 (.i .i64 .nil) rr) (p0 : 0 ≤ b) (p1 : b ≤ 1048576) : PC Tryz.prog 169 [.one (.l rr), .one (.s (.int .i64 b))] (rI (szn b (zl (.i .i64 .nil) rr))) := by
 refine PC.begin Tryz.func169 rfl (by kernel_rfl) ?_
 have hlen := hw.1
 have w1 : IntKind.i64.wrap (b - rr.length) = b - rr.length := wrap_i64 (by omega) (by omega)
 rw [q0s (fun row hr => by obtain ⟨x0, _, rfl, hnil⟩ := (hr).yv; obtain rfl := hnil.yy; rfl) hw]
 refine xb rfl ?_ ?_ <;> intro h
 · simp only [w1, decide_eq_true_eq] at h
   exact xv rfl rfl rfl (by show Value.int _ _ = Value.int _ _; rw [szn, if_pos h])
 · simp only [w1, decide_eq_false_iff_not] at h
   exact xv rfl rfl rfl (by show Value.int .i64 (IntKind.i64.wrap (b - rr.length)) = Value.int _ _; rw [szn, if_neg h, w1])
theorem z6u (x0 : Int) (x1 : List (List Cell)) (x2 : List (List Cell)) (x3 : List (List Cell)) (x4 : List (List Cell)) (x5 : List (List Cell)) (b : Int) (h1 : WR 9223372036854775807 yd x1) (h2 : WR 9223372036854775807 zi x2) (h3 : WR 9223372036854775807 z8 x3) (h4 : WR 9223372036854775807 zi x4) (h5 : WR 9223372036854775807 (.i .i64 .nil) x5) (hb0 : 0 ≤ b) (hb1 : b ≤ 1048576) : PC Tryz.prog 128 [.agg [.s (.int .i64 x0), .l x1, .l x2, .l x3, .l x4, .l x5], .one (.s (.int .i64 b))] (rI (szn b (tot zf [.s (.int .i64 x0), .l x1, .l x2, .l x3, .l x4, .l x5]))) := by
 refine PC.begin Tryz.func128 rfl (by kernel_rfl) ?_
 have ht : tot zf [.s (.int .i64 x0), .l x1, .l x2, .l x3, .l x4, .l x5] = zl yd x1 + zl zi x2 + zl z8 x3 + zl zi x4 + zl (.i .i64 .nil) x5 := by simp only [tot, zl] <;> omega
 refine z6 rfl (q4d x1 b h1 hb0 hb1) rfl tv3 ?_
 refine xb rfl (fun h => ?_) (fun e0 => ?_)
 · have h : szn b (zl yd x1) < 0 := by simpa using h
   exact xv rfl rfl rfl (by show Value.int _ _ = Value.int _ _; congr 1; rw [ht]; unfold szn at *; split at h <;> rw [if_pos] <;> omega)
 have e0 : 0 ≤ szn b (zl yd x1) := by simpa using e0
 refine z6 rfl (z3r x2 (szn b (zl yd x1)) h2 e0 (y0j hb1 hb0)) rfl tv3 ?_
 refine xb rfl (fun h => ?_) (fun e1 => ?_)
 · have h : szn (szn b (zl yd x1)) (zl zi x2) < 0 := by simpa using h
   rw [yi e0] at h
   exact xv rfl rfl rfl (by show Value.int _ _ = Value.int _ _; congr 1; rw [ht]; unfold szn at *; split at h <;> rw [if_pos] <;> omega)
 have e1 : 0 ≤ szn b (zl yd x1 + zl zi x2) := by rw [← yi e0]; simpa using e1
 rw [yi e0]
 refine z6 rfl (y1q x3 (szn b (zl yd x1 + zl zi x2)) h3 e1 (y0j hb1 hb0)) rfl tv3 ?_
 refine xb rfl (fun h => ?_) (fun e2 => ?_)
 · have h : szn (szn b (zl yd x1 + zl zi x2)) (zl z8 x3) < 0 := by simpa using h
   rw [yi e1] at h
   exact xv rfl rfl rfl (by show Value.int _ _ = Value.int _ _; congr 1; rw [ht]; unfold szn at *; split at h <;> rw [if_pos] <;> omega)
 have e2 : 0 ≤ szn b (zl yd x1 + zl zi x2 + zl z8 x3) := by rw [← yi e1]; simpa using e2
 rw [yi e1]
 refine z6 rfl (z3r x4 (szn b (zl yd x1 + zl zi x2 + zl z8 x3)) h4 e2 (y0j hb1 hb0)) rfl tv3 ?_
 refine xb rfl (fun h => ?_) (fun e3 => ?_)
 · have h : szn (szn b (zl yd x1 + zl zi x2 + zl z8 x3)) (zl zi x4) < 0 := by simpa using h
   rw [yi e2] at h
   exact xv rfl rfl rfl (by show Value.int _ _ = Value.int _ _; congr 1; rw [ht]; unfold szn at *; split at h <;> rw [if_pos] <;> omega)
 have e3 : 0 ≤ szn b (zl yd x1 + zl zi x2 + zl z8 x3 + zl zi x4) := by rw [← yi e2]; simpa using e3
 rw [yi e2]
 refine z6 rfl (y1w x5 (szn b (zl yd x1 + zl zi x2 + zl z8 x3 + zl zi x4)) h5 e3 (y0j hb1 hb0)) rfl tv3 ?_
 refine xb rfl (fun h => ?_) (fun e4 => ?_)
 · have h : szn (szn b (zl yd x1 + zl zi x2 + zl z8 x3 + zl zi x4)) (zl (.i .i64 .nil) x5) < 0 := by simpa using h
   rw [yi e3] at h
   exact xv rfl rfl rfl (by show Value.int _ _ = Value.int _ _; congr 1; rw [ht]; unfold szn at *; split at h <;> rw [if_pos] <;> omega)
 have e4 : 0 ≤ szn b (zl yd x1 + zl zi x2 + zl z8 x3 + zl zi x4 + zl (.i .i64 .nil) x5) := by rw [← yi e3]; simpa using e4
 rw [yi e3]
 exact xv rfl rfl rfl (by show Value.int _ _ = Value.int _ _; rw [ht])
theorem y5s (rr : List (List Cell)) (b : Int) (hw : WR 9223372036854775807 zf rr) (p0 : 0 ≤ b) (p1 : b ≤ 1048576) : PC Tryz.prog 48 [.one (.l rr), .one (.s (.int .i64 b))] (rI (szn b (zl zf rr))) := by
 refine PC.begin Tryz.func48 rfl (by kernel_rfl) ?_
 have hlen := hw.1
 have w1 : IntKind.i64.wrap (b - rr.length) = b - rr.length := wrap_i64 (by omega) (by omega)
 refine xb rfl ?_ ?_ <;> intro h
 · simp only [w1, decide_eq_true_eq] at h
   exact xv rfl rfl rfl (by show Value.int _ _ = Value.int _ _; unfold szn zl; rw [if_pos (by omega)])
 simp only [w1, decide_eq_false_iff_not] at h
 have hs : szn b rr.length = b - rr.length := by unfold szn; rw [if_neg h]
 refine zc rfl (ι := Nat) (fun i => i ≤ rr.length ∧ 0 ≤ szn b (rr.length + y00 (tot zf) (rr.take i))) (fun i => ⟨[(5, sV (.int .i64 i)), (1, sV (.int .i64 (szn b (rr.length + y00 (tot zf) (rr.take i))))), (0, .one (.b (.l rr)))], []⟩) (fun i => rr.length - i) 0 ⟨Nat.zero_le _, by simp only [List.take_zero, y00, Nat.add_zero, hs]; omega⟩ ?_ ?_
 · refine ⟨⟨rfl, ?_, rfl, trivial⟩, trivial, rfl⟩
   show Cell.s (.int .i64 (IntKind.i64.wrap (b - rr.length))) = Cell.s (.int .i64 (szn b (rr.length + 0)))
   rw [w1, Nat.add_zero, hs]
 · intro i ⟨hi, hb⟩ J hJ
   refine xb rfl ?_ ?_ <;> intro h
   · have h : i < rr.length := by simpa using h
     obtain ⟨row, hg⟩ : ∃ row, rr[i]? = some row := ⟨_, List.getElem?_eq_getElem h⟩
     have hc := y0o (f := tot zf) hg
     have hc2 := q0d (tot zf) rr (i + 1)
     obtain ⟨x0, x1, x2, x3, x4, x5, rfl, h1, h2, h3, h4, h5⟩ := q12 (hw.2 row (List.mem_of_getElem? hg))
     refine xs rfl (nn_ _) (q8 rfl _ hg (xs rfl rfl ?_))
     refine z6 rfl (z6u _ _ _ _ _ _ _ h1 h2 h3 h4 h5 hb (y0j p1 p0)) rfl ⟨tv7, trivial, trivial⟩ ?_
     refine xb rfl ?_ ?_ <;> intro hn
     · have hn : szn (szn b (rr.length + y00 (tot zf) (rr.take i))) (tot zf [.s (.int .i64 x0), .l x1, .l x2, .l x3, .l x4, .l x5]) < 0 := by simpa using hn
       rw [yi hb] at hn
       exact xv rfl rfl rfl (by show Value.int _ _ = Value.int _ _; congr 1; unfold szn zl at *; split at hn <;> rw [if_pos] <;> omega)
     · have hn : ¬ szn (szn b (rr.length + y00 (tot zf) (rr.take i))) (tot zf [.s (.int .i64 x0), .l x1, .l x2, .l x3, .l x4, .l x5]) < 0 := by simpa using hn
       have he := yi (n := tot zf [.s (.int .i64 x0), .l x1, .l x2, .l x3, .l x4, .l x5]) hb
       rw [he] at hn
       rw [Nat.add_assoc, ← hc] at he hn
       refine za rfl (hJ _ (i + 1) ⟨by omega, by omega⟩ (by omega) ?_)
       refine ⟨⟨cwi (by omega) (by omega) (by omega), ?_, rfl, trivial⟩, trivial, rfl⟩
       exact congrArg (fun n => Cell.s (.int .i64 n)) he
   · have h : ¬ i < rr.length := by simpa using h
     have : i = rr.length := by omega
     subst this
     exact xv rfl rfl rfl (by show Value.int _ _ = Value.int _ _; rw [List.take_length]; rfl)
theorem y3r (rr : List (List Cell)) (b : Int) (hw : WR 9223372036854775807 zn rr) (p0 : 0 ≤ b) (p1 : b ≤ 1048576) : PC Tryz.prog 411 [.one (.l rr), .one (.s (.int .i64 b))] (rI (szn b (zl zn rr))) := by
 refine PC.begin Tryz.func411 rfl (by kernel_rfl) ?_
 have hlen := hw.1
 have w1 : IntKind.i64.wrap (b - rr.length) = b - rr.length := wrap_i64 (by omega) (by omega)
 rw [q0s (fun row hr => by obtain ⟨x0, x1, rfl⟩ := y1k hr; rfl) hw]
 refine xb rfl ?_ ?_ <;> intro h
 · simp only [w1, decide_eq_true_eq] at h
   exact xv rfl rfl rfl (by show Value.int _ _ = Value.int _ _; rw [szn, if_pos h])
 · simp only [w1, decide_eq_false_iff_not] at h
   exact xv rfl rfl rfl (by show Value.int .i64 (IntKind.i64.wrap (b - rr.length)) = Value.int _ _; rw [szn, if_neg h, w1])
theorem y7w (x0 : Int) (x1 : Int) (x2 : Int) (x3 : Int) (x4 : Int) (x5 : List (List Cell)) (b : Int) (h5 : WR 9223372036854775807 zn x5) (hb0 : 0 ≤ b) (hb1 : b ≤ 1048576) : PC Tryz.prog 323 [.agg [.s (.int .i64 x0), .s (.int .i64 x1), .s (.int .i64 x2), .s (.int .i64 x3), .s (.int .i64 x4), .l x5], .one (.s (.int .i64 b))] (rI (szn b (tot ql [.s (.int .i64 x0), .s (.int .i64 x1), .s (.int .i64 x2), .s (.int .i64 x3), .s (.int .i64 x4), .l x5]))) := by
 refine PC.begin Tryz.func323 rfl (by kernel_rfl) ?_
 have ht : tot ql [.s (.int .i64 x0), .s (.int .i64 x1), .s (.int .i64 x2), .s (.int .i64 x3), .s (.int .i64 x4), .l x5] = zl zn x5 := by simp only [tot, zl] <;> omega
 refine z6 rfl (y3r x5 b h5 hb0 hb1) rfl tv3 ?_
 refine xb rfl (fun h => ?_) (fun e0 => ?_)
 · have h : szn b (zl zn x5) < 0 := by simpa using h
   exact xv rfl rfl rfl (by show Value.int _ _ = Value.int _ _; congr 1; rw [ht]; unfold szn at *; split at h <;> rw [if_pos] <;> omega)
 have e0 : 0 ≤ szn b (zl zn x5) := by simpa using e0
 exact xv rfl rfl rfl (by show Value.int _ _ = Value.int _ _; rw [ht])
theorem y6u (rr : List (List Cell)) (b : Int) (hw : WR 9223372036854775807 ql rr) (p0 : 0 ≤ b) (p1 : b ≤ 1048576) : PC Tryz.prog 227 [.one (.l rr), .one (.s (.int .i64 b))] (rI (szn b (zl ql rr))) := by
 refine PC.begin Tryz.func227 rfl (by kernel_rfl) ?_
 have hlen := hw.1
 have w1 : IntKind.i64.wrap (b - rr.length) = b - rr.length := wrap_i64 (by omega) (by omega)
 refine xb rfl ?_ ?_ <;> intro h
 · simp only [w1, decide_eq_true_eq] at h
   exact xv rfl rfl rfl (by show Value.int _ _ = Value.int _ _; unfold szn zl; rw [if_pos (by omega)])
 simp only [w1, decide_eq_false_iff_not] at h
 have hs : szn b rr.length = b - rr.length := by unfold szn; rw [if_neg h]
 refine zc rfl (ι := Nat) (fun i => i ≤ rr.length ∧ 0 ≤ szn b (rr.length + y00 (tot ql) (rr.take i))) (fun i => ⟨[(5, sV (.int .i64 i)), (1, sV (.int .i64 (szn b (rr.length + y00 (tot ql) (rr.take i))))), (0, .one (.b (.l rr)))], []⟩) (fun i => rr.length - i) 0 ⟨Nat.zero_le _, by simp only [List.take_zero, y00, Nat.add_zero, hs]; omega⟩ ?_ ?_
 · refine ⟨⟨rfl, ?_, rfl, trivial⟩, trivial, rfl⟩
   show Cell.s (.int .i64 (IntKind.i64.wrap (b - rr.length))) = Cell.s (.int .i64 (szn b (rr.length + 0)))
   rw [w1, Nat.add_zero, hs]
 · intro i ⟨hi, hb⟩ J hJ
   refine xb rfl ?_ ?_ <;> intro h
   · have h : i < rr.length := by simpa using h
     obtain ⟨row, hg⟩ : ∃ row, rr[i]? = some row := ⟨_, List.getElem?_eq_getElem h⟩
     have hc := y0o (f := tot ql) hg
     have hc2 := q0d (tot ql) rr (i + 1)
     obtain ⟨x0, x1, x2, x3, x4, x5, rfl, h5⟩ := z1k (hw.2 row (List.mem_of_getElem? hg))
     refine xs rfl (nn_ _) (q8 rfl _ hg (xs rfl rfl ?_))
     refine z6 rfl (y7w _ _ _ _ _ _ _ h5 hb (y0j p1 p0)) rfl ⟨tv7, trivial, trivial⟩ ?_
     refine xb rfl ?_ ?_ <;> intro hn
     · have hn : szn (szn b (rr.length + y00 (tot ql) (rr.take i))) (tot ql [.s (.int .i64 x0), .s (.int .i64 x1), .s (.int .i64 x2), .s (.int .i64 x3), .s (.int .i64 x4), .l x5]) < 0 := by simpa using hn
       rw [yi hb] at hn
       exact xv rfl rfl rfl (by show Value.int _ _ = Value.int _ _; congr 1; unfold szn zl at *; split at hn <;> rw [if_pos] <;> omega)
     · have hn : ¬ szn (szn b (rr.length + y00 (tot ql) (rr.take i))) (tot ql [.s (.int .i64 x0), .s (.int .i64 x1), .s (.int .i64 x2), .s (.int .i64 x3), .s (.int .i64 x4), .l x5]) < 0 := by simpa using hn
       have he := yi (n := tot ql [.s (.int .i64 x0), .s (.int .i64 x1), .s (.int .i64 x2), .s (.int .i64 x3), .s (.int .i64 x4), .l x5]) hb
       rw [he] at hn
       rw [Nat.add_assoc, ← hc] at he hn
       refine za rfl (hJ _ (i + 1) ⟨by omega, by omega⟩ (by omega) ?_)
       refine ⟨⟨cwi (by omega) (by omega) (by omega), ?_, rfl, trivial⟩, trivial, rfl⟩
       exact congrArg (fun n => Cell.s (.int .i64 n)) he
   · have h : ¬ i < rr.length := by simpa using h
     have : i = rr.length := by omega
     subst this
     exact xv rfl rfl rfl (by show Value.int _ _ = Value.int _ _; rw [List.take_length]; rfl)
theorem y4d (x0 : List (List Cell)) (b : Int) (h0 : WR 9223372036854775807 ql x0) (hb0 : 0 ≤ b) (hb1 : b ≤ 1048576) : PC Tryz.prog 129 [.agg [.l x0], .one (.s (.int .i64 b))] (rI (szn b (tot q9 [.l x0]))) := by
 refine PC.begin Tryz.func129 rfl (by kernel_rfl) ?_
 have ht : tot q9 [.l x0] = zl ql x0 := by simp only [tot, zl] <;> omega
 refine z6 rfl (y6u x0 b h0 hb0 hb1) rfl tv3 ?_
 refine xb rfl (fun h => ?_) (fun e0 => ?_)
 · have h : szn b (zl ql x0) < 0 := by simpa using h
   exact xv rfl rfl rfl (by show Value.int _ _ = Value.int _ _; congr 1; rw [ht]; unfold szn at *; split at h <;> rw [if_pos] <;> omega)
 have e0 : 0 ≤ szn b (zl ql x0) := by simpa using e0
 exact xv rfl rfl rfl (by show Value.int _ _ = Value.int _ _; rw [ht])
theorem q3i (rr : List (List Cell)) (b : Int) (hw : WR 9223372036854775807 q9 rr) (p0 : 0 ≤ b) (p1 : b ≤ 1048576) : PC Tryz.prog 49 [.one (.l rr), .one (.s (.int .i64 b))] (rI (szn b (zl q9 rr))) := by
 refine PC.begin Tryz.func49 rfl (by kernel_rfl) ?_
 have hlen := hw.1
 have w1 : IntKind.i64.wrap (b - rr.length) = b - rr.length := wrap_i64 (by omega) (by omega)
 refine xb rfl ?_ ?_ <;> intro h
 · simp only [w1, decide_eq_true_eq] at h
   exact xv rfl rfl rfl (by show Value.int _ _ = Value.int _ _; unfold szn zl; rw [if_pos (by omega)])
 simp only [w1, decide_eq_false_iff_not] at h
 have hs : szn b rr.length = b - rr.length := by unfold szn; rw [if_neg h]
 refine zc rfl (ι := Nat) (fun i => i ≤ rr.length ∧ 0 ≤ szn b (rr.length + y00 (tot q9) (rr.take i))) (fun i => ⟨[(5, sV (.int .i64 i)), (1, sV (.int .i64 (szn b (rr.length + y00 (tot q9) (rr.take i))))), (0, .one (.b (.l rr)))], []⟩) (fun i => rr.length - i) 0 ⟨Nat.zero_le _, by simp only [List.take_zero, y00, Nat.add_zero, hs]; omega⟩ ?_ ?_
 · refine ⟨⟨rfl, ?_, rfl, trivial⟩, trivial, rfl⟩
   show Cell.s (.int .i64 (IntKind.i64.wrap (b - rr.length))) = Cell.s (.int .i64 (szn b (rr.length + 0)))
   rw [w1, Nat.add_zero, hs]
 · intro i ⟨hi, hb⟩ J hJ
   refine xb rfl ?_ ?_ <;> intro h
   · have h : i < rr.length := by simpa using h
     obtain ⟨row, hg⟩ : ∃ row, rr[i]? = some row := ⟨_, List.getElem?_eq_getElem h⟩
     have hc := y0o (f := tot q9) hg
     have hc2 := q0d (tot q9) rr (i + 1)
     obtain ⟨x0, rfl, h0⟩ := q08 (hw.2 row (List.mem_of_getElem? hg))
     refine xs rfl (nn_ _) (q8 rfl _ hg (xs rfl rfl ?_))
     refine z6 rfl (y4d _ _ h0 hb (y0j p1 p0)) rfl ⟨⟨trivial, trivial⟩, trivial, trivial⟩ ?_
     refine xb rfl ?_ ?_ <;> intro hn
     · have hn : szn (szn b (rr.length + y00 (tot q9) (rr.take i))) (tot q9 [.l x0]) < 0 := by simpa using hn
       rw [yi hb] at hn
       exact xv rfl rfl rfl (by show Value.int _ _ = Value.int _ _; congr 1; unfold szn zl at *; split at hn <;> rw [if_pos] <;> omega)
     · have hn : ¬ szn (szn b (rr.length + y00 (tot q9) (rr.take i))) (tot q9 [.l x0]) < 0 := by simpa using hn
       have he := yi (n := tot q9 [.l x0]) hb
       rw [he] at hn
       rw [Nat.add_assoc, ← hc] at he hn
       refine za rfl (hJ _ (i + 1) ⟨by omega, by omega⟩ (by omega) ?_)
       refine ⟨⟨cwi (by omega) (by omega) (by omega), ?_, rfl, trivial⟩, trivial, rfl⟩
       exact congrArg (fun n => Cell.s (.int .i64 n)) he
   · have h : ¬ i < rr.length := by simpa using h
     have : i = rr.length := by omega
     subst this
     exact xv rfl rfl rfl (by show Value.int _ _ = Value.int _ _; rw [List.take_length]; rfl)
theorem z8r (x0 : Int) (x1 : Int) (x2 : Int) (x3 : Int) (x4 : List (List Cell)) (x5 : List (List Cell)) (b : Int) (h4 : WR 9223372036854775807 (.i .i64 .nil) x4) (h5 : WR 9223372036854775807 zn x5) (hb0 : 0 ≤ b) (hb1 : b ≤ 1048576) : PC Tryz.prog 324 [.agg [.s (.int .i64 x0), .s (.int .i64 x1), .s (.int .i64 x2), .s (.int .i64 x3), .l x4, .l x5], .one (.s (.int .i64 b))] (rI (szn b (tot zq [.s (.int .i64 x0), .s (.int .i64 x1), .s (.int .i64 x2), .s (.int .i64 x3), .l x4, .l x5]))) := by
 refine PC.begin Tryz.func324 rfl (by kernel_rfl) ?_
 have ht : tot zq [.s (.int .i64 x0), .s (.int .i64 x1), .s (.int .i64 x2), .s (.int .i64 x3), .l x4, .l x5] = zl (.i .i64 .nil) x4 + zl zn x5 := by simp only [tot, zl] <;> omega
 refine z6 rfl (y1w x4 b h4 hb0 hb1) rfl tv3 ?_
 refine xb rfl (fun h => ?_) (fun e0 => ?_)
 · have h : szn b (zl (.i .i64 .nil) x4) < 0 := by simpa using h
   exact xv rfl rfl rfl (by show Value.int _ _ = Value.int _ _; congr 1; rw [ht]; unfold szn at *; split at h <;> rw [if_pos] <;> omega)
 have e0 : 0 ≤ szn b (zl (.i .i64 .nil) x4) := by simpa using e0
 refine z6 rfl (y3r x5 (szn b (zl (.i .i64 .nil) x4)) h5 e0 (y0j hb1 hb0)) rfl tv3 ?_
 refine xb rfl (fun h => ?_) (fun e1 => ?_)
 · have h : szn (szn b (zl (.i .i64 .nil) x4)) (zl zn x5) < 0 := by simpa using h
   rw [yi e0] at h
   exact xv rfl rfl rfl (by show Value.int _ _ = Value.int _ _; congr 1; rw [ht]; unfold szn at *; split at h <;> rw [if_pos] <;> omega)
 have e1 : 0 ≤ szn b (zl (.i .i64 .nil) x4 + zl zn x5) := by rw [← yi e0]; simpa using e1
 rw [yi e0]
 exact xv rfl rfl rfl (by show Value.int _ _ = Value.int _ _; rw [ht])
theorem q7w (rr : List (List Cell)) (b : Int) (hw : WR 9223372036854775807 zq rr) (p0 : 0 ≤ b) (p1 : b ≤ 1048576) : PC Tryz.prog 228 [.one (.l rr), .one (.s (.int .i64 b))] (rI (szn b (zl zq rr))) := by
 refine PC.begin Tryz.func228 rfl (by kernel_rfl) ?_
 have hlen := hw.1
 have w1 : IntKind.i64.wrap (b - rr.length) = b - rr.length := wrap_i64 (by omega) (by omega)
 refine xb rfl ?_ ?_ <;> intro h
 · simp only [w1, decide_eq_true_eq] at h
   exact xv rfl rfl rfl (by show Value.int _ _ = Value.int _ _; unfold szn zl; rw [if_pos (by omega)])
 simp only [w1, decide_eq_false_iff_not] at h
 have hs : szn b rr.length = b - rr.length := by unfold szn; rw [if_neg h]
 refine zc rfl (ι := Nat) (fun i => i ≤ rr.length ∧ 0 ≤ szn b (rr.length + y00 (tot zq) (rr.take i))) (fun i => ⟨[(5, sV (.int .i64 i)), (1, sV (.int .i64 (szn b (rr.length + y00 (tot zq) (rr.take i))))), (0, .one (.b (.l rr)))], []⟩) (fun i => rr.length - i) 0 ⟨Nat.zero_le _, by simp only [List.take_zero, y00, Nat.add_zero, hs]; omega⟩ ?_ ?_
 · refine ⟨⟨rfl, ?_, rfl, trivial⟩, trivial, rfl⟩
   show Cell.s (.int .i64 (IntKind.i64.wrap (b - rr.length))) = Cell.s (.int .i64 (szn b (rr.length + 0)))
   rw [w1, Nat.add_zero, hs]
 · intro i ⟨hi, hb⟩ J hJ
   refine xb rfl ?_ ?_ <;> intro h
   · have h : i < rr.length := by simpa using h
     obtain ⟨row, hg⟩ : ∃ row, rr[i]? = some row := ⟨_, List.getElem?_eq_getElem h⟩
     have hc := y0o (f := tot zq) hg
     have hc2 := q0d (tot zq) rr (i + 1)
     obtain ⟨x0, x1, x2, x3, x4, x5, rfl, h4, h5⟩ := z2c (hw.2 row (List.mem_of_getElem? hg))
     refine xs rfl (nn_ _) (q8 rfl _ hg (xs rfl rfl ?_))
     refine z6 rfl (z8r _ _ _ _ _ _ _ h4 h5 hb (y0j p1 p0)) rfl ⟨tv7, trivial, trivial⟩ ?_
     refine xb rfl ?_ ?_ <;> intro hn
     · have hn : szn (szn b (rr.length + y00 (tot zq) (rr.take i))) (tot zq [.s (.int .i64 x0), .s (.int .i64 x1), .s (.int .i64 x2), .s (.int .i64 x3), .l x4, .l x5]) < 0 := by simpa using hn
       rw [yi hb] at hn
       exact xv rfl rfl rfl (by show Value.int _ _ = Value.int _ _; congr 1; unfold szn zl at *; split at hn <;> rw [if_pos] <;> omega)
     · have hn : ¬ szn (szn b (rr.length + y00 (tot zq) (rr.take i))) (tot zq [.s (.int .i64 x0), .s (.int .i64 x1), .s (.int .i64 x2), .s (.int .i64 x3), .l x4, .l x5]) < 0 := by simpa using hn
       have he := yi (n := tot zq [.s (.int .i64 x0), .s (.int .i64 x1), .s (.int .i64 x2), .s (.int .i64 x3), .l x4, .l x5]) hb
       rw [he] at hn
       rw [Nat.add_assoc, ← hc] at he hn
       refine za rfl (hJ _ (i + 1) ⟨by omega, by omega⟩ (by omega) ?_)
       refine ⟨⟨cwi (by omega) (by omega) (by omega), ?_, rfl, trivial⟩, trivial, rfl⟩
       exact congrArg (fun n => Cell.s (.int .i64 n)) he
   · have h : ¬ i < rr.length := by simpa using h
     have : i = rr.length := by omega
     subst this
     exact xv rfl rfl rfl (by show Value.int _ _ = Value.int _ _; rw [List.take_length]; rfl)
theorem q5r (rr : List (List Cell)) (b : Int) (hw : WR 9223372036854775807 qo rr) (p0 : 0 ≤ b) (p1 : b ≤ 1048576) : PC Tryz.prog 229 [.one (.l rr), .one (.s (.int .i64 b))] (rI (szn b (zl qo rr))) := by
 refine PC.begin Tryz.func229 rfl (by kernel_rfl) ?_
 have hlen := hw.1
 have w1 : IntKind.i64.wrap (b - rr.length) = b - rr.length := wrap_i64 (by omega) (by omega)
 rw [q0s (fun row hr => by obtain ⟨x0, x1, x2, x3, x4, rfl⟩ := y12 hr; rfl) hw]
 refine xb rfl ?_ ?_ <;> intro h
 · simp only [w1, decide_eq_true_eq] at h
   exact xv rfl rfl rfl (by show Value.int _ _ = Value.int _ _; rw [szn, if_pos h])
 · simp only [w1, decide_eq_false_iff_not] at h
   exact xv rfl rfl rfl (by show Value.int .i64 (IntKind.i64.wrap (b - rr.length)) = Value.int _ _; rw [szn, if_neg h, w1])
theorem z5s (x0 : Int) (x1 : List (List Cell)) (x2 : List (List Cell)) (b : Int) (h1 : WR 9223372036854775807 zq x1) (h2 : WR 9223372036854775807 qo x2) (hb0 : 0 ≤ b) (hb1 : b ≤ 1048576) : PC Tryz.prog 130 [.agg [.s (.int .i64 x0), .l x1, .l x2], .one (.s (.int .i64 b))] (rI (szn b (tot qd [.s (.int .i64 x0), .l x1, .l x2]))) := by
 refine PC.begin Tryz.func130 rfl (by kernel_rfl) ?_
 have ht : tot qd [.s (.int .i64 x0), .l x1, .l x2] = zl zq x1 + zl qo x2 := by simp only [tot, zl] <;> omega
 refine z6 rfl (q7w x1 b h1 hb0 hb1) rfl tv3 ?_
 refine xb rfl (fun h => ?_) (fun e0 => ?_)
 · have h : szn b (zl zq x1) < 0 := by simpa using h
   exact xv rfl rfl rfl (by show Value.int _ _ = Value.int _ _; congr 1; rw [ht]; unfold szn at *; split at h <;> rw [if_pos] <;> omega)
 have e0 : 0 ≤ szn b (zl zq x1) := by simpa using e0
 refine z6 rfl (q5r x2 (szn b (zl zq x1)) h2 e0 (y0j hb1 hb0)) rfl tv3 ?_
 refine xb rfl (fun h => ?_) (fun e1 => ?_)
 · have h : szn (szn b (zl zq x1)) (zl qo x2) < 0 := by simpa using h
   rw [yi e0] at h
   exact xv rfl rfl rfl (by show Value.int _ _ = Value.int _ _; congr 1; rw [ht]; unfold szn at *; split at h <;> rw [if_pos] <;> omega)
 have e1 : 0 ≤ szn b (zl zq x1 + zl qo x2) := by rw [← yi e0]; simpa using e1
 rw [yi e0]
 exact xv rfl rfl rfl (by show Value.int _ _ = Value.int _ _; rw [ht])
theorem z56 (rr : List (List Cell)) (b : Int) (hw : WR 9223372036854775807 qd rr) (p0 : 0 ≤ b) (p1 : b ≤ 1048576) : PC Tryz.prog 50 [.one (.l rr), .one (.s (.int .i64 b))] (rI (szn b (zl qd rr))) := by
 refine PC.begin Tryz.func50 rfl (by kernel_rfl) ?_
 have hlen := hw.1
 have w1 : IntKind.i64.wrap (b - rr.length) = b - rr.length := wrap_i64 (by omega) (by omega)
 refine xb rfl ?_ ?_ <;> intro h
 · simp only [w1, decide_eq_true_eq] at h
   exact xv rfl rfl rfl (by show Value.int _ _ = Value.int _ _; unfold szn zl; rw [if_pos (by omega)])
 simp only [w1, decide_eq_false_iff_not] at h
 have hs : szn b rr.length = b - rr.length := by unfold szn; rw [if_neg h]
 refine zc rfl (ι := Nat) (fun i => i ≤ rr.length ∧ 0 ≤ szn b (rr.length + y00 (tot qd) (rr.take i))) (fun i => ⟨[(5, sV (.int .i64 i)), (1, sV (.int .i64 (szn b (rr.length + y00 (tot qd) (rr.take i))))), (0, .one (.b (.l rr)))], []⟩) (fun i => rr.length - i) 0 ⟨Nat.zero_le _, by simp only [List.take_zero, y00, Nat.add_zero, hs]; omega⟩ ?_ ?_
 · refine ⟨⟨rfl, ?_, rfl, trivial⟩, trivial, rfl⟩
   show Cell.s (.int .i64 (IntKind.i64.wrap (b - rr.length))) = Cell.s (.int .i64 (szn b (rr.length + 0)))
   rw [w1, Nat.add_zero, hs]
 · intro i ⟨hi, hb⟩ J hJ
   refine xb rfl ?_ ?_ <;> intro h
   · have h : i < rr.length := by simpa using h
     obtain ⟨row, hg⟩ : ∃ row, rr[i]? = some row := ⟨_, List.getElem?_eq_getElem h⟩
     have hc := y0o (f := tot qd) hg
     have hc2 := q0d (tot qd) rr (i + 1)
     obtain ⟨x0, x1, x2, rfl, h1, h2⟩ := q0n (hw.2 row (List.mem_of_getElem? hg))
     refine xs rfl (nn_ _) (q8 rfl _ hg (xs rfl rfl ?_))
     refine z6 rfl (z5s _ _ _ _ h1 h2 hb (y0j p1 p0)) rfl ⟨tv4, trivial, trivial⟩ ?_
     refine xb rfl ?_ ?_ <;> intro hn
     · have hn : szn (szn b (rr.length + y00 (tot qd) (rr.take i))) (tot qd [.s (.int .i64 x0), .l x1, .l x2]) < 0 := by simpa using hn
       rw [yi hb] at hn
       exact xv rfl rfl rfl (by show Value.int _ _ = Value.int _ _; congr 1; unfold szn zl at *; split at hn <;> rw [if_pos] <;> omega)
     · have hn : ¬ szn (szn b (rr.length + y00 (tot qd) (rr.take i))) (tot qd [.s (.int .i64 x0), .l x1, .l x2]) < 0 := by simpa using hn
       have he := yi (n := tot qd [.s (.int .i64 x0), .l x1, .l x2]) hb
       rw [he] at hn
       rw [Nat.add_assoc, ← hc] at he hn
       refine za rfl (hJ _ (i + 1) ⟨by omega, by omega⟩ (by omega) ?_)
       refine ⟨⟨cwi (by omega) (by omega) (by omega), ?_, rfl, trivial⟩, trivial, rfl⟩
       exact congrArg (fun n => Cell.s (.int .i64 n)) he
   · have h : ¬ i < rr.length := by simpa using h
     have : i = rr.length := by omega
     subst this
     exact xv rfl rfl rfl (by show Value.int _ _ = Value.int _ _; rw [List.take_length]; rfl)
theorem y4e (rr : List (List Cell)) (b : Int) (hw : WR 9223372036854775807 qg rr) (p0 : 0 ≤ b) (p1 : b ≤ 1048576) : PC Tryz.prog 51 [.one (.l rr), .one (.s (.int .i64 b))] (rI (szn b (zl qg rr))) := by
 refine PC.begin Tryz.func51 rfl (by kernel_rfl) ?_
 have hlen := hw.1
 have w1 : IntKind.i64.wrap (b - rr.length) = b - rr.length := wrap_i64 (by omega) (by omega)
 rw [q0s (fun row hr => by obtain ⟨x0, x1, x2, x3, x4, x5, x6, x7, x8, rfl⟩ := z0f hr; rfl) hw]
 refine xb rfl ?_ ?_ <;> intro h
 · simp only [w1, decide_eq_true_eq] at h
   exact xv rfl rfl rfl (by show Value.int _ _ = Value.int _ _; rw [szn, if_pos h])
 · simp only [w1, decide_eq_false_iff_not] at h
   exact xv rfl rfl rfl (by show Value.int .i64 (IntKind.i64.wrap (b - rr.length)) = Value.int _ _; rw [szn, if_neg h, w1])
theorem q55 (x0 : List (List Cell)) (x1 : List (List Cell)) (x2 : List (List Cell)) (x3 : List (List Cell)) (x4 : List (List Cell)) (b : Int) (h0 : WR 9223372036854775807 z8 x0) (h1 : WR 9223372036854775807 zf x1) (h2 : WR 9223372036854775807 q9 x2) (h3 : WR 9223372036854775807 qd x3) (h4 : WR 9223372036854775807 qg x4) (hb0 : 0 ≤ b) (hb1 : b ≤ 1048576) : PC Tryz.prog 9 [.agg [.l x0, .l x1, .l x2, .l x3, .l x4], .one (.s (.int .i64 b))] (rI (szn b (tot yp [.l x0, .l x1, .l x2, .l x3, .l x4]))) := by
 refine PC.begin Tryz.func9 rfl (by kernel_rfl) ?_
 have ht : tot yp [.l x0, .l x1, .l x2, .l x3, .l x4] = zl z8 x0 + zl zf x1 + zl q9 x2 + zl qd x3 + zl qg x4 := by simp only [tot, zl] <;> omega
 refine z6 rfl (y1q x0 b h0 hb0 hb1) rfl tv3 ?_
 refine xb rfl (fun h => ?_) (fun e0 => ?_)
 · have h : szn b (zl z8 x0) < 0 := by simpa using h
   exact xv rfl rfl rfl (by show Value.int _ _ = Value.int _ _; congr 1; rw [ht]; unfold szn at *; split at h <;> rw [if_pos] <;> omega)
 have e0 : 0 ≤ szn b (zl z8 x0) := by simpa using e0
 refine z6 rfl (y5s x1 (szn b (zl z8 x0)) h1 e0 (y0j hb1 hb0)) rfl tv3 ?_
 refine xb rfl (fun h => ?_) (fun e1 => ?_)
 · have h : szn (szn b (zl z8 x0)) (zl zf x1) < 0 := by simpa using h
   rw [yi e0] at h
   exact xv rfl rfl rfl (by show Value.int _ _ = Value.int _ _; congr 1; rw [ht]; unfold szn at *; split at h <;> rw [if_pos] <;> omega)
 have e1 : 0 ≤ szn b (zl z8 x0 + zl zf x1) := by rw [← yi e0]; simpa using e1
 rw [yi e0]
 refine z6 rfl (q3i x2 (szn b (zl z8 x0 + zl zf x1)) h2 e1 (y0j hb1 hb0)) rfl tv3 ?_
 refine xb rfl (fun h => ?_) (fun e2 => ?_)
 · have h : szn (szn b (zl z8 x0 + zl zf x1)) (zl q9 x2) < 0 := by simpa using h
   rw [yi e1] at h
   exact xv rfl rfl rfl (by show Value.int _ _ = Value.int _ _; congr 1; rw [ht]; unfold szn at *; split at h <;> rw [if_pos] <;> omega)
 have e2 : 0 ≤ szn b (zl z8 x0 + zl zf x1 + zl q9 x2) := by rw [← yi e1]; simpa using e2
 rw [yi e1]
 refine z6 rfl (z56 x3 (szn b (zl z8 x0 + zl zf x1 + zl q9 x2)) h3 e2 (y0j hb1 hb0)) rfl tv3 ?_
 refine xb rfl (fun h => ?_) (fun e3 => ?_)
 · have h : szn (szn b (zl z8 x0 + zl zf x1 + zl q9 x2)) (zl qd x3) < 0 := by simpa using h
   rw [yi e2] at h
   exact xv rfl rfl rfl (by show Value.int _ _ = Value.int _ _; congr 1; rw [ht]; unfold szn at *; split at h <;> rw [if_pos] <;> omega)
 have e3 : 0 ≤ szn b (zl z8 x0 + zl zf x1 + zl q9 x2 + zl qd x3) := by rw [← yi e2]; simpa using e3
 rw [yi e2]
 refine z6 rfl (y4e x4 (szn b (zl z8 x0 + zl zf x1 + zl q9 x2 + zl qd x3)) h4 e3 (y0j hb1 hb0)) rfl tv3 ?_
 refine xb rfl (fun h => ?_) (fun e4 => ?_)
 · have h : szn (szn b (zl z8 x0 + zl zf x1 + zl q9 x2 + zl qd x3)) (zl qg x4) < 0 := by simpa using h
   rw [yi e3] at h
   exact xv rfl rfl rfl (by show Value.int _ _ = Value.int _ _; congr 1; rw [ht]; unfold szn at *; split at h <;> rw [if_pos] <;> omega)
 have e4 : 0 ≤ szn b (zl z8 x0 + zl zf x1 + zl q9 x2 + zl qd x3 + zl qg x4) := by rw [← yi e3]; simpa using e4
 rw [yi e3]
 exact xv rfl rfl rfl (by show Value.int _ _ = Value.int _ _; rw [ht])
theorem y8r (x0 : Int) (x1 : Int) (x2 : Int) (x3 : Int)  : PC Tryz.prog 202 [.agg [.s (.int .i64 x0), .s (.int .i64 x1), .s (.int .i64 x2), .s (.int .i64 x3)]] (.one (.own true [.s (.int .i64 x0), .s (.int .i64 x1), .s (.int .i64 x2), .s (.int .i64 x3)])) := by
 refine PC.begin Tryz.func202 rfl (by kernel_rfl) ?_
 exact xr rfl (zm rfl ⟨⟨rfl, rfl, rfl, rfl, rfl, trivial⟩, z7 rfl⟩)
theorem y7x (rr : List (List Cell)) (hw : WR 1048576 qn rr) : PC Tryz.prog 120 [.one (.l rr)] (.one (.own false [.l 4 rr])) := by
 refine PC.begin Tryz.func120 rfl (by kernel_rfl) ?_
 have hlen := hw.1
 refine xs rfl rfl (xs rfl (nn_ _) (xs rfl (by omega) (xs rfl (by omega) ?_)))
 refine zc rfl (ι := Nat) (fun i => i ≤ rr.length) (fun i => ⟨[(4, sV (.int .i64 i)), (3, .one (.h 7 rr.length)), (0, .one (.b (.l rr)))], [(7, .arr true 4 0 (rr.take i ++ List.replicate (rr.length - i) [.s (.int .i64 0), .s (.int .i64 0), .s (.int .i64 0), .s (.int .i64 0)]))]⟩) (fun i => rr.length - i) 0 (Nat.zero_le _) ?_ ?_
 · repeat' (first | exact trivial | exact rfl | exact Or.inl rfl | refine And.intro ?_ ?_)
 · intro i hi J hJ
   refine xb rfl ?_ ?_ <;> intro h
   · have h : i < rr.length := by simpa using h
     obtain ⟨row, hg⟩ : ∃ row, rr[i]? = some row := ⟨_, List.getElem?_eq_getElem h⟩
     obtain ⟨x0, x1, x2, x3, rfl⟩ := z1u (hw.2 row (List.mem_of_getElem? hg))
     refine xs rfl (nn_ _) (q8 rfl _ hg (xs rfl rfl ?_))
     refine z6 rfl (y8r _ _ _ _) rfl ⟨tv5, trivial⟩ ?_
     refine xs rfl (zg _ _ _ _ (by omega) rfl).symm (xs rfl (nn_ _) (q8 rfl [.s (.int .i64 0), .s (.int .i64 0), .s (.int .i64 0), .s (.int .i64 0)] (qm _ _ _ _ (by omega) rfl) (xs rfl rfl ?_)))
     refine xs rfl (zg _ _ _ _ (by omega) rfl).symm (q8 rfl [.s (.int .i64 0), .s (.int .i64 0), .s (.int .i64 0), .s (.int .i64 0)] (qm _ _ _ _ (by omega) rfl) (xs rfl (by decide) (xs rfl tv5 ?_)))
     refine za rfl (hJ _ (i + 1) (by omega) (by omega) ?_)
     repeat' (first | exact trivial | exact rfl | exact Or.inl rfl | exact cwi (by omega) (by omega) (by omega) | refine And.intro ?_ ?_)
     exact q02 _ _ _ _ _ hg rfl
   · have h : ¬ i < rr.length := by simpa using h
     have : i = rr.length := by omega
     subst this
     refine xr rfl (zm rfl ⟨⟨rfl, ⟨(zg _ _ _ _ (by omega) rfl).symm, q01 _ _ _ rfl, Or.inl rfl⟩, trivial⟩, z7 rfl⟩)
theorem q4f (x0 : Int) (x1 : List (List Cell)) (h1 : WR 1048576 qn x1) : PC Tryz.prog 38 [.agg [.s (.int .i64 x0), .l x1]] (.one (.own true [.s (.int .i64 x0), .l 4 x1])) := by
 refine PC.begin Tryz.func38 rfl (by kernel_rfl) ?_
 refine z6 rfl (y7x _ h1) rfl ⟨trivial, trivial⟩ ?_
 exact xr rfl (zm rfl ⟨⟨rfl, rfl, ⟨rfl, rfl, .inl rfl⟩, trivial⟩, z7 rfl⟩)
theorem q1q (rr : List (List Cell)) (hw : WR 1048576 z8 rr) : PC Tryz.prog 55 [.one (.l rr)] (.one (.own false [.l 2 rr])) := by
 refine PC.begin Tryz.func55 rfl (by kernel_rfl) ?_
 have hlen := hw.1
 refine xs rfl rfl (xs rfl (nn_ _) (xs rfl (by omega) (xs rfl (by omega) ?_)))
 refine zc rfl (ι := Nat) (fun i => i ≤ rr.length) (fun i => ⟨[(4, sV (.int .i64 i)), (3, .one (.h 7 rr.length)), (0, .one (.b (.l rr)))], [(7, .arr true 2 0 (rr.take i ++ List.replicate (rr.length - i) [.s (.int .i64 0), .l []]))]⟩) (fun i => rr.length - i) 0 (Nat.zero_le _) ?_ ?_
 · repeat' (first | exact trivial | exact rfl | exact Or.inl rfl | refine And.intro ?_ ?_)
 · intro i hi J hJ
   refine xb rfl ?_ ?_ <;> intro h
   · have h : i < rr.length := by simpa using h
     obtain ⟨row, hg⟩ : ∃ row, rr[i]? = some row := ⟨_, List.getElem?_eq_getElem h⟩
     obtain ⟨x0, x1, rfl, h1⟩ := z09 (hw.2 row (List.mem_of_getElem? hg))
     refine xs rfl (nn_ _) (q8 rfl _ hg (xs rfl rfl ?_))
     refine z6 rfl (q4f _ _ h1) rfl ⟨tv3, trivial⟩ ?_
     refine xs rfl (zg _ _ _ _ (by omega) rfl).symm (xs rfl (nn_ _) (q8 rfl [.s (.int .i64 0), .l []] (qm _ _ _ _ (by omega) rfl) (xs rfl rfl ?_)))
     refine xs rfl (zg _ _ _ _ (by omega) rfl).symm (q8 rfl [.s (.int .i64 0), .l []] (qm _ _ _ _ (by omega) rfl) (xs rfl (by decide) (xs rfl ⟨trivial, ⟨rfl, rfl⟩, trivial⟩ ?_)))
     refine za rfl (hJ _ (i + 1) (by omega) (by omega) ?_)
     repeat' (first | exact trivial | exact rfl | exact Or.inl rfl | exact cwi (by omega) (by omega) (by omega) | refine And.intro ?_ ?_)
     exact q02 _ _ _ _ _ hg rfl
   · have h : ¬ i < rr.length := by simpa using h
     have : i = rr.length := by omega
     subst this
     refine xr rfl (zm rfl ⟨⟨rfl, ⟨(zg _ _ _ _ (by omega) rfl).symm, q01 _ _ _ rfl, Or.inl rfl⟩, trivial⟩, z7 rfl⟩)
theorem q56 (x0 : Int) (x1 : Int) (x2 : Int)  : PC Tryz.prog 286 [.agg [.s (.int .i64 x0), .s (.int .i64 x1), .s (.int .i64 x2)]] (.one (.own true [.s (.int .i64 x0), .s (.int .i64 x1), .s (.int .i64 x2)])) := by
 refine PC.begin Tryz.func286 rfl (by kernel_rfl) ?_
 exact xr rfl (zm rfl ⟨⟨rfl, rfl, rfl, rfl, trivial⟩, z7 rfl⟩)
theorem y4f (rr : List (List Cell)) (hw : WR 1048576 yd rr) : PC Tryz.prog 189 [.one (.l rr)] (.one (.own false [.l 3 rr])) := by
 refine PC.begin Tryz.func189 rfl (by kernel_rfl) ?_
 have hlen := hw.1
 refine xs rfl rfl (xs rfl (nn_ _) (xs rfl (by omega) (xs rfl (by omega) ?_)))
 refine zc rfl (ι := Nat) (fun i => i ≤ rr.length) (fun i => ⟨[(4, sV (.int .i64 i)), (3, .one (.h 7 rr.length)), (0, .one (.b (.l rr)))], [(7, .arr true 3 0 (rr.take i ++ List.replicate (rr.length - i) [.s (.int .i64 0), .s (.int .i64 0), .s (.int .i64 0)]))]⟩) (fun i => rr.length - i) 0 (Nat.zero_le _) ?_ ?_
 · repeat' (first | exact trivial | exact rfl | exact Or.inl rfl | refine And.intro ?_ ?_)
 · intro i hi J hJ
   refine xb rfl ?_ ?_ <;> intro h
   · have h : i < rr.length := by simpa using h
     obtain ⟨row, hg⟩ : ∃ row, rr[i]? = some row := ⟨_, List.getElem?_eq_getElem h⟩
     obtain ⟨x0, x1, x2, rfl⟩ := q0e (hw.2 row (List.mem_of_getElem? hg))
     refine xs rfl (nn_ _) (q8 rfl _ hg (xs rfl rfl ?_))
     refine z6 rfl (q56 _ _ _) rfl ⟨tv4, trivial⟩ ?_
     refine xs rfl (zg _ _ _ _ (by omega) rfl).symm (xs rfl (nn_ _) (q8 rfl [.s (.int .i64 0), .s (.int .i64 0), .s (.int .i64 0)] (qm _ _ _ _ (by omega) rfl) (xs rfl rfl ?_)))
     refine xs rfl (zg _ _ _ _ (by omega) rfl).symm (q8 rfl [.s (.int .i64 0), .s (.int .i64 0), .s (.int .i64 0)] (qm _ _ _ _ (by omega) rfl) (xs rfl (by decide) (xs rfl tv4 ?_)))
     refine za rfl (hJ _ (i + 1) (by omega) (by omega) ?_)
     repeat' (first | exact trivial | exact rfl | exact Or.inl rfl | exact cwi (by omega) (by omega) (by omega) | refine And.intro ?_ ?_)
     exact q02 _ _ _ _ _ hg rfl
   · have h : ¬ i < rr.length := by simpa using h
     have : i = rr.length := by omega
     subst this
     refine xr rfl (zm rfl ⟨⟨rfl, ⟨(zg _ _ _ _ (by omega) rfl).symm, q01 _ _ _ rfl, Or.inl rfl⟩, trivial⟩, z7 rfl⟩)
theorem q7x (x0 : Int) (x1 : Int)  : PC Tryz.prog 329 [.agg [.s (.int .i64 x0), .s (.int .i64 x1)]] (.one (.own true [.s (.int .i64 x0), .s (.int .i64 x1)])) := by
 refine PC.begin Tryz.func329 rfl (by kernel_rfl) ?_
 exact xr rfl (zm rfl ⟨⟨rfl, rfl, rfl, trivial⟩, z7 rfl⟩)
theorem q3r (rr : List (List Cell)) (hw : WR 1048576 zi rr) : PC Tryz.prog 241 [.one (.l rr)] (.one (.own false [.l 2 rr])) := by
 refine PC.begin Tryz.func241 rfl (by kernel_rfl) ?_
 have hlen := hw.1
 refine xs rfl rfl (xs rfl (nn_ _) (xs rfl (by omega) (xs rfl (by omega) ?_)))
 refine zc rfl (ι := Nat) (fun i => i ≤ rr.length) (fun i => ⟨[(4, sV (.int .i64 i)), (3, .one (.h 7 rr.length)), (0, .one (.b (.l rr)))], [(7, .arr true 2 0 (rr.take i ++ List.replicate (rr.length - i) [.s (.int .i64 0), .s (.int .i64 0)]))]⟩) (fun i => rr.length - i) 0 (Nat.zero_le _) ?_ ?_
 · repeat' (first | exact trivial | exact rfl | exact Or.inl rfl | refine And.intro ?_ ?_)
 · intro i hi J hJ
   refine xb rfl ?_ ?_ <;> intro h
   · have h : i < rr.length := by simpa using h
     obtain ⟨row, hg⟩ : ∃ row, rr[i]? = some row := ⟨_, List.getElem?_eq_getElem h⟩
     obtain ⟨x0, x1, rfl⟩ := q1j (hw.2 row (List.mem_of_getElem? hg))
     refine xs rfl (nn_ _) (q8 rfl _ hg (xs rfl rfl ?_))
     refine z6 rfl (q7x _ _) rfl ⟨tv3, trivial⟩ ?_
     refine xs rfl (zg _ _ _ _ (by omega) rfl).symm (xs rfl (nn_ _) (q8 rfl [.s (.int .i64 0), .s (.int .i64 0)] (qm _ _ _ _ (by omega) rfl) (xs rfl rfl ?_)))
     refine xs rfl (zg _ _ _ _ (by omega) rfl).symm (q8 rfl [.s (.int .i64 0), .s (.int .i64 0)] (qm _ _ _ _ (by omega) rfl) (xs rfl (by decide) (xs rfl tv3 ?_)))
     refine za rfl (hJ _ (i + 1) (by omega) (by omega) ?_)
     repeat' (first | exact trivial | exact rfl | exact Or.inl rfl | exact cwi (by omega) (by omega) (by omega) | refine And.intro ?_ ?_)
     exact q02 _ _ _ _ _ hg rfl
   · have h : ¬ i < rr.length := by simpa using h
     have : i = rr.length := by omega
     subst this
     refine xr rfl (zm rfl ⟨⟨rfl, ⟨(zg _ _ _ _ (by omega) rfl).symm, q01 _ _ _ rfl, Or.inl rfl⟩, trivial⟩, z7 rfl⟩)
theorem q1w (rr : List (List Cell)) (hw : WR 1048576 (.i .i64 .nil) rr) : PC Tryz.prog 170 [.one (.l rr)] (.one (.own false [.l 1 rr])) := by
 refine PC.begin Tryz.func170 rfl (by kernel_rfl) ?_
 have hlen := hw.1
 refine xs rfl rfl (xs rfl (nn_ _) (xs rfl (by omega) (xs rfl (by omega) ?_)))
 refine zc rfl (ι := Nat) (fun i => i ≤ rr.length) (fun i => ⟨[(4, sV (.int .i64 i)), (3, .one (.h 7 rr.length)), (0, .one (.b (.l rr)))], [(7, .arr true 1 0 (rr.take i ++ List.replicate (rr.length - i) [.s (.int .i64 0)]))]⟩) (fun i => rr.length - i) 0 (Nat.zero_le _) ?_ ?_
 · repeat' (first | exact trivial | exact rfl | exact Or.inl rfl | refine And.intro ?_ ?_)
 · intro i hi J hJ
   refine xb rfl ?_ ?_ <;> intro h
   · have h : i < rr.length := by simpa using h
     obtain ⟨row, hg⟩ : ∃ row, rr[i]? = some row := ⟨_, List.getElem?_eq_getElem h⟩
     obtain ⟨x0, _, rfl, hnil⟩ := ((hw.2 row (List.mem_of_getElem? hg))).yv; obtain rfl := hnil.yy
     refine xs rfl (nn_ _) (q8 rfl _ hg (xs rfl rfl ?_))
     refine xs rfl (zg _ _ _ _ (by omega) rfl).symm (xs rfl (nn_ _) (q8 rfl [.s (.int .i64 0)] (qm _ _ _ _ (by omega) rfl) (xs rfl rfl ?_)))
     refine xs rfl (zg _ _ _ _ (by omega) rfl).symm (q8 rfl [.s (.int .i64 0)] (qm _ _ _ _ (by omega) rfl) (xs rfl (by decide) (xs rfl ⟨trivial, trivial⟩ ?_)))
     refine za rfl (hJ _ (i + 1) (by omega) (by omega) ?_)
     repeat' (first | exact trivial | exact rfl | exact Or.inl rfl | exact cwi (by omega) (by omega) (by omega) | refine And.intro ?_ ?_)
     exact q02 _ _ _ _ _ hg rfl
   · have h : ¬ i < rr.length := by simpa using h
     have : i = rr.length := by omega
     subst this
     refine xr rfl (zm rfl ⟨⟨rfl, ⟨(zg _ _ _ _ (by omega) rfl).symm, q01 _ _ _ rfl, Or.inl rfl⟩, trivial⟩, z7 rfl⟩)
theorem z6v (x0 : Int) (x1 : List (List Cell)) (x2 : List (List Cell)) (x3 : List (List Cell)) (x4 : List (List Cell)) (x5 : List (List Cell)) (h1 : WR 1048576 yd x1) (h2 : WR 1048576 zi x2) (h3 : WR 1048576 z8 x3) (h4 : WR 1048576 zi x4) (h5 : WR 1048576 (.i .i64 .nil) x5) : PC Tryz.prog 136 [.agg [.s (.int .i64 x0), .l x1, .l x2, .l x3, .l x4, .l x5]] (.one (.own true [.s (.int .i64 x0), .l 3 x1, .l 2 x2, .l 2 x3, .l 2 x4, .l 1 x5])) := by
 refine PC.begin Tryz.func136 rfl (by kernel_rfl) ?_
 refine z6 rfl (y4f _ h1) rfl ⟨trivial, trivial⟩ (z6 rfl (q3r _ h2) rfl ⟨trivial, trivial⟩ (z6 rfl (q1q _ h3) rfl ⟨trivial, trivial⟩ (z6 rfl (q3r _ h4) rfl ⟨trivial, trivial⟩ (z6 rfl (q1w _ h5) rfl ⟨trivial, trivial⟩ ?_))))
 exact xr rfl (zm rfl ⟨⟨rfl, rfl, ⟨rfl, rfl, .inl rfl⟩, ⟨rfl, rfl, .inl rfl⟩, ⟨rfl, rfl, .inl rfl⟩, ⟨rfl, rfl, .inl rfl⟩, ⟨rfl, rfl, .inl rfl⟩, trivial⟩, z7 rfl⟩)
theorem y5t (rr : List (List Cell)) (hw : WR 1048576 zf rr) : PC Tryz.prog 56 [.one (.l rr)] (.one (.own false [.l 6 rr])) := by
 refine PC.begin Tryz.func56 rfl (by kernel_rfl) ?_
 have hlen := hw.1
 refine xs rfl rfl (xs rfl (nn_ _) (xs rfl (by omega) (xs rfl (by omega) ?_)))
 refine zc rfl (ι := Nat) (fun i => i ≤ rr.length) (fun i => ⟨[(4, sV (.int .i64 i)), (3, .one (.h 7 rr.length)), (0, .one (.b (.l rr)))], [(7, .arr true 6 0 (rr.take i ++ List.replicate (rr.length - i) [.s (.int .i64 0), .l [], .l [], .l [], .l [], .l []]))]⟩) (fun i => rr.length - i) 0 (Nat.zero_le _) ?_ ?_
 · repeat' (first | exact trivial | exact rfl | exact Or.inl rfl | refine And.intro ?_ ?_)
 · intro i hi J hJ
   refine xb rfl ?_ ?_ <;> intro h
   · have h : i < rr.length := by simpa using h
     obtain ⟨row, hg⟩ : ∃ row, rr[i]? = some row := ⟨_, List.getElem?_eq_getElem h⟩
     obtain ⟨x0, x1, x2, x3, x4, x5, rfl, h1, h2, h3, h4, h5⟩ := q12 (hw.2 row (List.mem_of_getElem? hg))
     refine xs rfl (nn_ _) (q8 rfl _ hg (xs rfl rfl ?_))
     refine z6 rfl (z6v _ _ _ _ _ _ h1 h2 h3 h4 h5) rfl ⟨tv7, trivial⟩ ?_
     refine xs rfl (zg _ _ _ _ (by omega) rfl).symm (xs rfl (nn_ _) (q8 rfl [.s (.int .i64 0), .l [], .l [], .l [], .l [], .l []] (qm _ _ _ _ (by omega) rfl) (xs rfl rfl ?_)))
     refine xs rfl (zg _ _ _ _ (by omega) rfl).symm (q8 rfl [.s (.int .i64 0), .l [], .l [], .l [], .l [], .l []] (qm _ _ _ _ (by omega) rfl) (xs rfl (by decide) (xs rfl ⟨trivial, ⟨rfl, rfl⟩, ⟨rfl, rfl⟩, ⟨rfl, rfl⟩, ⟨rfl, rfl⟩, ⟨rfl, rfl⟩, trivial⟩ ?_)))
     refine za rfl (hJ _ (i + 1) (by omega) (by omega) ?_)
     repeat' (first | exact trivial | exact rfl | exact Or.inl rfl | exact cwi (by omega) (by omega) (by omega) | refine And.intro ?_ ?_)
     exact q02 _ _ _ _ _ hg rfl
   · have h : ¬ i < rr.length := by simpa using h
     have : i = rr.length := by omega
     subst this
     refine xr rfl (zm rfl ⟨⟨rfl, ⟨(zg _ _ _ _ (by omega) rfl).symm, q01 _ _ _ rfl, Or.inl rfl⟩, trivial⟩, z7 rfl⟩)
theorem y3a (x0 : Int) (x1 : Int)  : PC Tryz.prog 245 [.agg [.s (.int .i64 x0), .s (.int .i64 x1)]] (.one (.own true [.s (.int .i64 x0), .s (.int .i64 x1)])) := by
 refine PC.begin Tryz.func245 rfl (by kernel_rfl) ?_
 exact xr rfl (zm rfl ⟨⟨rfl, rfl, rfl, trivial⟩, z7 rfl⟩)
theorem z3s (rr : List (List Cell)) (hw : WR 1048576 zn rr) : PC Tryz.prog 414 [.one (.l rr)] (.one (.own false [.l 2 rr])) := by
 refine PC.begin Tryz.func414 rfl (by kernel_rfl) ?_
 have hlen := hw.1
 refine xs rfl rfl (xs rfl (nn_ _) (xs rfl (by omega) (xs rfl (by omega) ?_)))
 refine zc rfl (ι := Nat) (fun i => i ≤ rr.length) (fun i => ⟨[(4, sV (.int .i64 i)), (3, .one (.h 7 rr.length)), (0, .one (.b (.l rr)))], [(7, .arr true 2 0 (rr.take i ++ List.replicate (rr.length - i) [.s (.int .i64 0), .s (.int .i64 0)]))]⟩) (fun i => rr.length - i) 0 (Nat.zero_le _) ?_ ?_
 · repeat' (first | exact trivial | exact rfl | exact Or.inl rfl | refine And.intro ?_ ?_)
 · intro i hi J hJ
   refine xb rfl ?_ ?_ <;> intro h
   · have h : i < rr.length := by simpa using h
     obtain ⟨row, hg⟩ : ∃ row, rr[i]? = some row := ⟨_, List.getElem?_eq_getElem h⟩
     obtain ⟨x0, x1, rfl⟩ := y1k (hw.2 row (List.mem_of_getElem? hg))
     refine xs rfl (nn_ _) (q8 rfl _ hg (xs rfl rfl ?_))
     refine z6 rfl (y3a _ _) rfl ⟨tv3, trivial⟩ ?_
     refine xs rfl (zg _ _ _ _ (by omega) rfl).symm (xs rfl (nn_ _) (q8 rfl [.s (.int .i64 0), .s (.int .i64 0)] (qm _ _ _ _ (by omega) rfl) (xs rfl rfl ?_)))
     refine xs rfl (zg _ _ _ _ (by omega) rfl).symm (q8 rfl [.s (.int .i64 0), .s (.int .i64 0)] (qm _ _ _ _ (by omega) rfl) (xs rfl (by decide) (xs rfl tv3 ?_)))
     refine za rfl (hJ _ (i + 1) (by omega) (by omega) ?_)
     repeat' (first | exact trivial | exact rfl | exact Or.inl rfl | exact cwi (by omega) (by omega) (by omega) | refine And.intro ?_ ?_)
     exact q02 _ _ _ _ _ hg rfl
   · have h : ¬ i < rr.length := by simpa using h
     have : i = rr.length := by omega
     subst this
     refine xr rfl (zm rfl ⟨⟨rfl, ⟨(zg _ _ _ _ (by omega) rfl).symm, q01 _ _ _ rfl, Or.inl rfl⟩, trivial⟩, z7 rfl⟩)
theorem z7y (x0 : Int) (x1 : Int) (x2 : Int) (x3 : Int) (x4 : Int) (x5 : List (List Cell)) (h5 : WR 1048576 zn x5) : PC Tryz.prog 330 [.agg [.s (.int .i64 x0), .s (.int .i64 x1), .s (.int .i64 x2), .s (.int .i64 x3), .s (.int .i64 x4), .l x5]] (.one (.own true [.s (.int .i64 x0), .s (.int .i64 x1), .s (.int .i64 x2), .s (.int .i64 x3), .s (.int .i64 x4), .l 2 x5])) := by
 refine PC.begin Tryz.func330 rfl (by kernel_rfl) ?_
 refine z6 rfl (y3a _ _) rfl ⟨tv3, trivial⟩ (z6 rfl (z3s _ h5) rfl ⟨trivial, trivial⟩ ?_)
 exact xr rfl (zm rfl ⟨⟨rfl, rfl, rfl, rfl, rfl, rfl, ⟨rfl, rfl, .inl rfl⟩, trivial⟩, z7 rfl⟩)
theorem y6v (rr : List (List Cell)) (hw : WR 1048576 ql rr) : PC Tryz.prog 242 [.one (.l rr)] (.one (.own false [.l 6 rr])) := by
 refine PC.begin Tryz.func242 rfl (by kernel_rfl) ?_
 have hlen := hw.1
 refine xs rfl rfl (xs rfl (nn_ _) (xs rfl (by omega) (xs rfl (by omega) ?_)))
 refine zc rfl (ι := Nat) (fun i => i ≤ rr.length) (fun i => ⟨[(4, sV (.int .i64 i)), (3, .one (.h 7 rr.length)), (0, .one (.b (.l rr)))], [(7, .arr true 6 0 (rr.take i ++ List.replicate (rr.length - i) [.s (.int .i64 0), .s (.int .i64 0), .s (.int .i64 0), .s (.int .i64 0), .s (.int .i64 0), .l []]))]⟩) (fun i => rr.length - i) 0 (Nat.zero_le _) ?_ ?_
 · repeat' (first | exact trivial | exact rfl | exact Or.inl rfl | refine And.intro ?_ ?_)
 · intro i hi J hJ
   refine xb rfl ?_ ?_ <;> intro h
   · have h : i < rr.length := by simpa using h
     obtain ⟨row, hg⟩ : ∃ row, rr[i]? = some row := ⟨_, List.getElem?_eq_getElem h⟩
     obtain ⟨x0, x1, x2, x3, x4, x5, rfl, h5⟩ := z1k (hw.2 row (List.mem_of_getElem? hg))
     refine xs rfl (nn_ _) (q8 rfl _ hg (xs rfl rfl ?_))
     refine z6 rfl (z7y _ _ _ _ _ _ h5) rfl ⟨tv7, trivial⟩ ?_
     refine xs rfl (zg _ _ _ _ (by omega) rfl).symm (xs rfl (nn_ _) (q8 rfl [.s (.int .i64 0), .s (.int .i64 0), .s (.int .i64 0), .s (.int .i64 0), .s (.int .i64 0), .l []] (qm _ _ _ _ (by omega) rfl) (xs rfl rfl ?_)))
     refine xs rfl (zg _ _ _ _ (by omega) rfl).symm (q8 rfl [.s (.int .i64 0), .s (.int .i64 0), .s (.int .i64 0), .s (.int .i64 0), .s (.int .i64 0), .l []] (qm _ _ _ _ (by omega) rfl) (xs rfl (by decide) (xs rfl ⟨trivial, trivial, trivial, trivial, trivial, ⟨rfl, rfl⟩, trivial⟩ ?_)))
     refine za rfl (hJ _ (i + 1) (by omega) (by omega) ?_)
     repeat' (first | exact trivial | exact rfl | exact Or.inl rfl | exact cwi (by omega) (by omega) (by omega) | refine And.intro ?_ ?_)
     exact q02 _ _ _ _ _ hg rfl
   · have h : ¬ i < rr.length := by simpa using h
     have : i = rr.length := by omega
     subst this
     refine xr rfl (zm rfl ⟨⟨rfl, ⟨(zg _ _ _ _ (by omega) rfl).symm, q01 _ _ _ rfl, Or.inl rfl⟩, trivial⟩, z7 rfl⟩)
theorem z4f (x0 : List (List Cell)) (h0 : WR 1048576 ql x0) : PC Tryz.prog 137 [.agg [.l x0]] (.one (.own true [.l 6 x0])) := by
 refine PC.begin Tryz.func137 rfl (by kernel_rfl) ?_
 refine z6 rfl (y6v _ h0) rfl ⟨trivial, trivial⟩ ?_
 exact xr rfl (zm rfl ⟨⟨rfl, ⟨rfl, rfl, .inl rfl⟩, trivial⟩, z7 rfl⟩)
theorem z3j (rr : List (List Cell)) (hw : WR 1048576 q9 rr) : PC Tryz.prog 57 [.one (.l rr)] (.one (.own false [.l 1 rr])) := by
 refine PC.begin Tryz.func57 rfl (by kernel_rfl) ?_
 have hlen := hw.1
 refine xs rfl rfl (xs rfl (nn_ _) (xs rfl (by omega) (xs rfl (by omega) ?_)))
 refine zc rfl (ι := Nat) (fun i => i ≤ rr.length) (fun i => ⟨[(4, sV (.int .i64 i)), (3, .one (.h 7 rr.length)), (0, .one (.b (.l rr)))], [(7, .arr true 1 0 (rr.take i ++ List.replicate (rr.length - i) [.l []]))]⟩) (fun i => rr.length - i) 0 (Nat.zero_le _) ?_ ?_
 · repeat' (first | exact trivial | exact rfl | exact Or.inl rfl | refine And.intro ?_ ?_)
 · intro i hi J hJ
   refine xb rfl ?_ ?_ <;> intro h
   · have h : i < rr.length := by simpa using h
     obtain ⟨row, hg⟩ : ∃ row, rr[i]? = some row := ⟨_, List.getElem?_eq_getElem h⟩
     obtain ⟨x0, rfl, h0⟩ := q08 (hw.2 row (List.mem_of_getElem? hg))
     refine xs rfl (nn_ _) (q8 rfl _ hg (xs rfl rfl ?_))
     refine z6 rfl (z4f _ h0) rfl ⟨⟨trivial, trivial⟩, trivial⟩ ?_
     refine xs rfl (zg _ _ _ _ (by omega) rfl).symm (xs rfl (nn_ _) (q8 rfl [.l []] (qm _ _ _ _ (by omega) rfl) (xs rfl rfl ?_)))
     refine xs rfl (zg _ _ _ _ (by omega) rfl).symm (q8 rfl [.l []] (qm _ _ _ _ (by omega) rfl) (xs rfl (by decide) (xs rfl ⟨⟨rfl, rfl⟩, trivial⟩ ?_)))
     refine za rfl (hJ _ (i + 1) (by omega) (by omega) ?_)
     repeat' (first | exact trivial | exact rfl | exact Or.inl rfl | exact cwi (by omega) (by omega) (by omega) | refine And.intro ?_ ?_)
     exact q02 _ _ _ _ _ hg rfl
   · have h : ¬ i < rr.length := by simpa using h
     have : i = rr.length := by omega
     subst this
     refine xr rfl (zm rfl ⟨⟨rfl, ⟨(zg _ _ _ _ (by omega) rfl).symm, q01 _ _ _ rfl, Or.inl rfl⟩, trivial⟩, z7 rfl⟩)
theorem z8s (x0 : Int) (x1 : Int) (x2 : Int) (x3 : Int) (x4 : List (List Cell)) (x5 : List (List Cell)) (h4 : WR 1048576 (.i .i64 .nil) x4) (h5 : WR 1048576 zn x5) : PC Tryz.prog 331 [.agg [.s (.int .i64 x0), .s (.int .i64 x1), .s (.int .i64 x2), .s (.int .i64 x3), .l x4, .l x5]] (.one (.own true [.s (.int .i64 x0), .s (.int .i64 x1), .s (.int .i64 x2), .s (.int .i64 x3), .l 1 x4, .l 2 x5])) := by
 refine PC.begin Tryz.func331 rfl (by kernel_rfl) ?_
 refine z6 rfl (q1w _ h4) rfl ⟨trivial, trivial⟩ (z6 rfl (z3s _ h5) rfl ⟨trivial, trivial⟩ ?_)
 exact xr rfl (zm rfl ⟨⟨rfl, rfl, rfl, rfl, rfl, ⟨rfl, rfl, .inl rfl⟩, ⟨rfl, rfl, .inl rfl⟩, trivial⟩, z7 rfl⟩)
theorem y7y (rr : List (List Cell)) (hw : WR 1048576 zq rr) : PC Tryz.prog 243 [.one (.l rr)] (.one (.own false [.l 6 rr])) := by
 refine PC.begin Tryz.func243 rfl (by kernel_rfl) ?_
 have hlen := hw.1
 refine xs rfl rfl (xs rfl (nn_ _) (xs rfl (by omega) (xs rfl (by omega) ?_)))
 refine zc rfl (ι := Nat) (fun i => i ≤ rr.length) (fun i => ⟨[(4, sV (.int .i64 i)), (3, .one (.h 7 rr.length)), (0, .one (.b (.l rr)))], [(7, .arr true 6 0 (rr.take i ++ List.replicate (rr.length - i) [.s (.int .i64 0), .s (.int .i64 0), .s (.int .i64 0), .s (.int .i64 0), .l [], .l []]))]⟩) (fun i => rr.length - i) 0 (Nat.zero_le _) ?_ ?_
 · repeat' (first | exact trivial | exact rfl | exact Or.inl rfl | refine And.intro ?_ ?_)
 · intro i hi J hJ
   refine xb rfl ?_ ?_ <;> intro h
   · have h : i < rr.length := by simpa using h
     obtain ⟨row, hg⟩ : ∃ row, rr[i]? = some row := ⟨_, List.getElem?_eq_getElem h⟩
     obtain ⟨x0, x1, x2, x3, x4, x5, rfl, h4, h5⟩ := z2c (hw.2 row (List.mem_of_getElem? hg))
     refine xs rfl (nn_ _) (q8 rfl _ hg (xs rfl rfl ?_))
     refine z6 rfl (z8s _ _ _ _ _ _ h4 h5) rfl ⟨tv7, trivial⟩ ?_
     refine xs rfl (zg _ _ _ _ (by omega) rfl).symm (xs rfl (nn_ _) (q8 rfl [.s (.int .i64 0), .s (.int .i64 0), .s (.int .i64 0), .s (.int .i64 0), .l [], .l []] (qm _ _ _ _ (by omega) rfl) (xs rfl rfl ?_)))
     refine xs rfl (zg _ _ _ _ (by omega) rfl).symm (q8 rfl [.s (.int .i64 0), .s (.int .i64 0), .s (.int .i64 0), .s (.int .i64 0), .l [], .l []] (qm _ _ _ _ (by omega) rfl) (xs rfl (by decide) (xs rfl ⟨trivial, trivial, trivial, trivial, ⟨rfl, rfl⟩, ⟨rfl, rfl⟩, trivial⟩ ?_)))
     refine za rfl (hJ _ (i + 1) (by omega) (by omega) ?_)
     repeat' (first | exact trivial | exact rfl | exact Or.inl rfl | exact cwi (by omega) (by omega) (by omega) | refine And.intro ?_ ?_)
     exact q02 _ _ _ _ _ hg rfl
   · have h : ¬ i < rr.length := by simpa using h
     have : i = rr.length := by omega
     subst this
     refine xr rfl (zm rfl ⟨⟨rfl, ⟨(zg _ _ _ _ (by omega) rfl).symm, q01 _ _ _ rfl, Or.inl rfl⟩, trivial⟩, z7 rfl⟩)
theorem q6u (x0 : Int) (x1 : Int) (x2 : Int) (x3 : Int) (x4 : Int)  : PC Tryz.prog 332 [.agg [.s (.int .i64 x0), .s (.int .i64 x1), .s (.int .i64 x2), .s (.int .i64 x3), .s (.int .i64 x4)]] (.one (.own true [.s (.int .i64 x0), .s (.int .i64 x1), .s (.int .i64 x2), .s (.int .i64 x3), .s (.int .i64 x4)])) := by
 refine PC.begin Tryz.func332 rfl (by kernel_rfl) ?_
 exact xr rfl (zm rfl ⟨⟨rfl, rfl, rfl, rfl, rfl, rfl, trivial⟩, z7 rfl⟩)
theorem q5s (rr : List (List Cell)) (hw : WR 1048576 qo rr) : PC Tryz.prog 244 [.one (.l rr)] (.one (.own false [.l 5 rr])) := by
 refine PC.begin Tryz.func244 rfl (by kernel_rfl) ?_
 have hlen := hw.1
 refine xs rfl rfl (xs rfl (nn_ _) (xs rfl (by omega) (xs rfl (by omega) ?_)))
 refine zc rfl (ι := Nat) (fun i => i ≤ rr.length) (fun i => ⟨[(4, sV (.int .i64 i)), (3, .one (.h 7 rr.length)), (0, .one (.b (.l rr)))], [(7, .arr true 5 0 (rr.take i ++ List.replicate (rr.length - i) [.s (.int .i64 0), .s (.int .i64 0), .s (.int .i64 0), .s (.int .i64 0), .s (.int .i64 0)]))]⟩) (fun i => rr.length - i) 0 (Nat.zero_le _) ?_ ?_
 · repeat' (first | exact trivial | exact rfl | exact Or.inl rfl | refine And.intro ?_ ?_)
 · intro i hi J hJ
   refine xb rfl ?_ ?_ <;> intro h
   · have h : i < rr.length := by simpa using h
     obtain ⟨row, hg⟩ : ∃ row, rr[i]? = some row := ⟨_, List.getElem?_eq_getElem h⟩
     obtain ⟨x0, x1, x2, x3, x4, rfl⟩ := y12 (hw.2 row (List.mem_of_getElem? hg))
     refine xs rfl (nn_ _) (q8 rfl _ hg (xs rfl rfl ?_))
     refine z6 rfl (q6u _ _ _ _ _) rfl ⟨tv6, trivial⟩ ?_
     refine xs rfl (zg _ _ _ _ (by omega) rfl).symm (xs rfl (nn_ _) (q8 rfl [.s (.int .i64 0), .s (.int .i64 0), .s (.int .i64 0), .s (.int .i64 0), .s (.int .i64 0)] (qm _ _ _ _ (by omega) rfl) (xs rfl rfl ?_)))
     refine xs rfl (zg _ _ _ _ (by omega) rfl).symm (q8 rfl [.s (.int .i64 0), .s (.int .i64 0), .s (.int .i64 0), .s (.int .i64 0), .s (.int .i64 0)] (qm _ _ _ _ (by omega) rfl) (xs rfl (by decide) (xs rfl tv6 ?_)))
     refine za rfl (hJ _ (i + 1) (by omega) (by omega) ?_)
     repeat' (first | exact trivial | exact rfl | exact Or.inl rfl | exact cwi (by omega) (by omega) (by omega) | refine And.intro ?_ ?_)
     exact q02 _ _ _ _ _ hg rfl
   · have h : ¬ i < rr.length := by simpa using h
     have : i = rr.length := by omega
     subst this
     refine xr rfl (zm rfl ⟨⟨rfl, ⟨(zg _ _ _ _ (by omega) rfl).symm, q01 _ _ _ rfl, Or.inl rfl⟩, trivial⟩, z7 rfl⟩)
theorem z5t (x0 : Int) (x1 : List (List Cell)) (x2 : List (List Cell)) (h1 : WR 1048576 zq x1) (h2 : WR 1048576 qo x2) : PC Tryz.prog 138 [.agg [.s (.int .i64 x0), .l x1, .l x2]] (.one (.own true [.s (.int .i64 x0), .l 6 x1, .l 5 x2])) := by
 refine PC.begin Tryz.func138 rfl (by kernel_rfl) ?_
 refine z6 rfl (y7y _ h1) rfl ⟨trivial, trivial⟩ (z6 rfl (q5s _ h2) rfl ⟨trivial, trivial⟩ ?_)
 exact xr rfl (zm rfl ⟨⟨rfl, rfl, ⟨rfl, rfl, .inl rfl⟩, ⟨rfl, rfl, .inl rfl⟩, trivial⟩, z7 rfl⟩)
theorem y57 (rr : List (List Cell)) (hw : WR 1048576 qd rr) : PC Tryz.prog 58 [.one (.l rr)] (.one (.own false [.l 3 rr])) := by
 refine PC.begin Tryz.func58 rfl (by kernel_rfl) ?_
 have hlen := hw.1
 refine xs rfl rfl (xs rfl (nn_ _) (xs rfl (by omega) (xs rfl (by omega) ?_)))
 refine zc rfl (ι := Nat) (fun i => i ≤ rr.length) (fun i => ⟨[(4, sV (.int .i64 i)), (3, .one (.h 7 rr.length)), (0, .one (.b (.l rr)))], [(7, .arr true 3 0 (rr.take i ++ List.replicate (rr.length - i) [.s (.int .i64 0), .l [], .l []]))]⟩) (fun i => rr.length - i) 0 (Nat.zero_le _) ?_ ?_
 · repeat' (first | exact trivial | exact rfl | exact Or.inl rfl | refine And.intro ?_ ?_)
 · intro i hi J hJ
   refine xb rfl ?_ ?_ <;> intro h
   · have h : i < rr.length := by simpa using h
     obtain ⟨row, hg⟩ : ∃ row, rr[i]? = some row := ⟨_, List.getElem?_eq_getElem h⟩
     obtain ⟨x0, x1, x2, rfl, h1, h2⟩ := q0n (hw.2 row (List.mem_of_getElem? hg))
     refine xs rfl (nn_ _) (q8 rfl _ hg (xs rfl rfl ?_))
     refine z6 rfl (z5t _ _ _ h1 h2) rfl ⟨tv4, trivial⟩ ?_
     refine xs rfl (zg _ _ _ _ (by omega) rfl).symm (xs rfl (nn_ _) (q8 rfl [.s (.int .i64 0), .l [], .l []] (qm _ _ _ _ (by omega) rfl) (xs rfl rfl ?_)))
     refine xs rfl (zg _ _ _ _ (by omega) rfl).symm (q8 rfl [.s (.int .i64 0), .l [], .l []] (qm _ _ _ _ (by omega) rfl) (xs rfl (by decide) (xs rfl ⟨trivial, ⟨rfl, rfl⟩, ⟨rfl, rfl⟩, trivial⟩ ?_)))
     refine za rfl (hJ _ (i + 1) (by omega) (by omega) ?_)
     repeat' (first | exact trivial | exact rfl | exact Or.inl rfl | exact cwi (by omega) (by omega) (by omega) | refine And.intro ?_ ?_)
     exact q02 _ _ _ _ _ hg rfl
   · have h : ¬ i < rr.length := by simpa using h
     have : i = rr.length := by omega
     subst this
     refine xr rfl (zm rfl ⟨⟨rfl, ⟨(zg _ _ _ _ (by omega) rfl).symm, q01 _ _ _ rfl, Or.inl rfl⟩, trivial⟩, z7 rfl⟩)
theorem q57 (x0 : Int) (x1 : Int) (x2 : Int) (x3 : Int) (x4 : Int) (x5 : Int) (x6 : Int) (x7 : Int) (x8 : Int)  : PC Tryz.prog 139 [.agg [.s (.int .i64 x0), .s (.int .i64 x1), .s (.int .i64 x2), .s (.int .i64 x3), .s (.int .i64 x4), .s (.int .i64 x5), .s (.int .i64 x6), .s (.int .i64 x7), .s (.int .i64 x8)]] (.one (.own true [.s (.int .i64 x0), .s (.int .i64 x1), .s (.int .i64 x2), .s (.int .i64 x3), .s (.int .i64 x4), .s (.int .i64 x5), .s (.int .i64 x6), .s (.int .i64 x7), .s (.int .i64 x8)])) := by
 refine PC.begin Tryz.func139 rfl (by kernel_rfl) ?_
 refine z6 rfl (y3a _ _) rfl ⟨tv3, trivial⟩ ?_
 exact xr rfl (zm rfl ⟨⟨rfl, rfl, rfl, rfl, rfl, rfl, rfl, rfl, rfl, rfl, trivial⟩, z7 rfl⟩)
theorem z4g (rr : List (List Cell)) (hw : WR 1048576 qg rr) : PC Tryz.prog 59 [.one (.l rr)] (.one (.own false [.l 9 rr])) := by
 refine PC.begin Tryz.func59 rfl (by kernel_rfl) ?_
 have hlen := hw.1
 refine xs rfl rfl (xs rfl (nn_ _) (xs rfl (by omega) (xs rfl (by omega) ?_)))
 refine zc rfl (ι := Nat) (fun i => i ≤ rr.length) (fun i => ⟨[(4, sV (.int .i64 i)), (3, .one (.h 7 rr.length)), (0, .one (.b (.l rr)))], [(7, .arr true 9 0 (rr.take i ++ List.replicate (rr.length - i) [.s (.int .i64 0), .s (.int .i64 0), .s (.int .i64 0), .s (.int .i64 0), .s (.int .i64 0), .s (.int .i64 0), .s (.int .i64 0), .s (.int .i64 0), .s (.int .i64 0)]))]⟩) (fun i => rr.length - i) 0 (Nat.zero_le _) ?_ ?_
 · repeat' (first | exact trivial | exact rfl | exact Or.inl rfl | refine And.intro ?_ ?_)
 · intro i hi J hJ
   refine xb rfl ?_ ?_ <;> intro h
   · have h : i < rr.length := by simpa using h
     obtain ⟨row, hg⟩ : ∃ row, rr[i]? = some row := ⟨_, List.getElem?_eq_getElem h⟩
     obtain ⟨x0, x1, x2, x3, x4, x5, x6, x7, x8, rfl⟩ := z0f (hw.2 row (List.mem_of_getElem? hg))
     refine xs rfl (nn_ _) (q8 rfl _ hg (xs rfl rfl ?_))
     refine z6 rfl (q57 _ _ _ _ _ _ _ _ _) rfl ⟨tv10, trivial⟩ ?_
     refine xs rfl (zg _ _ _ _ (by omega) rfl).symm (xs rfl (nn_ _) (q8 rfl [.s (.int .i64 0), .s (.int .i64 0), .s (.int .i64 0), .s (.int .i64 0), .s (.int .i64 0), .s (.int .i64 0), .s (.int .i64 0), .s (.int .i64 0), .s (.int .i64 0)] (qm _ _ _ _ (by omega) rfl) (xs rfl rfl ?_)))
     refine xs rfl (zg _ _ _ _ (by omega) rfl).symm (q8 rfl [.s (.int .i64 0), .s (.int .i64 0), .s (.int .i64 0), .s (.int .i64 0), .s (.int .i64 0), .s (.int .i64 0), .s (.int .i64 0), .s (.int .i64 0), .s (.int .i64 0)] (qm _ _ _ _ (by omega) rfl) (xs rfl (by decide) (xs rfl tv10 ?_)))
     refine za rfl (hJ _ (i + 1) (by omega) (by omega) ?_)
     repeat' (first | exact trivial | exact rfl | exact Or.inl rfl | exact cwi (by omega) (by omega) (by omega) | refine And.intro ?_ ?_)
     exact q02 _ _ _ _ _ hg rfl
   · have h : ¬ i < rr.length := by simpa using h
     have : i = rr.length := by omega
     subst this
     refine xr rfl (zm rfl ⟨⟨rfl, ⟨(zg _ _ _ _ (by omega) rfl).symm, q01 _ _ _ rfl, Or.inl rfl⟩, trivial⟩, z7 rfl⟩)
theorem z57 (x0 : List (List Cell)) (x1 : List (List Cell)) (x2 : List (List Cell)) (x3 : List (List Cell)) (x4 : List (List Cell)) (h0 : WR 1048576 z8 x0) (h1 : WR 1048576 zf x1) (h2 : WR 1048576 q9 x2) (h3 : WR 1048576 qd x3) (h4 : WR 1048576 qg x4) : PC Tryz.prog 11 [.agg [.l x0, .l x1, .l x2, .l x3, .l x4]] (.one (.own true [.l 2 x0, .l 6 x1, .l 1 x2, .l 3 x3, .l 9 x4])) := by
 refine PC.begin Tryz.func11 rfl (by kernel_rfl) ?_
 refine z6 rfl (q1q _ h0) rfl ⟨trivial, trivial⟩ (z6 rfl (y5t _ h1) rfl ⟨trivial, trivial⟩ (z6 rfl (z3j _ h2) rfl ⟨trivial, trivial⟩ (z6 rfl (y57 _ h3) rfl ⟨trivial, trivial⟩ (z6 rfl (z4g _ h4) rfl ⟨trivial, trivial⟩ ?_))))
 exact xr rfl (zm rfl ⟨⟨rfl, ⟨rfl, rfl, .inl rfl⟩, ⟨rfl, rfl, .inl rfl⟩, ⟨rfl, rfl, .inl rfl⟩, ⟨rfl, rfl, .inl rfl⟩, ⟨rfl, rfl, .inl rfl⟩, trivial⟩, z7 rfl⟩)
end Go.Proofs.YtohbmmpkcibnpaaGreat
end
section
namespace Go.Proofs.YtohbmmpkcibnpaaGreat
open Go Go.Sx
set_option maxRecDepth 20000
set_option maxHeartbeats 4000000
theorem z31 (z : Nat) (rr : List (List Cell)) (k : Int) (hw : WR 9000000000000000000 qn rr) : PG Tryz.prog 100 [.one (.giv true z rr), .one (.bor (i64 k))] (rI (mkR (mk qn) rr k).2) [(0, (mkR (mk qn) rr k).1)] := by
 refine PG.begin Tryz.func100 rfl (by kernel_rfl) ?_
 have hlen := hw.1
 refine zc rfl (ι := Nat) (fun i => i ≤ rr.length) (fun i => ⟨[(5, sV (.int .i64 i)), (1, sV (.int .i64 (mdk (mk qn) rr k i))), (0, .one (.h 1000000000 rr.length))], [(1000000000, .arr true z 0 (md (mk qn) rr k i))]⟩) (fun i => rr.length - i) 0 (Nat.zero_le _) ?_ ?_
 · exact ⟨⟨rfl, congrArg (fun n => Cell.s (.int .i64 n)) y02.symm, ⟨rfl, rfl, rfl⟩, trivial⟩, ⟨⟨z0b.symm, .inl rfl, .inl rfl⟩, trivial⟩, rfl⟩
 · intro i hi J hJ
   refine xb rfl ?_ ?_ <;> intro h
   · have h : i < rr.length := by simpa using h
     obtain ⟨row, hg⟩ : ∃ row, rr[i]? = some row := ⟨_, List.getElem?_eq_getElem h⟩
     obtain ⟨x0, x1, x2, x3, rfl⟩ := z1u (hw.2 row (List.mem_of_getElem? hg))
     have hl := q0x (f := (mk qn)) (k := k) hi
     have hg0 := y0x (f := (mk qn)) (k := k) hg
     have hlt : i < (md (mk qn) rr k i).length := by omega
     refine xs rfl (hl).symm (xs rfl (nn_ _) (q8 rfl _ hg0 (xs rfl rfl (xs rfl (hl).symm (q8 rfl _ hg0 (xs rfl (by show 0 + 1 ≤ 4; omega) (xs rfl ⟨trivial, trivial⟩ ?_)))))))
     refine xs rfl (qa (hl)).symm (xs rfl (nn_ _) (q8 rfl _ (qv (hl) h) (xs rfl rfl (xs rfl (qa (hl)).symm (q8 rfl _ (qv (hl) h) (xs rfl (by show 1 + 1 ≤ 4; omega) (xs rfl ⟨trivial, trivial⟩ ?_)))))))
     refine xs rfl (qa (qa (hl))).symm (xs rfl (nn_ _) (q8 rfl _ (qv (qa (hl)) h) (xs rfl rfl (xs rfl (qa (qa (hl))).symm (q8 rfl _ (qv (qa (hl)) h) (xs rfl (by show 2 + 1 ≤ 4; omega) (xs rfl ⟨trivial, trivial⟩ ?_)))))))
     refine xs rfl (qa (qa (qa (hl)))).symm (xs rfl (nn_ _) (q8 rfl _ (qv (qa (qa (hl))) h) (xs rfl rfl (xs rfl (qa (qa (qa (hl)))).symm (q8 rfl _ (qv (qa (qa (hl))) h) (xs rfl (by show 3 + 1 ≤ 4; omega) (xs rfl ⟨trivial, trivial⟩ ?_)))))))
     refine za rfl (hJ _ (i + 1) (by omega) (by omega) ?_)
     refine ⟨⟨cwi (by omega) (by omega) (by omega), ?_, ⟨rfl, rfl, rfl⟩, trivial⟩, ⟨⟨?_, .inl rfl, .inl rfl⟩, trivial⟩, rfl⟩
     · rw [z02 hg]; rfl
     · refine Eq.trans ?_ (z0y hg)
       try simp only [Int.toNat_natCast, qt hg0, ssr hlt, List.set_set]
       rfl
   · have h : ¬ i < rr.length := by simpa using h
     have : i = rr.length := by omega
     subst this
     exact xr rfl (y1o rfl ⟨⟨rfl, congrArg (Value.int .i64) y0b, trivial⟩, z7 rfl⟩ ⟨⟨rfl, rfl, z0x, qq _ _ _, qs hw⟩, trivial⟩)
theorem z19 (z : Nat) (rr : List (List Cell)) (k : Int) (hw : WR 9000000000000000000 z8 rr) : PG Tryz.prog 95 [.one (.giv true z rr), .one (.bor (i64 k))] (rI (mkR (mk z8) rr k).2) [(0, (mkR (mk z8) rr k).1)] := by
 refine PG.begin Tryz.func95 rfl (by kernel_rfl) ?_
 have hlen := hw.1
 refine zc rfl (ι := Nat) (fun i => i ≤ rr.length) (fun i => ⟨[(5, sV (.int .i64 i)), (1, sV (.int .i64 (mdk (mk z8) rr k i))), (0, .one (.h 1000000000 rr.length))], [(1000000000, .arr true z 0 (md (mk z8) rr k i))]⟩) (fun i => rr.length - i) 0 (Nat.zero_le _) ?_ ?_
 · exact ⟨⟨rfl, congrArg (fun n => Cell.s (.int .i64 n)) y02.symm, ⟨rfl, rfl, rfl⟩, trivial⟩, ⟨⟨z0b.symm, .inl rfl, .inl rfl⟩, trivial⟩, rfl⟩
 · intro i hi J hJ
   refine xb rfl ?_ ?_ <;> intro h
   · have h : i < rr.length := by simpa using h
     obtain ⟨row, hg⟩ : ∃ row, rr[i]? = some row := ⟨_, List.getElem?_eq_getElem h⟩
     obtain ⟨x0, x1, rfl, h1⟩ := z09 (hw.2 row (List.mem_of_getElem? hg))
     have hl := q0x (f := (mk z8)) (k := k) hi
     have hg0 := y0x (f := (mk z8)) (k := k) hg
     have hlt : i < (md (mk z8) rr k i).length := by omega
     refine xs rfl (hl).symm (xs rfl (nn_ _) (q8 rfl _ hg0 (xs rfl rfl (xs rfl (hl).symm (q8 rfl _ hg0 (xs rfl (by show 0 + 1 ≤ 2; omega) (xs rfl ⟨trivial, trivial⟩ ?_)))))))
     refine xs rfl (qa (hl)).symm (xs rfl (nn_ _) (q8 rfl _ (qv (hl) h) (xs rfl rfl (xs rfl (qa (hl)).symm (q8 rfl _ (qv (hl) h) ?_)))))
     refine y0l rfl (z31 0 _ _ h1) ⟨⟨rfl, rfl, rfl, _, (qv (hl) h), rfl⟩, rfl, trivial⟩ rfl ?_
     refine za rfl (hJ _ (i + 1) (by omega) (by omega) ?_)
     refine ⟨⟨cwi (by omega) (by omega) (by omega), ?_, ⟨rfl, rfl, rfl⟩, trivial⟩, ⟨⟨?_, .inl rfl, .inl rfl⟩, trivial⟩, rfl⟩
     · rw [z02 hg]; rfl
     · refine Eq.trans ?_ (z0y hg)
       try simp only [Int.toNat_natCast, qt hg0, ssr hlt, List.set_set]
       rfl
   · have h : ¬ i < rr.length := by simpa using h
     have : i = rr.length := by omega
     subst this
     exact xr rfl (y1o rfl ⟨⟨rfl, congrArg (Value.int .i64) y0b, trivial⟩, z7 rfl⟩ ⟨⟨rfl, rfl, z0x, qq _ _ _, qs hw⟩, trivial⟩)
theorem q30 (z : Nat) (rr : List (List Cell)) (k : Int) (hw : WR 9000000000000000000 yd rr) : PG Tryz.prog 179 [.one (.giv true z rr), .one (.bor (i64 k))] (rI (mkR (mk yd) rr k).2) [(0, (mkR (mk yd) rr k).1)] := by
 refine PG.begin Tryz.func179 rfl (by kernel_rfl) ?_
 have hlen := hw.1
 refine zc rfl (ι := Nat) (fun i => i ≤ rr.length) (fun i => ⟨[(5, sV (.int .i64 i)), (1, sV (.int .i64 (mdk (mk yd) rr k i))), (0, .one (.h 1000000000 rr.length))], [(1000000000, .arr true z 0 (md (mk yd) rr k i))]⟩) (fun i => rr.length - i) 0 (Nat.zero_le _) ?_ ?_
 · exact ⟨⟨rfl, congrArg (fun n => Cell.s (.int .i64 n)) y02.symm, ⟨rfl, rfl, rfl⟩, trivial⟩, ⟨⟨z0b.symm, .inl rfl, .inl rfl⟩, trivial⟩, rfl⟩
 · intro i hi J hJ
   refine xb rfl ?_ ?_ <;> intro h
   · have h : i < rr.length := by simpa using h
     obtain ⟨row, hg⟩ : ∃ row, rr[i]? = some row := ⟨_, List.getElem?_eq_getElem h⟩
     obtain ⟨x0, x1, x2, rfl⟩ := q0e (hw.2 row (List.mem_of_getElem? hg))
     have hl := q0x (f := (mk yd)) (k := k) hi
     have hg0 := y0x (f := (mk yd)) (k := k) hg
     have hlt : i < (md (mk yd) rr k i).length := by omega
     refine xs rfl (hl).symm (xs rfl (nn_ _) (q8 rfl _ hg0 (xs rfl rfl (xs rfl (hl).symm (q8 rfl _ hg0 (xs rfl (by show 0 + 1 ≤ 3; omega) (xs rfl ⟨trivial, trivial⟩ ?_)))))))
     refine xs rfl (qa (hl)).symm (xs rfl (nn_ _) (q8 rfl _ (qv (hl) h) (xs rfl rfl (xs rfl (qa (hl)).symm (q8 rfl _ (qv (hl) h) (xs rfl (by show 1 + 1 ≤ 3; omega) (xs rfl ⟨trivial, trivial⟩ ?_)))))))
     refine xs rfl (qa (qa (hl))).symm (xs rfl (nn_ _) (q8 rfl _ (qv (qa (hl)) h) (xs rfl rfl (xs rfl (qa (qa (hl))).symm (q8 rfl _ (qv (qa (hl)) h) (xs rfl (by show 2 + 1 ≤ 3; omega) (xs rfl ⟨trivial, trivial⟩ ?_)))))))
     refine za rfl (hJ _ (i + 1) (by omega) (by omega) ?_)
     refine ⟨⟨cwi (by omega) (by omega) (by omega), ?_, ⟨rfl, rfl, rfl⟩, trivial⟩, ⟨⟨?_, .inl rfl, .inl rfl⟩, trivial⟩, rfl⟩
     · rw [z02 hg]; rfl
     · refine Eq.trans ?_ (z0y hg)
       try simp only [Int.toNat_natCast, qt hg0, ssr hlt, List.set_set]
       rfl
   · have h : ¬ i < rr.length := by simpa using h
     have : i = rr.length := by omega
     subst this
     exact xr rfl (y1o rfl ⟨⟨rfl, congrArg (Value.int .i64) y0b, trivial⟩, z7 rfl⟩ ⟨⟨rfl, rfl, z0x, qq _ _ _, qs hw⟩, trivial⟩)
theorem y2j (z : Nat) (rr : List (List Cell)) (k : Int) (hw : WR 9000000000000000000 zi rr) : PG Tryz.prog 180 [.one (.giv true z rr), .one (.bor (i64 k))] (rI (mkR (mk zi) rr k).2) [(0, (mkR (mk zi) rr k).1)] := by
 refine PG.begin Tryz.func180 rfl (by kernel_rfl) ?_
 have hlen := hw.1
 refine zc rfl (ι := Nat) (fun i => i ≤ rr.length) (fun i => ⟨[(5, sV (.int .i64 i)), (1, sV (.int .i64 (mdk (mk zi) rr k i))), (0, .one (.h 1000000000 rr.length))], [(1000000000, .arr true z 0 (md (mk zi) rr k i))]⟩) (fun i => rr.length - i) 0 (Nat.zero_le _) ?_ ?_
 · exact ⟨⟨rfl, congrArg (fun n => Cell.s (.int .i64 n)) y02.symm, ⟨rfl, rfl, rfl⟩, trivial⟩, ⟨⟨z0b.symm, .inl rfl, .inl rfl⟩, trivial⟩, rfl⟩
 · intro i hi J hJ
   refine xb rfl ?_ ?_ <;> intro h
   · have h : i < rr.length := by simpa using h
     obtain ⟨row, hg⟩ : ∃ row, rr[i]? = some row := ⟨_, List.getElem?_eq_getElem h⟩
     obtain ⟨x0, x1, rfl⟩ := q1j (hw.2 row (List.mem_of_getElem? hg))
     have hl := q0x (f := (mk zi)) (k := k) hi
     have hg0 := y0x (f := (mk zi)) (k := k) hg
     have hlt : i < (md (mk zi) rr k i).length := by omega
     refine xs rfl (hl).symm (xs rfl (nn_ _) (q8 rfl _ hg0 (xs rfl rfl (xs rfl (hl).symm (q8 rfl _ hg0 (xs rfl (by show 0 + 1 ≤ 2; omega) (xs rfl ⟨trivial, trivial⟩ ?_)))))))
     refine xs rfl (qa (hl)).symm (xs rfl (nn_ _) (q8 rfl _ (qv (hl) h) (xs rfl rfl (xs rfl (qa (hl)).symm (q8 rfl _ (qv (hl) h) (xs rfl (by show 1 + 1 ≤ 2; omega) (xs rfl ⟨trivial, trivial⟩ ?_)))))))
     refine za rfl (hJ _ (i + 1) (by omega) (by omega) ?_)
     refine ⟨⟨cwi (by omega) (by omega) (by omega), ?_, ⟨rfl, rfl, rfl⟩, trivial⟩, ⟨⟨?_, .inl rfl, .inl rfl⟩, trivial⟩, rfl⟩
     · rw [z02 hg]; rfl
     · refine Eq.trans ?_ (z0y hg)
       try simp only [Int.toNat_natCast, qt hg0, ssr hlt, List.set_set]
       rfl
   · have h : ¬ i < rr.length := by simpa using h
     have : i = rr.length := by omega
     subst this
     exact xr rfl (y1o rfl ⟨⟨rfl, congrArg (Value.int .i64) y0b, trivial⟩, z7 rfl⟩ ⟨⟨rfl, rfl, z0x, qq _ _ _, qs hw⟩, trivial⟩)
theorem q16 (z : Nat) (rr : List (List Cell)) (k : Int) (hw : WR 9000000000000000000 (.i .i64 .nil) rr) : PG Tryz.prog 94 [.one (.giv true z rr), .one (.bor (i64 k))] (rI (mkR (mk (.i .i64 .nil)) rr k).2) [(0, (mkR (mk (.i .i64 .nil)) rr k).1)] := by
 refine PG.begin Tryz.func94 rfl (by kernel_rfl) ?_
 have hlen := hw.1
 refine zc rfl (ι := Nat) (fun i => i ≤ rr.length) (fun i => ⟨[(5, sV (.int .i64 i)), (1, sV (.int .i64 (mdk (mk (.i .i64 .nil)) rr k i))), (0, .one (.h 1000000000 rr.length))], [(1000000000, .arr true z 0 (md (mk (.i .i64 .nil)) rr k i))]⟩) (fun i => rr.length - i) 0 (Nat.zero_le _) ?_ ?_
 · exact ⟨⟨rfl, congrArg (fun n => Cell.s (.int .i64 n)) y02.symm, ⟨rfl, rfl, rfl⟩, trivial⟩, ⟨⟨z0b.symm, .inl rfl, .inl rfl⟩, trivial⟩, rfl⟩
 · intro i hi J hJ
   refine xb rfl ?_ ?_ <;> intro h
   · have h : i < rr.length := by simpa using h
     obtain ⟨row, hg⟩ : ∃ row, rr[i]? = some row := ⟨_, List.getElem?_eq_getElem h⟩
     obtain ⟨x0, _, rfl, hnil⟩ := ((hw.2 row (List.mem_of_getElem? hg))).yv; obtain rfl := hnil.yy
     have hl := q0x (f := (mk (.i .i64 .nil))) (k := k) hi
     have hg0 := y0x (f := (mk (.i .i64 .nil))) (k := k) hg
     have hlt : i < (md (mk (.i .i64 .nil)) rr k i).length := by omega
     refine xs rfl (hl).symm (xs rfl (nn_ _) (q8 rfl _ hg0 (xs rfl rfl (xs rfl (hl).symm (q8 rfl _ hg0 (xs rfl (by show 0 + 1 ≤ 1; omega) (xs rfl ⟨trivial, trivial⟩ ?_)))))))
     refine za rfl (hJ _ (i + 1) (by omega) (by omega) ?_)
     refine ⟨⟨cwi (by omega) (by omega) (by omega), ?_, ⟨rfl, rfl, rfl⟩, trivial⟩, ⟨⟨?_, .inl rfl, .inl rfl⟩, trivial⟩, rfl⟩
     · rw [z02 hg]; rfl
     · refine Eq.trans ?_ (z0y hg)
       try simp only [Int.toNat_natCast, qt hg0, ssr hlt, List.set_set]
       rfl
   · have h : ¬ i < rr.length := by simpa using h
     have : i = rr.length := by omega
     subst this
     exact xr rfl (y1o rfl ⟨⟨rfl, congrArg (Value.int .i64) y0b, trivial⟩, z7 rfl⟩ ⟨⟨rfl, rfl, z0x, qq _ _ _, qs hw⟩, trivial⟩)
theorem q46 (z : Nat) (rr : List (List Cell)) (k : Int) (hw : WR 9000000000000000000 zf rr) : PG Tryz.prog 96 [.one (.giv true z rr), .one (.bor (i64 k))] (rI (mkR (mk zf) rr k).2) [(0, (mkR (mk zf) rr k).1)] := by
 refine PG.begin Tryz.func96 rfl (by kernel_rfl) ?_
 have hlen := hw.1
 refine zc rfl (ι := Nat) (fun i => i ≤ rr.length) (fun i => ⟨[(5, sV (.int .i64 i)), (1, sV (.int .i64 (mdk (mk zf) rr k i))), (0, .one (.h 1000000000 rr.length))], [(1000000000, .arr true z 0 (md (mk zf) rr k i))]⟩) (fun i => rr.length - i) 0 (Nat.zero_le _) ?_ ?_
 · exact ⟨⟨rfl, congrArg (fun n => Cell.s (.int .i64 n)) y02.symm, ⟨rfl, rfl, rfl⟩, trivial⟩, ⟨⟨z0b.symm, .inl rfl, .inl rfl⟩, trivial⟩, rfl⟩
 · intro i hi J hJ
   refine xb rfl ?_ ?_ <;> intro h
   · have h : i < rr.length := by simpa using h
     obtain ⟨row, hg⟩ : ∃ row, rr[i]? = some row := ⟨_, List.getElem?_eq_getElem h⟩
     obtain ⟨x0, x1, x2, x3, x4, x5, rfl, h1, h2, h3, h4, h5⟩ := q12 (hw.2 row (List.mem_of_getElem? hg))
     have hl := q0x (f := (mk zf)) (k := k) hi
     have hg0 := y0x (f := (mk zf)) (k := k) hg
     have hlt : i < (md (mk zf) rr k i).length := by omega
     refine xs rfl (hl).symm (xs rfl (nn_ _) (q8 rfl _ hg0 (xs rfl rfl (xs rfl (hl).symm (q8 rfl _ hg0 (xs rfl (by show 0 + 1 ≤ 6; omega) (xs rfl ⟨trivial, trivial⟩ ?_)))))))
     refine xs rfl (qa (hl)).symm (xs rfl (nn_ _) (q8 rfl _ (qv (hl) h) (xs rfl rfl (xs rfl (qa (hl)).symm (q8 rfl _ (qv (hl) h) ?_)))))
     refine y0l rfl (q30 0 _ _ h1) ⟨⟨rfl, rfl, rfl, _, (qv (hl) h), rfl⟩, rfl, trivial⟩ rfl ?_
     refine xs rfl (lsr (qa (hl))).symm (xs rfl (nn_ _) (q8 rfl _ (ze (qv (hl) h)) (xs rfl rfl (xs rfl (lsr (qa (hl))).symm (q8 rfl _ (ze (qv (hl) h)) ?_)))))
     refine y0l rfl (y2j 0 _ _ h2) ⟨⟨rfl, rfl, rfl, _, (ze (qv (hl) h)), rfl⟩, rfl, trivial⟩ rfl ?_
     refine xs rfl (lsr (lsr (qa (hl)))).symm (xs rfl (nn_ _) (q8 rfl _ (ze (ze (qv (hl) h))) (xs rfl rfl (xs rfl (lsr (lsr (qa (hl)))).symm (q8 rfl _ (ze (ze (qv (hl) h))) ?_)))))
     refine y0l rfl (z19 0 _ _ h3) ⟨⟨rfl, rfl, rfl, _, (ze (ze (qv (hl) h))), rfl⟩, rfl, trivial⟩ rfl ?_
     refine xs rfl (lsr (lsr (lsr (qa (hl))))).symm (xs rfl (nn_ _) (q8 rfl _ (ze (ze (ze (qv (hl) h)))) (xs rfl rfl (xs rfl (lsr (lsr (lsr (qa (hl))))).symm (q8 rfl _ (ze (ze (ze (qv (hl) h)))) ?_)))))
     refine y0l rfl (y2j 0 _ _ h4) ⟨⟨rfl, rfl, rfl, _, (ze (ze (ze (qv (hl) h)))), rfl⟩, rfl, trivial⟩ rfl ?_
     refine xs rfl (lsr (lsr (lsr (lsr (qa (hl)))))).symm (xs rfl (nn_ _) (q8 rfl _ (ze (ze (ze (ze (qv (hl) h))))) (xs rfl rfl (xs rfl (lsr (lsr (lsr (lsr (qa (hl)))))).symm (q8 rfl _ (ze (ze (ze (ze (qv (hl) h))))) ?_)))))
     refine y0l rfl (q16 0 _ _ h5) ⟨⟨rfl, rfl, rfl, _, (ze (ze (ze (ze (qv (hl) h))))), rfl⟩, rfl, trivial⟩ rfl ?_
     refine za rfl (hJ _ (i + 1) (by omega) (by omega) ?_)
     refine ⟨⟨cwi (by omega) (by omega) (by omega), ?_, ⟨rfl, rfl, rfl⟩, trivial⟩, ⟨⟨?_, .inl rfl, .inl rfl⟩, trivial⟩, rfl⟩
     · rw [z02 hg]; rfl
     · refine Eq.trans ?_ (z0y hg)
       try simp only [Int.toNat_natCast, qt hg0, ssr hlt, List.set_set]
       rfl
   · have h : ¬ i < rr.length := by simpa using h
     have : i = rr.length := by omega
     subst this
     exact xr rfl (y1o rfl ⟨⟨rfl, congrArg (Value.int .i64) y0b, trivial⟩, z7 rfl⟩ ⟨⟨rfl, rfl, z0x, qq _ _ _, qs hw⟩, trivial⟩)
theorem q2j (z : Nat) (rr : List (List Cell)) (k : Int) (hw : WR 9000000000000000000 zn rr) : PG Tryz.prog 279 [.one (.giv true z rr), .one (.bor (i64 k))] (rI (mkR (mk zn) rr k).2) [(0, (mkR (mk zn) rr k).1)] := by
 refine PG.begin Tryz.func279 rfl (by kernel_rfl) ?_
 have hlen := hw.1
 refine zc rfl (ι := Nat) (fun i => i ≤ rr.length) (fun i => ⟨[(5, sV (.int .i64 i)), (1, sV (.int .i64 (mdk (mk zn) rr k i))), (0, .one (.h 1000000000 rr.length))], [(1000000000, .arr true z 0 (md (mk zn) rr k i))]⟩) (fun i => rr.length - i) 0 (Nat.zero_le _) ?_ ?_
 · exact ⟨⟨rfl, congrArg (fun n => Cell.s (.int .i64 n)) y02.symm, ⟨rfl, rfl, rfl⟩, trivial⟩, ⟨⟨z0b.symm, .inl rfl, .inl rfl⟩, trivial⟩, rfl⟩
 · intro i hi J hJ
   refine xb rfl ?_ ?_ <;> intro h
   · have h : i < rr.length := by simpa using h
     obtain ⟨row, hg⟩ : ∃ row, rr[i]? = some row := ⟨_, List.getElem?_eq_getElem h⟩
     obtain ⟨x0, x1, rfl⟩ := y1k (hw.2 row (List.mem_of_getElem? hg))
     have hl := q0x (f := (mk zn)) (k := k) hi
     have hg0 := y0x (f := (mk zn)) (k := k) hg
     have hlt : i < (md (mk zn) rr k i).length := by omega
     refine xs rfl (hl).symm (xs rfl (nn_ _) (q8 rfl _ hg0 (xs rfl rfl (xs rfl (hl).symm (q8 rfl _ hg0 (xs rfl (by show 0 + 1 ≤ 2; omega) (xs rfl ⟨trivial, trivial⟩ ?_)))))))
     refine xs rfl (qa (hl)).symm (xs rfl (nn_ _) (q8 rfl _ (qv (hl) h) (xs rfl rfl (xs rfl (qa (hl)).symm (q8 rfl _ (qv (hl) h) (xs rfl (by show 1 + 1 ≤ 2; omega) (xs rfl ⟨trivial, trivial⟩ ?_)))))))
     refine za rfl (hJ _ (i + 1) (by omega) (by omega) ?_)
     refine ⟨⟨cwi (by omega) (by omega) (by omega), ?_, ⟨rfl, rfl, rfl⟩, trivial⟩, ⟨⟨?_, .inl rfl, .inl rfl⟩, trivial⟩, rfl⟩
     · rw [z02 hg]; rfl
     · refine Eq.trans ?_ (z0y hg)
       try simp only [Int.toNat_natCast, qt hg0, ssr hlt, List.set_set]
       rfl
   · have h : ¬ i < rr.length := by simpa using h
     have : i = rr.length := by omega
     subst this
     exact xr rfl (y1o rfl ⟨⟨rfl, congrArg (Value.int .i64) y0b, trivial⟩, z7 rfl⟩ ⟨⟨rfl, rfl, z0x, qq _ _ _, qs hw⟩, trivial⟩)
theorem q4u (z : Nat) (rr : List (List Cell)) (k : Int) (hw : WR 9000000000000000000 ql rr) : PG Tryz.prog 181 [.one (.giv true z rr), .one (.bor (i64 k))] (rI (mkR (mk ql) rr k).2) [(0, (mkR (mk ql) rr k).1)] := by
 refine PG.begin Tryz.func181 rfl (by kernel_rfl) ?_
 have hlen := hw.1
 refine zc rfl (ι := Nat) (fun i => i ≤ rr.length) (fun i => ⟨[(5, sV (.int .i64 i)), (1, sV (.int .i64 (mdk (mk ql) rr k i))), (0, .one (.h 1000000000 rr.length))], [(1000000000, .arr true z 0 (md (mk ql) rr k i))]⟩) (fun i => rr.length - i) 0 (Nat.zero_le _) ?_ ?_
 · exact ⟨⟨rfl, congrArg (fun n => Cell.s (.int .i64 n)) y02.symm, ⟨rfl, rfl, rfl⟩, trivial⟩, ⟨⟨z0b.symm, .inl rfl, .inl rfl⟩, trivial⟩, rfl⟩
 · intro i hi J hJ
   refine xb rfl ?_ ?_ <;> intro h
   · have h : i < rr.length := by simpa using h
     obtain ⟨row, hg⟩ : ∃ row, rr[i]? = some row := ⟨_, List.getElem?_eq_getElem h⟩
     obtain ⟨x0, x1, x2, x3, x4, x5, rfl, h5⟩ := z1k (hw.2 row (List.mem_of_getElem? hg))
     have hl := q0x (f := (mk ql)) (k := k) hi
     have hg0 := y0x (f := (mk ql)) (k := k) hg
     have hlt : i < (md (mk ql) rr k i).length := by omega
     refine xs rfl (hl).symm (xs rfl (nn_ _) (q8 rfl _ hg0 (xs rfl rfl (xs rfl (hl).symm (q8 rfl _ hg0 (xs rfl (by show 0 + 1 ≤ 6; omega) (xs rfl ⟨trivial, trivial⟩ ?_)))))))
     refine xs rfl (qa (hl)).symm (xs rfl (nn_ _) (q8 rfl _ (qv (hl) h) (xs rfl rfl (xs rfl (qa (hl)).symm (q8 rfl _ (qv (hl) h) (xs rfl (by show 1 + 1 ≤ 6; omega) (xs rfl ⟨trivial, trivial⟩ ?_)))))))
     refine xs rfl (qa (qa (hl))).symm (xs rfl (nn_ _) (q8 rfl _ (qv (qa (hl)) h) (xs rfl rfl (xs rfl (qa (qa (hl))).symm (q8 rfl _ (qv (qa (hl)) h) (xs rfl (by show 2 + 1 ≤ 6; omega) (xs rfl ⟨trivial, trivial⟩ ?_)))))))
     refine xs rfl (qa (qa (qa (hl)))).symm (xs rfl (nn_ _) (q8 rfl _ (qv (qa (qa (hl))) h) (xs rfl rfl (xs rfl (qa (qa (qa (hl)))).symm (q8 rfl _ (qv (qa (qa (hl))) h) (xs rfl (by show 3 + 1 ≤ 6; omega) (xs rfl ⟨trivial, trivial⟩ ?_)))))))
     refine xs rfl (qa (qa (qa (qa (hl))))).symm (xs rfl (nn_ _) (q8 rfl _ (qv (qa (qa (qa (hl)))) h) (xs rfl rfl (xs rfl (qa (qa (qa (qa (hl))))).symm (q8 rfl _ (qv (qa (qa (qa (hl)))) h) (xs rfl (by show 4 + 1 ≤ 6; omega) (xs rfl ⟨trivial, trivial⟩ ?_)))))))
     refine xs rfl (qa (qa (qa (qa (qa (hl)))))).symm (xs rfl (nn_ _) (q8 rfl _ (qv (qa (qa (qa (qa (hl))))) h) (xs rfl rfl (xs rfl (qa (qa (qa (qa (qa (hl)))))).symm (q8 rfl _ (qv (qa (qa (qa (qa (hl))))) h) ?_)))))
     refine y0l rfl (q2j 0 _ _ h5) ⟨⟨rfl, rfl, rfl, _, (qv (qa (qa (qa (qa (hl))))) h), rfl⟩, rfl, trivial⟩ rfl ?_
     refine za rfl (hJ _ (i + 1) (by omega) (by omega) ?_)
     refine ⟨⟨cwi (by omega) (by omega) (by omega), ?_, ⟨rfl, rfl, rfl⟩, trivial⟩, ⟨⟨?_, .inl rfl, .inl rfl⟩, trivial⟩, rfl⟩
     · rw [z02 hg]; rfl
     · refine Eq.trans ?_ (z0y hg)
       try simp only [Int.toNat_natCast, qt hg0, ssr hlt, List.set_set]
       rfl
   · have h : ¬ i < rr.length := by simpa using h
     have : i = rr.length := by omega
     subst this
     exact xr rfl (y1o rfl ⟨⟨rfl, congrArg (Value.int .i64) y0b, trivial⟩, z7 rfl⟩ ⟨⟨rfl, rfl, z0x, qq _ _ _, qs hw⟩, trivial⟩)
theorem z2n (z : Nat) (rr : List (List Cell)) (k : Int) (hw : WR 9000000000000000000 q9 rr) : PG Tryz.prog 97 [.one (.giv true z rr), .one (.bor (i64 k))] (rI (mkR (mk q9) rr k).2) [(0, (mkR (mk q9) rr k).1)] := by
 refine PG.begin Tryz.func97 rfl (by kernel_rfl) ?_
 have hlen := hw.1
 refine zc rfl (ι := Nat) (fun i => i ≤ rr.length) (fun i => ⟨[(5, sV (.int .i64 i)), (1, sV (.int .i64 (mdk (mk q9) rr k i))), (0, .one (.h 1000000000 rr.length))], [(1000000000, .arr true z 0 (md (mk q9) rr k i))]⟩) (fun i => rr.length - i) 0 (Nat.zero_le _) ?_ ?_
 · exact ⟨⟨rfl, congrArg (fun n => Cell.s (.int .i64 n)) y02.symm, ⟨rfl, rfl, rfl⟩, trivial⟩, ⟨⟨z0b.symm, .inl rfl, .inl rfl⟩, trivial⟩, rfl⟩
 · intro i hi J hJ
   refine xb rfl ?_ ?_ <;> intro h
   · have h : i < rr.length := by simpa using h
     obtain ⟨row, hg⟩ : ∃ row, rr[i]? = some row := ⟨_, List.getElem?_eq_getElem h⟩
     obtain ⟨x0, rfl, h0⟩ := q08 (hw.2 row (List.mem_of_getElem? hg))
     have hl := q0x (f := (mk q9)) (k := k) hi
     have hg0 := y0x (f := (mk q9)) (k := k) hg
     have hlt : i < (md (mk q9) rr k i).length := by omega
     refine xs rfl (hl).symm (xs rfl (nn_ _) (q8 rfl _ hg0 (xs rfl rfl (xs rfl (hl).symm (q8 rfl _ hg0 ?_)))))
     refine y0l rfl (q4u 0 _ _ h0) ⟨⟨rfl, rfl, rfl, _, hg0, rfl⟩, rfl, trivial⟩ rfl ?_
     refine za rfl (hJ _ (i + 1) (by omega) (by omega) ?_)
     refine ⟨⟨cwi (by omega) (by omega) (by omega), ?_, ⟨rfl, rfl, rfl⟩, trivial⟩, ⟨⟨?_, .inl rfl, .inl rfl⟩, trivial⟩, rfl⟩
     · rw [z02 hg]; rfl
     · refine Eq.trans ?_ (z0y hg)
       try simp only [Int.toNat_natCast, qt hg0, ssr hlt, List.set_set]
       rfl
   · have h : ¬ i < rr.length := by simpa using h
     have : i = rr.length := by omega
     subst this
     exact xr rfl (y1o rfl ⟨⟨rfl, congrArg (Value.int .i64) y0b, trivial⟩, z7 rfl⟩ ⟨⟨rfl, rfl, z0x, qq _ _ _, qs hw⟩, trivial⟩)
theorem q5j (z : Nat) (rr : List (List Cell)) (k : Int) (hw : WR 9000000000000000000 zq rr) : PG Tryz.prog 182 [.one (.giv true z rr), .one (.bor (i64 k))] (rI (mkR (mk zq) rr k).2) [(0, (mkR (mk zq) rr k).1)] := by
 refine PG.begin Tryz.func182 rfl (by kernel_rfl) ?_
 have hlen := hw.1
 refine zc rfl (ι := Nat) (fun i => i ≤ rr.length) (fun i => ⟨[(5, sV (.int .i64 i)), (1, sV (.int .i64 (mdk (mk zq) rr k i))), (0, .one (.h 1000000000 rr.length))], [(1000000000, .arr true z 0 (md (mk zq) rr k i))]⟩) (fun i => rr.length - i) 0 (Nat.zero_le _) ?_ ?_
 · exact ⟨⟨rfl, congrArg (fun n => Cell.s (.int .i64 n)) y02.symm, ⟨rfl, rfl, rfl⟩, trivial⟩, ⟨⟨z0b.symm, .inl rfl, .inl rfl⟩, trivial⟩, rfl⟩
 · intro i hi J hJ
   refine xb rfl ?_ ?_ <;> intro h
   · have h : i < rr.length := by simpa using h
     obtain ⟨row, hg⟩ : ∃ row, rr[i]? = some row := ⟨_, List.getElem?_eq_getElem h⟩
     obtain ⟨x0, x1, x2, x3, x4, x5, rfl, h4, h5⟩ := z2c (hw.2 row (List.mem_of_getElem? hg))
     have hl := q0x (f := (mk zq)) (k := k) hi
     have hg0 := y0x (f := (mk zq)) (k := k) hg
     have hlt : i < (md (mk zq) rr k i).length := by omega
     refine xs rfl (hl).symm (xs rfl (nn_ _) (q8 rfl _ hg0 (xs rfl rfl (xs rfl (hl).symm (q8 rfl _ hg0 (xs rfl (by show 0 + 1 ≤ 6; omega) (xs rfl ⟨trivial, trivial⟩ ?_)))))))
     refine xs rfl (qa (hl)).symm (xs rfl (nn_ _) (q8 rfl _ (qv (hl) h) (xs rfl rfl (xs rfl (qa (hl)).symm (q8 rfl _ (qv (hl) h) (xs rfl (by show 1 + 1 ≤ 6; omega) (xs rfl ⟨trivial, trivial⟩ ?_)))))))
     refine xs rfl (qa (qa (hl))).symm (xs rfl (nn_ _) (q8 rfl _ (qv (qa (hl)) h) (xs rfl rfl (xs rfl (qa (qa (hl))).symm (q8 rfl _ (qv (qa (hl)) h) (xs rfl (by show 2 + 1 ≤ 6; omega) (xs rfl ⟨trivial, trivial⟩ ?_)))))))
     refine xs rfl (qa (qa (qa (hl)))).symm (xs rfl (nn_ _) (q8 rfl _ (qv (qa (qa (hl))) h) (xs rfl rfl (xs rfl (qa (qa (qa (hl)))).symm (q8 rfl _ (qv (qa (qa (hl))) h) (xs rfl (by show 3 + 1 ≤ 6; omega) (xs rfl ⟨trivial, trivial⟩ ?_)))))))
     refine xs rfl (qa (qa (qa (qa (hl))))).symm (xs rfl (nn_ _) (q8 rfl _ (qv (qa (qa (qa (hl)))) h) (xs rfl rfl (xs rfl (qa (qa (qa (qa (hl))))).symm (q8 rfl _ (qv (qa (qa (qa (hl)))) h) ?_)))))
     refine y0l rfl (q16 0 _ _ h4) ⟨⟨rfl, rfl, rfl, _, (qv (qa (qa (qa (hl)))) h), rfl⟩, rfl, trivial⟩ rfl ?_
     refine xs rfl (lsr (qa (qa (qa (qa (hl)))))).symm (xs rfl (nn_ _) (q8 rfl _ (ze (qv (qa (qa (qa (hl)))) h)) (xs rfl rfl (xs rfl (lsr (qa (qa (qa (qa (hl)))))).symm (q8 rfl _ (ze (qv (qa (qa (qa (hl)))) h)) ?_)))))
     refine y0l rfl (q2j 0 _ _ h5) ⟨⟨rfl, rfl, rfl, _, (ze (qv (qa (qa (qa (hl)))) h)), rfl⟩, rfl, trivial⟩ rfl ?_
     refine za rfl (hJ _ (i + 1) (by omega) (by omega) ?_)
     refine ⟨⟨cwi (by omega) (by omega) (by omega), ?_, ⟨rfl, rfl, rfl⟩, trivial⟩, ⟨⟨?_, .inl rfl, .inl rfl⟩, trivial⟩, rfl⟩
     · rw [z02 hg]; rfl
     · refine Eq.trans ?_ (z0y hg)
       try simp only [Int.toNat_natCast, qt hg0, ssr hlt, List.set_set]
       rfl
   · have h : ¬ i < rr.length := by simpa using h
     have : i = rr.length := by omega
     subst this
     exact xr rfl (y1o rfl ⟨⟨rfl, congrArg (Value.int .i64) y0b, trivial⟩, z7 rfl⟩ ⟨⟨rfl, rfl, z0x, qq _ _ _, qs hw⟩, trivial⟩)
theorem z46 (z : Nat) (rr : List (List Cell)) (k : Int) (hw : WR 9000000000000000000 qo rr) : PG Tryz.prog 183 [.one (.giv true z rr), .one (.bor (i64 k))] (rI (mkR (mk qo) rr k).2) [(0, (mkR (mk qo) rr k).1)] := by
 refine PG.begin Tryz.func183 rfl (by kernel_rfl) ?_
 have hlen := hw.1
 refine zc rfl (ι := Nat) (fun i => i ≤ rr.length) (fun i => ⟨[(5, sV (.int .i64 i)), (1, sV (.int .i64 (mdk (mk qo) rr k i))), (0, .one (.h 1000000000 rr.length))], [(1000000000, .arr true z 0 (md (mk qo) rr k i))]⟩) (fun i => rr.length - i) 0 (Nat.zero_le _) ?_ ?_
 · exact ⟨⟨rfl, congrArg (fun n => Cell.s (.int .i64 n)) y02.symm, ⟨rfl, rfl, rfl⟩, trivial⟩, ⟨⟨z0b.symm, .inl rfl, .inl rfl⟩, trivial⟩, rfl⟩
 · intro i hi J hJ
   refine xb rfl ?_ ?_ <;> intro h
   · have h : i < rr.length := by simpa using h
     obtain ⟨row, hg⟩ : ∃ row, rr[i]? = some row := ⟨_, List.getElem?_eq_getElem h⟩
     obtain ⟨x0, x1, x2, x3, x4, rfl⟩ := y12 (hw.2 row (List.mem_of_getElem? hg))
     have hl := q0x (f := (mk qo)) (k := k) hi
     have hg0 := y0x (f := (mk qo)) (k := k) hg
     have hlt : i < (md (mk qo) rr k i).length := by omega
     refine xs rfl (hl).symm (xs rfl (nn_ _) (q8 rfl _ hg0 (xs rfl rfl (xs rfl (hl).symm (q8 rfl _ hg0 (xs rfl (by show 0 + 1 ≤ 5; omega) (xs rfl ⟨trivial, trivial⟩ ?_)))))))
     refine xs rfl (qa (hl)).symm (xs rfl (nn_ _) (q8 rfl _ (qv (hl) h) (xs rfl rfl (xs rfl (qa (hl)).symm (q8 rfl _ (qv (hl) h) (xs rfl (by show 1 + 1 ≤ 5; omega) (xs rfl ⟨trivial, trivial⟩ ?_)))))))
     refine xs rfl (qa (qa (hl))).symm (xs rfl (nn_ _) (q8 rfl _ (qv (qa (hl)) h) (xs rfl rfl (xs rfl (qa (qa (hl))).symm (q8 rfl _ (qv (qa (hl)) h) (xs rfl (by show 2 + 1 ≤ 5; omega) (xs rfl ⟨trivial, trivial⟩ ?_)))))))
     refine xs rfl (qa (qa (qa (hl)))).symm (xs rfl (nn_ _) (q8 rfl _ (qv (qa (qa (hl))) h) (xs rfl rfl (xs rfl (qa (qa (qa (hl)))).symm (q8 rfl _ (qv (qa (qa (hl))) h) (xs rfl (by show 3 + 1 ≤ 5; omega) (xs rfl ⟨trivial, trivial⟩ ?_)))))))
     refine xs rfl (qa (qa (qa (qa (hl))))).symm (xs rfl (nn_ _) (q8 rfl _ (qv (qa (qa (qa (hl)))) h) (xs rfl rfl (xs rfl (qa (qa (qa (qa (hl))))).symm (q8 rfl _ (qv (qa (qa (qa (hl)))) h) (xs rfl (by show 4 + 1 ≤ 5; omega) (xs rfl ⟨trivial, trivial⟩ ?_)))))))
     refine za rfl (hJ _ (i + 1) (by omega) (by omega) ?_)
     refine ⟨⟨cwi (by omega) (by omega) (by omega), ?_, ⟨rfl, rfl, rfl⟩, trivial⟩, ⟨⟨?_, .inl rfl, .inl rfl⟩, trivial⟩, rfl⟩
     · rw [z02 hg]; rfl
     · refine Eq.trans ?_ (z0y hg)
       try simp only [Int.toNat_natCast, qt hg0, ssr hlt, List.set_set]
       rfl
   · have h : ¬ i < rr.length := by simpa using h
     have : i = rr.length := by omega
     subst this
     exact xr rfl (y1o rfl ⟨⟨rfl, congrArg (Value.int .i64) y0b, trivial⟩, z7 rfl⟩ ⟨⟨rfl, rfl, z0x, qq _ _ _, qs hw⟩, trivial⟩)
theorem y3g (z : Nat) (rr : List (List Cell)) (k : Int) (hw : WR 9000000000000000000 qd rr) : PG Tryz.prog 98 [.one (.giv true z rr), .one (.bor (i64 k))] (rI (mkR (mk qd) rr k).2) [(0, (mkR (mk qd) rr k).1)] := by
 refine PG.begin Tryz.func98 rfl (by kernel_rfl) ?_
 have hlen := hw.1
 refine zc rfl (ι := Nat) (fun i => i ≤ rr.length) (fun i => ⟨[(5, sV (.int .i64 i)), (1, sV (.int .i64 (mdk (mk qd) rr k i))), (0, .one (.h 1000000000 rr.length))], [(1000000000, .arr true z 0 (md (mk qd) rr k i))]⟩) (fun i => rr.length - i) 0 (Nat.zero_le _) ?_ ?_
 · exact ⟨⟨rfl, congrArg (fun n => Cell.s (.int .i64 n)) y02.symm, ⟨rfl, rfl, rfl⟩, trivial⟩, ⟨⟨z0b.symm, .inl rfl, .inl rfl⟩, trivial⟩, rfl⟩
 · intro i hi J hJ
   refine xb rfl ?_ ?_ <;> intro h
   · have h : i < rr.length := by simpa using h
     obtain ⟨row, hg⟩ : ∃ row, rr[i]? = some row := ⟨_, List.getElem?_eq_getElem h⟩
     obtain ⟨x0, x1, x2, rfl, h1, h2⟩ := q0n (hw.2 row (List.mem_of_getElem? hg))
     have hl := q0x (f := (mk qd)) (k := k) hi
     have hg0 := y0x (f := (mk qd)) (k := k) hg
     have hlt : i < (md (mk qd) rr k i).length := by omega
     refine xs rfl (hl).symm (xs rfl (nn_ _) (q8 rfl _ hg0 (xs rfl rfl (xs rfl (hl).symm (q8 rfl _ hg0 (xs rfl (by show 0 + 1 ≤ 3; omega) (xs rfl ⟨trivial, trivial⟩ ?_)))))))
     refine xs rfl (qa (hl)).symm (xs rfl (nn_ _) (q8 rfl _ (qv (hl) h) (xs rfl rfl (xs rfl (qa (hl)).symm (q8 rfl _ (qv (hl) h) ?_)))))
     refine y0l rfl (q5j 0 _ _ h1) ⟨⟨rfl, rfl, rfl, _, (qv (hl) h), rfl⟩, rfl, trivial⟩ rfl ?_
     refine xs rfl (lsr (qa (hl))).symm (xs rfl (nn_ _) (q8 rfl _ (ze (qv (hl) h)) (xs rfl rfl (xs rfl (lsr (qa (hl))).symm (q8 rfl _ (ze (qv (hl) h)) ?_)))))
     refine y0l rfl (z46 0 _ _ h2) ⟨⟨rfl, rfl, rfl, _, (ze (qv (hl) h)), rfl⟩, rfl, trivial⟩ rfl ?_
     refine za rfl (hJ _ (i + 1) (by omega) (by omega) ?_)
     refine ⟨⟨cwi (by omega) (by omega) (by omega), ?_, ⟨rfl, rfl, rfl⟩, trivial⟩, ⟨⟨?_, .inl rfl, .inl rfl⟩, trivial⟩, rfl⟩
     · rw [z02 hg]; rfl
     · refine Eq.trans ?_ (z0y hg)
       try simp only [Int.toNat_natCast, qt hg0, ssr hlt, List.set_set]
       rfl
   · have h : ¬ i < rr.length := by simpa using h
     have : i = rr.length := by omega
     subst this
     exact xr rfl (y1o rfl ⟨⟨rfl, congrArg (Value.int .i64) y0b, trivial⟩, z7 rfl⟩ ⟨⟨rfl, rfl, z0x, qq _ _ _, qs hw⟩, trivial⟩)
theorem y31 (z : Nat) (rr : List (List Cell)) (k : Int) (hw : WR 9000000000000000000 qg rr) : PG Tryz.prog 99 [.one (.giv true z rr), .one (.bor (i64 k))] (rI (mkR (mk qg) rr k).2) [(0, (mkR (mk qg) rr k).1)] := by
 refine PG.begin Tryz.func99 rfl (by kernel_rfl) ?_
 have hlen := hw.1
 refine zc rfl (ι := Nat) (fun i => i ≤ rr.length) (fun i => ⟨[(5, sV (.int .i64 i)), (1, sV (.int .i64 (mdk (mk qg) rr k i))), (0, .one (.h 1000000000 rr.length))], [(1000000000, .arr true z 0 (md (mk qg) rr k i))]⟩) (fun i => rr.length - i) 0 (Nat.zero_le _) ?_ ?_
 · exact ⟨⟨rfl, congrArg (fun n => Cell.s (.int .i64 n)) y02.symm, ⟨rfl, rfl, rfl⟩, trivial⟩, ⟨⟨z0b.symm, .inl rfl, .inl rfl⟩, trivial⟩, rfl⟩
 · intro i hi J hJ
   refine xb rfl ?_ ?_ <;> intro h
   · have h : i < rr.length := by simpa using h
     obtain ⟨row, hg⟩ : ∃ row, rr[i]? = some row := ⟨_, List.getElem?_eq_getElem h⟩
     obtain ⟨x0, x1, x2, x3, x4, x5, x6, x7, x8, rfl⟩ := z0f (hw.2 row (List.mem_of_getElem? hg))
     have hl := q0x (f := (mk qg)) (k := k) hi
     have hg0 := y0x (f := (mk qg)) (k := k) hg
     have hlt : i < (md (mk qg) rr k i).length := by omega
     refine xs rfl (hl).symm (xs rfl (nn_ _) (q8 rfl _ hg0 (xs rfl rfl (xs rfl (hl).symm (q8 rfl _ hg0 (xs rfl (by show 0 + 1 ≤ 9; omega) (xs rfl ⟨trivial, trivial⟩ ?_)))))))
     refine xs rfl (qa (hl)).symm (xs rfl (nn_ _) (q8 rfl _ (qv (hl) h) (xs rfl rfl (xs rfl (qa (hl)).symm (q8 rfl _ (qv (hl) h) (xs rfl (by show 1 + 1 ≤ 9; omega) (xs rfl ⟨trivial, trivial⟩ ?_)))))))
     refine xs rfl (qa (qa (hl))).symm (xs rfl (nn_ _) (q8 rfl _ (qv (qa (hl)) h) (xs rfl rfl (xs rfl (qa (qa (hl))).symm (q8 rfl _ (qv (qa (hl)) h) (xs rfl (by show 2 + 1 ≤ 9; omega) (xs rfl ⟨trivial, trivial⟩ ?_)))))))
     refine xs rfl (qa (qa (qa (hl)))).symm (xs rfl (nn_ _) (q8 rfl _ (qv (qa (qa (hl))) h) (xs rfl rfl (xs rfl (qa (qa (qa (hl)))).symm (q8 rfl _ (qv (qa (qa (hl))) h) (xs rfl (by show 3 + 1 ≤ 9; omega) (xs rfl ⟨trivial, trivial⟩ ?_)))))))
     refine xs rfl (qa (qa (qa (qa (hl))))).symm (xs rfl (nn_ _) (q8 rfl _ (qv (qa (qa (qa (hl)))) h) (xs rfl rfl (xs rfl (qa (qa (qa (qa (hl))))).symm (q8 rfl _ (qv (qa (qa (qa (hl)))) h) (xs rfl (by show 4 + 1 ≤ 9; omega) (xs rfl ⟨trivial, trivial⟩ ?_)))))))
     refine xs rfl (qa (qa (qa (qa (qa (hl)))))).symm (xs rfl (nn_ _) (q8 rfl _ (qv (qa (qa (qa (qa (hl))))) h) (xs rfl rfl (xs rfl (qa (qa (qa (qa (qa (hl)))))).symm (q8 rfl _ (qv (qa (qa (qa (qa (hl))))) h) (xs rfl (by show 5 + 1 ≤ 9; omega) (xs rfl ⟨trivial, trivial⟩ ?_)))))))
     refine xs rfl (qa (qa (qa (qa (qa (qa (hl))))))).symm (xs rfl (nn_ _) (q8 rfl _ (qv (qa (qa (qa (qa (qa (hl)))))) h) (xs rfl rfl (xs rfl (qa (qa (qa (qa (qa (qa (hl))))))).symm (q8 rfl _ (qv (qa (qa (qa (qa (qa (hl)))))) h) (xs rfl (by show 6 + 1 ≤ 9; omega) (xs rfl ⟨trivial, trivial⟩ ?_)))))))
     refine xs rfl (qa (qa (qa (qa (qa (qa (qa (hl)))))))).symm (xs rfl (nn_ _) (q8 rfl _ (qv (qa (qa (qa (qa (qa (qa (hl))))))) h) (xs rfl rfl (xs rfl (qa (qa (qa (qa (qa (qa (qa (hl)))))))).symm (q8 rfl _ (qv (qa (qa (qa (qa (qa (qa (hl))))))) h) (xs rfl (by show 7 + 1 ≤ 9; omega) (xs rfl ⟨trivial, trivial⟩ ?_)))))))
     refine xs rfl (qa (qa (qa (qa (qa (qa (qa (qa (hl))))))))).symm (xs rfl (nn_ _) (q8 rfl _ (qv (qa (qa (qa (qa (qa (qa (qa (hl)))))))) h) (xs rfl rfl (xs rfl (qa (qa (qa (qa (qa (qa (qa (qa (hl))))))))).symm (q8 rfl _ (qv (qa (qa (qa (qa (qa (qa (qa (hl)))))))) h) (xs rfl (by show 8 + 1 ≤ 9; omega) (xs rfl ⟨trivial, trivial⟩ ?_)))))))
     refine za rfl (hJ _ (i + 1) (by omega) (by omega) ?_)
     refine ⟨⟨cwi (by omega) (by omega) (by omega), ?_, ⟨rfl, rfl, rfl⟩, trivial⟩, ⟨⟨?_, .inl rfl, .inl rfl⟩, trivial⟩, rfl⟩
     · rw [z02 hg]; rfl
     · refine Eq.trans ?_ (z0y hg)
       try simp only [Int.toNat_natCast, qt hg0, ssr hlt, List.set_set]
       rfl
   · have h : ¬ i < rr.length := by simpa using h
     have : i = rr.length := by omega
     subst this
     exact xr rfl (y1o rfl ⟨⟨rfl, congrArg (Value.int .i64) y0b, trivial⟩, z7 rfl⟩ ⟨⟨rfl, rfl, z0x, qq _ _ _, qs hw⟩, trivial⟩)
theorem z3g (z0 z1 z2 z3 z4 : Nat) (x0 : List (List Cell)) (x1 : List (List Cell)) (x2 : List (List Cell)) (x3 : List (List Cell)) (x4 : List (List Cell)) (k : Int) (k0 : Int) (k1 : Int) (k2 : Int) (k3 : Int) (k4 : Int) (h0 : WR 9000000000000000000 z8 x0) (h1 : WR 9000000000000000000 zf x1) (h2 : WR 9000000000000000000 q9 x2) (h3 : WR 9000000000000000000 qd x3) (h4 : WR 9000000000000000000 qg x4) (e0 : (mkR (mk z8) x0 k).2 = k0) (e1 : (mkR (mk zf) x1 k0).2 = k1) (e2 : (mkR (mk q9) x2 k1).2 = k2) (e3 : (mkR (mk qd) x3 k2).2 = k3) (e4 : (mkR (mk qg) x4 k3).2 = k4) : PG Tryz.prog 24 [.agg [.giv true z0 x0, .giv true z1 x1, .giv true z2 x2, .giv true z3 x3, .giv true z4 x4], .one (.bor (i64 k))] (rI k4) [(0, (mkR (mk z8) x0 k).1), (1, (mkR (mk zf) x1 k0).1), (2, (mkR (mk q9) x2 k1).1), (3, (mkR (mk qd) x3 k2).1), (4, (mkR (mk qg) x4 k3).1)] := by
 refine PG.begin Tryz.func24 rfl (by kernel_rfl) ?_
 refine y0l rfl (z19 z0 x0 k h0) ⟨⟨rfl, rfl, rfl, rfl⟩, rfl, trivial⟩ rfl ?_
 rw [e0]
 refine y0l rfl (q46 z1 x1 k0 h1) ⟨⟨rfl, rfl, rfl, rfl⟩, rfl, trivial⟩ rfl ?_
 rw [e1]
 refine y0l rfl (z2n z2 x2 k1 h2) ⟨⟨rfl, rfl, rfl, rfl⟩, rfl, trivial⟩ rfl ?_
 rw [e2]
 refine y0l rfl (y3g z3 x3 k2 h3) ⟨⟨rfl, rfl, rfl, rfl⟩, rfl, trivial⟩ rfl ?_
 rw [e3]
 refine y0l rfl (y31 z4 x4 k3 h4) ⟨⟨rfl, rfl, rfl, rfl⟩, rfl, trivial⟩ rfl ?_
 rw [e4]
 exact xr rfl (y1o rfl ⟨⟨rfl, rfl, trivial⟩, z7 rfl⟩ ⟨⟨rfl, rfl, rfl, qq _ _ _, qs h0⟩, ⟨rfl, rfl, rfl, qq _ _ _, qs h1⟩, ⟨rfl, rfl, rfl, qq _ _ _, qs h2⟩, ⟨rfl, rfl, rfl, qq _ _ _, qs h3⟩, ⟨rfl, rfl, rfl, qq _ _ _, qs h4⟩, trivial⟩)
theorem q5g (rr : List (List Cell)) (k : Int) (hw : WR 9000000000000000000 qn rr) : PC Tryz.prog 101 [.one (.l rr), .one (i64 k)] (rI (ng (hdR (hd qn) rr k))) := by
 refine PC.begin Tryz.func101 rfl (by kernel_rfl) ?_
 have hlen := hw.1
 refine zc rfl (ι := Nat × Int) (fun x => x.1 ≤ rr.length ∧ hdR (hd qn) (rr.take x.1) k = some x.2) (fun x => ⟨[(5, sV (.int .i64 x.1)), (1, sV (.int .i64 x.2)), (0, .one (.b (.l rr)))], []⟩) (fun x => rr.length - x.1) (0, k) ⟨Nat.zero_le _, rfl⟩ ?_ ?_
 · exact ⟨⟨rfl, rfl, rfl, trivial⟩, trivial, rfl⟩
 · intro ⟨i, v⟩ ⟨hi, hv⟩ J hJ
   dsimp only at hi hv ⊢
   refine xb rfl ?_ ?_ <;> intro h
   · have h : i < rr.length := by simpa using h
     obtain ⟨row, hg⟩ : ∃ row, rr[i]? = some row := ⟨_, List.getElem?_eq_getElem h⟩
     obtain ⟨x0, x1, x2, x3, rfl⟩ := z1u (hw.2 row (List.mem_of_getElem? hg))
     have hst := z8d hg hv
     refine xs rfl (nn_ _) (q8 rfl _ hg (xs rfl rfl ?_))
     refine xb rfl ?_ ?_ <;> intro hb
     · have hb : ¬ x0 = mkv .i64 (v) := by simpa [mkv, nx] using hb
       exact xv rfl rfl rfl (congrArg (Value.int .i64) (y32 (z2r (i := i + 1) (hst.trans (by simp only [hd, if_neg hb])))).symm)
     have hb0 : x0 = mkv .i64 (v) := by simpa [mkv, nx] using hb
     clear hb
     refine xs rfl (nn_ _) (q8 rfl _ hg (xs rfl rfl ?_))
     refine xb rfl ?_ ?_ <;> intro hb
     · have hb : ¬ x1 = mkv .i64 (nx (v)) := by simpa [mkv, nx] using hb
       exact xv rfl rfl rfl (congrArg (Value.int .i64) (y32 (z2r (i := i + 1) (hst.trans (by simp only [hd, if_neg hb, if_pos hb0])))).symm)
     have hb1 : x1 = mkv .i64 (nx (v)) := by simpa [mkv, nx] using hb
     clear hb
     refine xs rfl (nn_ _) (q8 rfl _ hg (xs rfl rfl ?_))
     refine xb rfl ?_ ?_ <;> intro hb
     · have hb : ¬ x2 = mkv .i64 (nx (nx (v))) := by simpa [mkv, nx] using hb
       exact xv rfl rfl rfl (congrArg (Value.int .i64) (y32 (z2r (i := i + 1) (hst.trans (by simp only [hd, if_neg hb, if_pos hb0, if_pos hb1])))).symm)
     have hb2 : x2 = mkv .i64 (nx (nx (v))) := by simpa [mkv, nx] using hb
     clear hb
     refine xs rfl (nn_ _) (q8 rfl _ hg (xs rfl rfl ?_))
     refine xb rfl ?_ ?_ <;> intro hb
     · have hb : ¬ x3 = mkv .i64 (nx (nx (nx (v)))) := by simpa [mkv, nx] using hb
       exact xv rfl rfl rfl (congrArg (Value.int .i64) (y32 (z2r (i := i + 1) (hst.trans (by simp only [hd, if_neg hb, if_pos hb0, if_pos hb1, if_pos hb2])))).symm)
     have hb3 : x3 = mkv .i64 (nx (nx (nx (v)))) := by simpa [mkv, nx] using hb
     clear hb
     refine za rfl (hJ _ (i + 1, nx (nx (nx (nx (v))))) ⟨by dsimp only; omega, hst.trans (by simp only [hd, if_pos hb0, if_pos hb1, if_pos hb2, if_pos hb3])⟩ (by dsimp only; omega) ?_)
     exact ⟨⟨cwi (by omega) (by omega) (by omega), rfl, rfl, trivial⟩, trivial, rfl⟩
   · have h : ¬ i < rr.length := by simpa using h
     have : i = rr.length := by omega
     subst this
     rw [List.take_length] at hv
     exact xv rfl rfl rfl (congrArg (Value.int .i64) (by rw [hv]; rfl))
theorem z58 (x0 : Int) (x1 : Int) (x2 : List (List Cell)) (h2 : WR 1048576 (.i .i64 .nil) x2) : PC Tryz.prog 84 [.agg [.s (.int .i64 x0), .s (.int .i64 x1), .l x2]] (.one (.own true [.s (.int .i64 x0), .s (.int .i64 x1), .l 1 x2])) := by
 refine PC.begin Tryz.func84 rfl (by kernel_rfl) ?_
 refine z6 rfl (q1w _ h2) rfl ⟨trivial, trivial⟩ ?_
 exact xr rfl (zm rfl ⟨⟨rfl, rfl, rfl, ⟨rfl, rfl, .inl rfl⟩, trivial⟩, z7 rfl⟩)
theorem y4g (rr : List (List Cell)) (hw : WR 1048576 qf rr) : PC Tryz.prog 19 [.one (.l rr)] (.one (.own false [.l 3 rr])) := by
 refine PC.begin Tryz.func19 rfl (by kernel_rfl) ?_
 have hlen := hw.1
 refine xs rfl rfl (xs rfl (nn_ _) (xs rfl (by omega) (xs rfl (by omega) ?_)))
 refine zc rfl (ι := Nat) (fun i => i ≤ rr.length) (fun i => ⟨[(4, sV (.int .i64 i)), (3, .one (.h 7 rr.length)), (0, .one (.b (.l rr)))], [(7, .arr true 3 0 (rr.take i ++ List.replicate (rr.length - i) [.s (.int .i64 0), .s (.int .i64 0), .l []]))]⟩) (fun i => rr.length - i) 0 (Nat.zero_le _) ?_ ?_
 · repeat' (first | exact trivial | exact rfl | exact Or.inl rfl | refine And.intro ?_ ?_)
 · intro i hi J hJ
   refine xb rfl ?_ ?_ <;> intro h
   · have h : i < rr.length := by simpa using h
     obtain ⟨row, hg⟩ : ∃ row, rr[i]? = some row := ⟨_, List.getElem?_eq_getElem h⟩
     obtain ⟨x0, x1, x2, rfl, h2⟩ := y0f (hw.2 row (List.mem_of_getElem? hg))
     refine xs rfl (nn_ _) (q8 rfl _ hg (xs rfl rfl ?_))
     refine z6 rfl (z58 _ _ _ h2) rfl ⟨tv4, trivial⟩ ?_
     refine xs rfl (zg _ _ _ _ (by omega) rfl).symm (xs rfl (nn_ _) (q8 rfl [.s (.int .i64 0), .s (.int .i64 0), .l []] (qm _ _ _ _ (by omega) rfl) (xs rfl rfl ?_)))
     refine xs rfl (zg _ _ _ _ (by omega) rfl).symm (q8 rfl [.s (.int .i64 0), .s (.int .i64 0), .l []] (qm _ _ _ _ (by omega) rfl) (xs rfl (by decide) (xs rfl ⟨trivial, trivial, ⟨rfl, rfl⟩, trivial⟩ ?_)))
     refine za rfl (hJ _ (i + 1) (by omega) (by omega) ?_)
     repeat' (first | exact trivial | exact rfl | exact Or.inl rfl | exact cwi (by omega) (by omega) (by omega) | refine And.intro ?_ ?_)
     exact q02 _ _ _ _ _ hg rfl
   · have h : ¬ i < rr.length := by simpa using h
     have : i = rr.length := by omega
     subst this
     refine xr rfl (zm rfl ⟨⟨rfl, ⟨(zg _ _ _ _ (by omega) rfl).symm, q01 _ _ _ rfl, Or.inl rfl⟩, trivial⟩, z7 rfl⟩)
theorem y56 (x0 : Int) (x1 : Int) (x2 : List (List Cell)) (b : Int) (h2 : WR 9223372036854775807 (.i .i64 .nil) x2) (hb0 : 0 ≤ b) (hb1 : b ≤ 1048576) : PC Tryz.prog 78 [.agg [.s (.int .i64 x0), .s (.int .i64 x1), .l x2], .one (.s (.int .i64 b))] (rI (szn b (tot qf [.s (.int .i64 x0), .s (.int .i64 x1), .l x2]))) := by
 refine PC.begin Tryz.func78 rfl (by kernel_rfl) ?_
 have ht : tot qf [.s (.int .i64 x0), .s (.int .i64 x1), .l x2] = zl (.i .i64 .nil) x2 := by simp only [tot, zl] <;> omega
 refine z6 rfl (y1w x2 b h2 hb0 hb1) rfl tv3 ?_
 refine xb rfl (fun h => ?_) (fun e0 => ?_)
 · have h : szn b (zl (.i .i64 .nil) x2) < 0 := by simpa using h
   exact xv rfl rfl rfl (by show Value.int _ _ = Value.int _ _; congr 1; rw [ht]; unfold szn at *; split at h <;> rw [if_pos] <;> omega)
 have e0 : 0 ≤ szn b (zl (.i .i64 .nil) x2) := by simpa using e0
 exact xv rfl rfl rfl (by show Value.int _ _ = Value.int _ _; rw [ht])
theorem q4e (rr : List (List Cell)) (b : Int) (hw : WR 9223372036854775807 qf rr) (p0 : 0 ≤ b) (p1 : b ≤ 1048576) : PC Tryz.prog 17 [.one (.l rr), .one (.s (.int .i64 b))] (rI (szn b (zl qf rr))) := by
 refine PC.begin Tryz.func17 rfl (by kernel_rfl) ?_
 have hlen := hw.1
 have w1 : IntKind.i64.wrap (b - rr.length) = b - rr.length := wrap_i64 (by omega) (by omega)
 refine xb rfl ?_ ?_ <;> intro h
 · simp only [w1, decide_eq_true_eq] at h
   exact xv rfl rfl rfl (by show Value.int _ _ = Value.int _ _; unfold szn zl; rw [if_pos (by omega)])
 simp only [w1, decide_eq_false_iff_not] at h
 have hs : szn b rr.length = b - rr.length := by unfold szn; rw [if_neg h]
 refine zc rfl (ι := Nat) (fun i => i ≤ rr.length ∧ 0 ≤ szn b (rr.length + y00 (tot qf) (rr.take i))) (fun i => ⟨[(5, sV (.int .i64 i)), (1, sV (.int .i64 (szn b (rr.length + y00 (tot qf) (rr.take i))))), (0, .one (.b (.l rr)))], []⟩) (fun i => rr.length - i) 0 ⟨Nat.zero_le _, by simp only [List.take_zero, y00, Nat.add_zero, hs]; omega⟩ ?_ ?_
 · refine ⟨⟨rfl, ?_, rfl, trivial⟩, trivial, rfl⟩
   show Cell.s (.int .i64 (IntKind.i64.wrap (b - rr.length))) = Cell.s (.int .i64 (szn b (rr.length + 0)))
   rw [w1, Nat.add_zero, hs]
 · intro i ⟨hi, hb⟩ J hJ
   refine xb rfl ?_ ?_ <;> intro h
   · have h : i < rr.length := by simpa using h
     obtain ⟨row, hg⟩ : ∃ row, rr[i]? = some row := ⟨_, List.getElem?_eq_getElem h⟩
     have hc := y0o (f := tot qf) hg
     have hc2 := q0d (tot qf) rr (i + 1)
     obtain ⟨x0, x1, x2, rfl, h2⟩ := y0f (hw.2 row (List.mem_of_getElem? hg))
     refine xs rfl (nn_ _) (q8 rfl _ hg (xs rfl rfl ?_))
     refine z6 rfl (y56 _ _ _ _ h2 hb (y0j p1 p0)) rfl ⟨tv4, trivial, trivial⟩ ?_
     refine xb rfl ?_ ?_ <;> intro hn
     · have hn : szn (szn b (rr.length + y00 (tot qf) (rr.take i))) (tot qf [.s (.int .i64 x0), .s (.int .i64 x1), .l x2]) < 0 := by simpa using hn
       rw [yi hb] at hn
       exact xv rfl rfl rfl (by show Value.int _ _ = Value.int _ _; congr 1; unfold szn zl at *; split at hn <;> rw [if_pos] <;> omega)
     · have hn : ¬ szn (szn b (rr.length + y00 (tot qf) (rr.take i))) (tot qf [.s (.int .i64 x0), .s (.int .i64 x1), .l x2]) < 0 := by simpa using hn
       have he := yi (n := tot qf [.s (.int .i64 x0), .s (.int .i64 x1), .l x2]) hb
       rw [he] at hn
       rw [Nat.add_assoc, ← hc] at he hn
       refine za rfl (hJ _ (i + 1) ⟨by omega, by omega⟩ (by omega) ?_)
       refine ⟨⟨cwi (by omega) (by omega) (by omega), ?_, rfl, trivial⟩, trivial, rfl⟩
       exact congrArg (fun n => Cell.s (.int .i64 n)) he
   · have h : ¬ i < rr.length := by simpa using h
     have : i = rr.length := by omega
     subst this
     exact xv rfl rfl rfl (by show Value.int _ _ = Value.int _ _; rw [List.take_length]; rfl)
theorem z4p (x0 : Int) (x1 : Int) (x2 : List (List Cell)) (y0 : Int) (y1 : Int) (y2 : List (List Cell)) (h2 : WR 9000000000000000000 (.i .i64 .nil) x2) (k2 : WR 9000000000000000000 (.i .i64 .nil) y2) : PC Tryz.prog 93 [.agg [.s (.int .i64 x0), .s (.int .i64 x1), .l x2], .agg [.s (.int .i64 y0), .s (.int .i64 y1), .l y2]] (rB (dE (α := List Cell) [.s (.int .i64 x0), .s (.int .i64 x1), .l x2] [.s (.int .i64 y0), .s (.int .i64 y1), .l y2])) := by
 refine PC.begin Tryz.func93 rfl (by kernel_rfl) ?_
 refine xb rfl (fun h => ?_) (fun e0 => ?_)
 · exact xv rfl rfl rfl (qi (fun e => by simp only [List.cons.injEq, Cell.s.injEq, Value.int.injEq, Value.bool.injEq, Value.string.injEq] at e; simp [e] at h))
 have e0 : x0 = y0 := by simpa using e0
 refine xb rfl (fun h => ?_) (fun e1 => ?_)
 · exact xv rfl rfl rfl (qi (fun e => by simp only [List.cons.injEq, Cell.s.injEq, Value.int.injEq, Value.bool.injEq, Value.string.injEq] at e; simp [e] at h))
 have e1 : x1 = y1 := by simpa using e1
 refine z6 rfl (q1s _ _ h2 k2) rfl tv3 ?_
 refine xb rfl (fun h => ?_) (fun e2 => ?_)
 · exact xv rfl rfl rfl (qi (fun e => q04 h (by simp only [List.cons.injEq, Cell.l.injEq] at e ⊢; simp only [e]; try trivial)))
 have e2 := y04 e2
 exact xv rfl rfl rfl (yu (by simp [e0, e1, e2]))
theorem y3z (p q : List (List Cell)) (hp : WR 9000000000000000000 qf p) (hq : WR 9000000000000000000 qf q) : PC Tryz.prog 22 [.one (.l p), .one (.l q)] (rB (dE p q)) := by
 refine PC.begin Tryz.func22 rfl (by kernel_rfl) ?_
 have hpl := hp.1
 have hql := hq.1
 refine xb rfl ?_ ?_ <;> intro h
 · exact xv rfl rfl rfl (qi (fun e => by subst e; simp at h))
 have hl : p.length = q.length := by simpa [Int.ofNat_inj] using h
 refine zc rfl (ι := Nat) (fun i => i ≤ p.length ∧ p.take i = q.take i) (fun i => ⟨[(5, sV (.int .i64 i)), (0, .one (.b (.l p))), (1, .one (.b (.l q)))], []⟩) (fun i => p.length - i) 0 ⟨Nat.zero_le _, rfl⟩ ?_ ?_
 · repeat' (first | exact trivial | exact rfl | exact Or.inl rfl | refine And.intro ?_ ?_)
 · intro i ⟨hi, he⟩ J hJ
   refine xb rfl ?_ ?_ <;> intro h
   · have h : i < p.length := by simpa using h
     obtain ⟨row, hg⟩ : ∃ row, p[i]? = some row := ⟨_, List.getElem?_eq_getElem h⟩
     obtain ⟨row', hg'⟩ : ∃ row, q[i]? = some row := ⟨_, List.getElem?_eq_getElem (by omega)⟩
     obtain ⟨x0, x1, x2, rfl, h2⟩ := y0f (hp.2 row (List.mem_of_getElem? hg))
     obtain ⟨y0, y1, y2, rfl, k2⟩ := y0f (hq.2 row' (List.mem_of_getElem? hg'))
     refine zb rfl [] (Tk [0, 1, 2] (.take 3 [8, 9] (Tk [4, 5, 6] (.take 7 [8, 9] (.alt 8 (.take 9 [] .done) .nil))))) (by kernel_rfl) ?_
     refine xs rfl (nn_ _) (q8 rfl _ hg (xs rfl rfl ?_))
     refine xs rfl (nn_ _) (q8 rfl _ hg' (xs rfl rfl ?_))
     refine z6 rfl (z4p _ _ _ _ _ _ h2 k2) rfl ⟨tv4, tv4, trivial⟩ ?_
     refine xb rfl ?_ ?_ <;> intro hb
     · exact xv rfl rfl rfl (qi (fun e => by subst e; rw [hg] at hg'; cases hg'; exact q04 hb rfl))
     · have hb := y04 hb
       refine za rfl (hJ _ (i + 1) ⟨by omega, zp he hg (hg'.trans (by rw [hb]))⟩ (by omega) ?_)
       repeat' (first | exact trivial | exact rfl | exact Or.inl rfl | exact cwi (by omega) (by omega) (by omega) | refine And.intro ?_ ?_)
   · have h : ¬ i < p.length := by simpa using h
     exact xv rfl rfl rfl (yu (by rw [show i = p.length by omega, List.take_length] at he; rw [he, hl, List.take_length]))
theorem q31 (z : Nat) (rr : List (List Cell)) (k : Int) (hw : WR 9000000000000000000 qf rr) : PG Tryz.prog 23 [.one (.giv true z rr), .one (.bor (i64 k))] (rI (mkR (mk qf) rr k).2) [(0, (mkR (mk qf) rr k).1)] := by
 refine PG.begin Tryz.func23 rfl (by kernel_rfl) ?_
 have hlen := hw.1
 refine zc rfl (ι := Nat) (fun i => i ≤ rr.length) (fun i => ⟨[(5, sV (.int .i64 i)), (1, sV (.int .i64 (mdk (mk qf) rr k i))), (0, .one (.h 1000000000 rr.length))], [(1000000000, .arr true z 0 (md (mk qf) rr k i))]⟩) (fun i => rr.length - i) 0 (Nat.zero_le _) ?_ ?_
 · exact ⟨⟨rfl, congrArg (fun n => Cell.s (.int .i64 n)) y02.symm, ⟨rfl, rfl, rfl⟩, trivial⟩, ⟨⟨z0b.symm, .inl rfl, .inl rfl⟩, trivial⟩, rfl⟩
 · intro i hi J hJ
   refine xb rfl ?_ ?_ <;> intro h
   · have h : i < rr.length := by simpa using h
     obtain ⟨row, hg⟩ : ∃ row, rr[i]? = some row := ⟨_, List.getElem?_eq_getElem h⟩
     obtain ⟨x0, x1, x2, rfl, h2⟩ := y0f (hw.2 row (List.mem_of_getElem? hg))
     have hl := q0x (f := (mk qf)) (k := k) hi
     have hg0 := y0x (f := (mk qf)) (k := k) hg
     have hlt : i < (md (mk qf) rr k i).length := by omega
     refine xs rfl (hl).symm (xs rfl (nn_ _) (q8 rfl _ hg0 (xs rfl rfl (xs rfl (hl).symm (q8 rfl _ hg0 (xs rfl (by show 0 + 1 ≤ 3; omega) (xs rfl ⟨trivial, trivial⟩ ?_)))))))
     refine xs rfl (qa (hl)).symm (xs rfl (nn_ _) (q8 rfl _ (qv (hl) h) (xs rfl rfl (xs rfl (qa (hl)).symm (q8 rfl _ (qv (hl) h) (xs rfl (by show 1 + 1 ≤ 3; omega) (xs rfl ⟨trivial, trivial⟩ ?_)))))))
     refine xs rfl (qa (qa (hl))).symm (xs rfl (nn_ _) (q8 rfl _ (qv (qa (hl)) h) (xs rfl rfl (xs rfl (qa (qa (hl))).symm (q8 rfl _ (qv (qa (hl)) h) ?_)))))
     refine y0l rfl (q16 0 _ _ h2) ⟨⟨rfl, rfl, rfl, _, (qv (qa (hl)) h), rfl⟩, rfl, trivial⟩ rfl ?_
     refine za rfl (hJ _ (i + 1) (by omega) (by omega) ?_)
     refine ⟨⟨cwi (by omega) (by omega) (by omega), ?_, ⟨rfl, rfl, rfl⟩, trivial⟩, ⟨⟨?_, .inl rfl, .inl rfl⟩, trivial⟩, rfl⟩
     · rw [z02 hg]; rfl
     · refine Eq.trans ?_ (z0y hg)
       try simp only [Int.toNat_natCast, qt hg0, ssr hlt, List.set_set]
       rfl
   · have h : ¬ i < rr.length := by simpa using h
     have : i = rr.length := by omega
     subst this
     exact xr rfl (y1o rfl ⟨⟨rfl, congrArg (Value.int .i64) y0b, trivial⟩, z7 rfl⟩ ⟨⟨rfl, rfl, z0x, qq _ _ _, qs hw⟩, trivial⟩)
abbrev y37 : Sh := (.i .i64 (.i .i64 (.l qn .nil)))
theorem y5e (x0 : Int) (x1 : Int) (x2 : List (List Cell)) (y0 : Int) (y1 : Int) (y2 : List (List Cell)) (h2 : WR 9000000000000000000 qn x2) (k2 : WR 9000000000000000000 qn y2) : PC Tryz.prog 21 [.agg [.s (.int .i64 x0), .s (.int .i64 x1), .l x2], .agg [.s (.int .i64 y0), .s (.int .i64 y1), .l y2]] (rB (dE (α := List Cell) [.s (.int .i64 x0), .s (.int .i64 x1), .l x2] [.s (.int .i64 y0), .s (.int .i64 y1), .l y2])) := by
 refine PC.begin Tryz.func21 rfl (by kernel_rfl) ?_
 refine xb rfl (fun h => ?_) (fun e0 => ?_)
 · exact xv rfl rfl rfl (qi (fun e => by simp only [List.cons.injEq, Cell.s.injEq, Value.int.injEq, Value.bool.injEq, Value.string.injEq] at e; simp [e] at h))
 have e0 : x0 = y0 := by simpa using e0
 refine xb rfl (fun h => ?_) (fun e1 => ?_)
 · exact xv rfl rfl rfl (qi (fun e => by simp only [List.cons.injEq, Cell.s.injEq, Value.int.injEq, Value.bool.injEq, Value.string.injEq] at e; simp [e] at h))
 have e1 : x1 = y1 := by simpa using e1
 refine z6 rfl (y4o _ _ h2 k2) rfl tv3 ?_
 refine xb rfl (fun h => ?_) (fun e2 => ?_)
 · exact xv rfl rfl rfl (qi (fun e => q04 h (by simp only [List.cons.injEq, Cell.l.injEq] at e ⊢; simp only [e]; try trivial)))
 have e2 := y04 e2
 exact xv rfl rfl rfl (yu (by simp [e0, e1, e2]))
theorem q45 (z2 : Nat) (x0 : Int) (x1 : Int) (x2 : List (List Cell)) (k : Int) (k2 : Int) (h2 : WR 9000000000000000000 qn x2) (e2 : (mkR (mk qn) x2 k).2 = k2) : PG Tryz.prog 25 [.agg [.bor (.s (.int .i64 x0)), .bor (.s (.int .i64 x1)), .giv true z2 x2], .one (.bor (i64 k))] (rI k2) [(2, (mkR (mk qn) x2 k).1)] := by
 refine PG.begin Tryz.func25 rfl (by kernel_rfl) ?_
 refine y0l rfl (z31 z2 x2 k h2) ⟨⟨rfl, rfl, rfl, rfl⟩, rfl, trivial⟩ rfl ?_
 rw [e2]
 exact xr rfl (y1o rfl ⟨⟨rfl, rfl, trivial⟩, z7 rfl⟩ ⟨⟨rfl, rfl, rfl, qq _ _ _, qs h2⟩, trivial⟩)
theorem q41 (x0 : Int) (x1 : Int) (x2 : List (List Cell)) (k : Int) (h2 : WR 9000000000000000000 qn x2) (hk : 0 ≤ k) : PC Tryz.prog 26 [.agg [.s (.int .i64 x0), .s (.int .i64 x1), .l x2], .one (i64 k)] (rI (ng (ht y37 [.s (.int .i64 x0), .s (.int .i64 x1), .l x2] k))) := by
 refine PC.begin Tryz.func26 rfl (by kernel_rfl) ?_
 have e : ht y37 [.s (.int .i64 x0), .s (.int .i64 x1), .l x2] k = ((ps (ng (hdR (hd qn) x2 k))).bind fun v1 => some v1) := by simp only [ht, Option.bind_assoc, Option.bind_some]
 rw [e]
 refine z6 rfl (q5g x2 k h2) rfl tv3 ?_
 generalize hk2 : ng (hdR (hd qn) x2 (k)) = k2
 refine xb rfl ?_ ?_ <;> intro hb
 · have hb : k2 < 0 := by simpa using hb
   exact xv rfl rfl rfl (congrArg (Value.int .i64) (y32 (by simp only [hk2, qb0 hb]; rfl)).symm)
 have hb2 : ¬ k2 < 0 := by simpa using hb
 have hp2 : 0 ≤ k2 := by omega
 clear hb
 exact xv rfl rfl rfl (congrArg (Value.int .i64) (by simp only [hk2, q9q hb2, Option.bind_some]; rfl))
theorem za8 (x0 x1 x2 x3 x4 : List (List Cell)) (hw : WT 9223372036854775807 yp [.l x0, .l x1, .l x2, .l x3, .l x4]) (b : Nat) (hb : b ≤ 1048576) :
 PC Tryz.prog 9 [.agg [.l x0, .l x1, .l x2, .l x3, .l x4], .one (i64 b)] (rI (-1)) ∨ ∃ c : Clu, x0 = c.cons.map Con.cs ∧ x1 = c.shs.map Shd.cs ∧ x2 = c.accs.map Acc.cs ∧ x3 = c.ldrs.map Ldr.cs ∧ x4 = c.msgs.map Msg.cs ∧ q00 c ∧ (WT 1048576 yp c.cs ∧ tot yp c.cs ≤ b) ∧
  (∃ n : Nat, n ≤ b ∧ PC Tryz.prog 9 [.agg c.cs, .one (i64 b)] (rI n)) ∧ PC Tryz.prog 11 [.agg c.cs] (.one (.own true [.l 2 (c.cons.map Con.cs), .l 6 (c.shs.map Shd.cs), .l 1 (c.accs.map Acc.cs), .l 3 (c.ldrs.map Ldr.cs), .l 9 (c.msgs.map Msg.cs)])) ∧
  PC Tryz.prog 14 [.agg c.cs, .agg c.cs] (rB true) := by
 obtain ⟨_, _, _, _, _, e, k0, k1, k2, k3, k4⟩ := q0p hw
 cases e
 have hsz := q55 x0 x1 x2 x3 x4 b k0 k1 k2 k3 k4 (by omega) (by omega)
 by_cases ht : tot yp [.l x0, .l x1, .l x2, .l x3, .l x4] ≤ b
 · right
   have hs : szn b (tot yp [.l x0, .l x1, .l x2, .l x3, .l x4]) = ((b - tot yp [.l x0, .l x1, .l x2, .l x3, .l x4] : Nat) : Int) := by
    unfold szn; rw [if_neg (by omega)]; omega
   rw [hs] at hsz
   have hwt := z95 hw (Nat.le_trans ht hb)
   obtain ⟨_, _, _, _, _, e, m0, m1, m2, m3, m4⟩ := q0p hwt
   cases e
   obtain ⟨c, ec, ho⟩ := q4l _ hwt
   have up : ∀ {e : Sh} {r : List (List Cell)}, WR 1048576 e r → WR 9000000000000000000 e r := fun h => h.mono (by omega)
   have heq := q4n x0 x1 x2 x3 x4 x0 x1 x2 x3 x4 (up m0) (up m1) (up m2) (up m3) (up m4) (up m0) (up m1) (up m2) (up m3) (up m4)
   rw [show dE (α := List Cell) [.l x0, .l x1, .l x2, .l x3, .l x4] [.l x0, .l x1, .l x2, .l x3, .l x4] = true from (Value.bool.inj (yu rfl)).symm] at heq
   have hto := z57 x0 x1 x2 x3 x4 m0 m1 m2 m3 m4
   simp only [Clu.cs, List.cons.injEq, Cell.l.injEq, and_true] at ec
   obtain ⟨rfl, rfl, rfl, rfl, rfl⟩ := ec
   exact ⟨c, rfl, rfl, rfl, rfl, rfl, ho, ⟨hwt, ht⟩, ⟨_, Nat.sub_le _ _, hsz⟩, hto, heq⟩
 · left
   have hs : szn b (tot yp [.l x0, .l x1, .l x2, .l x3, .l x4]) = -1 := by
    unfold szn; rw [if_pos (by omega)]
   rw [hs] at hsz
   exact hsz
abbrev lr (ls : List Leg) : List (List Cell) := ls.map Leg.cs
theorem y7i {ls : List Leg} {N : Nat} (h : ls.length ≤ N) : WR N qn (lr ls) := ⟨by simpa using h, fun row hr => by
 obtain ⟨x, _, rfl⟩ := List.mem_map.1 hr
 exact .i _ (.i _ (.i _ (.i _ .nil)))⟩
abbrev y0h : Sh := (.l qf .nil)
theorem q4m (row : List Cell) (h : WT 1048576 qf row) : ∃ x : Ses, row = x.cs ∧ x.sent.length ≤ 1048576 := by
 obtain ⟨a0, a1, r, rfl, h1⟩ := y0f h
 obtain ⟨us, rfl, l1, _⟩ := qy h1 y3x
 exact ⟨⟨a0, a1, us⟩, rfl, l1⟩
theorem qag (x0 : List (List Cell)) (hw : WR 9223372036854775807 qf x0) (b : Nat) (hb : b ≤ 1048576) :
 PC Tryz.prog 17 [.one (.l x0), .one (i64 b)] (rI (-1)) ∨ ∃ ss : List Ses, x0 = ss.map Ses.cs ∧ ss.length ≤ 1048576 ∧ (∀ x ∈ ss, x.sent.length ≤ 1048576) ∧ (WT 1048576 y0h [.l (ss.map Ses.cs)] ∧ tot y0h [.l (ss.map Ses.cs)] ≤ 1048576) ∧
  (∃ n : Nat, n ≤ b ∧ PC Tryz.prog 17 [.one (.l (ss.map Ses.cs)), .one (i64 b)] (rI n)) ∧
  PC Tryz.prog 19 [.one (.l (ss.map Ses.cs))] (.one (.own false [.l 3 (ss.map Ses.cs)])) ∧ PC Tryz.prog 22 [.one (.l (ss.map Ses.cs)), .one (.l (ss.map Ses.cs))] (rB true) := by
 have hw0 : WT 9223372036854775807 y0h [.l x0] := .l _ hw.1 hw.2 .nil
 have hsz := q4e x0 b hw (by omega) (by omega)
 have ht0 : zl qf x0 = tot y0h [.l x0] := by simp only [tot, zl] <;> omega
 rw [ht0] at hsz
 by_cases ht : tot y0h [.l x0] ≤ b
 · right
   have hs : szn b (tot y0h [.l x0]) = ((b - tot y0h [.l x0] : Nat) : Int) := by
    unfold szn; rw [if_neg (by omega)]; omega
   rw [hs] at hsz
   have hwt := z95 hw0 (Nat.le_trans ht hb)
   obtain ⟨_, _, e, h1, h2⟩ := hwt.z13
   cases e
   have up : ∀ {e : Sh} {r : List (List Cell)}, WR 1048576 e r → WR 9000000000000000000 e r := fun h => h.mono (by omega)
   have heq := y3z x0 x0 (up h1) (up h1)
   rw [show dE x0 x0 = true from (Value.bool.inj (yu rfl)).symm] at heq
   have hto := y4g x0 h1
   obtain ⟨ss, rfl, l1, p1⟩ := qy h1 q4m
   exact ⟨ss, rfl, l1, p1, ⟨hwt, Nat.le_trans ht hb⟩, ⟨_, Nat.sub_le _ _, hsz⟩, hto, heq⟩
 · left
   have hs : szn b (tot y0h [.l x0]) = -1 := by
    unfold szn; rw [if_pos (by omega)]
   rw [hs] at hsz
   exact hsz
theorem y8o (ss : List Ses) (h : WT 1048576 y0h [.l (ss.map Ses.cs)] ∧ tot y0h [.l (ss.map Ses.cs)] ≤ 1048576) : ∃ (k : Int) (r : List (List Cell)), 0 ≤ k ∧ k ≤ 1000000000000000 ∧
 PG Tryz.prog 23 [.one (.giv true 3 (ss.map Ses.cs)), .one (.bor (i64 1))] (rI k) [(0, r)] := by
 obtain ⟨h, ht⟩ := h
 obtain ⟨_, _, e, m0, m1⟩ := h.z13
 cases e
 have up : ∀ {e : Sh} {r : List (List Cell)}, WR 1048576 e r → WR 9000000000000000000 e r := fun h => h.mono (by omega)
 have hm := q31 3 (ss.map Ses.cs) 1 (up m0)
 have hc := y74 h
 rw [show wid y0h = 0 from rfl, show q3n y0h = 3 from rfl] at hc
 have hk := (z5l h 1 (by omega) (by omega)).2
 have hk2 : (mkR (mk qf) (ss.map Ses.cs) 1).2 = 1 + cnt y0h [.l (ss.map Ses.cs)] := hk
 exact ⟨_, _, by rw [hk2]; omega, by rw [hk2]; omega, hm⟩
theorem z74 (c : Clu) (h : WT 1048576 yp c.cs ∧ tot yp c.cs ≤ 1048576) (k0 : Int) (h0 : 0 ≤ k0) (h1 : k0 ≤ 1000000000000000) : ∃ (k : Int) (r0 r1 r2 r3 r4 : List (List Cell)), 0 ≤ k ∧
 PG Tryz.prog 24 [.agg [.giv true 2 (c.cons.map Con.cs), .giv true 6 (c.shs.map Shd.cs), .giv true 1 (c.accs.map Acc.cs), .giv true 3 (c.ldrs.map Ldr.cs), .giv true 9 (c.msgs.map Msg.cs)], .one (.bor (i64 k0))] (rI k) [(0, r0), (1, r1), (2, r2), (3, r3), (4, r4)] := by
 obtain ⟨h, ht⟩ := h
 obtain ⟨_, _, _, _, _, e, m0, m1, m2, m3, m4⟩ := q0p h
 cases e
 have up : ∀ {e : Sh} {r : List (List Cell)}, WR 1048576 e r → WR 9000000000000000000 e r := fun h => h.mono (by omega)
 have hm := z3g 2 6 1 3 9 _ _ _ _ _ k0 _ _ _ _ _ (up m0) (up m1) (up m2) (up m3) (up m4) rfl rfl rfl rfl rfl
 have hc := y74 h
 have hw : wid yp = 0 := rfl
 have hw2 : q3n yp = 48 := rfl
 rw [hw, hw2] at hc
 have hk := (z5l h k0 (by omega) (by omega)).2
 exact ⟨_, _, _, _, _, _, by
  show 0 ≤ (mk yp c.cs k0).2
  rw [hk]; omega, hm⟩
theorem z85 (ls : List Leg) (hl : ls.length ≤ 1048576) : ∃ (k : Int) (r : List (List Cell)), 0 ≤ k ∧ r.length = (lr ls).length ∧ (∀ (z : Nat) (code w : Int), PG Tryz.prog 25 [.agg [.bor (.s (.int .i64 code)), .bor (.s (.int .i64 w)), .giv true z (lr ls)], .one (.bor (i64 1))] (rI k) [(2, r)]) ∧
 ∀ code w : Int, PC Tryz.prog 26 [.agg [.s (.int .i64 code), .s (.int .i64 w), .l r], .one (i64 1)] (rI k) := by
 have hw := y7i (N := 9000000000000000000) (ls := ls) (by omega)
 have hc := q8h hw
 have hlen : (lr ls).length = ls.length := by simp
 rw [show wid qn = 4 from rfl, show q3n qn = 0 from rfl, hlen] at hc
 obtain ⟨h1, h2⟩ := z8i hw (by omega)
 refine ⟨_, _, h1, qq _ _ _, fun z code w => q45 z code w (lr ls) 1 _ hw rfl, fun code w => ?_⟩
 have := q41 code w (mkR (mk qn) (lr ls) 1).1 1 (yad hw 1) (by omega)
 rw [show ht y37 [.s (.int .i64 code), .s (.int .i64 w), .l (mkR (mk qn) (lr ls) 1).1] 1 = ht (.i .i64 (.l qn .nil)) [.s (.int .i64 w), .l (mkR (mk qn) (lr ls) 1).1] 1 from rfl, h2] at this
 exact this
theorem y85 (ls : List Leg) (hl : ls.length ≤ 1048576) (code w : Int) : PC Tryz.prog 21 [.agg [.s (.int .i64 code), .s (.int .i64 w), .l (lr ls)], .agg [.s (.int .i64 code), .s (.int .i64 w), .l (lr ls)]] (rB true) := by
 have hw := y7i (N := 9000000000000000000) (ls := ls) (by omega)
 have h := y5e code w (lr ls) code w (lr ls) hw hw
 rwa [show dE (α := List Cell) [.s (.int .i64 code), .s (.int .i64 w), .l (lr ls)] [.s (.int .i64 code), .s (.int .i64 w), .l (lr ls)] = true from (Value.bool.inj (yu rfl)).symm] at h
theorem z71 {ss : List Ses} {c : Clu} (ho : q00 c) (cl n : Int) : (answer ss c cl n).2.2.length ≤ 1048576 := by
 unfold answer
 repeat' split
 all_goals first | (simp; done) | skip
 rename_i x hx
 exact ho.1.2 x (z1b hx).1
theorem q8g (x0 : List (List Cell)) (cs : List Cell) (cl n : Int) (hr0 : WR 9223372036854775807 qf x0) (hw : WT 9223372036854775807 yp cs) : PC Tryz.prog 5 [.one (.l x0), .agg cs, .one (i64 cl), .one (i64 n)] (rB true) := by
 refine PC.begin Tryz.func5 rfl (by kernel_rfl) ?_
 obtain ⟨y0, y1, y2, y3, y4, rfl, _⟩ := q0p hw
 rcases qag x0 hr0 1048576 (Nat.le_refl _) with hgz | ⟨ss, rfl, hxl, hxs, hxw, ⟨m, hm, hgz⟩, hgto, hgeq⟩
 · skip
   refine z6 rfl (hgz) rfl tv3 (xj (k := 1) rfl ?_)
   refine xr rfl (zm rfl ⟨⟨rfl, rfl, trivial⟩, z7 rfl⟩)
 · rcases za8 y0 y1 y2 y3 y4 hw m (by omega) with hsz | ⟨c, rfl, rfl, rfl, rfl, rfl, ho, hwt, ⟨n2, _, hsz⟩, hto, heq⟩
   · skip
     refine z6 rfl (hgz) rfl tv3 (xj (k := 1) rfl (z6 rfl (hsz) rfl ⟨tv6, trivial, trivial⟩ (xj (k := 1) rfl ?_)))
     refine xr rfl (zm rfl ⟨⟨rfl, rfl, trivial⟩, z7 rfl⟩)
   · have hI := q9f ss c hxl hxs ho cl n
     have hS := y9t ss c hxl hxs ho cl n
     have hle := z71 (ss := ss) ho cl n
     unfold zb8 at hI
     unfold zag at hS
     generalize (answer ss c cl n).1 = code at hI hS
     generalize (answer ss c cl n).2.1 = word at hI hS
     generalize (answer ss c cl n).2.2 = ls at hI hS hle
     have hr := y85 ls (by omega) code word
     obtain ⟨k1, rs, hk1, hk2, hm1⟩ := y8o ss hxw
     obtain ⟨k, r0, r1, r2, r3, r4, hk, hmk⟩ := z74 c ⟨hwt.1, by omega⟩ k1 hk1 hk2
     obtain ⟨q, rr, hq, hrl, hmr, hhd⟩ := z85 ls (by omega)
     refine z6 rfl (hgz) rfl tv3 (xj (k := 1) rfl (z6 rfl (hsz) rfl ⟨tv6, trivial, trivial⟩ (xj (k := 1) rfl ?_)))
     refine yaj (n := 1) rfl (ι := Unit) (fun _ => True) (fun _ => ⟨[(10, .one (.a 10 0)), (5, .one (.b (.p c.cs))), (0, .one (.b (.l (ss.map Ses.cs)))), (2, sV (.int .i64 cl)), (3, sV (.int .i64 n))], [(10, .var [.b (i64 code), .b (i64 word), .b (.l (lr ls))])]⟩) ?_ ?_
     · intro K hK
       refine zb rfl [] (.take 0 [] (.take 2 [3, 6, 8] (Tk [4, 5] (.alt 1 (.alt 3 (.alt 6 (.alt 7 (.alt 8 .done .nil) .nil) (.alt 7 (.alt 6 (.alt 8 .done .nil) .nil) .nil)) (.alt 7 (.alt 3 (.alt 6 (.alt 8 .done .nil) .nil) .nil) .nil)) (.alt 7 (.alt 1 (.alt 3 (.alt 6 (.alt 8 .done .nil) .nil) .nil) .nil) .nil))))) (by kernel_rfl) ?_
       refine y0u rfl ?_ ?_
       refine z6 rfl (PC.q9y hgto) rfl ⟨trivial, trivial⟩ ?_
       refine y0u rfl ?_ ?_
       refine z6 rfl (PC.q9y hto) rfl ⟨tv6, trivial⟩ ?_
       refine y0u rfl ?_ ?_
       refine z6 rfl (hS) rfl ⟨trivial, tv6, trivial, trivial, trivial⟩ ?_; rotate_left
       refine z6 rfl (hS) rfl ⟨trivial, tv6, trivial, trivial, trivial⟩ ?_; rotate_left
       refine z6 rfl (PC.q9y hto) rfl ⟨tv6, trivial⟩ ?_
       refine z6 rfl (hS) rfl ⟨trivial, tv6, trivial, trivial, trivial⟩ ?_; rotate_left
       refine z6 rfl (PC.q9y hgto) rfl ⟨trivial, trivial⟩ (z6 rfl (PC.q9y hto) rfl ⟨tv6, trivial⟩ ?_)
       refine z6 rfl (hS) rfl ⟨trivial, tv6, trivial, trivial, trivial⟩ ?_; rotate_left
       all_goals exact za rfl (hK _ () trivial ⟨⟨⟨rfl, rfl, rfl⟩, ⟨rfl, rfl, rfl⟩, rfl, rfl, rfl, trivial⟩, ⟨⟨rfl, rfl, rfl, trivial⟩, trivial⟩, rfl⟩)
     intro _ _
     refine z6 rfl (hgto) rfl ⟨trivial, trivial⟩ (z6 rfl (hto) rfl ⟨tv6, trivial⟩ (z6 rfl (hI) rfl ⟨rfl, ⟨rfl, rfl, rfl, rfl, rfl, trivial⟩, trivial, trivial, trivial⟩ (z6 rfl (hr) rfl ⟨⟨trivial, trivial, rfl, trivial⟩, tv4, trivial⟩ (xj (k := 1) rfl (z6 rfl (hgto) rfl ⟨trivial, trivial⟩ (z6 rfl (hgeq) rfl ⟨rfl, rfl, trivial⟩ (xj (k := 1) rfl (zb rfl [] (.take 0 [3, 4] (.take 1 (Rg 2 3) (.alt 2 (.alt 3 (.take 4 [] .done) .nil) .nil))) (by kernel_rfl) (z6 rfl (hto) rfl ⟨tv6, trivial⟩ ?_)))))))))
     refine z6 rfl (heq) rfl ⟨⟨rfl, rfl, rfl, rfl, rfl, trivial⟩, ⟨rfl, rfl, rfl, rfl, rfl, trivial⟩, trivial⟩ (xj (k := 1) rfl (y0l rfl (hm1) ⟨⟨rfl, rfl, rfl, rfl⟩, rfl, trivial⟩ rfl (y0l rfl (hmk) ⟨⟨⟨rfl, rfl, rfl, rfl⟩, ⟨rfl, rfl, rfl, rfl⟩, ⟨rfl, rfl, rfl, rfl⟩, ⟨rfl, rfl, rfl, rfl⟩, ⟨rfl, rfl, rfl, rfl⟩, trivial⟩, rfl, trivial⟩ rfl ?_)))
     refine xb rfl ?_ ?_ <;> intro b0
     exact absurd b0 (by simp; omega)
     refine xj (k := 2) rfl (z6 rfl (hr) rfl ⟨⟨trivial, trivial, rfl, trivial⟩, tv4, trivial⟩ (xj (k := 3) rfl (y0l rfl (hmr 4 code word) ⟨⟨rfl, rfl, ⟨rfl, rfl, rfl, rfl⟩, trivial⟩, rfl, trivial⟩ rfl (z6 rfl (hhd code word) rfl ⟨⟨trivial, trivial, hrl.symm, trivial⟩, trivial, trivial⟩ ?_))))
     refine xb rfl ?_ ?_ <;> intro b0
     exact absurd b0 (by simp; omega)
     refine xb rfl ?_ ?_ <;> intro b1
     exact absurd b1 (by simp [*])
     refine yaj (n := 1) rfl (ι := Unit) (fun _ => True) (fun _ => ⟨[(17, .one (.a 17 0)), (13, .one (.a 13 0)), (10, .one (.a 10 0)), (15, sV (.int .i64 q))], [(17, .var [.b (i64 code), .b (i64 word), .b (.l (lr ls))]), (13, .var [.b (i64 code), .b (i64 word), .b (.l rr)]), (10, .var [.b (i64 code), .b (i64 word), .b (.l (lr ls))])]⟩) ?_ ?_
     · intro K hK
       refine zb rfl [] (.take 0 [] (.take 2 [3, 6, 8] (Tk [4, 5] (.alt 1 (.alt 3 (.alt 6 (.alt 7 (.alt 8 .done .nil) .nil) (.alt 7 (.alt 6 (.alt 8 .done .nil) .nil) .nil)) (.alt 7 (.alt 3 (.alt 6 (.alt 8 .done .nil) .nil) .nil) .nil)) (.alt 7 (.alt 1 (.alt 3 (.alt 6 (.alt 8 .done .nil) .nil) .nil) .nil) .nil))))) (by kernel_rfl) ?_
       refine y0u rfl ?_ ?_
       refine z6 rfl (hgto) rfl ⟨trivial, trivial⟩ ?_
       refine y0u rfl ?_ ?_
       refine z6 rfl (hto) rfl ⟨tv6, trivial⟩ ?_
       refine y0u rfl ?_ ?_
       refine z6 rfl (hI) rfl ⟨rfl, ⟨rfl, rfl, rfl, rfl, rfl, trivial⟩, trivial, trivial, trivial⟩ ?_; rotate_left
       refine z6 rfl (hI) rfl ⟨rfl, ⟨rfl, rfl, rfl, rfl, rfl, trivial⟩, trivial, trivial, trivial⟩ ?_; rotate_left
       refine z6 rfl (hto) rfl ⟨tv6, trivial⟩ ?_
       refine z6 rfl (hI) rfl ⟨rfl, ⟨rfl, rfl, rfl, rfl, rfl, trivial⟩, trivial, trivial, trivial⟩ ?_; rotate_left
       refine z6 rfl (hgto) rfl ⟨trivial, trivial⟩ (z6 rfl (hto) rfl ⟨tv6, trivial⟩ ?_)
       refine z6 rfl (hI) rfl ⟨rfl, ⟨rfl, rfl, rfl, rfl, rfl, trivial⟩, trivial, trivial, trivial⟩ ?_; rotate_left
       all_goals exact za rfl (hK _ () trivial ⟨⟨⟨rfl, rfl, rfl⟩, ⟨rfl, rfl, rfl⟩, ⟨rfl, rfl, rfl⟩, rfl, trivial⟩, ⟨⟨rfl, rfl, ⟨rfl, rfl, rfl⟩, trivial⟩, ⟨rfl, rfl, ⟨rfl, hrl.symm, rfl⟩, trivial⟩, ⟨rfl, rfl, rfl, trivial⟩, trivial⟩, rfl⟩)
     intro _ _
     refine z6 rfl (hr) rfl ⟨tv4, tv4, trivial⟩ (xj (k := 1) rfl (z6 rfl (hhd code word) rfl ⟨tv4, trivial, trivial⟩ ?_))
     refine xb rfl ?_ ?_ <;> intro b0
     exact absurd b0 (by simp; omega)
     refine xb rfl ?_ ?_ <;> intro b1
     exact absurd b1 (by simp [*])
     refine xr rfl (zm rfl ⟨⟨rfl, rfl, trivial⟩, z7 rfl⟩)
end Go.Proofs.YtohbmmpkcibnpaaGreat
end
section
namespace Go.Proofs.YtohbmmpkcibnpaaGreat.fnExactStatusAs
open Go.ChangeShapes Go.WideShapes Go.ChangeAt Go.RowKit
set_option maxRecDepth 100000 in
set_option maxHeartbeats 40000000 in
theorem closed : joinedFacts Tryz.pinned.checked.prog 5 Tryz.f5 Rows.fnExactStatusAsSpec Rows.fnExactStatusAsRow = true := by
 unfold joinedFacts
 simp only [Bool.and_eq_true]
 repeat' refine And.intro ?_ ?_
 all_goals as_aux_lemma => kernel_rfl
end Go.Proofs.YtohbmmpkcibnpaaGreat.fnExactStatusAs
end
section
namespace Go.Proofs.YtohbmmpkcibnpaaGreat.fnExactStatusAs
open Go.ChangeShapes Go.WideShapes Go.ChangeAt Go.RowKit Go.Sx
open Go.ChangeMaps (open_string shut_string)
theorem own : ownKnob Tryz.prog.godebug = none := by kernel_rfl
theorem laidOut : laidOutB Tryz.prog = true := by kernel_rfl
theorem q2 : OS Tryz.prog 2 (.i .i64 .nil) := yaf Tryz.underlying2 (by kernel_rfl)
theorem q64 : OS Tryz.prog 64 (.l (.i .i64 .nil) .nil) := z05 Tryz.underlying64 (by kernel_rfl) q2
theorem qbb : OS Tryz.prog 131 qf := qw Tryz.underlying131 (by kernel_rfl) (.cons (by kernel_rfl) (.cons (by kernel_rfl) (.cons (by kernel_rfl) (.nil _)))) (yg q2 (yg q2 (q0b q64) rfl rfl) rfl rfl)
theorem qbe : OS Tryz.prog 266 qn := qw Tryz.underlying266 (by kernel_rfl) (.cons (by kernel_rfl) (.cons (by kernel_rfl) (.cons (by kernel_rfl) (.cons (by kernel_rfl) (.nil _))))) (yg q2 (yg q2 (yg q2 (q0b q2) rfl rfl) rfl rfl) rfl rfl)
theorem q77 : OS Tryz.prog 77 (.l qn .nil) := z05 Tryz.underlying77 (by kernel_rfl) qbe
theorem q79 : OS Tryz.prog 79 z8 := qw Tryz.underlying79 (by kernel_rfl) (.cons (by kernel_rfl) (.cons (by kernel_rfl) (.nil _))) (yg q2 (q0b q77) rfl rfl)
theorem q22 : OS Tryz.prog 22 (.l z8 .nil) := z05 Tryz.underlying22 (by kernel_rfl) q79
theorem zbf : OS Tryz.prog 336 yd := qw Tryz.underlying336 (by kernel_rfl) (.cons (by kernel_rfl) (.cons (by kernel_rfl) (.cons (by kernel_rfl) (.nil _)))) (yg q2 (yg q2 (q0b q2) rfl rfl) rfl rfl)
theorem zbc : OS Tryz.prog 181 (.l yd .nil) := z05 Tryz.underlying181 (by kernel_rfl) zbf
theorem zbg : OS Tryz.prog 368 zi := qw Tryz.underlying368 (by kernel_rfl) (.cons (by kernel_rfl) (.cons (by kernel_rfl) (.nil _))) (yg q2 (q0b q2) rfl rfl)
theorem yb7 : OS Tryz.prog 182 (.l zi .nil) := z05 Tryz.underlying182 (by kernel_rfl) zbg
theorem ybc : OS Tryz.prog 184 zf := qw Tryz.underlying184 (by kernel_rfl) (.cons (by kernel_rfl) (.cons (by kernel_rfl) (.cons (by kernel_rfl) (.cons (by kernel_rfl) (.cons (by kernel_rfl) (.cons (by kernel_rfl) (.nil _))))))) (yg q2 (yg zbc (yg yb7 (yg q22 (yg yb7 (q0b q64) rfl rfl) rfl rfl) rfl rfl) rfl rfl) rfl rfl)
theorem q23 : OS Tryz.prog 23 (.l zf .nil) := z05 Tryz.underlying23 (by kernel_rfl) ybc
theorem zb1 : OS Tryz.prog 205 zn := qw Tryz.underlying205 (by kernel_rfl) (.cons (by kernel_rfl) (.cons (by kernel_rfl) (.nil _))) (yg q2 (q0b q2) rfl rfl)
theorem qb7 : OS Tryz.prog 359 (.l zn .nil) := z05 Tryz.underlying359 (by kernel_rfl) zb1
theorem ybf : OS Tryz.prog 361 ql := qw Tryz.underlying361 (by kernel_rfl) (.cons (by kernel_rfl) (.cons (by kernel_rfl) (.cons (by kernel_rfl) (.cons (by kernel_rfl) (.cons (by kernel_rfl) (.nil _)))))) (yg q2 (yg q2 (yg q2 (yg zb1 (q0b qb7) rfl rfl) rfl rfl) rfl rfl) rfl rfl)
theorem qbc : OS Tryz.prog 186 (.l ql .nil) := z05 Tryz.underlying186 (by kernel_rfl) ybf
theorem zbd : OS Tryz.prog 188 q9 := qw Tryz.underlying188 (by kernel_rfl) (.cons (by kernel_rfl) (.nil _)) (q0b qbc)
theorem q24 : OS Tryz.prog 24 (.l q9 .nil) := z05 Tryz.underlying24 (by kernel_rfl) zbd
theorem qbf : OS Tryz.prog 364 zq := qw Tryz.underlying364 (by kernel_rfl) (.cons (by kernel_rfl) (.cons (by kernel_rfl) (.cons (by kernel_rfl) (.cons (by kernel_rfl) (.cons (by kernel_rfl) (.cons (by kernel_rfl) (.nil _))))))) (yg q2 (yg q2 (yg q2 (yg q2 (yg q64 (q0b qb7) rfl rfl) rfl rfl) rfl rfl) rfl rfl) rfl rfl)
theorem ybd : OS Tryz.prog 190 (.l zq .nil) := z05 Tryz.underlying190 (by kernel_rfl) qbf
theorem ybg : OS Tryz.prog 372 qo := qw Tryz.underlying372 (by kernel_rfl) (.cons (by kernel_rfl) (.cons (by kernel_rfl) (.cons (by kernel_rfl) (.cons (by kernel_rfl) (.cons (by kernel_rfl) (.nil _)))))) (yg q2 (yg q2 (yg q2 (yg q2 (q0b q2) rfl rfl) rfl rfl) rfl rfl) rfl rfl)
theorem qbd : OS Tryz.prog 191 (.l qo .nil) := z05 Tryz.underlying191 (by kernel_rfl) ybg
theorem zbe : OS Tryz.prog 193 qd := qw Tryz.underlying193 (by kernel_rfl) (.cons (by kernel_rfl) (.cons (by kernel_rfl) (.cons (by kernel_rfl) (.nil _)))) (yg q2 (yg ybd (q0b qbd) rfl rfl) rfl rfl)
theorem q25 : OS Tryz.prog 25 (.l qd .nil) := z05 Tryz.underlying25 (by kernel_rfl) zbe
theorem ybe : OS Tryz.prog 207 qg := qw Tryz.underlying207 (by kernel_rfl) (.cons (by kernel_rfl) (.cons (by kernel_rfl) (.cons (by kernel_rfl) (.cons (by kernel_rfl) (.cons (by kernel_rfl) (.cons (by kernel_rfl) (.cons (by kernel_rfl) (.cons (by kernel_rfl) (.nil _))))))))) (yg q2 (yg q2 (yg q2 (yg q2 (yg q2 (yg q2 (yg q2 (q0b zb1) rfl rfl) rfl rfl) rfl rfl) rfl rfl) rfl rfl) rfl rfl) rfl rfl)
theorem q26 : OS Tryz.prog 26 (.l qg .nil) := z05 Tryz.underlying26 (by kernel_rfl) ybe
theorem q28 : OS Tryz.prog 28 yp := qw Tryz.underlying28 (by kernel_rfl) (.cons (by kernel_rfl) (.cons (by kernel_rfl) (.cons (by kernel_rfl) (.cons (by kernel_rfl) (.cons (by kernel_rfl) (.nil _)))))) (yg q22 (yg q23 (yg q24 (yg q25 (q0b q26) rfl rfl) rfl rfl) rfl rfl) rfl rfl)
set_option maxRecDepth 100000 in
theorem lifted (os : Os) (started : os.Started) (H : Type) (enc : TypeId × Value → H) :
 ReturnsInHanded {} Tryz.checked os 5 .any (Rows.fnExactStatusAsSpec.pre6 enc Tryz.prog Tryz.f5 Rows.fnExactStatusAsRow.domain false) (Rows.fnExactStatusAsSpec.post enc Tryz.prog Tryz.f5 false true false false) := by
 refine returnsInHanded_of_change_sized (C := Tryz.checked) own started (by kernel_rfl) Tryz.func5
  (ChangeSpec.witness6 (enc := enc) (C := Tryz.checked) false ⟨#[], #[.slice none 0 0, .agg #[.slice none 0 0, .slice none 0 0, .slice none 0 0, .slice none 0 0, .slice none 0 0], .int .i64 0, .int .i64 0], []⟩ 8 (by kernel_rfl) (by kernel_rfl) (by kernel_rfl) (by kernel_rfl)) ?_
 intro W base args ds gs before hval0 hW _ _ _
 have hval : ∀ (j : Nat) t v, Tryz.f5.params[j]? = some t → args[j]? = some v → Value.okWide Tryz.prog W .any base t v := hval0
 have hW' := hW
 obtain ⟨p, q, hA0, hV, rfl, hfz, hnd⟩ := hW
 have hA : DataW.TrodAll enc Tryz.prog W 0 (fun _ => true) true Tryz.f5.params.toList args.toList ds p := hA0
 rw [Tryz.params5] at hA hval
 obtain ⟨v0, vs0, d0, ds0, p0, q0, hargs, rfl, rfl, h0, r0⟩ := trodAll_cons hA
 obtain ⟨v1, vs1, d1, ds1, p1, q1, rfl, rfl, rfl, h1, r1⟩ := trodAll_cons r0
 obtain ⟨v2, vs2, d2, ds2, p2, q2, rfl, rfl, rfl, h2, r2⟩ := trodAll_cons r1
 obtain ⟨v3, vs3, d3, ds3, p3, q3, rfl, rfl, rfl, h3, r3⟩ := trodAll_cons r2
 obtain ⟨rfl, rfl, rfl⟩ := trodAll_nil r3
 obtain rfl : args = #[v0, v1, v2, v3] := by cases args; simp_all
 obtain ⟨rfl, rfl⟩ := trodVars_none hV
 have k0 := h0
 have lt0 : ∀ x ∈ p0, x.block < W.heap.size := by obtain ⟨m, hm⟩ := k0; exact DataW.trod_lt m _ _ _ hm
 obtain ⟨c0, R0, w0⟩ := y9a Tryz.underlying46 qbb (hval 0 46 v0 rfl rfl) h0
 have k1 := h1
 have lt1 : ∀ x ∈ p1, x.block < W.heap.size := by obtain ⟨m, hm⟩ := k1; exact DataW.trod_lt m _ _ _ hm
 obtain ⟨c1, R1, w1⟩ := za7 Tryz.underlying28 q28 (hval 1 28 v1 rfl rfl) h1
 obtain ⟨a2, rfl, rfl, rfl, w2⟩ := open_int Tryz.underlying2 (hval 2 2 v2 rfl rfl) h2
 obtain ⟨a3, rfl, rfl, rfl, w3⟩ := open_int Tryz.underlying2 (hval 3 2 v3 rfl rfl) h3
 clear hA0 hval0
 refine (PC.law (q8g c0 c1 a2 a3 w0 w1) (z4h.four R0 R1 (.s _ rfl) (.s _ rfl))).mono fun e W' ⟨he, bel⟩ => ?_
 subst he
 exact ⟨_, rfl, _, _, _, [], _, [], hW', trodAll_mk1 (shut_bool Tryz.underlying4 _), (trodAll_cons_mk (Below.trod laidOut (by kernel_rfl) (of_decide_eq_true (by kernel_rfl)) k0 bel lt0) (trodAll_cons_mk (Below.trod laidOut (by kernel_rfl) (of_decide_eq_true (by kernel_rfl)) k1 bel lt1) (trodAll_cons_mk (shut_int Tryz.underlying2 w2) (trodAll_cons_mk (shut_int Tryz.underlying2 w3) trodAll_mk0)))), rfl, bel.frame _, fun h => by cases h⟩
theorem ybb : Rows.fnExactStatusAsRow.holds Tryz.pinned (OpenSpec.ofChange Rows.fnExactStatusAsSpec) :=
 OpenClaim.holds_of_wide 5 Tryz.f5 rfl rfl rfl rfl rfl rfl rfl ⟨rfl, rfl, rfl, rfl, rfl⟩ rfl rfl rfl rfl rfl (by as_aux_lemma => kernel_rfl) Tryz.func5 closed
  (by as_aux_lemma => exact of_decide_eq_true (by kernel_rfl)) (by as_aux_lemma => unfold Func.isWrapper; first | (rw [if_pos (by decide +kernel)]; kernel_rfl) | (rw [if_neg (by decide +kernel)]; exact ⟨rfl, rfl⟩))
  (fun os started H enc _ => lifted os started H enc)
theorem qaf : Rows.FnExactStatusAsSaid := ybb
end Go.Proofs.YtohbmmpkcibnpaaGreat.fnExactStatusAs
namespace Go.Proofs.YtohbmmpkcibnpaaGreat
theorem fnExactStatusAs_holds : Rows.FnExactStatusAsSaid := fnExactStatusAs.qaf
end Go.Proofs.YtohbmmpkcibnpaaGreat
end
