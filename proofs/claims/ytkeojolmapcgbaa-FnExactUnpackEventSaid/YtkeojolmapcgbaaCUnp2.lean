/- WHAT IS PROVED: parts of the proof of FnExactUnpackEvent: what each Go function that it reaches answers, and plain lemmas; no condition beyond those that each theorem names. -/
import Derived.Test.YtkeojolmapcgbaaProg
import Derived.Below
import Derived.Deep.Draws
import Derived.Deep.AppendLies
import Derived.Maps.AppendAt
import Derived.OwnWalk
import Derived.Laws.BytesArg
import Derived.Laws.MakeOwn
import Derived.Laws.OwnMore
import Derived.Deep.OwnRows
import Derived.Tactics
import Derived.Lib.ConvBytes
import Derived.Laws.Slices
import Derived.WalkKit
import Derived.KernelRfl
import Derived.RowKit3
import Derived.Deep.LoopGhost
import Derived.Deep.QuietTactic
import Derived.BigQuiet
import Derived.WideLaws
import Derived.Deep.DeepCutAuto
import Derived.Deep.CutBlock
import Derived.Deep.RegionHeld3
import Derived.Laws.Rows
import Derived.Lib.AppendStr
import Derived.ArgAppend
import Derived.Laws.IdiomCopy
import Derived.OrdersHeld
import Derived.Laws.BitsLemmas
import Derived.RowKit
import Derived.Maps.Own
import Derived.Maps.OwnOps
import Derived.Maps.RangeWalk
import Derived.Test.YtkeojolmapcgbaaCUnp1
section
namespace Go.Proofs.Ytkeojolmapcgbaa.PEv
open Go.RowKit Go.Proofs.YtkeojolmapcgbaaW.PrintWords Go.Proofs.YtkeojolmapcgbaaW.PrintLast Go.Proofs.YtkeojolmapcgbaaW.PrintMore
set_option linter.unusedVariables false
set_option linter.unusedSimpArgs false
def y2w : Option Int → Value
 | none => .nilIface
 | some c => .iface 0 (.int .i64 c)
theorem ya : y2w none = .nilIface := rfl
theorem qa (c : Int) : y2w (some c) = .iface 0 (.int .i64 c) := rfl
theorem q2t : (Try.prog.info? 2).map (fun i => (i.zero, i.size, i.bytes)) = some (some (.int .i64 0), 1, 8) := by kernel_rfl
theorem y0f : (Try.prog.info? 5).map (fun i => (i.zero, i.size, i.bytes)) = some (some (.int .u8 0), 1, 1) := by kernel_rfl
theorem q20 : (Try.prog.info? 138).map (fun i => (i.zero, i.size, i.bytes)) = some (some (.agg #[(.int .i64 0), (.int .i64 0), (.int .i64 0), (.int .i64 0)]), 4, 32) := by kernel_rfl
structure yl where
 f0 : Int
 f1 : Int
 f2 : Int
 f3 : Int
def q1h : yl := ⟨(0 : Int), (0 : Int), (0 : Int), (0 : Int)⟩
def y08 : Kd yl := Kd.iso (Kd.pair (Kd.int .i64) (Kd.pair (Kd.int .i64) (Kd.pair (Kd.int .i64) (Kd.int .i64)))) (fun x : yl => (x.f0, x.f1, x.f2, x.f3))
theorem z21 {w : World} {x : yl} {cs : List Value} (h : y08.K w x cs) : cs = [.int .i64 x.f0, .int .i64 x.f1, .int .i64 x.f2, .int .i64 x.f3] := by
 obtain ⟨_, _, rfl, rfl, ⟨_, _, rfl, rfl, ⟨_, _, rfl, rfl, rfl⟩⟩⟩ := h
 exact rfl
theorem y0a {w : World} {base : Nat} {ok : Nat → Prop} {x : yl} {cs : List Value} (h : y08.M w base ok x cs) : cs = [.int .i64 x.f0, .int .i64 x.f1, .int .i64 x.f2, .int .i64 x.f3] := by
 obtain ⟨_, _, rfl, rfl, ⟨_, _, rfl, rfl, ⟨_, _, rfl, rfl, rfl⟩⟩⟩ := h
 exact rfl
theorem q0m (w : World) (base : Nat) (ok : Nat → Prop) (x : yl)  : y08.M w base ok x [.int .i64 x.f0, .int .i64 x.f1, .int .i64 x.f2, .int .i64 x.f3] := ⟨[.int .i64 x.f0], [.int .i64 x.f1, .int .i64 x.f2, .int .i64 x.f3], rfl, rfl, ⟨[.int .i64 x.f1], [.int .i64 x.f2, .int .i64 x.f3], rfl, rfl, ⟨[.int .i64 x.f2], [.int .i64 x.f3], rfl, rfl, rfl⟩⟩⟩
def y7 (xs : List yl) (i : Int) : yl := xs.getD i.toNat q1h
theorem yz {w : World} {A : Option Addr} {n : Nat} {xs : List yl} (h : Kd.C y08 w A n xs) (i : Int) (h0 : 0 ≤ i) (h1 : i < n) : ∃ ad , A = some ad ∧ w.cell? (ad.add (i.toNat * 4)) = some (.int .i64 (y7 xs i).f0) ∧ w.cell? ⟨(ad.add (i.toNat * 4)).block, (ad.add (i.toNat * 4)).off + 1, none⟩ = some (.int .i64 (y7 xs i).f1) ∧ w.cell? ⟨(ad.add (i.toNat * 4)).block, (ad.add (i.toNat * 4)).off + 2, none⟩ = some (.int .i64 (y7 xs i).f2) ∧ w.cell? ⟨(ad.add (i.toNat * 4)).block, (ad.add (i.toNat * 4)).off + 3, none⟩ = some (.int .i64 (y7 xs i).f3) := by
 obtain ⟨ad, c, e, _, hK, hc0⟩ := Kd.z2r h q1h i h0 h1
 have hc : ∀ j u, c[j]? = some u → w.cell? (ad.add (i.toNat * 4 + j)) = some u := hc0
 obtain rfl := z21 hK
 exact ⟨ad, e, hc 0 _ rfl, by rw [← y0z _ _ 1 (by omega)]; exact hc 1 _ rfl, by rw [← y0z _ _ 2 (by omega)]; exact hc 2 _ rfl, by rw [← y0z _ _ 3 (by omega)]; exact hc 3 _ rfl⟩
end Go.Proofs.Ytkeojolmapcgbaa.PEv
end
section
namespace Go.Proofs.Ytkeojolmapcgbaa.PEv
open Go.RowKit Go.Proofs.YtkeojolmapcgbaaW.PrintWords Go.Proofs.YtkeojolmapcgbaaW.PrintLast Go.Proofs.YtkeojolmapcgbaaW.PrintMore
set_option linter.unusedVariables false
set_option linter.unusedSimpArgs false
def yn.f (a0 : Int) (a1 : Int) (a2 : Int) : Option (Bool) := if a0 ≥ a1 then (some (decide (a0 ≤ a2))) else (some false)
set_option maxHeartbeats 8000000 in
set_option maxRecDepth 100000 in
theorem yn.calls (a0 : Int) (a1 : Int) (a2 : Int) (r : Bool) (w : World) (h : yn.f a0 a1 a2 = some r) :
  Calls Try.prog 48 #[.int .i64 a0, .int .i64 a1, .int .i64 a2] w fun e w' => e = .returned (.bool r) ∧ zq w w' := by
 have H : (if a0 ≥ a1 then (some (decide (a0 ≤ a2))) else (some false)) = some r := h
 clear h
 by_cases c4 : a0 ≥ a1
 ·rw [if_pos c4] at H
  have c4b0 : decide (a1 ≤ a0) = true := decide_eq_true c4
  clear c4
  obtain rfl := Option.some.inj H
  go_enter Try.func48, Try.ntmps48
  go_wp2
  go_ret
  exact ⟨by first | rfl | (simp; done) | (simp [*]; done), by repeat (first | exact zq.refl _ | apply zq.step)⟩
 ·rw [if_neg c4] at H
  have c4b0 : decide (a1 ≤ a0) = false := decide_eq_false c4
  clear c4
  obtain rfl := Option.some.inj H
  go_enter Try.func48, Try.ntmps48
  go_wp2
  go_ret
  exact ⟨by first | rfl | (simp; done) | (simp [*]; done), by repeat (first | exact zq.refl _ | apply zq.step)⟩
def q05.f (a0 : Int) : Option (Bool) := (yn.f a0 1 1000000000).bind fun t105 => (some t105)
set_option maxHeartbeats 8000000 in
set_option maxRecDepth 100000 in
theorem q05.calls (a0 : Int) (r : Bool) (w : World) (h : q05.f a0 = some r) :
  Calls Try.prog 47 #[.int .i64 a0] w fun e w' => e = .returned (.bool r) ∧ zq w w' := by
 have H : ((yn.f a0 1 1000000000).bind fun t105 => (some t105)) = some r := h
 clear h
 replace H := Option.bind_eq_some_iff.mp H
 obtain ⟨t105, A20, H⟩ := H
 replace H : (some t105) = some r := H
 have A2 := z2.mk A20
 clear A20
 obtain rfl := Option.some.inj H
 go_enter Try.func47, Try.ntmps47
 go_wp2_with (first | ((with_reducible refine qb (f := 48) rfl ?_); refine zm (some 4) rfl rfl Try.func48 (by kernel_rfl) rfl #[.int .i64 a0, .int .i64 1, .int .i64 1000000000] rfl (by (try simp only [List.map_toArray, List.map_cons, List.map_nil]); first | done | rfl | (simp only [List.length_drop, List.length_take]; rfl)) ?_; (with_reducible refine (yn.calls a0 1 1000000000 t105 _ A2.out).mono ?_); rintro e w' ⟨rfl, ⟨nd, rfl⟩⟩; refine ⟨_, rfl, ?_⟩))
 go_ret
 exact ⟨by first | rfl | (simp; done) | (simp [*]; done), by repeat (first | exact zq.refl _ | apply zq.step)⟩
def zg.j0 : Nat → Bool → Int → Int → Int → Int → Option (Int)
 | 0, _, _, _, _, _ => none
 | k + 1, x24, x107000, x107001, x107002, x107003 => if x24 = true then (some 3) else (if x107003 = 0 then (some 1) else (some 0))
def zg.f (k : Nat) (a0_0 : Int) (a0_1 : Int) (a0_2 : Int) (a0_3 : Int) : Option (Int) := (yn.f a0_0 0 2).bind fun t107 => (if t107 = true then ((yn.f a0_1 0 5).bind fun t108 => (if t108 = true then ((yn.f a0_2 0 2).bind fun t109 => (if t109 = true then ((yn.f a0_3 (-1000000000000) 1000000000000).bind fun t110 => (zg.j0 k (!t110) a0_0 a0_1 a0_2 a0_3)) else (zg.j0 k true a0_0 a0_1 a0_2 a0_3))) else (zg.j0 k true a0_0 a0_1 a0_2 a0_3))) else (zg.j0 k true a0_0 a0_1 a0_2 a0_3))
set_option maxHeartbeats 8000000 in
set_option maxRecDepth 100000 in
theorem zg.calls (k : Nat) (a0_0 : Int) (a0_1 : Int) (a0_2 : Int) (a0_3 : Int) (r : Int) (w : World) (h : zg.f k a0_0 a0_1 a0_2 a0_3 = some r) :
  Calls Try.prog 93 #[.agg #[.int .i64 a0_0, .int .i64 a0_1, .int .i64 a0_2, .int .i64 a0_3]] w fun e w' => e = .returned (.int .i64 r) ∧ Below w.heap.size w w' := by
 have hu138 := Try.underlying138
 have HB := z2.mk (Below.refl w.heap.size w)
 have H : ((yn.f a0_0 0 2).bind fun t107 => (if t107 = true then ((yn.f a0_1 0 5).bind fun t108 => (if t108 = true then ((yn.f a0_2 0 2).bind fun t109 => (if t109 = true then ((yn.f a0_3 (-1000000000000) 1000000000000).bind fun t110 => (zg.j0 k (!t110) a0_0 a0_1 a0_2 a0_3)) else (zg.j0 k true a0_0 a0_1 a0_2 a0_3))) else (zg.j0 k true a0_0 a0_1 a0_2 a0_3))) else (zg.j0 k true a0_0 a0_1 a0_2 a0_3))) = some r := h
 clear h
 have HC2 := z2.mk H
 clear H
 go_enter Try.func93, Try.ntmps93
 go_upto_region 1 with (first | ((with_reducible refine ye (N := 1) rfl ?_); refine ze ?hg (N := 1) ?hd (cs := #[.int .i64 a0_0, .int .i64 a0_1, .int .i64 a0_2, .int .i64 a0_3]) (t := 138) ?hr ?_; (case hd => rfl); (case hg => rfl); (case hr => first | (go_simp; done) | (go_simp; rfl)); intro gb106 hg w3 hbox hb; have n0_ := z2.mk (y8 (by repeat (first | (with_reducible first | exact HB.out | apply z4 | apply z1 | apply z3) | exact HB.out)) hb); have n1_ := z2.mk (hbox); have n2_ := z2.mk ((by rw [hg]; exact (z8 (by repeat (first | (with_reducible first | exact HB.out | apply z4 | apply z1 | apply z3) | exact HB.out))) : w.heap.size ≤ gb106)); have n3_ := z2.mk ((by rw [hg]; exact (z8 (by repeat (first | (with_reducible first | exact HB.out | apply z4 | apply z1 | apply z3) | exact HB.out))) : w.heap.size ≤ gb106)); clear HB; have HB := n0_; have BK106 := n1_; have GW106 := n2_; have GE106 := n3_; clear n0_ n1_ n2_ n3_ hb hbox hg))
 (try simp only [Act.put, List.setIfInBounds_toArray, List.set_cons_zero, List.set_cons_succ])
 go_cut [24] (fun v24 wc => ∃ (kq : Nat) (x24_1 : Bool), v24 = .bool x24_1 ∧ z2 (zg.j0 kq x24_1 a0_0 a0_1 a0_2 a0_3 = some r) ∧ z2 (kq ≤ k) ∧ z2 (wc.heap[gb106]? = some (.cells #[.int .i64 a0_0, .int .i64 a0_1, .int .i64 a0_2, .int .i64 a0_3] 138 (0, 0))) ∧ z2 (Below w.heap.size w wc))
 case first =>
  have H := HC2.out
  clear HC2
  replace H := Option.bind_eq_some_iff.mp H
  obtain ⟨t107, A40, H⟩ := H
  replace H : (if t107 = true then ((yn.f a0_1 0 5).bind fun t108 => (if t108 = true then ((yn.f a0_2 0 2).bind fun t109 => (if t109 = true then ((yn.f a0_3 (-1000000000000) 1000000000000).bind fun t110 => (zg.j0 k (!t110) a0_0 a0_1 a0_2 a0_3)) else (zg.j0 k true a0_0 a0_1 a0_2 a0_3))) else (zg.j0 k true a0_0 a0_1 a0_2 a0_3))) else (zg.j0 k true a0_0 a0_1 a0_2 a0_3)) = some r := H
  have A4 := z2.mk A40
  clear A40
  by_cases c5 : t107 = true
  ·subst c5
   have H1 : ((yn.f a0_1 0 5).bind fun t108 => (if t108 = true then ((yn.f a0_2 0 2).bind fun t109 => (if t109 = true then ((yn.f a0_3 (-1000000000000) 1000000000000).bind fun t110 => (zg.j0 k (!t110) a0_0 a0_1 a0_2 a0_3)) else (zg.j0 k true a0_0 a0_1 a0_2 a0_3))) else (zg.j0 k true a0_0 a0_1 a0_2 a0_3))) = some r := by rw [if_pos rfl] at H; exact H
   clear H
   have H := H1
   clear H1
   replace H := Option.bind_eq_some_iff.mp H
   obtain ⟨t108, A60, H⟩ := H
   replace H : (if t108 = true then ((yn.f a0_2 0 2).bind fun t109 => (if t109 = true then ((yn.f a0_3 (-1000000000000) 1000000000000).bind fun t110 => (zg.j0 k (!t110) a0_0 a0_1 a0_2 a0_3)) else (zg.j0 k true a0_0 a0_1 a0_2 a0_3))) else (zg.j0 k true a0_0 a0_1 a0_2 a0_3)) = some r := H
   have A6 := z2.mk A60
   clear A60
   by_cases c7 : t108 = true
   ·subst c7
    have H1 : ((yn.f a0_2 0 2).bind fun t109 => (if t109 = true then ((yn.f a0_3 (-1000000000000) 1000000000000).bind fun t110 => (zg.j0 k (!t110) a0_0 a0_1 a0_2 a0_3)) else (zg.j0 k true a0_0 a0_1 a0_2 a0_3))) = some r := by rw [if_pos rfl] at H; exact H
    clear H
    have H := H1
    clear H1
    replace H := Option.bind_eq_some_iff.mp H
    obtain ⟨t109, A80, H⟩ := H
    replace H : (if t109 = true then ((yn.f a0_3 (-1000000000000) 1000000000000).bind fun t110 => (zg.j0 k (!t110) a0_0 a0_1 a0_2 a0_3)) else (zg.j0 k true a0_0 a0_1 a0_2 a0_3)) = some r := H
    have A8 := z2.mk A80
    clear A80
    by_cases c9 : t109 = true
    ·subst c9
     have H1 : ((yn.f a0_3 (-1000000000000) 1000000000000).bind fun t110 => (zg.j0 k (!t110) a0_0 a0_1 a0_2 a0_3)) = some r := by rw [if_pos rfl] at H; exact H
     clear H
     have H := H1
     clear H1
     replace H := Option.bind_eq_some_iff.mp H
     obtain ⟨t110, A100, H⟩ := H
     replace H : (zg.j0 k (!t110) a0_0 a0_1 a0_2 a0_3) = some r := H
     have A10 := z2.mk A100
     clear A100
     have H' := z2.mk H
     clear H
     have hcz11_0 : w3.cell? ⟨gb106, 0, none⟩ = some (.int .i64 a0_0) := (z6 BK106.out 0).trans rfl
     have hcz11_1 : w3.cell? ⟨gb106, 1, none⟩ = some (.int .i64 a0_1) := (z6 BK106.out 1).trans rfl
     have hcz11_2 : w3.cell? ⟨gb106, 2, none⟩ = some (.int .i64 a0_2) := (z6 BK106.out 2).trans rfl
     have hcz11_3 : w3.cell? ⟨gb106, 3, none⟩ = some (.int .i64 a0_3) := (z6 BK106.out 3).trans rfl
     have hfz11_0 := y5 BK106.out 0
     have hfz11_1 := y5 BK106.out 1
     have hfz11_2 := y5 BK106.out 2
     have hfz11_3 := y5 BK106.out 3
     go_wp2_with (first | ((with_reducible refine qb (f := 48) rfl ?_); refine zm (some 5) rfl rfl Try.func48 (by kernel_rfl) rfl #[.int .i64 a0_0, .int .i64 0, .int .i64 2] rfl (by (try simp only [List.map_toArray, List.map_cons, List.map_nil]); first | done | rfl | (simp only [List.length_drop, List.length_take]; rfl)) ?_; (with_reducible refine (yn.calls a0_0 0 2 true _ A4.out).mono ?_); rintro e w' ⟨rfl, ⟨nd, rfl⟩⟩; refine ⟨_, rfl, ?_⟩) | (go_at_call 48; (with_reducible refine (yn.calls a0_1 0 5 true _ A6.out).mono ?_); rintro e w' ⟨rfl, ⟨nd, rfl⟩⟩) | (go_at_call 48; (with_reducible refine (yn.calls a0_2 0 2 true _ A8.out).mono ?_); rintro e w' ⟨rfl, ⟨nd, rfl⟩⟩) | (go_at_call 48; (with_reducible refine (yn.calls a0_3 (-1000000000000) 1000000000000 t110 _ A10.out).mono ?_); rintro e w' ⟨rfl, ⟨nd, rfl⟩⟩))
     go_meet
     case rel => exact ⟨_, (!t110), (by first | rfl | (simp; done) | (simp [*]; done)), H', ⟨by first | omega | exact Nat.le_refl _⟩, ⟨by (with_reducible repeat (first | refine z5 ?_ _ | refine y6 ?_ | refine y4 ?_ _)); exact BK106.out⟩, ⟨by repeat (first | (with_reducible first | exact HB.out | apply z4 | apply z1 | apply z3 | refine z7 ?_ GE106.out) | exact HB.out)⟩⟩
    ·replace c9 := Bool.eq_false_iff.mpr c9
     subst c9
     have H1 : (zg.j0 k true a0_0 a0_1 a0_2 a0_3) = some r := by rw [if_neg (show ¬ (false = true) by decide)] at H; exact H
     clear H
     have H := H1
     clear H1
     have H' := z2.mk H
     clear H
     have hcz12_0 : w3.cell? ⟨gb106, 0, none⟩ = some (.int .i64 a0_0) := (z6 BK106.out 0).trans rfl
     have hcz12_1 : w3.cell? ⟨gb106, 1, none⟩ = some (.int .i64 a0_1) := (z6 BK106.out 1).trans rfl
     have hcz12_2 : w3.cell? ⟨gb106, 2, none⟩ = some (.int .i64 a0_2) := (z6 BK106.out 2).trans rfl
     have hcz12_3 : w3.cell? ⟨gb106, 3, none⟩ = some (.int .i64 a0_3) := (z6 BK106.out 3).trans rfl
     have hfz12_0 := y5 BK106.out 0
     have hfz12_1 := y5 BK106.out 1
     have hfz12_2 := y5 BK106.out 2
     have hfz12_3 := y5 BK106.out 3
     go_wp2_with (first | ((with_reducible refine qb (f := 48) rfl ?_); refine zm (some 5) rfl rfl Try.func48 (by kernel_rfl) rfl #[.int .i64 a0_0, .int .i64 0, .int .i64 2] rfl (by (try simp only [List.map_toArray, List.map_cons, List.map_nil]); first | done | rfl | (simp only [List.length_drop, List.length_take]; rfl)) ?_; (with_reducible refine (yn.calls a0_0 0 2 true _ A4.out).mono ?_); rintro e w' ⟨rfl, ⟨nd, rfl⟩⟩; refine ⟨_, rfl, ?_⟩) | (go_at_call 48; (with_reducible refine (yn.calls a0_1 0 5 true _ A6.out).mono ?_); rintro e w' ⟨rfl, ⟨nd, rfl⟩⟩) | (go_at_call 48; (with_reducible refine (yn.calls a0_2 0 2 false _ A8.out).mono ?_); rintro e w' ⟨rfl, ⟨nd, rfl⟩⟩))
     go_meet
     case rel => exact ⟨_, (true), (by first | rfl | (simp; done) | (simp [*]; done)), H', ⟨by first | omega | exact Nat.le_refl _⟩, ⟨by (with_reducible repeat (first | refine z5 ?_ _ | refine y6 ?_ | refine y4 ?_ _)); exact BK106.out⟩, ⟨by repeat (first | (with_reducible first | exact HB.out | apply z4 | apply z1 | apply z3 | refine z7 ?_ GE106.out) | exact HB.out)⟩⟩
   ·replace c7 := Bool.eq_false_iff.mpr c7
    subst c7
    have H1 : (zg.j0 k true a0_0 a0_1 a0_2 a0_3) = some r := by rw [if_neg (show ¬ (false = true) by decide)] at H; exact H
    clear H
    have H := H1
    clear H1
    have H' := z2.mk H
    clear H
    have hcz13_0 : w3.cell? ⟨gb106, 0, none⟩ = some (.int .i64 a0_0) := (z6 BK106.out 0).trans rfl
    have hcz13_1 : w3.cell? ⟨gb106, 1, none⟩ = some (.int .i64 a0_1) := (z6 BK106.out 1).trans rfl
    have hcz13_2 : w3.cell? ⟨gb106, 2, none⟩ = some (.int .i64 a0_2) := (z6 BK106.out 2).trans rfl
    have hcz13_3 : w3.cell? ⟨gb106, 3, none⟩ = some (.int .i64 a0_3) := (z6 BK106.out 3).trans rfl
    have hfz13_0 := y5 BK106.out 0
    have hfz13_1 := y5 BK106.out 1
    have hfz13_2 := y5 BK106.out 2
    have hfz13_3 := y5 BK106.out 3
    go_wp2_with (first | ((with_reducible refine qb (f := 48) rfl ?_); refine zm (some 5) rfl rfl Try.func48 (by kernel_rfl) rfl #[.int .i64 a0_0, .int .i64 0, .int .i64 2] rfl (by (try simp only [List.map_toArray, List.map_cons, List.map_nil]); first | done | rfl | (simp only [List.length_drop, List.length_take]; rfl)) ?_; (with_reducible refine (yn.calls a0_0 0 2 true _ A4.out).mono ?_); rintro e w' ⟨rfl, ⟨nd, rfl⟩⟩; refine ⟨_, rfl, ?_⟩) | (go_at_call 48; (with_reducible refine (yn.calls a0_1 0 5 false _ A6.out).mono ?_); rintro e w' ⟨rfl, ⟨nd, rfl⟩⟩))
    go_meet
    case rel => exact ⟨_, (true), (by first | rfl | (simp; done) | (simp [*]; done)), H', ⟨by first | omega | exact Nat.le_refl _⟩, ⟨by (with_reducible repeat (first | refine z5 ?_ _ | refine y6 ?_ | refine y4 ?_ _)); exact BK106.out⟩, ⟨by repeat (first | (with_reducible first | exact HB.out | apply z4 | apply z1 | apply z3 | refine z7 ?_ GE106.out) | exact HB.out)⟩⟩
  ·replace c5 := Bool.eq_false_iff.mpr c5
   subst c5
   have H1 : (zg.j0 k true a0_0 a0_1 a0_2 a0_3) = some r := by rw [if_neg (show ¬ (false = true) by decide)] at H; exact H
   clear H
   have H := H1
   clear H1
   have H' := z2.mk H
   clear H
   have hcz14_0 : w3.cell? ⟨gb106, 0, none⟩ = some (.int .i64 a0_0) := (z6 BK106.out 0).trans rfl
   have hcz14_1 : w3.cell? ⟨gb106, 1, none⟩ = some (.int .i64 a0_1) := (z6 BK106.out 1).trans rfl
   have hcz14_2 : w3.cell? ⟨gb106, 2, none⟩ = some (.int .i64 a0_2) := (z6 BK106.out 2).trans rfl
   have hcz14_3 : w3.cell? ⟨gb106, 3, none⟩ = some (.int .i64 a0_3) := (z6 BK106.out 3).trans rfl
   have hfz14_0 := y5 BK106.out 0
   have hfz14_1 := y5 BK106.out 1
   have hfz14_2 := y5 BK106.out 2
   have hfz14_3 := y5 BK106.out 3
   go_wp2_with (first | ((with_reducible refine qb (f := 48) rfl ?_); refine zm (some 5) rfl rfl Try.func48 (by kernel_rfl) rfl #[.int .i64 a0_0, .int .i64 0, .int .i64 2] rfl (by (try simp only [List.map_toArray, List.map_cons, List.map_nil]); first | done | rfl | (simp only [List.length_drop, List.length_take]; rfl)) ?_; (with_reducible refine (yn.calls a0_0 0 2 false _ A4.out).mono ?_); rintro e w' ⟨rfl, ⟨nd, rfl⟩⟩; refine ⟨_, rfl, ?_⟩))
   go_meet
   case rel => exact ⟨_, (true), (by first | rfl | (simp; done) | (simp [*]; done)), H', ⟨by first | omega | exact Nat.le_refl _⟩, ⟨by (with_reducible repeat (first | refine z5 ?_ _ | refine y6 ?_ | refine y4 ?_ _)); exact BK106.out⟩, ⟨by repeat (first | (with_reducible first | exact HB.out | apply z4 | apply z1 | apply z3 | refine z7 ?_ GE106.out) | exact HB.out)⟩⟩
 case rest =>
  clear HC2
  try clear p2
  try clear c4
  try clear c5
  try clear c7
  try clear c9
  try clear hcz11_0
  try clear hcz11_1
  try clear hcz11_2
  try clear hcz11_3
  try clear hcz12_0
  try clear hcz12_1
  try clear hcz12_2
  try clear hcz12_3
  try clear hcz13_0
  try clear hcz13_1
  try clear hcz13_2
  try clear hcz13_3
  try clear hcz14_0
  try clear hcz14_1
  try clear hcz14_2
  try clear hcz14_3
  try clear hfz11_0
  try clear hfz11_1
  try clear hfz11_2
  try clear hfz11_3
  try clear hfz12_0
  try clear hfz12_1
  try clear hfz12_2
  try clear hfz12_3
  try clear hfz13_0
  try clear hfz13_1
  try clear hfz13_2
  try clear hfz13_3
  try clear hfz14_0
  try clear hfz14_1
  try clear hfz14_2
  try clear hfz14_3
  obtain ⟨kq, x24_1, rfl, HA, HJ1, BK106, HB⟩ := hcut
  cases kq with
  | zero => exact absurd HA.out (by simp [zg.j0])
  | succ kj1 =>
   have H := HA.out
   clear HA
   simp only [zg.j0] at H
   by_cases c15 : x24_1 = true
   ·subst c15
    have H1 : (some 3) = some r := by rw [if_pos rfl] at H; exact H
    clear H
    have H := H1
    clear H1
    obtain rfl := Option.some.inj H
    go_wp2
    go_ret
    exact ⟨by first | rfl | (simp [ya, qa] <;> rfl) | (simp [*, ya, qa] <;> rfl), by repeat (first | (with_reducible first | exact HB.out | apply z4 | apply z1 | apply z3 | refine z7 ?_ GE106.out) | exact HB.out)⟩
   ·replace c15 := Bool.eq_false_iff.mpr c15
    subst c15
    have H1 : (if a0_3 = 0 then (some 1) else (some 0)) = some r := by rw [if_neg (show ¬ (false = true) by decide)] at H; exact H
    clear H
    have H := H1
    clear H1
    by_cases c16 : a0_3 = 0
    ·rw [if_pos c16] at H
     have c16b0 : (a0_3 == 0) = true := beq_iff_eq.mpr c16
     have c16b1 : (a0_3 != 0) = false := bne_eq_false_iff_eq.mpr c16
     clear c16
     obtain rfl := Option.some.inj H
     have hcz17_0 : wc.cell? ⟨gb106, 0, none⟩ = some (.int .i64 a0_0) := (z6 BK106.out 0).trans rfl
     have hcz17_1 : wc.cell? ⟨gb106, 1, none⟩ = some (.int .i64 a0_1) := (z6 BK106.out 1).trans rfl
     have hcz17_2 : wc.cell? ⟨gb106, 2, none⟩ = some (.int .i64 a0_2) := (z6 BK106.out 2).trans rfl
     have hcz17_3 : wc.cell? ⟨gb106, 3, none⟩ = some (.int .i64 a0_3) := (z6 BK106.out 3).trans rfl
     have hfz17_0 := y5 BK106.out 0
     have hfz17_1 := y5 BK106.out 1
     have hfz17_2 := y5 BK106.out 2
     have hfz17_3 := y5 BK106.out 3
     go_wp2
     go_ret
     exact ⟨by first | rfl | (simp [ya, qa] <;> rfl) | (simp [*, ya, qa] <;> rfl), by repeat (first | (with_reducible first | exact HB.out | apply z4 | apply z1 | apply z3 | refine z7 ?_ GE106.out) | exact HB.out)⟩
    ·rw [if_neg c16] at H
     have c16b0 : (a0_3 == 0) = false := beq_eq_false_iff_ne.mpr c16
     have c16b1 : (a0_3 != 0) = true := bne_iff_ne.mpr c16
     obtain rfl := Option.some.inj H
     have hcz18_0 : wc.cell? ⟨gb106, 0, none⟩ = some (.int .i64 a0_0) := (z6 BK106.out 0).trans rfl
     have hcz18_1 : wc.cell? ⟨gb106, 1, none⟩ = some (.int .i64 a0_1) := (z6 BK106.out 1).trans rfl
     have hcz18_2 : wc.cell? ⟨gb106, 2, none⟩ = some (.int .i64 a0_2) := (z6 BK106.out 2).trans rfl
     have hcz18_3 : wc.cell? ⟨gb106, 3, none⟩ = some (.int .i64 a0_3) := (z6 BK106.out 3).trans rfl
     have hfz18_0 := y5 BK106.out 0
     have hfz18_1 := y5 BK106.out 1
     have hfz18_2 := y5 BK106.out 2
     have hfz18_3 := y5 BK106.out 3
     go_wp2
     go_ret
     exact ⟨by first | rfl | (simp [ya, qa] <;> rfl) | (simp [*, ya, qa] <;> rfl), by repeat (first | (with_reducible first | exact HB.out | apply z4 | apply z1 | apply z3 | refine z7 ?_ GE106.out) | exact HB.out)⟩
end Go.Proofs.Ytkeojolmapcgbaa.PEv
end
section
namespace Go.Proofs.Ytkeojolmapcgbaa.PEv
open Go.RowKit Go.Proofs.YtkeojolmapcgbaaW.PrintWords Go.Proofs.YtkeojolmapcgbaaW.PrintLast Go.Proofs.YtkeojolmapcgbaaW.PrintMore
set_option linter.unusedVariables false
set_option linter.unusedSimpArgs false
mutual
def za.j0 : Nat → Bool → Int → List (yl) → Option (Int)
 | 0, _, _, _ => none
 | k + 1, x23, x112000, x112001 => if x23 = true then (some 2) else (if 3 ≤ 35184372088832 then (za.l0 k (List.replicate 3 0) 0 x112000 x112001) else (none))
def za.l0 : Nat → List Int → Int → Int → List (yl) → Option (Int)
 | 0, _, _, _, _ => none
 | k + 1, x3, x4, x112000, x112001 => if x4 < (x112001.length : Int) then (if 0 ≤ x4 then ((zg.f k ((y7 x112001 x4).f0) ((y7 x112001 x4).f1) ((y7 x112001 x4).f2) ((y7 x112001 x4).f3)).bind fun t118 => (if t118 = 0 then (za.l1 k x3 x4 0 x112000 x112001 ((y7 x112001 x4).f0) ((y7 x112001 x4).f1) ((y7 x112001 x4).f2) ((y7 x112001 x4).f3)) else (some t118))) else (none)) else (za.l2 k x3 0)
def za.l1 : Nat → List Int → Int → Int → Int → List (yl) → Int → Int → Int → Int → Option (Int)
 | 0, _, _, _, _, _, _, _, _, _ => none
 | k + 1, x3, x4, x7, x112000, x112001, x118000, x118001, x118002, x118003 => if x7 < x4 then (if 0 ≤ x7 then (if x7 < (x112001.length : Int) then (if ((y7 x112001 x7).f0) = x118000 then (if ((y7 x112001 x7).f1) = x118001 then (if ((y7 x112001 x7).f2) = x118002 then (some 7) else (za.l1 k x3 x4 (wrap64 (x7 + 1)) x112000 x112001 x118000 x118001 x118002 x118003)) else (za.l1 k x3 x4 (wrap64 (x7 + 1)) x112000 x112001 x118000 x118001 x118002 x118003)) else (za.l1 k x3 x4 (wrap64 (x7 + 1)) x112000 x112001 x118000 x118001 x118002 x118003)) else (none)) else (none)) else (if 0 ≤ x118002 then (if x118002 < (x3.length : Int) then (za.l0 k (x3.set (x118002 : Int).toNat (wrap64 ((rd x3 x118002) + x118003))) (wrap64 (x4 + 1)) x112000 x112001) else (none)) else (none))
def za.l2 : Nat → List Int → Int → Option (Int)
 | 0, _, _ => none
 | k + 1, x3, x9 => if x9 < (x3.length : Int) then (if 0 ≤ x9 then (if (rd x3 x9) = 0 then (za.l2 k x3 (wrap64 (x9 + 1))) else (some 1)) else (none)) else (some 0)
end
def za.f (k : Nat) (a0_0 : Int) (l0_1 : List (yl)) : Option (Int) := (q05.f a0_0).bind fun t112 => (if t112 = true then (if (l0_1.length : Int) < 2 then (za.j0 k true a0_0 l0_1) else (za.j0 k (decide ((l0_1.length : Int) > 8)) a0_0 l0_1)) else (some 3))
def za.T19 : Bool × List (List Nat × List Nat) := (true, [([], []), ([], []), ([1], [1]), ([], []), ([], []), ([4], [4]), ([3, 5], [3, 5]), ([6], [6]), ([], []), ([8], [8]), ([7, 9], [7, 9]), ([0, 2, 0, 1, 2, 3, 4, 5, 6, 7, 8, 9, 10], [0, 2]), ([11, 10, 0, 1, 2, 3, 4, 5, 6, 7, 8, 9, 10], [10, 11])])
def za.B19 : List Nat := [0, 0, 2, 0, 0, 16, 56, 120, 0, 256, 1016, 2047, 4095]
theorem za.z2v : z0s .any (opsOf Try.f46 19) = za.T19 := by kernel_rfl
theorem za.y2l : z0h za.T19.2 za.B19 = true := by kernel_rfl
set_option maxHeartbeats 8000000 in
set_option maxRecDepth 100000 in
theorem za.calls (k : Nat) (a0_0 : Int) (A0_1 : Option Addr) (c0_1 : Nat) (l0_1 : List (yl)) (r : Int) (w : World) (hr0_1 : Kd.C y08 w A0_1 l0_1.length l0_1) (hc0_1 : l0_1.length ≤ c0_1) (h : za.f k a0_0 l0_1 = some r) :
  Calls Try.prog 46 #[.agg #[.int .i64 a0_0, .slice A0_1 l0_1.length c0_1]] w fun e w' => e = .returned (.int .i64 r) ∧ Below w.heap.size w w' := by
 have hu31 := Try.underlying31
 have hu138 := Try.underlying138
 have HR0_1 := z2.mk hr0_1
 have HC0_1 := z2.mk hc0_1
 clear hr0_1 hc0_1
 have HB := z2.mk (Below.refl w.heap.size w)
 have H : ((q05.f a0_0).bind fun t112 => (if t112 = true then (if (l0_1.length : Int) < 2 then (za.j0 k true a0_0 l0_1) else (za.j0 k (decide ((l0_1.length : Int) > 8)) a0_0 l0_1)) else (some 3))) = some r := h
 clear h
 replace H := Option.bind_eq_some_iff.mp H
 obtain ⟨t112, A20, H⟩ := H
 replace H : (if t112 = true then (if (l0_1.length : Int) < 2 then (za.j0 k true a0_0 l0_1) else (za.j0 k (decide ((l0_1.length : Int) > 8)) a0_0 l0_1)) else (some 3)) = some r := H
 have A2 := z2.mk A20
 clear A20
 by_cases c3 : t112 = true
 ·subst c3
  have H1 : (if (l0_1.length : Int) < 2 then (za.j0 k true a0_0 l0_1) else (za.j0 k (decide ((l0_1.length : Int) > 8)) a0_0 l0_1)) = some r := by rw [if_pos rfl] at H; exact H
  clear H
  have H := H1
  clear H1
  have HC4 := z2.mk H
  clear H
  go_enter Try.func46, Try.ntmps46
  go_upto_region 3 with (first | ((with_reducible refine ye (N := 1) rfl ?_); (try (refine yw (by rfl) ?_; dsimp only)); refine ze ?hg (N := 1) ?hd (cs := #[.int .i64 a0_0, .slice A0_1 l0_1.length c0_1]) (t := 31) ?hr ?_; (case hd => rfl); (case hg => rfl); (case hr => first | (go_simp; done) | (go_simp; rfl)); intro gb111 hg w5 hbox hb; have n0_ := z2.mk (y8 (by repeat (first | (with_reducible first | exact HB.out | apply z4 | apply z1 | apply z3) | exact HB.out)) hb); have n1_ := z2.mk (hbox); have n2_ := z2.mk ((by rw [hg]; exact (z8 (by repeat (first | (with_reducible first | exact HB.out | apply z4 | apply z1 | apply z3) | exact HB.out))) : w.heap.size ≤ gb111)); have n3_ := z2.mk ((by rw [hg]; exact (z8 (by repeat (first | (with_reducible first | exact HB.out | apply z4 | apply z1 | apply z3) | exact HB.out))) : w.heap.size ≤ gb111)); clear HB; have HB := n0_; have BK111 := n1_; have GW111 := n2_; have GE111 := n3_; clear n0_ n1_ n2_ n3_ hb hbox hg; have hcz6_0 : w5.cell? ⟨gb111, 0, none⟩ = some (.int .i64 a0_0) := (z6 BK111.out 0).trans rfl; have hcz6_1 : w5.cell? ⟨gb111, 1, none⟩ = some (.slice A0_1 l0_1.length c0_1) := (z6 BK111.out 1).trans rfl; have hfz6_0 := y5 BK111.out 0; have hfz6_1 := y5 BK111.out 1) | ((with_reducible refine qb (f := 47) rfl ?_); refine zm (some 12) rfl rfl Try.func47 (by kernel_rfl) rfl #[.int .i64 a0_0] rfl (by (try simp only [List.map_toArray, List.map_cons, List.map_nil]); first | done | rfl | (simp only [List.length_drop, List.length_take]; rfl)) ?_; (with_reducible refine (q05.calls a0_0 true _ A2.out).mono ?_); rintro e w' ⟨rfl, ⟨nd, rfl⟩⟩; refine ⟨_, rfl, ?_⟩))
  (try simp only [Act.put, List.setIfInBounds_toArray, List.set_cons_zero, List.set_cons_succ])
  go_cut [23] (fun v23 wc => ∃ (kq : Nat) (x23_3 : Bool), v23 = .bool x23_3 ∧ z2 (za.j0 kq x23_3 a0_0 l0_1 = some r) ∧ z2 (kq ≤ k) ∧ z2 (wc.heap[gb111]? = some (.cells #[.int .i64 a0_0, (.slice A0_1 l0_1.length c0_1)] 31 (0, 0))) ∧ z2 (Below w.heap.size w wc))
  case first =>
   have H := HC4.out
   clear HC4
   by_cases c7 : (l0_1.length : Int) < 2
   ·rw [if_pos c7] at H
    have c7b0 : decide ((l0_1.length : Int) < 2) = true := decide_eq_true c7
    have c7b1 : decide (l0_1.length < 2) = true := decide_eq_true (by omega)
    clear c7
    (first | rw [c7b0] | (simp only [yg, qg]; rw [c7b0]) | skip)
    have H' := z2.mk H
    clear H
    have hcz8_0 : w5.cell? ⟨gb111, 0, none⟩ = some (.int .i64 a0_0) := (z6 BK111.out 0).trans rfl
    have hcz8_1 : w5.cell? ⟨gb111, 1, none⟩ = some (.slice A0_1 l0_1.length c0_1) := (z6 BK111.out 1).trans rfl
    have hfz8_0 := y5 BK111.out 0
    have hfz8_1 := y5 BK111.out 1
    go_wp2
    go_meet
    case rel => exact ⟨_, (true), (by first | rfl | (simp; done) | (simp [*]; done)), H', ⟨by first | omega | exact Nat.le_refl _⟩, ⟨by (with_reducible repeat (first | refine z5 ?_ _ | refine y6 ?_ | refine y4 ?_ _)); exact BK111.out⟩, ⟨by repeat (first | (with_reducible first | exact HB.out | apply z4 | apply z1 | apply z3 | refine z7 ?_ GE111.out) | exact HB.out)⟩⟩
   ·rw [if_neg c7] at H
    have c7b0 : decide ((l0_1.length : Int) < 2) = false := decide_eq_false c7
    have c7b1 : decide (l0_1.length < 2) = false := decide_eq_false (by omega)
    clear c7
    (first | rw [c7b0] | (simp only [yg, qg]; rw [c7b0]) | skip)
    have H' := z2.mk H
    clear H
    have hcz9_0 : w5.cell? ⟨gb111, 0, none⟩ = some (.int .i64 a0_0) := (z6 BK111.out 0).trans rfl
    have hcz9_1 : w5.cell? ⟨gb111, 1, none⟩ = some (.slice A0_1 l0_1.length c0_1) := (z6 BK111.out 1).trans rfl
    have hfz9_0 := y5 BK111.out 0
    have hfz9_1 := y5 BK111.out 1
    go_wp2
    go_meet
    case rel => exact ⟨_, (decide ((l0_1.length : Int) > 8)), (by first | rfl | (simp; done) | (simp [*]; done)), H', ⟨by first | omega | exact Nat.le_refl _⟩, ⟨by (with_reducible repeat (first | refine z5 ?_ _ | refine y6 ?_ | refine y4 ?_ _)); exact BK111.out⟩, ⟨by repeat (first | (with_reducible first | exact HB.out | apply z4 | apply z1 | apply z3 | refine z7 ?_ GE111.out) | exact HB.out)⟩⟩
  case rest =>
   clear HC4
   try clear p2
   try clear c3
   try clear c4
   try clear c7
   try clear c7b0
   try clear c7b1
   try clear hcz6_0
   try clear hcz6_1
   try clear hcz8_0
   try clear hcz8_1
   try clear hcz9_0
   try clear hcz9_1
   try clear hfz6_0
   try clear hfz6_1
   try clear hfz8_0
   try clear hfz8_1
   try clear hfz9_0
   try clear hfz9_1
   obtain ⟨kq, x23_3, rfl, HA, HJ3, BK111, HB⟩ := hcut
   cases kq with
   | zero => exact absurd HA.out (by simp [za.j0])
   | succ kj3 =>
    have H := HA.out
    clear HA
    simp only [za.j0] at H
    by_cases c10 : x23_3 = true
    ·subst c10
     have H1 : (some 2) = some r := by rw [if_pos rfl] at H; exact H
     clear H
     have H := H1
     clear H1
     obtain rfl := Option.some.inj H
     go_wp2
     go_ret
     exact ⟨by first | rfl | (simp [ya, qa] <;> rfl) | (simp [*, ya, qa] <;> rfl), by repeat (first | (with_reducible first | exact HB.out | apply z4 | apply z1 | apply z3 | refine z7 ?_ GE111.out) | exact HB.out)⟩
    ·replace c10 := Bool.eq_false_iff.mpr c10
     subst c10
     have H1 : (if 3 ≤ 35184372088832 then (za.l0 kj3 (List.replicate 3 0) 0 a0_0 l0_1) else (none)) = some r := by rw [if_neg (show ¬ (false = true) by decide)] at H; exact H
     clear H
     have H := H1
     clear H1
     by_cases c11 : 3 ≤ 35184372088832
     ·rw [if_pos c11] at H
      have c11b0 := eq_true c11
      have c11b1 : decide (3 ≤ 35184372088832) = true := decide_eq_true c11
      clear c11
      obtain ⟨y113, hy113⟩ : ∃ y_ : List Int, y_ = (List.replicate 3 0) := ⟨_, rfl⟩
      replace H : (za.l0 kj3 y113 0 a0_0 l0_1) = some r := by first | (rw [hy113]; with_reducible exact H) | (have H2_ := (Option.bind_some _ _).symm.trans H; rw [hy113]; with_reducible exact H2_) | (have H2_ := (Option.bind_some _ _).symm.trans H; with_reducible exact H2_) | with_reducible exact H | (rw [hy113]; exact H) | exact H
      have Ny113 := z2.mk hy113
      clear hy113
      have H' := z2.mk H
      clear H
      go_wp2_with (first | ((with_reducible refine ye (N := 24) rfl ?_); (try (refine yw (by rfl) ?_; dsimp only)); refine Kd.q1t (Kd.int .i64) _ 2 rfl (N := 24) rfl 121 _ _ rfl 3 rfl rfl Try.underlying121 (.int .i64 0) 8 q2t rfl (by decide) (by omega) 0 (ok := fun _ => True) (okp := fun _ => True) rfl (fun _ hk => hk) trivial (by omega) (by omega) (Below.refl _ _) (Nat.le_refl _) ?_; intro v114 w12 ho13 hb hg_ hnew_; clear hg_ hnew_; (first | rw [← Ny113.out] at ho13 | (simp only [Int.reduceToNat] at ho13; rw [← Ny113.out] at ho13)); have n0_ := z2.mk (Kd.yr ho13 (z8 (by repeat (first | (with_reducible first | exact HB.out | apply z4 | apply z1 | apply z3 | refine z7 ?_ GE111.out) | exact HB.out)))); have n1_ := z2.mk (z9 (g := gb111) (o := .cells #[.int .i64 a0_0, .slice A0_1 l0_1.length c0_1] 31 (0, 0)) (by (with_reducible repeat (first | refine z5 ?_ _ | refine y6 ?_ | refine y4 ?_ _)); exact BK111.out) hb); have n2_ := z2.mk (y8 (by repeat (first | (with_reducible first | exact HB.out | apply z4 | apply z1 | apply z3 | refine z7 ?_ GE111.out) | exact HB.out)) hb); clear BK111 HB; have HO115 := n0_; have BK111 := n1_; have HB := n2_; clear n0_ n1_ n2_ hb ho13))
      go_loopg [4] kj3 (fun kq v4 w' => ∃ (x3_2 : List Int) (x4_2 : Int), v4 = .int .i64 x4_2 ∧ z2 (za.l0 kq x3_2 x4_2 a0_0 l0_1 = some r) ∧ z2 (kq ≤ kj3) ∧ z2 (Kd.R (Kd.int .i64) 2 w' w.heap.size (fun _ => True) v114 x3_2) ∧ z2 (w'.heap[gb111]? = some (.cells #[.int .i64 a0_0, (.slice A0_1 l0_1.length c0_1)] 31 (0, 0))) ∧ z2 (Below w.heap.size w w'))
      case atStart => exact ⟨(y113), (0), (by first | rfl | (simp; done) | (simp [*]; done)), H', ⟨Nat.le_refl _⟩, ⟨by (with_reducible repeat (first | apply Kd.R_alloc | apply Kd.y9 | apply Kd.zb)); exact HO115.out⟩, ⟨by (with_reducible repeat (first | refine z5 ?_ _ | refine y6 ?_ | refine y4 ?_ _)); exact BK111.out⟩, ⟨by repeat (first | (with_reducible first | exact HB.out | apply z4 | apply z1 | apply z3 | refine z7 ?_ GE111.out) | exact HB.out)⟩⟩
      case round =>
       clear H'
       try clear c1
       try clear p2
       try clear c3
       try clear c4
       try clear c7
       try clear c7b0
       try clear c7b1
       try clear c10
       try clear c11
       try clear c11b0
       try clear c11b1
       try clear hcz6_0
       try clear hcz6_1
       try clear hcz8_0
       try clear hcz8_1
       try clear hcz9_0
       try clear hcz9_1
       try clear hfz6_0
       try clear hfz6_1
       try clear hfz8_0
       try clear hfz8_1
       try clear hfz9_0
       try clear hfz9_1
       try clear p2
       obtain ⟨x3_2, x4_2, rfl, HA, HK2, HO_3, BK111, HB⟩ := hrel
       cases gk with
       | zero => exact absurd HA.out (by simp [za.l0])
       | succ k2 =>
        have H := HA.out
        clear HA
        simp only [za.l0] at H
        by_cases c14 : x4_2 < (l0_1.length : Int)
        ·rw [if_pos c14] at H
         have c14b0 : decide (x4_2 < (l0_1.length : Int)) = true := decide_eq_true c14
         clear c14
         by_cases c15 : 0 ≤ x4_2
         ·rw [if_pos c15] at H
          have c15b0 : decide (0 ≤ x4_2) = true := decide_eq_true c15
          clear c15
          replace H := Option.bind_eq_some_iff.mp H
          obtain ⟨t118, A160, H⟩ := H
          replace H : (if t118 = 0 then (za.l1 k2 x3_2 x4_2 0 a0_0 l0_1 ((y7 l0_1 x4_2).f0) ((y7 l0_1 x4_2).f1) ((y7 l0_1 x4_2).f2) ((y7 l0_1 x4_2).f3)) else (some t118)) = some r := H
          have A16 := z2.mk A160
          clear A160
          by_cases c17 : t118 = 0
          ·rw [if_pos c17] at H
           have c17b0 : (t118 == 0) = true := beq_iff_eq.mpr c17
           have c17b1 : (t118 != 0) = false := bne_eq_false_iff_eq.mpr c17
           clear c17
           have H' := z2.mk H
           clear H
           have hcz18_0 : wr.cell? ⟨gb111, 0, none⟩ = some (.int .i64 a0_0) := (z6 BK111.out 0).trans rfl
           have hcz18_1 : wr.cell? ⟨gb111, 1, none⟩ = some (.slice A0_1 l0_1.length c0_1) := (z6 BK111.out 1).trans rfl
           have hfz18_0 := y5 BK111.out 0
           have hfz18_1 := y5 BK111.out 1
           have p116 : 0 ≤ (x4_2 : Int) := of_decide_eq_true (by first | (with_reducible assumption) | assumption)
           have q116 : x4_2 < (l0_1.length : Int) := of_decide_eq_true (by first | (with_reducible assumption) | assumption)
           obtain ⟨ad116, e116, hx116_0, hx116_1, hx116_2, hx116_3⟩ := yz HR0_1.out x4_2 p116 q116
           cases e116
           replace hx116_0 := (HB.out.cell (World.block_lt_of_cell? w _ hx116_0)).trans hx116_0
           replace hx116_1 := (HB.out.cell (World.block_lt_of_cell? w _ hx116_1)).trans hx116_1
           replace hx116_2 := (HB.out.cell (World.block_lt_of_cell? w _ hx116_2)).trans hx116_2
           replace hx116_3 := (HB.out.cell (World.block_lt_of_cell? w _ hx116_3)).trans hx116_3
           replace p116 := eq_true p116
           replace q116 := eq_true q116
           go_wp2_with (first | ((with_reducible refine ye (N := 5) rfl ?_); (try (refine yw (by rfl) ?_; dsimp only)); refine ze ?hg (N := 5) ?hd (cs := #[.int .i64 0, .int .i64 0, .int .i64 0, .int .i64 0]) (t := 138) ?hr ?_; (case hd => rfl); (case hg => rfl); (case hr => first | (go_simp; done) | (go_simp; rfl)); intro gb117 hg w19 hbox hb; have n0_ := z2.mk (Kd.qf (by (with_reducible repeat (first | apply Kd.R_alloc | apply Kd.y9 | apply Kd.zb)); exact HO_3.out) hb); have n1_ := z2.mk (z9 (g := gb111) (o := .cells #[.int .i64 a0_0, .slice (some ad116) l0_1.length c0_1] 31 (0, 0)) (by (with_reducible repeat (first | refine z5 ?_ _ | refine y6 ?_ | refine y4 ?_ _)); exact BK111.out) hb); have n2_ := z2.mk (y8 (by repeat (first | (with_reducible first | exact HB.out | apply z4 | apply z1 | apply z3 | refine z7 ?_ GE111.out) | exact HB.out)) hb); have n3_ := z2.mk (hbox); have n4_ := z2.mk ((by rw [hg]; exact (z8 (by repeat (first | (with_reducible first | exact HB.out | apply z4 | apply z1 | apply z3 | refine z7 ?_ GE111.out) | exact HB.out))) : w.heap.size ≤ gb117)); have n5_ := z2.mk ((by rw [hg]; exact (z8 (by repeat (first | (with_reducible first | exact HB.out | apply z4 | apply z1 | apply z3 | refine z7 ?_ GE111.out) | exact HB.out))) : w.heap.size ≤ gb117)); have n6_ := z2.mk ((by rw [hg]; exact Nat.ne_of_lt (qk (g := gb111) (o := .cells #[.int .i64 a0_0, .slice (some ad116) l0_1.length c0_1] 31 (0, 0)) (by (with_reducible repeat (first | refine z5 ?_ _ | refine y6 ?_ | refine y4 ?_ _)); exact BK111.out)) : gb111 ≠ gb117)); have n7_ := z2.mk ((by rw [hg]; exact Nat.ne_of_gt (qk (g := gb111) (o := .cells #[.int .i64 a0_0, .slice (some ad116) l0_1.length c0_1] 31 (0, 0)) (by (with_reducible repeat (first | refine z5 ?_ _ | refine y6 ?_ | refine y4 ?_ _)); exact BK111.out)) : gb117 ≠ gb111)); clear HO_3 BK111 HB; have HO_3 := n0_; have BK111 := n1_; have HB := n2_; have BK117 := n3_; have GW117 := n4_; have GE117 := n5_; have NB111_117 := n6_; have NB117_111 := n7_; clear n0_ n1_ n2_ n3_ n4_ n5_ n6_ n7_ hb hbox hg; have hnb20 := NB117_111.out; have hnc20 := NB111_117.out; have hcz21_0 : w19.cell? ⟨gb117, 0, none⟩ = some (.int .i64 0) := (z6 BK117.out 0).trans rfl; have hcz21_1 : w19.cell? ⟨gb117, 1, none⟩ = some (.int .i64 0) := (z6 BK117.out 1).trans rfl; have hcz21_2 : w19.cell? ⟨gb117, 2, none⟩ = some (.int .i64 0) := (z6 BK117.out 2).trans rfl; have hcz21_3 : w19.cell? ⟨gb117, 3, none⟩ = some (.int .i64 0) := (z6 BK117.out 3).trans rfl; have hfz21_0 := y5 BK117.out 0; have hfz21_1 := y5 BK117.out 1; have hfz21_2 := y5 BK117.out 2; have hfz21_3 := y5 BK117.out 3) | ((with_reducible refine qb (f := 93) rfl ?_); refine zm (some 38) rfl rfl Try.func93 (by kernel_rfl) rfl #[.agg #[.int .i64 ((y7 l0_1 x4_2).f0), .int .i64 ((y7 l0_1 x4_2).f1), .int .i64 ((y7 l0_1 x4_2).f2), .int .i64 ((y7 l0_1 x4_2).f3)]] rfl (by (try simp only [List.map_toArray, List.map_cons, List.map_nil]); first | done | rfl | (simp only [List.length_drop, List.length_take]; rfl)) ?_; (with_reducible refine (zg.calls k2 ((y7 l0_1 x4_2).f0) ((y7 l0_1 x4_2).f1) ((y7 l0_1 x4_2).f2) ((y7 l0_1 x4_2).f3) t118 _ A16.out).mono ?_); rintro e w22 ⟨rfl, hb⟩; refine ⟨_, rfl, ?_⟩; have n0_ := z2.mk (Kd.qf (by (with_reducible repeat (first | apply Kd.R_alloc | apply Kd.y9 | apply Kd.zb)); exact (Kd.yk (Kd.zf (p := ⟨gb117, 3, none⟩) (Kd.zf (p := ⟨gb117, 2, none⟩) (Kd.zf (p := ⟨gb117, 1, none⟩) (Kd.zf (p := ⟨gb117, 0, none⟩) (Kd.qp HO_3.out BK117.out (by decide)) (fun _ hk => hk.2) (.int .i64 ((y7 l0_1 x4_2).f0))) (fun _ hk => hk.2) (.int .i64 ((y7 l0_1 x4_2).f1))) (fun _ hk => hk.2) (.int .i64 ((y7 l0_1 x4_2).f2))) (fun _ hk => hk.2) (.int .i64 ((y7 l0_1 x4_2).f3))) (fun _ h_ => h_.1))) hb); have n1_ := z2.mk (z9 (g := gb111) (o := .cells #[.int .i64 a0_0, .slice (some ad116) l0_1.length c0_1] 31 (0, 0)) (by (with_reducible repeat (first | refine z5 ?_ _ | refine y6 ?_ | refine y4 ?_ _)); refine zd ?_ NB111_117.out _; (with_reducible repeat (first | refine z5 ?_ _ | refine y6 ?_ | refine y4 ?_ _)); refine zd ?_ NB111_117.out _; (with_reducible repeat (first | refine z5 ?_ _ | refine y6 ?_ | refine y4 ?_ _)); refine zd ?_ NB111_117.out _; (with_reducible repeat (first | refine z5 ?_ _ | refine y6 ?_ | refine y4 ?_ _)); refine zd ?_ NB111_117.out _; (with_reducible repeat (first | refine z5 ?_ _ | refine y6 ?_ | refine y4 ?_ _)); exact BK111.out) hb); have n2_ := z2.mk (z9 (g := gb117) (o := .cells #[.int .i64 ((y7 l0_1 x4_2).f0), .int .i64 ((y7 l0_1 x4_2).f1), .int .i64 ((y7 l0_1 x4_2).f2), .int .i64 ((y7 l0_1 x4_2).f3)] 138 (0, 0)) (by (with_reducible repeat (first | refine z5 ?_ _ | refine y6 ?_ | refine y4 ?_ _)); refine qc (cs := #[.int .i64 ((y7 l0_1 x4_2).f0), .int .i64 ((y7 l0_1 x4_2).f1), .int .i64 ((y7 l0_1 x4_2).f2), .int .i64 0]) ?_ 3 _ rfl; (with_reducible repeat (first | refine z5 ?_ _ | refine y6 ?_ | refine y4 ?_ _)); refine qc (cs := #[.int .i64 ((y7 l0_1 x4_2).f0), .int .i64 ((y7 l0_1 x4_2).f1), .int .i64 0, .int .i64 0]) ?_ 2 _ rfl; (with_reducible repeat (first | refine z5 ?_ _ | refine y6 ?_ | refine y4 ?_ _)); refine qc (cs := #[.int .i64 ((y7 l0_1 x4_2).f0), .int .i64 0, .int .i64 0, .int .i64 0]) ?_ 1 _ rfl; (with_reducible repeat (first | refine z5 ?_ _ | refine y6 ?_ | refine y4 ?_ _)); refine qc (cs := #[.int .i64 0, .int .i64 0, .int .i64 0, .int .i64 0]) ?_ 0 _ rfl; (with_reducible repeat (first | refine z5 ?_ _ | refine y6 ?_ | refine y4 ?_ _)); exact BK117.out) hb); have n3_ := z2.mk (y8 (by repeat (first | (with_reducible first | exact HB.out | apply z4 | apply z1 | apply z3 | refine z7 ?_ GE111.out | refine z7 ?_ GE117.out) | exact HB.out)) hb); clear HO_3 BK111 BK117 HB; have HO_3 := n0_; have BK111 := n1_; have BK117 := n2_; have HB := n3_; clear n0_ n1_ n2_ n3_; (try clear hb); (try clear hb2); (try clear hk); (try clear hi)))
           go_loopg [7] k2 (fun kq v7 w' => ∃ (x7_3 : Int), v7 = .int .i64 x7_3 ∧ z2 (za.l1 kq x3_2 x4_2 x7_3 a0_0 l0_1 ((y7 l0_1 x4_2).f0) ((y7 l0_1 x4_2).f1) ((y7 l0_1 x4_2).f2) ((y7 l0_1 x4_2).f3) = some r) ∧ z2 (kq ≤ k2) ∧ z2 (Kd.R (Kd.int .i64) 2 w' w.heap.size (fun _ => True) v114 x3_2) ∧ z2 (w'.heap[gb111]? = some (.cells #[.int .i64 a0_0, (.slice (some ad116) l0_1.length c0_1)] 31 (0, 0))) ∧ z2 (w'.heap[gb117]? = some (.cells #[.int .i64 ((y7 l0_1 x4_2).f0), .int .i64 ((y7 l0_1 x4_2).f1), .int .i64 ((y7 l0_1 x4_2).f2), .int .i64 ((y7 l0_1 x4_2).f3)] 138 (0, 0))) ∧ z2 (Below w.heap.size w w'))
           case atStart => exact ⟨(0), (by first | rfl | (simp; done) | (simp [*]; done)), H', ⟨Nat.le_refl _⟩, ⟨by (with_reducible repeat (first | apply Kd.R_alloc | apply Kd.y9 | apply Kd.zb)); exact HO_3.out⟩, ⟨by (with_reducible repeat (first | refine z5 ?_ _ | refine y6 ?_ | refine y4 ?_ _)); exact BK111.out⟩, ⟨by (with_reducible repeat (first | refine z5 ?_ _ | refine y6 ?_ | refine y4 ?_ _)); exact BK117.out⟩, ⟨by repeat (first | (with_reducible first | exact HB.out | apply z4 | apply z1 | apply z3 | refine z7 ?_ GE111.out | refine z7 ?_ GE117.out) | exact HB.out)⟩⟩
           case round =>
            clear H'
            try clear c1
            try clear p1
            try clear q1
            try clear hx1
            try clear c2
            try clear p2
            try clear c3
            try clear c4
            try clear c7
            try clear c7b0
            try clear c7b1
            try clear c9
            try clear c10
            try clear c11
            try clear c11b0
            try clear c11b1
            try clear p11
            try clear q11
            try clear hx11
            try clear c14
            try clear c14b0
            try clear c15
            try clear c15b0
            try clear c17
            try clear c17b0
            try clear c17b1
            try clear c20
            try clear hcz18_0
            try clear hcz18_1
            try clear hcz21_0
            try clear hcz21_1
            try clear hcz21_2
            try clear hcz21_3
            try clear hcz6_0
            try clear hcz6_1
            try clear hcz8_0
            try clear hcz8_1
            try clear hcz9_0
            try clear hcz9_1
            try clear hfz18_0
            try clear hfz18_1
            try clear hfz21_0
            try clear hfz21_1
            try clear hfz21_2
            try clear hfz21_3
            try clear hfz6_0
            try clear hfz6_1
            try clear hfz8_0
            try clear hfz8_1
            try clear hfz9_0
            try clear hfz9_1
            try clear hx116_0
            try clear hx116_1
            try clear hx116_2
            try clear hx116_3
            try clear p116
            try clear p2
            try clear q116
            obtain ⟨x7_3, rfl, HA, HK3, HO_3, BK111, BK117, HB⟩ := hrel
            cases gk with
            | zero => exact absurd HA.out (by simp [za.l1])
            | succ k3 =>
             have H := HA.out
             clear HA
             simp only [za.l1] at H
             by_cases c23 : x7_3 < x4_2
             ·rw [if_pos c23] at H
              have c23b0 : decide (x7_3 < x4_2) = true := decide_eq_true c23
              clear c23
              by_cases c24 : 0 ≤ x7_3
              ·rw [if_pos c24] at H
               have c24b0 : decide (0 ≤ x7_3) = true := decide_eq_true c24
               clear c24
               by_cases c25 : x7_3 < (l0_1.length : Int)
               ·rw [if_pos c25] at H
                have c25b0 : decide (x7_3 < (l0_1.length : Int)) = true := decide_eq_true c25
                clear c25
                by_cases c26 : ((y7 l0_1 x7_3).f0) = ((y7 l0_1 x4_2).f0)
                ·rw [if_pos c26] at H
                 have c26b0 : (((y7 l0_1 x7_3).f0) == ((y7 l0_1 x4_2).f0)) = true := beq_iff_eq.mpr c26
                 have c26b1 : (((y7 l0_1 x7_3).f0) != ((y7 l0_1 x4_2).f0)) = false := bne_eq_false_iff_eq.mpr c26
                 clear c26
                 by_cases c27 : ((y7 l0_1 x7_3).f1) = ((y7 l0_1 x4_2).f1)
                 ·rw [if_pos c27] at H
                  have c27b0 : (((y7 l0_1 x7_3).f1) == ((y7 l0_1 x4_2).f1)) = true := beq_iff_eq.mpr c27
                  have c27b1 : (((y7 l0_1 x7_3).f1) != ((y7 l0_1 x4_2).f1)) = false := bne_eq_false_iff_eq.mpr c27
                  clear c27
                  by_cases c28 : ((y7 l0_1 x7_3).f2) = ((y7 l0_1 x4_2).f2)
                  ·rw [if_pos c28] at H
                   have c28b0 : (((y7 l0_1 x7_3).f2) == ((y7 l0_1 x4_2).f2)) = true := beq_iff_eq.mpr c28
                   have c28b1 : (((y7 l0_1 x7_3).f2) != ((y7 l0_1 x4_2).f2)) = false := bne_eq_false_iff_eq.mpr c28
                   clear c28
                   obtain rfl := Option.some.inj H
                   have hnb29 := NB111_117.out
                   have hnc29 := NB117_111.out
                   have hcz30_0 : wr.cell? ⟨gb111, 0, none⟩ = some (.int .i64 a0_0) := (z6 BK111.out 0).trans rfl
                   have hcz30_1 : wr.cell? ⟨gb111, 1, none⟩ = some (.slice (some ad116) l0_1.length c0_1) := (z6 BK111.out 1).trans rfl
                   have hfz30_0 := y5 BK111.out 0
                   have hfz30_1 := y5 BK111.out 1
                   have p119 : 0 ≤ (x7_3 : Int) := of_decide_eq_true (by first | (with_reducible assumption) | assumption)
                   have q119 : x7_3 < (l0_1.length : Int) := of_decide_eq_true (by first | (with_reducible assumption) | assumption)
                   obtain ⟨ad119, e119, hx119_0, hx119_1, hx119_2, hx119_3⟩ := yz HR0_1.out x7_3 p119 q119
                   obtain rfl : ad116 = ad119 := (by injection e119)
                   replace hx119_0 := (HB.out.cell (World.block_lt_of_cell? w _ hx119_0)).trans hx119_0
                   replace hx119_1 := (HB.out.cell (World.block_lt_of_cell? w _ hx119_1)).trans hx119_1
                   replace hx119_2 := (HB.out.cell (World.block_lt_of_cell? w _ hx119_2)).trans hx119_2
                   replace hx119_3 := (HB.out.cell (World.block_lt_of_cell? w _ hx119_3)).trans hx119_3
                   replace p119 := eq_true p119
                   replace q119 := eq_true q119
                   go_wp2_with (first | ((with_reducible refine ye (N := 8) rfl ?_); (try (refine yw (by rfl) ?_; dsimp only)); refine ze ?hg (N := 8) ?hd (cs := #[.int .i64 0, .int .i64 0, .int .i64 0, .int .i64 0]) (t := 138) ?hr ?_; (case hd => rfl); (case hg => rfl); (case hr => first | (go_simp; done) | (go_simp; rfl)); intro gb120 hg w31 hbox hb; have n0_ := z2.mk (Kd.qf (by (with_reducible repeat (first | apply Kd.R_alloc | apply Kd.y9 | apply Kd.zb)); exact HO_3.out) hb); have n1_ := z2.mk (z9 (g := gb111) (o := .cells #[.int .i64 a0_0, .slice (some ad116) l0_1.length c0_1] 31 (0, 0)) (by (with_reducible repeat (first | refine z5 ?_ _ | refine y6 ?_ | refine y4 ?_ _)); exact BK111.out) hb); have n2_ := z2.mk (z9 (g := gb117) (o := .cells #[.int .i64 ((y7 l0_1 x4_2).f0), .int .i64 ((y7 l0_1 x4_2).f1), .int .i64 ((y7 l0_1 x4_2).f2), .int .i64 ((y7 l0_1 x4_2).f3)] 138 (0, 0)) (by (with_reducible repeat (first | refine z5 ?_ _ | refine y6 ?_ | refine y4 ?_ _)); exact BK117.out) hb); have n3_ := z2.mk (y8 (by repeat (first | (with_reducible first | exact HB.out | apply z4 | apply z1 | apply z3 | refine z7 ?_ GE111.out | refine z7 ?_ GE117.out) | exact HB.out)) hb); have n4_ := z2.mk (hbox); have n5_ := z2.mk ((by rw [hg]; exact (z8 (by repeat (first | (with_reducible first | exact HB.out | apply z4 | apply z1 | apply z3 | refine z7 ?_ GE111.out | refine z7 ?_ GE117.out) | exact HB.out))) : w.heap.size ≤ gb120)); have n6_ := z2.mk ((by rw [hg]; exact (z8 (by repeat (first | (with_reducible first | exact HB.out | apply z4 | apply z1 | apply z3 | refine z7 ?_ GE111.out | refine z7 ?_ GE117.out) | exact HB.out))) : w.heap.size ≤ gb120)); have n7_ := z2.mk ((by rw [hg]; exact Nat.ne_of_lt (qk (g := gb111) (o := .cells #[.int .i64 a0_0, .slice (some ad116) l0_1.length c0_1] 31 (0, 0)) (by (with_reducible repeat (first | refine z5 ?_ _ | refine y6 ?_ | refine y4 ?_ _)); exact BK111.out)) : gb111 ≠ gb120)); have n8_ := z2.mk ((by rw [hg]; exact Nat.ne_of_gt (qk (g := gb111) (o := .cells #[.int .i64 a0_0, .slice (some ad116) l0_1.length c0_1] 31 (0, 0)) (by (with_reducible repeat (first | refine z5 ?_ _ | refine y6 ?_ | refine y4 ?_ _)); exact BK111.out)) : gb120 ≠ gb111)); have n9_ := z2.mk ((by rw [hg]; exact Nat.ne_of_lt (qk (g := gb117) (o := .cells #[.int .i64 ((y7 l0_1 x4_2).f0), .int .i64 ((y7 l0_1 x4_2).f1), .int .i64 ((y7 l0_1 x4_2).f2), .int .i64 ((y7 l0_1 x4_2).f3)] 138 (0, 0)) (by (with_reducible repeat (first | refine z5 ?_ _ | refine y6 ?_ | refine y4 ?_ _)); exact BK117.out)) : gb117 ≠ gb120)); have n10_ := z2.mk ((by rw [hg]; exact Nat.ne_of_gt (qk (g := gb117) (o := .cells #[.int .i64 ((y7 l0_1 x4_2).f0), .int .i64 ((y7 l0_1 x4_2).f1), .int .i64 ((y7 l0_1 x4_2).f2), .int .i64 ((y7 l0_1 x4_2).f3)] 138 (0, 0)) (by (with_reducible repeat (first | refine z5 ?_ _ | refine y6 ?_ | refine y4 ?_ _)); exact BK117.out)) : gb120 ≠ gb117)); clear HO_3 BK111 BK117 HB; have HO_3 := n0_; have BK111 := n1_; have BK117 := n2_; have HB := n3_; have BK120 := n4_; have GW120 := n5_; have GE120 := n6_; have NB111_120 := n7_; have NB120_111 := n8_; have NB117_120 := n9_; have NB120_117 := n10_; clear n0_ n1_ n2_ n3_ n4_ n5_ n6_ n7_ n8_ n9_ n10_ hb hbox hg; have hnb32 := NB120_111.out; have hnc32 := NB111_120.out; have hnb33 := NB120_117.out; have hnc33 := NB117_120.out; have hcz34_0 : w31.cell? ⟨gb120, 0, none⟩ = some (.int .i64 0) := (z6 BK120.out 0).trans rfl; have hcz34_1 : w31.cell? ⟨gb120, 1, none⟩ = some (.int .i64 0) := (z6 BK120.out 1).trans rfl; have hcz34_2 : w31.cell? ⟨gb120, 2, none⟩ = some (.int .i64 0) := (z6 BK120.out 2).trans rfl; have hcz34_3 : w31.cell? ⟨gb120, 3, none⟩ = some (.int .i64 0) := (z6 BK120.out 3).trans rfl; have hfz34_0 := y5 BK120.out 0; have hfz34_1 := y5 BK120.out 1; have hfz34_2 := y5 BK120.out 2; have hfz34_3 := y5 BK120.out 3; have hcz35_0 : w31.cell? ⟨gb117, 0, none⟩ = some (.int .i64 ((y7 l0_1 x4_2).f0)) := (z6 BK117.out 0).trans rfl; have hcz35_1 : w31.cell? ⟨gb117, 1, none⟩ = some (.int .i64 ((y7 l0_1 x4_2).f1)) := (z6 BK117.out 1).trans rfl; have hcz35_2 : w31.cell? ⟨gb117, 2, none⟩ = some (.int .i64 ((y7 l0_1 x4_2).f2)) := (z6 BK117.out 2).trans rfl; have hcz35_3 : w31.cell? ⟨gb117, 3, none⟩ = some (.int .i64 ((y7 l0_1 x4_2).f3)) := (z6 BK117.out 3).trans rfl; have hfz35_0 := y5 BK117.out 0; have hfz35_1 := y5 BK117.out 1; have hfz35_2 := y5 BK117.out 2; have hfz35_3 := y5 BK117.out 3))
                   go_ret
                   exact ⟨by first | rfl | (simp [ya, qa] <;> rfl) | (simp [*, ya, qa] <;> rfl), by repeat (first | (with_reducible first | exact HB.out | apply z4 | apply z1 | apply z3 | refine z7 ?_ GE111.out | refine z7 ?_ GE117.out | refine z7 ?_ GE120.out) | exact HB.out)⟩
                  ·rw [if_neg c28] at H
                   have c28b0 : (((y7 l0_1 x7_3).f2) == ((y7 l0_1 x4_2).f2)) = false := beq_eq_false_iff_ne.mpr c28
                   have c28b1 : (((y7 l0_1 x7_3).f2) != ((y7 l0_1 x4_2).f2)) = true := bne_iff_ne.mpr c28
                   have H' := z2.mk H
                   clear H
                   have hnb36 := NB111_117.out
                   have hnc36 := NB117_111.out
                   have hcz37_0 : wr.cell? ⟨gb111, 0, none⟩ = some (.int .i64 a0_0) := (z6 BK111.out 0).trans rfl
                   have hcz37_1 : wr.cell? ⟨gb111, 1, none⟩ = some (.slice (some ad116) l0_1.length c0_1) := (z6 BK111.out 1).trans rfl
                   have hfz37_0 := y5 BK111.out 0
                   have hfz37_1 := y5 BK111.out 1
                   have p119 : 0 ≤ (x7_3 : Int) := of_decide_eq_true (by first | (with_reducible assumption) | assumption)
                   have q119 : x7_3 < (l0_1.length : Int) := of_decide_eq_true (by first | (with_reducible assumption) | assumption)
                   obtain ⟨ad119, e119, hx119_0, hx119_1, hx119_2, hx119_3⟩ := yz HR0_1.out x7_3 p119 q119
                   obtain rfl : ad116 = ad119 := (by injection e119)
                   replace hx119_0 := (HB.out.cell (World.block_lt_of_cell? w _ hx119_0)).trans hx119_0
                   replace hx119_1 := (HB.out.cell (World.block_lt_of_cell? w _ hx119_1)).trans hx119_1
                   replace hx119_2 := (HB.out.cell (World.block_lt_of_cell? w _ hx119_2)).trans hx119_2
                   replace hx119_3 := (HB.out.cell (World.block_lt_of_cell? w _ hx119_3)).trans hx119_3
                   replace p119 := eq_true p119
                   replace q119 := eq_true q119
                   go_wp2_with (first | ((with_reducible refine ye (N := 8) rfl ?_); (try (refine yw (by rfl) ?_; dsimp only)); refine ze ?hg (N := 8) ?hd (cs := #[.int .i64 0, .int .i64 0, .int .i64 0, .int .i64 0]) (t := 138) ?hr ?_; (case hd => rfl); (case hg => rfl); (case hr => first | (go_simp; done) | (go_simp; rfl)); intro gb120 hg w38 hbox hb; have n0_ := z2.mk (Kd.qf (by (with_reducible repeat (first | apply Kd.R_alloc | apply Kd.y9 | apply Kd.zb)); exact HO_3.out) hb); have n1_ := z2.mk (z9 (g := gb111) (o := .cells #[.int .i64 a0_0, .slice (some ad116) l0_1.length c0_1] 31 (0, 0)) (by (with_reducible repeat (first | refine z5 ?_ _ | refine y6 ?_ | refine y4 ?_ _)); exact BK111.out) hb); have n2_ := z2.mk (z9 (g := gb117) (o := .cells #[.int .i64 ((y7 l0_1 x4_2).f0), .int .i64 ((y7 l0_1 x4_2).f1), .int .i64 ((y7 l0_1 x4_2).f2), .int .i64 ((y7 l0_1 x4_2).f3)] 138 (0, 0)) (by (with_reducible repeat (first | refine z5 ?_ _ | refine y6 ?_ | refine y4 ?_ _)); exact BK117.out) hb); have n3_ := z2.mk (y8 (by repeat (first | (with_reducible first | exact HB.out | apply z4 | apply z1 | apply z3 | refine z7 ?_ GE111.out | refine z7 ?_ GE117.out) | exact HB.out)) hb); have n4_ := z2.mk (hbox); have n5_ := z2.mk ((by rw [hg]; exact (z8 (by repeat (first | (with_reducible first | exact HB.out | apply z4 | apply z1 | apply z3 | refine z7 ?_ GE111.out | refine z7 ?_ GE117.out) | exact HB.out))) : w.heap.size ≤ gb120)); have n6_ := z2.mk ((by rw [hg]; exact (z8 (by repeat (first | (with_reducible first | exact HB.out | apply z4 | apply z1 | apply z3 | refine z7 ?_ GE111.out | refine z7 ?_ GE117.out) | exact HB.out))) : w.heap.size ≤ gb120)); have n7_ := z2.mk ((by rw [hg]; exact Nat.ne_of_lt (qk (g := gb111) (o := .cells #[.int .i64 a0_0, .slice (some ad116) l0_1.length c0_1] 31 (0, 0)) (by (with_reducible repeat (first | refine z5 ?_ _ | refine y6 ?_ | refine y4 ?_ _)); exact BK111.out)) : gb111 ≠ gb120)); have n8_ := z2.mk ((by rw [hg]; exact Nat.ne_of_gt (qk (g := gb111) (o := .cells #[.int .i64 a0_0, .slice (some ad116) l0_1.length c0_1] 31 (0, 0)) (by (with_reducible repeat (first | refine z5 ?_ _ | refine y6 ?_ | refine y4 ?_ _)); exact BK111.out)) : gb120 ≠ gb111)); have n9_ := z2.mk ((by rw [hg]; exact Nat.ne_of_lt (qk (g := gb117) (o := .cells #[.int .i64 ((y7 l0_1 x4_2).f0), .int .i64 ((y7 l0_1 x4_2).f1), .int .i64 ((y7 l0_1 x4_2).f2), .int .i64 ((y7 l0_1 x4_2).f3)] 138 (0, 0)) (by (with_reducible repeat (first | refine z5 ?_ _ | refine y6 ?_ | refine y4 ?_ _)); exact BK117.out)) : gb117 ≠ gb120)); have n10_ := z2.mk ((by rw [hg]; exact Nat.ne_of_gt (qk (g := gb117) (o := .cells #[.int .i64 ((y7 l0_1 x4_2).f0), .int .i64 ((y7 l0_1 x4_2).f1), .int .i64 ((y7 l0_1 x4_2).f2), .int .i64 ((y7 l0_1 x4_2).f3)] 138 (0, 0)) (by (with_reducible repeat (first | refine z5 ?_ _ | refine y6 ?_ | refine y4 ?_ _)); exact BK117.out)) : gb120 ≠ gb117)); clear HO_3 BK111 BK117 HB; have HO_3 := n0_; have BK111 := n1_; have BK117 := n2_; have HB := n3_; have BK120 := n4_; have GW120 := n5_; have GE120 := n6_; have NB111_120 := n7_; have NB120_111 := n8_; have NB117_120 := n9_; have NB120_117 := n10_; clear n0_ n1_ n2_ n3_ n4_ n5_ n6_ n7_ n8_ n9_ n10_ hb hbox hg; have hnb39 := NB120_111.out; have hnc39 := NB111_120.out; have hnb40 := NB120_117.out; have hnc40 := NB117_120.out; have hcz41_0 : w38.cell? ⟨gb120, 0, none⟩ = some (.int .i64 0) := (z6 BK120.out 0).trans rfl; have hcz41_1 : w38.cell? ⟨gb120, 1, none⟩ = some (.int .i64 0) := (z6 BK120.out 1).trans rfl; have hcz41_2 : w38.cell? ⟨gb120, 2, none⟩ = some (.int .i64 0) := (z6 BK120.out 2).trans rfl; have hcz41_3 : w38.cell? ⟨gb120, 3, none⟩ = some (.int .i64 0) := (z6 BK120.out 3).trans rfl; have hfz41_0 := y5 BK120.out 0; have hfz41_1 := y5 BK120.out 1; have hfz41_2 := y5 BK120.out 2; have hfz41_3 := y5 BK120.out 3; have hcz42_0 : w38.cell? ⟨gb117, 0, none⟩ = some (.int .i64 ((y7 l0_1 x4_2).f0)) := (z6 BK117.out 0).trans rfl; have hcz42_1 : w38.cell? ⟨gb117, 1, none⟩ = some (.int .i64 ((y7 l0_1 x4_2).f1)) := (z6 BK117.out 1).trans rfl; have hcz42_2 : w38.cell? ⟨gb117, 2, none⟩ = some (.int .i64 ((y7 l0_1 x4_2).f2)) := (z6 BK117.out 2).trans rfl; have hcz42_3 : w38.cell? ⟨gb117, 3, none⟩ = some (.int .i64 ((y7 l0_1 x4_2).f3)) := (z6 BK117.out 3).trans rfl; have hfz42_0 := y5 BK117.out 0; have hfz42_1 := y5 BK117.out 1; have hfz42_2 := y5 BK117.out 2; have hfz42_3 := y5 BK117.out 3))
                   go_roundg k3
                   case measure => have := HJ3.out; have := HK2.out; have := HK3.out; omega
                   case rel => exact ⟨(wrap64 (x7_3 + 1)), (by first | rfl | (simp; done) | (simp [*]; done)), H', ⟨by have := HJ3.out; have := HK2.out; have := HK3.out; omega⟩, ⟨by (with_reducible repeat (first | apply Kd.R_alloc | apply Kd.y9 | apply Kd.zb)); exact Kd.yk (Kd.zf (p := ⟨gb120, 3, none⟩) (Kd.zf (p := ⟨gb120, 2, none⟩) (Kd.zf (p := ⟨gb120, 1, none⟩) (Kd.zf (p := ⟨gb120, 0, none⟩) (Kd.qp HO_3.out BK120.out (by decide)) (fun _ hk => hk.2) (.int .i64 ((y7 l0_1 x7_3).f0))) (fun _ hk => hk.2) (.int .i64 ((y7 l0_1 x7_3).f1))) (fun _ hk => hk.2) (.int .i64 ((y7 l0_1 x7_3).f2))) (fun _ hk => hk.2) (.int .i64 ((y7 l0_1 x7_3).f3))) (fun _ hk => trivial)⟩, ⟨by (with_reducible repeat (first | refine z5 ?_ _ | refine y6 ?_ | refine y4 ?_ _)); refine zd ?_ NB111_120.out _; (with_reducible repeat (first | refine z5 ?_ _ | refine y6 ?_ | refine y4 ?_ _)); refine zd ?_ NB111_120.out _; (with_reducible repeat (first | refine z5 ?_ _ | refine y6 ?_ | refine y4 ?_ _)); refine zd ?_ NB111_120.out _; (with_reducible repeat (first | refine z5 ?_ _ | refine y6 ?_ | refine y4 ?_ _)); refine zd ?_ NB111_120.out _; (with_reducible repeat (first | refine z5 ?_ _ | refine y6 ?_ | refine y4 ?_ _)); exact BK111.out⟩, ⟨by (with_reducible repeat (first | refine z5 ?_ _ | refine y6 ?_ | refine y4 ?_ _)); refine zd ?_ NB117_120.out _; (with_reducible repeat (first | refine z5 ?_ _ | refine y6 ?_ | refine y4 ?_ _)); refine zd ?_ NB117_120.out _; (with_reducible repeat (first | refine z5 ?_ _ | refine y6 ?_ | refine y4 ?_ _)); refine zd ?_ NB117_120.out _; (with_reducible repeat (first | refine z5 ?_ _ | refine y6 ?_ | refine y4 ?_ _)); refine zd ?_ NB117_120.out _; (with_reducible repeat (first | refine z5 ?_ _ | refine y6 ?_ | refine y4 ?_ _)); exact BK117.out⟩, ⟨by repeat (first | (with_reducible first | exact HB.out | apply z4 | apply z1 | apply z3 | refine z7 ?_ GE111.out | refine z7 ?_ GE117.out | refine z7 ?_ GE120.out) | exact HB.out)⟩⟩
                 ·rw [if_neg c27] at H
                  have c27b0 : (((y7 l0_1 x7_3).f1) == ((y7 l0_1 x4_2).f1)) = false := beq_eq_false_iff_ne.mpr c27
                  have c27b1 : (((y7 l0_1 x7_3).f1) != ((y7 l0_1 x4_2).f1)) = true := bne_iff_ne.mpr c27
                  have H' := z2.mk H
                  clear H
                  have hnb43 := NB111_117.out
                  have hnc43 := NB117_111.out
                  have hcz44_0 : wr.cell? ⟨gb111, 0, none⟩ = some (.int .i64 a0_0) := (z6 BK111.out 0).trans rfl
                  have hcz44_1 : wr.cell? ⟨gb111, 1, none⟩ = some (.slice (some ad116) l0_1.length c0_1) := (z6 BK111.out 1).trans rfl
                  have hfz44_0 := y5 BK111.out 0
                  have hfz44_1 := y5 BK111.out 1
                  have p119 : 0 ≤ (x7_3 : Int) := of_decide_eq_true (by first | (with_reducible assumption) | assumption)
                  have q119 : x7_3 < (l0_1.length : Int) := of_decide_eq_true (by first | (with_reducible assumption) | assumption)
                  obtain ⟨ad119, e119, hx119_0, hx119_1, hx119_2, hx119_3⟩ := yz HR0_1.out x7_3 p119 q119
                  obtain rfl : ad116 = ad119 := (by injection e119)
                  replace hx119_0 := (HB.out.cell (World.block_lt_of_cell? w _ hx119_0)).trans hx119_0
                  replace hx119_1 := (HB.out.cell (World.block_lt_of_cell? w _ hx119_1)).trans hx119_1
                  replace hx119_2 := (HB.out.cell (World.block_lt_of_cell? w _ hx119_2)).trans hx119_2
                  replace hx119_3 := (HB.out.cell (World.block_lt_of_cell? w _ hx119_3)).trans hx119_3
                  replace p119 := eq_true p119
                  replace q119 := eq_true q119
                  go_wp2_with (first | ((with_reducible refine ye (N := 8) rfl ?_); (try (refine yw (by rfl) ?_; dsimp only)); refine ze ?hg (N := 8) ?hd (cs := #[.int .i64 0, .int .i64 0, .int .i64 0, .int .i64 0]) (t := 138) ?hr ?_; (case hd => rfl); (case hg => rfl); (case hr => first | (go_simp; done) | (go_simp; rfl)); intro gb120 hg w45 hbox hb; have n0_ := z2.mk (Kd.qf (by (with_reducible repeat (first | apply Kd.R_alloc | apply Kd.y9 | apply Kd.zb)); exact HO_3.out) hb); have n1_ := z2.mk (z9 (g := gb111) (o := .cells #[.int .i64 a0_0, .slice (some ad116) l0_1.length c0_1] 31 (0, 0)) (by (with_reducible repeat (first | refine z5 ?_ _ | refine y6 ?_ | refine y4 ?_ _)); exact BK111.out) hb); have n2_ := z2.mk (z9 (g := gb117) (o := .cells #[.int .i64 ((y7 l0_1 x4_2).f0), .int .i64 ((y7 l0_1 x4_2).f1), .int .i64 ((y7 l0_1 x4_2).f2), .int .i64 ((y7 l0_1 x4_2).f3)] 138 (0, 0)) (by (with_reducible repeat (first | refine z5 ?_ _ | refine y6 ?_ | refine y4 ?_ _)); exact BK117.out) hb); have n3_ := z2.mk (y8 (by repeat (first | (with_reducible first | exact HB.out | apply z4 | apply z1 | apply z3 | refine z7 ?_ GE111.out | refine z7 ?_ GE117.out) | exact HB.out)) hb); have n4_ := z2.mk (hbox); have n5_ := z2.mk ((by rw [hg]; exact (z8 (by repeat (first | (with_reducible first | exact HB.out | apply z4 | apply z1 | apply z3 | refine z7 ?_ GE111.out | refine z7 ?_ GE117.out) | exact HB.out))) : w.heap.size ≤ gb120)); have n6_ := z2.mk ((by rw [hg]; exact (z8 (by repeat (first | (with_reducible first | exact HB.out | apply z4 | apply z1 | apply z3 | refine z7 ?_ GE111.out | refine z7 ?_ GE117.out) | exact HB.out))) : w.heap.size ≤ gb120)); have n7_ := z2.mk ((by rw [hg]; exact Nat.ne_of_lt (qk (g := gb111) (o := .cells #[.int .i64 a0_0, .slice (some ad116) l0_1.length c0_1] 31 (0, 0)) (by (with_reducible repeat (first | refine z5 ?_ _ | refine y6 ?_ | refine y4 ?_ _)); exact BK111.out)) : gb111 ≠ gb120)); have n8_ := z2.mk ((by rw [hg]; exact Nat.ne_of_gt (qk (g := gb111) (o := .cells #[.int .i64 a0_0, .slice (some ad116) l0_1.length c0_1] 31 (0, 0)) (by (with_reducible repeat (first | refine z5 ?_ _ | refine y6 ?_ | refine y4 ?_ _)); exact BK111.out)) : gb120 ≠ gb111)); have n9_ := z2.mk ((by rw [hg]; exact Nat.ne_of_lt (qk (g := gb117) (o := .cells #[.int .i64 ((y7 l0_1 x4_2).f0), .int .i64 ((y7 l0_1 x4_2).f1), .int .i64 ((y7 l0_1 x4_2).f2), .int .i64 ((y7 l0_1 x4_2).f3)] 138 (0, 0)) (by (with_reducible repeat (first | refine z5 ?_ _ | refine y6 ?_ | refine y4 ?_ _)); exact BK117.out)) : gb117 ≠ gb120)); have n10_ := z2.mk ((by rw [hg]; exact Nat.ne_of_gt (qk (g := gb117) (o := .cells #[.int .i64 ((y7 l0_1 x4_2).f0), .int .i64 ((y7 l0_1 x4_2).f1), .int .i64 ((y7 l0_1 x4_2).f2), .int .i64 ((y7 l0_1 x4_2).f3)] 138 (0, 0)) (by (with_reducible repeat (first | refine z5 ?_ _ | refine y6 ?_ | refine y4 ?_ _)); exact BK117.out)) : gb120 ≠ gb117)); clear HO_3 BK111 BK117 HB; have HO_3 := n0_; have BK111 := n1_; have BK117 := n2_; have HB := n3_; have BK120 := n4_; have GW120 := n5_; have GE120 := n6_; have NB111_120 := n7_; have NB120_111 := n8_; have NB117_120 := n9_; have NB120_117 := n10_; clear n0_ n1_ n2_ n3_ n4_ n5_ n6_ n7_ n8_ n9_ n10_ hb hbox hg; have hnb46 := NB120_111.out; have hnc46 := NB111_120.out; have hnb47 := NB120_117.out; have hnc47 := NB117_120.out; have hcz48_0 : w45.cell? ⟨gb120, 0, none⟩ = some (.int .i64 0) := (z6 BK120.out 0).trans rfl; have hcz48_1 : w45.cell? ⟨gb120, 1, none⟩ = some (.int .i64 0) := (z6 BK120.out 1).trans rfl; have hcz48_2 : w45.cell? ⟨gb120, 2, none⟩ = some (.int .i64 0) := (z6 BK120.out 2).trans rfl; have hcz48_3 : w45.cell? ⟨gb120, 3, none⟩ = some (.int .i64 0) := (z6 BK120.out 3).trans rfl; have hfz48_0 := y5 BK120.out 0; have hfz48_1 := y5 BK120.out 1; have hfz48_2 := y5 BK120.out 2; have hfz48_3 := y5 BK120.out 3; have hcz49_0 : w45.cell? ⟨gb117, 0, none⟩ = some (.int .i64 ((y7 l0_1 x4_2).f0)) := (z6 BK117.out 0).trans rfl; have hcz49_1 : w45.cell? ⟨gb117, 1, none⟩ = some (.int .i64 ((y7 l0_1 x4_2).f1)) := (z6 BK117.out 1).trans rfl; have hcz49_2 : w45.cell? ⟨gb117, 2, none⟩ = some (.int .i64 ((y7 l0_1 x4_2).f2)) := (z6 BK117.out 2).trans rfl; have hcz49_3 : w45.cell? ⟨gb117, 3, none⟩ = some (.int .i64 ((y7 l0_1 x4_2).f3)) := (z6 BK117.out 3).trans rfl; have hfz49_0 := y5 BK117.out 0; have hfz49_1 := y5 BK117.out 1; have hfz49_2 := y5 BK117.out 2; have hfz49_3 := y5 BK117.out 3))
                  go_roundg k3
                  case measure => have := HJ3.out; have := HK2.out; have := HK3.out; omega
                  case rel => exact ⟨(wrap64 (x7_3 + 1)), (by first | rfl | (simp; done) | (simp [*]; done)), H', ⟨by have := HJ3.out; have := HK2.out; have := HK3.out; omega⟩, ⟨by (with_reducible repeat (first | apply Kd.R_alloc | apply Kd.y9 | apply Kd.zb)); exact Kd.yk (Kd.zf (p := ⟨gb120, 3, none⟩) (Kd.zf (p := ⟨gb120, 2, none⟩) (Kd.zf (p := ⟨gb120, 1, none⟩) (Kd.zf (p := ⟨gb120, 0, none⟩) (Kd.qp HO_3.out BK120.out (by decide)) (fun _ hk => hk.2) (.int .i64 ((y7 l0_1 x7_3).f0))) (fun _ hk => hk.2) (.int .i64 ((y7 l0_1 x7_3).f1))) (fun _ hk => hk.2) (.int .i64 ((y7 l0_1 x7_3).f2))) (fun _ hk => hk.2) (.int .i64 ((y7 l0_1 x7_3).f3))) (fun _ hk => trivial)⟩, ⟨by (with_reducible repeat (first | refine z5 ?_ _ | refine y6 ?_ | refine y4 ?_ _)); refine zd ?_ NB111_120.out _; (with_reducible repeat (first | refine z5 ?_ _ | refine y6 ?_ | refine y4 ?_ _)); refine zd ?_ NB111_120.out _; (with_reducible repeat (first | refine z5 ?_ _ | refine y6 ?_ | refine y4 ?_ _)); refine zd ?_ NB111_120.out _; (with_reducible repeat (first | refine z5 ?_ _ | refine y6 ?_ | refine y4 ?_ _)); refine zd ?_ NB111_120.out _; (with_reducible repeat (first | refine z5 ?_ _ | refine y6 ?_ | refine y4 ?_ _)); exact BK111.out⟩, ⟨by (with_reducible repeat (first | refine z5 ?_ _ | refine y6 ?_ | refine y4 ?_ _)); refine zd ?_ NB117_120.out _; (with_reducible repeat (first | refine z5 ?_ _ | refine y6 ?_ | refine y4 ?_ _)); refine zd ?_ NB117_120.out _; (with_reducible repeat (first | refine z5 ?_ _ | refine y6 ?_ | refine y4 ?_ _)); refine zd ?_ NB117_120.out _; (with_reducible repeat (first | refine z5 ?_ _ | refine y6 ?_ | refine y4 ?_ _)); refine zd ?_ NB117_120.out _; (with_reducible repeat (first | refine z5 ?_ _ | refine y6 ?_ | refine y4 ?_ _)); exact BK117.out⟩, ⟨by repeat (first | (with_reducible first | exact HB.out | apply z4 | apply z1 | apply z3 | refine z7 ?_ GE111.out | refine z7 ?_ GE117.out | refine z7 ?_ GE120.out) | exact HB.out)⟩⟩
                ·rw [if_neg c26] at H
                 have c26b0 : (((y7 l0_1 x7_3).f0) == ((y7 l0_1 x4_2).f0)) = false := beq_eq_false_iff_ne.mpr c26
                 have c26b1 : (((y7 l0_1 x7_3).f0) != ((y7 l0_1 x4_2).f0)) = true := bne_iff_ne.mpr c26
                 have H' := z2.mk H
                 clear H
                 have hnb50 := NB111_117.out
                 have hnc50 := NB117_111.out
                 have hcz51_0 : wr.cell? ⟨gb111, 0, none⟩ = some (.int .i64 a0_0) := (z6 BK111.out 0).trans rfl
                 have hcz51_1 : wr.cell? ⟨gb111, 1, none⟩ = some (.slice (some ad116) l0_1.length c0_1) := (z6 BK111.out 1).trans rfl
                 have hfz51_0 := y5 BK111.out 0
                 have hfz51_1 := y5 BK111.out 1
                 have p119 : 0 ≤ (x7_3 : Int) := of_decide_eq_true (by first | (with_reducible assumption) | assumption)
                 have q119 : x7_3 < (l0_1.length : Int) := of_decide_eq_true (by first | (with_reducible assumption) | assumption)
                 obtain ⟨ad119, e119, hx119_0, hx119_1, hx119_2, hx119_3⟩ := yz HR0_1.out x7_3 p119 q119
                 obtain rfl : ad116 = ad119 := (by injection e119)
                 replace hx119_0 := (HB.out.cell (World.block_lt_of_cell? w _ hx119_0)).trans hx119_0
                 replace hx119_1 := (HB.out.cell (World.block_lt_of_cell? w _ hx119_1)).trans hx119_1
                 replace hx119_2 := (HB.out.cell (World.block_lt_of_cell? w _ hx119_2)).trans hx119_2
                 replace hx119_3 := (HB.out.cell (World.block_lt_of_cell? w _ hx119_3)).trans hx119_3
                 replace p119 := eq_true p119
                 replace q119 := eq_true q119
                 go_wp2_with (first | ((with_reducible refine ye (N := 8) rfl ?_); (try (refine yw (by rfl) ?_; dsimp only)); refine ze ?hg (N := 8) ?hd (cs := #[.int .i64 0, .int .i64 0, .int .i64 0, .int .i64 0]) (t := 138) ?hr ?_; (case hd => rfl); (case hg => rfl); (case hr => first | (go_simp; done) | (go_simp; rfl)); intro gb120 hg w52 hbox hb; have n0_ := z2.mk (Kd.qf (by (with_reducible repeat (first | apply Kd.R_alloc | apply Kd.y9 | apply Kd.zb)); exact HO_3.out) hb); have n1_ := z2.mk (z9 (g := gb111) (o := .cells #[.int .i64 a0_0, .slice (some ad116) l0_1.length c0_1] 31 (0, 0)) (by (with_reducible repeat (first | refine z5 ?_ _ | refine y6 ?_ | refine y4 ?_ _)); exact BK111.out) hb); have n2_ := z2.mk (z9 (g := gb117) (o := .cells #[.int .i64 ((y7 l0_1 x4_2).f0), .int .i64 ((y7 l0_1 x4_2).f1), .int .i64 ((y7 l0_1 x4_2).f2), .int .i64 ((y7 l0_1 x4_2).f3)] 138 (0, 0)) (by (with_reducible repeat (first | refine z5 ?_ _ | refine y6 ?_ | refine y4 ?_ _)); exact BK117.out) hb); have n3_ := z2.mk (y8 (by repeat (first | (with_reducible first | exact HB.out | apply z4 | apply z1 | apply z3 | refine z7 ?_ GE111.out | refine z7 ?_ GE117.out) | exact HB.out)) hb); have n4_ := z2.mk (hbox); have n5_ := z2.mk ((by rw [hg]; exact (z8 (by repeat (first | (with_reducible first | exact HB.out | apply z4 | apply z1 | apply z3 | refine z7 ?_ GE111.out | refine z7 ?_ GE117.out) | exact HB.out))) : w.heap.size ≤ gb120)); have n6_ := z2.mk ((by rw [hg]; exact (z8 (by repeat (first | (with_reducible first | exact HB.out | apply z4 | apply z1 | apply z3 | refine z7 ?_ GE111.out | refine z7 ?_ GE117.out) | exact HB.out))) : w.heap.size ≤ gb120)); have n7_ := z2.mk ((by rw [hg]; exact Nat.ne_of_lt (qk (g := gb111) (o := .cells #[.int .i64 a0_0, .slice (some ad116) l0_1.length c0_1] 31 (0, 0)) (by (with_reducible repeat (first | refine z5 ?_ _ | refine y6 ?_ | refine y4 ?_ _)); exact BK111.out)) : gb111 ≠ gb120)); have n8_ := z2.mk ((by rw [hg]; exact Nat.ne_of_gt (qk (g := gb111) (o := .cells #[.int .i64 a0_0, .slice (some ad116) l0_1.length c0_1] 31 (0, 0)) (by (with_reducible repeat (first | refine z5 ?_ _ | refine y6 ?_ | refine y4 ?_ _)); exact BK111.out)) : gb120 ≠ gb111)); have n9_ := z2.mk ((by rw [hg]; exact Nat.ne_of_lt (qk (g := gb117) (o := .cells #[.int .i64 ((y7 l0_1 x4_2).f0), .int .i64 ((y7 l0_1 x4_2).f1), .int .i64 ((y7 l0_1 x4_2).f2), .int .i64 ((y7 l0_1 x4_2).f3)] 138 (0, 0)) (by (with_reducible repeat (first | refine z5 ?_ _ | refine y6 ?_ | refine y4 ?_ _)); exact BK117.out)) : gb117 ≠ gb120)); have n10_ := z2.mk ((by rw [hg]; exact Nat.ne_of_gt (qk (g := gb117) (o := .cells #[.int .i64 ((y7 l0_1 x4_2).f0), .int .i64 ((y7 l0_1 x4_2).f1), .int .i64 ((y7 l0_1 x4_2).f2), .int .i64 ((y7 l0_1 x4_2).f3)] 138 (0, 0)) (by (with_reducible repeat (first | refine z5 ?_ _ | refine y6 ?_ | refine y4 ?_ _)); exact BK117.out)) : gb120 ≠ gb117)); clear HO_3 BK111 BK117 HB; have HO_3 := n0_; have BK111 := n1_; have BK117 := n2_; have HB := n3_; have BK120 := n4_; have GW120 := n5_; have GE120 := n6_; have NB111_120 := n7_; have NB120_111 := n8_; have NB117_120 := n9_; have NB120_117 := n10_; clear n0_ n1_ n2_ n3_ n4_ n5_ n6_ n7_ n8_ n9_ n10_ hb hbox hg; have hnb53 := NB120_111.out; have hnc53 := NB111_120.out; have hnb54 := NB120_117.out; have hnc54 := NB117_120.out; have hcz55_0 : w52.cell? ⟨gb120, 0, none⟩ = some (.int .i64 0) := (z6 BK120.out 0).trans rfl; have hcz55_1 : w52.cell? ⟨gb120, 1, none⟩ = some (.int .i64 0) := (z6 BK120.out 1).trans rfl; have hcz55_2 : w52.cell? ⟨gb120, 2, none⟩ = some (.int .i64 0) := (z6 BK120.out 2).trans rfl; have hcz55_3 : w52.cell? ⟨gb120, 3, none⟩ = some (.int .i64 0) := (z6 BK120.out 3).trans rfl; have hfz55_0 := y5 BK120.out 0; have hfz55_1 := y5 BK120.out 1; have hfz55_2 := y5 BK120.out 2; have hfz55_3 := y5 BK120.out 3; have hcz56_0 : w52.cell? ⟨gb117, 0, none⟩ = some (.int .i64 ((y7 l0_1 x4_2).f0)) := (z6 BK117.out 0).trans rfl; have hcz56_1 : w52.cell? ⟨gb117, 1, none⟩ = some (.int .i64 ((y7 l0_1 x4_2).f1)) := (z6 BK117.out 1).trans rfl; have hcz56_2 : w52.cell? ⟨gb117, 2, none⟩ = some (.int .i64 ((y7 l0_1 x4_2).f2)) := (z6 BK117.out 2).trans rfl; have hcz56_3 : w52.cell? ⟨gb117, 3, none⟩ = some (.int .i64 ((y7 l0_1 x4_2).f3)) := (z6 BK117.out 3).trans rfl; have hfz56_0 := y5 BK117.out 0; have hfz56_1 := y5 BK117.out 1; have hfz56_2 := y5 BK117.out 2; have hfz56_3 := y5 BK117.out 3))
                 go_roundg k3
                 case measure => have := HJ3.out; have := HK2.out; have := HK3.out; omega
                 case rel => exact ⟨(wrap64 (x7_3 + 1)), (by first | rfl | (simp; done) | (simp [*]; done)), H', ⟨by have := HJ3.out; have := HK2.out; have := HK3.out; omega⟩, ⟨by (with_reducible repeat (first | apply Kd.R_alloc | apply Kd.y9 | apply Kd.zb)); exact Kd.yk (Kd.zf (p := ⟨gb120, 3, none⟩) (Kd.zf (p := ⟨gb120, 2, none⟩) (Kd.zf (p := ⟨gb120, 1, none⟩) (Kd.zf (p := ⟨gb120, 0, none⟩) (Kd.qp HO_3.out BK120.out (by decide)) (fun _ hk => hk.2) (.int .i64 ((y7 l0_1 x7_3).f0))) (fun _ hk => hk.2) (.int .i64 ((y7 l0_1 x7_3).f1))) (fun _ hk => hk.2) (.int .i64 ((y7 l0_1 x7_3).f2))) (fun _ hk => hk.2) (.int .i64 ((y7 l0_1 x7_3).f3))) (fun _ hk => trivial)⟩, ⟨by (with_reducible repeat (first | refine z5 ?_ _ | refine y6 ?_ | refine y4 ?_ _)); refine zd ?_ NB111_120.out _; (with_reducible repeat (first | refine z5 ?_ _ | refine y6 ?_ | refine y4 ?_ _)); refine zd ?_ NB111_120.out _; (with_reducible repeat (first | refine z5 ?_ _ | refine y6 ?_ | refine y4 ?_ _)); refine zd ?_ NB111_120.out _; (with_reducible repeat (first | refine z5 ?_ _ | refine y6 ?_ | refine y4 ?_ _)); refine zd ?_ NB111_120.out _; (with_reducible repeat (first | refine z5 ?_ _ | refine y6 ?_ | refine y4 ?_ _)); exact BK111.out⟩, ⟨by (with_reducible repeat (first | refine z5 ?_ _ | refine y6 ?_ | refine y4 ?_ _)); refine zd ?_ NB117_120.out _; (with_reducible repeat (first | refine z5 ?_ _ | refine y6 ?_ | refine y4 ?_ _)); refine zd ?_ NB117_120.out _; (with_reducible repeat (first | refine z5 ?_ _ | refine y6 ?_ | refine y4 ?_ _)); refine zd ?_ NB117_120.out _; (with_reducible repeat (first | refine z5 ?_ _ | refine y6 ?_ | refine y4 ?_ _)); refine zd ?_ NB117_120.out _; (with_reducible repeat (first | refine z5 ?_ _ | refine y6 ?_ | refine y4 ?_ _)); exact BK117.out⟩, ⟨by repeat (first | (with_reducible first | exact HB.out | apply z4 | apply z1 | apply z3 | refine z7 ?_ GE111.out | refine z7 ?_ GE117.out | refine z7 ?_ GE120.out) | exact HB.out)⟩⟩
               ·rw [if_neg c25] at H
                exact absurd H (by simp)
              ·rw [if_neg c24] at H
               exact absurd H (by simp)
             ·rw [if_neg c23] at H
              have c23b0 : decide (x7_3 < x4_2) = false := decide_eq_false c23
              clear c23
              by_cases c57 : 0 ≤ ((y7 l0_1 x4_2).f2)
              ·rw [if_pos c57] at H
               have c57b0 : decide (0 ≤ ((y7 l0_1 x4_2).f2)) = true := decide_eq_true c57
               clear c57
               by_cases c58 : ((y7 l0_1 x4_2).f2) < (x3_2.length : Int)
               ·rw [if_pos c58] at H
                have c58b0 : decide (((y7 l0_1 x4_2).f2) < (x3_2.length : Int)) = true := decide_eq_true c58
                clear c58
                obtain ⟨y122, hy122⟩ : ∃ y_ : List Int, y_ = (x3_2.set (((y7 l0_1 x4_2).f2) : Int).toNat (wrap64 ((rd x3_2 ((y7 l0_1 x4_2).f2)) + ((y7 l0_1 x4_2).f3)))) := ⟨_, rfl⟩
                replace H : (za.l0 k3 y122 (wrap64 (x4_2 + 1)) a0_0 l0_1) = some r := by first | (rw [hy122]; with_reducible exact H) | (have H2_ := (Option.bind_some _ _).symm.trans H; rw [hy122]; with_reducible exact H2_) | (have H2_ := (Option.bind_some _ _).symm.trans H; with_reducible exact H2_) | with_reducible exact H | (rw [hy122]; exact H) | exact H
                have Ny122 := z2.mk hy122
                clear hy122
                have H' := z2.mk H
                clear H
                try go_wp2
                have n0_ := z2.mk (Kd.zb HO_3.out)
                have n1_ := z2.mk (y6 BK111.out)
                have n2_ := z2.mk (y6 BK117.out)
                have n3_ := z2.mk (z3 HB.out)
                clear HO_3
                clear BK111
                clear BK117
                clear HB
                have HO_3 := n0_
                have BK111 := n1_
                have BK117 := n2_
                have HB := n3_
                clear n0_ n1_ n2_ n3_
                obtain ⟨Ao61, co61, eo61⟩ := Kd.zt HO_3.out
                (first | subst eo61 | (injection eo61 with f1_ f2_ f3_; have f4_ := f1_.symm; have f5_ := f3_.symm; clear f1_ f2_ f3_; subst f4_; subst f5_))
                have p121 : 0 ≤ (((y7 l0_1 x4_2).f2) : Int) := of_decide_eq_true (by first | (with_reducible assumption) | assumption)
                have q121 : ((y7 l0_1 x4_2).f2) < (x3_2.length : Int) := of_decide_eq_true (by first | (with_reducible assumption) | assumption)
                obtain ⟨ad121, e121, hx121_0⟩ := Kd.q07 (Kd.qd HO_3.out).2.2 ((y7 l0_1 x4_2).f2) p121 q121
                cases e121
                replace p121 := eq_true p121
                replace q121 := eq_true q121
                have p59 : 0 ≤ (((y7 l0_1 x4_2).f2) : Int) := of_decide_eq_true (by first | (with_reducible assumption) | assumption)
                have q59 : (((y7 l0_1 x4_2).f2) : Int) < ((x3_2.length : Int) : Int) := of_decide_eq_true (by first | (with_reducible assumption) | assumption)
                obtain ⟨go59, co59, eo59, gb59, gl59, cl59, HG59⟩ := Kd.y1d HO_3.out (by omega)
                (first | cases eo59 | (injection eo59 with ea_ en_ ec_; (first | subst ea_ | (injection ea_ with ea_; subst ea_)); subst ec_; clear en_))
                have GB59 := z2.mk gb59
                have GG59 := z2.mk HG59
                clear gb59 gl59 HG59
                (first | simp only [add_plain] at hx121_0 | skip)
                obtain ⟨hx59_0, hf59_0⟩ := Kd.z18 0 HO_3.out (((y7 l0_1 x4_2).f2) : Int) p59 q59
                replace p59 := eq_true p59
                replace q59 := eq_true q59
                have HP62 := Kd.q2k HO_3.out (((y7 l0_1 x4_2).f2) : Int) (wrap64 ((rd x3_2 ((y7 l0_1 x4_2).f2)) + ((y7 l0_1 x4_2).f3)))
                rw [← Ny122.out] at HP62
                have HQ62 := z2.mk HP62
                clear HP62
                refine z0f (n := 13) (S := fun w' => w'.cell? ⟨gb117, 0, none⟩ = some (.int .i64 ((y7 l0_1 x4_2).f0)) ∧ w'.cell? ⟨gb117, 1, none⟩ = some (.int .i64 ((y7 l0_1 x4_2).f1)) ∧ w'.cell? ⟨gb117, 2, none⟩ = some (.int .i64 ((y7 l0_1 x4_2).f2)) ∧ w'.cell? ⟨gb117, 3, none⟩ = some (.int .i64 ((y7 l0_1 x4_2).f3)) ∧ w'.cell? ⟨go59, (((y7 l0_1 x4_2).f2)).toNat, none⟩ = some (.int .i64 (rd x3_2 ((y7 l0_1 x4_2).f2)))) (ds := [12]) #[false, false, false, false, false, false, false, false, false, false, false, false, false] (by kernel_rfl) rfl rfl ⟨(z6 BK117.out 0).trans rfl, (z6 BK117.out 1).trans rfl, (z6 BK117.out 2).trans rfl, (z6 BK117.out 3).trans rfl, hx121_0⟩ (fun hHeld => ?_); refine q03 za.z2v za.y2l (fun HT_ HW_ => ?_)
                generalize wr.drew = w60 at HO_3 BK111 BK117 HB GG59 HQ62 hf59_0 hx121_0 hx59_0 hHeld ⊢
                refine yo (i := 0) (N := some 71) (v := ?_) (a' := ?_) #[true, false, false, false, false, false, false, false, false, false, false, false, false] rfl rfl (qj HT_.out (by kernel_rfl)) (fun _ _ _ h => h) (Or.inl ⟨by rfl, ?_⟩) ?_ ?_
                rotate_left
                ·intro w'
                 go_simp
                 with_reducible rfl
                rotate_left
                ·simp only [Act.put, List.setIfInBounds_toArray, List.set_cons_zero, List.set_cons_succ, yg, qg]
                 rfl
                refine yo (i := 1) (N := some 72) (v := ?_) (a' := ?_) #[true, true, false, false, false, false, false, false, false, false, false, false, false] rfl rfl (qj HT_.out (by kernel_rfl)) (fun _ _ _ h => h) (Or.inl ⟨by rfl, ?_⟩) ?_ ?_
                rotate_left
                ·intro w'
                 go_simp
                 with_reducible rfl
                rotate_left
                ·simp only [Act.put, List.setIfInBounds_toArray, List.set_cons_zero, List.set_cons_succ, yg, qg]
                 rfl
                refine yo (i := 3) (N := some 74) (v := ?_) (a' := ?_) #[true, true, false, true, false, false, false, false, false, false, false, false, false] rfl rfl (qj HT_.out (by kernel_rfl)) (fun _ _ _ h => h) (Or.inl ⟨by rfl, ?_⟩) ?_ ?_
                rotate_left
                ·intro w'
                 go_simp
                 with_reducible rfl
                rotate_left
                ·simp only [Act.put, List.setIfInBounds_toArray, List.set_cons_zero, List.set_cons_succ, yg, qg]
                 rfl
                refine yo (i := 4) (N := some 75) (v := ?_) (a' := ?_) #[true, true, false, true, true, false, false, false, false, false, false, false, false] rfl rfl (qj HT_.out (by kernel_rfl)) (fun _ _ _ h => h) (Or.inl ⟨by rfl, ?_⟩) ?_ ?_
                rotate_left
                ·intro w'
                 go_simp
                 with_reducible rfl
                rotate_left
                ·simp only [Act.put, List.setIfInBounds_toArray, List.set_cons_zero, List.set_cons_succ, yg, qg]
                 rfl
                refine yo (i := 8) (N := some 79) (v := ?_) (a' := ?_) #[true, true, false, true, true, false, false, false, true, false, false, false, false] rfl rfl (qj HT_.out (by kernel_rfl)) (fun _ _ _ h => h) (Or.inl ⟨by rfl, ?_⟩) ?_ ?_
                rotate_left
                ·intro w'
                 go_simp
                 with_reducible rfl
                rotate_left
                ·simp only [Act.put, List.setIfInBounds_toArray, List.set_cons_zero, List.set_cons_succ, yg, qg]
                 rfl
                refine y04 (i := 2) (N := some 73) (v := ?_) (a' := ?_) #[true, true, true, true, true, false, false, false, true, false, false, false, false] rfl rfl (zv HT_.out HW_.out (by kernel_rfl)) (fun _ _ _ h => h) (Or.inl ⟨by rfl, ?_⟩) hHeld ?_ ?_
                rotate_left
                ·rintro w' ⟨s0, s1, s2, s3, s4⟩
                 go_simp
                 with_reducible rfl
                rotate_left
                ·simp only [Act.put, List.setIfInBounds_toArray, List.set_cons_zero, List.set_cons_succ, yg, qg]
                 rfl
                refine y04 (i := 5) (N := some 76) (v := ?_) (a' := ?_) #[true, true, true, true, true, true, false, false, true, false, false, false, false] rfl rfl (zv HT_.out HW_.out (by kernel_rfl)) (fun _ _ _ h => h) (Or.inl ⟨by rfl, ?_⟩) hHeld ?_ ?_
                rotate_left
                ·rintro w' ⟨s0, s1, s2, s3, s4⟩
                 go_simp
                 with_reducible rfl
                rotate_left
                ·simp only [Act.put, List.setIfInBounds_toArray, List.set_cons_zero, List.set_cons_succ, yg, qg]
                 rfl
                refine yo (i := 6) (N := some 77) (v := ?_) (a' := ?_) #[true, true, true, true, true, true, true, false, true, false, false, false, false] rfl rfl (qj HT_.out (by kernel_rfl)) (fun _ _ _ h => h) (Or.inl ⟨by rfl, ?_⟩) ?_ ?_
                rotate_left
                ·intro w'
                 go_simp
                 with_reducible rfl
                rotate_left
                ·simp only [Act.put, List.setIfInBounds_toArray, List.set_cons_zero, List.set_cons_succ, yg, qg]
                 rfl
                refine y04 (i := 7) (N := some 78) (v := ?_) (a' := ?_) #[true, true, true, true, true, true, true, true, true, false, false, false, false] rfl rfl (zv HT_.out HW_.out (by kernel_rfl)) (fun _ _ _ h => h) (Or.inl ⟨by rfl, ?_⟩) hHeld ?_ ?_
                rotate_left
                ·rintro w' ⟨s0, s1, s2, s3, s4⟩
                 go_simp
                 with_reducible rfl
                rotate_left
                ·simp only [Act.put, List.setIfInBounds_toArray, List.set_cons_zero, List.set_cons_succ, yg, qg]
                 rfl
                refine y04 (i := 9) (N := some 80) (v := ?_) (a' := ?_) #[true, true, true, true, true, true, true, true, true, true, false, false, false] rfl rfl (zv HT_.out HW_.out (by kernel_rfl)) (fun _ _ _ h => h) (Or.inl ⟨by rfl, ?_⟩) hHeld ?_ ?_
                rotate_left
                ·rintro w' ⟨s0, s1, s2, s3, s4⟩
                 go_simp
                 with_reducible rfl
                rotate_left
                ·simp only [Act.put, List.setIfInBounds_toArray, List.set_cons_zero, List.set_cons_succ, yg, qg]
                 rfl
                refine yo (i := 10) (N := some 81) (v := ?_) (a' := ?_) #[true, true, true, true, true, true, true, true, true, true, true, false, false] rfl rfl (qj HT_.out (by kernel_rfl)) (fun _ _ _ h => h) (Or.inl ⟨by rfl, ?_⟩) ?_ ?_
                rotate_left
                ·intro w'
                 go_simp
                 with_reducible rfl
                rotate_left
                ·simp only [Act.put, List.setIfInBounds_toArray, List.set_cons_zero, List.set_cons_succ, yg, qg]
                 rfl
                refine yo (i := 11) (N := some 82) (v := ?_) (a' := ?_) #[true, true, true, true, true, true, true, true, true, true, true, true, false] rfl rfl (qj HT_.out (by kernel_rfl)) (fun _ _ _ h => h) (Or.inl ⟨by rfl, ?_⟩) ?_ ?_
                rotate_left
                ·intro w'
                 go_simp
                 with_reducible rfl
                rotate_left
                ·simp only [Act.put, List.setIfInBounds_toArray, List.set_cons_zero, List.set_cons_succ, yg, qg]
                 rfl
                refine y2f (i := 12) (N := none) #[true, true, true, true, true, true, true, true, true, true, true, true, true] rfl rfl (qz HT_.out (by kernel_rfl)) (by decide) (fun K hK => ?_)
                refine q0v (w1 := ?_) (by rfl) rfl ?_ ?_
                rotate_left
                ·go_simp
                 rfl
                refine hK.out _ _ ?_
                clear hK K
                refine y0n (q0b HT_.out (by kernel_rfl)) ?_
                try go_wp2
                go_roundg k3
                case measure => have := HJ3.out; have := HK2.out; have := HK3.out; omega
                case rel => exact ⟨(y122), (wrap64 (x4_2 + 1)), (by first | rfl | (simp; done) | (simp [*]; done)), H', ⟨by have := HJ3.out; have := HK2.out; have := HK3.out; omega⟩, ⟨by (with_reducible repeat (first | apply Kd.R_alloc | apply Kd.y9 | apply Kd.zb)); exact HQ62.out⟩, ⟨by (with_reducible repeat (first | refine z5 ?_ _ | refine y6 ?_ | refine y4 ?_ _)); refine zd ?_ (by have h_ := Kd.y0k HO_3.out BK111.out (by decide); intro e_; exact h_ (by rw [e_]; rfl)) _; (with_reducible repeat (first | refine z5 ?_ _ | refine y6 ?_ | refine y4 ?_ _)); exact BK111.out⟩, ⟨by repeat (first | (with_reducible first | exact HB.out | apply z4 | apply z1 | apply z3 | refine z7 ?_ GB59.out | refine z7 ?_ GE111.out | refine z7 ?_ GE117.out) | exact HB.out)⟩⟩
               ·rw [if_neg c58] at H
                exact absurd H (by simp)
              ·rw [if_neg c57] at H
               exact absurd H (by simp)
          ·rw [if_neg c17] at H
           have c17b0 : (t118 == 0) = false := beq_eq_false_iff_ne.mpr c17
           have c17b1 : (t118 != 0) = true := bne_iff_ne.mpr c17
           obtain rfl := Option.some.inj H
           have hcz63_0 : wr.cell? ⟨gb111, 0, none⟩ = some (.int .i64 a0_0) := (z6 BK111.out 0).trans rfl
           have hcz63_1 : wr.cell? ⟨gb111, 1, none⟩ = some (.slice A0_1 l0_1.length c0_1) := (z6 BK111.out 1).trans rfl
           have hfz63_0 := y5 BK111.out 0
           have hfz63_1 := y5 BK111.out 1
           have p116 : 0 ≤ (x4_2 : Int) := of_decide_eq_true (by first | (with_reducible assumption) | assumption)
           have q116 : x4_2 < (l0_1.length : Int) := of_decide_eq_true (by first | (with_reducible assumption) | assumption)
           obtain ⟨ad116, e116, hx116_0, hx116_1, hx116_2, hx116_3⟩ := yz HR0_1.out x4_2 p116 q116
           cases e116
           replace hx116_0 := (HB.out.cell (World.block_lt_of_cell? w _ hx116_0)).trans hx116_0
           replace hx116_1 := (HB.out.cell (World.block_lt_of_cell? w _ hx116_1)).trans hx116_1
           replace hx116_2 := (HB.out.cell (World.block_lt_of_cell? w _ hx116_2)).trans hx116_2
           replace hx116_3 := (HB.out.cell (World.block_lt_of_cell? w _ hx116_3)).trans hx116_3
           replace p116 := eq_true p116
           replace q116 := eq_true q116
           go_wp2_with (first | ((with_reducible refine ye (N := 5) rfl ?_); (try (refine yw (by rfl) ?_; dsimp only)); refine ze ?hg (N := 5) ?hd (cs := #[.int .i64 0, .int .i64 0, .int .i64 0, .int .i64 0]) (t := 138) ?hr ?_; (case hd => rfl); (case hg => rfl); (case hr => first | (go_simp; done) | (go_simp; rfl)); intro gb117 hg w64 hbox hb; have n0_ := z2.mk (Kd.qf (by (with_reducible repeat (first | apply Kd.R_alloc | apply Kd.y9 | apply Kd.zb)); exact HO_3.out) hb); have n1_ := z2.mk (z9 (g := gb111) (o := .cells #[.int .i64 a0_0, .slice (some ad116) l0_1.length c0_1] 31 (0, 0)) (by (with_reducible repeat (first | refine z5 ?_ _ | refine y6 ?_ | refine y4 ?_ _)); exact BK111.out) hb); have n2_ := z2.mk (y8 (by repeat (first | (with_reducible first | exact HB.out | apply z4 | apply z1 | apply z3 | refine z7 ?_ GE111.out) | exact HB.out)) hb); have n3_ := z2.mk (hbox); have n4_ := z2.mk ((by rw [hg]; exact (z8 (by repeat (first | (with_reducible first | exact HB.out | apply z4 | apply z1 | apply z3 | refine z7 ?_ GE111.out) | exact HB.out))) : w.heap.size ≤ gb117)); have n5_ := z2.mk ((by rw [hg]; exact (z8 (by repeat (first | (with_reducible first | exact HB.out | apply z4 | apply z1 | apply z3 | refine z7 ?_ GE111.out) | exact HB.out))) : w.heap.size ≤ gb117)); have n6_ := z2.mk ((by rw [hg]; exact Nat.ne_of_lt (qk (g := gb111) (o := .cells #[.int .i64 a0_0, .slice (some ad116) l0_1.length c0_1] 31 (0, 0)) (by (with_reducible repeat (first | refine z5 ?_ _ | refine y6 ?_ | refine y4 ?_ _)); exact BK111.out)) : gb111 ≠ gb117)); have n7_ := z2.mk ((by rw [hg]; exact Nat.ne_of_gt (qk (g := gb111) (o := .cells #[.int .i64 a0_0, .slice (some ad116) l0_1.length c0_1] 31 (0, 0)) (by (with_reducible repeat (first | refine z5 ?_ _ | refine y6 ?_ | refine y4 ?_ _)); exact BK111.out)) : gb117 ≠ gb111)); clear HO_3 BK111 HB; have HO_3 := n0_; have BK111 := n1_; have HB := n2_; have BK117 := n3_; have GW117 := n4_; have GE117 := n5_; have NB111_117 := n6_; have NB117_111 := n7_; clear n0_ n1_ n2_ n3_ n4_ n5_ n6_ n7_ hb hbox hg; have hnb65 := NB117_111.out; have hnc65 := NB111_117.out; have hcz66_0 : w64.cell? ⟨gb117, 0, none⟩ = some (.int .i64 0) := (z6 BK117.out 0).trans rfl; have hcz66_1 : w64.cell? ⟨gb117, 1, none⟩ = some (.int .i64 0) := (z6 BK117.out 1).trans rfl; have hcz66_2 : w64.cell? ⟨gb117, 2, none⟩ = some (.int .i64 0) := (z6 BK117.out 2).trans rfl; have hcz66_3 : w64.cell? ⟨gb117, 3, none⟩ = some (.int .i64 0) := (z6 BK117.out 3).trans rfl; have hfz66_0 := y5 BK117.out 0; have hfz66_1 := y5 BK117.out 1; have hfz66_2 := y5 BK117.out 2; have hfz66_3 := y5 BK117.out 3) | ((with_reducible refine qb (f := 93) rfl ?_); refine zm (some 38) rfl rfl Try.func93 (by kernel_rfl) rfl #[.agg #[.int .i64 ((y7 l0_1 x4_2).f0), .int .i64 ((y7 l0_1 x4_2).f1), .int .i64 ((y7 l0_1 x4_2).f2), .int .i64 ((y7 l0_1 x4_2).f3)]] rfl (by (try simp only [List.map_toArray, List.map_cons, List.map_nil]); first | done | rfl | (simp only [List.length_drop, List.length_take]; rfl)) ?_; (with_reducible refine (zg.calls k2 ((y7 l0_1 x4_2).f0) ((y7 l0_1 x4_2).f1) ((y7 l0_1 x4_2).f2) ((y7 l0_1 x4_2).f3) t118 _ A16.out).mono ?_); rintro e w67 ⟨rfl, hb⟩; refine ⟨_, rfl, ?_⟩; have n0_ := z2.mk (Kd.qf (by (with_reducible repeat (first | apply Kd.R_alloc | apply Kd.y9 | apply Kd.zb)); exact (Kd.yk (Kd.zf (p := ⟨gb117, 3, none⟩) (Kd.zf (p := ⟨gb117, 2, none⟩) (Kd.zf (p := ⟨gb117, 1, none⟩) (Kd.zf (p := ⟨gb117, 0, none⟩) (Kd.qp HO_3.out BK117.out (by decide)) (fun _ hk => hk.2) (.int .i64 ((y7 l0_1 x4_2).f0))) (fun _ hk => hk.2) (.int .i64 ((y7 l0_1 x4_2).f1))) (fun _ hk => hk.2) (.int .i64 ((y7 l0_1 x4_2).f2))) (fun _ hk => hk.2) (.int .i64 ((y7 l0_1 x4_2).f3))) (fun _ h_ => h_.1))) hb); have n1_ := z2.mk (z9 (g := gb111) (o := .cells #[.int .i64 a0_0, .slice (some ad116) l0_1.length c0_1] 31 (0, 0)) (by (with_reducible repeat (first | refine z5 ?_ _ | refine y6 ?_ | refine y4 ?_ _)); refine zd ?_ NB111_117.out _; (with_reducible repeat (first | refine z5 ?_ _ | refine y6 ?_ | refine y4 ?_ _)); refine zd ?_ NB111_117.out _; (with_reducible repeat (first | refine z5 ?_ _ | refine y6 ?_ | refine y4 ?_ _)); refine zd ?_ NB111_117.out _; (with_reducible repeat (first | refine z5 ?_ _ | refine y6 ?_ | refine y4 ?_ _)); refine zd ?_ NB111_117.out _; (with_reducible repeat (first | refine z5 ?_ _ | refine y6 ?_ | refine y4 ?_ _)); exact BK111.out) hb); have n2_ := z2.mk (z9 (g := gb117) (o := .cells #[.int .i64 ((y7 l0_1 x4_2).f0), .int .i64 ((y7 l0_1 x4_2).f1), .int .i64 ((y7 l0_1 x4_2).f2), .int .i64 ((y7 l0_1 x4_2).f3)] 138 (0, 0)) (by (with_reducible repeat (first | refine z5 ?_ _ | refine y6 ?_ | refine y4 ?_ _)); refine qc (cs := #[.int .i64 ((y7 l0_1 x4_2).f0), .int .i64 ((y7 l0_1 x4_2).f1), .int .i64 ((y7 l0_1 x4_2).f2), .int .i64 0]) ?_ 3 _ rfl; (with_reducible repeat (first | refine z5 ?_ _ | refine y6 ?_ | refine y4 ?_ _)); refine qc (cs := #[.int .i64 ((y7 l0_1 x4_2).f0), .int .i64 ((y7 l0_1 x4_2).f1), .int .i64 0, .int .i64 0]) ?_ 2 _ rfl; (with_reducible repeat (first | refine z5 ?_ _ | refine y6 ?_ | refine y4 ?_ _)); refine qc (cs := #[.int .i64 ((y7 l0_1 x4_2).f0), .int .i64 0, .int .i64 0, .int .i64 0]) ?_ 1 _ rfl; (with_reducible repeat (first | refine z5 ?_ _ | refine y6 ?_ | refine y4 ?_ _)); refine qc (cs := #[.int .i64 0, .int .i64 0, .int .i64 0, .int .i64 0]) ?_ 0 _ rfl; (with_reducible repeat (first | refine z5 ?_ _ | refine y6 ?_ | refine y4 ?_ _)); exact BK117.out) hb); have n3_ := z2.mk (y8 (by repeat (first | (with_reducible first | exact HB.out | apply z4 | apply z1 | apply z3 | refine z7 ?_ GE111.out | refine z7 ?_ GE117.out) | exact HB.out)) hb); clear HO_3 BK111 BK117 HB; have HO_3 := n0_; have BK111 := n1_; have BK117 := n2_; have HB := n3_; clear n0_ n1_ n2_ n3_; (try clear hb); (try clear hb2); (try clear hk); (try clear hi)))
           go_ret
           exact ⟨by first | rfl | (simp [ya, qa] <;> rfl) | (simp [*, ya, qa] <;> rfl), by repeat (first | (with_reducible first | exact HB.out | apply z4 | apply z1 | apply z3 | refine z7 ?_ GE111.out | refine z7 ?_ GE117.out) | exact HB.out)⟩
         ·rw [if_neg c15] at H
          exact absurd H (by simp)
        ·rw [if_neg c14] at H
         have c14b0 : decide (x4_2 < (l0_1.length : Int)) = false := decide_eq_false c14
         clear c14
         have H' := z2.mk H
         clear H
         have hcz68_0 : wr.cell? ⟨gb111, 0, none⟩ = some (.int .i64 a0_0) := (z6 BK111.out 0).trans rfl
         have hcz68_1 : wr.cell? ⟨gb111, 1, none⟩ = some (.slice A0_1 l0_1.length c0_1) := (z6 BK111.out 1).trans rfl
         have hfz68_0 := y5 BK111.out 0
         have hfz68_1 := y5 BK111.out 1
         go_wp2
         go_loopg [9] k2 (fun kq v9 w' => ∃ (x9_3 : Int), v9 = .int .i64 x9_3 ∧ z2 (za.l2 kq x3_2 x9_3 = some r) ∧ z2 (kq ≤ k2) ∧ z2 (Kd.R (Kd.int .i64) 2 w' w.heap.size (fun _ => True) v114 x3_2) ∧ z2 (w'.heap[gb111]? = some (.cells #[.int .i64 a0_0, (.slice A0_1 l0_1.length c0_1)] 31 (0, 0))) ∧ z2 (Below w.heap.size w w'))
         case atStart => exact ⟨(0), (by first | rfl | (simp; done) | (simp [*]; done)), H', ⟨Nat.le_refl _⟩, ⟨by (with_reducible repeat (first | apply Kd.R_alloc | apply Kd.y9 | apply Kd.zb)); exact HO_3.out⟩, ⟨by (with_reducible repeat (first | refine z5 ?_ _ | refine y6 ?_ | refine y4 ?_ _)); exact BK111.out⟩, ⟨by repeat (first | (with_reducible first | exact HB.out | apply z4 | apply z1 | apply z3 | refine z7 ?_ GE111.out) | exact HB.out)⟩⟩
         case round =>
          clear H'
          try clear c1
          try clear p1
          try clear q1
          try clear hx1
          try clear c2
          try clear p2
          try clear c3
          try clear c4
          try clear c5
          try clear p5
          try clear q5
          try clear hx5
          try clear hf5
          try clear c6
          try clear p6
          try clear c7
          try clear c7b0
          try clear c7b1
          try clear c9
          try clear c10
          try clear c11
          try clear c11b0
          try clear c11b1
          try clear p11
          try clear q11
          try clear hx11
          try clear p12
          try clear q12
          try clear hx12
          try clear c14
          try clear c14b0
          try clear c15
          try clear c15b0
          try clear c17
          try clear c17b0
          try clear c17b1
          try clear c20
          try clear c23
          try clear c23b0
          try clear c24
          try clear c24b0
          try clear c25
          try clear c25b0
          try clear c26
          try clear c26b0
          try clear c26b1
          try clear c27
          try clear c27b0
          try clear c27b1
          try clear c28
          try clear c28b0
          try clear c28b1
          try clear c29
          try clear c32
          try clear c33
          try clear c36
          try clear c39
          try clear c40
          try clear c43
          try clear c46
          try clear c47
          try clear c50
          try clear c53
          try clear c54
          try clear c57
          try clear c57b0
          try clear c58
          try clear c58b0
          try clear p59
          try clear q59
          try clear hx59
          try clear hf59
          try clear p64
          try clear c65
          try clear hcz18_0
          try clear hcz18_1
          try clear hcz21_0
          try clear hcz21_1
          try clear hcz21_2
          try clear hcz21_3
          try clear hcz30_0
          try clear hcz30_1
          try clear hcz34_0
          try clear hcz34_1
          try clear hcz34_2
          try clear hcz34_3
          try clear hcz35_0
          try clear hcz35_1
          try clear hcz35_2
          try clear hcz35_3
          try clear hcz37_0
          try clear hcz37_1
          try clear hcz41_0
          try clear hcz41_1
          try clear hcz41_2
          try clear hcz41_3
          try clear hcz42_0
          try clear hcz42_1
          try clear hcz42_2
          try clear hcz42_3
          try clear hcz44_0
          try clear hcz44_1
          try clear hcz48_0
          try clear hcz48_1
          try clear hcz48_2
          try clear hcz48_3
          try clear hcz49_0
          try clear hcz49_1
          try clear hcz49_2
          try clear hcz49_3
          try clear hcz51_0
          try clear hcz51_1
          try clear hcz55_0
          try clear hcz55_1
          try clear hcz55_2
          try clear hcz55_3
          try clear hcz56_0
          try clear hcz56_1
          try clear hcz56_2
          try clear hcz56_3
          try clear hcz63_0
          try clear hcz63_1
          try clear hcz66_0
          try clear hcz66_1
          try clear hcz66_2
          try clear hcz66_3
          try clear hcz68_0
          try clear hcz68_1
          try clear hcz6_0
          try clear hcz6_1
          try clear hcz8_0
          try clear hcz8_1
          try clear hcz9_0
          try clear hcz9_1
          try clear hfz18_0
          try clear hfz18_1
          try clear hfz21_0
          try clear hfz21_1
          try clear hfz21_2
          try clear hfz21_3
          try clear hfz30_0
          try clear hfz30_1
          try clear hfz34_0
          try clear hfz34_1
          try clear hfz34_2
          try clear hfz34_3
          try clear hfz35_0
          try clear hfz35_1
          try clear hfz35_2
          try clear hfz35_3
          try clear hfz37_0
          try clear hfz37_1
          try clear hfz41_0
          try clear hfz41_1
          try clear hfz41_2
          try clear hfz41_3
          try clear hfz42_0
          try clear hfz42_1
          try clear hfz42_2
          try clear hfz42_3
          try clear hfz44_0
          try clear hfz44_1
          try clear hfz48_0
          try clear hfz48_1
          try clear hfz48_2
          try clear hfz48_3
          try clear hfz49_0
          try clear hfz49_1
          try clear hfz49_2
          try clear hfz49_3
          try clear hfz51_0
          try clear hfz51_1
          try clear hfz55_0
          try clear hfz55_1
          try clear hfz55_2
          try clear hfz55_3
          try clear hfz56_0
          try clear hfz56_1
          try clear hfz56_2
          try clear hfz56_3
          try clear hfz63_0
          try clear hfz63_1
          try clear hfz66_0
          try clear hfz66_1
          try clear hfz66_2
          try clear hfz66_3
          try clear hfz68_0
          try clear hfz68_1
          try clear hfz6_0
          try clear hfz6_1
          try clear hfz8_0
          try clear hfz8_1
          try clear hfz9_0
          try clear hfz9_1
          try clear hx116_0
          try clear hx116_1
          try clear hx116_2
          try clear hx116_3
          try clear hx119_0
          try clear hx119_1
          try clear hx119_2
          try clear hx119_3
          try clear hx121_0
          try clear hx59_0
          try clear p1
          try clear p11
          try clear p116
          try clear p119
          try clear p121
          try clear p2
          try clear p59
          try clear q1
          try clear q11
          try clear q116
          try clear q119
          try clear q121
          try clear q59
          obtain ⟨x9_3, rfl, HA, HK3, HO_3, BK111, HB⟩ := hrel
          cases gk with
          | zero => exact absurd HA.out (by simp [za.l2])
          | succ k3 =>
           have H := HA.out
           clear HA
           simp only [za.l2] at H
           by_cases c69 : x9_3 < (x3_2.length : Int)
           ·rw [if_pos c69] at H
            have c69b0 : decide (x9_3 < (x3_2.length : Int)) = true := decide_eq_true c69
            clear c69
            by_cases c70 : 0 ≤ x9_3
            ·rw [if_pos c70] at H
             have c70b0 : decide (0 ≤ x9_3) = true := decide_eq_true c70
             clear c70
             by_cases c71 : (rd x3_2 x9_3) = 0
             ·rw [if_pos c71] at H
              have c71b0 : ((rd x3_2 x9_3) == 0) = true := beq_iff_eq.mpr c71
              have c71b1 : ((rd x3_2 x9_3) != 0) = false := bne_eq_false_iff_eq.mpr c71
              clear c71
              have H' := z2.mk H
              clear H
              obtain ⟨Ao72, co72, eo72⟩ := Kd.zt HO_3.out
              subst eo72
              have p123 : 0 ≤ (x9_3 : Int) := of_decide_eq_true (by first | (with_reducible assumption) | assumption)
              have q123 : x9_3 < (x3_2.length : Int) := of_decide_eq_true (by first | (with_reducible assumption) | assumption)
              obtain ⟨ad123, e123, hx123_0⟩ := Kd.q07 (Kd.qd HO_3.out).2.2 x9_3 p123 q123
              cases e123
              replace p123 := eq_true p123
              replace q123 := eq_true q123
              go_wp2
              go_roundg k3
              case measure => have := HJ3.out; have := HK2.out; have := HK3.out; omega
              case rel => exact ⟨(wrap64 (x9_3 + 1)), (by first | rfl | (simp; done) | (simp [*]; done)), H', ⟨by have := HJ3.out; have := HK2.out; have := HK3.out; omega⟩, ⟨by (with_reducible repeat (first | apply Kd.R_alloc | apply Kd.y9 | apply Kd.zb)); exact HO_3.out⟩, ⟨by (with_reducible repeat (first | refine z5 ?_ _ | refine y6 ?_ | refine y4 ?_ _)); exact BK111.out⟩, ⟨by repeat (first | (with_reducible first | exact HB.out | apply z4 | apply z1 | apply z3 | refine z7 ?_ GE111.out) | exact HB.out)⟩⟩
             ·rw [if_neg c71] at H
              have c71b0 : ((rd x3_2 x9_3) == 0) = false := beq_eq_false_iff_ne.mpr c71
              have c71b1 : ((rd x3_2 x9_3) != 0) = true := bne_iff_ne.mpr c71
              obtain rfl := Option.some.inj H
              obtain ⟨Ao73, co73, eo73⟩ := Kd.zt HO_3.out
              subst eo73
              have p123 : 0 ≤ (x9_3 : Int) := of_decide_eq_true (by first | (with_reducible assumption) | assumption)
              have q123 : x9_3 < (x3_2.length : Int) := of_decide_eq_true (by first | (with_reducible assumption) | assumption)
              obtain ⟨ad123, e123, hx123_0⟩ := Kd.q07 (Kd.qd HO_3.out).2.2 x9_3 p123 q123
              cases e123
              replace p123 := eq_true p123
              replace q123 := eq_true q123
              go_wp2
              go_ret
              exact ⟨by first | rfl | (simp [ya, qa] <;> rfl) | (simp [*, ya, qa] <;> rfl), by repeat (first | (with_reducible first | exact HB.out | apply z4 | apply z1 | apply z3 | refine z7 ?_ GE111.out) | exact HB.out)⟩
            ·rw [if_neg c70] at H
             exact absurd H (by simp)
           ·rw [if_neg c69] at H
            have c69b0 : decide (x9_3 < (x3_2.length : Int)) = false := decide_eq_false c69
            clear c69
            obtain rfl := Option.some.inj H
            obtain ⟨Ao74, co74, eo74⟩ := Kd.zt HO_3.out
            subst eo74
            go_wp2
            go_ret
            exact ⟨by first | rfl | (simp [ya, qa] <;> rfl) | (simp [*, ya, qa] <;> rfl), by repeat (first | (with_reducible first | exact HB.out | apply z4 | apply z1 | apply z3 | refine z7 ?_ GE111.out) | exact HB.out)⟩
     ·rw [if_neg c11] at H
      exact absurd H (by simp)
 ·replace c3 := Bool.eq_false_iff.mpr c3
  subst c3
  have H1 : (some 3) = some r := by rw [if_neg (show ¬ (false = true) by decide)] at H; exact H
  clear H
  have H := H1
  clear H1
  obtain rfl := Option.some.inj H
  go_enter Try.func46, Try.ntmps46
  go_wp2_with (first | ((with_reducible refine ye (N := 1) rfl ?_); (try (refine yw (by rfl) ?_; dsimp only)); refine ze ?hg (N := 1) ?hd (cs := #[.int .i64 a0_0, .slice A0_1 l0_1.length c0_1]) (t := 31) ?hr ?_; (case hd => rfl); (case hg => rfl); (case hr => first | (go_simp; done) | (go_simp; rfl)); intro gb111 hg w75 hbox hb; have n0_ := z2.mk (y8 (by repeat (first | (with_reducible first | exact HB.out | apply z4 | apply z1 | apply z3) | exact HB.out)) hb); have n1_ := z2.mk (hbox); have n2_ := z2.mk ((by rw [hg]; exact (z8 (by repeat (first | (with_reducible first | exact HB.out | apply z4 | apply z1 | apply z3) | exact HB.out))) : w.heap.size ≤ gb111)); have n3_ := z2.mk ((by rw [hg]; exact (z8 (by repeat (first | (with_reducible first | exact HB.out | apply z4 | apply z1 | apply z3) | exact HB.out))) : w.heap.size ≤ gb111)); clear HB; have HB := n0_; have BK111 := n1_; have GW111 := n2_; have GE111 := n3_; clear n0_ n1_ n2_ n3_ hb hbox hg; have hcz76_0 : w75.cell? ⟨gb111, 0, none⟩ = some (.int .i64 a0_0) := (z6 BK111.out 0).trans rfl; have hcz76_1 : w75.cell? ⟨gb111, 1, none⟩ = some (.slice A0_1 l0_1.length c0_1) := (z6 BK111.out 1).trans rfl; have hfz76_0 := y5 BK111.out 0; have hfz76_1 := y5 BK111.out 1) | ((with_reducible refine qb (f := 47) rfl ?_); refine zm (some 12) rfl rfl Try.func47 (by kernel_rfl) rfl #[.int .i64 a0_0] rfl (by (try simp only [List.map_toArray, List.map_cons, List.map_nil]); first | done | rfl | (simp only [List.length_drop, List.length_take]; rfl)) ?_; (with_reducible refine (q05.calls a0_0 false _ A2.out).mono ?_); rintro e w' ⟨rfl, ⟨nd, rfl⟩⟩; refine ⟨_, rfl, ?_⟩))
  go_ret
  exact ⟨by first | rfl | (simp [ya, qa] <;> rfl) | (simp [*, ya, qa] <;> rfl), by repeat (first | (with_reducible first | exact HB.out | apply z4 | apply z1 | apply z3 | refine z7 ?_ GE111.out) | exact HB.out)⟩
end Go.Proofs.Ytkeojolmapcgbaa.PEv
end
section
namespace Go.Proofs.Ytkeojolmapcgbaa.PEv
open Go.RowKit Go.Proofs.YtkeojolmapcgbaaW.PrintWords Go.Proofs.YtkeojolmapcgbaaW.PrintLast Go.Proofs.YtkeojolmapcgbaaW.PrintMore
set_option linter.unusedVariables false
set_option linter.unusedSimpArgs false
def yj.j0 : Nat → Bool → Bool → Int → List (yl) → Int → Option (Int)
 | 0, _, _, _, _, _ => none
 | k + 1, x25, x125000, x125001, x125002, x125003 => if x25 = true then (some 3) else (if (x125002.length : Int) > 0 then (some 1) else (some 0))
def yj.f (k : Nat) (a0_0 : Bool) (a0_1 : Int) (l0_2 : List (yl)) (a0_3 : Int) : Option (Int) := if a0_0 = true then ((za.f k a0_1 l0_2).bind fun t125 => (if t125 = 0 then (if a0_3 = 0 then (some 0) else (some 1)) else (some t125))) else ((q05.f a0_1).bind fun t126 => (if t126 = true then ((yn.f a0_3 1 2).bind fun t127 => (yj.j0 k (!t127) a0_0 a0_1 l0_2 a0_3)) else (yj.j0 k true a0_0 a0_1 l0_2 a0_3)))
set_option maxHeartbeats 8000000 in
set_option maxRecDepth 100000 in
theorem yj.calls (k : Nat) (a0_0 : Bool) (a0_1 : Int) (A0_2 : Option Addr) (c0_2 : Nat) (l0_2 : List (yl)) (a0_3 : Int) (r : Int) (w : World) (hr0_2 : Kd.C y08 w A0_2 l0_2.length l0_2) (hc0_2 : l0_2.length ≤ c0_2) (h : yj.f k a0_0 a0_1 l0_2 a0_3 = some r) :
  Calls Try.prog 9 #[.agg #[.bool a0_0, .int .i64 a0_1, .slice A0_2 l0_2.length c0_2, .int .i64 a0_3]] w fun e w' => e = .returned (.int .i64 r) ∧ Below w.heap.size w w' := by
 have hu33 := Try.underlying33
 have hu31 := Try.underlying31
 have HR0_2 := z2.mk hr0_2
 have HC0_2 := z2.mk hc0_2
 clear hr0_2 hc0_2
 have HB := z2.mk (Below.refl w.heap.size w)
 have H : (if a0_0 = true then ((za.f k a0_1 l0_2).bind fun t125 => (if t125 = 0 then (if a0_3 = 0 then (some 0) else (some 1)) else (some t125))) else ((q05.f a0_1).bind fun t126 => (if t126 = true then ((yn.f a0_3 1 2).bind fun t127 => (yj.j0 k (!t127) a0_0 a0_1 l0_2 a0_3)) else (yj.j0 k true a0_0 a0_1 l0_2 a0_3)))) = some r := h
 clear h
 by_cases c2 : a0_0 = true
 ·subst c2
  have H1 : ((za.f k a0_1 l0_2).bind fun t125 => (if t125 = 0 then (if a0_3 = 0 then (some 0) else (some 1)) else (some t125))) = some r := by rw [if_pos rfl] at H; exact H
  clear H
  have H := H1
  clear H1
  replace H := Option.bind_eq_some_iff.mp H
  obtain ⟨t125, A30, H⟩ := H
  replace H : (if t125 = 0 then (if a0_3 = 0 then (some 0) else (some 1)) else (some t125)) = some r := H
  have A3 := z2.mk A30
  clear A30
  by_cases c4 : t125 = 0
  ·rw [if_pos c4] at H
   have c4b0 : (t125 == 0) = true := beq_iff_eq.mpr c4
   have c4b1 : (t125 != 0) = false := bne_eq_false_iff_eq.mpr c4
   clear c4
   by_cases c5 : a0_3 = 0
   ·rw [if_pos c5] at H
    have c5b0 : (a0_3 == 0) = true := beq_iff_eq.mpr c5
    have c5b1 : (a0_3 != 0) = false := bne_eq_false_iff_eq.mpr c5
    clear c5
    obtain rfl := Option.some.inj H
    go_enter Try.func9, Try.ntmps9
    go_wp2_with (first | ((with_reducible refine ye (N := 1) rfl ?_); refine ze ?hg (N := 1) ?hd (cs := #[.bool true, .int .i64 a0_1, .slice A0_2 l0_2.length c0_2, .int .i64 a0_3]) (t := 33) ?hr ?_; (case hd => rfl); (case hg => rfl); (case hr => first | (go_simp; done) | (go_simp; rfl)); intro gb124 hg w6 hbox hb; have n0_ := z2.mk (y8 (by repeat (first | (with_reducible first | exact HB.out | apply z4 | apply z1 | apply z3) | exact HB.out)) hb); have n1_ := z2.mk (hbox); have n2_ := z2.mk ((by rw [hg]; exact (z8 (by repeat (first | (with_reducible first | exact HB.out | apply z4 | apply z1 | apply z3) | exact HB.out))) : w.heap.size ≤ gb124)); have n3_ := z2.mk ((by rw [hg]; exact (z8 (by repeat (first | (with_reducible first | exact HB.out | apply z4 | apply z1 | apply z3) | exact HB.out))) : w.heap.size ≤ gb124)); clear HB; have HB := n0_; have BK124 := n1_; have GW124 := n2_; have GE124 := n3_; clear n0_ n1_ n2_ n3_ hb hbox hg; have hcz7_0 : w6.cell? ⟨gb124, 0, none⟩ = some (.bool true) := (z6 BK124.out 0).trans rfl; have hcz7_1 : w6.cell? ⟨gb124, 1, none⟩ = some (.int .i64 a0_1) := (z6 BK124.out 1).trans rfl; have hcz7_2 : w6.cell? ⟨gb124, 2, none⟩ = some (.slice A0_2 l0_2.length c0_2) := (z6 BK124.out 2).trans rfl; have hcz7_3 : w6.cell? ⟨gb124, 3, none⟩ = some (.int .i64 a0_3) := (z6 BK124.out 3).trans rfl; have hfz7_0 := y5 BK124.out 0; have hfz7_1 := y5 BK124.out 1; have hfz7_2 := y5 BK124.out 2; have hfz7_3 := y5 BK124.out 3) | ((with_reducible refine qb (f := 46) rfl ?_); refine zm (some 8) rfl rfl Try.func46 (by kernel_rfl) rfl #[.agg #[.int .i64 a0_1, .slice A0_2 l0_2.length c0_2]] rfl (by (try simp only [List.map_toArray, List.map_cons, List.map_nil]); first | done | rfl | (simp only [List.length_drop, List.length_take]; rfl)) ?_; (with_reducible refine (za.calls k a0_1 _ _ l0_2 t125 _ ?side1 ?side2 A3.out).mono ?_); (case side1 => repeat (first | exact (Kd.yp HR0_2.out HB.out) | (with_reducible refine Kd.yi ?_ _) | (with_reducible refine Kd.qi ?_ _) | (with_reducible refine Kd.C_drew ?_))); (case side2 => exact HC0_2.out); rintro e w8 ⟨rfl, hb⟩; refine ⟨_, rfl, ?_⟩; have n0_ := z2.mk (z9 (g := gb124) (o := .cells #[.bool true, .int .i64 a0_1, .slice A0_2 l0_2.length c0_2, .int .i64 a0_3] 33 (0, 0)) (by (with_reducible repeat (first | refine z5 ?_ _ | refine y6 ?_ | refine y4 ?_ _)); exact BK124.out) hb); have n1_ := z2.mk (y8 (by repeat (first | (with_reducible first | exact HB.out | apply z4 | apply z1 | apply z3 | refine z7 ?_ GE124.out) | exact HB.out)) hb); clear BK124 HB; have BK124 := n0_; have HB := n1_; clear n0_ n1_; (try clear hb); (try clear hb2); (try clear hk); (try clear hi); have hcz9_0 : w8.cell? ⟨gb124, 0, none⟩ = some (.bool true) := (z6 BK124.out 0).trans rfl; have hcz9_1 : w8.cell? ⟨gb124, 1, none⟩ = some (.int .i64 a0_1) := (z6 BK124.out 1).trans rfl; have hcz9_2 : w8.cell? ⟨gb124, 2, none⟩ = some (.slice A0_2 l0_2.length c0_2) := (z6 BK124.out 2).trans rfl; have hcz9_3 : w8.cell? ⟨gb124, 3, none⟩ = some (.int .i64 a0_3) := (z6 BK124.out 3).trans rfl; have hfz9_0 := y5 BK124.out 0; have hfz9_1 := y5 BK124.out 1; have hfz9_2 := y5 BK124.out 2; have hfz9_3 := y5 BK124.out 3))
    go_ret
    exact ⟨by first | rfl | (simp [ya, qa] <;> rfl) | (simp [*, ya, qa] <;> rfl), by repeat (first | (with_reducible first | exact HB.out | apply z4 | apply z1 | apply z3 | refine z7 ?_ GE124.out) | exact HB.out)⟩
   ·rw [if_neg c5] at H
    have c5b0 : (a0_3 == 0) = false := beq_eq_false_iff_ne.mpr c5
    have c5b1 : (a0_3 != 0) = true := bne_iff_ne.mpr c5
    obtain rfl := Option.some.inj H
    go_enter Try.func9, Try.ntmps9
    go_wp2_with (first | ((with_reducible refine ye (N := 1) rfl ?_); refine ze ?hg (N := 1) ?hd (cs := #[.bool true, .int .i64 a0_1, .slice A0_2 l0_2.length c0_2, .int .i64 a0_3]) (t := 33) ?hr ?_; (case hd => rfl); (case hg => rfl); (case hr => first | (go_simp; done) | (go_simp; rfl)); intro gb124 hg w10 hbox hb; have n0_ := z2.mk (y8 (by repeat (first | (with_reducible first | exact HB.out | apply z4 | apply z1 | apply z3) | exact HB.out)) hb); have n1_ := z2.mk (hbox); have n2_ := z2.mk ((by rw [hg]; exact (z8 (by repeat (first | (with_reducible first | exact HB.out | apply z4 | apply z1 | apply z3) | exact HB.out))) : w.heap.size ≤ gb124)); have n3_ := z2.mk ((by rw [hg]; exact (z8 (by repeat (first | (with_reducible first | exact HB.out | apply z4 | apply z1 | apply z3) | exact HB.out))) : w.heap.size ≤ gb124)); clear HB; have HB := n0_; have BK124 := n1_; have GW124 := n2_; have GE124 := n3_; clear n0_ n1_ n2_ n3_ hb hbox hg; have hcz11_0 : w10.cell? ⟨gb124, 0, none⟩ = some (.bool true) := (z6 BK124.out 0).trans rfl; have hcz11_1 : w10.cell? ⟨gb124, 1, none⟩ = some (.int .i64 a0_1) := (z6 BK124.out 1).trans rfl; have hcz11_2 : w10.cell? ⟨gb124, 2, none⟩ = some (.slice A0_2 l0_2.length c0_2) := (z6 BK124.out 2).trans rfl; have hcz11_3 : w10.cell? ⟨gb124, 3, none⟩ = some (.int .i64 a0_3) := (z6 BK124.out 3).trans rfl; have hfz11_0 := y5 BK124.out 0; have hfz11_1 := y5 BK124.out 1; have hfz11_2 := y5 BK124.out 2; have hfz11_3 := y5 BK124.out 3) | ((with_reducible refine qb (f := 46) rfl ?_); refine zm (some 8) rfl rfl Try.func46 (by kernel_rfl) rfl #[.agg #[.int .i64 a0_1, .slice A0_2 l0_2.length c0_2]] rfl (by (try simp only [List.map_toArray, List.map_cons, List.map_nil]); first | done | rfl | (simp only [List.length_drop, List.length_take]; rfl)) ?_; (with_reducible refine (za.calls k a0_1 _ _ l0_2 t125 _ ?side1 ?side2 A3.out).mono ?_); (case side1 => repeat (first | exact (Kd.yp HR0_2.out HB.out) | (with_reducible refine Kd.yi ?_ _) | (with_reducible refine Kd.qi ?_ _) | (with_reducible refine Kd.C_drew ?_))); (case side2 => exact HC0_2.out); rintro e w12 ⟨rfl, hb⟩; refine ⟨_, rfl, ?_⟩; have n0_ := z2.mk (z9 (g := gb124) (o := .cells #[.bool true, .int .i64 a0_1, .slice A0_2 l0_2.length c0_2, .int .i64 a0_3] 33 (0, 0)) (by (with_reducible repeat (first | refine z5 ?_ _ | refine y6 ?_ | refine y4 ?_ _)); exact BK124.out) hb); have n1_ := z2.mk (y8 (by repeat (first | (with_reducible first | exact HB.out | apply z4 | apply z1 | apply z3 | refine z7 ?_ GE124.out) | exact HB.out)) hb); clear BK124 HB; have BK124 := n0_; have HB := n1_; clear n0_ n1_; (try clear hb); (try clear hb2); (try clear hk); (try clear hi); have hcz13_0 : w12.cell? ⟨gb124, 0, none⟩ = some (.bool true) := (z6 BK124.out 0).trans rfl; have hcz13_1 : w12.cell? ⟨gb124, 1, none⟩ = some (.int .i64 a0_1) := (z6 BK124.out 1).trans rfl; have hcz13_2 : w12.cell? ⟨gb124, 2, none⟩ = some (.slice A0_2 l0_2.length c0_2) := (z6 BK124.out 2).trans rfl; have hcz13_3 : w12.cell? ⟨gb124, 3, none⟩ = some (.int .i64 a0_3) := (z6 BK124.out 3).trans rfl; have hfz13_0 := y5 BK124.out 0; have hfz13_1 := y5 BK124.out 1; have hfz13_2 := y5 BK124.out 2; have hfz13_3 := y5 BK124.out 3))
    go_ret
    exact ⟨by first | rfl | (simp [ya, qa] <;> rfl) | (simp [*, ya, qa] <;> rfl), by repeat (first | (with_reducible first | exact HB.out | apply z4 | apply z1 | apply z3 | refine z7 ?_ GE124.out) | exact HB.out)⟩
  ·rw [if_neg c4] at H
   have c4b0 : (t125 == 0) = false := beq_eq_false_iff_ne.mpr c4
   have c4b1 : (t125 != 0) = true := bne_iff_ne.mpr c4
   obtain rfl := Option.some.inj H
   go_enter Try.func9, Try.ntmps9
   go_wp2_with (first | ((with_reducible refine ye (N := 1) rfl ?_); refine ze ?hg (N := 1) ?hd (cs := #[.bool true, .int .i64 a0_1, .slice A0_2 l0_2.length c0_2, .int .i64 a0_3]) (t := 33) ?hr ?_; (case hd => rfl); (case hg => rfl); (case hr => first | (go_simp; done) | (go_simp; rfl)); intro gb124 hg w14 hbox hb; have n0_ := z2.mk (y8 (by repeat (first | (with_reducible first | exact HB.out | apply z4 | apply z1 | apply z3) | exact HB.out)) hb); have n1_ := z2.mk (hbox); have n2_ := z2.mk ((by rw [hg]; exact (z8 (by repeat (first | (with_reducible first | exact HB.out | apply z4 | apply z1 | apply z3) | exact HB.out))) : w.heap.size ≤ gb124)); have n3_ := z2.mk ((by rw [hg]; exact (z8 (by repeat (first | (with_reducible first | exact HB.out | apply z4 | apply z1 | apply z3) | exact HB.out))) : w.heap.size ≤ gb124)); clear HB; have HB := n0_; have BK124 := n1_; have GW124 := n2_; have GE124 := n3_; clear n0_ n1_ n2_ n3_ hb hbox hg; have hcz15_0 : w14.cell? ⟨gb124, 0, none⟩ = some (.bool true) := (z6 BK124.out 0).trans rfl; have hcz15_1 : w14.cell? ⟨gb124, 1, none⟩ = some (.int .i64 a0_1) := (z6 BK124.out 1).trans rfl; have hcz15_2 : w14.cell? ⟨gb124, 2, none⟩ = some (.slice A0_2 l0_2.length c0_2) := (z6 BK124.out 2).trans rfl; have hcz15_3 : w14.cell? ⟨gb124, 3, none⟩ = some (.int .i64 a0_3) := (z6 BK124.out 3).trans rfl; have hfz15_0 := y5 BK124.out 0; have hfz15_1 := y5 BK124.out 1; have hfz15_2 := y5 BK124.out 2; have hfz15_3 := y5 BK124.out 3) | ((with_reducible refine qb (f := 46) rfl ?_); refine zm (some 8) rfl rfl Try.func46 (by kernel_rfl) rfl #[.agg #[.int .i64 a0_1, .slice A0_2 l0_2.length c0_2]] rfl (by (try simp only [List.map_toArray, List.map_cons, List.map_nil]); first | done | rfl | (simp only [List.length_drop, List.length_take]; rfl)) ?_; (with_reducible refine (za.calls k a0_1 _ _ l0_2 t125 _ ?side1 ?side2 A3.out).mono ?_); (case side1 => repeat (first | exact (Kd.yp HR0_2.out HB.out) | (with_reducible refine Kd.yi ?_ _) | (with_reducible refine Kd.qi ?_ _) | (with_reducible refine Kd.C_drew ?_))); (case side2 => exact HC0_2.out); rintro e w16 ⟨rfl, hb⟩; refine ⟨_, rfl, ?_⟩; have n0_ := z2.mk (z9 (g := gb124) (o := .cells #[.bool true, .int .i64 a0_1, .slice A0_2 l0_2.length c0_2, .int .i64 a0_3] 33 (0, 0)) (by (with_reducible repeat (first | refine z5 ?_ _ | refine y6 ?_ | refine y4 ?_ _)); exact BK124.out) hb); have n1_ := z2.mk (y8 (by repeat (first | (with_reducible first | exact HB.out | apply z4 | apply z1 | apply z3 | refine z7 ?_ GE124.out) | exact HB.out)) hb); clear BK124 HB; have BK124 := n0_; have HB := n1_; clear n0_ n1_; (try clear hb); (try clear hb2); (try clear hk); (try clear hi)))
   go_ret
   exact ⟨by first | rfl | (simp [ya, qa] <;> rfl) | (simp [*, ya, qa] <;> rfl), by repeat (first | (with_reducible first | exact HB.out | apply z4 | apply z1 | apply z3 | refine z7 ?_ GE124.out) | exact HB.out)⟩
 ·replace c2 := Bool.eq_false_iff.mpr c2
  subst c2
  have H1 : ((q05.f a0_1).bind fun t126 => (if t126 = true then ((yn.f a0_3 1 2).bind fun t127 => (yj.j0 k (!t127) false a0_1 l0_2 a0_3)) else (yj.j0 k true false a0_1 l0_2 a0_3))) = some r := by rw [if_neg (show ¬ (false = true) by decide)] at H; exact H
  clear H
  have H := H1
  clear H1
  have HC17 := z2.mk H
  clear H
  go_enter Try.func9, Try.ntmps9
  go_upto_region 8 with (first | ((with_reducible refine ye (N := 1) rfl ?_); refine ze ?hg (N := 1) ?hd (cs := #[.bool false, .int .i64 a0_1, .slice A0_2 l0_2.length c0_2, .int .i64 a0_3]) (t := 33) ?hr ?_; (case hd => rfl); (case hg => rfl); (case hr => first | (go_simp; done) | (go_simp; rfl)); intro gb124 hg w18 hbox hb; have n0_ := z2.mk (y8 (by repeat (first | (with_reducible first | exact HB.out | apply z4 | apply z1 | apply z3) | exact HB.out)) hb); have n1_ := z2.mk (hbox); have n2_ := z2.mk ((by rw [hg]; exact (z8 (by repeat (first | (with_reducible first | exact HB.out | apply z4 | apply z1 | apply z3) | exact HB.out))) : w.heap.size ≤ gb124)); have n3_ := z2.mk ((by rw [hg]; exact (z8 (by repeat (first | (with_reducible first | exact HB.out | apply z4 | apply z1 | apply z3) | exact HB.out))) : w.heap.size ≤ gb124)); clear HB; have HB := n0_; have BK124 := n1_; have GW124 := n2_; have GE124 := n3_; clear n0_ n1_ n2_ n3_ hb hbox hg; have hcz19_0 : w18.cell? ⟨gb124, 0, none⟩ = some (.bool false) := (z6 BK124.out 0).trans rfl; have hcz19_1 : w18.cell? ⟨gb124, 1, none⟩ = some (.int .i64 a0_1) := (z6 BK124.out 1).trans rfl; have hcz19_2 : w18.cell? ⟨gb124, 2, none⟩ = some (.slice A0_2 l0_2.length c0_2) := (z6 BK124.out 2).trans rfl; have hcz19_3 : w18.cell? ⟨gb124, 3, none⟩ = some (.int .i64 a0_3) := (z6 BK124.out 3).trans rfl; have hfz19_0 := y5 BK124.out 0; have hfz19_1 := y5 BK124.out 1; have hfz19_2 := y5 BK124.out 2; have hfz19_3 := y5 BK124.out 3))
  (try simp only [Act.put, List.setIfInBounds_toArray, List.set_cons_zero, List.set_cons_succ])
  go_cut [25] (fun v25 wc => ∃ (kq : Nat) (x25_16 : Bool), v25 = .bool x25_16 ∧ z2 (yj.j0 kq x25_16 false a0_1 l0_2 a0_3 = some r) ∧ z2 (kq ≤ k) ∧ z2 (wc.heap[gb124]? = some (.cells #[.bool false, .int .i64 a0_1, (.slice A0_2 l0_2.length c0_2), .int .i64 a0_3] 33 (0, 0))) ∧ z2 (Below w.heap.size w wc))
  case first =>
   have H := HC17.out
   clear HC17
   replace H := Option.bind_eq_some_iff.mp H
   obtain ⟨t126, A200, H⟩ := H
   replace H : (if t126 = true then ((yn.f a0_3 1 2).bind fun t127 => (yj.j0 k (!t127) false a0_1 l0_2 a0_3)) else (yj.j0 k true false a0_1 l0_2 a0_3)) = some r := H
   have A20 := z2.mk A200
   clear A200
   by_cases c21 : t126 = true
   ·subst c21
    have H1 : ((yn.f a0_3 1 2).bind fun t127 => (yj.j0 k (!t127) false a0_1 l0_2 a0_3)) = some r := by rw [if_pos rfl] at H; exact H
    clear H
    have H := H1
    clear H1
    replace H := Option.bind_eq_some_iff.mp H
    obtain ⟨t127, A220, H⟩ := H
    replace H : (yj.j0 k (!t127) false a0_1 l0_2 a0_3) = some r := H
    have A22 := z2.mk A220
    clear A220
    have H' := z2.mk H
    clear H
    have hcz23_0 : w18.cell? ⟨gb124, 0, none⟩ = some (.bool false) := (z6 BK124.out 0).trans rfl
    have hcz23_1 : w18.cell? ⟨gb124, 1, none⟩ = some (.int .i64 a0_1) := (z6 BK124.out 1).trans rfl
    have hcz23_2 : w18.cell? ⟨gb124, 2, none⟩ = some (.slice A0_2 l0_2.length c0_2) := (z6 BK124.out 2).trans rfl
    have hcz23_3 : w18.cell? ⟨gb124, 3, none⟩ = some (.int .i64 a0_3) := (z6 BK124.out 3).trans rfl
    have hfz23_0 := y5 BK124.out 0
    have hfz23_1 := y5 BK124.out 1
    have hfz23_2 := y5 BK124.out 2
    have hfz23_3 := y5 BK124.out 3
    go_wp2_with (first | ((with_reducible refine qb (f := 47) rfl ?_); refine zm (some 18) rfl rfl Try.func47 (by kernel_rfl) rfl #[.int .i64 a0_1] rfl (by (try simp only [List.map_toArray, List.map_cons, List.map_nil]); first | done | rfl | (simp only [List.length_drop, List.length_take]; rfl)) ?_; (with_reducible refine (q05.calls a0_1 true _ A20.out).mono ?_); rintro e w' ⟨rfl, ⟨nd, rfl⟩⟩; refine ⟨_, rfl, ?_⟩) | (go_at_call 48; (with_reducible refine (yn.calls a0_3 1 2 t127 _ A22.out).mono ?_); rintro e w' ⟨rfl, ⟨nd, rfl⟩⟩))
    go_meet
    case rel => exact ⟨_, (!t127), (by first | rfl | (simp; done) | (simp [*]; done)), H', ⟨by first | omega | exact Nat.le_refl _⟩, ⟨by (with_reducible repeat (first | refine z5 ?_ _ | refine y6 ?_ | refine y4 ?_ _)); exact BK124.out⟩, ⟨by repeat (first | (with_reducible first | exact HB.out | apply z4 | apply z1 | apply z3 | refine z7 ?_ GE124.out) | exact HB.out)⟩⟩
   ·replace c21 := Bool.eq_false_iff.mpr c21
    subst c21
    have H1 : (yj.j0 k true false a0_1 l0_2 a0_3) = some r := by rw [if_neg (show ¬ (false = true) by decide)] at H; exact H
    clear H
    have H := H1
    clear H1
    have H' := z2.mk H
    clear H
    have hcz24_0 : w18.cell? ⟨gb124, 0, none⟩ = some (.bool false) := (z6 BK124.out 0).trans rfl
    have hcz24_1 : w18.cell? ⟨gb124, 1, none⟩ = some (.int .i64 a0_1) := (z6 BK124.out 1).trans rfl
    have hcz24_2 : w18.cell? ⟨gb124, 2, none⟩ = some (.slice A0_2 l0_2.length c0_2) := (z6 BK124.out 2).trans rfl
    have hcz24_3 : w18.cell? ⟨gb124, 3, none⟩ = some (.int .i64 a0_3) := (z6 BK124.out 3).trans rfl
    have hfz24_0 := y5 BK124.out 0
    have hfz24_1 := y5 BK124.out 1
    have hfz24_2 := y5 BK124.out 2
    have hfz24_3 := y5 BK124.out 3
    go_wp2_with (first | ((with_reducible refine qb (f := 47) rfl ?_); refine zm (some 18) rfl rfl Try.func47 (by kernel_rfl) rfl #[.int .i64 a0_1] rfl (by (try simp only [List.map_toArray, List.map_cons, List.map_nil]); first | done | rfl | (simp only [List.length_drop, List.length_take]; rfl)) ?_; (with_reducible refine (q05.calls a0_1 false _ A20.out).mono ?_); rintro e w' ⟨rfl, ⟨nd, rfl⟩⟩; refine ⟨_, rfl, ?_⟩))
    go_meet
    case rel => exact ⟨_, (true), (by first | rfl | (simp; done) | (simp [*]; done)), H', ⟨by first | omega | exact Nat.le_refl _⟩, ⟨by (with_reducible repeat (first | refine z5 ?_ _ | refine y6 ?_ | refine y4 ?_ _)); exact BK124.out⟩, ⟨by repeat (first | (with_reducible first | exact HB.out | apply z4 | apply z1 | apply z3 | refine z7 ?_ GE124.out) | exact HB.out)⟩⟩
  case rest =>
   clear HC17
   try clear c2
   try clear p2
   try clear c4
   try clear c4b0
   try clear c4b1
   try clear c5
   try clear c5b0
   try clear c5b1
   try clear c9
   try clear c21
   try clear hcz11_0
   try clear hcz11_1
   try clear hcz11_2
   try clear hcz11_3
   try clear hcz13_0
   try clear hcz13_1
   try clear hcz13_2
   try clear hcz13_3
   try clear hcz15_0
   try clear hcz15_1
   try clear hcz15_2
   try clear hcz15_3
   try clear hcz19_0
   try clear hcz19_1
   try clear hcz19_2
   try clear hcz19_3
   try clear hcz23_0
   try clear hcz23_1
   try clear hcz23_2
   try clear hcz23_3
   try clear hcz24_0
   try clear hcz24_1
   try clear hcz24_2
   try clear hcz24_3
   try clear hcz7_0
   try clear hcz7_1
   try clear hcz7_2
   try clear hcz7_3
   try clear hcz9_0
   try clear hcz9_1
   try clear hcz9_2
   try clear hcz9_3
   try clear hfz11_0
   try clear hfz11_1
   try clear hfz11_2
   try clear hfz11_3
   try clear hfz13_0
   try clear hfz13_1
   try clear hfz13_2
   try clear hfz13_3
   try clear hfz15_0
   try clear hfz15_1
   try clear hfz15_2
   try clear hfz15_3
   try clear hfz19_0
   try clear hfz19_1
   try clear hfz19_2
   try clear hfz19_3
   try clear hfz23_0
   try clear hfz23_1
   try clear hfz23_2
   try clear hfz23_3
   try clear hfz24_0
   try clear hfz24_1
   try clear hfz24_2
   try clear hfz24_3
   try clear hfz7_0
   try clear hfz7_1
   try clear hfz7_2
   try clear hfz7_3
   try clear hfz9_0
   try clear hfz9_1
   try clear hfz9_2
   try clear hfz9_3
   obtain ⟨kq, x25_16, rfl, HA, HJ16, BK124, HB⟩ := hcut
   cases kq with
   | zero => exact absurd HA.out (by simp [yj.j0])
   | succ kj16 =>
    have H := HA.out
    clear HA
    simp only [yj.j0] at H
    by_cases c25 : x25_16 = true
    ·subst c25
     have H1 : (some 3) = some r := by rw [if_pos rfl] at H; exact H
     clear H
     have H := H1
     clear H1
     obtain rfl := Option.some.inj H
     go_wp2
     go_ret
     exact ⟨by first | rfl | (simp [ya, qa] <;> rfl) | (simp [*, ya, qa] <;> rfl), by repeat (first | (with_reducible first | exact HB.out | apply z4 | apply z1 | apply z3 | refine z7 ?_ GE124.out) | exact HB.out)⟩
    ·replace c25 := Bool.eq_false_iff.mpr c25
     subst c25
     have H1 : (if (l0_2.length : Int) > 0 then (some 1) else (some 0)) = some r := by rw [if_neg (show ¬ (false = true) by decide)] at H; exact H
     clear H
     have H := H1
     clear H1
     by_cases c26 : (l0_2.length : Int) > 0
     ·rw [if_pos c26] at H
      have c26b0 : decide (0 < (l0_2.length : Int)) = true := decide_eq_true c26
      have c26b1 : decide (0 < l0_2.length) = true := decide_eq_true (by omega)
      clear c26
      obtain rfl := Option.some.inj H
      have hcz27_0 : wc.cell? ⟨gb124, 0, none⟩ = some (.bool false) := (z6 BK124.out 0).trans rfl
      have hcz27_1 : wc.cell? ⟨gb124, 1, none⟩ = some (.int .i64 a0_1) := (z6 BK124.out 1).trans rfl
      have hcz27_2 : wc.cell? ⟨gb124, 2, none⟩ = some (.slice A0_2 l0_2.length c0_2) := (z6 BK124.out 2).trans rfl
      have hcz27_3 : wc.cell? ⟨gb124, 3, none⟩ = some (.int .i64 a0_3) := (z6 BK124.out 3).trans rfl
      have hfz27_0 := y5 BK124.out 0
      have hfz27_1 := y5 BK124.out 1
      have hfz27_2 := y5 BK124.out 2
      have hfz27_3 := y5 BK124.out 3
      go_wp2
      go_ret
      exact ⟨by first | rfl | (simp [ya, qa] <;> rfl) | (simp [*, ya, qa] <;> rfl), by repeat (first | (with_reducible first | exact HB.out | apply z4 | apply z1 | apply z3 | refine z7 ?_ GE124.out) | exact HB.out)⟩
     ·rw [if_neg c26] at H
      have c26b0 : decide (0 < (l0_2.length : Int)) = false := decide_eq_false c26
      have c26b1 : decide (0 < l0_2.length) = false := decide_eq_false (by omega)
      clear c26
      obtain rfl := Option.some.inj H
      have hcz28_0 : wc.cell? ⟨gb124, 0, none⟩ = some (.bool false) := (z6 BK124.out 0).trans rfl
      have hcz28_1 : wc.cell? ⟨gb124, 1, none⟩ = some (.int .i64 a0_1) := (z6 BK124.out 1).trans rfl
      have hcz28_2 : wc.cell? ⟨gb124, 2, none⟩ = some (.slice A0_2 l0_2.length c0_2) := (z6 BK124.out 2).trans rfl
      have hcz28_3 : wc.cell? ⟨gb124, 3, none⟩ = some (.int .i64 a0_3) := (z6 BK124.out 3).trans rfl
      have hfz28_0 := y5 BK124.out 0
      have hfz28_1 := y5 BK124.out 1
      have hfz28_2 := y5 BK124.out 2
      have hfz28_3 := y5 BK124.out 3
      go_wp2
      go_ret
      exact ⟨by first | rfl | (simp [ya, qa] <;> rfl) | (simp [*, ya, qa] <;> rfl), by repeat (first | (with_reducible first | exact HB.out | apply z4 | apply z1 | apply z3 | refine z7 ?_ GE124.out) | exact HB.out)⟩
end Go.Proofs.Ytkeojolmapcgbaa.PEv
end
section
namespace Go.Proofs.Ytkeojolmapcgbaa.PEv
open Go.RowKit Go.Proofs.YtkeojolmapcgbaaW.PrintWords Go.Proofs.YtkeojolmapcgbaaW.PrintLast Go.Proofs.YtkeojolmapcgbaaW.PrintMore
set_option linter.unusedVariables false
set_option linter.unusedSimpArgs false
def yq.f (a0 : Int) (a1 : Int) (a2 : Int) : Option (Bool) := if a0 ≥ a1 then (some (decide (a0 ≤ a2))) else (some false)
set_option maxHeartbeats 8000000 in
set_option maxRecDepth 100000 in
theorem yq.calls (a0 : Int) (a1 : Int) (a2 : Int) (r : Bool) (w : World) (h : yq.f a0 a1 a2 = some r) :
  Calls Try.prog 95 #[.int .i64 a0, .int .i64 a1, .int .i64 a2] w fun e w' => e = .returned (.bool r) ∧ zq w w' := by
 have H : (if a0 ≥ a1 then (some (decide (a0 ≤ a2))) else (some false)) = some r := h
 clear h
 by_cases c4 : a0 ≥ a1
 ·rw [if_pos c4] at H
  have c4b0 : decide (a1 ≤ a0) = true := decide_eq_true c4
  clear c4
  obtain rfl := Option.some.inj H
  go_enter Try.func95, Try.ntmps95
  go_wp2
  go_ret
  exact ⟨by first | rfl | (simp; done) | (simp [*]; done), by repeat (first | exact zq.refl _ | apply zq.step)⟩
 ·rw [if_neg c4] at H
  have c4b0 : decide (a1 ≤ a0) = false := decide_eq_false c4
  clear c4
  obtain rfl := Option.some.inj H
  go_enter Try.func95, Try.ntmps95
  go_wp2
  go_ret
  exact ⟨by first | rfl | (simp; done) | (simp [*]; done), by repeat (first | exact zq.refl _ | apply zq.step)⟩
def z08.f (a0 : Int) : Option (Bool) := (yq.f a0 1 1000000000).bind fun t153 => (some t153)
set_option maxHeartbeats 8000000 in
set_option maxRecDepth 100000 in
theorem z08.calls (a0 : Int) (r : Bool) (w : World) (h : z08.f a0 = some r) :
  Calls Try.prog 51 #[.int .i64 a0] w fun e w' => e = .returned (.bool r) ∧ zq w w' := by
 have H : ((yq.f a0 1 1000000000).bind fun t153 => (some t153)) = some r := h
 clear h
 replace H := Option.bind_eq_some_iff.mp H
 obtain ⟨t153, A20, H⟩ := H
 replace H : (some t153) = some r := H
 have A2 := z2.mk A20
 clear A20
 obtain rfl := Option.some.inj H
 go_enter Try.func51, Try.ntmps51
 go_wp2_with (first | ((with_reducible refine qb (f := 95) rfl ?_); refine zm (some 4) rfl rfl Try.func95 (by kernel_rfl) rfl #[.int .i64 a0, .int .i64 1, .int .i64 1000000000] rfl (by (try simp only [List.map_toArray, List.map_cons, List.map_nil]); first | done | rfl | (simp only [List.length_drop, List.length_take]; rfl)) ?_; (with_reducible refine (yq.calls a0 1 1000000000 t153 _ A2.out).mono ?_); rintro e w' ⟨rfl, ⟨nd, rfl⟩⟩; refine ⟨_, rfl, ?_⟩))
 go_ret
 exact ⟨by first | rfl | (simp; done) | (simp [*]; done), by repeat (first | exact zq.refl _ | apply zq.step)⟩
def q0g.f (l0 : List (yl)) : Option (Int) := some (l0.length : Int)
set_option maxHeartbeats 8000000 in
set_option maxRecDepth 100000 in
theorem q0g.calls (A0 : Option Addr) (c0 : Nat) (l0 : List (yl)) (r : Int) (w : World) (hr0 : Kd.C y08 w A0 l0.length l0) (hc0 : l0.length ≤ c0) (h : q0g.f l0 = some r) :
  Calls Try.prog 96 #[.slice A0 l0.length c0] w fun e w' => e = .returned (.int .i64 r) ∧ zq w w' := by
 have HR0 := z2.mk hr0
 have HC0 := z2.mk hc0
 clear hr0 hc0
 have H : (some (l0.length : Int)) = some r := h
 clear h
 obtain rfl := Option.some.inj H
 go_enter Try.func96, Try.ntmps96
 go_wp2
 go_ret
 exact ⟨by first | rfl | (simp; done) | (simp [*]; done), by repeat (first | exact zq.refl _ | apply zq.step)⟩
def y06.f (a0 : Int) : Option (Bool) := (yq.f a0 0 2).bind fun t154 => (some t154)
set_option maxHeartbeats 8000000 in
set_option maxRecDepth 100000 in
theorem y06.calls (a0 : Int) (r : Bool) (w : World) (h : y06.f a0 = some r) :
  Calls Try.prog 149 #[.int .i64 a0] w fun e w' => e = .returned (.bool r) ∧ zq w w' := by
 have H : ((yq.f a0 0 2).bind fun t154 => (some t154)) = some r := h
 clear h
 replace H := Option.bind_eq_some_iff.mp H
 obtain ⟨t154, A20, H⟩ := H
 replace H : (some t154) = some r := H
 have A2 := z2.mk A20
 clear A20
 obtain rfl := Option.some.inj H
 go_enter Try.func149, Try.ntmps149
 go_wp2_with (first | ((with_reducible refine qb (f := 95) rfl ?_); refine zm (some 4) rfl rfl Try.func95 (by kernel_rfl) rfl #[.int .i64 a0, .int .i64 0, .int .i64 2] rfl (by (try simp only [List.map_toArray, List.map_cons, List.map_nil]); first | done | rfl | (simp only [List.length_drop, List.length_take]; rfl)) ?_; (with_reducible refine (yq.calls a0 0 2 t154 _ A2.out).mono ?_); rintro e w' ⟨rfl, ⟨nd, rfl⟩⟩; refine ⟨_, rfl, ?_⟩))
 go_ret
 exact ⟨by first | rfl | (simp; done) | (simp [*]; done), by repeat (first | exact zq.refl _ | apply zq.step)⟩
def z06.f (a0 : Int) : Option (Bool) := (yq.f a0 0 2).bind fun t155 => (some t155)
set_option maxHeartbeats 8000000 in
set_option maxRecDepth 100000 in
theorem z06.calls (a0 : Int) (r : Bool) (w : World) (h : z06.f a0 = some r) :
  Calls Try.prog 173 #[.int .i64 a0] w fun e w' => e = .returned (.bool r) ∧ zq w w' := by
 have H : ((yq.f a0 0 2).bind fun t155 => (some t155)) = some r := h
 clear h
 replace H := Option.bind_eq_some_iff.mp H
 obtain ⟨t155, A20, H⟩ := H
 replace H : (some t155) = some r := H
 have A2 := z2.mk A20
 clear A20
 obtain rfl := Option.some.inj H
 go_enter Try.func173, Try.ntmps173
 go_wp2_with (first | ((with_reducible refine qb (f := 95) rfl ?_); refine zm (some 4) rfl rfl Try.func95 (by kernel_rfl) rfl #[.int .i64 a0, .int .i64 0, .int .i64 2] rfl (by (try simp only [List.map_toArray, List.map_cons, List.map_nil]); first | done | rfl | (simp only [List.length_drop, List.length_take]; rfl)) ?_; (with_reducible refine (yq.calls a0 0 2 t155 _ A2.out).mono ?_); rintro e w' ⟨rfl, ⟨nd, rfl⟩⟩; refine ⟨_, rfl, ?_⟩))
 go_ret
 exact ⟨by first | rfl | (simp; done) | (simp [*]; done), by repeat (first | exact zq.refl _ | apply zq.step)⟩
def y03.f (a0 : Int) (a1 : Int) : Option (Bool) := (yq.f a0 0 5).bind fun t156 => (if t156 = true then ((z06.f a1).bind fun t157 => (some t157)) else (some false))
set_option maxHeartbeats 8000000 in
set_option maxRecDepth 100000 in
theorem y03.calls (a0 : Int) (a1 : Int) (r : Bool) (w : World) (h : y03.f a0 a1 = some r) :
  Calls Try.prog 150 #[.int .i64 a0, .int .i64 a1] w fun e w' => e = .returned (.bool r) ∧ zq w w' := by
 have H : ((yq.f a0 0 5).bind fun t156 => (if t156 = true then ((z06.f a1).bind fun t157 => (some t157)) else (some false))) = some r := h
 clear h
 replace H := Option.bind_eq_some_iff.mp H
 obtain ⟨t156, A30, H⟩ := H
 replace H : (if t156 = true then ((z06.f a1).bind fun t157 => (some t157)) else (some false)) = some r := H
 have A3 := z2.mk A30
 clear A30
 by_cases c4 : t156 = true
 ·subst c4
  have H1 : ((z06.f a1).bind fun t157 => (some t157)) = some r := by rw [if_pos rfl] at H; exact H
  clear H
  have H := H1
  clear H1
  replace H := Option.bind_eq_some_iff.mp H
  obtain ⟨t157, A50, H⟩ := H
  replace H : (some t157) = some r := H
  have A5 := z2.mk A50
  clear A50
  obtain rfl := Option.some.inj H
  go_enter Try.func150, Try.ntmps150
  go_wp2_with (first | ((with_reducible refine qb (f := 95) rfl ?_); refine zm (some 6) rfl rfl Try.func95 (by kernel_rfl) rfl #[.int .i64 a0, .int .i64 0, .int .i64 5] rfl (by (try simp only [List.map_toArray, List.map_cons, List.map_nil]); first | done | rfl | (simp only [List.length_drop, List.length_take]; rfl)) ?_; (with_reducible refine (yq.calls a0 0 5 true _ A3.out).mono ?_); rintro e w' ⟨rfl, ⟨nd, rfl⟩⟩; refine ⟨_, rfl, ?_⟩) | (go_at_call 173; (with_reducible refine (z06.calls a1 t157 _ A5.out).mono ?_); rintro e w' ⟨rfl, ⟨nd, rfl⟩⟩))
  go_ret
  exact ⟨by first | rfl | (simp; done) | (simp [*]; done), by repeat (first | exact zq.refl _ | apply zq.step)⟩
 ·replace c4 := Bool.eq_false_iff.mpr c4
  subst c4
  have H1 : (some false) = some r := by rw [if_neg (show ¬ (false = true) by decide)] at H; exact H
  clear H
  have H := H1
  clear H1
  obtain rfl := Option.some.inj H
  go_enter Try.func150, Try.ntmps150
  go_wp2_with (first | ((with_reducible refine qb (f := 95) rfl ?_); refine zm (some 6) rfl rfl Try.func95 (by kernel_rfl) rfl #[.int .i64 a0, .int .i64 0, .int .i64 5] rfl (by (try simp only [List.map_toArray, List.map_cons, List.map_nil]); first | done | rfl | (simp only [List.length_drop, List.length_take]; rfl)) ?_; (with_reducible refine (yq.calls a0 0 5 false _ A3.out).mono ?_); rintro e w' ⟨rfl, ⟨nd, rfl⟩⟩; refine ⟨_, rfl, ?_⟩))
  go_ret
  exact ⟨by first | rfl | (simp; done) | (simp [*]; done), by repeat (first | exact zq.refl _ | apply zq.step)⟩
end Go.Proofs.Ytkeojolmapcgbaa.PEv
end
section
namespace Go.Proofs.Ytkeojolmapcgbaa.PEv
open Go.RowKit Go.Proofs.YtkeojolmapcgbaaW.PrintWords Go.Proofs.YtkeojolmapcgbaaW.PrintLast Go.Proofs.YtkeojolmapcgbaaW.PrintMore
set_option linter.unusedVariables false
set_option linter.unusedSimpArgs false
def qm.j0 : Nat → Bool → Int → Int → Int → Int → Option (Int)
 | 0, _, _, _, _, _ => none
 | k + 1, x3, x159000, x159001, x159002, x159003 => if x3 = true then (some 3) else (if x159003 = 0 then (some 1) else (some 0))
def qm.f (k : Nat) (a0_0 : Int) (a0_1 : Int) (a0_2 : Int) (a0_3 : Int) : Option (Int) := (y06.f a0_0).bind fun t159 => (if t159 = true then ((y03.f a0_1 a0_2).bind fun t160 => (if t160 = true then ((yq.f a0_3 (-1000000000000) 1000000000000).bind fun t161 => (qm.j0 k (!t161) a0_0 a0_1 a0_2 a0_3)) else (qm.j0 k true a0_0 a0_1 a0_2 a0_3))) else (qm.j0 k true a0_0 a0_1 a0_2 a0_3))
set_option maxHeartbeats 8000000 in
set_option maxRecDepth 100000 in
theorem qm.calls (k : Nat) (a0_0 : Int) (a0_1 : Int) (a0_2 : Int) (a0_3 : Int) (r : Int) (w : World) (h : qm.f k a0_0 a0_1 a0_2 a0_3 = some r) :
  Calls Try.prog 97 #[.agg #[.int .i64 a0_0, .int .i64 a0_1, .int .i64 a0_2, .int .i64 a0_3]] w fun e w' => e = .returned (.int .i64 r) ∧ Below w.heap.size w w' := by
 have hu138 := Try.underlying138
 have HB := z2.mk (Below.refl w.heap.size w)
 have H : ((y06.f a0_0).bind fun t159 => (if t159 = true then ((y03.f a0_1 a0_2).bind fun t160 => (if t160 = true then ((yq.f a0_3 (-1000000000000) 1000000000000).bind fun t161 => (qm.j0 k (!t161) a0_0 a0_1 a0_2 a0_3)) else (qm.j0 k true a0_0 a0_1 a0_2 a0_3))) else (qm.j0 k true a0_0 a0_1 a0_2 a0_3))) = some r := h
 clear h
 have HC2 := z2.mk H
 clear H
 go_enter Try.func97, Try.ntmps97
 go_upto_region 1 with (first | ((with_reducible refine ye (N := 1) rfl ?_); refine ze ?hg (N := 1) ?hd (cs := #[.int .i64 a0_0, .int .i64 a0_1, .int .i64 a0_2, .int .i64 a0_3]) (t := 138) ?hr ?_; (case hd => rfl); (case hg => rfl); (case hr => first | (go_simp; done) | (go_simp; rfl)); intro gb158 hg w3 hbox hb; have n0_ := z2.mk (y8 (by repeat (first | (with_reducible first | exact HB.out | apply z4 | apply z1 | apply z3) | exact HB.out)) hb); have n1_ := z2.mk (hbox); have n2_ := z2.mk ((by rw [hg]; exact (z8 (by repeat (first | (with_reducible first | exact HB.out | apply z4 | apply z1 | apply z3) | exact HB.out))) : w.heap.size ≤ gb158)); have n3_ := z2.mk ((by rw [hg]; exact (z8 (by repeat (first | (with_reducible first | exact HB.out | apply z4 | apply z1 | apply z3) | exact HB.out))) : w.heap.size ≤ gb158)); clear HB; have HB := n0_; have BK158 := n1_; have GW158 := n2_; have GE158 := n3_; clear n0_ n1_ n2_ n3_ hb hbox hg))
 (try simp only [Act.put, List.setIfInBounds_toArray, List.set_cons_zero, List.set_cons_succ])
 go_cut [3] (fun v3 wc => ∃ (kq : Nat) (x3_1 : Bool), v3 = .bool x3_1 ∧ z2 (qm.j0 kq x3_1 a0_0 a0_1 a0_2 a0_3 = some r) ∧ z2 (kq ≤ k) ∧ z2 (wc.heap[gb158]? = some (.cells #[.int .i64 a0_0, .int .i64 a0_1, .int .i64 a0_2, .int .i64 a0_3] 138 (0, 0))) ∧ z2 (Below w.heap.size w wc))
 case first =>
  have H := HC2.out
  clear HC2
  replace H := Option.bind_eq_some_iff.mp H
  obtain ⟨t159, A40, H⟩ := H
  replace H : (if t159 = true then ((y03.f a0_1 a0_2).bind fun t160 => (if t160 = true then ((yq.f a0_3 (-1000000000000) 1000000000000).bind fun t161 => (qm.j0 k (!t161) a0_0 a0_1 a0_2 a0_3)) else (qm.j0 k true a0_0 a0_1 a0_2 a0_3))) else (qm.j0 k true a0_0 a0_1 a0_2 a0_3)) = some r := H
  have A4 := z2.mk A40
  clear A40
  by_cases c5 : t159 = true
  ·subst c5
   have H1 : ((y03.f a0_1 a0_2).bind fun t160 => (if t160 = true then ((yq.f a0_3 (-1000000000000) 1000000000000).bind fun t161 => (qm.j0 k (!t161) a0_0 a0_1 a0_2 a0_3)) else (qm.j0 k true a0_0 a0_1 a0_2 a0_3))) = some r := by rw [if_pos rfl] at H; exact H
   clear H
   have H := H1
   clear H1
   replace H := Option.bind_eq_some_iff.mp H
   obtain ⟨t160, A60, H⟩ := H
   replace H : (if t160 = true then ((yq.f a0_3 (-1000000000000) 1000000000000).bind fun t161 => (qm.j0 k (!t161) a0_0 a0_1 a0_2 a0_3)) else (qm.j0 k true a0_0 a0_1 a0_2 a0_3)) = some r := H
   have A6 := z2.mk A60
   clear A60
   by_cases c7 : t160 = true
   ·subst c7
    have H1 : ((yq.f a0_3 (-1000000000000) 1000000000000).bind fun t161 => (qm.j0 k (!t161) a0_0 a0_1 a0_2 a0_3)) = some r := by rw [if_pos rfl] at H; exact H
    clear H
    have H := H1
    clear H1
    replace H := Option.bind_eq_some_iff.mp H
    obtain ⟨t161, A80, H⟩ := H
    replace H : (qm.j0 k (!t161) a0_0 a0_1 a0_2 a0_3) = some r := H
    have A8 := z2.mk A80
    clear A80
    have H' := z2.mk H
    clear H
    have hcz9_0 : w3.cell? ⟨gb158, 0, none⟩ = some (.int .i64 a0_0) := (z6 BK158.out 0).trans rfl
    have hcz9_1 : w3.cell? ⟨gb158, 1, none⟩ = some (.int .i64 a0_1) := (z6 BK158.out 1).trans rfl
    have hcz9_2 : w3.cell? ⟨gb158, 2, none⟩ = some (.int .i64 a0_2) := (z6 BK158.out 2).trans rfl
    have hcz9_3 : w3.cell? ⟨gb158, 3, none⟩ = some (.int .i64 a0_3) := (z6 BK158.out 3).trans rfl
    have hfz9_0 := y5 BK158.out 0
    have hfz9_1 := y5 BK158.out 1
    have hfz9_2 := y5 BK158.out 2
    have hfz9_3 := y5 BK158.out 3
    go_wp2_with (first | ((with_reducible refine qb (f := 149) rfl ?_); refine zm (some 6) rfl rfl Try.func149 (by kernel_rfl) rfl #[.int .i64 a0_0] rfl (by (try simp only [List.map_toArray, List.map_cons, List.map_nil]); first | done | rfl | (simp only [List.length_drop, List.length_take]; rfl)) ?_; (with_reducible refine (y06.calls a0_0 true _ A4.out).mono ?_); rintro e w' ⟨rfl, ⟨nd, rfl⟩⟩; refine ⟨_, rfl, ?_⟩) | (go_at_call 150; (with_reducible refine (y03.calls a0_1 a0_2 true _ A6.out).mono ?_); rintro e w' ⟨rfl, ⟨nd, rfl⟩⟩) | (go_at_call 95; (with_reducible refine (yq.calls a0_3 (-1000000000000) 1000000000000 t161 _ A8.out).mono ?_); rintro e w' ⟨rfl, ⟨nd, rfl⟩⟩))
    go_meet
    case rel => exact ⟨_, (!t161), (by first | rfl | (simp; done) | (simp [*]; done)), H', ⟨by first | omega | exact Nat.le_refl _⟩, ⟨by (with_reducible repeat (first | refine z5 ?_ _ | refine y6 ?_ | refine y4 ?_ _)); exact BK158.out⟩, ⟨by repeat (first | (with_reducible first | exact HB.out | apply z4 | apply z1 | apply z3 | refine z7 ?_ GE158.out) | exact HB.out)⟩⟩
   ·replace c7 := Bool.eq_false_iff.mpr c7
    subst c7
    have H1 : (qm.j0 k true a0_0 a0_1 a0_2 a0_3) = some r := by rw [if_neg (show ¬ (false = true) by decide)] at H; exact H
    clear H
    have H := H1
    clear H1
    have H' := z2.mk H
    clear H
    have hcz10_0 : w3.cell? ⟨gb158, 0, none⟩ = some (.int .i64 a0_0) := (z6 BK158.out 0).trans rfl
    have hcz10_1 : w3.cell? ⟨gb158, 1, none⟩ = some (.int .i64 a0_1) := (z6 BK158.out 1).trans rfl
    have hcz10_2 : w3.cell? ⟨gb158, 2, none⟩ = some (.int .i64 a0_2) := (z6 BK158.out 2).trans rfl
    have hcz10_3 : w3.cell? ⟨gb158, 3, none⟩ = some (.int .i64 a0_3) := (z6 BK158.out 3).trans rfl
    have hfz10_0 := y5 BK158.out 0
    have hfz10_1 := y5 BK158.out 1
    have hfz10_2 := y5 BK158.out 2
    have hfz10_3 := y5 BK158.out 3
    go_wp2_with (first | ((with_reducible refine qb (f := 149) rfl ?_); refine zm (some 6) rfl rfl Try.func149 (by kernel_rfl) rfl #[.int .i64 a0_0] rfl (by (try simp only [List.map_toArray, List.map_cons, List.map_nil]); first | done | rfl | (simp only [List.length_drop, List.length_take]; rfl)) ?_; (with_reducible refine (y06.calls a0_0 true _ A4.out).mono ?_); rintro e w' ⟨rfl, ⟨nd, rfl⟩⟩; refine ⟨_, rfl, ?_⟩) | (go_at_call 150; (with_reducible refine (y03.calls a0_1 a0_2 false _ A6.out).mono ?_); rintro e w' ⟨rfl, ⟨nd, rfl⟩⟩))
    go_meet
    case rel => exact ⟨_, (true), (by first | rfl | (simp; done) | (simp [*]; done)), H', ⟨by first | omega | exact Nat.le_refl _⟩, ⟨by (with_reducible repeat (first | refine z5 ?_ _ | refine y6 ?_ | refine y4 ?_ _)); exact BK158.out⟩, ⟨by repeat (first | (with_reducible first | exact HB.out | apply z4 | apply z1 | apply z3 | refine z7 ?_ GE158.out) | exact HB.out)⟩⟩
  ·replace c5 := Bool.eq_false_iff.mpr c5
   subst c5
   have H1 : (qm.j0 k true a0_0 a0_1 a0_2 a0_3) = some r := by rw [if_neg (show ¬ (false = true) by decide)] at H; exact H
   clear H
   have H := H1
   clear H1
   have H' := z2.mk H
   clear H
   have hcz11_0 : w3.cell? ⟨gb158, 0, none⟩ = some (.int .i64 a0_0) := (z6 BK158.out 0).trans rfl
   have hcz11_1 : w3.cell? ⟨gb158, 1, none⟩ = some (.int .i64 a0_1) := (z6 BK158.out 1).trans rfl
   have hcz11_2 : w3.cell? ⟨gb158, 2, none⟩ = some (.int .i64 a0_2) := (z6 BK158.out 2).trans rfl
   have hcz11_3 : w3.cell? ⟨gb158, 3, none⟩ = some (.int .i64 a0_3) := (z6 BK158.out 3).trans rfl
   have hfz11_0 := y5 BK158.out 0
   have hfz11_1 := y5 BK158.out 1
   have hfz11_2 := y5 BK158.out 2
   have hfz11_3 := y5 BK158.out 3
   go_wp2_with (first | ((with_reducible refine qb (f := 149) rfl ?_); refine zm (some 6) rfl rfl Try.func149 (by kernel_rfl) rfl #[.int .i64 a0_0] rfl (by (try simp only [List.map_toArray, List.map_cons, List.map_nil]); first | done | rfl | (simp only [List.length_drop, List.length_take]; rfl)) ?_; (with_reducible refine (y06.calls a0_0 false _ A4.out).mono ?_); rintro e w' ⟨rfl, ⟨nd, rfl⟩⟩; refine ⟨_, rfl, ?_⟩))
   go_meet
   case rel => exact ⟨_, (true), (by first | rfl | (simp; done) | (simp [*]; done)), H', ⟨by first | omega | exact Nat.le_refl _⟩, ⟨by (with_reducible repeat (first | refine z5 ?_ _ | refine y6 ?_ | refine y4 ?_ _)); exact BK158.out⟩, ⟨by repeat (first | (with_reducible first | exact HB.out | apply z4 | apply z1 | apply z3 | refine z7 ?_ GE158.out) | exact HB.out)⟩⟩
 case rest =>
  clear HC2
  try clear c1
  try clear p2
  try clear c5
  try clear c7
  try clear c9
  try clear hcz10_0
  try clear hcz10_1
  try clear hcz10_2
  try clear hcz10_3
  try clear hcz11_0
  try clear hcz11_1
  try clear hcz11_2
  try clear hcz11_3
  try clear hcz9_0
  try clear hcz9_1
  try clear hcz9_2
  try clear hcz9_3
  try clear hfz10_0
  try clear hfz10_1
  try clear hfz10_2
  try clear hfz10_3
  try clear hfz11_0
  try clear hfz11_1
  try clear hfz11_2
  try clear hfz11_3
  try clear hfz9_0
  try clear hfz9_1
  try clear hfz9_2
  try clear hfz9_3
  obtain ⟨kq, x3_1, rfl, HA, HJ1, BK158, HB⟩ := hcut
  cases kq with
  | zero => exact absurd HA.out (by simp [qm.j0])
  | succ kj1 =>
   have H := HA.out
   clear HA
   simp only [qm.j0] at H
   by_cases c12 : x3_1 = true
   ·subst c12
    have H1 : (some 3) = some r := by rw [if_pos rfl] at H; exact H
    clear H
    have H := H1
    clear H1
    obtain rfl := Option.some.inj H
    go_wp2
    go_ret
    exact ⟨by first | rfl | (simp [ya, qa] <;> rfl) | (simp [*, ya, qa] <;> rfl), by repeat (first | (with_reducible first | exact HB.out | apply z4 | apply z1 | apply z3 | refine z7 ?_ GE158.out) | exact HB.out)⟩
   ·replace c12 := Bool.eq_false_iff.mpr c12
    subst c12
    have H1 : (if a0_3 = 0 then (some 1) else (some 0)) = some r := by rw [if_neg (show ¬ (false = true) by decide)] at H; exact H
    clear H
    have H := H1
    clear H1
    by_cases c13 : a0_3 = 0
    ·rw [if_pos c13] at H
     have c13b0 : (a0_3 == 0) = true := beq_iff_eq.mpr c13
     have c13b1 : (a0_3 != 0) = false := bne_eq_false_iff_eq.mpr c13
     clear c13
     obtain rfl := Option.some.inj H
     have hcz14_0 : wc.cell? ⟨gb158, 0, none⟩ = some (.int .i64 a0_0) := (z6 BK158.out 0).trans rfl
     have hcz14_1 : wc.cell? ⟨gb158, 1, none⟩ = some (.int .i64 a0_1) := (z6 BK158.out 1).trans rfl
     have hcz14_2 : wc.cell? ⟨gb158, 2, none⟩ = some (.int .i64 a0_2) := (z6 BK158.out 2).trans rfl
     have hcz14_3 : wc.cell? ⟨gb158, 3, none⟩ = some (.int .i64 a0_3) := (z6 BK158.out 3).trans rfl
     have hfz14_0 := y5 BK158.out 0
     have hfz14_1 := y5 BK158.out 1
     have hfz14_2 := y5 BK158.out 2
     have hfz14_3 := y5 BK158.out 3
     go_wp2
     go_ret
     exact ⟨by first | rfl | (simp [ya, qa] <;> rfl) | (simp [*, ya, qa] <;> rfl), by repeat (first | (with_reducible first | exact HB.out | apply z4 | apply z1 | apply z3 | refine z7 ?_ GE158.out) | exact HB.out)⟩
    ·rw [if_neg c13] at H
     have c13b0 : (a0_3 == 0) = false := beq_eq_false_iff_ne.mpr c13
     have c13b1 : (a0_3 != 0) = true := bne_iff_ne.mpr c13
     obtain rfl := Option.some.inj H
     have hcz15_0 : wc.cell? ⟨gb158, 0, none⟩ = some (.int .i64 a0_0) := (z6 BK158.out 0).trans rfl
     have hcz15_1 : wc.cell? ⟨gb158, 1, none⟩ = some (.int .i64 a0_1) := (z6 BK158.out 1).trans rfl
     have hcz15_2 : wc.cell? ⟨gb158, 2, none⟩ = some (.int .i64 a0_2) := (z6 BK158.out 2).trans rfl
     have hcz15_3 : wc.cell? ⟨gb158, 3, none⟩ = some (.int .i64 a0_3) := (z6 BK158.out 3).trans rfl
     have hfz15_0 := y5 BK158.out 0
     have hfz15_1 := y5 BK158.out 1
     have hfz15_2 := y5 BK158.out 2
     have hfz15_3 := y5 BK158.out 3
     go_wp2
     go_ret
     exact ⟨by first | rfl | (simp [ya, qa] <;> rfl) | (simp [*, ya, qa] <;> rfl), by repeat (first | (with_reducible first | exact HB.out | apply z4 | apply z1 | apply z3 | refine z7 ?_ GE158.out) | exact HB.out)⟩
end Go.Proofs.Ytkeojolmapcgbaa.PEv
end
section
namespace Go.Proofs.Ytkeojolmapcgbaa.PEv
open Go.RowKit Go.Proofs.YtkeojolmapcgbaaW.PrintWords Go.Proofs.YtkeojolmapcgbaaW.PrintLast Go.Proofs.YtkeojolmapcgbaaW.PrintMore
set_option linter.unusedVariables false
set_option linter.unusedSimpArgs false
section
open Go.Maps
def sameAt (x y : yl) : Bool := x.f0 == y.f0 && (x.f1 == y.f1 && x.f2 == y.f2)
def y0i (l : List yl) (y : yl) : Bool := l.any fun x => sameAt x y
set_option maxRecDepth 100000 in
theorem y1b (x y : yl) (w : World) :
  Calls Try.prog 100 #[.agg #[.int .i64 x.f0, .int .i64 x.f1, .int .i64 x.f2, .int .i64 x.f3], .agg #[.int .i64 y.f0, .int .i64 y.f1, .int .i64 y.f2, .int .i64 y.f3]] w fun e w' => e = .returned (.bool (sameAt x y)) ∧ Below w.heap.size w w' := by
 go_enter Try.func100, Try.ntmps100
 go_wp2
 all_goals go_ret
 all_goals exact ⟨by simp [sameAt, *], ((Below.refl _ _).alloc (Nat.le_refl _) _).alloc (by simp) _⟩
set_option maxRecDepth 100000 in
theorem y0v (x y : yl) (a : Addr) (w : World) (h0 : w.cell? a = some (.int .i64 y.f0)) (h1 : w.cell? ⟨a.block, a.off + 1, none⟩ = some (.int .i64 y.f1)) (h2 : w.cell? ⟨a.block, a.off + 2, none⟩ = some (.int .i64 y.f2)) (h3 : w.cell? ⟨a.block, a.off + 3, none⟩ = some (.int .i64 y.f3)) :
  Calls Try.prog 99 #[.agg #[.int .i64 x.f0, .int .i64 x.f1, .int .i64 x.f2, .int .i64 x.f3], .pointer (some a)] w fun e w' => e = .returned (.bool (sameAt x y)) ∧ Below w.heap.size w w' := by
 have hu138 := Try.underlying138
 have b : a.block < w.heap.size := World.block_lt_of_cell? w a h0
 have hb1 := (Below.refl w.heap.size w).alloc (Nat.le_refl _) (.cells #[.int .i64 x.f0, .int .i64 x.f1, .int .i64 x.f2, .int .i64 x.f3] 138)
 have g0 := (hb1.cell (p := a) b).trans h0
 have g1 := (hb1.cell (p := ⟨a.block, a.off + 1, none⟩) b).trans h1
 have g2 := (hb1.cell (p := ⟨a.block, a.off + 2, none⟩) b).trans h2
 have g3 := (hb1.cell (p := ⟨a.block, a.off + 3, none⟩) b).trans h3
 have HB := z2.mk hb1
 clear hb1
 clear h0 h1 h2 h3
 go_enter Try.func99, Try.ntmps99
 go_wp2_with fail
 refine (y1b x y _).mono ?_
 rintro e w' ⟨rfl, hb⟩
 go_wp2
 go_ret
 exact ⟨rfl, y8 HB.out hb⟩
def y1k (l : List yl) (y : yl) : Int := ((l.findIdx? fun x => sameAt x y).map Int.ofNat).getD (-1)
theorem q1q (l : List yl) (y : yl) (k : Nat) (hk : k < l.length) (h0 : ∀ j : Nat, j < k → sameAt (l.getD j q1h) y = false) (h1 : sameAt (l.getD k q1h) y = true) : y1k l y = (k : Int) := by
 have e : (l.findIdx? fun x => sameAt x y) = some k := by
  rw [List.findIdx?_eq_some_iff_getElem]
  refine ⟨hk, ?_, fun j hj => ?_⟩
  ·simpa [List.getD_eq_getElem?_getD, List.getElem?_eq_getElem hk] using h1
  ·have := h0 j hj
   simpa [List.getD_eq_getElem?_getD, List.getElem?_eq_getElem (show j < l.length by omega)] using this
 unfold y1k
 rw [e]
 rfl
theorem y1q (l : List yl) (y : yl) (h0 : ∀ j : Nat, j < l.length → sameAt (l.getD j q1h) y = false) : y1k l y = -1 := by
 have e : (l.findIdx? fun x => sameAt x y) = none := by
  rw [List.findIdx?_eq_none_iff]
  intro x hx
  obtain ⟨j, hj, rfl⟩ := List.getElem_of_mem hx
  have := h0 j hj
  simpa [List.getD_eq_getElem?_getD, List.getElem?_eq_getElem hj] using this
 unfold y1k
 rw [e]
 rfl
theorem y1z (l : List yl) (y : yl) : decide (0 ≤ y1k l y) = y0i l y := by
 unfold y1k y0i
 cases e : l.findIdx? fun x => sameAt x y with
 | none =>
  rw [List.findIdx?_eq_none_iff] at e
  rw [eq_comm, Bool.eq_iff_iff]
  simp
  intro x hx
  simpa using e x hx
 | some k =>
  rw [List.findIdx?_eq_some_iff_getElem] at e
  obtain ⟨hk, h1, _⟩ := e
  rw [eq_comm, Bool.eq_iff_iff]
  simp
  exact ⟨_, List.getElem_mem hk, h1⟩
set_option maxRecDepth 100000 in
theorem y1a (A : Option Addr) (c : Nat) (l : List yl) (y : yl) (a : Addr) (w : World) (hr : Kd.C y08 w A l.length l) (h0 : w.cell? a = some (.int .i64 y.f0)) (h1 : w.cell? ⟨a.block, a.off + 1, none⟩ = some (.int .i64 y.f1)) (h2 : w.cell? ⟨a.block, a.off + 2, none⟩ = some (.int .i64 y.f2)) (h3 : w.cell? ⟨a.block, a.off + 3, none⟩ = some (.int .i64 y.f3)) :
  Calls Try.prog 151 #[.slice A l.length c, .func (.func 99) #[] #[.pointer (some a)]] w fun e w' => e = .returned (.int .i64 (y1k l y)) ∧ Below w.heap.size w w' := by
 have HR := z2.mk hr
 have hmax : l.length ≤ 9223372036854775807 := Kd.y2r hr
 have H0 := z2.mk h0
 have H1 := z2.mk h1
 have H2 := z2.mk h2
 have H3 := z2.mk h3
 have hu138 := Try.underlying138
 clear hr h0 h1 h2 h3
 go_enter Try.func151, Try.ntmps151
 go_wp2
 go_loopw [8] (fun i wr => ∃ k : Nat, k ≤ l.length ∧ i = .int .i64 k ∧ z2 (∀ j : Nat, j < k → sameAt (l.getD j q1h) y = false) ∧ z2 (Below w.heap.size w wr)) (fun i _ => l.length - (intOf i).toNat)
 case atStart => exact ⟨0, Nat.zero_le _, rfl, ⟨fun j hj => by omega⟩, ⟨Below.refl _ _⟩⟩
 case round =>
  obtain ⟨k, hk, rfl, HF, HB⟩ := hrel
  by_cases hlt : k < l.length
  ·obtain ⟨ad, rfl, x0, x1, x2, x3⟩ := yz HR.out (k : Int) (by omega) (by omega)
   replace x0 := qv HB.out x0
   replace x1 := qv HB.out x1
   replace x2 := qv HB.out x2
   replace x3 := qv HB.out x3
   rw [Int.toNat_natCast] at x0 x1 x2 x3
   have y0 := qv HB.out H0.out
   have y1 := qv HB.out H1.out
   have y2 := qv HB.out H2.out
   have y3 := qv HB.out H3.out
   have C := z2.mk (y0v (y7 l (k : Int)) y a wr y0 y1 y2 y3)
   clear y0 y1 y2 y3
   have hrd : y7 l (k : Int) = l.getD k q1h := by unfold y7; rw [Int.toNat_natCast]
   have HRD := z2.mk hrd
   clear hrd
   cases hs : sameAt (y7 l (k : Int)) y with
   | true =>
    have HS := z2.mk hs
    go_wp2_with (go_at_call 99; refine C.out.mono ?_; rintro e w' ⟨rfl, hb⟩)
    go_ret
    exact ⟨by rw [q1q l y k hlt HF.out (by rw [← HRD.out]; exact HS.out)]; rfl, y8 HB.out hb⟩
   | false =>
    have HS := z2.mk hs
    go_wp2_with (go_at_call 99; refine C.out.mono ?_; rintro e w' ⟨rfl, hb⟩)
    go_roundw
    case rel =>
     refine ⟨k + 1, by omega, by go_num, ⟨fun j hj => ?_⟩, ⟨y8 HB.out hb⟩⟩
     by_cases e : j = k
     ·subst e; rw [← HRD.out]; exact HS.out
     ·exact HF.out j (by omega)
    case measure => simp [intOf]; omega
  ·go_wp2
   go_ret
   exact ⟨by rw [y1q l y (fun j hj => HF.out j (by omega))]; rfl, HB.out⟩
set_option maxRecDepth 100000 in
theorem z0y (A : Option Addr) (c : Nat) (l : List yl) (y : yl) (a : Addr) (w : World) (hr : Kd.C y08 w A l.length l) (h0 : w.cell? a = some (.int .i64 y.f0)) (h1 : w.cell? ⟨a.block, a.off + 1, none⟩ = some (.int .i64 y.f1)) (h2 : w.cell? ⟨a.block, a.off + 2, none⟩ = some (.int .i64 y.f2)) (h3 : w.cell? ⟨a.block, a.off + 3, none⟩ = some (.int .i64 y.f3)) :
  Calls Try.prog 98 #[.slice A l.length c, .func (.func 99) #[] #[.pointer (some a)]] w fun e w' => e = .returned (.bool (y0i l y)) ∧ Below w.heap.size w w' := by
 have C := z2.mk (y1a A c l y a w hr h0 h1 h2 h3)
 have E := z2.mk (y1z l y)
 clear hr h0 h1 h2 h3
 go_enter Try.func98, Try.ntmps98
 go_wp2_with (go_at_call 151; refine C.out.mono ?_; rintro e w' ⟨rfl, hb⟩)
 go_ret
 exact ⟨by rw [← E.out]; rfl, hb⟩
def z0i (x : yl) : Prop := -1000000000000 ≤ x.f3 ∧ x.f3 ≤ 1000000000000
def y0c (x : yl) : Prop := (0 ≤ x.f0 ∧ x.f0 ≤ 2) ∧ (0 ≤ x.f1 ∧ x.f1 ≤ 5) ∧ (0 ≤ x.f2 ∧ x.f2 ≤ 2)
instance (x : yl) : Decidable (z0i x) := by unfold z0i; infer_instance
instance (x : yl) : Decidable (y0c x) := by unfold y0c; infer_instance
def z09 (x : yl) : Int := if y0c x ∧ z0i x then (if x.f3 = 0 then 1 else 0) else 3
def y0u (l : List yl) (a : Int) : Int := (l.map fun x => if x.f2 = a then x.f3 else 0).sum
def scan : List yl → List yl → Int
 | done, [] => if done.any (fun x => y0u done x.f2 != 0) then 1 else 0
 | done, x :: rest => if z09 x = 0 then (if y0i done x then 7 else scan (done ++ [x]) rest) else z09 x
def cf (id : Int) (l : List yl) : Int := if 1 ≤ id ∧ id ≤ 1000000000 then (if 2 ≤ l.length ∧ l.length ≤ 8 then scan [] l else 2) else 3
theorem q0u {x : yl} (h : z09 x = 0) : y0c x ∧ z0i x ∧ x.f3 ≠ 0 := by
 unfold z09 at h
 split at h
 ·rename_i h1
  split at h
  ·omega
  ·rename_i h2
   exact ⟨h1.1, h1.2, h2⟩
 ·omega
theorem y0t (l : List yl) (x : yl) (a : Int) : y0u (l ++ [x]) a = y0u l a + if x.f2 = a then x.f3 else 0 := by
 simp [y0u]
theorem q24 (l : List yl) (a : Int) (h : ∀ x ∈ l, z0i x) : -1000000000000 * (l.length : Int) ≤ y0u l a ∧ y0u l a ≤ 1000000000000 * (l.length : Int) := by
 induction l with
 | nil => simp [y0u]
 | cons x l ih =>
  have h1 := ih (fun y hy => h y (List.mem_cons_of_mem _ hy))
  have h2 := h x List.mem_cons_self
  unfold z0i at h2
  have e : y0u (x :: l) a = (if x.f2 = a then x.f3 else 0) + y0u l a := by simp [y0u]
  rw [e, List.length_cons]
  split <;> omega
theorem z1h (l : List yl) (a : Int) (h : ∀ x ∈ l, x.f2 ≠ a) : y0u l a = 0 := by
 induction l with
 | nil => rfl
 | cons x l ih =>
  have e : y0u (x :: l) a = (if x.f2 = a then x.f3 else 0) + y0u l a := by simp [y0u]
  rw [e, if_neg (h x List.mem_cons_self), ih (fun y hy => h y (List.mem_cons_of_mem _ hy))]
  rfl
theorem z1r (x : yl) : qm.f 1 x.f0 x.f1 x.f2 x.f3 = some (z09 x) := by
 unfold qm.f y06.f y03.f z06.f yq.f z09 y0c z0i
 by_cases h0 : 0 ≤ x.f0 <;> by_cases h1 : x.f0 ≤ 2 <;> by_cases h2 : 0 ≤ x.f1 <;> by_cases h3 : x.f1 ≤ 5 <;> by_cases h4 : 0 ≤ x.f2 <;> by_cases h5 : x.f2 ≤ 2 <;> by_cases h6 : -1000000000000 ≤ x.f3 <;> by_cases h7 : x.f3 ≤ 1000000000000 <;> (simp [h0, h1, h2, h3, h4, h5, h6, h7, qm.j0] <;> (try (split <;> rfl)))
def SM (done : List yl) (D : DataW Unit) : Prop := Maps.IsMap D ∧ ∀ a : Int, D.atKey (.int .i64 a) (.lit (.int .i64 0)) = .lit (.int .i64 (y0u done a))
theorem z2l : SM [] (.map []) := ⟨Maps.isMap_empty, fun _ => rfl⟩
theorem y2d {done : List yl} {D : DataW Unit} (h : SM done D) (x : yl) (hx : z0i x) (hd : ∀ y ∈ done, z0i y) (hn : done.length ≤ 8) {c : Int} (hc : D.atKey (.int .i64 x.f2) (.lit (.int .i64 0)) = .lit (.int .i64 c)) :
  SM (done ++ [x]) (D.put (.int .i64 x.f2) (.lit (.int .i64 (wrap64 (c + x.f3))))) := by
 have e : c = y0u done x.f2 := by
  have := hc.symm.trans (h.2 x.f2)
  simpa using this
 have b := q24 done x.f2 hd
 unfold z0i at hx
 have ew : wrap64 (c + x.f3) = y0u done x.f2 + x.f3 := by rw [e]; unfold wrap64; omega
 refine ⟨h.1.put _ _, fun a => ?_⟩
 rw [y0t, ew]
 by_cases ha : x.f2 = a
 ·rw [if_pos ha, ← ha]
  exact Maps.atKey_put_same (k := .int .i64 x.f2) h.1 trivial _ _
 ·rw [if_neg ha, Maps.atKey_put_other (by intro e'; injection e' with _ e'; exact ha e'.symm)]
  rw [h.2 a]
  simp
theorem z2q : Keyed Try.prog 2 := int_keyed Try.underlying2
theorem q2v (w : World) : (zeroValue 2).run Try.prog w = .ok (.int .i64 0) w := by kernel_rfl
theorem q2c (l : List yl) : q0g.f l = some (l.length : Int) := rfl
theorem y1c (a b c : Int) : yq.f a b c = some (decide (b ≤ a ∧ a ≤ c)) := by
 unfold yq.f
 by_cases h : a ≥ b
 ·have h' : b ≤ a := h
  rw [if_pos h]; simp [h']
 ·have h' : ¬ b ≤ a := h
  rw [if_neg h]; simp [h']
theorem q1n (a : Int) : z08.f a = some (decide (1 ≤ a ∧ a ≤ 1000000000)) := by
 unfold z08.f; rw [y1c]; rfl
theorem y1g (l : List yl) (h : ∀ a, y0u l a = 0) : scan l [] = 0 := by
 unfold scan
 rw [if_neg]
 simp [h]
theorem z0z (l : List yl) (a : Int) (h : y0u l a ≠ 0) : scan l [] = 1 := by
 unfold scan
 rw [if_pos]
 rw [List.any_eq_true]
 by_cases hx : ∃ x ∈ l, x.f2 = a
 ·obtain ⟨x, hm, e⟩ := hx
  exact ⟨x, hm, by simpa [e] using h⟩
 ·exact absurd (z1h l a (fun x hm e => hx ⟨x, hm, e⟩)) h
theorem q0p (ad : Addr) (c : Nat) (l : List yl) (k : Nat) (hk : k ≤ l.length) (y : yl) (a : Addr) (w : World) (hr : Kd.C y08 w (some ad) l.length l) (h0 : w.cell? a = some (.int .i64 y.f0)) (h1 : w.cell? ⟨a.block, a.off + 1, none⟩ = some (.int .i64 y.f1)) (h2 : w.cell? ⟨a.block, a.off + 2, none⟩ = some (.int .i64 y.f2)) (h3 : w.cell? ⟨a.block, a.off + 3, none⟩ = some (.int .i64 y.f3)) :
  Calls Try.prog 98 #[.slice (some ad) k c, .func (.func 99) #[] #[.pointer (some a)]] w fun e w' => e = .returned (.bool (y0i (l.take k) y)) ∧ Below w.heap.size w w' := by
 have el : (l.take k).length = k := by rw [List.length_take]; omega
 have h := z0y (some ad) c (l.take k) y a w ⟨rfl, by rw [el]; exact Nat.le_trans hk hr.2.1, fun hp => by
  obtain ⟨ad', e, hc⟩ := hr.2.2 (by omega)
  refine ⟨ad', e, fun j p hj => hc j p ?_⟩
  rw [List.getElem?_take] at hj
  split at hj
  ·exact hj
  ·cases hj⟩ h0 h1 h2 h3
 rwa [el] at h
set_option maxRecDepth 100000 in
set_option maxHeartbeats 1000000 in
theorem q2l (id : Int) (A : Option Addr) (c : Nat) (l : List yl) (w : World) (hr : Kd.C y08 w A l.length l) (hc : l.length ≤ c) :
  Calls Try.prog 50 #[.agg #[.int .i64 id, .slice A l.length c]] w fun e w' => e = .returned (.int .i64 (cf id l)) ∧ Below w.heap.size w w' := by
 have HR := z2.mk hr
 have HC := z2.mk hc
 clear hr hc
 have hu138 := Try.underlying138
 have hu31 := Try.underlying31
 have hmm := @run_makeMap Try.prog
 have hmf : ∀ (fn : Fn) (first cap : Array Value) (w : World), (Instr.makeFunc fn first cap).run Try.prog w = .ok (.func fn first cap) w := fun _ _ _ _ => rfl
 by_cases hid : 1 ≤ id ∧ id ≤ 1000000000
 ·by_cases hl : 2 ≤ l.length ∧ l.length ≤ 8
  ·have e1 := z2.mk ((q1n id).trans (by rw [decide_eq_true hid]))
   have e2 := z2.mk (((y1c (l.length : Int) 2 8).trans (by rw [decide_eq_true (by omega)])) : yq.f (l.length : Int) 2 8 = some true)
   have ecf := z2.mk (show cf id l = scan [] l by unfold cf; rw [if_pos hid, if_pos hl])
   clear hid
   go_enter Try.func50, Try.ntmps50
   go_wp2_with (first | (go_at_call 51; refine (z08.calls id true _ e1.out).mono ?_; rintro e w' ⟨rfl, ⟨n1, rfl⟩⟩) | (go_at_call 96; refine (q0g.calls _ _ l _ _ ?s1 HC.out (q2c l)).mono ?_; (case s1 => repeat (first | exact HR.out | (with_reducible refine Kd.yi ?_ _) | (with_reducible refine Kd.qi ?_ _) | (with_reducible refine Kd.C_drew ?_))); rintro e w' ⟨rfl, ⟨n2, rfl⟩⟩) | (go_at_call 95; refine (yq.calls _ 2 8 true _ e2.out).mono ?_; rintro e w' ⟨rfl, ⟨n3, rfl⟩⟩))
   go_loopw [24] (fun i wr => ∃ k : Nat, k ≤ l.length ∧ i = .int .i64 k ∧ z2 (scan [] l = scan (l.take k) (l.drop k) ∧ ∀ x ∈ l.take k, z0i x) ∧ z2 (∃ D, SM (l.take k) D ∧ wr.ownsMap Try.prog 2 (plainElem (H := Unit) Try.prog 2) (w.heap.size + 1) k D) ∧ z2 (wr.heap[w.heap.size]? = some (.cells #[.int .i64 id, .slice A l.length c] 31 (0, 0))) ∧ z2 (Below w.heap.size w wr)) (fun i _ => l.length - (intOf i).toNat)
   case atStart =>
    refine ⟨0, Nat.zero_le _, rfl, ⟨by simp⟩, ⟨.map [], z2l, ?_⟩, ⟨?_⟩, ⟨(z1 ((Below.refl _ _).alloc (Nat.le_refl _) _) _).alloc (by simp) _⟩⟩
    ·have h := World.ownsMap_made (H := Unit) ((w.alloc (.cells #[.int .i64 id, .slice A l.length c] 31)).drewN (n1 + n2 + n3)) Try.prog 2 (plainElem Try.prog 2)
     have e : ((w.alloc (.cells #[.int .i64 id, .slice A l.length c] 31)).drewN (n1 + n2 + n3)).heap.size = w.heap.size + 1 := by simp
     rw [e] at h
     exact h
    ·exact (Below.heap_alloc _ _ _ (by simp)).trans (heap_alloc_new w _)
   case round =>
    obtain ⟨k, hk, rfl, HP, HM, HBX, HB⟩ := hrel
    obtain ⟨D, HS, HM⟩ := HM.out
    by_cases hlt : k < l.length
    ·obtain ⟨ad, rfl, x0, x1, x2, x3⟩ := yz HR.out (k : Int) (by omega) (by omega)
     replace x0 := qv HB.out x0
     replace x1 := qv HB.out x1
     replace x2 := qv HB.out x2
     replace x3 := qv HB.out x3
     rw [Int.toNat_natCast] at x0 x1 x2 x3
     have b1 : wr.cell? ⟨w.heap.size, 1, none⟩ = some (.slice (some ad) l.length c) := (z6 HBX.out 1).trans rfl
     generalize hx : y7 l (k : Int) = x at *
     have hx' : l.drop k = x :: l.drop (k + 1) ∧ l.take (k + 1) = l.take k ++ [x] := by
      have e : x = l[k] := by rw [← hx]; unfold y7; rw [Int.toNat_natCast, List.getD_eq_getElem?_getD, List.getElem?_eq_getElem hlt]; rfl
      exact ⟨by rw [e]; exact List.drop_eq_getElem_cons hlt, by rw [e]; exact List.take_succ_eq_append_getElem hlt⟩
     have HX := z2.mk hx'
     clear hx hx'
     have ewx := z2.mk (z1r x)
     have arm : ∀ w1, Below (wr.alloc (.cells #[.int .i64 x.f0, .int .i64 x.f1, .int .i64 x.f2, .int .i64 x.f3] 138)).heap.size (wr.alloc (.cells #[.int .i64 x.f0, .int .i64 x.f1, .int .i64 x.f2, .int .i64 x.f3] 138)) w1 →
       w1.heap[wr.heap.size]? = some (.cells #[.int .i64 x.f0, .int .i64 x.f1, .int .i64 x.f2, .int .i64 x.f3] 138 (0, 0)) ∧ w1.heap[w.heap.size]? = some (.cells #[.int .i64 id, .slice (some ad) l.length c] 31 (0, 0)) ∧ w1.ownsMap Try.prog 2 (plainElem (H := Unit) Try.prog 2) (w.heap.size + 1) k D ∧ Below w.heap.size w w1 := fun w1 hb => by
      have hlt2 : w.heap.size < wr.heap.size := qk HBX.out
      exact ⟨(hb.block _ (by simp)).trans (heap_alloc_new wr _), (hb.block _ (by simp; omega)).trans ((Below.heap_alloc _ _ _ hlt2).trans HBX.out), (HM.alloc _).kept (z0o hb none) (by simp), y8 (HB.out.alloc HB.out.size _) hb⟩
     have ARM := z2.mk arm
     clear arm
     have hkc : k ≤ c := Nat.le_trans (Nat.le_of_lt hlt) HC.out
     by_cases hz : z09 x = 0
     ·obtain ⟨hpl, ham, _⟩ := q0u hz
      have HAM := z2.mk ham
      clear hpl ham
      have hz0 : (z09 x != 0) = false := by simp [hz]
      cases hh : y0i (l.take k) x with
      | true =>
       have HH := z2.mk hh
       have HZ := z2.mk hz
       clear hz
       go_wp2_with (first | (go_at_call 97; refine (qm.calls 1 x.f0 x.f1 x.f2 x.f3 _ _ ewx.out).mono ?_; rintro e w1 ⟨rfl, hb⟩; have hq := ARM.out w1 hb; have HQ0 := z2.mk hq.1; have HQ1 := z2.mk hq.2.1; have HQ2 := z2.mk hq.2.2.1; have HQ3 := z2.mk hq.2.2.2; clear hq hb; have q0 : w1.cell? ⟨wr.heap.size, 0, none⟩ = some (.int .i64 x.f0) := (z6 HQ0.out 0).trans rfl; have q1 : w1.cell? ⟨wr.heap.size, 1, none⟩ = some (.int .i64 x.f1) := (z6 HQ0.out 1).trans rfl; have q2 : w1.cell? ⟨wr.heap.size, 2, none⟩ = some (.int .i64 x.f2) := (z6 HQ0.out 2).trans rfl; have q3 : w1.cell? ⟨wr.heap.size, 3, none⟩ = some (.int .i64 x.f3) := (z6 HQ0.out 3).trans rfl; have q4 : w1.cell? ⟨w.heap.size, 1, none⟩ = some (.slice (some ad) l.length c) := (z6 HQ1.out 1).trans rfl) | (go_at_call 98; refine (q0p ad c l k hk x ⟨wr.heap.size, 0, none⟩ w1 (Kd.yp HR.out HQ3.out) q0 q1 q2 q3).mono ?_; rintro e w2 ⟨rfl, hb2⟩))
       go_ret
       refine ⟨?_, y8 HQ3.out hb2⟩
       rw [ecf.out, HP.out.1, HX.out.1]
       simp only [scan, HZ.out, HH.out, if_true]
       rfl
      | false =>
       have HH := z2.mk hh
       have HZ := z2.mk hz
       have hkey : keyOf Try.prog 2 (.int .i64 x.f2) = some (.int .i64 x.f2) := keyOf_int_mk Try.underlying2 (WalkArith.wf_i64 (by have := (q0u HZ.out).1.2.2; omega))
       have HKEY := z2.mk hkey
       clear hz hkey
       go_wp2_with (first | (go_at_call 97; refine (qm.calls 1 x.f0 x.f1 x.f2 x.f3 _ _ ewx.out).mono ?_; rintro e w1 ⟨rfl, hb⟩; have hq := ARM.out w1 hb; have HQ0 := z2.mk hq.1; have HQ1 := z2.mk hq.2.1; have HQ2 := z2.mk hq.2.2.1; have HQ3 := z2.mk hq.2.2.2; clear hq hb; have q0 : w1.cell? ⟨wr.heap.size, 0, none⟩ = some (.int .i64 x.f0) := (z6 HQ0.out 0).trans rfl; have q1 : w1.cell? ⟨wr.heap.size, 1, none⟩ = some (.int .i64 x.f1) := (z6 HQ0.out 1).trans rfl; have q2 : w1.cell? ⟨wr.heap.size, 2, none⟩ = some (.int .i64 x.f2) := (z6 HQ0.out 2).trans rfl; have q3 : w1.cell? ⟨wr.heap.size, 3, none⟩ = some (.int .i64 x.f3) := (z6 HQ0.out 3).trans rfl; have q4 : w1.cell? ⟨w.heap.size, 1, none⟩ = some (.slice (some ad) l.length c) := (z6 HQ1.out 1).trans rfl) | (go_at_call 98; refine (q0p ad c l k hk x ⟨wr.heap.size, 0, none⟩ w1 (Kd.yp HR.out HQ3.out) q0 q1 q2 q3).mono ?_; rintro e w2 ⟨rfl, hb2⟩; have r2 : w2.cell? ⟨wr.heap.size, 2, none⟩ = some (.int .i64 x.f2) := qv hb2 q2; have r3 : w2.cell? ⟨wr.heap.size, 3, none⟩ = some (.int .i64 x.f3) := qv hb2 q3; have HR1 := z2.mk ((hb2.block _ (qk HQ1.out)).trans HQ1.out); have HR2 := z2.mk (HQ2.out.kept (z0o hb2 none) (by simp)); have HR3 := z2.mk (y8 HQ3.out hb2); clear hb2 q0 q1 q2 q3 q4) | (at_lookup; refine wpList_lookup_own_int _ rfl _ _ 142 rfl 2 2 .i64 z2q Try.underlying142 Try.underlying2 (q2v _) (w.heap.size + 1) k _ rfl HR2.out _ _ rfl HKEY.out ?_; intro cv hat _; have HAT := z2.mk hat; clear hat) | (at_mapUpdate; refine wpList_mapUpdate_own _ rfl _ _ _ 142 rfl 2 2 z2q Try.underlying142 _ (w.heap.size + 1) k _ rfl HR2.out (by unfold maxLen; omega) _ _ _ rfl rfl HKEY.out _ [] (plainElem_int Try.underlying2 (wrap64_wf _)) ?_; intro w3 hown3 hg3; have HR4 := z2.mk hown3; have HR5 := z2.mk hg3; clear hown3 hg3))
       go_roundw
       case rel =>
        have hd : ∀ y ∈ l.take k, z0i y := HP.out.2
        refine ⟨k + 1, by omega, by go_num, ⟨?_, ?_⟩, ⟨_, by rw [HX.out.2]; exact y2d HS x HAM.out hd (by rw [List.length_take]; omega) HAT.out, HR4.out⟩, ⟨(HR5.out.block _ (qk HR1.out) (by simp)).trans HR1.out⟩, ⟨HR3.out.grown HR5.out HR3.out.size (fun j hj => by cases hj; omega)⟩⟩
        ·rw [HP.out.1, HX.out.1, HX.out.2]
         simp only [scan, HZ.out, HH.out, if_true]
         rfl
        ·rw [HX.out.2]
         intro y hy
         rcases List.mem_append.1 hy with hy | hy
         ·exact hd y hy
         ·rw [List.mem_singleton.1 hy]; exact HAM.out
       case measure => simp [intOf]; omega
     ·have hz1 : (z09 x != 0) = true := by simp [hz]
      have HZ := z2.mk hz
      clear hz
      go_wp2_with (first | (go_at_call 97; refine (qm.calls 1 x.f0 x.f1 x.f2 x.f3 _ _ ewx.out).mono ?_; rintro e w1 ⟨rfl, hb⟩; have hq := ARM.out w1 hb; have HQ0 := z2.mk hq.1; have HQ1 := z2.mk hq.2.1; have HQ2 := z2.mk hq.2.2.1; have HQ3 := z2.mk hq.2.2.2; clear hq hb; have q0 : w1.cell? ⟨wr.heap.size, 0, none⟩ = some (.int .i64 x.f0) := (z6 HQ0.out 0).trans rfl; have q1 : w1.cell? ⟨wr.heap.size, 1, none⟩ = some (.int .i64 x.f1) := (z6 HQ0.out 1).trans rfl; have q2 : w1.cell? ⟨wr.heap.size, 2, none⟩ = some (.int .i64 x.f2) := (z6 HQ0.out 2).trans rfl; have q3 : w1.cell? ⟨wr.heap.size, 3, none⟩ = some (.int .i64 x.f3) := (z6 HQ0.out 3).trans rfl; have q4 : w1.cell? ⟨w.heap.size, 1, none⟩ = some (.slice (some ad) l.length c) := (z6 HQ1.out 1).trans rfl))
      go_ret
      refine ⟨?_, HQ3.out⟩
      rw [ecf.out, HP.out.1, HX.out.1]
      simp only [scan, if_neg HZ.out]
      rfl
    ·have ek : k = l.length := by omega
     subst ek
     rw [List.take_length] at HS
     have hscan : scan [] l = scan l [] := by have h := HP.out.1; rwa [List.take_length, List.drop_length] at h
     have HSC := z2.mk hscan
     have HSM := z2.mk HS
     clear HP HS hscan hl hlt hk
     obtain ⟨wo, rfl⟩ : ∃ wo : World, wo = wr := ⟨_, rfl⟩
     have hlw : w.heap.size < wo.heap.size := qk HBX.out
     go_wp2_with (first | (at_range; refine wpList_range_own _ rfl _ 142 rfl 2 2 z2q Try.underlying142 _ (w.heap.size + 1) l.length _ rfl HM ?_; intro w0 hrg0 hg0 hs0; have HRG := z2.mk hrg0; have HG0 := z2.mk hg0; clear hrg0 hg0 hs0))
     go_frame
     go_loopw [8] (fun _ wl => z2 (∃ left cnt, wl.ranges Try.prog 2 (plainElem (H := Unit) Try.prog 2) (w.heap.size + 1) wo.heap.size l.length D left cnt ∧ ∀ a : Int, left (.int .i64 a) = false → D.atKey (.int .i64 a) (.lit (.int .i64 0)) = .lit (.int .i64 0)) ∧ z2 (Below w.heap.size w wl)) (fun _ wl => wl.rangeLeft (w.heap.size + 1) wo.heap.size)
     case atStart => exact ⟨⟨_, _, HRG.out, fun a ha => Maps.atKey_of_not_has ha _⟩, ⟨HB.out.grown HG0.out HB.out.size (fun j hj => by cases hj)⟩⟩
     case round =>
      obtain ⟨HL, HB2⟩ := hrel
      obtain ⟨left, cnt, hrg, hz⟩ := HL.out
      have HRG2 := z2.mk hrg
      have HZ2 := z2.mk hz
      clear HL hrg hz HRG HB HG0
      go_wp2_with (first | (at_next; refine wpList_next_ranges_ii _ rfl _ rfl 2 2 .i64 .i64 z2q Try.underlying2 Try.underlying2 (w.heap.size + 1) wo.heap.size l.length _ _ _ rfl HRG2.out ?_ ?_))
      ·intro _ hl0
       have HL0 := z2.mk hl0
       clear hl0
       go_wp2
       go_ret
       refine ⟨?_, HB2.out⟩
       rw [ecf.out, HSC.out, y1g l (fun a => by
        have h := (HSM.out.2 a).symm.trans (HZ2.out a (HL0.out _))
        simpa using h)]
       rfl
      ·intro x cv w1 cnt1 hwx hwc hlx hat hrg1 hlt1 hg1 hs1 hen
       have HAT := z2.mk hat
       have HR1 := z2.mk hrg1
       have HG1 := z2.mk hg1
       clear hat hrg1 hg1 hs1 hlx hwx hwc
       have HLT := z2.mk hlt1
       clear hlt1
       by_cases hcv : cv = 0
       ·subst hcv
        go_wp2
        refine ⟨⟨⟨_, _, HR1.out, fun a ha => ?_⟩, ⟨HB2.out.grown HG1.out HB2.out.size (fun j hj => by cases hj; omega)⟩⟩, ?_⟩
        ·by_cases e : a = x
         ·subst e
          exact HAT.out _
         ·refine HZ2.out a ?_
          have h1 : (Lit.int IntKind.i64 a).sameKey (Lit.int IntKind.i64 x) = false := Maps.sameKey_ne (fun h => e (by injection h))
          simpa [h1] using ha
        ·show w1.rangeLeft _ _ < _
         rw [HR1.out.left_eq, HRG2.out.left_eq]
         exact HLT.out
       ·have hcv1 : (cv != 0) = true := by simp [hcv]
        have HCV := z2.mk hcv
        clear hcv
        go_wp2
        go_ret
        refine ⟨?_, HB2.out.grown HG1.out HB2.out.size (fun j hj => by cases hj; omega)⟩
        rw [ecf.out, HSC.out, z0z l x (fun h => HCV.out (by
         have h1 := (HAT.out (.lit (.int .i64 0))).symm.trans (HSM.out.2 x)
         rw [h] at h1
         simpa using h1))]
        rfl
  ·have e1 := z2.mk ((q1n id).trans (by rw [decide_eq_true hid]))
   have e2 := z2.mk (((y1c (l.length : Int) 2 8).trans (by rw [decide_eq_false (by omega)])) : yq.f (l.length : Int) 2 8 = some false)
   have ecf := z2.mk (show cf id l = 2 by unfold cf; rw [if_pos hid, if_neg hl])
   clear hid hl
   go_enter Try.func50, Try.ntmps50
   go_wp2_with (first | (go_at_call 51; refine (z08.calls id true _ e1.out).mono ?_; rintro e w' ⟨rfl, ⟨n1, rfl⟩⟩) | (go_at_call 96; refine (q0g.calls _ _ l _ _ ?s1 HC.out (q2c l)).mono ?_; (case s1 => repeat (first | exact HR.out | (with_reducible refine Kd.yi ?_ _) | (with_reducible refine Kd.qi ?_ _) | (with_reducible refine Kd.C_drew ?_))); rintro e w' ⟨rfl, ⟨n2, rfl⟩⟩) | (go_at_call 95; refine (yq.calls _ 2 8 false _ e2.out).mono ?_; rintro e w' ⟨rfl, ⟨n3, rfl⟩⟩))
   go_ret
   exact ⟨by rw [ecf.out]; rfl, z1 ((Below.refl _ _).alloc (Nat.le_refl _) _) _⟩
 ·have e1 := z2.mk ((q1n id).trans (by rw [decide_eq_false hid]))
  have ecf := z2.mk (show cf id l = 3 by unfold cf; rw [if_neg hid])
  clear hid
  go_enter Try.func50, Try.ntmps50
  go_wp2_with (first | (go_at_call 51; refine (z08.calls id false _ e1.out).mono ?_; rintro e w' ⟨rfl, ⟨n1, rfl⟩⟩))
  go_ret
  exact ⟨by rw [ecf.out]; rfl, z1 ((Below.refl _ _).alloc (Nat.le_refl _) _) _⟩
def zr.f (a0_0 : Int) (l0_1 : List (yl)) : Option (Int) := some (cf a0_0 l0_1)
theorem zr.calls (a0_0 : Int) (A0_1 : Option Addr) (c0_1 : Nat) (l0_1 : List (yl)) (r : Int) (w : World) (hr0_1 : Kd.C y08 w A0_1 l0_1.length l0_1) (hc0_1 : l0_1.length ≤ c0_1) (h : zr.f a0_0 l0_1 = some r) :
  Calls Try.prog 50 #[.agg #[.int .i64 a0_0, .slice A0_1 l0_1.length c0_1]] w fun e w' => e = .returned (.int .i64 r) ∧ Below w.heap.size w w' := by
 have e : cf a0_0 l0_1 = r := Option.some.inj h
 rw [← e]
 exact q2l a0_0 A0_1 c0_1 l0_1 w hr0_1 hc0_1
end
end Go.Proofs.Ytkeojolmapcgbaa.PEv
end
section
namespace Go.Proofs.Ytkeojolmapcgbaa.PEv
open Go.RowKit Go.Proofs.YtkeojolmapcgbaaW.PrintWords Go.Proofs.YtkeojolmapcgbaaW.PrintLast Go.Proofs.YtkeojolmapcgbaaW.PrintMore
set_option linter.unusedVariables false
set_option linter.unusedSimpArgs false
def zy.f (a0 : Int) : Option (Bool) := if a0 = 1 then (some true) else (some (a0 == 2))
set_option maxHeartbeats 8000000 in
set_option maxRecDepth 100000 in
theorem zy.calls (a0 : Int) (r : Bool) (w : World) (h : zy.f a0 = some r) :
  Calls Try.prog 52 #[.int .i64 a0] w fun e w' => e = .returned (.bool r) ∧ zq w w' := by
 have H : (if a0 = 1 then (some true) else (some (a0 == 2))) = some r := h
 clear h
 by_cases c2 : a0 = 1
 ·rw [if_pos c2] at H
  have c2b0 : (a0 == 1) = true := beq_iff_eq.mpr c2
  have c2b1 : (a0 != 1) = false := bne_eq_false_iff_eq.mpr c2
  clear c2
  obtain rfl := Option.some.inj H
  go_enter Try.func52, Try.ntmps52
  go_wp2
  go_ret
  exact ⟨by first | rfl | (simp; done) | (simp [*]; done), by repeat (first | exact zq.refl _ | apply zq.step)⟩
 ·rw [if_neg c2] at H
  have c2b0 : (a0 == 1) = false := beq_eq_false_iff_ne.mpr c2
  have c2b1 : (a0 != 1) = true := bne_iff_ne.mpr c2
  obtain rfl := Option.some.inj H
  go_enter Try.func52, Try.ntmps52
  go_wp2
  go_ret
  exact ⟨by first | rfl | (simp; done) | (simp [*]; done), by repeat (first | exact zq.refl _ | apply zq.step)⟩
def yf.j0 : Nat → Bool → Bool → Int → List (yl) → Int → Option (Int)
 | 0, _, _, _, _, _ => none
 | k + 1, x15, x163000, x163001, x163002, x163003 => if x15 = true then (some 3) else (if (x163002.length : Int) > 0 then (some 1) else (some 0))
def yf.f (k : Nat) (a0_0 : Bool) (a0_1 : Int) (l0_2 : List (yl)) (a0_3 : Int) : Option (Int) := if a0_0 = true then ((zr.f a0_1 l0_2).bind fun t163 => (if t163 = 0 then (if a0_3 = 0 then (some 0) else (some 1)) else (some t163))) else ((z08.f a0_1).bind fun t164 => (if t164 = true then ((zy.f a0_3).bind fun t165 => (yf.j0 k (!t165) a0_0 a0_1 l0_2 a0_3)) else (yf.j0 k true a0_0 a0_1 l0_2 a0_3)))
set_option maxHeartbeats 8000000 in
set_option maxRecDepth 100000 in
theorem yf.calls (k : Nat) (a0_0 : Bool) (a0_1 : Int) (A0_2 : Option Addr) (c0_2 : Nat) (l0_2 : List (yl)) (a0_3 : Int) (r : Int) (w : World) (hr0_2 : Kd.C y08 w A0_2 l0_2.length l0_2) (hc0_2 : l0_2.length ≤ c0_2) (h : yf.f k a0_0 a0_1 l0_2 a0_3 = some r) :
  Calls Try.prog 11 #[.agg #[.bool a0_0, .int .i64 a0_1, .slice A0_2 l0_2.length c0_2, .int .i64 a0_3]] w fun e w' => e = .returned (.int .i64 r) ∧ Below w.heap.size w w' := by
 have hu33 := Try.underlying33
 have hu31 := Try.underlying31
 have HR0_2 := z2.mk hr0_2
 have HC0_2 := z2.mk hc0_2
 clear hr0_2 hc0_2
 have HB := z2.mk (Below.refl w.heap.size w)
 have H : (if a0_0 = true then ((zr.f a0_1 l0_2).bind fun t163 => (if t163 = 0 then (if a0_3 = 0 then (some 0) else (some 1)) else (some t163))) else ((z08.f a0_1).bind fun t164 => (if t164 = true then ((zy.f a0_3).bind fun t165 => (yf.j0 k (!t165) a0_0 a0_1 l0_2 a0_3)) else (yf.j0 k true a0_0 a0_1 l0_2 a0_3)))) = some r := h
 clear h
 by_cases c2 : a0_0 = true
 ·subst c2
  have H1 : ((zr.f a0_1 l0_2).bind fun t163 => (if t163 = 0 then (if a0_3 = 0 then (some 0) else (some 1)) else (some t163))) = some r := by rw [if_pos rfl] at H; exact H
  clear H
  have H := H1
  clear H1
  replace H := Option.bind_eq_some_iff.mp H
  obtain ⟨t163, A30, H⟩ := H
  replace H : (if t163 = 0 then (if a0_3 = 0 then (some 0) else (some 1)) else (some t163)) = some r := H
  have A3 := z2.mk A30
  clear A30
  by_cases c4 : t163 = 0
  ·rw [if_pos c4] at H
   have c4b0 : (t163 == 0) = true := beq_iff_eq.mpr c4
   have c4b1 : (t163 != 0) = false := bne_eq_false_iff_eq.mpr c4
   clear c4
   by_cases c5 : a0_3 = 0
   ·rw [if_pos c5] at H
    have c5b0 : (a0_3 == 0) = true := beq_iff_eq.mpr c5
    have c5b1 : (a0_3 != 0) = false := bne_eq_false_iff_eq.mpr c5
    clear c5
    obtain rfl := Option.some.inj H
    go_enter Try.func11, Try.ntmps11
    go_wp2_with (first | ((with_reducible refine ye (N := 1) rfl ?_); refine ze ?hg (N := 1) ?hd (cs := #[.bool true, .int .i64 a0_1, .slice A0_2 l0_2.length c0_2, .int .i64 a0_3]) (t := 33) ?hr ?_; (case hd => rfl); (case hg => rfl); (case hr => first | (go_simp; done) | (go_simp; rfl)); intro gb162 hg w6 hbox hb; have n0_ := z2.mk (y8 (by repeat (first | (with_reducible first | exact HB.out | apply z4 | apply z1 | apply z3) | exact HB.out)) hb); have n1_ := z2.mk (hbox); have n2_ := z2.mk ((by rw [hg]; exact (z8 (by repeat (first | (with_reducible first | exact HB.out | apply z4 | apply z1 | apply z3) | exact HB.out))) : w.heap.size ≤ gb162)); have n3_ := z2.mk ((by rw [hg]; exact (z8 (by repeat (first | (with_reducible first | exact HB.out | apply z4 | apply z1 | apply z3) | exact HB.out))) : w.heap.size ≤ gb162)); clear HB; have HB := n0_; have BK162 := n1_; have GW162 := n2_; have GE162 := n3_; clear n0_ n1_ n2_ n3_ hb hbox hg; have hcz7_0 : w6.cell? ⟨gb162, 0, none⟩ = some (.bool true) := (z6 BK162.out 0).trans rfl; have hcz7_1 : w6.cell? ⟨gb162, 1, none⟩ = some (.int .i64 a0_1) := (z6 BK162.out 1).trans rfl; have hcz7_2 : w6.cell? ⟨gb162, 2, none⟩ = some (.slice A0_2 l0_2.length c0_2) := (z6 BK162.out 2).trans rfl; have hcz7_3 : w6.cell? ⟨gb162, 3, none⟩ = some (.int .i64 a0_3) := (z6 BK162.out 3).trans rfl; have hfz7_0 := y5 BK162.out 0; have hfz7_1 := y5 BK162.out 1; have hfz7_2 := y5 BK162.out 2; have hfz7_3 := y5 BK162.out 3) | ((with_reducible refine qb (f := 50) rfl ?_); refine zm (some 8) rfl rfl Try.func50 (by kernel_rfl) rfl #[.agg #[.int .i64 a0_1, .slice A0_2 l0_2.length c0_2]] rfl (by (try simp only [List.map_toArray, List.map_cons, List.map_nil]); first | done | rfl | (simp only [List.length_drop, List.length_take]; rfl)) ?_; (with_reducible refine (zr.calls a0_1 _ _ l0_2 t163 _ ?side1 ?side2 A3.out).mono ?_); (case side1 => repeat (first | exact (Kd.yp HR0_2.out HB.out) | (with_reducible refine Kd.yi ?_ _) | (with_reducible refine Kd.qi ?_ _) | (with_reducible refine Kd.C_drew ?_))); (case side2 => exact HC0_2.out); rintro e w8 ⟨rfl, hb⟩; refine ⟨_, rfl, ?_⟩; have n0_ := z2.mk (z9 (g := gb162) (o := .cells #[.bool true, .int .i64 a0_1, .slice A0_2 l0_2.length c0_2, .int .i64 a0_3] 33 (0, 0)) (by (with_reducible repeat (first | refine z5 ?_ _ | refine y6 ?_ | refine y4 ?_ _)); exact BK162.out) hb); have n1_ := z2.mk (y8 (by repeat (first | (with_reducible first | exact HB.out | apply z4 | apply z1 | apply z3 | refine z7 ?_ GE162.out) | exact HB.out)) hb); clear BK162 HB; have BK162 := n0_; have HB := n1_; clear n0_ n1_; (try clear hb); (try clear hb2); (try clear hk); (try clear hi); have hcz9_0 : w8.cell? ⟨gb162, 0, none⟩ = some (.bool true) := (z6 BK162.out 0).trans rfl; have hcz9_1 : w8.cell? ⟨gb162, 1, none⟩ = some (.int .i64 a0_1) := (z6 BK162.out 1).trans rfl; have hcz9_2 : w8.cell? ⟨gb162, 2, none⟩ = some (.slice A0_2 l0_2.length c0_2) := (z6 BK162.out 2).trans rfl; have hcz9_3 : w8.cell? ⟨gb162, 3, none⟩ = some (.int .i64 a0_3) := (z6 BK162.out 3).trans rfl; have hfz9_0 := y5 BK162.out 0; have hfz9_1 := y5 BK162.out 1; have hfz9_2 := y5 BK162.out 2; have hfz9_3 := y5 BK162.out 3))
    go_ret
    exact ⟨by first | rfl | (simp [ya, qa] <;> rfl) | (simp [*, ya, qa] <;> rfl), by repeat (first | (with_reducible first | exact HB.out | apply z4 | apply z1 | apply z3 | refine z7 ?_ GE162.out) | exact HB.out)⟩
   ·rw [if_neg c5] at H
    have c5b0 : (a0_3 == 0) = false := beq_eq_false_iff_ne.mpr c5
    have c5b1 : (a0_3 != 0) = true := bne_iff_ne.mpr c5
    obtain rfl := Option.some.inj H
    go_enter Try.func11, Try.ntmps11
    go_wp2_with (first | ((with_reducible refine ye (N := 1) rfl ?_); refine ze ?hg (N := 1) ?hd (cs := #[.bool true, .int .i64 a0_1, .slice A0_2 l0_2.length c0_2, .int .i64 a0_3]) (t := 33) ?hr ?_; (case hd => rfl); (case hg => rfl); (case hr => first | (go_simp; done) | (go_simp; rfl)); intro gb162 hg w10 hbox hb; have n0_ := z2.mk (y8 (by repeat (first | (with_reducible first | exact HB.out | apply z4 | apply z1 | apply z3) | exact HB.out)) hb); have n1_ := z2.mk (hbox); have n2_ := z2.mk ((by rw [hg]; exact (z8 (by repeat (first | (with_reducible first | exact HB.out | apply z4 | apply z1 | apply z3) | exact HB.out))) : w.heap.size ≤ gb162)); have n3_ := z2.mk ((by rw [hg]; exact (z8 (by repeat (first | (with_reducible first | exact HB.out | apply z4 | apply z1 | apply z3) | exact HB.out))) : w.heap.size ≤ gb162)); clear HB; have HB := n0_; have BK162 := n1_; have GW162 := n2_; have GE162 := n3_; clear n0_ n1_ n2_ n3_ hb hbox hg; have hcz11_0 : w10.cell? ⟨gb162, 0, none⟩ = some (.bool true) := (z6 BK162.out 0).trans rfl; have hcz11_1 : w10.cell? ⟨gb162, 1, none⟩ = some (.int .i64 a0_1) := (z6 BK162.out 1).trans rfl; have hcz11_2 : w10.cell? ⟨gb162, 2, none⟩ = some (.slice A0_2 l0_2.length c0_2) := (z6 BK162.out 2).trans rfl; have hcz11_3 : w10.cell? ⟨gb162, 3, none⟩ = some (.int .i64 a0_3) := (z6 BK162.out 3).trans rfl; have hfz11_0 := y5 BK162.out 0; have hfz11_1 := y5 BK162.out 1; have hfz11_2 := y5 BK162.out 2; have hfz11_3 := y5 BK162.out 3) | ((with_reducible refine qb (f := 50) rfl ?_); refine zm (some 8) rfl rfl Try.func50 (by kernel_rfl) rfl #[.agg #[.int .i64 a0_1, .slice A0_2 l0_2.length c0_2]] rfl (by (try simp only [List.map_toArray, List.map_cons, List.map_nil]); first | done | rfl | (simp only [List.length_drop, List.length_take]; rfl)) ?_; (with_reducible refine (zr.calls a0_1 _ _ l0_2 t163 _ ?side1 ?side2 A3.out).mono ?_); (case side1 => repeat (first | exact (Kd.yp HR0_2.out HB.out) | (with_reducible refine Kd.yi ?_ _) | (with_reducible refine Kd.qi ?_ _) | (with_reducible refine Kd.C_drew ?_))); (case side2 => exact HC0_2.out); rintro e w12 ⟨rfl, hb⟩; refine ⟨_, rfl, ?_⟩; have n0_ := z2.mk (z9 (g := gb162) (o := .cells #[.bool true, .int .i64 a0_1, .slice A0_2 l0_2.length c0_2, .int .i64 a0_3] 33 (0, 0)) (by (with_reducible repeat (first | refine z5 ?_ _ | refine y6 ?_ | refine y4 ?_ _)); exact BK162.out) hb); have n1_ := z2.mk (y8 (by repeat (first | (with_reducible first | exact HB.out | apply z4 | apply z1 | apply z3 | refine z7 ?_ GE162.out) | exact HB.out)) hb); clear BK162 HB; have BK162 := n0_; have HB := n1_; clear n0_ n1_; (try clear hb); (try clear hb2); (try clear hk); (try clear hi); have hcz13_0 : w12.cell? ⟨gb162, 0, none⟩ = some (.bool true) := (z6 BK162.out 0).trans rfl; have hcz13_1 : w12.cell? ⟨gb162, 1, none⟩ = some (.int .i64 a0_1) := (z6 BK162.out 1).trans rfl; have hcz13_2 : w12.cell? ⟨gb162, 2, none⟩ = some (.slice A0_2 l0_2.length c0_2) := (z6 BK162.out 2).trans rfl; have hcz13_3 : w12.cell? ⟨gb162, 3, none⟩ = some (.int .i64 a0_3) := (z6 BK162.out 3).trans rfl; have hfz13_0 := y5 BK162.out 0; have hfz13_1 := y5 BK162.out 1; have hfz13_2 := y5 BK162.out 2; have hfz13_3 := y5 BK162.out 3))
    go_ret
    exact ⟨by first | rfl | (simp [ya, qa] <;> rfl) | (simp [*, ya, qa] <;> rfl), by repeat (first | (with_reducible first | exact HB.out | apply z4 | apply z1 | apply z3 | refine z7 ?_ GE162.out) | exact HB.out)⟩
  ·rw [if_neg c4] at H
   have c4b0 : (t163 == 0) = false := beq_eq_false_iff_ne.mpr c4
   have c4b1 : (t163 != 0) = true := bne_iff_ne.mpr c4
   obtain rfl := Option.some.inj H
   go_enter Try.func11, Try.ntmps11
   go_wp2_with (first | ((with_reducible refine ye (N := 1) rfl ?_); refine ze ?hg (N := 1) ?hd (cs := #[.bool true, .int .i64 a0_1, .slice A0_2 l0_2.length c0_2, .int .i64 a0_3]) (t := 33) ?hr ?_; (case hd => rfl); (case hg => rfl); (case hr => first | (go_simp; done) | (go_simp; rfl)); intro gb162 hg w14 hbox hb; have n0_ := z2.mk (y8 (by repeat (first | (with_reducible first | exact HB.out | apply z4 | apply z1 | apply z3) | exact HB.out)) hb); have n1_ := z2.mk (hbox); have n2_ := z2.mk ((by rw [hg]; exact (z8 (by repeat (first | (with_reducible first | exact HB.out | apply z4 | apply z1 | apply z3) | exact HB.out))) : w.heap.size ≤ gb162)); have n3_ := z2.mk ((by rw [hg]; exact (z8 (by repeat (first | (with_reducible first | exact HB.out | apply z4 | apply z1 | apply z3) | exact HB.out))) : w.heap.size ≤ gb162)); clear HB; have HB := n0_; have BK162 := n1_; have GW162 := n2_; have GE162 := n3_; clear n0_ n1_ n2_ n3_ hb hbox hg; have hcz15_0 : w14.cell? ⟨gb162, 0, none⟩ = some (.bool true) := (z6 BK162.out 0).trans rfl; have hcz15_1 : w14.cell? ⟨gb162, 1, none⟩ = some (.int .i64 a0_1) := (z6 BK162.out 1).trans rfl; have hcz15_2 : w14.cell? ⟨gb162, 2, none⟩ = some (.slice A0_2 l0_2.length c0_2) := (z6 BK162.out 2).trans rfl; have hcz15_3 : w14.cell? ⟨gb162, 3, none⟩ = some (.int .i64 a0_3) := (z6 BK162.out 3).trans rfl; have hfz15_0 := y5 BK162.out 0; have hfz15_1 := y5 BK162.out 1; have hfz15_2 := y5 BK162.out 2; have hfz15_3 := y5 BK162.out 3) | ((with_reducible refine qb (f := 50) rfl ?_); refine zm (some 8) rfl rfl Try.func50 (by kernel_rfl) rfl #[.agg #[.int .i64 a0_1, .slice A0_2 l0_2.length c0_2]] rfl (by (try simp only [List.map_toArray, List.map_cons, List.map_nil]); first | done | rfl | (simp only [List.length_drop, List.length_take]; rfl)) ?_; (with_reducible refine (zr.calls a0_1 _ _ l0_2 t163 _ ?side1 ?side2 A3.out).mono ?_); (case side1 => repeat (first | exact (Kd.yp HR0_2.out HB.out) | (with_reducible refine Kd.yi ?_ _) | (with_reducible refine Kd.qi ?_ _) | (with_reducible refine Kd.C_drew ?_))); (case side2 => exact HC0_2.out); rintro e w16 ⟨rfl, hb⟩; refine ⟨_, rfl, ?_⟩; have n0_ := z2.mk (z9 (g := gb162) (o := .cells #[.bool true, .int .i64 a0_1, .slice A0_2 l0_2.length c0_2, .int .i64 a0_3] 33 (0, 0)) (by (with_reducible repeat (first | refine z5 ?_ _ | refine y6 ?_ | refine y4 ?_ _)); exact BK162.out) hb); have n1_ := z2.mk (y8 (by repeat (first | (with_reducible first | exact HB.out | apply z4 | apply z1 | apply z3 | refine z7 ?_ GE162.out) | exact HB.out)) hb); clear BK162 HB; have BK162 := n0_; have HB := n1_; clear n0_ n1_; (try clear hb); (try clear hb2); (try clear hk); (try clear hi)))
   go_ret
   exact ⟨by first | rfl | (simp [ya, qa] <;> rfl) | (simp [*, ya, qa] <;> rfl), by repeat (first | (with_reducible first | exact HB.out | apply z4 | apply z1 | apply z3 | refine z7 ?_ GE162.out) | exact HB.out)⟩
 ·replace c2 := Bool.eq_false_iff.mpr c2
  subst c2
  have H1 : ((z08.f a0_1).bind fun t164 => (if t164 = true then ((zy.f a0_3).bind fun t165 => (yf.j0 k (!t165) false a0_1 l0_2 a0_3)) else (yf.j0 k true false a0_1 l0_2 a0_3))) = some r := by rw [if_neg (show ¬ (false = true) by decide)] at H; exact H
  clear H
  have H := H1
  clear H1
  have HC17 := z2.mk H
  clear H
  go_enter Try.func11, Try.ntmps11
  go_upto_region 8 with (first | ((with_reducible refine ye (N := 1) rfl ?_); refine ze ?hg (N := 1) ?hd (cs := #[.bool false, .int .i64 a0_1, .slice A0_2 l0_2.length c0_2, .int .i64 a0_3]) (t := 33) ?hr ?_; (case hd => rfl); (case hg => rfl); (case hr => first | (go_simp; done) | (go_simp; rfl)); intro gb162 hg w18 hbox hb; have n0_ := z2.mk (y8 (by repeat (first | (with_reducible first | exact HB.out | apply z4 | apply z1 | apply z3) | exact HB.out)) hb); have n1_ := z2.mk (hbox); have n2_ := z2.mk ((by rw [hg]; exact (z8 (by repeat (first | (with_reducible first | exact HB.out | apply z4 | apply z1 | apply z3) | exact HB.out))) : w.heap.size ≤ gb162)); have n3_ := z2.mk ((by rw [hg]; exact (z8 (by repeat (first | (with_reducible first | exact HB.out | apply z4 | apply z1 | apply z3) | exact HB.out))) : w.heap.size ≤ gb162)); clear HB; have HB := n0_; have BK162 := n1_; have GW162 := n2_; have GE162 := n3_; clear n0_ n1_ n2_ n3_ hb hbox hg; have hcz19_0 : w18.cell? ⟨gb162, 0, none⟩ = some (.bool false) := (z6 BK162.out 0).trans rfl; have hcz19_1 : w18.cell? ⟨gb162, 1, none⟩ = some (.int .i64 a0_1) := (z6 BK162.out 1).trans rfl; have hcz19_2 : w18.cell? ⟨gb162, 2, none⟩ = some (.slice A0_2 l0_2.length c0_2) := (z6 BK162.out 2).trans rfl; have hcz19_3 : w18.cell? ⟨gb162, 3, none⟩ = some (.int .i64 a0_3) := (z6 BK162.out 3).trans rfl; have hfz19_0 := y5 BK162.out 0; have hfz19_1 := y5 BK162.out 1; have hfz19_2 := y5 BK162.out 2; have hfz19_3 := y5 BK162.out 3))
  (try simp only [Act.put, List.setIfInBounds_toArray, List.set_cons_zero, List.set_cons_succ])
  go_cut [15] (fun v15 wc => ∃ (kq : Nat) (x15_16 : Bool), v15 = .bool x15_16 ∧ z2 (yf.j0 kq x15_16 false a0_1 l0_2 a0_3 = some r) ∧ z2 (kq ≤ k) ∧ z2 (wc.heap[gb162]? = some (.cells #[.bool false, .int .i64 a0_1, (.slice A0_2 l0_2.length c0_2), .int .i64 a0_3] 33 (0, 0))) ∧ z2 (Below w.heap.size w wc))
  case first =>
   have H := HC17.out
   clear HC17
   replace H := Option.bind_eq_some_iff.mp H
   obtain ⟨t164, A200, H⟩ := H
   replace H : (if t164 = true then ((zy.f a0_3).bind fun t165 => (yf.j0 k (!t165) false a0_1 l0_2 a0_3)) else (yf.j0 k true false a0_1 l0_2 a0_3)) = some r := H
   have A20 := z2.mk A200
   clear A200
   by_cases c21 : t164 = true
   ·subst c21
    have H1 : ((zy.f a0_3).bind fun t165 => (yf.j0 k (!t165) false a0_1 l0_2 a0_3)) = some r := by rw [if_pos rfl] at H; exact H
    clear H
    have H := H1
    clear H1
    replace H := Option.bind_eq_some_iff.mp H
    obtain ⟨t165, A220, H⟩ := H
    replace H : (yf.j0 k (!t165) false a0_1 l0_2 a0_3) = some r := H
    have A22 := z2.mk A220
    clear A220
    have H' := z2.mk H
    clear H
    have hcz23_0 : w18.cell? ⟨gb162, 0, none⟩ = some (.bool false) := (z6 BK162.out 0).trans rfl
    have hcz23_1 : w18.cell? ⟨gb162, 1, none⟩ = some (.int .i64 a0_1) := (z6 BK162.out 1).trans rfl
    have hcz23_2 : w18.cell? ⟨gb162, 2, none⟩ = some (.slice A0_2 l0_2.length c0_2) := (z6 BK162.out 2).trans rfl
    have hcz23_3 : w18.cell? ⟨gb162, 3, none⟩ = some (.int .i64 a0_3) := (z6 BK162.out 3).trans rfl
    have hfz23_0 := y5 BK162.out 0
    have hfz23_1 := y5 BK162.out 1
    have hfz23_2 := y5 BK162.out 2
    have hfz23_3 := y5 BK162.out 3
    go_wp2_with (first | ((with_reducible refine qb (f := 51) rfl ?_); refine zm (some 19) rfl rfl Try.func51 (by kernel_rfl) rfl #[.int .i64 a0_1] rfl (by (try simp only [List.map_toArray, List.map_cons, List.map_nil]); first | done | rfl | (simp only [List.length_drop, List.length_take]; rfl)) ?_; (with_reducible refine (z08.calls a0_1 true _ A20.out).mono ?_); rintro e w' ⟨rfl, ⟨nd, rfl⟩⟩; refine ⟨_, rfl, ?_⟩) | (go_at_call 52; (with_reducible refine (zy.calls a0_3 t165 _ A22.out).mono ?_); rintro e w' ⟨rfl, ⟨nd, rfl⟩⟩))
    go_meet
    case rel => exact ⟨_, (!t165), (by first | rfl | (simp; done) | (simp [*]; done)), H', ⟨by first | omega | exact Nat.le_refl _⟩, ⟨by (with_reducible repeat (first | refine z5 ?_ _ | refine y6 ?_ | refine y4 ?_ _)); exact BK162.out⟩, ⟨by repeat (first | (with_reducible first | exact HB.out | apply z4 | apply z1 | apply z3 | refine z7 ?_ GE162.out) | exact HB.out)⟩⟩
   ·replace c21 := Bool.eq_false_iff.mpr c21
    subst c21
    have H1 : (yf.j0 k true false a0_1 l0_2 a0_3) = some r := by rw [if_neg (show ¬ (false = true) by decide)] at H; exact H
    clear H
    have H := H1
    clear H1
    have H' := z2.mk H
    clear H
    have hcz24_0 : w18.cell? ⟨gb162, 0, none⟩ = some (.bool false) := (z6 BK162.out 0).trans rfl
    have hcz24_1 : w18.cell? ⟨gb162, 1, none⟩ = some (.int .i64 a0_1) := (z6 BK162.out 1).trans rfl
    have hcz24_2 : w18.cell? ⟨gb162, 2, none⟩ = some (.slice A0_2 l0_2.length c0_2) := (z6 BK162.out 2).trans rfl
    have hcz24_3 : w18.cell? ⟨gb162, 3, none⟩ = some (.int .i64 a0_3) := (z6 BK162.out 3).trans rfl
    have hfz24_0 := y5 BK162.out 0
    have hfz24_1 := y5 BK162.out 1
    have hfz24_2 := y5 BK162.out 2
    have hfz24_3 := y5 BK162.out 3
    go_wp2_with (first | ((with_reducible refine qb (f := 51) rfl ?_); refine zm (some 19) rfl rfl Try.func51 (by kernel_rfl) rfl #[.int .i64 a0_1] rfl (by (try simp only [List.map_toArray, List.map_cons, List.map_nil]); first | done | rfl | (simp only [List.length_drop, List.length_take]; rfl)) ?_; (with_reducible refine (z08.calls a0_1 false _ A20.out).mono ?_); rintro e w' ⟨rfl, ⟨nd, rfl⟩⟩; refine ⟨_, rfl, ?_⟩))
    go_meet
    case rel => exact ⟨_, (true), (by first | rfl | (simp; done) | (simp [*]; done)), H', ⟨by first | omega | exact Nat.le_refl _⟩, ⟨by (with_reducible repeat (first | refine z5 ?_ _ | refine y6 ?_ | refine y4 ?_ _)); exact BK162.out⟩, ⟨by repeat (first | (with_reducible first | exact HB.out | apply z4 | apply z1 | apply z3 | refine z7 ?_ GE162.out) | exact HB.out)⟩⟩
  case rest =>
   clear HC17
   try clear c1
   try clear c2
   try clear p2
   try clear c4
   try clear c4b0
   try clear c4b1
   try clear c5
   try clear c5b0
   try clear c5b1
   try clear c11
   try clear c21
   try clear hcz11_0
   try clear hcz11_1
   try clear hcz11_2
   try clear hcz11_3
   try clear hcz13_0
   try clear hcz13_1
   try clear hcz13_2
   try clear hcz13_3
   try clear hcz15_0
   try clear hcz15_1
   try clear hcz15_2
   try clear hcz15_3
   try clear hcz19_0
   try clear hcz19_1
   try clear hcz19_2
   try clear hcz19_3
   try clear hcz23_0
   try clear hcz23_1
   try clear hcz23_2
   try clear hcz23_3
   try clear hcz24_0
   try clear hcz24_1
   try clear hcz24_2
   try clear hcz24_3
   try clear hcz7_0
   try clear hcz7_1
   try clear hcz7_2
   try clear hcz7_3
   try clear hcz9_0
   try clear hcz9_1
   try clear hcz9_2
   try clear hcz9_3
   try clear hfz11_0
   try clear hfz11_1
   try clear hfz11_2
   try clear hfz11_3
   try clear hfz13_0
   try clear hfz13_1
   try clear hfz13_2
   try clear hfz13_3
   try clear hfz15_0
   try clear hfz15_1
   try clear hfz15_2
   try clear hfz15_3
   try clear hfz19_0
   try clear hfz19_1
   try clear hfz19_2
   try clear hfz19_3
   try clear hfz23_0
   try clear hfz23_1
   try clear hfz23_2
   try clear hfz23_3
   try clear hfz24_0
   try clear hfz24_1
   try clear hfz24_2
   try clear hfz24_3
   try clear hfz7_0
   try clear hfz7_1
   try clear hfz7_2
   try clear hfz7_3
   try clear hfz9_0
   try clear hfz9_1
   try clear hfz9_2
   try clear hfz9_3
   obtain ⟨kq, x15_16, rfl, HA, HJ16, BK162, HB⟩ := hcut
   cases kq with
   | zero => exact absurd HA.out (by simp [yf.j0])
   | succ kj16 =>
    have H := HA.out
    clear HA
    simp only [yf.j0] at H
    by_cases c25 : x15_16 = true
    ·subst c25
     have H1 : (some 3) = some r := by rw [if_pos rfl] at H; exact H
     clear H
     have H := H1
     clear H1
     obtain rfl := Option.some.inj H
     go_wp2
     go_ret
     exact ⟨by first | rfl | (simp [ya, qa] <;> rfl) | (simp [*, ya, qa] <;> rfl), by repeat (first | (with_reducible first | exact HB.out | apply z4 | apply z1 | apply z3 | refine z7 ?_ GE162.out) | exact HB.out)⟩
    ·replace c25 := Bool.eq_false_iff.mpr c25
     subst c25
     have H1 : (if (l0_2.length : Int) > 0 then (some 1) else (some 0)) = some r := by rw [if_neg (show ¬ (false = true) by decide)] at H; exact H
     clear H
     have H := H1
     clear H1
     by_cases c26 : (l0_2.length : Int) > 0
     ·rw [if_pos c26] at H
      have c26b0 : decide (0 < (l0_2.length : Int)) = true := decide_eq_true c26
      have c26b1 : decide (0 < l0_2.length) = true := decide_eq_true (by omega)
      clear c26
      obtain rfl := Option.some.inj H
      have hcz27_0 : wc.cell? ⟨gb162, 0, none⟩ = some (.bool false) := (z6 BK162.out 0).trans rfl
      have hcz27_1 : wc.cell? ⟨gb162, 1, none⟩ = some (.int .i64 a0_1) := (z6 BK162.out 1).trans rfl
      have hcz27_2 : wc.cell? ⟨gb162, 2, none⟩ = some (.slice A0_2 l0_2.length c0_2) := (z6 BK162.out 2).trans rfl
      have hcz27_3 : wc.cell? ⟨gb162, 3, none⟩ = some (.int .i64 a0_3) := (z6 BK162.out 3).trans rfl
      have hfz27_0 := y5 BK162.out 0
      have hfz27_1 := y5 BK162.out 1
      have hfz27_2 := y5 BK162.out 2
      have hfz27_3 := y5 BK162.out 3
      go_wp2
      go_ret
      exact ⟨by first | rfl | (simp [ya, qa] <;> rfl) | (simp [*, ya, qa] <;> rfl), by repeat (first | (with_reducible first | exact HB.out | apply z4 | apply z1 | apply z3 | refine z7 ?_ GE162.out) | exact HB.out)⟩
     ·rw [if_neg c26] at H
      have c26b0 : decide (0 < (l0_2.length : Int)) = false := decide_eq_false c26
      have c26b1 : decide (0 < l0_2.length) = false := decide_eq_false (by omega)
      clear c26
      obtain rfl := Option.some.inj H
      have hcz28_0 : wc.cell? ⟨gb162, 0, none⟩ = some (.bool false) := (z6 BK162.out 0).trans rfl
      have hcz28_1 : wc.cell? ⟨gb162, 1, none⟩ = some (.int .i64 a0_1) := (z6 BK162.out 1).trans rfl
      have hcz28_2 : wc.cell? ⟨gb162, 2, none⟩ = some (.slice A0_2 l0_2.length c0_2) := (z6 BK162.out 2).trans rfl
      have hcz28_3 : wc.cell? ⟨gb162, 3, none⟩ = some (.int .i64 a0_3) := (z6 BK162.out 3).trans rfl
      have hfz28_0 := y5 BK162.out 0
      have hfz28_1 := y5 BK162.out 1
      have hfz28_2 := y5 BK162.out 2
      have hfz28_3 := y5 BK162.out 3
      go_wp2
      go_ret
      exact ⟨by first | rfl | (simp [ya, qa] <;> rfl) | (simp [*, ya, qa] <;> rfl), by repeat (first | (with_reducible first | exact HB.out | apply z4 | apply z1 | apply z3 | refine z7 ?_ GE162.out) | exact HB.out)⟩
def q0a.f (a0_0 : Int) (a0_1 : Int) (a0_2 : Int) (a0_3 : Int) (a1_0 : Int) (a1_1 : Int) (a1_2 : Int) (a1_3 : Int) : Option (Bool) := if a0_0 = a1_0 then (if a0_1 = a1_1 then (if a0_2 = a1_2 then (if a0_3 = a1_3 then (some true) else (some false)) else (some false)) else (some false)) else (some false)
set_option maxHeartbeats 8000000 in
set_option maxRecDepth 100000 in
theorem q0a.calls (a0_0 : Int) (a0_1 : Int) (a0_2 : Int) (a0_3 : Int) (a1_0 : Int) (a1_1 : Int) (a1_2 : Int) (a1_3 : Int) (r : Bool) (w : World) (h : q0a.f a0_0 a0_1 a0_2 a0_3 a1_0 a1_1 a1_2 a1_3 = some r) :
  Calls Try.prog 152 #[.agg #[.int .i64 a0_0, .int .i64 a0_1, .int .i64 a0_2, .int .i64 a0_3], .agg #[.int .i64 a1_0, .int .i64 a1_1, .int .i64 a1_2, .int .i64 a1_3]] w fun e w' => e = .returned (.bool r) ∧ Below w.heap.size w w' := by
 have hu138 := Try.underlying138
 have HB := z2.mk (Below.refl w.heap.size w)
 have H : (if a0_0 = a1_0 then (if a0_1 = a1_1 then (if a0_2 = a1_2 then (if a0_3 = a1_3 then (some true) else (some false)) else (some false)) else (some false)) else (some false)) = some r := h
 clear h
 by_cases c3 : a0_0 = a1_0
 ·rw [if_pos c3] at H
  have c3b0 : (a0_0 == a1_0) = true := beq_iff_eq.mpr c3
  have c3b1 : (a0_0 != a1_0) = false := bne_eq_false_iff_eq.mpr c3
  clear c3
  by_cases c4 : a0_1 = a1_1
  ·rw [if_pos c4] at H
   have c4b0 : (a0_1 == a1_1) = true := beq_iff_eq.mpr c4
   have c4b1 : (a0_1 != a1_1) = false := bne_eq_false_iff_eq.mpr c4
   clear c4
   by_cases c5 : a0_2 = a1_2
   ·rw [if_pos c5] at H
    have c5b0 : (a0_2 == a1_2) = true := beq_iff_eq.mpr c5
    have c5b1 : (a0_2 != a1_2) = false := bne_eq_false_iff_eq.mpr c5
    clear c5
    by_cases c6 : a0_3 = a1_3
    ·rw [if_pos c6] at H
     have c6b0 : (a0_3 == a1_3) = true := beq_iff_eq.mpr c6
     have c6b1 : (a0_3 != a1_3) = false := bne_eq_false_iff_eq.mpr c6
     clear c6
     obtain rfl := Option.some.inj H
     go_enter Try.func152, Try.ntmps152
     go_wp2_with (first | ((with_reducible refine ye (N := 2) rfl ?_); refine ze ?hg (N := 2) ?hd (cs := #[.int .i64 a0_0, .int .i64 a0_1, .int .i64 a0_2, .int .i64 a0_3]) (t := 138) ?hr ?_; (case hd => rfl); (case hg => rfl); (case hr => first | (go_simp; done) | (go_simp; rfl)); intro gb166 hg w7 hbox hb; have n0_ := z2.mk (y8 (by repeat (first | (with_reducible first | exact HB.out | apply z4 | apply z1 | apply z3) | exact HB.out)) hb); have n1_ := z2.mk (hbox); have n2_ := z2.mk ((by rw [hg]; exact (z8 (by repeat (first | (with_reducible first | exact HB.out | apply z4 | apply z1 | apply z3) | exact HB.out))) : w.heap.size ≤ gb166)); have n3_ := z2.mk ((by rw [hg]; exact (z8 (by repeat (first | (with_reducible first | exact HB.out | apply z4 | apply z1 | apply z3) | exact HB.out))) : w.heap.size ≤ gb166)); clear HB; have HB := n0_; have BK166 := n1_; have GW166 := n2_; have GE166 := n3_; clear n0_ n1_ n2_ n3_ hb hbox hg) | ((with_reducible refine ye (N := 3) rfl ?_); refine ze ?hg (N := 3) ?hd (cs := #[.int .i64 a1_0, .int .i64 a1_1, .int .i64 a1_2, .int .i64 a1_3]) (t := 138) ?hr ?_; (case hd => rfl); (case hg => rfl); (case hr => first | (go_simp; done) | (go_simp; rfl)); intro gb167 hg w8 hbox hb; have n0_ := z2.mk (z9 (g := gb166) (o := .cells #[.int .i64 a0_0, .int .i64 a0_1, .int .i64 a0_2, .int .i64 a0_3] 138 (0, 0)) (by (with_reducible repeat (first | refine z5 ?_ _ | refine y6 ?_ | refine y4 ?_ _)); exact BK166.out) hb); have n1_ := z2.mk (y8 (by repeat (first | (with_reducible first | exact HB.out | apply z4 | apply z1 | apply z3 | refine z7 ?_ GE166.out) | exact HB.out)) hb); have n2_ := z2.mk (hbox); have n3_ := z2.mk ((by rw [hg]; exact (z8 (by repeat (first | (with_reducible first | exact HB.out | apply z4 | apply z1 | apply z3 | refine z7 ?_ GE166.out) | exact HB.out))) : w.heap.size ≤ gb167)); have n4_ := z2.mk ((by rw [hg]; exact (z8 (by repeat (first | (with_reducible first | exact HB.out | apply z4 | apply z1 | apply z3 | refine z7 ?_ GE166.out) | exact HB.out))) : w.heap.size ≤ gb167)); have n5_ := z2.mk ((by rw [hg]; exact Nat.ne_of_lt (qk (g := gb166) (o := .cells #[.int .i64 a0_0, .int .i64 a0_1, .int .i64 a0_2, .int .i64 a0_3] 138 (0, 0)) (by (with_reducible repeat (first | refine z5 ?_ _ | refine y6 ?_ | refine y4 ?_ _)); exact BK166.out)) : gb166 ≠ gb167)); have n6_ := z2.mk ((by rw [hg]; exact Nat.ne_of_gt (qk (g := gb166) (o := .cells #[.int .i64 a0_0, .int .i64 a0_1, .int .i64 a0_2, .int .i64 a0_3] 138 (0, 0)) (by (with_reducible repeat (first | refine z5 ?_ _ | refine y6 ?_ | refine y4 ?_ _)); exact BK166.out)) : gb167 ≠ gb166)); clear BK166 HB; have BK166 := n0_; have HB := n1_; have BK167 := n2_; have GW167 := n3_; have GE167 := n4_; have NB166_167 := n5_; have NB167_166 := n6_; clear n0_ n1_ n2_ n3_ n4_ n5_ n6_ hb hbox hg; have hnb9 := NB166_167.out; have hnc9 := NB167_166.out; have hcz10_0 : w8.cell? ⟨gb166, 0, none⟩ = some (.int .i64 a0_0) := (z6 BK166.out 0).trans rfl; have hcz10_1 : w8.cell? ⟨gb166, 1, none⟩ = some (.int .i64 a0_1) := (z6 BK166.out 1).trans rfl; have hcz10_2 : w8.cell? ⟨gb166, 2, none⟩ = some (.int .i64 a0_2) := (z6 BK166.out 2).trans rfl; have hcz10_3 : w8.cell? ⟨gb166, 3, none⟩ = some (.int .i64 a0_3) := (z6 BK166.out 3).trans rfl; have hfz10_0 := y5 BK166.out 0; have hfz10_1 := y5 BK166.out 1; have hfz10_2 := y5 BK166.out 2; have hfz10_3 := y5 BK166.out 3; have hcz11_0 : w8.cell? ⟨gb167, 0, none⟩ = some (.int .i64 a1_0) := (z6 BK167.out 0).trans rfl; have hcz11_1 : w8.cell? ⟨gb167, 1, none⟩ = some (.int .i64 a1_1) := (z6 BK167.out 1).trans rfl; have hcz11_2 : w8.cell? ⟨gb167, 2, none⟩ = some (.int .i64 a1_2) := (z6 BK167.out 2).trans rfl; have hcz11_3 : w8.cell? ⟨gb167, 3, none⟩ = some (.int .i64 a1_3) := (z6 BK167.out 3).trans rfl; have hfz11_0 := y5 BK167.out 0; have hfz11_1 := y5 BK167.out 1; have hfz11_2 := y5 BK167.out 2; have hfz11_3 := y5 BK167.out 3))
     go_ret
     exact ⟨by first | rfl | (simp [ya, qa] <;> rfl) | (simp [*, ya, qa] <;> rfl), by repeat (first | (with_reducible first | exact HB.out | apply z4 | apply z1 | apply z3 | refine z7 ?_ GE166.out | refine z7 ?_ GE167.out) | exact HB.out)⟩
    ·rw [if_neg c6] at H
     have c6b0 : (a0_3 == a1_3) = false := beq_eq_false_iff_ne.mpr c6
     have c6b1 : (a0_3 != a1_3) = true := bne_iff_ne.mpr c6
     obtain rfl := Option.some.inj H
     go_enter Try.func152, Try.ntmps152
     go_wp2_with (first | ((with_reducible refine ye (N := 2) rfl ?_); refine ze ?hg (N := 2) ?hd (cs := #[.int .i64 a0_0, .int .i64 a0_1, .int .i64 a0_2, .int .i64 a0_3]) (t := 138) ?hr ?_; (case hd => rfl); (case hg => rfl); (case hr => first | (go_simp; done) | (go_simp; rfl)); intro gb166 hg w12 hbox hb; have n0_ := z2.mk (y8 (by repeat (first | (with_reducible first | exact HB.out | apply z4 | apply z1 | apply z3) | exact HB.out)) hb); have n1_ := z2.mk (hbox); have n2_ := z2.mk ((by rw [hg]; exact (z8 (by repeat (first | (with_reducible first | exact HB.out | apply z4 | apply z1 | apply z3) | exact HB.out))) : w.heap.size ≤ gb166)); have n3_ := z2.mk ((by rw [hg]; exact (z8 (by repeat (first | (with_reducible first | exact HB.out | apply z4 | apply z1 | apply z3) | exact HB.out))) : w.heap.size ≤ gb166)); clear HB; have HB := n0_; have BK166 := n1_; have GW166 := n2_; have GE166 := n3_; clear n0_ n1_ n2_ n3_ hb hbox hg) | ((with_reducible refine ye (N := 3) rfl ?_); refine ze ?hg (N := 3) ?hd (cs := #[.int .i64 a1_0, .int .i64 a1_1, .int .i64 a1_2, .int .i64 a1_3]) (t := 138) ?hr ?_; (case hd => rfl); (case hg => rfl); (case hr => first | (go_simp; done) | (go_simp; rfl)); intro gb167 hg w13 hbox hb; have n0_ := z2.mk (z9 (g := gb166) (o := .cells #[.int .i64 a0_0, .int .i64 a0_1, .int .i64 a0_2, .int .i64 a0_3] 138 (0, 0)) (by (with_reducible repeat (first | refine z5 ?_ _ | refine y6 ?_ | refine y4 ?_ _)); exact BK166.out) hb); have n1_ := z2.mk (y8 (by repeat (first | (with_reducible first | exact HB.out | apply z4 | apply z1 | apply z3 | refine z7 ?_ GE166.out) | exact HB.out)) hb); have n2_ := z2.mk (hbox); have n3_ := z2.mk ((by rw [hg]; exact (z8 (by repeat (first | (with_reducible first | exact HB.out | apply z4 | apply z1 | apply z3 | refine z7 ?_ GE166.out) | exact HB.out))) : w.heap.size ≤ gb167)); have n4_ := z2.mk ((by rw [hg]; exact (z8 (by repeat (first | (with_reducible first | exact HB.out | apply z4 | apply z1 | apply z3 | refine z7 ?_ GE166.out) | exact HB.out))) : w.heap.size ≤ gb167)); have n5_ := z2.mk ((by rw [hg]; exact Nat.ne_of_lt (qk (g := gb166) (o := .cells #[.int .i64 a0_0, .int .i64 a0_1, .int .i64 a0_2, .int .i64 a0_3] 138 (0, 0)) (by (with_reducible repeat (first | refine z5 ?_ _ | refine y6 ?_ | refine y4 ?_ _)); exact BK166.out)) : gb166 ≠ gb167)); have n6_ := z2.mk ((by rw [hg]; exact Nat.ne_of_gt (qk (g := gb166) (o := .cells #[.int .i64 a0_0, .int .i64 a0_1, .int .i64 a0_2, .int .i64 a0_3] 138 (0, 0)) (by (with_reducible repeat (first | refine z5 ?_ _ | refine y6 ?_ | refine y4 ?_ _)); exact BK166.out)) : gb167 ≠ gb166)); clear BK166 HB; have BK166 := n0_; have HB := n1_; have BK167 := n2_; have GW167 := n3_; have GE167 := n4_; have NB166_167 := n5_; have NB167_166 := n6_; clear n0_ n1_ n2_ n3_ n4_ n5_ n6_ hb hbox hg; have hnb14 := NB166_167.out; have hnc14 := NB167_166.out; have hcz15_0 : w13.cell? ⟨gb166, 0, none⟩ = some (.int .i64 a0_0) := (z6 BK166.out 0).trans rfl; have hcz15_1 : w13.cell? ⟨gb166, 1, none⟩ = some (.int .i64 a0_1) := (z6 BK166.out 1).trans rfl; have hcz15_2 : w13.cell? ⟨gb166, 2, none⟩ = some (.int .i64 a0_2) := (z6 BK166.out 2).trans rfl; have hcz15_3 : w13.cell? ⟨gb166, 3, none⟩ = some (.int .i64 a0_3) := (z6 BK166.out 3).trans rfl; have hfz15_0 := y5 BK166.out 0; have hfz15_1 := y5 BK166.out 1; have hfz15_2 := y5 BK166.out 2; have hfz15_3 := y5 BK166.out 3; have hcz16_0 : w13.cell? ⟨gb167, 0, none⟩ = some (.int .i64 a1_0) := (z6 BK167.out 0).trans rfl; have hcz16_1 : w13.cell? ⟨gb167, 1, none⟩ = some (.int .i64 a1_1) := (z6 BK167.out 1).trans rfl; have hcz16_2 : w13.cell? ⟨gb167, 2, none⟩ = some (.int .i64 a1_2) := (z6 BK167.out 2).trans rfl; have hcz16_3 : w13.cell? ⟨gb167, 3, none⟩ = some (.int .i64 a1_3) := (z6 BK167.out 3).trans rfl; have hfz16_0 := y5 BK167.out 0; have hfz16_1 := y5 BK167.out 1; have hfz16_2 := y5 BK167.out 2; have hfz16_3 := y5 BK167.out 3))
     go_ret
     exact ⟨by first | rfl | (simp [ya, qa] <;> rfl) | (simp [*, ya, qa] <;> rfl), by repeat (first | (with_reducible first | exact HB.out | apply z4 | apply z1 | apply z3 | refine z7 ?_ GE166.out | refine z7 ?_ GE167.out) | exact HB.out)⟩
   ·rw [if_neg c5] at H
    have c5b0 : (a0_2 == a1_2) = false := beq_eq_false_iff_ne.mpr c5
    have c5b1 : (a0_2 != a1_2) = true := bne_iff_ne.mpr c5
    obtain rfl := Option.some.inj H
    go_enter Try.func152, Try.ntmps152
    go_wp2_with (first | ((with_reducible refine ye (N := 2) rfl ?_); refine ze ?hg (N := 2) ?hd (cs := #[.int .i64 a0_0, .int .i64 a0_1, .int .i64 a0_2, .int .i64 a0_3]) (t := 138) ?hr ?_; (case hd => rfl); (case hg => rfl); (case hr => first | (go_simp; done) | (go_simp; rfl)); intro gb166 hg w17 hbox hb; have n0_ := z2.mk (y8 (by repeat (first | (with_reducible first | exact HB.out | apply z4 | apply z1 | apply z3) | exact HB.out)) hb); have n1_ := z2.mk (hbox); have n2_ := z2.mk ((by rw [hg]; exact (z8 (by repeat (first | (with_reducible first | exact HB.out | apply z4 | apply z1 | apply z3) | exact HB.out))) : w.heap.size ≤ gb166)); have n3_ := z2.mk ((by rw [hg]; exact (z8 (by repeat (first | (with_reducible first | exact HB.out | apply z4 | apply z1 | apply z3) | exact HB.out))) : w.heap.size ≤ gb166)); clear HB; have HB := n0_; have BK166 := n1_; have GW166 := n2_; have GE166 := n3_; clear n0_ n1_ n2_ n3_ hb hbox hg) | ((with_reducible refine ye (N := 3) rfl ?_); refine ze ?hg (N := 3) ?hd (cs := #[.int .i64 a1_0, .int .i64 a1_1, .int .i64 a1_2, .int .i64 a1_3]) (t := 138) ?hr ?_; (case hd => rfl); (case hg => rfl); (case hr => first | (go_simp; done) | (go_simp; rfl)); intro gb167 hg w18 hbox hb; have n0_ := z2.mk (z9 (g := gb166) (o := .cells #[.int .i64 a0_0, .int .i64 a0_1, .int .i64 a0_2, .int .i64 a0_3] 138 (0, 0)) (by (with_reducible repeat (first | refine z5 ?_ _ | refine y6 ?_ | refine y4 ?_ _)); exact BK166.out) hb); have n1_ := z2.mk (y8 (by repeat (first | (with_reducible first | exact HB.out | apply z4 | apply z1 | apply z3 | refine z7 ?_ GE166.out) | exact HB.out)) hb); have n2_ := z2.mk (hbox); have n3_ := z2.mk ((by rw [hg]; exact (z8 (by repeat (first | (with_reducible first | exact HB.out | apply z4 | apply z1 | apply z3 | refine z7 ?_ GE166.out) | exact HB.out))) : w.heap.size ≤ gb167)); have n4_ := z2.mk ((by rw [hg]; exact (z8 (by repeat (first | (with_reducible first | exact HB.out | apply z4 | apply z1 | apply z3 | refine z7 ?_ GE166.out) | exact HB.out))) : w.heap.size ≤ gb167)); have n5_ := z2.mk ((by rw [hg]; exact Nat.ne_of_lt (qk (g := gb166) (o := .cells #[.int .i64 a0_0, .int .i64 a0_1, .int .i64 a0_2, .int .i64 a0_3] 138 (0, 0)) (by (with_reducible repeat (first | refine z5 ?_ _ | refine y6 ?_ | refine y4 ?_ _)); exact BK166.out)) : gb166 ≠ gb167)); have n6_ := z2.mk ((by rw [hg]; exact Nat.ne_of_gt (qk (g := gb166) (o := .cells #[.int .i64 a0_0, .int .i64 a0_1, .int .i64 a0_2, .int .i64 a0_3] 138 (0, 0)) (by (with_reducible repeat (first | refine z5 ?_ _ | refine y6 ?_ | refine y4 ?_ _)); exact BK166.out)) : gb167 ≠ gb166)); clear BK166 HB; have BK166 := n0_; have HB := n1_; have BK167 := n2_; have GW167 := n3_; have GE167 := n4_; have NB166_167 := n5_; have NB167_166 := n6_; clear n0_ n1_ n2_ n3_ n4_ n5_ n6_ hb hbox hg; have hnb19 := NB166_167.out; have hnc19 := NB167_166.out; have hcz20_0 : w18.cell? ⟨gb166, 0, none⟩ = some (.int .i64 a0_0) := (z6 BK166.out 0).trans rfl; have hcz20_1 : w18.cell? ⟨gb166, 1, none⟩ = some (.int .i64 a0_1) := (z6 BK166.out 1).trans rfl; have hcz20_2 : w18.cell? ⟨gb166, 2, none⟩ = some (.int .i64 a0_2) := (z6 BK166.out 2).trans rfl; have hcz20_3 : w18.cell? ⟨gb166, 3, none⟩ = some (.int .i64 a0_3) := (z6 BK166.out 3).trans rfl; have hfz20_0 := y5 BK166.out 0; have hfz20_1 := y5 BK166.out 1; have hfz20_2 := y5 BK166.out 2; have hfz20_3 := y5 BK166.out 3; have hcz21_0 : w18.cell? ⟨gb167, 0, none⟩ = some (.int .i64 a1_0) := (z6 BK167.out 0).trans rfl; have hcz21_1 : w18.cell? ⟨gb167, 1, none⟩ = some (.int .i64 a1_1) := (z6 BK167.out 1).trans rfl; have hcz21_2 : w18.cell? ⟨gb167, 2, none⟩ = some (.int .i64 a1_2) := (z6 BK167.out 2).trans rfl; have hcz21_3 : w18.cell? ⟨gb167, 3, none⟩ = some (.int .i64 a1_3) := (z6 BK167.out 3).trans rfl; have hfz21_0 := y5 BK167.out 0; have hfz21_1 := y5 BK167.out 1; have hfz21_2 := y5 BK167.out 2; have hfz21_3 := y5 BK167.out 3))
    go_ret
    exact ⟨by first | rfl | (simp [ya, qa] <;> rfl) | (simp [*, ya, qa] <;> rfl), by repeat (first | (with_reducible first | exact HB.out | apply z4 | apply z1 | apply z3 | refine z7 ?_ GE166.out | refine z7 ?_ GE167.out) | exact HB.out)⟩
  ·rw [if_neg c4] at H
   have c4b0 : (a0_1 == a1_1) = false := beq_eq_false_iff_ne.mpr c4
   have c4b1 : (a0_1 != a1_1) = true := bne_iff_ne.mpr c4
   obtain rfl := Option.some.inj H
   go_enter Try.func152, Try.ntmps152
   go_wp2_with (first | ((with_reducible refine ye (N := 2) rfl ?_); refine ze ?hg (N := 2) ?hd (cs := #[.int .i64 a0_0, .int .i64 a0_1, .int .i64 a0_2, .int .i64 a0_3]) (t := 138) ?hr ?_; (case hd => rfl); (case hg => rfl); (case hr => first | (go_simp; done) | (go_simp; rfl)); intro gb166 hg w22 hbox hb; have n0_ := z2.mk (y8 (by repeat (first | (with_reducible first | exact HB.out | apply z4 | apply z1 | apply z3) | exact HB.out)) hb); have n1_ := z2.mk (hbox); have n2_ := z2.mk ((by rw [hg]; exact (z8 (by repeat (first | (with_reducible first | exact HB.out | apply z4 | apply z1 | apply z3) | exact HB.out))) : w.heap.size ≤ gb166)); have n3_ := z2.mk ((by rw [hg]; exact (z8 (by repeat (first | (with_reducible first | exact HB.out | apply z4 | apply z1 | apply z3) | exact HB.out))) : w.heap.size ≤ gb166)); clear HB; have HB := n0_; have BK166 := n1_; have GW166 := n2_; have GE166 := n3_; clear n0_ n1_ n2_ n3_ hb hbox hg) | ((with_reducible refine ye (N := 3) rfl ?_); refine ze ?hg (N := 3) ?hd (cs := #[.int .i64 a1_0, .int .i64 a1_1, .int .i64 a1_2, .int .i64 a1_3]) (t := 138) ?hr ?_; (case hd => rfl); (case hg => rfl); (case hr => first | (go_simp; done) | (go_simp; rfl)); intro gb167 hg w23 hbox hb; have n0_ := z2.mk (z9 (g := gb166) (o := .cells #[.int .i64 a0_0, .int .i64 a0_1, .int .i64 a0_2, .int .i64 a0_3] 138 (0, 0)) (by (with_reducible repeat (first | refine z5 ?_ _ | refine y6 ?_ | refine y4 ?_ _)); exact BK166.out) hb); have n1_ := z2.mk (y8 (by repeat (first | (with_reducible first | exact HB.out | apply z4 | apply z1 | apply z3 | refine z7 ?_ GE166.out) | exact HB.out)) hb); have n2_ := z2.mk (hbox); have n3_ := z2.mk ((by rw [hg]; exact (z8 (by repeat (first | (with_reducible first | exact HB.out | apply z4 | apply z1 | apply z3 | refine z7 ?_ GE166.out) | exact HB.out))) : w.heap.size ≤ gb167)); have n4_ := z2.mk ((by rw [hg]; exact (z8 (by repeat (first | (with_reducible first | exact HB.out | apply z4 | apply z1 | apply z3 | refine z7 ?_ GE166.out) | exact HB.out))) : w.heap.size ≤ gb167)); have n5_ := z2.mk ((by rw [hg]; exact Nat.ne_of_lt (qk (g := gb166) (o := .cells #[.int .i64 a0_0, .int .i64 a0_1, .int .i64 a0_2, .int .i64 a0_3] 138 (0, 0)) (by (with_reducible repeat (first | refine z5 ?_ _ | refine y6 ?_ | refine y4 ?_ _)); exact BK166.out)) : gb166 ≠ gb167)); have n6_ := z2.mk ((by rw [hg]; exact Nat.ne_of_gt (qk (g := gb166) (o := .cells #[.int .i64 a0_0, .int .i64 a0_1, .int .i64 a0_2, .int .i64 a0_3] 138 (0, 0)) (by (with_reducible repeat (first | refine z5 ?_ _ | refine y6 ?_ | refine y4 ?_ _)); exact BK166.out)) : gb167 ≠ gb166)); clear BK166 HB; have BK166 := n0_; have HB := n1_; have BK167 := n2_; have GW167 := n3_; have GE167 := n4_; have NB166_167 := n5_; have NB167_166 := n6_; clear n0_ n1_ n2_ n3_ n4_ n5_ n6_ hb hbox hg; have hnb24 := NB166_167.out; have hnc24 := NB167_166.out; have hcz25_0 : w23.cell? ⟨gb166, 0, none⟩ = some (.int .i64 a0_0) := (z6 BK166.out 0).trans rfl; have hcz25_1 : w23.cell? ⟨gb166, 1, none⟩ = some (.int .i64 a0_1) := (z6 BK166.out 1).trans rfl; have hcz25_2 : w23.cell? ⟨gb166, 2, none⟩ = some (.int .i64 a0_2) := (z6 BK166.out 2).trans rfl; have hcz25_3 : w23.cell? ⟨gb166, 3, none⟩ = some (.int .i64 a0_3) := (z6 BK166.out 3).trans rfl; have hfz25_0 := y5 BK166.out 0; have hfz25_1 := y5 BK166.out 1; have hfz25_2 := y5 BK166.out 2; have hfz25_3 := y5 BK166.out 3; have hcz26_0 : w23.cell? ⟨gb167, 0, none⟩ = some (.int .i64 a1_0) := (z6 BK167.out 0).trans rfl; have hcz26_1 : w23.cell? ⟨gb167, 1, none⟩ = some (.int .i64 a1_1) := (z6 BK167.out 1).trans rfl; have hcz26_2 : w23.cell? ⟨gb167, 2, none⟩ = some (.int .i64 a1_2) := (z6 BK167.out 2).trans rfl; have hcz26_3 : w23.cell? ⟨gb167, 3, none⟩ = some (.int .i64 a1_3) := (z6 BK167.out 3).trans rfl; have hfz26_0 := y5 BK167.out 0; have hfz26_1 := y5 BK167.out 1; have hfz26_2 := y5 BK167.out 2; have hfz26_3 := y5 BK167.out 3))
   go_ret
   exact ⟨by first | rfl | (simp [ya, qa] <;> rfl) | (simp [*, ya, qa] <;> rfl), by repeat (first | (with_reducible first | exact HB.out | apply z4 | apply z1 | apply z3 | refine z7 ?_ GE166.out | refine z7 ?_ GE167.out) | exact HB.out)⟩
 ·rw [if_neg c3] at H
  have c3b0 : (a0_0 == a1_0) = false := beq_eq_false_iff_ne.mpr c3
  have c3b1 : (a0_0 != a1_0) = true := bne_iff_ne.mpr c3
  obtain rfl := Option.some.inj H
  go_enter Try.func152, Try.ntmps152
  go_wp2_with (first | ((with_reducible refine ye (N := 2) rfl ?_); refine ze ?hg (N := 2) ?hd (cs := #[.int .i64 a0_0, .int .i64 a0_1, .int .i64 a0_2, .int .i64 a0_3]) (t := 138) ?hr ?_; (case hd => rfl); (case hg => rfl); (case hr => first | (go_simp; done) | (go_simp; rfl)); intro gb166 hg w27 hbox hb; have n0_ := z2.mk (y8 (by repeat (first | (with_reducible first | exact HB.out | apply z4 | apply z1 | apply z3) | exact HB.out)) hb); have n1_ := z2.mk (hbox); have n2_ := z2.mk ((by rw [hg]; exact (z8 (by repeat (first | (with_reducible first | exact HB.out | apply z4 | apply z1 | apply z3) | exact HB.out))) : w.heap.size ≤ gb166)); have n3_ := z2.mk ((by rw [hg]; exact (z8 (by repeat (first | (with_reducible first | exact HB.out | apply z4 | apply z1 | apply z3) | exact HB.out))) : w.heap.size ≤ gb166)); clear HB; have HB := n0_; have BK166 := n1_; have GW166 := n2_; have GE166 := n3_; clear n0_ n1_ n2_ n3_ hb hbox hg) | ((with_reducible refine ye (N := 3) rfl ?_); refine ze ?hg (N := 3) ?hd (cs := #[.int .i64 a1_0, .int .i64 a1_1, .int .i64 a1_2, .int .i64 a1_3]) (t := 138) ?hr ?_; (case hd => rfl); (case hg => rfl); (case hr => first | (go_simp; done) | (go_simp; rfl)); intro gb167 hg w28 hbox hb; have n0_ := z2.mk (z9 (g := gb166) (o := .cells #[.int .i64 a0_0, .int .i64 a0_1, .int .i64 a0_2, .int .i64 a0_3] 138 (0, 0)) (by (with_reducible repeat (first | refine z5 ?_ _ | refine y6 ?_ | refine y4 ?_ _)); exact BK166.out) hb); have n1_ := z2.mk (y8 (by repeat (first | (with_reducible first | exact HB.out | apply z4 | apply z1 | apply z3 | refine z7 ?_ GE166.out) | exact HB.out)) hb); have n2_ := z2.mk (hbox); have n3_ := z2.mk ((by rw [hg]; exact (z8 (by repeat (first | (with_reducible first | exact HB.out | apply z4 | apply z1 | apply z3 | refine z7 ?_ GE166.out) | exact HB.out))) : w.heap.size ≤ gb167)); have n4_ := z2.mk ((by rw [hg]; exact (z8 (by repeat (first | (with_reducible first | exact HB.out | apply z4 | apply z1 | apply z3 | refine z7 ?_ GE166.out) | exact HB.out))) : w.heap.size ≤ gb167)); have n5_ := z2.mk ((by rw [hg]; exact Nat.ne_of_lt (qk (g := gb166) (o := .cells #[.int .i64 a0_0, .int .i64 a0_1, .int .i64 a0_2, .int .i64 a0_3] 138 (0, 0)) (by (with_reducible repeat (first | refine z5 ?_ _ | refine y6 ?_ | refine y4 ?_ _)); exact BK166.out)) : gb166 ≠ gb167)); have n6_ := z2.mk ((by rw [hg]; exact Nat.ne_of_gt (qk (g := gb166) (o := .cells #[.int .i64 a0_0, .int .i64 a0_1, .int .i64 a0_2, .int .i64 a0_3] 138 (0, 0)) (by (with_reducible repeat (first | refine z5 ?_ _ | refine y6 ?_ | refine y4 ?_ _)); exact BK166.out)) : gb167 ≠ gb166)); clear BK166 HB; have BK166 := n0_; have HB := n1_; have BK167 := n2_; have GW167 := n3_; have GE167 := n4_; have NB166_167 := n5_; have NB167_166 := n6_; clear n0_ n1_ n2_ n3_ n4_ n5_ n6_ hb hbox hg; have hnb29 := NB166_167.out; have hnc29 := NB167_166.out; have hcz30_0 : w28.cell? ⟨gb166, 0, none⟩ = some (.int .i64 a0_0) := (z6 BK166.out 0).trans rfl; have hcz30_1 : w28.cell? ⟨gb166, 1, none⟩ = some (.int .i64 a0_1) := (z6 BK166.out 1).trans rfl; have hcz30_2 : w28.cell? ⟨gb166, 2, none⟩ = some (.int .i64 a0_2) := (z6 BK166.out 2).trans rfl; have hcz30_3 : w28.cell? ⟨gb166, 3, none⟩ = some (.int .i64 a0_3) := (z6 BK166.out 3).trans rfl; have hfz30_0 := y5 BK166.out 0; have hfz30_1 := y5 BK166.out 1; have hfz30_2 := y5 BK166.out 2; have hfz30_3 := y5 BK166.out 3; have hcz31_0 : w28.cell? ⟨gb167, 0, none⟩ = some (.int .i64 a1_0) := (z6 BK167.out 0).trans rfl; have hcz31_1 : w28.cell? ⟨gb167, 1, none⟩ = some (.int .i64 a1_1) := (z6 BK167.out 1).trans rfl; have hcz31_2 : w28.cell? ⟨gb167, 2, none⟩ = some (.int .i64 a1_2) := (z6 BK167.out 2).trans rfl; have hcz31_3 : w28.cell? ⟨gb167, 3, none⟩ = some (.int .i64 a1_3) := (z6 BK167.out 3).trans rfl; have hfz31_0 := y5 BK167.out 0; have hfz31_1 := y5 BK167.out 1; have hfz31_2 := y5 BK167.out 2; have hfz31_3 := y5 BK167.out 3))
  go_ret
  exact ⟨by first | rfl | (simp [ya, qa] <;> rfl) | (simp [*, ya, qa] <;> rfl), by repeat (first | (with_reducible first | exact HB.out | apply z4 | apply z1 | apply z3 | refine z7 ?_ GE166.out | refine z7 ?_ GE167.out) | exact HB.out)⟩
end Go.Proofs.Ytkeojolmapcgbaa.PEv
end
