/- WHAT IS PROVED: parts of the proof of FnExactUnpackEvent: what each Go function that it reaches answers, and plain lemmas; no condition beyond those that each theorem names. -/
import Derived.Test.YtkeojolmapcgbaaCUnp5
section
namespace Go.Proofs.Ytkeojolmapcgbaa.PEv
open Go.RowKit Go.Proofs.YtkeojolmapcgbaaW.PrintWords Go.Proofs.YtkeojolmapcgbaaW.PrintLast Go.Proofs.YtkeojolmapcgbaaW.PrintMore
set_option linter.unusedVariables false
set_option linter.unusedSimpArgs false
mutual
def yb.j0 : Nat → List Int → Bool → Bool → Int → Int → Option (Bool × Int × (List (yl)) × Int × Bool)
 | 0, _, _, _, _, _ => none
 | k + 1, x0, x7, x446000, x446001, x446003 => if x7 = true then (if 1 ≤ (x0.length : Int) then ((yc.f k (x0.drop 1)).bind fun bt448 => ((yf.f k true bt448.2.1 bt448.2.2 0).bind fun t454 => (if t454 = 0 then ((qo.f k true bt448.2.1 bt448.2.2 0).bind fun t455 => ((zo.f t455 x0).bind fun t458 => (some (true, bt448.2.1, bt448.2.2, 0, t458)))) else (some (true, bt448.2.1, bt448.2.2, 0, false))))) else (none)) else (if (x0.length : Int) = 10 then (if 0 < (x0.length : Int) then (yb.j1 k x0 ((rd x0 0) == 2) x446000 x446001 x446003) else (none)) else (yb.j1 k x0 false x446000 x446001 x446003))
def yb.j1 : Nat → List Int → Bool → Bool → Int → Int → Option (Bool × Int × (List (yl)) × Int × Bool)
 | 0, _, _, _, _, _ => none
 | k + 1, x0, x23, x446000, x446001, x446003 => if x23 = true then (if 1 ≤ 9 then (if 9 ≤ (x0.length : Int) then ((zi.f k ((x0.take 9).drop 1)).bind fun bt461 => (if 9 < (x0.length : Int) then ((yf.f k false bt461.2 ([] : List (yl)) (wrap64 (rd x0 9))).bind fun t464 => (if t464 = 0 then ((qo.f k false bt461.2 ([] : List (yl)) (wrap64 (rd x0 9))).bind fun t465 => ((zo.f t465 x0).bind fun t468 => (some (false, bt461.2, ([] : List (yl)), wrap64 (rd x0 9), t468)))) else (some (false, bt461.2, ([] : List (yl)), wrap64 (rd x0 9), false)))) else (none))) else (none)) else (none)) else ((yf.f k x446000 x446001 ([] : List (yl)) x446003).bind fun t469 => (if t469 = 0 then ((qo.f k x446000 x446001 ([] : List (yl)) x446003).bind fun t470 => ((zo.f t470 x0).bind fun t473 => (some (x446000, x446001, ([] : List (yl)), x446003, t473)))) else (some (x446000, x446001, ([] : List (yl)), x446003, false))))
end
def yb.f (k : Nat) (l0 : List Int) : Option (Bool × Int × (List (yl)) × Int × Bool) := if (l0.length : Int) > 0 then (if 0 < (l0.length : Int) then (yb.j0 k l0 ((rd l0 0) == 1) false 0 0) else (none)) else (yb.j0 k l0 false false 0 0)
def yb.T6 : Bool × List (List Nat × List Nat) := (true, [([], []), ([0], [0]), ([1], [1]), ([2], [2]), ([3], [3]), ([], []), ([5], [5]), ([6], [6]), ([7], [7]), ([4, 8], [4, 8]), ([9, 2, 0, 1, 2, 3, 4, 5, 6, 7, 8, 9], [9])])
def yb.B6 : List Nat := [0, 1, 3, 7, 15, 0, 32, 96, 224, 511, 1023]
theorem yb.q2o : z0s .any (opsOf Try.f59 6) = yb.T6 := by kernel_rfl
theorem yb.q1v : z0h yb.T6.2 yb.B6 = true := by kernel_rfl
def yb.T7 : Bool × List (List Nat × List Nat) := (true, [([], []), ([], []), ([1], [1]), ([2], [2]), ([3, 2], [3]), ([4], [4]), ([5, 4, 4], [4, 5]), ([4], [4]), ([6, 7, 6, 4], [4, 6, 7]), ([4, 8], [4, 8]), ([0, 8, 0], [0]), ([9, 10, 0, 1, 2, 3, 4, 5, 6, 7, 8, 9, 10], [9])])
def yb.B7 : List Nat := [0, 0, 2, 6, 14, 30, 62, 30, 254, 510, 511, 2047]
theorem yb.z2j : z0s .any (opsOf Try.f59 7) = yb.T7 := by kernel_rfl
theorem yb.q1p : z0h yb.T7.2 yb.B7 = true := by kernel_rfl
set_option maxHeartbeats 8000000 in
set_option maxRecDepth 100000 in
theorem yb.calls (k : Nat) (A0 : Option Addr) (c0 : Nat) (l0 : List Int) (r1 : Bool) (r2 : Int) (r3 : List (yl)) (r4 : Int) (r5 : Bool) (w : World) (hr0 : Kd.C (Kd.int .u8) w A0 l0.length l0) (hc0 : l0.length ≤ c0) (h : yb.f k l0 = some (r1, r2, r3, r4, r5)) :
  Calls Try.prog 59 #[.slice A0 l0.length c0] w fun e w' => ∃ v2_ : Value, e = .returned (.tuple #[.agg #[.bool r1, .int .i64 r2, v2_, .int .i64 r4], .bool r5]) ∧ Kd.R y08 138 w' w.heap.size (fun _ => True) v2_ r3 ∧ Below w.heap.size w w' := by
 have hfd_156_1 : ∀ (x0_ x1_ : Value) (w_ : World), (Instr.field 156 (.agg #[x0_, x1_]) 1).run Try.prog w_ = .ok x1_ w_ := fun _ _ _ => by kernel_rfl
 have hu33 := Try.underlying33
 have hu153 := Try.underlying153
 have hu31 := Try.underlying31
 have HR0 := z2.mk hr0
 have HC0 := z2.mk hc0
 clear hr0 hc0
 have HB := z2.mk (Below.refl w.heap.size w)
 have H : (if (l0.length : Int) > 0 then (if 0 < (l0.length : Int) then (yb.j0 k l0 ((rd l0 0) == 1) false 0 0) else (none)) else (yb.j0 k l0 false false 0 0)) = some (r1, r2, r3, r4, r5) := h
 clear h
 have HC2 := z2.mk H
 clear H
 go_enter Try.func59, Try.ntmps59
 go_upto_region 2 with (first | ((with_reducible refine ye (N := 2) rfl ?_); refine ze ?hg (N := 2) ?hd (cs := #[.bool false, .int .i64 0, .slice none 0 0, .int .i64 0]) (t := 33) ?hr ?_; (case hd => rfl); (case hg => rfl); (case hr => first | (go_simp; done) | (go_simp; rfl)); intro gb444 hg w3 hbox hb; have n0_ := z2.mk (y8 (by repeat (first | (with_reducible first | exact HB.out | apply z4 | apply z1 | apply z3) | exact HB.out)) hb); have n1_ := z2.mk (hbox); have n2_ := z2.mk ((by rw [hg]; exact (z8 (by repeat (first | (with_reducible first | exact HB.out | apply z4 | apply z1 | apply z3) | exact HB.out))) : w.heap.size ≤ gb444)); have n3_ := z2.mk ((by rw [hg]; exact (z8 (by repeat (first | (with_reducible first | exact HB.out | apply z4 | apply z1 | apply z3) | exact HB.out))) : w.heap.size ≤ gb444)); clear HB; have HB := n0_; have BK444 := n1_; have GW444 := n2_; have GE444 := n3_; clear n0_ n1_ n2_ n3_ hb hbox hg) | ((with_reducible refine ye (N := 4) rfl ?_); refine ze ?hg (N := 4) ?hd (cs := #[.bool false, .int .i64 0, .slice none 0 0, .int .i64 0]) (t := 33) ?hr ?_; (case hd => rfl); (case hg => rfl); (case hr => first | (go_simp; done) | (go_simp; rfl)); intro gb445 hg w4 hbox hb; have n0_ := z2.mk (z9 (g := gb444) (o := .cells #[.bool false, .int .i64 0, .slice none 0 0, .int .i64 0] 33 (0, 0)) (by (with_reducible repeat (first | refine z5 ?_ _ | refine y6 ?_ | refine y4 ?_ _)); exact BK444.out) hb); have n1_ := z2.mk (y8 (by repeat (first | (with_reducible first | exact HB.out | apply z4 | apply z1 | apply z3 | refine z7 ?_ GE444.out) | exact HB.out)) hb); have n2_ := z2.mk (hbox); have n3_ := z2.mk ((by rw [hg]; exact (z8 (by repeat (first | (with_reducible first | exact HB.out | apply z4 | apply z1 | apply z3 | refine z7 ?_ GE444.out) | exact HB.out))) : w.heap.size ≤ gb445)); have n4_ := z2.mk ((by rw [hg]; exact (z8 (by repeat (first | (with_reducible first | exact HB.out | apply z4 | apply z1 | apply z3 | refine z7 ?_ GE444.out) | exact HB.out))) : w.heap.size ≤ gb445)); have n5_ := z2.mk ((by rw [hg]; exact Nat.ne_of_lt (qk (g := gb444) (o := .cells #[.bool false, .int .i64 0, .slice none 0 0, .int .i64 0] 33 (0, 0)) (by (with_reducible repeat (first | refine z5 ?_ _ | refine y6 ?_ | refine y4 ?_ _)); exact BK444.out)) : gb444 ≠ gb445)); have n6_ := z2.mk ((by rw [hg]; exact Nat.ne_of_gt (qk (g := gb444) (o := .cells #[.bool false, .int .i64 0, .slice none 0 0, .int .i64 0] 33 (0, 0)) (by (with_reducible repeat (first | refine z5 ?_ _ | refine y6 ?_ | refine y4 ?_ _)); exact BK444.out)) : gb445 ≠ gb444)); clear BK444 HB; have BK444 := n0_; have HB := n1_; have BK445 := n2_; have GW445 := n3_; have GE445 := n4_; have NB444_445 := n5_; have NB445_444 := n6_; clear n0_ n1_ n2_ n3_ n4_ n5_ n6_ hb hbox hg; have hnb5 := NB445_444.out; have hnc5 := NB444_445.out; have hcz6_0 : w4.cell? ⟨gb445, 0, none⟩ = some (.bool false) := (z6 BK445.out 0).trans rfl; have hcz6_1 : w4.cell? ⟨gb445, 1, none⟩ = some (.int .i64 0) := (z6 BK445.out 1).trans rfl; have hcz6_2 : w4.cell? ⟨gb445, 2, none⟩ = some (.slice none 0 0) := (z6 BK445.out 2).trans rfl; have hcz6_3 : w4.cell? ⟨gb445, 3, none⟩ = some (.int .i64 0) := (z6 BK445.out 3).trans rfl; have hfz6_0 := y5 BK445.out 0; have hfz6_1 := y5 BK445.out 1; have hfz6_2 := y5 BK445.out 2; have hfz6_3 := y5 BK445.out 3))
 (try simp only [Act.put, List.setIfInBounds_toArray, List.set_cons_zero, List.set_cons_succ])
 go_cut [7] (fun v7 wc => ∃ (kq : Nat) (x7_1 : Bool), v7 = .bool x7_1 ∧ z2 (yb.j0 kq l0 x7_1 false 0 0 = some (r1, r2, r3, r4, r5)) ∧ z2 (kq ≤ k) ∧ z2 (wc.heap[gb444]? = some (.cells #[.bool false, .int .i64 0, (.slice none 0 0), .int .i64 0] 33 (0, 0))) ∧ z2 (wc.heap[gb445]? = some (.cells #[.bool false, .int .i64 0, (.slice none 0 0), .int .i64 0] 33 (0, 0))) ∧ z2 (Below w.heap.size w wc))
 case first =>
  have H := HC2.out
  clear HC2
  by_cases c7 : (l0.length : Int) > 0
  ·rw [if_pos c7] at H
   have c7b0 : decide (0 < (l0.length : Int)) = true := decide_eq_true c7
   have c7b1 : decide (0 < l0.length) = true := decide_eq_true (by omega)
   clear c7
   (first | rw [c7b0] | (simp only [yg, qg]; rw [c7b0]) | skip)
   by_cases c8 : 0 < (l0.length : Int)
   ·rw [if_pos c8] at H
    have c8b0 : decide (0 < (l0.length : Int)) = true := decide_eq_true c8
    have c8b1 : decide (0 < l0.length) = true := decide_eq_true (by omega)
    clear c8
    have H' := z2.mk H
    clear H
    have p446 : 0 ≤ (0 : Int) := (by omega)
    have q446 : 0 < (l0.length : Int) := of_decide_eq_true (by first | (with_reducible assumption) | assumption)
    obtain ⟨ad446, e446, hx446_0⟩ := Kd.q07 HR0.out 0 p446 q446
    cases e446
    have qi446 : (0 < l0.length) = True := eq_true (by omega)
    (try rw [show ((0 : Int)).toNat = 0 from rfl] at hx446_0)
    (try rw [Addr.add_zero'] at hx446_0)
    have hn446_0 : ad446.block ≠ gb445 := Nat.ne_of_lt (Nat.lt_of_lt_of_le (by have := World.block_lt_of_cell? _ _ hx446_0; first | rwa [add_block] at this | exact this) GW445.out)
    have hn446_1 : ad446.block ≠ gb445 := Nat.ne_of_lt (Nat.lt_of_lt_of_le (by have := World.block_lt_of_cell? _ _ hx446_0; first | rwa [add_block] at this | exact this) GW445.out)
    have hn446_2 : ad446.block ≠ gb445 := Nat.ne_of_lt (Nat.lt_of_lt_of_le (by have := World.block_lt_of_cell? _ _ hx446_0; first | rwa [add_block] at this | exact this) GW445.out)
    have hn446_3 : ad446.block ≠ gb445 := Nat.ne_of_lt (Nat.lt_of_lt_of_le (by have := World.block_lt_of_cell? _ _ hx446_0; first | rwa [add_block] at this | exact this) GW445.out)
    replace hx446_0 := (HB.out.cell (World.block_lt_of_cell? w _ hx446_0)).trans hx446_0
    replace hx446_0 := (cell_far (p := ⟨gb445, 0, none⟩) (by first | (rw [add_block]; exact hn446_0) | (show (Addr.add _ _).block ≠ _; rw [add_block]; exact hn446_0) | exact hn446_0) (.bool false)).trans hx446_0
    replace hx446_0 := (cell_far (p := ⟨gb445, 1, none⟩) (by first | (rw [add_block]; exact hn446_1) | (show (Addr.add _ _).block ≠ _; rw [add_block]; exact hn446_1) | exact hn446_1) (.int .i64 0)).trans hx446_0
    replace hx446_0 := (cell_far (p := ⟨gb445, 2, none⟩) (by first | (rw [add_block]; exact hn446_2) | (show (Addr.add _ _).block ≠ _; rw [add_block]; exact hn446_2) | exact hn446_2) (.slice none 0 0)).trans hx446_0
    replace hx446_0 := (cell_far (p := ⟨gb445, 3, none⟩) (by first | (rw [add_block]; exact hn446_3) | (show (Addr.add _ _).block ≠ _; rw [add_block]; exact hn446_3) | exact hn446_3) (.int .i64 0)).trans hx446_0
    clear hn446_0
    clear hn446_1
    clear hn446_2
    clear hn446_3
    replace p446 := eq_true p446
    replace q446 := eq_true q446
    go_wp2
    go_meet
    case rel => exact ⟨_, (((rd l0 0) == 1)), (by first | rfl | (simp; done) | (simp [*]; done)), H', ⟨by first | omega | exact Nat.le_refl _⟩, ⟨by (with_reducible repeat (first | refine z5 ?_ _ | refine y6 ?_ | refine y4 ?_ _)); refine zd ?_ NB444_445.out _; (with_reducible repeat (first | refine z5 ?_ _ | refine y6 ?_ | refine y4 ?_ _)); refine zd ?_ NB444_445.out _; (with_reducible repeat (first | refine z5 ?_ _ | refine y6 ?_ | refine y4 ?_ _)); refine zd ?_ NB444_445.out _; (with_reducible repeat (first | refine z5 ?_ _ | refine y6 ?_ | refine y4 ?_ _)); refine zd ?_ NB444_445.out _; (with_reducible repeat (first | refine z5 ?_ _ | refine y6 ?_ | refine y4 ?_ _)); exact BK444.out⟩, ⟨by (with_reducible repeat (first | refine z5 ?_ _ | refine y6 ?_ | refine y4 ?_ _)); refine qc (cs := #[.bool false, .int .i64 0, .slice none 0 0, .int .i64 0]) ?_ 3 _ rfl; (with_reducible repeat (first | refine z5 ?_ _ | refine y6 ?_ | refine y4 ?_ _)); refine qc (cs := #[.bool false, .int .i64 0, .slice none 0 0, .int .i64 0]) ?_ 2 _ rfl; (with_reducible repeat (first | refine z5 ?_ _ | refine y6 ?_ | refine y4 ?_ _)); refine qc (cs := #[.bool false, .int .i64 0, .slice none 0 0, .int .i64 0]) ?_ 1 _ rfl; (with_reducible repeat (first | refine z5 ?_ _ | refine y6 ?_ | refine y4 ?_ _)); refine qc (cs := #[.bool false, .int .i64 0, .slice none 0 0, .int .i64 0]) ?_ 0 _ rfl; (with_reducible repeat (first | refine z5 ?_ _ | refine y6 ?_ | refine y4 ?_ _)); exact BK445.out⟩, ⟨by repeat (first | (with_reducible first | exact HB.out | apply z4 | apply z1 | apply z3 | refine z7 ?_ GE444.out | refine z7 ?_ GE445.out) | exact HB.out)⟩⟩
   ·rw [if_neg c8] at H
    exact absurd H (by simp)
  ·rw [if_neg c7] at H
   have c7b0 : decide (0 < (l0.length : Int)) = false := decide_eq_false c7
   have c7b1 : decide (0 < l0.length) = false := decide_eq_false (by omega)
   clear c7
   (first | rw [c7b0] | (simp only [yg, qg]; rw [c7b0]) | skip)
   have H' := z2.mk H
   clear H
   go_wp2
   go_meet
   case rel => exact ⟨_, (false), (by first | rfl | (simp; done) | (simp [*]; done)), H', ⟨by first | omega | exact Nat.le_refl _⟩, ⟨by (with_reducible repeat (first | refine z5 ?_ _ | refine y6 ?_ | refine y4 ?_ _)); refine zd ?_ NB444_445.out _; (with_reducible repeat (first | refine z5 ?_ _ | refine y6 ?_ | refine y4 ?_ _)); refine zd ?_ NB444_445.out _; (with_reducible repeat (first | refine z5 ?_ _ | refine y6 ?_ | refine y4 ?_ _)); refine zd ?_ NB444_445.out _; (with_reducible repeat (first | refine z5 ?_ _ | refine y6 ?_ | refine y4 ?_ _)); refine zd ?_ NB444_445.out _; (with_reducible repeat (first | refine z5 ?_ _ | refine y6 ?_ | refine y4 ?_ _)); exact BK444.out⟩, ⟨by (with_reducible repeat (first | refine z5 ?_ _ | refine y6 ?_ | refine y4 ?_ _)); refine qc (cs := #[.bool false, .int .i64 0, .slice none 0 0, .int .i64 0]) ?_ 3 _ rfl; (with_reducible repeat (first | refine z5 ?_ _ | refine y6 ?_ | refine y4 ?_ _)); refine qc (cs := #[.bool false, .int .i64 0, .slice none 0 0, .int .i64 0]) ?_ 2 _ rfl; (with_reducible repeat (first | refine z5 ?_ _ | refine y6 ?_ | refine y4 ?_ _)); refine qc (cs := #[.bool false, .int .i64 0, .slice none 0 0, .int .i64 0]) ?_ 1 _ rfl; (with_reducible repeat (first | refine z5 ?_ _ | refine y6 ?_ | refine y4 ?_ _)); refine qc (cs := #[.bool false, .int .i64 0, .slice none 0 0, .int .i64 0]) ?_ 0 _ rfl; (with_reducible repeat (first | refine z5 ?_ _ | refine y6 ?_ | refine y4 ?_ _)); exact BK445.out⟩, ⟨by repeat (first | (with_reducible first | exact HB.out | apply z4 | apply z1 | apply z3 | refine z7 ?_ GE444.out | refine z7 ?_ GE445.out) | exact HB.out)⟩⟩
 case rest =>
  clear HC2
  try clear p2
  try clear p4
  try clear q4
  try clear hx4
  try clear qi4
  try clear c5
  try clear c7
  try clear c7b0
  try clear c7b1
  try clear c8
  try clear c8b0
  try clear c8b1
  try clear hcz6_0
  try clear hcz6_1
  try clear hcz6_2
  try clear hcz6_3
  try clear hfz6_0
  try clear hfz6_1
  try clear hfz6_2
  try clear hfz6_3
  try clear hx446_0
  try clear p446
  try clear q446
  obtain ⟨kq, x7_1, rfl, HA, HJ1, BK444, BK445, HB⟩ := hcut
  cases kq with
  | zero => exact absurd HA.out (by simp [yb.j0])
  | succ kj1 =>
   have H := HA.out
   clear HA
   simp only [yb.j0] at H
   by_cases c9 : x7_1 = true
   ·subst c9
    have H1 : (if 1 ≤ (l0.length : Int) then ((yc.f kj1 (l0.drop 1)).bind fun bt448 => ((yf.f kj1 true bt448.2.1 bt448.2.2 0).bind fun t454 => (if t454 = 0 then ((qo.f kj1 true bt448.2.1 bt448.2.2 0).bind fun t455 => ((zo.f t455 l0).bind fun t458 => (some (true, bt448.2.1, bt448.2.2, 0, t458)))) else (some (true, bt448.2.1, bt448.2.2, 0, false))))) else (none)) = some (r1, r2, r3, r4, r5) := by rw [if_pos rfl] at H; exact H
    clear H
    have H := H1
    clear H1
    by_cases c10 : 1 ≤ (l0.length : Int)
    ·rw [if_pos c10] at H
     have c10b0 := eq_true c10
     have c10b1 : decide (1 ≤ (l0.length : Int)) = true := decide_eq_true c10
     clear c10
     replace H := Option.bind_eq_some_iff.mp H
     obtain ⟨⟨t448, t449, t450⟩, A110, H⟩ := H
     replace H : ((yf.f kj1 true t449 t450 0).bind fun t454 => (if t454 = 0 then ((qo.f kj1 true t449 t450 0).bind fun t455 => ((zo.f t455 l0).bind fun t458 => (some (true, t449, t450, 0, t458)))) else (some (true, t449, t450, 0, false)))) = some (r1, r2, r3, r4, r5) := H
     have A11 := z2.mk A110
     clear A110
     replace H := Option.bind_eq_some_iff.mp H
     obtain ⟨t454, A120, H⟩ := H
     replace H : (if t454 = 0 then ((qo.f kj1 true t449 t450 0).bind fun t455 => ((zo.f t455 l0).bind fun t458 => (some (true, t449, t450, 0, t458)))) else (some (true, t449, t450, 0, false))) = some (r1, r2, r3, r4, r5) := H
     have A12 := z2.mk A120
     clear A120
     by_cases c13 : t454 = 0
     ·rw [if_pos c13] at H
      have c13b0 : (t454 == 0) = true := beq_iff_eq.mpr c13
      have c13b1 : (t454 != 0) = false := bne_eq_false_iff_eq.mpr c13
      clear c13
      replace H := Option.bind_eq_some_iff.mp H
      obtain ⟨t455, A140, H⟩ := H
      replace H : ((zo.f t455 l0).bind fun t458 => (some (true, t449, t450, 0, t458))) = some (r1, r2, r3, r4, r5) := H
      have A14 := z2.mk A140
      clear A140
      replace H := Option.bind_eq_some_iff.mp H
      obtain ⟨t458, A150, H⟩ := H
      replace H : (some (true, t449, t450, 0, t458)) = some (r1, r2, r3, r4, r5) := H
      have A15 := z2.mk A150
      clear A150
      simp only [Option.some.injEq, Prod.mk.injEq] at H
      obtain ⟨rfl, rfl, rfl, rfl, rfl⟩ := H
      obtain ⟨i016, hi016, _, hsz16, _⟩ := info_parts y0f
      obtain ⟨A16, hcut16, hA16, hC16⟩ := z0j (P := Try.prog) (Value.int .u8) 0 37 5 .i64 Try.underlying37 hi016 hsz16 A0 c0 l0 1 (by omega) (of_decide_eq_true (by first | (with_reducible assumption) | assumption)) HC0.out
      have HR447 := z2.mk (Kd.z05 (h1 := fun _ => rfl) (hA16 _ (Kd.z02 HR0.out)))
      have HC447 := z2.mk hC16
      clear hA16 hC16 hi016 hsz16
      try go_wp2_with (first | ((with_reducible refine qb (f := 109) rfl ?_); refine zm (some 19) rfl rfl Try.func109 (by kernel_rfl) rfl #[.slice A16 (l0.drop 1).length (c0 - 1)] rfl (by (try simp only [List.map_toArray, List.map_cons, List.map_nil]); first | done | (rw [show (l0.drop 1).length = (l0.length - 1) from List.length_drop] <;> rfl) | rfl | (simp only [List.length_drop, List.length_take]; rfl)) ?_; (with_reducible refine (yc.calls kj1 _ _ (l0.drop 1) t448 t449 t450 _ ?side1 ?side2 A11.out).mono ?_); (case side1 => repeat (first | exact (Kd.yp HR447.out HB.out) | (with_reducible refine Kd.yi ?_ _) | (with_reducible refine Kd.qi ?_ _) | (with_reducible refine Kd.C_drew ?_))); (case side2 => exact HC447.out); rintro e w17 ⟨v451, rfl, ho0, hb⟩; refine ⟨_, rfl, ?_⟩; have n0_ := z2.mk (Kd.yr ho0 (z8 (by repeat (first | (with_reducible first | exact HB.out | apply z4 | apply z1 | apply z3 | refine z7 ?_ GE444.out | refine z7 ?_ GE445.out) | exact HB.out)))); have n1_ := z2.mk (z9 (g := gb444) (o := .cells #[.bool false, .int .i64 0, .slice none 0 0, .int .i64 0] 33 (0, 0)) (by (with_reducible repeat (first | refine z5 ?_ _ | refine y6 ?_ | refine y4 ?_ _)); exact BK444.out) hb); have n2_ := z2.mk (z9 (g := gb445) (o := .cells #[.bool false, .int .i64 0, .slice none 0 0, .int .i64 0] 33 (0, 0)) (by (with_reducible repeat (first | refine z5 ?_ _ | refine y6 ?_ | refine y4 ?_ _)); exact BK445.out) hb); have n3_ := z2.mk (y8 (by repeat (first | (with_reducible first | exact HB.out | apply z4 | apply z1 | apply z3 | refine z7 ?_ GE444.out | refine z7 ?_ GE445.out) | exact HB.out)) hb); clear BK444 BK445 HB; have HO452 := n0_; have BK444 := n1_; have BK445 := n2_; have HB := n3_; clear n0_ n1_ n2_ n3_; (try clear hb); (try clear hb2); (try clear hk); (try clear hi); (try clear ho0)) | ((with_reducible refine ye (N := 5) rfl ?_); refine ze ?hg (N := 5) ?hd (cs := #[.int .i64 0, .int .i64 0, .slice none 0 0]) (t := 153) ?hr ?_; (case hd => rfl); (case hg => rfl); (case hr => first | (go_simp; done) | (go_simp; rfl)); intro gb453 hg w18 hbox hb; have n0_ := z2.mk (Kd.qf (by (with_reducible repeat (first | apply Kd.R_alloc | apply Kd.y9 | apply Kd.zb)); exact HO452.out) hb); have n1_ := z2.mk (z9 (g := gb444) (o := .cells #[.bool false, .int .i64 0, .slice none 0 0, .int .i64 0] 33 (0, 0)) (by (with_reducible repeat (first | refine z5 ?_ _ | refine y6 ?_ | refine y4 ?_ _)); exact BK444.out) hb); have n2_ := z2.mk (z9 (g := gb445) (o := .cells #[.bool false, .int .i64 0, .slice none 0 0, .int .i64 0] 33 (0, 0)) (by (with_reducible repeat (first | refine z5 ?_ _ | refine y6 ?_ | refine y4 ?_ _)); exact BK445.out) hb); have n3_ := z2.mk (y8 (by repeat (first | (with_reducible first | exact HB.out | apply z4 | apply z1 | apply z3 | refine z7 ?_ GE444.out | refine z7 ?_ GE445.out) | exact HB.out)) hb); have n4_ := z2.mk (hbox); have n5_ := z2.mk ((by rw [hg]; exact (z8 (by repeat (first | (with_reducible first | exact HB.out | apply z4 | apply z1 | apply z3 | refine z7 ?_ GE444.out | refine z7 ?_ GE445.out) | exact HB.out))) : w.heap.size ≤ gb453)); have n6_ := z2.mk ((by rw [hg]; exact (z8 (by repeat (first | (with_reducible first | exact HB.out | apply z4 | apply z1 | apply z3 | refine z7 ?_ GE444.out | refine z7 ?_ GE445.out) | exact HB.out))) : w.heap.size ≤ gb453)); have n7_ := z2.mk ((by rw [hg]; exact Nat.ne_of_lt (qk (g := gb444) (o := .cells #[.bool false, .int .i64 0, .slice none 0 0, .int .i64 0] 33 (0, 0)) (by (with_reducible repeat (first | refine z5 ?_ _ | refine y6 ?_ | refine y4 ?_ _)); exact BK444.out)) : gb444 ≠ gb453)); have n8_ := z2.mk ((by rw [hg]; exact Nat.ne_of_gt (qk (g := gb444) (o := .cells #[.bool false, .int .i64 0, .slice none 0 0, .int .i64 0] 33 (0, 0)) (by (with_reducible repeat (first | refine z5 ?_ _ | refine y6 ?_ | refine y4 ?_ _)); exact BK444.out)) : gb453 ≠ gb444)); have n9_ := z2.mk ((by rw [hg]; exact Nat.ne_of_lt (qk (g := gb445) (o := .cells #[.bool false, .int .i64 0, .slice none 0 0, .int .i64 0] 33 (0, 0)) (by (with_reducible repeat (first | refine z5 ?_ _ | refine y6 ?_ | refine y4 ?_ _)); exact BK445.out)) : gb445 ≠ gb453)); have n10_ := z2.mk ((by rw [hg]; exact Nat.ne_of_gt (qk (g := gb445) (o := .cells #[.bool false, .int .i64 0, .slice none 0 0, .int .i64 0] 33 (0, 0)) (by (with_reducible repeat (first | refine z5 ?_ _ | refine y6 ?_ | refine y4 ?_ _)); exact BK445.out)) : gb453 ≠ gb445)); clear HO452 BK444 BK445 HB; have HO452 := n0_; have BK444 := n1_; have BK445 := n2_; have HB := n3_; have BK453 := n4_; have GW453 := n5_; have GE453 := n6_; have NB444_453 := n7_; have NB453_444 := n8_; have NB445_453 := n9_; have NB453_445 := n10_; clear n0_ n1_ n2_ n3_ n4_ n5_ n6_ n7_ n8_ n9_ n10_ hb hbox hg; have hnb19 := NB453_444.out; have hnc19 := NB444_453.out; have hnb20 := NB453_445.out; have hnc20 := NB445_453.out; have hcz21_0 : w18.cell? ⟨gb453, 0, none⟩ = some (.int .i64 0) := (z6 BK453.out 0).trans rfl; have hcz21_1 : w18.cell? ⟨gb453, 1, none⟩ = some (.int .i64 0) := (z6 BK453.out 1).trans rfl; have hcz21_2 : w18.cell? ⟨gb453, 2, none⟩ = some (.slice none 0 0) := (z6 BK453.out 2).trans rfl; have hfz21_0 := y5 BK453.out 0; have hfz21_1 := y5 BK453.out 1; have hfz21_2 := y5 BK453.out 2; obtain ⟨Ao22, co22, eo22⟩ := Kd.zt HO452.out; subst eo22; have hnb23 := NB445_444.out; have hnc23 := NB444_445.out; have hcz24_0 : w18.cell? ⟨gb445, 0, none⟩ = some (.bool false) := (z6 BK445.out 0).trans rfl; have hcz24_1 : w18.cell? ⟨gb445, 1, none⟩ = some (.int .i64 0) := (z6 BK445.out 1).trans rfl; have hcz24_2 : w18.cell? ⟨gb445, 2, none⟩ = some (.slice none 0 0) := (z6 BK445.out 2).trans rfl; have hcz24_3 : w18.cell? ⟨gb445, 3, none⟩ = some (.int .i64 0) := (z6 BK445.out 3).trans rfl; have hfz24_0 := y5 BK445.out 0; have hfz24_1 := y5 BK445.out 1; have hfz24_2 := y5 BK445.out 2; have hfz24_3 := y5 BK445.out 3))
      have n0_ : z2 (Kd.R y08 138 (((((((w18.setCell ⟨gb453, 0, none⟩ (.int .i64 t448)).setCell ⟨gb453, 1, none⟩ (.int .i64 t449)).setCell ⟨gb453, 2, none⟩ (.slice Ao22 t450.length co22)).setCell ⟨gb445, 0, none⟩ (.bool true)).setCell ⟨gb445, 1, none⟩ (.int .i64 t449)).setCell ⟨gb445, 2, none⟩ (.slice Ao22 t450.length co22)).setCell ⟨gb445, 3, none⟩ (.int .i64 0)) w.heap.size (fun _ => True) (.slice Ao22 t450.length co22) t450) := ⟨by (with_reducible repeat (first | apply Kd.R_alloc | apply Kd.y9 | apply Kd.zb)); exact Kd.yk (Kd.zf (p := ⟨gb445, 3, none⟩) (Kd.zf (p := ⟨gb445, 2, none⟩) (Kd.zf (p := ⟨gb445, 1, none⟩) (Kd.zf (p := ⟨gb445, 0, none⟩) (Kd.zf (p := ⟨gb453, 2, none⟩) (Kd.zf (p := ⟨gb453, 1, none⟩) (Kd.zf (p := ⟨gb453, 0, none⟩) (Kd.qp (Kd.qp HO452.out BK453.out (by decide)) BK445.out (by decide)) (fun _ hk => hk.1.2) (.int .i64 t448)) (fun _ hk => hk.1.2) (.int .i64 t449)) (fun _ hk => hk.1.2) (.slice Ao22 t450.length co22)) (fun _ hk => hk.2) (.bool true)) (fun _ hk => hk.2) (.int .i64 t449)) (fun _ hk => hk.2) (.slice Ao22 t450.length co22)) (fun _ hk => hk.2) (.int .i64 0)) (fun _ hk => trivial)⟩
      have n1_ : z2 ((((((((w18.setCell ⟨gb453, 0, none⟩ (.int .i64 t448)).setCell ⟨gb453, 1, none⟩ (.int .i64 t449)).setCell ⟨gb453, 2, none⟩ (.slice Ao22 t450.length co22)).setCell ⟨gb445, 0, none⟩ (.bool true)).setCell ⟨gb445, 1, none⟩ (.int .i64 t449)).setCell ⟨gb445, 2, none⟩ (.slice Ao22 t450.length co22)).setCell ⟨gb445, 3, none⟩ (.int .i64 0)).heap[gb444]? = some (.cells #[.bool false, .int .i64 0, .slice none 0 0, .int .i64 0] 33 (0, 0))) := ⟨by (with_reducible repeat (first | refine z5 ?_ _ | refine y6 ?_ | refine y4 ?_ _)); refine zd ?_ NB444_445.out _; (with_reducible repeat (first | refine z5 ?_ _ | refine y6 ?_ | refine y4 ?_ _)); refine zd ?_ NB444_445.out _; (with_reducible repeat (first | refine z5 ?_ _ | refine y6 ?_ | refine y4 ?_ _)); refine zd ?_ NB444_445.out _; (with_reducible repeat (first | refine z5 ?_ _ | refine y6 ?_ | refine y4 ?_ _)); refine zd ?_ NB444_445.out _; (with_reducible repeat (first | refine z5 ?_ _ | refine y6 ?_ | refine y4 ?_ _)); refine zd ?_ NB444_453.out _; (with_reducible repeat (first | refine z5 ?_ _ | refine y6 ?_ | refine y4 ?_ _)); refine zd ?_ NB444_453.out _; (with_reducible repeat (first | refine z5 ?_ _ | refine y6 ?_ | refine y4 ?_ _)); refine zd ?_ NB444_453.out _; (with_reducible repeat (first | refine z5 ?_ _ | refine y6 ?_ | refine y4 ?_ _)); exact BK444.out⟩
      have n2_ : z2 ((((((((w18.setCell ⟨gb453, 0, none⟩ (.int .i64 t448)).setCell ⟨gb453, 1, none⟩ (.int .i64 t449)).setCell ⟨gb453, 2, none⟩ (.slice Ao22 t450.length co22)).setCell ⟨gb445, 0, none⟩ (.bool true)).setCell ⟨gb445, 1, none⟩ (.int .i64 t449)).setCell ⟨gb445, 2, none⟩ (.slice Ao22 t450.length co22)).setCell ⟨gb445, 3, none⟩ (.int .i64 0)).heap[gb445]? = some (.cells #[.bool true, .int .i64 t449, .slice Ao22 t450.length co22, .int .i64 0] 33 (0, 0))) := ⟨by (with_reducible repeat (first | refine z5 ?_ _ | refine y6 ?_ | refine y4 ?_ _)); refine qc (cs := #[.bool true, .int .i64 t449, .slice Ao22 t450.length co22, .int .i64 0]) ?_ 3 _ rfl; (with_reducible repeat (first | refine z5 ?_ _ | refine y6 ?_ | refine y4 ?_ _)); refine qc (cs := #[.bool true, .int .i64 t449, .slice none 0 0, .int .i64 0]) ?_ 2 _ rfl; (with_reducible repeat (first | refine z5 ?_ _ | refine y6 ?_ | refine y4 ?_ _)); refine qc (cs := #[.bool true, .int .i64 0, .slice none 0 0, .int .i64 0]) ?_ 1 _ rfl; (with_reducible repeat (first | refine z5 ?_ _ | refine y6 ?_ | refine y4 ?_ _)); refine qc (cs := #[.bool false, .int .i64 0, .slice none 0 0, .int .i64 0]) ?_ 0 _ rfl; (with_reducible repeat (first | refine z5 ?_ _ | refine y6 ?_ | refine y4 ?_ _)); refine zd ?_ NB445_453.out _; (with_reducible repeat (first | refine z5 ?_ _ | refine y6 ?_ | refine y4 ?_ _)); refine zd ?_ NB445_453.out _; (with_reducible repeat (first | refine z5 ?_ _ | refine y6 ?_ | refine y4 ?_ _)); refine zd ?_ NB445_453.out _; (with_reducible repeat (first | refine z5 ?_ _ | refine y6 ?_ | refine y4 ?_ _)); exact BK445.out⟩
      have n3_ : z2 ((((((((w18.setCell ⟨gb453, 0, none⟩ (.int .i64 t448)).setCell ⟨gb453, 1, none⟩ (.int .i64 t449)).setCell ⟨gb453, 2, none⟩ (.slice Ao22 t450.length co22)).setCell ⟨gb445, 0, none⟩ (.bool true)).setCell ⟨gb445, 1, none⟩ (.int .i64 t449)).setCell ⟨gb445, 2, none⟩ (.slice Ao22 t450.length co22)).setCell ⟨gb445, 3, none⟩ (.int .i64 0)).heap[gb453]? = some (.cells #[.int .i64 t448, .int .i64 t449, .slice Ao22 t450.length co22] 153 (0, 0))) := ⟨by (with_reducible repeat (first | refine z5 ?_ _ | refine y6 ?_ | refine y4 ?_ _)); refine zd ?_ NB453_445.out _; (with_reducible repeat (first | refine z5 ?_ _ | refine y6 ?_ | refine y4 ?_ _)); refine zd ?_ NB453_445.out _; (with_reducible repeat (first | refine z5 ?_ _ | refine y6 ?_ | refine y4 ?_ _)); refine zd ?_ NB453_445.out _; (with_reducible repeat (first | refine z5 ?_ _ | refine y6 ?_ | refine y4 ?_ _)); refine zd ?_ NB453_445.out _; (with_reducible repeat (first | refine z5 ?_ _ | refine y6 ?_ | refine y4 ?_ _)); refine qc (cs := #[.int .i64 t448, .int .i64 t449, .slice none 0 0]) ?_ 2 _ rfl; (with_reducible repeat (first | refine z5 ?_ _ | refine y6 ?_ | refine y4 ?_ _)); refine qc (cs := #[.int .i64 t448, .int .i64 0, .slice none 0 0]) ?_ 1 _ rfl; (with_reducible repeat (first | refine z5 ?_ _ | refine y6 ?_ | refine y4 ?_ _)); refine qc (cs := #[.int .i64 0, .int .i64 0, .slice none 0 0]) ?_ 0 _ rfl; (with_reducible repeat (first | refine z5 ?_ _ | refine y6 ?_ | refine y4 ?_ _)); exact BK453.out⟩
      have n4_ : z2 (Below w.heap.size w (((((((w18.setCell ⟨gb453, 0, none⟩ (.int .i64 t448)).setCell ⟨gb453, 1, none⟩ (.int .i64 t449)).setCell ⟨gb453, 2, none⟩ (.slice Ao22 t450.length co22)).setCell ⟨gb445, 0, none⟩ (.bool true)).setCell ⟨gb445, 1, none⟩ (.int .i64 t449)).setCell ⟨gb445, 2, none⟩ (.slice Ao22 t450.length co22)).setCell ⟨gb445, 3, none⟩ (.int .i64 0))) := ⟨by repeat (first | (with_reducible first | exact HB.out | apply z4 | apply z1 | apply z3 | refine z7 ?_ GE444.out | refine z7 ?_ GE445.out | refine z7 ?_ GE453.out) | exact HB.out)⟩
      (try clear HO452)
      (try clear BK444)
      (try clear BK445)
      (try clear BK453)
      (try clear HB)
      generalize (((((((w18.setCell ⟨gb453, 0, none⟩ (.int .i64 t448)).setCell ⟨gb453, 1, none⟩ (.int .i64 t449)).setCell ⟨gb453, 2, none⟩ (.slice Ao22 t450.length co22)).setCell ⟨gb445, 0, none⟩ (.bool true)).setCell ⟨gb445, 1, none⟩ (.int .i64 t449)).setCell ⟨gb445, 2, none⟩ (.slice Ao22 t450.length co22)).setCell ⟨gb445, 3, none⟩ (.int .i64 0)) = w25 at n0_ n1_ n2_ n3_ n4_ ⊢
      have HO452 := n0_
      have BK444 := n1_
      have BK445 := n2_
      have BK453 := n3_
      have HB := n4_
      clear n0_ n1_ n2_ n3_ n4_
      have n0_ := z2.mk (Kd.zb HO452.out)
      have n1_ := z2.mk (y6 BK444.out)
      have n2_ := z2.mk (y6 BK445.out)
      have n3_ := z2.mk (y6 BK453.out)
      have n4_ := z2.mk (z3 HB.out)
      clear HO452
      clear BK444
      clear BK445
      clear BK453
      clear HB
      have HO452 := n0_
      have BK444 := n1_
      have BK445 := n2_
      have BK453 := n3_
      have HB := n4_
      clear n0_ n1_ n2_ n3_ n4_
      refine z0f (n := 12) (S := fun w' => w'.cell? ⟨gb445, 0, none⟩ = some (.bool true) ∧ w'.cell? ⟨gb445, 1, none⟩ = some (.int .i64 t449) ∧ w'.cell? ⟨gb445, 2, none⟩ = some (.slice Ao22 t450.length co22) ∧ w'.cell? ⟨gb445, 3, none⟩ = some (.int .i64 0)) (ds := []) #[false, false, false, false, false, false, false, false, false, false, false, false] (by kernel_rfl) rfl rfl ⟨(z6 BK445.out 0).trans rfl, (z6 BK445.out 1).trans rfl, (z6 BK445.out 2).trans rfl, (z6 BK445.out 3).trans rfl⟩ (fun hHeld => ?_); refine q03 yb.z2j yb.q1p (fun HT_ HW_ => ?_)
      generalize w25.drew = w26 at HO452 BK444 BK445 BK453 HB hHeld ⊢
      refine y04 (i := 0) (N := some 43) (v := ?_) (a' := ?_) #[true, false, false, false, false, false, false, false, false, false, false, false] rfl rfl (zv HT_.out HW_.out (by kernel_rfl)) (fun _ _ _ h => h) (Or.inl ⟨by rfl, ?_⟩) hHeld ?_ ?_
      rotate_left
      ·rintro w' ⟨s0, s1, s2, s3⟩
       go_simp
       with_reducible rfl
      rotate_left
      ·simp only [Act.put, List.setIfInBounds_toArray, List.set_cons_zero, List.set_cons_succ, yg, qg]
       rfl
      refine y04 (i := 1) (N := some 44) (v := ?_) (a' := ?_) #[true, true, false, false, false, false, false, false, false, false, false, false] rfl rfl (zv HT_.out HW_.out (by kernel_rfl)) (fun _ _ _ h => h) (Or.inl ⟨by rfl, ?_⟩) hHeld ?_ ?_
      rotate_left
      ·rintro w' ⟨s0, s1, s2, s3⟩
       go_simp
       with_reducible rfl
      rotate_left
      ·simp only [Act.put, List.setIfInBounds_toArray, List.set_cons_zero, List.set_cons_succ, yg, qg]
       rfl
      refine q0j (i := 2) (N := some 45) #[true, true, true, false, false, false, false, false, false, false, false, false] rfl rfl (qz HT_.out (by kernel_rfl)) (by decide) (fun K hK => ?_)
      refine y0g Try.func11 (by kernel_rfl) rfl #[.agg #[.bool true, .int .i64 t449, .slice Ao22 t450.length co22, .int .i64 0]] (by rfl) rfl rfl (by (try simp only [List.map_toArray, List.map_cons, List.map_nil]); first | done | rfl | (simp only [List.length_drop, List.length_take]; rfl)) ?_
      with_reducible refine (yf.calls kj1 true t449 _ _ t450 0 t454 _ ?side1 ?side2 A12.out).mono ?_
      (case side1 => repeat (first | exact (Kd.qd HO452.out).2.2 | (with_reducible refine Kd.yi ?_ _) | (with_reducible refine Kd.qi ?_ _) | (with_reducible refine Kd.C_drew ?_)))
      (case side2 => exact (Kd.qd HO452.out).2.1)
      rintro e w27 ⟨rfl, hb⟩
      refine ⟨_, rfl, ?_⟩
      have n0_ := z2.mk (Kd.qf (by (with_reducible repeat (first | apply Kd.R_alloc | apply Kd.y9 | apply Kd.zb)); exact HO452.out) hb)
      have n1_ := z2.mk (z9 (g := gb444) (o := .cells #[.bool false, .int .i64 0, .slice none 0 0, .int .i64 0] 33 (0, 0)) (by (with_reducible repeat (first | refine z5 ?_ _ | refine y6 ?_ | refine y4 ?_ _)); exact BK444.out) hb)
      have n2_ := z2.mk (z9 (g := gb445) (o := .cells #[.bool true, .int .i64 t449, .slice Ao22 t450.length co22, .int .i64 0] 33 (0, 0)) (by (with_reducible repeat (first | refine z5 ?_ _ | refine y6 ?_ | refine y4 ?_ _)); exact BK445.out) hb)
      have n3_ := z2.mk (z9 (g := gb453) (o := .cells #[.int .i64 t448, .int .i64 t449, .slice Ao22 t450.length co22] 153 (0, 0)) (by (with_reducible repeat (first | refine z5 ?_ _ | refine y6 ?_ | refine y4 ?_ _)); exact BK453.out) hb)
      have n4_ := z2.mk (y8 (by repeat (first | (with_reducible first | exact HB.out | apply z4 | apply z1 | apply z3 | refine z7 ?_ GE444.out | refine z7 ?_ GE445.out | refine z7 ?_ GE453.out) | exact HB.out)) hb)
      clear HO452
      clear BK444
      clear BK445
      clear BK453
      clear HB
      have HO452 := n0_
      have BK444 := n1_
      have BK445 := n2_
      have BK453 := n3_
      have HB := n4_
      clear n0_ n1_ n2_ n3_ n4_
      (try clear hb)
      (try clear hb2)
      (try clear hk)
      (try clear hi)
      refine hK.out _ _ ⟨(z6 BK445.out 0).trans rfl, (z6 BK445.out 1).trans rfl, (z6 BK445.out 2).trans rfl, (z6 BK445.out 3).trans rfl⟩ (fun hHeld => ?_)
      clear hK K
      refine zx (a' := ?_) ?_ ?_
      rotate_left
      ·show Act.put _ (some 45) _ = _
       simp only [Act.put, List.setIfInBounds_toArray, List.set_cons_zero, List.set_cons_succ, yg, qg]
       rfl
      refine yo (i := 3) (N := some 46) (v := ?_) (a' := ?_) #[true, true, true, true, false, false, false, false, false, false, false, false] rfl rfl (qj HT_.out (by kernel_rfl)) (fun _ _ _ h => h) (Or.inl ⟨by rfl, ?_⟩) ?_ ?_
      rotate_left
      ·intro w'
       go_simp
       with_reducible rfl
      rotate_left
      ·simp only [Act.put, List.setIfInBounds_toArray, List.set_cons_zero, List.set_cons_succ, yg, qg]
       rfl
      refine yo (i := 4) (N := some 47) (v := ?_) (a' := ?_) #[true, true, true, true, true, false, false, false, false, false, false, false] rfl rfl (qj HT_.out (by kernel_rfl)) (fun _ _ _ h => h) (Or.inl ⟨by rfl, ?_⟩) ?_ ?_
      rotate_left
      ·intro w'
       go_simp
       with_reducible rfl
      rotate_left
      ·simp only [Act.put, List.setIfInBounds_toArray, List.set_cons_zero, List.set_cons_succ, yg, qg]
       rfl
      refine yo (i := 7) (N := some 50) (v := ?_) (a' := ?_) #[true, true, true, true, true, false, false, true, false, false, false, false] rfl rfl (qj HT_.out (by kernel_rfl)) (fun _ _ _ h => h) (Or.inl ⟨by rfl, ?_⟩) ?_ ?_
      rotate_left
      ·intro w'
       go_simp
       with_reducible rfl
      rotate_left
      ·simp only [Act.put, List.setIfInBounds_toArray, List.set_cons_zero, List.set_cons_succ, yg, qg]
       rfl
      refine y04 (i := 5) (N := some 48) (v := ?_) (a' := ?_) #[true, true, true, true, true, true, false, true, false, false, false, false] rfl rfl (zv HT_.out HW_.out (by kernel_rfl)) (fun _ _ _ h => h) (Or.inl ⟨by rfl, ?_⟩) hHeld ?_ ?_
      rotate_left
      ·rintro w' ⟨s0, s1, s2, s3⟩
       go_simp
       with_reducible rfl
      rotate_left
      ·simp only [Act.put, List.setIfInBounds_toArray, List.set_cons_zero, List.set_cons_succ, yg, qg]
       rfl
      refine q0j (i := 6) (N := some 49) #[true, true, true, true, true, true, true, true, false, false, false, false] rfl rfl (qz HT_.out (by kernel_rfl)) (by decide) (fun K hK => ?_)
      refine y0g Try.func55 (by kernel_rfl) rfl #[.agg #[.bool true, .int .i64 t449, .slice Ao22 t450.length co22, .int .i64 0]] (by rfl) rfl rfl (by (try simp only [List.map_toArray, List.map_cons, List.map_nil]); first | done | rfl | (simp only [List.length_drop, List.length_take]; rfl)) ?_
      with_reducible refine (qo.calls kj1 true t449 _ _ t450 0 t455 _ ?side1 ?side2 A14.out).mono ?_
      (case side1 => repeat (first | exact (Kd.qd HO452.out).2.2 | (with_reducible refine Kd.yi ?_ _) | (with_reducible refine Kd.qi ?_ _) | (with_reducible refine Kd.C_drew ?_)))
      (case side2 => exact (Kd.qd HO452.out).2.1)
      rintro e w28 ⟨v456, rfl, ho0, hb⟩
      refine ⟨_, rfl, ?_⟩
      have n0_ := z2.mk (Kd.qf (by (with_reducible repeat (first | apply Kd.R_alloc | apply Kd.y9 | apply Kd.zb)); exact HO452.out) hb)
      have n1_ := z2.mk (Kd.yr ho0 (z8 (by repeat (first | (with_reducible first | exact HB.out | apply z4 | apply z1 | apply z3 | refine z7 ?_ GE444.out | refine z7 ?_ GE445.out | refine z7 ?_ GE453.out) | exact HB.out))))
      have n2_ := z2.mk (z9 (g := gb444) (o := .cells #[.bool false, .int .i64 0, .slice none 0 0, .int .i64 0] 33 (0, 0)) (by (with_reducible repeat (first | refine z5 ?_ _ | refine y6 ?_ | refine y4 ?_ _)); exact BK444.out) hb)
      have n3_ := z2.mk (z9 (g := gb445) (o := .cells #[.bool true, .int .i64 t449, .slice Ao22 t450.length co22, .int .i64 0] 33 (0, 0)) (by (with_reducible repeat (first | refine z5 ?_ _ | refine y6 ?_ | refine y4 ?_ _)); exact BK445.out) hb)
      have n4_ := z2.mk (z9 (g := gb453) (o := .cells #[.int .i64 t448, .int .i64 t449, .slice Ao22 t450.length co22] 153 (0, 0)) (by (with_reducible repeat (first | refine z5 ?_ _ | refine y6 ?_ | refine y4 ?_ _)); exact BK453.out) hb)
      have n5_ := z2.mk (y8 (by repeat (first | (with_reducible first | exact HB.out | apply z4 | apply z1 | apply z3 | refine z7 ?_ GE444.out | refine z7 ?_ GE445.out | refine z7 ?_ GE453.out) | exact HB.out)) hb)
      clear HO452
      clear BK444
      clear BK445
      clear BK453
      clear HB
      have HO452 := n0_
      have HO457 := n1_
      have BK444 := n2_
      have BK445 := n3_
      have BK453 := n4_
      have HB := n5_
      clear n0_ n1_ n2_ n3_ n4_ n5_
      (try clear hb)
      (try clear hb2)
      (try clear hk)
      (try clear hi)
      (try clear ho0)
      obtain ⟨Ao29, co29, eo29⟩ := Kd.zt HO457.out
      (first | subst eo29 | (injection eo29 with f1_ f2_ f3_; have f4_ := f1_.symm; have f5_ := f3_.symm; clear f1_ f2_ f3_; subst f4_; subst f5_))
      refine hK.out _ _ ⟨(z6 BK445.out 0).trans rfl, (z6 BK445.out 1).trans rfl, (z6 BK445.out 2).trans rfl, (z6 BK445.out 3).trans rfl⟩ (fun hHeld => ?_)
      clear hK K
      refine zx (a' := ?_) ?_ ?_
      rotate_left
      ·show Act.put _ (some 49) _ = _
       simp only [Act.put, List.setIfInBounds_toArray, List.set_cons_zero, List.set_cons_succ, yg, qg]
       rfl
      refine q0j (i := 8) (N := some 51) #[true, true, true, true, true, true, true, true, true, false, false, false] rfl rfl (qz HT_.out (by kernel_rfl)) (by decide) (fun K hK => ?_)
      refine y0g Try.func111 (by kernel_rfl) rfl #[.slice Ao29 t455.length co29, .slice A0 l0.length c0] (by rfl) rfl rfl (by (try simp only [List.map_toArray, List.map_cons, List.map_nil]); first | done | rfl | (simp only [List.length_drop, List.length_take]; rfl)) ?_
      with_reducible refine (zo.calls _ _ t455 _ _ l0 t458 _ ?side1 ?side2 ?side3 ?side4 A15.out).mono ?_
      (case side1 => repeat (first | exact (Kd.qd HO457.out).2.2 | (with_reducible refine Kd.yi ?_ _) | (with_reducible refine Kd.qi ?_ _) | (with_reducible refine Kd.C_drew ?_)))
      (case side2 => exact (Kd.qd HO457.out).2.1)
      (case side3 => repeat (first | exact (Kd.yp HR0.out HB.out) | (with_reducible refine Kd.yi ?_ _) | (with_reducible refine Kd.qi ?_ _) | (with_reducible refine Kd.C_drew ?_)))
      (case side4 => exact HC0.out)
      rintro e w' ⟨rfl, ⟨nd, rfl⟩⟩
      refine ⟨_, rfl, ?_⟩
      refine hK.out _ _ ⟨(z6 BK445.out 0).trans rfl, (z6 BK445.out 1).trans rfl, (z6 BK445.out 2).trans rfl, (z6 BK445.out 3).trans rfl⟩ (fun hHeld => ?_)
      clear hK K
      refine zx (a' := ?_) ?_ ?_
      rotate_left
      ·show Act.put _ (some 51) _ = _
       simp only [Act.put, List.setIfInBounds_toArray, List.set_cons_zero, List.set_cons_succ, yg, qg]
       rfl
      refine yo (i := 9) (N := some 52) (v := ?_) (a' := ?_) #[true, true, true, true, true, true, true, true, true, true, false, false] rfl rfl (qj HT_.out (by kernel_rfl)) (fun _ _ _ h => h) (Or.inl ⟨by rfl, ?_⟩) ?_ ?_
      rotate_left
      ·intro w'
       go_simp
       with_reducible rfl
      rotate_left
      ·simp only [Act.put, List.setIfInBounds_toArray, List.set_cons_zero, List.set_cons_succ, yg, qg]
       rfl
      refine q0j (i := 10) (N := none) #[true, true, true, true, true, true, true, true, true, true, true, false] rfl rfl (qz HT_.out (by kernel_rfl)) (by decide) (fun K hK => ?_)
      have hs30 : w28.cell? ⟨gb444, 0, none⟩ = some (.bool false) := (z6 BK444.out 0).trans rfl
      have hfs30 := y5 BK444.out 0
      have hns30_1 := NB445_444.out
      have hns30_2 := NB453_444.out
      have hms30_1 := NB444_445.out
      have hms30_2 := NB444_453.out
      have hs31 : w28.cell? ⟨gb444, 1, none⟩ = some (.int .i64 0) := (z6 BK444.out 1).trans rfl
      have hfs31 := y5 BK444.out 1
      have hns31_1 := NB445_444.out
      have hns31_2 := NB453_444.out
      have hms31_1 := NB444_445.out
      have hms31_2 := NB444_453.out
      have hs32 : w28.cell? ⟨gb444, 2, none⟩ = some (.slice none 0 0) := (z6 BK444.out 2).trans rfl
      have hfs32 := y5 BK444.out 2
      have hns32_1 := NB445_444.out
      have hns32_2 := NB453_444.out
      have hms32_1 := NB444_445.out
      have hms32_2 := NB444_453.out
      have hs33 : w28.cell? ⟨gb444, 3, none⟩ = some (.int .i64 0) := (z6 BK444.out 3).trans rfl
      have hfs33 := y5 BK444.out 3
      have hns33_1 := NB445_444.out
      have hns33_2 := NB453_444.out
      have hms33_1 := NB444_445.out
      have hms33_2 := NB444_453.out
      refine q0v (w1 := ?_) (by rfl) rfl ?_ ?_
      rotate_left
      ·go_simp
       rfl
      refine hK.out _ _ ⟨((cell_far (p := ⟨gb444, _, none⟩) NB445_444.out _).trans (((cell_far (p := ⟨gb444, _, none⟩) NB445_444.out _).trans (((cell_far (p := ⟨gb444, _, none⟩) NB445_444.out _).trans (((cell_far (p := ⟨gb444, _, none⟩) NB445_444.out _).trans (hHeld.1)))))))), ((cell_far (p := ⟨gb444, _, none⟩) NB445_444.out _).trans (((cell_far (p := ⟨gb444, _, none⟩) NB445_444.out _).trans (((cell_far (p := ⟨gb444, _, none⟩) NB445_444.out _).trans (((cell_far (p := ⟨gb444, _, none⟩) NB445_444.out _).trans (hHeld.2.1)))))))), ((cell_far (p := ⟨gb444, _, none⟩) NB445_444.out _).trans (((cell_far (p := ⟨gb444, _, none⟩) NB445_444.out _).trans (((cell_far (p := ⟨gb444, _, none⟩) NB445_444.out _).trans (((cell_far (p := ⟨gb444, _, none⟩) NB445_444.out _).trans (hHeld.2.2.1)))))))), ((cell_far (p := ⟨gb444, _, none⟩) NB445_444.out _).trans (((cell_far (p := ⟨gb444, _, none⟩) NB445_444.out _).trans (((cell_far (p := ⟨gb444, _, none⟩) NB445_444.out _).trans (((cell_far (p := ⟨gb444, _, none⟩) NB445_444.out _).trans (hHeld.2.2.2))))))))⟩ (fun hHeld => ?_)
      clear hK K
      refine yo (i := 11) (N := some 3) (v := ?_) (a' := ?_) #[true, true, true, true, true, true, true, true, true, true, true, true] rfl rfl (qj HT_.out (by kernel_rfl)) (fun _ _ _ h => h) (Or.inl ⟨by rfl, ?_⟩) ?_ ?_
      rotate_left
      ·intro w'
       go_simp
       with_reducible rfl
      rotate_left
      ·simp only [Act.put, List.setIfInBounds_toArray, List.set_cons_zero, List.set_cons_succ, yg, qg]
       rfl
      refine y0n (q0b HT_.out (by kernel_rfl)) ?_
      try go_wp2
      refine bodyPost_ret (y02 rfl _ _ gb444 33 #[.bool true, .int .i64 t449, .slice Ao22 t450.length co22, .int .i64 0] (0, 0) _ rfl (by (with_reducible repeat (first | refine z5 ?_ _ | refine y6 ?_ | refine y4 ?_ _)); refine qc (cs := #[.bool true, .int .i64 t449, .slice Ao22 t450.length co22, .int .i64 0]) ?_ 3 _ rfl; (with_reducible repeat (first | refine z5 ?_ _ | refine y6 ?_ | refine y4 ?_ _)); refine qc (cs := #[.bool true, .int .i64 t449, .slice none 0 0, .int .i64 0]) ?_ 2 _ rfl; (with_reducible repeat (first | refine z5 ?_ _ | refine y6 ?_ | refine y4 ?_ _)); refine qc (cs := #[.bool true, .int .i64 0, .slice none 0 0, .int .i64 0]) ?_ 1 _ rfl; (with_reducible repeat (first | refine z5 ?_ _ | refine y6 ?_ | refine y4 ?_ _)); refine qc (cs := #[.bool false, .int .i64 0, .slice none 0 0, .int .i64 0]) ?_ 0 _ rfl; (with_reducible repeat (first | refine z5 ?_ _ | refine y6 ?_ | refine y4 ?_ _)); exact BK444.out) Try.underlying33 rfl (by kernel_rfl)) rfl ?_
      exact ⟨_, by first | rfl | (simp [ya, qa] <;> rfl) | (simp [*, ya, qa] <;> rfl), by (with_reducible repeat (first | apply Kd.R_alloc | apply Kd.y9 | apply Kd.zb)); exact Kd.yk (Kd.zf (p := ⟨gb444, 3, none⟩) (Kd.zf (p := ⟨gb444, 2, none⟩) (Kd.zf (p := ⟨gb444, 1, none⟩) (Kd.zf (p := ⟨gb444, 0, none⟩) (Kd.qp HO452.out BK444.out (by decide)) (fun _ hk => hk.2) (.bool true)) (fun _ hk => hk.2) (.int .i64 t449)) (fun _ hk => hk.2) (.slice Ao22 t450.length co22)) (fun _ hk => hk.2) (.int .i64 0)) (fun _ hk => trivial), by repeat (first | (with_reducible first | exact HB.out | apply z4 | apply z1 | apply z3 | refine z7 ?_ GE444.out | refine z7 ?_ GE445.out | refine z7 ?_ GE453.out) | exact HB.out)⟩
     ·rw [if_neg c13] at H
      have c13b0 : (t454 == 0) = false := beq_eq_false_iff_ne.mpr c13
      have c13b1 : (t454 != 0) = true := bne_iff_ne.mpr c13
      simp only [Option.some.injEq, Prod.mk.injEq] at H
      obtain ⟨rfl, rfl, rfl, rfl, rfl⟩ := H
      obtain ⟨i034, hi034, _, hsz34, _⟩ := info_parts y0f
      obtain ⟨A34, hcut34, hA34, hC34⟩ := z0j (P := Try.prog) (Value.int .u8) 0 37 5 .i64 Try.underlying37 hi034 hsz34 A0 c0 l0 1 (by omega) (of_decide_eq_true (by first | (with_reducible assumption) | assumption)) HC0.out
      have HR447 := z2.mk (Kd.z05 (h1 := fun _ => rfl) (hA34 _ (Kd.z02 HR0.out)))
      have HC447 := z2.mk hC34
      clear hA34 hC34 hi034 hsz34
      try go_wp2_with (first | ((with_reducible refine qb (f := 109) rfl ?_); refine zm (some 19) rfl rfl Try.func109 (by kernel_rfl) rfl #[.slice A34 (l0.drop 1).length (c0 - 1)] rfl (by (try simp only [List.map_toArray, List.map_cons, List.map_nil]); first | done | (rw [show (l0.drop 1).length = (l0.length - 1) from List.length_drop] <;> rfl) | rfl | (simp only [List.length_drop, List.length_take]; rfl)) ?_; (with_reducible refine (yc.calls kj1 _ _ (l0.drop 1) t448 t449 t450 _ ?side1 ?side2 A11.out).mono ?_); (case side1 => repeat (first | exact (Kd.yp HR447.out HB.out) | (with_reducible refine Kd.yi ?_ _) | (with_reducible refine Kd.qi ?_ _) | (with_reducible refine Kd.C_drew ?_))); (case side2 => exact HC447.out); rintro e w35 ⟨v451, rfl, ho0, hb⟩; refine ⟨_, rfl, ?_⟩; have n0_ := z2.mk (Kd.yr ho0 (z8 (by repeat (first | (with_reducible first | exact HB.out | apply z4 | apply z1 | apply z3 | refine z7 ?_ GE444.out | refine z7 ?_ GE445.out) | exact HB.out)))); have n1_ := z2.mk (z9 (g := gb444) (o := .cells #[.bool false, .int .i64 0, .slice none 0 0, .int .i64 0] 33 (0, 0)) (by (with_reducible repeat (first | refine z5 ?_ _ | refine y6 ?_ | refine y4 ?_ _)); exact BK444.out) hb); have n2_ := z2.mk (z9 (g := gb445) (o := .cells #[.bool false, .int .i64 0, .slice none 0 0, .int .i64 0] 33 (0, 0)) (by (with_reducible repeat (first | refine z5 ?_ _ | refine y6 ?_ | refine y4 ?_ _)); exact BK445.out) hb); have n3_ := z2.mk (y8 (by repeat (first | (with_reducible first | exact HB.out | apply z4 | apply z1 | apply z3 | refine z7 ?_ GE444.out | refine z7 ?_ GE445.out) | exact HB.out)) hb); clear BK444 BK445 HB; have HO452 := n0_; have BK444 := n1_; have BK445 := n2_; have HB := n3_; clear n0_ n1_ n2_ n3_; (try clear hb); (try clear hb2); (try clear hk); (try clear hi); (try clear ho0)) | ((with_reducible refine ye (N := 5) rfl ?_); refine ze ?hg (N := 5) ?hd (cs := #[.int .i64 0, .int .i64 0, .slice none 0 0]) (t := 153) ?hr ?_; (case hd => rfl); (case hg => rfl); (case hr => first | (go_simp; done) | (go_simp; rfl)); intro gb453 hg w36 hbox hb; have n0_ := z2.mk (Kd.qf (by (with_reducible repeat (first | apply Kd.R_alloc | apply Kd.y9 | apply Kd.zb)); exact HO452.out) hb); have n1_ := z2.mk (z9 (g := gb444) (o := .cells #[.bool false, .int .i64 0, .slice none 0 0, .int .i64 0] 33 (0, 0)) (by (with_reducible repeat (first | refine z5 ?_ _ | refine y6 ?_ | refine y4 ?_ _)); exact BK444.out) hb); have n2_ := z2.mk (z9 (g := gb445) (o := .cells #[.bool false, .int .i64 0, .slice none 0 0, .int .i64 0] 33 (0, 0)) (by (with_reducible repeat (first | refine z5 ?_ _ | refine y6 ?_ | refine y4 ?_ _)); exact BK445.out) hb); have n3_ := z2.mk (y8 (by repeat (first | (with_reducible first | exact HB.out | apply z4 | apply z1 | apply z3 | refine z7 ?_ GE444.out | refine z7 ?_ GE445.out) | exact HB.out)) hb); have n4_ := z2.mk (hbox); have n5_ := z2.mk ((by rw [hg]; exact (z8 (by repeat (first | (with_reducible first | exact HB.out | apply z4 | apply z1 | apply z3 | refine z7 ?_ GE444.out | refine z7 ?_ GE445.out) | exact HB.out))) : w.heap.size ≤ gb453)); have n6_ := z2.mk ((by rw [hg]; exact (z8 (by repeat (first | (with_reducible first | exact HB.out | apply z4 | apply z1 | apply z3 | refine z7 ?_ GE444.out | refine z7 ?_ GE445.out) | exact HB.out))) : w.heap.size ≤ gb453)); have n7_ := z2.mk ((by rw [hg]; exact Nat.ne_of_lt (qk (g := gb444) (o := .cells #[.bool false, .int .i64 0, .slice none 0 0, .int .i64 0] 33 (0, 0)) (by (with_reducible repeat (first | refine z5 ?_ _ | refine y6 ?_ | refine y4 ?_ _)); exact BK444.out)) : gb444 ≠ gb453)); have n8_ := z2.mk ((by rw [hg]; exact Nat.ne_of_gt (qk (g := gb444) (o := .cells #[.bool false, .int .i64 0, .slice none 0 0, .int .i64 0] 33 (0, 0)) (by (with_reducible repeat (first | refine z5 ?_ _ | refine y6 ?_ | refine y4 ?_ _)); exact BK444.out)) : gb453 ≠ gb444)); have n9_ := z2.mk ((by rw [hg]; exact Nat.ne_of_lt (qk (g := gb445) (o := .cells #[.bool false, .int .i64 0, .slice none 0 0, .int .i64 0] 33 (0, 0)) (by (with_reducible repeat (first | refine z5 ?_ _ | refine y6 ?_ | refine y4 ?_ _)); exact BK445.out)) : gb445 ≠ gb453)); have n10_ := z2.mk ((by rw [hg]; exact Nat.ne_of_gt (qk (g := gb445) (o := .cells #[.bool false, .int .i64 0, .slice none 0 0, .int .i64 0] 33 (0, 0)) (by (with_reducible repeat (first | refine z5 ?_ _ | refine y6 ?_ | refine y4 ?_ _)); exact BK445.out)) : gb453 ≠ gb445)); clear HO452 BK444 BK445 HB; have HO452 := n0_; have BK444 := n1_; have BK445 := n2_; have HB := n3_; have BK453 := n4_; have GW453 := n5_; have GE453 := n6_; have NB444_453 := n7_; have NB453_444 := n8_; have NB445_453 := n9_; have NB453_445 := n10_; clear n0_ n1_ n2_ n3_ n4_ n5_ n6_ n7_ n8_ n9_ n10_ hb hbox hg; have hnb37 := NB453_444.out; have hnc37 := NB444_453.out; have hnb38 := NB453_445.out; have hnc38 := NB445_453.out; have hcz39_0 : w36.cell? ⟨gb453, 0, none⟩ = some (.int .i64 0) := (z6 BK453.out 0).trans rfl; have hcz39_1 : w36.cell? ⟨gb453, 1, none⟩ = some (.int .i64 0) := (z6 BK453.out 1).trans rfl; have hcz39_2 : w36.cell? ⟨gb453, 2, none⟩ = some (.slice none 0 0) := (z6 BK453.out 2).trans rfl; have hfz39_0 := y5 BK453.out 0; have hfz39_1 := y5 BK453.out 1; have hfz39_2 := y5 BK453.out 2; obtain ⟨Ao40, co40, eo40⟩ := Kd.zt HO452.out; subst eo40; have hnb41 := NB445_444.out; have hnc41 := NB444_445.out; have hcz42_0 : w36.cell? ⟨gb445, 0, none⟩ = some (.bool false) := (z6 BK445.out 0).trans rfl; have hcz42_1 : w36.cell? ⟨gb445, 1, none⟩ = some (.int .i64 0) := (z6 BK445.out 1).trans rfl; have hcz42_2 : w36.cell? ⟨gb445, 2, none⟩ = some (.slice none 0 0) := (z6 BK445.out 2).trans rfl; have hcz42_3 : w36.cell? ⟨gb445, 3, none⟩ = some (.int .i64 0) := (z6 BK445.out 3).trans rfl; have hfz42_0 := y5 BK445.out 0; have hfz42_1 := y5 BK445.out 1; have hfz42_2 := y5 BK445.out 2; have hfz42_3 := y5 BK445.out 3))
      have n0_ : z2 (Kd.R y08 138 (((((((w36.setCell ⟨gb453, 0, none⟩ (.int .i64 t448)).setCell ⟨gb453, 1, none⟩ (.int .i64 t449)).setCell ⟨gb453, 2, none⟩ (.slice Ao40 t450.length co40)).setCell ⟨gb445, 0, none⟩ (.bool true)).setCell ⟨gb445, 1, none⟩ (.int .i64 t449)).setCell ⟨gb445, 2, none⟩ (.slice Ao40 t450.length co40)).setCell ⟨gb445, 3, none⟩ (.int .i64 0)) w.heap.size (fun _ => True) (.slice Ao40 t450.length co40) t450) := ⟨by (with_reducible repeat (first | apply Kd.R_alloc | apply Kd.y9 | apply Kd.zb)); exact Kd.yk (Kd.zf (p := ⟨gb445, 3, none⟩) (Kd.zf (p := ⟨gb445, 2, none⟩) (Kd.zf (p := ⟨gb445, 1, none⟩) (Kd.zf (p := ⟨gb445, 0, none⟩) (Kd.zf (p := ⟨gb453, 2, none⟩) (Kd.zf (p := ⟨gb453, 1, none⟩) (Kd.zf (p := ⟨gb453, 0, none⟩) (Kd.qp (Kd.qp HO452.out BK453.out (by decide)) BK445.out (by decide)) (fun _ hk => hk.1.2) (.int .i64 t448)) (fun _ hk => hk.1.2) (.int .i64 t449)) (fun _ hk => hk.1.2) (.slice Ao40 t450.length co40)) (fun _ hk => hk.2) (.bool true)) (fun _ hk => hk.2) (.int .i64 t449)) (fun _ hk => hk.2) (.slice Ao40 t450.length co40)) (fun _ hk => hk.2) (.int .i64 0)) (fun _ hk => trivial)⟩
      have n1_ : z2 ((((((((w36.setCell ⟨gb453, 0, none⟩ (.int .i64 t448)).setCell ⟨gb453, 1, none⟩ (.int .i64 t449)).setCell ⟨gb453, 2, none⟩ (.slice Ao40 t450.length co40)).setCell ⟨gb445, 0, none⟩ (.bool true)).setCell ⟨gb445, 1, none⟩ (.int .i64 t449)).setCell ⟨gb445, 2, none⟩ (.slice Ao40 t450.length co40)).setCell ⟨gb445, 3, none⟩ (.int .i64 0)).heap[gb444]? = some (.cells #[.bool false, .int .i64 0, .slice none 0 0, .int .i64 0] 33 (0, 0))) := ⟨by (with_reducible repeat (first | refine z5 ?_ _ | refine y6 ?_ | refine y4 ?_ _)); refine zd ?_ NB444_445.out _; (with_reducible repeat (first | refine z5 ?_ _ | refine y6 ?_ | refine y4 ?_ _)); refine zd ?_ NB444_445.out _; (with_reducible repeat (first | refine z5 ?_ _ | refine y6 ?_ | refine y4 ?_ _)); refine zd ?_ NB444_445.out _; (with_reducible repeat (first | refine z5 ?_ _ | refine y6 ?_ | refine y4 ?_ _)); refine zd ?_ NB444_445.out _; (with_reducible repeat (first | refine z5 ?_ _ | refine y6 ?_ | refine y4 ?_ _)); refine zd ?_ NB444_453.out _; (with_reducible repeat (first | refine z5 ?_ _ | refine y6 ?_ | refine y4 ?_ _)); refine zd ?_ NB444_453.out _; (with_reducible repeat (first | refine z5 ?_ _ | refine y6 ?_ | refine y4 ?_ _)); refine zd ?_ NB444_453.out _; (with_reducible repeat (first | refine z5 ?_ _ | refine y6 ?_ | refine y4 ?_ _)); exact BK444.out⟩
      have n2_ : z2 ((((((((w36.setCell ⟨gb453, 0, none⟩ (.int .i64 t448)).setCell ⟨gb453, 1, none⟩ (.int .i64 t449)).setCell ⟨gb453, 2, none⟩ (.slice Ao40 t450.length co40)).setCell ⟨gb445, 0, none⟩ (.bool true)).setCell ⟨gb445, 1, none⟩ (.int .i64 t449)).setCell ⟨gb445, 2, none⟩ (.slice Ao40 t450.length co40)).setCell ⟨gb445, 3, none⟩ (.int .i64 0)).heap[gb445]? = some (.cells #[.bool true, .int .i64 t449, .slice Ao40 t450.length co40, .int .i64 0] 33 (0, 0))) := ⟨by (with_reducible repeat (first | refine z5 ?_ _ | refine y6 ?_ | refine y4 ?_ _)); refine qc (cs := #[.bool true, .int .i64 t449, .slice Ao40 t450.length co40, .int .i64 0]) ?_ 3 _ rfl; (with_reducible repeat (first | refine z5 ?_ _ | refine y6 ?_ | refine y4 ?_ _)); refine qc (cs := #[.bool true, .int .i64 t449, .slice none 0 0, .int .i64 0]) ?_ 2 _ rfl; (with_reducible repeat (first | refine z5 ?_ _ | refine y6 ?_ | refine y4 ?_ _)); refine qc (cs := #[.bool true, .int .i64 0, .slice none 0 0, .int .i64 0]) ?_ 1 _ rfl; (with_reducible repeat (first | refine z5 ?_ _ | refine y6 ?_ | refine y4 ?_ _)); refine qc (cs := #[.bool false, .int .i64 0, .slice none 0 0, .int .i64 0]) ?_ 0 _ rfl; (with_reducible repeat (first | refine z5 ?_ _ | refine y6 ?_ | refine y4 ?_ _)); refine zd ?_ NB445_453.out _; (with_reducible repeat (first | refine z5 ?_ _ | refine y6 ?_ | refine y4 ?_ _)); refine zd ?_ NB445_453.out _; (with_reducible repeat (first | refine z5 ?_ _ | refine y6 ?_ | refine y4 ?_ _)); refine zd ?_ NB445_453.out _; (with_reducible repeat (first | refine z5 ?_ _ | refine y6 ?_ | refine y4 ?_ _)); exact BK445.out⟩
      have n3_ : z2 ((((((((w36.setCell ⟨gb453, 0, none⟩ (.int .i64 t448)).setCell ⟨gb453, 1, none⟩ (.int .i64 t449)).setCell ⟨gb453, 2, none⟩ (.slice Ao40 t450.length co40)).setCell ⟨gb445, 0, none⟩ (.bool true)).setCell ⟨gb445, 1, none⟩ (.int .i64 t449)).setCell ⟨gb445, 2, none⟩ (.slice Ao40 t450.length co40)).setCell ⟨gb445, 3, none⟩ (.int .i64 0)).heap[gb453]? = some (.cells #[.int .i64 t448, .int .i64 t449, .slice Ao40 t450.length co40] 153 (0, 0))) := ⟨by (with_reducible repeat (first | refine z5 ?_ _ | refine y6 ?_ | refine y4 ?_ _)); refine zd ?_ NB453_445.out _; (with_reducible repeat (first | refine z5 ?_ _ | refine y6 ?_ | refine y4 ?_ _)); refine zd ?_ NB453_445.out _; (with_reducible repeat (first | refine z5 ?_ _ | refine y6 ?_ | refine y4 ?_ _)); refine zd ?_ NB453_445.out _; (with_reducible repeat (first | refine z5 ?_ _ | refine y6 ?_ | refine y4 ?_ _)); refine zd ?_ NB453_445.out _; (with_reducible repeat (first | refine z5 ?_ _ | refine y6 ?_ | refine y4 ?_ _)); refine qc (cs := #[.int .i64 t448, .int .i64 t449, .slice none 0 0]) ?_ 2 _ rfl; (with_reducible repeat (first | refine z5 ?_ _ | refine y6 ?_ | refine y4 ?_ _)); refine qc (cs := #[.int .i64 t448, .int .i64 0, .slice none 0 0]) ?_ 1 _ rfl; (with_reducible repeat (first | refine z5 ?_ _ | refine y6 ?_ | refine y4 ?_ _)); refine qc (cs := #[.int .i64 0, .int .i64 0, .slice none 0 0]) ?_ 0 _ rfl; (with_reducible repeat (first | refine z5 ?_ _ | refine y6 ?_ | refine y4 ?_ _)); exact BK453.out⟩
      have n4_ : z2 (Below w.heap.size w (((((((w36.setCell ⟨gb453, 0, none⟩ (.int .i64 t448)).setCell ⟨gb453, 1, none⟩ (.int .i64 t449)).setCell ⟨gb453, 2, none⟩ (.slice Ao40 t450.length co40)).setCell ⟨gb445, 0, none⟩ (.bool true)).setCell ⟨gb445, 1, none⟩ (.int .i64 t449)).setCell ⟨gb445, 2, none⟩ (.slice Ao40 t450.length co40)).setCell ⟨gb445, 3, none⟩ (.int .i64 0))) := ⟨by repeat (first | (with_reducible first | exact HB.out | apply z4 | apply z1 | apply z3 | refine z7 ?_ GE444.out | refine z7 ?_ GE445.out | refine z7 ?_ GE453.out) | exact HB.out)⟩
      (try clear HO452)
      (try clear BK444)
      (try clear BK445)
      (try clear BK453)
      (try clear HB)
      generalize (((((((w36.setCell ⟨gb453, 0, none⟩ (.int .i64 t448)).setCell ⟨gb453, 1, none⟩ (.int .i64 t449)).setCell ⟨gb453, 2, none⟩ (.slice Ao40 t450.length co40)).setCell ⟨gb445, 0, none⟩ (.bool true)).setCell ⟨gb445, 1, none⟩ (.int .i64 t449)).setCell ⟨gb445, 2, none⟩ (.slice Ao40 t450.length co40)).setCell ⟨gb445, 3, none⟩ (.int .i64 0)) = w43 at n0_ n1_ n2_ n3_ n4_ ⊢
      have HO452 := n0_
      have BK444 := n1_
      have BK445 := n2_
      have BK453 := n3_
      have HB := n4_
      clear n0_ n1_ n2_ n3_ n4_
      have n0_ := z2.mk (Kd.zb HO452.out)
      have n1_ := z2.mk (y6 BK444.out)
      have n2_ := z2.mk (y6 BK445.out)
      have n3_ := z2.mk (y6 BK453.out)
      have n4_ := z2.mk (z3 HB.out)
      clear HO452
      clear BK444
      clear BK445
      clear BK453
      clear HB
      have HO452 := n0_
      have BK444 := n1_
      have BK445 := n2_
      have BK453 := n3_
      have HB := n4_
      clear n0_ n1_ n2_ n3_ n4_
      refine z0f (n := 12) (S := fun w' => w'.cell? ⟨gb445, 0, none⟩ = some (.bool true) ∧ w'.cell? ⟨gb445, 1, none⟩ = some (.int .i64 t449) ∧ w'.cell? ⟨gb445, 2, none⟩ = some (.slice Ao40 t450.length co40) ∧ w'.cell? ⟨gb445, 3, none⟩ = some (.int .i64 0)) (ds := []) #[false, false, false, false, false, false, false, false, false, false, false, false] (by kernel_rfl) rfl rfl ⟨(z6 BK445.out 0).trans rfl, (z6 BK445.out 1).trans rfl, (z6 BK445.out 2).trans rfl, (z6 BK445.out 3).trans rfl⟩ (fun hHeld => ?_); refine q03 yb.z2j yb.q1p (fun HT_ HW_ => ?_)
      generalize w43.drew = w44 at HO452 BK444 BK445 BK453 HB hHeld ⊢
      refine y04 (i := 0) (N := some 43) (v := ?_) (a' := ?_) #[true, false, false, false, false, false, false, false, false, false, false, false] rfl rfl (zv HT_.out HW_.out (by kernel_rfl)) (fun _ _ _ h => h) (Or.inl ⟨by rfl, ?_⟩) hHeld ?_ ?_
      rotate_left
      ·rintro w' ⟨s0, s1, s2, s3⟩
       go_simp
       with_reducible rfl
      rotate_left
      ·simp only [Act.put, List.setIfInBounds_toArray, List.set_cons_zero, List.set_cons_succ, yg, qg]
       rfl
      refine y04 (i := 1) (N := some 44) (v := ?_) (a' := ?_) #[true, true, false, false, false, false, false, false, false, false, false, false] rfl rfl (zv HT_.out HW_.out (by kernel_rfl)) (fun _ _ _ h => h) (Or.inl ⟨by rfl, ?_⟩) hHeld ?_ ?_
      rotate_left
      ·rintro w' ⟨s0, s1, s2, s3⟩
       go_simp
       with_reducible rfl
      rotate_left
      ·simp only [Act.put, List.setIfInBounds_toArray, List.set_cons_zero, List.set_cons_succ, yg, qg]
       rfl
      refine q0j (i := 2) (N := some 45) #[true, true, true, false, false, false, false, false, false, false, false, false] rfl rfl (qz HT_.out (by kernel_rfl)) (by decide) (fun K hK => ?_)
      refine y0g Try.func11 (by kernel_rfl) rfl #[.agg #[.bool true, .int .i64 t449, .slice Ao40 t450.length co40, .int .i64 0]] (by rfl) rfl rfl (by (try simp only [List.map_toArray, List.map_cons, List.map_nil]); first | done | rfl | (simp only [List.length_drop, List.length_take]; rfl)) ?_
      with_reducible refine (yf.calls kj1 true t449 _ _ t450 0 t454 _ ?side1 ?side2 A12.out).mono ?_
      (case side1 => repeat (first | exact (Kd.qd HO452.out).2.2 | (with_reducible refine Kd.yi ?_ _) | (with_reducible refine Kd.qi ?_ _) | (with_reducible refine Kd.C_drew ?_)))
      (case side2 => exact (Kd.qd HO452.out).2.1)
      rintro e w45 ⟨rfl, hb⟩
      refine ⟨_, rfl, ?_⟩
      have n0_ := z2.mk (Kd.qf (by (with_reducible repeat (first | apply Kd.R_alloc | apply Kd.y9 | apply Kd.zb)); exact HO452.out) hb)
      have n1_ := z2.mk (z9 (g := gb444) (o := .cells #[.bool false, .int .i64 0, .slice none 0 0, .int .i64 0] 33 (0, 0)) (by (with_reducible repeat (first | refine z5 ?_ _ | refine y6 ?_ | refine y4 ?_ _)); exact BK444.out) hb)
      have n2_ := z2.mk (z9 (g := gb445) (o := .cells #[.bool true, .int .i64 t449, .slice Ao40 t450.length co40, .int .i64 0] 33 (0, 0)) (by (with_reducible repeat (first | refine z5 ?_ _ | refine y6 ?_ | refine y4 ?_ _)); exact BK445.out) hb)
      have n3_ := z2.mk (z9 (g := gb453) (o := .cells #[.int .i64 t448, .int .i64 t449, .slice Ao40 t450.length co40] 153 (0, 0)) (by (with_reducible repeat (first | refine z5 ?_ _ | refine y6 ?_ | refine y4 ?_ _)); exact BK453.out) hb)
      have n4_ := z2.mk (y8 (by repeat (first | (with_reducible first | exact HB.out | apply z4 | apply z1 | apply z3 | refine z7 ?_ GE444.out | refine z7 ?_ GE445.out | refine z7 ?_ GE453.out) | exact HB.out)) hb)
      clear HO452
      clear BK444
      clear BK445
      clear BK453
      clear HB
      have HO452 := n0_
      have BK444 := n1_
      have BK445 := n2_
      have BK453 := n3_
      have HB := n4_
      clear n0_ n1_ n2_ n3_ n4_
      (try clear hb)
      (try clear hb2)
      (try clear hk)
      (try clear hi)
      refine hK.out _ _ ⟨(z6 BK445.out 0).trans rfl, (z6 BK445.out 1).trans rfl, (z6 BK445.out 2).trans rfl, (z6 BK445.out 3).trans rfl⟩ (fun hHeld => ?_)
      clear hK K
      refine zx (a' := ?_) ?_ ?_
      rotate_left
      ·show Act.put _ (some 45) _ = _
       simp only [Act.put, List.setIfInBounds_toArray, List.set_cons_zero, List.set_cons_succ, yg, qg]
       rfl
      refine yo (i := 3) (N := some 46) (v := ?_) (a' := ?_) #[true, true, true, true, false, false, false, false, false, false, false, false] rfl rfl (qj HT_.out (by kernel_rfl)) (fun _ _ _ h => h) (Or.inl ⟨by rfl, ?_⟩) ?_ ?_
      rotate_left
      ·intro w'
       go_simp
       with_reducible rfl
      rotate_left
      ·simp only [Act.put, List.setIfInBounds_toArray, List.set_cons_zero, List.set_cons_succ, yg, qg]
       rfl
      refine yo (i := 4) (N := some 47) (v := ?_) (a' := ?_) #[true, true, true, true, true, false, false, false, false, false, false, false] rfl rfl (qj HT_.out (by kernel_rfl)) (fun _ _ _ h => h) (Or.inl ⟨by rfl, ?_⟩) ?_ ?_
      rotate_left
      ·intro w'
       go_simp
       with_reducible rfl
      rotate_left
      ·simp only [Act.put, List.setIfInBounds_toArray, List.set_cons_zero, List.set_cons_succ, yg, qg]
       rfl
      refine yo (i := 5) (N := some 48) (v := undef) (a' := ?_) #[true, true, true, true, true, true, false, false, false, false, false, false] rfl rfl (qj HT_.out (by kernel_rfl)) (fun _ _ _ h => h) (Or.inr ⟨by rfl, rfl⟩) ?_ ?_
      rotate_left
      ·simp only [Act.put, List.setIfInBounds_toArray, List.set_cons_zero, List.set_cons_succ, yg, qg]
       rfl
      refine yo (i := 6) (N := some 49) (v := undef) (a' := ?_) #[true, true, true, true, true, true, true, false, false, false, false, false] rfl rfl (qj HT_.out (by kernel_rfl)) (fun _ _ _ h => h) (Or.inr ⟨by rfl, rfl⟩) ?_ ?_
      rotate_left
      ·simp only [Act.put, List.setIfInBounds_toArray, List.set_cons_zero, List.set_cons_succ, yg, qg]
       rfl
      refine yo (i := 7) (N := some 50) (v := undef) (a' := ?_) #[true, true, true, true, true, true, true, true, false, false, false, false] rfl rfl (qj HT_.out (by kernel_rfl)) (fun _ _ _ h => h) (Or.inr ⟨by rfl, rfl⟩) ?_ ?_
      rotate_left
      ·simp only [Act.put, List.setIfInBounds_toArray, List.set_cons_zero, List.set_cons_succ, yg, qg]
       rfl
      refine yo (i := 8) (N := some 51) (v := undef) (a' := ?_) #[true, true, true, true, true, true, true, true, true, false, false, false] rfl rfl (qj HT_.out (by kernel_rfl)) (fun _ _ _ h => h) (Or.inr ⟨by rfl, rfl⟩) ?_ ?_
      rotate_left
      ·simp only [Act.put, List.setIfInBounds_toArray, List.set_cons_zero, List.set_cons_succ, yg, qg]
       rfl
      refine yo (i := 9) (N := some 52) (v := ?_) (a' := ?_) #[true, true, true, true, true, true, true, true, true, true, false, false] rfl rfl (qj HT_.out (by kernel_rfl)) (fun _ _ _ h => h) (Or.inl ⟨by rfl, ?_⟩) ?_ ?_
      rotate_left
      ·intro w'
       go_simp
       with_reducible rfl
      rotate_left
      ·simp only [Act.put, List.setIfInBounds_toArray, List.set_cons_zero, List.set_cons_succ, yg, qg]
       rfl
      refine q0j (i := 10) (N := none) #[true, true, true, true, true, true, true, true, true, true, true, false] rfl rfl (qz HT_.out (by kernel_rfl)) (by decide) (fun K hK => ?_)
      have hs46 : w45.cell? ⟨gb444, 0, none⟩ = some (.bool false) := (z6 BK444.out 0).trans rfl
      have hfs46 := y5 BK444.out 0
      have hns46_1 := NB445_444.out
      have hns46_2 := NB453_444.out
      have hms46_1 := NB444_445.out
      have hms46_2 := NB444_453.out
      have hs47 : w45.cell? ⟨gb444, 1, none⟩ = some (.int .i64 0) := (z6 BK444.out 1).trans rfl
      have hfs47 := y5 BK444.out 1
      have hns47_1 := NB445_444.out
      have hns47_2 := NB453_444.out
      have hms47_1 := NB444_445.out
      have hms47_2 := NB444_453.out
      have hs48 : w45.cell? ⟨gb444, 2, none⟩ = some (.slice none 0 0) := (z6 BK444.out 2).trans rfl
      have hfs48 := y5 BK444.out 2
      have hns48_1 := NB445_444.out
      have hns48_2 := NB453_444.out
      have hms48_1 := NB444_445.out
      have hms48_2 := NB444_453.out
      have hs49 : w45.cell? ⟨gb444, 3, none⟩ = some (.int .i64 0) := (z6 BK444.out 3).trans rfl
      have hfs49 := y5 BK444.out 3
      have hns49_1 := NB445_444.out
      have hns49_2 := NB453_444.out
      have hms49_1 := NB444_445.out
      have hms49_2 := NB444_453.out
      refine q0v (w1 := ?_) (by rfl) rfl ?_ ?_
      rotate_left
      ·go_simp
       rfl
      refine hK.out _ _ ⟨((cell_far (p := ⟨gb444, _, none⟩) NB445_444.out _).trans (((cell_far (p := ⟨gb444, _, none⟩) NB445_444.out _).trans (((cell_far (p := ⟨gb444, _, none⟩) NB445_444.out _).trans (((cell_far (p := ⟨gb444, _, none⟩) NB445_444.out _).trans (hHeld.1)))))))), ((cell_far (p := ⟨gb444, _, none⟩) NB445_444.out _).trans (((cell_far (p := ⟨gb444, _, none⟩) NB445_444.out _).trans (((cell_far (p := ⟨gb444, _, none⟩) NB445_444.out _).trans (((cell_far (p := ⟨gb444, _, none⟩) NB445_444.out _).trans (hHeld.2.1)))))))), ((cell_far (p := ⟨gb444, _, none⟩) NB445_444.out _).trans (((cell_far (p := ⟨gb444, _, none⟩) NB445_444.out _).trans (((cell_far (p := ⟨gb444, _, none⟩) NB445_444.out _).trans (((cell_far (p := ⟨gb444, _, none⟩) NB445_444.out _).trans (hHeld.2.2.1)))))))), ((cell_far (p := ⟨gb444, _, none⟩) NB445_444.out _).trans (((cell_far (p := ⟨gb444, _, none⟩) NB445_444.out _).trans (((cell_far (p := ⟨gb444, _, none⟩) NB445_444.out _).trans (((cell_far (p := ⟨gb444, _, none⟩) NB445_444.out _).trans (hHeld.2.2.2))))))))⟩ (fun hHeld => ?_)
      clear hK K
      refine yo (i := 11) (N := some 3) (v := ?_) (a' := ?_) #[true, true, true, true, true, true, true, true, true, true, true, true] rfl rfl (qj HT_.out (by kernel_rfl)) (fun _ _ _ h => h) (Or.inl ⟨by rfl, ?_⟩) ?_ ?_
      rotate_left
      ·intro w'
       go_simp
       with_reducible rfl
      rotate_left
      ·simp only [Act.put, List.setIfInBounds_toArray, List.set_cons_zero, List.set_cons_succ, yg, qg]
       rfl
      refine y0n (q0b HT_.out (by kernel_rfl)) ?_
      try go_wp2
      refine bodyPost_ret (y02 rfl _ _ gb444 33 #[.bool true, .int .i64 t449, .slice Ao40 t450.length co40, .int .i64 0] (0, 0) _ rfl (by (with_reducible repeat (first | refine z5 ?_ _ | refine y6 ?_ | refine y4 ?_ _)); refine qc (cs := #[.bool true, .int .i64 t449, .slice Ao40 t450.length co40, .int .i64 0]) ?_ 3 _ rfl; (with_reducible repeat (first | refine z5 ?_ _ | refine y6 ?_ | refine y4 ?_ _)); refine qc (cs := #[.bool true, .int .i64 t449, .slice none 0 0, .int .i64 0]) ?_ 2 _ rfl; (with_reducible repeat (first | refine z5 ?_ _ | refine y6 ?_ | refine y4 ?_ _)); refine qc (cs := #[.bool true, .int .i64 0, .slice none 0 0, .int .i64 0]) ?_ 1 _ rfl; (with_reducible repeat (first | refine z5 ?_ _ | refine y6 ?_ | refine y4 ?_ _)); refine qc (cs := #[.bool false, .int .i64 0, .slice none 0 0, .int .i64 0]) ?_ 0 _ rfl; (with_reducible repeat (first | refine z5 ?_ _ | refine y6 ?_ | refine y4 ?_ _)); exact BK444.out) Try.underlying33 rfl (by kernel_rfl)) rfl ?_
      exact ⟨_, by first | rfl | (simp [ya, qa] <;> rfl) | (simp [*, ya, qa] <;> rfl), by (with_reducible repeat (first | apply Kd.R_alloc | apply Kd.y9 | apply Kd.zb)); exact Kd.yk (Kd.zf (p := ⟨gb444, 3, none⟩) (Kd.zf (p := ⟨gb444, 2, none⟩) (Kd.zf (p := ⟨gb444, 1, none⟩) (Kd.zf (p := ⟨gb444, 0, none⟩) (Kd.qp HO452.out BK444.out (by decide)) (fun _ hk => hk.2) (.bool true)) (fun _ hk => hk.2) (.int .i64 t449)) (fun _ hk => hk.2) (.slice Ao40 t450.length co40)) (fun _ hk => hk.2) (.int .i64 0)) (fun _ hk => trivial), by repeat (first | (with_reducible first | exact HB.out | apply z4 | apply z1 | apply z3 | refine z7 ?_ GE444.out | refine z7 ?_ GE445.out | refine z7 ?_ GE453.out) | exact HB.out)⟩
    ·rw [if_neg c10] at H
     exact absurd H (by simp)
   ·replace c9 := Bool.eq_false_iff.mpr c9
    subst c9
    have H1 : (if (l0.length : Int) = 10 then (if 0 < (l0.length : Int) then (yb.j1 kj1 l0 ((rd l0 0) == 2) false 0 0) else (none)) else (yb.j1 kj1 l0 false false 0 0)) = some (r1, r2, r3, r4, r5) := by rw [if_neg (show ¬ (false = true) by decide)] at H; exact H
    clear H
    have H := H1
    clear H1
    have HC50 := z2.mk H
    clear H
    go_upto_region 5 with (fail)
    go_cut [23] (fun v23 wc => ∃ (kq : Nat) (x23_49 : Bool), v23 = .bool x23_49 ∧ z2 (yb.j1 kq l0 x23_49 false 0 0 = some (r1, r2, r3, r4, r5)) ∧ z2 (kq ≤ kj1) ∧ z2 (wc.heap[gb444]? = some (.cells #[.bool false, .int .i64 0, (.slice none 0 0), .int .i64 0] 33 (0, 0))) ∧ z2 (wc.heap[gb445]? = some (.cells #[.bool false, .int .i64 0, (.slice none 0 0), .int .i64 0] 33 (0, 0))) ∧ z2 (Below w.heap.size w wc))
    case first =>
     have H := HC50.out
     clear HC50
     by_cases c51 : (l0.length : Int) = 10
     ·rw [if_pos c51] at H
      have c51b0 : ((l0.length : Int) == 10) = true := beq_iff_eq.mpr c51
      have c51b1 : ((l0.length : Int) != 10) = false := bne_eq_false_iff_eq.mpr c51
      clear c51
      (first | rw [c51b0] | (simp only [yg, qg]; rw [c51b0]) | skip)
      by_cases c52 : 0 < (l0.length : Int)
      ·rw [if_pos c52] at H
       have c52b0 : decide (0 < (l0.length : Int)) = true := decide_eq_true c52
       have c52b1 : decide (0 < l0.length) = true := decide_eq_true (by omega)
       clear c52
       have H' := z2.mk H
       clear H
       have p459 : 0 ≤ (0 : Int) := (by omega)
       have q459 : 0 < (l0.length : Int) := of_decide_eq_true (by first | (with_reducible assumption) | assumption)
       obtain ⟨ad459, e459, hx459_0⟩ := Kd.q07 HR0.out 0 p459 q459
       cases e459
       have qi459 : (0 < l0.length) = True := eq_true (by omega)
       (try rw [show ((0 : Int)).toNat = 0 from rfl] at hx459_0)
       (try rw [Addr.add_zero'] at hx459_0)
       replace hx459_0 := (HB.out.cell (World.block_lt_of_cell? w _ hx459_0)).trans hx459_0
       replace p459 := eq_true p459
       replace q459 := eq_true q459
       go_wp2
       go_meet
       case rel => exact ⟨_, (((rd l0 0) == 2)), (by first | rfl | (simp; done) | (simp [*]; done)), H', ⟨by have := HJ1.out; first | omega | exact Nat.le_refl _⟩, ⟨by (with_reducible repeat (first | refine z5 ?_ _ | refine y6 ?_ | refine y4 ?_ _)); exact BK444.out⟩, ⟨by (with_reducible repeat (first | refine z5 ?_ _ | refine y6 ?_ | refine y4 ?_ _)); exact BK445.out⟩, ⟨by repeat (first | (with_reducible first | exact HB.out | apply z4 | apply z1 | apply z3 | refine z7 ?_ GE444.out | refine z7 ?_ GE445.out) | exact HB.out)⟩⟩
      ·rw [if_neg c52] at H
       exact absurd H (by simp)
     ·rw [if_neg c51] at H
      have c51b0 : ((l0.length : Int) == 10) = false := beq_eq_false_iff_ne.mpr c51
      have c51b1 : ((l0.length : Int) != 10) = true := bne_iff_ne.mpr c51
      (first | rw [c51b0] | (simp only [yg, qg]; rw [c51b0]) | skip)
      have H' := z2.mk H
      clear H
      go_wp2
      go_meet
      case rel => exact ⟨_, (false), (by first | rfl | (simp; done) | (simp [*]; done)), H', ⟨by have := HJ1.out; first | omega | exact Nat.le_refl _⟩, ⟨by (with_reducible repeat (first | refine z5 ?_ _ | refine y6 ?_ | refine y4 ?_ _)); exact BK444.out⟩, ⟨by (with_reducible repeat (first | refine z5 ?_ _ | refine y6 ?_ | refine y4 ?_ _)); exact BK445.out⟩, ⟨by repeat (first | (with_reducible first | exact HB.out | apply z4 | apply z1 | apply z3 | refine z7 ?_ GE444.out | refine z7 ?_ GE445.out) | exact HB.out)⟩⟩
    case rest =>
     clear HC50
     try clear c1
     try clear c2
     try clear p2
     try clear c3
     try clear c4
     try clear p4
     try clear q4
     try clear hx4
     try clear qi4
     try clear c5
     try clear c7
     try clear c7b0
     try clear c7b1
     try clear c8
     try clear c8b0
     try clear c8b1
     try clear c9
     try clear c10
     try clear c10b0
     try clear c10b1
     try clear c11
     try clear c13
     try clear c13b0
     try clear c13b1
     try clear c19
     try clear c20
     try clear c23
     try clear c37
     try clear c38
     try clear c41
     try clear p44
     try clear q44
     try clear hx44
     try clear qi44
     try clear p45
     try clear q45
     try clear hx45
     try clear qi45
     try clear c51
     try clear c51b0
     try clear c51b1
     try clear c52
     try clear c52b0
     try clear c52b1
     try clear hcz21_0
     try clear hcz21_1
     try clear hcz21_2
     try clear hcz24_0
     try clear hcz24_1
     try clear hcz24_2
     try clear hcz24_3
     try clear hcz39_0
     try clear hcz39_1
     try clear hcz39_2
     try clear hcz42_0
     try clear hcz42_1
     try clear hcz42_2
     try clear hcz42_3
     try clear hcz6_0
     try clear hcz6_1
     try clear hcz6_2
     try clear hcz6_3
     try clear hfz21_0
     try clear hfz21_1
     try clear hfz21_2
     try clear hfz24_0
     try clear hfz24_1
     try clear hfz24_2
     try clear hfz24_3
     try clear hfz39_0
     try clear hfz39_1
     try clear hfz39_2
     try clear hfz42_0
     try clear hfz42_1
     try clear hfz42_2
     try clear hfz42_3
     try clear hfz6_0
     try clear hfz6_1
     try clear hfz6_2
     try clear hfz6_3
     try clear hx446_0
     try clear hx459_0
     try clear p2
     try clear p4
     try clear p446
     try clear p459
     try clear q4
     try clear q446
     try clear q459
     obtain ⟨kq, x23_49, rfl, HA, HJ49, BK444, BK445, HB⟩ := hcut
     cases kq with
     | zero => exact absurd HA.out (by simp [yb.j1])
     | succ kj49 =>
      have H := HA.out
      clear HA
      simp only [yb.j1] at H
      by_cases c53 : x23_49 = true
      ·subst c53
       have H1 : (if 1 ≤ 9 then (if 9 ≤ (l0.length : Int) then ((zi.f kj49 ((l0.take 9).drop 1)).bind fun bt461 => (if 9 < (l0.length : Int) then ((yf.f kj49 false bt461.2 ([] : List (yl)) (wrap64 (rd l0 9))).bind fun t464 => (if t464 = 0 then ((qo.f kj49 false bt461.2 ([] : List (yl)) (wrap64 (rd l0 9))).bind fun t465 => ((zo.f t465 l0).bind fun t468 => (some (false, bt461.2, ([] : List (yl)), wrap64 (rd l0 9), t468)))) else (some (false, bt461.2, ([] : List (yl)), wrap64 (rd l0 9), false)))) else (none))) else (none)) else (none)) = some (r1, r2, r3, r4, r5) := by rw [if_pos rfl] at H; exact H
       clear H
       have H := H1
       clear H1
       by_cases c54 : 1 ≤ 9
       ·rw [if_pos c54] at H
        have c54b0 := eq_true c54
        have c54b1 : decide (1 ≤ 9) = true := decide_eq_true c54
        clear c54
        by_cases c55 : 9 ≤ (l0.length : Int)
        ·rw [if_pos c55] at H
         have c55b0 := eq_true c55
         have c55b1 : decide (9 ≤ (l0.length : Int)) = true := decide_eq_true c55
         clear c55
         replace H := Option.bind_eq_some_iff.mp H
         obtain ⟨⟨t461, t462⟩, A560, H⟩ := H
         replace H : (if 9 < (l0.length : Int) then ((yf.f kj49 false t462 ([] : List (yl)) (wrap64 (rd l0 9))).bind fun t464 => (if t464 = 0 then ((qo.f kj49 false t462 ([] : List (yl)) (wrap64 (rd l0 9))).bind fun t465 => ((zo.f t465 l0).bind fun t468 => (some (false, t462, ([] : List (yl)), wrap64 (rd l0 9), t468)))) else (some (false, t462, ([] : List (yl)), wrap64 (rd l0 9), false)))) else (none)) = some (r1, r2, r3, r4, r5) := H
         have A56 := z2.mk A560
         clear A560
         by_cases c57 : 9 < (l0.length : Int)
         ·rw [if_pos c57] at H
          have c57b0 : decide (9 < (l0.length : Int)) = true := decide_eq_true c57
          have c57b1 : decide (9 < l0.length) = true := decide_eq_true (by omega)
          clear c57
          replace H := Option.bind_eq_some_iff.mp H
          obtain ⟨t464, A580, H⟩ := H
          replace H : (if t464 = 0 then ((qo.f kj49 false t462 ([] : List (yl)) (wrap64 (rd l0 9))).bind fun t465 => ((zo.f t465 l0).bind fun t468 => (some (false, t462, ([] : List (yl)), wrap64 (rd l0 9), t468)))) else (some (false, t462, ([] : List (yl)), wrap64 (rd l0 9), false))) = some (r1, r2, r3, r4, r5) := H
          have A58 := z2.mk A580
          clear A580
          by_cases c59 : t464 = 0
          ·rw [if_pos c59] at H
           have c59b0 : (t464 == 0) = true := beq_iff_eq.mpr c59
           have c59b1 : (t464 != 0) = false := bne_eq_false_iff_eq.mpr c59
           clear c59
           replace H := Option.bind_eq_some_iff.mp H
           obtain ⟨t465, A600, H⟩ := H
           replace H : ((zo.f t465 l0).bind fun t468 => (some (false, t462, ([] : List (yl)), wrap64 (rd l0 9), t468))) = some (r1, r2, r3, r4, r5) := H
           have A60 := z2.mk A600
           clear A600
           replace H := Option.bind_eq_some_iff.mp H
           obtain ⟨t468, A610, H⟩ := H
           replace H : (some (false, t462, ([] : List (yl)), wrap64 (rd l0 9), t468)) = some (r1, r2, r3, r4, r5) := H
           have A61 := z2.mk A610
           clear A610
           simp only [Option.some.injEq, Prod.mk.injEq] at H
           obtain ⟨rfl, rfl, rfl, rfl, rfl⟩ := H
           try go_wp2
           have n0_ := z2.mk (y6 BK444.out)
           have n1_ := z2.mk (y6 BK445.out)
           have n2_ := z2.mk (z3 HB.out)
           clear BK444
           clear BK445
           clear HB
           have BK444 := n0_
           have BK445 := n1_
           have HB := n2_
           clear n0_ n1_ n2_
           obtain ⟨i063, hi063, _, hsz63, _⟩ := info_parts y0f
           obtain ⟨A63, hcut63, hA63, hC63⟩ := y0e (P := Try.prog) (Value.int .u8) 0 37 5 .i64 .i64 Try.underlying37 hi063 hsz63 A0 c0 l0 1 9 (by omega) (by first | omega | exact of_decide_eq_true (by first | (with_reducible assumption) | assumption)) (of_decide_eq_true (by first | (with_reducible assumption) | assumption)) HC0.out
           have HR460 := z2.mk (Kd.z05 (h1 := fun _ => rfl) (hA63 _ (Kd.z02 HR0.out)))
           have HC460 := z2.mk hC63
           clear hA63 hC63 hi063 hsz63
           have p463 : 0 ≤ (9 : Int) := (by omega)
           have q463 : 9 < (l0.length : Int) := of_decide_eq_true (by first | (with_reducible assumption) | assumption)
           obtain ⟨ad463, e463, hx463_0⟩ := Kd.q07 HR0.out 9 p463 q463
           have hw463_0 := hx463_0
           (try rw [show ((9 : Int)).toNat = 9 from rfl] at hw463_0)
           (try rw [show 9 * 1 = 9 from rfl] at hw463_0)
           (try simp only [Nat.reduceMul, Nat.reduceEqDiff, Go.Addr.add, ↓reduceIte] at hw463_0)
           cases e463
           (try simp only [show (9 : Int).toNat = 9 from rfl, Nat.reduceMul, Nat.reduceEqDiff, Go.Addr.add, ↓reduceIte] at hx463_0)
           have qi463 : (9 < l0.length) = True := eq_true (by omega)
           (try rw [show ((9 : Int)).toNat = 9 from rfl] at hx463_0)
           replace hx463_0 := (HB.out.cell (World.block_lt_of_cell? w _ hx463_0)).trans hx463_0
           replace p463 := eq_true p463
           replace q463 := eq_true q463
           refine z0f (n := 11) (S := fun w' => w'.cell? ⟨ad463.block, ad463.off + 9, none⟩ = some (.int .u8 (rd l0 9))) (ds := []) #[false, false, false, false, false, false, false, false, false, false, false] (by kernel_rfl) rfl rfl (((HB.out.cell (World.block_lt_of_cell? w _ hw463_0)).trans hw463_0)) (fun hHeld => ?_); refine q03 yb.q2o yb.q1v (fun HT_ HW_ => ?_)
           generalize wc.drew = w62 at BK444 BK445 HB HR460 hx463_0 hHeld ⊢
           refine yo (i := 0) (N := some 33) (v := ?_) (a' := ?_) #[true, false, false, false, false, false, false, false, false, false, false] rfl rfl (qj HT_.out (by kernel_rfl)) (fun _ _ _ h => h) (Or.inl ⟨by rfl, ?_⟩) ?_ ?_
           rotate_left
           ·intro w'
            go_simp
            with_reducible rfl
           rotate_left
           ·simp only [Act.put, List.setIfInBounds_toArray, List.set_cons_zero, List.set_cons_succ, yg, qg]
            rfl
           refine yo (i := 1) (N := some 34) (v := ?_) (a' := ?_) #[true, true, false, false, false, false, false, false, false, false, false] rfl rfl (qj HT_.out (by kernel_rfl)) (fun _ _ _ h => h) (Or.inl ⟨by rfl, ?_⟩) ?_ ?_
           rotate_left
           ·intro w'
            go_simp
            with_reducible rfl
           rotate_left
           ·simp only [Act.put, List.setIfInBounds_toArray, List.set_cons_zero, List.set_cons_succ, yg, qg]
            rfl
           refine yo (i := 5) (N := some 38) (v := ?_) (a' := ?_) #[true, true, false, false, false, true, false, false, false, false, false] rfl rfl (qj HT_.out (by kernel_rfl)) (fun _ _ _ h => h) (Or.inl ⟨by rfl, ?_⟩) ?_ ?_
           rotate_left
           ·intro w'
            go_simp
            with_reducible rfl
           rotate_left
           ·simp only [Act.put, List.setIfInBounds_toArray, List.set_cons_zero, List.set_cons_succ, yg, qg]
            rfl
           refine yo (i := 6) (N := some 39) (v := ?_) (a' := ?_) #[true, true, false, false, false, true, true, false, false, false, false] rfl rfl (qj HT_.out (by kernel_rfl)) (fun _ _ _ h => h) (Or.inl ⟨by rfl, ?_⟩) ?_ ?_
           rotate_left
           ·intro w'
            go_simp
            with_reducible rfl
           rotate_left
           ·simp only [Act.put, List.setIfInBounds_toArray, List.set_cons_zero, List.set_cons_succ, yg, qg]
            rfl
           refine y04 (i := 7) (N := some 40) (v := ?_) (a' := ?_) #[true, true, false, false, false, true, true, true, false, false, false] rfl rfl (zv HT_.out HW_.out (by kernel_rfl)) (fun _ _ _ h => h) (Or.inl ⟨by rfl, ?_⟩) hHeld ?_ ?_
           rotate_left
           ·intro w' s0
            go_simp
            with_reducible rfl
           rotate_left
           ·simp only [Act.put, List.setIfInBounds_toArray, List.set_cons_zero, List.set_cons_succ, yg, qg]
            rfl
           refine yo (i := 8) (N := some 41) (v := ?_) (a' := ?_) #[true, true, false, false, false, true, true, true, true, false, false] rfl rfl (qj HT_.out (by kernel_rfl)) (fun _ _ _ h => h) (Or.inl ⟨by rfl, ?_⟩) ?_ ?_
           rotate_left
           ·intro w'
            go_simp
            with_reducible rfl
           rotate_left
           ·simp only [Act.put, List.setIfInBounds_toArray, List.set_cons_zero, List.set_cons_succ, yg, qg]
            rfl
           refine q0j (i := 2) (N := some 35) #[true, true, true, false, false, true, true, true, true, false, false] rfl rfl (qz HT_.out (by kernel_rfl)) (by decide) (fun K hK => ?_)
           refine y0g Try.func110 (by kernel_rfl) rfl #[.slice A63 ((l0.take 9).drop 1).length (c0 - 1)] (by rfl) rfl rfl (by (try simp only [List.map_toArray, List.map_cons, List.map_nil]); first | done | (rw [show ((l0.take 9).drop 1).length = (9 - 1) from (by rw [List.length_drop, List.length_take]; have h_ : (9 : Int) ≤ (l0.length : Int) := of_decide_eq_true (by first | (with_reducible assumption) | assumption); omega)] <;> rfl) | rfl | (simp only [List.length_drop, List.length_take]; rfl)) ?_
           with_reducible refine (zi.calls kj49 _ _ ((l0.take 9).drop 1) t461 t462 _ ?side1 ?side2 A56.out).mono ?_
           (case side1 => repeat (first | exact (Kd.yp HR460.out HB.out) | (with_reducible refine Kd.yi ?_ _) | (with_reducible refine Kd.qi ?_ _) | (with_reducible refine Kd.C_drew ?_)))
           (case side2 => exact HC460.out)
           rintro e w64 ⟨rfl, hb⟩
           refine ⟨_, rfl, ?_⟩
           have n0_ := z2.mk (z9 (g := gb444) (o := .cells #[.bool false, .int .i64 0, .slice none 0 0, .int .i64 0] 33 (0, 0)) (by (with_reducible repeat (first | refine z5 ?_ _ | refine y6 ?_ | refine y4 ?_ _)); exact BK444.out) hb)
           have n1_ := z2.mk (z9 (g := gb445) (o := .cells #[.bool false, .int .i64 0, .slice none 0 0, .int .i64 0] 33 (0, 0)) (by (with_reducible repeat (first | refine z5 ?_ _ | refine y6 ?_ | refine y4 ?_ _)); exact BK445.out) hb)
           have n2_ := z2.mk (y8 (by repeat (first | (with_reducible first | exact HB.out | apply z4 | apply z1 | apply z3 | refine z7 ?_ GE444.out | refine z7 ?_ GE445.out) | exact HB.out)) hb)
           clear BK444
           clear BK445
           clear HB
           have BK444 := n0_
           have BK445 := n1_
           have HB := n2_
           clear n0_ n1_ n2_
           (try clear hb)
           (try clear hb2)
           (try clear hk)
           (try clear hi)
           refine hK.out _ _ (((HB.out.cell (World.block_lt_of_cell? w _ hw463_0)).trans hw463_0)) (fun hHeld => ?_)
           clear hK K
           refine zx (a' := ?_) ?_ ?_
           rotate_left
           ·show Act.put _ (some 35) _ = _
            simp only [Act.put, List.setIfInBounds_toArray, List.set_cons_zero, List.set_cons_succ, yg, qg]
            rfl
           refine yo (i := 3) (N := some 36) (v := ?_) (a' := ?_) #[true, true, true, true, false, true, true, true, true, false, false] rfl rfl (qj HT_.out (by kernel_rfl)) (fun _ _ _ h => h) (Or.inl ⟨by rfl, ?_⟩) ?_ ?_
           rotate_left
           ·intro w'
            go_simp
            with_reducible rfl
           rotate_left
           ·simp only [Act.put, List.setIfInBounds_toArray, List.set_cons_zero, List.set_cons_succ, yg, qg]
            rfl
           refine yo (i := 4) (N := some 37) (v := ?_) (a' := ?_) #[true, true, true, true, true, true, true, true, true, false, false] rfl rfl (qj HT_.out (by kernel_rfl)) (fun _ _ _ h => h) (Or.inl ⟨by rfl, ?_⟩) ?_ ?_
           rotate_left
           ·intro w'
            go_simp
            with_reducible rfl
           rotate_left
           ·simp only [Act.put, List.setIfInBounds_toArray, List.set_cons_zero, List.set_cons_succ, yg, qg]
            rfl
           refine yo (i := 9) (N := some 42) (v := ?_) (a' := ?_) #[true, true, true, true, true, true, true, true, true, true, false] rfl rfl (qj HT_.out (by kernel_rfl)) (fun _ _ _ h => h) (Or.inl ⟨by rfl, ?_⟩) ?_ ?_
           rotate_left
           ·intro w'
            go_simp
            with_reducible rfl
           rotate_left
           ·simp only [Act.put, List.setIfInBounds_toArray, List.set_cons_zero, List.set_cons_succ, yg, qg]
            rfl
           refine q0j (i := 10) (N := none) #[true, true, true, true, true, true, true, true, true, true, true] rfl rfl (qz HT_.out (by kernel_rfl)) (by decide) (fun K hK => ?_)
           have hs65 : w64.cell? ⟨gb445, 0, none⟩ = some (.bool false) := (z6 BK445.out 0).trans rfl
           have hfs65 := y5 BK445.out 0
           have hns65_0 := NB444_445.out
           have hms65_0 := NB445_444.out
           have hs66 : w64.cell? ⟨gb445, 1, none⟩ = some (.int .i64 0) := (z6 BK445.out 1).trans rfl
           have hfs66 := y5 BK445.out 1
           have hns66_0 := NB444_445.out
           have hms66_0 := NB445_444.out
           have hs67 : w64.cell? ⟨gb445, 2, none⟩ = some (.slice none 0 0) := (z6 BK445.out 2).trans rfl
           have hfs67 := y5 BK445.out 2
           have hns67_0 := NB444_445.out
           have hms67_0 := NB445_444.out
           have hs68 : w64.cell? ⟨gb445, 3, none⟩ = some (.int .i64 0) := (z6 BK445.out 3).trans rfl
           have hfs68 := y5 BK445.out 3
           have hns68_0 := NB444_445.out
           have hms68_0 := NB445_444.out
           refine q0v (w1 := ?_) (by rfl) rfl ?_ ?_
           rotate_left
           ·go_simp
            rfl
           refine hK.out _ _ (((cell_far (p := ⟨gb445, _, none⟩) (by first | exact Nat.ne_of_lt (Nat.lt_of_lt_of_le (by have := World.block_lt_of_cell? _ _ hw463_0; first | rwa [add_block] at this | exact this) GW445.out) | (rw [add_block]; exact Nat.ne_of_lt (Nat.lt_of_lt_of_le (by have := World.block_lt_of_cell? _ _ hw463_0; first | rwa [add_block] at this | exact this) GW445.out)) | (show (Addr.add _ _).block ≠ _; rw [add_block]; exact Nat.ne_of_lt (Nat.lt_of_lt_of_le (by have := World.block_lt_of_cell? _ _ hw463_0; first | rwa [add_block] at this | exact this) GW445.out)) | (dsimp only; exact Nat.ne_of_lt (Nat.lt_of_lt_of_le (by have := World.block_lt_of_cell? _ _ hw463_0; first | rwa [add_block] at this | exact this) GW445.out))) _).trans (((cell_far (p := ⟨gb445, _, none⟩) (by first | exact Nat.ne_of_lt (Nat.lt_of_lt_of_le (by have := World.block_lt_of_cell? _ _ hw463_0; first | rwa [add_block] at this | exact this) GW445.out) | (rw [add_block]; exact Nat.ne_of_lt (Nat.lt_of_lt_of_le (by have := World.block_lt_of_cell? _ _ hw463_0; first | rwa [add_block] at this | exact this) GW445.out)) | (show (Addr.add _ _).block ≠ _; rw [add_block]; exact Nat.ne_of_lt (Nat.lt_of_lt_of_le (by have := World.block_lt_of_cell? _ _ hw463_0; first | rwa [add_block] at this | exact this) GW445.out)) | (dsimp only; exact Nat.ne_of_lt (Nat.lt_of_lt_of_le (by have := World.block_lt_of_cell? _ _ hw463_0; first | rwa [add_block] at this | exact this) GW445.out))) _).trans (((cell_far (p := ⟨gb445, _, none⟩) (by first | exact Nat.ne_of_lt (Nat.lt_of_lt_of_le (by have := World.block_lt_of_cell? _ _ hw463_0; first | rwa [add_block] at this | exact this) GW445.out) | (rw [add_block]; exact Nat.ne_of_lt (Nat.lt_of_lt_of_le (by have := World.block_lt_of_cell? _ _ hw463_0; first | rwa [add_block] at this | exact this) GW445.out)) | (show (Addr.add _ _).block ≠ _; rw [add_block]; exact Nat.ne_of_lt (Nat.lt_of_lt_of_le (by have := World.block_lt_of_cell? _ _ hw463_0; first | rwa [add_block] at this | exact this) GW445.out)) | (dsimp only; exact Nat.ne_of_lt (Nat.lt_of_lt_of_le (by have := World.block_lt_of_cell? _ _ hw463_0; first | rwa [add_block] at this | exact this) GW445.out))) _).trans (((cell_far (p := ⟨gb445, _, none⟩) (by first | exact Nat.ne_of_lt (Nat.lt_of_lt_of_le (by have := World.block_lt_of_cell? _ _ hw463_0; first | rwa [add_block] at this | exact this) GW445.out) | (rw [add_block]; exact Nat.ne_of_lt (Nat.lt_of_lt_of_le (by have := World.block_lt_of_cell? _ _ hw463_0; first | rwa [add_block] at this | exact this) GW445.out)) | (show (Addr.add _ _).block ≠ _; rw [add_block]; exact Nat.ne_of_lt (Nat.lt_of_lt_of_le (by have := World.block_lt_of_cell? _ _ hw463_0; first | rwa [add_block] at this | exact this) GW445.out)) | (dsimp only; exact Nat.ne_of_lt (Nat.lt_of_lt_of_le (by have := World.block_lt_of_cell? _ _ hw463_0; first | rwa [add_block] at this | exact this) GW445.out))) _).trans (hHeld))))))))) (fun hHeld => ?_)
           clear hK K
           refine y0n (q0b HT_.out (by kernel_rfl)) ?_
           try go_wp2
           have n0_ : z2 (((((w64.setCell ⟨gb445, 0, none⟩ (.bool false)).setCell ⟨gb445, 1, none⟩ (.int .i64 t462)).setCell ⟨gb445, 2, none⟩ (.slice none 0 0)).setCell ⟨gb445, 3, none⟩ (.int .i64 (wrap64 (rd l0 9)))).heap[gb444]? = some (.cells #[.bool false, .int .i64 0, .slice none 0 0, .int .i64 0] 33 (0, 0))) := ⟨by (with_reducible repeat (first | refine z5 ?_ _ | refine y6 ?_ | refine y4 ?_ _)); refine zd ?_ NB444_445.out _; (with_reducible repeat (first | refine z5 ?_ _ | refine y6 ?_ | refine y4 ?_ _)); refine zd ?_ NB444_445.out _; (with_reducible repeat (first | refine z5 ?_ _ | refine y6 ?_ | refine y4 ?_ _)); refine zd ?_ NB444_445.out _; (with_reducible repeat (first | refine z5 ?_ _ | refine y6 ?_ | refine y4 ?_ _)); refine zd ?_ NB444_445.out _; (with_reducible repeat (first | refine z5 ?_ _ | refine y6 ?_ | refine y4 ?_ _)); exact BK444.out⟩
           have n1_ : z2 (((((w64.setCell ⟨gb445, 0, none⟩ (.bool false)).setCell ⟨gb445, 1, none⟩ (.int .i64 t462)).setCell ⟨gb445, 2, none⟩ (.slice none 0 0)).setCell ⟨gb445, 3, none⟩ (.int .i64 (wrap64 (rd l0 9)))).heap[gb445]? = some (.cells #[.bool false, .int .i64 t462, .slice none 0 0, .int .i64 (wrap64 (rd l0 9))] 33 (0, 0))) := ⟨by (with_reducible repeat (first | refine z5 ?_ _ | refine y6 ?_ | refine y4 ?_ _)); refine qc (cs := #[.bool false, .int .i64 t462, .slice none 0 0, .int .i64 0]) ?_ 3 _ rfl; (with_reducible repeat (first | refine z5 ?_ _ | refine y6 ?_ | refine y4 ?_ _)); refine qc (cs := #[.bool false, .int .i64 t462, .slice none 0 0, .int .i64 0]) ?_ 2 _ rfl; (with_reducible repeat (first | refine z5 ?_ _ | refine y6 ?_ | refine y4 ?_ _)); refine qc (cs := #[.bool false, .int .i64 0, .slice none 0 0, .int .i64 0]) ?_ 1 _ rfl; (with_reducible repeat (first | refine z5 ?_ _ | refine y6 ?_ | refine y4 ?_ _)); refine qc (cs := #[.bool false, .int .i64 0, .slice none 0 0, .int .i64 0]) ?_ 0 _ rfl; (with_reducible repeat (first | refine z5 ?_ _ | refine y6 ?_ | refine y4 ?_ _)); exact BK445.out⟩
           have n2_ : z2 (Below w.heap.size w ((((w64.setCell ⟨gb445, 0, none⟩ (.bool false)).setCell ⟨gb445, 1, none⟩ (.int .i64 t462)).setCell ⟨gb445, 2, none⟩ (.slice none 0 0)).setCell ⟨gb445, 3, none⟩ (.int .i64 (wrap64 (rd l0 9))))) := ⟨by repeat (first | (with_reducible first | exact HB.out | apply z4 | apply z1 | apply z3 | refine z7 ?_ GE444.out | refine z7 ?_ GE445.out) | exact HB.out)⟩
           (try clear BK444)
           (try clear BK445)
           (try clear HB)
           generalize ((((w64.setCell ⟨gb445, 0, none⟩ (.bool false)).setCell ⟨gb445, 1, none⟩ (.int .i64 t462)).setCell ⟨gb445, 2, none⟩ (.slice none 0 0)).setCell ⟨gb445, 3, none⟩ (.int .i64 (wrap64 (rd l0 9)))) = w69 at n0_ n1_ n2_ ⊢
           have BK444 := n0_
           have BK445 := n1_
           have HB := n2_
           clear n0_ n1_ n2_
           have n0_ := z2.mk (y6 BK444.out)
           have n1_ := z2.mk (y6 BK445.out)
           have n2_ := z2.mk (z3 HB.out)
           clear BK444
           clear BK445
           clear HB
           have BK444 := n0_
           have BK445 := n1_
           have HB := n2_
           clear n0_ n1_ n2_
           refine z0f (n := 12) (S := fun w' => w'.cell? ⟨gb445, 0, none⟩ = some (.bool false) ∧ w'.cell? ⟨gb445, 1, none⟩ = some (.int .i64 t462) ∧ w'.cell? ⟨gb445, 2, none⟩ = some (.slice none 0 0) ∧ w'.cell? ⟨gb445, 3, none⟩ = some (.int .i64 (wrap64 (rd l0 9)))) (ds := []) #[false, false, false, false, false, false, false, false, false, false, false, false] (by kernel_rfl) rfl rfl ⟨(z6 BK445.out 0).trans rfl, (z6 BK445.out 1).trans rfl, (z6 BK445.out 2).trans rfl, (z6 BK445.out 3).trans rfl⟩ (fun hHeld => ?_); refine q03 yb.z2j yb.q1p (fun HT_ HW_ => ?_)
           generalize w69.drew = w70 at BK444 BK445 HB hHeld ⊢
           refine y04 (i := 0) (N := some 43) (v := ?_) (a' := ?_) #[true, false, false, false, false, false, false, false, false, false, false, false] rfl rfl (zv HT_.out HW_.out (by kernel_rfl)) (fun _ _ _ h => h) (Or.inl ⟨by rfl, ?_⟩) hHeld ?_ ?_
           rotate_left
           ·rintro w' ⟨s0, s1, s2, s3⟩
            go_simp
            with_reducible rfl
           rotate_left
           ·simp only [Act.put, List.setIfInBounds_toArray, List.set_cons_zero, List.set_cons_succ, yg, qg]
            rfl
           refine y04 (i := 1) (N := some 44) (v := ?_) (a' := ?_) #[true, true, false, false, false, false, false, false, false, false, false, false] rfl rfl (zv HT_.out HW_.out (by kernel_rfl)) (fun _ _ _ h => h) (Or.inl ⟨by rfl, ?_⟩) hHeld ?_ ?_
           rotate_left
           ·rintro w' ⟨s0, s1, s2, s3⟩
            go_simp
            with_reducible rfl
           rotate_left
           ·simp only [Act.put, List.setIfInBounds_toArray, List.set_cons_zero, List.set_cons_succ, yg, qg]
            rfl
           refine q0j (i := 2) (N := some 45) #[true, true, true, false, false, false, false, false, false, false, false, false] rfl rfl (qz HT_.out (by kernel_rfl)) (by decide) (fun K hK => ?_)
           refine y0g Try.func11 (by kernel_rfl) rfl #[.agg #[.bool false, .int .i64 t462, .slice none 0 0, .int .i64 (wrap64 (rd l0 9))]] (by rfl) rfl rfl (by (try simp only [List.map_toArray, List.map_cons, List.map_nil]); first | done | rfl | (simp only [List.length_drop, List.length_take]; rfl)) ?_
           refine (yf.calls kj49 false t462 _ _ ([] : List (yl)) (wrap64 (rd l0 9)) t464 _ ?side1 ?side2 A58.out).mono ?_
           (case side1 => exact Kd.z1i _ _)
           (case side2 => exact Nat.le_refl _)
           rintro e w71 ⟨rfl, hb⟩
           refine ⟨_, rfl, ?_⟩
           have n0_ := z2.mk (z9 (g := gb444) (o := .cells #[.bool false, .int .i64 0, .slice none 0 0, .int .i64 0] 33 (0, 0)) (by (with_reducible repeat (first | refine z5 ?_ _ | refine y6 ?_ | refine y4 ?_ _)); exact BK444.out) hb)
           have n1_ := z2.mk (z9 (g := gb445) (o := .cells #[.bool false, .int .i64 t462, .slice none 0 0, .int .i64 (wrap64 (rd l0 9))] 33 (0, 0)) (by (with_reducible repeat (first | refine z5 ?_ _ | refine y6 ?_ | refine y4 ?_ _)); exact BK445.out) hb)
           have n2_ := z2.mk (y8 (by repeat (first | (with_reducible first | exact HB.out | apply z4 | apply z1 | apply z3 | refine z7 ?_ GE444.out | refine z7 ?_ GE445.out) | exact HB.out)) hb)
           clear BK444
           clear BK445
           clear HB
           have BK444 := n0_
           have BK445 := n1_
           have HB := n2_
           clear n0_ n1_ n2_
           (try clear hb)
           (try clear hb2)
           (try clear hk)
           (try clear hi)
           refine hK.out _ _ ⟨(z6 BK445.out 0).trans rfl, (z6 BK445.out 1).trans rfl, (z6 BK445.out 2).trans rfl, (z6 BK445.out 3).trans rfl⟩ (fun hHeld => ?_)
           clear hK K
           refine zx (a' := ?_) ?_ ?_
           rotate_left
           ·show Act.put _ (some 45) _ = _
            simp only [Act.put, List.setIfInBounds_toArray, List.set_cons_zero, List.set_cons_succ, yg, qg]
            rfl
           refine yo (i := 3) (N := some 46) (v := ?_) (a' := ?_) #[true, true, true, true, false, false, false, false, false, false, false, false] rfl rfl (qj HT_.out (by kernel_rfl)) (fun _ _ _ h => h) (Or.inl ⟨by rfl, ?_⟩) ?_ ?_
           rotate_left
           ·intro w'
            go_simp
            with_reducible rfl
           rotate_left
           ·simp only [Act.put, List.setIfInBounds_toArray, List.set_cons_zero, List.set_cons_succ, yg, qg]
            rfl
           refine yo (i := 4) (N := some 47) (v := ?_) (a' := ?_) #[true, true, true, true, true, false, false, false, false, false, false, false] rfl rfl (qj HT_.out (by kernel_rfl)) (fun _ _ _ h => h) (Or.inl ⟨by rfl, ?_⟩) ?_ ?_
           rotate_left
           ·intro w'
            go_simp
            with_reducible rfl
           rotate_left
           ·simp only [Act.put, List.setIfInBounds_toArray, List.set_cons_zero, List.set_cons_succ, yg, qg]
            rfl
           refine yo (i := 7) (N := some 50) (v := ?_) (a' := ?_) #[true, true, true, true, true, false, false, true, false, false, false, false] rfl rfl (qj HT_.out (by kernel_rfl)) (fun _ _ _ h => h) (Or.inl ⟨by rfl, ?_⟩) ?_ ?_
           rotate_left
           ·intro w'
            go_simp
            with_reducible rfl
           rotate_left
           ·simp only [Act.put, List.setIfInBounds_toArray, List.set_cons_zero, List.set_cons_succ, yg, qg]
            rfl
           refine y04 (i := 5) (N := some 48) (v := ?_) (a' := ?_) #[true, true, true, true, true, true, false, true, false, false, false, false] rfl rfl (zv HT_.out HW_.out (by kernel_rfl)) (fun _ _ _ h => h) (Or.inl ⟨by rfl, ?_⟩) hHeld ?_ ?_
           rotate_left
           ·rintro w' ⟨s0, s1, s2, s3⟩
            go_simp
            with_reducible rfl
           rotate_left
           ·simp only [Act.put, List.setIfInBounds_toArray, List.set_cons_zero, List.set_cons_succ, yg, qg]
            rfl
           refine q0j (i := 6) (N := some 49) #[true, true, true, true, true, true, true, true, false, false, false, false] rfl rfl (qz HT_.out (by kernel_rfl)) (by decide) (fun K hK => ?_)
           refine y0g Try.func55 (by kernel_rfl) rfl #[.agg #[.bool false, .int .i64 t462, .slice none 0 0, .int .i64 (wrap64 (rd l0 9))]] (by rfl) rfl rfl (by (try simp only [List.map_toArray, List.map_cons, List.map_nil]); first | done | rfl | (simp only [List.length_drop, List.length_take]; rfl)) ?_
           refine (qo.calls kj49 false t462 _ _ ([] : List (yl)) (wrap64 (rd l0 9)) t465 _ ?side1 ?side2 A60.out).mono ?_
           (case side1 => exact Kd.z1i _ _)
           (case side2 => exact Nat.le_refl _)
           rintro e w72 ⟨v466, rfl, ho0, hb⟩
           refine ⟨_, rfl, ?_⟩
           have n0_ := z2.mk (Kd.yr ho0 (z8 (by repeat (first | (with_reducible first | exact HB.out | apply z4 | apply z1 | apply z3 | refine z7 ?_ GE444.out | refine z7 ?_ GE445.out) | exact HB.out))))
           have n1_ := z2.mk (z9 (g := gb444) (o := .cells #[.bool false, .int .i64 0, .slice none 0 0, .int .i64 0] 33 (0, 0)) (by (with_reducible repeat (first | refine z5 ?_ _ | refine y6 ?_ | refine y4 ?_ _)); exact BK444.out) hb)
           have n2_ := z2.mk (z9 (g := gb445) (o := .cells #[.bool false, .int .i64 t462, .slice none 0 0, .int .i64 (wrap64 (rd l0 9))] 33 (0, 0)) (by (with_reducible repeat (first | refine z5 ?_ _ | refine y6 ?_ | refine y4 ?_ _)); exact BK445.out) hb)
           have n3_ := z2.mk (y8 (by repeat (first | (with_reducible first | exact HB.out | apply z4 | apply z1 | apply z3 | refine z7 ?_ GE444.out | refine z7 ?_ GE445.out) | exact HB.out)) hb)
           clear BK444
           clear BK445
           clear HB
           have HO467 := n0_
           have BK444 := n1_
           have BK445 := n2_
           have HB := n3_
           clear n0_ n1_ n2_ n3_
           (try clear hb)
           (try clear hb2)
           (try clear hk)
           (try clear hi)
           (try clear ho0)
           obtain ⟨Ao73, co73, eo73⟩ := Kd.zt HO467.out
           (first | subst eo73 | (injection eo73 with f1_ f2_ f3_; have f4_ := f1_.symm; have f5_ := f3_.symm; clear f1_ f2_ f3_; subst f4_; subst f5_))
           refine hK.out _ _ ⟨(z6 BK445.out 0).trans rfl, (z6 BK445.out 1).trans rfl, (z6 BK445.out 2).trans rfl, (z6 BK445.out 3).trans rfl⟩ (fun hHeld => ?_)
           clear hK K
           refine zx (a' := ?_) ?_ ?_
           rotate_left
           ·show Act.put _ (some 49) _ = _
            simp only [Act.put, List.setIfInBounds_toArray, List.set_cons_zero, List.set_cons_succ, yg, qg]
            rfl
           refine q0j (i := 8) (N := some 51) #[true, true, true, true, true, true, true, true, true, false, false, false] rfl rfl (qz HT_.out (by kernel_rfl)) (by decide) (fun K hK => ?_)
           refine y0g Try.func111 (by kernel_rfl) rfl #[.slice Ao73 t465.length co73, .slice (some ad463) l0.length c0] (by rfl) rfl rfl (by (try simp only [List.map_toArray, List.map_cons, List.map_nil]); first | done | rfl | (simp only [List.length_drop, List.length_take]; rfl)) ?_
           with_reducible refine (zo.calls _ _ t465 _ _ l0 t468 _ ?side1 ?side2 ?side3 ?side4 A61.out).mono ?_
           (case side1 => repeat (first | exact (Kd.qd HO467.out).2.2 | (with_reducible refine Kd.yi ?_ _) | (with_reducible refine Kd.qi ?_ _) | (with_reducible refine Kd.C_drew ?_)))
           (case side2 => exact (Kd.qd HO467.out).2.1)
           (case side3 => repeat (first | exact (Kd.yp HR0.out HB.out) | (with_reducible refine Kd.yi ?_ _) | (with_reducible refine Kd.qi ?_ _) | (with_reducible refine Kd.C_drew ?_)))
           (case side4 => exact HC0.out)
           rintro e w' ⟨rfl, ⟨nd, rfl⟩⟩
           refine ⟨_, rfl, ?_⟩
           refine hK.out _ _ ⟨(z6 BK445.out 0).trans rfl, (z6 BK445.out 1).trans rfl, (z6 BK445.out 2).trans rfl, (z6 BK445.out 3).trans rfl⟩ (fun hHeld => ?_)
           clear hK K
           refine zx (a' := ?_) ?_ ?_
           rotate_left
           ·show Act.put _ (some 51) _ = _
            simp only [Act.put, List.setIfInBounds_toArray, List.set_cons_zero, List.set_cons_succ, yg, qg]
            rfl
           refine yo (i := 9) (N := some 52) (v := ?_) (a' := ?_) #[true, true, true, true, true, true, true, true, true, true, false, false] rfl rfl (qj HT_.out (by kernel_rfl)) (fun _ _ _ h => h) (Or.inl ⟨by rfl, ?_⟩) ?_ ?_
           rotate_left
           ·intro w'
            go_simp
            with_reducible rfl
           rotate_left
           ·simp only [Act.put, List.setIfInBounds_toArray, List.set_cons_zero, List.set_cons_succ, yg, qg]
            rfl
           refine q0j (i := 10) (N := none) #[true, true, true, true, true, true, true, true, true, true, true, false] rfl rfl (qz HT_.out (by kernel_rfl)) (by decide) (fun K hK => ?_)
           have hs74 : w72.cell? ⟨gb444, 0, none⟩ = some (.bool false) := (z6 BK444.out 0).trans rfl
           have hfs74 := y5 BK444.out 0
           have hns74_1 := NB445_444.out
           have hms74_1 := NB444_445.out
           have hs75 : w72.cell? ⟨gb444, 1, none⟩ = some (.int .i64 0) := (z6 BK444.out 1).trans rfl
           have hfs75 := y5 BK444.out 1
           have hns75_1 := NB445_444.out
           have hms75_1 := NB444_445.out
           have hs76 : w72.cell? ⟨gb444, 2, none⟩ = some (.slice none 0 0) := (z6 BK444.out 2).trans rfl
           have hfs76 := y5 BK444.out 2
           have hns76_1 := NB445_444.out
           have hms76_1 := NB444_445.out
           have hs77 : w72.cell? ⟨gb444, 3, none⟩ = some (.int .i64 0) := (z6 BK444.out 3).trans rfl
           have hfs77 := y5 BK444.out 3
           have hns77_1 := NB445_444.out
           have hms77_1 := NB444_445.out
           refine q0v (w1 := ?_) (by rfl) rfl ?_ ?_
           rotate_left
           ·go_simp
            rfl
           refine hK.out _ _ ⟨((cell_far (p := ⟨gb444, _, none⟩) NB445_444.out _).trans (((cell_far (p := ⟨gb444, _, none⟩) NB445_444.out _).trans (((cell_far (p := ⟨gb444, _, none⟩) NB445_444.out _).trans (((cell_far (p := ⟨gb444, _, none⟩) NB445_444.out _).trans (hHeld.1)))))))), ((cell_far (p := ⟨gb444, _, none⟩) NB445_444.out _).trans (((cell_far (p := ⟨gb444, _, none⟩) NB445_444.out _).trans (((cell_far (p := ⟨gb444, _, none⟩) NB445_444.out _).trans (((cell_far (p := ⟨gb444, _, none⟩) NB445_444.out _).trans (hHeld.2.1)))))))), ((cell_far (p := ⟨gb444, _, none⟩) NB445_444.out _).trans (((cell_far (p := ⟨gb444, _, none⟩) NB445_444.out _).trans (((cell_far (p := ⟨gb444, _, none⟩) NB445_444.out _).trans (((cell_far (p := ⟨gb444, _, none⟩) NB445_444.out _).trans (hHeld.2.2.1)))))))), ((cell_far (p := ⟨gb444, _, none⟩) NB445_444.out _).trans (((cell_far (p := ⟨gb444, _, none⟩) NB445_444.out _).trans (((cell_far (p := ⟨gb444, _, none⟩) NB445_444.out _).trans (((cell_far (p := ⟨gb444, _, none⟩) NB445_444.out _).trans (hHeld.2.2.2))))))))⟩ (fun hHeld => ?_)
           clear hK K
           refine yo (i := 11) (N := some 3) (v := ?_) (a' := ?_) #[true, true, true, true, true, true, true, true, true, true, true, true] rfl rfl (qj HT_.out (by kernel_rfl)) (fun _ _ _ h => h) (Or.inl ⟨by rfl, ?_⟩) ?_ ?_
           rotate_left
           ·intro w'
            go_simp
            with_reducible rfl
           rotate_left
           ·simp only [Act.put, List.setIfInBounds_toArray, List.set_cons_zero, List.set_cons_succ, yg, qg]
            rfl
           refine y0n (q0b HT_.out (by kernel_rfl)) ?_
           try go_wp2
           refine bodyPost_ret (y02 rfl _ _ gb444 33 #[.bool false, .int .i64 t462, .slice none 0 0, .int .i64 (wrap64 (rd l0 9))] (0, 0) _ rfl (by (with_reducible repeat (first | refine z5 ?_ _ | refine y6 ?_ | refine y4 ?_ _)); refine qc (cs := #[.bool false, .int .i64 t462, .slice none 0 0, .int .i64 0]) ?_ 3 _ rfl; (with_reducible repeat (first | refine z5 ?_ _ | refine y6 ?_ | refine y4 ?_ _)); refine qc (cs := #[.bool false, .int .i64 t462, .slice none 0 0, .int .i64 0]) ?_ 2 _ rfl; (with_reducible repeat (first | refine z5 ?_ _ | refine y6 ?_ | refine y4 ?_ _)); refine qc (cs := #[.bool false, .int .i64 0, .slice none 0 0, .int .i64 0]) ?_ 1 _ rfl; (with_reducible repeat (first | refine z5 ?_ _ | refine y6 ?_ | refine y4 ?_ _)); refine qc (cs := #[.bool false, .int .i64 0, .slice none 0 0, .int .i64 0]) ?_ 0 _ rfl; (with_reducible repeat (first | refine z5 ?_ _ | refine y6 ?_ | refine y4 ?_ _)); exact BK444.out) Try.underlying33 rfl (by kernel_rfl)) rfl ?_
           exact ⟨_, by first | rfl | (simp [ya, qa] <;> rfl) | (simp [*, ya, qa] <;> rfl), by first | exact Kd.z0n _ _ _ _ _ | exact Kd.N_nil _ _ _ _ _ | exact Kd.V_nil _ _ _ _ _ | exact Kd.Q_nil _ _ _ _ _ | exact Kd.S_nil _ _ _ _ _, by repeat (first | (with_reducible first | exact HB.out | apply z4 | apply z1 | apply z3 | refine z7 ?_ GE444.out | refine z7 ?_ GE445.out) | exact HB.out)⟩
          ·rw [if_neg c59] at H
           have c59b0 : (t464 == 0) = false := beq_eq_false_iff_ne.mpr c59
           have c59b1 : (t464 != 0) = true := bne_iff_ne.mpr c59
           simp only [Option.some.injEq, Prod.mk.injEq] at H
           obtain ⟨rfl, rfl, rfl, rfl, rfl⟩ := H
           try go_wp2
           have n0_ := z2.mk (y6 BK444.out)
           have n1_ := z2.mk (y6 BK445.out)
           have n2_ := z2.mk (z3 HB.out)
           clear BK444
           clear BK445
           clear HB
           have BK444 := n0_
           have BK445 := n1_
           have HB := n2_
           clear n0_ n1_ n2_
           obtain ⟨i079, hi079, _, hsz79, _⟩ := info_parts y0f
           obtain ⟨A79, hcut79, hA79, hC79⟩ := y0e (P := Try.prog) (Value.int .u8) 0 37 5 .i64 .i64 Try.underlying37 hi079 hsz79 A0 c0 l0 1 9 (by omega) (by first | omega | exact of_decide_eq_true (by first | (with_reducible assumption) | assumption)) (of_decide_eq_true (by first | (with_reducible assumption) | assumption)) HC0.out
           have HR460 := z2.mk (Kd.z05 (h1 := fun _ => rfl) (hA79 _ (Kd.z02 HR0.out)))
           have HC460 := z2.mk hC79
           clear hA79 hC79 hi079 hsz79
           have p463 : 0 ≤ (9 : Int) := (by omega)
           have q463 : 9 < (l0.length : Int) := of_decide_eq_true (by first | (with_reducible assumption) | assumption)
           obtain ⟨ad463, e463, hx463_0⟩ := Kd.q07 HR0.out 9 p463 q463
           have hw463_0 := hx463_0
           (try rw [show ((9 : Int)).toNat = 9 from rfl] at hw463_0)
           (try rw [show 9 * 1 = 9 from rfl] at hw463_0)
           (try simp only [Nat.reduceMul, Nat.reduceEqDiff, Go.Addr.add, ↓reduceIte] at hw463_0)
           cases e463
           (try simp only [show (9 : Int).toNat = 9 from rfl, Nat.reduceMul, Nat.reduceEqDiff, Go.Addr.add, ↓reduceIte] at hx463_0)
           have qi463 : (9 < l0.length) = True := eq_true (by omega)
           (try rw [show ((9 : Int)).toNat = 9 from rfl] at hx463_0)
           replace hx463_0 := (HB.out.cell (World.block_lt_of_cell? w _ hx463_0)).trans hx463_0
           replace p463 := eq_true p463
           replace q463 := eq_true q463
           refine z0f (n := 11) (S := fun w' => w'.cell? ⟨ad463.block, ad463.off + 9, none⟩ = some (.int .u8 (rd l0 9))) (ds := []) #[false, false, false, false, false, false, false, false, false, false, false] (by kernel_rfl) rfl rfl (((HB.out.cell (World.block_lt_of_cell? w _ hw463_0)).trans hw463_0)) (fun hHeld => ?_); refine q03 yb.q2o yb.q1v (fun HT_ HW_ => ?_)
           generalize wc.drew = w78 at BK444 BK445 HB HR460 hx463_0 hHeld ⊢
           refine yo (i := 0) (N := some 33) (v := ?_) (a' := ?_) #[true, false, false, false, false, false, false, false, false, false, false] rfl rfl (qj HT_.out (by kernel_rfl)) (fun _ _ _ h => h) (Or.inl ⟨by rfl, ?_⟩) ?_ ?_
           rotate_left
           ·intro w'
            go_simp
            with_reducible rfl
           rotate_left
           ·simp only [Act.put, List.setIfInBounds_toArray, List.set_cons_zero, List.set_cons_succ, yg, qg]
            rfl
           refine yo (i := 1) (N := some 34) (v := ?_) (a' := ?_) #[true, true, false, false, false, false, false, false, false, false, false] rfl rfl (qj HT_.out (by kernel_rfl)) (fun _ _ _ h => h) (Or.inl ⟨by rfl, ?_⟩) ?_ ?_
           rotate_left
           ·intro w'
            go_simp
            with_reducible rfl
           rotate_left
           ·simp only [Act.put, List.setIfInBounds_toArray, List.set_cons_zero, List.set_cons_succ, yg, qg]
            rfl
           refine yo (i := 5) (N := some 38) (v := ?_) (a' := ?_) #[true, true, false, false, false, true, false, false, false, false, false] rfl rfl (qj HT_.out (by kernel_rfl)) (fun _ _ _ h => h) (Or.inl ⟨by rfl, ?_⟩) ?_ ?_
           rotate_left
           ·intro w'
            go_simp
            with_reducible rfl
           rotate_left
           ·simp only [Act.put, List.setIfInBounds_toArray, List.set_cons_zero, List.set_cons_succ, yg, qg]
            rfl
           refine yo (i := 6) (N := some 39) (v := ?_) (a' := ?_) #[true, true, false, false, false, true, true, false, false, false, false] rfl rfl (qj HT_.out (by kernel_rfl)) (fun _ _ _ h => h) (Or.inl ⟨by rfl, ?_⟩) ?_ ?_
           rotate_left
           ·intro w'
            go_simp
            with_reducible rfl
           rotate_left
           ·simp only [Act.put, List.setIfInBounds_toArray, List.set_cons_zero, List.set_cons_succ, yg, qg]
            rfl
           refine y04 (i := 7) (N := some 40) (v := ?_) (a' := ?_) #[true, true, false, false, false, true, true, true, false, false, false] rfl rfl (zv HT_.out HW_.out (by kernel_rfl)) (fun _ _ _ h => h) (Or.inl ⟨by rfl, ?_⟩) hHeld ?_ ?_
           rotate_left
           ·intro w' s0
            go_simp
            with_reducible rfl
           rotate_left
           ·simp only [Act.put, List.setIfInBounds_toArray, List.set_cons_zero, List.set_cons_succ, yg, qg]
            rfl
           refine yo (i := 8) (N := some 41) (v := ?_) (a' := ?_) #[true, true, false, false, false, true, true, true, true, false, false] rfl rfl (qj HT_.out (by kernel_rfl)) (fun _ _ _ h => h) (Or.inl ⟨by rfl, ?_⟩) ?_ ?_
           rotate_left
           ·intro w'
            go_simp
            with_reducible rfl
           rotate_left
           ·simp only [Act.put, List.setIfInBounds_toArray, List.set_cons_zero, List.set_cons_succ, yg, qg]
            rfl
           refine q0j (i := 2) (N := some 35) #[true, true, true, false, false, true, true, true, true, false, false] rfl rfl (qz HT_.out (by kernel_rfl)) (by decide) (fun K hK => ?_)
           refine y0g Try.func110 (by kernel_rfl) rfl #[.slice A79 ((l0.take 9).drop 1).length (c0 - 1)] (by rfl) rfl rfl (by (try simp only [List.map_toArray, List.map_cons, List.map_nil]); first | done | (rw [show ((l0.take 9).drop 1).length = (9 - 1) from (by rw [List.length_drop, List.length_take]; have h_ : (9 : Int) ≤ (l0.length : Int) := of_decide_eq_true (by first | (with_reducible assumption) | assumption); omega)] <;> rfl) | rfl | (simp only [List.length_drop, List.length_take]; rfl)) ?_
           with_reducible refine (zi.calls kj49 _ _ ((l0.take 9).drop 1) t461 t462 _ ?side1 ?side2 A56.out).mono ?_
           (case side1 => repeat (first | exact (Kd.yp HR460.out HB.out) | (with_reducible refine Kd.yi ?_ _) | (with_reducible refine Kd.qi ?_ _) | (with_reducible refine Kd.C_drew ?_)))
           (case side2 => exact HC460.out)
           rintro e w80 ⟨rfl, hb⟩
           refine ⟨_, rfl, ?_⟩
           have n0_ := z2.mk (z9 (g := gb444) (o := .cells #[.bool false, .int .i64 0, .slice none 0 0, .int .i64 0] 33 (0, 0)) (by (with_reducible repeat (first | refine z5 ?_ _ | refine y6 ?_ | refine y4 ?_ _)); exact BK444.out) hb)
           have n1_ := z2.mk (z9 (g := gb445) (o := .cells #[.bool false, .int .i64 0, .slice none 0 0, .int .i64 0] 33 (0, 0)) (by (with_reducible repeat (first | refine z5 ?_ _ | refine y6 ?_ | refine y4 ?_ _)); exact BK445.out) hb)
           have n2_ := z2.mk (y8 (by repeat (first | (with_reducible first | exact HB.out | apply z4 | apply z1 | apply z3 | refine z7 ?_ GE444.out | refine z7 ?_ GE445.out) | exact HB.out)) hb)
           clear BK444
           clear BK445
           clear HB
           have BK444 := n0_
           have BK445 := n1_
           have HB := n2_
           clear n0_ n1_ n2_
           (try clear hb)
           (try clear hb2)
           (try clear hk)
           (try clear hi)
           refine hK.out _ _ (((HB.out.cell (World.block_lt_of_cell? w _ hw463_0)).trans hw463_0)) (fun hHeld => ?_)
           clear hK K
           refine zx (a' := ?_) ?_ ?_
           rotate_left
           ·show Act.put _ (some 35) _ = _
            simp only [Act.put, List.setIfInBounds_toArray, List.set_cons_zero, List.set_cons_succ, yg, qg]
            rfl
           refine yo (i := 3) (N := some 36) (v := ?_) (a' := ?_) #[true, true, true, true, false, true, true, true, true, false, false] rfl rfl (qj HT_.out (by kernel_rfl)) (fun _ _ _ h => h) (Or.inl ⟨by rfl, ?_⟩) ?_ ?_
           rotate_left
           ·intro w'
            go_simp
            with_reducible rfl
           rotate_left
           ·simp only [Act.put, List.setIfInBounds_toArray, List.set_cons_zero, List.set_cons_succ, yg, qg]
            rfl
           refine yo (i := 4) (N := some 37) (v := ?_) (a' := ?_) #[true, true, true, true, true, true, true, true, true, false, false] rfl rfl (qj HT_.out (by kernel_rfl)) (fun _ _ _ h => h) (Or.inl ⟨by rfl, ?_⟩) ?_ ?_
           rotate_left
           ·intro w'
            go_simp
            with_reducible rfl
           rotate_left
           ·simp only [Act.put, List.setIfInBounds_toArray, List.set_cons_zero, List.set_cons_succ, yg, qg]
            rfl
           refine yo (i := 9) (N := some 42) (v := ?_) (a' := ?_) #[true, true, true, true, true, true, true, true, true, true, false] rfl rfl (qj HT_.out (by kernel_rfl)) (fun _ _ _ h => h) (Or.inl ⟨by rfl, ?_⟩) ?_ ?_
           rotate_left
           ·intro w'
            go_simp
            with_reducible rfl
           rotate_left
           ·simp only [Act.put, List.setIfInBounds_toArray, List.set_cons_zero, List.set_cons_succ, yg, qg]
            rfl
           refine q0j (i := 10) (N := none) #[true, true, true, true, true, true, true, true, true, true, true] rfl rfl (qz HT_.out (by kernel_rfl)) (by decide) (fun K hK => ?_)
           have hs81 : w80.cell? ⟨gb445, 0, none⟩ = some (.bool false) := (z6 BK445.out 0).trans rfl
           have hfs81 := y5 BK445.out 0
           have hns81_0 := NB444_445.out
           have hms81_0 := NB445_444.out
           have hs82 : w80.cell? ⟨gb445, 1, none⟩ = some (.int .i64 0) := (z6 BK445.out 1).trans rfl
           have hfs82 := y5 BK445.out 1
           have hns82_0 := NB444_445.out
           have hms82_0 := NB445_444.out
           have hs83 : w80.cell? ⟨gb445, 2, none⟩ = some (.slice none 0 0) := (z6 BK445.out 2).trans rfl
           have hfs83 := y5 BK445.out 2
           have hns83_0 := NB444_445.out
           have hms83_0 := NB445_444.out
           have hs84 : w80.cell? ⟨gb445, 3, none⟩ = some (.int .i64 0) := (z6 BK445.out 3).trans rfl
           have hfs84 := y5 BK445.out 3
           have hns84_0 := NB444_445.out
           have hms84_0 := NB445_444.out
           refine q0v (w1 := ?_) (by rfl) rfl ?_ ?_
           rotate_left
           ·go_simp
            rfl
           refine hK.out _ _ (((cell_far (p := ⟨gb445, _, none⟩) (by first | exact Nat.ne_of_lt (Nat.lt_of_lt_of_le (by have := World.block_lt_of_cell? _ _ hw463_0; first | rwa [add_block] at this | exact this) GW445.out) | (rw [add_block]; exact Nat.ne_of_lt (Nat.lt_of_lt_of_le (by have := World.block_lt_of_cell? _ _ hw463_0; first | rwa [add_block] at this | exact this) GW445.out)) | (show (Addr.add _ _).block ≠ _; rw [add_block]; exact Nat.ne_of_lt (Nat.lt_of_lt_of_le (by have := World.block_lt_of_cell? _ _ hw463_0; first | rwa [add_block] at this | exact this) GW445.out)) | (dsimp only; exact Nat.ne_of_lt (Nat.lt_of_lt_of_le (by have := World.block_lt_of_cell? _ _ hw463_0; first | rwa [add_block] at this | exact this) GW445.out))) _).trans (((cell_far (p := ⟨gb445, _, none⟩) (by first | exact Nat.ne_of_lt (Nat.lt_of_lt_of_le (by have := World.block_lt_of_cell? _ _ hw463_0; first | rwa [add_block] at this | exact this) GW445.out) | (rw [add_block]; exact Nat.ne_of_lt (Nat.lt_of_lt_of_le (by have := World.block_lt_of_cell? _ _ hw463_0; first | rwa [add_block] at this | exact this) GW445.out)) | (show (Addr.add _ _).block ≠ _; rw [add_block]; exact Nat.ne_of_lt (Nat.lt_of_lt_of_le (by have := World.block_lt_of_cell? _ _ hw463_0; first | rwa [add_block] at this | exact this) GW445.out)) | (dsimp only; exact Nat.ne_of_lt (Nat.lt_of_lt_of_le (by have := World.block_lt_of_cell? _ _ hw463_0; first | rwa [add_block] at this | exact this) GW445.out))) _).trans (((cell_far (p := ⟨gb445, _, none⟩) (by first | exact Nat.ne_of_lt (Nat.lt_of_lt_of_le (by have := World.block_lt_of_cell? _ _ hw463_0; first | rwa [add_block] at this | exact this) GW445.out) | (rw [add_block]; exact Nat.ne_of_lt (Nat.lt_of_lt_of_le (by have := World.block_lt_of_cell? _ _ hw463_0; first | rwa [add_block] at this | exact this) GW445.out)) | (show (Addr.add _ _).block ≠ _; rw [add_block]; exact Nat.ne_of_lt (Nat.lt_of_lt_of_le (by have := World.block_lt_of_cell? _ _ hw463_0; first | rwa [add_block] at this | exact this) GW445.out)) | (dsimp only; exact Nat.ne_of_lt (Nat.lt_of_lt_of_le (by have := World.block_lt_of_cell? _ _ hw463_0; first | rwa [add_block] at this | exact this) GW445.out))) _).trans (((cell_far (p := ⟨gb445, _, none⟩) (by first | exact Nat.ne_of_lt (Nat.lt_of_lt_of_le (by have := World.block_lt_of_cell? _ _ hw463_0; first | rwa [add_block] at this | exact this) GW445.out) | (rw [add_block]; exact Nat.ne_of_lt (Nat.lt_of_lt_of_le (by have := World.block_lt_of_cell? _ _ hw463_0; first | rwa [add_block] at this | exact this) GW445.out)) | (show (Addr.add _ _).block ≠ _; rw [add_block]; exact Nat.ne_of_lt (Nat.lt_of_lt_of_le (by have := World.block_lt_of_cell? _ _ hw463_0; first | rwa [add_block] at this | exact this) GW445.out)) | (dsimp only; exact Nat.ne_of_lt (Nat.lt_of_lt_of_le (by have := World.block_lt_of_cell? _ _ hw463_0; first | rwa [add_block] at this | exact this) GW445.out))) _).trans (hHeld))))))))) (fun hHeld => ?_)
           clear hK K
           refine y0n (q0b HT_.out (by kernel_rfl)) ?_
           try go_wp2
           have n0_ : z2 (((((w80.setCell ⟨gb445, 0, none⟩ (.bool false)).setCell ⟨gb445, 1, none⟩ (.int .i64 t462)).setCell ⟨gb445, 2, none⟩ (.slice none 0 0)).setCell ⟨gb445, 3, none⟩ (.int .i64 (wrap64 (rd l0 9)))).heap[gb444]? = some (.cells #[.bool false, .int .i64 0, .slice none 0 0, .int .i64 0] 33 (0, 0))) := ⟨by (with_reducible repeat (first | refine z5 ?_ _ | refine y6 ?_ | refine y4 ?_ _)); refine zd ?_ NB444_445.out _; (with_reducible repeat (first | refine z5 ?_ _ | refine y6 ?_ | refine y4 ?_ _)); refine zd ?_ NB444_445.out _; (with_reducible repeat (first | refine z5 ?_ _ | refine y6 ?_ | refine y4 ?_ _)); refine zd ?_ NB444_445.out _; (with_reducible repeat (first | refine z5 ?_ _ | refine y6 ?_ | refine y4 ?_ _)); refine zd ?_ NB444_445.out _; (with_reducible repeat (first | refine z5 ?_ _ | refine y6 ?_ | refine y4 ?_ _)); exact BK444.out⟩
           have n1_ : z2 (((((w80.setCell ⟨gb445, 0, none⟩ (.bool false)).setCell ⟨gb445, 1, none⟩ (.int .i64 t462)).setCell ⟨gb445, 2, none⟩ (.slice none 0 0)).setCell ⟨gb445, 3, none⟩ (.int .i64 (wrap64 (rd l0 9)))).heap[gb445]? = some (.cells #[.bool false, .int .i64 t462, .slice none 0 0, .int .i64 (wrap64 (rd l0 9))] 33 (0, 0))) := ⟨by (with_reducible repeat (first | refine z5 ?_ _ | refine y6 ?_ | refine y4 ?_ _)); refine qc (cs := #[.bool false, .int .i64 t462, .slice none 0 0, .int .i64 0]) ?_ 3 _ rfl; (with_reducible repeat (first | refine z5 ?_ _ | refine y6 ?_ | refine y4 ?_ _)); refine qc (cs := #[.bool false, .int .i64 t462, .slice none 0 0, .int .i64 0]) ?_ 2 _ rfl; (with_reducible repeat (first | refine z5 ?_ _ | refine y6 ?_ | refine y4 ?_ _)); refine qc (cs := #[.bool false, .int .i64 0, .slice none 0 0, .int .i64 0]) ?_ 1 _ rfl; (with_reducible repeat (first | refine z5 ?_ _ | refine y6 ?_ | refine y4 ?_ _)); refine qc (cs := #[.bool false, .int .i64 0, .slice none 0 0, .int .i64 0]) ?_ 0 _ rfl; (with_reducible repeat (first | refine z5 ?_ _ | refine y6 ?_ | refine y4 ?_ _)); exact BK445.out⟩
           have n2_ : z2 (Below w.heap.size w ((((w80.setCell ⟨gb445, 0, none⟩ (.bool false)).setCell ⟨gb445, 1, none⟩ (.int .i64 t462)).setCell ⟨gb445, 2, none⟩ (.slice none 0 0)).setCell ⟨gb445, 3, none⟩ (.int .i64 (wrap64 (rd l0 9))))) := ⟨by repeat (first | (with_reducible first | exact HB.out | apply z4 | apply z1 | apply z3 | refine z7 ?_ GE444.out | refine z7 ?_ GE445.out) | exact HB.out)⟩
           (try clear BK444)
           (try clear BK445)
           (try clear HB)
           generalize ((((w80.setCell ⟨gb445, 0, none⟩ (.bool false)).setCell ⟨gb445, 1, none⟩ (.int .i64 t462)).setCell ⟨gb445, 2, none⟩ (.slice none 0 0)).setCell ⟨gb445, 3, none⟩ (.int .i64 (wrap64 (rd l0 9)))) = w85 at n0_ n1_ n2_ ⊢
           have BK444 := n0_
           have BK445 := n1_
           have HB := n2_
           clear n0_ n1_ n2_
           have n0_ := z2.mk (y6 BK444.out)
           have n1_ := z2.mk (y6 BK445.out)
           have n2_ := z2.mk (z3 HB.out)
           clear BK444
           clear BK445
           clear HB
           have BK444 := n0_
           have BK445 := n1_
           have HB := n2_
           clear n0_ n1_ n2_
           refine z0f (n := 12) (S := fun w' => w'.cell? ⟨gb445, 0, none⟩ = some (.bool false) ∧ w'.cell? ⟨gb445, 1, none⟩ = some (.int .i64 t462) ∧ w'.cell? ⟨gb445, 2, none⟩ = some (.slice none 0 0) ∧ w'.cell? ⟨gb445, 3, none⟩ = some (.int .i64 (wrap64 (rd l0 9)))) (ds := []) #[false, false, false, false, false, false, false, false, false, false, false, false] (by kernel_rfl) rfl rfl ⟨(z6 BK445.out 0).trans rfl, (z6 BK445.out 1).trans rfl, (z6 BK445.out 2).trans rfl, (z6 BK445.out 3).trans rfl⟩ (fun hHeld => ?_); refine q03 yb.z2j yb.q1p (fun HT_ HW_ => ?_)
           generalize w85.drew = w86 at BK444 BK445 HB hHeld ⊢
           refine y04 (i := 0) (N := some 43) (v := ?_) (a' := ?_) #[true, false, false, false, false, false, false, false, false, false, false, false] rfl rfl (zv HT_.out HW_.out (by kernel_rfl)) (fun _ _ _ h => h) (Or.inl ⟨by rfl, ?_⟩) hHeld ?_ ?_
           rotate_left
           ·rintro w' ⟨s0, s1, s2, s3⟩
            go_simp
            with_reducible rfl
           rotate_left
           ·simp only [Act.put, List.setIfInBounds_toArray, List.set_cons_zero, List.set_cons_succ, yg, qg]
            rfl
           refine y04 (i := 1) (N := some 44) (v := ?_) (a' := ?_) #[true, true, false, false, false, false, false, false, false, false, false, false] rfl rfl (zv HT_.out HW_.out (by kernel_rfl)) (fun _ _ _ h => h) (Or.inl ⟨by rfl, ?_⟩) hHeld ?_ ?_
           rotate_left
           ·rintro w' ⟨s0, s1, s2, s3⟩
            go_simp
            with_reducible rfl
           rotate_left
           ·simp only [Act.put, List.setIfInBounds_toArray, List.set_cons_zero, List.set_cons_succ, yg, qg]
            rfl
           refine q0j (i := 2) (N := some 45) #[true, true, true, false, false, false, false, false, false, false, false, false] rfl rfl (qz HT_.out (by kernel_rfl)) (by decide) (fun K hK => ?_)
           refine y0g Try.func11 (by kernel_rfl) rfl #[.agg #[.bool false, .int .i64 t462, .slice none 0 0, .int .i64 (wrap64 (rd l0 9))]] (by rfl) rfl rfl (by (try simp only [List.map_toArray, List.map_cons, List.map_nil]); first | done | rfl | (simp only [List.length_drop, List.length_take]; rfl)) ?_
           refine (yf.calls kj49 false t462 _ _ ([] : List (yl)) (wrap64 (rd l0 9)) t464 _ ?side1 ?side2 A58.out).mono ?_
           (case side1 => exact Kd.z1i _ _)
           (case side2 => exact Nat.le_refl _)
           rintro e w87 ⟨rfl, hb⟩
           refine ⟨_, rfl, ?_⟩
           have n0_ := z2.mk (z9 (g := gb444) (o := .cells #[.bool false, .int .i64 0, .slice none 0 0, .int .i64 0] 33 (0, 0)) (by (with_reducible repeat (first | refine z5 ?_ _ | refine y6 ?_ | refine y4 ?_ _)); exact BK444.out) hb)
           have n1_ := z2.mk (z9 (g := gb445) (o := .cells #[.bool false, .int .i64 t462, .slice none 0 0, .int .i64 (wrap64 (rd l0 9))] 33 (0, 0)) (by (with_reducible repeat (first | refine z5 ?_ _ | refine y6 ?_ | refine y4 ?_ _)); exact BK445.out) hb)
           have n2_ := z2.mk (y8 (by repeat (first | (with_reducible first | exact HB.out | apply z4 | apply z1 | apply z3 | refine z7 ?_ GE444.out | refine z7 ?_ GE445.out) | exact HB.out)) hb)
           clear BK444
           clear BK445
           clear HB
           have BK444 := n0_
           have BK445 := n1_
           have HB := n2_
           clear n0_ n1_ n2_
           (try clear hb)
           (try clear hb2)
           (try clear hk)
           (try clear hi)
           refine hK.out _ _ ⟨(z6 BK445.out 0).trans rfl, (z6 BK445.out 1).trans rfl, (z6 BK445.out 2).trans rfl, (z6 BK445.out 3).trans rfl⟩ (fun hHeld => ?_)
           clear hK K
           refine zx (a' := ?_) ?_ ?_
           rotate_left
           ·show Act.put _ (some 45) _ = _
            simp only [Act.put, List.setIfInBounds_toArray, List.set_cons_zero, List.set_cons_succ, yg, qg]
            rfl
           refine yo (i := 3) (N := some 46) (v := ?_) (a' := ?_) #[true, true, true, true, false, false, false, false, false, false, false, false] rfl rfl (qj HT_.out (by kernel_rfl)) (fun _ _ _ h => h) (Or.inl ⟨by rfl, ?_⟩) ?_ ?_
           rotate_left
           ·intro w'
            go_simp
            with_reducible rfl
           rotate_left
           ·simp only [Act.put, List.setIfInBounds_toArray, List.set_cons_zero, List.set_cons_succ, yg, qg]
            rfl
           refine yo (i := 4) (N := some 47) (v := ?_) (a' := ?_) #[true, true, true, true, true, false, false, false, false, false, false, false] rfl rfl (qj HT_.out (by kernel_rfl)) (fun _ _ _ h => h) (Or.inl ⟨by rfl, ?_⟩) ?_ ?_
           rotate_left
           ·intro w'
            go_simp
            with_reducible rfl
           rotate_left
           ·simp only [Act.put, List.setIfInBounds_toArray, List.set_cons_zero, List.set_cons_succ, yg, qg]
            rfl
           refine yo (i := 5) (N := some 48) (v := undef) (a' := ?_) #[true, true, true, true, true, true, false, false, false, false, false, false] rfl rfl (qj HT_.out (by kernel_rfl)) (fun _ _ _ h => h) (Or.inr ⟨by rfl, rfl⟩) ?_ ?_
           rotate_left
           ·simp only [Act.put, List.setIfInBounds_toArray, List.set_cons_zero, List.set_cons_succ, yg, qg]
            rfl
           refine yo (i := 6) (N := some 49) (v := undef) (a' := ?_) #[true, true, true, true, true, true, true, false, false, false, false, false] rfl rfl (qj HT_.out (by kernel_rfl)) (fun _ _ _ h => h) (Or.inr ⟨by rfl, rfl⟩) ?_ ?_
           rotate_left
           ·simp only [Act.put, List.setIfInBounds_toArray, List.set_cons_zero, List.set_cons_succ, yg, qg]
            rfl
           refine yo (i := 7) (N := some 50) (v := undef) (a' := ?_) #[true, true, true, true, true, true, true, true, false, false, false, false] rfl rfl (qj HT_.out (by kernel_rfl)) (fun _ _ _ h => h) (Or.inr ⟨by rfl, rfl⟩) ?_ ?_
           rotate_left
           ·simp only [Act.put, List.setIfInBounds_toArray, List.set_cons_zero, List.set_cons_succ, yg, qg]
            rfl
           refine yo (i := 8) (N := some 51) (v := undef) (a' := ?_) #[true, true, true, true, true, true, true, true, true, false, false, false] rfl rfl (qj HT_.out (by kernel_rfl)) (fun _ _ _ h => h) (Or.inr ⟨by rfl, rfl⟩) ?_ ?_
           rotate_left
           ·simp only [Act.put, List.setIfInBounds_toArray, List.set_cons_zero, List.set_cons_succ, yg, qg]
            rfl
           refine yo (i := 9) (N := some 52) (v := ?_) (a' := ?_) #[true, true, true, true, true, true, true, true, true, true, false, false] rfl rfl (qj HT_.out (by kernel_rfl)) (fun _ _ _ h => h) (Or.inl ⟨by rfl, ?_⟩) ?_ ?_
           rotate_left
           ·intro w'
            go_simp
            with_reducible rfl
           rotate_left
           ·simp only [Act.put, List.setIfInBounds_toArray, List.set_cons_zero, List.set_cons_succ, yg, qg]
            rfl
           refine q0j (i := 10) (N := none) #[true, true, true, true, true, true, true, true, true, true, true, false] rfl rfl (qz HT_.out (by kernel_rfl)) (by decide) (fun K hK => ?_)
           have hs88 : w87.cell? ⟨gb444, 0, none⟩ = some (.bool false) := (z6 BK444.out 0).trans rfl
           have hfs88 := y5 BK444.out 0
           have hns88_1 := NB445_444.out
           have hms88_1 := NB444_445.out
           have hs89 : w87.cell? ⟨gb444, 1, none⟩ = some (.int .i64 0) := (z6 BK444.out 1).trans rfl
           have hfs89 := y5 BK444.out 1
           have hns89_1 := NB445_444.out
           have hms89_1 := NB444_445.out
           have hs90 : w87.cell? ⟨gb444, 2, none⟩ = some (.slice none 0 0) := (z6 BK444.out 2).trans rfl
           have hfs90 := y5 BK444.out 2
           have hns90_1 := NB445_444.out
           have hms90_1 := NB444_445.out
           have hs91 : w87.cell? ⟨gb444, 3, none⟩ = some (.int .i64 0) := (z6 BK444.out 3).trans rfl
           have hfs91 := y5 BK444.out 3
           have hns91_1 := NB445_444.out
           have hms91_1 := NB444_445.out
           refine q0v (w1 := ?_) (by rfl) rfl ?_ ?_
           rotate_left
           ·go_simp
            rfl
           refine hK.out _ _ ⟨((cell_far (p := ⟨gb444, _, none⟩) NB445_444.out _).trans (((cell_far (p := ⟨gb444, _, none⟩) NB445_444.out _).trans (((cell_far (p := ⟨gb444, _, none⟩) NB445_444.out _).trans (((cell_far (p := ⟨gb444, _, none⟩) NB445_444.out _).trans (hHeld.1)))))))), ((cell_far (p := ⟨gb444, _, none⟩) NB445_444.out _).trans (((cell_far (p := ⟨gb444, _, none⟩) NB445_444.out _).trans (((cell_far (p := ⟨gb444, _, none⟩) NB445_444.out _).trans (((cell_far (p := ⟨gb444, _, none⟩) NB445_444.out _).trans (hHeld.2.1)))))))), ((cell_far (p := ⟨gb444, _, none⟩) NB445_444.out _).trans (((cell_far (p := ⟨gb444, _, none⟩) NB445_444.out _).trans (((cell_far (p := ⟨gb444, _, none⟩) NB445_444.out _).trans (((cell_far (p := ⟨gb444, _, none⟩) NB445_444.out _).trans (hHeld.2.2.1)))))))), ((cell_far (p := ⟨gb444, _, none⟩) NB445_444.out _).trans (((cell_far (p := ⟨gb444, _, none⟩) NB445_444.out _).trans (((cell_far (p := ⟨gb444, _, none⟩) NB445_444.out _).trans (((cell_far (p := ⟨gb444, _, none⟩) NB445_444.out _).trans (hHeld.2.2.2))))))))⟩ (fun hHeld => ?_)
           clear hK K
           refine yo (i := 11) (N := some 3) (v := ?_) (a' := ?_) #[true, true, true, true, true, true, true, true, true, true, true, true] rfl rfl (qj HT_.out (by kernel_rfl)) (fun _ _ _ h => h) (Or.inl ⟨by rfl, ?_⟩) ?_ ?_
           rotate_left
           ·intro w'
            go_simp
            with_reducible rfl
           rotate_left
           ·simp only [Act.put, List.setIfInBounds_toArray, List.set_cons_zero, List.set_cons_succ, yg, qg]
            rfl
           refine y0n (q0b HT_.out (by kernel_rfl)) ?_
           try go_wp2
           refine bodyPost_ret (y02 rfl _ _ gb444 33 #[.bool false, .int .i64 t462, .slice none 0 0, .int .i64 (wrap64 (rd l0 9))] (0, 0) _ rfl (by (with_reducible repeat (first | refine z5 ?_ _ | refine y6 ?_ | refine y4 ?_ _)); refine qc (cs := #[.bool false, .int .i64 t462, .slice none 0 0, .int .i64 0]) ?_ 3 _ rfl; (with_reducible repeat (first | refine z5 ?_ _ | refine y6 ?_ | refine y4 ?_ _)); refine qc (cs := #[.bool false, .int .i64 t462, .slice none 0 0, .int .i64 0]) ?_ 2 _ rfl; (with_reducible repeat (first | refine z5 ?_ _ | refine y6 ?_ | refine y4 ?_ _)); refine qc (cs := #[.bool false, .int .i64 0, .slice none 0 0, .int .i64 0]) ?_ 1 _ rfl; (with_reducible repeat (first | refine z5 ?_ _ | refine y6 ?_ | refine y4 ?_ _)); refine qc (cs := #[.bool false, .int .i64 0, .slice none 0 0, .int .i64 0]) ?_ 0 _ rfl; (with_reducible repeat (first | refine z5 ?_ _ | refine y6 ?_ | refine y4 ?_ _)); exact BK444.out) Try.underlying33 rfl (by kernel_rfl)) rfl ?_
           exact ⟨_, by first | rfl | (simp [ya, qa] <;> rfl) | (simp [*, ya, qa] <;> rfl), by first | exact Kd.z0n _ _ _ _ _ | exact Kd.N_nil _ _ _ _ _ | exact Kd.V_nil _ _ _ _ _ | exact Kd.Q_nil _ _ _ _ _ | exact Kd.S_nil _ _ _ _ _, by repeat (first | (with_reducible first | exact HB.out | apply z4 | apply z1 | apply z3 | refine z7 ?_ GE444.out | refine z7 ?_ GE445.out) | exact HB.out)⟩
         ·rw [if_neg c57] at H
          exact absurd H (by simp)
        ·rw [if_neg c55] at H
         exact absurd H (by simp)
       ·rw [if_neg c54] at H
        exact absurd H (by simp)
      ·replace c53 := Bool.eq_false_iff.mpr c53
       subst c53
       have H1 : ((yf.f kj49 false 0 ([] : List (yl)) 0).bind fun t469 => (if t469 = 0 then ((qo.f kj49 false 0 ([] : List (yl)) 0).bind fun t470 => ((zo.f t470 l0).bind fun t473 => (some (false, 0, ([] : List (yl)), 0, t473)))) else (some (false, 0, ([] : List (yl)), 0, false)))) = some (r1, r2, r3, r4, r5) := by rw [if_neg (show ¬ (false = true) by decide)] at H; exact H
       clear H
       have H := H1
       clear H1
       replace H := Option.bind_eq_some_iff.mp H
       obtain ⟨t469, A920, H⟩ := H
       replace H : (if t469 = 0 then ((qo.f kj49 false 0 ([] : List (yl)) 0).bind fun t470 => ((zo.f t470 l0).bind fun t473 => (some (false, 0, ([] : List (yl)), 0, t473)))) else (some (false, 0, ([] : List (yl)), 0, false))) = some (r1, r2, r3, r4, r5) := H
       have A92 := z2.mk A920
       clear A920
       by_cases c93 : t469 = 0
       ·rw [if_pos c93] at H
        have c93b0 : (t469 == 0) = true := beq_iff_eq.mpr c93
        have c93b1 : (t469 != 0) = false := bne_eq_false_iff_eq.mpr c93
        clear c93
        replace H := Option.bind_eq_some_iff.mp H
        obtain ⟨t470, A940, H⟩ := H
        replace H : ((zo.f t470 l0).bind fun t473 => (some (false, 0, ([] : List (yl)), 0, t473))) = some (r1, r2, r3, r4, r5) := H
        have A94 := z2.mk A940
        clear A940
        replace H := Option.bind_eq_some_iff.mp H
        obtain ⟨t473, A950, H⟩ := H
        replace H : (some (false, 0, ([] : List (yl)), 0, t473)) = some (r1, r2, r3, r4, r5) := H
        have A95 := z2.mk A950
        clear A950
        simp only [Option.some.injEq, Prod.mk.injEq] at H
        obtain ⟨rfl, rfl, rfl, rfl, rfl⟩ := H
        try go_wp2
        have n0_ := z2.mk (y6 BK444.out)
        have n1_ := z2.mk (y6 BK445.out)
        have n2_ := z2.mk (z3 HB.out)
        clear BK444
        clear BK445
        clear HB
        have BK444 := n0_
        have BK445 := n1_
        have HB := n2_
        clear n0_ n1_ n2_
        refine z0f (n := 12) (S := fun w' => w'.cell? ⟨gb445, 0, none⟩ = some (.bool false) ∧ w'.cell? ⟨gb445, 1, none⟩ = some (.int .i64 0) ∧ w'.cell? ⟨gb445, 2, none⟩ = some (.slice none 0 0) ∧ w'.cell? ⟨gb445, 3, none⟩ = some (.int .i64 0)) (ds := []) #[false, false, false, false, false, false, false, false, false, false, false, false] (by kernel_rfl) rfl rfl ⟨(z6 BK445.out 0).trans rfl, (z6 BK445.out 1).trans rfl, (z6 BK445.out 2).trans rfl, (z6 BK445.out 3).trans rfl⟩ (fun hHeld => ?_); refine q03 yb.z2j yb.q1p (fun HT_ HW_ => ?_)
        generalize wc.drew = w96 at BK444 BK445 HB hHeld ⊢
        refine y04 (i := 0) (N := some 43) (v := ?_) (a' := ?_) #[true, false, false, false, false, false, false, false, false, false, false, false] rfl rfl (zv HT_.out HW_.out (by kernel_rfl)) (fun _ _ _ h => h) (Or.inl ⟨by rfl, ?_⟩) hHeld ?_ ?_
        rotate_left
        ·rintro w' ⟨s0, s1, s2, s3⟩
         go_simp
         with_reducible rfl
        rotate_left
        ·simp only [Act.put, List.setIfInBounds_toArray, List.set_cons_zero, List.set_cons_succ, yg, qg]
         rfl
        refine y04 (i := 1) (N := some 44) (v := ?_) (a' := ?_) #[true, true, false, false, false, false, false, false, false, false, false, false] rfl rfl (zv HT_.out HW_.out (by kernel_rfl)) (fun _ _ _ h => h) (Or.inl ⟨by rfl, ?_⟩) hHeld ?_ ?_
        rotate_left
        ·rintro w' ⟨s0, s1, s2, s3⟩
         go_simp
         with_reducible rfl
        rotate_left
        ·simp only [Act.put, List.setIfInBounds_toArray, List.set_cons_zero, List.set_cons_succ, yg, qg]
         rfl
        refine q0j (i := 2) (N := some 45) #[true, true, true, false, false, false, false, false, false, false, false, false] rfl rfl (qz HT_.out (by kernel_rfl)) (by decide) (fun K hK => ?_)
        refine y0g Try.func11 (by kernel_rfl) rfl #[.agg #[.bool false, .int .i64 0, .slice none 0 0, .int .i64 0]] (by rfl) rfl rfl (by (try simp only [List.map_toArray, List.map_cons, List.map_nil]); first | done | rfl | (simp only [List.length_drop, List.length_take]; rfl)) ?_
        refine (yf.calls kj49 false 0 _ _ ([] : List (yl)) 0 t469 _ ?side1 ?side2 A92.out).mono ?_
        (case side1 => exact Kd.z1i _ _)
        (case side2 => exact Nat.le_refl _)
        rintro e w97 ⟨rfl, hb⟩
        refine ⟨_, rfl, ?_⟩
        have n0_ := z2.mk (z9 (g := gb444) (o := .cells #[.bool false, .int .i64 0, .slice none 0 0, .int .i64 0] 33 (0, 0)) (by (with_reducible repeat (first | refine z5 ?_ _ | refine y6 ?_ | refine y4 ?_ _)); exact BK444.out) hb)
        have n1_ := z2.mk (z9 (g := gb445) (o := .cells #[.bool false, .int .i64 0, .slice none 0 0, .int .i64 0] 33 (0, 0)) (by (with_reducible repeat (first | refine z5 ?_ _ | refine y6 ?_ | refine y4 ?_ _)); exact BK445.out) hb)
        have n2_ := z2.mk (y8 (by repeat (first | (with_reducible first | exact HB.out | apply z4 | apply z1 | apply z3 | refine z7 ?_ GE444.out | refine z7 ?_ GE445.out) | exact HB.out)) hb)
        clear BK444
        clear BK445
        clear HB
        have BK444 := n0_
        have BK445 := n1_
        have HB := n2_
        clear n0_ n1_ n2_
        (try clear hb)
        (try clear hb2)
        (try clear hk)
        (try clear hi)
        refine hK.out _ _ ⟨(z6 BK445.out 0).trans rfl, (z6 BK445.out 1).trans rfl, (z6 BK445.out 2).trans rfl, (z6 BK445.out 3).trans rfl⟩ (fun hHeld => ?_)
        clear hK K
        refine zx (a' := ?_) ?_ ?_
        rotate_left
        ·show Act.put _ (some 45) _ = _
         simp only [Act.put, List.setIfInBounds_toArray, List.set_cons_zero, List.set_cons_succ, yg, qg]
         rfl
        refine yo (i := 3) (N := some 46) (v := ?_) (a' := ?_) #[true, true, true, true, false, false, false, false, false, false, false, false] rfl rfl (qj HT_.out (by kernel_rfl)) (fun _ _ _ h => h) (Or.inl ⟨by rfl, ?_⟩) ?_ ?_
        rotate_left
        ·intro w'
         go_simp
         with_reducible rfl
        rotate_left
        ·simp only [Act.put, List.setIfInBounds_toArray, List.set_cons_zero, List.set_cons_succ, yg, qg]
         rfl
        refine yo (i := 4) (N := some 47) (v := ?_) (a' := ?_) #[true, true, true, true, true, false, false, false, false, false, false, false] rfl rfl (qj HT_.out (by kernel_rfl)) (fun _ _ _ h => h) (Or.inl ⟨by rfl, ?_⟩) ?_ ?_
        rotate_left
        ·intro w'
         go_simp
         with_reducible rfl
        rotate_left
        ·simp only [Act.put, List.setIfInBounds_toArray, List.set_cons_zero, List.set_cons_succ, yg, qg]
         rfl
        refine yo (i := 7) (N := some 50) (v := ?_) (a' := ?_) #[true, true, true, true, true, false, false, true, false, false, false, false] rfl rfl (qj HT_.out (by kernel_rfl)) (fun _ _ _ h => h) (Or.inl ⟨by rfl, ?_⟩) ?_ ?_
        rotate_left
        ·intro w'
         go_simp
         with_reducible rfl
        rotate_left
        ·simp only [Act.put, List.setIfInBounds_toArray, List.set_cons_zero, List.set_cons_succ, yg, qg]
         rfl
        refine y04 (i := 5) (N := some 48) (v := ?_) (a' := ?_) #[true, true, true, true, true, true, false, true, false, false, false, false] rfl rfl (zv HT_.out HW_.out (by kernel_rfl)) (fun _ _ _ h => h) (Or.inl ⟨by rfl, ?_⟩) hHeld ?_ ?_
        rotate_left
        ·rintro w' ⟨s0, s1, s2, s3⟩
         go_simp
         with_reducible rfl
        rotate_left
        ·simp only [Act.put, List.setIfInBounds_toArray, List.set_cons_zero, List.set_cons_succ, yg, qg]
         rfl
        refine q0j (i := 6) (N := some 49) #[true, true, true, true, true, true, true, true, false, false, false, false] rfl rfl (qz HT_.out (by kernel_rfl)) (by decide) (fun K hK => ?_)
        refine y0g Try.func55 (by kernel_rfl) rfl #[.agg #[.bool false, .int .i64 0, .slice none 0 0, .int .i64 0]] (by rfl) rfl rfl (by (try simp only [List.map_toArray, List.map_cons, List.map_nil]); first | done | rfl | (simp only [List.length_drop, List.length_take]; rfl)) ?_
        refine (qo.calls kj49 false 0 _ _ ([] : List (yl)) 0 t470 _ ?side1 ?side2 A94.out).mono ?_
        (case side1 => exact Kd.z1i _ _)
        (case side2 => exact Nat.le_refl _)
        rintro e w98 ⟨v471, rfl, ho0, hb⟩
        refine ⟨_, rfl, ?_⟩
        have n0_ := z2.mk (Kd.yr ho0 (z8 (by repeat (first | (with_reducible first | exact HB.out | apply z4 | apply z1 | apply z3 | refine z7 ?_ GE444.out | refine z7 ?_ GE445.out) | exact HB.out))))
        have n1_ := z2.mk (z9 (g := gb444) (o := .cells #[.bool false, .int .i64 0, .slice none 0 0, .int .i64 0] 33 (0, 0)) (by (with_reducible repeat (first | refine z5 ?_ _ | refine y6 ?_ | refine y4 ?_ _)); exact BK444.out) hb)
        have n2_ := z2.mk (z9 (g := gb445) (o := .cells #[.bool false, .int .i64 0, .slice none 0 0, .int .i64 0] 33 (0, 0)) (by (with_reducible repeat (first | refine z5 ?_ _ | refine y6 ?_ | refine y4 ?_ _)); exact BK445.out) hb)
        have n3_ := z2.mk (y8 (by repeat (first | (with_reducible first | exact HB.out | apply z4 | apply z1 | apply z3 | refine z7 ?_ GE444.out | refine z7 ?_ GE445.out) | exact HB.out)) hb)
        clear BK444
        clear BK445
        clear HB
        have HO472 := n0_
        have BK444 := n1_
        have BK445 := n2_
        have HB := n3_
        clear n0_ n1_ n2_ n3_
        (try clear hb)
        (try clear hb2)
        (try clear hk)
        (try clear hi)
        (try clear ho0)
        obtain ⟨Ao99, co99, eo99⟩ := Kd.zt HO472.out
        (first | subst eo99 | (injection eo99 with f1_ f2_ f3_; have f4_ := f1_.symm; have f5_ := f3_.symm; clear f1_ f2_ f3_; subst f4_; subst f5_))
        refine hK.out _ _ ⟨(z6 BK445.out 0).trans rfl, (z6 BK445.out 1).trans rfl, (z6 BK445.out 2).trans rfl, (z6 BK445.out 3).trans rfl⟩ (fun hHeld => ?_)
        clear hK K
        refine zx (a' := ?_) ?_ ?_
        rotate_left
        ·show Act.put _ (some 49) _ = _
         simp only [Act.put, List.setIfInBounds_toArray, List.set_cons_zero, List.set_cons_succ, yg, qg]
         rfl
        refine q0j (i := 8) (N := some 51) #[true, true, true, true, true, true, true, true, true, false, false, false] rfl rfl (qz HT_.out (by kernel_rfl)) (by decide) (fun K hK => ?_)
        refine y0g Try.func111 (by kernel_rfl) rfl #[.slice Ao99 t470.length co99, .slice A0 l0.length c0] (by rfl) rfl rfl (by (try simp only [List.map_toArray, List.map_cons, List.map_nil]); first | done | rfl | (simp only [List.length_drop, List.length_take]; rfl)) ?_
        with_reducible refine (zo.calls _ _ t470 _ _ l0 t473 _ ?side1 ?side2 ?side3 ?side4 A95.out).mono ?_
        (case side1 => repeat (first | exact (Kd.qd HO472.out).2.2 | (with_reducible refine Kd.yi ?_ _) | (with_reducible refine Kd.qi ?_ _) | (with_reducible refine Kd.C_drew ?_)))
        (case side2 => exact (Kd.qd HO472.out).2.1)
        (case side3 => repeat (first | exact (Kd.yp HR0.out HB.out) | (with_reducible refine Kd.yi ?_ _) | (with_reducible refine Kd.qi ?_ _) | (with_reducible refine Kd.C_drew ?_)))
        (case side4 => exact HC0.out)
        rintro e w' ⟨rfl, ⟨nd, rfl⟩⟩
        refine ⟨_, rfl, ?_⟩
        refine hK.out _ _ ⟨(z6 BK445.out 0).trans rfl, (z6 BK445.out 1).trans rfl, (z6 BK445.out 2).trans rfl, (z6 BK445.out 3).trans rfl⟩ (fun hHeld => ?_)
        clear hK K
        refine zx (a' := ?_) ?_ ?_
        rotate_left
        ·show Act.put _ (some 51) _ = _
         simp only [Act.put, List.setIfInBounds_toArray, List.set_cons_zero, List.set_cons_succ, yg, qg]
         rfl
        refine yo (i := 9) (N := some 52) (v := ?_) (a' := ?_) #[true, true, true, true, true, true, true, true, true, true, false, false] rfl rfl (qj HT_.out (by kernel_rfl)) (fun _ _ _ h => h) (Or.inl ⟨by rfl, ?_⟩) ?_ ?_
        rotate_left
        ·intro w'
         go_simp
         with_reducible rfl
        rotate_left
        ·simp only [Act.put, List.setIfInBounds_toArray, List.set_cons_zero, List.set_cons_succ, yg, qg]
         rfl
        refine q0j (i := 10) (N := none) #[true, true, true, true, true, true, true, true, true, true, true, false] rfl rfl (qz HT_.out (by kernel_rfl)) (by decide) (fun K hK => ?_)
        have hs100 : w98.cell? ⟨gb444, 0, none⟩ = some (.bool false) := (z6 BK444.out 0).trans rfl
        have hfs100 := y5 BK444.out 0
        have hns100_1 := NB445_444.out
        have hms100_1 := NB444_445.out
        have hs101 : w98.cell? ⟨gb444, 1, none⟩ = some (.int .i64 0) := (z6 BK444.out 1).trans rfl
        have hfs101 := y5 BK444.out 1
        have hns101_1 := NB445_444.out
        have hms101_1 := NB444_445.out
        have hs102 : w98.cell? ⟨gb444, 2, none⟩ = some (.slice none 0 0) := (z6 BK444.out 2).trans rfl
        have hfs102 := y5 BK444.out 2
        have hns102_1 := NB445_444.out
        have hms102_1 := NB444_445.out
        have hs103 : w98.cell? ⟨gb444, 3, none⟩ = some (.int .i64 0) := (z6 BK444.out 3).trans rfl
        have hfs103 := y5 BK444.out 3
        have hns103_1 := NB445_444.out
        have hms103_1 := NB444_445.out
        refine q0v (w1 := ?_) (by rfl) rfl ?_ ?_
        rotate_left
        ·go_simp
         rfl
        refine hK.out _ _ ⟨((cell_far (p := ⟨gb444, _, none⟩) NB445_444.out _).trans (((cell_far (p := ⟨gb444, _, none⟩) NB445_444.out _).trans (((cell_far (p := ⟨gb444, _, none⟩) NB445_444.out _).trans (((cell_far (p := ⟨gb444, _, none⟩) NB445_444.out _).trans (hHeld.1)))))))), ((cell_far (p := ⟨gb444, _, none⟩) NB445_444.out _).trans (((cell_far (p := ⟨gb444, _, none⟩) NB445_444.out _).trans (((cell_far (p := ⟨gb444, _, none⟩) NB445_444.out _).trans (((cell_far (p := ⟨gb444, _, none⟩) NB445_444.out _).trans (hHeld.2.1)))))))), ((cell_far (p := ⟨gb444, _, none⟩) NB445_444.out _).trans (((cell_far (p := ⟨gb444, _, none⟩) NB445_444.out _).trans (((cell_far (p := ⟨gb444, _, none⟩) NB445_444.out _).trans (((cell_far (p := ⟨gb444, _, none⟩) NB445_444.out _).trans (hHeld.2.2.1)))))))), ((cell_far (p := ⟨gb444, _, none⟩) NB445_444.out _).trans (((cell_far (p := ⟨gb444, _, none⟩) NB445_444.out _).trans (((cell_far (p := ⟨gb444, _, none⟩) NB445_444.out _).trans (((cell_far (p := ⟨gb444, _, none⟩) NB445_444.out _).trans (hHeld.2.2.2))))))))⟩ (fun hHeld => ?_)
        clear hK K
        refine yo (i := 11) (N := some 3) (v := ?_) (a' := ?_) #[true, true, true, true, true, true, true, true, true, true, true, true] rfl rfl (qj HT_.out (by kernel_rfl)) (fun _ _ _ h => h) (Or.inl ⟨by rfl, ?_⟩) ?_ ?_
        rotate_left
        ·intro w'
         go_simp
         with_reducible rfl
        rotate_left
        ·simp only [Act.put, List.setIfInBounds_toArray, List.set_cons_zero, List.set_cons_succ, yg, qg]
         rfl
        refine y0n (q0b HT_.out (by kernel_rfl)) ?_
        try go_wp2
        refine bodyPost_ret (y02 rfl _ _ gb444 33 #[.bool false, .int .i64 0, .slice none 0 0, .int .i64 0] (0, 0) _ rfl (by (with_reducible repeat (first | refine z5 ?_ _ | refine y6 ?_ | refine y4 ?_ _)); refine qc (cs := #[.bool false, .int .i64 0, .slice none 0 0, .int .i64 0]) ?_ 3 _ rfl; (with_reducible repeat (first | refine z5 ?_ _ | refine y6 ?_ | refine y4 ?_ _)); refine qc (cs := #[.bool false, .int .i64 0, .slice none 0 0, .int .i64 0]) ?_ 2 _ rfl; (with_reducible repeat (first | refine z5 ?_ _ | refine y6 ?_ | refine y4 ?_ _)); refine qc (cs := #[.bool false, .int .i64 0, .slice none 0 0, .int .i64 0]) ?_ 1 _ rfl; (with_reducible repeat (first | refine z5 ?_ _ | refine y6 ?_ | refine y4 ?_ _)); refine qc (cs := #[.bool false, .int .i64 0, .slice none 0 0, .int .i64 0]) ?_ 0 _ rfl; (with_reducible repeat (first | refine z5 ?_ _ | refine y6 ?_ | refine y4 ?_ _)); exact BK444.out) Try.underlying33 rfl (by kernel_rfl)) rfl ?_
        exact ⟨_, by first | rfl | (simp [ya, qa] <;> rfl) | (simp [*, ya, qa] <;> rfl), by first | exact Kd.z0n _ _ _ _ _ | exact Kd.N_nil _ _ _ _ _ | exact Kd.V_nil _ _ _ _ _ | exact Kd.Q_nil _ _ _ _ _ | exact Kd.S_nil _ _ _ _ _, by repeat (first | (with_reducible first | exact HB.out | apply z4 | apply z1 | apply z3 | refine z7 ?_ GE444.out | refine z7 ?_ GE445.out) | exact HB.out)⟩
       ·rw [if_neg c93] at H
        have c93b0 : (t469 == 0) = false := beq_eq_false_iff_ne.mpr c93
        have c93b1 : (t469 != 0) = true := bne_iff_ne.mpr c93
        simp only [Option.some.injEq, Prod.mk.injEq] at H
        obtain ⟨rfl, rfl, rfl, rfl, rfl⟩ := H
        try go_wp2
        have n0_ := z2.mk (y6 BK444.out)
        have n1_ := z2.mk (y6 BK445.out)
        have n2_ := z2.mk (z3 HB.out)
        clear BK444
        clear BK445
        clear HB
        have BK444 := n0_
        have BK445 := n1_
        have HB := n2_
        clear n0_ n1_ n2_
        refine z0f (n := 12) (S := fun w' => w'.cell? ⟨gb445, 0, none⟩ = some (.bool false) ∧ w'.cell? ⟨gb445, 1, none⟩ = some (.int .i64 0) ∧ w'.cell? ⟨gb445, 2, none⟩ = some (.slice none 0 0) ∧ w'.cell? ⟨gb445, 3, none⟩ = some (.int .i64 0)) (ds := []) #[false, false, false, false, false, false, false, false, false, false, false, false] (by kernel_rfl) rfl rfl ⟨(z6 BK445.out 0).trans rfl, (z6 BK445.out 1).trans rfl, (z6 BK445.out 2).trans rfl, (z6 BK445.out 3).trans rfl⟩ (fun hHeld => ?_); refine q03 yb.z2j yb.q1p (fun HT_ HW_ => ?_)
        generalize wc.drew = w104 at BK444 BK445 HB hHeld ⊢
        refine y04 (i := 0) (N := some 43) (v := ?_) (a' := ?_) #[true, false, false, false, false, false, false, false, false, false, false, false] rfl rfl (zv HT_.out HW_.out (by kernel_rfl)) (fun _ _ _ h => h) (Or.inl ⟨by rfl, ?_⟩) hHeld ?_ ?_
        rotate_left
        ·rintro w' ⟨s0, s1, s2, s3⟩
         go_simp
         with_reducible rfl
        rotate_left
        ·simp only [Act.put, List.setIfInBounds_toArray, List.set_cons_zero, List.set_cons_succ, yg, qg]
         rfl
        refine y04 (i := 1) (N := some 44) (v := ?_) (a' := ?_) #[true, true, false, false, false, false, false, false, false, false, false, false] rfl rfl (zv HT_.out HW_.out (by kernel_rfl)) (fun _ _ _ h => h) (Or.inl ⟨by rfl, ?_⟩) hHeld ?_ ?_
        rotate_left
        ·rintro w' ⟨s0, s1, s2, s3⟩
         go_simp
         with_reducible rfl
        rotate_left
        ·simp only [Act.put, List.setIfInBounds_toArray, List.set_cons_zero, List.set_cons_succ, yg, qg]
         rfl
        refine q0j (i := 2) (N := some 45) #[true, true, true, false, false, false, false, false, false, false, false, false] rfl rfl (qz HT_.out (by kernel_rfl)) (by decide) (fun K hK => ?_)
        refine y0g Try.func11 (by kernel_rfl) rfl #[.agg #[.bool false, .int .i64 0, .slice none 0 0, .int .i64 0]] (by rfl) rfl rfl (by (try simp only [List.map_toArray, List.map_cons, List.map_nil]); first | done | rfl | (simp only [List.length_drop, List.length_take]; rfl)) ?_
        refine (yf.calls kj49 false 0 _ _ ([] : List (yl)) 0 t469 _ ?side1 ?side2 A92.out).mono ?_
        (case side1 => exact Kd.z1i _ _)
        (case side2 => exact Nat.le_refl _)
        rintro e w105 ⟨rfl, hb⟩
        refine ⟨_, rfl, ?_⟩
        have n0_ := z2.mk (z9 (g := gb444) (o := .cells #[.bool false, .int .i64 0, .slice none 0 0, .int .i64 0] 33 (0, 0)) (by (with_reducible repeat (first | refine z5 ?_ _ | refine y6 ?_ | refine y4 ?_ _)); exact BK444.out) hb)
        have n1_ := z2.mk (z9 (g := gb445) (o := .cells #[.bool false, .int .i64 0, .slice none 0 0, .int .i64 0] 33 (0, 0)) (by (with_reducible repeat (first | refine z5 ?_ _ | refine y6 ?_ | refine y4 ?_ _)); exact BK445.out) hb)
        have n2_ := z2.mk (y8 (by repeat (first | (with_reducible first | exact HB.out | apply z4 | apply z1 | apply z3 | refine z7 ?_ GE444.out | refine z7 ?_ GE445.out) | exact HB.out)) hb)
        clear BK444
        clear BK445
        clear HB
        have BK444 := n0_
        have BK445 := n1_
        have HB := n2_
        clear n0_ n1_ n2_
        (try clear hb)
        (try clear hb2)
        (try clear hk)
        (try clear hi)
        refine hK.out _ _ ⟨(z6 BK445.out 0).trans rfl, (z6 BK445.out 1).trans rfl, (z6 BK445.out 2).trans rfl, (z6 BK445.out 3).trans rfl⟩ (fun hHeld => ?_)
        clear hK K
        refine zx (a' := ?_) ?_ ?_
        rotate_left
        ·show Act.put _ (some 45) _ = _
         simp only [Act.put, List.setIfInBounds_toArray, List.set_cons_zero, List.set_cons_succ, yg, qg]
         rfl
        refine yo (i := 3) (N := some 46) (v := ?_) (a' := ?_) #[true, true, true, true, false, false, false, false, false, false, false, false] rfl rfl (qj HT_.out (by kernel_rfl)) (fun _ _ _ h => h) (Or.inl ⟨by rfl, ?_⟩) ?_ ?_
        rotate_left
        ·intro w'
         go_simp
         with_reducible rfl
        rotate_left
        ·simp only [Act.put, List.setIfInBounds_toArray, List.set_cons_zero, List.set_cons_succ, yg, qg]
         rfl
        refine yo (i := 4) (N := some 47) (v := ?_) (a' := ?_) #[true, true, true, true, true, false, false, false, false, false, false, false] rfl rfl (qj HT_.out (by kernel_rfl)) (fun _ _ _ h => h) (Or.inl ⟨by rfl, ?_⟩) ?_ ?_
        rotate_left
        ·intro w'
         go_simp
         with_reducible rfl
        rotate_left
        ·simp only [Act.put, List.setIfInBounds_toArray, List.set_cons_zero, List.set_cons_succ, yg, qg]
         rfl
        refine yo (i := 5) (N := some 48) (v := undef) (a' := ?_) #[true, true, true, true, true, true, false, false, false, false, false, false] rfl rfl (qj HT_.out (by kernel_rfl)) (fun _ _ _ h => h) (Or.inr ⟨by rfl, rfl⟩) ?_ ?_
        rotate_left
        ·simp only [Act.put, List.setIfInBounds_toArray, List.set_cons_zero, List.set_cons_succ, yg, qg]
         rfl
        refine yo (i := 6) (N := some 49) (v := undef) (a' := ?_) #[true, true, true, true, true, true, true, false, false, false, false, false] rfl rfl (qj HT_.out (by kernel_rfl)) (fun _ _ _ h => h) (Or.inr ⟨by rfl, rfl⟩) ?_ ?_
        rotate_left
        ·simp only [Act.put, List.setIfInBounds_toArray, List.set_cons_zero, List.set_cons_succ, yg, qg]
         rfl
        refine yo (i := 7) (N := some 50) (v := undef) (a' := ?_) #[true, true, true, true, true, true, true, true, false, false, false, false] rfl rfl (qj HT_.out (by kernel_rfl)) (fun _ _ _ h => h) (Or.inr ⟨by rfl, rfl⟩) ?_ ?_
        rotate_left
        ·simp only [Act.put, List.setIfInBounds_toArray, List.set_cons_zero, List.set_cons_succ, yg, qg]
         rfl
        refine yo (i := 8) (N := some 51) (v := undef) (a' := ?_) #[true, true, true, true, true, true, true, true, true, false, false, false] rfl rfl (qj HT_.out (by kernel_rfl)) (fun _ _ _ h => h) (Or.inr ⟨by rfl, rfl⟩) ?_ ?_
        rotate_left
        ·simp only [Act.put, List.setIfInBounds_toArray, List.set_cons_zero, List.set_cons_succ, yg, qg]
         rfl
        refine yo (i := 9) (N := some 52) (v := ?_) (a' := ?_) #[true, true, true, true, true, true, true, true, true, true, false, false] rfl rfl (qj HT_.out (by kernel_rfl)) (fun _ _ _ h => h) (Or.inl ⟨by rfl, ?_⟩) ?_ ?_
        rotate_left
        ·intro w'
         go_simp
         with_reducible rfl
        rotate_left
        ·simp only [Act.put, List.setIfInBounds_toArray, List.set_cons_zero, List.set_cons_succ, yg, qg]
         rfl
        refine q0j (i := 10) (N := none) #[true, true, true, true, true, true, true, true, true, true, true, false] rfl rfl (qz HT_.out (by kernel_rfl)) (by decide) (fun K hK => ?_)
        have hs106 : w105.cell? ⟨gb444, 0, none⟩ = some (.bool false) := (z6 BK444.out 0).trans rfl
        have hfs106 := y5 BK444.out 0
        have hns106_1 := NB445_444.out
        have hms106_1 := NB444_445.out
        have hs107 : w105.cell? ⟨gb444, 1, none⟩ = some (.int .i64 0) := (z6 BK444.out 1).trans rfl
        have hfs107 := y5 BK444.out 1
        have hns107_1 := NB445_444.out
        have hms107_1 := NB444_445.out
        have hs108 : w105.cell? ⟨gb444, 2, none⟩ = some (.slice none 0 0) := (z6 BK444.out 2).trans rfl
        have hfs108 := y5 BK444.out 2
        have hns108_1 := NB445_444.out
        have hms108_1 := NB444_445.out
        have hs109 : w105.cell? ⟨gb444, 3, none⟩ = some (.int .i64 0) := (z6 BK444.out 3).trans rfl
        have hfs109 := y5 BK444.out 3
        have hns109_1 := NB445_444.out
        have hms109_1 := NB444_445.out
        refine q0v (w1 := ?_) (by rfl) rfl ?_ ?_
        rotate_left
        ·go_simp
         rfl
        refine hK.out _ _ ⟨((cell_far (p := ⟨gb444, _, none⟩) NB445_444.out _).trans (((cell_far (p := ⟨gb444, _, none⟩) NB445_444.out _).trans (((cell_far (p := ⟨gb444, _, none⟩) NB445_444.out _).trans (((cell_far (p := ⟨gb444, _, none⟩) NB445_444.out _).trans (hHeld.1)))))))), ((cell_far (p := ⟨gb444, _, none⟩) NB445_444.out _).trans (((cell_far (p := ⟨gb444, _, none⟩) NB445_444.out _).trans (((cell_far (p := ⟨gb444, _, none⟩) NB445_444.out _).trans (((cell_far (p := ⟨gb444, _, none⟩) NB445_444.out _).trans (hHeld.2.1)))))))), ((cell_far (p := ⟨gb444, _, none⟩) NB445_444.out _).trans (((cell_far (p := ⟨gb444, _, none⟩) NB445_444.out _).trans (((cell_far (p := ⟨gb444, _, none⟩) NB445_444.out _).trans (((cell_far (p := ⟨gb444, _, none⟩) NB445_444.out _).trans (hHeld.2.2.1)))))))), ((cell_far (p := ⟨gb444, _, none⟩) NB445_444.out _).trans (((cell_far (p := ⟨gb444, _, none⟩) NB445_444.out _).trans (((cell_far (p := ⟨gb444, _, none⟩) NB445_444.out _).trans (((cell_far (p := ⟨gb444, _, none⟩) NB445_444.out _).trans (hHeld.2.2.2))))))))⟩ (fun hHeld => ?_)
        clear hK K
        refine yo (i := 11) (N := some 3) (v := ?_) (a' := ?_) #[true, true, true, true, true, true, true, true, true, true, true, true] rfl rfl (qj HT_.out (by kernel_rfl)) (fun _ _ _ h => h) (Or.inl ⟨by rfl, ?_⟩) ?_ ?_
        rotate_left
        ·intro w'
         go_simp
         with_reducible rfl
        rotate_left
        ·simp only [Act.put, List.setIfInBounds_toArray, List.set_cons_zero, List.set_cons_succ, yg, qg]
         rfl
        refine y0n (q0b HT_.out (by kernel_rfl)) ?_
        try go_wp2
        refine bodyPost_ret (y02 rfl _ _ gb444 33 #[.bool false, .int .i64 0, .slice none 0 0, .int .i64 0] (0, 0) _ rfl (by (with_reducible repeat (first | refine z5 ?_ _ | refine y6 ?_ | refine y4 ?_ _)); refine qc (cs := #[.bool false, .int .i64 0, .slice none 0 0, .int .i64 0]) ?_ 3 _ rfl; (with_reducible repeat (first | refine z5 ?_ _ | refine y6 ?_ | refine y4 ?_ _)); refine qc (cs := #[.bool false, .int .i64 0, .slice none 0 0, .int .i64 0]) ?_ 2 _ rfl; (with_reducible repeat (first | refine z5 ?_ _ | refine y6 ?_ | refine y4 ?_ _)); refine qc (cs := #[.bool false, .int .i64 0, .slice none 0 0, .int .i64 0]) ?_ 1 _ rfl; (with_reducible repeat (first | refine z5 ?_ _ | refine y6 ?_ | refine y4 ?_ _)); refine qc (cs := #[.bool false, .int .i64 0, .slice none 0 0, .int .i64 0]) ?_ 0 _ rfl; (with_reducible repeat (first | refine z5 ?_ _ | refine y6 ?_ | refine y4 ?_ _)); exact BK444.out) Try.underlying33 rfl (by kernel_rfl)) rfl ?_
        exact ⟨_, by first | rfl | (simp [ya, qa] <;> rfl) | (simp [*, ya, qa] <;> rfl), by first | exact Kd.z0n _ _ _ _ _ | exact Kd.N_nil _ _ _ _ _ | exact Kd.V_nil _ _ _ _ _ | exact Kd.Q_nil _ _ _ _ _ | exact Kd.S_nil _ _ _ _ _, by repeat (first | (with_reducible first | exact HB.out | apply z4 | apply z1 | apply z3 | refine z7 ?_ GE444.out | refine z7 ?_ GE445.out) | exact HB.out)⟩
end Go.Proofs.Ytkeojolmapcgbaa.PEv
end
section
namespace Go.Proofs.Ytkeojolmapcgbaa.PEv
open Go.RowKit Go.Proofs.YtkeojolmapcgbaaW.PrintWords Go.Proofs.YtkeojolmapcgbaaW.PrintLast Go.Proofs.YtkeojolmapcgbaaW.PrintMore
set_option linter.unusedVariables false
set_option linter.unusedSimpArgs false
def qn.f (k : Nat) (l0 : List Int) : Option (Int × Bool × Int × (List (yl)) × Int) := (yb.f k l0).bind fun bt475 => (if bt475.2.2.2.2 = true then (some (0, bt475.1, bt475.2.1, bt475.2.2.1, bt475.2.2.2.1)) else (some (5, false, 0, ([] : List (yl)), 0)))
set_option maxHeartbeats 8000000 in
set_option maxRecDepth 100000 in
theorem qn.calls (k : Nat) (A0 : Option Addr) (c0 : Nat) (l0 : List Int) (r1 : Int) (r2 : Bool) (r3 : Int) (r4 : List (yl)) (r5 : Int) (w : World) (hr0 : Kd.C (Kd.int .u8) w A0 l0.length l0) (hc0 : l0.length ≤ c0) (h : qn.f k l0 = some (r1, r2, r3, r4, r5)) :
  Calls Try.prog 21 #[.slice A0 l0.length c0] w fun e w' => ∃ v3_ : Value, e = .returned (.agg #[.int .i64 r1, .bool r2, .int .i64 r3, v3_, .int .i64 r5]) ∧ Kd.R y08 138 w' w.heap.size (fun _ => True) v3_ r4 ∧ Below w.heap.size w w' := by
 have hu45 := Try.underlying45
 have hu33 := Try.underlying33
 have HR0 := z2.mk hr0
 have HC0 := z2.mk hc0
 clear hr0 hc0
 have HB := z2.mk (Below.refl w.heap.size w)
 have H : ((yb.f k l0).bind fun bt475 => (if bt475.2.2.2.2 = true then (some (0, bt475.1, bt475.2.1, bt475.2.2.1, bt475.2.2.2.1)) else (some (5, false, 0, ([] : List (yl)), 0)))) = some (r1, r2, r3, r4, r5) := h
 clear h
 replace H := Option.bind_eq_some_iff.mp H
 obtain ⟨⟨t475, t476, t477, t480, t481⟩, A20, H⟩ := H
 replace H : (if t481 = true then (some (0, t475, t476, t477, t480)) else (some (5, false, 0, ([] : List (yl)), 0))) = some (r1, r2, r3, r4, r5) := H
 have A2 := z2.mk A20
 clear A20
 by_cases c3 : t481 = true
 ·subst c3
  have H1 : (some (0, t475, t476, t477, t480)) = some (r1, r2, r3, r4, r5) := by rw [if_pos rfl] at H; exact H
  clear H
  have H := H1
  clear H1
  simp only [Option.some.injEq, Prod.mk.injEq] at H
  obtain ⟨rfl, rfl, rfl, rfl, rfl⟩ := H
  go_enter Try.func21, Try.ntmps21
  go_wp2_with (first | ((with_reducible refine ye (N := 2) rfl ?_); refine ze ?hg (N := 2) ?hd (cs := #[.int .i64 0, .bool false, .int .i64 0, .slice none 0 0, .int .i64 0]) (t := 45) ?hr ?_; (case hd => rfl); (case hg => rfl); (case hr => first | (go_simp; done) | (go_simp; rfl)); intro gb474 hg w4 hbox hb; have n0_ := z2.mk (y8 (by repeat (first | (with_reducible first | exact HB.out | apply z4 | apply z1 | apply z3) | exact HB.out)) hb); have n1_ := z2.mk (hbox); have n2_ := z2.mk ((by rw [hg]; exact (z8 (by repeat (first | (with_reducible first | exact HB.out | apply z4 | apply z1 | apply z3) | exact HB.out))) : w.heap.size ≤ gb474)); have n3_ := z2.mk ((by rw [hg]; exact (z8 (by repeat (first | (with_reducible first | exact HB.out | apply z4 | apply z1 | apply z3) | exact HB.out))) : w.heap.size ≤ gb474)); clear HB; have HB := n0_; have BK474 := n1_; have GW474 := n2_; have GE474 := n3_; clear n0_ n1_ n2_ n3_ hb hbox hg) | ((with_reducible refine qb (f := 59) rfl ?_); refine zm (some 7) rfl rfl Try.func59 (by kernel_rfl) rfl #[.slice A0 l0.length c0] rfl (by (try simp only [List.map_toArray, List.map_cons, List.map_nil]); first | done | rfl | (simp only [List.length_drop, List.length_take]; rfl)) ?_; (with_reducible refine (yb.calls k _ _ l0 t475 t476 t477 t480 true _ ?side1 ?side2 A2.out).mono ?_); (case side1 => repeat (first | exact (Kd.yp HR0.out HB.out) | (with_reducible refine Kd.yi ?_ _) | (with_reducible refine Kd.qi ?_ _) | (with_reducible refine Kd.C_drew ?_))); (case side2 => exact HC0.out); rintro e w5 ⟨v478, rfl, ho0, hb⟩; refine ⟨_, rfl, ?_⟩; have n0_ := z2.mk (Kd.yr ho0 (z8 (by repeat (first | (with_reducible first | exact HB.out | apply z4 | apply z1 | apply z3 | refine z7 ?_ GE474.out) | exact HB.out)))); have n1_ := z2.mk (z9 (g := gb474) (o := .cells #[.int .i64 0, .bool false, .int .i64 0, .slice none 0 0, .int .i64 0] 45 (0, 0)) (by (with_reducible repeat (first | refine z5 ?_ _ | refine y6 ?_ | refine y4 ?_ _)); exact BK474.out) hb); have n2_ := z2.mk (y8 (by repeat (first | (with_reducible first | exact HB.out | apply z4 | apply z1 | apply z3 | refine z7 ?_ GE474.out) | exact HB.out)) hb); clear BK474 HB; have HO479 := n0_; have BK474 := n1_; have HB := n2_; clear n0_ n1_ n2_; (try clear hb); (try clear hb2); (try clear hk); (try clear hi); (try clear ho0)) | ((with_reducible refine ye (N := 3) rfl ?_); refine ze ?hg (N := 3) ?hd (cs := #[.bool false, .int .i64 0, .slice none 0 0, .int .i64 0]) (t := 33) ?hr ?_; (case hd => rfl); (case hg => rfl); (case hr => first | (go_simp; done) | (go_simp; rfl)); intro gb482 hg w6 hbox hb; have n0_ := z2.mk (Kd.qf (by (with_reducible repeat (first | apply Kd.R_alloc | apply Kd.y9 | apply Kd.zb)); exact HO479.out) hb); have n1_ := z2.mk (z9 (g := gb474) (o := .cells #[.int .i64 0, .bool false, .int .i64 0, .slice none 0 0, .int .i64 0] 45 (0, 0)) (by (with_reducible repeat (first | refine z5 ?_ _ | refine y6 ?_ | refine y4 ?_ _)); exact BK474.out) hb); have n2_ := z2.mk (y8 (by repeat (first | (with_reducible first | exact HB.out | apply z4 | apply z1 | apply z3 | refine z7 ?_ GE474.out) | exact HB.out)) hb); have n3_ := z2.mk (hbox); have n4_ := z2.mk ((by rw [hg]; exact (z8 (by repeat (first | (with_reducible first | exact HB.out | apply z4 | apply z1 | apply z3 | refine z7 ?_ GE474.out) | exact HB.out))) : w.heap.size ≤ gb482)); have n5_ := z2.mk ((by rw [hg]; exact (z8 (by repeat (first | (with_reducible first | exact HB.out | apply z4 | apply z1 | apply z3 | refine z7 ?_ GE474.out) | exact HB.out))) : w.heap.size ≤ gb482)); have n6_ := z2.mk ((by rw [hg]; exact Nat.ne_of_lt (qk (g := gb474) (o := .cells #[.int .i64 0, .bool false, .int .i64 0, .slice none 0 0, .int .i64 0] 45 (0, 0)) (by (with_reducible repeat (first | refine z5 ?_ _ | refine y6 ?_ | refine y4 ?_ _)); exact BK474.out)) : gb474 ≠ gb482)); have n7_ := z2.mk ((by rw [hg]; exact Nat.ne_of_gt (qk (g := gb474) (o := .cells #[.int .i64 0, .bool false, .int .i64 0, .slice none 0 0, .int .i64 0] 45 (0, 0)) (by (with_reducible repeat (first | refine z5 ?_ _ | refine y6 ?_ | refine y4 ?_ _)); exact BK474.out)) : gb482 ≠ gb474)); clear HO479 BK474 HB; have HO479 := n0_; have BK474 := n1_; have HB := n2_; have BK482 := n3_; have GW482 := n4_; have GE482 := n5_; have NB474_482 := n6_; have NB482_474 := n7_; clear n0_ n1_ n2_ n3_ n4_ n5_ n6_ n7_ hb hbox hg; have hnb7 := NB482_474.out; have hnc7 := NB474_482.out; have hcz8_0 : w6.cell? ⟨gb482, 0, none⟩ = some (.bool false) := (z6 BK482.out 0).trans rfl; have hcz8_1 : w6.cell? ⟨gb482, 1, none⟩ = some (.int .i64 0) := (z6 BK482.out 1).trans rfl; have hcz8_2 : w6.cell? ⟨gb482, 2, none⟩ = some (.slice none 0 0) := (z6 BK482.out 2).trans rfl; have hcz8_3 : w6.cell? ⟨gb482, 3, none⟩ = some (.int .i64 0) := (z6 BK482.out 3).trans rfl; have hfz8_0 := y5 BK482.out 0; have hfz8_1 := y5 BK482.out 1; have hfz8_2 := y5 BK482.out 2; have hfz8_3 := y5 BK482.out 3; obtain ⟨Ao9, co9, eo9⟩ := Kd.zt HO479.out; subst eo9; have hcz10_0 : w6.cell? ⟨gb474, 0, none⟩ = some (.int .i64 0) := (z6 BK474.out 0).trans rfl; have hcz10_1 : w6.cell? ⟨gb474, 1, none⟩ = some (.bool false) := (z6 BK474.out 1).trans rfl; have hcz10_2 : w6.cell? ⟨gb474, 2, none⟩ = some (.int .i64 0) := (z6 BK474.out 2).trans rfl; have hcz10_3 : w6.cell? ⟨gb474, 3, none⟩ = some (.slice none 0 0) := (z6 BK474.out 3).trans rfl; have hcz10_4 : w6.cell? ⟨gb474, 4, none⟩ = some (.int .i64 0) := (z6 BK474.out 4).trans rfl; have hfz10_0 := y5 BK474.out 0; have hfz10_1 := y5 BK474.out 1; have hfz10_2 := y5 BK474.out 2; have hfz10_3 := y5 BK474.out 3; have hfz10_4 := y5 BK474.out 4))
  refine bodyPost_ret (results_cell_row rfl _ _ gb474 45 #[.int .i64 0, .bool t475, .int .i64 t476, .slice Ao9 t477.length co9, .int .i64 t480] (0, 0) _ rfl (by (with_reducible repeat (first | refine z5 ?_ _ | refine y6 ?_ | refine y4 ?_ _)); refine qc (cs := #[.int .i64 0, .bool t475, .int .i64 t476, .slice Ao9 t477.length co9, .int .i64 0]) ?_ 4 _ rfl; (with_reducible repeat (first | refine z5 ?_ _ | refine y6 ?_ | refine y4 ?_ _)); refine qc (cs := #[.int .i64 0, .bool t475, .int .i64 t476, .slice none 0 0, .int .i64 0]) ?_ 3 _ rfl; (with_reducible repeat (first | refine z5 ?_ _ | refine y6 ?_ | refine y4 ?_ _)); refine qc (cs := #[.int .i64 0, .bool t475, .int .i64 0, .slice none 0 0, .int .i64 0]) ?_ 2 _ rfl; (with_reducible repeat (first | refine z5 ?_ _ | refine y6 ?_ | refine y4 ?_ _)); refine qc (cs := #[.int .i64 0, .bool false, .int .i64 0, .slice none 0 0, .int .i64 0]) ?_ 1 _ rfl; (with_reducible repeat (first | refine z5 ?_ _ | refine y6 ?_ | refine y4 ?_ _)); refine qc (cs := #[.int .i64 0, .bool false, .int .i64 0, .slice none 0 0, .int .i64 0]) ?_ 0 _ rfl; (with_reducible repeat (first | refine z5 ?_ _ | refine y6 ?_ | refine y4 ?_ _)); refine zd ?_ NB474_482.out _; (with_reducible repeat (first | refine z5 ?_ _ | refine y6 ?_ | refine y4 ?_ _)); refine zd ?_ NB474_482.out _; (with_reducible repeat (first | refine z5 ?_ _ | refine y6 ?_ | refine y4 ?_ _)); refine zd ?_ NB474_482.out _; (with_reducible repeat (first | refine z5 ?_ _ | refine y6 ?_ | refine y4 ?_ _)); refine zd ?_ NB474_482.out _; (with_reducible repeat (first | refine z5 ?_ _ | refine y6 ?_ | refine y4 ?_ _)); exact BK474.out) Try.underlying45 rfl (by kernel_rfl)) rfl ?_
  exact ⟨_, by first | rfl | (simp [ya, qa] <;> rfl) | (simp [*, ya, qa] <;> rfl), by (with_reducible repeat (first | apply Kd.R_alloc | apply Kd.y9 | apply Kd.zb)); exact Kd.yk (Kd.zf (p := ⟨gb474, 4, none⟩) (Kd.zf (p := ⟨gb474, 3, none⟩) (Kd.zf (p := ⟨gb474, 2, none⟩) (Kd.zf (p := ⟨gb474, 1, none⟩) (Kd.zf (p := ⟨gb474, 0, none⟩) (Kd.zf (p := ⟨gb482, 3, none⟩) (Kd.zf (p := ⟨gb482, 2, none⟩) (Kd.zf (p := ⟨gb482, 1, none⟩) (Kd.zf (p := ⟨gb482, 0, none⟩) (Kd.qp (Kd.qp HO479.out BK482.out (by decide)) BK474.out (by decide)) (fun _ hk => hk.1.2) (.bool t475)) (fun _ hk => hk.1.2) (.int .i64 t476)) (fun _ hk => hk.1.2) (.slice Ao9 t477.length co9)) (fun _ hk => hk.1.2) (.int .i64 t480)) (fun _ hk => hk.2) (.int .i64 0)) (fun _ hk => hk.2) (.bool t475)) (fun _ hk => hk.2) (.int .i64 t476)) (fun _ hk => hk.2) (.slice Ao9 t477.length co9)) (fun _ hk => hk.2) (.int .i64 t480)) (fun _ hk => trivial), by repeat (first | (with_reducible first | exact HB.out | apply z4 | apply z1 | apply z3 | refine z7 ?_ GE474.out | refine z7 ?_ GE482.out) | exact HB.out)⟩
 ·replace c3 := Bool.eq_false_iff.mpr c3
  subst c3
  have H1 : (some (5, false, 0, ([] : List (yl)), 0)) = some (r1, r2, r3, r4, r5) := by rw [if_neg (show ¬ (false = true) by decide)] at H; exact H
  clear H
  have H := H1
  clear H1
  simp only [Option.some.injEq, Prod.mk.injEq] at H
  obtain ⟨rfl, rfl, rfl, rfl, rfl⟩ := H
  go_enter Try.func21, Try.ntmps21
  go_wp2_with (first | ((with_reducible refine ye (N := 2) rfl ?_); refine ze ?hg (N := 2) ?hd (cs := #[.int .i64 0, .bool false, .int .i64 0, .slice none 0 0, .int .i64 0]) (t := 45) ?hr ?_; (case hd => rfl); (case hg => rfl); (case hr => first | (go_simp; done) | (go_simp; rfl)); intro gb474 hg w11 hbox hb; have n0_ := z2.mk (y8 (by repeat (first | (with_reducible first | exact HB.out | apply z4 | apply z1 | apply z3) | exact HB.out)) hb); have n1_ := z2.mk (hbox); have n2_ := z2.mk ((by rw [hg]; exact (z8 (by repeat (first | (with_reducible first | exact HB.out | apply z4 | apply z1 | apply z3) | exact HB.out))) : w.heap.size ≤ gb474)); have n3_ := z2.mk ((by rw [hg]; exact (z8 (by repeat (first | (with_reducible first | exact HB.out | apply z4 | apply z1 | apply z3) | exact HB.out))) : w.heap.size ≤ gb474)); clear HB; have HB := n0_; have BK474 := n1_; have GW474 := n2_; have GE474 := n3_; clear n0_ n1_ n2_ n3_ hb hbox hg) | ((with_reducible refine qb (f := 59) rfl ?_); refine zm (some 7) rfl rfl Try.func59 (by kernel_rfl) rfl #[.slice A0 l0.length c0] rfl (by (try simp only [List.map_toArray, List.map_cons, List.map_nil]); first | done | rfl | (simp only [List.length_drop, List.length_take]; rfl)) ?_; (with_reducible refine (yb.calls k _ _ l0 t475 t476 t477 t480 false _ ?side1 ?side2 A2.out).mono ?_); (case side1 => repeat (first | exact (Kd.yp HR0.out HB.out) | (with_reducible refine Kd.yi ?_ _) | (with_reducible refine Kd.qi ?_ _) | (with_reducible refine Kd.C_drew ?_))); (case side2 => exact HC0.out); rintro e w12 ⟨v478, rfl, ho0, hb⟩; refine ⟨_, rfl, ?_⟩; have n0_ := z2.mk (Kd.yr ho0 (z8 (by repeat (first | (with_reducible first | exact HB.out | apply z4 | apply z1 | apply z3 | refine z7 ?_ GE474.out) | exact HB.out)))); have n1_ := z2.mk (z9 (g := gb474) (o := .cells #[.int .i64 0, .bool false, .int .i64 0, .slice none 0 0, .int .i64 0] 45 (0, 0)) (by (with_reducible repeat (first | refine z5 ?_ _ | refine y6 ?_ | refine y4 ?_ _)); exact BK474.out) hb); have n2_ := z2.mk (y8 (by repeat (first | (with_reducible first | exact HB.out | apply z4 | apply z1 | apply z3 | refine z7 ?_ GE474.out) | exact HB.out)) hb); clear BK474 HB; have HO479 := n0_; have BK474 := n1_; have HB := n2_; clear n0_ n1_ n2_; (try clear hb); (try clear hb2); (try clear hk); (try clear hi); (try clear ho0)) | ((with_reducible refine ye (N := 3) rfl ?_); refine ze ?hg (N := 3) ?hd (cs := #[.bool false, .int .i64 0, .slice none 0 0, .int .i64 0]) (t := 33) ?hr ?_; (case hd => rfl); (case hg => rfl); (case hr => first | (go_simp; done) | (go_simp; rfl)); intro gb482 hg w13 hbox hb; have n0_ := z2.mk (Kd.qf (by (with_reducible repeat (first | apply Kd.R_alloc | apply Kd.y9 | apply Kd.zb)); exact HO479.out) hb); have n1_ := z2.mk (z9 (g := gb474) (o := .cells #[.int .i64 0, .bool false, .int .i64 0, .slice none 0 0, .int .i64 0] 45 (0, 0)) (by (with_reducible repeat (first | refine z5 ?_ _ | refine y6 ?_ | refine y4 ?_ _)); exact BK474.out) hb); have n2_ := z2.mk (y8 (by repeat (first | (with_reducible first | exact HB.out | apply z4 | apply z1 | apply z3 | refine z7 ?_ GE474.out) | exact HB.out)) hb); have n3_ := z2.mk (hbox); have n4_ := z2.mk ((by rw [hg]; exact (z8 (by repeat (first | (with_reducible first | exact HB.out | apply z4 | apply z1 | apply z3 | refine z7 ?_ GE474.out) | exact HB.out))) : w.heap.size ≤ gb482)); have n5_ := z2.mk ((by rw [hg]; exact (z8 (by repeat (first | (with_reducible first | exact HB.out | apply z4 | apply z1 | apply z3 | refine z7 ?_ GE474.out) | exact HB.out))) : w.heap.size ≤ gb482)); have n6_ := z2.mk ((by rw [hg]; exact Nat.ne_of_lt (qk (g := gb474) (o := .cells #[.int .i64 0, .bool false, .int .i64 0, .slice none 0 0, .int .i64 0] 45 (0, 0)) (by (with_reducible repeat (first | refine z5 ?_ _ | refine y6 ?_ | refine y4 ?_ _)); exact BK474.out)) : gb474 ≠ gb482)); have n7_ := z2.mk ((by rw [hg]; exact Nat.ne_of_gt (qk (g := gb474) (o := .cells #[.int .i64 0, .bool false, .int .i64 0, .slice none 0 0, .int .i64 0] 45 (0, 0)) (by (with_reducible repeat (first | refine z5 ?_ _ | refine y6 ?_ | refine y4 ?_ _)); exact BK474.out)) : gb482 ≠ gb474)); clear HO479 BK474 HB; have HO479 := n0_; have BK474 := n1_; have HB := n2_; have BK482 := n3_; have GW482 := n4_; have GE482 := n5_; have NB474_482 := n6_; have NB482_474 := n7_; clear n0_ n1_ n2_ n3_ n4_ n5_ n6_ n7_ hb hbox hg; have hnb14 := NB482_474.out; have hnc14 := NB474_482.out; have hcz15_0 : w13.cell? ⟨gb482, 0, none⟩ = some (.bool false) := (z6 BK482.out 0).trans rfl; have hcz15_1 : w13.cell? ⟨gb482, 1, none⟩ = some (.int .i64 0) := (z6 BK482.out 1).trans rfl; have hcz15_2 : w13.cell? ⟨gb482, 2, none⟩ = some (.slice none 0 0) := (z6 BK482.out 2).trans rfl; have hcz15_3 : w13.cell? ⟨gb482, 3, none⟩ = some (.int .i64 0) := (z6 BK482.out 3).trans rfl; have hfz15_0 := y5 BK482.out 0; have hfz15_1 := y5 BK482.out 1; have hfz15_2 := y5 BK482.out 2; have hfz15_3 := y5 BK482.out 3; obtain ⟨Ao16, co16, eo16⟩ := Kd.zt HO479.out; subst eo16; have hcz17_0 : w13.cell? ⟨gb474, 0, none⟩ = some (.int .i64 0) := (z6 BK474.out 0).trans rfl; have hcz17_1 : w13.cell? ⟨gb474, 1, none⟩ = some (.bool false) := (z6 BK474.out 1).trans rfl; have hcz17_2 : w13.cell? ⟨gb474, 2, none⟩ = some (.int .i64 0) := (z6 BK474.out 2).trans rfl; have hcz17_3 : w13.cell? ⟨gb474, 3, none⟩ = some (.slice none 0 0) := (z6 BK474.out 3).trans rfl; have hcz17_4 : w13.cell? ⟨gb474, 4, none⟩ = some (.int .i64 0) := (z6 BK474.out 4).trans rfl; have hfz17_0 := y5 BK474.out 0; have hfz17_1 := y5 BK474.out 1; have hfz17_2 := y5 BK474.out 2; have hfz17_3 := y5 BK474.out 3; have hfz17_4 := y5 BK474.out 4))
  refine bodyPost_ret (results_cell_row rfl _ _ gb474 45 #[.int .i64 5, .bool false, .int .i64 0, .slice none 0 0, .int .i64 0] (0, 0) _ rfl (by (with_reducible repeat (first | refine z5 ?_ _ | refine y6 ?_ | refine y4 ?_ _)); refine qc (cs := #[.int .i64 5, .bool false, .int .i64 0, .slice none 0 0, .int .i64 0]) ?_ 4 _ rfl; (with_reducible repeat (first | refine z5 ?_ _ | refine y6 ?_ | refine y4 ?_ _)); refine qc (cs := #[.int .i64 5, .bool false, .int .i64 0, .slice none 0 0, .int .i64 0]) ?_ 3 _ rfl; (with_reducible repeat (first | refine z5 ?_ _ | refine y6 ?_ | refine y4 ?_ _)); refine qc (cs := #[.int .i64 5, .bool false, .int .i64 0, .slice none 0 0, .int .i64 0]) ?_ 2 _ rfl; (with_reducible repeat (first | refine z5 ?_ _ | refine y6 ?_ | refine y4 ?_ _)); refine qc (cs := #[.int .i64 5, .bool false, .int .i64 0, .slice none 0 0, .int .i64 0]) ?_ 1 _ rfl; (with_reducible repeat (first | refine z5 ?_ _ | refine y6 ?_ | refine y4 ?_ _)); refine qc (cs := #[.int .i64 0, .bool false, .int .i64 0, .slice none 0 0, .int .i64 0]) ?_ 0 _ rfl; (with_reducible repeat (first | refine z5 ?_ _ | refine y6 ?_ | refine y4 ?_ _)); refine zd ?_ NB474_482.out _; (with_reducible repeat (first | refine z5 ?_ _ | refine y6 ?_ | refine y4 ?_ _)); refine zd ?_ NB474_482.out _; (with_reducible repeat (first | refine z5 ?_ _ | refine y6 ?_ | refine y4 ?_ _)); refine zd ?_ NB474_482.out _; (with_reducible repeat (first | refine z5 ?_ _ | refine y6 ?_ | refine y4 ?_ _)); refine zd ?_ NB474_482.out _; (with_reducible repeat (first | refine z5 ?_ _ | refine y6 ?_ | refine y4 ?_ _)); exact BK474.out) Try.underlying45 rfl (by kernel_rfl)) rfl ?_
  exact ⟨_, by first | rfl | (simp [ya, qa] <;> rfl) | (simp [*, ya, qa] <;> rfl), by first | exact Kd.z0n _ _ _ _ _ | exact Kd.N_nil _ _ _ _ _ | exact Kd.V_nil _ _ _ _ _ | exact Kd.Q_nil _ _ _ _ _ | exact Kd.S_nil _ _ _ _ _, by repeat (first | (with_reducible first | exact HB.out | apply z4 | apply z1 | apply z3 | refine z7 ?_ GE474.out | refine z7 ?_ GE482.out) | exact HB.out)⟩
def qe.f (k : Nat) (a0_0 : Int) (a0_1 : Bool) (a0_2 : Int) (l0_3 : List (yl)) (a0_4 : Int) (a1_0 : Int) (a1_1 : Bool) (a1_2 : Int) (l1_3 : List (yl)) (a1_4 : Int) : Option (Bool) := if a0_0 = a1_0 then ((q06.f k a0_1 a0_2 l0_3 a0_4 a1_1 a1_2 l1_3 a1_4).bind fun t485 => (if t485 = true then (some true) else (some false))) else (some false)
set_option maxHeartbeats 8000000 in
set_option maxRecDepth 100000 in
theorem qe.calls (k : Nat) (a0_0 : Int) (a0_1 : Bool) (a0_2 : Int) (A0_3 : Option Addr) (c0_3 : Nat) (l0_3 : List (yl)) (a0_4 : Int) (a1_0 : Int) (a1_1 : Bool) (a1_2 : Int) (A1_3 : Option Addr) (c1_3 : Nat) (l1_3 : List (yl)) (a1_4 : Int) (r : Bool) (w : World) (hr0_3 : Kd.C y08 w A0_3 l0_3.length l0_3) (hc0_3 : l0_3.length ≤ c0_3) (hr1_3 : Kd.C y08 w A1_3 l1_3.length l1_3) (hc1_3 : l1_3.length ≤ c1_3) (h : qe.f k a0_0 a0_1 a0_2 l0_3 a0_4 a1_0 a1_1 a1_2 l1_3 a1_4 = some r) :
  Calls Try.prog 22 #[.agg #[.int .i64 a0_0, .bool a0_1, .int .i64 a0_2, .slice A0_3 l0_3.length c0_3, .int .i64 a0_4], .agg #[.int .i64 a1_0, .bool a1_1, .int .i64 a1_2, .slice A1_3 l1_3.length c1_3, .int .i64 a1_4]] w fun e w' => e = .returned (.bool r) ∧ Below w.heap.size w w' := by
 have hu45 := Try.underlying45
 have hu33 := Try.underlying33
 have HR0_3 := z2.mk hr0_3
 have HC0_3 := z2.mk hc0_3
 clear hr0_3 hc0_3
 have HR1_3 := z2.mk hr1_3
 have HC1_3 := z2.mk hc1_3
 clear hr1_3 hc1_3
 have HB := z2.mk (Below.refl w.heap.size w)
 have H : (if a0_0 = a1_0 then ((q06.f k a0_1 a0_2 l0_3 a0_4 a1_1 a1_2 l1_3 a1_4).bind fun t485 => (if t485 = true then (some true) else (some false))) else (some false)) = some r := h
 clear h
 by_cases c3 : a0_0 = a1_0
 ·rw [if_pos c3] at H
  have c3b0 : (a0_0 == a1_0) = true := beq_iff_eq.mpr c3
  have c3b1 : (a0_0 != a1_0) = false := bne_eq_false_iff_eq.mpr c3
  clear c3
  replace H := Option.bind_eq_some_iff.mp H
  obtain ⟨t485, A40, H⟩ := H
  replace H : (if t485 = true then (some true) else (some false)) = some r := H
  have A4 := z2.mk A40
  clear A40
  by_cases c5 : t485 = true
  ·subst c5
   have H1 : (some true) = some r := by rw [if_pos rfl] at H; exact H
   clear H
   have H := H1
   clear H1
   obtain rfl := Option.some.inj H
   go_enter Try.func22, Try.ntmps22
   go_wp2_with (first | ((with_reducible refine ye (N := 2) rfl ?_); refine ze ?hg (N := 2) ?hd (cs := #[.int .i64 a0_0, .bool a0_1, .int .i64 a0_2, .slice A0_3 l0_3.length c0_3, .int .i64 a0_4]) (t := 45) ?hr ?_; (case hd => rfl); (case hg => rfl); (case hr => first | (go_simp; done) | (go_simp; rfl)); intro gb483 hg w6 hbox hb; have n0_ := z2.mk (y8 (by repeat (first | (with_reducible first | exact HB.out | apply z4 | apply z1 | apply z3) | exact HB.out)) hb); have n1_ := z2.mk (hbox); have n2_ := z2.mk ((by rw [hg]; exact (z8 (by repeat (first | (with_reducible first | exact HB.out | apply z4 | apply z1 | apply z3) | exact HB.out))) : w.heap.size ≤ gb483)); have n3_ := z2.mk ((by rw [hg]; exact (z8 (by repeat (first | (with_reducible first | exact HB.out | apply z4 | apply z1 | apply z3) | exact HB.out))) : w.heap.size ≤ gb483)); clear HB; have HB := n0_; have BK483 := n1_; have GW483 := n2_; have GE483 := n3_; clear n0_ n1_ n2_ n3_ hb hbox hg) | ((with_reducible refine ye (N := 3) rfl ?_); refine ze ?hg (N := 3) ?hd (cs := #[.int .i64 a1_0, .bool a1_1, .int .i64 a1_2, .slice A1_3 l1_3.length c1_3, .int .i64 a1_4]) (t := 45) ?hr ?_; (case hd => rfl); (case hg => rfl); (case hr => first | (go_simp; done) | (go_simp; rfl)); intro gb484 hg w7 hbox hb; have n0_ := z2.mk (z9 (g := gb483) (o := .cells #[.int .i64 a0_0, .bool a0_1, .int .i64 a0_2, .slice A0_3 l0_3.length c0_3, .int .i64 a0_4] 45 (0, 0)) (by (with_reducible repeat (first | refine z5 ?_ _ | refine y6 ?_ | refine y4 ?_ _)); exact BK483.out) hb); have n1_ := z2.mk (y8 (by repeat (first | (with_reducible first | exact HB.out | apply z4 | apply z1 | apply z3 | refine z7 ?_ GE483.out) | exact HB.out)) hb); have n2_ := z2.mk (hbox); have n3_ := z2.mk ((by rw [hg]; exact (z8 (by repeat (first | (with_reducible first | exact HB.out | apply z4 | apply z1 | apply z3 | refine z7 ?_ GE483.out) | exact HB.out))) : w.heap.size ≤ gb484)); have n4_ := z2.mk ((by rw [hg]; exact (z8 (by repeat (first | (with_reducible first | exact HB.out | apply z4 | apply z1 | apply z3 | refine z7 ?_ GE483.out) | exact HB.out))) : w.heap.size ≤ gb484)); have n5_ := z2.mk ((by rw [hg]; exact Nat.ne_of_lt (qk (g := gb483) (o := .cells #[.int .i64 a0_0, .bool a0_1, .int .i64 a0_2, .slice A0_3 l0_3.length c0_3, .int .i64 a0_4] 45 (0, 0)) (by (with_reducible repeat (first | refine z5 ?_ _ | refine y6 ?_ | refine y4 ?_ _)); exact BK483.out)) : gb483 ≠ gb484)); have n6_ := z2.mk ((by rw [hg]; exact Nat.ne_of_gt (qk (g := gb483) (o := .cells #[.int .i64 a0_0, .bool a0_1, .int .i64 a0_2, .slice A0_3 l0_3.length c0_3, .int .i64 a0_4] 45 (0, 0)) (by (with_reducible repeat (first | refine z5 ?_ _ | refine y6 ?_ | refine y4 ?_ _)); exact BK483.out)) : gb484 ≠ gb483)); clear BK483 HB; have BK483 := n0_; have HB := n1_; have BK484 := n2_; have GW484 := n3_; have GE484 := n4_; have NB483_484 := n5_; have NB484_483 := n6_; clear n0_ n1_ n2_ n3_ n4_ n5_ n6_ hb hbox hg; have hnb8 := NB483_484.out; have hnc8 := NB484_483.out; have hcz9_0 : w7.cell? ⟨gb483, 0, none⟩ = some (.int .i64 a0_0) := (z6 BK483.out 0).trans rfl; have hcz9_1 : w7.cell? ⟨gb483, 1, none⟩ = some (.bool a0_1) := (z6 BK483.out 1).trans rfl; have hcz9_2 : w7.cell? ⟨gb483, 2, none⟩ = some (.int .i64 a0_2) := (z6 BK483.out 2).trans rfl; have hcz9_3 : w7.cell? ⟨gb483, 3, none⟩ = some (.slice A0_3 l0_3.length c0_3) := (z6 BK483.out 3).trans rfl; have hcz9_4 : w7.cell? ⟨gb483, 4, none⟩ = some (.int .i64 a0_4) := (z6 BK483.out 4).trans rfl; have hfz9_0 := y5 BK483.out 0; have hfz9_1 := y5 BK483.out 1; have hfz9_2 := y5 BK483.out 2; have hfz9_3 := y5 BK483.out 3; have hfz9_4 := y5 BK483.out 4; have hcz10_0 : w7.cell? ⟨gb484, 0, none⟩ = some (.int .i64 a1_0) := (z6 BK484.out 0).trans rfl; have hcz10_1 : w7.cell? ⟨gb484, 1, none⟩ = some (.bool a1_1) := (z6 BK484.out 1).trans rfl; have hcz10_2 : w7.cell? ⟨gb484, 2, none⟩ = some (.int .i64 a1_2) := (z6 BK484.out 2).trans rfl; have hcz10_3 : w7.cell? ⟨gb484, 3, none⟩ = some (.slice A1_3 l1_3.length c1_3) := (z6 BK484.out 3).trans rfl; have hcz10_4 : w7.cell? ⟨gb484, 4, none⟩ = some (.int .i64 a1_4) := (z6 BK484.out 4).trans rfl; have hfz10_0 := y5 BK484.out 0; have hfz10_1 := y5 BK484.out 1; have hfz10_2 := y5 BK484.out 2; have hfz10_3 := y5 BK484.out 3; have hfz10_4 := y5 BK484.out 4) | ((with_reducible refine qb (f := 12) rfl ?_); refine zm (some 14) rfl rfl Try.func12 (by kernel_rfl) rfl #[.agg #[.bool a0_1, .int .i64 a0_2, .slice A0_3 l0_3.length c0_3, .int .i64 a0_4], .agg #[.bool a1_1, .int .i64 a1_2, .slice A1_3 l1_3.length c1_3, .int .i64 a1_4]] rfl (by (try simp only [List.map_toArray, List.map_cons, List.map_nil]); first | done | rfl | (simp only [List.length_drop, List.length_take]; rfl)) ?_; (with_reducible refine (q06.calls k a0_1 a0_2 _ _ l0_3 a0_4 a1_1 a1_2 _ _ l1_3 a1_4 true _ ?side1 ?side2 ?side3 ?side4 A4.out).mono ?_); (case side1 => repeat (first | exact (Kd.yp HR0_3.out HB.out) | (with_reducible refine Kd.yi ?_ _) | (with_reducible refine Kd.qi ?_ _) | (with_reducible refine Kd.C_drew ?_))); (case side2 => exact HC0_3.out); (case side3 => repeat (first | exact (Kd.yp HR1_3.out HB.out) | (with_reducible refine Kd.yi ?_ _) | (with_reducible refine Kd.qi ?_ _) | (with_reducible refine Kd.C_drew ?_))); (case side4 => exact HC1_3.out); rintro e w11 ⟨rfl, hb⟩; refine ⟨_, rfl, ?_⟩; have n0_ := z2.mk (z9 (g := gb483) (o := .cells #[.int .i64 a0_0, .bool a0_1, .int .i64 a0_2, .slice A0_3 l0_3.length c0_3, .int .i64 a0_4] 45 (0, 0)) (by (with_reducible repeat (first | refine z5 ?_ _ | refine y6 ?_ | refine y4 ?_ _)); exact BK483.out) hb); have n1_ := z2.mk (z9 (g := gb484) (o := .cells #[.int .i64 a1_0, .bool a1_1, .int .i64 a1_2, .slice A1_3 l1_3.length c1_3, .int .i64 a1_4] 45 (0, 0)) (by (with_reducible repeat (first | refine z5 ?_ _ | refine y6 ?_ | refine y4 ?_ _)); exact BK484.out) hb); have n2_ := z2.mk (y8 (by repeat (first | (with_reducible first | exact HB.out | apply z4 | apply z1 | apply z3 | refine z7 ?_ GE483.out | refine z7 ?_ GE484.out) | exact HB.out)) hb); clear BK483 BK484 HB; have BK483 := n0_; have BK484 := n1_; have HB := n2_; clear n0_ n1_ n2_; (try clear hb); (try clear hb2); (try clear hk); (try clear hi)))
   go_ret
   exact ⟨by first | rfl | (simp [ya, qa] <;> rfl) | (simp [*, ya, qa] <;> rfl), by repeat (first | (with_reducible first | exact HB.out | apply z4 | apply z1 | apply z3 | refine z7 ?_ GE483.out | refine z7 ?_ GE484.out) | exact HB.out)⟩
  ·replace c5 := Bool.eq_false_iff.mpr c5
   subst c5
   have H1 : (some false) = some r := by rw [if_neg (show ¬ (false = true) by decide)] at H; exact H
   clear H
   have H := H1
   clear H1
   obtain rfl := Option.some.inj H
   go_enter Try.func22, Try.ntmps22
   go_wp2_with (first | ((with_reducible refine ye (N := 2) rfl ?_); refine ze ?hg (N := 2) ?hd (cs := #[.int .i64 a0_0, .bool a0_1, .int .i64 a0_2, .slice A0_3 l0_3.length c0_3, .int .i64 a0_4]) (t := 45) ?hr ?_; (case hd => rfl); (case hg => rfl); (case hr => first | (go_simp; done) | (go_simp; rfl)); intro gb483 hg w12 hbox hb; have n0_ := z2.mk (y8 (by repeat (first | (with_reducible first | exact HB.out | apply z4 | apply z1 | apply z3) | exact HB.out)) hb); have n1_ := z2.mk (hbox); have n2_ := z2.mk ((by rw [hg]; exact (z8 (by repeat (first | (with_reducible first | exact HB.out | apply z4 | apply z1 | apply z3) | exact HB.out))) : w.heap.size ≤ gb483)); have n3_ := z2.mk ((by rw [hg]; exact (z8 (by repeat (first | (with_reducible first | exact HB.out | apply z4 | apply z1 | apply z3) | exact HB.out))) : w.heap.size ≤ gb483)); clear HB; have HB := n0_; have BK483 := n1_; have GW483 := n2_; have GE483 := n3_; clear n0_ n1_ n2_ n3_ hb hbox hg) | ((with_reducible refine ye (N := 3) rfl ?_); refine ze ?hg (N := 3) ?hd (cs := #[.int .i64 a1_0, .bool a1_1, .int .i64 a1_2, .slice A1_3 l1_3.length c1_3, .int .i64 a1_4]) (t := 45) ?hr ?_; (case hd => rfl); (case hg => rfl); (case hr => first | (go_simp; done) | (go_simp; rfl)); intro gb484 hg w13 hbox hb; have n0_ := z2.mk (z9 (g := gb483) (o := .cells #[.int .i64 a0_0, .bool a0_1, .int .i64 a0_2, .slice A0_3 l0_3.length c0_3, .int .i64 a0_4] 45 (0, 0)) (by (with_reducible repeat (first | refine z5 ?_ _ | refine y6 ?_ | refine y4 ?_ _)); exact BK483.out) hb); have n1_ := z2.mk (y8 (by repeat (first | (with_reducible first | exact HB.out | apply z4 | apply z1 | apply z3 | refine z7 ?_ GE483.out) | exact HB.out)) hb); have n2_ := z2.mk (hbox); have n3_ := z2.mk ((by rw [hg]; exact (z8 (by repeat (first | (with_reducible first | exact HB.out | apply z4 | apply z1 | apply z3 | refine z7 ?_ GE483.out) | exact HB.out))) : w.heap.size ≤ gb484)); have n4_ := z2.mk ((by rw [hg]; exact (z8 (by repeat (first | (with_reducible first | exact HB.out | apply z4 | apply z1 | apply z3 | refine z7 ?_ GE483.out) | exact HB.out))) : w.heap.size ≤ gb484)); have n5_ := z2.mk ((by rw [hg]; exact Nat.ne_of_lt (qk (g := gb483) (o := .cells #[.int .i64 a0_0, .bool a0_1, .int .i64 a0_2, .slice A0_3 l0_3.length c0_3, .int .i64 a0_4] 45 (0, 0)) (by (with_reducible repeat (first | refine z5 ?_ _ | refine y6 ?_ | refine y4 ?_ _)); exact BK483.out)) : gb483 ≠ gb484)); have n6_ := z2.mk ((by rw [hg]; exact Nat.ne_of_gt (qk (g := gb483) (o := .cells #[.int .i64 a0_0, .bool a0_1, .int .i64 a0_2, .slice A0_3 l0_3.length c0_3, .int .i64 a0_4] 45 (0, 0)) (by (with_reducible repeat (first | refine z5 ?_ _ | refine y6 ?_ | refine y4 ?_ _)); exact BK483.out)) : gb484 ≠ gb483)); clear BK483 HB; have BK483 := n0_; have HB := n1_; have BK484 := n2_; have GW484 := n3_; have GE484 := n4_; have NB483_484 := n5_; have NB484_483 := n6_; clear n0_ n1_ n2_ n3_ n4_ n5_ n6_ hb hbox hg; have hnb14 := NB483_484.out; have hnc14 := NB484_483.out; have hcz15_0 : w13.cell? ⟨gb483, 0, none⟩ = some (.int .i64 a0_0) := (z6 BK483.out 0).trans rfl; have hcz15_1 : w13.cell? ⟨gb483, 1, none⟩ = some (.bool a0_1) := (z6 BK483.out 1).trans rfl; have hcz15_2 : w13.cell? ⟨gb483, 2, none⟩ = some (.int .i64 a0_2) := (z6 BK483.out 2).trans rfl; have hcz15_3 : w13.cell? ⟨gb483, 3, none⟩ = some (.slice A0_3 l0_3.length c0_3) := (z6 BK483.out 3).trans rfl; have hcz15_4 : w13.cell? ⟨gb483, 4, none⟩ = some (.int .i64 a0_4) := (z6 BK483.out 4).trans rfl; have hfz15_0 := y5 BK483.out 0; have hfz15_1 := y5 BK483.out 1; have hfz15_2 := y5 BK483.out 2; have hfz15_3 := y5 BK483.out 3; have hfz15_4 := y5 BK483.out 4; have hcz16_0 : w13.cell? ⟨gb484, 0, none⟩ = some (.int .i64 a1_0) := (z6 BK484.out 0).trans rfl; have hcz16_1 : w13.cell? ⟨gb484, 1, none⟩ = some (.bool a1_1) := (z6 BK484.out 1).trans rfl; have hcz16_2 : w13.cell? ⟨gb484, 2, none⟩ = some (.int .i64 a1_2) := (z6 BK484.out 2).trans rfl; have hcz16_3 : w13.cell? ⟨gb484, 3, none⟩ = some (.slice A1_3 l1_3.length c1_3) := (z6 BK484.out 3).trans rfl; have hcz16_4 : w13.cell? ⟨gb484, 4, none⟩ = some (.int .i64 a1_4) := (z6 BK484.out 4).trans rfl; have hfz16_0 := y5 BK484.out 0; have hfz16_1 := y5 BK484.out 1; have hfz16_2 := y5 BK484.out 2; have hfz16_3 := y5 BK484.out 3; have hfz16_4 := y5 BK484.out 4) | ((with_reducible refine qb (f := 12) rfl ?_); refine zm (some 14) rfl rfl Try.func12 (by kernel_rfl) rfl #[.agg #[.bool a0_1, .int .i64 a0_2, .slice A0_3 l0_3.length c0_3, .int .i64 a0_4], .agg #[.bool a1_1, .int .i64 a1_2, .slice A1_3 l1_3.length c1_3, .int .i64 a1_4]] rfl (by (try simp only [List.map_toArray, List.map_cons, List.map_nil]); first | done | rfl | (simp only [List.length_drop, List.length_take]; rfl)) ?_; (with_reducible refine (q06.calls k a0_1 a0_2 _ _ l0_3 a0_4 a1_1 a1_2 _ _ l1_3 a1_4 false _ ?side1 ?side2 ?side3 ?side4 A4.out).mono ?_); (case side1 => repeat (first | exact (Kd.yp HR0_3.out HB.out) | (with_reducible refine Kd.yi ?_ _) | (with_reducible refine Kd.qi ?_ _) | (with_reducible refine Kd.C_drew ?_))); (case side2 => exact HC0_3.out); (case side3 => repeat (first | exact (Kd.yp HR1_3.out HB.out) | (with_reducible refine Kd.yi ?_ _) | (with_reducible refine Kd.qi ?_ _) | (with_reducible refine Kd.C_drew ?_))); (case side4 => exact HC1_3.out); rintro e w17 ⟨rfl, hb⟩; refine ⟨_, rfl, ?_⟩; have n0_ := z2.mk (z9 (g := gb483) (o := .cells #[.int .i64 a0_0, .bool a0_1, .int .i64 a0_2, .slice A0_3 l0_3.length c0_3, .int .i64 a0_4] 45 (0, 0)) (by (with_reducible repeat (first | refine z5 ?_ _ | refine y6 ?_ | refine y4 ?_ _)); exact BK483.out) hb); have n1_ := z2.mk (z9 (g := gb484) (o := .cells #[.int .i64 a1_0, .bool a1_1, .int .i64 a1_2, .slice A1_3 l1_3.length c1_3, .int .i64 a1_4] 45 (0, 0)) (by (with_reducible repeat (first | refine z5 ?_ _ | refine y6 ?_ | refine y4 ?_ _)); exact BK484.out) hb); have n2_ := z2.mk (y8 (by repeat (first | (with_reducible first | exact HB.out | apply z4 | apply z1 | apply z3 | refine z7 ?_ GE483.out | refine z7 ?_ GE484.out) | exact HB.out)) hb); clear BK483 BK484 HB; have BK483 := n0_; have BK484 := n1_; have HB := n2_; clear n0_ n1_ n2_; (try clear hb); (try clear hb2); (try clear hk); (try clear hi)))
   go_ret
   exact ⟨by first | rfl | (simp [ya, qa] <;> rfl) | (simp [*, ya, qa] <;> rfl), by repeat (first | (with_reducible first | exact HB.out | apply z4 | apply z1 | apply z3 | refine z7 ?_ GE483.out | refine z7 ?_ GE484.out) | exact HB.out)⟩
 ·rw [if_neg c3] at H
  have c3b0 : (a0_0 == a1_0) = false := beq_eq_false_iff_ne.mpr c3
  have c3b1 : (a0_0 != a1_0) = true := bne_iff_ne.mpr c3
  obtain rfl := Option.some.inj H
  go_enter Try.func22, Try.ntmps22
  go_wp2_with (first | ((with_reducible refine ye (N := 2) rfl ?_); refine ze ?hg (N := 2) ?hd (cs := #[.int .i64 a0_0, .bool a0_1, .int .i64 a0_2, .slice A0_3 l0_3.length c0_3, .int .i64 a0_4]) (t := 45) ?hr ?_; (case hd => rfl); (case hg => rfl); (case hr => first | (go_simp; done) | (go_simp; rfl)); intro gb483 hg w18 hbox hb; have n0_ := z2.mk (y8 (by repeat (first | (with_reducible first | exact HB.out | apply z4 | apply z1 | apply z3) | exact HB.out)) hb); have n1_ := z2.mk (hbox); have n2_ := z2.mk ((by rw [hg]; exact (z8 (by repeat (first | (with_reducible first | exact HB.out | apply z4 | apply z1 | apply z3) | exact HB.out))) : w.heap.size ≤ gb483)); have n3_ := z2.mk ((by rw [hg]; exact (z8 (by repeat (first | (with_reducible first | exact HB.out | apply z4 | apply z1 | apply z3) | exact HB.out))) : w.heap.size ≤ gb483)); clear HB; have HB := n0_; have BK483 := n1_; have GW483 := n2_; have GE483 := n3_; clear n0_ n1_ n2_ n3_ hb hbox hg) | ((with_reducible refine ye (N := 3) rfl ?_); refine ze ?hg (N := 3) ?hd (cs := #[.int .i64 a1_0, .bool a1_1, .int .i64 a1_2, .slice A1_3 l1_3.length c1_3, .int .i64 a1_4]) (t := 45) ?hr ?_; (case hd => rfl); (case hg => rfl); (case hr => first | (go_simp; done) | (go_simp; rfl)); intro gb484 hg w19 hbox hb; have n0_ := z2.mk (z9 (g := gb483) (o := .cells #[.int .i64 a0_0, .bool a0_1, .int .i64 a0_2, .slice A0_3 l0_3.length c0_3, .int .i64 a0_4] 45 (0, 0)) (by (with_reducible repeat (first | refine z5 ?_ _ | refine y6 ?_ | refine y4 ?_ _)); exact BK483.out) hb); have n1_ := z2.mk (y8 (by repeat (first | (with_reducible first | exact HB.out | apply z4 | apply z1 | apply z3 | refine z7 ?_ GE483.out) | exact HB.out)) hb); have n2_ := z2.mk (hbox); have n3_ := z2.mk ((by rw [hg]; exact (z8 (by repeat (first | (with_reducible first | exact HB.out | apply z4 | apply z1 | apply z3 | refine z7 ?_ GE483.out) | exact HB.out))) : w.heap.size ≤ gb484)); have n4_ := z2.mk ((by rw [hg]; exact (z8 (by repeat (first | (with_reducible first | exact HB.out | apply z4 | apply z1 | apply z3 | refine z7 ?_ GE483.out) | exact HB.out))) : w.heap.size ≤ gb484)); have n5_ := z2.mk ((by rw [hg]; exact Nat.ne_of_lt (qk (g := gb483) (o := .cells #[.int .i64 a0_0, .bool a0_1, .int .i64 a0_2, .slice A0_3 l0_3.length c0_3, .int .i64 a0_4] 45 (0, 0)) (by (with_reducible repeat (first | refine z5 ?_ _ | refine y6 ?_ | refine y4 ?_ _)); exact BK483.out)) : gb483 ≠ gb484)); have n6_ := z2.mk ((by rw [hg]; exact Nat.ne_of_gt (qk (g := gb483) (o := .cells #[.int .i64 a0_0, .bool a0_1, .int .i64 a0_2, .slice A0_3 l0_3.length c0_3, .int .i64 a0_4] 45 (0, 0)) (by (with_reducible repeat (first | refine z5 ?_ _ | refine y6 ?_ | refine y4 ?_ _)); exact BK483.out)) : gb484 ≠ gb483)); clear BK483 HB; have BK483 := n0_; have HB := n1_; have BK484 := n2_; have GW484 := n3_; have GE484 := n4_; have NB483_484 := n5_; have NB484_483 := n6_; clear n0_ n1_ n2_ n3_ n4_ n5_ n6_ hb hbox hg; have hnb20 := NB483_484.out; have hnc20 := NB484_483.out; have hcz21_0 : w19.cell? ⟨gb483, 0, none⟩ = some (.int .i64 a0_0) := (z6 BK483.out 0).trans rfl; have hcz21_1 : w19.cell? ⟨gb483, 1, none⟩ = some (.bool a0_1) := (z6 BK483.out 1).trans rfl; have hcz21_2 : w19.cell? ⟨gb483, 2, none⟩ = some (.int .i64 a0_2) := (z6 BK483.out 2).trans rfl; have hcz21_3 : w19.cell? ⟨gb483, 3, none⟩ = some (.slice A0_3 l0_3.length c0_3) := (z6 BK483.out 3).trans rfl; have hcz21_4 : w19.cell? ⟨gb483, 4, none⟩ = some (.int .i64 a0_4) := (z6 BK483.out 4).trans rfl; have hfz21_0 := y5 BK483.out 0; have hfz21_1 := y5 BK483.out 1; have hfz21_2 := y5 BK483.out 2; have hfz21_3 := y5 BK483.out 3; have hfz21_4 := y5 BK483.out 4; have hcz22_0 : w19.cell? ⟨gb484, 0, none⟩ = some (.int .i64 a1_0) := (z6 BK484.out 0).trans rfl; have hcz22_1 : w19.cell? ⟨gb484, 1, none⟩ = some (.bool a1_1) := (z6 BK484.out 1).trans rfl; have hcz22_2 : w19.cell? ⟨gb484, 2, none⟩ = some (.int .i64 a1_2) := (z6 BK484.out 2).trans rfl; have hcz22_3 : w19.cell? ⟨gb484, 3, none⟩ = some (.slice A1_3 l1_3.length c1_3) := (z6 BK484.out 3).trans rfl; have hcz22_4 : w19.cell? ⟨gb484, 4, none⟩ = some (.int .i64 a1_4) := (z6 BK484.out 4).trans rfl; have hfz22_0 := y5 BK484.out 0; have hfz22_1 := y5 BK484.out 1; have hfz22_2 := y5 BK484.out 2; have hfz22_3 := y5 BK484.out 3; have hfz22_4 := y5 BK484.out 4))
  go_ret
  exact ⟨by first | rfl | (simp [ya, qa] <;> rfl) | (simp [*, ya, qa] <;> rfl), by repeat (first | (with_reducible first | exact HB.out | apply z4 | apply z1 | apply z3 | refine z7 ?_ GE483.out | refine z7 ?_ GE484.out) | exact HB.out)⟩
def qr.f (k : Nat) (a0_0 : Int) (a0_1 : Bool) (a0_2 : Int) (l0_3 : List (yl)) (a0_4 : Int) (a1 : Int) : Option (Int × (List (yl))) := (z04.f k a0_1 a0_2 l0_3 a0_4 a1).bind fun bt487 => (some (bt487.1, bt487.2))
set_option maxHeartbeats 8000000 in
set_option maxRecDepth 100000 in
theorem qr.calls (k : Nat) (a0_0 : Int) (a0_1 : Bool) (a0_2 : Int) (P0_3_ : Nat → Prop) (u9000_ : Value) (l0_3 : List (yl)) (a0_4 : Int) (a1 : Int) (r1 : Int) (r2 : List (yl)) (w0 w : World) (hB : Below w0.heap.size w0 w) (ho0_3 : Kd.R y08 138 w w0.heap.size P0_3_ u9000_ l0_3) (h : qr.f k a0_0 a0_1 a0_2 l0_3 a0_4 a1 = some (r1, r2)) :
  Calls Try.prog 25 #[.agg #[.int .i64 a0_0, .bool a0_1, .int .i64 a0_2, u9000_, .int .i64 a0_4], .int .i64 a1] w fun e w' => e = .returned (.int .i64 r1) ∧ Kd.R y08 138 w' w0.heap.size (fun k_ => (P0_3_ k_ ∨ w.heap.size ≤ k_)) u9000_ r2 ∧ Below w0.heap.size w0 w' ∧ Kept w w' (fun k_ => P0_3_ k_) := by
 have hu45 := Try.underlying45
 have hu33 := Try.underlying33
 have HO0_3 := z2.mk (show Kd.R y08 138 w w0.heap.size (fun k_ => (P0_3_ k_ ∨ w.heap.size ≤ k_)) u9000_ l0_3 from Kd.yk ho0_3 (fun k_ hk => (.inl hk)))
 have HK := z2.mk (Kept.refl w (fun k_ => P0_3_ k_))
 have HW0 := z2.mk hB.size
 have HB := z2.mk hB
 clear hB
 have H : ((z04.f k a0_1 a0_2 l0_3 a0_4 a1).bind fun bt487 => (some (bt487.1, bt487.2))) = some (r1, r2) := h
 clear h
 replace H := Option.bind_eq_some_iff.mp H
 obtain ⟨⟨t487, t488⟩, A30, H⟩ := H
 replace H : (some (t487, t488)) = some (r1, r2) := H
 have A3 := z2.mk A30
 clear A30
 simp only [Option.some.injEq, Prod.mk.injEq] at H
 obtain ⟨rfl, rfl⟩ := H
 obtain ⟨Ao4, co4, eo4⟩ := Kd.zt HO0_3.out
 subst eo4
 go_enter Try.func25, Try.ntmps25
 go_wp2_with (first | ((with_reducible refine ye (N := 2) rfl ?_); refine ze ?hg (N := 2) ?hd (cs := #[.int .i64 a0_0, .bool a0_1, .int .i64 a0_2, .slice Ao4 l0_3.length co4, .int .i64 a0_4]) (t := 45) ?hr ?_; (case hd => rfl); (case hg => rfl); (case hr => first | (go_simp; done) | (go_simp; rfl)); intro gb486 hg w5 hbox hb; have n0_ := z2.mk (Kd.qf (by (with_reducible repeat (first | apply Kd.R_alloc | apply Kd.y9 | apply Kd.zb)); exact HO0_3.out) hb); have n1_ := z2.mk (Kept.below (S := (fun k_ => P0_3_ k_)) (by repeat (first | (with_reducible first | exact HK.out | apply Kept.alloc | apply Kept.drewN | apply Kept.drew) | exact HK.out)) hb); have n2_ := z2.mk (y8 (by repeat (first | (with_reducible first | exact HB.out | apply z4 | apply z1 | apply z3) | exact HB.out)) hb); have n3_ := z2.mk (hbox); have n4_ := z2.mk ((by rw [hg]; exact (by first | exact HK.out.1 | exact (show Kept w _ (fun k_ => P0_3_ k_) from by repeat (first | (with_reducible first | exact HK.out | apply Kept.alloc | apply Kept.drewN | apply Kept.drew) | exact HK.out)).1) : w.heap.size ≤ gb486)); have n5_ := z2.mk ((by rw [hg]; exact (z8 (by repeat (first | (with_reducible first | exact HB.out | apply z4 | apply z1 | apply z3) | exact HB.out))) : w0.heap.size ≤ gb486)); clear HO0_3 HK HB; have HO0_3 := n0_; have HK := n1_; have HB := n2_; have BK486 := n3_; have GW486 := n4_; have GE486 := n5_; clear n0_ n1_ n2_ n3_ n4_ n5_ hb hbox hg; have hcz6_0 : w5.cell? ⟨gb486, 0, none⟩ = some (.int .i64 a0_0) := (z6 BK486.out 0).trans rfl; have hcz6_1 : w5.cell? ⟨gb486, 1, none⟩ = some (.bool a0_1) := (z6 BK486.out 1).trans rfl; have hcz6_2 : w5.cell? ⟨gb486, 2, none⟩ = some (.int .i64 a0_2) := (z6 BK486.out 2).trans rfl; have hcz6_3 : w5.cell? ⟨gb486, 3, none⟩ = some (.slice Ao4 l0_3.length co4) := (z6 BK486.out 3).trans rfl; have hcz6_4 : w5.cell? ⟨gb486, 4, none⟩ = some (.int .i64 a0_4) := (z6 BK486.out 4).trans rfl; have hfz6_0 := y5 BK486.out 0; have hfz6_1 := y5 BK486.out 1; have hfz6_2 := y5 BK486.out 2; have hfz6_3 := y5 BK486.out 3; have hfz6_4 := y5 BK486.out 4) | ((with_reducible refine qb (f := 16) rfl ?_); refine zm (some 8) rfl rfl Try.func16 (by kernel_rfl) rfl #[.agg #[.bool a0_1, .int .i64 a0_2, .slice Ao4 l0_3.length co4, .int .i64 a0_4], .int .i64 a1] rfl (by (try simp only [List.map_toArray, List.map_cons, List.map_nil]); first | done | rfl | (simp only [List.length_drop, List.length_take]; rfl)) ?_; (with_reducible refine (z04.calls k a0_1 a0_2 (fun k_ => some k_ = (.slice Ao4 l0_3.length co4 : Value).ownBlock) (.slice Ao4 l0_3.length co4) l0_3 a0_4 a1 t487 t488 w0 _ ?side1 ?side2 A3.out).mono ?_); (case side1 => repeat (first | (with_reducible first | exact HB.out | apply z4 | apply z1 | apply z3 | refine z7 ?_ GE486.out) | exact HB.out)); (case side2 => exact Kd.q0f rfl HO0_3.out); rintro e w7 ⟨rfl, hy0, hb, hkp⟩; refine ⟨_, rfl, ?_⟩; have n0_ := z2.mk (Kd.q0n rfl hy0 (fun k_ e_ => HO0_3.out.1 k_ e_)); have n1_ := z2.mk (q02 (by (with_reducible repeat (first | refine z5 ?_ _ | refine y6 ?_ | refine y4 ?_ _)); exact BK486.out) hkp (fun hs_ => (fun e_ => (Kd.y0k HO0_3.out BK486.out (by decide)) e_) hs_)); have n2_ := z2.mk (Kept.y25 (S := (fun k_ => P0_3_ k_)) (by repeat (first | (with_reducible first | exact HK.out | apply Kept.alloc | apply Kept.drewN | apply Kept.drew | refine Kept.setCell ?_ (.inr GW486.out) _) | exact HK.out)) hkp (fun k_ hs_ => (fun e_ => (HO0_3.out.1 k_ e_.symm)) hs_)); have n3_ := z2.mk (hb); clear HO0_3 BK486 HK HB; have HO0_3 := n0_; have BK486 := n1_; have HK := n2_; have HB := n3_; clear n0_ n1_ n2_ n3_; (try clear hb); (try clear hkp); (try clear hy0)))
 go_ret
 exact ⟨by first | rfl | (simp [ya, qa] <;> rfl) | (simp [*, ya, qa] <;> rfl), by (with_reducible repeat (first | apply Kd.R_alloc | apply Kd.y9 | apply Kd.zb)); exact HO0_3.out, by repeat (first | (with_reducible first | exact HB.out | apply z4 | apply z1 | apply z3 | refine z7 ?_ GE486.out) | exact HB.out), by repeat (first | (with_reducible first | exact HK.out | apply Kept.alloc | apply Kept.drewN | apply Kept.drew | refine Kept.setCell ?_ (.inr GW486.out) _) | exact HK.out)⟩
def yu.l0 : Nat → List (yl) → Int → Int → Option (Int)
 | 0, _, _, _ => none
 | k + 1, x0, x1, x5 => if x5 < (x0.length : Int) then (if 0 ≤ x5 then (if ((y7 x0 x5).f0) = x1 then (if ((y7 x0 x5).f1) = (wrap64 (x1 + 1)) then (if ((y7 x0 x5).f2) = (wrap64 ((wrap64 (x1 + 1)) + 1)) then (if ((y7 x0 x5).f3) = (wrap64 ((wrap64 ((wrap64 (x1 + 1)) + 1)) + 1)) then (yu.l0 k x0 (wrap64 ((wrap64 ((wrap64 ((wrap64 (x1 + 1)) + 1)) + 1)) + 1)) (wrap64 (x5 + 1))) else (some (-1))) else (some (-1))) else (some (-1))) else (some (-1))) else (none)) else (some x1)
def yu.f (k : Nat) (l0 : List (yl)) (a1 : Int) : Option (Int) := yu.l0 k l0 a1 0
set_option maxHeartbeats 8000000 in
set_option maxRecDepth 100000 in
theorem yu.calls (k : Nat) (A0 : Option Addr) (c0 : Nat) (l0 : List (yl)) (a1 : Int) (r : Int) (w : World) (hr0 : Kd.C y08 w A0 l0.length l0) (hc0 : l0.length ≤ c0) (h : yu.f k l0 a1 = some r) :
  Calls Try.prog 121 #[.slice A0 l0.length c0, .int .i64 a1] w fun e w' => e = .returned (.int .i64 r) ∧ zq w w' := by
 have HR0 := z2.mk hr0
 have HC0 := z2.mk hc0
 clear hr0 hc0
 have H : (yu.l0 k l0 a1 0) = some r := h
 clear h
 have H' := z2.mk H
 clear H
 go_enter Try.func121, Try.ntmps121
 go_wp2
 go_loopg [1, 5] k (fun kq v1 v5 w' => ∃ (x1_1 : Int) (x5_1 : Int), v1 = .int .i64 x1_1 ∧ v5 = .int .i64 x5_1 ∧ z2 (yu.l0 kq l0 x1_1 x5_1 = some r) ∧ z2 (kq ≤ k) ∧ zq w w')
 case atStart => exact ⟨(a1), (0), (by first | rfl | (simp; done) | (simp [*]; done)), (by first | rfl | (simp; done) | (simp [*]; done)), H', ⟨Nat.le_refl _⟩, by repeat (first | exact zq.refl _ | apply zq.step)⟩
 case round =>
  clear H'
  try clear c1
  try clear p2
  obtain ⟨x1_1, x5_1, rfl, rfl, HA, HK1, ⟨m1, rfl⟩⟩ := hrel
  cases gk with
  | zero => exact absurd HA.out (by simp [yu.l0])
  | succ k1 =>
   have H := HA.out
   clear HA
   simp only [yu.l0] at H
   by_cases c3 : x5_1 < (l0.length : Int)
   ·rw [if_pos c3] at H
    have c3b0 : decide (x5_1 < (l0.length : Int)) = true := decide_eq_true c3
    clear c3
    by_cases c4 : 0 ≤ x5_1
    ·rw [if_pos c4] at H
     have c4b0 : decide (0 ≤ x5_1) = true := decide_eq_true c4
     clear c4
     by_cases c5 : ((y7 l0 x5_1).f0) = x1_1
     ·rw [if_pos c5] at H
      have c5b0 : (((y7 l0 x5_1).f0) == x1_1) = true := beq_iff_eq.mpr c5
      have c5b1 : (((y7 l0 x5_1).f0) != x1_1) = false := bne_eq_false_iff_eq.mpr c5
      clear c5
      by_cases c6 : ((y7 l0 x5_1).f1) = (wrap64 (x1_1 + 1))
      ·rw [if_pos c6] at H
       have c6b0 : (((y7 l0 x5_1).f1) == (wrap64 (x1_1 + 1))) = true := beq_iff_eq.mpr c6
       have c6b1 : (((y7 l0 x5_1).f1) != (wrap64 (x1_1 + 1))) = false := bne_eq_false_iff_eq.mpr c6
       clear c6
       by_cases c7 : ((y7 l0 x5_1).f2) = (wrap64 ((wrap64 (x1_1 + 1)) + 1))
       ·rw [if_pos c7] at H
        have c7b0 : (((y7 l0 x5_1).f2) == (wrap64 ((wrap64 (x1_1 + 1)) + 1))) = true := beq_iff_eq.mpr c7
        have c7b1 : (((y7 l0 x5_1).f2) != (wrap64 ((wrap64 (x1_1 + 1)) + 1))) = false := bne_eq_false_iff_eq.mpr c7
        clear c7
        by_cases c8 : ((y7 l0 x5_1).f3) = (wrap64 ((wrap64 ((wrap64 (x1_1 + 1)) + 1)) + 1))
        ·rw [if_pos c8] at H
         have c8b0 : (((y7 l0 x5_1).f3) == (wrap64 ((wrap64 ((wrap64 (x1_1 + 1)) + 1)) + 1))) = true := beq_iff_eq.mpr c8
         have c8b1 : (((y7 l0 x5_1).f3) != (wrap64 ((wrap64 ((wrap64 (x1_1 + 1)) + 1)) + 1))) = false := bne_eq_false_iff_eq.mpr c8
         clear c8
         have H' := z2.mk H
         clear H
         have p489 : 0 ≤ (x5_1 : Int) := of_decide_eq_true (by first | (with_reducible assumption) | assumption)
         have q489 : x5_1 < (l0.length : Int) := of_decide_eq_true (by first | (with_reducible assumption) | assumption)
         obtain ⟨ad489, e489, hx489_0, hx489_1, hx489_2, hx489_3⟩ := yz HR0.out x5_1 p489 q489
         cases e489
         replace p489 := eq_true p489
         replace q489 := eq_true q489
         have p490 : 0 ≤ (x5_1 : Int) := of_decide_eq_true (by first | (with_reducible assumption) | assumption)
         have q490 : x5_1 < (l0.length : Int) := of_decide_eq_true (by first | (with_reducible assumption) | assumption)
         obtain ⟨ad490, e490, hx490_0, hx490_1, hx490_2, hx490_3⟩ := yz HR0.out x5_1 p490 q490
         obtain rfl : ad489 = ad490 := (by injection e490)
         replace p490 := eq_true p490
         replace q490 := eq_true q490
         have p491 : 0 ≤ (x5_1 : Int) := of_decide_eq_true (by first | (with_reducible assumption) | assumption)
         have q491 : x5_1 < (l0.length : Int) := of_decide_eq_true (by first | (with_reducible assumption) | assumption)
         obtain ⟨ad491, e491, hx491_0, hx491_1, hx491_2, hx491_3⟩ := yz HR0.out x5_1 p491 q491
         obtain rfl : ad489 = ad491 := (by injection e491)
         replace p491 := eq_true p491
         replace q491 := eq_true q491
         have p492 : 0 ≤ (x5_1 : Int) := of_decide_eq_true (by first | (with_reducible assumption) | assumption)
         have q492 : x5_1 < (l0.length : Int) := of_decide_eq_true (by first | (with_reducible assumption) | assumption)
         obtain ⟨ad492, e492, hx492_0, hx492_1, hx492_2, hx492_3⟩ := yz HR0.out x5_1 p492 q492
         obtain rfl : ad489 = ad492 := (by injection e492)
         replace p492 := eq_true p492
         replace q492 := eq_true q492
         go_wp2
         go_roundg k1
         case measure => have := HK1.out; omega
         case rel => exact ⟨(wrap64 ((wrap64 ((wrap64 ((wrap64 (x1_1 + 1)) + 1)) + 1)) + 1)), (wrap64 (x5_1 + 1)), (by first | rfl | (simp; done) | (simp [*]; done)), (by first | rfl | (simp; done) | (simp [*]; done)), H', ⟨by have := HK1.out; omega⟩, by repeat (first | exact zq.refl _ | apply zq.step)⟩
        ·rw [if_neg c8] at H
         have c8b0 : (((y7 l0 x5_1).f3) == (wrap64 ((wrap64 ((wrap64 (x1_1 + 1)) + 1)) + 1))) = false := beq_eq_false_iff_ne.mpr c8
         have c8b1 : (((y7 l0 x5_1).f3) != (wrap64 ((wrap64 ((wrap64 (x1_1 + 1)) + 1)) + 1))) = true := bne_iff_ne.mpr c8
         obtain rfl := Option.some.inj H
         have p489 : 0 ≤ (x5_1 : Int) := of_decide_eq_true (by first | (with_reducible assumption) | assumption)
         have q489 : x5_1 < (l0.length : Int) := of_decide_eq_true (by first | (with_reducible assumption) | assumption)
         obtain ⟨ad489, e489, hx489_0, hx489_1, hx489_2, hx489_3⟩ := yz HR0.out x5_1 p489 q489
         cases e489
         replace p489 := eq_true p489
         replace q489 := eq_true q489
         have p490 : 0 ≤ (x5_1 : Int) := of_decide_eq_true (by first | (with_reducible assumption) | assumption)
         have q490 : x5_1 < (l0.length : Int) := of_decide_eq_true (by first | (with_reducible assumption) | assumption)
         obtain ⟨ad490, e490, hx490_0, hx490_1, hx490_2, hx490_3⟩ := yz HR0.out x5_1 p490 q490
         obtain rfl : ad489 = ad490 := (by injection e490)
         replace p490 := eq_true p490
         replace q490 := eq_true q490
         have p491 : 0 ≤ (x5_1 : Int) := of_decide_eq_true (by first | (with_reducible assumption) | assumption)
         have q491 : x5_1 < (l0.length : Int) := of_decide_eq_true (by first | (with_reducible assumption) | assumption)
         obtain ⟨ad491, e491, hx491_0, hx491_1, hx491_2, hx491_3⟩ := yz HR0.out x5_1 p491 q491
         obtain rfl : ad489 = ad491 := (by injection e491)
         replace p491 := eq_true p491
         replace q491 := eq_true q491
         have p492 : 0 ≤ (x5_1 : Int) := of_decide_eq_true (by first | (with_reducible assumption) | assumption)
         have q492 : x5_1 < (l0.length : Int) := of_decide_eq_true (by first | (with_reducible assumption) | assumption)
         obtain ⟨ad492, e492, hx492_0, hx492_1, hx492_2, hx492_3⟩ := yz HR0.out x5_1 p492 q492
         obtain rfl : ad489 = ad492 := (by injection e492)
         replace p492 := eq_true p492
         replace q492 := eq_true q492
         go_wp2
         go_ret
         exact ⟨by first | rfl | (simp; done) | (simp [*]; done), by repeat (first | exact zq.refl _ | apply zq.step)⟩
       ·rw [if_neg c7] at H
        have c7b0 : (((y7 l0 x5_1).f2) == (wrap64 ((wrap64 (x1_1 + 1)) + 1))) = false := beq_eq_false_iff_ne.mpr c7
        have c7b1 : (((y7 l0 x5_1).f2) != (wrap64 ((wrap64 (x1_1 + 1)) + 1))) = true := bne_iff_ne.mpr c7
        obtain rfl := Option.some.inj H
        have p489 : 0 ≤ (x5_1 : Int) := of_decide_eq_true (by first | (with_reducible assumption) | assumption)
        have q489 : x5_1 < (l0.length : Int) := of_decide_eq_true (by first | (with_reducible assumption) | assumption)
        obtain ⟨ad489, e489, hx489_0, hx489_1, hx489_2, hx489_3⟩ := yz HR0.out x5_1 p489 q489
        cases e489
        replace p489 := eq_true p489
        replace q489 := eq_true q489
        have p490 : 0 ≤ (x5_1 : Int) := of_decide_eq_true (by first | (with_reducible assumption) | assumption)
        have q490 : x5_1 < (l0.length : Int) := of_decide_eq_true (by first | (with_reducible assumption) | assumption)
        obtain ⟨ad490, e490, hx490_0, hx490_1, hx490_2, hx490_3⟩ := yz HR0.out x5_1 p490 q490
        obtain rfl : ad489 = ad490 := (by injection e490)
        replace p490 := eq_true p490
        replace q490 := eq_true q490
        have p491 : 0 ≤ (x5_1 : Int) := of_decide_eq_true (by first | (with_reducible assumption) | assumption)
        have q491 : x5_1 < (l0.length : Int) := of_decide_eq_true (by first | (with_reducible assumption) | assumption)
        obtain ⟨ad491, e491, hx491_0, hx491_1, hx491_2, hx491_3⟩ := yz HR0.out x5_1 p491 q491
        obtain rfl : ad489 = ad491 := (by injection e491)
        replace p491 := eq_true p491
        replace q491 := eq_true q491
        go_wp2
        go_ret
        exact ⟨by first | rfl | (simp; done) | (simp [*]; done), by repeat (first | exact zq.refl _ | apply zq.step)⟩
      ·rw [if_neg c6] at H
       have c6b0 : (((y7 l0 x5_1).f1) == (wrap64 (x1_1 + 1))) = false := beq_eq_false_iff_ne.mpr c6
       have c6b1 : (((y7 l0 x5_1).f1) != (wrap64 (x1_1 + 1))) = true := bne_iff_ne.mpr c6
       obtain rfl := Option.some.inj H
       have p489 : 0 ≤ (x5_1 : Int) := of_decide_eq_true (by first | (with_reducible assumption) | assumption)
       have q489 : x5_1 < (l0.length : Int) := of_decide_eq_true (by first | (with_reducible assumption) | assumption)
       obtain ⟨ad489, e489, hx489_0, hx489_1, hx489_2, hx489_3⟩ := yz HR0.out x5_1 p489 q489
       cases e489
       replace p489 := eq_true p489
       replace q489 := eq_true q489
       have p490 : 0 ≤ (x5_1 : Int) := of_decide_eq_true (by first | (with_reducible assumption) | assumption)
       have q490 : x5_1 < (l0.length : Int) := of_decide_eq_true (by first | (with_reducible assumption) | assumption)
       obtain ⟨ad490, e490, hx490_0, hx490_1, hx490_2, hx490_3⟩ := yz HR0.out x5_1 p490 q490
       obtain rfl : ad489 = ad490 := (by injection e490)
       replace p490 := eq_true p490
       replace q490 := eq_true q490
       go_wp2
       go_ret
       exact ⟨by first | rfl | (simp; done) | (simp [*]; done), by repeat (first | exact zq.refl _ | apply zq.step)⟩
     ·rw [if_neg c5] at H
      have c5b0 : (((y7 l0 x5_1).f0) == x1_1) = false := beq_eq_false_iff_ne.mpr c5
      have c5b1 : (((y7 l0 x5_1).f0) != x1_1) = true := bne_iff_ne.mpr c5
      obtain rfl := Option.some.inj H
      have p489 : 0 ≤ (x5_1 : Int) := of_decide_eq_true (by first | (with_reducible assumption) | assumption)
      have q489 : x5_1 < (l0.length : Int) := of_decide_eq_true (by first | (with_reducible assumption) | assumption)
      obtain ⟨ad489, e489, hx489_0, hx489_1, hx489_2, hx489_3⟩ := yz HR0.out x5_1 p489 q489
      cases e489
      replace p489 := eq_true p489
      replace q489 := eq_true q489
      go_wp2
      go_ret
      exact ⟨by first | rfl | (simp; done) | (simp [*]; done), by repeat (first | exact zq.refl _ | apply zq.step)⟩
    ·rw [if_neg c4] at H
     exact absurd H (by simp)
   ·rw [if_neg c3] at H
    have c3b0 : decide (x5_1 < (l0.length : Int)) = false := decide_eq_false c3
    clear c3
    obtain rfl := Option.some.inj H
    go_wp2
    go_ret
    exact ⟨by first | rfl | (simp; done) | (simp [*]; done), by repeat (first | exact zq.refl _ | apply zq.step)⟩
end Go.Proofs.Ytkeojolmapcgbaa.PEv
end
