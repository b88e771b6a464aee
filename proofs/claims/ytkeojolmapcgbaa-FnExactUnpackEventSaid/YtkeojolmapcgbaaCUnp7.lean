/- WHAT IS PROVED: parts of the proof of FnExactUnpackEvent: what each Go function that it reaches answers, and plain lemmas; no condition beyond those that each theorem names. -/
import Derived.Laws.Bits64
import Derived.Test.YtkeojolmapcgbaaCUnp6
section
namespace Go.Proofs.Ytkeojolmapcgbaa.PEv
open Go.RowKit Go.Proofs.YtkeojolmapcgbaaW.PrintWords Go.Proofs.YtkeojolmapcgbaaW.PrintLast Go.Proofs.YtkeojolmapcgbaaW.PrintMore
set_option linter.unusedVariables false
set_option linter.unusedSimpArgs false
def qx.f (k : Nat) (a0_0 : Int) (l0_1 : List (yl)) (a1 : Int) : Option (Int) := (yu.f k l0_1 a1).bind fun t494 => (if t494 < 0 then (some (-1)) else (some t494))
set_option maxHeartbeats 8000000 in
set_option maxRecDepth 100000 in
theorem qx.calls (k : Nat) (a0_0 : Int) (A0_1 : Option Addr) (c0_1 : Nat) (l0_1 : List (yl)) (a1 : Int) (r : Int) (w : World) (hr0_1 : Kd.C y08 w A0_1 l0_1.length l0_1) (hc0_1 : l0_1.length ≤ c0_1) (h : qx.f k a0_0 l0_1 a1 = some r) :
  Calls Try.prog 112 #[.agg #[.int .i64 a0_0, .slice A0_1 l0_1.length c0_1], .int .i64 a1] w fun e w' => e = .returned (.int .i64 r) ∧ Below w.heap.size w w' := by
 have hu31 := Try.underlying31
 have HR0_1 := z2.mk hr0_1
 have HC0_1 := z2.mk hc0_1
 clear hr0_1 hc0_1
 have HB := z2.mk (Below.refl w.heap.size w)
 have H : ((yu.f k l0_1 a1).bind fun t494 => (if t494 < 0 then (some (-1)) else (some t494))) = some r := h
 clear h
 replace H := Option.bind_eq_some_iff.mp H
 obtain ⟨t494, A30, H⟩ := H
 replace H : (if t494 < 0 then (some (-1)) else (some t494)) = some r := H
 have A3 := z2.mk A30
 clear A30
 by_cases c4 : t494 < 0
 ·rw [if_pos c4] at H
  have c4b0 : decide (t494 < 0) = true := decide_eq_true c4
  clear c4
  obtain rfl := Option.some.inj H
  go_enter Try.func112, Try.ntmps112
  go_wp2_with (first | ((with_reducible refine ye (N := 2) rfl ?_); refine ze ?hg (N := 2) ?hd (cs := #[.int .i64 a0_0, .slice A0_1 l0_1.length c0_1]) (t := 31) ?hr ?_; (case hd => rfl); (case hg => rfl); (case hr => first | (go_simp; done) | (go_simp; rfl)); intro gb493 hg w5 hbox hb; have n0_ := z2.mk (y8 (by repeat (first | (with_reducible first | exact HB.out | apply z4 | apply z1 | apply z3) | exact HB.out)) hb); have n1_ := z2.mk (hbox); have n2_ := z2.mk ((by rw [hg]; exact (z8 (by repeat (first | (with_reducible first | exact HB.out | apply z4 | apply z1 | apply z3) | exact HB.out))) : w.heap.size ≤ gb493)); have n3_ := z2.mk ((by rw [hg]; exact (z8 (by repeat (first | (with_reducible first | exact HB.out | apply z4 | apply z1 | apply z3) | exact HB.out))) : w.heap.size ≤ gb493)); clear HB; have HB := n0_; have BK493 := n1_; have GW493 := n2_; have GE493 := n3_; clear n0_ n1_ n2_ n3_ hb hbox hg; have hcz6_0 : w5.cell? ⟨gb493, 0, none⟩ = some (.int .i64 a0_0) := (z6 BK493.out 0).trans rfl; have hcz6_1 : w5.cell? ⟨gb493, 1, none⟩ = some (.slice A0_1 l0_1.length c0_1) := (z6 BK493.out 1).trans rfl; have hfz6_0 := y5 BK493.out 0; have hfz6_1 := y5 BK493.out 1) | ((with_reducible refine qb (f := 121) rfl ?_); refine zm (some 8) rfl rfl Try.func121 (by kernel_rfl) rfl #[.slice A0_1 l0_1.length c0_1, .int .i64 a1] rfl (by (try simp only [List.map_toArray, List.map_cons, List.map_nil]); first | done | rfl | (simp only [List.length_drop, List.length_take]; rfl)) ?_; (with_reducible refine (yu.calls k _ _ l0_1 a1 t494 _ ?side1 ?side2 A3.out).mono ?_); (case side1 => repeat (first | exact (Kd.yp HR0_1.out HB.out) | (with_reducible refine Kd.yi ?_ _) | (with_reducible refine Kd.qi ?_ _) | (with_reducible refine Kd.C_drew ?_))); (case side2 => exact HC0_1.out); rintro e w' ⟨rfl, ⟨nd, rfl⟩⟩; refine ⟨_, rfl, ?_⟩))
  go_ret
  exact ⟨by first | rfl | (simp [ya, qa] <;> rfl) | (simp [*, ya, qa] <;> rfl), by repeat (first | (with_reducible first | exact HB.out | apply z4 | apply z1 | apply z3 | refine z7 ?_ GE493.out) | exact HB.out)⟩
 ·rw [if_neg c4] at H
  have c4b0 : decide (t494 < 0) = false := decide_eq_false c4
  clear c4
  obtain rfl := Option.some.inj H
  go_enter Try.func112, Try.ntmps112
  go_wp2_with (first | ((with_reducible refine ye (N := 2) rfl ?_); refine ze ?hg (N := 2) ?hd (cs := #[.int .i64 a0_0, .slice A0_1 l0_1.length c0_1]) (t := 31) ?hr ?_; (case hd => rfl); (case hg => rfl); (case hr => first | (go_simp; done) | (go_simp; rfl)); intro gb493 hg w7 hbox hb; have n0_ := z2.mk (y8 (by repeat (first | (with_reducible first | exact HB.out | apply z4 | apply z1 | apply z3) | exact HB.out)) hb); have n1_ := z2.mk (hbox); have n2_ := z2.mk ((by rw [hg]; exact (z8 (by repeat (first | (with_reducible first | exact HB.out | apply z4 | apply z1 | apply z3) | exact HB.out))) : w.heap.size ≤ gb493)); have n3_ := z2.mk ((by rw [hg]; exact (z8 (by repeat (first | (with_reducible first | exact HB.out | apply z4 | apply z1 | apply z3) | exact HB.out))) : w.heap.size ≤ gb493)); clear HB; have HB := n0_; have BK493 := n1_; have GW493 := n2_; have GE493 := n3_; clear n0_ n1_ n2_ n3_ hb hbox hg; have hcz8_0 : w7.cell? ⟨gb493, 0, none⟩ = some (.int .i64 a0_0) := (z6 BK493.out 0).trans rfl; have hcz8_1 : w7.cell? ⟨gb493, 1, none⟩ = some (.slice A0_1 l0_1.length c0_1) := (z6 BK493.out 1).trans rfl; have hfz8_0 := y5 BK493.out 0; have hfz8_1 := y5 BK493.out 1) | ((with_reducible refine qb (f := 121) rfl ?_); refine zm (some 8) rfl rfl Try.func121 (by kernel_rfl) rfl #[.slice A0_1 l0_1.length c0_1, .int .i64 a1] rfl (by (try simp only [List.map_toArray, List.map_cons, List.map_nil]); first | done | rfl | (simp only [List.length_drop, List.length_take]; rfl)) ?_; (with_reducible refine (yu.calls k _ _ l0_1 a1 t494 _ ?side1 ?side2 A3.out).mono ?_); (case side1 => repeat (first | exact (Kd.yp HR0_1.out HB.out) | (with_reducible refine Kd.yi ?_ _) | (with_reducible refine Kd.qi ?_ _) | (with_reducible refine Kd.C_drew ?_))); (case side2 => exact HC0_1.out); rintro e w' ⟨rfl, ⟨nd, rfl⟩⟩; refine ⟨_, rfl, ?_⟩))
  go_ret
  exact ⟨by first | rfl | (simp [ya, qa] <;> rfl) | (simp [*, ya, qa] <;> rfl), by repeat (first | (with_reducible first | exact HB.out | apply z4 | apply z1 | apply z3 | refine z7 ?_ GE493.out) | exact HB.out)⟩
def y01.f (k : Nat) (a0_0 : Bool) (a0_1 : Int) (l0_2 : List (yl)) (a0_3 : Int) (a1 : Int) : Option (Int) := (qx.f k a0_1 l0_2 a1).bind fun t496 => (if t496 < 0 then (some (-1)) else (some t496))
set_option maxHeartbeats 8000000 in
set_option maxRecDepth 100000 in
theorem y01.calls (k : Nat) (a0_0 : Bool) (a0_1 : Int) (A0_2 : Option Addr) (c0_2 : Nat) (l0_2 : List (yl)) (a0_3 : Int) (a1 : Int) (r : Int) (w : World) (hr0_2 : Kd.C y08 w A0_2 l0_2.length l0_2) (hc0_2 : l0_2.length ≤ c0_2) (h : y01.f k a0_0 a0_1 l0_2 a0_3 a1 = some r) :
  Calls Try.prog 60 #[.agg #[.bool a0_0, .int .i64 a0_1, .slice A0_2 l0_2.length c0_2, .int .i64 a0_3], .int .i64 a1] w fun e w' => e = .returned (.int .i64 r) ∧ Below w.heap.size w w' := by
 have hu33 := Try.underlying33
 have hu31 := Try.underlying31
 have HR0_2 := z2.mk hr0_2
 have HC0_2 := z2.mk hc0_2
 clear hr0_2 hc0_2
 have HB := z2.mk (Below.refl w.heap.size w)
 have H : ((qx.f k a0_1 l0_2 a1).bind fun t496 => (if t496 < 0 then (some (-1)) else (some t496))) = some r := h
 clear h
 replace H := Option.bind_eq_some_iff.mp H
 obtain ⟨t496, A30, H⟩ := H
 replace H : (if t496 < 0 then (some (-1)) else (some t496)) = some r := H
 have A3 := z2.mk A30
 clear A30
 by_cases c4 : t496 < 0
 ·rw [if_pos c4] at H
  have c4b0 : decide (t496 < 0) = true := decide_eq_true c4
  clear c4
  obtain rfl := Option.some.inj H
  go_enter Try.func60, Try.ntmps60
  go_wp2_with (first | ((with_reducible refine ye (N := 2) rfl ?_); refine ze ?hg (N := 2) ?hd (cs := #[.bool a0_0, .int .i64 a0_1, .slice A0_2 l0_2.length c0_2, .int .i64 a0_3]) (t := 33) ?hr ?_; (case hd => rfl); (case hg => rfl); (case hr => first | (go_simp; done) | (go_simp; rfl)); intro gb495 hg w5 hbox hb; have n0_ := z2.mk (y8 (by repeat (first | (with_reducible first | exact HB.out | apply z4 | apply z1 | apply z3) | exact HB.out)) hb); have n1_ := z2.mk (hbox); have n2_ := z2.mk ((by rw [hg]; exact (z8 (by repeat (first | (with_reducible first | exact HB.out | apply z4 | apply z1 | apply z3) | exact HB.out))) : w.heap.size ≤ gb495)); have n3_ := z2.mk ((by rw [hg]; exact (z8 (by repeat (first | (with_reducible first | exact HB.out | apply z4 | apply z1 | apply z3) | exact HB.out))) : w.heap.size ≤ gb495)); clear HB; have HB := n0_; have BK495 := n1_; have GW495 := n2_; have GE495 := n3_; clear n0_ n1_ n2_ n3_ hb hbox hg; have hcz6_0 : w5.cell? ⟨gb495, 0, none⟩ = some (.bool a0_0) := (z6 BK495.out 0).trans rfl; have hcz6_1 : w5.cell? ⟨gb495, 1, none⟩ = some (.int .i64 a0_1) := (z6 BK495.out 1).trans rfl; have hcz6_2 : w5.cell? ⟨gb495, 2, none⟩ = some (.slice A0_2 l0_2.length c0_2) := (z6 BK495.out 2).trans rfl; have hcz6_3 : w5.cell? ⟨gb495, 3, none⟩ = some (.int .i64 a0_3) := (z6 BK495.out 3).trans rfl; have hfz6_0 := y5 BK495.out 0; have hfz6_1 := y5 BK495.out 1; have hfz6_2 := y5 BK495.out 2; have hfz6_3 := y5 BK495.out 3) | ((with_reducible refine qb (f := 112) rfl ?_); refine zm (some 8) rfl rfl Try.func112 (by kernel_rfl) rfl #[.agg #[.int .i64 a0_1, .slice A0_2 l0_2.length c0_2], .int .i64 a1] rfl (by (try simp only [List.map_toArray, List.map_cons, List.map_nil]); first | done | rfl | (simp only [List.length_drop, List.length_take]; rfl)) ?_; (with_reducible refine (qx.calls k a0_1 _ _ l0_2 a1 t496 _ ?side1 ?side2 A3.out).mono ?_); (case side1 => repeat (first | exact (Kd.yp HR0_2.out HB.out) | (with_reducible refine Kd.yi ?_ _) | (with_reducible refine Kd.qi ?_ _) | (with_reducible refine Kd.C_drew ?_))); (case side2 => exact HC0_2.out); rintro e w7 ⟨rfl, hb⟩; refine ⟨_, rfl, ?_⟩; have n0_ := z2.mk (z9 (g := gb495) (o := .cells #[.bool a0_0, .int .i64 a0_1, .slice A0_2 l0_2.length c0_2, .int .i64 a0_3] 33 (0, 0)) (by (with_reducible repeat (first | refine z5 ?_ _ | refine y6 ?_ | refine y4 ?_ _)); exact BK495.out) hb); have n1_ := z2.mk (y8 (by repeat (first | (with_reducible first | exact HB.out | apply z4 | apply z1 | apply z3 | refine z7 ?_ GE495.out) | exact HB.out)) hb); clear BK495 HB; have BK495 := n0_; have HB := n1_; clear n0_ n1_; (try clear hb); (try clear hb2); (try clear hk); (try clear hi)))
  go_ret
  exact ⟨by first | rfl | (simp [ya, qa] <;> rfl) | (simp [*, ya, qa] <;> rfl), by repeat (first | (with_reducible first | exact HB.out | apply z4 | apply z1 | apply z3 | refine z7 ?_ GE495.out) | exact HB.out)⟩
 ·rw [if_neg c4] at H
  have c4b0 : decide (t496 < 0) = false := decide_eq_false c4
  clear c4
  obtain rfl := Option.some.inj H
  go_enter Try.func60, Try.ntmps60
  go_wp2_with (first | ((with_reducible refine ye (N := 2) rfl ?_); refine ze ?hg (N := 2) ?hd (cs := #[.bool a0_0, .int .i64 a0_1, .slice A0_2 l0_2.length c0_2, .int .i64 a0_3]) (t := 33) ?hr ?_; (case hd => rfl); (case hg => rfl); (case hr => first | (go_simp; done) | (go_simp; rfl)); intro gb495 hg w8 hbox hb; have n0_ := z2.mk (y8 (by repeat (first | (with_reducible first | exact HB.out | apply z4 | apply z1 | apply z3) | exact HB.out)) hb); have n1_ := z2.mk (hbox); have n2_ := z2.mk ((by rw [hg]; exact (z8 (by repeat (first | (with_reducible first | exact HB.out | apply z4 | apply z1 | apply z3) | exact HB.out))) : w.heap.size ≤ gb495)); have n3_ := z2.mk ((by rw [hg]; exact (z8 (by repeat (first | (with_reducible first | exact HB.out | apply z4 | apply z1 | apply z3) | exact HB.out))) : w.heap.size ≤ gb495)); clear HB; have HB := n0_; have BK495 := n1_; have GW495 := n2_; have GE495 := n3_; clear n0_ n1_ n2_ n3_ hb hbox hg; have hcz9_0 : w8.cell? ⟨gb495, 0, none⟩ = some (.bool a0_0) := (z6 BK495.out 0).trans rfl; have hcz9_1 : w8.cell? ⟨gb495, 1, none⟩ = some (.int .i64 a0_1) := (z6 BK495.out 1).trans rfl; have hcz9_2 : w8.cell? ⟨gb495, 2, none⟩ = some (.slice A0_2 l0_2.length c0_2) := (z6 BK495.out 2).trans rfl; have hcz9_3 : w8.cell? ⟨gb495, 3, none⟩ = some (.int .i64 a0_3) := (z6 BK495.out 3).trans rfl; have hfz9_0 := y5 BK495.out 0; have hfz9_1 := y5 BK495.out 1; have hfz9_2 := y5 BK495.out 2; have hfz9_3 := y5 BK495.out 3) | ((with_reducible refine qb (f := 112) rfl ?_); refine zm (some 8) rfl rfl Try.func112 (by kernel_rfl) rfl #[.agg #[.int .i64 a0_1, .slice A0_2 l0_2.length c0_2], .int .i64 a1] rfl (by (try simp only [List.map_toArray, List.map_cons, List.map_nil]); first | done | rfl | (simp only [List.length_drop, List.length_take]; rfl)) ?_; (with_reducible refine (qx.calls k a0_1 _ _ l0_2 a1 t496 _ ?side1 ?side2 A3.out).mono ?_); (case side1 => repeat (first | exact (Kd.yp HR0_2.out HB.out) | (with_reducible refine Kd.yi ?_ _) | (with_reducible refine Kd.qi ?_ _) | (with_reducible refine Kd.C_drew ?_))); (case side2 => exact HC0_2.out); rintro e w10 ⟨rfl, hb⟩; refine ⟨_, rfl, ?_⟩; have n0_ := z2.mk (z9 (g := gb495) (o := .cells #[.bool a0_0, .int .i64 a0_1, .slice A0_2 l0_2.length c0_2, .int .i64 a0_3] 33 (0, 0)) (by (with_reducible repeat (first | refine z5 ?_ _ | refine y6 ?_ | refine y4 ?_ _)); exact BK495.out) hb); have n1_ := z2.mk (y8 (by repeat (first | (with_reducible first | exact HB.out | apply z4 | apply z1 | apply z3 | refine z7 ?_ GE495.out) | exact HB.out)) hb); clear BK495 HB; have BK495 := n0_; have HB := n1_; clear n0_ n1_; (try clear hb); (try clear hb2); (try clear hk); (try clear hi)))
  go_ret
  exact ⟨by first | rfl | (simp [ya, qa] <;> rfl) | (simp [*, ya, qa] <;> rfl), by repeat (first | (with_reducible first | exact HB.out | apply z4 | apply z1 | apply z3 | refine z7 ?_ GE495.out) | exact HB.out)⟩
def qh.f (k : Nat) (a0_0 : Int) (a0_1 : Bool) (a0_2 : Int) (l0_3 : List (yl)) (a0_4 : Int) (a1 : Int) : Option (Int) := (y01.f k a0_1 a0_2 l0_3 a0_4 a1).bind fun t498 => (if t498 < 0 then (some (-1)) else (some t498))
set_option maxHeartbeats 8000000 in
set_option maxRecDepth 100000 in
theorem qh.calls (k : Nat) (a0_0 : Int) (a0_1 : Bool) (a0_2 : Int) (A0_3 : Option Addr) (c0_3 : Nat) (l0_3 : List (yl)) (a0_4 : Int) (a1 : Int) (r : Int) (w : World) (hr0_3 : Kd.C y08 w A0_3 l0_3.length l0_3) (hc0_3 : l0_3.length ≤ c0_3) (h : qh.f k a0_0 a0_1 a0_2 l0_3 a0_4 a1 = some r) :
  Calls Try.prog 26 #[.agg #[.int .i64 a0_0, .bool a0_1, .int .i64 a0_2, .slice A0_3 l0_3.length c0_3, .int .i64 a0_4], .int .i64 a1] w fun e w' => e = .returned (.int .i64 r) ∧ Below w.heap.size w w' := by
 have hu45 := Try.underlying45
 have hu33 := Try.underlying33
 have HR0_3 := z2.mk hr0_3
 have HC0_3 := z2.mk hc0_3
 clear hr0_3 hc0_3
 have HB := z2.mk (Below.refl w.heap.size w)
 have H : ((y01.f k a0_1 a0_2 l0_3 a0_4 a1).bind fun t498 => (if t498 < 0 then (some (-1)) else (some t498))) = some r := h
 clear h
 replace H := Option.bind_eq_some_iff.mp H
 obtain ⟨t498, A30, H⟩ := H
 replace H : (if t498 < 0 then (some (-1)) else (some t498)) = some r := H
 have A3 := z2.mk A30
 clear A30
 by_cases c4 : t498 < 0
 ·rw [if_pos c4] at H
  have c4b0 : decide (t498 < 0) = true := decide_eq_true c4
  clear c4
  obtain rfl := Option.some.inj H
  go_enter Try.func26, Try.ntmps26
  go_wp2_with (first | ((with_reducible refine ye (N := 2) rfl ?_); refine ze ?hg (N := 2) ?hd (cs := #[.int .i64 a0_0, .bool a0_1, .int .i64 a0_2, .slice A0_3 l0_3.length c0_3, .int .i64 a0_4]) (t := 45) ?hr ?_; (case hd => rfl); (case hg => rfl); (case hr => first | (go_simp; done) | (go_simp; rfl)); intro gb497 hg w5 hbox hb; have n0_ := z2.mk (y8 (by repeat (first | (with_reducible first | exact HB.out | apply z4 | apply z1 | apply z3) | exact HB.out)) hb); have n1_ := z2.mk (hbox); have n2_ := z2.mk ((by rw [hg]; exact (z8 (by repeat (first | (with_reducible first | exact HB.out | apply z4 | apply z1 | apply z3) | exact HB.out))) : w.heap.size ≤ gb497)); have n3_ := z2.mk ((by rw [hg]; exact (z8 (by repeat (first | (with_reducible first | exact HB.out | apply z4 | apply z1 | apply z3) | exact HB.out))) : w.heap.size ≤ gb497)); clear HB; have HB := n0_; have BK497 := n1_; have GW497 := n2_; have GE497 := n3_; clear n0_ n1_ n2_ n3_ hb hbox hg; have hcz6_0 : w5.cell? ⟨gb497, 0, none⟩ = some (.int .i64 a0_0) := (z6 BK497.out 0).trans rfl; have hcz6_1 : w5.cell? ⟨gb497, 1, none⟩ = some (.bool a0_1) := (z6 BK497.out 1).trans rfl; have hcz6_2 : w5.cell? ⟨gb497, 2, none⟩ = some (.int .i64 a0_2) := (z6 BK497.out 2).trans rfl; have hcz6_3 : w5.cell? ⟨gb497, 3, none⟩ = some (.slice A0_3 l0_3.length c0_3) := (z6 BK497.out 3).trans rfl; have hcz6_4 : w5.cell? ⟨gb497, 4, none⟩ = some (.int .i64 a0_4) := (z6 BK497.out 4).trans rfl; have hfz6_0 := y5 BK497.out 0; have hfz6_1 := y5 BK497.out 1; have hfz6_2 := y5 BK497.out 2; have hfz6_3 := y5 BK497.out 3; have hfz6_4 := y5 BK497.out 4) | ((with_reducible refine qb (f := 60) rfl ?_); refine zm (some 8) rfl rfl Try.func60 (by kernel_rfl) rfl #[.agg #[.bool a0_1, .int .i64 a0_2, .slice A0_3 l0_3.length c0_3, .int .i64 a0_4], .int .i64 a1] rfl (by (try simp only [List.map_toArray, List.map_cons, List.map_nil]); first | done | rfl | (simp only [List.length_drop, List.length_take]; rfl)) ?_; (with_reducible refine (y01.calls k a0_1 a0_2 _ _ l0_3 a0_4 a1 t498 _ ?side1 ?side2 A3.out).mono ?_); (case side1 => repeat (first | exact (Kd.yp HR0_3.out HB.out) | (with_reducible refine Kd.yi ?_ _) | (with_reducible refine Kd.qi ?_ _) | (with_reducible refine Kd.C_drew ?_))); (case side2 => exact HC0_3.out); rintro e w7 ⟨rfl, hb⟩; refine ⟨_, rfl, ?_⟩; have n0_ := z2.mk (z9 (g := gb497) (o := .cells #[.int .i64 a0_0, .bool a0_1, .int .i64 a0_2, .slice A0_3 l0_3.length c0_3, .int .i64 a0_4] 45 (0, 0)) (by (with_reducible repeat (first | refine z5 ?_ _ | refine y6 ?_ | refine y4 ?_ _)); exact BK497.out) hb); have n1_ := z2.mk (y8 (by repeat (first | (with_reducible first | exact HB.out | apply z4 | apply z1 | apply z3 | refine z7 ?_ GE497.out) | exact HB.out)) hb); clear BK497 HB; have BK497 := n0_; have HB := n1_; clear n0_ n1_; (try clear hb); (try clear hb2); (try clear hk); (try clear hi)))
  go_ret
  exact ⟨by first | rfl | (simp [ya, qa] <;> rfl) | (simp [*, ya, qa] <;> rfl), by repeat (first | (with_reducible first | exact HB.out | apply z4 | apply z1 | apply z3 | refine z7 ?_ GE497.out) | exact HB.out)⟩
 ·rw [if_neg c4] at H
  have c4b0 : decide (t498 < 0) = false := decide_eq_false c4
  clear c4
  obtain rfl := Option.some.inj H
  go_enter Try.func26, Try.ntmps26
  go_wp2_with (first | ((with_reducible refine ye (N := 2) rfl ?_); refine ze ?hg (N := 2) ?hd (cs := #[.int .i64 a0_0, .bool a0_1, .int .i64 a0_2, .slice A0_3 l0_3.length c0_3, .int .i64 a0_4]) (t := 45) ?hr ?_; (case hd => rfl); (case hg => rfl); (case hr => first | (go_simp; done) | (go_simp; rfl)); intro gb497 hg w8 hbox hb; have n0_ := z2.mk (y8 (by repeat (first | (with_reducible first | exact HB.out | apply z4 | apply z1 | apply z3) | exact HB.out)) hb); have n1_ := z2.mk (hbox); have n2_ := z2.mk ((by rw [hg]; exact (z8 (by repeat (first | (with_reducible first | exact HB.out | apply z4 | apply z1 | apply z3) | exact HB.out))) : w.heap.size ≤ gb497)); have n3_ := z2.mk ((by rw [hg]; exact (z8 (by repeat (first | (with_reducible first | exact HB.out | apply z4 | apply z1 | apply z3) | exact HB.out))) : w.heap.size ≤ gb497)); clear HB; have HB := n0_; have BK497 := n1_; have GW497 := n2_; have GE497 := n3_; clear n0_ n1_ n2_ n3_ hb hbox hg; have hcz9_0 : w8.cell? ⟨gb497, 0, none⟩ = some (.int .i64 a0_0) := (z6 BK497.out 0).trans rfl; have hcz9_1 : w8.cell? ⟨gb497, 1, none⟩ = some (.bool a0_1) := (z6 BK497.out 1).trans rfl; have hcz9_2 : w8.cell? ⟨gb497, 2, none⟩ = some (.int .i64 a0_2) := (z6 BK497.out 2).trans rfl; have hcz9_3 : w8.cell? ⟨gb497, 3, none⟩ = some (.slice A0_3 l0_3.length c0_3) := (z6 BK497.out 3).trans rfl; have hcz9_4 : w8.cell? ⟨gb497, 4, none⟩ = some (.int .i64 a0_4) := (z6 BK497.out 4).trans rfl; have hfz9_0 := y5 BK497.out 0; have hfz9_1 := y5 BK497.out 1; have hfz9_2 := y5 BK497.out 2; have hfz9_3 := y5 BK497.out 3; have hfz9_4 := y5 BK497.out 4) | ((with_reducible refine qb (f := 60) rfl ?_); refine zm (some 8) rfl rfl Try.func60 (by kernel_rfl) rfl #[.agg #[.bool a0_1, .int .i64 a0_2, .slice A0_3 l0_3.length c0_3, .int .i64 a0_4], .int .i64 a1] rfl (by (try simp only [List.map_toArray, List.map_cons, List.map_nil]); first | done | rfl | (simp only [List.length_drop, List.length_take]; rfl)) ?_; (with_reducible refine (y01.calls k a0_1 a0_2 _ _ l0_3 a0_4 a1 t498 _ ?side1 ?side2 A3.out).mono ?_); (case side1 => repeat (first | exact (Kd.yp HR0_3.out HB.out) | (with_reducible refine Kd.yi ?_ _) | (with_reducible refine Kd.qi ?_ _) | (with_reducible refine Kd.C_drew ?_))); (case side2 => exact HC0_3.out); rintro e w10 ⟨rfl, hb⟩; refine ⟨_, rfl, ?_⟩; have n0_ := z2.mk (z9 (g := gb497) (o := .cells #[.int .i64 a0_0, .bool a0_1, .int .i64 a0_2, .slice A0_3 l0_3.length c0_3, .int .i64 a0_4] 45 (0, 0)) (by (with_reducible repeat (first | refine z5 ?_ _ | refine y6 ?_ | refine y4 ?_ _)); exact BK497.out) hb); have n1_ := z2.mk (y8 (by repeat (first | (with_reducible first | exact HB.out | apply z4 | apply z1 | apply z3 | refine z7 ?_ GE497.out) | exact HB.out)) hb); clear BK497 HB; have BK497 := n0_; have HB := n1_; clear n0_ n1_; (try clear hb); (try clear hb2); (try clear hk); (try clear hi)))
  go_ret
  exact ⟨by first | rfl | (simp [ya, qa] <;> rfl) | (simp [*, ya, qa] <;> rfl), by repeat (first | (with_reducible first | exact HB.out | apply z4 | apply z1 | apply z3 | refine z7 ?_ GE497.out) | exact HB.out)⟩
end Go.Proofs.Ytkeojolmapcgbaa.PEv
end
section
namespace Go.Proofs.Ytkeojolmapcgbaa.PEv
open Go.RowKit Go.Proofs.YtkeojolmapcgbaaW.PrintWords Go.Proofs.YtkeojolmapcgbaaW.PrintLast Go.Proofs.YtkeojolmapcgbaaW.PrintMore
set_option linter.unusedVariables false
set_option linter.unusedSimpArgs false
def zc.j0 : Nat → List Int → Bool → Int → Bool → Int → List (yl) → Int → Int → Bool → Int → List (yl) → Int → Option (Bool)
 | 0, _, _, _, _, _, _, _, _, _, _, _, _ => none
 | k + 1, x0, x39, x510000, x510001, x510002, x510003, x510004, x521000, x521001, x521002, x521003, x521004 => if x39 = true then (some false) else ((qr.f k x521000 x521001 x521002 x521003 x521004 1).bind fun bt529 => ((qh.f k x521000 x521001 x521002 bt529.2 x521004 1).bind fun t531 => (if t531 < 0 then (some false) else (if t531 = bt529.1 then ((zk.f k x0).bind fun t532 => ((qn.f k t532).bind fun bt535 => ((qe.f k bt535.1 bt535.2.1 bt535.2.2.1 bt535.2.2.2.1 bt535.2.2.2.2 x510000 x510001 x510002 x510003 x510004).bind fun t543 => (if t543 = true then ((qh.f k x521000 x521001 x521002 bt529.2 x521004 1).bind fun t544 => (if t544 < 0 then (some false) else (if t544 = bt529.1 then (some true) else (some false)))) else (some false))))) else (some false)))))
def zc.f (k : Nat) (l0 : List Int) : Option (Bool) := if (l0.length : Int) > 1048576 then (some true) else ((zk.f k l0).bind fun t499 => ((zz.f k t499).bind fun bt502 => ((zk.f k l0).bind fun t510 => ((qn.f k t510).bind fun bt513 => ((qe.f k bt513.1 bt513.2.1 bt513.2.2.1 bt513.2.2.2.1 bt513.2.2.2.2 bt502.1 bt502.2.1 bt502.2.2.1 bt502.2.2.2.1 bt502.2.2.2.2).bind fun t521 => (if t521 = true then ((zk.f k l0).bind fun t522 => ((qt.f k t510 t522).bind fun t525 => (if t525 = true then ((ym.f k t510 1).bind fun bt526 => (if bt526.1 < 0 then (zc.j0 k l0 true bt502.1 bt502.2.1 bt502.2.2.1 bt502.2.2.2.1 bt502.2.2.2.2 bt513.1 bt513.2.1 bt513.2.2.1 bt513.2.2.2.1 bt513.2.2.2.2) else ((qe.f k bt513.1 bt513.2.1 bt513.2.2.1 bt513.2.2.2.1 bt513.2.2.2.2 bt502.1 bt502.2.1 bt502.2.2.1 bt502.2.2.2.1 bt502.2.2.2.2).bind fun t528 => (zc.j0 k l0 (!t528) bt502.1 bt502.2.1 bt502.2.2.1 bt502.2.2.2.1 bt502.2.2.2.2 bt513.1 bt513.2.1 bt513.2.2.1 bt513.2.2.2.1 bt513.2.2.2.2)))) else (none)))) else (none)))))))
set_option maxHeartbeats 8000000 in
set_option maxRecDepth 100000 in
theorem zc.calls (k : Nat) (A0 : Option Addr) (c0 : Nat) (l0 : List Int) (r : Bool) (w : World) (hr0 : Kd.C (Kd.int .u8) w A0 l0.length l0) (hc0 : l0.length ≤ c0) (h : zc.f k l0 = some r) :
  Calls Try.prog 5 #[.slice A0 l0.length c0] w fun e w' => e = .returned (.bool r) ∧ Below w.heap.size w w' := by
 have hu45 := Try.underlying45
 have HR0 := z2.mk hr0
 have HC0 := z2.mk hc0
 clear hr0 hc0
 have HB := z2.mk (Below.refl w.heap.size w)
 have H : (if (l0.length : Int) > 1048576 then (some true) else ((zk.f k l0).bind fun t499 => ((zz.f k t499).bind fun bt502 => ((zk.f k l0).bind fun t510 => ((qn.f k t510).bind fun bt513 => ((qe.f k bt513.1 bt513.2.1 bt513.2.2.1 bt513.2.2.2.1 bt513.2.2.2.2 bt502.1 bt502.2.1 bt502.2.2.1 bt502.2.2.2.1 bt502.2.2.2.2).bind fun t521 => (if t521 = true then ((zk.f k l0).bind fun t522 => ((qt.f k t510 t522).bind fun t525 => (if t525 = true then ((ym.f k t510 1).bind fun bt526 => (if bt526.1 < 0 then (zc.j0 k l0 true bt502.1 bt502.2.1 bt502.2.2.1 bt502.2.2.2.1 bt502.2.2.2.2 bt513.1 bt513.2.1 bt513.2.2.1 bt513.2.2.2.1 bt513.2.2.2.2) else ((qe.f k bt513.1 bt513.2.1 bt513.2.2.1 bt513.2.2.2.1 bt513.2.2.2.2 bt502.1 bt502.2.1 bt502.2.2.1 bt502.2.2.2.1 bt502.2.2.2.2).bind fun t528 => (zc.j0 k l0 (!t528) bt502.1 bt502.2.1 bt502.2.2.1 bt502.2.2.2.1 bt502.2.2.2.2 bt513.1 bt513.2.1 bt513.2.2.1 bt513.2.2.2.1 bt513.2.2.2.2)))) else (none)))) else (none)))))))) = some r := h
 clear h
 by_cases c2 : (l0.length : Int) > 1048576
 ·rw [if_pos c2] at H
  have c2b0 : decide (1048576 < (l0.length : Int)) = true := decide_eq_true c2
  have c2b1 : decide (1048576 < l0.length) = true := decide_eq_true (by omega)
  clear c2
  obtain rfl := Option.some.inj H
  go_enter Try.func5, Try.ntmps5
  go_wp2
  go_ret
  exact ⟨by first | rfl | (simp [ya, qa] <;> rfl) | (simp [*, ya, qa] <;> rfl), by repeat (first | (with_reducible first | exact HB.out | apply z4 | apply z1 | apply z3) | exact HB.out)⟩
 ·rw [if_neg c2] at H
  have c2b0 : decide (1048576 < (l0.length : Int)) = false := decide_eq_false c2
  have c2b1 : decide (1048576 < l0.length) = false := decide_eq_false (by omega)
  clear c2
  replace H := Option.bind_eq_some_iff.mp H
  obtain ⟨t499, A30, H⟩ := H
  replace H : ((zz.f k t499).bind fun bt502 => ((zk.f k l0).bind fun t510 => ((qn.f k t510).bind fun bt513 => ((qe.f k bt513.1 bt513.2.1 bt513.2.2.1 bt513.2.2.2.1 bt513.2.2.2.2 bt502.1 bt502.2.1 bt502.2.2.1 bt502.2.2.2.1 bt502.2.2.2.2).bind fun t521 => (if t521 = true then ((zk.f k l0).bind fun t522 => ((qt.f k t510 t522).bind fun t525 => (if t525 = true then ((ym.f k t510 1).bind fun bt526 => (if bt526.1 < 0 then (zc.j0 k l0 true bt502.1 bt502.2.1 bt502.2.2.1 bt502.2.2.2.1 bt502.2.2.2.2 bt513.1 bt513.2.1 bt513.2.2.1 bt513.2.2.2.1 bt513.2.2.2.2) else ((qe.f k bt513.1 bt513.2.1 bt513.2.2.1 bt513.2.2.2.1 bt513.2.2.2.2 bt502.1 bt502.2.1 bt502.2.2.1 bt502.2.2.2.1 bt502.2.2.2.2).bind fun t528 => (zc.j0 k l0 (!t528) bt502.1 bt502.2.1 bt502.2.2.1 bt502.2.2.2.1 bt502.2.2.2.2 bt513.1 bt513.2.1 bt513.2.2.1 bt513.2.2.2.1 bt513.2.2.2.2)))) else (none)))) else (none)))))) = some r := H
  have A3 := z2.mk A30
  clear A30
  replace H := Option.bind_eq_some_iff.mp H
  obtain ⟨⟨t502, t503, t504, t505, t508⟩, A40, H⟩ := H
  replace H : ((zk.f k l0).bind fun t510 => ((qn.f k t510).bind fun bt513 => ((qe.f k bt513.1 bt513.2.1 bt513.2.2.1 bt513.2.2.2.1 bt513.2.2.2.2 t502 t503 t504 t505 t508).bind fun t521 => (if t521 = true then ((zk.f k l0).bind fun t522 => ((qt.f k t510 t522).bind fun t525 => (if t525 = true then ((ym.f k t510 1).bind fun bt526 => (if bt526.1 < 0 then (zc.j0 k l0 true t502 t503 t504 t505 t508 bt513.1 bt513.2.1 bt513.2.2.1 bt513.2.2.2.1 bt513.2.2.2.2) else ((qe.f k bt513.1 bt513.2.1 bt513.2.2.1 bt513.2.2.2.1 bt513.2.2.2.2 t502 t503 t504 t505 t508).bind fun t528 => (zc.j0 k l0 (!t528) t502 t503 t504 t505 t508 bt513.1 bt513.2.1 bt513.2.2.1 bt513.2.2.2.1 bt513.2.2.2.2)))) else (none)))) else (none))))) = some r := H
  have A4 := z2.mk A40
  clear A40
  replace H := Option.bind_eq_some_iff.mp H
  obtain ⟨t510, A50, H⟩ := H
  replace H : ((qn.f k t510).bind fun bt513 => ((qe.f k bt513.1 bt513.2.1 bt513.2.2.1 bt513.2.2.2.1 bt513.2.2.2.2 t502 t503 t504 t505 t508).bind fun t521 => (if t521 = true then ((zk.f k l0).bind fun t522 => ((qt.f k t510 t522).bind fun t525 => (if t525 = true then ((ym.f k t510 1).bind fun bt526 => (if bt526.1 < 0 then (zc.j0 k l0 true t502 t503 t504 t505 t508 bt513.1 bt513.2.1 bt513.2.2.1 bt513.2.2.2.1 bt513.2.2.2.2) else ((qe.f k bt513.1 bt513.2.1 bt513.2.2.1 bt513.2.2.2.1 bt513.2.2.2.2 t502 t503 t504 t505 t508).bind fun t528 => (zc.j0 k l0 (!t528) t502 t503 t504 t505 t508 bt513.1 bt513.2.1 bt513.2.2.1 bt513.2.2.2.1 bt513.2.2.2.2)))) else (none)))) else (none)))) = some r := H
  have A5 := z2.mk A50
  clear A50
  replace H := Option.bind_eq_some_iff.mp H
  obtain ⟨⟨t513, t514, t515, t516, t519⟩, A60, H⟩ := H
  replace H : ((qe.f k t513 t514 t515 t516 t519 t502 t503 t504 t505 t508).bind fun t521 => (if t521 = true then ((zk.f k l0).bind fun t522 => ((qt.f k t510 t522).bind fun t525 => (if t525 = true then ((ym.f k t510 1).bind fun bt526 => (if bt526.1 < 0 then (zc.j0 k l0 true t502 t503 t504 t505 t508 t513 t514 t515 t516 t519) else ((qe.f k t513 t514 t515 t516 t519 t502 t503 t504 t505 t508).bind fun t528 => (zc.j0 k l0 (!t528) t502 t503 t504 t505 t508 t513 t514 t515 t516 t519)))) else (none)))) else (none))) = some r := H
  have A6 := z2.mk A60
  clear A60
  replace H := Option.bind_eq_some_iff.mp H
  obtain ⟨t521, A70, H⟩ := H
  replace H : (if t521 = true then ((zk.f k l0).bind fun t522 => ((qt.f k t510 t522).bind fun t525 => (if t525 = true then ((ym.f k t510 1).bind fun bt526 => (if bt526.1 < 0 then (zc.j0 k l0 true t502 t503 t504 t505 t508 t513 t514 t515 t516 t519) else ((qe.f k t513 t514 t515 t516 t519 t502 t503 t504 t505 t508).bind fun t528 => (zc.j0 k l0 (!t528) t502 t503 t504 t505 t508 t513 t514 t515 t516 t519)))) else (none)))) else (none)) = some r := H
  have A7 := z2.mk A70
  clear A70
  by_cases c8 : t521 = true
  ·subst c8
   have H1 : ((zk.f k l0).bind fun t522 => ((qt.f k t510 t522).bind fun t525 => (if t525 = true then ((ym.f k t510 1).bind fun bt526 => (if bt526.1 < 0 then (zc.j0 k l0 true t502 t503 t504 t505 t508 t513 t514 t515 t516 t519) else ((qe.f k t513 t514 t515 t516 t519 t502 t503 t504 t505 t508).bind fun t528 => (zc.j0 k l0 (!t528) t502 t503 t504 t505 t508 t513 t514 t515 t516 t519)))) else (none)))) = some r := by rw [if_pos rfl] at H; exact H
   clear H
   have H := H1
   clear H1
   replace H := Option.bind_eq_some_iff.mp H
   obtain ⟨t522, A90, H⟩ := H
   replace H : ((qt.f k t510 t522).bind fun t525 => (if t525 = true then ((ym.f k t510 1).bind fun bt526 => (if bt526.1 < 0 then (zc.j0 k l0 true t502 t503 t504 t505 t508 t513 t514 t515 t516 t519) else ((qe.f k t513 t514 t515 t516 t519 t502 t503 t504 t505 t508).bind fun t528 => (zc.j0 k l0 (!t528) t502 t503 t504 t505 t508 t513 t514 t515 t516 t519)))) else (none))) = some r := H
   have A9 := z2.mk A90
   clear A90
   replace H := Option.bind_eq_some_iff.mp H
   obtain ⟨t525, A100, H⟩ := H
   replace H : (if t525 = true then ((ym.f k t510 1).bind fun bt526 => (if bt526.1 < 0 then (zc.j0 k l0 true t502 t503 t504 t505 t508 t513 t514 t515 t516 t519) else ((qe.f k t513 t514 t515 t516 t519 t502 t503 t504 t505 t508).bind fun t528 => (zc.j0 k l0 (!t528) t502 t503 t504 t505 t508 t513 t514 t515 t516 t519)))) else (none)) = some r := H
   have A10 := z2.mk A100
   clear A100
   by_cases c11 : t525 = true
   ·subst c11
    have H1 : ((ym.f k t510 1).bind fun bt526 => (if bt526.1 < 0 then (zc.j0 k l0 true t502 t503 t504 t505 t508 t513 t514 t515 t516 t519) else ((qe.f k t513 t514 t515 t516 t519 t502 t503 t504 t505 t508).bind fun t528 => (zc.j0 k l0 (!t528) t502 t503 t504 t505 t508 t513 t514 t515 t516 t519)))) = some r := by rw [if_pos rfl] at H; exact H
    clear H
    have H := H1
    clear H1
    replace H := Option.bind_eq_some_iff.mp H
    obtain ⟨⟨t526, t527⟩, A120, H⟩ := H
    replace H : (if t526 < 0 then (zc.j0 k l0 true t502 t503 t504 t505 t508 t513 t514 t515 t516 t519) else ((qe.f k t513 t514 t515 t516 t519 t502 t503 t504 t505 t508).bind fun t528 => (zc.j0 k l0 (!t528) t502 t503 t504 t505 t508 t513 t514 t515 t516 t519))) = some r := H
    have A12 := z2.mk A120
    clear A120
    have HC13 := z2.mk H
    clear H
    go_enter Try.func5, Try.ntmps5
    go_upto_region 12 with (first | ((with_reducible refine qb (f := 20) rfl ?_); refine zm (some 14) rfl rfl Try.func20 (by kernel_rfl) rfl #[.slice A0 l0.length c0] rfl (by (try simp only [List.map_toArray, List.map_cons, List.map_nil]); first | done | rfl | (simp only [List.length_drop, List.length_take]; rfl)) ?_; (with_reducible refine (zk.calls k _ _ l0 t499 _ ?side1 ?side2 A3.out).mono ?_); (case side1 => repeat (first | exact HR0.out | (with_reducible refine Kd.yi ?_ _) | (with_reducible refine Kd.qi ?_ _) | (with_reducible refine Kd.C_drew ?_))); (case side2 => exact HC0.out); rintro e w14 ⟨v500, rfl, ho0, hb⟩; refine ⟨_, rfl, ?_⟩; have n0_ := z2.mk (Kd.yr ho0 (z8 (by repeat (first | (with_reducible first | exact HB.out | apply z4 | apply z1 | apply z3) | exact HB.out)))); have n1_ := z2.mk (y8 (by repeat (first | (with_reducible first | exact HB.out | apply z4 | apply z1 | apply z3) | exact HB.out)) hb); clear HB; have HO501 := n0_; have HB := n1_; clear n0_ n1_; (try clear hb); (try clear hb2); (try clear hk); (try clear hi); (try clear ho0); obtain ⟨Ao15, co15, eo15⟩ := Kd.zt HO501.out; subst eo15) | ((with_reducible refine qb (f := 19) rfl ?_); refine zm (some 15) rfl rfl Try.func19 (by kernel_rfl) rfl #[.slice Ao15 t499.length co15] rfl (by (try simp only [List.map_toArray, List.map_cons, List.map_nil]); first | done | rfl | (simp only [List.length_drop, List.length_take]; rfl)) ?_; (with_reducible refine (zz.calls k _ _ t499 t502 t503 t504 t505 t508 _ ?side1 ?side2 A4.out).mono ?_); (case side1 => repeat (first | exact (Kd.qd HO501.out).2.2 | (with_reducible refine Kd.yi ?_ _) | (with_reducible refine Kd.qi ?_ _) | (with_reducible refine Kd.C_drew ?_))); (case side2 => exact (Kd.qd HO501.out).2.1); rintro e w16 ⟨v506, rfl, ho0, hb⟩; refine ⟨_, rfl, ?_⟩; have n0_ := z2.mk (Kd.qf (by (with_reducible repeat (first | apply Kd.R_alloc | apply Kd.y9 | apply Kd.zb)); exact HO501.out) hb); have n1_ := z2.mk (Kd.yr ho0 (z8 (by repeat (first | (with_reducible first | exact HB.out | apply z4 | apply z1 | apply z3) | exact HB.out)))); have n2_ := z2.mk (y8 (by repeat (first | (with_reducible first | exact HB.out | apply z4 | apply z1 | apply z3) | exact HB.out)) hb); clear HO501 HB; have HO501 := n0_; have HO507 := n1_; have HB := n2_; clear n0_ n1_ n2_; (try clear hb); (try clear hb2); (try clear hk); (try clear hi); (try clear ho0)) | ((with_reducible refine ye (N := 3) rfl ?_); refine ze ?hg (N := 3) ?hd (cs := #[.int .i64 0, .bool false, .int .i64 0, .slice none 0 0, .int .i64 0]) (t := 45) ?hr ?_; (case hd => rfl); (case hg => rfl); (case hr => first | (go_simp; done) | (go_simp; rfl)); intro gb509 hg w17 hbox hb; have n0_ := z2.mk (Kd.qf (by (with_reducible repeat (first | apply Kd.R_alloc | apply Kd.y9 | apply Kd.zb)); exact HO501.out) hb); have n1_ := z2.mk (Kd.qf (by (with_reducible repeat (first | apply Kd.R_alloc | apply Kd.y9 | apply Kd.zb)); exact HO507.out) hb); have n2_ := z2.mk (y8 (by repeat (first | (with_reducible first | exact HB.out | apply z4 | apply z1 | apply z3) | exact HB.out)) hb); have n3_ := z2.mk (hbox); have n4_ := z2.mk ((by rw [hg]; exact (z8 (by repeat (first | (with_reducible first | exact HB.out | apply z4 | apply z1 | apply z3) | exact HB.out))) : w.heap.size ≤ gb509)); have n5_ := z2.mk ((by rw [hg]; exact (z8 (by repeat (first | (with_reducible first | exact HB.out | apply z4 | apply z1 | apply z3) | exact HB.out))) : w.heap.size ≤ gb509)); clear HO501 HO507 HB; have HO501 := n0_; have HO507 := n1_; have HB := n2_; have BK509 := n3_; have GW509 := n4_; have GE509 := n5_; clear n0_ n1_ n2_ n3_ n4_ n5_ hb hbox hg; have hcz18_0 : w17.cell? ⟨gb509, 0, none⟩ = some (.int .i64 0) := (z6 BK509.out 0).trans rfl; have hcz18_1 : w17.cell? ⟨gb509, 1, none⟩ = some (.bool false) := (z6 BK509.out 1).trans rfl; have hcz18_2 : w17.cell? ⟨gb509, 2, none⟩ = some (.int .i64 0) := (z6 BK509.out 2).trans rfl; have hcz18_3 : w17.cell? ⟨gb509, 3, none⟩ = some (.slice none 0 0) := (z6 BK509.out 3).trans rfl; have hcz18_4 : w17.cell? ⟨gb509, 4, none⟩ = some (.int .i64 0) := (z6 BK509.out 4).trans rfl; have hfz18_0 := y5 BK509.out 0; have hfz18_1 := y5 BK509.out 1; have hfz18_2 := y5 BK509.out 2; have hfz18_3 := y5 BK509.out 3; have hfz18_4 := y5 BK509.out 4; obtain ⟨Ao19, co19, eo19⟩ := Kd.zt HO507.out; subst eo19) | ((with_reducible refine qb (f := 20) rfl ?_); refine zm (some 17) rfl rfl Try.func20 (by kernel_rfl) rfl #[.slice A0 l0.length c0] rfl (by (try simp only [List.map_toArray, List.map_cons, List.map_nil]); first | done | rfl | (simp only [List.length_drop, List.length_take]; rfl)) ?_; (with_reducible refine (zk.calls k _ _ l0 t510 _ ?side1 ?side2 A5.out).mono ?_); (case side1 => exact Kd.yp HR0.out (by repeat (first | (with_reducible first | exact HB.out | apply z4 | apply z1 | apply z3 | refine z7 ?_ GE509.out) | exact HB.out))); (case side2 => exact HC0.out); rintro e w20 ⟨v511, rfl, ho0, hb⟩; refine ⟨_, rfl, ?_⟩; have n0_ := z2.mk (Kd.qu (by (with_reducible repeat (first | apply Kd.R_alloc | apply Kd.y9 | apply Kd.zb)); exact (Kd.yk (Kd.zf (p := ⟨gb509, 4, none⟩) (Kd.zf (p := ⟨gb509, 3, none⟩) (Kd.zf (p := ⟨gb509, 2, none⟩) (Kd.zf (p := ⟨gb509, 1, none⟩) (Kd.zf (p := ⟨gb509, 0, none⟩) (Kd.qp HO501.out BK509.out (by decide)) (fun _ hk => hk.2) (.int .i64 t502)) (fun _ hk => hk.2) (.bool t503)) (fun _ hk => hk.2) (.int .i64 t504)) (fun _ hk => hk.2) (.slice Ao19 t505.length co19)) (fun _ hk => hk.2) (.int .i64 t508)) (fun _ h_ => h_.1))) (Kd.z00 ho0) hb); have n1_ := z2.mk (Kd.qf (by (with_reducible repeat (first | apply Kd.R_alloc | apply Kd.y9 | apply Kd.zb)); exact (Kd.yk (Kd.zf (p := ⟨gb509, 4, none⟩) (Kd.zf (p := ⟨gb509, 3, none⟩) (Kd.zf (p := ⟨gb509, 2, none⟩) (Kd.zf (p := ⟨gb509, 1, none⟩) (Kd.zf (p := ⟨gb509, 0, none⟩) (Kd.qp HO507.out BK509.out (by decide)) (fun _ hk => hk.2) (.int .i64 t502)) (fun _ hk => hk.2) (.bool t503)) (fun _ hk => hk.2) (.int .i64 t504)) (fun _ hk => hk.2) (.slice Ao19 t505.length co19)) (fun _ hk => hk.2) (.int .i64 t508)) (fun _ h_ => h_.1))) hb); have n2_ := z2.mk (Kd.yr (Kd.y00 ho0 (Kd.q0e (by (with_reducible repeat (first | apply Kd.R_alloc | apply Kd.y9 | apply Kd.zb)); exact (Kd.yk (Kd.zf (p := ⟨gb509, 4, none⟩) (Kd.zf (p := ⟨gb509, 3, none⟩) (Kd.zf (p := ⟨gb509, 2, none⟩) (Kd.zf (p := ⟨gb509, 1, none⟩) (Kd.zf (p := ⟨gb509, 0, none⟩) (Kd.qp HO501.out BK509.out (by decide)) (fun _ hk => hk.2) (.int .i64 t502)) (fun _ hk => hk.2) (.bool t503)) (fun _ hk => hk.2) (.int .i64 t504)) (fun _ hk => hk.2) (.slice Ao19 t505.length co19)) (fun _ hk => hk.2) (.int .i64 t508)) (fun _ h_ => h_.1))))) (z8 (by repeat (first | (with_reducible first | exact HB.out | apply z4 | apply z1 | apply z3 | refine z7 ?_ GE509.out) | exact HB.out)))); have n3_ := z2.mk (z9 (g := gb509) (o := .cells #[.int .i64 t502, .bool t503, .int .i64 t504, .slice Ao19 t505.length co19, .int .i64 t508] 45 (0, 0)) (by (with_reducible repeat (first | refine z5 ?_ _ | refine y6 ?_ | refine y4 ?_ _)); refine qc (cs := #[.int .i64 t502, .bool t503, .int .i64 t504, .slice Ao19 t505.length co19, .int .i64 0]) ?_ 4 _ rfl; (with_reducible repeat (first | refine z5 ?_ _ | refine y6 ?_ | refine y4 ?_ _)); refine qc (cs := #[.int .i64 t502, .bool t503, .int .i64 t504, .slice none 0 0, .int .i64 0]) ?_ 3 _ rfl; (with_reducible repeat (first | refine z5 ?_ _ | refine y6 ?_ | refine y4 ?_ _)); refine qc (cs := #[.int .i64 t502, .bool t503, .int .i64 0, .slice none 0 0, .int .i64 0]) ?_ 2 _ rfl; (with_reducible repeat (first | refine z5 ?_ _ | refine y6 ?_ | refine y4 ?_ _)); refine qc (cs := #[.int .i64 t502, .bool false, .int .i64 0, .slice none 0 0, .int .i64 0]) ?_ 1 _ rfl; (with_reducible repeat (first | refine z5 ?_ _ | refine y6 ?_ | refine y4 ?_ _)); refine qc (cs := #[.int .i64 0, .bool false, .int .i64 0, .slice none 0 0, .int .i64 0]) ?_ 0 _ rfl; (with_reducible repeat (first | refine z5 ?_ _ | refine y6 ?_ | refine y4 ?_ _)); exact BK509.out) hb); have n4_ := z2.mk (y8 (by repeat (first | (with_reducible first | exact HB.out | apply z4 | apply z1 | apply z3 | refine z7 ?_ GE509.out) | exact HB.out)) hb); clear HO501 HO507 BK509 HB; have HO501 := n0_; have HO507 := n1_; have HO512 := n2_; have BK509 := n3_; have HB := n4_; clear n0_ n1_ n2_ n3_ n4_; (try clear hb); (try clear hb2); (try clear hk); (try clear hi); (try clear ho0); obtain ⟨Ao21, co21, eo21⟩ := Kd.zt HO512.out; subst eo21) | ((with_reducible refine qb (f := 21) rfl ?_); refine zm (some 19) rfl rfl Try.func21 (by kernel_rfl) rfl #[.slice Ao21 t510.length co21] rfl (by (try simp only [List.map_toArray, List.map_cons, List.map_nil]); first | done | rfl | (simp only [List.length_drop, List.length_take]; rfl)) ?_; (with_reducible refine (qn.calls k _ _ t510 t513 t514 t515 t516 t519 _ ?side1 ?side2 A6.out).mono ?_); (case side1 => repeat (first | exact (Kd.qd HO512.out).2.2 | (with_reducible refine Kd.yi ?_ _) | (with_reducible refine Kd.qi ?_ _) | (with_reducible refine Kd.C_drew ?_))); (case side2 => exact (Kd.qd HO512.out).2.1); rintro e w22 ⟨v517, rfl, ho0, hb⟩; refine ⟨_, rfl, ?_⟩; have n0_ := z2.mk (Kd.qf (by (with_reducible repeat (first | apply Kd.R_alloc | apply Kd.y9 | apply Kd.zb)); exact HO501.out) hb); have n1_ := z2.mk (Kd.qu (by (with_reducible repeat (first | apply Kd.R_alloc | apply Kd.y9 | apply Kd.zb)); exact HO507.out) (Kd.z00 ho0) hb); have n2_ := z2.mk (Kd.qf (by (with_reducible repeat (first | apply Kd.R_alloc | apply Kd.y9 | apply Kd.zb)); exact HO512.out) hb); have n3_ := z2.mk (Kd.yr (Kd.y00 ho0 (Kd.q0e (by (with_reducible repeat (first | apply Kd.R_alloc | apply Kd.y9 | apply Kd.zb)); exact HO507.out))) (z8 (by repeat (first | (with_reducible first | exact HB.out | apply z4 | apply z1 | apply z3 | refine z7 ?_ GE509.out) | exact HB.out)))); have n4_ := z2.mk (z9 (g := gb509) (o := .cells #[.int .i64 t502, .bool t503, .int .i64 t504, .slice Ao19 t505.length co19, .int .i64 t508] 45 (0, 0)) (by (with_reducible repeat (first | refine z5 ?_ _ | refine y6 ?_ | refine y4 ?_ _)); exact BK509.out) hb); have n5_ := z2.mk (y8 (by repeat (first | (with_reducible first | exact HB.out | apply z4 | apply z1 | apply z3 | refine z7 ?_ GE509.out) | exact HB.out)) hb); clear HO501 HO507 HO512 BK509 HB; have HO501 := n0_; have HO507 := n1_; have HO512 := n2_; have HO518 := n3_; have BK509 := n4_; have HB := n5_; clear n0_ n1_ n2_ n3_ n4_ n5_; (try clear hb); (try clear hb2); (try clear hk); (try clear hi); (try clear ho0)) | ((with_reducible refine ye (N := 5) rfl ?_); refine ze ?hg (N := 5) ?hd (cs := #[.int .i64 0, .bool false, .int .i64 0, .slice none 0 0, .int .i64 0]) (t := 45) ?hr ?_; (case hd => rfl); (case hg => rfl); (case hr => first | (go_simp; done) | (go_simp; rfl)); intro gb520 hg w23 hbox hb; have n0_ := z2.mk (Kd.qf (by (with_reducible repeat (first | apply Kd.R_alloc | apply Kd.y9 | apply Kd.zb)); exact HO501.out) hb); have n1_ := z2.mk (Kd.qf (by (with_reducible repeat (first | apply Kd.R_alloc | apply Kd.y9 | apply Kd.zb)); exact HO507.out) hb); have n2_ := z2.mk (Kd.qf (by (with_reducible repeat (first | apply Kd.R_alloc | apply Kd.y9 | apply Kd.zb)); exact HO512.out) hb); have n3_ := z2.mk (Kd.qf (by (with_reducible repeat (first | apply Kd.R_alloc | apply Kd.y9 | apply Kd.zb)); exact HO518.out) hb); have n4_ := z2.mk (z9 (g := gb509) (o := .cells #[.int .i64 t502, .bool t503, .int .i64 t504, .slice Ao19 t505.length co19, .int .i64 t508] 45 (0, 0)) (by (with_reducible repeat (first | refine z5 ?_ _ | refine y6 ?_ | refine y4 ?_ _)); exact BK509.out) hb); have n5_ := z2.mk (y8 (by repeat (first | (with_reducible first | exact HB.out | apply z4 | apply z1 | apply z3 | refine z7 ?_ GE509.out) | exact HB.out)) hb); have n6_ := z2.mk (hbox); have n7_ := z2.mk ((by rw [hg]; exact (z8 (by repeat (first | (with_reducible first | exact HB.out | apply z4 | apply z1 | apply z3 | refine z7 ?_ GE509.out) | exact HB.out))) : w.heap.size ≤ gb520)); have n8_ := z2.mk ((by rw [hg]; exact (z8 (by repeat (first | (with_reducible first | exact HB.out | apply z4 | apply z1 | apply z3 | refine z7 ?_ GE509.out) | exact HB.out))) : w.heap.size ≤ gb520)); have n9_ := z2.mk ((by rw [hg]; exact Nat.ne_of_lt (qk (g := gb509) (o := .cells #[.int .i64 t502, .bool t503, .int .i64 t504, .slice Ao19 t505.length co19, .int .i64 t508] 45 (0, 0)) (by (with_reducible repeat (first | refine z5 ?_ _ | refine y6 ?_ | refine y4 ?_ _)); exact BK509.out)) : gb509 ≠ gb520)); have n10_ := z2.mk ((by rw [hg]; exact Nat.ne_of_gt (qk (g := gb509) (o := .cells #[.int .i64 t502, .bool t503, .int .i64 t504, .slice Ao19 t505.length co19, .int .i64 t508] 45 (0, 0)) (by (with_reducible repeat (first | refine z5 ?_ _ | refine y6 ?_ | refine y4 ?_ _)); exact BK509.out)) : gb520 ≠ gb509)); clear HO501 HO507 HO512 HO518 BK509 HB; have HO501 := n0_; have HO507 := n1_; have HO512 := n2_; have HO518 := n3_; have BK509 := n4_; have HB := n5_; have BK520 := n6_; have GW520 := n7_; have GE520 := n8_; have NB509_520 := n9_; have NB520_509 := n10_; clear n0_ n1_ n2_ n3_ n4_ n5_ n6_ n7_ n8_ n9_ n10_ hb hbox hg; have hnb24 := NB520_509.out; have hnc24 := NB509_520.out; have hcz25_0 : w23.cell? ⟨gb520, 0, none⟩ = some (.int .i64 0) := (z6 BK520.out 0).trans rfl; have hcz25_1 : w23.cell? ⟨gb520, 1, none⟩ = some (.bool false) := (z6 BK520.out 1).trans rfl; have hcz25_2 : w23.cell? ⟨gb520, 2, none⟩ = some (.int .i64 0) := (z6 BK520.out 2).trans rfl; have hcz25_3 : w23.cell? ⟨gb520, 3, none⟩ = some (.slice none 0 0) := (z6 BK520.out 3).trans rfl; have hcz25_4 : w23.cell? ⟨gb520, 4, none⟩ = some (.int .i64 0) := (z6 BK520.out 4).trans rfl; have hfz25_0 := y5 BK520.out 0; have hfz25_1 := y5 BK520.out 1; have hfz25_2 := y5 BK520.out 2; have hfz25_3 := y5 BK520.out 3; have hfz25_4 := y5 BK520.out 4; obtain ⟨Ao26, co26, eo26⟩ := Kd.zt HO518.out; subst eo26; have hcz27_0 : w23.cell? ⟨gb509, 0, none⟩ = some (.int .i64 t502) := (z6 BK509.out 0).trans rfl; have hcz27_1 : w23.cell? ⟨gb509, 1, none⟩ = some (.bool t503) := (z6 BK509.out 1).trans rfl; have hcz27_2 : w23.cell? ⟨gb509, 2, none⟩ = some (.int .i64 t504) := (z6 BK509.out 2).trans rfl; have hcz27_3 : w23.cell? ⟨gb509, 3, none⟩ = some (.slice Ao19 t505.length co19) := (z6 BK509.out 3).trans rfl; have hcz27_4 : w23.cell? ⟨gb509, 4, none⟩ = some (.int .i64 t508) := (z6 BK509.out 4).trans rfl; have hfz27_0 := y5 BK509.out 0; have hfz27_1 := y5 BK509.out 1; have hfz27_2 := y5 BK509.out 2; have hfz27_3 := y5 BK509.out 3; have hfz27_4 := y5 BK509.out 4) | ((with_reducible refine qb (f := 22) rfl ?_); refine zm (some 22) rfl rfl Try.func22 (by kernel_rfl) rfl #[.agg #[.int .i64 t513, .bool t514, .int .i64 t515, .slice Ao26 t516.length co26, .int .i64 t519], .agg #[.int .i64 t502, .bool t503, .int .i64 t504, .slice Ao19 t505.length co19, .int .i64 t508]] rfl (by (try simp only [List.map_toArray, List.map_cons, List.map_nil]); first | done | rfl | (simp only [List.length_drop, List.length_take]; rfl)) ?_; (with_reducible refine (qe.calls k t513 t514 t515 _ _ t516 t519 t502 t503 t504 _ _ t505 t508 true _ ?side1 ?side2 ?side3 ?side4 A7.out).mono ?_); (case side1 => refine (Kd.qd (e := 138) (base := w.heap.size) (ok := fun k_ => (True ∧ some k_ ≠ (.slice Ao19 t505.length co19 : Value).ownBlock)) (n := t516.length) (c := co26) ?_).2.2; exact (by (with_reducible repeat (first | apply Kd.R_alloc | apply Kd.y9 | apply Kd.zb)); exact (Kd.yk (Kd.zf (p := ⟨gb520, 4, none⟩) (Kd.zf (p := ⟨gb520, 3, none⟩) (Kd.zf (p := ⟨gb520, 2, none⟩) (Kd.zf (p := ⟨gb520, 1, none⟩) (Kd.zf (p := ⟨gb520, 0, none⟩) (Kd.qp HO518.out BK520.out (by decide)) (fun _ hk => hk.2) (.int .i64 t513)) (fun _ hk => hk.2) (.bool t514)) (fun _ hk => hk.2) (.int .i64 t515)) (fun _ hk => hk.2) (.slice Ao26 t516.length co26)) (fun _ hk => hk.2) (.int .i64 t519)) (fun _ h_ => h_.1)))); (case side2 => exact (Kd.qd HO518.out).2.1); (case side3 => refine (Kd.qd (e := 138) (base := w.heap.size) (ok := fun k_ => (True ∧ some k_ ≠ (.slice Ao26 t516.length co26 : Value).ownBlock)) (n := t505.length) (c := co19) ?_).2.2; exact (by (with_reducible repeat (first | apply Kd.R_alloc | apply Kd.y9 | apply Kd.zb)); exact (Kd.yk (Kd.zf (p := ⟨gb520, 4, none⟩) (Kd.zf (p := ⟨gb520, 3, none⟩) (Kd.zf (p := ⟨gb520, 2, none⟩) (Kd.zf (p := ⟨gb520, 1, none⟩) (Kd.zf (p := ⟨gb520, 0, none⟩) (Kd.qp HO507.out BK520.out (by decide)) (fun _ hk => hk.2) (.int .i64 t513)) (fun _ hk => hk.2) (.bool t514)) (fun _ hk => hk.2) (.int .i64 t515)) (fun _ hk => hk.2) (.slice Ao26 t516.length co26)) (fun _ hk => hk.2) (.int .i64 t519)) (fun _ h_ => h_.1)))); (case side4 => exact (Kd.qd HO507.out).2.1); rintro e w28 ⟨rfl, hb⟩; refine ⟨_, rfl, ?_⟩; have n0_ := z2.mk (Kd.qf (by (with_reducible repeat (first | apply Kd.R_alloc | apply Kd.y9 | apply Kd.zb)); exact (Kd.yk (Kd.zf (p := ⟨gb520, 4, none⟩) (Kd.zf (p := ⟨gb520, 3, none⟩) (Kd.zf (p := ⟨gb520, 2, none⟩) (Kd.zf (p := ⟨gb520, 1, none⟩) (Kd.zf (p := ⟨gb520, 0, none⟩) (Kd.qp HO501.out BK520.out (by decide)) (fun _ hk => hk.2) (.int .i64 t513)) (fun _ hk => hk.2) (.bool t514)) (fun _ hk => hk.2) (.int .i64 t515)) (fun _ hk => hk.2) (.slice Ao26 t516.length co26)) (fun _ hk => hk.2) (.int .i64 t519)) (fun _ h_ => h_.1))) hb); have n1_ := z2.mk (Kd.qf (by (with_reducible repeat (first | apply Kd.R_alloc | apply Kd.y9 | apply Kd.zb)); exact (Kd.yk (Kd.zf (p := ⟨gb520, 4, none⟩) (Kd.zf (p := ⟨gb520, 3, none⟩) (Kd.zf (p := ⟨gb520, 2, none⟩) (Kd.zf (p := ⟨gb520, 1, none⟩) (Kd.zf (p := ⟨gb520, 0, none⟩) (Kd.qp HO507.out BK520.out (by decide)) (fun _ hk => hk.2) (.int .i64 t513)) (fun _ hk => hk.2) (.bool t514)) (fun _ hk => hk.2) (.int .i64 t515)) (fun _ hk => hk.2) (.slice Ao26 t516.length co26)) (fun _ hk => hk.2) (.int .i64 t519)) (fun _ h_ => h_.1))) hb); have n2_ := z2.mk (Kd.qf (by (with_reducible repeat (first | apply Kd.R_alloc | apply Kd.y9 | apply Kd.zb)); exact (Kd.yk (Kd.zf (p := ⟨gb520, 4, none⟩) (Kd.zf (p := ⟨gb520, 3, none⟩) (Kd.zf (p := ⟨gb520, 2, none⟩) (Kd.zf (p := ⟨gb520, 1, none⟩) (Kd.zf (p := ⟨gb520, 0, none⟩) (Kd.qp HO512.out BK520.out (by decide)) (fun _ hk => hk.2) (.int .i64 t513)) (fun _ hk => hk.2) (.bool t514)) (fun _ hk => hk.2) (.int .i64 t515)) (fun _ hk => hk.2) (.slice Ao26 t516.length co26)) (fun _ hk => hk.2) (.int .i64 t519)) (fun _ h_ => h_.1))) hb); have n3_ := z2.mk (Kd.qf (by (with_reducible repeat (first | apply Kd.R_alloc | apply Kd.y9 | apply Kd.zb)); exact (Kd.yk (Kd.zf (p := ⟨gb520, 4, none⟩) (Kd.zf (p := ⟨gb520, 3, none⟩) (Kd.zf (p := ⟨gb520, 2, none⟩) (Kd.zf (p := ⟨gb520, 1, none⟩) (Kd.zf (p := ⟨gb520, 0, none⟩) (Kd.qp HO518.out BK520.out (by decide)) (fun _ hk => hk.2) (.int .i64 t513)) (fun _ hk => hk.2) (.bool t514)) (fun _ hk => hk.2) (.int .i64 t515)) (fun _ hk => hk.2) (.slice Ao26 t516.length co26)) (fun _ hk => hk.2) (.int .i64 t519)) (fun _ h_ => h_.1))) hb); have n4_ := z2.mk (z9 (g := gb509) (o := .cells #[.int .i64 t502, .bool t503, .int .i64 t504, .slice Ao19 t505.length co19, .int .i64 t508] 45 (0, 0)) (by (with_reducible repeat (first | refine z5 ?_ _ | refine y6 ?_ | refine y4 ?_ _)); refine zd ?_ NB509_520.out _; (with_reducible repeat (first | refine z5 ?_ _ | refine y6 ?_ | refine y4 ?_ _)); refine zd ?_ NB509_520.out _; (with_reducible repeat (first | refine z5 ?_ _ | refine y6 ?_ | refine y4 ?_ _)); refine zd ?_ NB509_520.out _; (with_reducible repeat (first | refine z5 ?_ _ | refine y6 ?_ | refine y4 ?_ _)); refine zd ?_ NB509_520.out _; (with_reducible repeat (first | refine z5 ?_ _ | refine y6 ?_ | refine y4 ?_ _)); refine zd ?_ NB509_520.out _; (with_reducible repeat (first | refine z5 ?_ _ | refine y6 ?_ | refine y4 ?_ _)); exact BK509.out) hb); have n5_ := z2.mk (z9 (g := gb520) (o := .cells #[.int .i64 t513, .bool t514, .int .i64 t515, .slice Ao26 t516.length co26, .int .i64 t519] 45 (0, 0)) (by (with_reducible repeat (first | refine z5 ?_ _ | refine y6 ?_ | refine y4 ?_ _)); refine qc (cs := #[.int .i64 t513, .bool t514, .int .i64 t515, .slice Ao26 t516.length co26, .int .i64 0]) ?_ 4 _ rfl; (with_reducible repeat (first | refine z5 ?_ _ | refine y6 ?_ | refine y4 ?_ _)); refine qc (cs := #[.int .i64 t513, .bool t514, .int .i64 t515, .slice none 0 0, .int .i64 0]) ?_ 3 _ rfl; (with_reducible repeat (first | refine z5 ?_ _ | refine y6 ?_ | refine y4 ?_ _)); refine qc (cs := #[.int .i64 t513, .bool t514, .int .i64 0, .slice none 0 0, .int .i64 0]) ?_ 2 _ rfl; (with_reducible repeat (first | refine z5 ?_ _ | refine y6 ?_ | refine y4 ?_ _)); refine qc (cs := #[.int .i64 t513, .bool false, .int .i64 0, .slice none 0 0, .int .i64 0]) ?_ 1 _ rfl; (with_reducible repeat (first | refine z5 ?_ _ | refine y6 ?_ | refine y4 ?_ _)); refine qc (cs := #[.int .i64 0, .bool false, .int .i64 0, .slice none 0 0, .int .i64 0]) ?_ 0 _ rfl; (with_reducible repeat (first | refine z5 ?_ _ | refine y6 ?_ | refine y4 ?_ _)); exact BK520.out) hb); have n6_ := z2.mk (y8 (by repeat (first | (with_reducible first | exact HB.out | apply z4 | apply z1 | apply z3 | refine z7 ?_ GE509.out | refine z7 ?_ GE520.out) | exact HB.out)) hb); clear HO501 HO507 HO512 HO518 BK509 BK520 HB; have HO501 := n0_; have HO507 := n1_; have HO512 := n2_; have HO518 := n3_; have BK509 := n4_; have BK520 := n5_; have HB := n6_; clear n0_ n1_ n2_ n3_ n4_ n5_ n6_; (try clear hb); (try clear hb2); (try clear hk); (try clear hi)) | ((with_reducible refine qb (f := 20) rfl ?_); refine zm (some 26) rfl rfl Try.func20 (by kernel_rfl) rfl #[.slice A0 l0.length c0] rfl (by (try simp only [List.map_toArray, List.map_cons, List.map_nil]); first | done | rfl | (simp only [List.length_drop, List.length_take]; rfl)) ?_; (with_reducible refine (zk.calls k _ _ l0 t522 _ ?side1 ?side2 A9.out).mono ?_); (case side1 => repeat (first | exact (Kd.yp HR0.out HB.out) | (with_reducible refine Kd.yi ?_ _) | (with_reducible refine Kd.qi ?_ _) | (with_reducible refine Kd.C_drew ?_))); (case side2 => exact HC0.out); rintro e w29 ⟨v523, rfl, ho0, hb⟩; refine ⟨_, rfl, ?_⟩; have n0_ := z2.mk (Kd.qu (by (with_reducible repeat (first | apply Kd.R_alloc | apply Kd.y9 | apply Kd.zb)); exact HO501.out) (Kd.z00 ho0) hb); have n1_ := z2.mk (Kd.qf (by (with_reducible repeat (first | apply Kd.R_alloc | apply Kd.y9 | apply Kd.zb)); exact HO507.out) hb); have n2_ := z2.mk (Kd.qu (by (with_reducible repeat (first | apply Kd.R_alloc | apply Kd.y9 | apply Kd.zb)); exact HO512.out) (Kd.z00 ho0) hb); have n3_ := z2.mk (Kd.qf (by (with_reducible repeat (first | apply Kd.R_alloc | apply Kd.y9 | apply Kd.zb)); exact HO518.out) hb); have n4_ := z2.mk (Kd.yr (Kd.y00 (Kd.y00 ho0 (Kd.q0e (by (with_reducible repeat (first | apply Kd.R_alloc | apply Kd.y9 | apply Kd.zb)); exact HO501.out))) (Kd.q0e (by (with_reducible repeat (first | apply Kd.R_alloc | apply Kd.y9 | apply Kd.zb)); exact HO512.out))) (z8 (by repeat (first | (with_reducible first | exact HB.out | apply z4 | apply z1 | apply z3 | refine z7 ?_ GE509.out | refine z7 ?_ GE520.out) | exact HB.out)))); have n5_ := z2.mk (z9 (g := gb509) (o := .cells #[.int .i64 t502, .bool t503, .int .i64 t504, .slice Ao19 t505.length co19, .int .i64 t508] 45 (0, 0)) (by (with_reducible repeat (first | refine z5 ?_ _ | refine y6 ?_ | refine y4 ?_ _)); exact BK509.out) hb); have n6_ := z2.mk (z9 (g := gb520) (o := .cells #[.int .i64 t513, .bool t514, .int .i64 t515, .slice Ao26 t516.length co26, .int .i64 t519] 45 (0, 0)) (by (with_reducible repeat (first | refine z5 ?_ _ | refine y6 ?_ | refine y4 ?_ _)); exact BK520.out) hb); have n7_ := z2.mk (y8 (by repeat (first | (with_reducible first | exact HB.out | apply z4 | apply z1 | apply z3 | refine z7 ?_ GE509.out | refine z7 ?_ GE520.out) | exact HB.out)) hb); clear HO501 HO507 HO512 HO518 BK509 BK520 HB; have HO501 := n0_; have HO507 := n1_; have HO512 := n2_; have HO518 := n3_; have HO524 := n4_; have BK509 := n5_; have BK520 := n6_; have HB := n7_; clear n0_ n1_ n2_ n3_ n4_ n5_ n6_ n7_; (try clear hb); (try clear hb2); (try clear hk); (try clear hi); (try clear ho0); obtain ⟨Ao30, co30, eo30⟩ := Kd.zt HO524.out; subst eo30) | ((with_reducible refine qb (f := 23) rfl ?_); refine zm (some 27) rfl rfl Try.func23 (by kernel_rfl) rfl #[.slice Ao21 t510.length co21, .slice Ao30 t522.length co30] rfl (by (try simp only [List.map_toArray, List.map_cons, List.map_nil]); first | done | rfl | (simp only [List.length_drop, List.length_take]; rfl)) ?_; (with_reducible refine (qt.calls k _ _ t510 _ _ t522 true _ ?side1 ?side2 ?side3 ?side4 A10.out).mono ?_); (case side1 => repeat (first | exact (Kd.qd HO512.out).2.2 | (with_reducible refine Kd.yi ?_ _) | (with_reducible refine Kd.qi ?_ _) | (with_reducible refine Kd.C_drew ?_))); (case side2 => exact (Kd.qd HO512.out).2.1); (case side3 => repeat (first | exact (Kd.qd HO524.out).2.2 | (with_reducible refine Kd.yi ?_ _) | (with_reducible refine Kd.qi ?_ _) | (with_reducible refine Kd.C_drew ?_))); (case side4 => exact (Kd.qd HO524.out).2.1); rintro e w' ⟨rfl, ⟨nd, rfl⟩⟩; refine ⟨_, rfl, ?_⟩) | ((with_reducible refine qb (f := 24) rfl ?_); refine zm (some 31) rfl rfl Try.func24 (by kernel_rfl) rfl #[.slice Ao21 t510.length co21, .int .i64 1] rfl (by (try simp only [List.map_toArray, List.map_cons, List.map_nil]); first | done | rfl | (simp only [List.length_drop, List.length_take]; rfl)) ?_; (with_reducible refine (ym.calls k (fun k_ => some k_ = (.slice Ao21 t510.length co21 : Value).ownBlock) (.slice Ao21 t510.length co21) t510 1 t526 t527 w _ ?side1 ?side2 A12.out).mono ?_); (case side1 => repeat (first | (with_reducible first | exact HB.out | apply z4 | apply z1 | apply z3 | refine z7 ?_ GE509.out | refine z7 ?_ GE520.out) | exact HB.out)); (case side2 => exact Kd.q0f rfl HO512.out); rintro e w31 ⟨rfl, hy0, hb, hkp⟩; refine ⟨_, rfl, ?_⟩; have n0_ := z2.mk (Kd.yk (ok' := fun k_ => some k_ ≠ (.slice Ao21 t510.length co21 : Value).ownBlock ∧ some k_ ≠ (.slice Ao30 t522.length co30 : Value).ownBlock) (Kd.q0h (HO501.out) hkp (fun k_ hk_ hs_ => (hk_.1.2) hs_)) (fun k_ hk_ => ⟨hk_.1.1.2, hk_.1.2⟩)); have n1_ := z2.mk (Kd.yk (ok' := fun k_ => some k_ ≠ (.slice Ao26 t516.length co26 : Value).ownBlock) (Kd.q0h ((Kd.y1m HO507.out (Kd.y1v HO512.out) (by decide))) hkp (fun k_ hk_ hs_ => (hk_.2) hs_)) (fun k_ hk_ => hk_.1.1.2)); have n2_ := z2.mk (q02 (by (with_reducible repeat (first | refine z5 ?_ _ | refine y6 ?_ | refine y4 ?_ _)); exact BK509.out) hkp (fun hs_ => (fun e_ => (Kd.y0k HO512.out BK509.out (by decide)) e_) hs_)); have n3_ := z2.mk (Kd.q0n rfl hy0 (fun k_ e_ => HO512.out.1 k_ e_)); have n4_ := z2.mk (Kd.yk (ok' := fun k_ => some k_ ≠ (.slice Ao19 t505.length co19 : Value).ownBlock) (Kd.q0h ((Kd.y1m HO518.out (Kd.y1v HO512.out) (by decide))) hkp (fun k_ hk_ hs_ => (hk_.2) hs_)) (fun k_ hk_ => hk_.1.1.2)); have n5_ := z2.mk (q02 (by (with_reducible repeat (first | refine z5 ?_ _ | refine y6 ?_ | refine y4 ?_ _)); exact BK520.out) hkp (fun hs_ => (fun e_ => (Kd.y0k HO512.out BK520.out (by decide)) e_) hs_)); have n6_ := z2.mk (Kd.yk (ok' := fun k_ => some k_ ≠ (.slice Ao15 t499.length co15 : Value).ownBlock ∧ some k_ ≠ (.slice Ao21 t510.length co21 : Value).ownBlock) (Kd.q0h (HO524.out) hkp (fun k_ hk_ hs_ => (hk_.2) hs_)) (fun k_ hk_ => ⟨hk_.1.1.2, hk_.1.2⟩)); have n7_ := z2.mk (hb); clear HO501 HO507 BK509 HO512 HO518 BK520 HO524 HB; have HO501 := n0_; have HO507 := n1_; have BK509 := n2_; have HO512 := n3_; have HO518 := n4_; have BK520 := n5_; have HO524 := n6_; have HB := n7_; clear n0_ n1_ n2_ n3_ n4_ n5_ n6_ n7_; (try clear hb); (try clear hkp); (try clear hy0)))
    (try simp only [Act.put, List.setIfInBounds_toArray, List.set_cons_zero, List.set_cons_succ])
    go_cut [39] (fun v39 wc => ∃ (kq : Nat) (x39_12 : Bool), v39 = .bool x39_12 ∧ z2 (zc.j0 kq l0 x39_12 t502 t503 t504 t505 t508 t513 t514 t515 t516 t519 = some r) ∧ z2 (kq ≤ k) ∧ z2 (Kd.R y08 138 wc w.heap.size (fun k_ => some k_ ≠ ((.slice Ao26 t516.length co26) : Value).ownBlock) (.slice Ao19 t505.length co19) t505) ∧ z2 (Kd.R y08 138 wc w.heap.size (fun k_ => some k_ ≠ ((.slice Ao19 t505.length co19) : Value).ownBlock) (.slice Ao26 t516.length co26) t516) ∧ z2 (wc.heap[gb509]? = some (.cells #[.int .i64 t502, .bool t503, .int .i64 t504, (.slice Ao19 t505.length co19), .int .i64 t508] 45 (0, 0))) ∧ z2 (wc.heap[gb520]? = some (.cells #[.int .i64 t513, .bool t514, .int .i64 t515, (.slice Ao26 t516.length co26), .int .i64 t519] 45 (0, 0))) ∧ z2 (Below w.heap.size w wc))
    case first =>
     have H := HC13.out
     clear HC13
     by_cases c32 : t526 < 0
     ·rw [if_pos c32] at H
      have c32b0 : decide (t526 < 0) = true := decide_eq_true c32
      clear c32
      (first | rw [c32b0] | (simp only [yg, qg]; rw [c32b0]) | skip)
      have H' := z2.mk H
      clear H
      go_wp2
      go_meet
      case rel => exact ⟨_, (true), (by first | rfl | (simp; done) | (simp [*]; done)), H', ⟨by first | omega | exact Nat.le_refl _⟩, ⟨by (with_reducible repeat (first | apply Kd.R_alloc | apply Kd.y9 | apply Kd.zb)); exact HO507.out⟩, ⟨by (with_reducible repeat (first | apply Kd.R_alloc | apply Kd.y9 | apply Kd.zb)); exact HO518.out⟩, ⟨by (with_reducible repeat (first | refine z5 ?_ _ | refine y6 ?_ | refine y4 ?_ _)); exact BK509.out⟩, ⟨by (with_reducible repeat (first | refine z5 ?_ _ | refine y6 ?_ | refine y4 ?_ _)); exact BK520.out⟩, ⟨by repeat (first | (with_reducible first | exact HB.out | apply z4 | apply z1 | apply z3 | refine z7 ?_ GE509.out | refine z7 ?_ GE520.out) | exact HB.out)⟩⟩
     ·rw [if_neg c32] at H
      have c32b0 : decide (t526 < 0) = false := decide_eq_false c32
      clear c32
      (first | rw [c32b0] | (simp only [yg, qg]; rw [c32b0]) | skip)
      replace H := Option.bind_eq_some_iff.mp H
      obtain ⟨t528, A330, H⟩ := H
      replace H : (zc.j0 k l0 (!t528) t502 t503 t504 t505 t508 t513 t514 t515 t516 t519) = some r := H
      have A33 := z2.mk A330
      clear A330
      have H' := z2.mk H
      clear H
      have hnb34 := NB520_509.out
      have hnc34 := NB509_520.out
      have hcz35_0 : w31.cell? ⟨gb520, 0, none⟩ = some (.int .i64 t513) := (z6 BK520.out 0).trans rfl
      have hcz35_1 : w31.cell? ⟨gb520, 1, none⟩ = some (.bool t514) := (z6 BK520.out 1).trans rfl
      have hcz35_2 : w31.cell? ⟨gb520, 2, none⟩ = some (.int .i64 t515) := (z6 BK520.out 2).trans rfl
      have hcz35_3 : w31.cell? ⟨gb520, 3, none⟩ = some (.slice Ao26 t516.length co26) := (z6 BK520.out 3).trans rfl
      have hcz35_4 : w31.cell? ⟨gb520, 4, none⟩ = some (.int .i64 t519) := (z6 BK520.out 4).trans rfl
      have hfz35_0 := y5 BK520.out 0
      have hfz35_1 := y5 BK520.out 1
      have hfz35_2 := y5 BK520.out 2
      have hfz35_3 := y5 BK520.out 3
      have hfz35_4 := y5 BK520.out 4
      have hcz36_0 : w31.cell? ⟨gb509, 0, none⟩ = some (.int .i64 t502) := (z6 BK509.out 0).trans rfl
      have hcz36_1 : w31.cell? ⟨gb509, 1, none⟩ = some (.bool t503) := (z6 BK509.out 1).trans rfl
      have hcz36_2 : w31.cell? ⟨gb509, 2, none⟩ = some (.int .i64 t504) := (z6 BK509.out 2).trans rfl
      have hcz36_3 : w31.cell? ⟨gb509, 3, none⟩ = some (.slice Ao19 t505.length co19) := (z6 BK509.out 3).trans rfl
      have hcz36_4 : w31.cell? ⟨gb509, 4, none⟩ = some (.int .i64 t508) := (z6 BK509.out 4).trans rfl
      have hfz36_0 := y5 BK509.out 0
      have hfz36_1 := y5 BK509.out 1
      have hfz36_2 := y5 BK509.out 2
      have hfz36_3 := y5 BK509.out 3
      have hfz36_4 := y5 BK509.out 4
      go_wp2_with (first | (go_at_call 22; (with_reducible refine (qe.calls k t513 t514 t515 _ _ t516 t519 t502 t503 t504 _ _ t505 t508 t528 _ ?side1 ?side2 ?side3 ?side4 A33.out).mono ?_); (case side1 => repeat (first | exact (Kd.qd HO518.out).2.2 | (with_reducible refine Kd.yi ?_ _) | (with_reducible refine Kd.qi ?_ _) | (with_reducible refine Kd.C_drew ?_))); (case side2 => exact (Kd.qd HO518.out).2.1); (case side3 => repeat (first | exact (Kd.qd HO507.out).2.2 | (with_reducible refine Kd.yi ?_ _) | (with_reducible refine Kd.qi ?_ _) | (with_reducible refine Kd.C_drew ?_))); (case side4 => exact (Kd.qd HO507.out).2.1); rintro e w37 ⟨rfl, hb⟩; have n0_ := z2.mk (Kd.qf (by (with_reducible repeat (first | apply Kd.R_alloc | apply Kd.y9 | apply Kd.zb)); exact HO501.out) hb); have n1_ := z2.mk (Kd.qf (by (with_reducible repeat (first | apply Kd.R_alloc | apply Kd.y9 | apply Kd.zb)); exact HO507.out) hb); have n2_ := z2.mk (Kd.qf (by (with_reducible repeat (first | apply Kd.R_alloc | apply Kd.y9 | apply Kd.zb)); exact HO512.out) hb); have n3_ := z2.mk (Kd.qf (by (with_reducible repeat (first | apply Kd.R_alloc | apply Kd.y9 | apply Kd.zb)); exact HO518.out) hb); have n4_ := z2.mk (Kd.qf (by (with_reducible repeat (first | apply Kd.R_alloc | apply Kd.y9 | apply Kd.zb)); exact HO524.out) hb); have n5_ := z2.mk (z9 (g := gb509) (o := .cells #[.int .i64 t502, .bool t503, .int .i64 t504, .slice Ao19 t505.length co19, .int .i64 t508] 45 (0, 0)) (by (with_reducible repeat (first | refine z5 ?_ _ | refine y6 ?_ | refine y4 ?_ _)); exact BK509.out) hb); have n6_ := z2.mk (z9 (g := gb520) (o := .cells #[.int .i64 t513, .bool t514, .int .i64 t515, .slice Ao26 t516.length co26, .int .i64 t519] 45 (0, 0)) (by (with_reducible repeat (first | refine z5 ?_ _ | refine y6 ?_ | refine y4 ?_ _)); exact BK520.out) hb); have n7_ := z2.mk (y8 (by repeat (first | (with_reducible first | exact HB.out | apply z4 | apply z1 | apply z3 | refine z7 ?_ GE509.out | refine z7 ?_ GE520.out) | exact HB.out)) hb); clear HO501 HO507 HO512 HO518 HO524 BK509 BK520 HB; have HO501 := n0_; have HO507 := n1_; have HO512 := n2_; have HO518 := n3_; have HO524 := n4_; have BK509 := n5_; have BK520 := n6_; have HB := n7_; clear n0_ n1_ n2_ n3_ n4_ n5_ n6_ n7_; (try clear hb); (try clear hb2); (try clear hk); (try clear hi)))
      go_meet
      case rel => exact ⟨_, (!t528), (by first | rfl | (simp; done) | (simp [*]; done)), H', ⟨by first | omega | exact Nat.le_refl _⟩, ⟨by (with_reducible repeat (first | apply Kd.R_alloc | apply Kd.y9 | apply Kd.zb)); exact HO507.out⟩, ⟨by (with_reducible repeat (first | apply Kd.R_alloc | apply Kd.y9 | apply Kd.zb)); exact HO518.out⟩, ⟨by (with_reducible repeat (first | refine z5 ?_ _ | refine y6 ?_ | refine y4 ?_ _)); exact BK509.out⟩, ⟨by (with_reducible repeat (first | refine z5 ?_ _ | refine y6 ?_ | refine y4 ?_ _)); exact BK520.out⟩, ⟨by repeat (first | (with_reducible first | exact HB.out | apply z4 | apply z1 | apply z3 | refine z7 ?_ GE509.out | refine z7 ?_ GE520.out) | exact HB.out)⟩⟩
    case rest =>
     clear HC13
     try clear c1
     try clear c2
     try clear c2b0
     try clear c2b1
     try clear p2
     try clear c3
     try clear c5
     try clear c8
     try clear c11
     try clear c19
     try clear c20
     try clear c21
     try clear c22
     try clear c23
     try clear c24
     try clear c32
     try clear c32b0
     try clear c34
     try clear hcz18_0
     try clear hcz18_1
     try clear hcz18_2
     try clear hcz18_3
     try clear hcz18_4
     try clear hcz25_0
     try clear hcz25_1
     try clear hcz25_2
     try clear hcz25_3
     try clear hcz25_4
     try clear hcz27_0
     try clear hcz27_1
     try clear hcz27_2
     try clear hcz27_3
     try clear hcz27_4
     try clear hcz35_0
     try clear hcz35_1
     try clear hcz35_2
     try clear hcz35_3
     try clear hcz35_4
     try clear hcz36_0
     try clear hcz36_1
     try clear hcz36_2
     try clear hcz36_3
     try clear hcz36_4
     try clear hfz18_0
     try clear hfz18_1
     try clear hfz18_2
     try clear hfz18_3
     try clear hfz18_4
     try clear hfz25_0
     try clear hfz25_1
     try clear hfz25_2
     try clear hfz25_3
     try clear hfz25_4
     try clear hfz27_0
     try clear hfz27_1
     try clear hfz27_2
     try clear hfz27_3
     try clear hfz27_4
     try clear hfz35_0
     try clear hfz35_1
     try clear hfz35_2
     try clear hfz35_3
     try clear hfz35_4
     try clear hfz36_0
     try clear hfz36_1
     try clear hfz36_2
     try clear hfz36_3
     try clear hfz36_4
     obtain ⟨kq, x39_12, rfl, HA, HJ12, HO_510003, HO_521003, BK509, BK520, HB⟩ := hcut
     cases kq with
     | zero => exact absurd HA.out (by simp [zc.j0])
     | succ kj12 =>
      have H := HA.out
      clear HA
      simp only [zc.j0] at H
      by_cases c38 : x39_12 = true
      ·subst c38
       have H1 : (some false) = some r := by rw [if_pos rfl] at H; exact H
       clear H
       have H := H1
       clear H1
       obtain rfl := Option.some.inj H
       go_wp2
       go_ret
       exact ⟨by first | rfl | (simp [ya, qa] <;> rfl) | (simp [*, ya, qa] <;> rfl), by repeat (first | (with_reducible first | exact HB.out | apply z4 | apply z1 | apply z3 | refine z7 ?_ GE509.out | refine z7 ?_ GE520.out) | exact HB.out)⟩
      ·replace c38 := Bool.eq_false_iff.mpr c38
       subst c38
       have H1 : ((qr.f kj12 t513 t514 t515 t516 t519 1).bind fun bt529 => ((qh.f kj12 t513 t514 t515 bt529.2 t519 1).bind fun t531 => (if t531 < 0 then (some false) else (if t531 = bt529.1 then ((zk.f kj12 l0).bind fun t532 => ((qn.f kj12 t532).bind fun bt535 => ((qe.f kj12 bt535.1 bt535.2.1 bt535.2.2.1 bt535.2.2.2.1 bt535.2.2.2.2 t502 t503 t504 t505 t508).bind fun t543 => (if t543 = true then ((qh.f kj12 t513 t514 t515 bt529.2 t519 1).bind fun t544 => (if t544 < 0 then (some false) else (if t544 = bt529.1 then (some true) else (some false)))) else (some false))))) else (some false))))) = some r := by rw [if_neg (show ¬ (false = true) by decide)] at H; exact H
       clear H
       have H := H1
       clear H1
       replace H := Option.bind_eq_some_iff.mp H
       obtain ⟨⟨t529, t530⟩, A390, H⟩ := H
       replace H : ((qh.f kj12 t513 t514 t515 t530 t519 1).bind fun t531 => (if t531 < 0 then (some false) else (if t531 = t529 then ((zk.f kj12 l0).bind fun t532 => ((qn.f kj12 t532).bind fun bt535 => ((qe.f kj12 bt535.1 bt535.2.1 bt535.2.2.1 bt535.2.2.2.1 bt535.2.2.2.2 t502 t503 t504 t505 t508).bind fun t543 => (if t543 = true then ((qh.f kj12 t513 t514 t515 t530 t519 1).bind fun t544 => (if t544 < 0 then (some false) else (if t544 = t529 then (some true) else (some false)))) else (some false))))) else (some false)))) = some r := H
       have A39 := z2.mk A390
       clear A390
       replace H := Option.bind_eq_some_iff.mp H
       obtain ⟨t531, A400, H⟩ := H
       replace H : (if t531 < 0 then (some false) else (if t531 = t529 then ((zk.f kj12 l0).bind fun t532 => ((qn.f kj12 t532).bind fun bt535 => ((qe.f kj12 bt535.1 bt535.2.1 bt535.2.2.1 bt535.2.2.2.1 bt535.2.2.2.2 t502 t503 t504 t505 t508).bind fun t543 => (if t543 = true then ((qh.f kj12 t513 t514 t515 t530 t519 1).bind fun t544 => (if t544 < 0 then (some false) else (if t544 = t529 then (some true) else (some false)))) else (some false))))) else (some false))) = some r := H
       have A40 := z2.mk A400
       clear A400
       by_cases c41 : t531 < 0
       ·rw [if_pos c41] at H
        have c41b0 : decide (t531 < 0) = true := decide_eq_true c41
        clear c41
        obtain rfl := Option.some.inj H
        have hnb42 := NB520_509.out
        have hnc42 := NB509_520.out
        have hcz43_0 : wc.cell? ⟨gb520, 0, none⟩ = some (.int .i64 t513) := (z6 BK520.out 0).trans rfl
        have hcz43_1 : wc.cell? ⟨gb520, 1, none⟩ = some (.bool t514) := (z6 BK520.out 1).trans rfl
        have hcz43_2 : wc.cell? ⟨gb520, 2, none⟩ = some (.int .i64 t515) := (z6 BK520.out 2).trans rfl
        have hcz43_3 : wc.cell? ⟨gb520, 3, none⟩ = some (.slice Ao26 t516.length co26) := (z6 BK520.out 3).trans rfl
        have hcz43_4 : wc.cell? ⟨gb520, 4, none⟩ = some (.int .i64 t519) := (z6 BK520.out 4).trans rfl
        have hfz43_0 := y5 BK520.out 0
        have hfz43_1 := y5 BK520.out 1
        have hfz43_2 := y5 BK520.out 2
        have hfz43_3 := y5 BK520.out 3
        have hfz43_4 := y5 BK520.out 4
        go_wp2_with (first | ((with_reducible refine qb (f := 25) rfl ?_); refine zm (some 42) rfl rfl Try.func25 (by kernel_rfl) rfl #[.agg #[.int .i64 t513, .bool t514, .int .i64 t515, .slice Ao26 t516.length co26, .int .i64 t519], .int .i64 1] rfl (by (try simp only [List.map_toArray, List.map_cons, List.map_nil]); first | done | rfl | (simp only [List.length_drop, List.length_take]; rfl)) ?_; (with_reducible refine (qr.calls kj12 t513 t514 t515 (fun k_ => some k_ = (.slice Ao26 t516.length co26 : Value).ownBlock) (.slice Ao26 t516.length co26) t516 t519 1 t529 t530 w _ ?side1 ?side2 A39.out).mono ?_); (case side1 => repeat (first | (with_reducible first | exact HB.out | apply z4 | apply z1 | apply z3 | refine z7 ?_ GE509.out | refine z7 ?_ GE520.out) | exact HB.out)); (case side2 => exact Kd.q0f rfl HO_521003.out); rintro e w44 ⟨rfl, hy0, hb, hkp⟩; refine ⟨_, rfl, ?_⟩; have n0_ := z2.mk (Kd.yk (ok' := fun k_ => some k_ ≠ (.slice Ao26 t516.length co26 : Value).ownBlock) (Kd.q0h (HO_510003.out) hkp (fun k_ hk_ hs_ => (hk_) hs_)) (fun k_ hk_ => hk_.1)); have n1_ := z2.mk (Kd.q0n rfl hy0 (fun k_ e_ => HO_521003.out.1 k_ e_)); have n2_ := z2.mk (q02 (by (with_reducible repeat (first | refine z5 ?_ _ | refine y6 ?_ | refine y4 ?_ _)); exact BK509.out) hkp (fun hs_ => (fun e_ => (Kd.y0k HO_521003.out BK509.out (by decide)) e_) hs_)); have n3_ := z2.mk (q02 (by (with_reducible repeat (first | refine z5 ?_ _ | refine y6 ?_ | refine y4 ?_ _)); exact BK520.out) hkp (fun hs_ => (fun e_ => (Kd.y0k HO_521003.out BK520.out (by decide)) e_) hs_)); have n4_ := z2.mk (hb); clear HO_510003 HO_521003 BK509 BK520 HB; have HO_510003 := n0_; have HO_521003 := n1_; have BK509 := n2_; have BK520 := n3_; have HB := n4_; clear n0_ n1_ n2_ n3_ n4_; (try clear hb); (try clear hkp); (try clear hy0); have hcz45_0 : w44.cell? ⟨gb520, 0, none⟩ = some (.int .i64 t513) := (z6 BK520.out 0).trans rfl; have hcz45_1 : w44.cell? ⟨gb520, 1, none⟩ = some (.bool t514) := (z6 BK520.out 1).trans rfl; have hcz45_2 : w44.cell? ⟨gb520, 2, none⟩ = some (.int .i64 t515) := (z6 BK520.out 2).trans rfl; have hcz45_3 : w44.cell? ⟨gb520, 3, none⟩ = some (.slice Ao26 t516.length co26) := (z6 BK520.out 3).trans rfl; have hcz45_4 : w44.cell? ⟨gb520, 4, none⟩ = some (.int .i64 t519) := (z6 BK520.out 4).trans rfl; have hfz45_0 := y5 BK520.out 0; have hfz45_1 := y5 BK520.out 1; have hfz45_2 := y5 BK520.out 2; have hfz45_3 := y5 BK520.out 3; have hfz45_4 := y5 BK520.out 4) | ((with_reducible refine qb (f := 26) rfl ?_); refine zm (some 45) rfl rfl Try.func26 (by kernel_rfl) rfl #[.agg #[.int .i64 t513, .bool t514, .int .i64 t515, .slice Ao26 t530.length co26, .int .i64 t519], .int .i64 1] rfl (by (try simp only [List.map_toArray, List.map_cons, List.map_nil]); first | done | (rw [show t530.length = t516.length from (Kd.qd HO_521003.out).1.symm] <;> rfl) | rfl | (simp only [List.length_drop, List.length_take]; rfl)) ?_; (with_reducible refine (qh.calls kj12 t513 t514 t515 _ _ t530 t519 1 t531 _ ?side1 ?side2 A40.out).mono ?_); (case side1 => repeat (first | exact (Kd.qd HO_521003.out).2.2 | (with_reducible refine Kd.yi ?_ _) | (with_reducible refine Kd.qi ?_ _) | (with_reducible refine Kd.C_drew ?_))); (case side2 => rw [show t530.length = t516.length from (Kd.qd HO_521003.out).1.symm]; exact (Kd.qd HO_521003.out).2.1); rintro e w46 ⟨rfl, hb⟩; refine ⟨_, rfl, ?_⟩; have n0_ := z2.mk (Kd.qf (by (with_reducible repeat (first | apply Kd.R_alloc | apply Kd.y9 | apply Kd.zb)); exact HO_510003.out) hb); have n1_ := z2.mk (Kd.qf (by (with_reducible repeat (first | apply Kd.R_alloc | apply Kd.y9 | apply Kd.zb)); exact HO_521003.out) hb); have n2_ := z2.mk (z9 (g := gb509) (o := .cells #[.int .i64 t502, .bool t503, .int .i64 t504, .slice Ao19 t505.length co19, .int .i64 t508] 45 (0, 0)) (by (with_reducible repeat (first | refine z5 ?_ _ | refine y6 ?_ | refine y4 ?_ _)); exact BK509.out) hb); have n3_ := z2.mk (z9 (g := gb520) (o := .cells #[.int .i64 t513, .bool t514, .int .i64 t515, .slice Ao26 t516.length co26, .int .i64 t519] 45 (0, 0)) (by (with_reducible repeat (first | refine z5 ?_ _ | refine y6 ?_ | refine y4 ?_ _)); exact BK520.out) hb); have n4_ := z2.mk (y8 (by repeat (first | (with_reducible first | exact HB.out | apply z4 | apply z1 | apply z3 | refine z7 ?_ GE509.out | refine z7 ?_ GE520.out) | exact HB.out)) hb); clear HO_510003 HO_521003 BK509 BK520 HB; have HO_510003 := n0_; have HO_521003 := n1_; have BK509 := n2_; have BK520 := n3_; have HB := n4_; clear n0_ n1_ n2_ n3_ n4_; (try clear hb); (try clear hb2); (try clear hk); (try clear hi)))
        go_ret
        exact ⟨by first | rfl | (simp [ya, qa] <;> rfl) | (simp [*, ya, qa] <;> rfl), by repeat (first | (with_reducible first | exact HB.out | apply z4 | apply z1 | apply z3 | refine z7 ?_ GE509.out | refine z7 ?_ GE520.out) | exact HB.out)⟩
       ·rw [if_neg c41] at H
        have c41b0 : decide (t531 < 0) = false := decide_eq_false c41
        clear c41
        by_cases c47 : t531 = t529
        ·rw [if_pos c47] at H
         have c47b0 : (t531 == t529) = true := beq_iff_eq.mpr c47
         have c47b1 : (t531 != t529) = false := bne_eq_false_iff_eq.mpr c47
         clear c47
         replace H := Option.bind_eq_some_iff.mp H
         obtain ⟨t532, A480, H⟩ := H
         replace H : ((qn.f kj12 t532).bind fun bt535 => ((qe.f kj12 bt535.1 bt535.2.1 bt535.2.2.1 bt535.2.2.2.1 bt535.2.2.2.2 t502 t503 t504 t505 t508).bind fun t543 => (if t543 = true then ((qh.f kj12 t513 t514 t515 t530 t519 1).bind fun t544 => (if t544 < 0 then (some false) else (if t544 = t529 then (some true) else (some false)))) else (some false)))) = some r := H
         have A48 := z2.mk A480
         clear A480
         replace H := Option.bind_eq_some_iff.mp H
         obtain ⟨⟨t535, t536, t537, t538, t541⟩, A490, H⟩ := H
         replace H : ((qe.f kj12 t535 t536 t537 t538 t541 t502 t503 t504 t505 t508).bind fun t543 => (if t543 = true then ((qh.f kj12 t513 t514 t515 t530 t519 1).bind fun t544 => (if t544 < 0 then (some false) else (if t544 = t529 then (some true) else (some false)))) else (some false))) = some r := H
         have A49 := z2.mk A490
         clear A490
         replace H := Option.bind_eq_some_iff.mp H
         obtain ⟨t543, A500, H⟩ := H
         replace H : (if t543 = true then ((qh.f kj12 t513 t514 t515 t530 t519 1).bind fun t544 => (if t544 < 0 then (some false) else (if t544 = t529 then (some true) else (some false)))) else (some false)) = some r := H
         have A50 := z2.mk A500
         clear A500
         by_cases c51 : t543 = true
         ·subst c51
          have H1 : ((qh.f kj12 t513 t514 t515 t530 t519 1).bind fun t544 => (if t544 < 0 then (some false) else (if t544 = t529 then (some true) else (some false)))) = some r := by rw [if_pos rfl] at H; exact H
          clear H
          have H := H1
          clear H1
          replace H := Option.bind_eq_some_iff.mp H
          obtain ⟨t544, A520, H⟩ := H
          replace H : (if t544 < 0 then (some false) else (if t544 = t529 then (some true) else (some false))) = some r := H
          have A52 := z2.mk A520
          clear A520
          by_cases c53 : t544 < 0
          ·rw [if_pos c53] at H
           have c53b0 : decide (t544 < 0) = true := decide_eq_true c53
           clear c53
           obtain rfl := Option.some.inj H
           have hnb54 := NB520_509.out
           have hnc54 := NB509_520.out
           have hcz55_0 : wc.cell? ⟨gb520, 0, none⟩ = some (.int .i64 t513) := (z6 BK520.out 0).trans rfl
           have hcz55_1 : wc.cell? ⟨gb520, 1, none⟩ = some (.bool t514) := (z6 BK520.out 1).trans rfl
           have hcz55_2 : wc.cell? ⟨gb520, 2, none⟩ = some (.int .i64 t515) := (z6 BK520.out 2).trans rfl
           have hcz55_3 : wc.cell? ⟨gb520, 3, none⟩ = some (.slice Ao26 t516.length co26) := (z6 BK520.out 3).trans rfl
           have hcz55_4 : wc.cell? ⟨gb520, 4, none⟩ = some (.int .i64 t519) := (z6 BK520.out 4).trans rfl
           have hfz55_0 := y5 BK520.out 0
           have hfz55_1 := y5 BK520.out 1
           have hfz55_2 := y5 BK520.out 2
           have hfz55_3 := y5 BK520.out 3
           have hfz55_4 := y5 BK520.out 4
           go_wp2_with (first | ((with_reducible refine qb (f := 25) rfl ?_); refine zm (some 42) rfl rfl Try.func25 (by kernel_rfl) rfl #[.agg #[.int .i64 t513, .bool t514, .int .i64 t515, .slice Ao26 t516.length co26, .int .i64 t519], .int .i64 1] rfl (by (try simp only [List.map_toArray, List.map_cons, List.map_nil]); first | done | rfl | (simp only [List.length_drop, List.length_take]; rfl)) ?_; (with_reducible refine (qr.calls kj12 t513 t514 t515 (fun k_ => some k_ = (.slice Ao26 t516.length co26 : Value).ownBlock) (.slice Ao26 t516.length co26) t516 t519 1 t529 t530 w _ ?side1 ?side2 A39.out).mono ?_); (case side1 => repeat (first | (with_reducible first | exact HB.out | apply z4 | apply z1 | apply z3 | refine z7 ?_ GE509.out | refine z7 ?_ GE520.out) | exact HB.out)); (case side2 => exact Kd.q0f rfl HO_521003.out); rintro e w56 ⟨rfl, hy0, hb, hkp⟩; refine ⟨_, rfl, ?_⟩; have n0_ := z2.mk (Kd.yk (ok' := fun k_ => some k_ ≠ (.slice Ao26 t516.length co26 : Value).ownBlock) (Kd.q0h (HO_510003.out) hkp (fun k_ hk_ hs_ => (hk_) hs_)) (fun k_ hk_ => hk_.1)); have n1_ := z2.mk (Kd.q0n rfl hy0 (fun k_ e_ => HO_521003.out.1 k_ e_)); have n2_ := z2.mk (q02 (by (with_reducible repeat (first | refine z5 ?_ _ | refine y6 ?_ | refine y4 ?_ _)); exact BK509.out) hkp (fun hs_ => (fun e_ => (Kd.y0k HO_521003.out BK509.out (by decide)) e_) hs_)); have n3_ := z2.mk (q02 (by (with_reducible repeat (first | refine z5 ?_ _ | refine y6 ?_ | refine y4 ?_ _)); exact BK520.out) hkp (fun hs_ => (fun e_ => (Kd.y0k HO_521003.out BK520.out (by decide)) e_) hs_)); have n4_ := z2.mk (hb); clear HO_510003 HO_521003 BK509 BK520 HB; have HO_510003 := n0_; have HO_521003 := n1_; have BK509 := n2_; have BK520 := n3_; have HB := n4_; clear n0_ n1_ n2_ n3_ n4_; (try clear hb); (try clear hkp); (try clear hy0); have hcz57_0 : w56.cell? ⟨gb520, 0, none⟩ = some (.int .i64 t513) := (z6 BK520.out 0).trans rfl; have hcz57_1 : w56.cell? ⟨gb520, 1, none⟩ = some (.bool t514) := (z6 BK520.out 1).trans rfl; have hcz57_2 : w56.cell? ⟨gb520, 2, none⟩ = some (.int .i64 t515) := (z6 BK520.out 2).trans rfl; have hcz57_3 : w56.cell? ⟨gb520, 3, none⟩ = some (.slice Ao26 t516.length co26) := (z6 BK520.out 3).trans rfl; have hcz57_4 : w56.cell? ⟨gb520, 4, none⟩ = some (.int .i64 t519) := (z6 BK520.out 4).trans rfl; have hfz57_0 := y5 BK520.out 0; have hfz57_1 := y5 BK520.out 1; have hfz57_2 := y5 BK520.out 2; have hfz57_3 := y5 BK520.out 3; have hfz57_4 := y5 BK520.out 4) | ((with_reducible refine qb (f := 26) rfl ?_); refine zm (some 45) rfl rfl Try.func26 (by kernel_rfl) rfl #[.agg #[.int .i64 t513, .bool t514, .int .i64 t515, .slice Ao26 t530.length co26, .int .i64 t519], .int .i64 1] rfl (by (try simp only [List.map_toArray, List.map_cons, List.map_nil]); first | done | (rw [show t530.length = t516.length from (Kd.qd HO_521003.out).1.symm] <;> rfl) | rfl | (simp only [List.length_drop, List.length_take]; rfl)) ?_; (with_reducible refine (qh.calls kj12 t513 t514 t515 _ _ t530 t519 1 t531 _ ?side1 ?side2 A40.out).mono ?_); (case side1 => repeat (first | exact (Kd.qd HO_521003.out).2.2 | (with_reducible refine Kd.yi ?_ _) | (with_reducible refine Kd.qi ?_ _) | (with_reducible refine Kd.C_drew ?_))); (case side2 => rw [show t530.length = t516.length from (Kd.qd HO_521003.out).1.symm]; exact (Kd.qd HO_521003.out).2.1); rintro e w58 ⟨rfl, hb⟩; refine ⟨_, rfl, ?_⟩; have n0_ := z2.mk (Kd.qf (by (with_reducible repeat (first | apply Kd.R_alloc | apply Kd.y9 | apply Kd.zb)); exact HO_510003.out) hb); have n1_ := z2.mk (Kd.qf (by (with_reducible repeat (first | apply Kd.R_alloc | apply Kd.y9 | apply Kd.zb)); exact HO_521003.out) hb); have n2_ := z2.mk (z9 (g := gb509) (o := .cells #[.int .i64 t502, .bool t503, .int .i64 t504, .slice Ao19 t505.length co19, .int .i64 t508] 45 (0, 0)) (by (with_reducible repeat (first | refine z5 ?_ _ | refine y6 ?_ | refine y4 ?_ _)); exact BK509.out) hb); have n3_ := z2.mk (z9 (g := gb520) (o := .cells #[.int .i64 t513, .bool t514, .int .i64 t515, .slice Ao26 t516.length co26, .int .i64 t519] 45 (0, 0)) (by (with_reducible repeat (first | refine z5 ?_ _ | refine y6 ?_ | refine y4 ?_ _)); exact BK520.out) hb); have n4_ := z2.mk (y8 (by repeat (first | (with_reducible first | exact HB.out | apply z4 | apply z1 | apply z3 | refine z7 ?_ GE509.out | refine z7 ?_ GE520.out) | exact HB.out)) hb); clear HO_510003 HO_521003 BK509 BK520 HB; have HO_510003 := n0_; have HO_521003 := n1_; have BK509 := n2_; have BK520 := n3_; have HB := n4_; clear n0_ n1_ n2_ n3_ n4_; (try clear hb); (try clear hb2); (try clear hk); (try clear hi)) | ((with_reducible refine qb (f := 20) rfl ?_); refine zm (some 52) rfl rfl Try.func20 (by kernel_rfl) rfl #[.slice A0 l0.length c0] rfl (by (try simp only [List.map_toArray, List.map_cons, List.map_nil]); first | done | rfl | (simp only [List.length_drop, List.length_take]; rfl)) ?_; (with_reducible refine (zk.calls kj12 _ _ l0 t532 _ ?side1 ?side2 A48.out).mono ?_); (case side1 => repeat (first | exact (Kd.yp HR0.out HB.out) | (with_reducible refine Kd.yi ?_ _) | (with_reducible refine Kd.qi ?_ _) | (with_reducible refine Kd.C_drew ?_))); (case side2 => exact HC0.out); rintro e w59 ⟨v533, rfl, ho0, hb⟩; refine ⟨_, rfl, ?_⟩; have n0_ := z2.mk (Kd.qf (by (with_reducible repeat (first | apply Kd.R_alloc | apply Kd.y9 | apply Kd.zb)); exact HO_510003.out) hb); have n1_ := z2.mk (Kd.qf (by (with_reducible repeat (first | apply Kd.R_alloc | apply Kd.y9 | apply Kd.zb)); exact HO_521003.out) hb); have n2_ := z2.mk (Kd.yr ho0 (z8 (by repeat (first | (with_reducible first | exact HB.out | apply z4 | apply z1 | apply z3 | refine z7 ?_ GE509.out | refine z7 ?_ GE520.out) | exact HB.out)))); have n3_ := z2.mk (z9 (g := gb509) (o := .cells #[.int .i64 t502, .bool t503, .int .i64 t504, .slice Ao19 t505.length co19, .int .i64 t508] 45 (0, 0)) (by (with_reducible repeat (first | refine z5 ?_ _ | refine y6 ?_ | refine y4 ?_ _)); exact BK509.out) hb); have n4_ := z2.mk (z9 (g := gb520) (o := .cells #[.int .i64 t513, .bool t514, .int .i64 t515, .slice Ao26 t516.length co26, .int .i64 t519] 45 (0, 0)) (by (with_reducible repeat (first | refine z5 ?_ _ | refine y6 ?_ | refine y4 ?_ _)); exact BK520.out) hb); have n5_ := z2.mk (y8 (by repeat (first | (with_reducible first | exact HB.out | apply z4 | apply z1 | apply z3 | refine z7 ?_ GE509.out | refine z7 ?_ GE520.out) | exact HB.out)) hb); clear HO_510003 HO_521003 BK509 BK520 HB; have HO_510003 := n0_; have HO_521003 := n1_; have HO534 := n2_; have BK509 := n3_; have BK520 := n4_; have HB := n5_; clear n0_ n1_ n2_ n3_ n4_ n5_; (try clear hb); (try clear hb2); (try clear hk); (try clear hi); (try clear ho0); obtain ⟨Ao60, co60, eo60⟩ := Kd.zt HO534.out; subst eo60) | ((with_reducible refine qb (f := 21) rfl ?_); refine zm (some 53) rfl rfl Try.func21 (by kernel_rfl) rfl #[.slice Ao60 t532.length co60] rfl (by (try simp only [List.map_toArray, List.map_cons, List.map_nil]); first | done | rfl | (simp only [List.length_drop, List.length_take]; rfl)) ?_; (with_reducible refine (qn.calls kj12 _ _ t532 t535 t536 t537 t538 t541 _ ?side1 ?side2 A49.out).mono ?_); (case side1 => repeat (first | exact (Kd.qd HO534.out).2.2 | (with_reducible refine Kd.yi ?_ _) | (with_reducible refine Kd.qi ?_ _) | (with_reducible refine Kd.C_drew ?_))); (case side2 => exact (Kd.qd HO534.out).2.1); rintro e w61 ⟨v539, rfl, ho0, hb⟩; refine ⟨_, rfl, ?_⟩; have n0_ := z2.mk (Kd.qu (by (with_reducible repeat (first | apply Kd.R_alloc | apply Kd.y9 | apply Kd.zb)); exact HO_510003.out) (Kd.z00 ho0) hb); have n1_ := z2.mk (Kd.qu (by (with_reducible repeat (first | apply Kd.R_alloc | apply Kd.y9 | apply Kd.zb)); exact HO_521003.out) (Kd.z00 ho0) hb); have n2_ := z2.mk (Kd.qf (by (with_reducible repeat (first | apply Kd.R_alloc | apply Kd.y9 | apply Kd.zb)); exact HO534.out) hb); have n3_ := z2.mk (Kd.yr (Kd.y00 (Kd.y00 ho0 (Kd.q0e (by (with_reducible repeat (first | apply Kd.R_alloc | apply Kd.y9 | apply Kd.zb)); exact HO_510003.out))) (Kd.q0e (by (with_reducible repeat (first | apply Kd.R_alloc | apply Kd.y9 | apply Kd.zb)); exact HO_521003.out))) (z8 (by repeat (first | (with_reducible first | exact HB.out | apply z4 | apply z1 | apply z3 | refine z7 ?_ GE509.out | refine z7 ?_ GE520.out) | exact HB.out)))); have n4_ := z2.mk (z9 (g := gb509) (o := .cells #[.int .i64 t502, .bool t503, .int .i64 t504, .slice Ao19 t505.length co19, .int .i64 t508] 45 (0, 0)) (by (with_reducible repeat (first | refine z5 ?_ _ | refine y6 ?_ | refine y4 ?_ _)); exact BK509.out) hb); have n5_ := z2.mk (z9 (g := gb520) (o := .cells #[.int .i64 t513, .bool t514, .int .i64 t515, .slice Ao26 t516.length co26, .int .i64 t519] 45 (0, 0)) (by (with_reducible repeat (first | refine z5 ?_ _ | refine y6 ?_ | refine y4 ?_ _)); exact BK520.out) hb); have n6_ := z2.mk (y8 (by repeat (first | (with_reducible first | exact HB.out | apply z4 | apply z1 | apply z3 | refine z7 ?_ GE509.out | refine z7 ?_ GE520.out) | exact HB.out)) hb); clear HO_510003 HO_521003 HO534 BK509 BK520 HB; have HO_510003 := n0_; have HO_521003 := n1_; have HO534 := n2_; have HO540 := n3_; have BK509 := n4_; have BK520 := n5_; have HB := n6_; clear n0_ n1_ n2_ n3_ n4_ n5_ n6_; (try clear hb); (try clear hb2); (try clear hk); (try clear hi); (try clear ho0)) | ((with_reducible refine ye (N := 9) rfl ?_); refine ze ?hg (N := 9) ?hd (cs := #[.int .i64 0, .bool false, .int .i64 0, .slice none 0 0, .int .i64 0]) (t := 45) ?hr ?_; (case hd => rfl); (case hg => rfl); (case hr => first | (go_simp; done) | (go_simp; rfl)); intro gb542 hg w62 hbox hb; have n0_ := z2.mk (Kd.qf (by (with_reducible repeat (first | apply Kd.R_alloc | apply Kd.y9 | apply Kd.zb)); exact HO_510003.out) hb); have n1_ := z2.mk (Kd.qf (by (with_reducible repeat (first | apply Kd.R_alloc | apply Kd.y9 | apply Kd.zb)); exact HO_521003.out) hb); have n2_ := z2.mk (Kd.qf (by (with_reducible repeat (first | apply Kd.R_alloc | apply Kd.y9 | apply Kd.zb)); exact HO534.out) hb); have n3_ := z2.mk (Kd.qf (by (with_reducible repeat (first | apply Kd.R_alloc | apply Kd.y9 | apply Kd.zb)); exact HO540.out) hb); have n4_ := z2.mk (z9 (g := gb509) (o := .cells #[.int .i64 t502, .bool t503, .int .i64 t504, .slice Ao19 t505.length co19, .int .i64 t508] 45 (0, 0)) (by (with_reducible repeat (first | refine z5 ?_ _ | refine y6 ?_ | refine y4 ?_ _)); exact BK509.out) hb); have n5_ := z2.mk (z9 (g := gb520) (o := .cells #[.int .i64 t513, .bool t514, .int .i64 t515, .slice Ao26 t516.length co26, .int .i64 t519] 45 (0, 0)) (by (with_reducible repeat (first | refine z5 ?_ _ | refine y6 ?_ | refine y4 ?_ _)); exact BK520.out) hb); have n6_ := z2.mk (y8 (by repeat (first | (with_reducible first | exact HB.out | apply z4 | apply z1 | apply z3 | refine z7 ?_ GE509.out | refine z7 ?_ GE520.out) | exact HB.out)) hb); have n7_ := z2.mk (hbox); have n8_ := z2.mk ((by rw [hg]; exact (z8 (by repeat (first | (with_reducible first | exact HB.out | apply z4 | apply z1 | apply z3 | refine z7 ?_ GE509.out | refine z7 ?_ GE520.out) | exact HB.out))) : w.heap.size ≤ gb542)); have n9_ := z2.mk ((by rw [hg]; exact (z8 (by repeat (first | (with_reducible first | exact HB.out | apply z4 | apply z1 | apply z3 | refine z7 ?_ GE509.out | refine z7 ?_ GE520.out) | exact HB.out))) : w.heap.size ≤ gb542)); have n10_ := z2.mk ((by rw [hg]; exact Nat.ne_of_lt (qk (g := gb509) (o := .cells #[.int .i64 t502, .bool t503, .int .i64 t504, .slice Ao19 t505.length co19, .int .i64 t508] 45 (0, 0)) (by (with_reducible repeat (first | refine z5 ?_ _ | refine y6 ?_ | refine y4 ?_ _)); exact BK509.out)) : gb509 ≠ gb542)); have n11_ := z2.mk ((by rw [hg]; exact Nat.ne_of_gt (qk (g := gb509) (o := .cells #[.int .i64 t502, .bool t503, .int .i64 t504, .slice Ao19 t505.length co19, .int .i64 t508] 45 (0, 0)) (by (with_reducible repeat (first | refine z5 ?_ _ | refine y6 ?_ | refine y4 ?_ _)); exact BK509.out)) : gb542 ≠ gb509)); have n12_ := z2.mk ((by rw [hg]; exact Nat.ne_of_lt (qk (g := gb520) (o := .cells #[.int .i64 t513, .bool t514, .int .i64 t515, .slice Ao26 t516.length co26, .int .i64 t519] 45 (0, 0)) (by (with_reducible repeat (first | refine z5 ?_ _ | refine y6 ?_ | refine y4 ?_ _)); exact BK520.out)) : gb520 ≠ gb542)); have n13_ := z2.mk ((by rw [hg]; exact Nat.ne_of_gt (qk (g := gb520) (o := .cells #[.int .i64 t513, .bool t514, .int .i64 t515, .slice Ao26 t516.length co26, .int .i64 t519] 45 (0, 0)) (by (with_reducible repeat (first | refine z5 ?_ _ | refine y6 ?_ | refine y4 ?_ _)); exact BK520.out)) : gb542 ≠ gb520)); clear HO_510003 HO_521003 HO534 HO540 BK509 BK520 HB; have HO_510003 := n0_; have HO_521003 := n1_; have HO534 := n2_; have HO540 := n3_; have BK509 := n4_; have BK520 := n5_; have HB := n6_; have BK542 := n7_; have GW542 := n8_; have GE542 := n9_; have NB509_542 := n10_; have NB542_509 := n11_; have NB520_542 := n12_; have NB542_520 := n13_; clear n0_ n1_ n2_ n3_ n4_ n5_ n6_ n7_ n8_ n9_ n10_ n11_ n12_ n13_ hb hbox hg; have hnb63 := NB542_509.out; have hnc63 := NB509_542.out; have hnb64 := NB542_520.out; have hnc64 := NB520_542.out; have hcz65_0 : w62.cell? ⟨gb542, 0, none⟩ = some (.int .i64 0) := (z6 BK542.out 0).trans rfl; have hcz65_1 : w62.cell? ⟨gb542, 1, none⟩ = some (.bool false) := (z6 BK542.out 1).trans rfl; have hcz65_2 : w62.cell? ⟨gb542, 2, none⟩ = some (.int .i64 0) := (z6 BK542.out 2).trans rfl; have hcz65_3 : w62.cell? ⟨gb542, 3, none⟩ = some (.slice none 0 0) := (z6 BK542.out 3).trans rfl; have hcz65_4 : w62.cell? ⟨gb542, 4, none⟩ = some (.int .i64 0) := (z6 BK542.out 4).trans rfl; have hfz65_0 := y5 BK542.out 0; have hfz65_1 := y5 BK542.out 1; have hfz65_2 := y5 BK542.out 2; have hfz65_3 := y5 BK542.out 3; have hfz65_4 := y5 BK542.out 4; obtain ⟨Ao66, co66, eo66⟩ := Kd.zt HO540.out; subst eo66; have hcz67_0 : w62.cell? ⟨gb509, 0, none⟩ = some (.int .i64 t502) := (z6 BK509.out 0).trans rfl; have hcz67_1 : w62.cell? ⟨gb509, 1, none⟩ = some (.bool t503) := (z6 BK509.out 1).trans rfl; have hcz67_2 : w62.cell? ⟨gb509, 2, none⟩ = some (.int .i64 t504) := (z6 BK509.out 2).trans rfl; have hcz67_3 : w62.cell? ⟨gb509, 3, none⟩ = some (.slice Ao19 t505.length co19) := (z6 BK509.out 3).trans rfl; have hcz67_4 : w62.cell? ⟨gb509, 4, none⟩ = some (.int .i64 t508) := (z6 BK509.out 4).trans rfl; have hfz67_0 := y5 BK509.out 0; have hfz67_1 := y5 BK509.out 1; have hfz67_2 := y5 BK509.out 2; have hfz67_3 := y5 BK509.out 3; have hfz67_4 := y5 BK509.out 4) | ((with_reducible refine qb (f := 22) rfl ?_); refine zm (some 56) rfl rfl Try.func22 (by kernel_rfl) rfl #[.agg #[.int .i64 t535, .bool t536, .int .i64 t537, .slice Ao66 t538.length co66, .int .i64 t541], .agg #[.int .i64 t502, .bool t503, .int .i64 t504, .slice Ao19 t505.length co19, .int .i64 t508]] rfl (by (try simp only [List.map_toArray, List.map_cons, List.map_nil]); first | done | rfl | (simp only [List.length_drop, List.length_take]; rfl)) ?_; (with_reducible refine (qe.calls kj12 t535 t536 t537 _ _ t538 t541 t502 t503 t504 _ _ t505 t508 true _ ?side1 ?side2 ?side3 ?side4 A50.out).mono ?_); (case side1 => refine (Kd.qd (e := 138) (base := w.heap.size) (ok := fun k_ => ((True ∧ some k_ ≠ (.slice Ao19 t505.length co19 : Value).ownBlock) ∧ some k_ ≠ (.slice Ao26 t516.length co26 : Value).ownBlock)) (n := t538.length) (c := co66) ?_).2.2; exact (by (with_reducible repeat (first | apply Kd.R_alloc | apply Kd.y9 | apply Kd.zb)); exact (Kd.yk (Kd.zf (p := ⟨gb542, 4, none⟩) (Kd.zf (p := ⟨gb542, 3, none⟩) (Kd.zf (p := ⟨gb542, 2, none⟩) (Kd.zf (p := ⟨gb542, 1, none⟩) (Kd.zf (p := ⟨gb542, 0, none⟩) (Kd.qp HO540.out BK542.out (by decide)) (fun _ hk => hk.2) (.int .i64 t535)) (fun _ hk => hk.2) (.bool t536)) (fun _ hk => hk.2) (.int .i64 t537)) (fun _ hk => hk.2) (.slice Ao66 t538.length co66)) (fun _ hk => hk.2) (.int .i64 t541)) (fun _ h_ => h_.1)))); (case side2 => exact (Kd.qd HO540.out).2.1); (case side3 => refine (Kd.qd (e := 138) (base := w.heap.size) (ok := fun k_ => (some k_ ≠ (.slice Ao26 t516.length co26 : Value).ownBlock ∧ some k_ ≠ (.slice Ao66 t538.length co66 : Value).ownBlock)) (n := t505.length) (c := co19) ?_).2.2; exact (by (with_reducible repeat (first | apply Kd.R_alloc | apply Kd.y9 | apply Kd.zb)); exact (Kd.yk (Kd.zf (p := ⟨gb542, 4, none⟩) (Kd.zf (p := ⟨gb542, 3, none⟩) (Kd.zf (p := ⟨gb542, 2, none⟩) (Kd.zf (p := ⟨gb542, 1, none⟩) (Kd.zf (p := ⟨gb542, 0, none⟩) (Kd.qp HO_510003.out BK542.out (by decide)) (fun _ hk => hk.2) (.int .i64 t535)) (fun _ hk => hk.2) (.bool t536)) (fun _ hk => hk.2) (.int .i64 t537)) (fun _ hk => hk.2) (.slice Ao66 t538.length co66)) (fun _ hk => hk.2) (.int .i64 t541)) (fun _ h_ => h_.1)))); (case side4 => exact (Kd.qd HO_510003.out).2.1); rintro e w68 ⟨rfl, hb⟩; refine ⟨_, rfl, ?_⟩; have n0_ := z2.mk (Kd.qf (by (with_reducible repeat (first | apply Kd.R_alloc | apply Kd.y9 | apply Kd.zb)); exact (Kd.yk (Kd.zf (p := ⟨gb542, 4, none⟩) (Kd.zf (p := ⟨gb542, 3, none⟩) (Kd.zf (p := ⟨gb542, 2, none⟩) (Kd.zf (p := ⟨gb542, 1, none⟩) (Kd.zf (p := ⟨gb542, 0, none⟩) (Kd.qp HO_510003.out BK542.out (by decide)) (fun _ hk => hk.2) (.int .i64 t535)) (fun _ hk => hk.2) (.bool t536)) (fun _ hk => hk.2) (.int .i64 t537)) (fun _ hk => hk.2) (.slice Ao66 t538.length co66)) (fun _ hk => hk.2) (.int .i64 t541)) (fun _ h_ => h_.1))) hb); have n1_ := z2.mk (Kd.qf (by (with_reducible repeat (first | apply Kd.R_alloc | apply Kd.y9 | apply Kd.zb)); exact (Kd.yk (Kd.zf (p := ⟨gb542, 4, none⟩) (Kd.zf (p := ⟨gb542, 3, none⟩) (Kd.zf (p := ⟨gb542, 2, none⟩) (Kd.zf (p := ⟨gb542, 1, none⟩) (Kd.zf (p := ⟨gb542, 0, none⟩) (Kd.qp HO_521003.out BK542.out (by decide)) (fun _ hk => hk.2) (.int .i64 t535)) (fun _ hk => hk.2) (.bool t536)) (fun _ hk => hk.2) (.int .i64 t537)) (fun _ hk => hk.2) (.slice Ao66 t538.length co66)) (fun _ hk => hk.2) (.int .i64 t541)) (fun _ h_ => h_.1))) hb); have n2_ := z2.mk (Kd.qf (by (with_reducible repeat (first | apply Kd.R_alloc | apply Kd.y9 | apply Kd.zb)); exact (Kd.yk (Kd.zf (p := ⟨gb542, 4, none⟩) (Kd.zf (p := ⟨gb542, 3, none⟩) (Kd.zf (p := ⟨gb542, 2, none⟩) (Kd.zf (p := ⟨gb542, 1, none⟩) (Kd.zf (p := ⟨gb542, 0, none⟩) (Kd.qp HO534.out BK542.out (by decide)) (fun _ hk => hk.2) (.int .i64 t535)) (fun _ hk => hk.2) (.bool t536)) (fun _ hk => hk.2) (.int .i64 t537)) (fun _ hk => hk.2) (.slice Ao66 t538.length co66)) (fun _ hk => hk.2) (.int .i64 t541)) (fun _ h_ => h_.1))) hb); have n3_ := z2.mk (Kd.qf (by (with_reducible repeat (first | apply Kd.R_alloc | apply Kd.y9 | apply Kd.zb)); exact (Kd.yk (Kd.zf (p := ⟨gb542, 4, none⟩) (Kd.zf (p := ⟨gb542, 3, none⟩) (Kd.zf (p := ⟨gb542, 2, none⟩) (Kd.zf (p := ⟨gb542, 1, none⟩) (Kd.zf (p := ⟨gb542, 0, none⟩) (Kd.qp HO540.out BK542.out (by decide)) (fun _ hk => hk.2) (.int .i64 t535)) (fun _ hk => hk.2) (.bool t536)) (fun _ hk => hk.2) (.int .i64 t537)) (fun _ hk => hk.2) (.slice Ao66 t538.length co66)) (fun _ hk => hk.2) (.int .i64 t541)) (fun _ h_ => h_.1))) hb); have n4_ := z2.mk (z9 (g := gb509) (o := .cells #[.int .i64 t502, .bool t503, .int .i64 t504, .slice Ao19 t505.length co19, .int .i64 t508] 45 (0, 0)) (by (with_reducible repeat (first | refine z5 ?_ _ | refine y6 ?_ | refine y4 ?_ _)); refine zd ?_ NB509_542.out _; (with_reducible repeat (first | refine z5 ?_ _ | refine y6 ?_ | refine y4 ?_ _)); refine zd ?_ NB509_542.out _; (with_reducible repeat (first | refine z5 ?_ _ | refine y6 ?_ | refine y4 ?_ _)); refine zd ?_ NB509_542.out _; (with_reducible repeat (first | refine z5 ?_ _ | refine y6 ?_ | refine y4 ?_ _)); refine zd ?_ NB509_542.out _; (with_reducible repeat (first | refine z5 ?_ _ | refine y6 ?_ | refine y4 ?_ _)); refine zd ?_ NB509_542.out _; (with_reducible repeat (first | refine z5 ?_ _ | refine y6 ?_ | refine y4 ?_ _)); exact BK509.out) hb); have n5_ := z2.mk (z9 (g := gb520) (o := .cells #[.int .i64 t513, .bool t514, .int .i64 t515, .slice Ao26 t516.length co26, .int .i64 t519] 45 (0, 0)) (by (with_reducible repeat (first | refine z5 ?_ _ | refine y6 ?_ | refine y4 ?_ _)); refine zd ?_ NB520_542.out _; (with_reducible repeat (first | refine z5 ?_ _ | refine y6 ?_ | refine y4 ?_ _)); refine zd ?_ NB520_542.out _; (with_reducible repeat (first | refine z5 ?_ _ | refine y6 ?_ | refine y4 ?_ _)); refine zd ?_ NB520_542.out _; (with_reducible repeat (first | refine z5 ?_ _ | refine y6 ?_ | refine y4 ?_ _)); refine zd ?_ NB520_542.out _; (with_reducible repeat (first | refine z5 ?_ _ | refine y6 ?_ | refine y4 ?_ _)); refine zd ?_ NB520_542.out _; (with_reducible repeat (first | refine z5 ?_ _ | refine y6 ?_ | refine y4 ?_ _)); exact BK520.out) hb); have n6_ := z2.mk (z9 (g := gb542) (o := .cells #[.int .i64 t535, .bool t536, .int .i64 t537, .slice Ao66 t538.length co66, .int .i64 t541] 45 (0, 0)) (by (with_reducible repeat (first | refine z5 ?_ _ | refine y6 ?_ | refine y4 ?_ _)); refine qc (cs := #[.int .i64 t535, .bool t536, .int .i64 t537, .slice Ao66 t538.length co66, .int .i64 0]) ?_ 4 _ rfl; (with_reducible repeat (first | refine z5 ?_ _ | refine y6 ?_ | refine y4 ?_ _)); refine qc (cs := #[.int .i64 t535, .bool t536, .int .i64 t537, .slice none 0 0, .int .i64 0]) ?_ 3 _ rfl; (with_reducible repeat (first | refine z5 ?_ _ | refine y6 ?_ | refine y4 ?_ _)); refine qc (cs := #[.int .i64 t535, .bool t536, .int .i64 0, .slice none 0 0, .int .i64 0]) ?_ 2 _ rfl; (with_reducible repeat (first | refine z5 ?_ _ | refine y6 ?_ | refine y4 ?_ _)); refine qc (cs := #[.int .i64 t535, .bool false, .int .i64 0, .slice none 0 0, .int .i64 0]) ?_ 1 _ rfl; (with_reducible repeat (first | refine z5 ?_ _ | refine y6 ?_ | refine y4 ?_ _)); refine qc (cs := #[.int .i64 0, .bool false, .int .i64 0, .slice none 0 0, .int .i64 0]) ?_ 0 _ rfl; (with_reducible repeat (first | refine z5 ?_ _ | refine y6 ?_ | refine y4 ?_ _)); exact BK542.out) hb); have n7_ := z2.mk (y8 (by repeat (first | (with_reducible first | exact HB.out | apply z4 | apply z1 | apply z3 | refine z7 ?_ GE509.out | refine z7 ?_ GE520.out | refine z7 ?_ GE542.out) | exact HB.out)) hb); clear HO_510003 HO_521003 HO534 HO540 BK509 BK520 BK542 HB; have HO_510003 := n0_; have HO_521003 := n1_; have HO534 := n2_; have HO540 := n3_; have BK509 := n4_; have BK520 := n5_; have BK542 := n6_; have HB := n7_; clear n0_ n1_ n2_ n3_ n4_ n5_ n6_ n7_; (try clear hb); (try clear hb2); (try clear hk); (try clear hi); have hcz69_0 : w68.cell? ⟨gb520, 0, none⟩ = some (.int .i64 t513) := (z6 BK520.out 0).trans rfl; have hcz69_1 : w68.cell? ⟨gb520, 1, none⟩ = some (.bool t514) := (z6 BK520.out 1).trans rfl; have hcz69_2 : w68.cell? ⟨gb520, 2, none⟩ = some (.int .i64 t515) := (z6 BK520.out 2).trans rfl; have hcz69_3 : w68.cell? ⟨gb520, 3, none⟩ = some (.slice Ao26 t516.length co26) := (z6 BK520.out 3).trans rfl; have hcz69_4 : w68.cell? ⟨gb520, 4, none⟩ = some (.int .i64 t519) := (z6 BK520.out 4).trans rfl; have hfz69_0 := y5 BK520.out 0; have hfz69_1 := y5 BK520.out 1; have hfz69_2 := y5 BK520.out 2; have hfz69_3 := y5 BK520.out 3; have hfz69_4 := y5 BK520.out 4) | ((with_reducible refine qb (f := 26) rfl ?_); refine zm (some 60) rfl rfl Try.func26 (by kernel_rfl) rfl #[.agg #[.int .i64 t513, .bool t514, .int .i64 t515, .slice Ao26 t530.length co26, .int .i64 t519], .int .i64 1] rfl (by (try simp only [List.map_toArray, List.map_cons, List.map_nil]); first | done | (rw [show t530.length = t516.length from (Kd.qd HO_521003.out).1.symm] <;> rfl) | rfl | (simp only [List.length_drop, List.length_take]; rfl)) ?_; (with_reducible refine (qh.calls kj12 t513 t514 t515 _ _ t530 t519 1 t544 _ ?side1 ?side2 A52.out).mono ?_); (case side1 => repeat (first | exact (Kd.qd HO_521003.out).2.2 | (with_reducible refine Kd.yi ?_ _) | (with_reducible refine Kd.qi ?_ _) | (with_reducible refine Kd.C_drew ?_))); (case side2 => rw [show t530.length = t516.length from (Kd.qd HO_521003.out).1.symm]; exact (Kd.qd HO_521003.out).2.1); rintro e w70 ⟨rfl, hb⟩; refine ⟨_, rfl, ?_⟩; have n0_ := z2.mk (Kd.qf (by (with_reducible repeat (first | apply Kd.R_alloc | apply Kd.y9 | apply Kd.zb)); exact HO_510003.out) hb); have n1_ := z2.mk (Kd.qf (by (with_reducible repeat (first | apply Kd.R_alloc | apply Kd.y9 | apply Kd.zb)); exact HO_521003.out) hb); have n2_ := z2.mk (Kd.qf (by (with_reducible repeat (first | apply Kd.R_alloc | apply Kd.y9 | apply Kd.zb)); exact HO534.out) hb); have n3_ := z2.mk (Kd.qf (by (with_reducible repeat (first | apply Kd.R_alloc | apply Kd.y9 | apply Kd.zb)); exact HO540.out) hb); have n4_ := z2.mk (z9 (g := gb509) (o := .cells #[.int .i64 t502, .bool t503, .int .i64 t504, .slice Ao19 t505.length co19, .int .i64 t508] 45 (0, 0)) (by (with_reducible repeat (first | refine z5 ?_ _ | refine y6 ?_ | refine y4 ?_ _)); exact BK509.out) hb); have n5_ := z2.mk (z9 (g := gb520) (o := .cells #[.int .i64 t513, .bool t514, .int .i64 t515, .slice Ao26 t516.length co26, .int .i64 t519] 45 (0, 0)) (by (with_reducible repeat (first | refine z5 ?_ _ | refine y6 ?_ | refine y4 ?_ _)); exact BK520.out) hb); have n6_ := z2.mk (z9 (g := gb542) (o := .cells #[.int .i64 t535, .bool t536, .int .i64 t537, .slice Ao66 t538.length co66, .int .i64 t541] 45 (0, 0)) (by (with_reducible repeat (first | refine z5 ?_ _ | refine y6 ?_ | refine y4 ?_ _)); exact BK542.out) hb); have n7_ := z2.mk (y8 (by repeat (first | (with_reducible first | exact HB.out | apply z4 | apply z1 | apply z3 | refine z7 ?_ GE509.out | refine z7 ?_ GE520.out | refine z7 ?_ GE542.out) | exact HB.out)) hb); clear HO_510003 HO_521003 HO534 HO540 BK509 BK520 BK542 HB; have HO_510003 := n0_; have HO_521003 := n1_; have HO534 := n2_; have HO540 := n3_; have BK509 := n4_; have BK520 := n5_; have BK542 := n6_; have HB := n7_; clear n0_ n1_ n2_ n3_ n4_ n5_ n6_ n7_; (try clear hb); (try clear hb2); (try clear hk); (try clear hi)))
           go_ret
           exact ⟨by first | rfl | (simp [ya, qa] <;> rfl) | (simp [*, ya, qa] <;> rfl), by repeat (first | (with_reducible first | exact HB.out | apply z4 | apply z1 | apply z3 | refine z7 ?_ GE509.out | refine z7 ?_ GE520.out | refine z7 ?_ GE542.out) | exact HB.out)⟩
          ·rw [if_neg c53] at H
           have c53b0 : decide (t544 < 0) = false := decide_eq_false c53
           clear c53
           by_cases c71 : t544 = t529
           ·rw [if_pos c71] at H
            have c71b0 : (t544 == t529) = true := beq_iff_eq.mpr c71
            have c71b1 : (t544 != t529) = false := bne_eq_false_iff_eq.mpr c71
            clear c71
            obtain rfl := Option.some.inj H
            have hnb72 := NB520_509.out
            have hnc72 := NB509_520.out
            have hcz73_0 : wc.cell? ⟨gb520, 0, none⟩ = some (.int .i64 t513) := (z6 BK520.out 0).trans rfl
            have hcz73_1 : wc.cell? ⟨gb520, 1, none⟩ = some (.bool t514) := (z6 BK520.out 1).trans rfl
            have hcz73_2 : wc.cell? ⟨gb520, 2, none⟩ = some (.int .i64 t515) := (z6 BK520.out 2).trans rfl
            have hcz73_3 : wc.cell? ⟨gb520, 3, none⟩ = some (.slice Ao26 t516.length co26) := (z6 BK520.out 3).trans rfl
            have hcz73_4 : wc.cell? ⟨gb520, 4, none⟩ = some (.int .i64 t519) := (z6 BK520.out 4).trans rfl
            have hfz73_0 := y5 BK520.out 0
            have hfz73_1 := y5 BK520.out 1
            have hfz73_2 := y5 BK520.out 2
            have hfz73_3 := y5 BK520.out 3
            have hfz73_4 := y5 BK520.out 4
            go_wp2_with (first | ((with_reducible refine qb (f := 25) rfl ?_); refine zm (some 42) rfl rfl Try.func25 (by kernel_rfl) rfl #[.agg #[.int .i64 t513, .bool t514, .int .i64 t515, .slice Ao26 t516.length co26, .int .i64 t519], .int .i64 1] rfl (by (try simp only [List.map_toArray, List.map_cons, List.map_nil]); first | done | rfl | (simp only [List.length_drop, List.length_take]; rfl)) ?_; (with_reducible refine (qr.calls kj12 t513 t514 t515 (fun k_ => some k_ = (.slice Ao26 t516.length co26 : Value).ownBlock) (.slice Ao26 t516.length co26) t516 t519 1 t529 t530 w _ ?side1 ?side2 A39.out).mono ?_); (case side1 => repeat (first | (with_reducible first | exact HB.out | apply z4 | apply z1 | apply z3 | refine z7 ?_ GE509.out | refine z7 ?_ GE520.out) | exact HB.out)); (case side2 => exact Kd.q0f rfl HO_521003.out); rintro e w74 ⟨rfl, hy0, hb, hkp⟩; refine ⟨_, rfl, ?_⟩; have n0_ := z2.mk (Kd.yk (ok' := fun k_ => some k_ ≠ (.slice Ao26 t516.length co26 : Value).ownBlock) (Kd.q0h (HO_510003.out) hkp (fun k_ hk_ hs_ => (hk_) hs_)) (fun k_ hk_ => hk_.1)); have n1_ := z2.mk (Kd.q0n rfl hy0 (fun k_ e_ => HO_521003.out.1 k_ e_)); have n2_ := z2.mk (q02 (by (with_reducible repeat (first | refine z5 ?_ _ | refine y6 ?_ | refine y4 ?_ _)); exact BK509.out) hkp (fun hs_ => (fun e_ => (Kd.y0k HO_521003.out BK509.out (by decide)) e_) hs_)); have n3_ := z2.mk (q02 (by (with_reducible repeat (first | refine z5 ?_ _ | refine y6 ?_ | refine y4 ?_ _)); exact BK520.out) hkp (fun hs_ => (fun e_ => (Kd.y0k HO_521003.out BK520.out (by decide)) e_) hs_)); have n4_ := z2.mk (hb); clear HO_510003 HO_521003 BK509 BK520 HB; have HO_510003 := n0_; have HO_521003 := n1_; have BK509 := n2_; have BK520 := n3_; have HB := n4_; clear n0_ n1_ n2_ n3_ n4_; (try clear hb); (try clear hkp); (try clear hy0); have hcz75_0 : w74.cell? ⟨gb520, 0, none⟩ = some (.int .i64 t513) := (z6 BK520.out 0).trans rfl; have hcz75_1 : w74.cell? ⟨gb520, 1, none⟩ = some (.bool t514) := (z6 BK520.out 1).trans rfl; have hcz75_2 : w74.cell? ⟨gb520, 2, none⟩ = some (.int .i64 t515) := (z6 BK520.out 2).trans rfl; have hcz75_3 : w74.cell? ⟨gb520, 3, none⟩ = some (.slice Ao26 t516.length co26) := (z6 BK520.out 3).trans rfl; have hcz75_4 : w74.cell? ⟨gb520, 4, none⟩ = some (.int .i64 t519) := (z6 BK520.out 4).trans rfl; have hfz75_0 := y5 BK520.out 0; have hfz75_1 := y5 BK520.out 1; have hfz75_2 := y5 BK520.out 2; have hfz75_3 := y5 BK520.out 3; have hfz75_4 := y5 BK520.out 4) | ((with_reducible refine qb (f := 26) rfl ?_); refine zm (some 45) rfl rfl Try.func26 (by kernel_rfl) rfl #[.agg #[.int .i64 t513, .bool t514, .int .i64 t515, .slice Ao26 t530.length co26, .int .i64 t519], .int .i64 1] rfl (by (try simp only [List.map_toArray, List.map_cons, List.map_nil]); first | done | (rw [show t530.length = t516.length from (Kd.qd HO_521003.out).1.symm] <;> rfl) | rfl | (simp only [List.length_drop, List.length_take]; rfl)) ?_; (with_reducible refine (qh.calls kj12 t513 t514 t515 _ _ t530 t519 1 t531 _ ?side1 ?side2 A40.out).mono ?_); (case side1 => repeat (first | exact (Kd.qd HO_521003.out).2.2 | (with_reducible refine Kd.yi ?_ _) | (with_reducible refine Kd.qi ?_ _) | (with_reducible refine Kd.C_drew ?_))); (case side2 => rw [show t530.length = t516.length from (Kd.qd HO_521003.out).1.symm]; exact (Kd.qd HO_521003.out).2.1); rintro e w76 ⟨rfl, hb⟩; refine ⟨_, rfl, ?_⟩; have n0_ := z2.mk (Kd.qf (by (with_reducible repeat (first | apply Kd.R_alloc | apply Kd.y9 | apply Kd.zb)); exact HO_510003.out) hb); have n1_ := z2.mk (Kd.qf (by (with_reducible repeat (first | apply Kd.R_alloc | apply Kd.y9 | apply Kd.zb)); exact HO_521003.out) hb); have n2_ := z2.mk (z9 (g := gb509) (o := .cells #[.int .i64 t502, .bool t503, .int .i64 t504, .slice Ao19 t505.length co19, .int .i64 t508] 45 (0, 0)) (by (with_reducible repeat (first | refine z5 ?_ _ | refine y6 ?_ | refine y4 ?_ _)); exact BK509.out) hb); have n3_ := z2.mk (z9 (g := gb520) (o := .cells #[.int .i64 t513, .bool t514, .int .i64 t515, .slice Ao26 t516.length co26, .int .i64 t519] 45 (0, 0)) (by (with_reducible repeat (first | refine z5 ?_ _ | refine y6 ?_ | refine y4 ?_ _)); exact BK520.out) hb); have n4_ := z2.mk (y8 (by repeat (first | (with_reducible first | exact HB.out | apply z4 | apply z1 | apply z3 | refine z7 ?_ GE509.out | refine z7 ?_ GE520.out) | exact HB.out)) hb); clear HO_510003 HO_521003 BK509 BK520 HB; have HO_510003 := n0_; have HO_521003 := n1_; have BK509 := n2_; have BK520 := n3_; have HB := n4_; clear n0_ n1_ n2_ n3_ n4_; (try clear hb); (try clear hb2); (try clear hk); (try clear hi)) | ((with_reducible refine qb (f := 20) rfl ?_); refine zm (some 52) rfl rfl Try.func20 (by kernel_rfl) rfl #[.slice A0 l0.length c0] rfl (by (try simp only [List.map_toArray, List.map_cons, List.map_nil]); first | done | rfl | (simp only [List.length_drop, List.length_take]; rfl)) ?_; (with_reducible refine (zk.calls kj12 _ _ l0 t532 _ ?side1 ?side2 A48.out).mono ?_); (case side1 => repeat (first | exact (Kd.yp HR0.out HB.out) | (with_reducible refine Kd.yi ?_ _) | (with_reducible refine Kd.qi ?_ _) | (with_reducible refine Kd.C_drew ?_))); (case side2 => exact HC0.out); rintro e w77 ⟨v533, rfl, ho0, hb⟩; refine ⟨_, rfl, ?_⟩; have n0_ := z2.mk (Kd.qf (by (with_reducible repeat (first | apply Kd.R_alloc | apply Kd.y9 | apply Kd.zb)); exact HO_510003.out) hb); have n1_ := z2.mk (Kd.qf (by (with_reducible repeat (first | apply Kd.R_alloc | apply Kd.y9 | apply Kd.zb)); exact HO_521003.out) hb); have n2_ := z2.mk (Kd.yr ho0 (z8 (by repeat (first | (with_reducible first | exact HB.out | apply z4 | apply z1 | apply z3 | refine z7 ?_ GE509.out | refine z7 ?_ GE520.out) | exact HB.out)))); have n3_ := z2.mk (z9 (g := gb509) (o := .cells #[.int .i64 t502, .bool t503, .int .i64 t504, .slice Ao19 t505.length co19, .int .i64 t508] 45 (0, 0)) (by (with_reducible repeat (first | refine z5 ?_ _ | refine y6 ?_ | refine y4 ?_ _)); exact BK509.out) hb); have n4_ := z2.mk (z9 (g := gb520) (o := .cells #[.int .i64 t513, .bool t514, .int .i64 t515, .slice Ao26 t516.length co26, .int .i64 t519] 45 (0, 0)) (by (with_reducible repeat (first | refine z5 ?_ _ | refine y6 ?_ | refine y4 ?_ _)); exact BK520.out) hb); have n5_ := z2.mk (y8 (by repeat (first | (with_reducible first | exact HB.out | apply z4 | apply z1 | apply z3 | refine z7 ?_ GE509.out | refine z7 ?_ GE520.out) | exact HB.out)) hb); clear HO_510003 HO_521003 BK509 BK520 HB; have HO_510003 := n0_; have HO_521003 := n1_; have HO534 := n2_; have BK509 := n3_; have BK520 := n4_; have HB := n5_; clear n0_ n1_ n2_ n3_ n4_ n5_; (try clear hb); (try clear hb2); (try clear hk); (try clear hi); (try clear ho0); obtain ⟨Ao78, co78, eo78⟩ := Kd.zt HO534.out; subst eo78) | ((with_reducible refine qb (f := 21) rfl ?_); refine zm (some 53) rfl rfl Try.func21 (by kernel_rfl) rfl #[.slice Ao78 t532.length co78] rfl (by (try simp only [List.map_toArray, List.map_cons, List.map_nil]); first | done | rfl | (simp only [List.length_drop, List.length_take]; rfl)) ?_; (with_reducible refine (qn.calls kj12 _ _ t532 t535 t536 t537 t538 t541 _ ?side1 ?side2 A49.out).mono ?_); (case side1 => repeat (first | exact (Kd.qd HO534.out).2.2 | (with_reducible refine Kd.yi ?_ _) | (with_reducible refine Kd.qi ?_ _) | (with_reducible refine Kd.C_drew ?_))); (case side2 => exact (Kd.qd HO534.out).2.1); rintro e w79 ⟨v539, rfl, ho0, hb⟩; refine ⟨_, rfl, ?_⟩; have n0_ := z2.mk (Kd.qu (by (with_reducible repeat (first | apply Kd.R_alloc | apply Kd.y9 | apply Kd.zb)); exact HO_510003.out) (Kd.z00 ho0) hb); have n1_ := z2.mk (Kd.qu (by (with_reducible repeat (first | apply Kd.R_alloc | apply Kd.y9 | apply Kd.zb)); exact HO_521003.out) (Kd.z00 ho0) hb); have n2_ := z2.mk (Kd.qf (by (with_reducible repeat (first | apply Kd.R_alloc | apply Kd.y9 | apply Kd.zb)); exact HO534.out) hb); have n3_ := z2.mk (Kd.yr (Kd.y00 (Kd.y00 ho0 (Kd.q0e (by (with_reducible repeat (first | apply Kd.R_alloc | apply Kd.y9 | apply Kd.zb)); exact HO_510003.out))) (Kd.q0e (by (with_reducible repeat (first | apply Kd.R_alloc | apply Kd.y9 | apply Kd.zb)); exact HO_521003.out))) (z8 (by repeat (first | (with_reducible first | exact HB.out | apply z4 | apply z1 | apply z3 | refine z7 ?_ GE509.out | refine z7 ?_ GE520.out) | exact HB.out)))); have n4_ := z2.mk (z9 (g := gb509) (o := .cells #[.int .i64 t502, .bool t503, .int .i64 t504, .slice Ao19 t505.length co19, .int .i64 t508] 45 (0, 0)) (by (with_reducible repeat (first | refine z5 ?_ _ | refine y6 ?_ | refine y4 ?_ _)); exact BK509.out) hb); have n5_ := z2.mk (z9 (g := gb520) (o := .cells #[.int .i64 t513, .bool t514, .int .i64 t515, .slice Ao26 t516.length co26, .int .i64 t519] 45 (0, 0)) (by (with_reducible repeat (first | refine z5 ?_ _ | refine y6 ?_ | refine y4 ?_ _)); exact BK520.out) hb); have n6_ := z2.mk (y8 (by repeat (first | (with_reducible first | exact HB.out | apply z4 | apply z1 | apply z3 | refine z7 ?_ GE509.out | refine z7 ?_ GE520.out) | exact HB.out)) hb); clear HO_510003 HO_521003 HO534 BK509 BK520 HB; have HO_510003 := n0_; have HO_521003 := n1_; have HO534 := n2_; have HO540 := n3_; have BK509 := n4_; have BK520 := n5_; have HB := n6_; clear n0_ n1_ n2_ n3_ n4_ n5_ n6_; (try clear hb); (try clear hb2); (try clear hk); (try clear hi); (try clear ho0)) | ((with_reducible refine ye (N := 9) rfl ?_); refine ze ?hg (N := 9) ?hd (cs := #[.int .i64 0, .bool false, .int .i64 0, .slice none 0 0, .int .i64 0]) (t := 45) ?hr ?_; (case hd => rfl); (case hg => rfl); (case hr => first | (go_simp; done) | (go_simp; rfl)); intro gb542 hg w80 hbox hb; have n0_ := z2.mk (Kd.qf (by (with_reducible repeat (first | apply Kd.R_alloc | apply Kd.y9 | apply Kd.zb)); exact HO_510003.out) hb); have n1_ := z2.mk (Kd.qf (by (with_reducible repeat (first | apply Kd.R_alloc | apply Kd.y9 | apply Kd.zb)); exact HO_521003.out) hb); have n2_ := z2.mk (Kd.qf (by (with_reducible repeat (first | apply Kd.R_alloc | apply Kd.y9 | apply Kd.zb)); exact HO534.out) hb); have n3_ := z2.mk (Kd.qf (by (with_reducible repeat (first | apply Kd.R_alloc | apply Kd.y9 | apply Kd.zb)); exact HO540.out) hb); have n4_ := z2.mk (z9 (g := gb509) (o := .cells #[.int .i64 t502, .bool t503, .int .i64 t504, .slice Ao19 t505.length co19, .int .i64 t508] 45 (0, 0)) (by (with_reducible repeat (first | refine z5 ?_ _ | refine y6 ?_ | refine y4 ?_ _)); exact BK509.out) hb); have n5_ := z2.mk (z9 (g := gb520) (o := .cells #[.int .i64 t513, .bool t514, .int .i64 t515, .slice Ao26 t516.length co26, .int .i64 t519] 45 (0, 0)) (by (with_reducible repeat (first | refine z5 ?_ _ | refine y6 ?_ | refine y4 ?_ _)); exact BK520.out) hb); have n6_ := z2.mk (y8 (by repeat (first | (with_reducible first | exact HB.out | apply z4 | apply z1 | apply z3 | refine z7 ?_ GE509.out | refine z7 ?_ GE520.out) | exact HB.out)) hb); have n7_ := z2.mk (hbox); have n8_ := z2.mk ((by rw [hg]; exact (z8 (by repeat (first | (with_reducible first | exact HB.out | apply z4 | apply z1 | apply z3 | refine z7 ?_ GE509.out | refine z7 ?_ GE520.out) | exact HB.out))) : w.heap.size ≤ gb542)); have n9_ := z2.mk ((by rw [hg]; exact (z8 (by repeat (first | (with_reducible first | exact HB.out | apply z4 | apply z1 | apply z3 | refine z7 ?_ GE509.out | refine z7 ?_ GE520.out) | exact HB.out))) : w.heap.size ≤ gb542)); have n10_ := z2.mk ((by rw [hg]; exact Nat.ne_of_lt (qk (g := gb509) (o := .cells #[.int .i64 t502, .bool t503, .int .i64 t504, .slice Ao19 t505.length co19, .int .i64 t508] 45 (0, 0)) (by (with_reducible repeat (first | refine z5 ?_ _ | refine y6 ?_ | refine y4 ?_ _)); exact BK509.out)) : gb509 ≠ gb542)); have n11_ := z2.mk ((by rw [hg]; exact Nat.ne_of_gt (qk (g := gb509) (o := .cells #[.int .i64 t502, .bool t503, .int .i64 t504, .slice Ao19 t505.length co19, .int .i64 t508] 45 (0, 0)) (by (with_reducible repeat (first | refine z5 ?_ _ | refine y6 ?_ | refine y4 ?_ _)); exact BK509.out)) : gb542 ≠ gb509)); have n12_ := z2.mk ((by rw [hg]; exact Nat.ne_of_lt (qk (g := gb520) (o := .cells #[.int .i64 t513, .bool t514, .int .i64 t515, .slice Ao26 t516.length co26, .int .i64 t519] 45 (0, 0)) (by (with_reducible repeat (first | refine z5 ?_ _ | refine y6 ?_ | refine y4 ?_ _)); exact BK520.out)) : gb520 ≠ gb542)); have n13_ := z2.mk ((by rw [hg]; exact Nat.ne_of_gt (qk (g := gb520) (o := .cells #[.int .i64 t513, .bool t514, .int .i64 t515, .slice Ao26 t516.length co26, .int .i64 t519] 45 (0, 0)) (by (with_reducible repeat (first | refine z5 ?_ _ | refine y6 ?_ | refine y4 ?_ _)); exact BK520.out)) : gb542 ≠ gb520)); clear HO_510003 HO_521003 HO534 HO540 BK509 BK520 HB; have HO_510003 := n0_; have HO_521003 := n1_; have HO534 := n2_; have HO540 := n3_; have BK509 := n4_; have BK520 := n5_; have HB := n6_; have BK542 := n7_; have GW542 := n8_; have GE542 := n9_; have NB509_542 := n10_; have NB542_509 := n11_; have NB520_542 := n12_; have NB542_520 := n13_; clear n0_ n1_ n2_ n3_ n4_ n5_ n6_ n7_ n8_ n9_ n10_ n11_ n12_ n13_ hb hbox hg; have hnb81 := NB542_509.out; have hnc81 := NB509_542.out; have hnb82 := NB542_520.out; have hnc82 := NB520_542.out; have hcz83_0 : w80.cell? ⟨gb542, 0, none⟩ = some (.int .i64 0) := (z6 BK542.out 0).trans rfl; have hcz83_1 : w80.cell? ⟨gb542, 1, none⟩ = some (.bool false) := (z6 BK542.out 1).trans rfl; have hcz83_2 : w80.cell? ⟨gb542, 2, none⟩ = some (.int .i64 0) := (z6 BK542.out 2).trans rfl; have hcz83_3 : w80.cell? ⟨gb542, 3, none⟩ = some (.slice none 0 0) := (z6 BK542.out 3).trans rfl; have hcz83_4 : w80.cell? ⟨gb542, 4, none⟩ = some (.int .i64 0) := (z6 BK542.out 4).trans rfl; have hfz83_0 := y5 BK542.out 0; have hfz83_1 := y5 BK542.out 1; have hfz83_2 := y5 BK542.out 2; have hfz83_3 := y5 BK542.out 3; have hfz83_4 := y5 BK542.out 4; obtain ⟨Ao84, co84, eo84⟩ := Kd.zt HO540.out; subst eo84; have hcz85_0 : w80.cell? ⟨gb509, 0, none⟩ = some (.int .i64 t502) := (z6 BK509.out 0).trans rfl; have hcz85_1 : w80.cell? ⟨gb509, 1, none⟩ = some (.bool t503) := (z6 BK509.out 1).trans rfl; have hcz85_2 : w80.cell? ⟨gb509, 2, none⟩ = some (.int .i64 t504) := (z6 BK509.out 2).trans rfl; have hcz85_3 : w80.cell? ⟨gb509, 3, none⟩ = some (.slice Ao19 t505.length co19) := (z6 BK509.out 3).trans rfl; have hcz85_4 : w80.cell? ⟨gb509, 4, none⟩ = some (.int .i64 t508) := (z6 BK509.out 4).trans rfl; have hfz85_0 := y5 BK509.out 0; have hfz85_1 := y5 BK509.out 1; have hfz85_2 := y5 BK509.out 2; have hfz85_3 := y5 BK509.out 3; have hfz85_4 := y5 BK509.out 4) | ((with_reducible refine qb (f := 22) rfl ?_); refine zm (some 56) rfl rfl Try.func22 (by kernel_rfl) rfl #[.agg #[.int .i64 t535, .bool t536, .int .i64 t537, .slice Ao84 t538.length co84, .int .i64 t541], .agg #[.int .i64 t502, .bool t503, .int .i64 t504, .slice Ao19 t505.length co19, .int .i64 t508]] rfl (by (try simp only [List.map_toArray, List.map_cons, List.map_nil]); first | done | rfl | (simp only [List.length_drop, List.length_take]; rfl)) ?_; (with_reducible refine (qe.calls kj12 t535 t536 t537 _ _ t538 t541 t502 t503 t504 _ _ t505 t508 true _ ?side1 ?side2 ?side3 ?side4 A50.out).mono ?_); (case side1 => refine (Kd.qd (e := 138) (base := w.heap.size) (ok := fun k_ => ((True ∧ some k_ ≠ (.slice Ao19 t505.length co19 : Value).ownBlock) ∧ some k_ ≠ (.slice Ao26 t516.length co26 : Value).ownBlock)) (n := t538.length) (c := co84) ?_).2.2; exact (by (with_reducible repeat (first | apply Kd.R_alloc | apply Kd.y9 | apply Kd.zb)); exact (Kd.yk (Kd.zf (p := ⟨gb542, 4, none⟩) (Kd.zf (p := ⟨gb542, 3, none⟩) (Kd.zf (p := ⟨gb542, 2, none⟩) (Kd.zf (p := ⟨gb542, 1, none⟩) (Kd.zf (p := ⟨gb542, 0, none⟩) (Kd.qp HO540.out BK542.out (by decide)) (fun _ hk => hk.2) (.int .i64 t535)) (fun _ hk => hk.2) (.bool t536)) (fun _ hk => hk.2) (.int .i64 t537)) (fun _ hk => hk.2) (.slice Ao84 t538.length co84)) (fun _ hk => hk.2) (.int .i64 t541)) (fun _ h_ => h_.1)))); (case side2 => exact (Kd.qd HO540.out).2.1); (case side3 => refine (Kd.qd (e := 138) (base := w.heap.size) (ok := fun k_ => (some k_ ≠ (.slice Ao26 t516.length co26 : Value).ownBlock ∧ some k_ ≠ (.slice Ao84 t538.length co84 : Value).ownBlock)) (n := t505.length) (c := co19) ?_).2.2; exact (by (with_reducible repeat (first | apply Kd.R_alloc | apply Kd.y9 | apply Kd.zb)); exact (Kd.yk (Kd.zf (p := ⟨gb542, 4, none⟩) (Kd.zf (p := ⟨gb542, 3, none⟩) (Kd.zf (p := ⟨gb542, 2, none⟩) (Kd.zf (p := ⟨gb542, 1, none⟩) (Kd.zf (p := ⟨gb542, 0, none⟩) (Kd.qp HO_510003.out BK542.out (by decide)) (fun _ hk => hk.2) (.int .i64 t535)) (fun _ hk => hk.2) (.bool t536)) (fun _ hk => hk.2) (.int .i64 t537)) (fun _ hk => hk.2) (.slice Ao84 t538.length co84)) (fun _ hk => hk.2) (.int .i64 t541)) (fun _ h_ => h_.1)))); (case side4 => exact (Kd.qd HO_510003.out).2.1); rintro e w86 ⟨rfl, hb⟩; refine ⟨_, rfl, ?_⟩; have n0_ := z2.mk (Kd.qf (by (with_reducible repeat (first | apply Kd.R_alloc | apply Kd.y9 | apply Kd.zb)); exact (Kd.yk (Kd.zf (p := ⟨gb542, 4, none⟩) (Kd.zf (p := ⟨gb542, 3, none⟩) (Kd.zf (p := ⟨gb542, 2, none⟩) (Kd.zf (p := ⟨gb542, 1, none⟩) (Kd.zf (p := ⟨gb542, 0, none⟩) (Kd.qp HO_510003.out BK542.out (by decide)) (fun _ hk => hk.2) (.int .i64 t535)) (fun _ hk => hk.2) (.bool t536)) (fun _ hk => hk.2) (.int .i64 t537)) (fun _ hk => hk.2) (.slice Ao84 t538.length co84)) (fun _ hk => hk.2) (.int .i64 t541)) (fun _ h_ => h_.1))) hb); have n1_ := z2.mk (Kd.qf (by (with_reducible repeat (first | apply Kd.R_alloc | apply Kd.y9 | apply Kd.zb)); exact (Kd.yk (Kd.zf (p := ⟨gb542, 4, none⟩) (Kd.zf (p := ⟨gb542, 3, none⟩) (Kd.zf (p := ⟨gb542, 2, none⟩) (Kd.zf (p := ⟨gb542, 1, none⟩) (Kd.zf (p := ⟨gb542, 0, none⟩) (Kd.qp HO_521003.out BK542.out (by decide)) (fun _ hk => hk.2) (.int .i64 t535)) (fun _ hk => hk.2) (.bool t536)) (fun _ hk => hk.2) (.int .i64 t537)) (fun _ hk => hk.2) (.slice Ao84 t538.length co84)) (fun _ hk => hk.2) (.int .i64 t541)) (fun _ h_ => h_.1))) hb); have n2_ := z2.mk (Kd.qf (by (with_reducible repeat (first | apply Kd.R_alloc | apply Kd.y9 | apply Kd.zb)); exact (Kd.yk (Kd.zf (p := ⟨gb542, 4, none⟩) (Kd.zf (p := ⟨gb542, 3, none⟩) (Kd.zf (p := ⟨gb542, 2, none⟩) (Kd.zf (p := ⟨gb542, 1, none⟩) (Kd.zf (p := ⟨gb542, 0, none⟩) (Kd.qp HO534.out BK542.out (by decide)) (fun _ hk => hk.2) (.int .i64 t535)) (fun _ hk => hk.2) (.bool t536)) (fun _ hk => hk.2) (.int .i64 t537)) (fun _ hk => hk.2) (.slice Ao84 t538.length co84)) (fun _ hk => hk.2) (.int .i64 t541)) (fun _ h_ => h_.1))) hb); have n3_ := z2.mk (Kd.qf (by (with_reducible repeat (first | apply Kd.R_alloc | apply Kd.y9 | apply Kd.zb)); exact (Kd.yk (Kd.zf (p := ⟨gb542, 4, none⟩) (Kd.zf (p := ⟨gb542, 3, none⟩) (Kd.zf (p := ⟨gb542, 2, none⟩) (Kd.zf (p := ⟨gb542, 1, none⟩) (Kd.zf (p := ⟨gb542, 0, none⟩) (Kd.qp HO540.out BK542.out (by decide)) (fun _ hk => hk.2) (.int .i64 t535)) (fun _ hk => hk.2) (.bool t536)) (fun _ hk => hk.2) (.int .i64 t537)) (fun _ hk => hk.2) (.slice Ao84 t538.length co84)) (fun _ hk => hk.2) (.int .i64 t541)) (fun _ h_ => h_.1))) hb); have n4_ := z2.mk (z9 (g := gb509) (o := .cells #[.int .i64 t502, .bool t503, .int .i64 t504, .slice Ao19 t505.length co19, .int .i64 t508] 45 (0, 0)) (by (with_reducible repeat (first | refine z5 ?_ _ | refine y6 ?_ | refine y4 ?_ _)); refine zd ?_ NB509_542.out _; (with_reducible repeat (first | refine z5 ?_ _ | refine y6 ?_ | refine y4 ?_ _)); refine zd ?_ NB509_542.out _; (with_reducible repeat (first | refine z5 ?_ _ | refine y6 ?_ | refine y4 ?_ _)); refine zd ?_ NB509_542.out _; (with_reducible repeat (first | refine z5 ?_ _ | refine y6 ?_ | refine y4 ?_ _)); refine zd ?_ NB509_542.out _; (with_reducible repeat (first | refine z5 ?_ _ | refine y6 ?_ | refine y4 ?_ _)); refine zd ?_ NB509_542.out _; (with_reducible repeat (first | refine z5 ?_ _ | refine y6 ?_ | refine y4 ?_ _)); exact BK509.out) hb); have n5_ := z2.mk (z9 (g := gb520) (o := .cells #[.int .i64 t513, .bool t514, .int .i64 t515, .slice Ao26 t516.length co26, .int .i64 t519] 45 (0, 0)) (by (with_reducible repeat (first | refine z5 ?_ _ | refine y6 ?_ | refine y4 ?_ _)); refine zd ?_ NB520_542.out _; (with_reducible repeat (first | refine z5 ?_ _ | refine y6 ?_ | refine y4 ?_ _)); refine zd ?_ NB520_542.out _; (with_reducible repeat (first | refine z5 ?_ _ | refine y6 ?_ | refine y4 ?_ _)); refine zd ?_ NB520_542.out _; (with_reducible repeat (first | refine z5 ?_ _ | refine y6 ?_ | refine y4 ?_ _)); refine zd ?_ NB520_542.out _; (with_reducible repeat (first | refine z5 ?_ _ | refine y6 ?_ | refine y4 ?_ _)); refine zd ?_ NB520_542.out _; (with_reducible repeat (first | refine z5 ?_ _ | refine y6 ?_ | refine y4 ?_ _)); exact BK520.out) hb); have n6_ := z2.mk (z9 (g := gb542) (o := .cells #[.int .i64 t535, .bool t536, .int .i64 t537, .slice Ao84 t538.length co84, .int .i64 t541] 45 (0, 0)) (by (with_reducible repeat (first | refine z5 ?_ _ | refine y6 ?_ | refine y4 ?_ _)); refine qc (cs := #[.int .i64 t535, .bool t536, .int .i64 t537, .slice Ao84 t538.length co84, .int .i64 0]) ?_ 4 _ rfl; (with_reducible repeat (first | refine z5 ?_ _ | refine y6 ?_ | refine y4 ?_ _)); refine qc (cs := #[.int .i64 t535, .bool t536, .int .i64 t537, .slice none 0 0, .int .i64 0]) ?_ 3 _ rfl; (with_reducible repeat (first | refine z5 ?_ _ | refine y6 ?_ | refine y4 ?_ _)); refine qc (cs := #[.int .i64 t535, .bool t536, .int .i64 0, .slice none 0 0, .int .i64 0]) ?_ 2 _ rfl; (with_reducible repeat (first | refine z5 ?_ _ | refine y6 ?_ | refine y4 ?_ _)); refine qc (cs := #[.int .i64 t535, .bool false, .int .i64 0, .slice none 0 0, .int .i64 0]) ?_ 1 _ rfl; (with_reducible repeat (first | refine z5 ?_ _ | refine y6 ?_ | refine y4 ?_ _)); refine qc (cs := #[.int .i64 0, .bool false, .int .i64 0, .slice none 0 0, .int .i64 0]) ?_ 0 _ rfl; (with_reducible repeat (first | refine z5 ?_ _ | refine y6 ?_ | refine y4 ?_ _)); exact BK542.out) hb); have n7_ := z2.mk (y8 (by repeat (first | (with_reducible first | exact HB.out | apply z4 | apply z1 | apply z3 | refine z7 ?_ GE509.out | refine z7 ?_ GE520.out | refine z7 ?_ GE542.out) | exact HB.out)) hb); clear HO_510003 HO_521003 HO534 HO540 BK509 BK520 BK542 HB; have HO_510003 := n0_; have HO_521003 := n1_; have HO534 := n2_; have HO540 := n3_; have BK509 := n4_; have BK520 := n5_; have BK542 := n6_; have HB := n7_; clear n0_ n1_ n2_ n3_ n4_ n5_ n6_ n7_; (try clear hb); (try clear hb2); (try clear hk); (try clear hi); have hcz87_0 : w86.cell? ⟨gb520, 0, none⟩ = some (.int .i64 t513) := (z6 BK520.out 0).trans rfl; have hcz87_1 : w86.cell? ⟨gb520, 1, none⟩ = some (.bool t514) := (z6 BK520.out 1).trans rfl; have hcz87_2 : w86.cell? ⟨gb520, 2, none⟩ = some (.int .i64 t515) := (z6 BK520.out 2).trans rfl; have hcz87_3 : w86.cell? ⟨gb520, 3, none⟩ = some (.slice Ao26 t516.length co26) := (z6 BK520.out 3).trans rfl; have hcz87_4 : w86.cell? ⟨gb520, 4, none⟩ = some (.int .i64 t519) := (z6 BK520.out 4).trans rfl; have hfz87_0 := y5 BK520.out 0; have hfz87_1 := y5 BK520.out 1; have hfz87_2 := y5 BK520.out 2; have hfz87_3 := y5 BK520.out 3; have hfz87_4 := y5 BK520.out 4) | ((with_reducible refine qb (f := 26) rfl ?_); refine zm (some 60) rfl rfl Try.func26 (by kernel_rfl) rfl #[.agg #[.int .i64 t513, .bool t514, .int .i64 t515, .slice Ao26 t530.length co26, .int .i64 t519], .int .i64 1] rfl (by (try simp only [List.map_toArray, List.map_cons, List.map_nil]); first | done | (rw [show t530.length = t516.length from (Kd.qd HO_521003.out).1.symm] <;> rfl) | rfl | (simp only [List.length_drop, List.length_take]; rfl)) ?_; (with_reducible refine (qh.calls kj12 t513 t514 t515 _ _ t530 t519 1 t544 _ ?side1 ?side2 A52.out).mono ?_); (case side1 => repeat (first | exact (Kd.qd HO_521003.out).2.2 | (with_reducible refine Kd.yi ?_ _) | (with_reducible refine Kd.qi ?_ _) | (with_reducible refine Kd.C_drew ?_))); (case side2 => rw [show t530.length = t516.length from (Kd.qd HO_521003.out).1.symm]; exact (Kd.qd HO_521003.out).2.1); rintro e w88 ⟨rfl, hb⟩; refine ⟨_, rfl, ?_⟩; have n0_ := z2.mk (Kd.qf (by (with_reducible repeat (first | apply Kd.R_alloc | apply Kd.y9 | apply Kd.zb)); exact HO_510003.out) hb); have n1_ := z2.mk (Kd.qf (by (with_reducible repeat (first | apply Kd.R_alloc | apply Kd.y9 | apply Kd.zb)); exact HO_521003.out) hb); have n2_ := z2.mk (Kd.qf (by (with_reducible repeat (first | apply Kd.R_alloc | apply Kd.y9 | apply Kd.zb)); exact HO534.out) hb); have n3_ := z2.mk (Kd.qf (by (with_reducible repeat (first | apply Kd.R_alloc | apply Kd.y9 | apply Kd.zb)); exact HO540.out) hb); have n4_ := z2.mk (z9 (g := gb509) (o := .cells #[.int .i64 t502, .bool t503, .int .i64 t504, .slice Ao19 t505.length co19, .int .i64 t508] 45 (0, 0)) (by (with_reducible repeat (first | refine z5 ?_ _ | refine y6 ?_ | refine y4 ?_ _)); exact BK509.out) hb); have n5_ := z2.mk (z9 (g := gb520) (o := .cells #[.int .i64 t513, .bool t514, .int .i64 t515, .slice Ao26 t516.length co26, .int .i64 t519] 45 (0, 0)) (by (with_reducible repeat (first | refine z5 ?_ _ | refine y6 ?_ | refine y4 ?_ _)); exact BK520.out) hb); have n6_ := z2.mk (z9 (g := gb542) (o := .cells #[.int .i64 t535, .bool t536, .int .i64 t537, .slice Ao84 t538.length co84, .int .i64 t541] 45 (0, 0)) (by (with_reducible repeat (first | refine z5 ?_ _ | refine y6 ?_ | refine y4 ?_ _)); exact BK542.out) hb); have n7_ := z2.mk (y8 (by repeat (first | (with_reducible first | exact HB.out | apply z4 | apply z1 | apply z3 | refine z7 ?_ GE509.out | refine z7 ?_ GE520.out | refine z7 ?_ GE542.out) | exact HB.out)) hb); clear HO_510003 HO_521003 HO534 HO540 BK509 BK520 BK542 HB; have HO_510003 := n0_; have HO_521003 := n1_; have HO534 := n2_; have HO540 := n3_; have BK509 := n4_; have BK520 := n5_; have BK542 := n6_; have HB := n7_; clear n0_ n1_ n2_ n3_ n4_ n5_ n6_ n7_; (try clear hb); (try clear hb2); (try clear hk); (try clear hi)))
            go_ret
            exact ⟨by first | rfl | (simp [ya, qa] <;> rfl) | (simp [*, ya, qa] <;> rfl), by repeat (first | (with_reducible first | exact HB.out | apply z4 | apply z1 | apply z3 | refine z7 ?_ GE509.out | refine z7 ?_ GE520.out | refine z7 ?_ GE542.out) | exact HB.out)⟩
           ·rw [if_neg c71] at H
            have c71b0 : (t544 == t529) = false := beq_eq_false_iff_ne.mpr c71
            have c71b1 : (t544 != t529) = true := bne_iff_ne.mpr c71
            obtain rfl := Option.some.inj H
            have hnb89 := NB520_509.out
            have hnc89 := NB509_520.out
            have hcz90_0 : wc.cell? ⟨gb520, 0, none⟩ = some (.int .i64 t513) := (z6 BK520.out 0).trans rfl
            have hcz90_1 : wc.cell? ⟨gb520, 1, none⟩ = some (.bool t514) := (z6 BK520.out 1).trans rfl
            have hcz90_2 : wc.cell? ⟨gb520, 2, none⟩ = some (.int .i64 t515) := (z6 BK520.out 2).trans rfl
            have hcz90_3 : wc.cell? ⟨gb520, 3, none⟩ = some (.slice Ao26 t516.length co26) := (z6 BK520.out 3).trans rfl
            have hcz90_4 : wc.cell? ⟨gb520, 4, none⟩ = some (.int .i64 t519) := (z6 BK520.out 4).trans rfl
            have hfz90_0 := y5 BK520.out 0
            have hfz90_1 := y5 BK520.out 1
            have hfz90_2 := y5 BK520.out 2
            have hfz90_3 := y5 BK520.out 3
            have hfz90_4 := y5 BK520.out 4
            go_wp2_with (first | ((with_reducible refine qb (f := 25) rfl ?_); refine zm (some 42) rfl rfl Try.func25 (by kernel_rfl) rfl #[.agg #[.int .i64 t513, .bool t514, .int .i64 t515, .slice Ao26 t516.length co26, .int .i64 t519], .int .i64 1] rfl (by (try simp only [List.map_toArray, List.map_cons, List.map_nil]); first | done | rfl | (simp only [List.length_drop, List.length_take]; rfl)) ?_; (with_reducible refine (qr.calls kj12 t513 t514 t515 (fun k_ => some k_ = (.slice Ao26 t516.length co26 : Value).ownBlock) (.slice Ao26 t516.length co26) t516 t519 1 t529 t530 w _ ?side1 ?side2 A39.out).mono ?_); (case side1 => repeat (first | (with_reducible first | exact HB.out | apply z4 | apply z1 | apply z3 | refine z7 ?_ GE509.out | refine z7 ?_ GE520.out) | exact HB.out)); (case side2 => exact Kd.q0f rfl HO_521003.out); rintro e w91 ⟨rfl, hy0, hb, hkp⟩; refine ⟨_, rfl, ?_⟩; have n0_ := z2.mk (Kd.yk (ok' := fun k_ => some k_ ≠ (.slice Ao26 t516.length co26 : Value).ownBlock) (Kd.q0h (HO_510003.out) hkp (fun k_ hk_ hs_ => (hk_) hs_)) (fun k_ hk_ => hk_.1)); have n1_ := z2.mk (Kd.q0n rfl hy0 (fun k_ e_ => HO_521003.out.1 k_ e_)); have n2_ := z2.mk (q02 (by (with_reducible repeat (first | refine z5 ?_ _ | refine y6 ?_ | refine y4 ?_ _)); exact BK509.out) hkp (fun hs_ => (fun e_ => (Kd.y0k HO_521003.out BK509.out (by decide)) e_) hs_)); have n3_ := z2.mk (q02 (by (with_reducible repeat (first | refine z5 ?_ _ | refine y6 ?_ | refine y4 ?_ _)); exact BK520.out) hkp (fun hs_ => (fun e_ => (Kd.y0k HO_521003.out BK520.out (by decide)) e_) hs_)); have n4_ := z2.mk (hb); clear HO_510003 HO_521003 BK509 BK520 HB; have HO_510003 := n0_; have HO_521003 := n1_; have BK509 := n2_; have BK520 := n3_; have HB := n4_; clear n0_ n1_ n2_ n3_ n4_; (try clear hb); (try clear hkp); (try clear hy0); have hcz92_0 : w91.cell? ⟨gb520, 0, none⟩ = some (.int .i64 t513) := (z6 BK520.out 0).trans rfl; have hcz92_1 : w91.cell? ⟨gb520, 1, none⟩ = some (.bool t514) := (z6 BK520.out 1).trans rfl; have hcz92_2 : w91.cell? ⟨gb520, 2, none⟩ = some (.int .i64 t515) := (z6 BK520.out 2).trans rfl; have hcz92_3 : w91.cell? ⟨gb520, 3, none⟩ = some (.slice Ao26 t516.length co26) := (z6 BK520.out 3).trans rfl; have hcz92_4 : w91.cell? ⟨gb520, 4, none⟩ = some (.int .i64 t519) := (z6 BK520.out 4).trans rfl; have hfz92_0 := y5 BK520.out 0; have hfz92_1 := y5 BK520.out 1; have hfz92_2 := y5 BK520.out 2; have hfz92_3 := y5 BK520.out 3; have hfz92_4 := y5 BK520.out 4) | ((with_reducible refine qb (f := 26) rfl ?_); refine zm (some 45) rfl rfl Try.func26 (by kernel_rfl) rfl #[.agg #[.int .i64 t513, .bool t514, .int .i64 t515, .slice Ao26 t530.length co26, .int .i64 t519], .int .i64 1] rfl (by (try simp only [List.map_toArray, List.map_cons, List.map_nil]); first | done | (rw [show t530.length = t516.length from (Kd.qd HO_521003.out).1.symm] <;> rfl) | rfl | (simp only [List.length_drop, List.length_take]; rfl)) ?_; (with_reducible refine (qh.calls kj12 t513 t514 t515 _ _ t530 t519 1 t531 _ ?side1 ?side2 A40.out).mono ?_); (case side1 => repeat (first | exact (Kd.qd HO_521003.out).2.2 | (with_reducible refine Kd.yi ?_ _) | (with_reducible refine Kd.qi ?_ _) | (with_reducible refine Kd.C_drew ?_))); (case side2 => rw [show t530.length = t516.length from (Kd.qd HO_521003.out).1.symm]; exact (Kd.qd HO_521003.out).2.1); rintro e w93 ⟨rfl, hb⟩; refine ⟨_, rfl, ?_⟩; have n0_ := z2.mk (Kd.qf (by (with_reducible repeat (first | apply Kd.R_alloc | apply Kd.y9 | apply Kd.zb)); exact HO_510003.out) hb); have n1_ := z2.mk (Kd.qf (by (with_reducible repeat (first | apply Kd.R_alloc | apply Kd.y9 | apply Kd.zb)); exact HO_521003.out) hb); have n2_ := z2.mk (z9 (g := gb509) (o := .cells #[.int .i64 t502, .bool t503, .int .i64 t504, .slice Ao19 t505.length co19, .int .i64 t508] 45 (0, 0)) (by (with_reducible repeat (first | refine z5 ?_ _ | refine y6 ?_ | refine y4 ?_ _)); exact BK509.out) hb); have n3_ := z2.mk (z9 (g := gb520) (o := .cells #[.int .i64 t513, .bool t514, .int .i64 t515, .slice Ao26 t516.length co26, .int .i64 t519] 45 (0, 0)) (by (with_reducible repeat (first | refine z5 ?_ _ | refine y6 ?_ | refine y4 ?_ _)); exact BK520.out) hb); have n4_ := z2.mk (y8 (by repeat (first | (with_reducible first | exact HB.out | apply z4 | apply z1 | apply z3 | refine z7 ?_ GE509.out | refine z7 ?_ GE520.out) | exact HB.out)) hb); clear HO_510003 HO_521003 BK509 BK520 HB; have HO_510003 := n0_; have HO_521003 := n1_; have BK509 := n2_; have BK520 := n3_; have HB := n4_; clear n0_ n1_ n2_ n3_ n4_; (try clear hb); (try clear hb2); (try clear hk); (try clear hi)) | ((with_reducible refine qb (f := 20) rfl ?_); refine zm (some 52) rfl rfl Try.func20 (by kernel_rfl) rfl #[.slice A0 l0.length c0] rfl (by (try simp only [List.map_toArray, List.map_cons, List.map_nil]); first | done | rfl | (simp only [List.length_drop, List.length_take]; rfl)) ?_; (with_reducible refine (zk.calls kj12 _ _ l0 t532 _ ?side1 ?side2 A48.out).mono ?_); (case side1 => repeat (first | exact (Kd.yp HR0.out HB.out) | (with_reducible refine Kd.yi ?_ _) | (with_reducible refine Kd.qi ?_ _) | (with_reducible refine Kd.C_drew ?_))); (case side2 => exact HC0.out); rintro e w94 ⟨v533, rfl, ho0, hb⟩; refine ⟨_, rfl, ?_⟩; have n0_ := z2.mk (Kd.qf (by (with_reducible repeat (first | apply Kd.R_alloc | apply Kd.y9 | apply Kd.zb)); exact HO_510003.out) hb); have n1_ := z2.mk (Kd.qf (by (with_reducible repeat (first | apply Kd.R_alloc | apply Kd.y9 | apply Kd.zb)); exact HO_521003.out) hb); have n2_ := z2.mk (Kd.yr ho0 (z8 (by repeat (first | (with_reducible first | exact HB.out | apply z4 | apply z1 | apply z3 | refine z7 ?_ GE509.out | refine z7 ?_ GE520.out) | exact HB.out)))); have n3_ := z2.mk (z9 (g := gb509) (o := .cells #[.int .i64 t502, .bool t503, .int .i64 t504, .slice Ao19 t505.length co19, .int .i64 t508] 45 (0, 0)) (by (with_reducible repeat (first | refine z5 ?_ _ | refine y6 ?_ | refine y4 ?_ _)); exact BK509.out) hb); have n4_ := z2.mk (z9 (g := gb520) (o := .cells #[.int .i64 t513, .bool t514, .int .i64 t515, .slice Ao26 t516.length co26, .int .i64 t519] 45 (0, 0)) (by (with_reducible repeat (first | refine z5 ?_ _ | refine y6 ?_ | refine y4 ?_ _)); exact BK520.out) hb); have n5_ := z2.mk (y8 (by repeat (first | (with_reducible first | exact HB.out | apply z4 | apply z1 | apply z3 | refine z7 ?_ GE509.out | refine z7 ?_ GE520.out) | exact HB.out)) hb); clear HO_510003 HO_521003 BK509 BK520 HB; have HO_510003 := n0_; have HO_521003 := n1_; have HO534 := n2_; have BK509 := n3_; have BK520 := n4_; have HB := n5_; clear n0_ n1_ n2_ n3_ n4_ n5_; (try clear hb); (try clear hb2); (try clear hk); (try clear hi); (try clear ho0); obtain ⟨Ao95, co95, eo95⟩ := Kd.zt HO534.out; subst eo95) | ((with_reducible refine qb (f := 21) rfl ?_); refine zm (some 53) rfl rfl Try.func21 (by kernel_rfl) rfl #[.slice Ao95 t532.length co95] rfl (by (try simp only [List.map_toArray, List.map_cons, List.map_nil]); first | done | rfl | (simp only [List.length_drop, List.length_take]; rfl)) ?_; (with_reducible refine (qn.calls kj12 _ _ t532 t535 t536 t537 t538 t541 _ ?side1 ?side2 A49.out).mono ?_); (case side1 => repeat (first | exact (Kd.qd HO534.out).2.2 | (with_reducible refine Kd.yi ?_ _) | (with_reducible refine Kd.qi ?_ _) | (with_reducible refine Kd.C_drew ?_))); (case side2 => exact (Kd.qd HO534.out).2.1); rintro e w96 ⟨v539, rfl, ho0, hb⟩; refine ⟨_, rfl, ?_⟩; have n0_ := z2.mk (Kd.qu (by (with_reducible repeat (first | apply Kd.R_alloc | apply Kd.y9 | apply Kd.zb)); exact HO_510003.out) (Kd.z00 ho0) hb); have n1_ := z2.mk (Kd.qu (by (with_reducible repeat (first | apply Kd.R_alloc | apply Kd.y9 | apply Kd.zb)); exact HO_521003.out) (Kd.z00 ho0) hb); have n2_ := z2.mk (Kd.qf (by (with_reducible repeat (first | apply Kd.R_alloc | apply Kd.y9 | apply Kd.zb)); exact HO534.out) hb); have n3_ := z2.mk (Kd.yr (Kd.y00 (Kd.y00 ho0 (Kd.q0e (by (with_reducible repeat (first | apply Kd.R_alloc | apply Kd.y9 | apply Kd.zb)); exact HO_510003.out))) (Kd.q0e (by (with_reducible repeat (first | apply Kd.R_alloc | apply Kd.y9 | apply Kd.zb)); exact HO_521003.out))) (z8 (by repeat (first | (with_reducible first | exact HB.out | apply z4 | apply z1 | apply z3 | refine z7 ?_ GE509.out | refine z7 ?_ GE520.out) | exact HB.out)))); have n4_ := z2.mk (z9 (g := gb509) (o := .cells #[.int .i64 t502, .bool t503, .int .i64 t504, .slice Ao19 t505.length co19, .int .i64 t508] 45 (0, 0)) (by (with_reducible repeat (first | refine z5 ?_ _ | refine y6 ?_ | refine y4 ?_ _)); exact BK509.out) hb); have n5_ := z2.mk (z9 (g := gb520) (o := .cells #[.int .i64 t513, .bool t514, .int .i64 t515, .slice Ao26 t516.length co26, .int .i64 t519] 45 (0, 0)) (by (with_reducible repeat (first | refine z5 ?_ _ | refine y6 ?_ | refine y4 ?_ _)); exact BK520.out) hb); have n6_ := z2.mk (y8 (by repeat (first | (with_reducible first | exact HB.out | apply z4 | apply z1 | apply z3 | refine z7 ?_ GE509.out | refine z7 ?_ GE520.out) | exact HB.out)) hb); clear HO_510003 HO_521003 HO534 BK509 BK520 HB; have HO_510003 := n0_; have HO_521003 := n1_; have HO534 := n2_; have HO540 := n3_; have BK509 := n4_; have BK520 := n5_; have HB := n6_; clear n0_ n1_ n2_ n3_ n4_ n5_ n6_; (try clear hb); (try clear hb2); (try clear hk); (try clear hi); (try clear ho0)) | ((with_reducible refine ye (N := 9) rfl ?_); refine ze ?hg (N := 9) ?hd (cs := #[.int .i64 0, .bool false, .int .i64 0, .slice none 0 0, .int .i64 0]) (t := 45) ?hr ?_; (case hd => rfl); (case hg => rfl); (case hr => first | (go_simp; done) | (go_simp; rfl)); intro gb542 hg w97 hbox hb; have n0_ := z2.mk (Kd.qf (by (with_reducible repeat (first | apply Kd.R_alloc | apply Kd.y9 | apply Kd.zb)); exact HO_510003.out) hb); have n1_ := z2.mk (Kd.qf (by (with_reducible repeat (first | apply Kd.R_alloc | apply Kd.y9 | apply Kd.zb)); exact HO_521003.out) hb); have n2_ := z2.mk (Kd.qf (by (with_reducible repeat (first | apply Kd.R_alloc | apply Kd.y9 | apply Kd.zb)); exact HO534.out) hb); have n3_ := z2.mk (Kd.qf (by (with_reducible repeat (first | apply Kd.R_alloc | apply Kd.y9 | apply Kd.zb)); exact HO540.out) hb); have n4_ := z2.mk (z9 (g := gb509) (o := .cells #[.int .i64 t502, .bool t503, .int .i64 t504, .slice Ao19 t505.length co19, .int .i64 t508] 45 (0, 0)) (by (with_reducible repeat (first | refine z5 ?_ _ | refine y6 ?_ | refine y4 ?_ _)); exact BK509.out) hb); have n5_ := z2.mk (z9 (g := gb520) (o := .cells #[.int .i64 t513, .bool t514, .int .i64 t515, .slice Ao26 t516.length co26, .int .i64 t519] 45 (0, 0)) (by (with_reducible repeat (first | refine z5 ?_ _ | refine y6 ?_ | refine y4 ?_ _)); exact BK520.out) hb); have n6_ := z2.mk (y8 (by repeat (first | (with_reducible first | exact HB.out | apply z4 | apply z1 | apply z3 | refine z7 ?_ GE509.out | refine z7 ?_ GE520.out) | exact HB.out)) hb); have n7_ := z2.mk (hbox); have n8_ := z2.mk ((by rw [hg]; exact (z8 (by repeat (first | (with_reducible first | exact HB.out | apply z4 | apply z1 | apply z3 | refine z7 ?_ GE509.out | refine z7 ?_ GE520.out) | exact HB.out))) : w.heap.size ≤ gb542)); have n9_ := z2.mk ((by rw [hg]; exact (z8 (by repeat (first | (with_reducible first | exact HB.out | apply z4 | apply z1 | apply z3 | refine z7 ?_ GE509.out | refine z7 ?_ GE520.out) | exact HB.out))) : w.heap.size ≤ gb542)); have n10_ := z2.mk ((by rw [hg]; exact Nat.ne_of_lt (qk (g := gb509) (o := .cells #[.int .i64 t502, .bool t503, .int .i64 t504, .slice Ao19 t505.length co19, .int .i64 t508] 45 (0, 0)) (by (with_reducible repeat (first | refine z5 ?_ _ | refine y6 ?_ | refine y4 ?_ _)); exact BK509.out)) : gb509 ≠ gb542)); have n11_ := z2.mk ((by rw [hg]; exact Nat.ne_of_gt (qk (g := gb509) (o := .cells #[.int .i64 t502, .bool t503, .int .i64 t504, .slice Ao19 t505.length co19, .int .i64 t508] 45 (0, 0)) (by (with_reducible repeat (first | refine z5 ?_ _ | refine y6 ?_ | refine y4 ?_ _)); exact BK509.out)) : gb542 ≠ gb509)); have n12_ := z2.mk ((by rw [hg]; exact Nat.ne_of_lt (qk (g := gb520) (o := .cells #[.int .i64 t513, .bool t514, .int .i64 t515, .slice Ao26 t516.length co26, .int .i64 t519] 45 (0, 0)) (by (with_reducible repeat (first | refine z5 ?_ _ | refine y6 ?_ | refine y4 ?_ _)); exact BK520.out)) : gb520 ≠ gb542)); have n13_ := z2.mk ((by rw [hg]; exact Nat.ne_of_gt (qk (g := gb520) (o := .cells #[.int .i64 t513, .bool t514, .int .i64 t515, .slice Ao26 t516.length co26, .int .i64 t519] 45 (0, 0)) (by (with_reducible repeat (first | refine z5 ?_ _ | refine y6 ?_ | refine y4 ?_ _)); exact BK520.out)) : gb542 ≠ gb520)); clear HO_510003 HO_521003 HO534 HO540 BK509 BK520 HB; have HO_510003 := n0_; have HO_521003 := n1_; have HO534 := n2_; have HO540 := n3_; have BK509 := n4_; have BK520 := n5_; have HB := n6_; have BK542 := n7_; have GW542 := n8_; have GE542 := n9_; have NB509_542 := n10_; have NB542_509 := n11_; have NB520_542 := n12_; have NB542_520 := n13_; clear n0_ n1_ n2_ n3_ n4_ n5_ n6_ n7_ n8_ n9_ n10_ n11_ n12_ n13_ hb hbox hg; have hnb98 := NB542_509.out; have hnc98 := NB509_542.out; have hnb99 := NB542_520.out; have hnc99 := NB520_542.out; have hcz100_0 : w97.cell? ⟨gb542, 0, none⟩ = some (.int .i64 0) := (z6 BK542.out 0).trans rfl; have hcz100_1 : w97.cell? ⟨gb542, 1, none⟩ = some (.bool false) := (z6 BK542.out 1).trans rfl; have hcz100_2 : w97.cell? ⟨gb542, 2, none⟩ = some (.int .i64 0) := (z6 BK542.out 2).trans rfl; have hcz100_3 : w97.cell? ⟨gb542, 3, none⟩ = some (.slice none 0 0) := (z6 BK542.out 3).trans rfl; have hcz100_4 : w97.cell? ⟨gb542, 4, none⟩ = some (.int .i64 0) := (z6 BK542.out 4).trans rfl; have hfz100_0 := y5 BK542.out 0; have hfz100_1 := y5 BK542.out 1; have hfz100_2 := y5 BK542.out 2; have hfz100_3 := y5 BK542.out 3; have hfz100_4 := y5 BK542.out 4; obtain ⟨Ao101, co101, eo101⟩ := Kd.zt HO540.out; subst eo101; have hcz102_0 : w97.cell? ⟨gb509, 0, none⟩ = some (.int .i64 t502) := (z6 BK509.out 0).trans rfl; have hcz102_1 : w97.cell? ⟨gb509, 1, none⟩ = some (.bool t503) := (z6 BK509.out 1).trans rfl; have hcz102_2 : w97.cell? ⟨gb509, 2, none⟩ = some (.int .i64 t504) := (z6 BK509.out 2).trans rfl; have hcz102_3 : w97.cell? ⟨gb509, 3, none⟩ = some (.slice Ao19 t505.length co19) := (z6 BK509.out 3).trans rfl; have hcz102_4 : w97.cell? ⟨gb509, 4, none⟩ = some (.int .i64 t508) := (z6 BK509.out 4).trans rfl; have hfz102_0 := y5 BK509.out 0; have hfz102_1 := y5 BK509.out 1; have hfz102_2 := y5 BK509.out 2; have hfz102_3 := y5 BK509.out 3; have hfz102_4 := y5 BK509.out 4) | ((with_reducible refine qb (f := 22) rfl ?_); refine zm (some 56) rfl rfl Try.func22 (by kernel_rfl) rfl #[.agg #[.int .i64 t535, .bool t536, .int .i64 t537, .slice Ao101 t538.length co101, .int .i64 t541], .agg #[.int .i64 t502, .bool t503, .int .i64 t504, .slice Ao19 t505.length co19, .int .i64 t508]] rfl (by (try simp only [List.map_toArray, List.map_cons, List.map_nil]); first | done | rfl | (simp only [List.length_drop, List.length_take]; rfl)) ?_; (with_reducible refine (qe.calls kj12 t535 t536 t537 _ _ t538 t541 t502 t503 t504 _ _ t505 t508 true _ ?side1 ?side2 ?side3 ?side4 A50.out).mono ?_); (case side1 => refine (Kd.qd (e := 138) (base := w.heap.size) (ok := fun k_ => ((True ∧ some k_ ≠ (.slice Ao19 t505.length co19 : Value).ownBlock) ∧ some k_ ≠ (.slice Ao26 t516.length co26 : Value).ownBlock)) (n := t538.length) (c := co101) ?_).2.2; exact (by (with_reducible repeat (first | apply Kd.R_alloc | apply Kd.y9 | apply Kd.zb)); exact (Kd.yk (Kd.zf (p := ⟨gb542, 4, none⟩) (Kd.zf (p := ⟨gb542, 3, none⟩) (Kd.zf (p := ⟨gb542, 2, none⟩) (Kd.zf (p := ⟨gb542, 1, none⟩) (Kd.zf (p := ⟨gb542, 0, none⟩) (Kd.qp HO540.out BK542.out (by decide)) (fun _ hk => hk.2) (.int .i64 t535)) (fun _ hk => hk.2) (.bool t536)) (fun _ hk => hk.2) (.int .i64 t537)) (fun _ hk => hk.2) (.slice Ao101 t538.length co101)) (fun _ hk => hk.2) (.int .i64 t541)) (fun _ h_ => h_.1)))); (case side2 => exact (Kd.qd HO540.out).2.1); (case side3 => refine (Kd.qd (e := 138) (base := w.heap.size) (ok := fun k_ => (some k_ ≠ (.slice Ao26 t516.length co26 : Value).ownBlock ∧ some k_ ≠ (.slice Ao101 t538.length co101 : Value).ownBlock)) (n := t505.length) (c := co19) ?_).2.2; exact (by (with_reducible repeat (first | apply Kd.R_alloc | apply Kd.y9 | apply Kd.zb)); exact (Kd.yk (Kd.zf (p := ⟨gb542, 4, none⟩) (Kd.zf (p := ⟨gb542, 3, none⟩) (Kd.zf (p := ⟨gb542, 2, none⟩) (Kd.zf (p := ⟨gb542, 1, none⟩) (Kd.zf (p := ⟨gb542, 0, none⟩) (Kd.qp HO_510003.out BK542.out (by decide)) (fun _ hk => hk.2) (.int .i64 t535)) (fun _ hk => hk.2) (.bool t536)) (fun _ hk => hk.2) (.int .i64 t537)) (fun _ hk => hk.2) (.slice Ao101 t538.length co101)) (fun _ hk => hk.2) (.int .i64 t541)) (fun _ h_ => h_.1)))); (case side4 => exact (Kd.qd HO_510003.out).2.1); rintro e w103 ⟨rfl, hb⟩; refine ⟨_, rfl, ?_⟩; have n0_ := z2.mk (Kd.qf (by (with_reducible repeat (first | apply Kd.R_alloc | apply Kd.y9 | apply Kd.zb)); exact (Kd.yk (Kd.zf (p := ⟨gb542, 4, none⟩) (Kd.zf (p := ⟨gb542, 3, none⟩) (Kd.zf (p := ⟨gb542, 2, none⟩) (Kd.zf (p := ⟨gb542, 1, none⟩) (Kd.zf (p := ⟨gb542, 0, none⟩) (Kd.qp HO_510003.out BK542.out (by decide)) (fun _ hk => hk.2) (.int .i64 t535)) (fun _ hk => hk.2) (.bool t536)) (fun _ hk => hk.2) (.int .i64 t537)) (fun _ hk => hk.2) (.slice Ao101 t538.length co101)) (fun _ hk => hk.2) (.int .i64 t541)) (fun _ h_ => h_.1))) hb); have n1_ := z2.mk (Kd.qf (by (with_reducible repeat (first | apply Kd.R_alloc | apply Kd.y9 | apply Kd.zb)); exact (Kd.yk (Kd.zf (p := ⟨gb542, 4, none⟩) (Kd.zf (p := ⟨gb542, 3, none⟩) (Kd.zf (p := ⟨gb542, 2, none⟩) (Kd.zf (p := ⟨gb542, 1, none⟩) (Kd.zf (p := ⟨gb542, 0, none⟩) (Kd.qp HO_521003.out BK542.out (by decide)) (fun _ hk => hk.2) (.int .i64 t535)) (fun _ hk => hk.2) (.bool t536)) (fun _ hk => hk.2) (.int .i64 t537)) (fun _ hk => hk.2) (.slice Ao101 t538.length co101)) (fun _ hk => hk.2) (.int .i64 t541)) (fun _ h_ => h_.1))) hb); have n2_ := z2.mk (Kd.qf (by (with_reducible repeat (first | apply Kd.R_alloc | apply Kd.y9 | apply Kd.zb)); exact (Kd.yk (Kd.zf (p := ⟨gb542, 4, none⟩) (Kd.zf (p := ⟨gb542, 3, none⟩) (Kd.zf (p := ⟨gb542, 2, none⟩) (Kd.zf (p := ⟨gb542, 1, none⟩) (Kd.zf (p := ⟨gb542, 0, none⟩) (Kd.qp HO534.out BK542.out (by decide)) (fun _ hk => hk.2) (.int .i64 t535)) (fun _ hk => hk.2) (.bool t536)) (fun _ hk => hk.2) (.int .i64 t537)) (fun _ hk => hk.2) (.slice Ao101 t538.length co101)) (fun _ hk => hk.2) (.int .i64 t541)) (fun _ h_ => h_.1))) hb); have n3_ := z2.mk (Kd.qf (by (with_reducible repeat (first | apply Kd.R_alloc | apply Kd.y9 | apply Kd.zb)); exact (Kd.yk (Kd.zf (p := ⟨gb542, 4, none⟩) (Kd.zf (p := ⟨gb542, 3, none⟩) (Kd.zf (p := ⟨gb542, 2, none⟩) (Kd.zf (p := ⟨gb542, 1, none⟩) (Kd.zf (p := ⟨gb542, 0, none⟩) (Kd.qp HO540.out BK542.out (by decide)) (fun _ hk => hk.2) (.int .i64 t535)) (fun _ hk => hk.2) (.bool t536)) (fun _ hk => hk.2) (.int .i64 t537)) (fun _ hk => hk.2) (.slice Ao101 t538.length co101)) (fun _ hk => hk.2) (.int .i64 t541)) (fun _ h_ => h_.1))) hb); have n4_ := z2.mk (z9 (g := gb509) (o := .cells #[.int .i64 t502, .bool t503, .int .i64 t504, .slice Ao19 t505.length co19, .int .i64 t508] 45 (0, 0)) (by (with_reducible repeat (first | refine z5 ?_ _ | refine y6 ?_ | refine y4 ?_ _)); refine zd ?_ NB509_542.out _; (with_reducible repeat (first | refine z5 ?_ _ | refine y6 ?_ | refine y4 ?_ _)); refine zd ?_ NB509_542.out _; (with_reducible repeat (first | refine z5 ?_ _ | refine y6 ?_ | refine y4 ?_ _)); refine zd ?_ NB509_542.out _; (with_reducible repeat (first | refine z5 ?_ _ | refine y6 ?_ | refine y4 ?_ _)); refine zd ?_ NB509_542.out _; (with_reducible repeat (first | refine z5 ?_ _ | refine y6 ?_ | refine y4 ?_ _)); refine zd ?_ NB509_542.out _; (with_reducible repeat (first | refine z5 ?_ _ | refine y6 ?_ | refine y4 ?_ _)); exact BK509.out) hb); have n5_ := z2.mk (z9 (g := gb520) (o := .cells #[.int .i64 t513, .bool t514, .int .i64 t515, .slice Ao26 t516.length co26, .int .i64 t519] 45 (0, 0)) (by (with_reducible repeat (first | refine z5 ?_ _ | refine y6 ?_ | refine y4 ?_ _)); refine zd ?_ NB520_542.out _; (with_reducible repeat (first | refine z5 ?_ _ | refine y6 ?_ | refine y4 ?_ _)); refine zd ?_ NB520_542.out _; (with_reducible repeat (first | refine z5 ?_ _ | refine y6 ?_ | refine y4 ?_ _)); refine zd ?_ NB520_542.out _; (with_reducible repeat (first | refine z5 ?_ _ | refine y6 ?_ | refine y4 ?_ _)); refine zd ?_ NB520_542.out _; (with_reducible repeat (first | refine z5 ?_ _ | refine y6 ?_ | refine y4 ?_ _)); refine zd ?_ NB520_542.out _; (with_reducible repeat (first | refine z5 ?_ _ | refine y6 ?_ | refine y4 ?_ _)); exact BK520.out) hb); have n6_ := z2.mk (z9 (g := gb542) (o := .cells #[.int .i64 t535, .bool t536, .int .i64 t537, .slice Ao101 t538.length co101, .int .i64 t541] 45 (0, 0)) (by (with_reducible repeat (first | refine z5 ?_ _ | refine y6 ?_ | refine y4 ?_ _)); refine qc (cs := #[.int .i64 t535, .bool t536, .int .i64 t537, .slice Ao101 t538.length co101, .int .i64 0]) ?_ 4 _ rfl; (with_reducible repeat (first | refine z5 ?_ _ | refine y6 ?_ | refine y4 ?_ _)); refine qc (cs := #[.int .i64 t535, .bool t536, .int .i64 t537, .slice none 0 0, .int .i64 0]) ?_ 3 _ rfl; (with_reducible repeat (first | refine z5 ?_ _ | refine y6 ?_ | refine y4 ?_ _)); refine qc (cs := #[.int .i64 t535, .bool t536, .int .i64 0, .slice none 0 0, .int .i64 0]) ?_ 2 _ rfl; (with_reducible repeat (first | refine z5 ?_ _ | refine y6 ?_ | refine y4 ?_ _)); refine qc (cs := #[.int .i64 t535, .bool false, .int .i64 0, .slice none 0 0, .int .i64 0]) ?_ 1 _ rfl; (with_reducible repeat (first | refine z5 ?_ _ | refine y6 ?_ | refine y4 ?_ _)); refine qc (cs := #[.int .i64 0, .bool false, .int .i64 0, .slice none 0 0, .int .i64 0]) ?_ 0 _ rfl; (with_reducible repeat (first | refine z5 ?_ _ | refine y6 ?_ | refine y4 ?_ _)); exact BK542.out) hb); have n7_ := z2.mk (y8 (by repeat (first | (with_reducible first | exact HB.out | apply z4 | apply z1 | apply z3 | refine z7 ?_ GE509.out | refine z7 ?_ GE520.out | refine z7 ?_ GE542.out) | exact HB.out)) hb); clear HO_510003 HO_521003 HO534 HO540 BK509 BK520 BK542 HB; have HO_510003 := n0_; have HO_521003 := n1_; have HO534 := n2_; have HO540 := n3_; have BK509 := n4_; have BK520 := n5_; have BK542 := n6_; have HB := n7_; clear n0_ n1_ n2_ n3_ n4_ n5_ n6_ n7_; (try clear hb); (try clear hb2); (try clear hk); (try clear hi); have hcz104_0 : w103.cell? ⟨gb520, 0, none⟩ = some (.int .i64 t513) := (z6 BK520.out 0).trans rfl; have hcz104_1 : w103.cell? ⟨gb520, 1, none⟩ = some (.bool t514) := (z6 BK520.out 1).trans rfl; have hcz104_2 : w103.cell? ⟨gb520, 2, none⟩ = some (.int .i64 t515) := (z6 BK520.out 2).trans rfl; have hcz104_3 : w103.cell? ⟨gb520, 3, none⟩ = some (.slice Ao26 t516.length co26) := (z6 BK520.out 3).trans rfl; have hcz104_4 : w103.cell? ⟨gb520, 4, none⟩ = some (.int .i64 t519) := (z6 BK520.out 4).trans rfl; have hfz104_0 := y5 BK520.out 0; have hfz104_1 := y5 BK520.out 1; have hfz104_2 := y5 BK520.out 2; have hfz104_3 := y5 BK520.out 3; have hfz104_4 := y5 BK520.out 4) | ((with_reducible refine qb (f := 26) rfl ?_); refine zm (some 60) rfl rfl Try.func26 (by kernel_rfl) rfl #[.agg #[.int .i64 t513, .bool t514, .int .i64 t515, .slice Ao26 t530.length co26, .int .i64 t519], .int .i64 1] rfl (by (try simp only [List.map_toArray, List.map_cons, List.map_nil]); first | done | (rw [show t530.length = t516.length from (Kd.qd HO_521003.out).1.symm] <;> rfl) | rfl | (simp only [List.length_drop, List.length_take]; rfl)) ?_; (with_reducible refine (qh.calls kj12 t513 t514 t515 _ _ t530 t519 1 t544 _ ?side1 ?side2 A52.out).mono ?_); (case side1 => repeat (first | exact (Kd.qd HO_521003.out).2.2 | (with_reducible refine Kd.yi ?_ _) | (with_reducible refine Kd.qi ?_ _) | (with_reducible refine Kd.C_drew ?_))); (case side2 => rw [show t530.length = t516.length from (Kd.qd HO_521003.out).1.symm]; exact (Kd.qd HO_521003.out).2.1); rintro e w105 ⟨rfl, hb⟩; refine ⟨_, rfl, ?_⟩; have n0_ := z2.mk (Kd.qf (by (with_reducible repeat (first | apply Kd.R_alloc | apply Kd.y9 | apply Kd.zb)); exact HO_510003.out) hb); have n1_ := z2.mk (Kd.qf (by (with_reducible repeat (first | apply Kd.R_alloc | apply Kd.y9 | apply Kd.zb)); exact HO_521003.out) hb); have n2_ := z2.mk (Kd.qf (by (with_reducible repeat (first | apply Kd.R_alloc | apply Kd.y9 | apply Kd.zb)); exact HO534.out) hb); have n3_ := z2.mk (Kd.qf (by (with_reducible repeat (first | apply Kd.R_alloc | apply Kd.y9 | apply Kd.zb)); exact HO540.out) hb); have n4_ := z2.mk (z9 (g := gb509) (o := .cells #[.int .i64 t502, .bool t503, .int .i64 t504, .slice Ao19 t505.length co19, .int .i64 t508] 45 (0, 0)) (by (with_reducible repeat (first | refine z5 ?_ _ | refine y6 ?_ | refine y4 ?_ _)); exact BK509.out) hb); have n5_ := z2.mk (z9 (g := gb520) (o := .cells #[.int .i64 t513, .bool t514, .int .i64 t515, .slice Ao26 t516.length co26, .int .i64 t519] 45 (0, 0)) (by (with_reducible repeat (first | refine z5 ?_ _ | refine y6 ?_ | refine y4 ?_ _)); exact BK520.out) hb); have n6_ := z2.mk (z9 (g := gb542) (o := .cells #[.int .i64 t535, .bool t536, .int .i64 t537, .slice Ao101 t538.length co101, .int .i64 t541] 45 (0, 0)) (by (with_reducible repeat (first | refine z5 ?_ _ | refine y6 ?_ | refine y4 ?_ _)); exact BK542.out) hb); have n7_ := z2.mk (y8 (by repeat (first | (with_reducible first | exact HB.out | apply z4 | apply z1 | apply z3 | refine z7 ?_ GE509.out | refine z7 ?_ GE520.out | refine z7 ?_ GE542.out) | exact HB.out)) hb); clear HO_510003 HO_521003 HO534 HO540 BK509 BK520 BK542 HB; have HO_510003 := n0_; have HO_521003 := n1_; have HO534 := n2_; have HO540 := n3_; have BK509 := n4_; have BK520 := n5_; have BK542 := n6_; have HB := n7_; clear n0_ n1_ n2_ n3_ n4_ n5_ n6_ n7_; (try clear hb); (try clear hb2); (try clear hk); (try clear hi)))
            go_ret
            exact ⟨by first | rfl | (simp [ya, qa] <;> rfl) | (simp [*, ya, qa] <;> rfl), by repeat (first | (with_reducible first | exact HB.out | apply z4 | apply z1 | apply z3 | refine z7 ?_ GE509.out | refine z7 ?_ GE520.out | refine z7 ?_ GE542.out) | exact HB.out)⟩
         ·replace c51 := Bool.eq_false_iff.mpr c51
          subst c51
          have H1 : (some false) = some r := by rw [if_neg (show ¬ (false = true) by decide)] at H; exact H
          clear H
          have H := H1
          clear H1
          obtain rfl := Option.some.inj H
          have hnb106 := NB520_509.out
          have hnc106 := NB509_520.out
          have hcz107_0 : wc.cell? ⟨gb520, 0, none⟩ = some (.int .i64 t513) := (z6 BK520.out 0).trans rfl
          have hcz107_1 : wc.cell? ⟨gb520, 1, none⟩ = some (.bool t514) := (z6 BK520.out 1).trans rfl
          have hcz107_2 : wc.cell? ⟨gb520, 2, none⟩ = some (.int .i64 t515) := (z6 BK520.out 2).trans rfl
          have hcz107_3 : wc.cell? ⟨gb520, 3, none⟩ = some (.slice Ao26 t516.length co26) := (z6 BK520.out 3).trans rfl
          have hcz107_4 : wc.cell? ⟨gb520, 4, none⟩ = some (.int .i64 t519) := (z6 BK520.out 4).trans rfl
          have hfz107_0 := y5 BK520.out 0
          have hfz107_1 := y5 BK520.out 1
          have hfz107_2 := y5 BK520.out 2
          have hfz107_3 := y5 BK520.out 3
          have hfz107_4 := y5 BK520.out 4
          go_wp2_with (first | ((with_reducible refine qb (f := 25) rfl ?_); refine zm (some 42) rfl rfl Try.func25 (by kernel_rfl) rfl #[.agg #[.int .i64 t513, .bool t514, .int .i64 t515, .slice Ao26 t516.length co26, .int .i64 t519], .int .i64 1] rfl (by (try simp only [List.map_toArray, List.map_cons, List.map_nil]); first | done | rfl | (simp only [List.length_drop, List.length_take]; rfl)) ?_; (with_reducible refine (qr.calls kj12 t513 t514 t515 (fun k_ => some k_ = (.slice Ao26 t516.length co26 : Value).ownBlock) (.slice Ao26 t516.length co26) t516 t519 1 t529 t530 w _ ?side1 ?side2 A39.out).mono ?_); (case side1 => repeat (first | (with_reducible first | exact HB.out | apply z4 | apply z1 | apply z3 | refine z7 ?_ GE509.out | refine z7 ?_ GE520.out) | exact HB.out)); (case side2 => exact Kd.q0f rfl HO_521003.out); rintro e w108 ⟨rfl, hy0, hb, hkp⟩; refine ⟨_, rfl, ?_⟩; have n0_ := z2.mk (Kd.yk (ok' := fun k_ => some k_ ≠ (.slice Ao26 t516.length co26 : Value).ownBlock) (Kd.q0h (HO_510003.out) hkp (fun k_ hk_ hs_ => (hk_) hs_)) (fun k_ hk_ => hk_.1)); have n1_ := z2.mk (Kd.q0n rfl hy0 (fun k_ e_ => HO_521003.out.1 k_ e_)); have n2_ := z2.mk (q02 (by (with_reducible repeat (first | refine z5 ?_ _ | refine y6 ?_ | refine y4 ?_ _)); exact BK509.out) hkp (fun hs_ => (fun e_ => (Kd.y0k HO_521003.out BK509.out (by decide)) e_) hs_)); have n3_ := z2.mk (q02 (by (with_reducible repeat (first | refine z5 ?_ _ | refine y6 ?_ | refine y4 ?_ _)); exact BK520.out) hkp (fun hs_ => (fun e_ => (Kd.y0k HO_521003.out BK520.out (by decide)) e_) hs_)); have n4_ := z2.mk (hb); clear HO_510003 HO_521003 BK509 BK520 HB; have HO_510003 := n0_; have HO_521003 := n1_; have BK509 := n2_; have BK520 := n3_; have HB := n4_; clear n0_ n1_ n2_ n3_ n4_; (try clear hb); (try clear hkp); (try clear hy0); have hcz109_0 : w108.cell? ⟨gb520, 0, none⟩ = some (.int .i64 t513) := (z6 BK520.out 0).trans rfl; have hcz109_1 : w108.cell? ⟨gb520, 1, none⟩ = some (.bool t514) := (z6 BK520.out 1).trans rfl; have hcz109_2 : w108.cell? ⟨gb520, 2, none⟩ = some (.int .i64 t515) := (z6 BK520.out 2).trans rfl; have hcz109_3 : w108.cell? ⟨gb520, 3, none⟩ = some (.slice Ao26 t516.length co26) := (z6 BK520.out 3).trans rfl; have hcz109_4 : w108.cell? ⟨gb520, 4, none⟩ = some (.int .i64 t519) := (z6 BK520.out 4).trans rfl; have hfz109_0 := y5 BK520.out 0; have hfz109_1 := y5 BK520.out 1; have hfz109_2 := y5 BK520.out 2; have hfz109_3 := y5 BK520.out 3; have hfz109_4 := y5 BK520.out 4) | ((with_reducible refine qb (f := 26) rfl ?_); refine zm (some 45) rfl rfl Try.func26 (by kernel_rfl) rfl #[.agg #[.int .i64 t513, .bool t514, .int .i64 t515, .slice Ao26 t530.length co26, .int .i64 t519], .int .i64 1] rfl (by (try simp only [List.map_toArray, List.map_cons, List.map_nil]); first | done | (rw [show t530.length = t516.length from (Kd.qd HO_521003.out).1.symm] <;> rfl) | rfl | (simp only [List.length_drop, List.length_take]; rfl)) ?_; (with_reducible refine (qh.calls kj12 t513 t514 t515 _ _ t530 t519 1 t531 _ ?side1 ?side2 A40.out).mono ?_); (case side1 => repeat (first | exact (Kd.qd HO_521003.out).2.2 | (with_reducible refine Kd.yi ?_ _) | (with_reducible refine Kd.qi ?_ _) | (with_reducible refine Kd.C_drew ?_))); (case side2 => rw [show t530.length = t516.length from (Kd.qd HO_521003.out).1.symm]; exact (Kd.qd HO_521003.out).2.1); rintro e w110 ⟨rfl, hb⟩; refine ⟨_, rfl, ?_⟩; have n0_ := z2.mk (Kd.qf (by (with_reducible repeat (first | apply Kd.R_alloc | apply Kd.y9 | apply Kd.zb)); exact HO_510003.out) hb); have n1_ := z2.mk (Kd.qf (by (with_reducible repeat (first | apply Kd.R_alloc | apply Kd.y9 | apply Kd.zb)); exact HO_521003.out) hb); have n2_ := z2.mk (z9 (g := gb509) (o := .cells #[.int .i64 t502, .bool t503, .int .i64 t504, .slice Ao19 t505.length co19, .int .i64 t508] 45 (0, 0)) (by (with_reducible repeat (first | refine z5 ?_ _ | refine y6 ?_ | refine y4 ?_ _)); exact BK509.out) hb); have n3_ := z2.mk (z9 (g := gb520) (o := .cells #[.int .i64 t513, .bool t514, .int .i64 t515, .slice Ao26 t516.length co26, .int .i64 t519] 45 (0, 0)) (by (with_reducible repeat (first | refine z5 ?_ _ | refine y6 ?_ | refine y4 ?_ _)); exact BK520.out) hb); have n4_ := z2.mk (y8 (by repeat (first | (with_reducible first | exact HB.out | apply z4 | apply z1 | apply z3 | refine z7 ?_ GE509.out | refine z7 ?_ GE520.out) | exact HB.out)) hb); clear HO_510003 HO_521003 BK509 BK520 HB; have HO_510003 := n0_; have HO_521003 := n1_; have BK509 := n2_; have BK520 := n3_; have HB := n4_; clear n0_ n1_ n2_ n3_ n4_; (try clear hb); (try clear hb2); (try clear hk); (try clear hi)) | ((with_reducible refine qb (f := 20) rfl ?_); refine zm (some 52) rfl rfl Try.func20 (by kernel_rfl) rfl #[.slice A0 l0.length c0] rfl (by (try simp only [List.map_toArray, List.map_cons, List.map_nil]); first | done | rfl | (simp only [List.length_drop, List.length_take]; rfl)) ?_; (with_reducible refine (zk.calls kj12 _ _ l0 t532 _ ?side1 ?side2 A48.out).mono ?_); (case side1 => repeat (first | exact (Kd.yp HR0.out HB.out) | (with_reducible refine Kd.yi ?_ _) | (with_reducible refine Kd.qi ?_ _) | (with_reducible refine Kd.C_drew ?_))); (case side2 => exact HC0.out); rintro e w111 ⟨v533, rfl, ho0, hb⟩; refine ⟨_, rfl, ?_⟩; have n0_ := z2.mk (Kd.qf (by (with_reducible repeat (first | apply Kd.R_alloc | apply Kd.y9 | apply Kd.zb)); exact HO_510003.out) hb); have n1_ := z2.mk (Kd.qf (by (with_reducible repeat (first | apply Kd.R_alloc | apply Kd.y9 | apply Kd.zb)); exact HO_521003.out) hb); have n2_ := z2.mk (Kd.yr ho0 (z8 (by repeat (first | (with_reducible first | exact HB.out | apply z4 | apply z1 | apply z3 | refine z7 ?_ GE509.out | refine z7 ?_ GE520.out) | exact HB.out)))); have n3_ := z2.mk (z9 (g := gb509) (o := .cells #[.int .i64 t502, .bool t503, .int .i64 t504, .slice Ao19 t505.length co19, .int .i64 t508] 45 (0, 0)) (by (with_reducible repeat (first | refine z5 ?_ _ | refine y6 ?_ | refine y4 ?_ _)); exact BK509.out) hb); have n4_ := z2.mk (z9 (g := gb520) (o := .cells #[.int .i64 t513, .bool t514, .int .i64 t515, .slice Ao26 t516.length co26, .int .i64 t519] 45 (0, 0)) (by (with_reducible repeat (first | refine z5 ?_ _ | refine y6 ?_ | refine y4 ?_ _)); exact BK520.out) hb); have n5_ := z2.mk (y8 (by repeat (first | (with_reducible first | exact HB.out | apply z4 | apply z1 | apply z3 | refine z7 ?_ GE509.out | refine z7 ?_ GE520.out) | exact HB.out)) hb); clear HO_510003 HO_521003 BK509 BK520 HB; have HO_510003 := n0_; have HO_521003 := n1_; have HO534 := n2_; have BK509 := n3_; have BK520 := n4_; have HB := n5_; clear n0_ n1_ n2_ n3_ n4_ n5_; (try clear hb); (try clear hb2); (try clear hk); (try clear hi); (try clear ho0); obtain ⟨Ao112, co112, eo112⟩ := Kd.zt HO534.out; subst eo112) | ((with_reducible refine qb (f := 21) rfl ?_); refine zm (some 53) rfl rfl Try.func21 (by kernel_rfl) rfl #[.slice Ao112 t532.length co112] rfl (by (try simp only [List.map_toArray, List.map_cons, List.map_nil]); first | done | rfl | (simp only [List.length_drop, List.length_take]; rfl)) ?_; (with_reducible refine (qn.calls kj12 _ _ t532 t535 t536 t537 t538 t541 _ ?side1 ?side2 A49.out).mono ?_); (case side1 => repeat (first | exact (Kd.qd HO534.out).2.2 | (with_reducible refine Kd.yi ?_ _) | (with_reducible refine Kd.qi ?_ _) | (with_reducible refine Kd.C_drew ?_))); (case side2 => exact (Kd.qd HO534.out).2.1); rintro e w113 ⟨v539, rfl, ho0, hb⟩; refine ⟨_, rfl, ?_⟩; have n0_ := z2.mk (Kd.qu (by (with_reducible repeat (first | apply Kd.R_alloc | apply Kd.y9 | apply Kd.zb)); exact HO_510003.out) (Kd.z00 ho0) hb); have n1_ := z2.mk (Kd.qu (by (with_reducible repeat (first | apply Kd.R_alloc | apply Kd.y9 | apply Kd.zb)); exact HO_521003.out) (Kd.z00 ho0) hb); have n2_ := z2.mk (Kd.qf (by (with_reducible repeat (first | apply Kd.R_alloc | apply Kd.y9 | apply Kd.zb)); exact HO534.out) hb); have n3_ := z2.mk (Kd.yr (Kd.y00 (Kd.y00 ho0 (Kd.q0e (by (with_reducible repeat (first | apply Kd.R_alloc | apply Kd.y9 | apply Kd.zb)); exact HO_510003.out))) (Kd.q0e (by (with_reducible repeat (first | apply Kd.R_alloc | apply Kd.y9 | apply Kd.zb)); exact HO_521003.out))) (z8 (by repeat (first | (with_reducible first | exact HB.out | apply z4 | apply z1 | apply z3 | refine z7 ?_ GE509.out | refine z7 ?_ GE520.out) | exact HB.out)))); have n4_ := z2.mk (z9 (g := gb509) (o := .cells #[.int .i64 t502, .bool t503, .int .i64 t504, .slice Ao19 t505.length co19, .int .i64 t508] 45 (0, 0)) (by (with_reducible repeat (first | refine z5 ?_ _ | refine y6 ?_ | refine y4 ?_ _)); exact BK509.out) hb); have n5_ := z2.mk (z9 (g := gb520) (o := .cells #[.int .i64 t513, .bool t514, .int .i64 t515, .slice Ao26 t516.length co26, .int .i64 t519] 45 (0, 0)) (by (with_reducible repeat (first | refine z5 ?_ _ | refine y6 ?_ | refine y4 ?_ _)); exact BK520.out) hb); have n6_ := z2.mk (y8 (by repeat (first | (with_reducible first | exact HB.out | apply z4 | apply z1 | apply z3 | refine z7 ?_ GE509.out | refine z7 ?_ GE520.out) | exact HB.out)) hb); clear HO_510003 HO_521003 HO534 BK509 BK520 HB; have HO_510003 := n0_; have HO_521003 := n1_; have HO534 := n2_; have HO540 := n3_; have BK509 := n4_; have BK520 := n5_; have HB := n6_; clear n0_ n1_ n2_ n3_ n4_ n5_ n6_; (try clear hb); (try clear hb2); (try clear hk); (try clear hi); (try clear ho0)) | ((with_reducible refine ye (N := 9) rfl ?_); refine ze ?hg (N := 9) ?hd (cs := #[.int .i64 0, .bool false, .int .i64 0, .slice none 0 0, .int .i64 0]) (t := 45) ?hr ?_; (case hd => rfl); (case hg => rfl); (case hr => first | (go_simp; done) | (go_simp; rfl)); intro gb542 hg w114 hbox hb; have n0_ := z2.mk (Kd.qf (by (with_reducible repeat (first | apply Kd.R_alloc | apply Kd.y9 | apply Kd.zb)); exact HO_510003.out) hb); have n1_ := z2.mk (Kd.qf (by (with_reducible repeat (first | apply Kd.R_alloc | apply Kd.y9 | apply Kd.zb)); exact HO_521003.out) hb); have n2_ := z2.mk (Kd.qf (by (with_reducible repeat (first | apply Kd.R_alloc | apply Kd.y9 | apply Kd.zb)); exact HO534.out) hb); have n3_ := z2.mk (Kd.qf (by (with_reducible repeat (first | apply Kd.R_alloc | apply Kd.y9 | apply Kd.zb)); exact HO540.out) hb); have n4_ := z2.mk (z9 (g := gb509) (o := .cells #[.int .i64 t502, .bool t503, .int .i64 t504, .slice Ao19 t505.length co19, .int .i64 t508] 45 (0, 0)) (by (with_reducible repeat (first | refine z5 ?_ _ | refine y6 ?_ | refine y4 ?_ _)); exact BK509.out) hb); have n5_ := z2.mk (z9 (g := gb520) (o := .cells #[.int .i64 t513, .bool t514, .int .i64 t515, .slice Ao26 t516.length co26, .int .i64 t519] 45 (0, 0)) (by (with_reducible repeat (first | refine z5 ?_ _ | refine y6 ?_ | refine y4 ?_ _)); exact BK520.out) hb); have n6_ := z2.mk (y8 (by repeat (first | (with_reducible first | exact HB.out | apply z4 | apply z1 | apply z3 | refine z7 ?_ GE509.out | refine z7 ?_ GE520.out) | exact HB.out)) hb); have n7_ := z2.mk (hbox); have n8_ := z2.mk ((by rw [hg]; exact (z8 (by repeat (first | (with_reducible first | exact HB.out | apply z4 | apply z1 | apply z3 | refine z7 ?_ GE509.out | refine z7 ?_ GE520.out) | exact HB.out))) : w.heap.size ≤ gb542)); have n9_ := z2.mk ((by rw [hg]; exact (z8 (by repeat (first | (with_reducible first | exact HB.out | apply z4 | apply z1 | apply z3 | refine z7 ?_ GE509.out | refine z7 ?_ GE520.out) | exact HB.out))) : w.heap.size ≤ gb542)); have n10_ := z2.mk ((by rw [hg]; exact Nat.ne_of_lt (qk (g := gb509) (o := .cells #[.int .i64 t502, .bool t503, .int .i64 t504, .slice Ao19 t505.length co19, .int .i64 t508] 45 (0, 0)) (by (with_reducible repeat (first | refine z5 ?_ _ | refine y6 ?_ | refine y4 ?_ _)); exact BK509.out)) : gb509 ≠ gb542)); have n11_ := z2.mk ((by rw [hg]; exact Nat.ne_of_gt (qk (g := gb509) (o := .cells #[.int .i64 t502, .bool t503, .int .i64 t504, .slice Ao19 t505.length co19, .int .i64 t508] 45 (0, 0)) (by (with_reducible repeat (first | refine z5 ?_ _ | refine y6 ?_ | refine y4 ?_ _)); exact BK509.out)) : gb542 ≠ gb509)); have n12_ := z2.mk ((by rw [hg]; exact Nat.ne_of_lt (qk (g := gb520) (o := .cells #[.int .i64 t513, .bool t514, .int .i64 t515, .slice Ao26 t516.length co26, .int .i64 t519] 45 (0, 0)) (by (with_reducible repeat (first | refine z5 ?_ _ | refine y6 ?_ | refine y4 ?_ _)); exact BK520.out)) : gb520 ≠ gb542)); have n13_ := z2.mk ((by rw [hg]; exact Nat.ne_of_gt (qk (g := gb520) (o := .cells #[.int .i64 t513, .bool t514, .int .i64 t515, .slice Ao26 t516.length co26, .int .i64 t519] 45 (0, 0)) (by (with_reducible repeat (first | refine z5 ?_ _ | refine y6 ?_ | refine y4 ?_ _)); exact BK520.out)) : gb542 ≠ gb520)); clear HO_510003 HO_521003 HO534 HO540 BK509 BK520 HB; have HO_510003 := n0_; have HO_521003 := n1_; have HO534 := n2_; have HO540 := n3_; have BK509 := n4_; have BK520 := n5_; have HB := n6_; have BK542 := n7_; have GW542 := n8_; have GE542 := n9_; have NB509_542 := n10_; have NB542_509 := n11_; have NB520_542 := n12_; have NB542_520 := n13_; clear n0_ n1_ n2_ n3_ n4_ n5_ n6_ n7_ n8_ n9_ n10_ n11_ n12_ n13_ hb hbox hg; have hnb115 := NB542_509.out; have hnc115 := NB509_542.out; have hnb116 := NB542_520.out; have hnc116 := NB520_542.out; have hcz117_0 : w114.cell? ⟨gb542, 0, none⟩ = some (.int .i64 0) := (z6 BK542.out 0).trans rfl; have hcz117_1 : w114.cell? ⟨gb542, 1, none⟩ = some (.bool false) := (z6 BK542.out 1).trans rfl; have hcz117_2 : w114.cell? ⟨gb542, 2, none⟩ = some (.int .i64 0) := (z6 BK542.out 2).trans rfl; have hcz117_3 : w114.cell? ⟨gb542, 3, none⟩ = some (.slice none 0 0) := (z6 BK542.out 3).trans rfl; have hcz117_4 : w114.cell? ⟨gb542, 4, none⟩ = some (.int .i64 0) := (z6 BK542.out 4).trans rfl; have hfz117_0 := y5 BK542.out 0; have hfz117_1 := y5 BK542.out 1; have hfz117_2 := y5 BK542.out 2; have hfz117_3 := y5 BK542.out 3; have hfz117_4 := y5 BK542.out 4; obtain ⟨Ao118, co118, eo118⟩ := Kd.zt HO540.out; subst eo118; have hcz119_0 : w114.cell? ⟨gb509, 0, none⟩ = some (.int .i64 t502) := (z6 BK509.out 0).trans rfl; have hcz119_1 : w114.cell? ⟨gb509, 1, none⟩ = some (.bool t503) := (z6 BK509.out 1).trans rfl; have hcz119_2 : w114.cell? ⟨gb509, 2, none⟩ = some (.int .i64 t504) := (z6 BK509.out 2).trans rfl; have hcz119_3 : w114.cell? ⟨gb509, 3, none⟩ = some (.slice Ao19 t505.length co19) := (z6 BK509.out 3).trans rfl; have hcz119_4 : w114.cell? ⟨gb509, 4, none⟩ = some (.int .i64 t508) := (z6 BK509.out 4).trans rfl; have hfz119_0 := y5 BK509.out 0; have hfz119_1 := y5 BK509.out 1; have hfz119_2 := y5 BK509.out 2; have hfz119_3 := y5 BK509.out 3; have hfz119_4 := y5 BK509.out 4) | ((with_reducible refine qb (f := 22) rfl ?_); refine zm (some 56) rfl rfl Try.func22 (by kernel_rfl) rfl #[.agg #[.int .i64 t535, .bool t536, .int .i64 t537, .slice Ao118 t538.length co118, .int .i64 t541], .agg #[.int .i64 t502, .bool t503, .int .i64 t504, .slice Ao19 t505.length co19, .int .i64 t508]] rfl (by (try simp only [List.map_toArray, List.map_cons, List.map_nil]); first | done | rfl | (simp only [List.length_drop, List.length_take]; rfl)) ?_; (with_reducible refine (qe.calls kj12 t535 t536 t537 _ _ t538 t541 t502 t503 t504 _ _ t505 t508 false _ ?side1 ?side2 ?side3 ?side4 A50.out).mono ?_); (case side1 => refine (Kd.qd (e := 138) (base := w.heap.size) (ok := fun k_ => ((True ∧ some k_ ≠ (.slice Ao19 t505.length co19 : Value).ownBlock) ∧ some k_ ≠ (.slice Ao26 t516.length co26 : Value).ownBlock)) (n := t538.length) (c := co118) ?_).2.2; exact (by (with_reducible repeat (first | apply Kd.R_alloc | apply Kd.y9 | apply Kd.zb)); exact (Kd.yk (Kd.zf (p := ⟨gb542, 4, none⟩) (Kd.zf (p := ⟨gb542, 3, none⟩) (Kd.zf (p := ⟨gb542, 2, none⟩) (Kd.zf (p := ⟨gb542, 1, none⟩) (Kd.zf (p := ⟨gb542, 0, none⟩) (Kd.qp HO540.out BK542.out (by decide)) (fun _ hk => hk.2) (.int .i64 t535)) (fun _ hk => hk.2) (.bool t536)) (fun _ hk => hk.2) (.int .i64 t537)) (fun _ hk => hk.2) (.slice Ao118 t538.length co118)) (fun _ hk => hk.2) (.int .i64 t541)) (fun _ h_ => h_.1)))); (case side2 => exact (Kd.qd HO540.out).2.1); (case side3 => refine (Kd.qd (e := 138) (base := w.heap.size) (ok := fun k_ => (some k_ ≠ (.slice Ao26 t516.length co26 : Value).ownBlock ∧ some k_ ≠ (.slice Ao118 t538.length co118 : Value).ownBlock)) (n := t505.length) (c := co19) ?_).2.2; exact (by (with_reducible repeat (first | apply Kd.R_alloc | apply Kd.y9 | apply Kd.zb)); exact (Kd.yk (Kd.zf (p := ⟨gb542, 4, none⟩) (Kd.zf (p := ⟨gb542, 3, none⟩) (Kd.zf (p := ⟨gb542, 2, none⟩) (Kd.zf (p := ⟨gb542, 1, none⟩) (Kd.zf (p := ⟨gb542, 0, none⟩) (Kd.qp HO_510003.out BK542.out (by decide)) (fun _ hk => hk.2) (.int .i64 t535)) (fun _ hk => hk.2) (.bool t536)) (fun _ hk => hk.2) (.int .i64 t537)) (fun _ hk => hk.2) (.slice Ao118 t538.length co118)) (fun _ hk => hk.2) (.int .i64 t541)) (fun _ h_ => h_.1)))); (case side4 => exact (Kd.qd HO_510003.out).2.1); rintro e w120 ⟨rfl, hb⟩; refine ⟨_, rfl, ?_⟩; have n0_ := z2.mk (Kd.qf (by (with_reducible repeat (first | apply Kd.R_alloc | apply Kd.y9 | apply Kd.zb)); exact (Kd.yk (Kd.zf (p := ⟨gb542, 4, none⟩) (Kd.zf (p := ⟨gb542, 3, none⟩) (Kd.zf (p := ⟨gb542, 2, none⟩) (Kd.zf (p := ⟨gb542, 1, none⟩) (Kd.zf (p := ⟨gb542, 0, none⟩) (Kd.qp HO_510003.out BK542.out (by decide)) (fun _ hk => hk.2) (.int .i64 t535)) (fun _ hk => hk.2) (.bool t536)) (fun _ hk => hk.2) (.int .i64 t537)) (fun _ hk => hk.2) (.slice Ao118 t538.length co118)) (fun _ hk => hk.2) (.int .i64 t541)) (fun _ h_ => h_.1))) hb); have n1_ := z2.mk (Kd.qf (by (with_reducible repeat (first | apply Kd.R_alloc | apply Kd.y9 | apply Kd.zb)); exact (Kd.yk (Kd.zf (p := ⟨gb542, 4, none⟩) (Kd.zf (p := ⟨gb542, 3, none⟩) (Kd.zf (p := ⟨gb542, 2, none⟩) (Kd.zf (p := ⟨gb542, 1, none⟩) (Kd.zf (p := ⟨gb542, 0, none⟩) (Kd.qp HO_521003.out BK542.out (by decide)) (fun _ hk => hk.2) (.int .i64 t535)) (fun _ hk => hk.2) (.bool t536)) (fun _ hk => hk.2) (.int .i64 t537)) (fun _ hk => hk.2) (.slice Ao118 t538.length co118)) (fun _ hk => hk.2) (.int .i64 t541)) (fun _ h_ => h_.1))) hb); have n2_ := z2.mk (Kd.qf (by (with_reducible repeat (first | apply Kd.R_alloc | apply Kd.y9 | apply Kd.zb)); exact (Kd.yk (Kd.zf (p := ⟨gb542, 4, none⟩) (Kd.zf (p := ⟨gb542, 3, none⟩) (Kd.zf (p := ⟨gb542, 2, none⟩) (Kd.zf (p := ⟨gb542, 1, none⟩) (Kd.zf (p := ⟨gb542, 0, none⟩) (Kd.qp HO534.out BK542.out (by decide)) (fun _ hk => hk.2) (.int .i64 t535)) (fun _ hk => hk.2) (.bool t536)) (fun _ hk => hk.2) (.int .i64 t537)) (fun _ hk => hk.2) (.slice Ao118 t538.length co118)) (fun _ hk => hk.2) (.int .i64 t541)) (fun _ h_ => h_.1))) hb); have n3_ := z2.mk (Kd.qf (by (with_reducible repeat (first | apply Kd.R_alloc | apply Kd.y9 | apply Kd.zb)); exact (Kd.yk (Kd.zf (p := ⟨gb542, 4, none⟩) (Kd.zf (p := ⟨gb542, 3, none⟩) (Kd.zf (p := ⟨gb542, 2, none⟩) (Kd.zf (p := ⟨gb542, 1, none⟩) (Kd.zf (p := ⟨gb542, 0, none⟩) (Kd.qp HO540.out BK542.out (by decide)) (fun _ hk => hk.2) (.int .i64 t535)) (fun _ hk => hk.2) (.bool t536)) (fun _ hk => hk.2) (.int .i64 t537)) (fun _ hk => hk.2) (.slice Ao118 t538.length co118)) (fun _ hk => hk.2) (.int .i64 t541)) (fun _ h_ => h_.1))) hb); have n4_ := z2.mk (z9 (g := gb509) (o := .cells #[.int .i64 t502, .bool t503, .int .i64 t504, .slice Ao19 t505.length co19, .int .i64 t508] 45 (0, 0)) (by (with_reducible repeat (first | refine z5 ?_ _ | refine y6 ?_ | refine y4 ?_ _)); refine zd ?_ NB509_542.out _; (with_reducible repeat (first | refine z5 ?_ _ | refine y6 ?_ | refine y4 ?_ _)); refine zd ?_ NB509_542.out _; (with_reducible repeat (first | refine z5 ?_ _ | refine y6 ?_ | refine y4 ?_ _)); refine zd ?_ NB509_542.out _; (with_reducible repeat (first | refine z5 ?_ _ | refine y6 ?_ | refine y4 ?_ _)); refine zd ?_ NB509_542.out _; (with_reducible repeat (first | refine z5 ?_ _ | refine y6 ?_ | refine y4 ?_ _)); refine zd ?_ NB509_542.out _; (with_reducible repeat (first | refine z5 ?_ _ | refine y6 ?_ | refine y4 ?_ _)); exact BK509.out) hb); have n5_ := z2.mk (z9 (g := gb520) (o := .cells #[.int .i64 t513, .bool t514, .int .i64 t515, .slice Ao26 t516.length co26, .int .i64 t519] 45 (0, 0)) (by (with_reducible repeat (first | refine z5 ?_ _ | refine y6 ?_ | refine y4 ?_ _)); refine zd ?_ NB520_542.out _; (with_reducible repeat (first | refine z5 ?_ _ | refine y6 ?_ | refine y4 ?_ _)); refine zd ?_ NB520_542.out _; (with_reducible repeat (first | refine z5 ?_ _ | refine y6 ?_ | refine y4 ?_ _)); refine zd ?_ NB520_542.out _; (with_reducible repeat (first | refine z5 ?_ _ | refine y6 ?_ | refine y4 ?_ _)); refine zd ?_ NB520_542.out _; (with_reducible repeat (first | refine z5 ?_ _ | refine y6 ?_ | refine y4 ?_ _)); refine zd ?_ NB520_542.out _; (with_reducible repeat (first | refine z5 ?_ _ | refine y6 ?_ | refine y4 ?_ _)); exact BK520.out) hb); have n6_ := z2.mk (z9 (g := gb542) (o := .cells #[.int .i64 t535, .bool t536, .int .i64 t537, .slice Ao118 t538.length co118, .int .i64 t541] 45 (0, 0)) (by (with_reducible repeat (first | refine z5 ?_ _ | refine y6 ?_ | refine y4 ?_ _)); refine qc (cs := #[.int .i64 t535, .bool t536, .int .i64 t537, .slice Ao118 t538.length co118, .int .i64 0]) ?_ 4 _ rfl; (with_reducible repeat (first | refine z5 ?_ _ | refine y6 ?_ | refine y4 ?_ _)); refine qc (cs := #[.int .i64 t535, .bool t536, .int .i64 t537, .slice none 0 0, .int .i64 0]) ?_ 3 _ rfl; (with_reducible repeat (first | refine z5 ?_ _ | refine y6 ?_ | refine y4 ?_ _)); refine qc (cs := #[.int .i64 t535, .bool t536, .int .i64 0, .slice none 0 0, .int .i64 0]) ?_ 2 _ rfl; (with_reducible repeat (first | refine z5 ?_ _ | refine y6 ?_ | refine y4 ?_ _)); refine qc (cs := #[.int .i64 t535, .bool false, .int .i64 0, .slice none 0 0, .int .i64 0]) ?_ 1 _ rfl; (with_reducible repeat (first | refine z5 ?_ _ | refine y6 ?_ | refine y4 ?_ _)); refine qc (cs := #[.int .i64 0, .bool false, .int .i64 0, .slice none 0 0, .int .i64 0]) ?_ 0 _ rfl; (with_reducible repeat (first | refine z5 ?_ _ | refine y6 ?_ | refine y4 ?_ _)); exact BK542.out) hb); have n7_ := z2.mk (y8 (by repeat (first | (with_reducible first | exact HB.out | apply z4 | apply z1 | apply z3 | refine z7 ?_ GE509.out | refine z7 ?_ GE520.out | refine z7 ?_ GE542.out) | exact HB.out)) hb); clear HO_510003 HO_521003 HO534 HO540 BK509 BK520 BK542 HB; have HO_510003 := n0_; have HO_521003 := n1_; have HO534 := n2_; have HO540 := n3_; have BK509 := n4_; have BK520 := n5_; have BK542 := n6_; have HB := n7_; clear n0_ n1_ n2_ n3_ n4_ n5_ n6_ n7_; (try clear hb); (try clear hb2); (try clear hk); (try clear hi)))
          go_ret
          exact ⟨by first | rfl | (simp [ya, qa] <;> rfl) | (simp [*, ya, qa] <;> rfl), by repeat (first | (with_reducible first | exact HB.out | apply z4 | apply z1 | apply z3 | refine z7 ?_ GE509.out | refine z7 ?_ GE520.out | refine z7 ?_ GE542.out) | exact HB.out)⟩
        ·rw [if_neg c47] at H
         have c47b0 : (t531 == t529) = false := beq_eq_false_iff_ne.mpr c47
         have c47b1 : (t531 != t529) = true := bne_iff_ne.mpr c47
         obtain rfl := Option.some.inj H
         have hnb121 := NB520_509.out
         have hnc121 := NB509_520.out
         have hcz122_0 : wc.cell? ⟨gb520, 0, none⟩ = some (.int .i64 t513) := (z6 BK520.out 0).trans rfl
         have hcz122_1 : wc.cell? ⟨gb520, 1, none⟩ = some (.bool t514) := (z6 BK520.out 1).trans rfl
         have hcz122_2 : wc.cell? ⟨gb520, 2, none⟩ = some (.int .i64 t515) := (z6 BK520.out 2).trans rfl
         have hcz122_3 : wc.cell? ⟨gb520, 3, none⟩ = some (.slice Ao26 t516.length co26) := (z6 BK520.out 3).trans rfl
         have hcz122_4 : wc.cell? ⟨gb520, 4, none⟩ = some (.int .i64 t519) := (z6 BK520.out 4).trans rfl
         have hfz122_0 := y5 BK520.out 0
         have hfz122_1 := y5 BK520.out 1
         have hfz122_2 := y5 BK520.out 2
         have hfz122_3 := y5 BK520.out 3
         have hfz122_4 := y5 BK520.out 4
         go_wp2_with (first | ((with_reducible refine qb (f := 25) rfl ?_); refine zm (some 42) rfl rfl Try.func25 (by kernel_rfl) rfl #[.agg #[.int .i64 t513, .bool t514, .int .i64 t515, .slice Ao26 t516.length co26, .int .i64 t519], .int .i64 1] rfl (by (try simp only [List.map_toArray, List.map_cons, List.map_nil]); first | done | rfl | (simp only [List.length_drop, List.length_take]; rfl)) ?_; (with_reducible refine (qr.calls kj12 t513 t514 t515 (fun k_ => some k_ = (.slice Ao26 t516.length co26 : Value).ownBlock) (.slice Ao26 t516.length co26) t516 t519 1 t529 t530 w _ ?side1 ?side2 A39.out).mono ?_); (case side1 => repeat (first | (with_reducible first | exact HB.out | apply z4 | apply z1 | apply z3 | refine z7 ?_ GE509.out | refine z7 ?_ GE520.out) | exact HB.out)); (case side2 => exact Kd.q0f rfl HO_521003.out); rintro e w123 ⟨rfl, hy0, hb, hkp⟩; refine ⟨_, rfl, ?_⟩; have n0_ := z2.mk (Kd.yk (ok' := fun k_ => some k_ ≠ (.slice Ao26 t516.length co26 : Value).ownBlock) (Kd.q0h (HO_510003.out) hkp (fun k_ hk_ hs_ => (hk_) hs_)) (fun k_ hk_ => hk_.1)); have n1_ := z2.mk (Kd.q0n rfl hy0 (fun k_ e_ => HO_521003.out.1 k_ e_)); have n2_ := z2.mk (q02 (by (with_reducible repeat (first | refine z5 ?_ _ | refine y6 ?_ | refine y4 ?_ _)); exact BK509.out) hkp (fun hs_ => (fun e_ => (Kd.y0k HO_521003.out BK509.out (by decide)) e_) hs_)); have n3_ := z2.mk (q02 (by (with_reducible repeat (first | refine z5 ?_ _ | refine y6 ?_ | refine y4 ?_ _)); exact BK520.out) hkp (fun hs_ => (fun e_ => (Kd.y0k HO_521003.out BK520.out (by decide)) e_) hs_)); have n4_ := z2.mk (hb); clear HO_510003 HO_521003 BK509 BK520 HB; have HO_510003 := n0_; have HO_521003 := n1_; have BK509 := n2_; have BK520 := n3_; have HB := n4_; clear n0_ n1_ n2_ n3_ n4_; (try clear hb); (try clear hkp); (try clear hy0); have hcz124_0 : w123.cell? ⟨gb520, 0, none⟩ = some (.int .i64 t513) := (z6 BK520.out 0).trans rfl; have hcz124_1 : w123.cell? ⟨gb520, 1, none⟩ = some (.bool t514) := (z6 BK520.out 1).trans rfl; have hcz124_2 : w123.cell? ⟨gb520, 2, none⟩ = some (.int .i64 t515) := (z6 BK520.out 2).trans rfl; have hcz124_3 : w123.cell? ⟨gb520, 3, none⟩ = some (.slice Ao26 t516.length co26) := (z6 BK520.out 3).trans rfl; have hcz124_4 : w123.cell? ⟨gb520, 4, none⟩ = some (.int .i64 t519) := (z6 BK520.out 4).trans rfl; have hfz124_0 := y5 BK520.out 0; have hfz124_1 := y5 BK520.out 1; have hfz124_2 := y5 BK520.out 2; have hfz124_3 := y5 BK520.out 3; have hfz124_4 := y5 BK520.out 4) | ((with_reducible refine qb (f := 26) rfl ?_); refine zm (some 45) rfl rfl Try.func26 (by kernel_rfl) rfl #[.agg #[.int .i64 t513, .bool t514, .int .i64 t515, .slice Ao26 t530.length co26, .int .i64 t519], .int .i64 1] rfl (by (try simp only [List.map_toArray, List.map_cons, List.map_nil]); first | done | (rw [show t530.length = t516.length from (Kd.qd HO_521003.out).1.symm] <;> rfl) | rfl | (simp only [List.length_drop, List.length_take]; rfl)) ?_; (with_reducible refine (qh.calls kj12 t513 t514 t515 _ _ t530 t519 1 t531 _ ?side1 ?side2 A40.out).mono ?_); (case side1 => repeat (first | exact (Kd.qd HO_521003.out).2.2 | (with_reducible refine Kd.yi ?_ _) | (with_reducible refine Kd.qi ?_ _) | (with_reducible refine Kd.C_drew ?_))); (case side2 => rw [show t530.length = t516.length from (Kd.qd HO_521003.out).1.symm]; exact (Kd.qd HO_521003.out).2.1); rintro e w125 ⟨rfl, hb⟩; refine ⟨_, rfl, ?_⟩; have n0_ := z2.mk (Kd.qf (by (with_reducible repeat (first | apply Kd.R_alloc | apply Kd.y9 | apply Kd.zb)); exact HO_510003.out) hb); have n1_ := z2.mk (Kd.qf (by (with_reducible repeat (first | apply Kd.R_alloc | apply Kd.y9 | apply Kd.zb)); exact HO_521003.out) hb); have n2_ := z2.mk (z9 (g := gb509) (o := .cells #[.int .i64 t502, .bool t503, .int .i64 t504, .slice Ao19 t505.length co19, .int .i64 t508] 45 (0, 0)) (by (with_reducible repeat (first | refine z5 ?_ _ | refine y6 ?_ | refine y4 ?_ _)); exact BK509.out) hb); have n3_ := z2.mk (z9 (g := gb520) (o := .cells #[.int .i64 t513, .bool t514, .int .i64 t515, .slice Ao26 t516.length co26, .int .i64 t519] 45 (0, 0)) (by (with_reducible repeat (first | refine z5 ?_ _ | refine y6 ?_ | refine y4 ?_ _)); exact BK520.out) hb); have n4_ := z2.mk (y8 (by repeat (first | (with_reducible first | exact HB.out | apply z4 | apply z1 | apply z3 | refine z7 ?_ GE509.out | refine z7 ?_ GE520.out) | exact HB.out)) hb); clear HO_510003 HO_521003 BK509 BK520 HB; have HO_510003 := n0_; have HO_521003 := n1_; have BK509 := n2_; have BK520 := n3_; have HB := n4_; clear n0_ n1_ n2_ n3_ n4_; (try clear hb); (try clear hb2); (try clear hk); (try clear hi)))
         go_ret
         exact ⟨by first | rfl | (simp [ya, qa] <;> rfl) | (simp [*, ya, qa] <;> rfl), by repeat (first | (with_reducible first | exact HB.out | apply z4 | apply z1 | apply z3 | refine z7 ?_ GE509.out | refine z7 ?_ GE520.out) | exact HB.out)⟩
   ·replace c11 := Bool.eq_false_iff.mpr c11
    subst c11
    have H1 : (none) = some r := by rw [if_neg (show ¬ (false = true) by decide)] at H; exact H
    clear H
    have H := H1
    clear H1
    exact absurd H (by simp)
  ·replace c8 := Bool.eq_false_iff.mpr c8
   subst c8
   have H1 : (none) = some r := by rw [if_neg (show ¬ (false = true) by decide)] at H; exact H
   clear H
   have H := H1
   clear H1
   exact absurd H (by simp)
def zc.Pure : Prop := ∀ (l0 : List Int), l0.length ≤ maxLen → l0.length * 1 ≤ 140737488351232 → (∀ x ∈ l0, (Lit.int .u8 x).wf = true) → ∃ k, zc.f k l0 = some true
theorem zc.walk (P : zc.Pure) (a0 : Option Addr) (len0 cap0 : Nat) (z0 : List Int) (w : World) (w0 : (a0 = none ∧ len0 = 0 ∧ cap0 = 0 ∧ z0 = []) ∨ ∃ x, a0 = some x ∧ len0 ≤ cap0 ∧ cap0 ≤ maxLen ∧ z0.length = cap0 ∧ (∀ i, i < z0.length → w.cell? (x.add i) = some (.int .u8 (z0.getD i 0))) ∧ ∀ n ∈ z0, (Lit.int .u8 n).wf = true) (y0 : len0 * 1 ≤ 140737488351232) :
  Calls Try.prog 5 #[.slice a0 len0 cap0] w fun e w' => e = .returned (.bool true) ∧ Below w.heap.size w w' := by
 obtain ⟨l0, rfl, hr0, hm0, hw0, hc0⟩ := q00.z2n w0
 obtain ⟨k, h⟩ := P l0 hm0 y0 hw0
 refine (zc.calls k _ _ l0 true w (Kd.z05 (d := (0 : Int)) (h1 := fun _ => rfl) hr0) hc0 h).mono ?_
 rintro e w' ⟨rfl, hd⟩
 exact ⟨rfl, hd⟩
end Go.Proofs.Ytkeojolmapcgbaa.PEv
end
section
namespace Go.Proofs.Ytkeojolmapcgbaa.Plain
open Go.RowKit Go.Proofs.YtkeojolmapcgbaaW.PrintWords
theorem zu {i : Int} (h0 : -9223372036854775808 ≤ i) (h1 : i ≤ 9223372036854775807) : wrap64 i = i := by
 unfold wrap64
 omega
theorem q0z {P : Int → Prop} (n : Nat) (h0 : P (n : Int)) (step : ∀ i : Nat, i < n → P ((i : Int) + 1) → P (i : Int)) : ∀ j : Nat, j ≤ n → P (j : Int) := by
 intro j hj
 obtain ⟨d, hd⟩ : ∃ d, n = j + d := ⟨n - j, by omega⟩
 induction d generalizing j with
 | zero =>
  obtain rfl : n = j := by omega
  exact h0
 | succ d ih =>
  have h := ih (j + 1) (by omega) (by omega)
  exact step j (by omega) (by simpa using h)
theorem y1w {P : Int → Prop} (n : Nat) (h0 : P (n : Int)) (step : ∀ i : Nat, i < n → P ((i : Int) + 1) → P (i : Int)) : P 0 := q0z n h0 step 0 (Nat.zero_le _)
theorem y2t {α : Type} {g : Nat → Option α} {r s : α} (h : Ev g r) (e : r = s) : Ev g s := e ▸ h
theorem y0m {α : Type} {o : Option α} {r : α} (h : o = some r) : Ev (fun _ => o) r := ⟨0, fun _ _ => h⟩
theorem q18 {α : Type} (l : List α) (z : α) (i : Nat) (h : i < l.length) : l.getD i z = l[i] := by
 simp [List.getD_eq_getElem?_getD, List.getElem?_eq_getElem h]
theorem y1n {α : Type} (l : List α) (z : α) (i : Nat) (h : i < l.length) : l.getD i z ∈ l := by
 rw [q18 l z i h]; exact List.getElem_mem h
section
variable {α β γ : Type}
theorem q2i (x0 : List α) (z : α) (e : Nat → α → Option γ) (m : γ → β) (c : α → γ) (l : Nat → List β → Int → Option (List β))
  (hl : ∀ k x3 x4, l (k + 1) x3 x4 = if x4 < (x0.length : Int) then (if 0 ≤ x4 then ((e k (x0.getD x4.toNat z)).bind fun y => (if x4 < (x3.length : Int) then l k (x3.set x4.toNat (m y)) (wrap64 (x4 + 1)) else none)) else none) else some x3)
  (he : ∀ a ∈ x0, Ev (fun k => e k a) (c a)) (hn : x0.length ≤ 9223372036854775806) (x3 : List β) (h3 : x3.length = x0.length) :
  Ev (fun k => l k x3 0) (x0.map fun a => m (c a)) := by
 have key := q0z (P := fun i => ∀ x3 : List β, x3.length = x0.length → (∀ j : Nat, (j : Int) < i → x3[j]? = (x0.map fun a => m (c a))[j]?) → Ev (fun k => l k x3 i) (x0.map fun a => m (c a))) x0.length ?_ ?_ 0 (Nat.zero_le _)
 ·exact key x3 h3 (fun j hj => by omega)
 ·intro x3 h3 hj
  have e3 : x3 = x0.map fun a => m (c a) := by
   apply List.ext_getElem?
   intro j
   by_cases h : j < x0.length
   ·exact hj j (by omega)
   ·rw [List.getElem?_eq_none (by omega), List.getElem?_eq_none (by simp; omega)]
  refine Ev.step (f := fun _ => some x3) (fun k => ?_) (e3 ▸ Ev.now x3)
  rw [hl, if_neg (by omega)]
 ·intro i hi ih x3 h3 hj
  have hm := he _ (y1n x0 z i hi)
  have ih' := ih (x3.set i (m (c (x0.getD i z)))) (by simp [h3]) (fun j hj' => by
   by_cases hji : j = i
   ·subst hji
    rw [List.getElem?_set_self (by omega), List.getElem?_map, List.getElem?_eq_getElem hi, q18 x0 z j hi]
    rfl
   ·rw [List.getElem?_set_ne (by omega)]
    exact hj j (by omega))
  refine Ev.step (f := fun k => (e k (x0.getD i z)).bind fun y => l k (x3.set i (m y)) ((i : Int) + 1)) (fun k => ?_) (Ev.bind hm ih')
  rw [hl, if_pos (by omega), if_pos (by omega), Int.toNat_natCast]
  congr 1
  funext y
  rw [if_pos (by omega), zu (by omega) (by omega)]
theorem q2e (x0 : List α) (z : α) (e : Nat → α → α → Option Bool) (l : Nat → Int → Option Bool)
  (hl : ∀ k x5, l (k + 1) x5 = if x5 < (x0.length : Int) then (if 0 ≤ x5 then (if x5 < (x0.length : Int) then ((e k (x0.getD x5.toNat z) (x0.getD x5.toNat z)).bind fun t => (if t = true then l k (wrap64 (x5 + 1)) else some false)) else none) else none) else some true)
  (he : ∀ a ∈ x0, Ev (fun k => e k a a) true) (hn : x0.length ≤ 9223372036854775806) : Ev (fun k => l k 0) true := by
 refine y1w (P := fun i => Ev (fun k => l k i) true) x0.length ?_ ?_
 ·refine Ev.step (f := fun _ => some true) (fun k => ?_) (Ev.now true)
  rw [hl, if_neg (by omega)]
 ·intro i hi ih
  refine Ev.step (f := fun k => (e k (x0.getD i z) (x0.getD i z)).bind fun t => if t = true then l k ((i : Int) + 1) else some false) (fun k => ?_) (Ev.bind (he _ (y1n x0 z i hi)) (by simpa using ih))
  rw [hl, if_pos (by omega), if_pos (by omega), if_pos (by omega), Int.toNat_natCast, zu (by omega) (by omega)]
theorem y28 [DecidableEq β] (x0 : List α) (z : α) (f : α → β) (l : Nat → Int → Option Bool)
  (hl : ∀ k x5, l (k + 1) x5 = if x5 < (x0.length : Int) then (if 0 ≤ x5 then (if x5 < (x0.length : Int) then (if f (x0.getD x5.toNat z) = f (x0.getD x5.toNat z) then l k (wrap64 (x5 + 1)) else some false) else none) else none) else some true)
  (hn : x0.length ≤ 9223372036854775806) : Ev (fun k => l k 0) true := by
 refine y1w (P := fun i => Ev (fun k => l k i) true) x0.length ?_ ?_
 ·refine Ev.step (f := fun _ => some true) (fun k => ?_) (Ev.now true)
  rw [hl, if_neg (by omega)]
 ·intro i hi ih
  refine Ev.step (f := fun k => l k ((i : Int) + 1)) (fun k => ?_) ih
  rw [hl, if_pos (by omega), if_pos (by omega), if_pos (by omega), if_pos rfl, zu (by omega) (by omega)]
theorem y1e (mkf : Int → α) (c : Int) (l : Nat → List α → Int → Int → Option (Int × List α)) (n : Nat) (hn : n ≤ 1048576) (hc0 : 0 ≤ c) (hc : c ≤ 16)
  (hstep : ∀ (k : Nat) (xs : List α) (m : Int) (i : Nat), xs.length = n → i < n → 0 ≤ m → m ≤ 1073741824 → l (k + 1) xs m i = l k (xs.set i (mkf m)) (m + c) ((i : Int) + 1))
  (hend : ∀ (k : Nat) (xs : List α) (m : Int), xs.length = n → l (k + 1) xs m n = some (m, xs)) (xs : List α) (hx : xs.length = n) (m : Int) (h0 : 0 ≤ m) (hm : m ≤ 536870912) :
  Ev (fun k => l k xs m 0) (m + c * n, (List.range n).map fun (j : Nat) => mkf (m + c * (j : Int))) := by
 have key := q0z (P := fun i => ∀ (ys : List α) (q : Nat), (q : Int) = i → ys.length = n → (∀ j : Nat, j < q → ys[j]? = some (mkf (m + c * (j : Int)))) → Ev (fun k => l k ys (m + c * i) i) (m + c * n, (List.range n).map fun (j : Nat) => mkf (m + c * (j : Int)))) n ?_ ?_ 0 (Nat.zero_le _)
 ·have := key xs 0 rfl hx (fun j hj => by omega)
  simpa using this
 ·intro ys q hq hy hj
  obtain rfl : q = n := by omega
  have e : ys = (List.range q).map fun (j : Nat) => mkf (m + c * (j : Int)) := by
   apply List.ext_getElem?
   intro j
   by_cases h : j < q
   ·rw [hj j h]
    simp [h]
   ·rw [List.getElem?_eq_none (by omega), List.getElem?_eq_none (by simp; omega)]
  refine Ev.step (f := fun _ => some (m + c * (q : Int), ys)) (fun k => hend k ys _ hy) ?_
  rw [← e]
  exact Ev.now _
 ·intro i hi ih ys q hq hy hj
  obtain rfl : q = i := by omega
  have hb : 0 ≤ c * (q : Int) := Int.mul_nonneg hc0 (by omega)
  have hb2 : c * (q : Int) ≤ 16 * (q : Int) := Int.mul_le_mul_of_nonneg_right hc (by omega)
  have h := ih (ys.set q (mkf (m + c * (q : Int)))) (q + 1) (by simp) (by simp [hy]) (fun j hj' => by
   by_cases e : j = q
   ·subst e
    rw [List.getElem?_set_self (by omega)]
   ·rw [List.getElem?_set_ne (by omega)]
    exact hj j (by omega))
  refine Ev.step (f := fun k => l k (ys.set q (mkf (m + c * (q : Int)))) (m + c * ((q : Int) + 1)) ((q : Int) + 1)) (fun k => ?_) h
  rw [hstep k ys _ q hy hi (by omega) (by omega)]
  congr 1
  rw [Int.mul_add, Int.mul_one, Int.add_assoc]
theorem z1z (mkf : Int → α) (c : Int) (l : Nat → Int → Int → Option Int) (n : Nat) (hn : n ≤ 1048576) (hc0 : 0 ≤ c) (hc : c ≤ 16) (m : Int) (h0 : 0 ≤ m) (hm : m ≤ 536870912)
  (hstep : ∀ (k : Nat) (i : Nat), i < n → 0 ≤ m + c * (i : Int) → m + c * (i : Int) ≤ 1073741824 → ((List.range n).map fun (j : Nat) => mkf (m + c * (j : Int)))[i]? = some (mkf (m + c * (i : Int))) → l (k + 1) (m + c * (i : Int)) i = l k (m + c * (i : Int) + c) ((i : Int) + 1))
  (hend : ∀ (k : Nat) (q : Int), l (k + 1) q n = some q) : Ev (fun k => l k m 0) (m + c * n) := by
 have key := y1w (P := fun i => Ev (fun k => l k (m + c * i) i) (m + c * n)) n (Ev.step (fun k => hend k _) (Ev.now _)) (fun i hi ih => ?_)
 ·simpa using key
 ·have hb : 0 ≤ c * (i : Int) := Int.mul_nonneg hc0 (by omega)
  have hb2 : c * (i : Int) ≤ 16 * (i : Int) := Int.mul_le_mul_of_nonneg_right hc (by omega)
  refine Ev.step (f := fun k => l k (m + c * ((i : Int) + 1)) ((i : Int) + 1)) (fun k => ?_) ih
  rw [hstep k i hi (by omega) (by omega) (by simp [hi])]
  congr 1
  rw [Int.mul_add, Int.mul_one, Int.add_assoc]
end
end Go.Proofs.Ytkeojolmapcgbaa.Plain
end
section
namespace Go.Proofs.Ytkeojolmapcgbaa.PEv
open Go.RowKit Go.Proofs.YtkeojolmapcgbaaW.PrintWords Go.Proofs.YtkeojolmapcgbaaW.PrintLast Go.Proofs.Ytkeojolmapcgbaa.Plain
theorem y16 (a b c : Int) : yn.f a b c = some (decide (b ≤ a ∧ a ≤ c)) := by
 unfold yn.f
 by_cases h : a ≥ b
 ·have h' : b ≤ a := h
  rw [if_pos h]; simp [h']
 ·have h' : ¬ b ≤ a := h
  rw [if_neg h]; simp [h']
theorem y2c (a : Int) : q05.f a = some (decide (1 ≤ a ∧ a ≤ 1000000000)) := by
 unfold q05.f; rw [y16]; rfl
theorem q1b (x : yl) : Ev (fun k => zg.f k x.f0 x.f1 x.f2 x.f3) (z09 x) := by
 refine ⟨1, fun k hk => ?_⟩
 obtain ⟨k, rfl⟩ : ∃ m, k = m + 1 := ⟨k - 1, by omega⟩
 show zg.f (k + 1) x.f0 x.f1 x.f2 x.f3 = some (z09 x)
 unfold zg.f
 rw [y16, y16, y16, y16]
 simp only [Option.bind_some]
 by_cases h0 : 0 ≤ x.f0 ∧ x.f0 ≤ 2
 ·by_cases h1 : 0 ≤ x.f1 ∧ x.f1 ≤ 5
  ·by_cases h2 : 0 ≤ x.f2 ∧ x.f2 ≤ 2
   ·by_cases h3 : -1000000000000 ≤ x.f3 ∧ x.f3 ≤ 1000000000000
    ·have e : y0c x ∧ z0i x := ⟨⟨h0, h1, h2⟩, h3⟩
     unfold z09
     rw [if_pos e]
     simp only [decide_eq_true h0, decide_eq_true h1, decide_eq_true h2, decide_eq_true h3, if_true, zg.j0]
     by_cases hz : x.f3 = 0 <;> simp [hz]
    ·have e : ¬ (y0c x ∧ z0i x) := fun h => h3 h.2
     unfold z09
     rw [if_neg e]
     simp only [decide_eq_true h0, decide_eq_true h1, decide_eq_true h2, decide_eq_false h3, if_true, zg.j0]
     simp
   ·have e : ¬ (y0c x ∧ z0i x) := fun h => h2 h.1.2.2
    unfold z09
    rw [if_neg e]
    simp [h0, h1, h2, zg.j0]
  ·have e : ¬ (y0c x ∧ z0i x) := fun h => h1 h.1.2.1
   unfold z09
   rw [if_neg e]
   simp [h0, h1, zg.j0]
 ·have e : ¬ (y0c x ∧ z0i x) := fun h => h0 h.1.1
  unfold z09
  rw [if_neg e]
  simp [h0, zg.j0]
theorem rdT (l : List yl) (i : Nat) (h : i < l.length) : y7 l (i : Int) = l[i] := by
 unfold y7
 rw [Int.toNat_natCast, q18 l _ i h]
def q0k (l : List yl) : List Int := [y0u l 0, y0u l 1, y0u l 2]
theorem q23 (l : List yl) (a : Int) (h0 : 0 ≤ a) (h2 : a ≤ 2) : rd (q0k l) a = y0u l a := by
 have : a = 0 ∨ a = 1 ∨ a = 2 := by omega
 rcases this with rfl | rfl | rfl <;> rfl
theorem z1t (l : List yl) (x : yl) (h0 : 0 ≤ x.f2) (h2 : x.f2 ≤ 2) : q0k (l ++ [x]) = (q0k l).set x.f2.toNat (y0u l x.f2 + x.f3) := by
 unfold q0k
 rw [y0t, y0t, y0t]
 have : x.f2 = 0 ∨ x.f2 = 1 ∨ x.f2 = 2 := by omega
 rcases this with h | h | h <;> rw [h] <;> simp
theorem z2h (l : List yl) (hp : ∀ x ∈ l, y0c x) : Ev (fun k => za.l2 k (q0k l) 0) (scan l []) := by
 have e0 : ∀ i : Nat, i < 3 → ∀ k, za.l2 (k + 1) (q0k l) (i : Int) = if y0u l (i : Int) = 0 then za.l2 k (q0k l) ((i : Int) + 1) else some 1 := fun i hi k => by
  have hlen : ((q0k l).length : Int) = 3 := rfl
  simp only [za.l2]
  rw [hlen, if_pos (by omega), if_pos (by omega), q23 l i (by omega) (by omega), zu (by omega) (by omega)]
 have s0 := e0 0 (by omega)
 have s1 := e0 1 (by omega)
 have s2 := e0 2 (by omega)
 have s3 : ∀ k, za.l2 (k + 1) (q0k l) 3 = some 0 := fun k => by
  have hlen : ((q0k l).length : Int) = 3 := rfl
  simp only [za.l2]
  rw [hlen, if_neg (by omega)]
 by_cases h0 : y0u l 0 = 0
 ·by_cases h1 : y0u l 1 = 0
  ·by_cases h2 : y0u l 2 = 0
   ·have e : scan l [] = 0 := y1g l (fun a => by
     by_cases ha : a = 0 ∨ a = 1 ∨ a = 2
     ·rcases ha with rfl | rfl | rfl <;> assumption
     ·exact z1h l a (fun x hx e => by have := (hp x hx).2.2; omega))
    rw [e]
    exact Ev.step (fun k => (s0 k).trans (if_pos h0)) (Ev.step (fun k => (s1 k).trans (if_pos h1)) (Ev.step (fun k => (s2 k).trans (if_pos h2)) (Ev.step s3 (Ev.now 0))))
   ·rw [z0z l 2 h2]
    exact Ev.step (fun k => (s0 k).trans (if_pos h0)) (Ev.step (fun k => (s1 k).trans (if_pos h1)) (Ev.step (fun k => (s2 k).trans (if_neg h2)) (Ev.now 1)))
  ·rw [z0z l 1 h1]
   exact Ev.step (fun k => (s0 k).trans (if_pos h0)) (Ev.step (fun k => (s1 k).trans (if_neg h1)) (Ev.now 1))
 ·rw [z0z l 0 h0]
  exact Ev.step (fun k => (s0 k).trans (if_neg h0)) (Ev.now 1)
theorem q2g (id : Int) (l : List yl) (s : List Int) (i : Nat) (hi : i < l.length) (hn : l.length ≤ 8) (x : yl) (r : Int)
  (hr : y0i (l.take i) x = false → Ev (fun k => za.l1 k s i i id l x.f0 x.f1 x.f2 x.f3) r) :
  Ev (fun k => za.l1 k s i 0 id l x.f0 x.f1 x.f2 x.f3) (if y0i (l.take i) x = true then 7 else r) := by
 have key : ∀ j : Nat, j ≤ i → Ev (fun k => za.l1 k s i (j : Int) id l x.f0 x.f1 x.f2 x.f3) (if y0i ((l.take i).drop j) x = true then 7 else r) ∨ y0i (l.take j) x = true := by
  have := q0z (P := fun j => ∀ m : Nat, (m : Int) = j → (y0i (l.take m) x = false → Ev (fun k => za.l1 k s i j id l x.f0 x.f1 x.f2 x.f3) (if y0i ((l.take i).drop m) x = true then 7 else r))) i ?_ ?_
  ·intro j hj
   cases hb : y0i (l.take j) x with
   | true => exact .inr rfl
   | false => exact .inl (this j hj j rfl hb)
  ·intro m hm hb
   obtain rfl : m = i := by omega
   have e : (l.take m).drop m = [] := by simp
   rw [e]
   exact hr hb
  ·intro j hj ih m hm hb
   obtain rfl : m = j := by omega
   have hjl : m < l.length := by omega
   have ed : (l.take i).drop m = l[m] :: (l.take i).drop (m + 1) := by
    rw [List.drop_eq_getElem_cons (by simp; omega)]
    simp
   have st : ∀ k, za.l1 (k + 1) s i (m : Int) id l x.f0 x.f1 x.f2 x.f3 = if sameAt l[m] x = true then some 7 else za.l1 k s i ((m : Int) + 1) id l x.f0 x.f1 x.f2 x.f3 := fun k => by
    simp only [za.l1]
    rw [if_pos (by omega), if_pos (by omega), if_pos (by omega), rdT l m hjl, zu (by omega) (by omega)]
    unfold sameAt
    by_cases h0 : l[m].f0 = x.f0 <;> by_cases h1 : l[m].f1 = x.f1 <;> by_cases h2 : l[m].f2 = x.f2 <;> simp [h0, h1, h2]
   cases hs : sameAt l[m] x with
   | true =>
    have e7 : y0i ((l.take i).drop m) x = true := by rw [ed]; simp [y0i, hs]
    rw [if_pos e7]
    exact Ev.step (fun k => (st k).trans (by rw [hs]; rfl)) (Ev.now 7)
   | false =>
    have e1 : y0i (l.take (m + 1)) x = false := by
     rw [List.take_succ_eq_append_getElem hjl]
     unfold y0i at hb ⊢
     rw [List.any_append, hb]
     simp [hs]
    have e2 : y0i ((l.take i).drop m) x = y0i ((l.take i).drop (m + 1)) x := by rw [ed]; simp [y0i, hs]
    rw [e2]
    exact Ev.step (fun k => (st k).trans (by rw [hs]; rfl)) (ih (m + 1) (by simp) e1)
 have h0 := key 0 (Nat.zero_le _)
 rcases h0 with h | h
 ·simpa using h
 ·simp [y0i] at h
theorem y24 (id : Int) (l : List yl) : Ev (fun k => za.f k id l) (cf id l) := by
 unfold za.f cf
 rw [y2c]
 by_cases hid : 1 ≤ id ∧ id ≤ 1000000000
 ·rw [if_pos hid]
  simp only [decide_eq_true hid, Option.bind_some, if_true]
  by_cases hl : 2 ≤ l.length ∧ l.length ≤ 8
  ·rw [if_pos hl]
   have hg : decide ((l.length : Int) > 8) = false := decide_eq_false (by omega)
   have h2 : ¬ (l.length : Int) < 2 := by omega
   simp only [if_neg h2, hg]
   refine Ev.step (f := fun k => za.l0 k (List.replicate 3 0) 0 id l) (fun k => ?_) ?_
   ·simp only [za.j0]
    rfl
   ·have key : ∀ i : Nat, i ≤ l.length → (∀ x ∈ l.take i, y0c x ∧ z0i x) → Ev (fun k => za.l0 k (q0k (l.take i)) (i : Int) id l) (scan (l.take i) (l.drop i)) := by
     have := q0z (P := fun j => ∀ i : Nat, (i : Int) = j → (∀ x ∈ l.take i, y0c x ∧ z0i x) → Ev (fun k => za.l0 k (q0k (l.take i)) j id l) (scan (l.take i) (l.drop i))) l.length ?_ ?_
     ·exact fun i hi h => this i hi i rfl h
     ·intro i hi hp
      obtain rfl : i = l.length := by omega
      rw [List.take_length, List.drop_length] at *
      refine Ev.step (f := fun k => za.l2 k (q0k l) 0) (fun k => ?_) (z2h l (fun x hx => (hp x hx).1))
      simp only [za.l0]
      rw [if_neg (by omega)]
     ·intro i hi ih m hm hp
      obtain rfl : m = i := by omega
      have ed : l.drop m = l[m] :: l.drop (m + 1) := List.drop_eq_getElem_cons hi
      have et : l.take (m + 1) = l.take m ++ [l[m]] := List.take_succ_eq_append_getElem hi
      rw [ed]
      simp only [scan]
      have st : ∀ k, za.l0 (k + 1) (q0k (l.take m)) (m : Int) id l = (zg.f k l[m].f0 l[m].f1 l[m].f2 l[m].f3).bind fun t => (if t = 0 then za.l1 k (q0k (l.take m)) (m : Int) 0 id l l[m].f0 l[m].f1 l[m].f2 l[m].f3 else some t) := fun k => by
       simp only [za.l0]
       rw [if_pos (by omega), if_pos (by omega), rdT l m hi]
      refine Ev.step st (Ev.bind (q1b l[m]) ?_)
      by_cases hz : z09 l[m] = 0
      ·simp only [if_pos hz]
       obtain ⟨hpl, ham, _⟩ := q0u hz
       have h1 := q2g id l (q0k (l.take m)) m hi hl.2 l[m] (scan (l.take m ++ [l[m]]) (l.drop (m + 1))) ?_
       ·exact h1
       ·intro hb
        have hp' : ∀ x ∈ l.take (m + 1), y0c x ∧ z0i x := by
         rw [et]
         intro x hx
         rcases List.mem_append.1 hx with hx | hx
         ·exact hp x hx
         ·rw [List.mem_singleton.1 hx]; exact ⟨hpl, ham⟩
        have h2 := ih (m + 1) (by simp) hp'
        rw [et] at h2
        refine Ev.step (f := fun k => za.l0 k (q0k (l.take m ++ [l[m]])) ((m : Int) + 1) id l) (fun k => ?_) h2
        have b := q24 (l.take m) l[m].f2 (fun x hx => (hp x hx).2)
        have hlen : (l.take m).length ≤ 8 := by rw [List.length_take]; omega
        unfold z0i at ham
        have hs3 : ((q0k (l.take m)).length : Int) = 3 := rfl
        simp only [za.l1]
        rw [if_neg (by omega), if_pos hpl.2.2.1, hs3, if_pos (by have := hpl.2.2.2; omega), q23 _ _ hpl.2.2.1 hpl.2.2.2, zu (by omega) (by omega), zu (by omega) (by omega), z1t _ _ hpl.2.2.1 hpl.2.2.2]
      ·simp only [if_neg hz]
       exact Ev.now _
    exact key 0 (Nat.zero_le _) (fun x hx => by simp at hx)
  ·rw [if_neg hl]
   by_cases h2 : (l.length : Int) < 2
   ·simp only [if_pos h2]
    exact Ev.step (f := fun _ => some 2) (fun k => by simp only [za.j0, if_true]) (Ev.now 2)
   ·have hg : decide ((l.length : Int) > 8) = true := decide_eq_true (by omega)
    simp only [if_neg h2, hg]
    exact Ev.step (f := fun _ => some 2) (fun k => by simp only [za.j0, if_true]) (Ev.now 2)
 ·rw [if_neg hid]
  simp only [decide_eq_false hid, Option.bind_some]
  exact Ev.now 3
theorem q1z (id : Int) (l : List yl) : zr.f id l = some (cf id l) := rfl
end Go.Proofs.Ytkeojolmapcgbaa.PEv
end
section
namespace Go.Proofs.Ytkeojolmapcgbaa.PEv
open Go.RowKit Go.Proofs.YtkeojolmapcgbaaW.PrintWords Go.Proofs.YtkeojolmapcgbaaW.PrintLast Go.Proofs.Ytkeojolmapcgbaa.Plain
theorem z2m (x : yl) : q0a.f x.f0 x.f1 x.f2 x.f3 x.f0 x.f1 x.f2 x.f3 = some true := by
 unfold q0a.f
 simp only [if_true]
theorem y2e (l : List yl) (hl : (l.length : Int) ≤ 1048576) : Ev (fun k => qq.f k l l) true := by
 unfold qq.f
 exact Ev.congr (fun k => if_pos rfl) (q2e l q1h (fun _ a b => q0a.f a.f0 a.f1 a.f2 a.f3 b.f0 b.f1 b.f2 b.f3) (fun k i => qq.l0 k l l i) (fun _ _ => rfl) (fun x _ => y0m (z2m x)) (by omega))
theorem q1j (id : Int) (l : List yl) (hl : (l.length : Int) ≤ 1048576) : Ev (fun k => qy.f k id l id l) true := by
 unfold qy.f
 simp only [if_true]
 exact Ev.bind (y2e l hl) (by simpa using Ev.now true)
theorem z28 (v : Bool) (id : Int) (l : List yl) (o : Int) (hl : (l.length : Int) ≤ 1048576) : Ev (fun k => q06.f k v id l o v id l o) true := by
 unfold q06.f
 have e : ¬ ((v != v) = true) := by cases v <;> decide
 simp only [if_neg e, if_true]
 exact Ev.bind (q1j id l hl) (by simpa using Ev.now true)
def ef (v : Bool) (id : Int) (l : List yl) (o : Int) : Int :=
 if v = true then (if cf id l = 0 then (if o = 0 then 0 else 1) else cf id l)
 else if (1 ≤ id ∧ id ≤ 1000000000) ∧ (1 ≤ o ∧ o ≤ 2) then (if (l.length : Int) > 0 then 1 else 0) else 3
theorem y2g (v : Bool) (id : Int) (l : List yl) (o : Int) : Ev (fun k => yj.f k v id l o) (ef v id l o) := by
 unfold yj.f ef
 cases v with
 | true =>
  simp only [if_true]
  refine Ev.bind (y24 id l) ?_
  by_cases h : cf id l = 0
  ·simp only [if_pos h]
   by_cases ho : o = 0
   ·simp only [if_pos ho]; exact Ev.now _
   ·simp only [if_neg ho]; exact Ev.now _
  ·simp only [if_neg h]; exact Ev.now _
 | false =>
  have e : ¬ (false = true) := by decide
  simp only [if_neg e]
  rw [y2c, y16]
  have good : ∀ k, yj.j0 (k + 1) false false id l o = if (l.length : Int) > 0 then some 1 else some 0 := fun k => by simp only [yj.j0, if_neg e]
  have bad : ∀ k, yj.j0 (k + 1) true false id l o = some 3 := fun k => by simp only [yj.j0, if_true]
  by_cases h1 : 1 ≤ id ∧ id ≤ 1000000000
  ·by_cases h2 : 1 ≤ o ∧ o ≤ 2
   ·rw [if_pos ⟨h1, h2⟩]
    simp only [decide_eq_true h1, decide_eq_true h2, Option.bind_some, if_true, Bool.not_true]
    refine Ev.step good ?_
    by_cases hp : (l.length : Int) > 0
    ·simp only [if_pos hp]; exact Ev.now _
    ·simp only [if_neg hp]; exact Ev.now _
   ·rw [if_neg (fun h => h2 h.2)]
    simp only [decide_eq_true h1, decide_eq_false h2, Option.bind_some, if_true, Bool.not_false]
    exact Ev.step bad (Ev.now _)
  ·rw [if_neg (fun h => h1 h.1)]
   simp only [decide_eq_false h1, Option.bind_some, if_neg e]
   exact Ev.step bad (Ev.now _)
theorem z1l (o : Int) : zy.f o = some (decide (1 ≤ o ∧ o ≤ 2)) := by
 unfold zy.f
 by_cases h : o = 1
 ·subst h; rfl
 ·rw [if_neg h]
  congr 1
  rw [Bool.eq_iff_iff]
  simp
  omega
theorem q19 (v : Bool) (id : Int) (l : List yl) (o : Int) : Ev (fun k => yf.f k v id l o) (ef v id l o) := by
 unfold yf.f ef
 cases v with
 | true =>
  simp only [if_true]
  refine Ev.bind (y0m (q1z id l)) ?_
  by_cases h : cf id l = 0
  ·simp only [if_pos h]
   by_cases ho : o = 0
   ·simp only [if_pos ho]; exact Ev.now _
   ·simp only [if_neg ho]; exact Ev.now _
  ·simp only [if_neg h]; exact Ev.now _
 | false =>
  have e : ¬ (false = true) := by decide
  simp only [if_neg e]
  rw [q1n, z1l]
  have good : ∀ k, yf.j0 (k + 1) false false id l o = if (l.length : Int) > 0 then some 1 else some 0 := fun k => by simp only [yf.j0, if_neg e]
  have bad : ∀ k, yf.j0 (k + 1) true false id l o = some 3 := fun k => by simp only [yf.j0, if_true]
  by_cases h1 : 1 ≤ id ∧ id ≤ 1000000000
  ·by_cases h2 : 1 ≤ o ∧ o ≤ 2
   ·rw [if_pos ⟨h1, h2⟩]
    simp only [decide_eq_true h1, decide_eq_true h2, Option.bind_some, if_true, Bool.not_true]
    refine Ev.step good ?_
    by_cases hp : (l.length : Int) > 0
    ·simp only [if_pos hp]; exact Ev.now _
    ·simp only [if_neg hp]; exact Ev.now _
   ·rw [if_neg (fun h => h2 h.2)]
    simp only [decide_eq_true h1, decide_eq_false h2, Option.bind_some, if_true, Bool.not_false]
    exact Ev.step bad (Ev.now _)
  ·rw [if_neg (fun h => h1 h.1)]
   simp only [decide_eq_false h1, Option.bind_some, if_neg e]
   exact Ev.step bad (Ev.now _)
end Go.Proofs.Ytkeojolmapcgbaa.PEv
end
section
namespace Go.Proofs.Ytkeojolmapcgbaa.PEv
open Go.RowKit Go.Proofs.YtkeojolmapcgbaaW.PrintWords Go.Proofs.YtkeojolmapcgbaaW.PrintLast Go.Proofs.Ytkeojolmapcgbaa.Plain
def z0d (n : Int) (i : Nat) : Int := n / 2 ^ (8 * i) % 256
def pn (n : Int) : List Int := [z0d n 7, z0d n 6, z0d n 5, z0d n 4, z0d n 3, z0d n 2, z0d n 1, z0d n 0]
theorem y0l (n : Int) : (pn n).length = 8 := rfl
theorem q2u (n : Int) (i : Nat) (hi : i ≤ 7) : shr .u64 (IntKind.u64.wrap n) (IntKind.u64.wrap (wrap64 (8 * (i : Int)))) % 256 = z0d n i := by
 rw [zu (by omega) (by omega), IntKind.wrap_u64, IntKind.wrap_u64]
 unfold shr z0d
 have : i = 0 ∨ i = 1 ∨ i = 2 ∨ i = 3 ∨ i = 4 ∨ i = 5 ∨ i = 6 ∨ i = 7 := by omega
 rcases this with rfl | rfl | rfl | rfl | rfl | rfl | rfl | rfl <;> simp [IntKind.bits] <;> omega
theorem y2u (n : Int) (i : Nat) (hi : i ≤ 7) : shr .i64 n (wrap64 (56 - wrap64 (8 * ((7 - i : Nat) : Int)))) % 256 = z0d n i := by
 have h7 : ((7 - i : Nat) : Int) = 7 - (i : Int) := by omega
 rw [h7, zu (i := 8 * (7 - (i : Int))) (by omega) (by omega), zu (by omega) (by omega)]
 unfold shr z0d
 have : i = 0 ∨ i = 1 ∨ i = 2 ∨ i = 3 ∨ i = 4 ∨ i = 5 ∨ i = 6 ∨ i = 7 := by omega
 rcases this with rfl | rfl | rfl | rfl | rfl | rfl | rfl | rfl <;> simp [IntKind.bits]
theorem q1l (n : Int) : Ev (fun k => yh.f k n) (pn n) := by
 unfold yh.f
 have st : ∀ (i : Nat) (xs : List Int), i ≤ 7 → xs.length ≤ 8 → ∀ k, yh.l0 (k + 1) n xs (i : Int) = yh.l0 k n (xs ++ [z0d n i]) ((i : Int) - 1) := fun i xs hi hx k => by
  simp only [yh.l0]
  rw [if_pos (by omega), if_pos (by rw [zu (by omega) (by omega), IntKind.wrap_u64]; omega), if_pos (by omega), q2u n i hi, zu (by omega) (by omega)]
 refine Ev.step (st 7 [] (by omega) (by simp)) (Ev.step (st 6 _ (by omega) (by simp)) (Ev.step (st 5 _ (by omega) (by simp)) (Ev.step (st 4 _ (by omega) (by simp)) (Ev.step (st 3 _ (by omega) (by simp)) (Ev.step (st 2 _ (by omega) (by simp)) (Ev.step (st 1 _ (by omega) (by simp)) (Ev.step (st 0 _ (by omega) (by simp)) (Ev.step (f := fun _ => some (pn n)) (fun k => ?_) (Ev.now _)))))))))
 simp only [yh.l0]
 rw [if_neg (by omega)]
 rfl
theorem q1k (n : Int) : Ev (fun k => zj.f k n) (pn n) := by
 unfold zj.f
 have h8 : (8 : Nat) ≤ 281474976710656 := by omega
 simp only [Option.bind_some, if_pos h8]
 have st : ∀ (i : Nat) (xs : List Int), i ≤ 7 → xs.length = 8 → ∀ k, zj.l0 (k + 1) n xs 8 ((7 - i : Nat) : Int) = zj.l0 k n (xs.set (7 - i) (z0d n i)) 8 (((7 - i : Nat) : Int) + 1) := fun i xs hi hx k => by
  simp only [zj.l0]
  rw [if_pos (by omega), if_pos (by rw [zu (i := 8 * _) (by omega) (by omega), zu (by omega) (by omega)]; omega), if_pos (by omega), if_pos (by omega), y2u n i hi, zu (by omega) (by omega), Int.toNat_natCast]
 refine Ev.step (st 7 _ (by omega) (by simp)) (Ev.step (st 6 _ (by omega) (by simp)) (Ev.step (st 5 _ (by omega) (by simp)) (Ev.step (st 4 _ (by omega) (by simp)) (Ev.step (st 3 _ (by omega) (by simp)) (Ev.step (st 2 _ (by omega) (by simp)) (Ev.step (st 1 _ (by omega) (by simp)) (Ev.step (st 0 _ (by omega) (by simp)) (Ev.step (f := fun _ => some (pn n)) (fun k => ?_) (Ev.now _)))))))))
 simp only [zj.l0]
 rw [if_neg (by omega)]
 rfl
def pl (x : yl) : List Int := [x.f0 % 256, x.f1 % 256, x.f2 % 256] ++ pn x.f3
def pc (id : Int) (l : List yl) : List Int := pn id ++ l.flatMap pl
def pe (v : Bool) (id : Int) (l : List yl) (o : Int) : List Int := if v = true then 1 :: pc id l else 2 :: (pn id ++ [o % 256])
theorem z23 (x : yl) : (pl x).length = 11 := rfl
theorem q0o (l : List yl) : (l.flatMap pl).length = 11 * l.length := by
 induction l with
 | nil => rfl
 | cons x l ih => rw [List.flatMap_cons, List.length_append, ih, z23, List.length_cons]; omega
theorem y1f (id : Int) (l : List yl) : (pc id l).length = 8 + 11 * l.length := by
 unfold pc; rw [List.length_append, q0o, y0l]
theorem y1h (l : List yl) (i : Nat) (hi : i < l.length) : (l.take (i + 1)).flatMap pl = (l.take i).flatMap pl ++ pl l[i] := by
 rw [List.take_succ_eq_append_getElem hi, List.flatMap_append]
 simp
theorem y2h (id : Int) (l : List yl) (hl : (l.length : Int) ≤ 1048576) : Ev (fun k => ql.f k id l) (pc id l) := by
 unfold ql.f
 refine Ev.bind (q1l id) ?_
 have key := q0z (P := fun j => ∀ i : Nat, (i : Int) = j → Ev (fun k => ql.l0 k (pn id ++ (l.take i).flatMap pl) j id l) (pc id l)) l.length ?_ ?_ 0 (Nat.zero_le _)
 ·simpa using key 0 rfl
 ·intro i hi
  obtain rfl : i = l.length := by omega
  refine Ev.step (f := fun _ => some (pc id l)) (fun k => ?_) (Ev.now _)
  simp only [ql.l0]
  rw [if_neg (by omega), List.take_length]
  rfl
 ·intro i hi ih m hm
  obtain rfl : m = i := by omega
  have hlen : (pn id ++ (l.take m).flatMap pl).length = 8 + 11 * m := by
   rw [List.length_append, q0o, y0l, List.length_take]; omega
  refine Ev.step (f := fun k => (yh.f k l[m].f3).bind fun t => if (pn id ++ (l.take m).flatMap pl ++ [l[m].f0 % 256, l[m].f1 % 256, l[m].f2 % 256]).length + t.length < 140737488355328 then ql.l0 k (pn id ++ (l.take m).flatMap pl ++ [l[m].f0 % 256, l[m].f1 % 256, l[m].f2 % 256] ++ t) ((m : Int) + 1) id l else none) (fun k => ?_) (Ev.bind (q1l _) ?_)
  ·simp only [ql.l0]
   rw [if_pos (by omega), if_pos (by omega), rdT l m hi]
   simp only [Option.bind_some]
   rw [if_pos (by rw [hlen]; simp; omega), zu (by omega) (by omega)]
  ·have e : pn id ++ (l.take m).flatMap pl ++ [l[m].f0 % 256, l[m].f1 % 256, l[m].f2 % 256] ++ pn l[m].f3 = pn id ++ (l.take (m + 1)).flatMap pl := by
    rw [y1h l m hi]; simp [pl]
   have hlt : (pn id ++ (l.take m).flatMap pl ++ [l[m].f0 % 256, l[m].f1 % 256, l[m].f2 % 256]).length + (pn l[m].f3).length < 140737488355328 := by
    rw [List.length_append, hlen, y0l]; simp; omega
   simp only [if_pos hlt]
   rw [e]
   exact ih (m + 1) (by simp)
theorem z20 (id : Int) (l : List yl) (hl : (l.length : Int) ≤ 1048576) : Ev (fun k => zh.f k id l) (pc id l) := by
 unfold zh.f
 refine Ev.bind (q1k id) ?_
 have key := q0z (P := fun j => ∀ i : Nat, (i : Int) = j → Ev (fun k => zh.l0 k (pn id ++ (l.take i).flatMap pl) l l.length j) (pc id l)) l.length ?_ ?_ 0 (Nat.zero_le _)
 ·simpa using key 0 rfl
 ·intro i hi
  obtain rfl : i = l.length := by omega
  refine Ev.step (f := fun _ => some (pc id l)) (fun k => ?_) (Ev.now _)
  simp only [zh.l0]
  rw [if_neg (by omega), List.take_length]
  rfl
 ·intro i hi ih m hm
  obtain rfl : m = i := by omega
  have hlen : (pn id ++ (l.take m).flatMap pl).length = 8 + 11 * m := by
   rw [List.length_append, q0o, y0l, List.length_take]; omega
  refine Ev.step (f := fun k => (zj.f k l[m].f3).bind fun t => if (pn id ++ (l.take m).flatMap pl ++ [l[m].f0 % 256, l[m].f1 % 256, l[m].f2 % 256]).length + t.length < 140737488355328 then zh.l0 k (pn id ++ (l.take m).flatMap pl ++ [l[m].f0 % 256, l[m].f1 % 256, l[m].f2 % 256] ++ t) l l.length ((m : Int) + 1) else none) (fun k => ?_) (Ev.bind (q1k _) ?_)
  ·simp only [zh.l0]
   rw [if_pos (by omega), if_pos (by omega), if_pos (by omega), rdT l m hi]
   simp only [Option.bind_some]
   rw [if_pos (by rw [hlen]; simp; omega), zu (by omega) (by omega)]
  ·have e : pn id ++ (l.take m).flatMap pl ++ [l[m].f0 % 256, l[m].f1 % 256, l[m].f2 % 256] ++ pn l[m].f3 = pn id ++ (l.take (m + 1)).flatMap pl := by
    rw [y1h l m hi]; simp [pl]
   have hlt : (pn id ++ (l.take m).flatMap pl ++ [l[m].f0 % 256, l[m].f1 % 256, l[m].f2 % 256]).length + (pn l[m].f3).length < 140737488355328 := by
    rw [List.length_append, hlen, y0l]; simp; omega
   simp only [if_pos hlt]
   rw [e]
   exact ih (m + 1) (by simp)
theorem spec_pe (v : Bool) (id : Int) (l : List yl) (o : Int) (hl : (l.length : Int) ≤ 1048576) : Ev (fun k => yv.f k v id l o) (pe v id l o) := by
 unfold yv.f pe
 cases v with
 | true =>
  simp only [if_true, Option.bind_some]
  refine Ev.bind (y2h id l hl) ?_
  have hlt : ([1] : List Int).length + (pc id l).length < 140737488355328 := by rw [y1f]; simp; omega
  simp only [if_pos hlt]
  exact Ev.now _
 | false =>
  have e : ¬ (false = true) := by decide
  simp only [if_neg e, Option.bind_some]
  exact Ev.bind (q1l id) (Ev.now _)
theorem y20 (v : Bool) (id : Int) (l : List yl) (o : Int) (hl : (l.length : Int) ≤ 1048576) : Ev (fun k => qo.f k v id l o) (pe v id l o) := by
 unfold qo.f pe
 cases v with
 | true =>
  simp only [if_true, Option.bind_some]
  refine Ev.bind (z20 id l hl) ?_
  have hlt : ([1] : List Int).length + (pc id l).length < 140737488355328 := by rw [y1f]; simp; omega
  simp only [if_pos hlt]
  exact Ev.now _
 | false =>
  have e : ¬ (false = true) := by decide
  simp only [if_neg e, Option.bind_some]
  exact Ev.bind (q1k id) (Ev.now _)
def z0q (m : Int) : yl := ⟨m, m + 1, m + 2, m + 3⟩
theorem z19 (l : List yl) (i : Nat) (hi : i < l.length) (x : yl) : y7 (l.set i x) (i : Int) = x := by
 rw [rdT _ i (by simp; exact hi)]
 simp
theorem y21 (l : List yl) (hl : (l.length : Int) ≤ 1048576) (m : Int) (h0 : 0 ≤ m) (hm : m ≤ 536870912) :
  Ev (fun k => yt.f k l m) (m + 4 * l.length, (List.range l.length).map fun (j : Nat) => z0q (m + 4 * (j : Int))) := by
 unfold yt.f
 refine y1e z0q 4 (fun k xs m i => yt.l0 k xs m i) l.length (by omega) (by omega) (by omega) (fun k xs m i hx hi h0 hm => ?_) (fun k xs m hx => ?_) l rfl m h0 hm
 ·simp only [yt.l0]
  rw [if_pos (by omega), if_pos (by omega)]
  simp only [Option.bind_some, Int.toNat_natCast]
  rw [z19 _ i (by first | omega | (simp only [List.length_set]; omega)), List.set_set, z19 _ i (by first | omega | (simp only [List.length_set]; omega)), List.set_set, z19 _ i (by first | omega | (simp only [List.length_set]; omega)), List.set_set]
  rw [zu (i := m + 1) (by omega) (by omega), zu (i := m + 1 + 1) (by omega) (by omega), zu (i := m + 1 + 1 + 1) (by omega) (by omega), zu (i := m + 1 + 1 + 1 + 1) (by omega) (by omega), zu (i := (i : Int) + 1) (by omega) (by omega)]
  have e1 : m + 1 + 1 = m + 2 := by omega
  have e2 : m + 2 + 1 = m + 3 := by omega
  have e3 : m + 3 + 1 = m + 4 := by omega
  rw [e1, e2, e3]
  rfl
 ·simp only [yt.l0]
  rw [if_neg (by omega)]
theorem q1y (n : Nat) (hl : (n : Int) ≤ 1048576) (m : Int) (h0 : 0 ≤ m) (hm : m ≤ 536870912) :
  Ev (fun k => yu.f k ((List.range n).map fun (j : Nat) => z0q (m + 4 * (j : Int))) m) (m + 4 * n) := by
 unfold yu.f
 have hlen : ((List.range n).map fun (j : Nat) => z0q (m + 4 * (j : Int))).length = n := by simp
 refine z1z z0q 4 (fun k q i => yu.l0 k ((List.range n).map fun (j : Nat) => z0q (m + 4 * (j : Int))) q i) n (by omega) (by omega) (by omega) m h0 hm (fun k i hi hb0 hb hg => ?_) (fun k q => ?_)
 ·have hx : y7 ((List.range n).map fun (j : Nat) => z0q (m + 4 * (j : Int))) (i : Int) = z0q (m + 4 * (i : Int)) := by
   rw [rdT _ i (by rw [hlen]; exact hi)]
   simp
  simp only [yu.l0]
  rw [hlen, if_pos (by omega), if_pos (by omega), hx]
  rw [zu (i := m + 4 * (i : Int) + 1) (by omega) (by omega), zu (i := m + 4 * (i : Int) + 1 + 1) (by omega) (by omega), zu (i := m + 4 * (i : Int) + 1 + 1 + 1) (by omega) (by omega), zu (i := m + 4 * (i : Int) + 1 + 1 + 1 + 1) (by omega) (by omega), zu (i := (i : Int) + 1) (by omega) (by omega)]
  have e1 : m + 4 * (i : Int) + 1 + 1 = m + 4 * (i : Int) + 2 := by omega
  have e2 : m + 4 * (i : Int) + 2 + 1 = m + 4 * (i : Int) + 3 := by omega
  have e3 : m + 4 * (i : Int) + 3 + 1 = m + 4 * (i : Int) + 4 := by omega
  rw [e1, e2, e3]
  simp only [z0q, if_true]
 ·simp only [yu.l0]
  rw [hlen, if_neg (by omega)]
theorem q1r (v : Bool) (id : Int) (l : List yl) (o : Int) (hl : (l.length : Int) ≤ 1048576) (m : Int) (h0 : 0 ≤ m) (hm : m ≤ 536870912) :
  Ev (fun k => z04.f k v id l o m) (m + 4 * l.length, (List.range l.length).map fun (j : Nat) => z0q (m + 4 * (j : Int))) := by
 unfold z04.f q01.f
 exact Ev.bind (Ev.bind (y21 l hl m h0 hm) (Ev.now _)) (Ev.now _)
def mkB (m : Int) : Int := m % 256
theorem y1r (l : List Int) (hl : (l.length : Int) ≤ 1048576) (m : Int) (h0 : 0 ≤ m) (hm : m ≤ 536870912) :
  Ev (fun k => ym.f k l m) (m + 1 * l.length, (List.range l.length).map fun (j : Nat) => mkB (m + 1 * (j : Int))) := by
 unfold ym.f
 refine y1e mkB 1 (fun k xs m i => ym.l0 k xs m i) l.length (by omega) (by omega) (by omega) (fun k xs m i hx hi h0 hm => ?_) (fun k xs m hx => ?_) l rfl m h0 hm
 ·simp only [ym.l0]
  rw [if_pos (by omega), if_pos (by omega), Int.toNat_natCast, zu (by omega) (by omega), zu (by omega) (by omega)]
  rfl
 ·simp only [ym.l0]
  rw [if_neg (by omega)]
theorem q27 (l : List Int) (hl : (l.length : Int) ≤ 1073741824) : Ev (fun k => qt.f k l l) true := by
 unfold qt.f
 exact Ev.congr (fun k => if_pos rfl) (y28 l 0 id (fun k i => qt.l0 k l l i) (fun _ _ => rfl) (by omega))
end Go.Proofs.Ytkeojolmapcgbaa.PEv
end
