/- WHAT IS PROVED: parts of the proof of FnExactUnpackEvent: what each Go function that it reaches answers, and plain lemmas; no condition beyond those that each theorem names. -/
import Derived.Test.YtkeojolmapcgbaaCUnp4
section
namespace Go.Proofs.Ytkeojolmapcgbaa.PEv
open Go.RowKit Go.Proofs.YtkeojolmapcgbaaW.PrintWords Go.Proofs.YtkeojolmapcgbaaW.PrintLast Go.Proofs.YtkeojolmapcgbaaW.PrintMore
set_option linter.unusedVariables false
set_option linter.unusedSimpArgs false
def qy.f (k : Nat) (a0_0 : Int) (l0_1 : List (yl)) (a1_0 : Int) (l1_1 : List (yl)) : Option (Bool) := if a0_0 = a1_0 then ((qq.f k l0_1 l1_1).bind fun t173 => (if t173 = true then (some true) else (some false))) else (some false)
set_option maxHeartbeats 8000000 in
set_option maxRecDepth 100000 in
theorem qy.calls (k : Nat) (a0_0 : Int) (A0_1 : Option Addr) (c0_1 : Nat) (l0_1 : List (yl)) (a1_0 : Int) (A1_1 : Option Addr) (c1_1 : Nat) (l1_1 : List (yl)) (r : Bool) (w : World) (hr0_1 : Kd.C y08 w A0_1 l0_1.length l0_1) (hc0_1 : l0_1.length ≤ c0_1) (hr1_1 : Kd.C y08 w A1_1 l1_1.length l1_1) (hc1_1 : l1_1.length ≤ c1_1) (h : qy.f k a0_0 l0_1 a1_0 l1_1 = some r) :
  Calls Try.prog 53 #[.agg #[.int .i64 a0_0, .slice A0_1 l0_1.length c0_1], .agg #[.int .i64 a1_0, .slice A1_1 l1_1.length c1_1]] w fun e w' => e = .returned (.bool r) ∧ Below w.heap.size w w' := by
 have hu31 := Try.underlying31
 have HR0_1 := z2.mk hr0_1
 have HC0_1 := z2.mk hc0_1
 clear hr0_1 hc0_1
 have HR1_1 := z2.mk hr1_1
 have HC1_1 := z2.mk hc1_1
 clear hr1_1 hc1_1
 have HB := z2.mk (Below.refl w.heap.size w)
 have H : (if a0_0 = a1_0 then ((qq.f k l0_1 l1_1).bind fun t173 => (if t173 = true then (some true) else (some false))) else (some false)) = some r := h
 clear h
 by_cases c3 : a0_0 = a1_0
 ·rw [if_pos c3] at H
  have c3b0 : (a0_0 == a1_0) = true := beq_iff_eq.mpr c3
  have c3b1 : (a0_0 != a1_0) = false := bne_eq_false_iff_eq.mpr c3
  clear c3
  replace H := Option.bind_eq_some_iff.mp H
  obtain ⟨t173, A40, H⟩ := H
  replace H : (if t173 = true then (some true) else (some false)) = some r := H
  have A4 := z2.mk A40
  clear A40
  by_cases c5 : t173 = true
  ·subst c5
   have H1 : (some true) = some r := by rw [if_pos rfl] at H; exact H
   clear H
   have H := H1
   clear H1
   obtain rfl := Option.some.inj H
   go_enter Try.func53, Try.ntmps53
   go_wp2_with (first | ((with_reducible refine ye (N := 2) rfl ?_); refine ze ?hg (N := 2) ?hd (cs := #[.int .i64 a0_0, .slice A0_1 l0_1.length c0_1]) (t := 31) ?hr ?_; (case hd => rfl); (case hg => rfl); (case hr => first | (go_simp; done) | (go_simp; rfl)); intro gb171 hg w6 hbox hb; have n0_ := z2.mk (y8 (by repeat (first | (with_reducible first | exact HB.out | apply z4 | apply z1 | apply z3) | exact HB.out)) hb); have n1_ := z2.mk (hbox); have n2_ := z2.mk ((by rw [hg]; exact (z8 (by repeat (first | (with_reducible first | exact HB.out | apply z4 | apply z1 | apply z3) | exact HB.out))) : w.heap.size ≤ gb171)); have n3_ := z2.mk ((by rw [hg]; exact (z8 (by repeat (first | (with_reducible first | exact HB.out | apply z4 | apply z1 | apply z3) | exact HB.out))) : w.heap.size ≤ gb171)); clear HB; have HB := n0_; have BK171 := n1_; have GW171 := n2_; have GE171 := n3_; clear n0_ n1_ n2_ n3_ hb hbox hg) | ((with_reducible refine ye (N := 3) rfl ?_); refine ze ?hg (N := 3) ?hd (cs := #[.int .i64 a1_0, .slice A1_1 l1_1.length c1_1]) (t := 31) ?hr ?_; (case hd => rfl); (case hg => rfl); (case hr => first | (go_simp; done) | (go_simp; rfl)); intro gb172 hg w7 hbox hb; have n0_ := z2.mk (z9 (g := gb171) (o := .cells #[.int .i64 a0_0, .slice A0_1 l0_1.length c0_1] 31 (0, 0)) (by (with_reducible repeat (first | refine z5 ?_ _ | refine y6 ?_ | refine y4 ?_ _)); exact BK171.out) hb); have n1_ := z2.mk (y8 (by repeat (first | (with_reducible first | exact HB.out | apply z4 | apply z1 | apply z3 | refine z7 ?_ GE171.out) | exact HB.out)) hb); have n2_ := z2.mk (hbox); have n3_ := z2.mk ((by rw [hg]; exact (z8 (by repeat (first | (with_reducible first | exact HB.out | apply z4 | apply z1 | apply z3 | refine z7 ?_ GE171.out) | exact HB.out))) : w.heap.size ≤ gb172)); have n4_ := z2.mk ((by rw [hg]; exact (z8 (by repeat (first | (with_reducible first | exact HB.out | apply z4 | apply z1 | apply z3 | refine z7 ?_ GE171.out) | exact HB.out))) : w.heap.size ≤ gb172)); have n5_ := z2.mk ((by rw [hg]; exact Nat.ne_of_lt (qk (g := gb171) (o := .cells #[.int .i64 a0_0, .slice A0_1 l0_1.length c0_1] 31 (0, 0)) (by (with_reducible repeat (first | refine z5 ?_ _ | refine y6 ?_ | refine y4 ?_ _)); exact BK171.out)) : gb171 ≠ gb172)); have n6_ := z2.mk ((by rw [hg]; exact Nat.ne_of_gt (qk (g := gb171) (o := .cells #[.int .i64 a0_0, .slice A0_1 l0_1.length c0_1] 31 (0, 0)) (by (with_reducible repeat (first | refine z5 ?_ _ | refine y6 ?_ | refine y4 ?_ _)); exact BK171.out)) : gb172 ≠ gb171)); clear BK171 HB; have BK171 := n0_; have HB := n1_; have BK172 := n2_; have GW172 := n3_; have GE172 := n4_; have NB171_172 := n5_; have NB172_171 := n6_; clear n0_ n1_ n2_ n3_ n4_ n5_ n6_ hb hbox hg; have hnb8 := NB171_172.out; have hnc8 := NB172_171.out; have hcz9_0 : w7.cell? ⟨gb171, 0, none⟩ = some (.int .i64 a0_0) := (z6 BK171.out 0).trans rfl; have hcz9_1 : w7.cell? ⟨gb171, 1, none⟩ = some (.slice A0_1 l0_1.length c0_1) := (z6 BK171.out 1).trans rfl; have hfz9_0 := y5 BK171.out 0; have hfz9_1 := y5 BK171.out 1; have hcz10_0 : w7.cell? ⟨gb172, 0, none⟩ = some (.int .i64 a1_0) := (z6 BK172.out 0).trans rfl; have hcz10_1 : w7.cell? ⟨gb172, 1, none⟩ = some (.slice A1_1 l1_1.length c1_1) := (z6 BK172.out 1).trans rfl; have hfz10_0 := y5 BK172.out 0; have hfz10_1 := y5 BK172.out 1) | ((with_reducible refine qb (f := 101) rfl ?_); refine zm (some 14) rfl rfl Try.func101 (by kernel_rfl) rfl #[.slice A0_1 l0_1.length c0_1, .slice A1_1 l1_1.length c1_1] rfl (by (try simp only [List.map_toArray, List.map_cons, List.map_nil]); first | done | rfl | (simp only [List.length_drop, List.length_take]; rfl)) ?_; (with_reducible refine (qq.calls k _ _ l0_1 _ _ l1_1 true _ ?side1 ?side2 ?side3 ?side4 A4.out).mono ?_); (case side1 => repeat (first | exact (Kd.yp HR0_1.out HB.out) | (with_reducible refine Kd.yi ?_ _) | (with_reducible refine Kd.qi ?_ _) | (with_reducible refine Kd.C_drew ?_))); (case side2 => exact HC0_1.out); (case side3 => repeat (first | exact (Kd.yp HR1_1.out HB.out) | (with_reducible refine Kd.yi ?_ _) | (with_reducible refine Kd.qi ?_ _) | (with_reducible refine Kd.C_drew ?_))); (case side4 => exact HC1_1.out); rintro e w11 ⟨rfl, hb⟩; refine ⟨_, rfl, ?_⟩; have n0_ := z2.mk (z9 (g := gb171) (o := .cells #[.int .i64 a0_0, .slice A0_1 l0_1.length c0_1] 31 (0, 0)) (by (with_reducible repeat (first | refine z5 ?_ _ | refine y6 ?_ | refine y4 ?_ _)); exact BK171.out) hb); have n1_ := z2.mk (z9 (g := gb172) (o := .cells #[.int .i64 a1_0, .slice A1_1 l1_1.length c1_1] 31 (0, 0)) (by (with_reducible repeat (first | refine z5 ?_ _ | refine y6 ?_ | refine y4 ?_ _)); exact BK172.out) hb); have n2_ := z2.mk (y8 (by repeat (first | (with_reducible first | exact HB.out | apply z4 | apply z1 | apply z3 | refine z7 ?_ GE171.out | refine z7 ?_ GE172.out) | exact HB.out)) hb); clear BK171 BK172 HB; have BK171 := n0_; have BK172 := n1_; have HB := n2_; clear n0_ n1_ n2_; (try clear hb); (try clear hb2); (try clear hk); (try clear hi)))
   go_ret
   exact ⟨by first | rfl | (simp [ya, qa] <;> rfl) | (simp [*, ya, qa] <;> rfl), by repeat (first | (with_reducible first | exact HB.out | apply z4 | apply z1 | apply z3 | refine z7 ?_ GE171.out | refine z7 ?_ GE172.out) | exact HB.out)⟩
  ·replace c5 := Bool.eq_false_iff.mpr c5
   subst c5
   have H1 : (some false) = some r := by rw [if_neg (show ¬ (false = true) by decide)] at H; exact H
   clear H
   have H := H1
   clear H1
   obtain rfl := Option.some.inj H
   go_enter Try.func53, Try.ntmps53
   go_wp2_with (first | ((with_reducible refine ye (N := 2) rfl ?_); refine ze ?hg (N := 2) ?hd (cs := #[.int .i64 a0_0, .slice A0_1 l0_1.length c0_1]) (t := 31) ?hr ?_; (case hd => rfl); (case hg => rfl); (case hr => first | (go_simp; done) | (go_simp; rfl)); intro gb171 hg w12 hbox hb; have n0_ := z2.mk (y8 (by repeat (first | (with_reducible first | exact HB.out | apply z4 | apply z1 | apply z3) | exact HB.out)) hb); have n1_ := z2.mk (hbox); have n2_ := z2.mk ((by rw [hg]; exact (z8 (by repeat (first | (with_reducible first | exact HB.out | apply z4 | apply z1 | apply z3) | exact HB.out))) : w.heap.size ≤ gb171)); have n3_ := z2.mk ((by rw [hg]; exact (z8 (by repeat (first | (with_reducible first | exact HB.out | apply z4 | apply z1 | apply z3) | exact HB.out))) : w.heap.size ≤ gb171)); clear HB; have HB := n0_; have BK171 := n1_; have GW171 := n2_; have GE171 := n3_; clear n0_ n1_ n2_ n3_ hb hbox hg) | ((with_reducible refine ye (N := 3) rfl ?_); refine ze ?hg (N := 3) ?hd (cs := #[.int .i64 a1_0, .slice A1_1 l1_1.length c1_1]) (t := 31) ?hr ?_; (case hd => rfl); (case hg => rfl); (case hr => first | (go_simp; done) | (go_simp; rfl)); intro gb172 hg w13 hbox hb; have n0_ := z2.mk (z9 (g := gb171) (o := .cells #[.int .i64 a0_0, .slice A0_1 l0_1.length c0_1] 31 (0, 0)) (by (with_reducible repeat (first | refine z5 ?_ _ | refine y6 ?_ | refine y4 ?_ _)); exact BK171.out) hb); have n1_ := z2.mk (y8 (by repeat (first | (with_reducible first | exact HB.out | apply z4 | apply z1 | apply z3 | refine z7 ?_ GE171.out) | exact HB.out)) hb); have n2_ := z2.mk (hbox); have n3_ := z2.mk ((by rw [hg]; exact (z8 (by repeat (first | (with_reducible first | exact HB.out | apply z4 | apply z1 | apply z3 | refine z7 ?_ GE171.out) | exact HB.out))) : w.heap.size ≤ gb172)); have n4_ := z2.mk ((by rw [hg]; exact (z8 (by repeat (first | (with_reducible first | exact HB.out | apply z4 | apply z1 | apply z3 | refine z7 ?_ GE171.out) | exact HB.out))) : w.heap.size ≤ gb172)); have n5_ := z2.mk ((by rw [hg]; exact Nat.ne_of_lt (qk (g := gb171) (o := .cells #[.int .i64 a0_0, .slice A0_1 l0_1.length c0_1] 31 (0, 0)) (by (with_reducible repeat (first | refine z5 ?_ _ | refine y6 ?_ | refine y4 ?_ _)); exact BK171.out)) : gb171 ≠ gb172)); have n6_ := z2.mk ((by rw [hg]; exact Nat.ne_of_gt (qk (g := gb171) (o := .cells #[.int .i64 a0_0, .slice A0_1 l0_1.length c0_1] 31 (0, 0)) (by (with_reducible repeat (first | refine z5 ?_ _ | refine y6 ?_ | refine y4 ?_ _)); exact BK171.out)) : gb172 ≠ gb171)); clear BK171 HB; have BK171 := n0_; have HB := n1_; have BK172 := n2_; have GW172 := n3_; have GE172 := n4_; have NB171_172 := n5_; have NB172_171 := n6_; clear n0_ n1_ n2_ n3_ n4_ n5_ n6_ hb hbox hg; have hnb14 := NB171_172.out; have hnc14 := NB172_171.out; have hcz15_0 : w13.cell? ⟨gb171, 0, none⟩ = some (.int .i64 a0_0) := (z6 BK171.out 0).trans rfl; have hcz15_1 : w13.cell? ⟨gb171, 1, none⟩ = some (.slice A0_1 l0_1.length c0_1) := (z6 BK171.out 1).trans rfl; have hfz15_0 := y5 BK171.out 0; have hfz15_1 := y5 BK171.out 1; have hcz16_0 : w13.cell? ⟨gb172, 0, none⟩ = some (.int .i64 a1_0) := (z6 BK172.out 0).trans rfl; have hcz16_1 : w13.cell? ⟨gb172, 1, none⟩ = some (.slice A1_1 l1_1.length c1_1) := (z6 BK172.out 1).trans rfl; have hfz16_0 := y5 BK172.out 0; have hfz16_1 := y5 BK172.out 1) | ((with_reducible refine qb (f := 101) rfl ?_); refine zm (some 14) rfl rfl Try.func101 (by kernel_rfl) rfl #[.slice A0_1 l0_1.length c0_1, .slice A1_1 l1_1.length c1_1] rfl (by (try simp only [List.map_toArray, List.map_cons, List.map_nil]); first | done | rfl | (simp only [List.length_drop, List.length_take]; rfl)) ?_; (with_reducible refine (qq.calls k _ _ l0_1 _ _ l1_1 false _ ?side1 ?side2 ?side3 ?side4 A4.out).mono ?_); (case side1 => repeat (first | exact (Kd.yp HR0_1.out HB.out) | (with_reducible refine Kd.yi ?_ _) | (with_reducible refine Kd.qi ?_ _) | (with_reducible refine Kd.C_drew ?_))); (case side2 => exact HC0_1.out); (case side3 => repeat (first | exact (Kd.yp HR1_1.out HB.out) | (with_reducible refine Kd.yi ?_ _) | (with_reducible refine Kd.qi ?_ _) | (with_reducible refine Kd.C_drew ?_))); (case side4 => exact HC1_1.out); rintro e w17 ⟨rfl, hb⟩; refine ⟨_, rfl, ?_⟩; have n0_ := z2.mk (z9 (g := gb171) (o := .cells #[.int .i64 a0_0, .slice A0_1 l0_1.length c0_1] 31 (0, 0)) (by (with_reducible repeat (first | refine z5 ?_ _ | refine y6 ?_ | refine y4 ?_ _)); exact BK171.out) hb); have n1_ := z2.mk (z9 (g := gb172) (o := .cells #[.int .i64 a1_0, .slice A1_1 l1_1.length c1_1] 31 (0, 0)) (by (with_reducible repeat (first | refine z5 ?_ _ | refine y6 ?_ | refine y4 ?_ _)); exact BK172.out) hb); have n2_ := z2.mk (y8 (by repeat (first | (with_reducible first | exact HB.out | apply z4 | apply z1 | apply z3 | refine z7 ?_ GE171.out | refine z7 ?_ GE172.out) | exact HB.out)) hb); clear BK171 BK172 HB; have BK171 := n0_; have BK172 := n1_; have HB := n2_; clear n0_ n1_ n2_; (try clear hb); (try clear hb2); (try clear hk); (try clear hi)))
   go_ret
   exact ⟨by first | rfl | (simp [ya, qa] <;> rfl) | (simp [*, ya, qa] <;> rfl), by repeat (first | (with_reducible first | exact HB.out | apply z4 | apply z1 | apply z3 | refine z7 ?_ GE171.out | refine z7 ?_ GE172.out) | exact HB.out)⟩
 ·rw [if_neg c3] at H
  have c3b0 : (a0_0 == a1_0) = false := beq_eq_false_iff_ne.mpr c3
  have c3b1 : (a0_0 != a1_0) = true := bne_iff_ne.mpr c3
  obtain rfl := Option.some.inj H
  go_enter Try.func53, Try.ntmps53
  go_wp2_with (first | ((with_reducible refine ye (N := 2) rfl ?_); refine ze ?hg (N := 2) ?hd (cs := #[.int .i64 a0_0, .slice A0_1 l0_1.length c0_1]) (t := 31) ?hr ?_; (case hd => rfl); (case hg => rfl); (case hr => first | (go_simp; done) | (go_simp; rfl)); intro gb171 hg w18 hbox hb; have n0_ := z2.mk (y8 (by repeat (first | (with_reducible first | exact HB.out | apply z4 | apply z1 | apply z3) | exact HB.out)) hb); have n1_ := z2.mk (hbox); have n2_ := z2.mk ((by rw [hg]; exact (z8 (by repeat (first | (with_reducible first | exact HB.out | apply z4 | apply z1 | apply z3) | exact HB.out))) : w.heap.size ≤ gb171)); have n3_ := z2.mk ((by rw [hg]; exact (z8 (by repeat (first | (with_reducible first | exact HB.out | apply z4 | apply z1 | apply z3) | exact HB.out))) : w.heap.size ≤ gb171)); clear HB; have HB := n0_; have BK171 := n1_; have GW171 := n2_; have GE171 := n3_; clear n0_ n1_ n2_ n3_ hb hbox hg) | ((with_reducible refine ye (N := 3) rfl ?_); refine ze ?hg (N := 3) ?hd (cs := #[.int .i64 a1_0, .slice A1_1 l1_1.length c1_1]) (t := 31) ?hr ?_; (case hd => rfl); (case hg => rfl); (case hr => first | (go_simp; done) | (go_simp; rfl)); intro gb172 hg w19 hbox hb; have n0_ := z2.mk (z9 (g := gb171) (o := .cells #[.int .i64 a0_0, .slice A0_1 l0_1.length c0_1] 31 (0, 0)) (by (with_reducible repeat (first | refine z5 ?_ _ | refine y6 ?_ | refine y4 ?_ _)); exact BK171.out) hb); have n1_ := z2.mk (y8 (by repeat (first | (with_reducible first | exact HB.out | apply z4 | apply z1 | apply z3 | refine z7 ?_ GE171.out) | exact HB.out)) hb); have n2_ := z2.mk (hbox); have n3_ := z2.mk ((by rw [hg]; exact (z8 (by repeat (first | (with_reducible first | exact HB.out | apply z4 | apply z1 | apply z3 | refine z7 ?_ GE171.out) | exact HB.out))) : w.heap.size ≤ gb172)); have n4_ := z2.mk ((by rw [hg]; exact (z8 (by repeat (first | (with_reducible first | exact HB.out | apply z4 | apply z1 | apply z3 | refine z7 ?_ GE171.out) | exact HB.out))) : w.heap.size ≤ gb172)); have n5_ := z2.mk ((by rw [hg]; exact Nat.ne_of_lt (qk (g := gb171) (o := .cells #[.int .i64 a0_0, .slice A0_1 l0_1.length c0_1] 31 (0, 0)) (by (with_reducible repeat (first | refine z5 ?_ _ | refine y6 ?_ | refine y4 ?_ _)); exact BK171.out)) : gb171 ≠ gb172)); have n6_ := z2.mk ((by rw [hg]; exact Nat.ne_of_gt (qk (g := gb171) (o := .cells #[.int .i64 a0_0, .slice A0_1 l0_1.length c0_1] 31 (0, 0)) (by (with_reducible repeat (first | refine z5 ?_ _ | refine y6 ?_ | refine y4 ?_ _)); exact BK171.out)) : gb172 ≠ gb171)); clear BK171 HB; have BK171 := n0_; have HB := n1_; have BK172 := n2_; have GW172 := n3_; have GE172 := n4_; have NB171_172 := n5_; have NB172_171 := n6_; clear n0_ n1_ n2_ n3_ n4_ n5_ n6_ hb hbox hg; have hnb20 := NB171_172.out; have hnc20 := NB172_171.out; have hcz21_0 : w19.cell? ⟨gb171, 0, none⟩ = some (.int .i64 a0_0) := (z6 BK171.out 0).trans rfl; have hcz21_1 : w19.cell? ⟨gb171, 1, none⟩ = some (.slice A0_1 l0_1.length c0_1) := (z6 BK171.out 1).trans rfl; have hfz21_0 := y5 BK171.out 0; have hfz21_1 := y5 BK171.out 1; have hcz22_0 : w19.cell? ⟨gb172, 0, none⟩ = some (.int .i64 a1_0) := (z6 BK172.out 0).trans rfl; have hcz22_1 : w19.cell? ⟨gb172, 1, none⟩ = some (.slice A1_1 l1_1.length c1_1) := (z6 BK172.out 1).trans rfl; have hfz22_0 := y5 BK172.out 0; have hfz22_1 := y5 BK172.out 1))
  go_ret
  exact ⟨by first | rfl | (simp [ya, qa] <;> rfl) | (simp [*, ya, qa] <;> rfl), by repeat (first | (with_reducible first | exact HB.out | apply z4 | apply z1 | apply z3 | refine z7 ?_ GE171.out | refine z7 ?_ GE172.out) | exact HB.out)⟩
def q06.f (k : Nat) (a0_0 : Bool) (a0_1 : Int) (l0_2 : List (yl)) (a0_3 : Int) (a1_0 : Bool) (a1_1 : Int) (l1_2 : List (yl)) (a1_3 : Int) : Option (Bool) := if (a0_0 != a1_0) = true then (some false) else ((qy.f k a0_1 l0_2 a1_1 l1_2).bind fun t176 => (if t176 = true then (if a0_3 = a1_3 then (some true) else (some false)) else (some false)))
set_option maxHeartbeats 8000000 in
set_option maxRecDepth 100000 in
theorem q06.calls (k : Nat) (a0_0 : Bool) (a0_1 : Int) (A0_2 : Option Addr) (c0_2 : Nat) (l0_2 : List (yl)) (a0_3 : Int) (a1_0 : Bool) (a1_1 : Int) (A1_2 : Option Addr) (c1_2 : Nat) (l1_2 : List (yl)) (a1_3 : Int) (r : Bool) (w : World) (hr0_2 : Kd.C y08 w A0_2 l0_2.length l0_2) (hc0_2 : l0_2.length ≤ c0_2) (hr1_2 : Kd.C y08 w A1_2 l1_2.length l1_2) (hc1_2 : l1_2.length ≤ c1_2) (h : q06.f k a0_0 a0_1 l0_2 a0_3 a1_0 a1_1 l1_2 a1_3 = some r) :
  Calls Try.prog 12 #[.agg #[.bool a0_0, .int .i64 a0_1, .slice A0_2 l0_2.length c0_2, .int .i64 a0_3], .agg #[.bool a1_0, .int .i64 a1_1, .slice A1_2 l1_2.length c1_2, .int .i64 a1_3]] w fun e w' => e = .returned (.bool r) ∧ Below w.heap.size w w' := by
 have hu33 := Try.underlying33
 have hu31 := Try.underlying31
 have HR0_2 := z2.mk hr0_2
 have HC0_2 := z2.mk hc0_2
 clear hr0_2 hc0_2
 have HR1_2 := z2.mk hr1_2
 have HC1_2 := z2.mk hc1_2
 clear hr1_2 hc1_2
 have HB := z2.mk (Below.refl w.heap.size w)
 have H : (if (a0_0 != a1_0) = true then (some false) else ((qy.f k a0_1 l0_2 a1_1 l1_2).bind fun t176 => (if t176 = true then (if a0_3 = a1_3 then (some true) else (some false)) else (some false)))) = some r := h
 clear h
 by_cases c3 : (a0_0 != a1_0) = true
 ·rw [if_pos c3] at H
  have c3b0 : (a0_0 != a1_0) = true := c3
  (try (have c3b1 : decide (a0_0 = a1_0) = false := by simpa using c3))
  (try (have c3b2 : (a0_0 == a1_0) = false := by simpa using c3))
  (try (have c3b3 : ¬ (a0_0 = a1_0) := by simpa using c3))
  clear c3
  obtain rfl := Option.some.inj H
  go_enter Try.func12, Try.ntmps12
  go_wp2_with (first | ((with_reducible refine ye (N := 2) rfl ?_); refine ze ?hg (N := 2) ?hd (cs := #[.bool a0_0, .int .i64 a0_1, .slice A0_2 l0_2.length c0_2, .int .i64 a0_3]) (t := 33) ?hr ?_; (case hd => rfl); (case hg => rfl); (case hr => first | (go_simp; done) | (go_simp; rfl)); intro gb174 hg w4 hbox hb; have n0_ := z2.mk (y8 (by repeat (first | (with_reducible first | exact HB.out | apply z4 | apply z1 | apply z3) | exact HB.out)) hb); have n1_ := z2.mk (hbox); have n2_ := z2.mk ((by rw [hg]; exact (z8 (by repeat (first | (with_reducible first | exact HB.out | apply z4 | apply z1 | apply z3) | exact HB.out))) : w.heap.size ≤ gb174)); have n3_ := z2.mk ((by rw [hg]; exact (z8 (by repeat (first | (with_reducible first | exact HB.out | apply z4 | apply z1 | apply z3) | exact HB.out))) : w.heap.size ≤ gb174)); clear HB; have HB := n0_; have BK174 := n1_; have GW174 := n2_; have GE174 := n3_; clear n0_ n1_ n2_ n3_ hb hbox hg) | ((with_reducible refine ye (N := 3) rfl ?_); refine ze ?hg (N := 3) ?hd (cs := #[.bool a1_0, .int .i64 a1_1, .slice A1_2 l1_2.length c1_2, .int .i64 a1_3]) (t := 33) ?hr ?_; (case hd => rfl); (case hg => rfl); (case hr => first | (go_simp; done) | (go_simp; rfl)); intro gb175 hg w5 hbox hb; have n0_ := z2.mk (z9 (g := gb174) (o := .cells #[.bool a0_0, .int .i64 a0_1, .slice A0_2 l0_2.length c0_2, .int .i64 a0_3] 33 (0, 0)) (by (with_reducible repeat (first | refine z5 ?_ _ | refine y6 ?_ | refine y4 ?_ _)); exact BK174.out) hb); have n1_ := z2.mk (y8 (by repeat (first | (with_reducible first | exact HB.out | apply z4 | apply z1 | apply z3 | refine z7 ?_ GE174.out) | exact HB.out)) hb); have n2_ := z2.mk (hbox); have n3_ := z2.mk ((by rw [hg]; exact (z8 (by repeat (first | (with_reducible first | exact HB.out | apply z4 | apply z1 | apply z3 | refine z7 ?_ GE174.out) | exact HB.out))) : w.heap.size ≤ gb175)); have n4_ := z2.mk ((by rw [hg]; exact (z8 (by repeat (first | (with_reducible first | exact HB.out | apply z4 | apply z1 | apply z3 | refine z7 ?_ GE174.out) | exact HB.out))) : w.heap.size ≤ gb175)); have n5_ := z2.mk ((by rw [hg]; exact Nat.ne_of_lt (qk (g := gb174) (o := .cells #[.bool a0_0, .int .i64 a0_1, .slice A0_2 l0_2.length c0_2, .int .i64 a0_3] 33 (0, 0)) (by (with_reducible repeat (first | refine z5 ?_ _ | refine y6 ?_ | refine y4 ?_ _)); exact BK174.out)) : gb174 ≠ gb175)); have n6_ := z2.mk ((by rw [hg]; exact Nat.ne_of_gt (qk (g := gb174) (o := .cells #[.bool a0_0, .int .i64 a0_1, .slice A0_2 l0_2.length c0_2, .int .i64 a0_3] 33 (0, 0)) (by (with_reducible repeat (first | refine z5 ?_ _ | refine y6 ?_ | refine y4 ?_ _)); exact BK174.out)) : gb175 ≠ gb174)); clear BK174 HB; have BK174 := n0_; have HB := n1_; have BK175 := n2_; have GW175 := n3_; have GE175 := n4_; have NB174_175 := n5_; have NB175_174 := n6_; clear n0_ n1_ n2_ n3_ n4_ n5_ n6_ hb hbox hg; have hnb6 := NB174_175.out; have hnc6 := NB175_174.out; have hcz7_0 : w5.cell? ⟨gb174, 0, none⟩ = some (.bool a0_0) := (z6 BK174.out 0).trans rfl; have hcz7_1 : w5.cell? ⟨gb174, 1, none⟩ = some (.int .i64 a0_1) := (z6 BK174.out 1).trans rfl; have hcz7_2 : w5.cell? ⟨gb174, 2, none⟩ = some (.slice A0_2 l0_2.length c0_2) := (z6 BK174.out 2).trans rfl; have hcz7_3 : w5.cell? ⟨gb174, 3, none⟩ = some (.int .i64 a0_3) := (z6 BK174.out 3).trans rfl; have hfz7_0 := y5 BK174.out 0; have hfz7_1 := y5 BK174.out 1; have hfz7_2 := y5 BK174.out 2; have hfz7_3 := y5 BK174.out 3; have hcz8_0 : w5.cell? ⟨gb175, 0, none⟩ = some (.bool a1_0) := (z6 BK175.out 0).trans rfl; have hcz8_1 : w5.cell? ⟨gb175, 1, none⟩ = some (.int .i64 a1_1) := (z6 BK175.out 1).trans rfl; have hcz8_2 : w5.cell? ⟨gb175, 2, none⟩ = some (.slice A1_2 l1_2.length c1_2) := (z6 BK175.out 2).trans rfl; have hcz8_3 : w5.cell? ⟨gb175, 3, none⟩ = some (.int .i64 a1_3) := (z6 BK175.out 3).trans rfl; have hfz8_0 := y5 BK175.out 0; have hfz8_1 := y5 BK175.out 1; have hfz8_2 := y5 BK175.out 2; have hfz8_3 := y5 BK175.out 3))
  go_ret
  exact ⟨by first | rfl | (simp [ya, qa] <;> rfl) | (simp [*, ya, qa] <;> rfl), by repeat (first | (with_reducible first | exact HB.out | apply z4 | apply z1 | apply z3 | refine z7 ?_ GE174.out | refine z7 ?_ GE175.out) | exact HB.out)⟩
 ·rw [if_neg c3] at H
  have c3b0 : (a0_0 != a1_0) = false := by simpa using c3
  (try (have c3b1 : decide (a0_0 = a1_0) = true := by simpa using c3))
  (try (have c3b2 : (a0_0 == a1_0) = true := by simpa using c3))
  clear c3
  replace H := Option.bind_eq_some_iff.mp H
  obtain ⟨t176, A90, H⟩ := H
  replace H : (if t176 = true then (if a0_3 = a1_3 then (some true) else (some false)) else (some false)) = some r := H
  have A9 := z2.mk A90
  clear A90
  by_cases c10 : t176 = true
  ·subst c10
   have H1 : (if a0_3 = a1_3 then (some true) else (some false)) = some r := by rw [if_pos rfl] at H; exact H
   clear H
   have H := H1
   clear H1
   by_cases c11 : a0_3 = a1_3
   ·rw [if_pos c11] at H
    have c11b0 : (a0_3 == a1_3) = true := beq_iff_eq.mpr c11
    have c11b1 : (a0_3 != a1_3) = false := bne_eq_false_iff_eq.mpr c11
    clear c11
    obtain rfl := Option.some.inj H
    go_enter Try.func12, Try.ntmps12
    go_wp2_with (first | ((with_reducible refine ye (N := 2) rfl ?_); refine ze ?hg (N := 2) ?hd (cs := #[.bool a0_0, .int .i64 a0_1, .slice A0_2 l0_2.length c0_2, .int .i64 a0_3]) (t := 33) ?hr ?_; (case hd => rfl); (case hg => rfl); (case hr => first | (go_simp; done) | (go_simp; rfl)); intro gb174 hg w12 hbox hb; have n0_ := z2.mk (y8 (by repeat (first | (with_reducible first | exact HB.out | apply z4 | apply z1 | apply z3) | exact HB.out)) hb); have n1_ := z2.mk (hbox); have n2_ := z2.mk ((by rw [hg]; exact (z8 (by repeat (first | (with_reducible first | exact HB.out | apply z4 | apply z1 | apply z3) | exact HB.out))) : w.heap.size ≤ gb174)); have n3_ := z2.mk ((by rw [hg]; exact (z8 (by repeat (first | (with_reducible first | exact HB.out | apply z4 | apply z1 | apply z3) | exact HB.out))) : w.heap.size ≤ gb174)); clear HB; have HB := n0_; have BK174 := n1_; have GW174 := n2_; have GE174 := n3_; clear n0_ n1_ n2_ n3_ hb hbox hg) | ((with_reducible refine ye (N := 3) rfl ?_); refine ze ?hg (N := 3) ?hd (cs := #[.bool a1_0, .int .i64 a1_1, .slice A1_2 l1_2.length c1_2, .int .i64 a1_3]) (t := 33) ?hr ?_; (case hd => rfl); (case hg => rfl); (case hr => first | (go_simp; done) | (go_simp; rfl)); intro gb175 hg w13 hbox hb; have n0_ := z2.mk (z9 (g := gb174) (o := .cells #[.bool a0_0, .int .i64 a0_1, .slice A0_2 l0_2.length c0_2, .int .i64 a0_3] 33 (0, 0)) (by (with_reducible repeat (first | refine z5 ?_ _ | refine y6 ?_ | refine y4 ?_ _)); exact BK174.out) hb); have n1_ := z2.mk (y8 (by repeat (first | (with_reducible first | exact HB.out | apply z4 | apply z1 | apply z3 | refine z7 ?_ GE174.out) | exact HB.out)) hb); have n2_ := z2.mk (hbox); have n3_ := z2.mk ((by rw [hg]; exact (z8 (by repeat (first | (with_reducible first | exact HB.out | apply z4 | apply z1 | apply z3 | refine z7 ?_ GE174.out) | exact HB.out))) : w.heap.size ≤ gb175)); have n4_ := z2.mk ((by rw [hg]; exact (z8 (by repeat (first | (with_reducible first | exact HB.out | apply z4 | apply z1 | apply z3 | refine z7 ?_ GE174.out) | exact HB.out))) : w.heap.size ≤ gb175)); have n5_ := z2.mk ((by rw [hg]; exact Nat.ne_of_lt (qk (g := gb174) (o := .cells #[.bool a0_0, .int .i64 a0_1, .slice A0_2 l0_2.length c0_2, .int .i64 a0_3] 33 (0, 0)) (by (with_reducible repeat (first | refine z5 ?_ _ | refine y6 ?_ | refine y4 ?_ _)); exact BK174.out)) : gb174 ≠ gb175)); have n6_ := z2.mk ((by rw [hg]; exact Nat.ne_of_gt (qk (g := gb174) (o := .cells #[.bool a0_0, .int .i64 a0_1, .slice A0_2 l0_2.length c0_2, .int .i64 a0_3] 33 (0, 0)) (by (with_reducible repeat (first | refine z5 ?_ _ | refine y6 ?_ | refine y4 ?_ _)); exact BK174.out)) : gb175 ≠ gb174)); clear BK174 HB; have BK174 := n0_; have HB := n1_; have BK175 := n2_; have GW175 := n3_; have GE175 := n4_; have NB174_175 := n5_; have NB175_174 := n6_; clear n0_ n1_ n2_ n3_ n4_ n5_ n6_ hb hbox hg; have hnb14 := NB174_175.out; have hnc14 := NB175_174.out; have hcz15_0 : w13.cell? ⟨gb174, 0, none⟩ = some (.bool a0_0) := (z6 BK174.out 0).trans rfl; have hcz15_1 : w13.cell? ⟨gb174, 1, none⟩ = some (.int .i64 a0_1) := (z6 BK174.out 1).trans rfl; have hcz15_2 : w13.cell? ⟨gb174, 2, none⟩ = some (.slice A0_2 l0_2.length c0_2) := (z6 BK174.out 2).trans rfl; have hcz15_3 : w13.cell? ⟨gb174, 3, none⟩ = some (.int .i64 a0_3) := (z6 BK174.out 3).trans rfl; have hfz15_0 := y5 BK174.out 0; have hfz15_1 := y5 BK174.out 1; have hfz15_2 := y5 BK174.out 2; have hfz15_3 := y5 BK174.out 3; have hcz16_0 : w13.cell? ⟨gb175, 0, none⟩ = some (.bool a1_0) := (z6 BK175.out 0).trans rfl; have hcz16_1 : w13.cell? ⟨gb175, 1, none⟩ = some (.int .i64 a1_1) := (z6 BK175.out 1).trans rfl; have hcz16_2 : w13.cell? ⟨gb175, 2, none⟩ = some (.slice A1_2 l1_2.length c1_2) := (z6 BK175.out 2).trans rfl; have hcz16_3 : w13.cell? ⟨gb175, 3, none⟩ = some (.int .i64 a1_3) := (z6 BK175.out 3).trans rfl; have hfz16_0 := y5 BK175.out 0; have hfz16_1 := y5 BK175.out 1; have hfz16_2 := y5 BK175.out 2; have hfz16_3 := y5 BK175.out 3) | ((with_reducible refine qb (f := 53) rfl ?_); refine zm (some 14) rfl rfl Try.func53 (by kernel_rfl) rfl #[.agg #[.int .i64 a0_1, .slice A0_2 l0_2.length c0_2], .agg #[.int .i64 a1_1, .slice A1_2 l1_2.length c1_2]] rfl (by (try simp only [List.map_toArray, List.map_cons, List.map_nil]); first | done | rfl | (simp only [List.length_drop, List.length_take]; rfl)) ?_; (with_reducible refine (qy.calls k a0_1 _ _ l0_2 a1_1 _ _ l1_2 true _ ?side1 ?side2 ?side3 ?side4 A9.out).mono ?_); (case side1 => repeat (first | exact (Kd.yp HR0_2.out HB.out) | (with_reducible refine Kd.yi ?_ _) | (with_reducible refine Kd.qi ?_ _) | (with_reducible refine Kd.C_drew ?_))); (case side2 => exact HC0_2.out); (case side3 => repeat (first | exact (Kd.yp HR1_2.out HB.out) | (with_reducible refine Kd.yi ?_ _) | (with_reducible refine Kd.qi ?_ _) | (with_reducible refine Kd.C_drew ?_))); (case side4 => exact HC1_2.out); rintro e w17 ⟨rfl, hb⟩; refine ⟨_, rfl, ?_⟩; have n0_ := z2.mk (z9 (g := gb174) (o := .cells #[.bool a0_0, .int .i64 a0_1, .slice A0_2 l0_2.length c0_2, .int .i64 a0_3] 33 (0, 0)) (by (with_reducible repeat (first | refine z5 ?_ _ | refine y6 ?_ | refine y4 ?_ _)); exact BK174.out) hb); have n1_ := z2.mk (z9 (g := gb175) (o := .cells #[.bool a1_0, .int .i64 a1_1, .slice A1_2 l1_2.length c1_2, .int .i64 a1_3] 33 (0, 0)) (by (with_reducible repeat (first | refine z5 ?_ _ | refine y6 ?_ | refine y4 ?_ _)); exact BK175.out) hb); have n2_ := z2.mk (y8 (by repeat (first | (with_reducible first | exact HB.out | apply z4 | apply z1 | apply z3 | refine z7 ?_ GE174.out | refine z7 ?_ GE175.out) | exact HB.out)) hb); clear BK174 BK175 HB; have BK174 := n0_; have BK175 := n1_; have HB := n2_; clear n0_ n1_ n2_; (try clear hb); (try clear hb2); (try clear hk); (try clear hi); have hcz18_0 : w17.cell? ⟨gb174, 0, none⟩ = some (.bool a0_0) := (z6 BK174.out 0).trans rfl; have hcz18_1 : w17.cell? ⟨gb174, 1, none⟩ = some (.int .i64 a0_1) := (z6 BK174.out 1).trans rfl; have hcz18_2 : w17.cell? ⟨gb174, 2, none⟩ = some (.slice A0_2 l0_2.length c0_2) := (z6 BK174.out 2).trans rfl; have hcz18_3 : w17.cell? ⟨gb174, 3, none⟩ = some (.int .i64 a0_3) := (z6 BK174.out 3).trans rfl; have hfz18_0 := y5 BK174.out 0; have hfz18_1 := y5 BK174.out 1; have hfz18_2 := y5 BK174.out 2; have hfz18_3 := y5 BK174.out 3; have hcz19_0 : w17.cell? ⟨gb175, 0, none⟩ = some (.bool a1_0) := (z6 BK175.out 0).trans rfl; have hcz19_1 : w17.cell? ⟨gb175, 1, none⟩ = some (.int .i64 a1_1) := (z6 BK175.out 1).trans rfl; have hcz19_2 : w17.cell? ⟨gb175, 2, none⟩ = some (.slice A1_2 l1_2.length c1_2) := (z6 BK175.out 2).trans rfl; have hcz19_3 : w17.cell? ⟨gb175, 3, none⟩ = some (.int .i64 a1_3) := (z6 BK175.out 3).trans rfl; have hfz19_0 := y5 BK175.out 0; have hfz19_1 := y5 BK175.out 1; have hfz19_2 := y5 BK175.out 2; have hfz19_3 := y5 BK175.out 3))
    go_ret
    exact ⟨by first | rfl | (simp [ya, qa] <;> rfl) | (simp [*, ya, qa] <;> rfl), by repeat (first | (with_reducible first | exact HB.out | apply z4 | apply z1 | apply z3 | refine z7 ?_ GE174.out | refine z7 ?_ GE175.out) | exact HB.out)⟩
   ·rw [if_neg c11] at H
    have c11b0 : (a0_3 == a1_3) = false := beq_eq_false_iff_ne.mpr c11
    have c11b1 : (a0_3 != a1_3) = true := bne_iff_ne.mpr c11
    obtain rfl := Option.some.inj H
    go_enter Try.func12, Try.ntmps12
    go_wp2_with (first | ((with_reducible refine ye (N := 2) rfl ?_); refine ze ?hg (N := 2) ?hd (cs := #[.bool a0_0, .int .i64 a0_1, .slice A0_2 l0_2.length c0_2, .int .i64 a0_3]) (t := 33) ?hr ?_; (case hd => rfl); (case hg => rfl); (case hr => first | (go_simp; done) | (go_simp; rfl)); intro gb174 hg w20 hbox hb; have n0_ := z2.mk (y8 (by repeat (first | (with_reducible first | exact HB.out | apply z4 | apply z1 | apply z3) | exact HB.out)) hb); have n1_ := z2.mk (hbox); have n2_ := z2.mk ((by rw [hg]; exact (z8 (by repeat (first | (with_reducible first | exact HB.out | apply z4 | apply z1 | apply z3) | exact HB.out))) : w.heap.size ≤ gb174)); have n3_ := z2.mk ((by rw [hg]; exact (z8 (by repeat (first | (with_reducible first | exact HB.out | apply z4 | apply z1 | apply z3) | exact HB.out))) : w.heap.size ≤ gb174)); clear HB; have HB := n0_; have BK174 := n1_; have GW174 := n2_; have GE174 := n3_; clear n0_ n1_ n2_ n3_ hb hbox hg) | ((with_reducible refine ye (N := 3) rfl ?_); refine ze ?hg (N := 3) ?hd (cs := #[.bool a1_0, .int .i64 a1_1, .slice A1_2 l1_2.length c1_2, .int .i64 a1_3]) (t := 33) ?hr ?_; (case hd => rfl); (case hg => rfl); (case hr => first | (go_simp; done) | (go_simp; rfl)); intro gb175 hg w21 hbox hb; have n0_ := z2.mk (z9 (g := gb174) (o := .cells #[.bool a0_0, .int .i64 a0_1, .slice A0_2 l0_2.length c0_2, .int .i64 a0_3] 33 (0, 0)) (by (with_reducible repeat (first | refine z5 ?_ _ | refine y6 ?_ | refine y4 ?_ _)); exact BK174.out) hb); have n1_ := z2.mk (y8 (by repeat (first | (with_reducible first | exact HB.out | apply z4 | apply z1 | apply z3 | refine z7 ?_ GE174.out) | exact HB.out)) hb); have n2_ := z2.mk (hbox); have n3_ := z2.mk ((by rw [hg]; exact (z8 (by repeat (first | (with_reducible first | exact HB.out | apply z4 | apply z1 | apply z3 | refine z7 ?_ GE174.out) | exact HB.out))) : w.heap.size ≤ gb175)); have n4_ := z2.mk ((by rw [hg]; exact (z8 (by repeat (first | (with_reducible first | exact HB.out | apply z4 | apply z1 | apply z3 | refine z7 ?_ GE174.out) | exact HB.out))) : w.heap.size ≤ gb175)); have n5_ := z2.mk ((by rw [hg]; exact Nat.ne_of_lt (qk (g := gb174) (o := .cells #[.bool a0_0, .int .i64 a0_1, .slice A0_2 l0_2.length c0_2, .int .i64 a0_3] 33 (0, 0)) (by (with_reducible repeat (first | refine z5 ?_ _ | refine y6 ?_ | refine y4 ?_ _)); exact BK174.out)) : gb174 ≠ gb175)); have n6_ := z2.mk ((by rw [hg]; exact Nat.ne_of_gt (qk (g := gb174) (o := .cells #[.bool a0_0, .int .i64 a0_1, .slice A0_2 l0_2.length c0_2, .int .i64 a0_3] 33 (0, 0)) (by (with_reducible repeat (first | refine z5 ?_ _ | refine y6 ?_ | refine y4 ?_ _)); exact BK174.out)) : gb175 ≠ gb174)); clear BK174 HB; have BK174 := n0_; have HB := n1_; have BK175 := n2_; have GW175 := n3_; have GE175 := n4_; have NB174_175 := n5_; have NB175_174 := n6_; clear n0_ n1_ n2_ n3_ n4_ n5_ n6_ hb hbox hg; have hnb22 := NB174_175.out; have hnc22 := NB175_174.out; have hcz23_0 : w21.cell? ⟨gb174, 0, none⟩ = some (.bool a0_0) := (z6 BK174.out 0).trans rfl; have hcz23_1 : w21.cell? ⟨gb174, 1, none⟩ = some (.int .i64 a0_1) := (z6 BK174.out 1).trans rfl; have hcz23_2 : w21.cell? ⟨gb174, 2, none⟩ = some (.slice A0_2 l0_2.length c0_2) := (z6 BK174.out 2).trans rfl; have hcz23_3 : w21.cell? ⟨gb174, 3, none⟩ = some (.int .i64 a0_3) := (z6 BK174.out 3).trans rfl; have hfz23_0 := y5 BK174.out 0; have hfz23_1 := y5 BK174.out 1; have hfz23_2 := y5 BK174.out 2; have hfz23_3 := y5 BK174.out 3; have hcz24_0 : w21.cell? ⟨gb175, 0, none⟩ = some (.bool a1_0) := (z6 BK175.out 0).trans rfl; have hcz24_1 : w21.cell? ⟨gb175, 1, none⟩ = some (.int .i64 a1_1) := (z6 BK175.out 1).trans rfl; have hcz24_2 : w21.cell? ⟨gb175, 2, none⟩ = some (.slice A1_2 l1_2.length c1_2) := (z6 BK175.out 2).trans rfl; have hcz24_3 : w21.cell? ⟨gb175, 3, none⟩ = some (.int .i64 a1_3) := (z6 BK175.out 3).trans rfl; have hfz24_0 := y5 BK175.out 0; have hfz24_1 := y5 BK175.out 1; have hfz24_2 := y5 BK175.out 2; have hfz24_3 := y5 BK175.out 3) | ((with_reducible refine qb (f := 53) rfl ?_); refine zm (some 14) rfl rfl Try.func53 (by kernel_rfl) rfl #[.agg #[.int .i64 a0_1, .slice A0_2 l0_2.length c0_2], .agg #[.int .i64 a1_1, .slice A1_2 l1_2.length c1_2]] rfl (by (try simp only [List.map_toArray, List.map_cons, List.map_nil]); first | done | rfl | (simp only [List.length_drop, List.length_take]; rfl)) ?_; (with_reducible refine (qy.calls k a0_1 _ _ l0_2 a1_1 _ _ l1_2 true _ ?side1 ?side2 ?side3 ?side4 A9.out).mono ?_); (case side1 => repeat (first | exact (Kd.yp HR0_2.out HB.out) | (with_reducible refine Kd.yi ?_ _) | (with_reducible refine Kd.qi ?_ _) | (with_reducible refine Kd.C_drew ?_))); (case side2 => exact HC0_2.out); (case side3 => repeat (first | exact (Kd.yp HR1_2.out HB.out) | (with_reducible refine Kd.yi ?_ _) | (with_reducible refine Kd.qi ?_ _) | (with_reducible refine Kd.C_drew ?_))); (case side4 => exact HC1_2.out); rintro e w25 ⟨rfl, hb⟩; refine ⟨_, rfl, ?_⟩; have n0_ := z2.mk (z9 (g := gb174) (o := .cells #[.bool a0_0, .int .i64 a0_1, .slice A0_2 l0_2.length c0_2, .int .i64 a0_3] 33 (0, 0)) (by (with_reducible repeat (first | refine z5 ?_ _ | refine y6 ?_ | refine y4 ?_ _)); exact BK174.out) hb); have n1_ := z2.mk (z9 (g := gb175) (o := .cells #[.bool a1_0, .int .i64 a1_1, .slice A1_2 l1_2.length c1_2, .int .i64 a1_3] 33 (0, 0)) (by (with_reducible repeat (first | refine z5 ?_ _ | refine y6 ?_ | refine y4 ?_ _)); exact BK175.out) hb); have n2_ := z2.mk (y8 (by repeat (first | (with_reducible first | exact HB.out | apply z4 | apply z1 | apply z3 | refine z7 ?_ GE174.out | refine z7 ?_ GE175.out) | exact HB.out)) hb); clear BK174 BK175 HB; have BK174 := n0_; have BK175 := n1_; have HB := n2_; clear n0_ n1_ n2_; (try clear hb); (try clear hb2); (try clear hk); (try clear hi); have hcz26_0 : w25.cell? ⟨gb174, 0, none⟩ = some (.bool a0_0) := (z6 BK174.out 0).trans rfl; have hcz26_1 : w25.cell? ⟨gb174, 1, none⟩ = some (.int .i64 a0_1) := (z6 BK174.out 1).trans rfl; have hcz26_2 : w25.cell? ⟨gb174, 2, none⟩ = some (.slice A0_2 l0_2.length c0_2) := (z6 BK174.out 2).trans rfl; have hcz26_3 : w25.cell? ⟨gb174, 3, none⟩ = some (.int .i64 a0_3) := (z6 BK174.out 3).trans rfl; have hfz26_0 := y5 BK174.out 0; have hfz26_1 := y5 BK174.out 1; have hfz26_2 := y5 BK174.out 2; have hfz26_3 := y5 BK174.out 3; have hcz27_0 : w25.cell? ⟨gb175, 0, none⟩ = some (.bool a1_0) := (z6 BK175.out 0).trans rfl; have hcz27_1 : w25.cell? ⟨gb175, 1, none⟩ = some (.int .i64 a1_1) := (z6 BK175.out 1).trans rfl; have hcz27_2 : w25.cell? ⟨gb175, 2, none⟩ = some (.slice A1_2 l1_2.length c1_2) := (z6 BK175.out 2).trans rfl; have hcz27_3 : w25.cell? ⟨gb175, 3, none⟩ = some (.int .i64 a1_3) := (z6 BK175.out 3).trans rfl; have hfz27_0 := y5 BK175.out 0; have hfz27_1 := y5 BK175.out 1; have hfz27_2 := y5 BK175.out 2; have hfz27_3 := y5 BK175.out 3))
    go_ret
    exact ⟨by first | rfl | (simp [ya, qa] <;> rfl) | (simp [*, ya, qa] <;> rfl), by repeat (first | (with_reducible first | exact HB.out | apply z4 | apply z1 | apply z3 | refine z7 ?_ GE174.out | refine z7 ?_ GE175.out) | exact HB.out)⟩
  ·replace c10 := Bool.eq_false_iff.mpr c10
   subst c10
   have H1 : (some false) = some r := by rw [if_neg (show ¬ (false = true) by decide)] at H; exact H
   clear H
   have H := H1
   clear H1
   obtain rfl := Option.some.inj H
   go_enter Try.func12, Try.ntmps12
   go_wp2_with (first | ((with_reducible refine ye (N := 2) rfl ?_); refine ze ?hg (N := 2) ?hd (cs := #[.bool a0_0, .int .i64 a0_1, .slice A0_2 l0_2.length c0_2, .int .i64 a0_3]) (t := 33) ?hr ?_; (case hd => rfl); (case hg => rfl); (case hr => first | (go_simp; done) | (go_simp; rfl)); intro gb174 hg w28 hbox hb; have n0_ := z2.mk (y8 (by repeat (first | (with_reducible first | exact HB.out | apply z4 | apply z1 | apply z3) | exact HB.out)) hb); have n1_ := z2.mk (hbox); have n2_ := z2.mk ((by rw [hg]; exact (z8 (by repeat (first | (with_reducible first | exact HB.out | apply z4 | apply z1 | apply z3) | exact HB.out))) : w.heap.size ≤ gb174)); have n3_ := z2.mk ((by rw [hg]; exact (z8 (by repeat (first | (with_reducible first | exact HB.out | apply z4 | apply z1 | apply z3) | exact HB.out))) : w.heap.size ≤ gb174)); clear HB; have HB := n0_; have BK174 := n1_; have GW174 := n2_; have GE174 := n3_; clear n0_ n1_ n2_ n3_ hb hbox hg) | ((with_reducible refine ye (N := 3) rfl ?_); refine ze ?hg (N := 3) ?hd (cs := #[.bool a1_0, .int .i64 a1_1, .slice A1_2 l1_2.length c1_2, .int .i64 a1_3]) (t := 33) ?hr ?_; (case hd => rfl); (case hg => rfl); (case hr => first | (go_simp; done) | (go_simp; rfl)); intro gb175 hg w29 hbox hb; have n0_ := z2.mk (z9 (g := gb174) (o := .cells #[.bool a0_0, .int .i64 a0_1, .slice A0_2 l0_2.length c0_2, .int .i64 a0_3] 33 (0, 0)) (by (with_reducible repeat (first | refine z5 ?_ _ | refine y6 ?_ | refine y4 ?_ _)); exact BK174.out) hb); have n1_ := z2.mk (y8 (by repeat (first | (with_reducible first | exact HB.out | apply z4 | apply z1 | apply z3 | refine z7 ?_ GE174.out) | exact HB.out)) hb); have n2_ := z2.mk (hbox); have n3_ := z2.mk ((by rw [hg]; exact (z8 (by repeat (first | (with_reducible first | exact HB.out | apply z4 | apply z1 | apply z3 | refine z7 ?_ GE174.out) | exact HB.out))) : w.heap.size ≤ gb175)); have n4_ := z2.mk ((by rw [hg]; exact (z8 (by repeat (first | (with_reducible first | exact HB.out | apply z4 | apply z1 | apply z3 | refine z7 ?_ GE174.out) | exact HB.out))) : w.heap.size ≤ gb175)); have n5_ := z2.mk ((by rw [hg]; exact Nat.ne_of_lt (qk (g := gb174) (o := .cells #[.bool a0_0, .int .i64 a0_1, .slice A0_2 l0_2.length c0_2, .int .i64 a0_3] 33 (0, 0)) (by (with_reducible repeat (first | refine z5 ?_ _ | refine y6 ?_ | refine y4 ?_ _)); exact BK174.out)) : gb174 ≠ gb175)); have n6_ := z2.mk ((by rw [hg]; exact Nat.ne_of_gt (qk (g := gb174) (o := .cells #[.bool a0_0, .int .i64 a0_1, .slice A0_2 l0_2.length c0_2, .int .i64 a0_3] 33 (0, 0)) (by (with_reducible repeat (first | refine z5 ?_ _ | refine y6 ?_ | refine y4 ?_ _)); exact BK174.out)) : gb175 ≠ gb174)); clear BK174 HB; have BK174 := n0_; have HB := n1_; have BK175 := n2_; have GW175 := n3_; have GE175 := n4_; have NB174_175 := n5_; have NB175_174 := n6_; clear n0_ n1_ n2_ n3_ n4_ n5_ n6_ hb hbox hg; have hnb30 := NB174_175.out; have hnc30 := NB175_174.out; have hcz31_0 : w29.cell? ⟨gb174, 0, none⟩ = some (.bool a0_0) := (z6 BK174.out 0).trans rfl; have hcz31_1 : w29.cell? ⟨gb174, 1, none⟩ = some (.int .i64 a0_1) := (z6 BK174.out 1).trans rfl; have hcz31_2 : w29.cell? ⟨gb174, 2, none⟩ = some (.slice A0_2 l0_2.length c0_2) := (z6 BK174.out 2).trans rfl; have hcz31_3 : w29.cell? ⟨gb174, 3, none⟩ = some (.int .i64 a0_3) := (z6 BK174.out 3).trans rfl; have hfz31_0 := y5 BK174.out 0; have hfz31_1 := y5 BK174.out 1; have hfz31_2 := y5 BK174.out 2; have hfz31_3 := y5 BK174.out 3; have hcz32_0 : w29.cell? ⟨gb175, 0, none⟩ = some (.bool a1_0) := (z6 BK175.out 0).trans rfl; have hcz32_1 : w29.cell? ⟨gb175, 1, none⟩ = some (.int .i64 a1_1) := (z6 BK175.out 1).trans rfl; have hcz32_2 : w29.cell? ⟨gb175, 2, none⟩ = some (.slice A1_2 l1_2.length c1_2) := (z6 BK175.out 2).trans rfl; have hcz32_3 : w29.cell? ⟨gb175, 3, none⟩ = some (.int .i64 a1_3) := (z6 BK175.out 3).trans rfl; have hfz32_0 := y5 BK175.out 0; have hfz32_1 := y5 BK175.out 1; have hfz32_2 := y5 BK175.out 2; have hfz32_3 := y5 BK175.out 3) | ((with_reducible refine qb (f := 53) rfl ?_); refine zm (some 14) rfl rfl Try.func53 (by kernel_rfl) rfl #[.agg #[.int .i64 a0_1, .slice A0_2 l0_2.length c0_2], .agg #[.int .i64 a1_1, .slice A1_2 l1_2.length c1_2]] rfl (by (try simp only [List.map_toArray, List.map_cons, List.map_nil]); first | done | rfl | (simp only [List.length_drop, List.length_take]; rfl)) ?_; (with_reducible refine (qy.calls k a0_1 _ _ l0_2 a1_1 _ _ l1_2 false _ ?side1 ?side2 ?side3 ?side4 A9.out).mono ?_); (case side1 => repeat (first | exact (Kd.yp HR0_2.out HB.out) | (with_reducible refine Kd.yi ?_ _) | (with_reducible refine Kd.qi ?_ _) | (with_reducible refine Kd.C_drew ?_))); (case side2 => exact HC0_2.out); (case side3 => repeat (first | exact (Kd.yp HR1_2.out HB.out) | (with_reducible refine Kd.yi ?_ _) | (with_reducible refine Kd.qi ?_ _) | (with_reducible refine Kd.C_drew ?_))); (case side4 => exact HC1_2.out); rintro e w33 ⟨rfl, hb⟩; refine ⟨_, rfl, ?_⟩; have n0_ := z2.mk (z9 (g := gb174) (o := .cells #[.bool a0_0, .int .i64 a0_1, .slice A0_2 l0_2.length c0_2, .int .i64 a0_3] 33 (0, 0)) (by (with_reducible repeat (first | refine z5 ?_ _ | refine y6 ?_ | refine y4 ?_ _)); exact BK174.out) hb); have n1_ := z2.mk (z9 (g := gb175) (o := .cells #[.bool a1_0, .int .i64 a1_1, .slice A1_2 l1_2.length c1_2, .int .i64 a1_3] 33 (0, 0)) (by (with_reducible repeat (first | refine z5 ?_ _ | refine y6 ?_ | refine y4 ?_ _)); exact BK175.out) hb); have n2_ := z2.mk (y8 (by repeat (first | (with_reducible first | exact HB.out | apply z4 | apply z1 | apply z3 | refine z7 ?_ GE174.out | refine z7 ?_ GE175.out) | exact HB.out)) hb); clear BK174 BK175 HB; have BK174 := n0_; have BK175 := n1_; have HB := n2_; clear n0_ n1_ n2_; (try clear hb); (try clear hb2); (try clear hk); (try clear hi)))
   go_ret
   exact ⟨by first | rfl | (simp [ya, qa] <;> rfl) | (simp [*, ya, qa] <;> rfl), by repeat (first | (with_reducible first | exact HB.out | apply z4 | apply z1 | apply z3 | refine z7 ?_ GE174.out | refine z7 ?_ GE175.out) | exact HB.out)⟩
end Go.Proofs.Ytkeojolmapcgbaa.PEv
end
section
namespace Go.Proofs.Ytkeojolmapcgbaa.PEv
open Go.RowKit Go.Proofs.YtkeojolmapcgbaaW.PrintWords Go.Proofs.YtkeojolmapcgbaaW.PrintLast Go.Proofs.YtkeojolmapcgbaaW.PrintMore
set_option linter.unusedVariables false
set_option linter.unusedSimpArgs false
mutual
def yc.j0 : Nat → List Int → Bool → Option (Int × Int × (List (yl)))
 | 0, _, _ => none
 | k + 1, x0, x20 => if x20 = true then (some (5, 0, ([] : List (yl)))) else (if 8 ≤ (x0.length : Int) then ((zi.f k (x0.take 8)).bind fun bt427 => (yc.l0 k x0 8 bt427.2 ([] : List (yl)))) else (none))
def yc.l0 : Nat → List Int → Int → Int → List (yl) → Option (Int × Int × (List (yl)))
 | 0, _, _, _, _ => none
 | k + 1, x0, x4, x430000, x430001 => if x4 < (x0.length : Int) then (if 0 ≤ (wrap64 (x4 + 3)) then (if (wrap64 (x4 + 3)) ≤ (wrap64 (x4 + 11)) then (if (wrap64 (x4 + 11)) ≤ (x0.length : Int) then ((zi.f k ((x0.take ((wrap64 (x4 + 11)) : Int).toNat).drop ((wrap64 (x4 + 3)) : Int).toNat)).bind fun bt431 => (if 0 ≤ x4 then (if 0 ≤ (wrap64 (x4 + 1)) then (if (wrap64 (x4 + 1)) < (x0.length : Int) then (if 0 ≤ (wrap64 (x4 + 2)) then (if (wrap64 (x4 + 2)) < (x0.length : Int) then (if x430001.length < 4398046511104 then (yc.l0 k x0 (wrap64 (x4 + 11)) x430000 (x430001 ++ [(⟨wrap64 (rd x0 x4), wrap64 (rd x0 (wrap64 (x4 + 1))), wrap64 (rd x0 (wrap64 (x4 + 2))), bt431.2⟩ : yl)])) else (none)) else (none)) else (none)) else (none)) else (none)) else (none))) else (none)) else (none)) else (none)) else ((zr.f x430000 x430001).bind fun t439 => (if t439 = 0 then ((zh.f k x430000 x430001).bind fun t440 => ((zo.f t440 x0).bind fun t443 => (if t443 = true then (some (0, x430000, x430001)) else (some (5, 0, ([] : List (yl))))))) else (some (5, 0, ([] : List (yl))))))
end
def yc.f (k : Nat) (l0 : List Int) : Option (Int × Int × (List (yl))) := if (l0.length : Int) < 8 then (yc.j0 k l0 true) else (if (Int.tmod (wrap64 ((l0.length : Int) - 8)) 11) = 0 then (yc.j0 k l0 (decide ((l0.length : Int) > 96))) else (yc.j0 k l0 true))
def yc.T8 : Bool × List (List Nat × List Nat) := (true, [([], []), ([0], [0]), ([], []), ([], []), ([2, 3], [2, 3]), ([4], [4]), ([5], [5]), ([], []), ([], []), ([8], [8]), ([7, 9], [7, 9]), ([10], [10]), ([11], [11]), ([], []), ([], []), ([14], [14]), ([13, 15], [13, 15]), ([16], [16]), ([17], [17]), ([], []), ([6, 12, 18, 19], [6, 12, 18, 19]), ([20], [20]), ([1, 21], [1, 21]), ([0, 1, 2, 3, 4, 5, 6, 7, 8, 9, 10, 11, 12, 13, 14, 15, 16, 17, 18, 19, 20, 21, 22], []), ([23, 22, 22, 0, 1, 2, 3, 4, 5, 6, 7, 8, 9, 10, 11, 12, 13, 14, 15, 16, 17, 18, 19, 20, 21, 22], [22, 23])])
def yc.B8 : List Nat := [0, 1, 0, 0, 12, 28, 60, 0, 0, 256, 896, 1920, 3968, 0, 0, 16384, 57344, 122880, 253952, 0, 1048572, 2097148, 4194303, 8388607, 16777215]
theorem yc.y2v : z0s .any (opsOf Try.f109 8) = yc.T8 := by kernel_rfl
theorem yc.q2d : z0h yc.T8.2 yc.B8 = true := by kernel_rfl
set_option maxHeartbeats 8000000 in
set_option maxRecDepth 100000 in
theorem yc.calls (k : Nat) (A0 : Option Addr) (c0 : Nat) (l0 : List Int) (r1 : Int) (r2 : Int) (r3 : List (yl)) (w : World) (hr0 : Kd.C (Kd.int .u8) w A0 l0.length l0) (hc0 : l0.length ≤ c0) (h : yc.f k l0 = some (r1, r2, r3)) :
  Calls Try.prog 109 #[.slice A0 l0.length c0] w fun e w' => ∃ v2_ : Value, e = .returned (.agg #[.int .i64 r1, .int .i64 r2, v2_]) ∧ Kd.R y08 138 w' w.heap.size (fun _ => True) v2_ r3 ∧ Below w.heap.size w w' := by
 have hfd_156_1 : ∀ (x0_ x1_ : Value) (w_ : World), (Instr.field 156 (.agg #[x0_, x1_]) 1).run Try.prog w_ = .ok x1_ w_ := fun _ _ _ => by kernel_rfl
 have hu153 := Try.underlying153
 have hu31 := Try.underlying31
 have hu138 := Try.underlying138
 have HR0 := z2.mk hr0
 have HC0 := z2.mk hc0
 clear hr0 hc0
 have HB := z2.mk (Below.refl w.heap.size w)
 have H : (if (l0.length : Int) < 8 then (yc.j0 k l0 true) else (if (Int.tmod (wrap64 ((l0.length : Int) - 8)) 11) = 0 then (yc.j0 k l0 (decide ((l0.length : Int) > 96))) else (yc.j0 k l0 true))) = some (r1, r2, r3) := h
 clear h
 have HC2 := z2.mk H
 clear H
 go_enter Try.func109, Try.ntmps109
 go_upto_region 1 with (first | ((with_reducible refine ye (N := 2) rfl ?_); (try (refine yw (by rfl) ?_; dsimp only)); refine ze ?hg (N := 2) ?hd (cs := #[.int .i64 0, .int .i64 0, .slice none 0 0]) (t := 153) ?hr ?_; (case hd => rfl); (case hg => rfl); (case hr => first | (go_simp; done) | (go_simp; rfl)); intro gb425 hg w3 hbox hb; have n0_ := z2.mk (y8 (by repeat (first | (with_reducible first | exact HB.out | apply z4 | apply z1 | apply z3) | exact HB.out)) hb); have n1_ := z2.mk (hbox); have n2_ := z2.mk ((by rw [hg]; exact (z8 (by repeat (first | (with_reducible first | exact HB.out | apply z4 | apply z1 | apply z3) | exact HB.out))) : w.heap.size ≤ gb425)); have n3_ := z2.mk ((by rw [hg]; exact (z8 (by repeat (first | (with_reducible first | exact HB.out | apply z4 | apply z1 | apply z3) | exact HB.out))) : w.heap.size ≤ gb425)); clear HB; have HB := n0_; have BK425 := n1_; have GW425 := n2_; have GE425 := n3_; clear n0_ n1_ n2_ n3_ hb hbox hg))
 (try simp only [Act.put, List.setIfInBounds_toArray, List.set_cons_zero, List.set_cons_succ])
 go_cut [20] (fun v20 wc => ∃ (kq : Nat) (x20_1 : Bool), v20 = .bool x20_1 ∧ z2 (yc.j0 kq l0 x20_1 = some (r1, r2, r3)) ∧ z2 (kq ≤ k) ∧ z2 (wc.heap[gb425]? = some (.cells #[.int .i64 0, .int .i64 0, (.slice none 0 0)] 153 (0, 0))) ∧ z2 (Below w.heap.size w wc))
 case first =>
  have H := HC2.out
  clear HC2
  by_cases c4 : (l0.length : Int) < 8
  ·rw [if_pos c4] at H
   have c4b0 : decide ((l0.length : Int) < 8) = true := decide_eq_true c4
   have c4b1 : decide (l0.length < 8) = true := decide_eq_true (by omega)
   clear c4
   (first | rw [c4b0] | (simp only [yg, qg]; rw [c4b0]) | skip)
   have H' := z2.mk H
   clear H
   go_wp2
   go_meet
   case rel => exact ⟨_, (true), (by first | rfl | (simp; done) | (simp [*]; done)), H', ⟨by first | omega | exact Nat.le_refl _⟩, ⟨by (with_reducible repeat (first | refine z5 ?_ _ | refine y6 ?_ | refine y4 ?_ _)); exact BK425.out⟩, ⟨by repeat (first | (with_reducible first | exact HB.out | apply z4 | apply z1 | apply z3 | refine z7 ?_ GE425.out) | exact HB.out)⟩⟩
  ·rw [if_neg c4] at H
   have c4b0 : decide ((l0.length : Int) < 8) = false := decide_eq_false c4
   have c4b1 : decide (l0.length < 8) = false := decide_eq_false (by omega)
   clear c4
   (first | rw [c4b0] | (simp only [yg, qg]; rw [c4b0]) | skip)
   by_cases c5 : (Int.tmod (wrap64 ((l0.length : Int) - 8)) 11) = 0
   ·rw [if_pos c5] at H
    have c5b0 : ((Int.tmod (wrap64 ((l0.length : Int) - 8)) 11) == 0) = true := beq_iff_eq.mpr c5
    have c5b1 : ((Int.tmod (wrap64 ((l0.length : Int) - 8)) 11) != 0) = false := bne_eq_false_iff_eq.mpr c5
    clear c5
    have H' := z2.mk H
    clear H
    go_wp2
    go_meet
    case rel => exact ⟨_, (decide ((l0.length : Int) > 96)), (by first | rfl | (simp; done) | (simp [*]; done)), H', ⟨by first | omega | exact Nat.le_refl _⟩, ⟨by (with_reducible repeat (first | refine z5 ?_ _ | refine y6 ?_ | refine y4 ?_ _)); exact BK425.out⟩, ⟨by repeat (first | (with_reducible first | exact HB.out | apply z4 | apply z1 | apply z3 | refine z7 ?_ GE425.out) | exact HB.out)⟩⟩
   ·rw [if_neg c5] at H
    have c5b0 : ((Int.tmod (wrap64 ((l0.length : Int) - 8)) 11) == 0) = false := beq_eq_false_iff_ne.mpr c5
    have c5b1 : ((Int.tmod (wrap64 ((l0.length : Int) - 8)) 11) != 0) = true := bne_iff_ne.mpr c5
    have H' := z2.mk H
    clear H
    go_wp2
    go_meet
    case rel => exact ⟨_, (true), (by first | rfl | (simp; done) | (simp [*]; done)), H', ⟨by first | omega | exact Nat.le_refl _⟩, ⟨by (with_reducible repeat (first | refine z5 ?_ _ | refine y6 ?_ | refine y4 ?_ _)); exact BK425.out⟩, ⟨by repeat (first | (with_reducible first | exact HB.out | apply z4 | apply z1 | apply z3 | refine z7 ?_ GE425.out) | exact HB.out)⟩⟩
 case rest =>
  clear HC2
  try clear c1
  try clear p2
  try clear c4
  try clear c4b0
  try clear c4b1
  try clear c5
  try clear c5b0
  try clear c5b1
  obtain ⟨kq, x20_1, rfl, HA, HJ1, BK425, HB⟩ := hcut
  cases kq with
  | zero => exact absurd HA.out (by simp [yc.j0])
  | succ kj1 =>
   have H := HA.out
   clear HA
   simp only [yc.j0] at H
   by_cases c6 : x20_1 = true
   ·subst c6
    have H1 : (some (5, 0, ([] : List (yl)))) = some (r1, r2, r3) := by rw [if_pos rfl] at H; exact H
    clear H
    have H := H1
    clear H1
    simp only [Option.some.injEq, Prod.mk.injEq] at H
    obtain ⟨rfl, rfl, rfl⟩ := H
    have hcz7_0 : wc.cell? ⟨gb425, 0, none⟩ = some (.int .i64 0) := (z6 BK425.out 0).trans rfl
    have hcz7_1 : wc.cell? ⟨gb425, 1, none⟩ = some (.int .i64 0) := (z6 BK425.out 1).trans rfl
    have hcz7_2 : wc.cell? ⟨gb425, 2, none⟩ = some (.slice none 0 0) := (z6 BK425.out 2).trans rfl
    have hfz7_0 := y5 BK425.out 0
    have hfz7_1 := y5 BK425.out 1
    have hfz7_2 := y5 BK425.out 2
    go_wp2
    refine bodyPost_ret (results_cell_row rfl _ _ gb425 153 #[.int .i64 5, .int .i64 0, .slice none 0 0] (0, 0) _ rfl (by (with_reducible repeat (first | refine z5 ?_ _ | refine y6 ?_ | refine y4 ?_ _)); refine qc (cs := #[.int .i64 5, .int .i64 0, .slice none 0 0]) ?_ 2 _ rfl; (with_reducible repeat (first | refine z5 ?_ _ | refine y6 ?_ | refine y4 ?_ _)); refine qc (cs := #[.int .i64 5, .int .i64 0, .slice none 0 0]) ?_ 1 _ rfl; (with_reducible repeat (first | refine z5 ?_ _ | refine y6 ?_ | refine y4 ?_ _)); refine qc (cs := #[.int .i64 0, .int .i64 0, .slice none 0 0]) ?_ 0 _ rfl; (with_reducible repeat (first | refine z5 ?_ _ | refine y6 ?_ | refine y4 ?_ _)); exact BK425.out) Try.underlying153 rfl (by kernel_rfl)) rfl ?_
    exact ⟨_, by first | rfl | (simp [ya, qa] <;> rfl) | (simp [*, ya, qa] <;> rfl), by first | exact Kd.z0n _ _ _ _ _ | exact Kd.N_nil _ _ _ _ _ | exact Kd.V_nil _ _ _ _ _ | exact Kd.Q_nil _ _ _ _ _ | exact Kd.S_nil _ _ _ _ _, by repeat (first | (with_reducible first | exact HB.out | apply z4 | apply z1 | apply z3 | refine z7 ?_ GE425.out) | exact HB.out)⟩
   ·replace c6 := Bool.eq_false_iff.mpr c6
    subst c6
    have H1 : (if 8 ≤ (l0.length : Int) then ((zi.f kj1 (l0.take 8)).bind fun bt427 => (yc.l0 kj1 l0 8 bt427.2 ([] : List (yl)))) else (none)) = some (r1, r2, r3) := by rw [if_neg (show ¬ (false = true) by decide)] at H; exact H
    clear H
    have H := H1
    clear H1
    by_cases c8 : 8 ≤ (l0.length : Int)
    ·rw [if_pos c8] at H
     have c8b0 := eq_true c8
     have c8b1 : decide (8 ≤ (l0.length : Int)) = true := decide_eq_true c8
     clear c8
     replace H := Option.bind_eq_some_iff.mp H
     obtain ⟨⟨t427, t428⟩, A90, H⟩ := H
     replace H : (yc.l0 kj1 l0 8 t428 ([] : List (yl))) = some (r1, r2, r3) := H
     have A9 := z2.mk A90
     clear A90
     have H' := z2.mk H
     clear H
     obtain ⟨i010, hi010, _, hsz10, _⟩ := info_parts y0f
     obtain ⟨hcut10, hA10, hC10⟩ := y0r (P := Try.prog) (Value.int .u8) 0 37 5 .i64 Try.underlying37 hi010 hsz10 A0 c0 l0 8 (by omega) (of_decide_eq_true (by first | (with_reducible assumption) | assumption)) HC0.out
     have HR426 := z2.mk (Kd.z05 (h1 := fun _ => rfl) (hA10 _ (Kd.z02 HR0.out)))
     have HC426 := z2.mk hC10
     clear hA10 hC10 hi010 hsz10
     go_wp2_with (first | ((with_reducible refine qb (f := 110) rfl ?_); refine zm (some 24) rfl rfl Try.func110 (by kernel_rfl) rfl #[.slice A0 (l0.take 8).length c0] rfl (by (try simp only [List.map_toArray, List.map_cons, List.map_nil]); first | done | (rw [show (l0.take 8).length = 8 from (by rw [List.length_take]; have h_ : (8 : Int) ≤ (l0.length : Int) := of_decide_eq_true (by first | (with_reducible assumption) | assumption); omega)] <;> rfl) | rfl | (simp only [List.length_drop, List.length_take]; rfl)) ?_; (with_reducible refine (zi.calls kj1 _ _ (l0.take 8) t427 t428 _ ?side1 ?side2 A9.out).mono ?_); (case side1 => repeat (first | exact (Kd.yp HR426.out HB.out) | (with_reducible refine Kd.yi ?_ _) | (with_reducible refine Kd.qi ?_ _) | (with_reducible refine Kd.C_drew ?_))); (case side2 => exact HC426.out); rintro e w11 ⟨rfl, hb⟩; refine ⟨_, rfl, ?_⟩; have n0_ := z2.mk (z9 (g := gb425) (o := .cells #[.int .i64 0, .int .i64 0, .slice none 0 0] 153 (0, 0)) (by (with_reducible repeat (first | refine z5 ?_ _ | refine y6 ?_ | refine y4 ?_ _)); exact BK425.out) hb); have n1_ := z2.mk (y8 (by repeat (first | (with_reducible first | exact HB.out | apply z4 | apply z1 | apply z3 | refine z7 ?_ GE425.out) | exact HB.out)) hb); clear BK425 HB; have BK425 := n0_; have HB := n1_; clear n0_ n1_; (try clear hb); (try clear hb2); (try clear hk); (try clear hi)) | ((with_reducible refine ye (N := 3) rfl ?_); (try (refine yw (by rfl) ?_; dsimp only)); refine ze ?hg (N := 3) ?hd (cs := #[.int .i64 0, .slice none 0 0]) (t := 31) ?hr ?_; (case hd => rfl); (case hg => rfl); (case hr => first | (go_simp; done) | (go_simp; rfl)); intro gb429 hg w12 hbox hb; have n0_ := z2.mk (z9 (g := gb425) (o := .cells #[.int .i64 0, .int .i64 0, .slice none 0 0] 153 (0, 0)) (by (with_reducible repeat (first | refine z5 ?_ _ | refine y6 ?_ | refine y4 ?_ _)); exact BK425.out) hb); have n1_ := z2.mk (y8 (by repeat (first | (with_reducible first | exact HB.out | apply z4 | apply z1 | apply z3 | refine z7 ?_ GE425.out) | exact HB.out)) hb); have n2_ := z2.mk (hbox); have n3_ := z2.mk ((by rw [hg]; exact (z8 (by repeat (first | (with_reducible first | exact HB.out | apply z4 | apply z1 | apply z3 | refine z7 ?_ GE425.out) | exact HB.out))) : w.heap.size ≤ gb429)); have n4_ := z2.mk ((by rw [hg]; exact (z8 (by repeat (first | (with_reducible first | exact HB.out | apply z4 | apply z1 | apply z3 | refine z7 ?_ GE425.out) | exact HB.out))) : w.heap.size ≤ gb429)); have n5_ := z2.mk ((by rw [hg]; exact Nat.ne_of_lt (qk (g := gb425) (o := .cells #[.int .i64 0, .int .i64 0, .slice none 0 0] 153 (0, 0)) (by (with_reducible repeat (first | refine z5 ?_ _ | refine y6 ?_ | refine y4 ?_ _)); exact BK425.out)) : gb425 ≠ gb429)); have n6_ := z2.mk ((by rw [hg]; exact Nat.ne_of_gt (qk (g := gb425) (o := .cells #[.int .i64 0, .int .i64 0, .slice none 0 0] 153 (0, 0)) (by (with_reducible repeat (first | refine z5 ?_ _ | refine y6 ?_ | refine y4 ?_ _)); exact BK425.out)) : gb429 ≠ gb425)); clear BK425 HB; have BK425 := n0_; have HB := n1_; have BK429 := n2_; have GW429 := n3_; have GE429 := n4_; have NB425_429 := n5_; have NB429_425 := n6_; clear n0_ n1_ n2_ n3_ n4_ n5_ n6_ hb hbox hg; have hnb13 := NB429_425.out; have hnc13 := NB425_429.out; have hcz14_0 : w12.cell? ⟨gb429, 0, none⟩ = some (.int .i64 0) := (z6 BK429.out 0).trans rfl; have hcz14_1 : w12.cell? ⟨gb429, 1, none⟩ = some (.slice none 0 0) := (z6 BK429.out 1).trans rfl; have hfz14_0 := y5 BK429.out 0; have hfz14_1 := y5 BK429.out 1))
     go_loopg [4] kj1 (fun kq v4 w' => ∃ (x4_2 : Int) (x430001_2 : List (yl)) (u430001 : Value), v4 = .int .i64 x4_2 ∧ z2 (yc.l0 kq l0 x4_2 t428 x430001_2 = some (r1, r2, r3)) ∧ z2 (kq ≤ kj1) ∧ z2 (Kd.R y08 138 w' w.heap.size (fun _ => True) u430001 x430001_2) ∧ z2 (w'.heap[gb425]? = some (.cells #[.int .i64 0, .int .i64 0, (.slice none 0 0)] 153 (0, 0))) ∧ z2 (w'.heap[gb429]? = some (.cells #[.int .i64 t428, u430001] 31 (0, 0))) ∧ z2 (Below w.heap.size w w'))
     case atStart => exact ⟨(8), (([] : List (yl))), (.slice none 0 0), (by first | rfl | (simp; done) | (simp [*]; done)), H', ⟨Nat.le_refl _⟩, ⟨by first | exact Kd.z0n _ _ _ _ _ | exact Kd.N_nil _ _ _ _ _ | exact Kd.V_nil _ _ _ _ _ | exact Kd.Q_nil _ _ _ _ _ | exact Kd.S_nil _ _ _ _ _⟩, ⟨by (with_reducible repeat (first | refine z5 ?_ _ | refine y6 ?_ | refine y4 ?_ _)); refine zd ?_ NB425_429.out _; (with_reducible repeat (first | refine z5 ?_ _ | refine y6 ?_ | refine y4 ?_ _)); refine zd ?_ NB425_429.out _; (with_reducible repeat (first | refine z5 ?_ _ | refine y6 ?_ | refine y4 ?_ _)); exact BK425.out⟩, ⟨by (with_reducible repeat (first | refine z5 ?_ _ | refine y6 ?_ | refine y4 ?_ _)); refine qc (cs := #[.int .i64 t428, .slice none 0 0]) ?_ 1 _ rfl; (with_reducible repeat (first | refine z5 ?_ _ | refine y6 ?_ | refine y4 ?_ _)); refine qc (cs := #[.int .i64 0, .slice none 0 0]) ?_ 0 _ rfl; (with_reducible repeat (first | refine z5 ?_ _ | refine y6 ?_ | refine y4 ?_ _)); exact BK429.out⟩, ⟨by repeat (first | (with_reducible first | exact HB.out | apply z4 | apply z1 | apply z3 | refine z7 ?_ GE425.out | refine z7 ?_ GE429.out) | exact HB.out)⟩⟩
     case round =>
      clear H'
      try clear c1
      try clear p2
      try clear c4
      try clear c4b0
      try clear c4b1
      try clear c5
      try clear c5b0
      try clear c5b1
      try clear c6
      try clear p6
      try clear c8
      try clear c8b0
      try clear c8b1
      try clear c10
      try clear c11
      try clear c13
      try clear hcz14_0
      try clear hcz14_1
      try clear hcz7_0
      try clear hcz7_1
      try clear hcz7_2
      try clear hfz14_0
      try clear hfz14_1
      try clear hfz7_0
      try clear hfz7_1
      try clear hfz7_2
      try clear p2
      obtain ⟨x4_2, x430001_2, u430001, rfl, HA, HK2, HO_430001, BK425, BK429, HB⟩ := hrel
      cases gk with
      | zero => exact absurd HA.out (by simp [yc.l0])
      | succ k2 =>
       have H := HA.out
       clear HA
       simp only [yc.l0] at H
       by_cases c15 : x4_2 < (l0.length : Int)
       ·rw [if_pos c15] at H
        have c15b0 : decide (x4_2 < (l0.length : Int)) = true := decide_eq_true c15
        clear c15
        obtain ⟨ji16, hji16⟩ : ∃ j_ : Int, (wrap64 (x4_2 + 3)) = j_ := ⟨_, rfl⟩
        replace H : (if 0 ≤ (ji16) then (if (ji16) ≤ (wrap64 (x4_2 + 11)) then (if (wrap64 (x4_2 + 11)) ≤ (l0.length : Int) then ((zi.f k2 ((l0.take ((wrap64 (x4_2 + 11)) : Int).toNat).drop ((ji16) : Int).toNat)).bind fun bt431 => (if 0 ≤ x4_2 then (if 0 ≤ (wrap64 (x4_2 + 1)) then (if (wrap64 (x4_2 + 1)) < (l0.length : Int) then (if 0 ≤ (wrap64 (x4_2 + 2)) then (if (wrap64 (x4_2 + 2)) < (l0.length : Int) then (if x430001_2.length < 4398046511104 then (yc.l0 k2 l0 (wrap64 (x4_2 + 11)) t428 (x430001_2 ++ [(⟨wrap64 (rd l0 x4_2), wrap64 (rd l0 (wrap64 (x4_2 + 1))), wrap64 (rd l0 (wrap64 (x4_2 + 2))), bt431.2⟩ : yl)])) else (none)) else (none)) else (none)) else (none)) else (none)) else (none))) else (none)) else (none)) else (none)) = some (r1, r2, r3) := by first | (rw [hji16] at H; exact H) | (simp only [hji16] at H ⊢; exact H)
        have hji16w : (IntKind.i64.wrap (x4_2 + 3)) = ji16 := (yg _).trans hji16
        by_cases c17 : 0 ≤ (ji16)
        ·rw [if_pos c17] at H
         have c17b0 := eq_true c17
         have c17b1 : decide (0 ≤ (ji16)) = true := decide_eq_true c17
         clear c17
         by_cases c18 : (ji16) ≤ (wrap64 (x4_2 + 11))
         ·rw [if_pos c18] at H
          have c18b0 := eq_true c18
          have c18b1 : decide ((ji16) ≤ (wrap64 (x4_2 + 11))) = true := decide_eq_true c18
          by_cases c19 : (wrap64 (x4_2 + 11)) ≤ (l0.length : Int)
          ·rw [if_pos c19] at H
           have c19b0 := eq_true c19
           have c19b1 : decide ((wrap64 (x4_2 + 11)) ≤ (l0.length : Int)) = true := decide_eq_true c19
           replace H := Option.bind_eq_some_iff.mp H
           obtain ⟨⟨t431, t432⟩, A200, H⟩ := H
           replace H : (if 0 ≤ x4_2 then (if 0 ≤ (wrap64 (x4_2 + 1)) then (if (wrap64 (x4_2 + 1)) < (l0.length : Int) then (if 0 ≤ (wrap64 (x4_2 + 2)) then (if (wrap64 (x4_2 + 2)) < (l0.length : Int) then (if x430001_2.length < 4398046511104 then (yc.l0 k2 l0 (wrap64 (x4_2 + 11)) t428 (x430001_2 ++ [(⟨wrap64 (rd l0 x4_2), wrap64 (rd l0 (wrap64 (x4_2 + 1))), wrap64 (rd l0 (wrap64 (x4_2 + 2))), t432⟩ : yl)])) else (none)) else (none)) else (none)) else (none)) else (none)) else (none)) = some (r1, r2, r3) := H
           have A20 := z2.mk A200
           clear A200
           by_cases c21 : 0 ≤ x4_2
           ·rw [if_pos c21] at H
            have c21b0 : decide (0 ≤ x4_2) = true := decide_eq_true c21
            clear c21
            obtain ⟨ji22, hji22⟩ : ∃ j_ : Int, (wrap64 (x4_2 + 1)) = j_ := ⟨_, rfl⟩
            replace H : (if 0 ≤ (ji22) then (if (ji22) < (l0.length : Int) then (if 0 ≤ (wrap64 (x4_2 + 2)) then (if (wrap64 (x4_2 + 2)) < (l0.length : Int) then (if x430001_2.length < 4398046511104 then (yc.l0 k2 l0 (wrap64 (x4_2 + 11)) t428 (x430001_2 ++ [(⟨wrap64 (rd l0 x4_2), wrap64 (rd l0 (ji22)), wrap64 (rd l0 (wrap64 (x4_2 + 2))), t432⟩ : yl)])) else (none)) else (none)) else (none)) else (none)) else (none)) = some (r1, r2, r3) := by first | (rw [hji22] at H; exact H) | (simp only [hji22] at H ⊢; exact H)
            (try rw [hji22] at A20)
            have hji22w : (IntKind.i64.wrap (x4_2 + 1)) = ji22 := (yg _).trans hji22
            by_cases c23 : 0 ≤ (ji22)
            ·rw [if_pos c23] at H
             have c23b0 : decide (0 ≤ (ji22)) = true := decide_eq_true c23
             clear c23
             by_cases c24 : (ji22) < (l0.length : Int)
             ·rw [if_pos c24] at H
              have c24b0 : decide ((ji22) < (l0.length : Int)) = true := decide_eq_true c24
              clear c24
              obtain ⟨ji25, hji25⟩ : ∃ j_ : Int, (wrap64 (x4_2 + 2)) = j_ := ⟨_, rfl⟩
              replace H : (if 0 ≤ (ji25) then (if (ji25) < (l0.length : Int) then (if x430001_2.length < 4398046511104 then (yc.l0 k2 l0 (wrap64 (x4_2 + 11)) t428 (x430001_2 ++ [(⟨wrap64 (rd l0 x4_2), wrap64 (rd l0 (ji22)), wrap64 (rd l0 (ji25)), t432⟩ : yl)])) else (none)) else (none)) else (none)) = some (r1, r2, r3) := by first | (rw [hji25] at H; exact H) | (simp only [hji25] at H ⊢; exact H)
              (try rw [hji25] at A20)
              have hji25w : (IntKind.i64.wrap (x4_2 + 2)) = ji25 := (yg _).trans hji25
              by_cases c26 : 0 ≤ (ji25)
              ·rw [if_pos c26] at H
               have c26b0 : decide (0 ≤ (ji25)) = true := decide_eq_true c26
               clear c26
               by_cases c27 : (ji25) < (l0.length : Int)
               ·rw [if_pos c27] at H
                have c27b0 : decide ((ji25) < (l0.length : Int)) = true := decide_eq_true c27
                clear c27
                by_cases c28 : x430001_2.length < 4398046511104
                ·rw [if_pos c28] at H
                 have LMc28 := z2.mk c28
                 clear c28
                 obtain ⟨y436, hy436⟩ : ∃ y_ : List (yl), y_ = (x430001_2 ++ [(⟨wrap64 (rd l0 x4_2), wrap64 (rd l0 (ji22)), wrap64 (rd l0 (ji25)), t432⟩ : yl)]) := ⟨_, rfl⟩
                 replace H : (yc.l0 k2 l0 (wrap64 (x4_2 + 11)) t428 y436) = some (r1, r2, r3) := by first | (rw [hy436]; with_reducible exact H) | (have H2_ := (Option.bind_some _ _).symm.trans H; rw [hy436]; with_reducible exact H2_) | (have H2_ := (Option.bind_some _ _).symm.trans H; with_reducible exact H2_) | with_reducible exact H | (rw [hy436]; exact H) | exact H
                 have Ny436 := z2.mk hy436
                 clear hy436
                 have H' := z2.mk H
                 clear H
                 obtain ⟨i029, hi029, _, hsz29, _⟩ := info_parts y0f
                 obtain ⟨A29, hcut29, hA29, hC29⟩ := y0e (P := Try.prog) (Value.int .u8) 0 37 5 .i64 .i64 Try.underlying37 hi029 hsz29 A0 c0 l0 (ji16) (wrap64 (x4_2 + 11)) (of_decide_eq_true (by first | (with_reducible assumption) | assumption)) (by first | omega | exact of_decide_eq_true (by first | (with_reducible assumption) | assumption)) (of_decide_eq_true (by first | (with_reducible assumption) | assumption)) HC0.out
                 have HR430 := z2.mk (Kd.z05 (h1 := fun _ => rfl) (hA29 _ (Kd.z02 HR0.out)))
                 have HC430 := z2.mk hC29
                 clear hA29 hC29 hi029 hsz29
                 try go_wp2_with (first | ((with_reducible refine qb (f := 110) rfl ?_); refine zm (some 39) rfl rfl Try.func110 (by kernel_rfl) rfl #[.slice A29 ((l0.take ((wrap64 (x4_2 + 11)) : Int).toNat).drop ((ji16) : Int).toNat).length (c0 - (ji16).toNat)] rfl (by (try simp only [List.map_toArray, List.map_cons, List.map_nil]); first | done | (rw [show ((l0.take ((wrap64 (x4_2 + 11)) : Int).toNat).drop ((ji16) : Int).toNat).length = ((wrap64 (x4_2 + 11)).toNat - (ji16).toNat) from (by rw [List.length_drop, List.length_take]; have h_ : ((wrap64 (x4_2 + 11)) : Int) ≤ (l0.length : Int) := of_decide_eq_true (by first | (with_reducible assumption) | assumption); omega)] <;> rfl) | (simp only [hji16]; rfl) | rfl | (simp only [List.length_drop, List.length_take]; rfl)) ?_; (with_reducible refine (zi.calls k2 _ _ ((l0.take ((wrap64 (x4_2 + 11)) : Int).toNat).drop ((ji16) : Int).toNat) t431 t432 _ ?side1 ?side2 A20.out).mono ?_); (case side1 => repeat (first | exact (Kd.yp HR430.out HB.out) | (with_reducible refine Kd.yi ?_ _) | (with_reducible refine Kd.qi ?_ _) | (with_reducible refine Kd.C_drew ?_))); (case side2 => exact HC430.out); rintro e w30 ⟨rfl, hb⟩; refine ⟨_, rfl, ?_⟩; have n0_ := z2.mk (Kd.qf (by (with_reducible repeat (first | apply Kd.R_alloc | apply Kd.y9 | apply Kd.zb)); exact HO_430001.out) hb); have n1_ := z2.mk (z9 (g := gb425) (o := .cells #[.int .i64 0, .int .i64 0, .slice none 0 0] 153 (0, 0)) (by (with_reducible repeat (first | refine z5 ?_ _ | refine y6 ?_ | refine y4 ?_ _)); exact BK425.out) hb); have n2_ := z2.mk (z9 (g := gb429) (o := .cells #[.int .i64 t428, u430001] 31 (0, 0)) (by (with_reducible repeat (first | refine z5 ?_ _ | refine y6 ?_ | refine y4 ?_ _)); exact BK429.out) hb); have n3_ := z2.mk (y8 (by repeat (first | (with_reducible first | exact HB.out | apply z4 | apply z1 | apply z3 | refine z7 ?_ GE425.out | refine z7 ?_ GE429.out) | exact HB.out)) hb); clear HO_430001 BK425 BK429 HB; have HO_430001 := n0_; have BK425 := n1_; have BK429 := n2_; have HB := n3_; clear n0_ n1_ n2_ n3_; (try clear hb); (try clear hb2); (try clear hk); (try clear hi)))
                 have n0_ := z2.mk (Kd.zb HO_430001.out)
                 have n1_ := z2.mk (y6 BK425.out)
                 have n2_ := z2.mk (y6 BK429.out)
                 have n3_ := z2.mk (z3 HB.out)
                 clear HO_430001
                 clear BK425
                 clear BK429
                 clear HB
                 have HO_430001 := n0_
                 have BK425 := n1_
                 have BK429 := n2_
                 have HB := n3_
                 clear n0_ n1_ n2_ n3_
                 have p433 : 0 ≤ (x4_2 : Int) := of_decide_eq_true (by first | (with_reducible assumption) | assumption)
                 have q433 : x4_2 < (l0.length : Int) := of_decide_eq_true (by first | (with_reducible assumption) | assumption)
                 obtain ⟨ad433, e433, hx433_0⟩ := Kd.q07 HR0.out x4_2 p433 q433
                 have hw433_0 := hx433_0
                 cases e433
                 replace hx433_0 := (HB.out.cell (World.block_lt_of_cell? w _ hx433_0)).trans hx433_0
                 replace p433 := eq_true p433
                 replace q433 := eq_true q433
                 have p434 : 0 ≤ ((ji22) : Int) := of_decide_eq_true (by first | (with_reducible assumption) | assumption)
                 have q434 : (ji22) < (l0.length : Int) := of_decide_eq_true (by first | (with_reducible assumption) | assumption)
                 obtain ⟨ad434, e434, hx434_0⟩ := Kd.q07 HR0.out (ji22) p434 q434
                 have hw434_0 := hx434_0
                 obtain rfl : ad433 = ad434 := (by injection e434)
                 replace hx434_0 := (HB.out.cell (World.block_lt_of_cell? w _ hx434_0)).trans hx434_0
                 replace p434 := eq_true p434
                 replace q434 := eq_true q434
                 have p435 : 0 ≤ ((ji25) : Int) := of_decide_eq_true (by first | (with_reducible assumption) | assumption)
                 have q435 : (ji25) < (l0.length : Int) := of_decide_eq_true (by first | (with_reducible assumption) | assumption)
                 obtain ⟨ad435, e435, hx435_0⟩ := Kd.q07 HR0.out (ji25) p435 q435
                 have hw435_0 := hx435_0
                 obtain rfl : ad433 = ad435 := (by injection e435)
                 replace hx435_0 := (HB.out.cell (World.block_lt_of_cell? w _ hx435_0)).trans hx435_0
                 replace p435 := eq_true p435
                 replace q435 := eq_true q435
                 refine z0f (n := 25) (S := fun w' => w'.cell? ⟨gb429, 0, none⟩ = some (.int .i64 t428) ∧ w'.cell? ⟨gb429, 1, none⟩ = some (u430001) ∧ w'.cell? (ad433.add (x4_2).toNat) = some (.int .u8 (rd l0 x4_2)) ∧ w'.cell? (ad433.add ((ji22)).toNat) = some (.int .u8 (rd l0 (ji22))) ∧ w'.cell? (ad433.add ((ji25)).toNat) = some (.int .u8 (rd l0 (ji25)))) (ds := [24]) #[false, false, false, false, false, false, false, false, false, false, false, false, false, false, false, false, false, false, false, false, false, false, false, false, false] (by kernel_rfl) rfl rfl ⟨(z6 BK429.out 0).trans rfl, (z6 BK429.out 1).trans rfl, ((HB.out.cell (World.block_lt_of_cell? w _ hw433_0)).trans hw433_0), ((HB.out.cell (World.block_lt_of_cell? w _ hw434_0)).trans hw434_0), ((HB.out.cell (World.block_lt_of_cell? w _ hw435_0)).trans hw435_0)⟩ (fun hHeld => ?_); refine q03 yc.y2v yc.q2d (fun HT_ HW_ => ?_)
                 generalize w30.drew = w31 at HO_430001 BK425 BK429 HB hx433_0 hx434_0 hx435_0 hHeld ⊢
                 refine yo (i := 0) (N := some 41) (v := ?_) (a' := ?_) #[true, false, false, false, false, false, false, false, false, false, false, false, false, false, false, false, false, false, false, false, false, false, false, false, false] rfl rfl (qj HT_.out (by kernel_rfl)) (fun _ _ _ h => h) (Or.inl ⟨by rfl, ?_⟩) ?_ ?_
                 rotate_left
                 ·intro w'
                  go_simp
                  with_reducible rfl
                 rotate_left
                 ·simp only [Act.put, List.setIfInBounds_toArray, List.set_cons_zero, List.set_cons_succ, yg, qg]
                  rfl
                 refine yo (i := 2) (N := some 43) (v := ?_) (a' := ?_) #[true, false, true, false, false, false, false, false, false, false, false, false, false, false, false, false, false, false, false, false, false, false, false, false, false] rfl rfl (qj HT_.out (by kernel_rfl)) (fun _ _ _ h => h) (Or.inl ⟨by rfl, ?_⟩) ?_ ?_
                 rotate_left
                 ·intro w'
                  go_simp
                  with_reducible rfl
                 rotate_left
                 ·simp only [Act.put, List.setIfInBounds_toArray, List.set_cons_zero, List.set_cons_succ, yg, qg]
                  rfl
                 refine yo (i := 3) (N := some 44) (v := ?_) (a' := ?_) #[true, false, true, true, false, false, false, false, false, false, false, false, false, false, false, false, false, false, false, false, false, false, false, false, false] rfl rfl (qj HT_.out (by kernel_rfl)) (fun _ _ _ h => h) (Or.inl ⟨by rfl, ?_⟩) ?_ ?_
                 rotate_left
                 ·intro w'
                  go_simp
                  with_reducible rfl
                 rotate_left
                 ·simp only [Act.put, List.setIfInBounds_toArray, List.set_cons_zero, List.set_cons_succ, yg, qg]
                  rfl
                 refine yo (i := 4) (N := some 45) (v := ?_) (a' := ?_) #[true, false, true, true, true, false, false, false, false, false, false, false, false, false, false, false, false, false, false, false, false, false, false, false, false] rfl rfl (qj HT_.out (by kernel_rfl)) (fun _ _ _ h => h) (Or.inl ⟨by rfl, ?_⟩) ?_ ?_
                 rotate_left
                 ·intro w'
                  go_simp
                  with_reducible rfl
                 rotate_left
                 ·simp only [Act.put, List.setIfInBounds_toArray, List.set_cons_zero, List.set_cons_succ, yg, qg]
                  rfl
                 refine yo (i := 7) (N := some 48) (v := ?_) (a' := ?_) #[true, false, true, true, true, false, false, true, false, false, false, false, false, false, false, false, false, false, false, false, false, false, false, false, false] rfl rfl (qj HT_.out (by kernel_rfl)) (fun _ _ _ h => h) (Or.inl ⟨by rfl, ?_⟩) ?_ ?_
                 rotate_left
                 ·intro w'
                  go_simp
                  with_reducible rfl
                 rotate_left
                 ·simp only [Act.put, List.setIfInBounds_toArray, List.set_cons_zero, List.set_cons_succ, yg, qg]
                  rfl
                 refine yo (i := 8) (N := some 49) (v := ?_) (a' := ?_) #[true, false, true, true, true, false, false, true, true, false, false, false, false, false, false, false, false, false, false, false, false, false, false, false, false] rfl rfl (qj HT_.out (by kernel_rfl)) (fun _ _ _ h => h) (Or.inl ⟨by rfl, ?_⟩) ?_ ?_
                 rotate_left
                 ·intro w'
                  go_simp
                  with_reducible rfl
                 rotate_left
                 ·simp only [Act.put, List.setIfInBounds_toArray, List.set_cons_zero, List.set_cons_succ, yg, qg]
                  rfl
                 refine yo (i := 9) (N := some 50) (v := ?_) (a' := ?_) #[true, false, true, true, true, false, false, true, true, true, false, false, false, false, false, false, false, false, false, false, false, false, false, false, false] rfl rfl (qj HT_.out (by kernel_rfl)) (fun _ _ _ h => h) (Or.inl ⟨by rfl, ?_⟩) ?_ ?_
                 rotate_left
                 ·intro w'
                  go_simp
                  with_reducible rfl
                 rotate_left
                 ·simp only [Act.put, List.setIfInBounds_toArray, List.set_cons_zero, List.set_cons_succ, yg, qg]
                  rfl
                 refine yo (i := 10) (N := some 51) (v := ?_) (a' := ?_) #[true, false, true, true, true, false, false, true, true, true, true, false, false, false, false, false, false, false, false, false, false, false, false, false, false] rfl rfl (qj HT_.out (by kernel_rfl)) (fun _ _ _ h => h) (Or.inl ⟨by rfl, ?_⟩) ?_ ?_
                 rotate_left
                 ·intro w'
                  go_simp
                  with_reducible rfl
                 rotate_left
                 ·simp only [Act.put, List.setIfInBounds_toArray, List.set_cons_zero, List.set_cons_succ, yg, qg]
                  rfl
                 refine yo (i := 13) (N := some 54) (v := ?_) (a' := ?_) #[true, false, true, true, true, false, false, true, true, true, true, false, false, true, false, false, false, false, false, false, false, false, false, false, false] rfl rfl (qj HT_.out (by kernel_rfl)) (fun _ _ _ h => h) (Or.inl ⟨by rfl, ?_⟩) ?_ ?_
                 rotate_left
                 ·intro w'
                  go_simp
                  with_reducible rfl
                 rotate_left
                 ·simp only [Act.put, List.setIfInBounds_toArray, List.set_cons_zero, List.set_cons_succ, yg, qg]
                  rfl
                 refine yo (i := 14) (N := some 55) (v := ?_) (a' := ?_) #[true, false, true, true, true, false, false, true, true, true, true, false, false, true, true, false, false, false, false, false, false, false, false, false, false] rfl rfl (qj HT_.out (by kernel_rfl)) (fun _ _ _ h => h) (Or.inl ⟨by rfl, ?_⟩) ?_ ?_
                 rotate_left
                 ·intro w'
                  go_simp
                  with_reducible rfl
                 rotate_left
                 ·simp only [Act.put, List.setIfInBounds_toArray, List.set_cons_zero, List.set_cons_succ, yg, qg]
                  rfl
                 refine yo (i := 15) (N := some 56) (v := ?_) (a' := ?_) #[true, false, true, true, true, false, false, true, true, true, true, false, false, true, true, true, false, false, false, false, false, false, false, false, false] rfl rfl (qj HT_.out (by kernel_rfl)) (fun _ _ _ h => h) (Or.inl ⟨by rfl, ?_⟩) ?_ ?_
                 rotate_left
                 ·intro w'
                  go_simp
                  with_reducible rfl
                 rotate_left
                 ·simp only [Act.put, List.setIfInBounds_toArray, List.set_cons_zero, List.set_cons_succ, yg, qg]
                  rfl
                 refine yo (i := 16) (N := some 57) (v := ?_) (a' := ?_) #[true, false, true, true, true, false, false, true, true, true, true, false, false, true, true, true, true, false, false, false, false, false, false, false, false] rfl rfl (qj HT_.out (by kernel_rfl)) (fun _ _ _ h => h) (Or.inl ⟨by rfl, ?_⟩) ?_ ?_
                 rotate_left
                 ·intro w'
                  go_simp
                  with_reducible rfl
                 rotate_left
                 ·simp only [Act.put, List.setIfInBounds_toArray, List.set_cons_zero, List.set_cons_succ, yg, qg]
                  rfl
                 refine yo (i := 19) (N := some 60) (v := ?_) (a' := ?_) #[true, false, true, true, true, false, false, true, true, true, true, false, false, true, true, true, true, false, false, true, false, false, false, false, false] rfl rfl (qj HT_.out (by kernel_rfl)) (fun _ _ _ h => h) (Or.inl ⟨by rfl, ?_⟩) ?_ ?_
                 rotate_left
                 ·intro w'
                  go_simp
                  with_reducible rfl
                 rotate_left
                 ·simp only [Act.put, List.setIfInBounds_toArray, List.set_cons_zero, List.set_cons_succ, yg, qg]
                  rfl
                 refine y04 (i := 1) (N := some 42) (v := ?_) (a' := ?_) #[true, true, true, true, true, false, false, true, true, true, true, false, false, true, true, true, true, false, false, true, false, false, false, false, false] rfl rfl (zv HT_.out HW_.out (by kernel_rfl)) (fun _ _ _ h => h) (Or.inl ⟨by rfl, ?_⟩) hHeld ?_ ?_
                 rotate_left
                 ·rintro w' ⟨s0, s1, s2, s3, s4⟩
                  go_simp
                  with_reducible rfl
                 rotate_left
                 ·simp only [Act.put, List.setIfInBounds_toArray, List.set_cons_zero, List.set_cons_succ, yg, qg]
                  rfl
                 refine y04 (i := 5) (N := some 46) (v := ?_) (a' := ?_) #[true, true, true, true, true, true, false, true, true, true, true, false, false, true, true, true, true, false, false, true, false, false, false, false, false] rfl rfl (zv HT_.out HW_.out (by kernel_rfl)) (fun _ _ _ h => h) (Or.inl ⟨by rfl, ?_⟩) hHeld ?_ ?_
                 rotate_left
                 ·rintro w' ⟨s0, s1, s2, s3, s4⟩
                  go_simp
                  with_reducible rfl
                 rotate_left
                 ·simp only [Act.put, List.setIfInBounds_toArray, List.set_cons_zero, List.set_cons_succ, yg, qg]
                  rfl
                 refine yo (i := 6) (N := some 47) (v := ?_) (a' := ?_) #[true, true, true, true, true, true, true, true, true, true, true, false, false, true, true, true, true, false, false, true, false, false, false, false, false] rfl rfl (qj HT_.out (by kernel_rfl)) (fun _ _ _ h => h) (Or.inl ⟨by rfl, ?_⟩) ?_ ?_
                 rotate_left
                 ·intro w'
                  go_simp
                  with_reducible rfl
                 rotate_left
                 ·simp only [Act.put, List.setIfInBounds_toArray, List.set_cons_zero, List.set_cons_succ, yg, qg]
                  rfl
                 refine y04 (i := 11) (N := some 52) (v := ?_) (a' := ?_) #[true, true, true, true, true, true, true, true, true, true, true, true, false, true, true, true, true, false, false, true, false, false, false, false, false] rfl rfl (zv HT_.out HW_.out (by kernel_rfl)) (fun _ _ _ h => h) (Or.inl ⟨by rfl, ?_⟩) hHeld ?_ ?_
                 rotate_left
                 ·rintro w' ⟨s0, s1, s2, s3, s4⟩
                  go_simp
                  with_reducible rfl
                 rotate_left
                 ·simp only [Act.put, List.setIfInBounds_toArray, List.set_cons_zero, List.set_cons_succ, yg, qg]
                  rfl
                 refine yo (i := 12) (N := some 53) (v := ?_) (a' := ?_) #[true, true, true, true, true, true, true, true, true, true, true, true, true, true, true, true, true, false, false, true, false, false, false, false, false] rfl rfl (qj HT_.out (by kernel_rfl)) (fun _ _ _ h => h) (Or.inl ⟨by rfl, ?_⟩) ?_ ?_
                 rotate_left
                 ·intro w'
                  go_simp
                  with_reducible rfl
                 rotate_left
                 ·simp only [Act.put, List.setIfInBounds_toArray, List.set_cons_zero, List.set_cons_succ, yg, qg]
                  rfl
                 refine y04 (i := 17) (N := some 58) (v := ?_) (a' := ?_) #[true, true, true, true, true, true, true, true, true, true, true, true, true, true, true, true, true, true, false, true, false, false, false, false, false] rfl rfl (zv HT_.out HW_.out (by kernel_rfl)) (fun _ _ _ h => h) (Or.inl ⟨by rfl, ?_⟩) hHeld ?_ ?_
                 rotate_left
                 ·rintro w' ⟨s0, s1, s2, s3, s4⟩
                  go_simp
                  with_reducible rfl
                 rotate_left
                 ·simp only [Act.put, List.setIfInBounds_toArray, List.set_cons_zero, List.set_cons_succ, yg, qg]
                  rfl
                 refine yo (i := 18) (N := some 59) (v := ?_) (a' := ?_) #[true, true, true, true, true, true, true, true, true, true, true, true, true, true, true, true, true, true, true, true, false, false, false, false, false] rfl rfl (qj HT_.out (by kernel_rfl)) (fun _ _ _ h => h) (Or.inl ⟨by rfl, ?_⟩) ?_ ?_
                 rotate_left
                 ·intro w'
                  go_simp
                  with_reducible rfl
                 rotate_left
                 ·simp only [Act.put, List.setIfInBounds_toArray, List.set_cons_zero, List.set_cons_succ, yg, qg]
                  rfl
                 refine yo (i := 20) (N := some 61) (v := ?_) (a' := ?_) #[true, true, true, true, true, true, true, true, true, true, true, true, true, true, true, true, true, true, true, true, true, false, false, false, false] rfl rfl (qj HT_.out (by kernel_rfl)) (fun _ _ _ h => h) (Or.inl ⟨by rfl, ?_⟩) ?_ ?_
                 rotate_left
                 ·intro w'
                  go_simp
                  with_reducible rfl
                 rotate_left
                 ·simp only [Act.put, List.setIfInBounds_toArray, List.set_cons_zero, List.set_cons_succ, yg, qg]
                  rfl
                 refine q0j (i := 21) (N := some 62) #[true, true, true, true, true, true, true, true, true, true, true, true, true, true, true, true, true, true, true, true, true, true, false, false, false] rfl rfl (qz HT_.out (by kernel_rfl)) (by decide) (fun K hK => ?_)
                 refine z2d (w1 := ?_) (v := ?_) (by rfl) rfl ?_ ?_
                 rotate_left 2
                 ·go_simp
                  constructor
                  ·rfl
                  ·rfl
                 refine hK.out _ _ ⟨(z6 (y4 BK429.out _) 0).trans rfl, (z6 (y4 BK429.out _) 1).trans rfl, (World.cell?_alloc_lt _ _ _ (World.block_lt_of_cell? _ _ (((HB.out.cell (World.block_lt_of_cell? w _ hw433_0)).trans hw433_0)))).trans (((HB.out.cell (World.block_lt_of_cell? w _ hw433_0)).trans hw433_0)), (World.cell?_alloc_lt _ _ _ (World.block_lt_of_cell? _ _ (((HB.out.cell (World.block_lt_of_cell? w _ hw434_0)).trans hw434_0)))).trans (((HB.out.cell (World.block_lt_of_cell? w _ hw434_0)).trans hw434_0)), (World.cell?_alloc_lt _ _ _ (World.block_lt_of_cell? _ _ (((HB.out.cell (World.block_lt_of_cell? w _ hw435_0)).trans hw435_0)))).trans (((HB.out.cell (World.block_lt_of_cell? w _ hw435_0)).trans hw435_0))⟩ (fun hHeld => ?_)
                 clear hK K
                 refine zx (a' := ?_) ?_ ?_
                 rotate_left
                 ·show Act.put _ (some 62) _ = _
                  simp only [Act.put, List.setIfInBounds_toArray, List.set_cons_zero, List.set_cons_succ, yg, qg]
                  rfl
                 refine q0j (i := 22) (N := some 63) #[true, true, true, true, true, true, true, true, true, true, true, true, true, true, true, true, true, true, true, true, true, true, true, false, false] rfl rfl (qz HT_.out (by kernel_rfl)) (by decide) (fun K hK => ?_)
                 refine Kd.y0p y08 (w0 := w) w.heap.size (by rfl) (.tmp 42) (.tmp 62) 29 138 (.agg #[(.int .i64 0), (.int .i64 0), (.int .i64 0), (.int .i64 0)]) 32 rfl Try.underlying29 q20 rfl (by decide) (by omega) u430001 x430001_2 (⟨wrap64 (rd l0 x4_2), wrap64 (rd l0 (ji22)), wrap64 (rd l0 (ji25)), t432⟩ : yl) [.int .i64 (wrap64 (rd l0 x4_2)), .int .i64 (wrap64 (rd l0 (ji22))), .int .i64 (wrap64 (rd l0 (ji25))), .int .i64 t432] (fun _ => True) (fun _ => False) rfl rfl ?aP (fun _ hk => hk.elim) ?aF ?aO ?aB ?aS ?aL ?_
                 (case aP => exact q0m _ _ _ (⟨wrap64 (rd l0 x4_2), wrap64 (rd l0 (ji22)), wrap64 (rd l0 (ji25)), t432⟩ : yl))
                 (case aB => exact (by repeat (first | (with_reducible first | exact HB.out | apply z4 | apply z1 | apply z3 | refine z7 ?_ GE425.out | refine z7 ?_ GE429.out) | exact HB.out)))
                 (case aF => exact (fun _ _ => trivial))
                 (case aO => exact (by (with_reducible repeat (first | apply Kd.R_alloc | apply Kd.y9 | apply Kd.zb)); exact HO_430001.out))
                 (case aS => exact (z8 (by repeat (first | (with_reducible first | exact HB.out | apply z4 | apply z1 | apply z3 | refine z7 ?_ GE425.out | refine z7 ?_ GE429.out) | exact HB.out))))
                 (case aL => have := LMc28.out; omega)
                 intro v437 w32 ho hb hg hat
                 rw [← Ny436.out] at ho
                 have n0_ := z2.mk (yy (g := gb425) (o := .cells #[.int .i64 0, .int .i64 0, .slice none 0 0] 153 (0, 0)) (by (with_reducible repeat (first | refine z5 ?_ _ | refine y6 ?_ | refine y4 ?_ _)); exact BK425.out) hg (Kd.y0k HO_430001.out BK425.out (by decide)))
                 have n1_ := z2.mk (yy (g := gb429) (o := .cells #[.int .i64 t428, u430001] 31 (0, 0)) (by (with_reducible repeat (first | refine z5 ?_ _ | refine y6 ?_ | refine y4 ?_ _)); exact BK429.out) hg (Kd.y0k HO_430001.out BK429.out (by decide)))
                 have n2_ := z2.mk (hb)
                 have n3_ := z2.mk (ho)
                 clear BK425
                 clear BK429
                 clear HB
                 clear HO_430001
                 have BK425 := n0_
                 have BK429 := n1_
                 have HB := n2_
                 have HO438 := n3_
                 clear n0_ n1_ n2_ n3_
                 clear ho hb hg hat
                 obtain ⟨Ao33, co33, eo33⟩ := Kd.zt HO438.out
                 (first | subst eo33 | (injection eo33 with f1_ f2_ f3_; have f4_ := f1_.symm; have f5_ := f3_.symm; clear f1_ f2_ f3_; subst f4_; subst f5_))
                 refine hK.out _ _ ⟨(z6 BK429.out 0).trans rfl, (z6 BK429.out 1).trans rfl, ((HB.out.cell (World.block_lt_of_cell? w _ hw433_0)).trans hw433_0), ((HB.out.cell (World.block_lt_of_cell? w _ hw434_0)).trans hw434_0), ((HB.out.cell (World.block_lt_of_cell? w _ hw435_0)).trans hw435_0)⟩ (fun hHeld => ?_)
                 clear hK K
                 refine zx (a' := ?_) ?_ ?_
                 rotate_left
                 ·show Act.put _ (some 63) _ = _
                  simp only [Act.put, List.setIfInBounds_toArray, List.set_cons_zero, List.set_cons_succ, yg, qg]
                  rfl
                 refine yo (i := 23) (N := some 64) (v := ?_) (a' := ?_) #[true, true, true, true, true, true, true, true, true, true, true, true, true, true, true, true, true, true, true, true, true, true, true, true, false] rfl rfl (qj HT_.out (by kernel_rfl)) (fun _ _ _ h => h) (Or.inl ⟨by rfl, ?_⟩) ?_ ?_
                 rotate_left
                 ·intro w'
                  go_simp
                  with_reducible rfl
                 rotate_left
                 ·simp only [Act.put, List.setIfInBounds_toArray, List.set_cons_zero, List.set_cons_succ, yg, qg]
                  rfl
                 refine y2f (i := 24) (N := none) #[true, true, true, true, true, true, true, true, true, true, true, true, true, true, true, true, true, true, true, true, true, true, true, true, true] rfl rfl (qz HT_.out (by kernel_rfl)) (by decide) (fun K hK => ?_)
                 have hs34 : w32.cell? ⟨gb429, 1, none⟩ = some (u430001) := (z6 BK429.out 1).trans rfl
                 have hfs34 := y5 BK429.out 1
                 have hns34_0 := NB425_429.out
                 have hms34_0 := NB429_425.out
                 refine q0v (w1 := ?_) (by rfl) rfl ?_ ?_
                 rotate_left
                 ·go_simp
                  rfl
                 refine hK.out _ _ ?_
                 clear hK K
                 refine y0n (q0b HT_.out (by kernel_rfl)) ?_
                 try go_wp2
                 go_roundg k2
                 case measure => have := HJ1.out; have := HK2.out; omega
                 case rel => exact ⟨(wrap64 (x4_2 + 11)), (y436), (.slice Ao33 y436.length co33), (by first | rfl | (simp; done) | (simp [*]; done)), H', ⟨by have := HJ1.out; have := HK2.out; omega⟩, ⟨by (with_reducible repeat (first | apply Kd.R_alloc | apply Kd.y9 | apply Kd.zb)); exact Kd.yk (Kd.zf (p := ⟨gb429, 1, none⟩) (Kd.qp HO438.out BK429.out (by decide)) (fun _ hk => hk.2) (.slice Ao33 y436.length co33)) (fun _ hk => trivial)⟩, ⟨by (with_reducible repeat (first | refine z5 ?_ _ | refine y6 ?_ | refine y4 ?_ _)); refine zd ?_ NB425_429.out _; (with_reducible repeat (first | refine z5 ?_ _ | refine y6 ?_ | refine y4 ?_ _)); exact BK425.out⟩, ⟨by (with_reducible repeat (first | refine z5 ?_ _ | refine y6 ?_ | refine y4 ?_ _)); refine qc (cs := #[.int .i64 t428, u430001]) ?_ 1 _ rfl; (with_reducible repeat (first | refine z5 ?_ _ | refine y6 ?_ | refine y4 ?_ _)); exact BK429.out⟩, ⟨by repeat (first | (with_reducible first | exact HB.out | apply z4 | apply z1 | apply z3 | refine z7 ?_ GE425.out | refine z7 ?_ GE429.out) | exact HB.out)⟩⟩
                ·rw [if_neg c28] at H
                 exact absurd H (by simp)
               ·rw [if_neg c27] at H
                exact absurd H (by simp)
              ·rw [if_neg c26] at H
               exact absurd H (by simp)
             ·rw [if_neg c24] at H
              exact absurd H (by simp)
            ·rw [if_neg c23] at H
             exact absurd H (by simp)
           ·rw [if_neg c21] at H
            exact absurd H (by simp)
          ·rw [if_neg c19] at H
           exact absurd H (by simp)
         ·rw [if_neg c18] at H
          exact absurd H (by simp)
        ·rw [if_neg c17] at H
         exact absurd H (by simp)
       ·rw [if_neg c15] at H
        have c15b0 : decide (x4_2 < (l0.length : Int)) = false := decide_eq_false c15
        clear c15
        replace H := Option.bind_eq_some_iff.mp H
        obtain ⟨t439, A350, H⟩ := H
        replace H : (if t439 = 0 then ((zh.f k2 t428 x430001_2).bind fun t440 => ((zo.f t440 l0).bind fun t443 => (if t443 = true then (some (0, t428, x430001_2)) else (some (5, 0, ([] : List (yl))))))) else (some (5, 0, ([] : List (yl))))) = some (r1, r2, r3) := H
        have A35 := z2.mk A350
        clear A350
        by_cases c36 : t439 = 0
        ·rw [if_pos c36] at H
         have c36b0 : (t439 == 0) = true := beq_iff_eq.mpr c36
         have c36b1 : (t439 != 0) = false := bne_eq_false_iff_eq.mpr c36
         clear c36
         replace H := Option.bind_eq_some_iff.mp H
         obtain ⟨t440, A370, H⟩ := H
         replace H : ((zo.f t440 l0).bind fun t443 => (if t443 = true then (some (0, t428, x430001_2)) else (some (5, 0, ([] : List (yl)))))) = some (r1, r2, r3) := H
         have A37 := z2.mk A370
         clear A370
         replace H := Option.bind_eq_some_iff.mp H
         obtain ⟨t443, A380, H⟩ := H
         replace H : (if t443 = true then (some (0, t428, x430001_2)) else (some (5, 0, ([] : List (yl))))) = some (r1, r2, r3) := H
         have A38 := z2.mk A380
         clear A380
         by_cases c39 : t443 = true
         ·subst c39
          have H1 : (some (0, t428, x430001_2)) = some (r1, r2, r3) := by rw [if_pos rfl] at H; exact H
          clear H
          have H := H1
          clear H1
          simp only [Option.some.injEq, Prod.mk.injEq] at H
          obtain ⟨rfl, rfl, rfl⟩ := H
          have hnb40 := NB429_425.out
          have hnc40 := NB425_429.out
          have hcz41_0 : wr.cell? ⟨gb429, 0, none⟩ = some (.int .i64 t428) := (z6 BK429.out 0).trans rfl
          have hcz41_1 : wr.cell? ⟨gb429, 1, none⟩ = some (u430001) := (z6 BK429.out 1).trans rfl
          have hfz41_0 := y5 BK429.out 0
          have hfz41_1 := y5 BK429.out 1
          obtain ⟨Ao42, co42, eo42⟩ := Kd.zt HO_430001.out
          subst eo42
          go_wp2_with (first | ((with_reducible refine qb (f := 50) rfl ?_); refine zm (some 66) rfl rfl Try.func50 (by kernel_rfl) rfl #[.agg #[.int .i64 t428, .slice Ao42 x430001_2.length co42]] rfl (by (try simp only [List.map_toArray, List.map_cons, List.map_nil]); first | done | rfl | (simp only [List.length_drop, List.length_take]; rfl)) ?_; (with_reducible refine (zr.calls t428 _ _ x430001_2 t439 _ ?side1 ?side2 A35.out).mono ?_); (case side1 => repeat (first | exact (Kd.qd HO_430001.out).2.2 | (with_reducible refine Kd.yi ?_ _) | (with_reducible refine Kd.qi ?_ _) | (with_reducible refine Kd.C_drew ?_))); (case side2 => exact (Kd.qd HO_430001.out).2.1); rintro e w43 ⟨rfl, hb⟩; refine ⟨_, rfl, ?_⟩; have n0_ := z2.mk (Kd.qf (by (with_reducible repeat (first | apply Kd.R_alloc | apply Kd.y9 | apply Kd.zb)); exact HO_430001.out) hb); have n1_ := z2.mk (z9 (g := gb425) (o := .cells #[.int .i64 0, .int .i64 0, .slice none 0 0] 153 (0, 0)) (by (with_reducible repeat (first | refine z5 ?_ _ | refine y6 ?_ | refine y4 ?_ _)); exact BK425.out) hb); have n2_ := z2.mk (z9 (g := gb429) (o := .cells #[.int .i64 t428, .slice Ao42 x430001_2.length co42] 31 (0, 0)) (by (with_reducible repeat (first | refine z5 ?_ _ | refine y6 ?_ | refine y4 ?_ _)); exact BK429.out) hb); have n3_ := z2.mk (y8 (by repeat (first | (with_reducible first | exact HB.out | apply z4 | apply z1 | apply z3 | refine z7 ?_ GE425.out | refine z7 ?_ GE429.out) | exact HB.out)) hb); clear HO_430001 BK425 BK429 HB; have HO_430001 := n0_; have BK425 := n1_; have BK429 := n2_; have HB := n3_; clear n0_ n1_ n2_ n3_; (try clear hb); (try clear hb2); (try clear hk); (try clear hi); have hcz44_0 : w43.cell? ⟨gb429, 0, none⟩ = some (.int .i64 t428) := (z6 BK429.out 0).trans rfl; have hcz44_1 : w43.cell? ⟨gb429, 1, none⟩ = some (.slice Ao42 x430001_2.length co42) := (z6 BK429.out 1).trans rfl; have hfz44_0 := y5 BK429.out 0; have hfz44_1 := y5 BK429.out 1) | (go_at_call 104; (with_reducible refine (zh.calls k2 t428 _ _ x430001_2 t440 _ ?side1 ?side2 A37.out).mono ?_); (case side1 => repeat (first | exact (Kd.qd HO_430001.out).2.2 | (with_reducible refine Kd.yi ?_ _) | (with_reducible refine Kd.qi ?_ _) | (with_reducible refine Kd.C_drew ?_))); (case side2 => exact (Kd.qd HO_430001.out).2.1); rintro e w45 ⟨v441, rfl, ho0, hb⟩; have n0_ := z2.mk (Kd.qf (by (with_reducible repeat (first | apply Kd.R_alloc | apply Kd.y9 | apply Kd.zb)); exact HO_430001.out) hb); have n1_ := z2.mk (Kd.yr ho0 (z8 (by repeat (first | (with_reducible first | exact HB.out | apply z4 | apply z1 | apply z3 | refine z7 ?_ GE425.out | refine z7 ?_ GE429.out) | exact HB.out)))); have n2_ := z2.mk (z9 (g := gb425) (o := .cells #[.int .i64 0, .int .i64 0, .slice none 0 0] 153 (0, 0)) (by (with_reducible repeat (first | refine z5 ?_ _ | refine y6 ?_ | refine y4 ?_ _)); exact BK425.out) hb); have n3_ := z2.mk (z9 (g := gb429) (o := .cells #[.int .i64 t428, .slice Ao42 x430001_2.length co42] 31 (0, 0)) (by (with_reducible repeat (first | refine z5 ?_ _ | refine y6 ?_ | refine y4 ?_ _)); exact BK429.out) hb); have n4_ := z2.mk (y8 (by repeat (first | (with_reducible first | exact HB.out | apply z4 | apply z1 | apply z3 | refine z7 ?_ GE425.out | refine z7 ?_ GE429.out) | exact HB.out)) hb); clear HO_430001 BK425 BK429 HB; have HO_430001 := n0_; have HO442 := n1_; have BK425 := n2_; have BK429 := n3_; have HB := n4_; clear n0_ n1_ n2_ n3_ n4_; (try clear hb); (try clear hb2); (try clear hk); (try clear hi); (try clear ho0); obtain ⟨Ao46, co46, eo46⟩ := Kd.zt HO442.out; subst eo46) | (go_at_call 111; (with_reducible refine (zo.calls _ _ t440 _ _ l0 true _ ?side1 ?side2 ?side3 ?side4 A38.out).mono ?_); (case side1 => repeat (first | exact (Kd.qd HO442.out).2.2 | (with_reducible refine Kd.yi ?_ _) | (with_reducible refine Kd.qi ?_ _) | (with_reducible refine Kd.C_drew ?_))); (case side2 => exact (Kd.qd HO442.out).2.1); (case side3 => repeat (first | exact (Kd.yp HR0.out HB.out) | (with_reducible refine Kd.yi ?_ _) | (with_reducible refine Kd.qi ?_ _) | (with_reducible refine Kd.C_drew ?_))); (case side4 => exact HC0.out); rintro e w' ⟨rfl, ⟨nd, rfl⟩⟩; (try (rw [z0m w45]; generalize hq_ : World.drewN w45 _ = w45; have n0_ : z2 (Kd.R (Kd.int .u8) 5 w45 w.heap.size (fun _ => True) (.slice Ao46 t440.length co46) t440) := ⟨by rw [← hq_]; exact (by (with_reducible repeat (first | apply Kd.R_alloc | apply Kd.y9 | apply Kd.zb)); exact HO442.out)⟩; have n1_ : z2 (Kd.R y08 138 w45 w.heap.size (fun _ => True) (.slice Ao42 x430001_2.length co42) x430001_2) := ⟨by rw [← hq_]; exact (by (with_reducible repeat (first | apply Kd.R_alloc | apply Kd.y9 | apply Kd.zb)); exact HO_430001.out)⟩; have n2_ : z2 (w45.heap[gb425]? = some (.cells #[.int .i64 0, .int .i64 0, .slice none 0 0] 153 (0, 0))) := ⟨by rw [← hq_]; exact (by (with_reducible repeat (first | refine z5 ?_ _ | refine y6 ?_ | refine y4 ?_ _)); exact BK425.out)⟩; have n3_ : z2 (w45.heap[gb429]? = some (.cells #[.int .i64 t428, .slice Ao42 x430001_2.length co42] 31 (0, 0))) := ⟨by rw [← hq_]; exact (by (with_reducible repeat (first | refine z5 ?_ _ | refine y6 ?_ | refine y4 ?_ _)); exact BK429.out)⟩; have n4_ : z2 (Below w.heap.size w w45) := ⟨by rw [← hq_]; exact (by repeat (first | (with_reducible first | exact HB.out | apply z4 | apply z1 | apply z3 | refine z7 ?_ GE425.out | refine z7 ?_ GE429.out) | exact HB.out))⟩; clear HO442 HO_430001 BK425 BK429 HB hq_; have HO442 := n0_; have HO_430001 := n1_; have BK425 := n2_; have BK429 := n3_; have HB := n4_; clear n0_ n1_ n2_ n3_ n4_)); have hcz47_0 : w45.cell? ⟨gb429, 0, none⟩ = some (.int .i64 t428) := (z6 BK429.out 0).trans rfl; have hcz47_1 : w45.cell? ⟨gb429, 1, none⟩ = some (.slice Ao42 x430001_2.length co42) := (z6 BK429.out 1).trans rfl; have hfz47_0 := y5 BK429.out 0; have hfz47_1 := y5 BK429.out 1; have hcz48_0 : w45.cell? ⟨gb425, 0, none⟩ = some (.int .i64 0) := (z6 BK425.out 0).trans rfl; have hcz48_1 : w45.cell? ⟨gb425, 1, none⟩ = some (.int .i64 0) := (z6 BK425.out 1).trans rfl; have hcz48_2 : w45.cell? ⟨gb425, 2, none⟩ = some (.slice none 0 0) := (z6 BK425.out 2).trans rfl; have hfz48_0 := y5 BK425.out 0; have hfz48_1 := y5 BK425.out 1; have hfz48_2 := y5 BK425.out 2))
          refine bodyPost_ret (results_cell_row rfl _ _ gb425 153 #[.int .i64 0, .int .i64 t428, .slice Ao42 x430001_2.length co42] (0, 0) _ rfl (by (with_reducible repeat (first | refine z5 ?_ _ | refine y6 ?_ | refine y4 ?_ _)); refine qc (cs := #[.int .i64 0, .int .i64 t428, .slice none 0 0]) ?_ 2 _ rfl; (with_reducible repeat (first | refine z5 ?_ _ | refine y6 ?_ | refine y4 ?_ _)); refine qc (cs := #[.int .i64 0, .int .i64 0, .slice none 0 0]) ?_ 1 _ rfl; (with_reducible repeat (first | refine z5 ?_ _ | refine y6 ?_ | refine y4 ?_ _)); refine qc (cs := #[.int .i64 0, .int .i64 0, .slice none 0 0]) ?_ 0 _ rfl; (with_reducible repeat (first | refine z5 ?_ _ | refine y6 ?_ | refine y4 ?_ _)); exact BK425.out) Try.underlying153 rfl (by kernel_rfl)) rfl ?_
          exact ⟨_, by first | rfl | (simp [ya, qa] <;> rfl) | (simp [*, ya, qa] <;> rfl), by (with_reducible repeat (first | apply Kd.R_alloc | apply Kd.y9 | apply Kd.zb)); exact Kd.yk (Kd.zf (p := ⟨gb425, 2, none⟩) (Kd.zf (p := ⟨gb425, 1, none⟩) (Kd.zf (p := ⟨gb425, 0, none⟩) (Kd.qp HO_430001.out BK425.out (by decide)) (fun _ hk => hk.2) (.int .i64 0)) (fun _ hk => hk.2) (.int .i64 t428)) (fun _ hk => hk.2) (.slice Ao42 x430001_2.length co42)) (fun _ hk => trivial), by repeat (first | (with_reducible first | exact HB.out | apply z4 | apply z1 | apply z3 | refine z7 ?_ GE425.out | refine z7 ?_ GE429.out) | exact HB.out)⟩
         ·replace c39 := Bool.eq_false_iff.mpr c39
          subst c39
          have H1 : (some (5, 0, ([] : List (yl)))) = some (r1, r2, r3) := by rw [if_neg (show ¬ (false = true) by decide)] at H; exact H
          clear H
          have H := H1
          clear H1
          simp only [Option.some.injEq, Prod.mk.injEq] at H
          obtain ⟨rfl, rfl, rfl⟩ := H
          have hnb49 := NB429_425.out
          have hnc49 := NB425_429.out
          have hcz50_0 : wr.cell? ⟨gb429, 0, none⟩ = some (.int .i64 t428) := (z6 BK429.out 0).trans rfl
          have hcz50_1 : wr.cell? ⟨gb429, 1, none⟩ = some (u430001) := (z6 BK429.out 1).trans rfl
          have hfz50_0 := y5 BK429.out 0
          have hfz50_1 := y5 BK429.out 1
          obtain ⟨Ao51, co51, eo51⟩ := Kd.zt HO_430001.out
          subst eo51
          go_wp2_with (first | ((with_reducible refine qb (f := 50) rfl ?_); refine zm (some 66) rfl rfl Try.func50 (by kernel_rfl) rfl #[.agg #[.int .i64 t428, .slice Ao51 x430001_2.length co51]] rfl (by (try simp only [List.map_toArray, List.map_cons, List.map_nil]); first | done | rfl | (simp only [List.length_drop, List.length_take]; rfl)) ?_; (with_reducible refine (zr.calls t428 _ _ x430001_2 t439 _ ?side1 ?side2 A35.out).mono ?_); (case side1 => repeat (first | exact (Kd.qd HO_430001.out).2.2 | (with_reducible refine Kd.yi ?_ _) | (with_reducible refine Kd.qi ?_ _) | (with_reducible refine Kd.C_drew ?_))); (case side2 => exact (Kd.qd HO_430001.out).2.1); rintro e w52 ⟨rfl, hb⟩; refine ⟨_, rfl, ?_⟩; have n0_ := z2.mk (Kd.qf (by (with_reducible repeat (first | apply Kd.R_alloc | apply Kd.y9 | apply Kd.zb)); exact HO_430001.out) hb); have n1_ := z2.mk (z9 (g := gb425) (o := .cells #[.int .i64 0, .int .i64 0, .slice none 0 0] 153 (0, 0)) (by (with_reducible repeat (first | refine z5 ?_ _ | refine y6 ?_ | refine y4 ?_ _)); exact BK425.out) hb); have n2_ := z2.mk (z9 (g := gb429) (o := .cells #[.int .i64 t428, .slice Ao51 x430001_2.length co51] 31 (0, 0)) (by (with_reducible repeat (first | refine z5 ?_ _ | refine y6 ?_ | refine y4 ?_ _)); exact BK429.out) hb); have n3_ := z2.mk (y8 (by repeat (first | (with_reducible first | exact HB.out | apply z4 | apply z1 | apply z3 | refine z7 ?_ GE425.out | refine z7 ?_ GE429.out) | exact HB.out)) hb); clear HO_430001 BK425 BK429 HB; have HO_430001 := n0_; have BK425 := n1_; have BK429 := n2_; have HB := n3_; clear n0_ n1_ n2_ n3_; (try clear hb); (try clear hb2); (try clear hk); (try clear hi); have hcz53_0 : w52.cell? ⟨gb429, 0, none⟩ = some (.int .i64 t428) := (z6 BK429.out 0).trans rfl; have hcz53_1 : w52.cell? ⟨gb429, 1, none⟩ = some (.slice Ao51 x430001_2.length co51) := (z6 BK429.out 1).trans rfl; have hfz53_0 := y5 BK429.out 0; have hfz53_1 := y5 BK429.out 1) | (go_at_call 104; (with_reducible refine (zh.calls k2 t428 _ _ x430001_2 t440 _ ?side1 ?side2 A37.out).mono ?_); (case side1 => repeat (first | exact (Kd.qd HO_430001.out).2.2 | (with_reducible refine Kd.yi ?_ _) | (with_reducible refine Kd.qi ?_ _) | (with_reducible refine Kd.C_drew ?_))); (case side2 => exact (Kd.qd HO_430001.out).2.1); rintro e w54 ⟨v441, rfl, ho0, hb⟩; have n0_ := z2.mk (Kd.qf (by (with_reducible repeat (first | apply Kd.R_alloc | apply Kd.y9 | apply Kd.zb)); exact HO_430001.out) hb); have n1_ := z2.mk (Kd.yr ho0 (z8 (by repeat (first | (with_reducible first | exact HB.out | apply z4 | apply z1 | apply z3 | refine z7 ?_ GE425.out | refine z7 ?_ GE429.out) | exact HB.out)))); have n2_ := z2.mk (z9 (g := gb425) (o := .cells #[.int .i64 0, .int .i64 0, .slice none 0 0] 153 (0, 0)) (by (with_reducible repeat (first | refine z5 ?_ _ | refine y6 ?_ | refine y4 ?_ _)); exact BK425.out) hb); have n3_ := z2.mk (z9 (g := gb429) (o := .cells #[.int .i64 t428, .slice Ao51 x430001_2.length co51] 31 (0, 0)) (by (with_reducible repeat (first | refine z5 ?_ _ | refine y6 ?_ | refine y4 ?_ _)); exact BK429.out) hb); have n4_ := z2.mk (y8 (by repeat (first | (with_reducible first | exact HB.out | apply z4 | apply z1 | apply z3 | refine z7 ?_ GE425.out | refine z7 ?_ GE429.out) | exact HB.out)) hb); clear HO_430001 BK425 BK429 HB; have HO_430001 := n0_; have HO442 := n1_; have BK425 := n2_; have BK429 := n3_; have HB := n4_; clear n0_ n1_ n2_ n3_ n4_; (try clear hb); (try clear hb2); (try clear hk); (try clear hi); (try clear ho0); obtain ⟨Ao55, co55, eo55⟩ := Kd.zt HO442.out; subst eo55) | (go_at_call 111; (with_reducible refine (zo.calls _ _ t440 _ _ l0 false _ ?side1 ?side2 ?side3 ?side4 A38.out).mono ?_); (case side1 => repeat (first | exact (Kd.qd HO442.out).2.2 | (with_reducible refine Kd.yi ?_ _) | (with_reducible refine Kd.qi ?_ _) | (with_reducible refine Kd.C_drew ?_))); (case side2 => exact (Kd.qd HO442.out).2.1); (case side3 => repeat (first | exact (Kd.yp HR0.out HB.out) | (with_reducible refine Kd.yi ?_ _) | (with_reducible refine Kd.qi ?_ _) | (with_reducible refine Kd.C_drew ?_))); (case side4 => exact HC0.out); rintro e w' ⟨rfl, ⟨nd, rfl⟩⟩; (try (rw [z0m w54]; generalize hq_ : World.drewN w54 _ = w54; have n0_ : z2 (Kd.R (Kd.int .u8) 5 w54 w.heap.size (fun _ => True) (.slice Ao55 t440.length co55) t440) := ⟨by rw [← hq_]; exact (by (with_reducible repeat (first | apply Kd.R_alloc | apply Kd.y9 | apply Kd.zb)); exact HO442.out)⟩; have n1_ : z2 (Kd.R y08 138 w54 w.heap.size (fun _ => True) (.slice Ao51 x430001_2.length co51) x430001_2) := ⟨by rw [← hq_]; exact (by (with_reducible repeat (first | apply Kd.R_alloc | apply Kd.y9 | apply Kd.zb)); exact HO_430001.out)⟩; have n2_ : z2 (w54.heap[gb425]? = some (.cells #[.int .i64 0, .int .i64 0, .slice none 0 0] 153 (0, 0))) := ⟨by rw [← hq_]; exact (by (with_reducible repeat (first | refine z5 ?_ _ | refine y6 ?_ | refine y4 ?_ _)); exact BK425.out)⟩; have n3_ : z2 (w54.heap[gb429]? = some (.cells #[.int .i64 t428, .slice Ao51 x430001_2.length co51] 31 (0, 0))) := ⟨by rw [← hq_]; exact (by (with_reducible repeat (first | refine z5 ?_ _ | refine y6 ?_ | refine y4 ?_ _)); exact BK429.out)⟩; have n4_ : z2 (Below w.heap.size w w54) := ⟨by rw [← hq_]; exact (by repeat (first | (with_reducible first | exact HB.out | apply z4 | apply z1 | apply z3 | refine z7 ?_ GE425.out | refine z7 ?_ GE429.out) | exact HB.out))⟩; clear HO442 HO_430001 BK425 BK429 HB hq_; have HO442 := n0_; have HO_430001 := n1_; have BK425 := n2_; have BK429 := n3_; have HB := n4_; clear n0_ n1_ n2_ n3_ n4_)); have hcz56_0 : w54.cell? ⟨gb425, 0, none⟩ = some (.int .i64 0) := (z6 BK425.out 0).trans rfl; have hcz56_1 : w54.cell? ⟨gb425, 1, none⟩ = some (.int .i64 0) := (z6 BK425.out 1).trans rfl; have hcz56_2 : w54.cell? ⟨gb425, 2, none⟩ = some (.slice none 0 0) := (z6 BK425.out 2).trans rfl; have hfz56_0 := y5 BK425.out 0; have hfz56_1 := y5 BK425.out 1; have hfz56_2 := y5 BK425.out 2))
          refine bodyPost_ret (results_cell_row rfl _ _ gb425 153 #[.int .i64 5, .int .i64 0, .slice none 0 0] (0, 0) _ rfl (by (with_reducible repeat (first | refine z5 ?_ _ | refine y6 ?_ | refine y4 ?_ _)); refine qc (cs := #[.int .i64 5, .int .i64 0, .slice none 0 0]) ?_ 2 _ rfl; (with_reducible repeat (first | refine z5 ?_ _ | refine y6 ?_ | refine y4 ?_ _)); refine qc (cs := #[.int .i64 5, .int .i64 0, .slice none 0 0]) ?_ 1 _ rfl; (with_reducible repeat (first | refine z5 ?_ _ | refine y6 ?_ | refine y4 ?_ _)); refine qc (cs := #[.int .i64 0, .int .i64 0, .slice none 0 0]) ?_ 0 _ rfl; (with_reducible repeat (first | refine z5 ?_ _ | refine y6 ?_ | refine y4 ?_ _)); exact BK425.out) Try.underlying153 rfl (by kernel_rfl)) rfl ?_
          exact ⟨_, by first | rfl | (simp [ya, qa] <;> rfl) | (simp [*, ya, qa] <;> rfl), by first | exact Kd.z0n _ _ _ _ _ | exact Kd.N_nil _ _ _ _ _ | exact Kd.V_nil _ _ _ _ _ | exact Kd.Q_nil _ _ _ _ _ | exact Kd.S_nil _ _ _ _ _, by repeat (first | (with_reducible first | exact HB.out | apply z4 | apply z1 | apply z3 | refine z7 ?_ GE425.out | refine z7 ?_ GE429.out) | exact HB.out)⟩
        ·rw [if_neg c36] at H
         have c36b0 : (t439 == 0) = false := beq_eq_false_iff_ne.mpr c36
         have c36b1 : (t439 != 0) = true := bne_iff_ne.mpr c36
         simp only [Option.some.injEq, Prod.mk.injEq] at H
         obtain ⟨rfl, rfl, rfl⟩ := H
         have hnb57 := NB429_425.out
         have hnc57 := NB425_429.out
         have hcz58_0 : wr.cell? ⟨gb429, 0, none⟩ = some (.int .i64 t428) := (z6 BK429.out 0).trans rfl
         have hcz58_1 : wr.cell? ⟨gb429, 1, none⟩ = some (u430001) := (z6 BK429.out 1).trans rfl
         have hfz58_0 := y5 BK429.out 0
         have hfz58_1 := y5 BK429.out 1
         obtain ⟨Ao59, co59, eo59⟩ := Kd.zt HO_430001.out
         subst eo59
         go_wp2_with (first | ((with_reducible refine qb (f := 50) rfl ?_); refine zm (some 66) rfl rfl Try.func50 (by kernel_rfl) rfl #[.agg #[.int .i64 t428, .slice Ao59 x430001_2.length co59]] rfl (by (try simp only [List.map_toArray, List.map_cons, List.map_nil]); first | done | rfl | (simp only [List.length_drop, List.length_take]; rfl)) ?_; (with_reducible refine (zr.calls t428 _ _ x430001_2 t439 _ ?side1 ?side2 A35.out).mono ?_); (case side1 => repeat (first | exact (Kd.qd HO_430001.out).2.2 | (with_reducible refine Kd.yi ?_ _) | (with_reducible refine Kd.qi ?_ _) | (with_reducible refine Kd.C_drew ?_))); (case side2 => exact (Kd.qd HO_430001.out).2.1); rintro e w60 ⟨rfl, hb⟩; refine ⟨_, rfl, ?_⟩; have n0_ := z2.mk (Kd.qf (by (with_reducible repeat (first | apply Kd.R_alloc | apply Kd.y9 | apply Kd.zb)); exact HO_430001.out) hb); have n1_ := z2.mk (z9 (g := gb425) (o := .cells #[.int .i64 0, .int .i64 0, .slice none 0 0] 153 (0, 0)) (by (with_reducible repeat (first | refine z5 ?_ _ | refine y6 ?_ | refine y4 ?_ _)); exact BK425.out) hb); have n2_ := z2.mk (z9 (g := gb429) (o := .cells #[.int .i64 t428, .slice Ao59 x430001_2.length co59] 31 (0, 0)) (by (with_reducible repeat (first | refine z5 ?_ _ | refine y6 ?_ | refine y4 ?_ _)); exact BK429.out) hb); have n3_ := z2.mk (y8 (by repeat (first | (with_reducible first | exact HB.out | apply z4 | apply z1 | apply z3 | refine z7 ?_ GE425.out | refine z7 ?_ GE429.out) | exact HB.out)) hb); clear HO_430001 BK425 BK429 HB; have HO_430001 := n0_; have BK425 := n1_; have BK429 := n2_; have HB := n3_; clear n0_ n1_ n2_ n3_; (try clear hb); (try clear hb2); (try clear hk); (try clear hi); have hcz61_0 : w60.cell? ⟨gb425, 0, none⟩ = some (.int .i64 0) := (z6 BK425.out 0).trans rfl; have hcz61_1 : w60.cell? ⟨gb425, 1, none⟩ = some (.int .i64 0) := (z6 BK425.out 1).trans rfl; have hcz61_2 : w60.cell? ⟨gb425, 2, none⟩ = some (.slice none 0 0) := (z6 BK425.out 2).trans rfl; have hfz61_0 := y5 BK425.out 0; have hfz61_1 := y5 BK425.out 1; have hfz61_2 := y5 BK425.out 2))
         refine bodyPost_ret (results_cell_row rfl _ _ gb425 153 #[.int .i64 5, .int .i64 0, .slice none 0 0] (0, 0) _ rfl (by (with_reducible repeat (first | refine z5 ?_ _ | refine y6 ?_ | refine y4 ?_ _)); refine qc (cs := #[.int .i64 5, .int .i64 0, .slice none 0 0]) ?_ 2 _ rfl; (with_reducible repeat (first | refine z5 ?_ _ | refine y6 ?_ | refine y4 ?_ _)); refine qc (cs := #[.int .i64 5, .int .i64 0, .slice none 0 0]) ?_ 1 _ rfl; (with_reducible repeat (first | refine z5 ?_ _ | refine y6 ?_ | refine y4 ?_ _)); refine qc (cs := #[.int .i64 0, .int .i64 0, .slice none 0 0]) ?_ 0 _ rfl; (with_reducible repeat (first | refine z5 ?_ _ | refine y6 ?_ | refine y4 ?_ _)); exact BK425.out) Try.underlying153 rfl (by kernel_rfl)) rfl ?_
         exact ⟨_, by first | rfl | (simp [ya, qa] <;> rfl) | (simp [*, ya, qa] <;> rfl), by first | exact Kd.z0n _ _ _ _ _ | exact Kd.N_nil _ _ _ _ _ | exact Kd.V_nil _ _ _ _ _ | exact Kd.Q_nil _ _ _ _ _ | exact Kd.S_nil _ _ _ _ _, by repeat (first | (with_reducible first | exact HB.out | apply z4 | apply z1 | apply z3 | refine z7 ?_ GE425.out | refine z7 ?_ GE429.out) | exact HB.out)⟩
    ·rw [if_neg c8] at H
     exact absurd H (by simp)
end Go.Proofs.Ytkeojolmapcgbaa.PEv
end
