/- WHAT IS PROVED: parts of the proof of FnExactUnpackEvent: what each Go function that it reaches answers, and plain lemmas; no condition beyond those that each theorem names. -/
import Derived.Test.YtkeojolmapcgbaaCUnp2
section
namespace Go.Proofs.Ytkeojolmapcgbaa.PEv
open Go.RowKit Go.Proofs.YtkeojolmapcgbaaW.PrintWords Go.Proofs.YtkeojolmapcgbaaW.PrintLast Go.Proofs.YtkeojolmapcgbaaW.PrintMore
set_option linter.unusedVariables false
set_option linter.unusedSimpArgs false
def yh.l0 : Nat → Int → List Int → Int → Option (List Int)
 | 0, _, _, _ => none
 | k + 1, x0, x3, x4 => if x4 ≥ 0 then (if 0 ≤ (IntKind.u64.wrap (wrap64 (8 * x4))) then (if x3.length < 140737488355328 then (yh.l0 k x0 (x3 ++ [(shr .u64 (IntKind.u64.wrap (x0)) (IntKind.u64.wrap (wrap64 (8 * x4)))) % 256]) (wrap64 (x4 - 1))) else (none)) else (none)) else (some x3)
def yh.f (k : Nat) (a0 : Int) : Option (List Int) := yh.l0 k a0 (([] : List Int)) 7
set_option maxHeartbeats 8000000 in
set_option maxRecDepth 100000 in
theorem yh.calls (k : Nat) (a0 : Int) (r : List Int) (w : World) (h : yh.f k a0 = some r) :
  Calls Try.prog 103 #[.int .i64 a0] w fun e w' => ∃ v0_ : Value, e = .returned (v0_) ∧ Kd.R (Kd.int .u8) 5 w' w.heap.size (fun _ => True) v0_ r ∧ Below w.heap.size w w' := by
 have HB := z2.mk (Below.refl w.heap.size w)
 have H : (yh.l0 k a0 (([] : List Int)) 7) = some r := h
 clear h
 obtain ⟨y201, hy201⟩ : ∃ y_ : List Int, y_ = (([] : List Int)) := ⟨_, rfl⟩
 replace H : (yh.l0 k a0 y201 7) = some r := by first | (rw [hy201]; with_reducible exact H) | (have H2_ := (Option.bind_some _ _).symm.trans H; rw [hy201]; with_reducible exact H2_) | (have H2_ := (Option.bind_some _ _).symm.trans H; with_reducible exact H2_) | with_reducible exact H | (rw [hy201]; exact H) | exact H
 have Ny201 := z2.mk hy201
 clear hy201
 have H' := z2.mk H
 clear H
 go_enter Try.func103, Try.ntmps103
 go_wp2_with (first | ((with_reducible refine ye (N := 5) rfl ?_); refine Kd.y1i (Kd.int .u8) _ 5 ?hg (N := 5) ?hd (xs := ([] : List Int)) (inner := []) (ok := fun _ => True) (okp := fun _ => True) ?hr ?hp (fun _ hk => hk) trivial (Below.refl _ _) (Nat.le_refl _) (by simp) ?_; (case hd => rfl); (case hg => rfl); (case hr => first | (go_simp; done) | (go_simp; rfl)); (case hp => exact (z0b.none _ _)); intro v202 w2 ho3 hb hg_ hnew_; clear hg_ hnew_; (first | rw [← Ny201.out] at ho3 | (simp only [Int.reduceToNat] at ho3; rw [← Ny201.out] at ho3)); have n0_ := z2.mk (Kd.yr ho3 (z8 (by repeat (first | (with_reducible first | exact HB.out | apply z4 | apply z1 | apply z3) | exact HB.out)))); have n1_ := z2.mk (y8 (by repeat (first | (with_reducible first | exact HB.out | apply z4 | apply z1 | apply z3) | exact HB.out)) hb); clear HB; have HO203 := n0_; have HB := n1_; clear n0_ n1_ hb ho3))
 go_loopg [3, 4] k (fun kq v3 v4 w' => ∃ (x3_1 : List Int) (x4_1 : Int), v4 = .int .i64 x4_1 ∧ z2 (yh.l0 kq a0 x3_1 x4_1 = some r) ∧ z2 (kq ≤ k) ∧ z2 (Kd.R (Kd.int .u8) 5 w' w.heap.size (fun _ => True) v3 x3_1) ∧ z2 (Below w.heap.size w w'))
 case atStart => exact ⟨(y201), (7), (by first | rfl | (simp; done) | (simp [*]; done)), H', ⟨Nat.le_refl _⟩, ⟨by (with_reducible repeat (first | apply Kd.R_alloc | apply Kd.y9 | apply Kd.zb)); exact HO203.out⟩, ⟨by repeat (first | (with_reducible first | exact HB.out | apply z4 | apply z1 | apply z3) | exact HB.out)⟩⟩
 case round =>
  clear H'
  try clear c1
  try clear p2
  obtain ⟨x3_1, x4_1, rfl, HA, HK1, HO_3, HB⟩ := hrel
  cases gk with
  | zero => exact absurd HA.out (by simp [yh.l0])
  | succ k1 =>
   have H := HA.out
   clear HA
   simp only [yh.l0] at H
   by_cases c4 : x4_1 ≥ 0
   ·rw [if_pos c4] at H
    have c4b0 : decide (0 ≤ x4_1) = true := decide_eq_true c4
    clear c4
    obtain ⟨ji5, hji5⟩ : ∃ j_ : Int, (IntKind.u64.wrap (wrap64 (8 * x4_1))) = j_ := ⟨_, rfl⟩
    replace H : (if 0 ≤ (ji5) then (if x3_1.length < 140737488355328 then (yh.l0 k1 a0 (x3_1 ++ [(shr .u64 (IntKind.u64.wrap (a0)) (ji5)) % 256]) (wrap64 (x4_1 - 1))) else (none)) else (none)) = some r := by first | (rw [hji5] at H; exact H) | (simp only [hji5] at H ⊢; exact H)
    by_cases c6 : 0 ≤ (ji5)
    ·rw [if_pos c6] at H
     have c6b0 := eq_true c6
     have c6b1 : decide (0 ≤ (ji5)) = true := decide_eq_true c6
     clear c6
     obtain ⟨ji7, hji7⟩ : ∃ j_ : Int, (shr .u64 (IntKind.u64.wrap (a0)) (ji5)) = j_ := ⟨_, rfl⟩
     replace H : (if x3_1.length < 140737488355328 then (yh.l0 k1 a0 (x3_1 ++ [(ji7) % 256]) (wrap64 (x4_1 - 1))) else (none)) = some r := by first | (rw [hji7] at H; exact H) | (simp only [hji7] at H ⊢; exact H)
     have hji7_ : ((IntKind.u64.wrap (a0)) / 2 ^ min (ji5).toNat 64) = ji7 := hji7
     have hji7z : (ji5) ≤ 64 → ((IntKind.u64.wrap (a0)) / 2 ^ (ji5).toNat) = ji7 := q1g hji7
     by_cases c8 : x3_1.length < 140737488355328
     ·rw [if_pos c8] at H
      have LMc8 := z2.mk c8
      clear c8
      obtain ⟨y204, hy204⟩ : ∃ y_ : List Int, y_ = (x3_1 ++ [(ji7) % 256]) := ⟨_, rfl⟩
      replace H : (yh.l0 k1 a0 y204 (wrap64 (x4_1 - 1))) = some r := by first | (rw [hy204]; with_reducible exact H) | (have H2_ := (Option.bind_some _ _).symm.trans H; rw [hy204]; with_reducible exact H2_) | (have H2_ := (Option.bind_some _ _).symm.trans H; with_reducible exact H2_) | with_reducible exact H | (rw [hy204]; exact H) | exact H
      have Ny204 := z2.mk hy204
      clear hy204
      have H' := z2.mk H
      clear H
      go_wp2_with (first | ((with_reducible refine z03 (b := .append) (xs := #[.tmp 10, .tmp 18]) rfl ?_); at_builtin; refine Kd.q1m (Kd.int .u8) (w0 := w) w.heap.size rfl (.tmp 10) (.tmp 18) 37 5 (.int .u8 0) 1 rfl Try.underlying37 y0f rfl (by decide) (by omega) u3 x3_1 ((ji7) % 256) [.int .u8 ((ji7) % 256)] (fun _ => True) (fun _ => False) rfl rfl ?aP (fun _ hk => hk.elim) ?aF ?aO ?aB ?aS ?aL ?_; (case aP => exact rfl); (case aB => exact (by repeat (first | (with_reducible first | exact HB.out | apply z4 | apply z1 | apply z3) | exact HB.out))); (case aF => exact (fun _ _ => trivial)); (case aO => exact (by (with_reducible repeat (first | apply Kd.R_alloc | apply Kd.y9 | apply Kd.zb)); exact HO_3.out)); (case aS => exact (z8 (by repeat (first | (with_reducible first | exact HB.out | apply z4 | apply z1 | apply z3) | exact HB.out)))); (case aL => have := LMc8.out; omega); intro v205 w9 ho hb hg hat; rw [← Ny204.out] at ho; have n0_ := z2.mk (hb); have n1_ := z2.mk (ho); clear HB HO_3; have HB := n0_; have HO206 := n1_; clear n0_ n1_ ho hb hg hat))
      go_roundg k1
      case measure => have := HK1.out; omega
      case rel => exact ⟨(y204), (wrap64 (x4_1 - 1)), (by first | rfl | (simp; done) | (simp [*]; done)), H', ⟨by have := HK1.out; omega⟩, ⟨by (with_reducible repeat (first | apply Kd.R_alloc | apply Kd.y9 | apply Kd.zb)); exact HO206.out⟩, ⟨by repeat (first | (with_reducible first | exact HB.out | apply z4 | apply z1 | apply z3) | exact HB.out)⟩⟩
     ·rw [if_neg c8] at H
      exact absurd H (by simp)
    ·rw [if_neg c6] at H
     exact absurd H (by simp)
   ·rw [if_neg c4] at H
    have c4b0 : decide (0 ≤ x4_1) = false := decide_eq_false c4
    clear c4
    obtain rfl := Option.some.inj H
    go_wp2
    go_ret
    exact ⟨_, by first | rfl | (simp [ya, qa] <;> rfl) | (simp [*, ya, qa] <;> rfl), by (with_reducible repeat (first | apply Kd.R_alloc | apply Kd.y9 | apply Kd.zb)); exact HO_3.out, by repeat (first | (with_reducible first | exact HB.out | apply z4 | apply z1 | apply z3) | exact HB.out)⟩
def ql.l0 : Nat → List Int → Int → Int → List (yl) → Option (List Int)
 | 0, _, _, _, _ => none
 | k + 1, x3, x4, x208000, x208001 => if x4 < (x208001.length : Int) then (if 0 ≤ x4 then ((some (([((y7 x208001 x4).f0) % 256, ((y7 x208001 x4).f1) % 256, ((y7 x208001 x4).f2) % 256] : List Int) : List Int)).bind fun y213 => (if x3.length + y213.length < 140737488355328 then ((some (x3 ++ y213 : List Int)).bind fun y216 => ((yh.f k ((y7 x208001 x4).f3)).bind fun t219 => (if y216.length + t219.length < 140737488355328 then (ql.l0 k (y216 ++ t219) (wrap64 (x4 + 1)) x208000 x208001) else (none)))) else (none))) else (none)) else (some x3)
def ql.f (k : Nat) (a0_0 : Int) (l0_1 : List (yl)) : Option (List Int) := (yh.f k a0_0).bind fun t208 => (ql.l0 k t208 0 a0_0 l0_1)
set_option maxHeartbeats 8000000 in
set_option maxRecDepth 100000 in
theorem ql.calls (k : Nat) (a0_0 : Int) (A0_1 : Option Addr) (c0_1 : Nat) (l0_1 : List (yl)) (r : List Int) (w : World) (hr0_1 : Kd.C y08 w A0_1 l0_1.length l0_1) (hc0_1 : l0_1.length ≤ c0_1) (h : ql.f k a0_0 l0_1 = some r) :
  Calls Try.prog 102 #[.agg #[.int .i64 a0_0, .slice A0_1 l0_1.length c0_1]] w fun e w' => ∃ v0_ : Value, e = .returned (v0_) ∧ Kd.R (Kd.int .u8) 5 w' w.heap.size (fun _ => True) v0_ r ∧ Below w.heap.size w w' := by
 have hu31 := Try.underlying31
 have hu138 := Try.underlying138
 have HR0_1 := z2.mk hr0_1
 have HC0_1 := z2.mk hc0_1
 clear hr0_1 hc0_1
 have HB := z2.mk (Below.refl w.heap.size w)
 have H : ((yh.f k a0_0).bind fun t208 => (ql.l0 k t208 0 a0_0 l0_1)) = some r := h
 clear h
 replace H := Option.bind_eq_some_iff.mp H
 obtain ⟨t208, A20, H⟩ := H
 replace H : (ql.l0 k t208 0 a0_0 l0_1) = some r := H
 have A2 := z2.mk A20
 clear A20
 have H' := z2.mk H
 clear H
 go_enter Try.func102, Try.ntmps102
 go_wp2_with (first | ((with_reducible refine ye (N := 1) rfl ?_); refine ze ?hg (N := 1) ?hd (cs := #[.int .i64 a0_0, .slice A0_1 l0_1.length c0_1]) (t := 31) ?hr ?_; (case hd => rfl); (case hg => rfl); (case hr => first | (go_simp; done) | (go_simp; rfl)); intro gb207 hg w3 hbox hb; have n0_ := z2.mk (y8 (by repeat (first | (with_reducible first | exact HB.out | apply z4 | apply z1 | apply z3) | exact HB.out)) hb); have n1_ := z2.mk (hbox); have n2_ := z2.mk ((by rw [hg]; exact (z8 (by repeat (first | (with_reducible first | exact HB.out | apply z4 | apply z1 | apply z3) | exact HB.out))) : w.heap.size ≤ gb207)); have n3_ := z2.mk ((by rw [hg]; exact (z8 (by repeat (first | (with_reducible first | exact HB.out | apply z4 | apply z1 | apply z3) | exact HB.out))) : w.heap.size ≤ gb207)); clear HB; have HB := n0_; have BK207 := n1_; have GW207 := n2_; have GE207 := n3_; clear n0_ n1_ n2_ n3_ hb hbox hg; have hcz4_0 : w3.cell? ⟨gb207, 0, none⟩ = some (.int .i64 a0_0) := (z6 BK207.out 0).trans rfl; have hcz4_1 : w3.cell? ⟨gb207, 1, none⟩ = some (.slice A0_1 l0_1.length c0_1) := (z6 BK207.out 1).trans rfl; have hfz4_0 := y5 BK207.out 0; have hfz4_1 := y5 BK207.out 1) | ((with_reducible refine qb (f := 103) rfl ?_); refine zm (some 8) rfl rfl Try.func103 (by kernel_rfl) rfl #[.int .i64 a0_0] rfl (by (try simp only [List.map_toArray, List.map_cons, List.map_nil]); first | done | rfl | (simp only [List.length_drop, List.length_take]; rfl)) ?_; (with_reducible refine (yh.calls k a0_0 t208 _ A2.out).mono ?_); rintro e w5 ⟨v209, rfl, ho0, hb⟩; refine ⟨_, rfl, ?_⟩; have n0_ := z2.mk (Kd.yr ho0 (z8 (by repeat (first | (with_reducible first | exact HB.out | apply z4 | apply z1 | apply z3 | refine z7 ?_ GE207.out) | exact HB.out)))); have n1_ := z2.mk (z9 (g := gb207) (o := .cells #[.int .i64 a0_0, .slice A0_1 l0_1.length c0_1] 31 (0, 0)) (by (with_reducible repeat (first | refine z5 ?_ _ | refine y6 ?_ | refine y4 ?_ _)); exact BK207.out) hb); have n2_ := z2.mk (y8 (by repeat (first | (with_reducible first | exact HB.out | apply z4 | apply z1 | apply z3 | refine z7 ?_ GE207.out) | exact HB.out)) hb); clear BK207 HB; have HO210 := n0_; have BK207 := n1_; have HB := n2_; clear n0_ n1_ n2_; (try clear hb); (try clear hb2); (try clear hk); (try clear hi); (try clear ho0)))
 go_loopg [3, 4] k (fun kq v3 v4 w' => ∃ (x3_1 : List Int) (x4_1 : Int), v4 = .int .i64 x4_1 ∧ z2 (ql.l0 kq x3_1 x4_1 a0_0 l0_1 = some r) ∧ z2 (kq ≤ k) ∧ z2 (Kd.R (Kd.int .u8) 5 w' w.heap.size (fun _ => True) v3 x3_1) ∧ z2 (w'.heap[gb207]? = some (.cells #[.int .i64 a0_0, (.slice A0_1 l0_1.length c0_1)] 31 (0, 0))) ∧ z2 (Below w.heap.size w w'))
 case atStart => exact ⟨(t208), (0), (by first | rfl | (simp; done) | (simp [*]; done)), H', ⟨Nat.le_refl _⟩, ⟨by (with_reducible repeat (first | apply Kd.R_alloc | apply Kd.y9 | apply Kd.zb)); exact HO210.out⟩, ⟨by (with_reducible repeat (first | refine z5 ?_ _ | refine y6 ?_ | refine y4 ?_ _)); exact BK207.out⟩, ⟨by repeat (first | (with_reducible first | exact HB.out | apply z4 | apply z1 | apply z3 | refine z7 ?_ GE207.out) | exact HB.out)⟩⟩
 case round =>
  clear H'
  try clear c1
  try clear p2
  try clear hcz4_0
  try clear hcz4_1
  try clear hfz4_0
  try clear hfz4_1
  obtain ⟨x3_1, x4_1, rfl, HA, HK1, HO_3, BK207, HB⟩ := hrel
  cases gk with
  | zero => exact absurd HA.out (by simp [ql.l0])
  | succ k1 =>
   have H := HA.out
   clear HA
   simp only [ql.l0] at H
   by_cases c6 : x4_1 < (l0_1.length : Int)
   ·rw [if_pos c6] at H
    have c6b0 : decide (x4_1 < (l0_1.length : Int)) = true := decide_eq_true c6
    clear c6
    by_cases c7 : 0 ≤ x4_1
    ·rw [if_pos c7] at H
     have c7b0 : decide (0 ≤ x4_1) = true := decide_eq_true c7
     clear c7
     obtain ⟨y213, hy213⟩ : ∃ y_ : List Int, y_ = (([((y7 l0_1 x4_1).f0) % 256, ((y7 l0_1 x4_1).f1) % 256, ((y7 l0_1 x4_1).f2) % 256] : List Int)) := ⟨_, rfl⟩
     replace H : (if x3_1.length + y213.length < 140737488355328 then ((some (x3_1 ++ y213 : List Int)).bind fun y216 => ((yh.f k1 ((y7 l0_1 x4_1).f3)).bind fun t219 => (if y216.length + t219.length < 140737488355328 then (ql.l0 k1 (y216 ++ t219) (wrap64 (x4_1 + 1)) a0_0 l0_1) else (none)))) else (none)) = some r := by first | (rw [hy213]; with_reducible exact H) | (have H2_ := (Option.bind_some _ _).symm.trans H; rw [hy213]; with_reducible exact H2_) | (have H2_ := (Option.bind_some _ _).symm.trans H; with_reducible exact H2_) | with_reducible exact H | (rw [hy213]; exact H) | exact H
     have Ny213 := z2.mk hy213
     clear hy213
     by_cases c8 : x3_1.length + y213.length < 140737488355328
     ·rw [if_pos c8] at H
      have LMc8 := z2.mk c8
      clear c8
      obtain ⟨y216, hy216⟩ : ∃ y_ : List Int, y_ = (x3_1 ++ y213) := ⟨_, rfl⟩
      replace H : ((yh.f k1 ((y7 l0_1 x4_1).f3)).bind fun t219 => (if y216.length + t219.length < 140737488355328 then (ql.l0 k1 (y216 ++ t219) (wrap64 (x4_1 + 1)) a0_0 l0_1) else (none))) = some r := by first | (rw [hy216]; with_reducible exact H) | (have H2_ := (Option.bind_some _ _).symm.trans H; rw [hy216]; with_reducible exact H2_) | (have H2_ := (Option.bind_some _ _).symm.trans H; with_reducible exact H2_) | with_reducible exact H | (rw [hy216]; exact H) | exact H
      have Ny216 := z2.mk hy216
      clear hy216
      replace H := Option.bind_eq_some_iff.mp H
      obtain ⟨t219, A90, H⟩ := H
      replace H : (if y216.length + t219.length < 140737488355328 then (ql.l0 k1 (y216 ++ t219) (wrap64 (x4_1 + 1)) a0_0 l0_1) else (none)) = some r := H
      have A9 := z2.mk A90
      clear A90
      by_cases c10 : y216.length + t219.length < 140737488355328
      ·rw [if_pos c10] at H
       have LMc10 := z2.mk c10
       clear c10
       obtain ⟨y222, hy222⟩ : ∃ y_ : List Int, y_ = (y216 ++ t219) := ⟨_, rfl⟩
       replace H : (ql.l0 k1 y222 (wrap64 (x4_1 + 1)) a0_0 l0_1) = some r := by first | (rw [hy222]; with_reducible exact H) | (have H2_ := (Option.bind_some _ _).symm.trans H; rw [hy222]; with_reducible exact H2_) | (have H2_ := (Option.bind_some _ _).symm.trans H; with_reducible exact H2_) | with_reducible exact H | (rw [hy222]; exact H) | exact H
       have Ny222 := z2.mk hy222
       clear hy222
       have H' := z2.mk H
       clear H
       have hcz11_0 : wr.cell? ⟨gb207, 0, none⟩ = some (.int .i64 a0_0) := (z6 BK207.out 0).trans rfl
       have hcz11_1 : wr.cell? ⟨gb207, 1, none⟩ = some (.slice A0_1 l0_1.length c0_1) := (z6 BK207.out 1).trans rfl
       have hfz11_0 := y5 BK207.out 0
       have hfz11_1 := y5 BK207.out 1
       have p211 : 0 ≤ (x4_1 : Int) := of_decide_eq_true (by first | (with_reducible assumption) | assumption)
       have q211 : x4_1 < (l0_1.length : Int) := of_decide_eq_true (by first | (with_reducible assumption) | assumption)
       obtain ⟨ad211, e211, hx211_0, hx211_1, hx211_2, hx211_3⟩ := yz HR0_1.out x4_1 p211 q211
       cases e211
       replace hx211_0 := (HB.out.cell (World.block_lt_of_cell? w _ hx211_0)).trans hx211_0
       replace hx211_1 := (HB.out.cell (World.block_lt_of_cell? w _ hx211_1)).trans hx211_1
       replace hx211_2 := (HB.out.cell (World.block_lt_of_cell? w _ hx211_2)).trans hx211_2
       replace hx211_3 := (HB.out.cell (World.block_lt_of_cell? w _ hx211_3)).trans hx211_3
       replace p211 := eq_true p211
       replace q211 := eq_true q211
       go_wp2_with (first | ((with_reducible refine ye (N := 5) rfl ?_); refine ze ?hg (N := 5) ?hd (cs := #[.int .i64 0, .int .i64 0, .int .i64 0, .int .i64 0]) (t := 138) ?hr ?_; (case hd => rfl); (case hg => rfl); (case hr => first | (go_simp; done) | (go_simp; rfl)); intro gb212 hg w12 hbox hb; have n0_ := z2.mk (Kd.qf (by (with_reducible repeat (first | apply Kd.R_alloc | apply Kd.y9 | apply Kd.zb)); exact HO_3.out) hb); have n1_ := z2.mk (z9 (g := gb207) (o := .cells #[.int .i64 a0_0, .slice (some ad211) l0_1.length c0_1] 31 (0, 0)) (by (with_reducible repeat (first | refine z5 ?_ _ | refine y6 ?_ | refine y4 ?_ _)); exact BK207.out) hb); have n2_ := z2.mk (y8 (by repeat (first | (with_reducible first | exact HB.out | apply z4 | apply z1 | apply z3 | refine z7 ?_ GE207.out) | exact HB.out)) hb); have n3_ := z2.mk (hbox); have n4_ := z2.mk ((by rw [hg]; exact (z8 (by repeat (first | (with_reducible first | exact HB.out | apply z4 | apply z1 | apply z3 | refine z7 ?_ GE207.out) | exact HB.out))) : w.heap.size ≤ gb212)); have n5_ := z2.mk ((by rw [hg]; exact (z8 (by repeat (first | (with_reducible first | exact HB.out | apply z4 | apply z1 | apply z3 | refine z7 ?_ GE207.out) | exact HB.out))) : w.heap.size ≤ gb212)); have n6_ := z2.mk ((by rw [hg]; exact Nat.ne_of_lt (qk (g := gb207) (o := .cells #[.int .i64 a0_0, .slice (some ad211) l0_1.length c0_1] 31 (0, 0)) (by (with_reducible repeat (first | refine z5 ?_ _ | refine y6 ?_ | refine y4 ?_ _)); exact BK207.out)) : gb207 ≠ gb212)); have n7_ := z2.mk ((by rw [hg]; exact Nat.ne_of_gt (qk (g := gb207) (o := .cells #[.int .i64 a0_0, .slice (some ad211) l0_1.length c0_1] 31 (0, 0)) (by (with_reducible repeat (first | refine z5 ?_ _ | refine y6 ?_ | refine y4 ?_ _)); exact BK207.out)) : gb212 ≠ gb207)); clear HO_3 BK207 HB; have HO_3 := n0_; have BK207 := n1_; have HB := n2_; have BK212 := n3_; have GW212 := n4_; have GE212 := n5_; have NB207_212 := n6_; have NB212_207 := n7_; clear n0_ n1_ n2_ n3_ n4_ n5_ n6_ n7_ hb hbox hg; have hnb13 := NB212_207.out; have hnc13 := NB207_212.out; have hcz14_0 : w12.cell? ⟨gb212, 0, none⟩ = some (.int .i64 0) := (z6 BK212.out 0).trans rfl; have hcz14_1 : w12.cell? ⟨gb212, 1, none⟩ = some (.int .i64 0) := (z6 BK212.out 1).trans rfl; have hcz14_2 : w12.cell? ⟨gb212, 2, none⟩ = some (.int .i64 0) := (z6 BK212.out 2).trans rfl; have hcz14_3 : w12.cell? ⟨gb212, 3, none⟩ = some (.int .i64 0) := (z6 BK212.out 3).trans rfl; have hfz14_0 := y5 BK212.out 0; have hfz14_1 := y5 BK212.out 1; have hfz14_2 := y5 BK212.out 2; have hfz14_3 := y5 BK212.out 3) | ((with_reducible refine ye (N := 31) rfl ?_); refine Kd.y1i (Kd.int .u8) _ 5 ?hg (N := 31) ?hd (xs := ([((y7 l0_1 x4_1).f0) % 256, ((y7 l0_1 x4_1).f1) % 256, ((y7 l0_1 x4_1).f2) % 256] : List Int)) (inner := [.int .u8 (((y7 l0_1 x4_1).f0) % 256), .int .u8 (((y7 l0_1 x4_1).f1) % 256), .int .u8 (((y7 l0_1 x4_1).f2) % 256)]) (ok := fun _ => True) (okp := fun _ => True) ?hr ?hp (fun _ hk => hk) trivial (Below.refl _ _) (Nat.le_refl _) (by simp) ?_; (case hd => rfl); (case hg => rfl); (case hr => first | (go_simp; done) | (go_simp; rfl)); (case hp => exact (z0b.one (show Kd.M (Kd.int .u8) _ _ _ (((y7 l0_1 x4_1).f0) % 256) [.int .u8 (((y7 l0_1 x4_1).f0) % 256)] from rfl) (z0b.one (show Kd.M (Kd.int .u8) _ _ _ (((y7 l0_1 x4_1).f1) % 256) [.int .u8 (((y7 l0_1 x4_1).f1) % 256)] from rfl) (z0b.one (show Kd.M (Kd.int .u8) _ _ _ (((y7 l0_1 x4_1).f2) % 256) [.int .u8 (((y7 l0_1 x4_1).f2) % 256)] from rfl) (z0b.none _ _))))); intro v214 w15 ho16 hb hg_ hnew_; clear hg_ hnew_; (first | rw [← Ny213.out] at ho16 | (simp only [Int.reduceToNat] at ho16; rw [← Ny213.out] at ho16)); have n0_ := z2.mk (Kd.qu (by (with_reducible repeat (first | apply Kd.R_alloc | apply Kd.y9 | apply Kd.zb)); exact (Kd.yk (Kd.zf (p := ⟨gb212, 3, none⟩) (Kd.zf (p := ⟨gb212, 2, none⟩) (Kd.zf (p := ⟨gb212, 1, none⟩) (Kd.zf (p := ⟨gb212, 0, none⟩) (Kd.qp HO_3.out BK212.out (by decide)) (fun _ hk => hk.2) (.int .i64 ((y7 l0_1 x4_1).f0))) (fun _ hk => hk.2) (.int .i64 ((y7 l0_1 x4_1).f1))) (fun _ hk => hk.2) (.int .i64 ((y7 l0_1 x4_1).f2))) (fun _ hk => hk.2) (.int .i64 ((y7 l0_1 x4_1).f3))) (fun _ h_ => h_.1))) (Kd.z00 ho16) hb); have n1_ := z2.mk (Kd.yr (Kd.y00 ho16 (Kd.q0e (by (with_reducible repeat (first | apply Kd.R_alloc | apply Kd.y9 | apply Kd.zb)); exact (Kd.yk (Kd.zf (p := ⟨gb212, 3, none⟩) (Kd.zf (p := ⟨gb212, 2, none⟩) (Kd.zf (p := ⟨gb212, 1, none⟩) (Kd.zf (p := ⟨gb212, 0, none⟩) (Kd.qp HO_3.out BK212.out (by decide)) (fun _ hk => hk.2) (.int .i64 ((y7 l0_1 x4_1).f0))) (fun _ hk => hk.2) (.int .i64 ((y7 l0_1 x4_1).f1))) (fun _ hk => hk.2) (.int .i64 ((y7 l0_1 x4_1).f2))) (fun _ hk => hk.2) (.int .i64 ((y7 l0_1 x4_1).f3))) (fun _ h_ => h_.1))))) (z8 (by repeat (first | (with_reducible first | exact HB.out | apply z4 | apply z1 | apply z3 | refine z7 ?_ GE207.out | refine z7 ?_ GE212.out) | exact HB.out)))); have n2_ := z2.mk (z9 (g := gb207) (o := .cells #[.int .i64 a0_0, .slice (some ad211) l0_1.length c0_1] 31 (0, 0)) (by (with_reducible repeat (first | refine z5 ?_ _ | refine y6 ?_ | refine y4 ?_ _)); refine zd ?_ NB207_212.out _; (with_reducible repeat (first | refine z5 ?_ _ | refine y6 ?_ | refine y4 ?_ _)); refine zd ?_ NB207_212.out _; (with_reducible repeat (first | refine z5 ?_ _ | refine y6 ?_ | refine y4 ?_ _)); refine zd ?_ NB207_212.out _; (with_reducible repeat (first | refine z5 ?_ _ | refine y6 ?_ | refine y4 ?_ _)); refine zd ?_ NB207_212.out _; (with_reducible repeat (first | refine z5 ?_ _ | refine y6 ?_ | refine y4 ?_ _)); exact BK207.out) hb); have n3_ := z2.mk (z9 (g := gb212) (o := .cells #[.int .i64 ((y7 l0_1 x4_1).f0), .int .i64 ((y7 l0_1 x4_1).f1), .int .i64 ((y7 l0_1 x4_1).f2), .int .i64 ((y7 l0_1 x4_1).f3)] 138 (0, 0)) (by (with_reducible repeat (first | refine z5 ?_ _ | refine y6 ?_ | refine y4 ?_ _)); refine qc (cs := #[.int .i64 ((y7 l0_1 x4_1).f0), .int .i64 ((y7 l0_1 x4_1).f1), .int .i64 ((y7 l0_1 x4_1).f2), .int .i64 0]) ?_ 3 _ rfl; (with_reducible repeat (first | refine z5 ?_ _ | refine y6 ?_ | refine y4 ?_ _)); refine qc (cs := #[.int .i64 ((y7 l0_1 x4_1).f0), .int .i64 ((y7 l0_1 x4_1).f1), .int .i64 0, .int .i64 0]) ?_ 2 _ rfl; (with_reducible repeat (first | refine z5 ?_ _ | refine y6 ?_ | refine y4 ?_ _)); refine qc (cs := #[.int .i64 ((y7 l0_1 x4_1).f0), .int .i64 0, .int .i64 0, .int .i64 0]) ?_ 1 _ rfl; (with_reducible repeat (first | refine z5 ?_ _ | refine y6 ?_ | refine y4 ?_ _)); refine qc (cs := #[.int .i64 0, .int .i64 0, .int .i64 0, .int .i64 0]) ?_ 0 _ rfl; (with_reducible repeat (first | refine z5 ?_ _ | refine y6 ?_ | refine y4 ?_ _)); exact BK212.out) hb); have n4_ := z2.mk (y8 (by repeat (first | (with_reducible first | exact HB.out | apply z4 | apply z1 | apply z3 | refine z7 ?_ GE207.out | refine z7 ?_ GE212.out) | exact HB.out)) hb); clear HO_3 BK207 BK212 HB; have HO_3 := n0_; have HO215 := n1_; have BK207 := n2_; have BK212 := n3_; have HB := n4_; clear n0_ n1_ n2_ n3_ n4_ hb ho16; obtain ⟨Ao18, co18, eo18⟩ := Kd.zt HO215.out; subst eo18) | ((with_reducible refine z03 (b := .append) (xs := #[.tmp 21, .tmp 31]) rfl ?_); at_builtin; refine Kd.z07 (Kd.int .u8) (w0 := w) w.heap.size rfl (.tmp 21) (.tmp 31) 37 5 (.int .u8 0) 1 rfl Try.underlying37 y0f rfl (by decide) (by omega) u3 x3_1 y213 _ _ _ (fun k_ => some k_ ≠ (.slice Ao18 y213.length co18 : Value).ownBlock) (fun _ => False) rfl rfl ?aO ?aR (fun _ _ h => h) (fun _ h => h.elim) ?aF ?aB ?aS ?aL ?_; (case aR => repeat (first | exact (Kd.qd HO215.out).2.2 | (with_reducible refine Kd.yi ?_ _) | (with_reducible refine Kd.qi ?_ _) | (with_reducible refine Kd.C_drew ?_))); (case aB => exact (by repeat (first | (with_reducible first | exact HB.out | apply z4 | apply z1 | apply z3 | refine z7 ?_ GE207.out | refine z7 ?_ GE212.out) | exact HB.out))); (case aF => exact (fun k_ hk => Kd.z0g (Kd.q0e (by (with_reducible repeat (first | apply Kd.R_alloc | apply Kd.y9 | apply Kd.zb)); exact HO215.out)) k_ hk)); (case aO => exact (by (with_reducible repeat (first | apply Kd.R_alloc | apply Kd.y9 | apply Kd.zb)); exact Kd.yk HO_3.out (fun _ hk => hk.2))); (case aS => exact (z8 (by repeat (first | (with_reducible first | exact HB.out | apply z4 | apply z1 | apply z3 | refine z7 ?_ GE207.out | refine z7 ?_ GE212.out) | exact HB.out)))); (case aL => have := LMc8.out; omega); intro v217 w17 ho hb hg hat; rw [← Ny216.out] at ho; have n0_ := z2.mk (yy (g := gb207) (o := .cells #[.int .i64 a0_0, .slice (some ad211) l0_1.length c0_1] 31 (0, 0)) (by (with_reducible repeat (first | refine z5 ?_ _ | refine y6 ?_ | refine y4 ?_ _)); exact BK207.out) hg (Kd.y0k HO_3.out BK207.out (by decide))); have n1_ := z2.mk (yy (g := gb212) (o := .cells #[.int .i64 ((y7 l0_1 x4_1).f0), .int .i64 ((y7 l0_1 x4_1).f1), .int .i64 ((y7 l0_1 x4_1).f2), .int .i64 ((y7 l0_1 x4_1).f3)] 138 (0, 0)) (by (with_reducible repeat (first | refine z5 ?_ _ | refine y6 ?_ | refine y4 ?_ _)); exact BK212.out) hg (Kd.y0k HO_3.out BK212.out (by decide))); have n2_ := z2.mk (Kd.q09 (ok := (fun _ => True)) (by (with_reducible repeat (first | apply Kd.R_alloc | apply Kd.y9 | apply Kd.zb)); exact HO215.out) hg hat); have n3_ := z2.mk (hb); have n4_ := z2.mk (ho); clear BK207 BK212 HO215 HB HO_3; have BK207 := n0_; have BK212 := n1_; have HO215 := n2_; have HB := n3_; have HO218 := n4_; clear n0_ n1_ n2_ n3_ n4_ ho hb hg hat; have hcz19_0 : w17.cell? ⟨gb212, 0, none⟩ = some (.int .i64 ((y7 l0_1 x4_1).f0)) := (z6 BK212.out 0).trans rfl; have hcz19_1 : w17.cell? ⟨gb212, 1, none⟩ = some (.int .i64 ((y7 l0_1 x4_1).f1)) := (z6 BK212.out 1).trans rfl; have hcz19_2 : w17.cell? ⟨gb212, 2, none⟩ = some (.int .i64 ((y7 l0_1 x4_1).f2)) := (z6 BK212.out 2).trans rfl; have hcz19_3 : w17.cell? ⟨gb212, 3, none⟩ = some (.int .i64 ((y7 l0_1 x4_1).f3)) := (z6 BK212.out 3).trans rfl; have hfz19_0 := y5 BK212.out 0; have hfz19_1 := y5 BK212.out 1; have hfz19_2 := y5 BK212.out 2; have hfz19_3 := y5 BK212.out 3) | ((with_reducible refine qb (f := 103) rfl ?_); refine zm (some 36) rfl rfl Try.func103 (by kernel_rfl) rfl #[.int .i64 ((y7 l0_1 x4_1).f3)] rfl (by (try simp only [List.map_toArray, List.map_cons, List.map_nil]); first | done | rfl | (simp only [List.length_drop, List.length_take]; rfl)) ?_; (with_reducible refine (yh.calls k1 ((y7 l0_1 x4_1).f3) t219 _ A9.out).mono ?_); rintro e w20 ⟨v220, rfl, ho0, hb⟩; refine ⟨_, rfl, ?_⟩; have n0_ := z2.mk (Kd.qu (by (with_reducible repeat (first | apply Kd.R_alloc | apply Kd.y9 | apply Kd.zb)); exact HO215.out) (Kd.z00 ho0) hb); have n1_ := z2.mk (Kd.qu (by (with_reducible repeat (first | apply Kd.R_alloc | apply Kd.y9 | apply Kd.zb)); exact HO218.out) (Kd.z00 ho0) hb); have n2_ := z2.mk (Kd.yr (Kd.y00 (Kd.y00 ho0 (Kd.q0e (by (with_reducible repeat (first | apply Kd.R_alloc | apply Kd.y9 | apply Kd.zb)); exact HO215.out))) (Kd.q0e (by (with_reducible repeat (first | apply Kd.R_alloc | apply Kd.y9 | apply Kd.zb)); exact HO218.out))) (z8 (by repeat (first | (with_reducible first | exact HB.out | apply z4 | apply z1 | apply z3 | refine z7 ?_ GE207.out | refine z7 ?_ GE212.out) | exact HB.out)))); have n3_ := z2.mk (z9 (g := gb207) (o := .cells #[.int .i64 a0_0, .slice (some ad211) l0_1.length c0_1] 31 (0, 0)) (by (with_reducible repeat (first | refine z5 ?_ _ | refine y6 ?_ | refine y4 ?_ _)); exact BK207.out) hb); have n4_ := z2.mk (z9 (g := gb212) (o := .cells #[.int .i64 ((y7 l0_1 x4_1).f0), .int .i64 ((y7 l0_1 x4_1).f1), .int .i64 ((y7 l0_1 x4_1).f2), .int .i64 ((y7 l0_1 x4_1).f3)] 138 (0, 0)) (by (with_reducible repeat (first | refine z5 ?_ _ | refine y6 ?_ | refine y4 ?_ _)); exact BK212.out) hb); have n5_ := z2.mk (y8 (by repeat (first | (with_reducible first | exact HB.out | apply z4 | apply z1 | apply z3 | refine z7 ?_ GE207.out | refine z7 ?_ GE212.out) | exact HB.out)) hb); clear HO215 HO218 BK207 BK212 HB; have HO215 := n0_; have HO218 := n1_; have HO221 := n2_; have BK207 := n3_; have BK212 := n4_; have HB := n5_; clear n0_ n1_ n2_ n3_ n4_ n5_; (try clear hb); (try clear hb2); (try clear hk); (try clear hi); (try clear ho0); obtain ⟨Ao22, co22, eo22⟩ := Kd.zt HO221.out; subst eo22) | ((with_reducible refine z03 (b := .append) (xs := #[.tmp 33, .tmp 36]) rfl ?_); at_builtin; refine Kd.z07 (Kd.int .u8) (w0 := w) w.heap.size rfl (.tmp 33) (.tmp 36) 37 5 (.int .u8 0) 1 rfl Try.underlying37 y0f rfl (by decide) (by omega) v217 y216 t219 _ _ _ (fun k_ => some k_ ≠ (.slice Ao18 y213.length co18 : Value).ownBlock ∧ some k_ ≠ (.slice Ao22 t219.length co22 : Value).ownBlock) (fun _ => False) rfl rfl ?aO ?aR (fun _ _ h => h) (fun _ h => h.elim) ?aF ?aB ?aS ?aL ?_; (case aR => repeat (first | exact (Kd.qd HO221.out).2.2 | (with_reducible refine Kd.yi ?_ _) | (with_reducible refine Kd.qi ?_ _) | (with_reducible refine Kd.C_drew ?_))); (case aB => exact (by repeat (first | (with_reducible first | exact HB.out | apply z4 | apply z1 | apply z3 | refine z7 ?_ GE207.out | refine z7 ?_ GE212.out) | exact HB.out))); (case aF => exact (fun k_ hk => ⟨Kd.z0g (Kd.q0e (by (with_reducible repeat (first | apply Kd.R_alloc | apply Kd.y9 | apply Kd.zb)); exact HO215.out)) k_ hk, Kd.z0g (Kd.q0e (by (with_reducible repeat (first | apply Kd.R_alloc | apply Kd.y9 | apply Kd.zb)); exact HO221.out)) k_ hk⟩)); (case aO => exact (by (with_reducible repeat (first | apply Kd.R_alloc | apply Kd.y9 | apply Kd.zb)); exact HO218.out)); (case aS => exact (z8 (by repeat (first | (with_reducible first | exact HB.out | apply z4 | apply z1 | apply z3 | refine z7 ?_ GE207.out | refine z7 ?_ GE212.out) | exact HB.out)))); (case aL => have := LMc10.out; omega); intro v223 w21 ho hb hg hat; rw [← Ny222.out] at ho; have n0_ := z2.mk (yy (g := gb207) (o := .cells #[.int .i64 a0_0, .slice (some ad211) l0_1.length c0_1] 31 (0, 0)) (by (with_reducible repeat (first | refine z5 ?_ _ | refine y6 ?_ | refine y4 ?_ _)); exact BK207.out) hg (Kd.y0k HO218.out BK207.out (by decide))); have n1_ := z2.mk (yy (g := gb212) (o := .cells #[.int .i64 ((y7 l0_1 x4_1).f0), .int .i64 ((y7 l0_1 x4_1).f1), .int .i64 ((y7 l0_1 x4_1).f2), .int .i64 ((y7 l0_1 x4_1).f3)] 138 (0, 0)) (by (with_reducible repeat (first | refine z5 ?_ _ | refine y6 ?_ | refine y4 ?_ _)); exact BK212.out) hg (Kd.y0k HO218.out BK212.out (by decide))); have n2_ := z2.mk (Kd.q09 (ok := (fun k_ => some k_ ≠ (.slice Ao22 t219.length co22 : Value).ownBlock)) (by (with_reducible repeat (first | apply Kd.R_alloc | apply Kd.y9 | apply Kd.zb)); exact Kd.yk HO215.out (fun _ hk => ⟨hk.2, hk.1.2⟩)) hg hat); have n3_ := z2.mk (Kd.q09 (ok := (fun k_ => some k_ ≠ (.slice Ao18 y213.length co18 : Value).ownBlock)) (by (with_reducible repeat (first | apply Kd.R_alloc | apply Kd.y9 | apply Kd.zb)); exact Kd.yk HO221.out (fun _ hk => ⟨hk.1.2, hk.2⟩)) hg hat); have n4_ := z2.mk (hb); have n5_ := z2.mk (ho); clear BK207 BK212 HO215 HO221 HB HO218; have BK207 := n0_; have BK212 := n1_; have HO215 := n2_; have HO221 := n3_; have HB := n4_; have HO224 := n5_; clear n0_ n1_ n2_ n3_ n4_ n5_ ho hb hg hat))
       go_roundg k1
       case measure => have := HK1.out; omega
       case rel => exact ⟨(y222), (wrap64 (x4_1 + 1)), (by first | rfl | (simp; done) | (simp [*]; done)), H', ⟨by have := HK1.out; omega⟩, ⟨by (with_reducible repeat (first | apply Kd.R_alloc | apply Kd.y9 | apply Kd.zb)); exact Kd.yk HO224.out (fun _ hk => trivial)⟩, ⟨by (with_reducible repeat (first | refine z5 ?_ _ | refine y6 ?_ | refine y4 ?_ _)); exact BK207.out⟩, ⟨by repeat (first | (with_reducible first | exact HB.out | apply z4 | apply z1 | apply z3 | refine z7 ?_ GE207.out | refine z7 ?_ GE212.out) | exact HB.out)⟩⟩
      ·rw [if_neg c10] at H
       exact absurd H (by simp)
     ·rw [if_neg c8] at H
      exact absurd H (by simp)
    ·rw [if_neg c7] at H
     exact absurd H (by simp)
   ·rw [if_neg c6] at H
    have c6b0 : decide (x4_1 < (l0_1.length : Int)) = false := decide_eq_false c6
    clear c6
    obtain rfl := Option.some.inj H
    have hcz23_0 : wr.cell? ⟨gb207, 0, none⟩ = some (.int .i64 a0_0) := (z6 BK207.out 0).trans rfl
    have hcz23_1 : wr.cell? ⟨gb207, 1, none⟩ = some (.slice A0_1 l0_1.length c0_1) := (z6 BK207.out 1).trans rfl
    have hfz23_0 := y5 BK207.out 0
    have hfz23_1 := y5 BK207.out 1
    go_wp2
    go_ret
    exact ⟨_, by first | rfl | (simp [ya, qa] <;> rfl) | (simp [*, ya, qa] <;> rfl), by (with_reducible repeat (first | apply Kd.R_alloc | apply Kd.y9 | apply Kd.zb)); exact HO_3.out, by repeat (first | (with_reducible first | exact HB.out | apply z4 | apply z1 | apply z3 | refine z7 ?_ GE207.out) | exact HB.out)⟩
end Go.Proofs.Ytkeojolmapcgbaa.PEv
end
section
namespace Go.Proofs.Ytkeojolmapcgbaa.PEv
open Go.RowKit Go.Proofs.YtkeojolmapcgbaaW.PrintWords Go.Proofs.YtkeojolmapcgbaaW.PrintLast Go.Proofs.YtkeojolmapcgbaaW.PrintMore
set_option linter.unusedVariables false
set_option linter.unusedSimpArgs false
def yv.f (k : Nat) (a0_0 : Bool) (a0_1 : Int) (l0_2 : List (yl)) (a0_3 : Int) : Option (List Int) := if a0_0 = true then ((some (([1] : List Int) : List Int)).bind fun y226 => ((ql.f k a0_1 l0_2).bind fun t229 => (if y226.length + t229.length < 140737488355328 then (some (y226 ++ t229)) else (none)))) else ((some (([2] : List Int) : List Int)).bind fun y235 => ((yh.f k a0_1).bind fun t238 => (if y235.length + t238.length < 140737488355328 then ((some (y235 ++ t238 : List Int)).bind fun y241 => ((some (([(a0_3) % 256] : List Int) : List Int)).bind fun y244 => (if y241.length + y244.length < 140737488355328 then (some (y241 ++ y244)) else (none)))) else (none))))
def yv.T3 : Bool × List (List Nat × List Nat) := (true, [([], []), ([], []), ([1], [1]), ([2], [2]), ([3], [3]), ([0, 4, 4], [0, 4]), ([], []), ([6], [6]), ([7], [7]), ([8], [8]), ([5, 9, 5], [5, 9]), ([10, 10, 0, 1, 2, 3, 4, 5, 6, 7, 8, 9, 10], [10])])
def yv.B3 : List Nat := [0, 0, 2, 6, 14, 31, 0, 64, 192, 448, 1023, 2047]
theorem yv.q2x : z0s .any (opsOf Try.f54 3) = yv.T3 := by kernel_rfl
theorem yv.y2s : z0h yv.T3.2 yv.B3 = true := by kernel_rfl
set_option maxHeartbeats 8000000 in
set_option maxRecDepth 100000 in
theorem yv.calls (k : Nat) (a0_0 : Bool) (a0_1 : Int) (A0_2 : Option Addr) (c0_2 : Nat) (l0_2 : List (yl)) (a0_3 : Int) (r : List Int) (w : World) (hr0_2 : Kd.C y08 w A0_2 l0_2.length l0_2) (hc0_2 : l0_2.length ≤ c0_2) (h : yv.f k a0_0 a0_1 l0_2 a0_3 = some r) :
  Calls Try.prog 54 #[.agg #[.bool a0_0, .int .i64 a0_1, .slice A0_2 l0_2.length c0_2, .int .i64 a0_3]] w fun e w' => ∃ v0_ : Value, e = .returned (v0_) ∧ Kd.R (Kd.int .u8) 5 w' w.heap.size (fun _ => True) v0_ r ∧ Below w.heap.size w w' := by
 have hu33 := Try.underlying33
 have hu31 := Try.underlying31
 have HR0_2 := z2.mk hr0_2
 have HC0_2 := z2.mk hc0_2
 clear hr0_2 hc0_2
 have HB := z2.mk (Below.refl w.heap.size w)
 have H : (if a0_0 = true then ((some (([1] : List Int) : List Int)).bind fun y226 => ((ql.f k a0_1 l0_2).bind fun t229 => (if y226.length + t229.length < 140737488355328 then (some (y226 ++ t229)) else (none)))) else ((some (([2] : List Int) : List Int)).bind fun y235 => ((yh.f k a0_1).bind fun t238 => (if y235.length + t238.length < 140737488355328 then ((some (y235 ++ t238 : List Int)).bind fun y241 => ((some (([(a0_3) % 256] : List Int) : List Int)).bind fun y244 => (if y241.length + y244.length < 140737488355328 then (some (y241 ++ y244)) else (none)))) else (none))))) = some r := h
 clear h
 by_cases c2 : a0_0 = true
 ·subst c2
  have H1 : ((some (([1] : List Int) : List Int)).bind fun y226 => ((ql.f k a0_1 l0_2).bind fun t229 => (if y226.length + t229.length < 140737488355328 then (some (y226 ++ t229)) else (none)))) = some r := by rw [if_pos rfl] at H; exact H
  clear H
  have H := H1
  clear H1
  obtain ⟨y226, hy226⟩ : ∃ y_ : List Int, y_ = (([1] : List Int)) := ⟨_, rfl⟩
  replace H : ((ql.f k a0_1 l0_2).bind fun t229 => (if y226.length + t229.length < 140737488355328 then (some (y226 ++ t229)) else (none))) = some r := by first | (rw [hy226]; with_reducible exact H) | (have H2_ := (Option.bind_some _ _).symm.trans H; rw [hy226]; with_reducible exact H2_) | (have H2_ := (Option.bind_some _ _).symm.trans H; with_reducible exact H2_) | with_reducible exact H | (rw [hy226]; exact H) | exact H
  have Ny226 := z2.mk hy226
  clear hy226
  replace H := Option.bind_eq_some_iff.mp H
  obtain ⟨t229, A30, H⟩ := H
  replace H : (if y226.length + t229.length < 140737488355328 then (some (y226 ++ t229)) else (none)) = some r := H
  have A3 := z2.mk A30
  clear A30
  by_cases c4 : y226.length + t229.length < 140737488355328
  ·rw [if_pos c4] at H
   have LMc4 := z2.mk c4
   clear c4
   obtain ⟨y232, hy232⟩ : ∃ y_ : List Int, y_ = (y226 ++ t229) := ⟨_, rfl⟩
   replace H : (some y232) = some r := by first | (rw [hy232]; with_reducible exact H) | (have H2_ := (Option.bind_some _ _).symm.trans H; rw [hy232]; with_reducible exact H2_) | (have H2_ := (Option.bind_some _ _).symm.trans H; with_reducible exact H2_) | with_reducible exact H | (rw [hy232]; exact H) | exact H
   have Ny232 := z2.mk hy232
   clear hy232
   obtain rfl := Option.some.inj H
   go_enter Try.func54, Try.ntmps54
   go_wp2_with (first | ((with_reducible refine ye (N := 1) rfl ?_); refine ze ?hg (N := 1) ?hd (cs := #[.bool true, .int .i64 a0_1, .slice A0_2 l0_2.length c0_2, .int .i64 a0_3]) (t := 33) ?hr ?_; (case hd => rfl); (case hg => rfl); (case hr => first | (go_simp; done) | (go_simp; rfl)); intro gb225 hg w5 hbox hb; have n0_ := z2.mk (y8 (by repeat (first | (with_reducible first | exact HB.out | apply z4 | apply z1 | apply z3) | exact HB.out)) hb); have n1_ := z2.mk (hbox); have n2_ := z2.mk ((by rw [hg]; exact (z8 (by repeat (first | (with_reducible first | exact HB.out | apply z4 | apply z1 | apply z3) | exact HB.out))) : w.heap.size ≤ gb225)); have n3_ := z2.mk ((by rw [hg]; exact (z8 (by repeat (first | (with_reducible first | exact HB.out | apply z4 | apply z1 | apply z3) | exact HB.out))) : w.heap.size ≤ gb225)); clear HB; have HB := n0_; have BK225 := n1_; have GW225 := n2_; have GE225 := n3_; clear n0_ n1_ n2_ n3_ hb hbox hg; have hcz6_0 : w5.cell? ⟨gb225, 0, none⟩ = some (.bool true) := (z6 BK225.out 0).trans rfl; have hcz6_1 : w5.cell? ⟨gb225, 1, none⟩ = some (.int .i64 a0_1) := (z6 BK225.out 1).trans rfl; have hcz6_2 : w5.cell? ⟨gb225, 2, none⟩ = some (.slice A0_2 l0_2.length c0_2) := (z6 BK225.out 2).trans rfl; have hcz6_3 : w5.cell? ⟨gb225, 3, none⟩ = some (.int .i64 a0_3) := (z6 BK225.out 3).trans rfl; have hfz6_0 := y5 BK225.out 0; have hfz6_1 := y5 BK225.out 1; have hfz6_2 := y5 BK225.out 2; have hfz6_3 := y5 BK225.out 3) | ((with_reducible refine ye (N := 5) rfl ?_); refine Kd.y1i (Kd.int .u8) _ 5 ?hg (N := 5) ?hd (xs := ([1] : List Int)) (inner := [.int .u8 1]) (ok := fun _ => True) (okp := fun _ => True) ?hr ?hp (fun _ hk => hk) trivial (Below.refl _ _) (Nat.le_refl _) (by simp) ?_; (case hd => rfl); (case hg => rfl); (case hr => first | (go_simp; done) | (go_simp; rfl)); (case hp => exact (z0b.one (show Kd.M (Kd.int .u8) _ _ _ 1 [.int .u8 1] from rfl) (z0b.none _ _))); intro v227 w7 ho8 hb hg_ hnew_; clear hg_ hnew_; (first | rw [← Ny226.out] at ho8 | (simp only [Int.reduceToNat] at ho8; rw [← Ny226.out] at ho8)); have n0_ := z2.mk (Kd.yr ho8 (z8 (by repeat (first | (with_reducible first | exact HB.out | apply z4 | apply z1 | apply z3 | refine z7 ?_ GE225.out) | exact HB.out)))); have n1_ := z2.mk (z9 (g := gb225) (o := .cells #[.bool true, .int .i64 a0_1, .slice A0_2 l0_2.length c0_2, .int .i64 a0_3] 33 (0, 0)) (by (with_reducible repeat (first | refine z5 ?_ _ | refine y6 ?_ | refine y4 ?_ _)); exact BK225.out) hb); have n2_ := z2.mk (y8 (by repeat (first | (with_reducible first | exact HB.out | apply z4 | apply z1 | apply z3 | refine z7 ?_ GE225.out) | exact HB.out)) hb); clear BK225 HB; have HO228 := n0_; have BK225 := n1_; have HB := n2_; clear n0_ n1_ n2_ hb ho8; have hcz9_0 : w7.cell? ⟨gb225, 0, none⟩ = some (.bool true) := (z6 BK225.out 0).trans rfl; have hcz9_1 : w7.cell? ⟨gb225, 1, none⟩ = some (.int .i64 a0_1) := (z6 BK225.out 1).trans rfl; have hcz9_2 : w7.cell? ⟨gb225, 2, none⟩ = some (.slice A0_2 l0_2.length c0_2) := (z6 BK225.out 2).trans rfl; have hcz9_3 : w7.cell? ⟨gb225, 3, none⟩ = some (.int .i64 a0_3) := (z6 BK225.out 3).trans rfl; have hfz9_0 := y5 BK225.out 0; have hfz9_1 := y5 BK225.out 1; have hfz9_2 := y5 BK225.out 2; have hfz9_3 := y5 BK225.out 3) | ((with_reducible refine qb (f := 102) rfl ?_); refine zm (some 8) rfl rfl Try.func102 (by kernel_rfl) rfl #[.agg #[.int .i64 a0_1, .slice A0_2 l0_2.length c0_2]] rfl (by (try simp only [List.map_toArray, List.map_cons, List.map_nil]); first | done | rfl | (simp only [List.length_drop, List.length_take]; rfl)) ?_; (with_reducible refine (ql.calls k a0_1 _ _ l0_2 t229 _ ?side1 ?side2 A3.out).mono ?_); (case side1 => repeat (first | exact (Kd.yp HR0_2.out HB.out) | (with_reducible refine Kd.yi ?_ _) | (with_reducible refine Kd.qi ?_ _) | (with_reducible refine Kd.C_drew ?_))); (case side2 => exact HC0_2.out); rintro e w10 ⟨v230, rfl, ho0, hb⟩; refine ⟨_, rfl, ?_⟩; have n0_ := z2.mk (Kd.qu (by (with_reducible repeat (first | apply Kd.R_alloc | apply Kd.y9 | apply Kd.zb)); exact HO228.out) (Kd.z00 ho0) hb); have n1_ := z2.mk (Kd.yr (Kd.y00 ho0 (Kd.q0e (by (with_reducible repeat (first | apply Kd.R_alloc | apply Kd.y9 | apply Kd.zb)); exact HO228.out))) (z8 (by repeat (first | (with_reducible first | exact HB.out | apply z4 | apply z1 | apply z3 | refine z7 ?_ GE225.out) | exact HB.out)))); have n2_ := z2.mk (z9 (g := gb225) (o := .cells #[.bool true, .int .i64 a0_1, .slice A0_2 l0_2.length c0_2, .int .i64 a0_3] 33 (0, 0)) (by (with_reducible repeat (first | refine z5 ?_ _ | refine y6 ?_ | refine y4 ?_ _)); exact BK225.out) hb); have n3_ := z2.mk (y8 (by repeat (first | (with_reducible first | exact HB.out | apply z4 | apply z1 | apply z3 | refine z7 ?_ GE225.out) | exact HB.out)) hb); clear HO228 BK225 HB; have HO228 := n0_; have HO231 := n1_; have BK225 := n2_; have HB := n3_; clear n0_ n1_ n2_ n3_; (try clear hb); (try clear hb2); (try clear hk); (try clear hi); (try clear ho0); obtain ⟨Ao12, co12, eo12⟩ := Kd.zt HO231.out; subst eo12) | ((with_reducible refine z03 (b := .append) (xs := #[.tmp 5, .tmp 8]) rfl ?_); at_builtin; refine Kd.z07 (Kd.int .u8) (w0 := w) w.heap.size rfl (.tmp 5) (.tmp 8) 37 5 (.int .u8 0) 1 rfl Try.underlying37 y0f rfl (by decide) (by omega) v227 y226 t229 _ _ _ (fun k_ => some k_ ≠ (.slice Ao12 t229.length co12 : Value).ownBlock) (fun _ => False) rfl rfl ?aO ?aR (fun _ _ h => h) (fun _ h => h.elim) ?aF ?aB ?aS ?aL ?_; (case aR => repeat (first | exact (Kd.qd HO231.out).2.2 | (with_reducible refine Kd.yi ?_ _) | (with_reducible refine Kd.qi ?_ _) | (with_reducible refine Kd.C_drew ?_))); (case aB => exact (by repeat (first | (with_reducible first | exact HB.out | apply z4 | apply z1 | apply z3 | refine z7 ?_ GE225.out) | exact HB.out))); (case aF => exact (fun k_ hk => Kd.z0g (Kd.q0e (by (with_reducible repeat (first | apply Kd.R_alloc | apply Kd.y9 | apply Kd.zb)); exact HO231.out)) k_ hk)); (case aO => exact (by (with_reducible repeat (first | apply Kd.R_alloc | apply Kd.y9 | apply Kd.zb)); exact Kd.yk HO228.out (fun _ hk => hk.2))); (case aS => exact (z8 (by repeat (first | (with_reducible first | exact HB.out | apply z4 | apply z1 | apply z3 | refine z7 ?_ GE225.out) | exact HB.out)))); (case aL => have := LMc4.out; omega); intro v233 w11 ho hb hg hat; rw [← Ny232.out] at ho; have n0_ := z2.mk (yy (g := gb225) (o := .cells #[.bool true, .int .i64 a0_1, .slice A0_2 l0_2.length c0_2, .int .i64 a0_3] 33 (0, 0)) (by (with_reducible repeat (first | refine z5 ?_ _ | refine y6 ?_ | refine y4 ?_ _)); exact BK225.out) hg (Kd.y0k HO228.out BK225.out (by decide))); have n1_ := z2.mk (Kd.q09 (ok := (fun _ => True)) (by (with_reducible repeat (first | apply Kd.R_alloc | apply Kd.y9 | apply Kd.zb)); exact HO231.out) hg hat); have n2_ := z2.mk (hb); have n3_ := z2.mk (ho); clear BK225 HO231 HB HO228; have BK225 := n0_; have HO231 := n1_; have HB := n2_; have HO234 := n3_; clear n0_ n1_ n2_ n3_ ho hb hg hat))
   go_ret
   exact ⟨_, by first | rfl | (simp [ya, qa] <;> rfl) | (simp [*, ya, qa] <;> rfl), by (with_reducible repeat (first | apply Kd.R_alloc | apply Kd.y9 | apply Kd.zb)); exact Kd.yk HO234.out (fun _ hk => trivial), by repeat (first | (with_reducible first | exact HB.out | apply z4 | apply z1 | apply z3 | refine z7 ?_ GE225.out) | exact HB.out)⟩
  ·rw [if_neg c4] at H
   exact absurd H (by simp)
 ·replace c2 := Bool.eq_false_iff.mpr c2
  subst c2
  have H1 : ((some (([2] : List Int) : List Int)).bind fun y235 => ((yh.f k a0_1).bind fun t238 => (if y235.length + t238.length < 140737488355328 then ((some (y235 ++ t238 : List Int)).bind fun y241 => ((some (([(a0_3) % 256] : List Int) : List Int)).bind fun y244 => (if y241.length + y244.length < 140737488355328 then (some (y241 ++ y244)) else (none)))) else (none)))) = some r := by rw [if_neg (show ¬ (false = true) by decide)] at H; exact H
  clear H
  have H := H1
  clear H1
  obtain ⟨y235, hy235⟩ : ∃ y_ : List Int, y_ = (([2] : List Int)) := ⟨_, rfl⟩
  replace H : ((yh.f k a0_1).bind fun t238 => (if y235.length + t238.length < 140737488355328 then ((some (y235 ++ t238 : List Int)).bind fun y241 => ((some (([(a0_3) % 256] : List Int) : List Int)).bind fun y244 => (if y241.length + y244.length < 140737488355328 then (some (y241 ++ y244)) else (none)))) else (none))) = some r := by first | (rw [hy235]; with_reducible exact H) | (have H2_ := (Option.bind_some _ _).symm.trans H; rw [hy235]; with_reducible exact H2_) | (have H2_ := (Option.bind_some _ _).symm.trans H; with_reducible exact H2_) | with_reducible exact H | (rw [hy235]; exact H) | exact H
  have Ny235 := z2.mk hy235
  clear hy235
  replace H := Option.bind_eq_some_iff.mp H
  obtain ⟨t238, A130, H⟩ := H
  replace H : (if y235.length + t238.length < 140737488355328 then ((some (y235 ++ t238 : List Int)).bind fun y241 => ((some (([(a0_3) % 256] : List Int) : List Int)).bind fun y244 => (if y241.length + y244.length < 140737488355328 then (some (y241 ++ y244)) else (none)))) else (none)) = some r := H
  have A13 := z2.mk A130
  clear A130
  by_cases c14 : y235.length + t238.length < 140737488355328
  ·rw [if_pos c14] at H
   have LMc14 := z2.mk c14
   clear c14
   obtain ⟨y241, hy241⟩ : ∃ y_ : List Int, y_ = (y235 ++ t238) := ⟨_, rfl⟩
   replace H : ((some (([(a0_3) % 256] : List Int) : List Int)).bind fun y244 => (if y241.length + y244.length < 140737488355328 then (some (y241 ++ y244)) else (none))) = some r := by first | (rw [hy241]; with_reducible exact H) | (have H2_ := (Option.bind_some _ _).symm.trans H; rw [hy241]; with_reducible exact H2_) | (have H2_ := (Option.bind_some _ _).symm.trans H; with_reducible exact H2_) | with_reducible exact H | (rw [hy241]; exact H) | exact H
   have Ny241 := z2.mk hy241
   clear hy241
   obtain ⟨y244, hy244⟩ : ∃ y_ : List Int, y_ = (([(a0_3) % 256] : List Int)) := ⟨_, rfl⟩
   replace H : (if y241.length + y244.length < 140737488355328 then (some (y241 ++ y244)) else (none)) = some r := by first | (rw [hy244]; with_reducible exact H) | (have H2_ := (Option.bind_some _ _).symm.trans H; rw [hy244]; with_reducible exact H2_) | (have H2_ := (Option.bind_some _ _).symm.trans H; with_reducible exact H2_) | with_reducible exact H | (rw [hy244]; exact H) | exact H
   have Ny244 := z2.mk hy244
   clear hy244
   by_cases c15 : y241.length + y244.length < 140737488355328
   ·rw [if_pos c15] at H
    have LMc15 := z2.mk c15
    clear c15
    obtain ⟨y247, hy247⟩ : ∃ y_ : List Int, y_ = (y241 ++ y244) := ⟨_, rfl⟩
    replace H : (some y247) = some r := by first | (rw [hy247]; with_reducible exact H) | (have H2_ := (Option.bind_some _ _).symm.trans H; rw [hy247]; with_reducible exact H2_) | (have H2_ := (Option.bind_some _ _).symm.trans H; with_reducible exact H2_) | with_reducible exact H | (rw [hy247]; exact H) | exact H
    have Ny247 := z2.mk hy247
    clear hy247
    obtain rfl := Option.some.inj H
    go_enter Try.func54, Try.ntmps54
    try go_wp2_with (first | ((with_reducible refine ye (N := 1) rfl ?_); refine ze ?hg (N := 1) ?hd (cs := #[.bool false, .int .i64 a0_1, .slice A0_2 l0_2.length c0_2, .int .i64 a0_3]) (t := 33) ?hr ?_; (case hd => rfl); (case hg => rfl); (case hr => first | (go_simp; done) | (go_simp; rfl)); intro gb225 hg w16 hbox hb; have n0_ := z2.mk (y8 (by repeat (first | (with_reducible first | exact HB.out | apply z4 | apply z1 | apply z3) | exact HB.out)) hb); have n1_ := z2.mk (hbox); have n2_ := z2.mk ((by rw [hg]; exact (z8 (by repeat (first | (with_reducible first | exact HB.out | apply z4 | apply z1 | apply z3) | exact HB.out))) : w.heap.size ≤ gb225)); have n3_ := z2.mk ((by rw [hg]; exact (z8 (by repeat (first | (with_reducible first | exact HB.out | apply z4 | apply z1 | apply z3) | exact HB.out))) : w.heap.size ≤ gb225)); clear HB; have HB := n0_; have BK225 := n1_; have GW225 := n2_; have GE225 := n3_; clear n0_ n1_ n2_ n3_ hb hbox hg; have hcz17_0 : w16.cell? ⟨gb225, 0, none⟩ = some (.bool false) := (z6 BK225.out 0).trans rfl; have hcz17_1 : w16.cell? ⟨gb225, 1, none⟩ = some (.int .i64 a0_1) := (z6 BK225.out 1).trans rfl; have hcz17_2 : w16.cell? ⟨gb225, 2, none⟩ = some (.slice A0_2 l0_2.length c0_2) := (z6 BK225.out 2).trans rfl; have hcz17_3 : w16.cell? ⟨gb225, 3, none⟩ = some (.int .i64 a0_3) := (z6 BK225.out 3).trans rfl; have hfz17_0 := y5 BK225.out 0; have hfz17_1 := y5 BK225.out 1; have hfz17_2 := y5 BK225.out 2; have hfz17_3 := y5 BK225.out 3))
    have n0_ := z2.mk (y6 BK225.out)
    have n1_ := z2.mk (z3 HB.out)
    clear BK225
    clear HB
    have BK225 := n0_
    have HB := n1_
    clear n0_ n1_
    refine z0f (n := 12) (S := fun w' => w'.cell? ⟨gb225, 0, none⟩ = some (.bool false) ∧ w'.cell? ⟨gb225, 1, none⟩ = some (.int .i64 a0_1) ∧ w'.cell? ⟨gb225, 2, none⟩ = some (.slice A0_2 l0_2.length c0_2) ∧ w'.cell? ⟨gb225, 3, none⟩ = some (.int .i64 a0_3)) (ds := []) #[false, false, false, false, false, false, false, false, false, false, false, false] (by kernel_rfl) rfl rfl ⟨(z6 BK225.out 0).trans rfl, (z6 BK225.out 1).trans rfl, (z6 BK225.out 2).trans rfl, (z6 BK225.out 3).trans rfl⟩ (fun hHeld => ?_); refine q03 yv.q2x yv.y2s (fun HT_ HW_ => ?_)
    generalize w16.drew = w18 at BK225 HB hHeld ⊢
    refine yo (i := 1) (N := some 11) (v := ?_) (a' := ?_) #[false, true, false, false, false, false, false, false, false, false, false, false] rfl rfl (qj HT_.out (by kernel_rfl)) (fun _ _ _ h => h) (Or.inl ⟨by rfl, ?_⟩) ?_ ?_
    rotate_left
    ·intro w'
     go_simp
     with_reducible rfl
    rotate_left
    ·simp only [Act.put, List.setIfInBounds_toArray, List.set_cons_zero, List.set_cons_succ, yg, qg]
     rfl
    refine yo (i := 2) (N := some 12) (v := ?_) (a' := ?_) #[false, true, true, false, false, false, false, false, false, false, false, false] rfl rfl (qj HT_.out (by kernel_rfl)) (fun _ _ _ h => h) (Or.inl ⟨by rfl, ?_⟩) ?_ ?_
    rotate_left
    ·intro w'
     go_simp
     with_reducible rfl
    rotate_left
    ·simp only [Act.put, List.setIfInBounds_toArray, List.set_cons_zero, List.set_cons_succ, yg, qg]
     rfl
    refine yo (i := 6) (N := some 16) (v := ?_) (a' := ?_) #[false, true, true, false, false, false, true, false, false, false, false, false] rfl rfl (qj HT_.out (by kernel_rfl)) (fun _ _ _ h => h) (Or.inl ⟨by rfl, ?_⟩) ?_ ?_
    rotate_left
    ·intro w'
     go_simp
     with_reducible rfl
    rotate_left
    ·simp only [Act.put, List.setIfInBounds_toArray, List.set_cons_zero, List.set_cons_succ, yg, qg]
     rfl
    refine y04 (i := 3) (N := some 13) (v := ?_) (a' := ?_) #[false, true, true, true, false, false, true, false, false, false, false, false] rfl rfl (zv HT_.out HW_.out (by kernel_rfl)) (fun _ _ _ h => h) (Or.inl ⟨by rfl, ?_⟩) hHeld ?_ ?_
    rotate_left
    ·rintro w' ⟨s0, s1, s2, s3⟩
     go_simp
     with_reducible rfl
    rotate_left
    ·simp only [Act.put, List.setIfInBounds_toArray, List.set_cons_zero, List.set_cons_succ, yg, qg]
     rfl
    refine y04 (i := 7) (N := some 17) (v := ?_) (a' := ?_) #[false, true, true, true, false, false, true, true, false, false, false, false] rfl rfl (zv HT_.out HW_.out (by kernel_rfl)) (fun _ _ _ h => h) (Or.inl ⟨by rfl, ?_⟩) hHeld ?_ ?_
    rotate_left
    ·rintro w' ⟨s0, s1, s2, s3⟩
     go_simp
     with_reducible rfl
    rotate_left
    ·simp only [Act.put, List.setIfInBounds_toArray, List.set_cons_zero, List.set_cons_succ, yg, qg]
     rfl
    refine yo (i := 8) (N := some 18) (v := ?_) (a' := ?_) #[false, true, true, true, false, false, true, true, true, false, false, false] rfl rfl (qj HT_.out (by kernel_rfl)) (fun _ _ _ h => h) (Or.inl ⟨by rfl, ?_⟩) ?_ ?_
    rotate_left
    ·intro w'
     go_simp
     with_reducible rfl
    rotate_left
    ·simp only [Act.put, List.setIfInBounds_toArray, List.set_cons_zero, List.set_cons_succ, yg, qg]
     rfl
    refine q1a (σ := Value × Value × Value × Value) 2 #[true, true, true, true, true, true, true, true, true, true, false, false] (fun s_ => [(10, s_.1), (14, s_.2.1), (15, s_.2.2.1), (19, s_.2.2.2)]) (fun s_ w' => (w'.cell? ⟨gb225, 0, none⟩ = some (.bool false) ∧ w'.cell? ⟨gb225, 1, none⟩ = some (.int .i64 a0_1) ∧ w'.cell? ⟨gb225, 2, none⟩ = some (.slice A0_2 l0_2.length c0_2) ∧ w'.cell? ⟨gb225, 3, none⟩ = some (.int .i64 a0_3)) ∧ (Kd.R (Kd.int .u8) 5 w' w.heap.size (fun k_ => some k_ ≠ (s_.2.2.1 : Value).ownBlock ∧ some k_ ≠ (s_.2.2.2 : Value).ownBlock) s_.2.1 t238) ∧ (Kd.R (Kd.int .u8) 5 w' w.heap.size (fun k_ => some k_ ≠ (s_.2.1 : Value).ownBlock ∧ some k_ ≠ (s_.2.2.2 : Value).ownBlock) s_.2.2.1 y241) ∧ (Kd.R (Kd.int .u8) 5 w' w.heap.size (fun k_ => some k_ ≠ (s_.2.1 : Value).ownBlock ∧ some k_ ≠ (s_.2.2.1 : Value).ownBlock) s_.2.2.2 y244) ∧ (w'.heap[gb225]? = some (.cells #[.bool false, .int .i64 a0_1, .slice A0_2 l0_2.length c0_2, .int .i64 a0_3] 33 (0, 0))) ∧ (Below w.heap.size w w')) ?_ ?_
    rotate_left
    ·intro hJ0_4_5_9
     refine q1a (σ := Value × Value × Value) 3 #[true, true, true, true, true, true, true, true, true, false, false, false] (fun s_ => [(10, s_.1), (14, s_.2.1), (15, s_.2.2)]) (fun s_ w' => (w'.cell? ⟨gb225, 0, none⟩ = some (.bool false) ∧ w'.cell? ⟨gb225, 1, none⟩ = some (.int .i64 a0_1) ∧ w'.cell? ⟨gb225, 2, none⟩ = some (.slice A0_2 l0_2.length c0_2) ∧ w'.cell? ⟨gb225, 3, none⟩ = some (.int .i64 a0_3)) ∧ (Kd.R (Kd.int .u8) 5 w' w.heap.size (fun k_ => some k_ ≠ (s_.2.2 : Value).ownBlock) s_.2.1 t238) ∧ (Kd.R (Kd.int .u8) 5 w' w.heap.size (fun k_ => some k_ ≠ (s_.2.1 : Value).ownBlock) s_.2.2 y241) ∧ (w'.heap[gb225]? = some (.cells #[.bool false, .int .i64 a0_1, .slice A0_2 l0_2.length c0_2, .int .i64 a0_3] 33 (0, 0))) ∧ (Below w.heap.size w w')) ?_ ?_
     rotate_left
     ·intro hJ0_4_5
      refine q1a (σ := Value × Value × Value) 3 #[true, true, true, true, true, false, true, true, true, true, false, false] (fun s_ => [(10, s_.1), (14, s_.2.1), (19, s_.2.2)]) (fun s_ w' => (w'.cell? ⟨gb225, 0, none⟩ = some (.bool false) ∧ w'.cell? ⟨gb225, 1, none⟩ = some (.int .i64 a0_1) ∧ w'.cell? ⟨gb225, 2, none⟩ = some (.slice A0_2 l0_2.length c0_2) ∧ w'.cell? ⟨gb225, 3, none⟩ = some (.int .i64 a0_3)) ∧ (Kd.R (Kd.int .u8) 5 w' w.heap.size (fun k_ => some k_ ≠ (s_.2.1 : Value).ownBlock ∧ some k_ ≠ (s_.2.2 : Value).ownBlock) s_.1 y235) ∧ (Kd.R (Kd.int .u8) 5 w' w.heap.size (fun k_ => some k_ ≠ (s_.1 : Value).ownBlock ∧ some k_ ≠ (s_.2.2 : Value).ownBlock) s_.2.1 t238) ∧ (Kd.R (Kd.int .u8) 5 w' w.heap.size (fun k_ => some k_ ≠ (s_.1 : Value).ownBlock ∧ some k_ ≠ (s_.2.1 : Value).ownBlock) s_.2.2 y244) ∧ (w'.heap[gb225]? = some (.cells #[.bool false, .int .i64 a0_1, .slice A0_2 l0_2.length c0_2, .int .i64 a0_3] 33 (0, 0))) ∧ (Below w.heap.size w w')) ?_ ?_
      rotate_left
      ·intro hJ0_4_9
       refine q1a (σ := Value × Value) 4 #[true, true, true, true, true, false, true, true, true, false, false, false] (fun s_ => [(10, s_.1), (14, s_.2)]) (fun s_ w' => (w'.cell? ⟨gb225, 0, none⟩ = some (.bool false) ∧ w'.cell? ⟨gb225, 1, none⟩ = some (.int .i64 a0_1) ∧ w'.cell? ⟨gb225, 2, none⟩ = some (.slice A0_2 l0_2.length c0_2) ∧ w'.cell? ⟨gb225, 3, none⟩ = some (.int .i64 a0_3)) ∧ (Kd.R (Kd.int .u8) 5 w' w.heap.size (fun k_ => some k_ ≠ (s_.2 : Value).ownBlock) s_.1 y235) ∧ (Kd.R (Kd.int .u8) 5 w' w.heap.size (fun k_ => some k_ ≠ (s_.1 : Value).ownBlock) s_.2 t238) ∧ (w'.heap[gb225]? = some (.cells #[.bool false, .int .i64 a0_1, .slice A0_2 l0_2.length c0_2, .int .i64 a0_3] 33 (0, 0))) ∧ (Below w.heap.size w w')) ?_ ?_
       rotate_left
       ·intro hJ0_4
        refine q1a (σ := Value × Value) 4 #[true, true, true, true, false, false, true, true, true, true, false, false] (fun s_ => [(10, s_.1), (19, s_.2)]) (fun s_ w' => (w'.cell? ⟨gb225, 0, none⟩ = some (.bool false) ∧ w'.cell? ⟨gb225, 1, none⟩ = some (.int .i64 a0_1) ∧ w'.cell? ⟨gb225, 2, none⟩ = some (.slice A0_2 l0_2.length c0_2) ∧ w'.cell? ⟨gb225, 3, none⟩ = some (.int .i64 a0_3)) ∧ (Kd.R (Kd.int .u8) 5 w' w.heap.size (fun k_ => some k_ ≠ (s_.2 : Value).ownBlock) s_.1 y235) ∧ (Kd.R (Kd.int .u8) 5 w' w.heap.size (fun k_ => some k_ ≠ (s_.1 : Value).ownBlock) s_.2 y244) ∧ (w'.heap[gb225]? = some (.cells #[.bool false, .int .i64 a0_1, .slice A0_2 l0_2.length c0_2, .int .i64 a0_3] 33 (0, 0))) ∧ (Below w.heap.size w w')) ?_ ?_
        rotate_left
        ·intro hJ0_9
         refine q1a (σ := Value × Value) 4 #[false, true, true, true, true, false, true, true, true, true, false, false] (fun s_ => [(14, s_.1), (19, s_.2)]) (fun s_ w' => (w'.cell? ⟨gb225, 0, none⟩ = some (.bool false) ∧ w'.cell? ⟨gb225, 1, none⟩ = some (.int .i64 a0_1) ∧ w'.cell? ⟨gb225, 2, none⟩ = some (.slice A0_2 l0_2.length c0_2) ∧ w'.cell? ⟨gb225, 3, none⟩ = some (.int .i64 a0_3)) ∧ (Kd.R (Kd.int .u8) 5 w' w.heap.size (fun k_ => some k_ ≠ (s_.2 : Value).ownBlock) s_.1 t238) ∧ (Kd.R (Kd.int .u8) 5 w' w.heap.size (fun k_ => some k_ ≠ (s_.1 : Value).ownBlock) s_.2 y244) ∧ (w'.heap[gb225]? = some (.cells #[.bool false, .int .i64 a0_1, .slice A0_2 l0_2.length c0_2, .int .i64 a0_3] 33 (0, 0))) ∧ (Below w.heap.size w w')) ?_ ?_
         rotate_left
         ·intro hJ4_9
          refine q1a (σ := Value) 5 #[true, true, true, true, false, false, true, true, true, false, false, false] (fun s_ => [(10, s_)]) (fun s_ w' => (w'.cell? ⟨gb225, 0, none⟩ = some (.bool false) ∧ w'.cell? ⟨gb225, 1, none⟩ = some (.int .i64 a0_1) ∧ w'.cell? ⟨gb225, 2, none⟩ = some (.slice A0_2 l0_2.length c0_2) ∧ w'.cell? ⟨gb225, 3, none⟩ = some (.int .i64 a0_3)) ∧ (Kd.R (Kd.int .u8) 5 w' w.heap.size (fun _ => True) s_ y235) ∧ (w'.heap[gb225]? = some (.cells #[.bool false, .int .i64 a0_1, .slice A0_2 l0_2.length c0_2, .int .i64 a0_3] 33 (0, 0))) ∧ (Below w.heap.size w w')) ?_ ?_
          rotate_left
          ·intro hJ0
           refine q1a (σ := Value) 5 #[false, true, true, true, true, false, true, true, true, false, false, false] (fun s_ => [(14, s_)]) (fun s_ w' => (w'.cell? ⟨gb225, 0, none⟩ = some (.bool false) ∧ w'.cell? ⟨gb225, 1, none⟩ = some (.int .i64 a0_1) ∧ w'.cell? ⟨gb225, 2, none⟩ = some (.slice A0_2 l0_2.length c0_2) ∧ w'.cell? ⟨gb225, 3, none⟩ = some (.int .i64 a0_3)) ∧ (Kd.R (Kd.int .u8) 5 w' w.heap.size (fun _ => True) s_ t238) ∧ (w'.heap[gb225]? = some (.cells #[.bool false, .int .i64 a0_1, .slice A0_2 l0_2.length c0_2, .int .i64 a0_3] 33 (0, 0))) ∧ (Below w.heap.size w w')) ?_ ?_
           rotate_left
           ·intro hJ4
            refine q1a (σ := Value) 5 #[false, true, true, true, false, false, true, true, true, true, false, false] (fun s_ => [(19, s_)]) (fun s_ w' => (w'.cell? ⟨gb225, 0, none⟩ = some (.bool false) ∧ w'.cell? ⟨gb225, 1, none⟩ = some (.int .i64 a0_1) ∧ w'.cell? ⟨gb225, 2, none⟩ = some (.slice A0_2 l0_2.length c0_2) ∧ w'.cell? ⟨gb225, 3, none⟩ = some (.int .i64 a0_3)) ∧ (Kd.R (Kd.int .u8) 5 w' w.heap.size (fun _ => True) s_ y244) ∧ (w'.heap[gb225]? = some (.cells #[.bool false, .int .i64 a0_1, .slice A0_2 l0_2.length c0_2, .int .i64 a0_3] 33 (0, 0))) ∧ (Below w.heap.size w w')) ?_ ?_
            rotate_left
            ·intro hJ9
             refine y2p (i := 0) (j := 4) (k := 9) (Ni := some 10) (Nj := some 14) (Nk := some 19) #[true, true, true, true, false, false, true, true, true, false, false, false] #[false, true, true, true, true, false, true, true, true, false, false, false] #[false, true, true, true, false, false, true, true, true, true, false, false] rfl rfl rfl rfl rfl rfl (y2b HT_.out (by kernel_rfl)) (by decide) (by decide) (by decide) (fun K hK => ?_) (fun K hK => ?_) (fun K hK => ?_)
             ·skip
              refine Kd.y09 (Kd.int .u8) _ 5 ?hg (N := 10) ?hd (xs := ([2] : List Int)) (inner := [.int .u8 2]) (ok := fun _ => True) (okp := fun _ => True) ?hr ?hp (fun _ hk => hk) trivial (Below.refl _ _) (Nat.le_refl _) (by simp) ?_; (case hd => rfl); (case hg => rfl); (case hr => first | (go_simp; done) | (go_simp; rfl)); (case hp => exact (z0b.one (show Kd.M (Kd.int .u8) _ _ _ 2 [.int .u8 2] from rfl) (z0b.none _ _)))
              intro v236 w19 ho20 hb hg_ hnew_
              clear hg_ hnew_
              (first | rw [← Ny235.out] at ho20 | (simp only [Int.reduceToNat] at ho20; rw [← Ny235.out] at ho20))
              have n0_ := z2.mk (Kd.yr ho20 (z8 (by repeat (first | (with_reducible first | exact HB.out | apply z4 | apply z1 | apply z3 | refine z7 ?_ GE225.out) | exact HB.out))))
              have n1_ := z2.mk (z9 (g := gb225) (o := .cells #[.bool false, .int .i64 a0_1, .slice A0_2 l0_2.length c0_2, .int .i64 a0_3] 33 (0, 0)) (by (with_reducible repeat (first | refine z5 ?_ _ | refine y6 ?_ | refine y4 ?_ _)); exact BK225.out) hb)
              have n2_ := z2.mk (y8 (by repeat (first | (with_reducible first | exact HB.out | apply z4 | apply z1 | apply z3 | refine z7 ?_ GE225.out) | exact HB.out)) hb)
              clear BK225
              clear HB
              have HO237 := n0_
              have BK225 := n1_
              have HB := n2_
              clear n0_ n1_ n2_
              clear hb ho20
              refine hK.out _ _ ⟨(z6 BK225.out 0).trans rfl, (z6 BK225.out 1).trans rfl, (z6 BK225.out 2).trans rfl, (z6 BK225.out 3).trans rfl⟩ (fun hHeld => ?_)
              clear hK K
              refine zx (a' := ?_) ?_ ?_
              rotate_left
              ·show Act.put _ (some 10) _ = _
               simp only [Act.put, List.setIfInBounds_toArray, List.set_cons_zero, List.set_cons_succ, yg, qg]
               rfl
              exact zx (by first | (simp only [qw, Act.put, List.setIfInBounds_toArray, List.set_cons_zero, List.set_cons_succ]; done) | (simp only [qw, Act.put, List.setIfInBounds_toArray, List.set_cons_zero, List.set_cons_succ]; rfl)) (hJ0 (v236) _ ⟨hHeld, (by (with_reducible repeat (first | apply Kd.R_alloc | apply Kd.y9 | apply Kd.zb)); exact HO237.out), (by (with_reducible repeat (first | refine z5 ?_ _ | refine y6 ?_ | refine y4 ?_ _)); exact BK225.out), (by repeat (first | (with_reducible first | exact HB.out | apply z4 | apply z1 | apply z3 | refine z7 ?_ GE225.out) | exact HB.out))⟩)
             ·skip
              refine y0g Try.func103 (by kernel_rfl) rfl #[.int .i64 a0_1] (by rfl) rfl rfl (by (try simp only [List.map_toArray, List.map_cons, List.map_nil]); first | done | rfl | (simp only [List.length_drop, List.length_take]; rfl)) ?_
              with_reducible refine (yh.calls k a0_1 t238 _ A13.out).mono ?_
              rintro e w19 ⟨v239, rfl, ho0, hb⟩
              refine ⟨_, rfl, ?_⟩
              have n0_ := z2.mk (Kd.yr ho0 (z8 (by repeat (first | (with_reducible first | exact HB.out | apply z4 | apply z1 | apply z3 | refine z7 ?_ GE225.out) | exact HB.out))))
              have n1_ := z2.mk (z9 (g := gb225) (o := .cells #[.bool false, .int .i64 a0_1, .slice A0_2 l0_2.length c0_2, .int .i64 a0_3] 33 (0, 0)) (by (with_reducible repeat (first | refine z5 ?_ _ | refine y6 ?_ | refine y4 ?_ _)); exact BK225.out) hb)
              have n2_ := z2.mk (y8 (by repeat (first | (with_reducible first | exact HB.out | apply z4 | apply z1 | apply z3 | refine z7 ?_ GE225.out) | exact HB.out)) hb)
              clear BK225
              clear HB
              have HO240 := n0_
              have BK225 := n1_
              have HB := n2_
              clear n0_ n1_ n2_
              (try clear hb)
              (try clear hb2)
              (try clear hk)
              (try clear hi)
              (try clear ho0)
              refine hK.out _ _ ⟨(z6 BK225.out 0).trans rfl, (z6 BK225.out 1).trans rfl, (z6 BK225.out 2).trans rfl, (z6 BK225.out 3).trans rfl⟩ (fun hHeld => ?_)
              clear hK K
              refine zx (a' := ?_) ?_ ?_
              rotate_left
              ·show Act.put _ (some 14) _ = _
               simp only [Act.put, List.setIfInBounds_toArray, List.set_cons_zero, List.set_cons_succ, yg, qg]
               rfl
              exact zx (by first | (simp only [qw, Act.put, List.setIfInBounds_toArray, List.set_cons_zero, List.set_cons_succ]; done) | (simp only [qw, Act.put, List.setIfInBounds_toArray, List.set_cons_zero, List.set_cons_succ]; rfl)) (hJ4 (v239) _ ⟨hHeld, (by (with_reducible repeat (first | apply Kd.R_alloc | apply Kd.y9 | apply Kd.zb)); exact HO240.out), (by (with_reducible repeat (first | refine z5 ?_ _ | refine y6 ?_ | refine y4 ?_ _)); exact BK225.out), (by repeat (first | (with_reducible first | exact HB.out | apply z4 | apply z1 | apply z3 | refine z7 ?_ GE225.out) | exact HB.out))⟩)
             ·skip
              refine Kd.y09 (Kd.int .u8) _ 5 ?hg (N := 19) ?hd (xs := ([(a0_3) % 256] : List Int)) (inner := [.int .u8 ((a0_3) % 256)]) (ok := fun _ => True) (okp := fun _ => True) ?hr ?hp (fun _ hk => hk) trivial (Below.refl _ _) (Nat.le_refl _) (by simp) ?_; (case hd => rfl); (case hg => rfl); (case hr => first | (go_simp; done) | (go_simp; rfl)); (case hp => exact (z0b.one (show Kd.M (Kd.int .u8) _ _ _ ((a0_3) % 256) [.int .u8 ((a0_3) % 256)] from rfl) (z0b.none _ _)))
              intro v245 w19 ho20 hb hg_ hnew_
              clear hg_ hnew_
              (first | rw [← Ny244.out] at ho20 | (simp only [Int.reduceToNat] at ho20; rw [← Ny244.out] at ho20))
              have n0_ := z2.mk (Kd.yr ho20 (z8 (by repeat (first | (with_reducible first | exact HB.out | apply z4 | apply z1 | apply z3 | refine z7 ?_ GE225.out) | exact HB.out))))
              have n1_ := z2.mk (z9 (g := gb225) (o := .cells #[.bool false, .int .i64 a0_1, .slice A0_2 l0_2.length c0_2, .int .i64 a0_3] 33 (0, 0)) (by (with_reducible repeat (first | refine z5 ?_ _ | refine y6 ?_ | refine y4 ?_ _)); exact BK225.out) hb)
              have n2_ := z2.mk (y8 (by repeat (first | (with_reducible first | exact HB.out | apply z4 | apply z1 | apply z3 | refine z7 ?_ GE225.out) | exact HB.out)) hb)
              clear BK225
              clear HB
              have HO246 := n0_
              have BK225 := n1_
              have HB := n2_
              clear n0_ n1_ n2_
              clear hb ho20
              refine hK.out _ _ ⟨(z6 BK225.out 0).trans rfl, (z6 BK225.out 1).trans rfl, (z6 BK225.out 2).trans rfl, (z6 BK225.out 3).trans rfl⟩ (fun hHeld => ?_)
              clear hK K
              refine zx (a' := ?_) ?_ ?_
              rotate_left
              ·show Act.put _ (some 19) _ = _
               simp only [Act.put, List.setIfInBounds_toArray, List.set_cons_zero, List.set_cons_succ, yg, qg]
               rfl
              exact zx (by first | (simp only [qw, Act.put, List.setIfInBounds_toArray, List.set_cons_zero, List.set_cons_succ]; done) | (simp only [qw, Act.put, List.setIfInBounds_toArray, List.set_cons_zero, List.set_cons_succ]; rfl)) (hJ9 (v245) _ ⟨hHeld, (by (with_reducible repeat (first | apply Kd.R_alloc | apply Kd.y9 | apply Kd.zb)); exact HO246.out), (by (with_reducible repeat (first | refine z5 ?_ _ | refine y6 ?_ | refine y4 ?_ _)); exact BK225.out), (by repeat (first | (with_reducible first | exact HB.out | apply z4 | apply z1 | apply z3 | refine z7 ?_ GE225.out) | exact HB.out))⟩)
            ·skip
             rintro v245 w21 ⟨hS_, h0_, h1_, h2_⟩
             have n0_ : z2 (Kd.R (Kd.int .u8) 5 w21 w.heap.size (fun _ => True) v245 y244) := ⟨h0_⟩
             have n1_ : z2 (w21.heap[gb225]? = some (.cells #[.bool false, .int .i64 a0_1, .slice A0_2 l0_2.length c0_2, .int .i64 a0_3] 33 (0, 0))) := ⟨h1_⟩
             have n2_ : z2 (Below w.heap.size w w21) := ⟨h2_⟩
             clear BK225
             clear HB
             clear h0_ h1_ h2_
             have HO246 := n0_
             have BK225 := n1_
             have HB := n2_
             clear n0_ n1_ n2_
             have hHeld : w21.cell? ⟨gb225, 0, none⟩ = some (.bool false) ∧ w21.cell? ⟨gb225, 1, none⟩ = some (.int .i64 a0_1) ∧ w21.cell? ⟨gb225, 2, none⟩ = some (.slice A0_2 l0_2.length c0_2) ∧ w21.cell? ⟨gb225, 3, none⟩ = some (.int .i64 a0_3) := hS_
             refine zx (a' := ?_) ?_ ?_
             rotate_left
             ·simp only [qw, Act.put, List.setIfInBounds_toArray, List.set_cons_zero, List.set_cons_succ]
              rfl
             refine q2q (i := 0) (j := 4) (Ni := some 10) (Nj := some 14) #[true, true, true, true, false, false, true, true, true, true, false, false] #[false, true, true, true, true, false, true, true, true, true, false, false] rfl rfl rfl rfl (q1o HT_.out (by kernel_rfl)) (by decide) (by decide) (fun K hK => ?_) (fun K hK => ?_)
             ·skip
              refine Kd.y09 (Kd.int .u8) _ 5 ?hg (N := 10) ?hd (xs := ([2] : List Int)) (inner := [.int .u8 2]) (ok := fun _ => True) (okp := fun _ => True) ?hr ?hp (fun _ hk => hk) trivial (Below.refl _ _) (Nat.le_refl _) (by simp) ?_; (case hd => rfl); (case hg => rfl); (case hr => first | (go_simp; done) | (go_simp; rfl)); (case hp => exact (z0b.one (show Kd.M (Kd.int .u8) _ _ _ 2 [.int .u8 2] from rfl) (z0b.none _ _)))
              intro v236 w22 ho23 hb hg_ hnew_
              clear hg_ hnew_
              (first | rw [← Ny235.out] at ho23 | (simp only [Int.reduceToNat] at ho23; rw [← Ny235.out] at ho23))
              have n0_ := z2.mk (Kd.qu (by (with_reducible repeat (first | apply Kd.R_alloc | apply Kd.y9 | apply Kd.zb)); exact HO246.out) (Kd.z00 ho23) hb)
              have n1_ := z2.mk (Kd.yr (Kd.y00 ho23 (Kd.q0e (by (with_reducible repeat (first | apply Kd.R_alloc | apply Kd.y9 | apply Kd.zb)); exact HO246.out))) (z8 (by repeat (first | (with_reducible first | exact HB.out | apply z4 | apply z1 | apply z3 | refine z7 ?_ GE225.out) | exact HB.out))))
              have n2_ := z2.mk (z9 (g := gb225) (o := .cells #[.bool false, .int .i64 a0_1, .slice A0_2 l0_2.length c0_2, .int .i64 a0_3] 33 (0, 0)) (by (with_reducible repeat (first | refine z5 ?_ _ | refine y6 ?_ | refine y4 ?_ _)); exact BK225.out) hb)
              have n3_ := z2.mk (y8 (by repeat (first | (with_reducible first | exact HB.out | apply z4 | apply z1 | apply z3 | refine z7 ?_ GE225.out) | exact HB.out)) hb)
              clear HO246
              clear BK225
              clear HB
              have HO246 := n0_
              have HO237 := n1_
              have BK225 := n2_
              have HB := n3_
              clear n0_ n1_ n2_ n3_
              clear hb ho23
              refine hK.out _ _ ⟨(z6 BK225.out 0).trans rfl, (z6 BK225.out 1).trans rfl, (z6 BK225.out 2).trans rfl, (z6 BK225.out 3).trans rfl⟩ (fun hHeld => ?_)
              clear hK K
              refine zx (a' := ?_) ?_ ?_
              rotate_left
              ·show Act.put _ (some 10) _ = _
               simp only [Act.put, List.setIfInBounds_toArray, List.set_cons_zero, List.set_cons_succ, yg, qg]
               rfl
              exact zx (by first | (simp only [qw, Act.put, List.setIfInBounds_toArray, List.set_cons_zero, List.set_cons_succ]; done) | (simp only [qw, Act.put, List.setIfInBounds_toArray, List.set_cons_zero, List.set_cons_succ]; rfl)) (hJ0_9 (v236, v245) _ ⟨hHeld, (by (with_reducible repeat (first | apply Kd.R_alloc | apply Kd.y9 | apply Kd.zb)); exact Kd.yk HO237.out (fun _ hk => hk.2)), (by (with_reducible repeat (first | apply Kd.R_alloc | apply Kd.y9 | apply Kd.zb)); exact Kd.yk HO246.out (fun _ hk => hk.2)), (by (with_reducible repeat (first | refine z5 ?_ _ | refine y6 ?_ | refine y4 ?_ _)); exact BK225.out), (by repeat (first | (with_reducible first | exact HB.out | apply z4 | apply z1 | apply z3 | refine z7 ?_ GE225.out) | exact HB.out))⟩)
             ·skip
              refine y0g Try.func103 (by kernel_rfl) rfl #[.int .i64 a0_1] (by rfl) rfl rfl (by (try simp only [List.map_toArray, List.map_cons, List.map_nil]); first | done | rfl | (simp only [List.length_drop, List.length_take]; rfl)) ?_
              with_reducible refine (yh.calls k a0_1 t238 _ A13.out).mono ?_
              rintro e w22 ⟨v239, rfl, ho0, hb⟩
              refine ⟨_, rfl, ?_⟩
              have n0_ := z2.mk (Kd.qu (by (with_reducible repeat (first | apply Kd.R_alloc | apply Kd.y9 | apply Kd.zb)); exact HO246.out) (Kd.z00 ho0) hb)
              have n1_ := z2.mk (Kd.yr (Kd.y00 ho0 (Kd.q0e (by (with_reducible repeat (first | apply Kd.R_alloc | apply Kd.y9 | apply Kd.zb)); exact HO246.out))) (z8 (by repeat (first | (with_reducible first | exact HB.out | apply z4 | apply z1 | apply z3 | refine z7 ?_ GE225.out) | exact HB.out))))
              have n2_ := z2.mk (z9 (g := gb225) (o := .cells #[.bool false, .int .i64 a0_1, .slice A0_2 l0_2.length c0_2, .int .i64 a0_3] 33 (0, 0)) (by (with_reducible repeat (first | refine z5 ?_ _ | refine y6 ?_ | refine y4 ?_ _)); exact BK225.out) hb)
              have n3_ := z2.mk (y8 (by repeat (first | (with_reducible first | exact HB.out | apply z4 | apply z1 | apply z3 | refine z7 ?_ GE225.out) | exact HB.out)) hb)
              clear HO246
              clear BK225
              clear HB
              have HO246 := n0_
              have HO240 := n1_
              have BK225 := n2_
              have HB := n3_
              clear n0_ n1_ n2_ n3_
              (try clear hb)
              (try clear hb2)
              (try clear hk)
              (try clear hi)
              (try clear ho0)
              refine hK.out _ _ ⟨(z6 BK225.out 0).trans rfl, (z6 BK225.out 1).trans rfl, (z6 BK225.out 2).trans rfl, (z6 BK225.out 3).trans rfl⟩ (fun hHeld => ?_)
              clear hK K
              refine zx (a' := ?_) ?_ ?_
              rotate_left
              ·show Act.put _ (some 14) _ = _
               simp only [Act.put, List.setIfInBounds_toArray, List.set_cons_zero, List.set_cons_succ, yg, qg]
               rfl
              exact zx (by first | (simp only [qw, Act.put, List.setIfInBounds_toArray, List.set_cons_zero, List.set_cons_succ]; done) | (simp only [qw, Act.put, List.setIfInBounds_toArray, List.set_cons_zero, List.set_cons_succ]; rfl)) (hJ4_9 (v239, v245) _ ⟨hHeld, (by (with_reducible repeat (first | apply Kd.R_alloc | apply Kd.y9 | apply Kd.zb)); exact Kd.yk HO240.out (fun _ hk => hk.2)), (by (with_reducible repeat (first | apply Kd.R_alloc | apply Kd.y9 | apply Kd.zb)); exact Kd.yk HO246.out (fun _ hk => hk.2)), (by (with_reducible repeat (first | refine z5 ?_ _ | refine y6 ?_ | refine y4 ?_ _)); exact BK225.out), (by repeat (first | (with_reducible first | exact HB.out | apply z4 | apply z1 | apply z3 | refine z7 ?_ GE225.out) | exact HB.out))⟩)
           ·skip
            rintro v239 w20 ⟨hS_, h0_, h1_, h2_⟩
            have n0_ : z2 (Kd.R (Kd.int .u8) 5 w20 w.heap.size (fun _ => True) v239 t238) := ⟨h0_⟩
            have n1_ : z2 (w20.heap[gb225]? = some (.cells #[.bool false, .int .i64 a0_1, .slice A0_2 l0_2.length c0_2, .int .i64 a0_3] 33 (0, 0))) := ⟨h1_⟩
            have n2_ : z2 (Below w.heap.size w w20) := ⟨h2_⟩
            clear BK225
            clear HB
            clear h0_ h1_ h2_
            have HO240 := n0_
            have BK225 := n1_
            have HB := n2_
            clear n0_ n1_ n2_
            have hHeld : w20.cell? ⟨gb225, 0, none⟩ = some (.bool false) ∧ w20.cell? ⟨gb225, 1, none⟩ = some (.int .i64 a0_1) ∧ w20.cell? ⟨gb225, 2, none⟩ = some (.slice A0_2 l0_2.length c0_2) ∧ w20.cell? ⟨gb225, 3, none⟩ = some (.int .i64 a0_3) := hS_
            refine zx (a' := ?_) ?_ ?_
            rotate_left
            ·simp only [qw, Act.put, List.setIfInBounds_toArray, List.set_cons_zero, List.set_cons_succ]
             rfl
            refine q2q (i := 0) (j := 9) (Ni := some 10) (Nj := some 19) #[true, true, true, true, true, false, true, true, true, false, false, false] #[false, true, true, true, true, false, true, true, true, true, false, false] rfl rfl rfl rfl (q1o HT_.out (by kernel_rfl)) (by decide) (by decide) (fun K hK => ?_) (fun K hK => ?_)
            ·skip
             refine Kd.y09 (Kd.int .u8) _ 5 ?hg (N := 10) ?hd (xs := ([2] : List Int)) (inner := [.int .u8 2]) (ok := fun _ => True) (okp := fun _ => True) ?hr ?hp (fun _ hk => hk) trivial (Below.refl _ _) (Nat.le_refl _) (by simp) ?_; (case hd => rfl); (case hg => rfl); (case hr => first | (go_simp; done) | (go_simp; rfl)); (case hp => exact (z0b.one (show Kd.M (Kd.int .u8) _ _ _ 2 [.int .u8 2] from rfl) (z0b.none _ _)))
             intro v236 w21 ho22 hb hg_ hnew_
             clear hg_ hnew_
             (first | rw [← Ny235.out] at ho22 | (simp only [Int.reduceToNat] at ho22; rw [← Ny235.out] at ho22))
             have n0_ := z2.mk (Kd.qu (by (with_reducible repeat (first | apply Kd.R_alloc | apply Kd.y9 | apply Kd.zb)); exact HO240.out) (Kd.z00 ho22) hb)
             have n1_ := z2.mk (Kd.yr (Kd.y00 ho22 (Kd.q0e (by (with_reducible repeat (first | apply Kd.R_alloc | apply Kd.y9 | apply Kd.zb)); exact HO240.out))) (z8 (by repeat (first | (with_reducible first | exact HB.out | apply z4 | apply z1 | apply z3 | refine z7 ?_ GE225.out) | exact HB.out))))
             have n2_ := z2.mk (z9 (g := gb225) (o := .cells #[.bool false, .int .i64 a0_1, .slice A0_2 l0_2.length c0_2, .int .i64 a0_3] 33 (0, 0)) (by (with_reducible repeat (first | refine z5 ?_ _ | refine y6 ?_ | refine y4 ?_ _)); exact BK225.out) hb)
             have n3_ := z2.mk (y8 (by repeat (first | (with_reducible first | exact HB.out | apply z4 | apply z1 | apply z3 | refine z7 ?_ GE225.out) | exact HB.out)) hb)
             clear HO240
             clear BK225
             clear HB
             have HO240 := n0_
             have HO237 := n1_
             have BK225 := n2_
             have HB := n3_
             clear n0_ n1_ n2_ n3_
             clear hb ho22
             refine hK.out _ _ ⟨(z6 BK225.out 0).trans rfl, (z6 BK225.out 1).trans rfl, (z6 BK225.out 2).trans rfl, (z6 BK225.out 3).trans rfl⟩ (fun hHeld => ?_)
             clear hK K
             refine zx (a' := ?_) ?_ ?_
             rotate_left
             ·show Act.put _ (some 10) _ = _
              simp only [Act.put, List.setIfInBounds_toArray, List.set_cons_zero, List.set_cons_succ, yg, qg]
              rfl
             exact zx (by first | (simp only [qw, Act.put, List.setIfInBounds_toArray, List.set_cons_zero, List.set_cons_succ]; done) | (simp only [qw, Act.put, List.setIfInBounds_toArray, List.set_cons_zero, List.set_cons_succ]; rfl)) (hJ0_4 (v236, v239) _ ⟨hHeld, (by (with_reducible repeat (first | apply Kd.R_alloc | apply Kd.y9 | apply Kd.zb)); exact Kd.yk HO237.out (fun _ hk => hk.2)), (by (with_reducible repeat (first | apply Kd.R_alloc | apply Kd.y9 | apply Kd.zb)); exact Kd.yk HO240.out (fun _ hk => hk.2)), (by (with_reducible repeat (first | refine z5 ?_ _ | refine y6 ?_ | refine y4 ?_ _)); exact BK225.out), (by repeat (first | (with_reducible first | exact HB.out | apply z4 | apply z1 | apply z3 | refine z7 ?_ GE225.out) | exact HB.out))⟩)
            ·skip
             refine Kd.y09 (Kd.int .u8) _ 5 ?hg (N := 19) ?hd (xs := ([(a0_3) % 256] : List Int)) (inner := [.int .u8 ((a0_3) % 256)]) (ok := fun _ => True) (okp := fun _ => True) ?hr ?hp (fun _ hk => hk) trivial (Below.refl _ _) (Nat.le_refl _) (by simp) ?_; (case hd => rfl); (case hg => rfl); (case hr => first | (go_simp; done) | (go_simp; rfl)); (case hp => exact (z0b.one (show Kd.M (Kd.int .u8) _ _ _ ((a0_3) % 256) [.int .u8 ((a0_3) % 256)] from rfl) (z0b.none _ _)))
             intro v245 w21 ho22 hb hg_ hnew_
             clear hg_ hnew_
             (first | rw [← Ny244.out] at ho22 | (simp only [Int.reduceToNat] at ho22; rw [← Ny244.out] at ho22))
             have n0_ := z2.mk (Kd.qu (by (with_reducible repeat (first | apply Kd.R_alloc | apply Kd.y9 | apply Kd.zb)); exact HO240.out) (Kd.z00 ho22) hb)
             have n1_ := z2.mk (Kd.yr (Kd.y00 ho22 (Kd.q0e (by (with_reducible repeat (first | apply Kd.R_alloc | apply Kd.y9 | apply Kd.zb)); exact HO240.out))) (z8 (by repeat (first | (with_reducible first | exact HB.out | apply z4 | apply z1 | apply z3 | refine z7 ?_ GE225.out) | exact HB.out))))
             have n2_ := z2.mk (z9 (g := gb225) (o := .cells #[.bool false, .int .i64 a0_1, .slice A0_2 l0_2.length c0_2, .int .i64 a0_3] 33 (0, 0)) (by (with_reducible repeat (first | refine z5 ?_ _ | refine y6 ?_ | refine y4 ?_ _)); exact BK225.out) hb)
             have n3_ := z2.mk (y8 (by repeat (first | (with_reducible first | exact HB.out | apply z4 | apply z1 | apply z3 | refine z7 ?_ GE225.out) | exact HB.out)) hb)
             clear HO240
             clear BK225
             clear HB
             have HO240 := n0_
             have HO246 := n1_
             have BK225 := n2_
             have HB := n3_
             clear n0_ n1_ n2_ n3_
             clear hb ho22
             refine hK.out _ _ ⟨(z6 BK225.out 0).trans rfl, (z6 BK225.out 1).trans rfl, (z6 BK225.out 2).trans rfl, (z6 BK225.out 3).trans rfl⟩ (fun hHeld => ?_)
             clear hK K
             refine zx (a' := ?_) ?_ ?_
             rotate_left
             ·show Act.put _ (some 19) _ = _
              simp only [Act.put, List.setIfInBounds_toArray, List.set_cons_zero, List.set_cons_succ, yg, qg]
              rfl
             exact zx (by first | (simp only [qw, Act.put, List.setIfInBounds_toArray, List.set_cons_zero, List.set_cons_succ]; done) | (simp only [qw, Act.put, List.setIfInBounds_toArray, List.set_cons_zero, List.set_cons_succ]; rfl)) (hJ4_9 (v239, v245) _ ⟨hHeld, (by (with_reducible repeat (first | apply Kd.R_alloc | apply Kd.y9 | apply Kd.zb)); exact Kd.yk HO240.out (fun _ hk => hk.2)), (by (with_reducible repeat (first | apply Kd.R_alloc | apply Kd.y9 | apply Kd.zb)); exact Kd.yk HO246.out (fun _ hk => hk.2)), (by (with_reducible repeat (first | refine z5 ?_ _ | refine y6 ?_ | refine y4 ?_ _)); exact BK225.out), (by repeat (first | (with_reducible first | exact HB.out | apply z4 | apply z1 | apply z3 | refine z7 ?_ GE225.out) | exact HB.out))⟩)
          ·skip
           rintro v236 w21 ⟨hS_, h0_, h1_, h2_⟩
           have n0_ : z2 (Kd.R (Kd.int .u8) 5 w21 w.heap.size (fun _ => True) v236 y235) := ⟨h0_⟩
           have n1_ : z2 (w21.heap[gb225]? = some (.cells #[.bool false, .int .i64 a0_1, .slice A0_2 l0_2.length c0_2, .int .i64 a0_3] 33 (0, 0))) := ⟨h1_⟩
           have n2_ : z2 (Below w.heap.size w w21) := ⟨h2_⟩
           clear BK225
           clear HB
           clear h0_ h1_ h2_
           have HO237 := n0_
           have BK225 := n1_
           have HB := n2_
           clear n0_ n1_ n2_
           have hHeld : w21.cell? ⟨gb225, 0, none⟩ = some (.bool false) ∧ w21.cell? ⟨gb225, 1, none⟩ = some (.int .i64 a0_1) ∧ w21.cell? ⟨gb225, 2, none⟩ = some (.slice A0_2 l0_2.length c0_2) ∧ w21.cell? ⟨gb225, 3, none⟩ = some (.int .i64 a0_3) := hS_
           refine zx (a' := ?_) ?_ ?_
           rotate_left
           ·simp only [qw, Act.put, List.setIfInBounds_toArray, List.set_cons_zero, List.set_cons_succ]
            rfl
           refine q2q (i := 4) (j := 9) (Ni := some 14) (Nj := some 19) #[true, true, true, true, true, false, true, true, true, false, false, false] #[true, true, true, true, false, false, true, true, true, true, false, false] rfl rfl rfl rfl (q1o HT_.out (by kernel_rfl)) (by decide) (by decide) (fun K hK => ?_) (fun K hK => ?_)
           ·skip
            refine y0g Try.func103 (by kernel_rfl) rfl #[.int .i64 a0_1] (by rfl) rfl rfl (by (try simp only [List.map_toArray, List.map_cons, List.map_nil]); first | done | rfl | (simp only [List.length_drop, List.length_take]; rfl)) ?_
            with_reducible refine (yh.calls k a0_1 t238 _ A13.out).mono ?_
            rintro e w22 ⟨v239, rfl, ho0, hb⟩
            refine ⟨_, rfl, ?_⟩
            have n0_ := z2.mk (Kd.qu (by (with_reducible repeat (first | apply Kd.R_alloc | apply Kd.y9 | apply Kd.zb)); exact HO237.out) (Kd.z00 ho0) hb)
            have n1_ := z2.mk (Kd.yr (Kd.y00 ho0 (Kd.q0e (by (with_reducible repeat (first | apply Kd.R_alloc | apply Kd.y9 | apply Kd.zb)); exact HO237.out))) (z8 (by repeat (first | (with_reducible first | exact HB.out | apply z4 | apply z1 | apply z3 | refine z7 ?_ GE225.out) | exact HB.out))))
            have n2_ := z2.mk (z9 (g := gb225) (o := .cells #[.bool false, .int .i64 a0_1, .slice A0_2 l0_2.length c0_2, .int .i64 a0_3] 33 (0, 0)) (by (with_reducible repeat (first | refine z5 ?_ _ | refine y6 ?_ | refine y4 ?_ _)); exact BK225.out) hb)
            have n3_ := z2.mk (y8 (by repeat (first | (with_reducible first | exact HB.out | apply z4 | apply z1 | apply z3 | refine z7 ?_ GE225.out) | exact HB.out)) hb)
            clear HO237
            clear BK225
            clear HB
            have HO237 := n0_
            have HO240 := n1_
            have BK225 := n2_
            have HB := n3_
            clear n0_ n1_ n2_ n3_
            (try clear hb)
            (try clear hb2)
            (try clear hk)
            (try clear hi)
            (try clear ho0)
            refine hK.out _ _ ⟨(z6 BK225.out 0).trans rfl, (z6 BK225.out 1).trans rfl, (z6 BK225.out 2).trans rfl, (z6 BK225.out 3).trans rfl⟩ (fun hHeld => ?_)
            clear hK K
            refine zx (a' := ?_) ?_ ?_
            rotate_left
            ·show Act.put _ (some 14) _ = _
             simp only [Act.put, List.setIfInBounds_toArray, List.set_cons_zero, List.set_cons_succ, yg, qg]
             rfl
            exact zx (by first | (simp only [qw, Act.put, List.setIfInBounds_toArray, List.set_cons_zero, List.set_cons_succ]; done) | (simp only [qw, Act.put, List.setIfInBounds_toArray, List.set_cons_zero, List.set_cons_succ]; rfl)) (hJ0_4 (v236, v239) _ ⟨hHeld, (by (with_reducible repeat (first | apply Kd.R_alloc | apply Kd.y9 | apply Kd.zb)); exact Kd.yk HO237.out (fun _ hk => hk.2)), (by (with_reducible repeat (first | apply Kd.R_alloc | apply Kd.y9 | apply Kd.zb)); exact Kd.yk HO240.out (fun _ hk => hk.2)), (by (with_reducible repeat (first | refine z5 ?_ _ | refine y6 ?_ | refine y4 ?_ _)); exact BK225.out), (by repeat (first | (with_reducible first | exact HB.out | apply z4 | apply z1 | apply z3 | refine z7 ?_ GE225.out) | exact HB.out))⟩)
           ·skip
            refine Kd.y09 (Kd.int .u8) _ 5 ?hg (N := 19) ?hd (xs := ([(a0_3) % 256] : List Int)) (inner := [.int .u8 ((a0_3) % 256)]) (ok := fun _ => True) (okp := fun _ => True) ?hr ?hp (fun _ hk => hk) trivial (Below.refl _ _) (Nat.le_refl _) (by simp) ?_; (case hd => rfl); (case hg => rfl); (case hr => first | (go_simp; done) | (go_simp; rfl)); (case hp => exact (z0b.one (show Kd.M (Kd.int .u8) _ _ _ ((a0_3) % 256) [.int .u8 ((a0_3) % 256)] from rfl) (z0b.none _ _)))
            intro v245 w22 ho23 hb hg_ hnew_
            clear hg_ hnew_
            (first | rw [← Ny244.out] at ho23 | (simp only [Int.reduceToNat] at ho23; rw [← Ny244.out] at ho23))
            have n0_ := z2.mk (Kd.qu (by (with_reducible repeat (first | apply Kd.R_alloc | apply Kd.y9 | apply Kd.zb)); exact HO237.out) (Kd.z00 ho23) hb)
            have n1_ := z2.mk (Kd.yr (Kd.y00 ho23 (Kd.q0e (by (with_reducible repeat (first | apply Kd.R_alloc | apply Kd.y9 | apply Kd.zb)); exact HO237.out))) (z8 (by repeat (first | (with_reducible first | exact HB.out | apply z4 | apply z1 | apply z3 | refine z7 ?_ GE225.out) | exact HB.out))))
            have n2_ := z2.mk (z9 (g := gb225) (o := .cells #[.bool false, .int .i64 a0_1, .slice A0_2 l0_2.length c0_2, .int .i64 a0_3] 33 (0, 0)) (by (with_reducible repeat (first | refine z5 ?_ _ | refine y6 ?_ | refine y4 ?_ _)); exact BK225.out) hb)
            have n3_ := z2.mk (y8 (by repeat (first | (with_reducible first | exact HB.out | apply z4 | apply z1 | apply z3 | refine z7 ?_ GE225.out) | exact HB.out)) hb)
            clear HO237
            clear BK225
            clear HB
            have HO237 := n0_
            have HO246 := n1_
            have BK225 := n2_
            have HB := n3_
            clear n0_ n1_ n2_ n3_
            clear hb ho23
            refine hK.out _ _ ⟨(z6 BK225.out 0).trans rfl, (z6 BK225.out 1).trans rfl, (z6 BK225.out 2).trans rfl, (z6 BK225.out 3).trans rfl⟩ (fun hHeld => ?_)
            clear hK K
            refine zx (a' := ?_) ?_ ?_
            rotate_left
            ·show Act.put _ (some 19) _ = _
             simp only [Act.put, List.setIfInBounds_toArray, List.set_cons_zero, List.set_cons_succ, yg, qg]
             rfl
            exact zx (by first | (simp only [qw, Act.put, List.setIfInBounds_toArray, List.set_cons_zero, List.set_cons_succ]; done) | (simp only [qw, Act.put, List.setIfInBounds_toArray, List.set_cons_zero, List.set_cons_succ]; rfl)) (hJ0_9 (v236, v245) _ ⟨hHeld, (by (with_reducible repeat (first | apply Kd.R_alloc | apply Kd.y9 | apply Kd.zb)); exact Kd.yk HO237.out (fun _ hk => hk.2)), (by (with_reducible repeat (first | apply Kd.R_alloc | apply Kd.y9 | apply Kd.zb)); exact Kd.yk HO246.out (fun _ hk => hk.2)), (by (with_reducible repeat (first | refine z5 ?_ _ | refine y6 ?_ | refine y4 ?_ _)); exact BK225.out), (by repeat (first | (with_reducible first | exact HB.out | apply z4 | apply z1 | apply z3 | refine z7 ?_ GE225.out) | exact HB.out))⟩)
         ·skip
          rintro ⟨v239, v245⟩ w22 ⟨hS_, h0_, h1_, h2_, h3_⟩
          have n0_ : z2 (Kd.R (Kd.int .u8) 5 w22 w.heap.size (fun k_ => some k_ ≠ (v245 : Value).ownBlock) v239 t238) := ⟨h0_⟩
          have n1_ : z2 (Kd.R (Kd.int .u8) 5 w22 w.heap.size (fun k_ => some k_ ≠ (v239 : Value).ownBlock) v245 y244) := ⟨h1_⟩
          have n2_ : z2 (w22.heap[gb225]? = some (.cells #[.bool false, .int .i64 a0_1, .slice A0_2 l0_2.length c0_2, .int .i64 a0_3] 33 (0, 0))) := ⟨h2_⟩
          have n3_ : z2 (Below w.heap.size w w22) := ⟨h3_⟩
          clear BK225
          clear HB
          clear h0_ h1_ h2_ h3_
          have HO240 := n0_
          have HO246 := n1_
          have BK225 := n2_
          have HB := n3_
          clear n0_ n1_ n2_ n3_
          have hHeld : w22.cell? ⟨gb225, 0, none⟩ = some (.bool false) ∧ w22.cell? ⟨gb225, 1, none⟩ = some (.int .i64 a0_1) ∧ w22.cell? ⟨gb225, 2, none⟩ = some (.slice A0_2 l0_2.length c0_2) ∧ w22.cell? ⟨gb225, 3, none⟩ = some (.int .i64 a0_3) := hS_
          refine zx (a' := ?_) ?_ ?_
          rotate_left
          ·simp only [qw, Act.put, List.setIfInBounds_toArray, List.set_cons_zero, List.set_cons_succ]
           rfl
          refine q0j (i := 0) (N := some 10) #[true, true, true, true, true, false, true, true, true, true, false, false] rfl rfl (qz HT_.out (by kernel_rfl)) (by decide) (fun K hK => ?_)
          refine Kd.y09 (Kd.int .u8) _ 5 ?hg (N := 10) ?hd (xs := ([2] : List Int)) (inner := [.int .u8 2]) (ok := fun _ => True) (okp := fun _ => True) ?hr ?hp (fun _ hk => hk) trivial (Below.refl _ _) (Nat.le_refl _) (by simp) ?_; (case hd => rfl); (case hg => rfl); (case hr => first | (go_simp; done) | (go_simp; rfl)); (case hp => exact (z0b.one (show Kd.M (Kd.int .u8) _ _ _ 2 [.int .u8 2] from rfl) (z0b.none _ _)))
          intro v236 w23 ho24 hb hg_ hnew_
          clear hg_ hnew_
          (first | rw [← Ny235.out] at ho24 | (simp only [Int.reduceToNat] at ho24; rw [← Ny235.out] at ho24))
          have n0_ := z2.mk (Kd.qu (by (with_reducible repeat (first | apply Kd.R_alloc | apply Kd.y9 | apply Kd.zb)); exact HO240.out) (Kd.z00 ho24) hb)
          have n1_ := z2.mk (Kd.qu (by (with_reducible repeat (first | apply Kd.R_alloc | apply Kd.y9 | apply Kd.zb)); exact HO246.out) (Kd.z00 ho24) hb)
          have n2_ := z2.mk (Kd.yr (Kd.y00 (Kd.y00 ho24 (Kd.q0e (by (with_reducible repeat (first | apply Kd.R_alloc | apply Kd.y9 | apply Kd.zb)); exact HO240.out))) (Kd.q0e (by (with_reducible repeat (first | apply Kd.R_alloc | apply Kd.y9 | apply Kd.zb)); exact HO246.out))) (z8 (by repeat (first | (with_reducible first | exact HB.out | apply z4 | apply z1 | apply z3 | refine z7 ?_ GE225.out) | exact HB.out))))
          have n3_ := z2.mk (z9 (g := gb225) (o := .cells #[.bool false, .int .i64 a0_1, .slice A0_2 l0_2.length c0_2, .int .i64 a0_3] 33 (0, 0)) (by (with_reducible repeat (first | refine z5 ?_ _ | refine y6 ?_ | refine y4 ?_ _)); exact BK225.out) hb)
          have n4_ := z2.mk (y8 (by repeat (first | (with_reducible first | exact HB.out | apply z4 | apply z1 | apply z3 | refine z7 ?_ GE225.out) | exact HB.out)) hb)
          clear HO240
          clear HO246
          clear BK225
          clear HB
          have HO240 := n0_
          have HO246 := n1_
          have HO237 := n2_
          have BK225 := n3_
          have HB := n4_
          clear n0_ n1_ n2_ n3_ n4_
          clear hb ho24
          refine hK.out _ _ ⟨(z6 BK225.out 0).trans rfl, (z6 BK225.out 1).trans rfl, (z6 BK225.out 2).trans rfl, (z6 BK225.out 3).trans rfl⟩ (fun hHeld => ?_)
          clear hK K
          refine zx (a' := ?_) ?_ ?_
          rotate_left
          ·show Act.put _ (some 10) _ = _
           simp only [Act.put, List.setIfInBounds_toArray, List.set_cons_zero, List.set_cons_succ, yg, qg]
           rfl
          exact zx (by first | (simp only [qw, Act.put, List.setIfInBounds_toArray, List.set_cons_zero, List.set_cons_succ]; done) | (simp only [qw, Act.put, List.setIfInBounds_toArray, List.set_cons_zero, List.set_cons_succ]; rfl)) (hJ0_4_9 (v236, _, v245) _ ⟨hHeld, (by (with_reducible repeat (first | apply Kd.R_alloc | apply Kd.y9 | apply Kd.zb)); exact Kd.yk HO237.out (fun _ hk => ⟨hk.1.2, hk.2⟩)), (by (with_reducible repeat (first | apply Kd.R_alloc | apply Kd.y9 | apply Kd.zb)); exact Kd.yk HO240.out (fun _ hk => ⟨hk.2, hk.1⟩)), (by (with_reducible repeat (first | apply Kd.R_alloc | apply Kd.y9 | apply Kd.zb)); exact Kd.yk HO246.out (fun _ hk => ⟨hk.2, hk.1⟩)), (by (with_reducible repeat (first | refine z5 ?_ _ | refine y6 ?_ | refine y4 ?_ _)); exact BK225.out), (by repeat (first | (with_reducible first | exact HB.out | apply z4 | apply z1 | apply z3 | refine z7 ?_ GE225.out) | exact HB.out))⟩)
        ·skip
         rintro ⟨v236, v245⟩ w23 ⟨hS_, h0_, h1_, h2_, h3_⟩
         have n0_ : z2 (Kd.R (Kd.int .u8) 5 w23 w.heap.size (fun k_ => some k_ ≠ (v245 : Value).ownBlock) v236 y235) := ⟨h0_⟩
         have n1_ : z2 (Kd.R (Kd.int .u8) 5 w23 w.heap.size (fun k_ => some k_ ≠ (v236 : Value).ownBlock) v245 y244) := ⟨h1_⟩
         have n2_ : z2 (w23.heap[gb225]? = some (.cells #[.bool false, .int .i64 a0_1, .slice A0_2 l0_2.length c0_2, .int .i64 a0_3] 33 (0, 0))) := ⟨h2_⟩
         have n3_ : z2 (Below w.heap.size w w23) := ⟨h3_⟩
         clear BK225
         clear HB
         clear h0_ h1_ h2_ h3_
         have HO237 := n0_
         have HO246 := n1_
         have BK225 := n2_
         have HB := n3_
         clear n0_ n1_ n2_ n3_
         have hHeld : w23.cell? ⟨gb225, 0, none⟩ = some (.bool false) ∧ w23.cell? ⟨gb225, 1, none⟩ = some (.int .i64 a0_1) ∧ w23.cell? ⟨gb225, 2, none⟩ = some (.slice A0_2 l0_2.length c0_2) ∧ w23.cell? ⟨gb225, 3, none⟩ = some (.int .i64 a0_3) := hS_
         refine zx (a' := ?_) ?_ ?_
         rotate_left
         ·simp only [qw, Act.put, List.setIfInBounds_toArray, List.set_cons_zero, List.set_cons_succ]
          rfl
         refine q0j (i := 4) (N := some 14) #[true, true, true, true, true, false, true, true, true, true, false, false] rfl rfl (qz HT_.out (by kernel_rfl)) (by decide) (fun K hK => ?_)
         refine y0g Try.func103 (by kernel_rfl) rfl #[.int .i64 a0_1] (by rfl) rfl rfl (by (try simp only [List.map_toArray, List.map_cons, List.map_nil]); first | done | rfl | (simp only [List.length_drop, List.length_take]; rfl)) ?_
         with_reducible refine (yh.calls k a0_1 t238 _ A13.out).mono ?_
         rintro e w24 ⟨v239, rfl, ho0, hb⟩
         refine ⟨_, rfl, ?_⟩
         have n0_ := z2.mk (Kd.qu (by (with_reducible repeat (first | apply Kd.R_alloc | apply Kd.y9 | apply Kd.zb)); exact HO237.out) (Kd.z00 ho0) hb)
         have n1_ := z2.mk (Kd.qu (by (with_reducible repeat (first | apply Kd.R_alloc | apply Kd.y9 | apply Kd.zb)); exact HO246.out) (Kd.z00 ho0) hb)
         have n2_ := z2.mk (Kd.yr (Kd.y00 (Kd.y00 ho0 (Kd.q0e (by (with_reducible repeat (first | apply Kd.R_alloc | apply Kd.y9 | apply Kd.zb)); exact HO237.out))) (Kd.q0e (by (with_reducible repeat (first | apply Kd.R_alloc | apply Kd.y9 | apply Kd.zb)); exact HO246.out))) (z8 (by repeat (first | (with_reducible first | exact HB.out | apply z4 | apply z1 | apply z3 | refine z7 ?_ GE225.out) | exact HB.out))))
         have n3_ := z2.mk (z9 (g := gb225) (o := .cells #[.bool false, .int .i64 a0_1, .slice A0_2 l0_2.length c0_2, .int .i64 a0_3] 33 (0, 0)) (by (with_reducible repeat (first | refine z5 ?_ _ | refine y6 ?_ | refine y4 ?_ _)); exact BK225.out) hb)
         have n4_ := z2.mk (y8 (by repeat (first | (with_reducible first | exact HB.out | apply z4 | apply z1 | apply z3 | refine z7 ?_ GE225.out) | exact HB.out)) hb)
         clear HO237
         clear HO246
         clear BK225
         clear HB
         have HO237 := n0_
         have HO246 := n1_
         have HO240 := n2_
         have BK225 := n3_
         have HB := n4_
         clear n0_ n1_ n2_ n3_ n4_
         (try clear hb)
         (try clear hb2)
         (try clear hk)
         (try clear hi)
         (try clear ho0)
         refine hK.out _ _ ⟨(z6 BK225.out 0).trans rfl, (z6 BK225.out 1).trans rfl, (z6 BK225.out 2).trans rfl, (z6 BK225.out 3).trans rfl⟩ (fun hHeld => ?_)
         clear hK K
         refine zx (a' := ?_) ?_ ?_
         rotate_left
         ·show Act.put _ (some 14) _ = _
          simp only [Act.put, List.setIfInBounds_toArray, List.set_cons_zero, List.set_cons_succ, yg, qg]
          rfl
         exact zx (by first | (simp only [qw, Act.put, List.setIfInBounds_toArray, List.set_cons_zero, List.set_cons_succ]; done) | (simp only [qw, Act.put, List.setIfInBounds_toArray, List.set_cons_zero, List.set_cons_succ]; rfl)) (hJ0_4_9 (v236, _, v245) _ ⟨hHeld, (by (with_reducible repeat (first | apply Kd.R_alloc | apply Kd.y9 | apply Kd.zb)); exact Kd.yk HO237.out (fun _ hk => ⟨hk.2, hk.1⟩)), (by (with_reducible repeat (first | apply Kd.R_alloc | apply Kd.y9 | apply Kd.zb)); exact Kd.yk HO240.out (fun _ hk => ⟨hk.1.2, hk.2⟩)), (by (with_reducible repeat (first | apply Kd.R_alloc | apply Kd.y9 | apply Kd.zb)); exact HO246.out), (by (with_reducible repeat (first | refine z5 ?_ _ | refine y6 ?_ | refine y4 ?_ _)); exact BK225.out), (by repeat (first | (with_reducible first | exact HB.out | apply z4 | apply z1 | apply z3 | refine z7 ?_ GE225.out) | exact HB.out))⟩)
       ·skip
        rintro ⟨v236, v239⟩ w22 ⟨hS_, h0_, h1_, h2_, h3_⟩
        have n0_ : z2 (Kd.R (Kd.int .u8) 5 w22 w.heap.size (fun k_ => some k_ ≠ (v239 : Value).ownBlock) v236 y235) := ⟨h0_⟩
        have n1_ : z2 (Kd.R (Kd.int .u8) 5 w22 w.heap.size (fun k_ => some k_ ≠ (v236 : Value).ownBlock) v239 t238) := ⟨h1_⟩
        have n2_ : z2 (w22.heap[gb225]? = some (.cells #[.bool false, .int .i64 a0_1, .slice A0_2 l0_2.length c0_2, .int .i64 a0_3] 33 (0, 0))) := ⟨h2_⟩
        have n3_ : z2 (Below w.heap.size w w22) := ⟨h3_⟩
        clear BK225
        clear HB
        clear h0_ h1_ h2_ h3_
        have HO237 := n0_
        have HO240 := n1_
        have BK225 := n2_
        have HB := n3_
        clear n0_ n1_ n2_ n3_
        have hHeld : w22.cell? ⟨gb225, 0, none⟩ = some (.bool false) ∧ w22.cell? ⟨gb225, 1, none⟩ = some (.int .i64 a0_1) ∧ w22.cell? ⟨gb225, 2, none⟩ = some (.slice A0_2 l0_2.length c0_2) ∧ w22.cell? ⟨gb225, 3, none⟩ = some (.int .i64 a0_3) := hS_
        obtain ⟨Ao24, co24, eo24⟩ := Kd.zt HO240.out
        (first | subst eo24 | (injection eo24 with f1_ f2_ f3_; have f4_ := f1_.symm; have f5_ := f3_.symm; clear f1_ f2_ f3_; subst f4_; subst f5_))
        refine zx (a' := ?_) ?_ ?_
        rotate_left
        ·simp only [qw, Act.put, List.setIfInBounds_toArray, List.set_cons_zero, List.set_cons_succ]
         rfl
        refine q2q (i := 5) (j := 9) (Ni := some 15) (Nj := some 19) #[true, true, true, true, true, true, true, true, true, false, false, false] #[true, true, true, true, true, false, true, true, true, true, false, false] rfl rfl rfl rfl (q1o HT_.out (by kernel_rfl)) (by decide) (by decide) (fun K hK => ?_) (fun K hK => ?_)
        ·skip
         refine Kd.y0b (Kd.int .u8) (w0 := w) w.heap.size (by rfl) (.tmp 10) (.tmp 14) 37 5 (.int .u8 0) 1 rfl Try.underlying37 y0f rfl (by decide) (by omega) v236 y235 t238 _ _ _ (fun k_ => some k_ ≠ (.slice Ao24 t238.length co24 : Value).ownBlock) (fun _ => False) rfl rfl ?aO ?aR (fun _ _ h => h) (fun _ h => h.elim) ?aF ?aB ?aS ?aL ?_
         (case aR => repeat (first | exact (Kd.qd HO240.out).2.2 | (with_reducible refine Kd.yi ?_ _) | (with_reducible refine Kd.qi ?_ _) | (with_reducible refine Kd.C_drew ?_)))
         (case aB => exact (by repeat (first | (with_reducible first | exact HB.out | apply z4 | apply z1 | apply z3 | refine z7 ?_ GE225.out) | exact HB.out)))
         (case aF => exact (fun k_ hk => Kd.z0g (Kd.q0e (by (with_reducible repeat (first | apply Kd.R_alloc | apply Kd.y9 | apply Kd.zb)); exact HO240.out)) k_ hk))
         (case aO => exact (by (with_reducible repeat (first | apply Kd.R_alloc | apply Kd.y9 | apply Kd.zb)); exact HO237.out))
         (case aS => exact (z8 (by repeat (first | (with_reducible first | exact HB.out | apply z4 | apply z1 | apply z3 | refine z7 ?_ GE225.out) | exact HB.out))))
         (case aL => have := LMc14.out; omega)
         intro v242 w23 ho hb hg hat
         rw [← Ny241.out] at ho
         have n0_ := z2.mk (yy (g := gb225) (o := .cells #[.bool false, .int .i64 a0_1, .slice A0_2 l0_2.length c0_2, .int .i64 a0_3] 33 (0, 0)) (by (with_reducible repeat (first | refine z5 ?_ _ | refine y6 ?_ | refine y4 ?_ _)); exact BK225.out) hg (Kd.y0k HO237.out BK225.out (by decide)))
         have n1_ := z2.mk (Kd.q09 (ok := (fun _ => True)) (by (with_reducible repeat (first | apply Kd.R_alloc | apply Kd.y9 | apply Kd.zb)); exact Kd.yk HO240.out (fun _ hk => ⟨trivial, hk⟩)) hg hat)
         have n2_ := z2.mk (hb)
         have n3_ := z2.mk (ho)
         clear BK225
         clear HO240
         clear HB
         clear HO237
         have BK225 := n0_
         have HO240 := n1_
         have HB := n2_
         have HO243 := n3_
         clear n0_ n1_ n2_ n3_
         clear ho hb hg hat
         refine hK.out _ _ ⟨(z6 BK225.out 0).trans rfl, (z6 BK225.out 1).trans rfl, (z6 BK225.out 2).trans rfl, (z6 BK225.out 3).trans rfl⟩ (fun hHeld => ?_)
         clear hK K
         refine zx (a' := ?_) ?_ ?_
         rotate_left
         ·show Act.put _ (some 15) _ = _
          simp only [Act.put, List.setIfInBounds_toArray, List.set_cons_zero, List.set_cons_succ, yg, qg]
          rfl
         exact zx (by first | (simp only [qw, Act.put, List.setIfInBounds_toArray, List.set_cons_zero, List.set_cons_succ]; done) | (simp only [qw, Act.put, List.setIfInBounds_toArray, List.set_cons_zero, List.set_cons_succ]; rfl)) (hJ0_4_5 (v236, .slice Ao24 t238.length co24, v242) _ ⟨hHeld, (by (with_reducible repeat (first | apply Kd.R_alloc | apply Kd.y9 | apply Kd.zb)); exact Kd.yk HO240.out (fun _ hk => hk.2)), (by (with_reducible repeat (first | apply Kd.R_alloc | apply Kd.y9 | apply Kd.zb)); exact HO243.out), (by (with_reducible repeat (first | refine z5 ?_ _ | refine y6 ?_ | refine y4 ?_ _)); exact BK225.out), (by repeat (first | (with_reducible first | exact HB.out | apply z4 | apply z1 | apply z3 | refine z7 ?_ GE225.out) | exact HB.out))⟩)
        ·skip
         refine Kd.y09 (Kd.int .u8) _ 5 ?hg (N := 19) ?hd (xs := ([(a0_3) % 256] : List Int)) (inner := [.int .u8 ((a0_3) % 256)]) (ok := fun _ => True) (okp := fun _ => True) ?hr ?hp (fun _ hk => hk) trivial (Below.refl _ _) (Nat.le_refl _) (by simp) ?_; (case hd => rfl); (case hg => rfl); (case hr => first | (go_simp; done) | (go_simp; rfl)); (case hp => exact (z0b.one (show Kd.M (Kd.int .u8) _ _ _ ((a0_3) % 256) [.int .u8 ((a0_3) % 256)] from rfl) (z0b.none _ _)))
         intro v245 w23 ho24 hb hg_ hnew_
         clear hg_ hnew_
         (first | rw [← Ny244.out] at ho24 | (simp only [Int.reduceToNat] at ho24; rw [← Ny244.out] at ho24))
         have n0_ := z2.mk (Kd.qu (by (with_reducible repeat (first | apply Kd.R_alloc | apply Kd.y9 | apply Kd.zb)); exact HO237.out) (Kd.z00 ho24) hb)
         have n1_ := z2.mk (Kd.qu (by (with_reducible repeat (first | apply Kd.R_alloc | apply Kd.y9 | apply Kd.zb)); exact HO240.out) (Kd.z00 ho24) hb)
         have n2_ := z2.mk (Kd.yr (Kd.y00 (Kd.y00 ho24 (Kd.q0e (by (with_reducible repeat (first | apply Kd.R_alloc | apply Kd.y9 | apply Kd.zb)); exact HO237.out))) (Kd.q0e (by (with_reducible repeat (first | apply Kd.R_alloc | apply Kd.y9 | apply Kd.zb)); exact HO240.out))) (z8 (by repeat (first | (with_reducible first | exact HB.out | apply z4 | apply z1 | apply z3 | refine z7 ?_ GE225.out) | exact HB.out))))
         have n3_ := z2.mk (z9 (g := gb225) (o := .cells #[.bool false, .int .i64 a0_1, .slice A0_2 l0_2.length c0_2, .int .i64 a0_3] 33 (0, 0)) (by (with_reducible repeat (first | refine z5 ?_ _ | refine y6 ?_ | refine y4 ?_ _)); exact BK225.out) hb)
         have n4_ := z2.mk (y8 (by repeat (first | (with_reducible first | exact HB.out | apply z4 | apply z1 | apply z3 | refine z7 ?_ GE225.out) | exact HB.out)) hb)
         clear HO237
         clear HO240
         clear BK225
         clear HB
         have HO237 := n0_
         have HO240 := n1_
         have HO246 := n2_
         have BK225 := n3_
         have HB := n4_
         clear n0_ n1_ n2_ n3_ n4_
         clear hb ho24
         refine hK.out _ _ ⟨(z6 BK225.out 0).trans rfl, (z6 BK225.out 1).trans rfl, (z6 BK225.out 2).trans rfl, (z6 BK225.out 3).trans rfl⟩ (fun hHeld => ?_)
         clear hK K
         refine zx (a' := ?_) ?_ ?_
         rotate_left
         ·show Act.put _ (some 19) _ = _
          simp only [Act.put, List.setIfInBounds_toArray, List.set_cons_zero, List.set_cons_succ, yg, qg]
          rfl
         exact zx (by first | (simp only [qw, Act.put, List.setIfInBounds_toArray, List.set_cons_zero, List.set_cons_succ]; done) | (simp only [qw, Act.put, List.setIfInBounds_toArray, List.set_cons_zero, List.set_cons_succ]; rfl)) (hJ0_4_9 (v236, _, v245) _ ⟨hHeld, (by (with_reducible repeat (first | apply Kd.R_alloc | apply Kd.y9 | apply Kd.zb)); exact HO237.out), (by (with_reducible repeat (first | apply Kd.R_alloc | apply Kd.y9 | apply Kd.zb)); exact HO240.out), (by (with_reducible repeat (first | apply Kd.R_alloc | apply Kd.y9 | apply Kd.zb)); exact Kd.yk HO246.out (fun _ hk => ⟨hk.1.2, hk.2⟩)), (by (with_reducible repeat (first | refine z5 ?_ _ | refine y6 ?_ | refine y4 ?_ _)); exact BK225.out), (by repeat (first | (with_reducible first | exact HB.out | apply z4 | apply z1 | apply z3 | refine z7 ?_ GE225.out) | exact HB.out))⟩)
      ·skip
       rintro ⟨v236, v239, v245⟩ w24 ⟨hS_, h0_, h1_, h2_, h3_, h4_⟩
       have n0_ : z2 (Kd.R (Kd.int .u8) 5 w24 w.heap.size (fun k_ => some k_ ≠ (v239 : Value).ownBlock ∧ some k_ ≠ (v245 : Value).ownBlock) v236 y235) := ⟨h0_⟩
       have n1_ : z2 (Kd.R (Kd.int .u8) 5 w24 w.heap.size (fun k_ => some k_ ≠ (v236 : Value).ownBlock ∧ some k_ ≠ (v245 : Value).ownBlock) v239 t238) := ⟨h1_⟩
       have n2_ : z2 (Kd.R (Kd.int .u8) 5 w24 w.heap.size (fun k_ => some k_ ≠ (v236 : Value).ownBlock ∧ some k_ ≠ (v239 : Value).ownBlock) v245 y244) := ⟨h2_⟩
       have n3_ : z2 (w24.heap[gb225]? = some (.cells #[.bool false, .int .i64 a0_1, .slice A0_2 l0_2.length c0_2, .int .i64 a0_3] 33 (0, 0))) := ⟨h3_⟩
       have n4_ : z2 (Below w.heap.size w w24) := ⟨h4_⟩
       clear BK225
       clear HB
       clear h0_ h1_ h2_ h3_ h4_
       have HO237 := n0_
       have HO240 := n1_
       have HO246 := n2_
       have BK225 := n3_
       have HB := n4_
       clear n0_ n1_ n2_ n3_ n4_
       have hHeld : w24.cell? ⟨gb225, 0, none⟩ = some (.bool false) ∧ w24.cell? ⟨gb225, 1, none⟩ = some (.int .i64 a0_1) ∧ w24.cell? ⟨gb225, 2, none⟩ = some (.slice A0_2 l0_2.length c0_2) ∧ w24.cell? ⟨gb225, 3, none⟩ = some (.int .i64 a0_3) := hS_
       obtain ⟨Ao26, co26, eo26⟩ := Kd.zt HO240.out
       (first | subst eo26 | (injection eo26 with f1_ f2_ f3_; have f4_ := f1_.symm; have f5_ := f3_.symm; clear f1_ f2_ f3_; subst f4_; subst f5_))
       refine zx (a' := ?_) ?_ ?_
       rotate_left
       ·simp only [qw, Act.put, List.setIfInBounds_toArray, List.set_cons_zero, List.set_cons_succ]
        rfl
       refine q0j (i := 5) (N := some 15) #[true, true, true, true, true, true, true, true, true, true, false, false] rfl rfl (qz HT_.out (by kernel_rfl)) (by decide) (fun K hK => ?_)
       refine Kd.y0b (Kd.int .u8) (w0 := w) w.heap.size (by rfl) (.tmp 10) (.tmp 14) 37 5 (.int .u8 0) 1 rfl Try.underlying37 y0f rfl (by decide) (by omega) v236 y235 t238 _ _ _ (fun k_ => some k_ ≠ (.slice Ao26 t238.length co26 : Value).ownBlock ∧ some k_ ≠ (v245 : Value).ownBlock) (fun _ => False) rfl rfl ?aO ?aR (fun _ _ h => h) (fun _ h => h.elim) ?aF ?aB ?aS ?aL ?_
       (case aR => repeat (first | exact (Kd.qd HO240.out).2.2 | (with_reducible refine Kd.yi ?_ _) | (with_reducible refine Kd.qi ?_ _) | (with_reducible refine Kd.C_drew ?_)))
       (case aB => exact (by repeat (first | (with_reducible first | exact HB.out | apply z4 | apply z1 | apply z3 | refine z7 ?_ GE225.out) | exact HB.out)))
       (case aF => exact (fun k_ hk => ⟨Kd.z0g (Kd.q0e (by (with_reducible repeat (first | apply Kd.R_alloc | apply Kd.y9 | apply Kd.zb)); exact HO240.out)) k_ hk, Kd.z0g (Kd.q0e (by (with_reducible repeat (first | apply Kd.R_alloc | apply Kd.y9 | apply Kd.zb)); exact HO246.out)) k_ hk⟩))
       (case aO => exact (by (with_reducible repeat (first | apply Kd.R_alloc | apply Kd.y9 | apply Kd.zb)); exact HO237.out))
       (case aS => exact (z8 (by repeat (first | (with_reducible first | exact HB.out | apply z4 | apply z1 | apply z3 | refine z7 ?_ GE225.out) | exact HB.out))))
       (case aL => have := LMc14.out; omega)
       intro v242 w25 ho hb hg hat
       rw [← Ny241.out] at ho
       have n0_ := z2.mk (yy (g := gb225) (o := .cells #[.bool false, .int .i64 a0_1, .slice A0_2 l0_2.length c0_2, .int .i64 a0_3] 33 (0, 0)) (by (with_reducible repeat (first | refine z5 ?_ _ | refine y6 ?_ | refine y4 ?_ _)); exact BK225.out) hg (Kd.y0k HO237.out BK225.out (by decide)))
       have n1_ := z2.mk (Kd.q09 (ok := (fun k_ => some k_ ≠ (v245 : Value).ownBlock)) (by (with_reducible repeat (first | apply Kd.R_alloc | apply Kd.y9 | apply Kd.zb)); exact Kd.yk HO240.out (fun _ hk => ⟨hk.2, hk.1⟩)) hg hat)
       have n2_ := z2.mk (Kd.q09 (ok := (fun k_ => some k_ ≠ (.slice Ao26 t238.length co26 : Value).ownBlock)) (by (with_reducible repeat (first | apply Kd.R_alloc | apply Kd.y9 | apply Kd.zb)); exact Kd.yk HO246.out (fun _ hk => ⟨hk.2, hk.1⟩)) hg hat)
       have n3_ := z2.mk (hb)
       have n4_ := z2.mk (ho)
       clear BK225
       clear HO240
       clear HO246
       clear HB
       clear HO237
       have BK225 := n0_
       have HO240 := n1_
       have HO246 := n2_
       have HB := n3_
       have HO243 := n4_
       clear n0_ n1_ n2_ n3_ n4_
       clear ho hb hg hat
       refine hK.out _ _ ⟨(z6 BK225.out 0).trans rfl, (z6 BK225.out 1).trans rfl, (z6 BK225.out 2).trans rfl, (z6 BK225.out 3).trans rfl⟩ (fun hHeld => ?_)
       clear hK K
       refine zx (a' := ?_) ?_ ?_
       rotate_left
       ·show Act.put _ (some 15) _ = _
        simp only [Act.put, List.setIfInBounds_toArray, List.set_cons_zero, List.set_cons_succ, yg, qg]
        rfl
       exact zx (by first | (simp only [qw, Act.put, List.setIfInBounds_toArray, List.set_cons_zero, List.set_cons_succ]; done) | (simp only [qw, Act.put, List.setIfInBounds_toArray, List.set_cons_zero, List.set_cons_succ]; rfl)) (hJ0_4_5_9 (v236, .slice Ao26 t238.length co26, v242, v245) _ ⟨hHeld, (by (with_reducible repeat (first | apply Kd.R_alloc | apply Kd.y9 | apply Kd.zb)); exact Kd.yk HO240.out (fun _ hk => ⟨hk.2, hk.1⟩)), (by (with_reducible repeat (first | apply Kd.R_alloc | apply Kd.y9 | apply Kd.zb)); exact HO243.out), (by (with_reducible repeat (first | apply Kd.R_alloc | apply Kd.y9 | apply Kd.zb)); exact HO246.out), (by (with_reducible repeat (first | refine z5 ?_ _ | refine y6 ?_ | refine y4 ?_ _)); exact BK225.out), (by repeat (first | (with_reducible first | exact HB.out | apply z4 | apply z1 | apply z3 | refine z7 ?_ GE225.out) | exact HB.out))⟩)
     ·skip
      rintro ⟨v236, v239, v242⟩ w24 ⟨hS_, h0_, h1_, h2_, h3_⟩
      have n0_ : z2 (Kd.R (Kd.int .u8) 5 w24 w.heap.size (fun k_ => some k_ ≠ (v242 : Value).ownBlock) v239 t238) := ⟨h0_⟩
      have n1_ : z2 (Kd.R (Kd.int .u8) 5 w24 w.heap.size (fun k_ => some k_ ≠ (v239 : Value).ownBlock) v242 y241) := ⟨h1_⟩
      have n2_ : z2 (w24.heap[gb225]? = some (.cells #[.bool false, .int .i64 a0_1, .slice A0_2 l0_2.length c0_2, .int .i64 a0_3] 33 (0, 0))) := ⟨h2_⟩
      have n3_ : z2 (Below w.heap.size w w24) := ⟨h3_⟩
      clear BK225
      clear HB
      clear h0_ h1_ h2_ h3_
      have HO240 := n0_
      have HO243 := n1_
      have BK225 := n2_
      have HB := n3_
      clear n0_ n1_ n2_ n3_
      have hHeld : w24.cell? ⟨gb225, 0, none⟩ = some (.bool false) ∧ w24.cell? ⟨gb225, 1, none⟩ = some (.int .i64 a0_1) ∧ w24.cell? ⟨gb225, 2, none⟩ = some (.slice A0_2 l0_2.length c0_2) ∧ w24.cell? ⟨gb225, 3, none⟩ = some (.int .i64 a0_3) := hS_
      refine zx (a' := ?_) ?_ ?_
      rotate_left
      ·simp only [qw, Act.put, List.setIfInBounds_toArray, List.set_cons_zero, List.set_cons_succ]
       rfl
      refine q0j (i := 9) (N := some 19) #[true, true, true, true, true, true, true, true, true, true, false, false] rfl rfl (qz HT_.out (by kernel_rfl)) (by decide) (fun K hK => ?_)
      refine Kd.y09 (Kd.int .u8) _ 5 ?hg (N := 19) ?hd (xs := ([(a0_3) % 256] : List Int)) (inner := [.int .u8 ((a0_3) % 256)]) (ok := fun _ => True) (okp := fun _ => True) ?hr ?hp (fun _ hk => hk) trivial (Below.refl _ _) (Nat.le_refl _) (by simp) ?_; (case hd => rfl); (case hg => rfl); (case hr => first | (go_simp; done) | (go_simp; rfl)); (case hp => exact (z0b.one (show Kd.M (Kd.int .u8) _ _ _ ((a0_3) % 256) [.int .u8 ((a0_3) % 256)] from rfl) (z0b.none _ _)))
      intro v245 w25 ho26 hb hg_ hnew_
      clear hg_ hnew_
      (first | rw [← Ny244.out] at ho26 | (simp only [Int.reduceToNat] at ho26; rw [← Ny244.out] at ho26))
      have n0_ := z2.mk (Kd.qu (by (with_reducible repeat (first | apply Kd.R_alloc | apply Kd.y9 | apply Kd.zb)); exact HO240.out) (Kd.z00 ho26) hb)
      have n1_ := z2.mk (Kd.qu (by (with_reducible repeat (first | apply Kd.R_alloc | apply Kd.y9 | apply Kd.zb)); exact HO243.out) (Kd.z00 ho26) hb)
      have n2_ := z2.mk (Kd.yr (Kd.y00 (Kd.y00 ho26 (Kd.q0e (by (with_reducible repeat (first | apply Kd.R_alloc | apply Kd.y9 | apply Kd.zb)); exact HO240.out))) (Kd.q0e (by (with_reducible repeat (first | apply Kd.R_alloc | apply Kd.y9 | apply Kd.zb)); exact HO243.out))) (z8 (by repeat (first | (with_reducible first | exact HB.out | apply z4 | apply z1 | apply z3 | refine z7 ?_ GE225.out) | exact HB.out))))
      have n3_ := z2.mk (z9 (g := gb225) (o := .cells #[.bool false, .int .i64 a0_1, .slice A0_2 l0_2.length c0_2, .int .i64 a0_3] 33 (0, 0)) (by (with_reducible repeat (first | refine z5 ?_ _ | refine y6 ?_ | refine y4 ?_ _)); exact BK225.out) hb)
      have n4_ := z2.mk (y8 (by repeat (first | (with_reducible first | exact HB.out | apply z4 | apply z1 | apply z3 | refine z7 ?_ GE225.out) | exact HB.out)) hb)
      clear HO240
      clear HO243
      clear BK225
      clear HB
      have HO240 := n0_
      have HO243 := n1_
      have HO246 := n2_
      have BK225 := n3_
      have HB := n4_
      clear n0_ n1_ n2_ n3_ n4_
      clear hb ho26
      refine hK.out _ _ ⟨(z6 BK225.out 0).trans rfl, (z6 BK225.out 1).trans rfl, (z6 BK225.out 2).trans rfl, (z6 BK225.out 3).trans rfl⟩ (fun hHeld => ?_)
      clear hK K
      refine zx (a' := ?_) ?_ ?_
      rotate_left
      ·show Act.put _ (some 19) _ = _
       simp only [Act.put, List.setIfInBounds_toArray, List.set_cons_zero, List.set_cons_succ, yg, qg]
       rfl
      exact zx (by first | (simp only [qw, Act.put, List.setIfInBounds_toArray, List.set_cons_zero, List.set_cons_succ]; done) | (simp only [qw, Act.put, List.setIfInBounds_toArray, List.set_cons_zero, List.set_cons_succ]; rfl)) (hJ0_4_5_9 (v236, v239, v242, v245) _ ⟨hHeld, (by (with_reducible repeat (first | apply Kd.R_alloc | apply Kd.y9 | apply Kd.zb)); exact HO240.out), (by (with_reducible repeat (first | apply Kd.R_alloc | apply Kd.y9 | apply Kd.zb)); exact HO243.out), (by (with_reducible repeat (first | apply Kd.R_alloc | apply Kd.y9 | apply Kd.zb)); exact Kd.yk HO246.out (fun _ hk => ⟨hk.1.2, hk.2⟩)), (by (with_reducible repeat (first | refine z5 ?_ _ | refine y6 ?_ | refine y4 ?_ _)); exact BK225.out), (by repeat (first | (with_reducible first | exact HB.out | apply z4 | apply z1 | apply z3 | refine z7 ?_ GE225.out) | exact HB.out))⟩)
    rintro ⟨v236, v239, v242, v245⟩ w26 ⟨hS_, h0_, h1_, h2_, h3_, h4_⟩
    have n0_ : z2 (Kd.R (Kd.int .u8) 5 w26 w.heap.size (fun k_ => some k_ ≠ (v242 : Value).ownBlock ∧ some k_ ≠ (v245 : Value).ownBlock) v239 t238) := ⟨h0_⟩
    have n1_ : z2 (Kd.R (Kd.int .u8) 5 w26 w.heap.size (fun k_ => some k_ ≠ (v239 : Value).ownBlock ∧ some k_ ≠ (v245 : Value).ownBlock) v242 y241) := ⟨h1_⟩
    have n2_ : z2 (Kd.R (Kd.int .u8) 5 w26 w.heap.size (fun k_ => some k_ ≠ (v239 : Value).ownBlock ∧ some k_ ≠ (v242 : Value).ownBlock) v245 y244) := ⟨h2_⟩
    have n3_ : z2 (w26.heap[gb225]? = some (.cells #[.bool false, .int .i64 a0_1, .slice A0_2 l0_2.length c0_2, .int .i64 a0_3] 33 (0, 0))) := ⟨h3_⟩
    have n4_ : z2 (Below w.heap.size w w26) := ⟨h4_⟩
    clear BK225
    clear HB
    clear h0_ h1_ h2_ h3_ h4_
    have HO240 := n0_
    have HO243 := n1_
    have HO246 := n2_
    have BK225 := n3_
    have HB := n4_
    clear n0_ n1_ n2_ n3_ n4_
    have hHeld : w26.cell? ⟨gb225, 0, none⟩ = some (.bool false) ∧ w26.cell? ⟨gb225, 1, none⟩ = some (.int .i64 a0_1) ∧ w26.cell? ⟨gb225, 2, none⟩ = some (.slice A0_2 l0_2.length c0_2) ∧ w26.cell? ⟨gb225, 3, none⟩ = some (.int .i64 a0_3) := hS_
    obtain ⟨Ao28, co28, eo28⟩ := Kd.zt HO246.out
    (first | subst eo28 | (injection eo28 with f1_ f2_ f3_; have f4_ := f1_.symm; have f5_ := f3_.symm; clear f1_ f2_ f3_; subst f4_; subst f5_))
    refine zx (a' := ?_) ?_ ?_
    rotate_left
    ·simp only [qw, Act.put, List.setIfInBounds_toArray, List.set_cons_zero, List.set_cons_succ]
     rfl
    refine q0j (i := 10) (N := some 20) #[true, true, true, true, true, true, true, true, true, true, true, false] rfl rfl (qz HT_.out (by kernel_rfl)) (by decide) (fun K hK => ?_)
    refine Kd.y0b (Kd.int .u8) (w0 := w) w.heap.size (by rfl) (.tmp 15) (.tmp 19) 37 5 (.int .u8 0) 1 rfl Try.underlying37 y0f rfl (by decide) (by omega) v242 y241 y244 _ _ _ (fun k_ => some k_ ≠ (v239 : Value).ownBlock ∧ some k_ ≠ (.slice Ao28 y244.length co28 : Value).ownBlock) (fun _ => False) rfl rfl ?aO ?aR (fun _ _ h => h) (fun _ h => h.elim) ?aF ?aB ?aS ?aL ?_
    (case aR => repeat (first | exact (Kd.qd HO246.out).2.2 | (with_reducible refine Kd.yi ?_ _) | (with_reducible refine Kd.qi ?_ _) | (with_reducible refine Kd.C_drew ?_)))
    (case aB => exact (by repeat (first | (with_reducible first | exact HB.out | apply z4 | apply z1 | apply z3 | refine z7 ?_ GE225.out) | exact HB.out)))
    (case aF => exact (fun k_ hk => ⟨Kd.z0g (Kd.q0e (by (with_reducible repeat (first | apply Kd.R_alloc | apply Kd.y9 | apply Kd.zb)); exact HO240.out)) k_ hk, Kd.z0g (Kd.q0e (by (with_reducible repeat (first | apply Kd.R_alloc | apply Kd.y9 | apply Kd.zb)); exact HO246.out)) k_ hk⟩))
    (case aO => exact (by (with_reducible repeat (first | apply Kd.R_alloc | apply Kd.y9 | apply Kd.zb)); exact HO243.out))
    (case aS => exact (z8 (by repeat (first | (with_reducible first | exact HB.out | apply z4 | apply z1 | apply z3 | refine z7 ?_ GE225.out) | exact HB.out))))
    (case aL => have := LMc15.out; omega)
    intro v248 w27 ho hb hg hat
    rw [← Ny247.out] at ho
    have n0_ := z2.mk (yy (g := gb225) (o := .cells #[.bool false, .int .i64 a0_1, .slice A0_2 l0_2.length c0_2, .int .i64 a0_3] 33 (0, 0)) (by (with_reducible repeat (first | refine z5 ?_ _ | refine y6 ?_ | refine y4 ?_ _)); exact BK225.out) hg (Kd.y0k HO243.out BK225.out (by decide)))
    have n1_ := z2.mk (Kd.q09 (ok := (fun k_ => some k_ ≠ (.slice Ao28 y244.length co28 : Value).ownBlock)) (by (with_reducible repeat (first | apply Kd.R_alloc | apply Kd.y9 | apply Kd.zb)); exact Kd.yk HO240.out (fun _ hk => ⟨hk.2, hk.1⟩)) hg hat)
    have n2_ := z2.mk (Kd.q09 (ok := (fun k_ => some k_ ≠ (v239 : Value).ownBlock)) (by (with_reducible repeat (first | apply Kd.R_alloc | apply Kd.y9 | apply Kd.zb)); exact HO246.out) hg hat)
    have n3_ := z2.mk (hb)
    have n4_ := z2.mk (ho)
    clear BK225
    clear HO240
    clear HO246
    clear HB
    clear HO243
    have BK225 := n0_
    have HO240 := n1_
    have HO246 := n2_
    have HB := n3_
    have HO249 := n4_
    clear n0_ n1_ n2_ n3_ n4_
    clear ho hb hg hat
    refine hK.out _ _ ⟨(z6 BK225.out 0).trans rfl, (z6 BK225.out 1).trans rfl, (z6 BK225.out 2).trans rfl, (z6 BK225.out 3).trans rfl⟩ (fun hHeld => ?_)
    clear hK K
    refine zx (a' := ?_) ?_ ?_
    rotate_left
    ·show Act.put _ (some 20) _ = _
     simp only [Act.put, List.setIfInBounds_toArray, List.set_cons_zero, List.set_cons_succ, yg, qg]
     rfl
    refine yo (i := 11) (N := some 2) (v := ?_) (a' := ?_) #[true, true, true, true, true, true, true, true, true, true, true, true] rfl rfl (qj HT_.out (by kernel_rfl)) (fun _ _ _ h => h) (Or.inl ⟨by rfl, ?_⟩) ?_ ?_
    rotate_left
    ·intro w'
     go_simp
     with_reducible rfl
    rotate_left
    ·simp only [Act.put, List.setIfInBounds_toArray, List.set_cons_zero, List.set_cons_succ, yg, qg]
     rfl
    refine y0n (q0b HT_.out (by kernel_rfl)) ?_
    try go_wp2
    go_ret
    exact ⟨_, by first | rfl | (simp [ya, qa] <;> rfl) | (simp [*, ya, qa] <;> rfl), by (with_reducible repeat (first | apply Kd.R_alloc | apply Kd.y9 | apply Kd.zb)); exact Kd.yk HO249.out (fun _ hk => trivial), by repeat (first | (with_reducible first | exact HB.out | apply z4 | apply z1 | apply z3 | refine z7 ?_ GE225.out) | exact HB.out)⟩
   ·rw [if_neg c15] at H
    exact absurd H (by simp)
  ·rw [if_neg c14] at H
   exact absurd H (by simp)
end Go.Proofs.Ytkeojolmapcgbaa.PEv
end
section
namespace Go.Proofs.Ytkeojolmapcgbaa.PEv
open Go.RowKit Go.Proofs.YtkeojolmapcgbaaW.PrintWords Go.Proofs.YtkeojolmapcgbaaW.PrintLast Go.Proofs.YtkeojolmapcgbaaW.PrintMore
set_option linter.unusedVariables false
set_option linter.unusedSimpArgs false
def y0o.f (k : Nat) (a0_0 : Bool) (a0_1 : Int) (l0_2 : List (yl)) (a0_3 : Int) : Option (Int × List Int) := (yj.f k a0_0 a0_1 l0_2 a0_3).bind fun t252 => (if t252 = 0 then ((yv.f k a0_0 a0_1 l0_2 a0_3).bind fun t253 => (some (0, t253))) else (some (t252, ([] : List Int))))
set_option maxHeartbeats 8000000 in
set_option maxRecDepth 100000 in
theorem y0o.calls (k : Nat) (a0_0 : Bool) (a0_1 : Int) (A0_2 : Option Addr) (c0_2 : Nat) (l0_2 : List (yl)) (a0_3 : Int) (r1 : Int) (r2 : List Int) (w : World) (hr0_2 : Kd.C y08 w A0_2 l0_2.length l0_2) (hc0_2 : l0_2.length ≤ c0_2) (h : y0o.f k a0_0 a0_1 l0_2 a0_3 = some (r1, r2)) :
  Calls Try.prog 13 #[.agg #[.bool a0_0, .int .i64 a0_1, .slice A0_2 l0_2.length c0_2, .int .i64 a0_3]] w fun e w' => ∃ v1_ : Value, e = .returned (.agg #[.int .i64 r1, v1_]) ∧ Kd.R (Kd.int .u8) 5 w' w.heap.size (fun _ => True) v1_ r2 ∧ Below w.heap.size w w' := by
 have hu33 := Try.underlying33
 have hu39 := Try.underlying39
 have HR0_2 := z2.mk hr0_2
 have HC0_2 := z2.mk hc0_2
 clear hr0_2 hc0_2
 have HB := z2.mk (Below.refl w.heap.size w)
 have H : ((yj.f k a0_0 a0_1 l0_2 a0_3).bind fun t252 => (if t252 = 0 then ((yv.f k a0_0 a0_1 l0_2 a0_3).bind fun t253 => (some (0, t253))) else (some (t252, ([] : List Int))))) = some (r1, r2) := h
 clear h
 replace H := Option.bind_eq_some_iff.mp H
 obtain ⟨t252, A20, H⟩ := H
 replace H : (if t252 = 0 then ((yv.f k a0_0 a0_1 l0_2 a0_3).bind fun t253 => (some (0, t253))) else (some (t252, ([] : List Int)))) = some (r1, r2) := H
 have A2 := z2.mk A20
 clear A20
 by_cases c3 : t252 = 0
 ·rw [if_pos c3] at H
  have c3b0 : (t252 == 0) = true := beq_iff_eq.mpr c3
  have c3b1 : (t252 != 0) = false := bne_eq_false_iff_eq.mpr c3
  clear c3
  replace H := Option.bind_eq_some_iff.mp H
  obtain ⟨t253, A40, H⟩ := H
  replace H : (some (0, t253)) = some (r1, r2) := H
  have A4 := z2.mk A40
  clear A40
  simp only [Option.some.injEq, Prod.mk.injEq] at H
  obtain ⟨rfl, rfl⟩ := H
  go_enter Try.func13, Try.ntmps13
  go_wp2_with (first | ((with_reducible refine ye (N := 1) rfl ?_); refine ze ?hg (N := 1) ?hd (cs := #[.bool a0_0, .int .i64 a0_1, .slice A0_2 l0_2.length c0_2, .int .i64 a0_3]) (t := 33) ?hr ?_; (case hd => rfl); (case hg => rfl); (case hr => first | (go_simp; done) | (go_simp; rfl)); intro gb250 hg w5 hbox hb; have n0_ := z2.mk (y8 (by repeat (first | (with_reducible first | exact HB.out | apply z4 | apply z1 | apply z3) | exact HB.out)) hb); have n1_ := z2.mk (hbox); have n2_ := z2.mk ((by rw [hg]; exact (z8 (by repeat (first | (with_reducible first | exact HB.out | apply z4 | apply z1 | apply z3) | exact HB.out))) : w.heap.size ≤ gb250)); have n3_ := z2.mk ((by rw [hg]; exact (z8 (by repeat (first | (with_reducible first | exact HB.out | apply z4 | apply z1 | apply z3) | exact HB.out))) : w.heap.size ≤ gb250)); clear HB; have HB := n0_; have BK250 := n1_; have GW250 := n2_; have GE250 := n3_; clear n0_ n1_ n2_ n3_ hb hbox hg) | ((with_reducible refine ye (N := 2) rfl ?_); refine ze ?hg (N := 2) ?hd (cs := #[.int .i64 0, .slice none 0 0]) (t := 39) ?hr ?_; (case hd => rfl); (case hg => rfl); (case hr => first | (go_simp; done) | (go_simp; rfl)); intro gb251 hg w6 hbox hb; have n0_ := z2.mk (z9 (g := gb250) (o := .cells #[.bool a0_0, .int .i64 a0_1, .slice A0_2 l0_2.length c0_2, .int .i64 a0_3] 33 (0, 0)) (by (with_reducible repeat (first | refine z5 ?_ _ | refine y6 ?_ | refine y4 ?_ _)); exact BK250.out) hb); have n1_ := z2.mk (y8 (by repeat (first | (with_reducible first | exact HB.out | apply z4 | apply z1 | apply z3 | refine z7 ?_ GE250.out) | exact HB.out)) hb); have n2_ := z2.mk (hbox); have n3_ := z2.mk ((by rw [hg]; exact (z8 (by repeat (first | (with_reducible first | exact HB.out | apply z4 | apply z1 | apply z3 | refine z7 ?_ GE250.out) | exact HB.out))) : w.heap.size ≤ gb251)); have n4_ := z2.mk ((by rw [hg]; exact (z8 (by repeat (first | (with_reducible first | exact HB.out | apply z4 | apply z1 | apply z3 | refine z7 ?_ GE250.out) | exact HB.out))) : w.heap.size ≤ gb251)); have n5_ := z2.mk ((by rw [hg]; exact Nat.ne_of_lt (qk (g := gb250) (o := .cells #[.bool a0_0, .int .i64 a0_1, .slice A0_2 l0_2.length c0_2, .int .i64 a0_3] 33 (0, 0)) (by (with_reducible repeat (first | refine z5 ?_ _ | refine y6 ?_ | refine y4 ?_ _)); exact BK250.out)) : gb250 ≠ gb251)); have n6_ := z2.mk ((by rw [hg]; exact Nat.ne_of_gt (qk (g := gb250) (o := .cells #[.bool a0_0, .int .i64 a0_1, .slice A0_2 l0_2.length c0_2, .int .i64 a0_3] 33 (0, 0)) (by (with_reducible repeat (first | refine z5 ?_ _ | refine y6 ?_ | refine y4 ?_ _)); exact BK250.out)) : gb251 ≠ gb250)); clear BK250 HB; have BK250 := n0_; have HB := n1_; have BK251 := n2_; have GW251 := n3_; have GE251 := n4_; have NB250_251 := n5_; have NB251_250 := n6_; clear n0_ n1_ n2_ n3_ n4_ n5_ n6_ hb hbox hg; have hnb7 := NB250_251.out; have hnc7 := NB251_250.out; have hcz8_0 : w6.cell? ⟨gb250, 0, none⟩ = some (.bool a0_0) := (z6 BK250.out 0).trans rfl; have hcz8_1 : w6.cell? ⟨gb250, 1, none⟩ = some (.int .i64 a0_1) := (z6 BK250.out 1).trans rfl; have hcz8_2 : w6.cell? ⟨gb250, 2, none⟩ = some (.slice A0_2 l0_2.length c0_2) := (z6 BK250.out 2).trans rfl; have hcz8_3 : w6.cell? ⟨gb250, 3, none⟩ = some (.int .i64 a0_3) := (z6 BK250.out 3).trans rfl; have hfz8_0 := y5 BK250.out 0; have hfz8_1 := y5 BK250.out 1; have hfz8_2 := y5 BK250.out 2; have hfz8_3 := y5 BK250.out 3) | ((with_reducible refine qb (f := 9) rfl ?_); refine zm (some 5) rfl rfl Try.func9 (by kernel_rfl) rfl #[.agg #[.bool a0_0, .int .i64 a0_1, .slice A0_2 l0_2.length c0_2, .int .i64 a0_3]] rfl (by (try simp only [List.map_toArray, List.map_cons, List.map_nil]); first | done | rfl | (simp only [List.length_drop, List.length_take]; rfl)) ?_; (with_reducible refine (yj.calls k a0_0 a0_1 _ _ l0_2 a0_3 t252 _ ?side1 ?side2 A2.out).mono ?_); (case side1 => repeat (first | exact (Kd.yp HR0_2.out HB.out) | (with_reducible refine Kd.yi ?_ _) | (with_reducible refine Kd.qi ?_ _) | (with_reducible refine Kd.C_drew ?_))); (case side2 => exact HC0_2.out); rintro e w9 ⟨rfl, hb⟩; refine ⟨_, rfl, ?_⟩; have n0_ := z2.mk (z9 (g := gb250) (o := .cells #[.bool a0_0, .int .i64 a0_1, .slice A0_2 l0_2.length c0_2, .int .i64 a0_3] 33 (0, 0)) (by (with_reducible repeat (first | refine z5 ?_ _ | refine y6 ?_ | refine y4 ?_ _)); exact BK250.out) hb); have n1_ := z2.mk (z9 (g := gb251) (o := .cells #[.int .i64 0, .slice none 0 0] 39 (0, 0)) (by (with_reducible repeat (first | refine z5 ?_ _ | refine y6 ?_ | refine y4 ?_ _)); exact BK251.out) hb); have n2_ := z2.mk (y8 (by repeat (first | (with_reducible first | exact HB.out | apply z4 | apply z1 | apply z3 | refine z7 ?_ GE250.out | refine z7 ?_ GE251.out) | exact HB.out)) hb); clear BK250 BK251 HB; have BK250 := n0_; have BK251 := n1_; have HB := n2_; clear n0_ n1_ n2_; (try clear hb); (try clear hb2); (try clear hk); (try clear hi); have hcz10_0 : w9.cell? ⟨gb250, 0, none⟩ = some (.bool a0_0) := (z6 BK250.out 0).trans rfl; have hcz10_1 : w9.cell? ⟨gb250, 1, none⟩ = some (.int .i64 a0_1) := (z6 BK250.out 1).trans rfl; have hcz10_2 : w9.cell? ⟨gb250, 2, none⟩ = some (.slice A0_2 l0_2.length c0_2) := (z6 BK250.out 2).trans rfl; have hcz10_3 : w9.cell? ⟨gb250, 3, none⟩ = some (.int .i64 a0_3) := (z6 BK250.out 3).trans rfl; have hfz10_0 := y5 BK250.out 0; have hfz10_1 := y5 BK250.out 1; have hfz10_2 := y5 BK250.out 2; have hfz10_3 := y5 BK250.out 3) | ((with_reducible refine qb (f := 54) rfl ?_); refine zm (some 11) rfl rfl Try.func54 (by kernel_rfl) rfl #[.agg #[.bool a0_0, .int .i64 a0_1, .slice A0_2 l0_2.length c0_2, .int .i64 a0_3]] rfl (by (try simp only [List.map_toArray, List.map_cons, List.map_nil]); first | done | rfl | (simp only [List.length_drop, List.length_take]; rfl)) ?_; (with_reducible refine (yv.calls k a0_0 a0_1 _ _ l0_2 a0_3 t253 _ ?side1 ?side2 A4.out).mono ?_); (case side1 => repeat (first | exact (Kd.yp HR0_2.out HB.out) | (with_reducible refine Kd.yi ?_ _) | (with_reducible refine Kd.qi ?_ _) | (with_reducible refine Kd.C_drew ?_))); (case side2 => exact HC0_2.out); rintro e w11 ⟨v254, rfl, ho0, hb⟩; refine ⟨_, rfl, ?_⟩; have n0_ := z2.mk (Kd.yr ho0 (z8 (by repeat (first | (with_reducible first | exact HB.out | apply z4 | apply z1 | apply z3 | refine z7 ?_ GE250.out | refine z7 ?_ GE251.out) | exact HB.out)))); have n1_ := z2.mk (z9 (g := gb250) (o := .cells #[.bool a0_0, .int .i64 a0_1, .slice A0_2 l0_2.length c0_2, .int .i64 a0_3] 33 (0, 0)) (by (with_reducible repeat (first | refine z5 ?_ _ | refine y6 ?_ | refine y4 ?_ _)); exact BK250.out) hb); have n2_ := z2.mk (z9 (g := gb251) (o := .cells #[.int .i64 0, .slice none 0 0] 39 (0, 0)) (by (with_reducible repeat (first | refine z5 ?_ _ | refine y6 ?_ | refine y4 ?_ _)); exact BK251.out) hb); have n3_ := z2.mk (y8 (by repeat (first | (with_reducible first | exact HB.out | apply z4 | apply z1 | apply z3 | refine z7 ?_ GE250.out | refine z7 ?_ GE251.out) | exact HB.out)) hb); clear BK250 BK251 HB; have HO255 := n0_; have BK250 := n1_; have BK251 := n2_; have HB := n3_; clear n0_ n1_ n2_ n3_; (try clear hb); (try clear hb2); (try clear hk); (try clear hi); (try clear ho0); obtain ⟨Ao12, co12, eo12⟩ := Kd.zt HO255.out; subst eo12; have hcz13_0 : w11.cell? ⟨gb251, 0, none⟩ = some (.int .i64 0) := (z6 BK251.out 0).trans rfl; have hcz13_1 : w11.cell? ⟨gb251, 1, none⟩ = some (.slice none 0 0) := (z6 BK251.out 1).trans rfl; have hfz13_0 := y5 BK251.out 0; have hfz13_1 := y5 BK251.out 1))
  refine bodyPost_ret (results_cell_row rfl _ _ gb251 39 #[.int .i64 0, .slice Ao12 t253.length co12] (0, 0) _ rfl (by (with_reducible repeat (first | refine z5 ?_ _ | refine y6 ?_ | refine y4 ?_ _)); refine qc (cs := #[.int .i64 0, .slice none 0 0]) ?_ 1 _ rfl; (with_reducible repeat (first | refine z5 ?_ _ | refine y6 ?_ | refine y4 ?_ _)); refine qc (cs := #[.int .i64 0, .slice none 0 0]) ?_ 0 _ rfl; (with_reducible repeat (first | refine z5 ?_ _ | refine y6 ?_ | refine y4 ?_ _)); exact BK251.out) Try.underlying39 rfl (by kernel_rfl)) rfl ?_
  exact ⟨_, by first | rfl | (simp [ya, qa] <;> rfl) | (simp [*, ya, qa] <;> rfl), by (with_reducible repeat (first | apply Kd.R_alloc | apply Kd.y9 | apply Kd.zb)); exact Kd.yk (Kd.zf (p := ⟨gb251, 1, none⟩) (Kd.zf (p := ⟨gb251, 0, none⟩) (Kd.qp HO255.out BK251.out (by decide)) (fun _ hk => hk.2) (.int .i64 0)) (fun _ hk => hk.2) (.slice Ao12 t253.length co12)) (fun _ hk => trivial), by repeat (first | (with_reducible first | exact HB.out | apply z4 | apply z1 | apply z3 | refine z7 ?_ GE250.out | refine z7 ?_ GE251.out) | exact HB.out)⟩
 ·rw [if_neg c3] at H
  have c3b0 : (t252 == 0) = false := beq_eq_false_iff_ne.mpr c3
  have c3b1 : (t252 != 0) = true := bne_iff_ne.mpr c3
  simp only [Option.some.injEq, Prod.mk.injEq] at H
  obtain ⟨rfl, rfl⟩ := H
  go_enter Try.func13, Try.ntmps13
  go_wp2_with (first | ((with_reducible refine ye (N := 1) rfl ?_); refine ze ?hg (N := 1) ?hd (cs := #[.bool a0_0, .int .i64 a0_1, .slice A0_2 l0_2.length c0_2, .int .i64 a0_3]) (t := 33) ?hr ?_; (case hd => rfl); (case hg => rfl); (case hr => first | (go_simp; done) | (go_simp; rfl)); intro gb250 hg w14 hbox hb; have n0_ := z2.mk (y8 (by repeat (first | (with_reducible first | exact HB.out | apply z4 | apply z1 | apply z3) | exact HB.out)) hb); have n1_ := z2.mk (hbox); have n2_ := z2.mk ((by rw [hg]; exact (z8 (by repeat (first | (with_reducible first | exact HB.out | apply z4 | apply z1 | apply z3) | exact HB.out))) : w.heap.size ≤ gb250)); have n3_ := z2.mk ((by rw [hg]; exact (z8 (by repeat (first | (with_reducible first | exact HB.out | apply z4 | apply z1 | apply z3) | exact HB.out))) : w.heap.size ≤ gb250)); clear HB; have HB := n0_; have BK250 := n1_; have GW250 := n2_; have GE250 := n3_; clear n0_ n1_ n2_ n3_ hb hbox hg) | ((with_reducible refine ye (N := 2) rfl ?_); refine ze ?hg (N := 2) ?hd (cs := #[.int .i64 0, .slice none 0 0]) (t := 39) ?hr ?_; (case hd => rfl); (case hg => rfl); (case hr => first | (go_simp; done) | (go_simp; rfl)); intro gb251 hg w15 hbox hb; have n0_ := z2.mk (z9 (g := gb250) (o := .cells #[.bool a0_0, .int .i64 a0_1, .slice A0_2 l0_2.length c0_2, .int .i64 a0_3] 33 (0, 0)) (by (with_reducible repeat (first | refine z5 ?_ _ | refine y6 ?_ | refine y4 ?_ _)); exact BK250.out) hb); have n1_ := z2.mk (y8 (by repeat (first | (with_reducible first | exact HB.out | apply z4 | apply z1 | apply z3 | refine z7 ?_ GE250.out) | exact HB.out)) hb); have n2_ := z2.mk (hbox); have n3_ := z2.mk ((by rw [hg]; exact (z8 (by repeat (first | (with_reducible first | exact HB.out | apply z4 | apply z1 | apply z3 | refine z7 ?_ GE250.out) | exact HB.out))) : w.heap.size ≤ gb251)); have n4_ := z2.mk ((by rw [hg]; exact (z8 (by repeat (first | (with_reducible first | exact HB.out | apply z4 | apply z1 | apply z3 | refine z7 ?_ GE250.out) | exact HB.out))) : w.heap.size ≤ gb251)); have n5_ := z2.mk ((by rw [hg]; exact Nat.ne_of_lt (qk (g := gb250) (o := .cells #[.bool a0_0, .int .i64 a0_1, .slice A0_2 l0_2.length c0_2, .int .i64 a0_3] 33 (0, 0)) (by (with_reducible repeat (first | refine z5 ?_ _ | refine y6 ?_ | refine y4 ?_ _)); exact BK250.out)) : gb250 ≠ gb251)); have n6_ := z2.mk ((by rw [hg]; exact Nat.ne_of_gt (qk (g := gb250) (o := .cells #[.bool a0_0, .int .i64 a0_1, .slice A0_2 l0_2.length c0_2, .int .i64 a0_3] 33 (0, 0)) (by (with_reducible repeat (first | refine z5 ?_ _ | refine y6 ?_ | refine y4 ?_ _)); exact BK250.out)) : gb251 ≠ gb250)); clear BK250 HB; have BK250 := n0_; have HB := n1_; have BK251 := n2_; have GW251 := n3_; have GE251 := n4_; have NB250_251 := n5_; have NB251_250 := n6_; clear n0_ n1_ n2_ n3_ n4_ n5_ n6_ hb hbox hg; have hnb16 := NB250_251.out; have hnc16 := NB251_250.out; have hcz17_0 : w15.cell? ⟨gb250, 0, none⟩ = some (.bool a0_0) := (z6 BK250.out 0).trans rfl; have hcz17_1 : w15.cell? ⟨gb250, 1, none⟩ = some (.int .i64 a0_1) := (z6 BK250.out 1).trans rfl; have hcz17_2 : w15.cell? ⟨gb250, 2, none⟩ = some (.slice A0_2 l0_2.length c0_2) := (z6 BK250.out 2).trans rfl; have hcz17_3 : w15.cell? ⟨gb250, 3, none⟩ = some (.int .i64 a0_3) := (z6 BK250.out 3).trans rfl; have hfz17_0 := y5 BK250.out 0; have hfz17_1 := y5 BK250.out 1; have hfz17_2 := y5 BK250.out 2; have hfz17_3 := y5 BK250.out 3) | ((with_reducible refine qb (f := 9) rfl ?_); refine zm (some 5) rfl rfl Try.func9 (by kernel_rfl) rfl #[.agg #[.bool a0_0, .int .i64 a0_1, .slice A0_2 l0_2.length c0_2, .int .i64 a0_3]] rfl (by (try simp only [List.map_toArray, List.map_cons, List.map_nil]); first | done | rfl | (simp only [List.length_drop, List.length_take]; rfl)) ?_; (with_reducible refine (yj.calls k a0_0 a0_1 _ _ l0_2 a0_3 t252 _ ?side1 ?side2 A2.out).mono ?_); (case side1 => repeat (first | exact (Kd.yp HR0_2.out HB.out) | (with_reducible refine Kd.yi ?_ _) | (with_reducible refine Kd.qi ?_ _) | (with_reducible refine Kd.C_drew ?_))); (case side2 => exact HC0_2.out); rintro e w18 ⟨rfl, hb⟩; refine ⟨_, rfl, ?_⟩; have n0_ := z2.mk (z9 (g := gb250) (o := .cells #[.bool a0_0, .int .i64 a0_1, .slice A0_2 l0_2.length c0_2, .int .i64 a0_3] 33 (0, 0)) (by (with_reducible repeat (first | refine z5 ?_ _ | refine y6 ?_ | refine y4 ?_ _)); exact BK250.out) hb); have n1_ := z2.mk (z9 (g := gb251) (o := .cells #[.int .i64 0, .slice none 0 0] 39 (0, 0)) (by (with_reducible repeat (first | refine z5 ?_ _ | refine y6 ?_ | refine y4 ?_ _)); exact BK251.out) hb); have n2_ := z2.mk (y8 (by repeat (first | (with_reducible first | exact HB.out | apply z4 | apply z1 | apply z3 | refine z7 ?_ GE250.out | refine z7 ?_ GE251.out) | exact HB.out)) hb); clear BK250 BK251 HB; have BK250 := n0_; have BK251 := n1_; have HB := n2_; clear n0_ n1_ n2_; (try clear hb); (try clear hb2); (try clear hk); (try clear hi); have hcz19_0 : w18.cell? ⟨gb251, 0, none⟩ = some (.int .i64 0) := (z6 BK251.out 0).trans rfl; have hcz19_1 : w18.cell? ⟨gb251, 1, none⟩ = some (.slice none 0 0) := (z6 BK251.out 1).trans rfl; have hfz19_0 := y5 BK251.out 0; have hfz19_1 := y5 BK251.out 1))
  refine bodyPost_ret (results_cell_row rfl _ _ gb251 39 #[.int .i64 t252, .slice none 0 0] (0, 0) _ rfl (by (with_reducible repeat (first | refine z5 ?_ _ | refine y6 ?_ | refine y4 ?_ _)); refine qc (cs := #[.int .i64 t252, .slice none 0 0]) ?_ 1 _ rfl; (with_reducible repeat (first | refine z5 ?_ _ | refine y6 ?_ | refine y4 ?_ _)); refine qc (cs := #[.int .i64 0, .slice none 0 0]) ?_ 0 _ rfl; (with_reducible repeat (first | refine z5 ?_ _ | refine y6 ?_ | refine y4 ?_ _)); exact BK251.out) Try.underlying39 rfl (by kernel_rfl)) rfl ?_
  exact ⟨_, by first | rfl | (simp [ya, qa] <;> rfl) | (simp [*, ya, qa] <;> rfl), by first | exact Kd.z0n _ _ _ _ _ | exact Kd.N_nil _ _ _ _ _ | exact Kd.V_nil _ _ _ _ _ | exact Kd.Q_nil _ _ _ _ _ | exact Kd.S_nil _ _ _ _ _, by repeat (first | (with_reducible first | exact HB.out | apply z4 | apply z1 | apply z3 | refine z7 ?_ GE250.out | refine z7 ?_ GE251.out) | exact HB.out)⟩
def zj.l0 : Nat → Int → List Int → Int → Int → Option (List Int)
 | 0, _, _, _, _ => none
 | k + 1, x0, x3, x7, x8 => if x8 < x7 then (if 0 ≤ (wrap64 (56 - (wrap64 (8 * x8)))) then (if 0 ≤ x8 then (if x8 < (x3.length : Int) then (zj.l0 k x0 (x3.set (x8 : Int).toNat ((shr .i64 x0 (wrap64 (56 - (wrap64 (8 * x8))))) % 256)) x7 (wrap64 (x8 + 1))) else (none)) else (none)) else (none)) else (some x3)
def zj.f (k : Nat) (a0 : Int) : Option (List Int) := if 8 ≤ 281474976710656 then ((some (List.replicate 8 0 : List Int)).bind fun y256 => (zj.l0 k a0 y256 (y256.length : Int) 0)) else (none)
set_option maxHeartbeats 8000000 in
set_option maxRecDepth 100000 in
theorem zj.calls (k : Nat) (a0 : Int) (r : List Int) (w : World) (h : zj.f k a0 = some r) :
  Calls Try.prog 105 #[.int .i64 a0] w fun e w' => ∃ v0_ : Value, e = .returned (v0_) ∧ Kd.R (Kd.int .u8) 5 w' w.heap.size (fun _ => True) v0_ r ∧ Below w.heap.size w w' := by
 have HB := z2.mk (Below.refl w.heap.size w)
 have H : (if 8 ≤ 281474976710656 then ((some (List.replicate 8 0 : List Int)).bind fun y256 => (zj.l0 k a0 y256 (y256.length : Int) 0)) else (none)) = some r := h
 clear h
 by_cases c2 : 8 ≤ 281474976710656
 ·rw [if_pos c2] at H
  have c2b0 := eq_true c2
  have c2b1 : decide (8 ≤ 281474976710656) = true := decide_eq_true c2
  clear c2
  obtain ⟨y256, hy256⟩ : ∃ y_ : List Int, y_ = (List.replicate 8 0) := ⟨_, rfl⟩
  replace H : (zj.l0 k a0 y256 (y256.length : Int) 0) = some r := by first | (rw [hy256]; with_reducible exact H) | (have H2_ := (Option.bind_some _ _).symm.trans H; rw [hy256]; with_reducible exact H2_) | (have H2_ := (Option.bind_some _ _).symm.trans H; with_reducible exact H2_) | with_reducible exact H | (rw [hy256]; exact H) | exact H
  have Ny256 := z2.mk hy256
  clear hy256
  have H' := z2.mk H
  clear H
  go_enter Try.func105, Try.ntmps105
  go_wp2_with (first | ((with_reducible refine ye (N := 5) rfl ?_); refine Kd.q1t (Kd.int .u8) _ 5 rfl (N := 5) rfl 37 _ _ rfl 8 rfl rfl Try.underlying37 (.int .u8 0) 1 y0f rfl (by decide) (by omega) 0 (ok := fun _ => True) (okp := fun _ => True) rfl (fun _ hk => hk) trivial (by omega) (by omega) (Below.refl _ _) (Nat.le_refl _) ?_; intro v257 w3 ho4 hb hg_ hnew_; clear hg_ hnew_; (first | rw [← Ny256.out] at ho4 | (simp only [Int.reduceToNat] at ho4; rw [← Ny256.out] at ho4)); have n0_ := z2.mk (Kd.yr ho4 (z8 (by repeat (first | (with_reducible first | exact HB.out | apply z4 | apply z1 | apply z3) | exact HB.out)))); have n1_ := z2.mk (y8 (by repeat (first | (with_reducible first | exact HB.out | apply z4 | apply z1 | apply z3) | exact HB.out)) hb); clear HB; have HO258 := n0_; have HB := n1_; clear n0_ n1_ hb ho4; obtain ⟨Ao5, co5, eo5⟩ := Kd.zt HO258.out; subst eo5))
  go_loopg [8] k (fun kq v8 w' => ∃ (x3_1 : List Int) (x8_1 : Int), v8 = .int .i64 x8_1 ∧ z2 (zj.l0 kq a0 x3_1 (y256.length : Int) x8_1 = some r) ∧ z2 (kq ≤ k) ∧ z2 (Kd.R (Kd.int .u8) 5 w' w.heap.size (fun _ => True) (.slice Ao5 y256.length co5) x3_1) ∧ z2 (Below w.heap.size w w'))
  case atStart => exact ⟨(y256), (0), (by first | rfl | (simp; done) | (simp [*]; done)), H', ⟨Nat.le_refl _⟩, ⟨by (with_reducible repeat (first | apply Kd.R_alloc | apply Kd.y9 | apply Kd.zb)); exact HO258.out⟩, ⟨by repeat (first | (with_reducible first | exact HB.out | apply z4 | apply z1 | apply z3) | exact HB.out)⟩⟩
  case round =>
   clear H'
   try clear c1
   try clear c2
   try clear c2b0
   try clear c2b1
   try clear p2
   obtain ⟨x3_1, x8_1, rfl, HA, HK1, HO_3, HB⟩ := hrel
   have hl3_1 := (Kd.qd HO_3.out).1
   rw [hl3_1] at HO_3
   (try simp only [hl3_1])
   cases gk with
   | zero => exact absurd HA.out (by simp [zj.l0])
   | succ k1 =>
    have H := HA.out
    clear HA
    simp only [zj.l0] at H
    by_cases c6 : x8_1 < (y256.length : Int)
    ·rw [if_pos c6] at H
     have c6b0 : decide (x8_1 < (y256.length : Int)) = true := decide_eq_true c6
     clear c6
     obtain ⟨ji7, hji7⟩ : ∃ j_ : Int, (wrap64 (56 - (wrap64 (8 * x8_1)))) = j_ := ⟨_, rfl⟩
     replace H : (if 0 ≤ (ji7) then (if 0 ≤ x8_1 then (if x8_1 < (x3_1.length : Int) then (zj.l0 k1 a0 (x3_1.set (x8_1 : Int).toNat ((shr .i64 a0 (ji7)) % 256)) (y256.length : Int) (wrap64 (x8_1 + 1))) else (none)) else (none)) else (none)) = some r := by first | (rw [hji7] at H; exact H) | (simp only [hji7] at H ⊢; exact H)
     have hji7w : (IntKind.i64.wrap (56 - (wrap64 (8 * x8_1)))) = ji7 := (yg _).trans hji7
     by_cases c8 : 0 ≤ (ji7)
     ·rw [if_pos c8] at H
      have c8b0 := eq_true c8
      have c8b1 : decide (0 ≤ (ji7)) = true := decide_eq_true c8
      clear c8
      obtain ⟨ji9, hji9⟩ : ∃ j_ : Int, (shr .i64 a0 (ji7)) = j_ := ⟨_, rfl⟩
      replace H : (if 0 ≤ x8_1 then (if x8_1 < (x3_1.length : Int) then (zj.l0 k1 a0 (x3_1.set (x8_1 : Int).toNat ((ji9) % 256)) (y256.length : Int) (wrap64 (x8_1 + 1))) else (none)) else (none)) = some r := by first | (rw [hji9] at H; exact H) | (simp only [hji9] at H ⊢; exact H)
      have hji9_ : (a0 / 2 ^ min (ji7).toNat 64) = ji9 := hji9
      have hji9z : (ji7) ≤ 64 → (a0 / 2 ^ (ji7).toNat) = ji9 := q1g hji9
      by_cases c10 : 0 ≤ x8_1
      ·rw [if_pos c10] at H
       have c10b0 : decide (0 ≤ x8_1) = true := decide_eq_true c10
       clear c10
       by_cases c11 : x8_1 < (x3_1.length : Int)
       ·rw [if_pos c11] at H
        have c11b0 : decide (x8_1 < (x3_1.length : Int)) = true := decide_eq_true c11
        clear c11
        obtain ⟨y259, hy259⟩ : ∃ y_ : List Int, y_ = (x3_1.set (x8_1 : Int).toNat ((ji9) % 256)) := ⟨_, rfl⟩
        replace H : (zj.l0 k1 a0 y259 (y256.length : Int) (wrap64 (x8_1 + 1))) = some r := by first | (rw [hy259]; with_reducible exact H) | (have H2_ := (Option.bind_some _ _).symm.trans H; rw [hy259]; with_reducible exact H2_) | (have H2_ := (Option.bind_some _ _).symm.trans H; with_reducible exact H2_) | with_reducible exact H | (rw [hy259]; exact H) | exact H
        have Ny259 := z2.mk hy259
        clear hy259
        have H' := z2.mk H
        clear H
        have p12 : 0 ≤ (x8_1 : Int) := of_decide_eq_true (by first | (with_reducible assumption) | assumption)
        have q12 : (x8_1 : Int) < ((x3_1.length : Int) : Int) := of_decide_eq_true (by first | (with_reducible assumption) | assumption)
        obtain ⟨go12, co12, eo12, gb12, gl12, cl12, HG12⟩ := Kd.y1d HO_3.out (by omega)
        (first | cases eo12 | (injection eo12 with ea_ en_ ec_; (first | subst ea_ | (injection ea_ with ea_; subst ea_)); subst ec_; clear en_))
        have GB12 := z2.mk gb12
        have GG12 := z2.mk HG12
        clear gb12 gl12 HG12
        obtain ⟨hx12_0, hf12_0⟩ := Kd.z18 0 HO_3.out (x8_1 : Int) p12 q12
        replace p12 := eq_true p12
        replace q12 := eq_true q12
        have HP13 := Kd.y1u HO_3.out (x8_1 : Int) ((ji9) % 256)
        go_wp2_with (first | ((with_reducible refine q0d (t := 5) (p := 19) rfl ?_); refine z0a (t := 5) (p := 19) (v := ?vo_w14) (w1 := (wr.setCell ⟨go12, (x8_1 : Int).toNat, none⟩ (.int .u8 ((ji9) % 256)))) ?hg ?ho ?hn ?hr ?_; (case ho => rfl); (case hg => rfl); (case hn => rfl); (case hr => first | (go_simp; done) | (go_simp; rfl)); intro w14 hw; have hg : wr.grownBy w14 (some go12) := (by rw [hw]; exact HP13.2); have hp_ : Kd.R (Kd.int .u8) 5 w14 w.heap.size (fun _ => True) (.slice (some ⟨go12, 0, none⟩) x3_1.length co5) y259 := (by rw [hw, Ny259.out]; exact HP13.1); clear HP13; have n0_ := z2.mk (hp_); have n1_ := z2.mk ((by rw [hw]; exact z7 (HB.out) GB12.out : Below w.heap.size w w14)); clear HO_3 HB; have HO_3 := n0_; have HB := n1_; clear n0_ n1_ hg hw hp_))
        (try simp only [← hl3_1])
        go_roundg k1
        case measure => have := HK1.out; omega
        case rel => exact ⟨(y259), (wrap64 (x8_1 + 1)), (by first | rfl | (simp; done) | (simp [*]; done)), H', ⟨by have := HK1.out; omega⟩, ⟨by (try simp only [hl3_1]); (with_reducible repeat (first | apply Kd.R_alloc | apply Kd.y9 | apply Kd.zb)); exact HO_3.out⟩, ⟨by repeat (first | (with_reducible first | exact HB.out | apply z4 | apply z1 | apply z3) | exact HB.out)⟩⟩
       ·rw [if_neg c11] at H
        exact absurd H (by simp)
      ·rw [if_neg c10] at H
       exact absurd H (by simp)
     ·rw [if_neg c8] at H
      exact absurd H (by simp)
    ·rw [if_neg c6] at H
     have c6b0 : decide (x8_1 < (y256.length : Int)) = false := decide_eq_false c6
     (try simp only [hl3_1] at c6b0)
     clear c6
     obtain rfl := Option.some.inj H
     go_wp2
     go_ret
     exact ⟨_, by first | rfl | (simp [ya, qa] <;> rfl) | (simp [*, ya, qa] <;> rfl), by (with_reducible repeat (first | apply Kd.R_alloc | apply Kd.y9 | apply Kd.zb)); exact HO_3.out, by repeat (first | (with_reducible first | exact HB.out | apply z4 | apply z1 | apply z3) | exact HB.out)⟩
 ·rw [if_neg c2] at H
  exact absurd H (by simp)
def zh.l0 : Nat → List Int → List (yl) → Int → Int → Option (List Int)
 | 0, _, _, _, _ => none
 | k + 1, x3, x10, x11, x12 => if x12 < x11 then (if 0 ≤ x12 then (if x12 < (x10.length : Int) then ((some (([((y7 x10 x12).f0) % 256, ((y7 x10 x12).f1) % 256, ((y7 x10 x12).f2) % 256] : List Int) : List Int)).bind fun y266 => (if x3.length + y266.length < 140737488355328 then ((some (x3 ++ y266 : List Int)).bind fun y269 => ((zj.f k ((y7 x10 x12).f3)).bind fun t272 => (if y269.length + t272.length < 140737488355328 then (zh.l0 k (y269 ++ t272) x10 x11 (wrap64 (x12 + 1))) else (none)))) else (none))) else (none)) else (none)) else (some x3)
def zh.f (k : Nat) (a0_0 : Int) (l0_1 : List (yl)) : Option (List Int) := (zj.f k a0_0).bind fun t261 => (zh.l0 k t261 l0_1 (l0_1.length : Int) 0)
set_option maxHeartbeats 8000000 in
set_option maxRecDepth 100000 in
theorem zh.calls (k : Nat) (a0_0 : Int) (A0_1 : Option Addr) (c0_1 : Nat) (l0_1 : List (yl)) (r : List Int) (w : World) (hr0_1 : Kd.C y08 w A0_1 l0_1.length l0_1) (hc0_1 : l0_1.length ≤ c0_1) (h : zh.f k a0_0 l0_1 = some r) :
  Calls Try.prog 104 #[.agg #[.int .i64 a0_0, .slice A0_1 l0_1.length c0_1]] w fun e w' => ∃ v0_ : Value, e = .returned (v0_) ∧ Kd.R (Kd.int .u8) 5 w' w.heap.size (fun _ => True) v0_ r ∧ Below w.heap.size w w' := by
 have hu31 := Try.underlying31
 have hu138 := Try.underlying138
 have HR0_1 := z2.mk hr0_1
 have HC0_1 := z2.mk hc0_1
 clear hr0_1 hc0_1
 have HB := z2.mk (Below.refl w.heap.size w)
 have H : ((zj.f k a0_0).bind fun t261 => (zh.l0 k t261 l0_1 (l0_1.length : Int) 0)) = some r := h
 clear h
 replace H := Option.bind_eq_some_iff.mp H
 obtain ⟨t261, A20, H⟩ := H
 replace H : (zh.l0 k t261 l0_1 (l0_1.length : Int) 0) = some r := H
 have A2 := z2.mk A20
 clear A20
 have H' := z2.mk H
 clear H
 go_enter Try.func104, Try.ntmps104
 go_wp2_with (first | ((with_reducible refine ye (N := 1) rfl ?_); refine ze ?hg (N := 1) ?hd (cs := #[.int .i64 a0_0, .slice A0_1 l0_1.length c0_1]) (t := 31) ?hr ?_; (case hd => rfl); (case hg => rfl); (case hr => first | (go_simp; done) | (go_simp; rfl)); intro gb260 hg w3 hbox hb; have n0_ := z2.mk (y8 (by repeat (first | (with_reducible first | exact HB.out | apply z4 | apply z1 | apply z3) | exact HB.out)) hb); have n1_ := z2.mk (hbox); have n2_ := z2.mk ((by rw [hg]; exact (z8 (by repeat (first | (with_reducible first | exact HB.out | apply z4 | apply z1 | apply z3) | exact HB.out))) : w.heap.size ≤ gb260)); have n3_ := z2.mk ((by rw [hg]; exact (z8 (by repeat (first | (with_reducible first | exact HB.out | apply z4 | apply z1 | apply z3) | exact HB.out))) : w.heap.size ≤ gb260)); clear HB; have HB := n0_; have BK260 := n1_; have GW260 := n2_; have GE260 := n3_; clear n0_ n1_ n2_ n3_ hb hbox hg; have hcz4_0 : w3.cell? ⟨gb260, 0, none⟩ = some (.int .i64 a0_0) := (z6 BK260.out 0).trans rfl; have hcz4_1 : w3.cell? ⟨gb260, 1, none⟩ = some (.slice A0_1 l0_1.length c0_1) := (z6 BK260.out 1).trans rfl; have hfz4_0 := y5 BK260.out 0; have hfz4_1 := y5 BK260.out 1) | ((with_reducible refine qb (f := 105) rfl ?_); refine zm (some 8) rfl rfl Try.func105 (by kernel_rfl) rfl #[.int .i64 a0_0] rfl (by (try simp only [List.map_toArray, List.map_cons, List.map_nil]); first | done | rfl | (simp only [List.length_drop, List.length_take]; rfl)) ?_; (with_reducible refine (zj.calls k a0_0 t261 _ A2.out).mono ?_); rintro e w5 ⟨v262, rfl, ho0, hb⟩; refine ⟨_, rfl, ?_⟩; have n0_ := z2.mk (Kd.yr ho0 (z8 (by repeat (first | (with_reducible first | exact HB.out | apply z4 | apply z1 | apply z3 | refine z7 ?_ GE260.out) | exact HB.out)))); have n1_ := z2.mk (z9 (g := gb260) (o := .cells #[.int .i64 a0_0, .slice A0_1 l0_1.length c0_1] 31 (0, 0)) (by (with_reducible repeat (first | refine z5 ?_ _ | refine y6 ?_ | refine y4 ?_ _)); exact BK260.out) hb); have n2_ := z2.mk (y8 (by repeat (first | (with_reducible first | exact HB.out | apply z4 | apply z1 | apply z3 | refine z7 ?_ GE260.out) | exact HB.out)) hb); clear BK260 HB; have HO263 := n0_; have BK260 := n1_; have HB := n2_; clear n0_ n1_ n2_; (try clear hb); (try clear hb2); (try clear hk); (try clear hi); (try clear ho0); have hcz6_0 : w5.cell? ⟨gb260, 0, none⟩ = some (.int .i64 a0_0) := (z6 BK260.out 0).trans rfl; have hcz6_1 : w5.cell? ⟨gb260, 1, none⟩ = some (.slice A0_1 l0_1.length c0_1) := (z6 BK260.out 1).trans rfl; have hfz6_0 := y5 BK260.out 0; have hfz6_1 := y5 BK260.out 1))
 go_loopg [3, 12] k (fun kq v3 v12 w' => ∃ (x3_1 : List Int) (x12_1 : Int), v12 = .int .i64 x12_1 ∧ z2 (zh.l0 kq x3_1 l0_1 (l0_1.length : Int) x12_1 = some r) ∧ z2 (kq ≤ k) ∧ z2 (Kd.R (Kd.int .u8) 5 w' w.heap.size (fun _ => True) v3 x3_1) ∧ z2 (w'.heap[gb260]? = some (.cells #[.int .i64 a0_0, (.slice A0_1 l0_1.length c0_1)] 31 (0, 0))) ∧ z2 (Below w.heap.size w w'))
 case atStart => exact ⟨(t261), (0), (by first | rfl | (simp; done) | (simp [*]; done)), H', ⟨Nat.le_refl _⟩, ⟨by (with_reducible repeat (first | apply Kd.R_alloc | apply Kd.y9 | apply Kd.zb)); exact HO263.out⟩, ⟨by (with_reducible repeat (first | refine z5 ?_ _ | refine y6 ?_ | refine y4 ?_ _)); exact BK260.out⟩, ⟨by repeat (first | (with_reducible first | exact HB.out | apply z4 | apply z1 | apply z3 | refine z7 ?_ GE260.out) | exact HB.out)⟩⟩
 case round =>
  clear H'
  try clear c1
  try clear p2
  try clear hcz4_0
  try clear hcz4_1
  try clear hcz6_0
  try clear hcz6_1
  try clear hfz4_0
  try clear hfz4_1
  try clear hfz6_0
  try clear hfz6_1
  obtain ⟨x3_1, x12_1, rfl, HA, HK1, HO_3, BK260, HB⟩ := hrel
  cases gk with
  | zero => exact absurd HA.out (by simp [zh.l0])
  | succ k1 =>
   have H := HA.out
   clear HA
   simp only [zh.l0] at H
   by_cases c7 : x12_1 < (l0_1.length : Int)
   ·rw [if_pos c7] at H
    have c7b0 : decide (x12_1 < (l0_1.length : Int)) = true := decide_eq_true c7
    clear c7
    by_cases c8 : 0 ≤ x12_1
    ·rw [if_pos c8] at H
     have c8b0 : decide (0 ≤ x12_1) = true := decide_eq_true c8
     clear c8
     by_cases c9 : x12_1 < (l0_1.length : Int)
     ·rw [if_pos c9] at H
      have c9b0 : decide (x12_1 < (l0_1.length : Int)) = true := decide_eq_true c9
      clear c9
      obtain ⟨y266, hy266⟩ : ∃ y_ : List Int, y_ = (([((y7 l0_1 x12_1).f0) % 256, ((y7 l0_1 x12_1).f1) % 256, ((y7 l0_1 x12_1).f2) % 256] : List Int)) := ⟨_, rfl⟩
      replace H : (if x3_1.length + y266.length < 140737488355328 then ((some (x3_1 ++ y266 : List Int)).bind fun y269 => ((zj.f k1 ((y7 l0_1 x12_1).f3)).bind fun t272 => (if y269.length + t272.length < 140737488355328 then (zh.l0 k1 (y269 ++ t272) l0_1 (l0_1.length : Int) (wrap64 (x12_1 + 1))) else (none)))) else (none)) = some r := by first | (rw [hy266]; with_reducible exact H) | (have H2_ := (Option.bind_some _ _).symm.trans H; rw [hy266]; with_reducible exact H2_) | (have H2_ := (Option.bind_some _ _).symm.trans H; with_reducible exact H2_) | with_reducible exact H | (rw [hy266]; exact H) | exact H
      have Ny266 := z2.mk hy266
      clear hy266
      by_cases c10 : x3_1.length + y266.length < 140737488355328
      ·rw [if_pos c10] at H
       have LMc10 := z2.mk c10
       clear c10
       obtain ⟨y269, hy269⟩ : ∃ y_ : List Int, y_ = (x3_1 ++ y266) := ⟨_, rfl⟩
       replace H : ((zj.f k1 ((y7 l0_1 x12_1).f3)).bind fun t272 => (if y269.length + t272.length < 140737488355328 then (zh.l0 k1 (y269 ++ t272) l0_1 (l0_1.length : Int) (wrap64 (x12_1 + 1))) else (none))) = some r := by first | (rw [hy269]; with_reducible exact H) | (have H2_ := (Option.bind_some _ _).symm.trans H; rw [hy269]; with_reducible exact H2_) | (have H2_ := (Option.bind_some _ _).symm.trans H; with_reducible exact H2_) | with_reducible exact H | (rw [hy269]; exact H) | exact H
       have Ny269 := z2.mk hy269
       clear hy269
       replace H := Option.bind_eq_some_iff.mp H
       obtain ⟨t272, A110, H⟩ := H
       replace H : (if y269.length + t272.length < 140737488355328 then (zh.l0 k1 (y269 ++ t272) l0_1 (l0_1.length : Int) (wrap64 (x12_1 + 1))) else (none)) = some r := H
       have A11 := z2.mk A110
       clear A110
       by_cases c12 : y269.length + t272.length < 140737488355328
       ·rw [if_pos c12] at H
        have LMc12 := z2.mk c12
        clear c12
        obtain ⟨y275, hy275⟩ : ∃ y_ : List Int, y_ = (y269 ++ t272) := ⟨_, rfl⟩
        replace H : (zh.l0 k1 y275 l0_1 (l0_1.length : Int) (wrap64 (x12_1 + 1))) = some r := by first | (rw [hy275]; with_reducible exact H) | (have H2_ := (Option.bind_some _ _).symm.trans H; rw [hy275]; with_reducible exact H2_) | (have H2_ := (Option.bind_some _ _).symm.trans H; with_reducible exact H2_) | with_reducible exact H | (rw [hy275]; exact H) | exact H
        have Ny275 := z2.mk hy275
        clear hy275
        have H' := z2.mk H
        clear H
        have p264 : 0 ≤ (x12_1 : Int) := of_decide_eq_true (by first | (with_reducible assumption) | assumption)
        have q264 : x12_1 < (l0_1.length : Int) := of_decide_eq_true (by first | (with_reducible assumption) | assumption)
        obtain ⟨ad264, e264, hx264_0, hx264_1, hx264_2, hx264_3⟩ := yz HR0_1.out x12_1 p264 q264
        cases e264
        replace hx264_0 := (HB.out.cell (World.block_lt_of_cell? w _ hx264_0)).trans hx264_0
        replace hx264_1 := (HB.out.cell (World.block_lt_of_cell? w _ hx264_1)).trans hx264_1
        replace hx264_2 := (HB.out.cell (World.block_lt_of_cell? w _ hx264_2)).trans hx264_2
        replace hx264_3 := (HB.out.cell (World.block_lt_of_cell? w _ hx264_3)).trans hx264_3
        replace p264 := eq_true p264
        replace q264 := eq_true q264
        go_wp2_with (first | ((with_reducible refine ye (N := 5) rfl ?_); refine ze ?hg (N := 5) ?hd (cs := #[.int .i64 0, .int .i64 0, .int .i64 0, .int .i64 0]) (t := 138) ?hr ?_; (case hd => rfl); (case hg => rfl); (case hr => first | (go_simp; done) | (go_simp; rfl)); intro gb265 hg w13 hbox hb; have n0_ := z2.mk (Kd.qf (by (with_reducible repeat (first | apply Kd.R_alloc | apply Kd.y9 | apply Kd.zb)); exact HO_3.out) hb); have n1_ := z2.mk (z9 (g := gb260) (o := .cells #[.int .i64 a0_0, .slice (some ad264) l0_1.length c0_1] 31 (0, 0)) (by (with_reducible repeat (first | refine z5 ?_ _ | refine y6 ?_ | refine y4 ?_ _)); exact BK260.out) hb); have n2_ := z2.mk (y8 (by repeat (first | (with_reducible first | exact HB.out | apply z4 | apply z1 | apply z3 | refine z7 ?_ GE260.out) | exact HB.out)) hb); have n3_ := z2.mk (hbox); have n4_ := z2.mk ((by rw [hg]; exact (z8 (by repeat (first | (with_reducible first | exact HB.out | apply z4 | apply z1 | apply z3 | refine z7 ?_ GE260.out) | exact HB.out))) : w.heap.size ≤ gb265)); have n5_ := z2.mk ((by rw [hg]; exact (z8 (by repeat (first | (with_reducible first | exact HB.out | apply z4 | apply z1 | apply z3 | refine z7 ?_ GE260.out) | exact HB.out))) : w.heap.size ≤ gb265)); have n6_ := z2.mk ((by rw [hg]; exact Nat.ne_of_lt (qk (g := gb260) (o := .cells #[.int .i64 a0_0, .slice (some ad264) l0_1.length c0_1] 31 (0, 0)) (by (with_reducible repeat (first | refine z5 ?_ _ | refine y6 ?_ | refine y4 ?_ _)); exact BK260.out)) : gb260 ≠ gb265)); have n7_ := z2.mk ((by rw [hg]; exact Nat.ne_of_gt (qk (g := gb260) (o := .cells #[.int .i64 a0_0, .slice (some ad264) l0_1.length c0_1] 31 (0, 0)) (by (with_reducible repeat (first | refine z5 ?_ _ | refine y6 ?_ | refine y4 ?_ _)); exact BK260.out)) : gb265 ≠ gb260)); clear HO_3 BK260 HB; have HO_3 := n0_; have BK260 := n1_; have HB := n2_; have BK265 := n3_; have GW265 := n4_; have GE265 := n5_; have NB260_265 := n6_; have NB265_260 := n7_; clear n0_ n1_ n2_ n3_ n4_ n5_ n6_ n7_ hb hbox hg; have hnb14 := NB265_260.out; have hnc14 := NB260_265.out; have hcz15_0 : w13.cell? ⟨gb265, 0, none⟩ = some (.int .i64 0) := (z6 BK265.out 0).trans rfl; have hcz15_1 : w13.cell? ⟨gb265, 1, none⟩ = some (.int .i64 0) := (z6 BK265.out 1).trans rfl; have hcz15_2 : w13.cell? ⟨gb265, 2, none⟩ = some (.int .i64 0) := (z6 BK265.out 2).trans rfl; have hcz15_3 : w13.cell? ⟨gb265, 3, none⟩ = some (.int .i64 0) := (z6 BK265.out 3).trans rfl; have hfz15_0 := y5 BK265.out 0; have hfz15_1 := y5 BK265.out 1; have hfz15_2 := y5 BK265.out 2; have hfz15_3 := y5 BK265.out 3) | ((with_reducible refine ye (N := 26) rfl ?_); refine Kd.y1i (Kd.int .u8) _ 5 ?hg (N := 26) ?hd (xs := ([((y7 l0_1 x12_1).f0) % 256, ((y7 l0_1 x12_1).f1) % 256, ((y7 l0_1 x12_1).f2) % 256] : List Int)) (inner := [.int .u8 (((y7 l0_1 x12_1).f0) % 256), .int .u8 (((y7 l0_1 x12_1).f1) % 256), .int .u8 (((y7 l0_1 x12_1).f2) % 256)]) (ok := fun _ => True) (okp := fun _ => True) ?hr ?hp (fun _ hk => hk) trivial (Below.refl _ _) (Nat.le_refl _) (by simp) ?_; (case hd => rfl); (case hg => rfl); (case hr => first | (go_simp; done) | (go_simp; rfl)); (case hp => exact (z0b.one (show Kd.M (Kd.int .u8) _ _ _ (((y7 l0_1 x12_1).f0) % 256) [.int .u8 (((y7 l0_1 x12_1).f0) % 256)] from rfl) (z0b.one (show Kd.M (Kd.int .u8) _ _ _ (((y7 l0_1 x12_1).f1) % 256) [.int .u8 (((y7 l0_1 x12_1).f1) % 256)] from rfl) (z0b.one (show Kd.M (Kd.int .u8) _ _ _ (((y7 l0_1 x12_1).f2) % 256) [.int .u8 (((y7 l0_1 x12_1).f2) % 256)] from rfl) (z0b.none _ _))))); intro v267 w16 ho17 hb hg_ hnew_; clear hg_ hnew_; (first | rw [← Ny266.out] at ho17 | (simp only [Int.reduceToNat] at ho17; rw [← Ny266.out] at ho17)); have n0_ := z2.mk (Kd.qu (by (with_reducible repeat (first | apply Kd.R_alloc | apply Kd.y9 | apply Kd.zb)); exact (Kd.yk (Kd.zf (p := ⟨gb265, 3, none⟩) (Kd.zf (p := ⟨gb265, 2, none⟩) (Kd.zf (p := ⟨gb265, 1, none⟩) (Kd.zf (p := ⟨gb265, 0, none⟩) (Kd.qp HO_3.out BK265.out (by decide)) (fun _ hk => hk.2) (.int .i64 ((y7 l0_1 x12_1).f0))) (fun _ hk => hk.2) (.int .i64 ((y7 l0_1 x12_1).f1))) (fun _ hk => hk.2) (.int .i64 ((y7 l0_1 x12_1).f2))) (fun _ hk => hk.2) (.int .i64 ((y7 l0_1 x12_1).f3))) (fun _ h_ => h_.1))) (Kd.z00 ho17) hb); have n1_ := z2.mk (Kd.yr (Kd.y00 ho17 (Kd.q0e (by (with_reducible repeat (first | apply Kd.R_alloc | apply Kd.y9 | apply Kd.zb)); exact (Kd.yk (Kd.zf (p := ⟨gb265, 3, none⟩) (Kd.zf (p := ⟨gb265, 2, none⟩) (Kd.zf (p := ⟨gb265, 1, none⟩) (Kd.zf (p := ⟨gb265, 0, none⟩) (Kd.qp HO_3.out BK265.out (by decide)) (fun _ hk => hk.2) (.int .i64 ((y7 l0_1 x12_1).f0))) (fun _ hk => hk.2) (.int .i64 ((y7 l0_1 x12_1).f1))) (fun _ hk => hk.2) (.int .i64 ((y7 l0_1 x12_1).f2))) (fun _ hk => hk.2) (.int .i64 ((y7 l0_1 x12_1).f3))) (fun _ h_ => h_.1))))) (z8 (by repeat (first | (with_reducible first | exact HB.out | apply z4 | apply z1 | apply z3 | refine z7 ?_ GE260.out | refine z7 ?_ GE265.out) | exact HB.out)))); have n2_ := z2.mk (z9 (g := gb260) (o := .cells #[.int .i64 a0_0, .slice (some ad264) l0_1.length c0_1] 31 (0, 0)) (by (with_reducible repeat (first | refine z5 ?_ _ | refine y6 ?_ | refine y4 ?_ _)); refine zd ?_ NB260_265.out _; (with_reducible repeat (first | refine z5 ?_ _ | refine y6 ?_ | refine y4 ?_ _)); refine zd ?_ NB260_265.out _; (with_reducible repeat (first | refine z5 ?_ _ | refine y6 ?_ | refine y4 ?_ _)); refine zd ?_ NB260_265.out _; (with_reducible repeat (first | refine z5 ?_ _ | refine y6 ?_ | refine y4 ?_ _)); refine zd ?_ NB260_265.out _; (with_reducible repeat (first | refine z5 ?_ _ | refine y6 ?_ | refine y4 ?_ _)); exact BK260.out) hb); have n3_ := z2.mk (z9 (g := gb265) (o := .cells #[.int .i64 ((y7 l0_1 x12_1).f0), .int .i64 ((y7 l0_1 x12_1).f1), .int .i64 ((y7 l0_1 x12_1).f2), .int .i64 ((y7 l0_1 x12_1).f3)] 138 (0, 0)) (by (with_reducible repeat (first | refine z5 ?_ _ | refine y6 ?_ | refine y4 ?_ _)); refine qc (cs := #[.int .i64 ((y7 l0_1 x12_1).f0), .int .i64 ((y7 l0_1 x12_1).f1), .int .i64 ((y7 l0_1 x12_1).f2), .int .i64 0]) ?_ 3 _ rfl; (with_reducible repeat (first | refine z5 ?_ _ | refine y6 ?_ | refine y4 ?_ _)); refine qc (cs := #[.int .i64 ((y7 l0_1 x12_1).f0), .int .i64 ((y7 l0_1 x12_1).f1), .int .i64 0, .int .i64 0]) ?_ 2 _ rfl; (with_reducible repeat (first | refine z5 ?_ _ | refine y6 ?_ | refine y4 ?_ _)); refine qc (cs := #[.int .i64 ((y7 l0_1 x12_1).f0), .int .i64 0, .int .i64 0, .int .i64 0]) ?_ 1 _ rfl; (with_reducible repeat (first | refine z5 ?_ _ | refine y6 ?_ | refine y4 ?_ _)); refine qc (cs := #[.int .i64 0, .int .i64 0, .int .i64 0, .int .i64 0]) ?_ 0 _ rfl; (with_reducible repeat (first | refine z5 ?_ _ | refine y6 ?_ | refine y4 ?_ _)); exact BK265.out) hb); have n4_ := z2.mk (y8 (by repeat (first | (with_reducible first | exact HB.out | apply z4 | apply z1 | apply z3 | refine z7 ?_ GE260.out | refine z7 ?_ GE265.out) | exact HB.out)) hb); clear HO_3 BK260 BK265 HB; have HO_3 := n0_; have HO268 := n1_; have BK260 := n2_; have BK265 := n3_; have HB := n4_; clear n0_ n1_ n2_ n3_ n4_ hb ho17; obtain ⟨Ao19, co19, eo19⟩ := Kd.zt HO268.out; subst eo19) | ((with_reducible refine z03 (b := .append) (xs := #[.tmp 16, .tmp 26]) rfl ?_); at_builtin; refine Kd.z07 (Kd.int .u8) (w0 := w) w.heap.size rfl (.tmp 16) (.tmp 26) 37 5 (.int .u8 0) 1 rfl Try.underlying37 y0f rfl (by decide) (by omega) u3 x3_1 y266 _ _ _ (fun k_ => some k_ ≠ (.slice Ao19 y266.length co19 : Value).ownBlock) (fun _ => False) rfl rfl ?aO ?aR (fun _ _ h => h) (fun _ h => h.elim) ?aF ?aB ?aS ?aL ?_; (case aR => repeat (first | exact (Kd.qd HO268.out).2.2 | (with_reducible refine Kd.yi ?_ _) | (with_reducible refine Kd.qi ?_ _) | (with_reducible refine Kd.C_drew ?_))); (case aB => exact (by repeat (first | (with_reducible first | exact HB.out | apply z4 | apply z1 | apply z3 | refine z7 ?_ GE260.out | refine z7 ?_ GE265.out) | exact HB.out))); (case aF => exact (fun k_ hk => Kd.z0g (Kd.q0e (by (with_reducible repeat (first | apply Kd.R_alloc | apply Kd.y9 | apply Kd.zb)); exact HO268.out)) k_ hk)); (case aO => exact (by (with_reducible repeat (first | apply Kd.R_alloc | apply Kd.y9 | apply Kd.zb)); exact Kd.yk HO_3.out (fun _ hk => hk.2))); (case aS => exact (z8 (by repeat (first | (with_reducible first | exact HB.out | apply z4 | apply z1 | apply z3 | refine z7 ?_ GE260.out | refine z7 ?_ GE265.out) | exact HB.out)))); (case aL => have := LMc10.out; omega); intro v270 w18 ho hb hg hat; rw [← Ny269.out] at ho; have n0_ := z2.mk (yy (g := gb260) (o := .cells #[.int .i64 a0_0, .slice (some ad264) l0_1.length c0_1] 31 (0, 0)) (by (with_reducible repeat (first | refine z5 ?_ _ | refine y6 ?_ | refine y4 ?_ _)); exact BK260.out) hg (Kd.y0k HO_3.out BK260.out (by decide))); have n1_ := z2.mk (yy (g := gb265) (o := .cells #[.int .i64 ((y7 l0_1 x12_1).f0), .int .i64 ((y7 l0_1 x12_1).f1), .int .i64 ((y7 l0_1 x12_1).f2), .int .i64 ((y7 l0_1 x12_1).f3)] 138 (0, 0)) (by (with_reducible repeat (first | refine z5 ?_ _ | refine y6 ?_ | refine y4 ?_ _)); exact BK265.out) hg (Kd.y0k HO_3.out BK265.out (by decide))); have n2_ := z2.mk (Kd.q09 (ok := (fun _ => True)) (by (with_reducible repeat (first | apply Kd.R_alloc | apply Kd.y9 | apply Kd.zb)); exact HO268.out) hg hat); have n3_ := z2.mk (hb); have n4_ := z2.mk (ho); clear BK260 BK265 HO268 HB HO_3; have BK260 := n0_; have BK265 := n1_; have HO268 := n2_; have HB := n3_; have HO271 := n4_; clear n0_ n1_ n2_ n3_ n4_ ho hb hg hat; have hcz20_0 : w18.cell? ⟨gb265, 0, none⟩ = some (.int .i64 ((y7 l0_1 x12_1).f0)) := (z6 BK265.out 0).trans rfl; have hcz20_1 : w18.cell? ⟨gb265, 1, none⟩ = some (.int .i64 ((y7 l0_1 x12_1).f1)) := (z6 BK265.out 1).trans rfl; have hcz20_2 : w18.cell? ⟨gb265, 2, none⟩ = some (.int .i64 ((y7 l0_1 x12_1).f2)) := (z6 BK265.out 2).trans rfl; have hcz20_3 : w18.cell? ⟨gb265, 3, none⟩ = some (.int .i64 ((y7 l0_1 x12_1).f3)) := (z6 BK265.out 3).trans rfl; have hfz20_0 := y5 BK265.out 0; have hfz20_1 := y5 BK265.out 1; have hfz20_2 := y5 BK265.out 2; have hfz20_3 := y5 BK265.out 3) | ((with_reducible refine qb (f := 105) rfl ?_); refine zm (some 31) rfl rfl Try.func105 (by kernel_rfl) rfl #[.int .i64 ((y7 l0_1 x12_1).f3)] rfl (by (try simp only [List.map_toArray, List.map_cons, List.map_nil]); first | done | rfl | (simp only [List.length_drop, List.length_take]; rfl)) ?_; (with_reducible refine (zj.calls k1 ((y7 l0_1 x12_1).f3) t272 _ A11.out).mono ?_); rintro e w21 ⟨v273, rfl, ho0, hb⟩; refine ⟨_, rfl, ?_⟩; have n0_ := z2.mk (Kd.qu (by (with_reducible repeat (first | apply Kd.R_alloc | apply Kd.y9 | apply Kd.zb)); exact HO268.out) (Kd.z00 ho0) hb); have n1_ := z2.mk (Kd.qu (by (with_reducible repeat (first | apply Kd.R_alloc | apply Kd.y9 | apply Kd.zb)); exact HO271.out) (Kd.z00 ho0) hb); have n2_ := z2.mk (Kd.yr (Kd.y00 (Kd.y00 ho0 (Kd.q0e (by (with_reducible repeat (first | apply Kd.R_alloc | apply Kd.y9 | apply Kd.zb)); exact HO268.out))) (Kd.q0e (by (with_reducible repeat (first | apply Kd.R_alloc | apply Kd.y9 | apply Kd.zb)); exact HO271.out))) (z8 (by repeat (first | (with_reducible first | exact HB.out | apply z4 | apply z1 | apply z3 | refine z7 ?_ GE260.out | refine z7 ?_ GE265.out) | exact HB.out)))); have n3_ := z2.mk (z9 (g := gb260) (o := .cells #[.int .i64 a0_0, .slice (some ad264) l0_1.length c0_1] 31 (0, 0)) (by (with_reducible repeat (first | refine z5 ?_ _ | refine y6 ?_ | refine y4 ?_ _)); exact BK260.out) hb); have n4_ := z2.mk (z9 (g := gb265) (o := .cells #[.int .i64 ((y7 l0_1 x12_1).f0), .int .i64 ((y7 l0_1 x12_1).f1), .int .i64 ((y7 l0_1 x12_1).f2), .int .i64 ((y7 l0_1 x12_1).f3)] 138 (0, 0)) (by (with_reducible repeat (first | refine z5 ?_ _ | refine y6 ?_ | refine y4 ?_ _)); exact BK265.out) hb); have n5_ := z2.mk (y8 (by repeat (first | (with_reducible first | exact HB.out | apply z4 | apply z1 | apply z3 | refine z7 ?_ GE260.out | refine z7 ?_ GE265.out) | exact HB.out)) hb); clear HO268 HO271 BK260 BK265 HB; have HO268 := n0_; have HO271 := n1_; have HO274 := n2_; have BK260 := n3_; have BK265 := n4_; have HB := n5_; clear n0_ n1_ n2_ n3_ n4_ n5_; (try clear hb); (try clear hb2); (try clear hk); (try clear hi); (try clear ho0); obtain ⟨Ao23, co23, eo23⟩ := Kd.zt HO274.out; subst eo23) | ((with_reducible refine z03 (b := .append) (xs := #[.tmp 28, .tmp 31]) rfl ?_); at_builtin; refine Kd.z07 (Kd.int .u8) (w0 := w) w.heap.size rfl (.tmp 28) (.tmp 31) 37 5 (.int .u8 0) 1 rfl Try.underlying37 y0f rfl (by decide) (by omega) v270 y269 t272 _ _ _ (fun k_ => some k_ ≠ (.slice Ao19 y266.length co19 : Value).ownBlock ∧ some k_ ≠ (.slice Ao23 t272.length co23 : Value).ownBlock) (fun _ => False) rfl rfl ?aO ?aR (fun _ _ h => h) (fun _ h => h.elim) ?aF ?aB ?aS ?aL ?_; (case aR => repeat (first | exact (Kd.qd HO274.out).2.2 | (with_reducible refine Kd.yi ?_ _) | (with_reducible refine Kd.qi ?_ _) | (with_reducible refine Kd.C_drew ?_))); (case aB => exact (by repeat (first | (with_reducible first | exact HB.out | apply z4 | apply z1 | apply z3 | refine z7 ?_ GE260.out | refine z7 ?_ GE265.out) | exact HB.out))); (case aF => exact (fun k_ hk => ⟨Kd.z0g (Kd.q0e (by (with_reducible repeat (first | apply Kd.R_alloc | apply Kd.y9 | apply Kd.zb)); exact HO268.out)) k_ hk, Kd.z0g (Kd.q0e (by (with_reducible repeat (first | apply Kd.R_alloc | apply Kd.y9 | apply Kd.zb)); exact HO274.out)) k_ hk⟩)); (case aO => exact (by (with_reducible repeat (first | apply Kd.R_alloc | apply Kd.y9 | apply Kd.zb)); exact HO271.out)); (case aS => exact (z8 (by repeat (first | (with_reducible first | exact HB.out | apply z4 | apply z1 | apply z3 | refine z7 ?_ GE260.out | refine z7 ?_ GE265.out) | exact HB.out)))); (case aL => have := LMc12.out; omega); intro v276 w22 ho hb hg hat; rw [← Ny275.out] at ho; have n0_ := z2.mk (yy (g := gb260) (o := .cells #[.int .i64 a0_0, .slice (some ad264) l0_1.length c0_1] 31 (0, 0)) (by (with_reducible repeat (first | refine z5 ?_ _ | refine y6 ?_ | refine y4 ?_ _)); exact BK260.out) hg (Kd.y0k HO271.out BK260.out (by decide))); have n1_ := z2.mk (yy (g := gb265) (o := .cells #[.int .i64 ((y7 l0_1 x12_1).f0), .int .i64 ((y7 l0_1 x12_1).f1), .int .i64 ((y7 l0_1 x12_1).f2), .int .i64 ((y7 l0_1 x12_1).f3)] 138 (0, 0)) (by (with_reducible repeat (first | refine z5 ?_ _ | refine y6 ?_ | refine y4 ?_ _)); exact BK265.out) hg (Kd.y0k HO271.out BK265.out (by decide))); have n2_ := z2.mk (Kd.q09 (ok := (fun k_ => some k_ ≠ (.slice Ao23 t272.length co23 : Value).ownBlock)) (by (with_reducible repeat (first | apply Kd.R_alloc | apply Kd.y9 | apply Kd.zb)); exact Kd.yk HO268.out (fun _ hk => ⟨hk.2, hk.1.2⟩)) hg hat); have n3_ := z2.mk (Kd.q09 (ok := (fun k_ => some k_ ≠ (.slice Ao19 y266.length co19 : Value).ownBlock)) (by (with_reducible repeat (first | apply Kd.R_alloc | apply Kd.y9 | apply Kd.zb)); exact Kd.yk HO274.out (fun _ hk => ⟨hk.1.2, hk.2⟩)) hg hat); have n4_ := z2.mk (hb); have n5_ := z2.mk (ho); clear BK260 BK265 HO268 HO274 HB HO271; have BK260 := n0_; have BK265 := n1_; have HO268 := n2_; have HO274 := n3_; have HB := n4_; have HO277 := n5_; clear n0_ n1_ n2_ n3_ n4_ n5_ ho hb hg hat))
        go_roundg k1
        case measure => have := HK1.out; omega
        case rel => exact ⟨(y275), (wrap64 (x12_1 + 1)), (by first | rfl | (simp; done) | (simp [*]; done)), H', ⟨by have := HK1.out; omega⟩, ⟨by (with_reducible repeat (first | apply Kd.R_alloc | apply Kd.y9 | apply Kd.zb)); exact Kd.yk HO277.out (fun _ hk => trivial)⟩, ⟨by (with_reducible repeat (first | refine z5 ?_ _ | refine y6 ?_ | refine y4 ?_ _)); exact BK260.out⟩, ⟨by repeat (first | (with_reducible first | exact HB.out | apply z4 | apply z1 | apply z3 | refine z7 ?_ GE260.out | refine z7 ?_ GE265.out) | exact HB.out)⟩⟩
       ·rw [if_neg c12] at H
        exact absurd H (by simp)
      ·rw [if_neg c10] at H
       exact absurd H (by simp)
     ·rw [if_neg c9] at H
      exact absurd H (by simp)
    ·rw [if_neg c8] at H
     exact absurd H (by simp)
   ·rw [if_neg c7] at H
    have c7b0 : decide (x12_1 < (l0_1.length : Int)) = false := decide_eq_false c7
    clear c7
    obtain rfl := Option.some.inj H
    go_wp2
    go_ret
    exact ⟨_, by first | rfl | (simp [ya, qa] <;> rfl) | (simp [*, ya, qa] <;> rfl), by (with_reducible repeat (first | apply Kd.R_alloc | apply Kd.y9 | apply Kd.zb)); exact HO_3.out, by repeat (first | (with_reducible first | exact HB.out | apply z4 | apply z1 | apply z3 | refine z7 ?_ GE260.out) | exact HB.out)⟩
end Go.Proofs.Ytkeojolmapcgbaa.PEv
end
section
namespace Go.Proofs.Ytkeojolmapcgbaa.PEv
open Go.RowKit Go.Proofs.YtkeojolmapcgbaaW.PrintWords Go.Proofs.YtkeojolmapcgbaaW.PrintLast Go.Proofs.YtkeojolmapcgbaaW.PrintMore
set_option linter.unusedVariables false
set_option linter.unusedSimpArgs false
def qo.f (k : Nat) (a0_0 : Bool) (a0_1 : Int) (l0_2 : List (yl)) (a0_3 : Int) : Option (List Int) := if a0_0 = true then ((some (([1] : List Int) : List Int)).bind fun y279 => ((zh.f k a0_1 l0_2).bind fun t282 => (if y279.length + t282.length < 140737488355328 then (some (y279 ++ t282)) else (none)))) else ((some (([2] : List Int) : List Int)).bind fun y288 => ((zj.f k a0_1).bind fun t291 => (if y288.length + t291.length < 140737488355328 then ((some (y288 ++ t291 : List Int)).bind fun y294 => (if y294.length < 140737488355328 then (some (y294 ++ [(a0_3) % 256])) else (none))) else (none))))
set_option maxHeartbeats 8000000 in
set_option maxRecDepth 100000 in
theorem qo.calls (k : Nat) (a0_0 : Bool) (a0_1 : Int) (A0_2 : Option Addr) (c0_2 : Nat) (l0_2 : List (yl)) (a0_3 : Int) (r : List Int) (w : World) (hr0_2 : Kd.C y08 w A0_2 l0_2.length l0_2) (hc0_2 : l0_2.length ≤ c0_2) (h : qo.f k a0_0 a0_1 l0_2 a0_3 = some r) :
  Calls Try.prog 55 #[.agg #[.bool a0_0, .int .i64 a0_1, .slice A0_2 l0_2.length c0_2, .int .i64 a0_3]] w fun e w' => ∃ v0_ : Value, e = .returned (v0_) ∧ Kd.R (Kd.int .u8) 5 w' w.heap.size (fun _ => True) v0_ r ∧ Below w.heap.size w w' := by
 have hu33 := Try.underlying33
 have hu31 := Try.underlying31
 have HR0_2 := z2.mk hr0_2
 have HC0_2 := z2.mk hc0_2
 clear hr0_2 hc0_2
 have HB := z2.mk (Below.refl w.heap.size w)
 have H : (if a0_0 = true then ((some (([1] : List Int) : List Int)).bind fun y279 => ((zh.f k a0_1 l0_2).bind fun t282 => (if y279.length + t282.length < 140737488355328 then (some (y279 ++ t282)) else (none)))) else ((some (([2] : List Int) : List Int)).bind fun y288 => ((zj.f k a0_1).bind fun t291 => (if y288.length + t291.length < 140737488355328 then ((some (y288 ++ t291 : List Int)).bind fun y294 => (if y294.length < 140737488355328 then (some (y294 ++ [(a0_3) % 256])) else (none))) else (none))))) = some r := h
 clear h
 by_cases c2 : a0_0 = true
 ·subst c2
  have H1 : ((some (([1] : List Int) : List Int)).bind fun y279 => ((zh.f k a0_1 l0_2).bind fun t282 => (if y279.length + t282.length < 140737488355328 then (some (y279 ++ t282)) else (none)))) = some r := by rw [if_pos rfl] at H; exact H
  clear H
  have H := H1
  clear H1
  obtain ⟨y279, hy279⟩ : ∃ y_ : List Int, y_ = (([1] : List Int)) := ⟨_, rfl⟩
  replace H : ((zh.f k a0_1 l0_2).bind fun t282 => (if y279.length + t282.length < 140737488355328 then (some (y279 ++ t282)) else (none))) = some r := by first | (rw [hy279]; with_reducible exact H) | (have H2_ := (Option.bind_some _ _).symm.trans H; rw [hy279]; with_reducible exact H2_) | (have H2_ := (Option.bind_some _ _).symm.trans H; with_reducible exact H2_) | with_reducible exact H | (rw [hy279]; exact H) | exact H
  have Ny279 := z2.mk hy279
  clear hy279
  replace H := Option.bind_eq_some_iff.mp H
  obtain ⟨t282, A30, H⟩ := H
  replace H : (if y279.length + t282.length < 140737488355328 then (some (y279 ++ t282)) else (none)) = some r := H
  have A3 := z2.mk A30
  clear A30
  by_cases c4 : y279.length + t282.length < 140737488355328
  ·rw [if_pos c4] at H
   have LMc4 := z2.mk c4
   clear c4
   obtain ⟨y285, hy285⟩ : ∃ y_ : List Int, y_ = (y279 ++ t282) := ⟨_, rfl⟩
   replace H : (some y285) = some r := by first | (rw [hy285]; with_reducible exact H) | (have H2_ := (Option.bind_some _ _).symm.trans H; rw [hy285]; with_reducible exact H2_) | (have H2_ := (Option.bind_some _ _).symm.trans H; with_reducible exact H2_) | with_reducible exact H | (rw [hy285]; exact H) | exact H
   have Ny285 := z2.mk hy285
   clear hy285
   obtain rfl := Option.some.inj H
   go_enter Try.func55, Try.ntmps55
   go_wp2_with (first | ((with_reducible refine ye (N := 1) rfl ?_); refine ze ?hg (N := 1) ?hd (cs := #[.bool true, .int .i64 a0_1, .slice A0_2 l0_2.length c0_2, .int .i64 a0_3]) (t := 33) ?hr ?_; (case hd => rfl); (case hg => rfl); (case hr => first | (go_simp; done) | (go_simp; rfl)); intro gb278 hg w5 hbox hb; have n0_ := z2.mk (y8 (by repeat (first | (with_reducible first | exact HB.out | apply z4 | apply z1 | apply z3) | exact HB.out)) hb); have n1_ := z2.mk (hbox); have n2_ := z2.mk ((by rw [hg]; exact (z8 (by repeat (first | (with_reducible first | exact HB.out | apply z4 | apply z1 | apply z3) | exact HB.out))) : w.heap.size ≤ gb278)); have n3_ := z2.mk ((by rw [hg]; exact (z8 (by repeat (first | (with_reducible first | exact HB.out | apply z4 | apply z1 | apply z3) | exact HB.out))) : w.heap.size ≤ gb278)); clear HB; have HB := n0_; have BK278 := n1_; have GW278 := n2_; have GE278 := n3_; clear n0_ n1_ n2_ n3_ hb hbox hg; have hcz6_0 : w5.cell? ⟨gb278, 0, none⟩ = some (.bool true) := (z6 BK278.out 0).trans rfl; have hcz6_1 : w5.cell? ⟨gb278, 1, none⟩ = some (.int .i64 a0_1) := (z6 BK278.out 1).trans rfl; have hcz6_2 : w5.cell? ⟨gb278, 2, none⟩ = some (.slice A0_2 l0_2.length c0_2) := (z6 BK278.out 2).trans rfl; have hcz6_3 : w5.cell? ⟨gb278, 3, none⟩ = some (.int .i64 a0_3) := (z6 BK278.out 3).trans rfl; have hfz6_0 := y5 BK278.out 0; have hfz6_1 := y5 BK278.out 1; have hfz6_2 := y5 BK278.out 2; have hfz6_3 := y5 BK278.out 3) | ((with_reducible refine ye (N := 6) rfl ?_); refine Kd.y1i (Kd.int .u8) _ 5 ?hg (N := 6) ?hd (xs := ([1] : List Int)) (inner := [.int .u8 1]) (ok := fun _ => True) (okp := fun _ => True) ?hr ?hp (fun _ hk => hk) trivial (Below.refl _ _) (Nat.le_refl _) (by simp) ?_; (case hd => rfl); (case hg => rfl); (case hr => first | (go_simp; done) | (go_simp; rfl)); (case hp => exact (z0b.one (show Kd.M (Kd.int .u8) _ _ _ 1 [.int .u8 1] from rfl) (z0b.none _ _))); intro v280 w7 ho8 hb hg_ hnew_; clear hg_ hnew_; (first | rw [← Ny279.out] at ho8 | (simp only [Int.reduceToNat] at ho8; rw [← Ny279.out] at ho8)); have n0_ := z2.mk (Kd.yr ho8 (z8 (by repeat (first | (with_reducible first | exact HB.out | apply z4 | apply z1 | apply z3 | refine z7 ?_ GE278.out) | exact HB.out)))); have n1_ := z2.mk (z9 (g := gb278) (o := .cells #[.bool true, .int .i64 a0_1, .slice A0_2 l0_2.length c0_2, .int .i64 a0_3] 33 (0, 0)) (by (with_reducible repeat (first | refine z5 ?_ _ | refine y6 ?_ | refine y4 ?_ _)); exact BK278.out) hb); have n2_ := z2.mk (y8 (by repeat (first | (with_reducible first | exact HB.out | apply z4 | apply z1 | apply z3 | refine z7 ?_ GE278.out) | exact HB.out)) hb); clear BK278 HB; have HO281 := n0_; have BK278 := n1_; have HB := n2_; clear n0_ n1_ n2_ hb ho8; have hcz9_0 : w7.cell? ⟨gb278, 0, none⟩ = some (.bool true) := (z6 BK278.out 0).trans rfl; have hcz9_1 : w7.cell? ⟨gb278, 1, none⟩ = some (.int .i64 a0_1) := (z6 BK278.out 1).trans rfl; have hcz9_2 : w7.cell? ⟨gb278, 2, none⟩ = some (.slice A0_2 l0_2.length c0_2) := (z6 BK278.out 2).trans rfl; have hcz9_3 : w7.cell? ⟨gb278, 3, none⟩ = some (.int .i64 a0_3) := (z6 BK278.out 3).trans rfl; have hfz9_0 := y5 BK278.out 0; have hfz9_1 := y5 BK278.out 1; have hfz9_2 := y5 BK278.out 2; have hfz9_3 := y5 BK278.out 3) | ((with_reducible refine qb (f := 104) rfl ?_); refine zm (some 9) rfl rfl Try.func104 (by kernel_rfl) rfl #[.agg #[.int .i64 a0_1, .slice A0_2 l0_2.length c0_2]] rfl (by (try simp only [List.map_toArray, List.map_cons, List.map_nil]); first | done | rfl | (simp only [List.length_drop, List.length_take]; rfl)) ?_; (with_reducible refine (zh.calls k a0_1 _ _ l0_2 t282 _ ?side1 ?side2 A3.out).mono ?_); (case side1 => repeat (first | exact (Kd.yp HR0_2.out HB.out) | (with_reducible refine Kd.yi ?_ _) | (with_reducible refine Kd.qi ?_ _) | (with_reducible refine Kd.C_drew ?_))); (case side2 => exact HC0_2.out); rintro e w10 ⟨v283, rfl, ho0, hb⟩; refine ⟨_, rfl, ?_⟩; have n0_ := z2.mk (Kd.qu (by (with_reducible repeat (first | apply Kd.R_alloc | apply Kd.y9 | apply Kd.zb)); exact HO281.out) (Kd.z00 ho0) hb); have n1_ := z2.mk (Kd.yr (Kd.y00 ho0 (Kd.q0e (by (with_reducible repeat (first | apply Kd.R_alloc | apply Kd.y9 | apply Kd.zb)); exact HO281.out))) (z8 (by repeat (first | (with_reducible first | exact HB.out | apply z4 | apply z1 | apply z3 | refine z7 ?_ GE278.out) | exact HB.out)))); have n2_ := z2.mk (z9 (g := gb278) (o := .cells #[.bool true, .int .i64 a0_1, .slice A0_2 l0_2.length c0_2, .int .i64 a0_3] 33 (0, 0)) (by (with_reducible repeat (first | refine z5 ?_ _ | refine y6 ?_ | refine y4 ?_ _)); exact BK278.out) hb); have n3_ := z2.mk (y8 (by repeat (first | (with_reducible first | exact HB.out | apply z4 | apply z1 | apply z3 | refine z7 ?_ GE278.out) | exact HB.out)) hb); clear HO281 BK278 HB; have HO281 := n0_; have HO284 := n1_; have BK278 := n2_; have HB := n3_; clear n0_ n1_ n2_ n3_; (try clear hb); (try clear hb2); (try clear hk); (try clear hi); (try clear ho0); obtain ⟨Ao12, co12, eo12⟩ := Kd.zt HO284.out; subst eo12) | ((with_reducible refine z03 (b := .append) (xs := #[.tmp 6, .tmp 9]) rfl ?_); at_builtin; refine Kd.z07 (Kd.int .u8) (w0 := w) w.heap.size rfl (.tmp 6) (.tmp 9) 37 5 (.int .u8 0) 1 rfl Try.underlying37 y0f rfl (by decide) (by omega) v280 y279 t282 _ _ _ (fun k_ => some k_ ≠ (.slice Ao12 t282.length co12 : Value).ownBlock) (fun _ => False) rfl rfl ?aO ?aR (fun _ _ h => h) (fun _ h => h.elim) ?aF ?aB ?aS ?aL ?_; (case aR => repeat (first | exact (Kd.qd HO284.out).2.2 | (with_reducible refine Kd.yi ?_ _) | (with_reducible refine Kd.qi ?_ _) | (with_reducible refine Kd.C_drew ?_))); (case aB => exact (by repeat (first | (with_reducible first | exact HB.out | apply z4 | apply z1 | apply z3 | refine z7 ?_ GE278.out) | exact HB.out))); (case aF => exact (fun k_ hk => Kd.z0g (Kd.q0e (by (with_reducible repeat (first | apply Kd.R_alloc | apply Kd.y9 | apply Kd.zb)); exact HO284.out)) k_ hk)); (case aO => exact (by (with_reducible repeat (first | apply Kd.R_alloc | apply Kd.y9 | apply Kd.zb)); exact Kd.yk HO281.out (fun _ hk => hk.2))); (case aS => exact (z8 (by repeat (first | (with_reducible first | exact HB.out | apply z4 | apply z1 | apply z3 | refine z7 ?_ GE278.out) | exact HB.out)))); (case aL => have := LMc4.out; omega); intro v286 w11 ho hb hg hat; rw [← Ny285.out] at ho; have n0_ := z2.mk (yy (g := gb278) (o := .cells #[.bool true, .int .i64 a0_1, .slice A0_2 l0_2.length c0_2, .int .i64 a0_3] 33 (0, 0)) (by (with_reducible repeat (first | refine z5 ?_ _ | refine y6 ?_ | refine y4 ?_ _)); exact BK278.out) hg (Kd.y0k HO281.out BK278.out (by decide))); have n1_ := z2.mk (Kd.q09 (ok := (fun _ => True)) (by (with_reducible repeat (first | apply Kd.R_alloc | apply Kd.y9 | apply Kd.zb)); exact HO284.out) hg hat); have n2_ := z2.mk (hb); have n3_ := z2.mk (ho); clear BK278 HO284 HB HO281; have BK278 := n0_; have HO284 := n1_; have HB := n2_; have HO287 := n3_; clear n0_ n1_ n2_ n3_ ho hb hg hat))
   go_ret
   exact ⟨_, by first | rfl | (simp [ya, qa] <;> rfl) | (simp [*, ya, qa] <;> rfl), by (with_reducible repeat (first | apply Kd.R_alloc | apply Kd.y9 | apply Kd.zb)); exact Kd.yk HO287.out (fun _ hk => trivial), by repeat (first | (with_reducible first | exact HB.out | apply z4 | apply z1 | apply z3 | refine z7 ?_ GE278.out) | exact HB.out)⟩
  ·rw [if_neg c4] at H
   exact absurd H (by simp)
 ·replace c2 := Bool.eq_false_iff.mpr c2
  subst c2
  have H1 : ((some (([2] : List Int) : List Int)).bind fun y288 => ((zj.f k a0_1).bind fun t291 => (if y288.length + t291.length < 140737488355328 then ((some (y288 ++ t291 : List Int)).bind fun y294 => (if y294.length < 140737488355328 then (some (y294 ++ [(a0_3) % 256])) else (none))) else (none)))) = some r := by rw [if_neg (show ¬ (false = true) by decide)] at H; exact H
  clear H
  have H := H1
  clear H1
  obtain ⟨y288, hy288⟩ : ∃ y_ : List Int, y_ = (([2] : List Int)) := ⟨_, rfl⟩
  replace H : ((zj.f k a0_1).bind fun t291 => (if y288.length + t291.length < 140737488355328 then ((some (y288 ++ t291 : List Int)).bind fun y294 => (if y294.length < 140737488355328 then (some (y294 ++ [(a0_3) % 256])) else (none))) else (none))) = some r := by first | (rw [hy288]; with_reducible exact H) | (have H2_ := (Option.bind_some _ _).symm.trans H; rw [hy288]; with_reducible exact H2_) | (have H2_ := (Option.bind_some _ _).symm.trans H; with_reducible exact H2_) | with_reducible exact H | (rw [hy288]; exact H) | exact H
  have Ny288 := z2.mk hy288
  clear hy288
  replace H := Option.bind_eq_some_iff.mp H
  obtain ⟨t291, A130, H⟩ := H
  replace H : (if y288.length + t291.length < 140737488355328 then ((some (y288 ++ t291 : List Int)).bind fun y294 => (if y294.length < 140737488355328 then (some (y294 ++ [(a0_3) % 256])) else (none))) else (none)) = some r := H
  have A13 := z2.mk A130
  clear A130
  by_cases c14 : y288.length + t291.length < 140737488355328
  ·rw [if_pos c14] at H
   have LMc14 := z2.mk c14
   clear c14
   obtain ⟨y294, hy294⟩ : ∃ y_ : List Int, y_ = (y288 ++ t291) := ⟨_, rfl⟩
   replace H : (if y294.length < 140737488355328 then (some (y294 ++ [(a0_3) % 256])) else (none)) = some r := by first | (rw [hy294]; with_reducible exact H) | (have H2_ := (Option.bind_some _ _).symm.trans H; rw [hy294]; with_reducible exact H2_) | (have H2_ := (Option.bind_some _ _).symm.trans H; with_reducible exact H2_) | with_reducible exact H | (rw [hy294]; exact H) | exact H
   have Ny294 := z2.mk hy294
   clear hy294
   by_cases c15 : y294.length < 140737488355328
   ·rw [if_pos c15] at H
    have LMc15 := z2.mk c15
    clear c15
    obtain ⟨y297, hy297⟩ : ∃ y_ : List Int, y_ = (y294 ++ [(a0_3) % 256]) := ⟨_, rfl⟩
    replace H : (some y297) = some r := by first | (rw [hy297]; with_reducible exact H) | (have H2_ := (Option.bind_some _ _).symm.trans H; rw [hy297]; with_reducible exact H2_) | (have H2_ := (Option.bind_some _ _).symm.trans H; with_reducible exact H2_) | with_reducible exact H | (rw [hy297]; exact H) | exact H
    have Ny297 := z2.mk hy297
    clear hy297
    obtain rfl := Option.some.inj H
    go_enter Try.func55, Try.ntmps55
    go_wp2_with (first | ((with_reducible refine ye (N := 1) rfl ?_); refine ze ?hg (N := 1) ?hd (cs := #[.bool false, .int .i64 a0_1, .slice A0_2 l0_2.length c0_2, .int .i64 a0_3]) (t := 33) ?hr ?_; (case hd => rfl); (case hg => rfl); (case hr => first | (go_simp; done) | (go_simp; rfl)); intro gb278 hg w16 hbox hb; have n0_ := z2.mk (y8 (by repeat (first | (with_reducible first | exact HB.out | apply z4 | apply z1 | apply z3) | exact HB.out)) hb); have n1_ := z2.mk (hbox); have n2_ := z2.mk ((by rw [hg]; exact (z8 (by repeat (first | (with_reducible first | exact HB.out | apply z4 | apply z1 | apply z3) | exact HB.out))) : w.heap.size ≤ gb278)); have n3_ := z2.mk ((by rw [hg]; exact (z8 (by repeat (first | (with_reducible first | exact HB.out | apply z4 | apply z1 | apply z3) | exact HB.out))) : w.heap.size ≤ gb278)); clear HB; have HB := n0_; have BK278 := n1_; have GW278 := n2_; have GE278 := n3_; clear n0_ n1_ n2_ n3_ hb hbox hg; have hcz17_0 : w16.cell? ⟨gb278, 0, none⟩ = some (.bool false) := (z6 BK278.out 0).trans rfl; have hcz17_1 : w16.cell? ⟨gb278, 1, none⟩ = some (.int .i64 a0_1) := (z6 BK278.out 1).trans rfl; have hcz17_2 : w16.cell? ⟨gb278, 2, none⟩ = some (.slice A0_2 l0_2.length c0_2) := (z6 BK278.out 2).trans rfl; have hcz17_3 : w16.cell? ⟨gb278, 3, none⟩ = some (.int .i64 a0_3) := (z6 BK278.out 3).trans rfl; have hfz17_0 := y5 BK278.out 0; have hfz17_1 := y5 BK278.out 1; have hfz17_2 := y5 BK278.out 2; have hfz17_3 := y5 BK278.out 3) | ((with_reducible refine ye (N := 11) rfl ?_); refine Kd.y1i (Kd.int .u8) _ 5 ?hg (N := 11) ?hd (xs := ([2] : List Int)) (inner := [.int .u8 2]) (ok := fun _ => True) (okp := fun _ => True) ?hr ?hp (fun _ hk => hk) trivial (Below.refl _ _) (Nat.le_refl _) (by simp) ?_; (case hd => rfl); (case hg => rfl); (case hr => first | (go_simp; done) | (go_simp; rfl)); (case hp => exact (z0b.one (show Kd.M (Kd.int .u8) _ _ _ 2 [.int .u8 2] from rfl) (z0b.none _ _))); intro v289 w18 ho19 hb hg_ hnew_; clear hg_ hnew_; (first | rw [← Ny288.out] at ho19 | (simp only [Int.reduceToNat] at ho19; rw [← Ny288.out] at ho19)); have n0_ := z2.mk (Kd.yr ho19 (z8 (by repeat (first | (with_reducible first | exact HB.out | apply z4 | apply z1 | apply z3 | refine z7 ?_ GE278.out) | exact HB.out)))); have n1_ := z2.mk (z9 (g := gb278) (o := .cells #[.bool false, .int .i64 a0_1, .slice A0_2 l0_2.length c0_2, .int .i64 a0_3] 33 (0, 0)) (by (with_reducible repeat (first | refine z5 ?_ _ | refine y6 ?_ | refine y4 ?_ _)); exact BK278.out) hb); have n2_ := z2.mk (y8 (by repeat (first | (with_reducible first | exact HB.out | apply z4 | apply z1 | apply z3 | refine z7 ?_ GE278.out) | exact HB.out)) hb); clear BK278 HB; have HO290 := n0_; have BK278 := n1_; have HB := n2_; clear n0_ n1_ n2_ hb ho19; have hcz20_0 : w18.cell? ⟨gb278, 0, none⟩ = some (.bool false) := (z6 BK278.out 0).trans rfl; have hcz20_1 : w18.cell? ⟨gb278, 1, none⟩ = some (.int .i64 a0_1) := (z6 BK278.out 1).trans rfl; have hcz20_2 : w18.cell? ⟨gb278, 2, none⟩ = some (.slice A0_2 l0_2.length c0_2) := (z6 BK278.out 2).trans rfl; have hcz20_3 : w18.cell? ⟨gb278, 3, none⟩ = some (.int .i64 a0_3) := (z6 BK278.out 3).trans rfl; have hfz20_0 := y5 BK278.out 0; have hfz20_1 := y5 BK278.out 1; have hfz20_2 := y5 BK278.out 2; have hfz20_3 := y5 BK278.out 3) | ((with_reducible refine qb (f := 105) rfl ?_); refine zm (some 15) rfl rfl Try.func105 (by kernel_rfl) rfl #[.int .i64 a0_1] rfl (by (try simp only [List.map_toArray, List.map_cons, List.map_nil]); first | done | rfl | (simp only [List.length_drop, List.length_take]; rfl)) ?_; (with_reducible refine (zj.calls k a0_1 t291 _ A13.out).mono ?_); rintro e w21 ⟨v292, rfl, ho0, hb⟩; refine ⟨_, rfl, ?_⟩; have n0_ := z2.mk (Kd.qu (by (with_reducible repeat (first | apply Kd.R_alloc | apply Kd.y9 | apply Kd.zb)); exact HO290.out) (Kd.z00 ho0) hb); have n1_ := z2.mk (Kd.yr (Kd.y00 ho0 (Kd.q0e (by (with_reducible repeat (first | apply Kd.R_alloc | apply Kd.y9 | apply Kd.zb)); exact HO290.out))) (z8 (by repeat (first | (with_reducible first | exact HB.out | apply z4 | apply z1 | apply z3 | refine z7 ?_ GE278.out) | exact HB.out)))); have n2_ := z2.mk (z9 (g := gb278) (o := .cells #[.bool false, .int .i64 a0_1, .slice A0_2 l0_2.length c0_2, .int .i64 a0_3] 33 (0, 0)) (by (with_reducible repeat (first | refine z5 ?_ _ | refine y6 ?_ | refine y4 ?_ _)); exact BK278.out) hb); have n3_ := z2.mk (y8 (by repeat (first | (with_reducible first | exact HB.out | apply z4 | apply z1 | apply z3 | refine z7 ?_ GE278.out) | exact HB.out)) hb); clear HO290 BK278 HB; have HO290 := n0_; have HO293 := n1_; have BK278 := n2_; have HB := n3_; clear n0_ n1_ n2_ n3_; (try clear hb); (try clear hb2); (try clear hk); (try clear hi); (try clear ho0); obtain ⟨Ao23, co23, eo23⟩ := Kd.zt HO293.out; subst eo23) | ((with_reducible refine z03 (b := .append) (xs := #[.tmp 11, .tmp 15]) rfl ?_); at_builtin; refine Kd.z07 (Kd.int .u8) (w0 := w) w.heap.size rfl (.tmp 11) (.tmp 15) 37 5 (.int .u8 0) 1 rfl Try.underlying37 y0f rfl (by decide) (by omega) v289 y288 t291 _ _ _ (fun k_ => some k_ ≠ (.slice Ao23 t291.length co23 : Value).ownBlock) (fun _ => False) rfl rfl ?aO ?aR (fun _ _ h => h) (fun _ h => h.elim) ?aF ?aB ?aS ?aL ?_; (case aR => repeat (first | exact (Kd.qd HO293.out).2.2 | (with_reducible refine Kd.yi ?_ _) | (with_reducible refine Kd.qi ?_ _) | (with_reducible refine Kd.C_drew ?_))); (case aB => exact (by repeat (first | (with_reducible first | exact HB.out | apply z4 | apply z1 | apply z3 | refine z7 ?_ GE278.out) | exact HB.out))); (case aF => exact (fun k_ hk => Kd.z0g (Kd.q0e (by (with_reducible repeat (first | apply Kd.R_alloc | apply Kd.y9 | apply Kd.zb)); exact HO293.out)) k_ hk)); (case aO => exact (by (with_reducible repeat (first | apply Kd.R_alloc | apply Kd.y9 | apply Kd.zb)); exact Kd.yk HO290.out (fun _ hk => hk.2))); (case aS => exact (z8 (by repeat (first | (with_reducible first | exact HB.out | apply z4 | apply z1 | apply z3 | refine z7 ?_ GE278.out) | exact HB.out)))); (case aL => have := LMc14.out; omega); intro v295 w22 ho hb hg hat; rw [← Ny294.out] at ho; have n0_ := z2.mk (yy (g := gb278) (o := .cells #[.bool false, .int .i64 a0_1, .slice A0_2 l0_2.length c0_2, .int .i64 a0_3] 33 (0, 0)) (by (with_reducible repeat (first | refine z5 ?_ _ | refine y6 ?_ | refine y4 ?_ _)); exact BK278.out) hg (Kd.y0k HO290.out BK278.out (by decide))); have n1_ := z2.mk (Kd.q09 (ok := (fun _ => True)) (by (with_reducible repeat (first | apply Kd.R_alloc | apply Kd.y9 | apply Kd.zb)); exact HO293.out) hg hat); have n2_ := z2.mk (hb); have n3_ := z2.mk (ho); clear BK278 HO293 HB HO290; have BK278 := n0_; have HO293 := n1_; have HB := n2_; have HO296 := n3_; clear n0_ n1_ n2_ n3_ ho hb hg hat; have hcz24_0 : w22.cell? ⟨gb278, 0, none⟩ = some (.bool false) := (z6 BK278.out 0).trans rfl; have hcz24_1 : w22.cell? ⟨gb278, 1, none⟩ = some (.int .i64 a0_1) := (z6 BK278.out 1).trans rfl; have hcz24_2 : w22.cell? ⟨gb278, 2, none⟩ = some (.slice A0_2 l0_2.length c0_2) := (z6 BK278.out 2).trans rfl; have hcz24_3 : w22.cell? ⟨gb278, 3, none⟩ = some (.int .i64 a0_3) := (z6 BK278.out 3).trans rfl; have hfz24_0 := y5 BK278.out 0; have hfz24_1 := y5 BK278.out 1; have hfz24_2 := y5 BK278.out 2; have hfz24_3 := y5 BK278.out 3) | ((with_reducible refine z03 (b := .append) (xs := #[.tmp 17, .tmp 21]) rfl ?_); at_builtin; refine Kd.q1m (Kd.int .u8) (w0 := w) w.heap.size rfl (.tmp 17) (.tmp 21) 37 5 (.int .u8 0) 1 rfl Try.underlying37 y0f rfl (by decide) (by omega) v295 y294 ((a0_3) % 256) [.int .u8 ((a0_3) % 256)] (fun k_ => some k_ ≠ (.slice Ao23 t291.length co23 : Value).ownBlock) (fun _ => False) rfl rfl ?aP (fun _ hk => hk.elim) ?aF ?aO ?aB ?aS ?aL ?_; (case aP => exact rfl); (case aB => exact (by repeat (first | (with_reducible first | exact HB.out | apply z4 | apply z1 | apply z3 | refine z7 ?_ GE278.out) | exact HB.out))); (case aF => exact (fun k_ hk => Kd.z0g (Kd.q0e (by (with_reducible repeat (first | apply Kd.R_alloc | apply Kd.y9 | apply Kd.zb)); exact HO293.out)) k_ hk)); (case aO => exact (by (with_reducible repeat (first | apply Kd.R_alloc | apply Kd.y9 | apply Kd.zb)); exact HO296.out)); (case aS => exact (z8 (by repeat (first | (with_reducible first | exact HB.out | apply z4 | apply z1 | apply z3 | refine z7 ?_ GE278.out) | exact HB.out)))); (case aL => have := LMc15.out; omega); intro v298 w25 ho hb hg hat; rw [← Ny297.out] at ho; have n0_ := z2.mk (yy (g := gb278) (o := .cells #[.bool false, .int .i64 a0_1, .slice A0_2 l0_2.length c0_2, .int .i64 a0_3] 33 (0, 0)) (by (with_reducible repeat (first | refine z5 ?_ _ | refine y6 ?_ | refine y4 ?_ _)); exact BK278.out) hg (Kd.y0k HO296.out BK278.out (by decide))); have n1_ := z2.mk (Kd.q09 (ok := (fun _ => True)) (by (with_reducible repeat (first | apply Kd.R_alloc | apply Kd.y9 | apply Kd.zb)); exact HO293.out) hg hat); have n2_ := z2.mk (hb); have n3_ := z2.mk (ho); clear BK278 HO293 HB HO296; have BK278 := n0_; have HO293 := n1_; have HB := n2_; have HO299 := n3_; clear n0_ n1_ n2_ n3_ ho hb hg hat))
    go_ret
    exact ⟨_, by first | rfl | (simp [ya, qa] <;> rfl) | (simp [*, ya, qa] <;> rfl), by (with_reducible repeat (first | apply Kd.R_alloc | apply Kd.y9 | apply Kd.zb)); exact Kd.yk HO299.out (fun _ hk => trivial), by repeat (first | (with_reducible first | exact HB.out | apply z4 | apply z1 | apply z3 | refine z7 ?_ GE278.out) | exact HB.out)⟩
   ·rw [if_neg c15] at H
    exact absurd H (by simp)
  ·rw [if_neg c14] at H
   exact absurd H (by simp)
def qt.l0 : Nat → List Int → List Int → Int → Option (Bool)
 | 0, _, _, _ => none
 | k + 1, x0, x1, x5 => if x5 < (x0.length : Int) then (if 0 ≤ x5 then (if x5 < (x1.length : Int) then (if (rd x0 x5) = (rd x1 x5) then (qt.l0 k x0 x1 (wrap64 (x5 + 1))) else (some false)) else (none)) else (none)) else (some true)
def qt.f (k : Nat) (l0 : List Int) (l1 : List Int) : Option (Bool) := if (l0.length : Int) = (l1.length : Int) then (qt.l0 k l0 l1 0) else (some false)
set_option maxHeartbeats 8000000 in
set_option maxRecDepth 100000 in
theorem qt.calls (k : Nat) (A0 : Option Addr) (c0 : Nat) (l0 : List Int) (A1 : Option Addr) (c1 : Nat) (l1 : List Int) (r : Bool) (w : World) (hr0 : Kd.C (Kd.int .u8) w A0 l0.length l0) (hc0 : l0.length ≤ c0) (hr1 : Kd.C (Kd.int .u8) w A1 l1.length l1) (hc1 : l1.length ≤ c1) (h : qt.f k l0 l1 = some r) :
  Calls Try.prog 23 #[.slice A0 l0.length c0, .slice A1 l1.length c1] w fun e w' => e = .returned (.bool r) ∧ zq w w' := by
 have HR0 := z2.mk hr0
 have HC0 := z2.mk hc0
 clear hr0 hc0
 have HR1 := z2.mk hr1
 have HC1 := z2.mk hc1
 clear hr1 hc1
 have H : (if (l0.length : Int) = (l1.length : Int) then (qt.l0 k l0 l1 0) else (some false)) = some r := h
 clear h
 by_cases c3 : (l0.length : Int) = (l1.length : Int)
 ·rw [if_pos c3] at H
  have c3b0 : ((l0.length : Int) == (l1.length : Int)) = true := beq_iff_eq.mpr c3
  have c3b1 : ((l0.length : Int) != (l1.length : Int)) = false := bne_eq_false_iff_eq.mpr c3
  have c3b2 : (l0.length == l1.length) = true := by first | simpa using c3 | (simp at c3 ⊢; omega)
  clear c3
  have H' := z2.mk H
  clear H
  go_enter Try.func23, Try.ntmps23
  go_wp2
  repeat (go_quiet (fail); try go_wp2)
  go_loopg [5] k (fun kq v5 w' => ∃ (x5_1 : Int), v5 = .int .i64 x5_1 ∧ z2 (qt.l0 kq l0 l1 x5_1 = some r) ∧ z2 (kq ≤ k) ∧ zq w w')
  case atStart => exact ⟨(0), (by first | rfl | (simp; done) | (simp [*]; done)), H', ⟨Nat.le_refl _⟩, by repeat (first | exact zq.refl _ | apply zq.step)⟩
  case round =>
   clear H'
   try clear c1
   try clear c2
   try clear p2
   try clear c3
   try clear c3b0
   try clear c3b1
   try clear c3b2
   obtain ⟨x5_1, rfl, HA, HK1, ⟨m1, rfl⟩⟩ := hrel
   cases gk with
   | zero => exact absurd HA.out (by simp [qt.l0])
   | succ k1 =>
    have H := HA.out
    clear HA
    simp only [qt.l0] at H
    by_cases c4 : x5_1 < (l0.length : Int)
    ·rw [if_pos c4] at H
     have c4b0 : decide (x5_1 < (l0.length : Int)) = true := decide_eq_true c4
     clear c4
     by_cases c5 : 0 ≤ x5_1
     ·rw [if_pos c5] at H
      have c5b0 : decide (0 ≤ x5_1) = true := decide_eq_true c5
      clear c5
      by_cases c6 : x5_1 < (l1.length : Int)
      ·rw [if_pos c6] at H
       have c6b0 : decide (x5_1 < (l1.length : Int)) = true := decide_eq_true c6
       clear c6
       by_cases c7 : (rd l0 x5_1) = (rd l1 x5_1)
       ·rw [if_pos c7] at H
        have c7b0 : ((rd l0 x5_1) == (rd l1 x5_1)) = true := beq_iff_eq.mpr c7
        have c7b1 : ((rd l0 x5_1) != (rd l1 x5_1)) = false := bne_eq_false_iff_eq.mpr c7
        clear c7
        have H' := z2.mk H
        clear H
        have p306 : 0 ≤ (x5_1 : Int) := of_decide_eq_true (by first | (with_reducible assumption) | assumption)
        have q306 : x5_1 < (l0.length : Int) := of_decide_eq_true (by first | (with_reducible assumption) | assumption)
        obtain ⟨ad306, e306, hx306_0⟩ := Kd.q07 HR0.out x5_1 p306 q306
        cases e306
        replace p306 := eq_true p306
        replace q306 := eq_true q306
        have p307 : 0 ≤ (x5_1 : Int) := of_decide_eq_true (by first | (with_reducible assumption) | assumption)
        have q307 : x5_1 < (l1.length : Int) := of_decide_eq_true (by first | (with_reducible assumption) | assumption)
        obtain ⟨ad307, e307, hx307_0⟩ := Kd.q07 HR1.out x5_1 p307 q307
        cases e307
        replace p307 := eq_true p307
        replace q307 := eq_true q307
        go_wp2
        repeat (go_quiet (fail); try go_wp2)
        go_roundg k1
        case measure => have := HK1.out; omega
        case rel => exact ⟨(wrap64 (x5_1 + 1)), (by first | rfl | (simp; done) | (simp [*]; done)), H', ⟨by have := HK1.out; omega⟩, by repeat (first | exact zq.refl _ | apply zq.step)⟩
       ·rw [if_neg c7] at H
        have c7b0 : ((rd l0 x5_1) == (rd l1 x5_1)) = false := beq_eq_false_iff_ne.mpr c7
        have c7b1 : ((rd l0 x5_1) != (rd l1 x5_1)) = true := bne_iff_ne.mpr c7
        obtain rfl := Option.some.inj H
        have p306 : 0 ≤ (x5_1 : Int) := of_decide_eq_true (by first | (with_reducible assumption) | assumption)
        have q306 : x5_1 < (l0.length : Int) := of_decide_eq_true (by first | (with_reducible assumption) | assumption)
        obtain ⟨ad306, e306, hx306_0⟩ := Kd.q07 HR0.out x5_1 p306 q306
        cases e306
        replace p306 := eq_true p306
        replace q306 := eq_true q306
        have p307 : 0 ≤ (x5_1 : Int) := of_decide_eq_true (by first | (with_reducible assumption) | assumption)
        have q307 : x5_1 < (l1.length : Int) := of_decide_eq_true (by first | (with_reducible assumption) | assumption)
        obtain ⟨ad307, e307, hx307_0⟩ := Kd.q07 HR1.out x5_1 p307 q307
        cases e307
        replace p307 := eq_true p307
        replace q307 := eq_true q307
        go_wp2
        repeat (go_quiet (fail); try go_wp2)
        go_ret
        exact ⟨by first | rfl | (simp; done) | (simp [*]; done), by repeat (first | exact zq.refl _ | apply zq.step)⟩
      ·rw [if_neg c6] at H
       exact absurd H (by simp)
     ·rw [if_neg c5] at H
      exact absurd H (by simp)
    ·rw [if_neg c4] at H
     have c4b0 : decide (x5_1 < (l0.length : Int)) = false := decide_eq_false c4
     clear c4
     obtain rfl := Option.some.inj H
     go_wp2
     repeat (go_quiet (fail); try go_wp2)
     go_ret
     exact ⟨by first | rfl | (simp; done) | (simp [*]; done), by repeat (first | exact zq.refl _ | apply zq.step)⟩
 ·rw [if_neg c3] at H
  have c3b0 : ((l0.length : Int) == (l1.length : Int)) = false := beq_eq_false_iff_ne.mpr c3
  have c3b1 : ((l0.length : Int) != (l1.length : Int)) = true := bne_iff_ne.mpr c3
  have c3b2 : (l0.length == l1.length) = false := by first | simpa using c3 | (simp at c3 ⊢; omega)
  obtain rfl := Option.some.inj H
  go_enter Try.func23, Try.ntmps23
  go_wp2
  repeat (go_quiet (fail); try go_wp2)
  go_ret
  exact ⟨by first | rfl | (simp; done) | (simp [*]; done), by repeat (first | exact zq.refl _ | apply zq.step)⟩
end Go.Proofs.Ytkeojolmapcgbaa.PEv
end
