/- WHAT IS PROVED: parts of the proof of FnExactUnpackEvent: what each Go function that it reaches answers, and plain lemmas; no condition beyond those that each theorem names. -/
import Derived.Test.YtkeojolmapcgbaaCUnp3
section
namespace Go.Proofs.Ytkeojolmapcgbaa.PEv
open Go.RowKit Go.Proofs.YtkeojolmapcgbaaW.PrintWords Go.Proofs.YtkeojolmapcgbaaW.PrintLast Go.Proofs.YtkeojolmapcgbaaW.PrintMore
set_option linter.unusedVariables false
set_option linter.unusedSimpArgs false
def yt.l0 : Nat → List (yl) → Int → Int → Option (Int × (List (yl)))
 | 0, _, _, _ => none
 | k + 1, x0, x1, x5 => if x5 < (x0.length : Int) then (if 0 ≤ x5 then ((some (x0.set (x5 : Int).toNat (⟨x1, (y7 x0 x5).f1, (y7 x0 x5).f2, (y7 x0 x5).f3⟩ : yl) : List (yl))).bind fun y311 => ((some (y311.set (x5 : Int).toNat (⟨(y7 y311 x5).f0, wrap64 (x1 + 1), (y7 y311 x5).f2, (y7 y311 x5).f3⟩ : yl) : List (yl))).bind fun y312 => ((some (y312.set (x5 : Int).toNat (⟨(y7 y312 x5).f0, (y7 y312 x5).f1, wrap64 ((wrap64 (x1 + 1)) + 1), (y7 y312 x5).f3⟩ : yl) : List (yl))).bind fun y313 => (yt.l0 k (y313.set (x5 : Int).toNat (⟨(y7 y313 x5).f0, (y7 y313 x5).f1, (y7 y313 x5).f2, wrap64 ((wrap64 ((wrap64 (x1 + 1)) + 1)) + 1)⟩ : yl)) (wrap64 ((wrap64 ((wrap64 ((wrap64 (x1 + 1)) + 1)) + 1)) + 1)) (wrap64 (x5 + 1)))))) else (none)) else (some (x1, x0))
def yt.f (k : Nat) (l0 : List (yl)) (a1 : Int) : Option (Int × (List (yl))) := yt.l0 k l0 a1 0
set_option maxHeartbeats 8000000 in
set_option maxRecDepth 100000 in
theorem yt.calls (k : Nat) (P0_ : Nat → Prop) (u9000_ : Value) (l0 : List (yl)) (a1 : Int) (r1 : Int) (r2 : List (yl)) (w0 w : World) (hB : Below w0.heap.size w0 w) (ho0 : Kd.R y08 138 w w0.heap.size P0_ u9000_ l0) (h : yt.f k l0 a1 = some (r1, r2)) :
  Calls Try.prog 106 #[u9000_, .int .i64 a1] w fun e w' => e = .returned (.int .i64 r1) ∧ Kd.R y08 138 w' w0.heap.size (fun k_ => (P0_ k_ ∨ w.heap.size ≤ k_)) u9000_ r2 ∧ Below w0.heap.size w0 w' ∧ Kept w w' (fun k_ => P0_ k_) := by
 have HO0 := z2.mk (show Kd.R y08 138 w w0.heap.size (fun k_ => (P0_ k_ ∨ w.heap.size ≤ k_)) u9000_ l0 from Kd.yk ho0 (fun k_ hk => (.inl hk)))
 have HK := z2.mk (Kept.refl w (fun k_ => P0_ k_))
 have HW0 := z2.mk hB.size
 have HB := z2.mk hB
 clear hB
 have H : (yt.l0 k l0 a1 0) = some (r1, r2) := h
 clear h
 have H' := z2.mk H
 clear H
 go_enter Try.func106, Try.ntmps106
 go_wp2
 go_loopg [1, 5] k (fun kq v1 v5 w' => ∃ (x0_1 : List (yl)) (x1_1 : Int) (x5_1 : Int), v1 = .int .i64 x1_1 ∧ v5 = .int .i64 x5_1 ∧ z2 (yt.l0 kq x0_1 x1_1 x5_1 = some (r1, r2)) ∧ z2 (kq ≤ k) ∧ z2 (Kd.R y08 138 w' w0.heap.size (fun k_ => (P0_ k_ ∨ w.heap.size ≤ k_)) u9000_ x0_1) ∧ z2 (Kept w w' (fun k_ => P0_ k_)) ∧ z2 (Below w0.heap.size w0 w'))
 case atStart => exact ⟨(l0), (a1), (0), (by first | rfl | (simp; done) | (simp [*]; done)), (by first | rfl | (simp; done) | (simp [*]; done)), H', ⟨Nat.le_refl _⟩, ⟨by (with_reducible repeat (first | apply Kd.R_alloc | apply Kd.y9 | apply Kd.zb)); exact HO0.out⟩, ⟨by repeat (first | (with_reducible first | exact HK.out | apply Kept.alloc | apply Kept.drewN | apply Kept.drew) | exact HK.out)⟩, ⟨by repeat (first | (with_reducible first | exact HB.out | apply z4 | apply z1 | apply z3) | exact HB.out)⟩⟩
 case round =>
  clear H'
  try clear c1
  try clear p2
  obtain ⟨x0_1, x1_1, x5_1, rfl, rfl, HA, HK1, HO_0, HK, HB⟩ := hrel
  cases gk with
  | zero => exact absurd HA.out (by simp [yt.l0])
  | succ k1 =>
   have H := HA.out
   clear HA
   simp only [yt.l0] at H
   by_cases c3 : x5_1 < (x0_1.length : Int)
   ·rw [if_pos c3] at H
    have c3b0 : decide (x5_1 < (x0_1.length : Int)) = true := decide_eq_true c3
    clear c3
    by_cases c4 : 0 ≤ x5_1
    ·rw [if_pos c4] at H
     have c4b0 : decide (0 ≤ x5_1) = true := decide_eq_true c4
     clear c4
     obtain ⟨y311, hy311⟩ : ∃ y_ : List (yl), y_ = (x0_1.set (x5_1 : Int).toNat (⟨x1_1, (y7 x0_1 x5_1).f1, (y7 x0_1 x5_1).f2, (y7 x0_1 x5_1).f3⟩ : yl)) := ⟨_, rfl⟩
     replace H : ((some (y311.set (x5_1 : Int).toNat (⟨(y7 y311 x5_1).f0, wrap64 (x1_1 + 1), (y7 y311 x5_1).f2, (y7 y311 x5_1).f3⟩ : yl) : List (yl))).bind fun y312 => ((some (y312.set (x5_1 : Int).toNat (⟨(y7 y312 x5_1).f0, (y7 y312 x5_1).f1, wrap64 ((wrap64 (x1_1 + 1)) + 1), (y7 y312 x5_1).f3⟩ : yl) : List (yl))).bind fun y313 => (yt.l0 k1 (y313.set (x5_1 : Int).toNat (⟨(y7 y313 x5_1).f0, (y7 y313 x5_1).f1, (y7 y313 x5_1).f2, wrap64 ((wrap64 ((wrap64 (x1_1 + 1)) + 1)) + 1)⟩ : yl)) (wrap64 ((wrap64 ((wrap64 ((wrap64 (x1_1 + 1)) + 1)) + 1)) + 1)) (wrap64 (x5_1 + 1))))) = some (r1, r2) := by first | (rw [hy311]; with_reducible exact H) | (have H2_ := (Option.bind_some _ _).symm.trans H; rw [hy311]; with_reducible exact H2_) | (have H2_ := (Option.bind_some _ _).symm.trans H; with_reducible exact H2_) | with_reducible exact H | (rw [hy311]; exact H) | exact H
     have Ny311 := z2.mk hy311
     clear hy311
     obtain ⟨y312, hy312⟩ : ∃ y_ : List (yl), y_ = (y311.set (x5_1 : Int).toNat (⟨(y7 y311 x5_1).f0, wrap64 (x1_1 + 1), (y7 y311 x5_1).f2, (y7 y311 x5_1).f3⟩ : yl)) := ⟨_, rfl⟩
     replace H : ((some (y312.set (x5_1 : Int).toNat (⟨(y7 y312 x5_1).f0, (y7 y312 x5_1).f1, wrap64 ((wrap64 (x1_1 + 1)) + 1), (y7 y312 x5_1).f3⟩ : yl) : List (yl))).bind fun y313 => (yt.l0 k1 (y313.set (x5_1 : Int).toNat (⟨(y7 y313 x5_1).f0, (y7 y313 x5_1).f1, (y7 y313 x5_1).f2, wrap64 ((wrap64 ((wrap64 (x1_1 + 1)) + 1)) + 1)⟩ : yl)) (wrap64 ((wrap64 ((wrap64 ((wrap64 (x1_1 + 1)) + 1)) + 1)) + 1)) (wrap64 (x5_1 + 1)))) = some (r1, r2) := by first | (rw [hy312]; with_reducible exact H) | (have H2_ := (Option.bind_some _ _).symm.trans H; rw [hy312]; with_reducible exact H2_) | (have H2_ := (Option.bind_some _ _).symm.trans H; with_reducible exact H2_) | with_reducible exact H | (rw [hy312]; exact H) | exact H
     have Ny312 := z2.mk hy312
     clear hy312
     obtain ⟨y313, hy313⟩ : ∃ y_ : List (yl), y_ = (y312.set (x5_1 : Int).toNat (⟨(y7 y312 x5_1).f0, (y7 y312 x5_1).f1, wrap64 ((wrap64 (x1_1 + 1)) + 1), (y7 y312 x5_1).f3⟩ : yl)) := ⟨_, rfl⟩
     replace H : (yt.l0 k1 (y313.set (x5_1 : Int).toNat (⟨(y7 y313 x5_1).f0, (y7 y313 x5_1).f1, (y7 y313 x5_1).f2, wrap64 ((wrap64 ((wrap64 (x1_1 + 1)) + 1)) + 1)⟩ : yl)) (wrap64 ((wrap64 ((wrap64 ((wrap64 (x1_1 + 1)) + 1)) + 1)) + 1)) (wrap64 (x5_1 + 1))) = some (r1, r2) := by first | (rw [hy313]; with_reducible exact H) | (have H2_ := (Option.bind_some _ _).symm.trans H; rw [hy313]; with_reducible exact H2_) | (have H2_ := (Option.bind_some _ _).symm.trans H; with_reducible exact H2_) | with_reducible exact H | (rw [hy313]; exact H) | exact H
     have Ny313 := z2.mk hy313
     clear hy313
     obtain ⟨y314, hy314⟩ : ∃ y_ : List (yl), y_ = (y313.set (x5_1 : Int).toNat (⟨(y7 y313 x5_1).f0, (y7 y313 x5_1).f1, (y7 y313 x5_1).f2, wrap64 ((wrap64 ((wrap64 (x1_1 + 1)) + 1)) + 1)⟩ : yl)) := ⟨_, rfl⟩
     replace H : (yt.l0 k1 y314 (wrap64 ((wrap64 ((wrap64 ((wrap64 (x1_1 + 1)) + 1)) + 1)) + 1)) (wrap64 (x5_1 + 1))) = some (r1, r2) := by first | (rw [hy314]; with_reducible exact H) | (have H2_ := (Option.bind_some _ _).symm.trans H; rw [hy314]; with_reducible exact H2_) | (have H2_ := (Option.bind_some _ _).symm.trans H; with_reducible exact H2_) | with_reducible exact H | (rw [hy314]; exact H) | exact H
     have Ny314 := z2.mk hy314
     clear hy314
     have H' := z2.mk H
     clear H
     obtain ⟨Ao9, co9, eo9⟩ := Kd.zt HO_0.out
     subst eo9
     have p5 : 0 ≤ (x5_1 : Int) := of_decide_eq_true (by first | (with_reducible assumption) | assumption)
     have q5 : (x5_1 : Int) < ((x0_1.length : Int) : Int) := of_decide_eq_true (by first | (with_reducible assumption) | assumption)
     obtain ⟨go5, co5, eo5, gb5, gl5, cl5, HG5⟩ := Kd.y1d HO_0.out (by omega)
     (first | cases eo5 | (injection eo5 with ea_ en_ ec_; (first | subst ea_ | (injection ea_ with ea_; subst ea_)); subst ec_; clear en_))
     have GB5 := z2.mk gb5
     have GG5 := z2.mk HG5
     clear gb5 gl5 HG5
     have HMgo5 := z2.mk (show (P0_ go5 ∨ w.heap.size ≤ go5) from (HO_0.out.1 _ rfl))
     obtain ⟨ce5, hcl5, hM5, hcc5, hfr5⟩ := Kd.y0w HO_0.out q1h (x5_1 : Int) p5 q5
     obtain rfl := y0a hM5
     have hx5_0 : wr.cell? ⟨go5, (x5_1 : Int).toNat * 4, none⟩ = some (.int .i64 ((y7 x0_1 x5_1).f0)) := hcc5 0 _ rfl
     have hx5_1 : wr.cell? ⟨go5, (x5_1 : Int).toNat * 4 + 1, none⟩ = some (.int .i64 ((y7 x0_1 x5_1).f1)) := hcc5 1 _ rfl
     have hx5_2 : wr.cell? ⟨go5, (x5_1 : Int).toNat * 4 + 2, none⟩ = some (.int .i64 ((y7 x0_1 x5_1).f2)) := hcc5 2 _ rfl
     have hx5_3 : wr.cell? ⟨go5, (x5_1 : Int).toNat * 4 + 3, none⟩ = some (.int .i64 ((y7 x0_1 x5_1).f3)) := hcc5 3 _ rfl
     have hf5_0 : wr.frozen? ⟨go5, (x5_1 : Int).toNat * 4, none⟩ = false := hfr5 0
     have hf5_1 : wr.frozen? ⟨go5, (x5_1 : Int).toNat * 4 + 1, none⟩ = false := hfr5 1
     have hf5_2 : wr.frozen? ⟨go5, (x5_1 : Int).toNat * 4 + 2, none⟩ = false := hfr5 2
     have hf5_3 : wr.frozen? ⟨go5, (x5_1 : Int).toNat * 4 + 3, none⟩ = false := hfr5 3
     clear hcl5 hcc5 hfr5 hM5
     replace p5 := eq_true p5
     replace q5 := eq_true q5
     have HX10 := z2.mk (show Kd.R y08 138 wr w0.heap.size (fun k_ => (P0_ k_ ∨ w.heap.size ≤ k_)) (.slice (some ⟨go5, 0, none⟩) x0_1.length co9) x0_1 from (by (with_reducible repeat (first | apply Kd.R_alloc | apply Kd.y9 | apply Kd.zb)); exact HO_0.out))
     obtain ⟨ce10, hcl10, hM10, hcc10, hfr10⟩ := Kd.y0w HX10.out q1h (x5_1 : Int) (of_decide_eq_true (by first | (with_reducible assumption) | assumption)) (by have h_ : (x5_1 : Int) < ((x0_1.length : Int) : Int) := of_decide_eq_true (by first | (with_reducible assumption) | assumption); first | exact h_ | (have e_ := (Kd.qd HO_0.out).1; omega) | simpa using h_)
     obtain rfl := y0a hM10
     have HP10 := Kd.q26 HX10.out (x5_1 : Int) (of_decide_eq_true (by first | (with_reducible assumption) | assumption)) (by have h_ : (x5_1 : Int) < ((x0_1.length : Int) : Int) := of_decide_eq_true (by first | (with_reducible assumption) | assumption); first | exact h_ | (have e_ := (Kd.qd HO_0.out).1; omega) | simpa using h_) (seg := [.int .i64 x1_1]) (j := 0) hcl10 hcc10 (show 1 ≤ 4 from by decide) (x' := (⟨x1_1, (y7 x0_1 x5_1).f1, (y7 x0_1 x5_1).f2, (y7 x0_1 x5_1).f3⟩ : yl)) (q0m _ _ _ (⟨x1_1, (y7 x0_1 x5_1).f1, (y7 x0_1 x5_1).f2, (y7 x0_1 x5_1).f3⟩ : yl) ) (fun _ hk => hk)
     have hx10_0 := hcc10 0 _ rfl
     (try simp only [show (y08).sz = 4 from rfl, Nat.mul_one, Nat.add_zero] at hx10_0)
     have hf10_0 := hfr10 0
     (try simp only [show (y08).sz = 4 from rfl, Nat.mul_one, Nat.add_zero] at hf10_0)
     clear hcl10 hcc10 hfr10 hM10
     go_wp2_with (first | ((with_reducible refine q0d (t := 2) (p := 16) rfl ?_); refine z0a (t := 2) (p := 16) (v := ?vo_w11) (w1 := (wr.setCell ⟨go5, (x5_1 : Int).toNat * 4, none⟩ (.int .i64 x1_1))) ?hg ?ho ?hn ?hr ?_; (case ho => rfl); (case hg => rfl); (case hn => rfl); (case hr => first | (go_simp; done) | (go_simp; rfl)); intro w11 hw; have hg : wr.grownBy w11 (some go5) := (by rw [hw]; exact HP10.2); have hp_ : Kd.R y08 138 w11 w0.heap.size (fun k_ => (P0_ k_ ∨ w.heap.size ≤ k_)) (.slice (some ⟨go5, 0, none⟩) x0_1.length co9) y311 := (by rw [hw, Ny311.out]; exact HP10.1); clear HP10; have n0_ := z2.mk (hp_); have n1_ := z2.mk ((by rw [hw]; exact z7 (HB.out) GB5.out : Below w0.heap.size w0 w11)); have n2_ := z2.mk (Kept.y0q (S := (fun k_ => P0_ k_)) hg (by repeat (first | (with_reducible first | exact HK.out | apply Kept.alloc | apply Kept.drewN | apply Kept.drew) | exact HK.out)) (fun k_ e_ => (HO_0.out.1 k_ e_))); clear HO_0 HB HK; have HO_0 := n0_; have HB := n1_; have HK := n2_; clear n0_ n1_ n2_ hg hw hp_; have p6 : 0 ≤ (x5_1 : Int) := of_decide_eq_true (by first | (with_reducible assumption) | assumption); have q6 : (x5_1 : Int) < ((x0_1.length : Int) : Int) := of_decide_eq_true (by first | (with_reducible assumption) | assumption); obtain ⟨ce6, hcl6, hM6, hcc6, hfr6⟩ := Kd.y0w HO_0.out q1h (x5_1 : Int) p6 q6; obtain rfl := y0a hM6; have hx6_0 : w11.cell? ⟨go5, (x5_1 : Int).toNat * 4, none⟩ = some (.int .i64 ((y7 y311 x5_1).f0)) := hcc6 0 _ rfl; have hx6_1 : w11.cell? ⟨go5, (x5_1 : Int).toNat * 4 + 1, none⟩ = some (.int .i64 ((y7 y311 x5_1).f1)) := hcc6 1 _ rfl; have hx6_2 : w11.cell? ⟨go5, (x5_1 : Int).toNat * 4 + 2, none⟩ = some (.int .i64 ((y7 y311 x5_1).f2)) := hcc6 2 _ rfl; have hx6_3 : w11.cell? ⟨go5, (x5_1 : Int).toNat * 4 + 3, none⟩ = some (.int .i64 ((y7 y311 x5_1).f3)) := hcc6 3 _ rfl; have hf6_0 : w11.frozen? ⟨go5, (x5_1 : Int).toNat * 4, none⟩ = false := hfr6 0; have hf6_1 : w11.frozen? ⟨go5, (x5_1 : Int).toNat * 4 + 1, none⟩ = false := hfr6 1; have hf6_2 : w11.frozen? ⟨go5, (x5_1 : Int).toNat * 4 + 2, none⟩ = false := hfr6 2; have hf6_3 : w11.frozen? ⟨go5, (x5_1 : Int).toNat * 4 + 3, none⟩ = false := hfr6 3; clear hcl6 hcc6 hfr6 hM6; replace p6 := eq_true p6; replace q6 := eq_true q6; have HX12 := z2.mk (show Kd.R y08 138 w11 w0.heap.size (fun k_ => (P0_ k_ ∨ w.heap.size ≤ k_)) (.slice (some ⟨go5, 0, none⟩) x0_1.length co9) y311 from (by (with_reducible repeat (first | apply Kd.R_alloc | apply Kd.y9 | apply Kd.zb)); exact HO_0.out)); obtain ⟨ce12, hcl12, hM12, hcc12, hfr12⟩ := Kd.y0w HX12.out q1h (x5_1 : Int) (of_decide_eq_true (by first | (with_reducible assumption) | assumption)) (by have h_ : (x5_1 : Int) < ((x0_1.length : Int) : Int) := of_decide_eq_true (by first | (with_reducible assumption) | assumption); first | exact h_ | (have e_ := (Kd.qd HO_0.out).1; omega) | simpa using h_); obtain rfl := y0a hM12; have HP12 := Kd.q26 HX12.out (x5_1 : Int) (of_decide_eq_true (by first | (with_reducible assumption) | assumption)) (by have h_ : (x5_1 : Int) < ((x0_1.length : Int) : Int) := of_decide_eq_true (by first | (with_reducible assumption) | assumption); first | exact h_ | (have e_ := (Kd.qd HO_0.out).1; omega) | simpa using h_) (seg := [.int .i64 (wrap64 (x1_1 + 1))]) (j := 1) hcl12 hcc12 (show 2 ≤ 4 from by decide) (x' := (⟨(y7 y311 x5_1).f0, wrap64 (x1_1 + 1), (y7 y311 x5_1).f2, (y7 y311 x5_1).f3⟩ : yl)) (q0m _ _ _ (⟨(y7 y311 x5_1).f0, wrap64 (x1_1 + 1), (y7 y311 x5_1).f2, (y7 y311 x5_1).f3⟩ : yl) ) (fun _ hk => hk); have hx12_1 := hcc12 1 _ rfl; (try simp only [show (y08).sz = 4 from rfl, Nat.mul_one, Nat.add_zero] at hx12_1); have hf12_1 := hfr12 1; (try simp only [show (y08).sz = 4 from rfl, Nat.mul_one, Nat.add_zero] at hf12_1); clear hcl12 hcc12 hfr12 hM12) | ((with_reducible refine q0d (t := 2) (p := 23) rfl ?_); refine z0a (t := 2) (p := 23) (v := ?vo_w13) (w1 := (w11.setCell ⟨go5, (x5_1 : Int).toNat * 4 + 1, none⟩ (.int .i64 (wrap64 (x1_1 + 1))))) ?hg ?ho ?hn ?hr ?_; (case ho => rfl); (case hg => rfl); (case hn => rfl); (case hr => first | (go_simp; done) | (go_simp; rfl)); intro w13 hw; have hg : w11.grownBy w13 (some go5) := (by rw [hw]; exact HP12.2); have hp_ : Kd.R y08 138 w13 w0.heap.size (fun k_ => (P0_ k_ ∨ w.heap.size ≤ k_)) (.slice (some ⟨go5, 0, none⟩) x0_1.length co9) y312 := (by rw [hw, Ny312.out]; exact HP12.1); clear HP12; have n0_ := z2.mk (hp_); have n1_ := z2.mk ((by rw [hw]; exact z7 (HB.out) GB5.out : Below w0.heap.size w0 w13)); have n2_ := z2.mk (Kept.y0q (S := (fun k_ => P0_ k_)) hg (by repeat (first | (with_reducible first | exact HK.out | apply Kept.alloc | apply Kept.drewN | apply Kept.drew) | exact HK.out)) (fun k_ e_ => (HO_0.out.1 k_ e_))); clear HO_0 HB HK; have HO_0 := n0_; have HB := n1_; have HK := n2_; clear n0_ n1_ n2_ hg hw hp_; have p7 : 0 ≤ (x5_1 : Int) := of_decide_eq_true (by first | (with_reducible assumption) | assumption); have q7 : (x5_1 : Int) < ((x0_1.length : Int) : Int) := of_decide_eq_true (by first | (with_reducible assumption) | assumption); obtain ⟨ce7, hcl7, hM7, hcc7, hfr7⟩ := Kd.y0w HO_0.out q1h (x5_1 : Int) p7 q7; obtain rfl := y0a hM7; have hx7_0 : w13.cell? ⟨go5, (x5_1 : Int).toNat * 4, none⟩ = some (.int .i64 ((y7 y312 x5_1).f0)) := hcc7 0 _ rfl; have hx7_1 : w13.cell? ⟨go5, (x5_1 : Int).toNat * 4 + 1, none⟩ = some (.int .i64 ((y7 y312 x5_1).f1)) := hcc7 1 _ rfl; have hx7_2 : w13.cell? ⟨go5, (x5_1 : Int).toNat * 4 + 2, none⟩ = some (.int .i64 ((y7 y312 x5_1).f2)) := hcc7 2 _ rfl; have hx7_3 : w13.cell? ⟨go5, (x5_1 : Int).toNat * 4 + 3, none⟩ = some (.int .i64 ((y7 y312 x5_1).f3)) := hcc7 3 _ rfl; have hf7_0 : w13.frozen? ⟨go5, (x5_1 : Int).toNat * 4, none⟩ = false := hfr7 0; have hf7_1 : w13.frozen? ⟨go5, (x5_1 : Int).toNat * 4 + 1, none⟩ = false := hfr7 1; have hf7_2 : w13.frozen? ⟨go5, (x5_1 : Int).toNat * 4 + 2, none⟩ = false := hfr7 2; have hf7_3 : w13.frozen? ⟨go5, (x5_1 : Int).toNat * 4 + 3, none⟩ = false := hfr7 3; clear hcl7 hcc7 hfr7 hM7; replace p7 := eq_true p7; replace q7 := eq_true q7; have HX14 := z2.mk (show Kd.R y08 138 w13 w0.heap.size (fun k_ => (P0_ k_ ∨ w.heap.size ≤ k_)) (.slice (some ⟨go5, 0, none⟩) x0_1.length co9) y312 from (by (with_reducible repeat (first | apply Kd.R_alloc | apply Kd.y9 | apply Kd.zb)); exact HO_0.out)); obtain ⟨ce14, hcl14, hM14, hcc14, hfr14⟩ := Kd.y0w HX14.out q1h (x5_1 : Int) (of_decide_eq_true (by first | (with_reducible assumption) | assumption)) (by have h_ : (x5_1 : Int) < ((x0_1.length : Int) : Int) := of_decide_eq_true (by first | (with_reducible assumption) | assumption); first | exact h_ | (have e_ := (Kd.qd HO_0.out).1; omega) | simpa using h_); obtain rfl := y0a hM14; have HP14 := Kd.q26 HX14.out (x5_1 : Int) (of_decide_eq_true (by first | (with_reducible assumption) | assumption)) (by have h_ : (x5_1 : Int) < ((x0_1.length : Int) : Int) := of_decide_eq_true (by first | (with_reducible assumption) | assumption); first | exact h_ | (have e_ := (Kd.qd HO_0.out).1; omega) | simpa using h_) (seg := [.int .i64 (wrap64 ((wrap64 (x1_1 + 1)) + 1))]) (j := 2) hcl14 hcc14 (show 3 ≤ 4 from by decide) (x' := (⟨(y7 y312 x5_1).f0, (y7 y312 x5_1).f1, wrap64 ((wrap64 (x1_1 + 1)) + 1), (y7 y312 x5_1).f3⟩ : yl)) (q0m _ _ _ (⟨(y7 y312 x5_1).f0, (y7 y312 x5_1).f1, wrap64 ((wrap64 (x1_1 + 1)) + 1), (y7 y312 x5_1).f3⟩ : yl) ) (fun _ hk => hk); have hx14_2 := hcc14 2 _ rfl; (try simp only [show (y08).sz = 4 from rfl, Nat.mul_one, Nat.add_zero] at hx14_2); have hf14_2 := hfr14 2; (try simp only [show (y08).sz = 4 from rfl, Nat.mul_one, Nat.add_zero] at hf14_2); clear hcl14 hcc14 hfr14 hM14) | ((with_reducible refine q0d (t := 2) (p := 30) rfl ?_); refine z0a (t := 2) (p := 30) (v := ?vo_w15) (w1 := (w13.setCell ⟨go5, (x5_1 : Int).toNat * 4 + 2, none⟩ (.int .i64 (wrap64 ((wrap64 (x1_1 + 1)) + 1))))) ?hg ?ho ?hn ?hr ?_; (case ho => rfl); (case hg => rfl); (case hn => rfl); (case hr => first | (go_simp; done) | (go_simp; rfl)); intro w15 hw; have hg : w13.grownBy w15 (some go5) := (by rw [hw]; exact HP14.2); have hp_ : Kd.R y08 138 w15 w0.heap.size (fun k_ => (P0_ k_ ∨ w.heap.size ≤ k_)) (.slice (some ⟨go5, 0, none⟩) x0_1.length co9) y313 := (by rw [hw, Ny313.out]; exact HP14.1); clear HP14; have n0_ := z2.mk (hp_); have n1_ := z2.mk ((by rw [hw]; exact z7 (HB.out) GB5.out : Below w0.heap.size w0 w15)); have n2_ := z2.mk (Kept.y0q (S := (fun k_ => P0_ k_)) hg (by repeat (first | (with_reducible first | exact HK.out | apply Kept.alloc | apply Kept.drewN | apply Kept.drew) | exact HK.out)) (fun k_ e_ => (HO_0.out.1 k_ e_))); clear HO_0 HB HK; have HO_0 := n0_; have HB := n1_; have HK := n2_; clear n0_ n1_ n2_ hg hw hp_; have p8 : 0 ≤ (x5_1 : Int) := of_decide_eq_true (by first | (with_reducible assumption) | assumption); have q8 : (x5_1 : Int) < ((x0_1.length : Int) : Int) := of_decide_eq_true (by first | (with_reducible assumption) | assumption); obtain ⟨ce8, hcl8, hM8, hcc8, hfr8⟩ := Kd.y0w HO_0.out q1h (x5_1 : Int) p8 q8; obtain rfl := y0a hM8; have hx8_0 : w15.cell? ⟨go5, (x5_1 : Int).toNat * 4, none⟩ = some (.int .i64 ((y7 y313 x5_1).f0)) := hcc8 0 _ rfl; have hx8_1 : w15.cell? ⟨go5, (x5_1 : Int).toNat * 4 + 1, none⟩ = some (.int .i64 ((y7 y313 x5_1).f1)) := hcc8 1 _ rfl; have hx8_2 : w15.cell? ⟨go5, (x5_1 : Int).toNat * 4 + 2, none⟩ = some (.int .i64 ((y7 y313 x5_1).f2)) := hcc8 2 _ rfl; have hx8_3 : w15.cell? ⟨go5, (x5_1 : Int).toNat * 4 + 3, none⟩ = some (.int .i64 ((y7 y313 x5_1).f3)) := hcc8 3 _ rfl; have hf8_0 : w15.frozen? ⟨go5, (x5_1 : Int).toNat * 4, none⟩ = false := hfr8 0; have hf8_1 : w15.frozen? ⟨go5, (x5_1 : Int).toNat * 4 + 1, none⟩ = false := hfr8 1; have hf8_2 : w15.frozen? ⟨go5, (x5_1 : Int).toNat * 4 + 2, none⟩ = false := hfr8 2; have hf8_3 : w15.frozen? ⟨go5, (x5_1 : Int).toNat * 4 + 3, none⟩ = false := hfr8 3; clear hcl8 hcc8 hfr8 hM8; replace p8 := eq_true p8; replace q8 := eq_true q8; have HX16 := z2.mk (show Kd.R y08 138 w15 w0.heap.size (fun k_ => (P0_ k_ ∨ w.heap.size ≤ k_)) (.slice (some ⟨go5, 0, none⟩) x0_1.length co9) y313 from (by (with_reducible repeat (first | apply Kd.R_alloc | apply Kd.y9 | apply Kd.zb)); exact HO_0.out)); obtain ⟨ce16, hcl16, hM16, hcc16, hfr16⟩ := Kd.y0w HX16.out q1h (x5_1 : Int) (of_decide_eq_true (by first | (with_reducible assumption) | assumption)) (by have h_ : (x5_1 : Int) < ((x0_1.length : Int) : Int) := of_decide_eq_true (by first | (with_reducible assumption) | assumption); first | exact h_ | (have e_ := (Kd.qd HO_0.out).1; omega) | simpa using h_); obtain rfl := y0a hM16; have HP16 := Kd.q26 HX16.out (x5_1 : Int) (of_decide_eq_true (by first | (with_reducible assumption) | assumption)) (by have h_ : (x5_1 : Int) < ((x0_1.length : Int) : Int) := of_decide_eq_true (by first | (with_reducible assumption) | assumption); first | exact h_ | (have e_ := (Kd.qd HO_0.out).1; omega) | simpa using h_) (seg := [.int .i64 (wrap64 ((wrap64 ((wrap64 (x1_1 + 1)) + 1)) + 1))]) (j := 3) hcl16 hcc16 (show 4 ≤ 4 from by decide) (x' := (⟨(y7 y313 x5_1).f0, (y7 y313 x5_1).f1, (y7 y313 x5_1).f2, wrap64 ((wrap64 ((wrap64 (x1_1 + 1)) + 1)) + 1)⟩ : yl)) (q0m _ _ _ (⟨(y7 y313 x5_1).f0, (y7 y313 x5_1).f1, (y7 y313 x5_1).f2, wrap64 ((wrap64 ((wrap64 (x1_1 + 1)) + 1)) + 1)⟩ : yl) ) (fun _ hk => hk); have hx16_3 := hcc16 3 _ rfl; (try simp only [show (y08).sz = 4 from rfl, Nat.mul_one, Nat.add_zero] at hx16_3); have hf16_3 := hfr16 3; (try simp only [show (y08).sz = 4 from rfl, Nat.mul_one, Nat.add_zero] at hf16_3); clear hcl16 hcc16 hfr16 hM16) | ((with_reducible refine q0d (t := 2) (p := 37) rfl ?_); refine z0a (t := 2) (p := 37) (v := ?vo_w17) (w1 := (w15.setCell ⟨go5, (x5_1 : Int).toNat * 4 + 3, none⟩ (.int .i64 (wrap64 ((wrap64 ((wrap64 (x1_1 + 1)) + 1)) + 1))))) ?hg ?ho ?hn ?hr ?_; (case ho => rfl); (case hg => rfl); (case hn => rfl); (case hr => first | (go_simp; done) | (go_simp; rfl)); intro w17 hw; have hg : w15.grownBy w17 (some go5) := (by rw [hw]; exact HP16.2); have hp_ : Kd.R y08 138 w17 w0.heap.size (fun k_ => (P0_ k_ ∨ w.heap.size ≤ k_)) (.slice (some ⟨go5, 0, none⟩) x0_1.length co9) y314 := (by rw [hw, Ny314.out]; exact HP16.1); clear HP16; have n0_ := z2.mk (hp_); have n1_ := z2.mk ((by rw [hw]; exact z7 (HB.out) GB5.out : Below w0.heap.size w0 w17)); have n2_ := z2.mk (Kept.y0q (S := (fun k_ => P0_ k_)) hg (by repeat (first | (with_reducible first | exact HK.out | apply Kept.alloc | apply Kept.drewN | apply Kept.drew) | exact HK.out)) (fun k_ e_ => (HO_0.out.1 k_ e_))); clear HO_0 HB HK; have HO_0 := n0_; have HB := n1_; have HK := n2_; clear n0_ n1_ n2_ hg hw hp_))
     go_roundg k1
     case measure => have := HK1.out; omega
     case rel => exact ⟨(y314), (wrap64 ((wrap64 ((wrap64 ((wrap64 (x1_1 + 1)) + 1)) + 1)) + 1)), (wrap64 (x5_1 + 1)), (by first | rfl | (simp; done) | (simp [*]; done)), (by first | rfl | (simp; done) | (simp [*]; done)), H', ⟨by have := HK1.out; omega⟩, ⟨by (with_reducible repeat (first | apply Kd.R_alloc | apply Kd.y9 | apply Kd.zb)); exact HO_0.out⟩, ⟨by repeat (first | (with_reducible first | exact HK.out | apply Kept.alloc | apply Kept.drewN | apply Kept.drew) | exact HK.out)⟩, ⟨by repeat (first | (with_reducible first | exact HB.out | apply z4 | apply z1 | apply z3) | exact HB.out)⟩⟩
    ·rw [if_neg c4] at H
     exact absurd H (by simp)
   ·rw [if_neg c3] at H
    have c3b0 : decide (x5_1 < (x0_1.length : Int)) = false := decide_eq_false c3
    clear c3
    simp only [Option.some.injEq, Prod.mk.injEq] at H
    obtain ⟨rfl, rfl⟩ := H
    obtain ⟨Ao18, co18, eo18⟩ := Kd.zt HO_0.out
    subst eo18
    go_wp2
    go_ret
    exact ⟨by first | rfl | (simp [ya, qa] <;> rfl) | (simp [*, ya, qa] <;> rfl), by (with_reducible repeat (first | apply Kd.R_alloc | apply Kd.y9 | apply Kd.zb)); exact HO_0.out, by repeat (first | (with_reducible first | exact HB.out | apply z4 | apply z1 | apply z3) | exact HB.out), by repeat (first | (with_reducible first | exact HK.out | apply Kept.alloc | apply Kept.drewN | apply Kept.drew) | exact HK.out)⟩
def q01.f (k : Nat) (a0_0 : Int) (l0_1 : List (yl)) (a1 : Int) : Option (Int × (List (yl))) := (yt.f k l0_1 a1).bind fun bt316 => (some (bt316.1, bt316.2))
set_option maxHeartbeats 8000000 in
set_option maxRecDepth 100000 in
theorem q01.calls (k : Nat) (a0_0 : Int) (P0_1_ : Nat → Prop) (u9000_ : Value) (l0_1 : List (yl)) (a1 : Int) (r1 : Int) (r2 : List (yl)) (w0 w : World) (hB : Below w0.heap.size w0 w) (ho0_1 : Kd.R y08 138 w w0.heap.size P0_1_ u9000_ l0_1) (h : q01.f k a0_0 l0_1 a1 = some (r1, r2)) :
  Calls Try.prog 56 #[.agg #[.int .i64 a0_0, u9000_], .int .i64 a1] w fun e w' => e = .returned (.int .i64 r1) ∧ Kd.R y08 138 w' w0.heap.size (fun k_ => (P0_1_ k_ ∨ w.heap.size ≤ k_)) u9000_ r2 ∧ Below w0.heap.size w0 w' ∧ Kept w w' (fun k_ => P0_1_ k_) := by
 have hu31 := Try.underlying31
 have HO0_1 := z2.mk (show Kd.R y08 138 w w0.heap.size (fun k_ => (P0_1_ k_ ∨ w.heap.size ≤ k_)) u9000_ l0_1 from Kd.yk ho0_1 (fun k_ hk => (.inl hk)))
 have HK := z2.mk (Kept.refl w (fun k_ => P0_1_ k_))
 have HW0 := z2.mk hB.size
 have HB := z2.mk hB
 clear hB
 have H : ((yt.f k l0_1 a1).bind fun bt316 => (some (bt316.1, bt316.2))) = some (r1, r2) := h
 clear h
 replace H := Option.bind_eq_some_iff.mp H
 obtain ⟨⟨t316, t317⟩, A30, H⟩ := H
 replace H : (some (t316, t317)) = some (r1, r2) := H
 have A3 := z2.mk A30
 clear A30
 simp only [Option.some.injEq, Prod.mk.injEq] at H
 obtain ⟨rfl, rfl⟩ := H
 obtain ⟨Ao4, co4, eo4⟩ := Kd.zt HO0_1.out
 subst eo4
 go_enter Try.func56, Try.ntmps56
 go_wp2_with (first | ((with_reducible refine ye (N := 2) rfl ?_); refine ze ?hg (N := 2) ?hd (cs := #[.int .i64 a0_0, .slice Ao4 l0_1.length co4]) (t := 31) ?hr ?_; (case hd => rfl); (case hg => rfl); (case hr => first | (go_simp; done) | (go_simp; rfl)); intro gb315 hg w5 hbox hb; have n0_ := z2.mk (Kd.qf (by (with_reducible repeat (first | apply Kd.R_alloc | apply Kd.y9 | apply Kd.zb)); exact HO0_1.out) hb); have n1_ := z2.mk (Kept.below (S := (fun k_ => P0_1_ k_)) (by repeat (first | (with_reducible first | exact HK.out | apply Kept.alloc | apply Kept.drewN | apply Kept.drew) | exact HK.out)) hb); have n2_ := z2.mk (y8 (by repeat (first | (with_reducible first | exact HB.out | apply z4 | apply z1 | apply z3) | exact HB.out)) hb); have n3_ := z2.mk (hbox); have n4_ := z2.mk ((by rw [hg]; exact (by first | exact HK.out.1 | exact (show Kept w _ (fun k_ => P0_1_ k_) from by repeat (first | (with_reducible first | exact HK.out | apply Kept.alloc | apply Kept.drewN | apply Kept.drew) | exact HK.out)).1) : w.heap.size ≤ gb315)); have n5_ := z2.mk ((by rw [hg]; exact (z8 (by repeat (first | (with_reducible first | exact HB.out | apply z4 | apply z1 | apply z3) | exact HB.out))) : w0.heap.size ≤ gb315)); clear HO0_1 HK HB; have HO0_1 := n0_; have HK := n1_; have HB := n2_; have BK315 := n3_; have GW315 := n4_; have GE315 := n5_; clear n0_ n1_ n2_ n3_ n4_ n5_ hb hbox hg; have hcz6_0 : w5.cell? ⟨gb315, 0, none⟩ = some (.int .i64 a0_0) := (z6 BK315.out 0).trans rfl; have hcz6_1 : w5.cell? ⟨gb315, 1, none⟩ = some (.slice Ao4 l0_1.length co4) := (z6 BK315.out 1).trans rfl; have hfz6_0 := y5 BK315.out 0; have hfz6_1 := y5 BK315.out 1) | ((with_reducible refine qb (f := 106) rfl ?_); refine zm (some 8) rfl rfl Try.func106 (by kernel_rfl) rfl #[.slice Ao4 l0_1.length co4, .int .i64 a1] rfl (by (try simp only [List.map_toArray, List.map_cons, List.map_nil]); first | done | rfl | (simp only [List.length_drop, List.length_take]; rfl)) ?_; (with_reducible refine (yt.calls k (fun k_ => some k_ = (.slice Ao4 l0_1.length co4 : Value).ownBlock) (.slice Ao4 l0_1.length co4) l0_1 a1 t316 t317 w0 _ ?side1 ?side2 A3.out).mono ?_); (case side1 => repeat (first | (with_reducible first | exact HB.out | apply z4 | apply z1 | apply z3 | refine z7 ?_ GE315.out) | exact HB.out)); (case side2 => exact Kd.q0f rfl HO0_1.out); rintro e w7 ⟨rfl, hy0, hb, hkp⟩; refine ⟨_, rfl, ?_⟩; have n0_ := z2.mk (Kd.q0n rfl hy0 (fun k_ e_ => HO0_1.out.1 k_ e_)); have n1_ := z2.mk (q02 (by (with_reducible repeat (first | refine z5 ?_ _ | refine y6 ?_ | refine y4 ?_ _)); exact BK315.out) hkp (fun hs_ => (fun e_ => (Kd.y0k HO0_1.out BK315.out (by decide)) e_) hs_)); have n2_ := z2.mk (Kept.y25 (S := (fun k_ => P0_1_ k_)) (by repeat (first | (with_reducible first | exact HK.out | apply Kept.alloc | apply Kept.drewN | apply Kept.drew | refine Kept.setCell ?_ (.inr GW315.out) _) | exact HK.out)) hkp (fun k_ hs_ => (fun e_ => (HO0_1.out.1 k_ e_.symm)) hs_)); have n3_ := z2.mk (hb); clear HO0_1 BK315 HK HB; have HO0_1 := n0_; have BK315 := n1_; have HK := n2_; have HB := n3_; clear n0_ n1_ n2_ n3_; (try clear hb); (try clear hkp); (try clear hy0)))
 go_ret
 exact ⟨by first | rfl | (simp [ya, qa] <;> rfl) | (simp [*, ya, qa] <;> rfl), by (with_reducible repeat (first | apply Kd.R_alloc | apply Kd.y9 | apply Kd.zb)); exact HO0_1.out, by repeat (first | (with_reducible first | exact HB.out | apply z4 | apply z1 | apply z3 | refine z7 ?_ GE315.out) | exact HB.out), by repeat (first | (with_reducible first | exact HK.out | apply Kept.alloc | apply Kept.drewN | apply Kept.drew | refine Kept.setCell ?_ (.inr GW315.out) _) | exact HK.out)⟩
def z04.f (k : Nat) (a0_0 : Bool) (a0_1 : Int) (l0_2 : List (yl)) (a0_3 : Int) (a1 : Int) : Option (Int × (List (yl))) := (q01.f k a0_1 l0_2 a1).bind fun bt319 => (some (bt319.1, bt319.2))
set_option maxHeartbeats 8000000 in
set_option maxRecDepth 100000 in
theorem z04.calls (k : Nat) (a0_0 : Bool) (a0_1 : Int) (P0_2_ : Nat → Prop) (u9000_ : Value) (l0_2 : List (yl)) (a0_3 : Int) (a1 : Int) (r1 : Int) (r2 : List (yl)) (w0 w : World) (hB : Below w0.heap.size w0 w) (ho0_2 : Kd.R y08 138 w w0.heap.size P0_2_ u9000_ l0_2) (h : z04.f k a0_0 a0_1 l0_2 a0_3 a1 = some (r1, r2)) :
  Calls Try.prog 16 #[.agg #[.bool a0_0, .int .i64 a0_1, u9000_, .int .i64 a0_3], .int .i64 a1] w fun e w' => e = .returned (.int .i64 r1) ∧ Kd.R y08 138 w' w0.heap.size (fun k_ => (P0_2_ k_ ∨ w.heap.size ≤ k_)) u9000_ r2 ∧ Below w0.heap.size w0 w' ∧ Kept w w' (fun k_ => P0_2_ k_) := by
 have hu33 := Try.underlying33
 have hu31 := Try.underlying31
 have HO0_2 := z2.mk (show Kd.R y08 138 w w0.heap.size (fun k_ => (P0_2_ k_ ∨ w.heap.size ≤ k_)) u9000_ l0_2 from Kd.yk ho0_2 (fun k_ hk => (.inl hk)))
 have HK := z2.mk (Kept.refl w (fun k_ => P0_2_ k_))
 have HW0 := z2.mk hB.size
 have HB := z2.mk hB
 clear hB
 have H : ((q01.f k a0_1 l0_2 a1).bind fun bt319 => (some (bt319.1, bt319.2))) = some (r1, r2) := h
 clear h
 replace H := Option.bind_eq_some_iff.mp H
 obtain ⟨⟨t319, t320⟩, A30, H⟩ := H
 replace H : (some (t319, t320)) = some (r1, r2) := H
 have A3 := z2.mk A30
 clear A30
 simp only [Option.some.injEq, Prod.mk.injEq] at H
 obtain ⟨rfl, rfl⟩ := H
 obtain ⟨Ao4, co4, eo4⟩ := Kd.zt HO0_2.out
 subst eo4
 go_enter Try.func16, Try.ntmps16
 go_wp2_with (first | ((with_reducible refine ye (N := 2) rfl ?_); refine ze ?hg (N := 2) ?hd (cs := #[.bool a0_0, .int .i64 a0_1, .slice Ao4 l0_2.length co4, .int .i64 a0_3]) (t := 33) ?hr ?_; (case hd => rfl); (case hg => rfl); (case hr => first | (go_simp; done) | (go_simp; rfl)); intro gb318 hg w5 hbox hb; have n0_ := z2.mk (Kd.qf (by (with_reducible repeat (first | apply Kd.R_alloc | apply Kd.y9 | apply Kd.zb)); exact HO0_2.out) hb); have n1_ := z2.mk (Kept.below (S := (fun k_ => P0_2_ k_)) (by repeat (first | (with_reducible first | exact HK.out | apply Kept.alloc | apply Kept.drewN | apply Kept.drew) | exact HK.out)) hb); have n2_ := z2.mk (y8 (by repeat (first | (with_reducible first | exact HB.out | apply z4 | apply z1 | apply z3) | exact HB.out)) hb); have n3_ := z2.mk (hbox); have n4_ := z2.mk ((by rw [hg]; exact (by first | exact HK.out.1 | exact (show Kept w _ (fun k_ => P0_2_ k_) from by repeat (first | (with_reducible first | exact HK.out | apply Kept.alloc | apply Kept.drewN | apply Kept.drew) | exact HK.out)).1) : w.heap.size ≤ gb318)); have n5_ := z2.mk ((by rw [hg]; exact (z8 (by repeat (first | (with_reducible first | exact HB.out | apply z4 | apply z1 | apply z3) | exact HB.out))) : w0.heap.size ≤ gb318)); clear HO0_2 HK HB; have HO0_2 := n0_; have HK := n1_; have HB := n2_; have BK318 := n3_; have GW318 := n4_; have GE318 := n5_; clear n0_ n1_ n2_ n3_ n4_ n5_ hb hbox hg; have hcz6_0 : w5.cell? ⟨gb318, 0, none⟩ = some (.bool a0_0) := (z6 BK318.out 0).trans rfl; have hcz6_1 : w5.cell? ⟨gb318, 1, none⟩ = some (.int .i64 a0_1) := (z6 BK318.out 1).trans rfl; have hcz6_2 : w5.cell? ⟨gb318, 2, none⟩ = some (.slice Ao4 l0_2.length co4) := (z6 BK318.out 2).trans rfl; have hcz6_3 : w5.cell? ⟨gb318, 3, none⟩ = some (.int .i64 a0_3) := (z6 BK318.out 3).trans rfl; have hfz6_0 := y5 BK318.out 0; have hfz6_1 := y5 BK318.out 1; have hfz6_2 := y5 BK318.out 2; have hfz6_3 := y5 BK318.out 3) | ((with_reducible refine qb (f := 56) rfl ?_); refine zm (some 8) rfl rfl Try.func56 (by kernel_rfl) rfl #[.agg #[.int .i64 a0_1, .slice Ao4 l0_2.length co4], .int .i64 a1] rfl (by (try simp only [List.map_toArray, List.map_cons, List.map_nil]); first | done | rfl | (simp only [List.length_drop, List.length_take]; rfl)) ?_; (with_reducible refine (q01.calls k a0_1 (fun k_ => some k_ = (.slice Ao4 l0_2.length co4 : Value).ownBlock) (.slice Ao4 l0_2.length co4) l0_2 a1 t319 t320 w0 _ ?side1 ?side2 A3.out).mono ?_); (case side1 => repeat (first | (with_reducible first | exact HB.out | apply z4 | apply z1 | apply z3 | refine z7 ?_ GE318.out) | exact HB.out)); (case side2 => exact Kd.q0f rfl HO0_2.out); rintro e w7 ⟨rfl, hy0, hb, hkp⟩; refine ⟨_, rfl, ?_⟩; have n0_ := z2.mk (Kd.q0n rfl hy0 (fun k_ e_ => HO0_2.out.1 k_ e_)); have n1_ := z2.mk (q02 (by (with_reducible repeat (first | refine z5 ?_ _ | refine y6 ?_ | refine y4 ?_ _)); exact BK318.out) hkp (fun hs_ => (fun e_ => (Kd.y0k HO0_2.out BK318.out (by decide)) e_) hs_)); have n2_ := z2.mk (Kept.y25 (S := (fun k_ => P0_2_ k_)) (by repeat (first | (with_reducible first | exact HK.out | apply Kept.alloc | apply Kept.drewN | apply Kept.drew | refine Kept.setCell ?_ (.inr GW318.out) _) | exact HK.out)) hkp (fun k_ hs_ => (fun e_ => (HO0_2.out.1 k_ e_.symm)) hs_)); have n3_ := z2.mk (hb); clear HO0_2 BK318 HK HB; have HO0_2 := n0_; have BK318 := n1_; have HK := n2_; have HB := n3_; clear n0_ n1_ n2_ n3_; (try clear hb); (try clear hkp); (try clear hy0)))
 go_ret
 exact ⟨by first | rfl | (simp [ya, qa] <;> rfl) | (simp [*, ya, qa] <;> rfl), by (with_reducible repeat (first | apply Kd.R_alloc | apply Kd.y9 | apply Kd.zb)); exact HO0_2.out, by repeat (first | (with_reducible first | exact HB.out | apply z4 | apply z1 | apply z3 | refine z7 ?_ GE318.out) | exact HB.out), by repeat (first | (with_reducible first | exact HK.out | apply Kept.alloc | apply Kept.drewN | apply Kept.drew | refine Kept.setCell ?_ (.inr GW318.out) _) | exact HK.out)⟩
def ym.l0 : Nat → List Int → Int → Int → Option (Int × List Int)
 | 0, _, _, _ => none
 | k + 1, x0, x1, x5 => if x5 < (x0.length : Int) then (if 0 ≤ x5 then (ym.l0 k (x0.set (x5 : Int).toNat ((x1) % 256)) (wrap64 (x1 + 1)) (wrap64 (x5 + 1))) else (none)) else (some (x1, x0))
def ym.f (k : Nat) (l0 : List Int) (a1 : Int) : Option (Int × List Int) := ym.l0 k l0 a1 0
set_option maxHeartbeats 8000000 in
set_option maxRecDepth 100000 in
theorem ym.calls (k : Nat) (P0_ : Nat → Prop) (u9000_ : Value) (l0 : List Int) (a1 : Int) (r1 : Int) (r2 : List Int) (w0 w : World) (hB : Below w0.heap.size w0 w) (ho0 : Kd.R (Kd.int .u8) 5 w w0.heap.size P0_ u9000_ l0) (h : ym.f k l0 a1 = some (r1, r2)) :
  Calls Try.prog 24 #[u9000_, .int .i64 a1] w fun e w' => e = .returned (.int .i64 r1) ∧ Kd.R (Kd.int .u8) 5 w' w0.heap.size (fun k_ => (P0_ k_ ∨ w.heap.size ≤ k_)) u9000_ r2 ∧ Below w0.heap.size w0 w' ∧ Kept w w' (fun k_ => P0_ k_) := by
 have HO0 := z2.mk (show Kd.R (Kd.int .u8) 5 w w0.heap.size (fun k_ => (P0_ k_ ∨ w.heap.size ≤ k_)) u9000_ l0 from Kd.yk ho0 (fun k_ hk => (.inl hk)))
 have HK := z2.mk (Kept.refl w (fun k_ => P0_ k_))
 have HW0 := z2.mk hB.size
 have HB := z2.mk hB
 clear hB
 have H : (ym.l0 k l0 a1 0) = some (r1, r2) := h
 clear h
 have H' := z2.mk H
 clear H
 go_enter Try.func24, Try.ntmps24
 go_wp2
 go_loopg [1, 5] k (fun kq v1 v5 w' => ∃ (x0_1 : List Int) (x1_1 : Int) (x5_1 : Int), v1 = .int .i64 x1_1 ∧ v5 = .int .i64 x5_1 ∧ z2 (ym.l0 kq x0_1 x1_1 x5_1 = some (r1, r2)) ∧ z2 (kq ≤ k) ∧ z2 (Kd.R (Kd.int .u8) 5 w' w0.heap.size (fun k_ => (P0_ k_ ∨ w.heap.size ≤ k_)) u9000_ x0_1) ∧ z2 (Kept w w' (fun k_ => P0_ k_)) ∧ z2 (Below w0.heap.size w0 w'))
 case atStart => exact ⟨(l0), (a1), (0), (by first | rfl | (simp; done) | (simp [*]; done)), (by first | rfl | (simp; done) | (simp [*]; done)), H', ⟨Nat.le_refl _⟩, ⟨by (with_reducible repeat (first | apply Kd.R_alloc | apply Kd.y9 | apply Kd.zb)); exact HO0.out⟩, ⟨by repeat (first | (with_reducible first | exact HK.out | apply Kept.alloc | apply Kept.drewN | apply Kept.drew) | exact HK.out)⟩, ⟨by repeat (first | (with_reducible first | exact HB.out | apply z4 | apply z1 | apply z3) | exact HB.out)⟩⟩
 case round =>
  clear H'
  try clear c2
  try clear p2
  obtain ⟨x0_1, x1_1, x5_1, rfl, rfl, HA, HK1, HO_0, HK, HB⟩ := hrel
  cases gk with
  | zero => exact absurd HA.out (by simp [ym.l0])
  | succ k1 =>
   have H := HA.out
   clear HA
   simp only [ym.l0] at H
   by_cases c3 : x5_1 < (x0_1.length : Int)
   ·rw [if_pos c3] at H
    have c3b0 : decide (x5_1 < (x0_1.length : Int)) = true := decide_eq_true c3
    clear c3
    by_cases c4 : 0 ≤ x5_1
    ·rw [if_pos c4] at H
     have c4b0 : decide (0 ≤ x5_1) = true := decide_eq_true c4
     clear c4
     obtain ⟨y321, hy321⟩ : ∃ y_ : List Int, y_ = (x0_1.set (x5_1 : Int).toNat ((x1_1) % 256)) := ⟨_, rfl⟩
     replace H : (ym.l0 k1 y321 (wrap64 (x1_1 + 1)) (wrap64 (x5_1 + 1))) = some (r1, r2) := by first | (rw [hy321]; with_reducible exact H) | (have H2_ := (Option.bind_some _ _).symm.trans H; rw [hy321]; with_reducible exact H2_) | (have H2_ := (Option.bind_some _ _).symm.trans H; with_reducible exact H2_) | with_reducible exact H | (rw [hy321]; exact H) | exact H
     have Ny321 := z2.mk hy321
     clear hy321
     have H' := z2.mk H
     clear H
     obtain ⟨Ao6, co6, eo6⟩ := Kd.zt HO_0.out
     subst eo6
     have p5 : 0 ≤ (x5_1 : Int) := of_decide_eq_true (by first | (with_reducible assumption) | assumption)
     have q5 : (x5_1 : Int) < ((x0_1.length : Int) : Int) := of_decide_eq_true (by first | (with_reducible assumption) | assumption)
     obtain ⟨go5, co5, eo5, gb5, gl5, cl5, HG5⟩ := Kd.y1d HO_0.out (by omega)
     (first | cases eo5 | (injection eo5 with ea_ en_ ec_; (first | subst ea_ | (injection ea_ with ea_; subst ea_)); subst ec_; clear en_))
     have GB5 := z2.mk gb5
     have GG5 := z2.mk HG5
     clear gb5 gl5 HG5
     have HMgo5 := z2.mk (show (P0_ go5 ∨ w.heap.size ≤ go5) from (HO_0.out.1 _ rfl))
     obtain ⟨hx5_0, hf5_0⟩ := Kd.z18 0 HO_0.out (x5_1 : Int) p5 q5
     replace p5 := eq_true p5
     replace q5 := eq_true q5
     have HP7 := Kd.y1u HO_0.out (x5_1 : Int) ((x1_1) % 256)
     go_wp2_with (first | ((with_reducible refine q0d (t := 5) (p := 16) rfl ?_); refine z0a (t := 5) (p := 16) (v := ?vo_w8) (w1 := (wr.setCell ⟨go5, (x5_1 : Int).toNat, none⟩ (.int .u8 ((x1_1) % 256)))) ?hg ?ho ?hn ?hr ?_; (case ho => rfl); (case hg => rfl); (case hn => rfl); (case hr => first | (go_simp; done) | (go_simp; rfl)); intro w8 hw; have hg : wr.grownBy w8 (some go5) := (by rw [hw]; exact HP7.2); have hp_ : Kd.R (Kd.int .u8) 5 w8 w0.heap.size (fun k_ => (P0_ k_ ∨ w.heap.size ≤ k_)) (.slice (some ⟨go5, 0, none⟩) x0_1.length co6) y321 := (by rw [hw, Ny321.out]; exact HP7.1); clear HP7; have n0_ := z2.mk (hp_); have n1_ := z2.mk ((by rw [hw]; exact z7 (HB.out) GB5.out : Below w0.heap.size w0 w8)); have n2_ := z2.mk (Kept.y0q (S := (fun k_ => P0_ k_)) hg (by repeat (first | (with_reducible first | exact HK.out | apply Kept.alloc | apply Kept.drewN | apply Kept.drew) | exact HK.out)) (fun k_ e_ => (HO_0.out.1 k_ e_))); clear HO_0 HB HK; have HO_0 := n0_; have HB := n1_; have HK := n2_; clear n0_ n1_ n2_ hg hw hp_))
     go_roundg k1
     case measure => have := HK1.out; omega
     case rel => exact ⟨(y321), (wrap64 (x1_1 + 1)), (wrap64 (x5_1 + 1)), (by first | rfl | (simp; done) | (simp [*]; done)), (by first | rfl | (simp; done) | (simp [*]; done)), H', ⟨by have := HK1.out; omega⟩, ⟨by (with_reducible repeat (first | apply Kd.R_alloc | apply Kd.y9 | apply Kd.zb)); exact HO_0.out⟩, ⟨by repeat (first | (with_reducible first | exact HK.out | apply Kept.alloc | apply Kept.drewN | apply Kept.drew) | exact HK.out)⟩, ⟨by repeat (first | (with_reducible first | exact HB.out | apply z4 | apply z1 | apply z3) | exact HB.out)⟩⟩
    ·rw [if_neg c4] at H
     exact absurd H (by simp)
   ·rw [if_neg c3] at H
    have c3b0 : decide (x5_1 < (x0_1.length : Int)) = false := decide_eq_false c3
    clear c3
    simp only [Option.some.injEq, Prod.mk.injEq] at H
    obtain ⟨rfl, rfl⟩ := H
    obtain ⟨Ao9, co9, eo9⟩ := Kd.zt HO_0.out
    subst eo9
    go_wp2
    go_ret
    exact ⟨by first | rfl | (simp [ya, qa] <;> rfl) | (simp [*, ya, qa] <;> rfl), by (with_reducible repeat (first | apply Kd.R_alloc | apply Kd.y9 | apply Kd.zb)); exact HO_0.out, by repeat (first | (with_reducible first | exact HB.out | apply z4 | apply z1 | apply z3) | exact HB.out), by repeat (first | (with_reducible first | exact HK.out | apply Kept.alloc | apply Kept.drewN | apply Kept.drew) | exact HK.out)⟩
end Go.Proofs.Ytkeojolmapcgbaa.PEv
end
section
namespace Go.Proofs.Ytkeojolmapcgbaa.PEv
open Go.RowKit Go.Proofs.YtkeojolmapcgbaaW.PrintWords Go.Proofs.YtkeojolmapcgbaaW.PrintLast Go.Proofs.YtkeojolmapcgbaaW.PrintMore
set_option linter.unusedVariables false
set_option linter.unusedSimpArgs false
def zn.l0 : Nat → List Int → Int → Int → Option (Int)
 | 0, _, _, _ => none
 | k + 1, x0, x3, x4 => if x4 < 8 then (if 0 ≤ x4 then (if x4 < (x0.length : Int) then (zn.l0 k x0 (IntKind.u64.wrap ((IntKind.u64.wrap (x3 * 256)) + (IntKind.u64.wrap (rd x0 x4)))) (wrap64 (x4 + 1))) else (none)) else (none)) else (some (wrap64 (x3)))
def zn.f (k : Nat) (l0 : List Int) : Option (Int) := zn.l0 k l0 0 0
set_option maxHeartbeats 8000000 in
set_option maxRecDepth 100000 in
theorem zn.calls (k : Nat) (A0 : Option Addr) (c0 : Nat) (l0 : List Int) (r : Int) (w : World) (hr0 : Kd.C (Kd.int .u8) w A0 l0.length l0) (hc0 : l0.length ≤ c0) (h : zn.f k l0 = some r) :
  Calls Try.prog 108 #[.slice A0 l0.length c0] w fun e w' => e = .returned (.int .i64 r) ∧ zq w w' := by
 have HR0 := z2.mk hr0
 have HC0 := z2.mk hc0
 clear hr0 hc0
 have H : (zn.l0 k l0 0 0) = some r := h
 clear h
 have H' := z2.mk H
 clear H
 go_enter Try.func108, Try.ntmps108
 go_wp2
 go_loopg [3, 4] k (fun kq v3 v4 w' => ∃ (x3_1 : Int) (x4_1 : Int), v3 = .int .u64 x3_1 ∧ v4 = .int .i64 x4_1 ∧ z2 (zn.l0 kq l0 x3_1 x4_1 = some r) ∧ z2 (kq ≤ k) ∧ zq w w')
 case atStart => exact ⟨(0), (0), (by first | rfl | (simp; done) | (simp [*]; done)), (by first | rfl | (simp; done) | (simp [*]; done)), H', ⟨Nat.le_refl _⟩, by repeat (first | exact zq.refl _ | apply zq.step)⟩
 case round =>
  clear H'
  try clear c1
  obtain ⟨x3_1, x4_1, rfl, rfl, HA, HK1, ⟨m1, rfl⟩⟩ := hrel
  cases gk with
  | zero => exact absurd HA.out (by simp [zn.l0])
  | succ k1 =>
   have H := HA.out
   clear HA
   simp only [zn.l0] at H
   by_cases c2 : x4_1 < 8
   ·rw [if_pos c2] at H
    have c2b0 : decide (x4_1 < 8) = true := decide_eq_true c2
    clear c2
    by_cases c3 : 0 ≤ x4_1
    ·rw [if_pos c3] at H
     have c3b0 : decide (0 ≤ x4_1) = true := decide_eq_true c3
     clear c3
     by_cases c4 : x4_1 < (l0.length : Int)
     ·rw [if_pos c4] at H
      have c4b0 : decide (x4_1 < (l0.length : Int)) = true := decide_eq_true c4
      clear c4
      have H' := z2.mk H
      clear H
      have p380 : 0 ≤ (x4_1 : Int) := of_decide_eq_true (by first | (with_reducible assumption) | assumption)
      have q380 : x4_1 < (l0.length : Int) := of_decide_eq_true (by first | (with_reducible assumption) | assumption)
      obtain ⟨ad380, e380, hx380_0⟩ := Kd.q07 HR0.out x4_1 p380 q380
      cases e380
      replace p380 := eq_true p380
      replace q380 := eq_true q380
      go_wp2
      go_roundg k1
      case measure => have := HK1.out; omega
      case rel => exact ⟨(IntKind.u64.wrap ((IntKind.u64.wrap (x3_1 * 256)) + (IntKind.u64.wrap (rd l0 x4_1)))), (wrap64 (x4_1 + 1)), (by first | rfl | (simp; done) | (simp [*]; done)), (by first | rfl | (simp; done) | (simp [*]; done)), H', ⟨by have := HK1.out; omega⟩, by repeat (first | exact zq.refl _ | apply zq.step)⟩
     ·rw [if_neg c4] at H
      exact absurd H (by simp)
    ·rw [if_neg c3] at H
     exact absurd H (by simp)
   ·rw [if_neg c2] at H
    have c2b0 : decide (x4_1 < 8) = false := decide_eq_false c2
    clear c2
    obtain rfl := Option.some.inj H
    go_wp2
    go_ret
    exact ⟨by first | rfl | (simp; done) | (simp [*]; done), by repeat (first | exact zq.refl _ | apply zq.step)⟩
end Go.Proofs.Ytkeojolmapcgbaa.PEv
end
section
namespace Go.Proofs.Ytkeojolmapcgbaa.PEv
open Go.RowKit Go.Proofs.YtkeojolmapcgbaaW.PrintWords Go.Proofs.YtkeojolmapcgbaaW.PrintLast Go.Proofs.YtkeojolmapcgbaaW.PrintMore
set_option linter.unusedVariables false
set_option linter.unusedSimpArgs false
mutual
def yd.j0 : Nat → List Int → Bool → Int → Option (Int × (List (yl)) × Bool)
 | 0, _, _, _ => none
 | k + 1, x0, x21, x383000 => if x21 = true then (some (x383000, ([] : List (yl)), false)) else (if 8 ≤ (x0.length : Int) then ((zn.f k (x0.take 8)).bind fun t384 => (yd.l0 k x0 8 t384 ([] : List (yl)))) else (none))
def yd.l0 : Nat → List Int → Int → Int → List (yl) → Option (Int × (List (yl)) × Bool)
 | 0, _, _, _, _ => none
 | k + 1, x0, x5, x383000, x383001 => if x5 < (x0.length : Int) then (if 0 ≤ x5 then (if 0 ≤ (wrap64 (x5 + 1)) then (if (wrap64 (x5 + 1)) < (x0.length : Int) then (if 0 ≤ (wrap64 (x5 + 2)) then (if (wrap64 (x5 + 2)) < (x0.length : Int) then (if 0 ≤ (wrap64 (x5 + 3)) then (if (wrap64 (x5 + 3)) ≤ (wrap64 (x5 + 11)) then (if (wrap64 (x5 + 11)) ≤ (x0.length : Int) then ((zn.f k ((x0.take ((wrap64 (x5 + 11)) : Int).toNat).drop ((wrap64 (x5 + 3)) : Int).toNat)).bind fun t389 => (if x383001.length < 4398046511104 then (yd.l0 k x0 (wrap64 (x5 + 11)) x383000 (x383001 ++ [(⟨wrap64 (rd x0 x5), wrap64 (rd x0 (wrap64 (x5 + 1))), wrap64 (rd x0 (wrap64 (x5 + 2))), t389⟩ : yl)])) else (none))) else (none)) else (none)) else (none)) else (none)) else (none)) else (none)) else (none)) else (none)) else ((za.f k x383000 x383001).bind fun t393 => (some (x383000, x383001, (t393 == 0))))
end
def yd.f (k : Nat) (l0 : List Int) : Option (Int × (List (yl)) × Bool) := if (l0.length : Int) < 8 then (yd.j0 k l0 true 0) else (if (Int.tmod (wrap64 ((l0.length : Int) - 8)) 11) = 0 then (yd.j0 k l0 (decide ((l0.length : Int) > 96)) 0) else (yd.j0 k l0 true 0))
def yd.T8 : Bool × List (List Nat × List Nat) := (true, [([], []), ([0], [0]), ([], []), ([], []), ([2, 3], [2, 3]), ([4], [4]), ([5], [5]), ([], []), ([], []), ([8], [8]), ([7, 9], [7, 9]), ([10], [10]), ([11], [11]), ([], []), ([], []), ([14], [14]), ([13, 15], [13, 15]), ([16], [16]), ([17], [17]), ([], []), ([], []), ([20], [20]), ([], []), ([22], [22]), ([19, 21, 23], [19, 21, 23]), ([24], [24]), ([6, 12, 18, 25], [6, 12, 18, 25]), ([26], [26]), ([1, 27, 25], [1, 27]), ([0, 1, 2, 3, 4, 5, 6, 7, 8, 9, 10, 11, 12, 13, 14, 15, 16, 17, 18, 19, 20, 21, 22, 23, 24, 25, 26, 27, 28], []), ([29, 28, 28, 0, 1, 2, 3, 4, 5, 6, 7, 8, 9, 10, 11, 12, 13, 14, 15, 16, 17, 18, 19, 20, 21, 22, 23, 24, 25, 26, 27, 28], [28, 29])])
def yd.B8 : List Nat := [0, 1, 0, 0, 12, 28, 60, 0, 0, 256, 896, 1920, 3968, 0, 0, 16384, 57344, 122880, 253952, 0, 0, 1048576, 0, 4194304, 16252928, 33030144, 67108860, 134217724, 268435455, 536870911, 1073741823]
theorem yd.y2v : z0s .any (opsOf Try.f107 8) = yd.T8 := by kernel_rfl
theorem yd.q2d : z0h yd.T8.2 yd.B8 = true := by kernel_rfl
set_option maxHeartbeats 8000000 in
set_option maxRecDepth 100000 in
theorem yd.calls (k : Nat) (A0 : Option Addr) (c0 : Nat) (l0 : List Int) (r1 : Int) (r2 : List (yl)) (r3 : Bool) (w : World) (hr0 : Kd.C (Kd.int .u8) w A0 l0.length l0) (hc0 : l0.length ≤ c0) (h : yd.f k l0 = some (r1, r2, r3)) :
  Calls Try.prog 107 #[.slice A0 l0.length c0] w fun e w' => ∃ v1_ : Value, e = .returned (.tuple #[.agg #[.int .i64 r1, v1_], .bool r3]) ∧ Kd.R y08 138 w' w.heap.size (fun _ => True) v1_ r2 ∧ Below w.heap.size w w' := by
 have hu31 := Try.underlying31
 have hu138 := Try.underlying138
 have HR0 := z2.mk hr0
 have HC0 := z2.mk hc0
 clear hr0 hc0
 have HB := z2.mk (Below.refl w.heap.size w)
 have H : (if (l0.length : Int) < 8 then (yd.j0 k l0 true 0) else (if (Int.tmod (wrap64 ((l0.length : Int) - 8)) 11) = 0 then (yd.j0 k l0 (decide ((l0.length : Int) > 96)) 0) else (yd.j0 k l0 true 0))) = some (r1, r2, r3) := h
 clear h
 have HC2 := z2.mk H
 clear H
 go_enter Try.func107, Try.ntmps107
 go_upto_region 2 with (first | ((with_reducible refine ye (N := 2) rfl ?_); (try (refine yw (by rfl) ?_; dsimp only)); refine ze ?hg (N := 2) ?hd (cs := #[.int .i64 0, .slice none 0 0]) (t := 31) ?hr ?_; (case hd => rfl); (case hg => rfl); (case hr => first | (go_simp; done) | (go_simp; rfl)); intro gb381 hg w3 hbox hb; have n0_ := z2.mk (y8 (by repeat (first | (with_reducible first | exact HB.out | apply z4 | apply z1 | apply z3) | exact HB.out)) hb); have n1_ := z2.mk (hbox); have n2_ := z2.mk ((by rw [hg]; exact (z8 (by repeat (first | (with_reducible first | exact HB.out | apply z4 | apply z1 | apply z3) | exact HB.out))) : w.heap.size ≤ gb381)); have n3_ := z2.mk ((by rw [hg]; exact (z8 (by repeat (first | (with_reducible first | exact HB.out | apply z4 | apply z1 | apply z3) | exact HB.out))) : w.heap.size ≤ gb381)); clear HB; have HB := n0_; have BK381 := n1_; have GW381 := n2_; have GE381 := n3_; clear n0_ n1_ n2_ n3_ hb hbox hg) | ((with_reducible refine ye (N := 4) rfl ?_); (try (refine yw (by rfl) ?_; dsimp only)); refine ze ?hg (N := 4) ?hd (cs := #[.int .i64 0, .slice none 0 0]) (t := 31) ?hr ?_; (case hd => rfl); (case hg => rfl); (case hr => first | (go_simp; done) | (go_simp; rfl)); intro gb382 hg w4 hbox hb; have n0_ := z2.mk (z9 (g := gb381) (o := .cells #[.int .i64 0, .slice none 0 0] 31 (0, 0)) (by (with_reducible repeat (first | refine z5 ?_ _ | refine y6 ?_ | refine y4 ?_ _)); exact BK381.out) hb); have n1_ := z2.mk (y8 (by repeat (first | (with_reducible first | exact HB.out | apply z4 | apply z1 | apply z3 | refine z7 ?_ GE381.out) | exact HB.out)) hb); have n2_ := z2.mk (hbox); have n3_ := z2.mk ((by rw [hg]; exact (z8 (by repeat (first | (with_reducible first | exact HB.out | apply z4 | apply z1 | apply z3 | refine z7 ?_ GE381.out) | exact HB.out))) : w.heap.size ≤ gb382)); have n4_ := z2.mk ((by rw [hg]; exact (z8 (by repeat (first | (with_reducible first | exact HB.out | apply z4 | apply z1 | apply z3 | refine z7 ?_ GE381.out) | exact HB.out))) : w.heap.size ≤ gb382)); have n5_ := z2.mk ((by rw [hg]; exact Nat.ne_of_lt (qk (g := gb381) (o := .cells #[.int .i64 0, .slice none 0 0] 31 (0, 0)) (by (with_reducible repeat (first | refine z5 ?_ _ | refine y6 ?_ | refine y4 ?_ _)); exact BK381.out)) : gb381 ≠ gb382)); have n6_ := z2.mk ((by rw [hg]; exact Nat.ne_of_gt (qk (g := gb381) (o := .cells #[.int .i64 0, .slice none 0 0] 31 (0, 0)) (by (with_reducible repeat (first | refine z5 ?_ _ | refine y6 ?_ | refine y4 ?_ _)); exact BK381.out)) : gb382 ≠ gb381)); clear BK381 HB; have BK381 := n0_; have HB := n1_; have BK382 := n2_; have GW382 := n3_; have GE382 := n4_; have NB381_382 := n5_; have NB382_381 := n6_; clear n0_ n1_ n2_ n3_ n4_ n5_ n6_ hb hbox hg; have hnb5 := NB382_381.out; have hnc5 := NB381_382.out; have hcz6_0 : w4.cell? ⟨gb382, 0, none⟩ = some (.int .i64 0) := (z6 BK382.out 0).trans rfl; have hcz6_1 : w4.cell? ⟨gb382, 1, none⟩ = some (.slice none 0 0) := (z6 BK382.out 1).trans rfl; have hfz6_0 := y5 BK382.out 0; have hfz6_1 := y5 BK382.out 1))
 (try simp only [Act.put, List.setIfInBounds_toArray, List.set_cons_zero, List.set_cons_succ])
 go_cut [21] (fun v21 wc => ∃ (kq : Nat) (x21_1 : Bool), v21 = .bool x21_1 ∧ z2 (yd.j0 kq l0 x21_1 0 = some (r1, r2, r3)) ∧ z2 (kq ≤ k) ∧ z2 (wc.heap[gb381]? = some (.cells #[.int .i64 0, (.slice none 0 0)] 31 (0, 0))) ∧ z2 (wc.heap[gb382]? = some (.cells #[.int .i64 0, (.slice none 0 0)] 31 (0, 0))) ∧ z2 (Below w.heap.size w wc))
 case first =>
  have H := HC2.out
  clear HC2
  by_cases c7 : (l0.length : Int) < 8
  ·rw [if_pos c7] at H
   have c7b0 : decide ((l0.length : Int) < 8) = true := decide_eq_true c7
   have c7b1 : decide (l0.length < 8) = true := decide_eq_true (by omega)
   clear c7
   (first | rw [c7b0] | (simp only [yg, qg]; rw [c7b0]) | skip)
   have H' := z2.mk H
   clear H
   go_wp2
   go_meet
   case rel => exact ⟨_, (true), (by first | rfl | (simp; done) | (simp [*]; done)), H', ⟨by first | omega | exact Nat.le_refl _⟩, ⟨by (with_reducible repeat (first | refine z5 ?_ _ | refine y6 ?_ | refine y4 ?_ _)); refine zd ?_ NB381_382.out _; (with_reducible repeat (first | refine z5 ?_ _ | refine y6 ?_ | refine y4 ?_ _)); refine zd ?_ NB381_382.out _; (with_reducible repeat (first | refine z5 ?_ _ | refine y6 ?_ | refine y4 ?_ _)); exact BK381.out⟩, ⟨by (with_reducible repeat (first | refine z5 ?_ _ | refine y6 ?_ | refine y4 ?_ _)); refine qc (cs := #[.int .i64 0, .slice none 0 0]) ?_ 1 _ rfl; (with_reducible repeat (first | refine z5 ?_ _ | refine y6 ?_ | refine y4 ?_ _)); refine qc (cs := #[.int .i64 0, .slice none 0 0]) ?_ 0 _ rfl; (with_reducible repeat (first | refine z5 ?_ _ | refine y6 ?_ | refine y4 ?_ _)); exact BK382.out⟩, ⟨by repeat (first | (with_reducible first | exact HB.out | apply z4 | apply z1 | apply z3 | refine z7 ?_ GE381.out | refine z7 ?_ GE382.out) | exact HB.out)⟩⟩
  ·rw [if_neg c7] at H
   have c7b0 : decide ((l0.length : Int) < 8) = false := decide_eq_false c7
   have c7b1 : decide (l0.length < 8) = false := decide_eq_false (by omega)
   clear c7
   (first | rw [c7b0] | (simp only [yg, qg]; rw [c7b0]) | skip)
   by_cases c8 : (Int.tmod (wrap64 ((l0.length : Int) - 8)) 11) = 0
   ·rw [if_pos c8] at H
    have c8b0 : ((Int.tmod (wrap64 ((l0.length : Int) - 8)) 11) == 0) = true := beq_iff_eq.mpr c8
    have c8b1 : ((Int.tmod (wrap64 ((l0.length : Int) - 8)) 11) != 0) = false := bne_eq_false_iff_eq.mpr c8
    clear c8
    have H' := z2.mk H
    clear H
    go_wp2
    go_meet
    case rel => exact ⟨_, (decide ((l0.length : Int) > 96)), (by first | rfl | (simp; done) | (simp [*]; done)), H', ⟨by first | omega | exact Nat.le_refl _⟩, ⟨by (with_reducible repeat (first | refine z5 ?_ _ | refine y6 ?_ | refine y4 ?_ _)); refine zd ?_ NB381_382.out _; (with_reducible repeat (first | refine z5 ?_ _ | refine y6 ?_ | refine y4 ?_ _)); refine zd ?_ NB381_382.out _; (with_reducible repeat (first | refine z5 ?_ _ | refine y6 ?_ | refine y4 ?_ _)); exact BK381.out⟩, ⟨by (with_reducible repeat (first | refine z5 ?_ _ | refine y6 ?_ | refine y4 ?_ _)); refine qc (cs := #[.int .i64 0, .slice none 0 0]) ?_ 1 _ rfl; (with_reducible repeat (first | refine z5 ?_ _ | refine y6 ?_ | refine y4 ?_ _)); refine qc (cs := #[.int .i64 0, .slice none 0 0]) ?_ 0 _ rfl; (with_reducible repeat (first | refine z5 ?_ _ | refine y6 ?_ | refine y4 ?_ _)); exact BK382.out⟩, ⟨by repeat (first | (with_reducible first | exact HB.out | apply z4 | apply z1 | apply z3 | refine z7 ?_ GE381.out | refine z7 ?_ GE382.out) | exact HB.out)⟩⟩
   ·rw [if_neg c8] at H
    have c8b0 : ((Int.tmod (wrap64 ((l0.length : Int) - 8)) 11) == 0) = false := beq_eq_false_iff_ne.mpr c8
    have c8b1 : ((Int.tmod (wrap64 ((l0.length : Int) - 8)) 11) != 0) = true := bne_iff_ne.mpr c8
    have H' := z2.mk H
    clear H
    go_wp2
    go_meet
    case rel => exact ⟨_, (true), (by first | rfl | (simp; done) | (simp [*]; done)), H', ⟨by first | omega | exact Nat.le_refl _⟩, ⟨by (with_reducible repeat (first | refine z5 ?_ _ | refine y6 ?_ | refine y4 ?_ _)); refine zd ?_ NB381_382.out _; (with_reducible repeat (first | refine z5 ?_ _ | refine y6 ?_ | refine y4 ?_ _)); refine zd ?_ NB381_382.out _; (with_reducible repeat (first | refine z5 ?_ _ | refine y6 ?_ | refine y4 ?_ _)); exact BK381.out⟩, ⟨by (with_reducible repeat (first | refine z5 ?_ _ | refine y6 ?_ | refine y4 ?_ _)); refine qc (cs := #[.int .i64 0, .slice none 0 0]) ?_ 1 _ rfl; (with_reducible repeat (first | refine z5 ?_ _ | refine y6 ?_ | refine y4 ?_ _)); refine qc (cs := #[.int .i64 0, .slice none 0 0]) ?_ 0 _ rfl; (with_reducible repeat (first | refine z5 ?_ _ | refine y6 ?_ | refine y4 ?_ _)); exact BK382.out⟩, ⟨by repeat (first | (with_reducible first | exact HB.out | apply z4 | apply z1 | apply z3 | refine z7 ?_ GE381.out | refine z7 ?_ GE382.out) | exact HB.out)⟩⟩
 case rest =>
  clear HC2
  try clear c1
  try clear p2
  try clear c5
  try clear p6
  try clear c7
  try clear c7b0
  try clear c7b1
  try clear c8
  try clear c8b0
  try clear c8b1
  try clear hcz6_0
  try clear hcz6_1
  try clear hfz6_0
  try clear hfz6_1
  obtain ⟨kq, x21_1, rfl, HA, HJ1, BK381, BK382, HB⟩ := hcut
  cases kq with
  | zero => exact absurd HA.out (by simp [yd.j0])
  | succ kj1 =>
   have H := HA.out
   clear HA
   simp only [yd.j0] at H
   by_cases c9 : x21_1 = true
   ·subst c9
    have H1 : (some (0, ([] : List (yl)), false)) = some (r1, r2, r3) := by rw [if_pos rfl] at H; exact H
    clear H
    have H := H1
    clear H1
    simp only [Option.some.injEq, Prod.mk.injEq] at H
    obtain ⟨rfl, rfl, rfl⟩ := H
    have hnb10 := NB382_381.out
    have hnc10 := NB381_382.out
    have hcz11_0 : wc.cell? ⟨gb382, 0, none⟩ = some (.int .i64 0) := (z6 BK382.out 0).trans rfl
    have hcz11_1 : wc.cell? ⟨gb382, 1, none⟩ = some (.slice none 0 0) := (z6 BK382.out 1).trans rfl
    have hfz11_0 := y5 BK382.out 0
    have hfz11_1 := y5 BK382.out 1
    have hcz12_0 : wc.cell? ⟨gb381, 0, none⟩ = some (.int .i64 0) := (z6 BK381.out 0).trans rfl
    have hcz12_1 : wc.cell? ⟨gb381, 1, none⟩ = some (.slice none 0 0) := (z6 BK381.out 1).trans rfl
    have hfz12_0 := y5 BK381.out 0
    have hfz12_1 := y5 BK381.out 1
    go_wp2
    refine bodyPost_ret (y02 rfl _ _ gb381 31 #[.int .i64 0, .slice none 0 0] (0, 0) _ rfl (by (with_reducible repeat (first | refine z5 ?_ _ | refine y6 ?_ | refine y4 ?_ _)); refine qc (cs := #[.int .i64 0, .slice none 0 0]) ?_ 1 _ rfl; (with_reducible repeat (first | refine z5 ?_ _ | refine y6 ?_ | refine y4 ?_ _)); refine qc (cs := #[.int .i64 0, .slice none 0 0]) ?_ 0 _ rfl; (with_reducible repeat (first | refine z5 ?_ _ | refine y6 ?_ | refine y4 ?_ _)); exact BK381.out) Try.underlying31 rfl (by kernel_rfl)) rfl ?_
    exact ⟨_, by first | rfl | (simp [ya, qa] <;> rfl) | (simp [*, ya, qa] <;> rfl), by first | exact Kd.z0n _ _ _ _ _ | exact Kd.N_nil _ _ _ _ _ | exact Kd.V_nil _ _ _ _ _ | exact Kd.Q_nil _ _ _ _ _ | exact Kd.S_nil _ _ _ _ _, by repeat (first | (with_reducible first | exact HB.out | apply z4 | apply z1 | apply z3 | refine z7 ?_ GE381.out | refine z7 ?_ GE382.out) | exact HB.out)⟩
   ·replace c9 := Bool.eq_false_iff.mpr c9
    subst c9
    have H1 : (if 8 ≤ (l0.length : Int) then ((zn.f kj1 (l0.take 8)).bind fun t384 => (yd.l0 kj1 l0 8 t384 ([] : List (yl)))) else (none)) = some (r1, r2, r3) := by rw [if_neg (show ¬ (false = true) by decide)] at H; exact H
    clear H
    have H := H1
    clear H1
    by_cases c13 : 8 ≤ (l0.length : Int)
    ·rw [if_pos c13] at H
     have c13b0 := eq_true c13
     have c13b1 : decide (8 ≤ (l0.length : Int)) = true := decide_eq_true c13
     clear c13
     replace H := Option.bind_eq_some_iff.mp H
     obtain ⟨t384, A140, H⟩ := H
     replace H : (yd.l0 kj1 l0 8 t384 ([] : List (yl))) = some (r1, r2, r3) := H
     have A14 := z2.mk A140
     clear A140
     have H' := z2.mk H
     clear H
     obtain ⟨i015, hi015, _, hsz15, _⟩ := info_parts y0f
     obtain ⟨hcut15, hA15, hC15⟩ := y0r (P := Try.prog) (Value.int .u8) 0 37 5 .i64 Try.underlying37 hi015 hsz15 A0 c0 l0 8 (by omega) (of_decide_eq_true (by first | (with_reducible assumption) | assumption)) HC0.out
     have HR383 := z2.mk (Kd.z05 (h1 := fun _ => rfl) (hA15 _ (Kd.z02 HR0.out)))
     have HC383 := z2.mk hC15
     clear hA15 hC15 hi015 hsz15
     go_wp2_with (first | ((with_reducible refine qb (f := 108) rfl ?_); refine zm (some 25) rfl rfl Try.func108 (by kernel_rfl) rfl #[.slice A0 (l0.take 8).length c0] rfl (by (try simp only [List.map_toArray, List.map_cons, List.map_nil]); first | done | (rw [show (l0.take 8).length = 8 from (by rw [List.length_take]; have h_ : (8 : Int) ≤ (l0.length : Int) := of_decide_eq_true (by first | (with_reducible assumption) | assumption); omega)] <;> rfl) | rfl | (simp only [List.length_drop, List.length_take]; rfl)) ?_; (with_reducible refine (zn.calls kj1 _ _ (l0.take 8) t384 _ ?side1 ?side2 A14.out).mono ?_); (case side1 => repeat (first | exact (Kd.yp HR383.out HB.out) | (with_reducible refine Kd.yi ?_ _) | (with_reducible refine Kd.qi ?_ _) | (with_reducible refine Kd.C_drew ?_))); (case side2 => exact HC383.out); rintro e w' ⟨rfl, ⟨nd, rfl⟩⟩; refine ⟨_, rfl, ?_⟩; (try (rw [z0m wc]; generalize hq_ : World.drewN wc _ = wc; have n0_ : z2 (wc.heap[gb381]? = some (.cells #[.int .i64 0, .slice none 0 0] 31 (0, 0))) := ⟨by rw [← hq_]; exact (by (with_reducible repeat (first | refine z5 ?_ _ | refine y6 ?_ | refine y4 ?_ _)); exact BK381.out)⟩; have n1_ : z2 (wc.heap[gb382]? = some (.cells #[.int .i64 0, .slice none 0 0] 31 (0, 0))) := ⟨by rw [← hq_]; exact (by (with_reducible repeat (first | refine z5 ?_ _ | refine y6 ?_ | refine y4 ?_ _)); exact BK382.out)⟩; have n2_ : z2 (Below w.heap.size w wc) := ⟨by rw [← hq_]; exact (by repeat (first | (with_reducible first | exact HB.out | apply z4 | apply z1 | apply z3 | refine z7 ?_ GE381.out | refine z7 ?_ GE382.out) | exact HB.out))⟩; clear BK381 BK382 HB hq_; have BK381 := n0_; have BK382 := n1_; have HB := n2_; clear n0_ n1_ n2_)); have hnb16 := NB382_381.out; have hnc16 := NB381_382.out; have hcz17_0 : wc.cell? ⟨gb382, 0, none⟩ = some (.int .i64 0) := (z6 BK382.out 0).trans rfl; have hcz17_1 : wc.cell? ⟨gb382, 1, none⟩ = some (.slice none 0 0) := (z6 BK382.out 1).trans rfl; have hfz17_0 := y5 BK382.out 0; have hfz17_1 := y5 BK382.out 1))
     go_loopg [5] kj1 (fun kq v5 w' => ∃ (x5_2 : Int) (x383001_2 : List (yl)) (u383001 : Value), v5 = .int .i64 x5_2 ∧ z2 (yd.l0 kq l0 x5_2 t384 x383001_2 = some (r1, r2, r3)) ∧ z2 (kq ≤ kj1) ∧ z2 (Kd.R y08 138 w' w.heap.size (fun _ => True) u383001 x383001_2) ∧ z2 (w'.heap[gb381]? = some (.cells #[.int .i64 0, (.slice none 0 0)] 31 (0, 0))) ∧ z2 (w'.heap[gb382]? = some (.cells #[.int .i64 t384, u383001] 31 (0, 0))) ∧ z2 (Below w.heap.size w w'))
     case atStart => exact ⟨(8), (([] : List (yl))), (.slice none 0 0), (by first | rfl | (simp; done) | (simp [*]; done)), H', ⟨Nat.le_refl _⟩, ⟨by first | exact Kd.z0n _ _ _ _ _ | exact Kd.N_nil _ _ _ _ _ | exact Kd.V_nil _ _ _ _ _ | exact Kd.Q_nil _ _ _ _ _ | exact Kd.S_nil _ _ _ _ _⟩, ⟨by (with_reducible repeat (first | refine z5 ?_ _ | refine y6 ?_ | refine y4 ?_ _)); refine zd ?_ NB381_382.out _; (with_reducible repeat (first | refine z5 ?_ _ | refine y6 ?_ | refine y4 ?_ _)); exact BK381.out⟩, ⟨by (with_reducible repeat (first | refine z5 ?_ _ | refine y6 ?_ | refine y4 ?_ _)); refine qc (cs := #[.int .i64 0, .slice none 0 0]) ?_ 0 _ rfl; (with_reducible repeat (first | refine z5 ?_ _ | refine y6 ?_ | refine y4 ?_ _)); exact BK382.out⟩, ⟨by repeat (first | (with_reducible first | exact HB.out | apply z4 | apply z1 | apply z3 | refine z7 ?_ GE381.out | refine z7 ?_ GE382.out) | exact HB.out)⟩⟩
     case round =>
      clear H'
      try clear c1
      try clear p2
      try clear c5
      try clear p6
      try clear c7
      try clear c7b0
      try clear c7b1
      try clear c8
      try clear c8b0
      try clear c8b1
      try clear c9
      try clear c10
      try clear c13
      try clear c13b0
      try clear c13b1
      try clear c16
      try clear hcz11_0
      try clear hcz11_1
      try clear hcz12_0
      try clear hcz12_1
      try clear hcz17_0
      try clear hcz17_1
      try clear hcz6_0
      try clear hcz6_1
      try clear hfz11_0
      try clear hfz11_1
      try clear hfz12_0
      try clear hfz12_1
      try clear hfz17_0
      try clear hfz17_1
      try clear hfz6_0
      try clear hfz6_1
      try clear p2
      try clear p6
      obtain ⟨x5_2, x383001_2, u383001, rfl, HA, HK2, HO_383001, BK381, BK382, HB⟩ := hrel
      cases gk with
      | zero => exact absurd HA.out (by simp [yd.l0])
      | succ k2 =>
       have H := HA.out
       clear HA
       simp only [yd.l0] at H
       by_cases c18 : x5_2 < (l0.length : Int)
       ·rw [if_pos c18] at H
        have c18b0 : decide (x5_2 < (l0.length : Int)) = true := decide_eq_true c18
        clear c18
        by_cases c19 : 0 ≤ x5_2
        ·rw [if_pos c19] at H
         have c19b0 : decide (0 ≤ x5_2) = true := decide_eq_true c19
         clear c19
         obtain ⟨ji20, hji20⟩ : ∃ j_ : Int, (wrap64 (x5_2 + 1)) = j_ := ⟨_, rfl⟩
         replace H : (if 0 ≤ (ji20) then (if (ji20) < (l0.length : Int) then (if 0 ≤ (wrap64 (x5_2 + 2)) then (if (wrap64 (x5_2 + 2)) < (l0.length : Int) then (if 0 ≤ (wrap64 (x5_2 + 3)) then (if (wrap64 (x5_2 + 3)) ≤ (wrap64 (x5_2 + 11)) then (if (wrap64 (x5_2 + 11)) ≤ (l0.length : Int) then ((zn.f k2 ((l0.take ((wrap64 (x5_2 + 11)) : Int).toNat).drop ((wrap64 (x5_2 + 3)) : Int).toNat)).bind fun t389 => (if x383001_2.length < 4398046511104 then (yd.l0 k2 l0 (wrap64 (x5_2 + 11)) t384 (x383001_2 ++ [(⟨wrap64 (rd l0 x5_2), wrap64 (rd l0 (ji20)), wrap64 (rd l0 (wrap64 (x5_2 + 2))), t389⟩ : yl)])) else (none))) else (none)) else (none)) else (none)) else (none)) else (none)) else (none)) else (none)) = some (r1, r2, r3) := by first | (rw [hji20] at H; exact H) | (simp only [hji20] at H ⊢; exact H)
         have hji20w : (IntKind.i64.wrap (x5_2 + 1)) = ji20 := (yg _).trans hji20
         by_cases c21 : 0 ≤ (ji20)
         ·rw [if_pos c21] at H
          have c21b0 : decide (0 ≤ (ji20)) = true := decide_eq_true c21
          clear c21
          by_cases c22 : (ji20) < (l0.length : Int)
          ·rw [if_pos c22] at H
           have c22b0 : decide ((ji20) < (l0.length : Int)) = true := decide_eq_true c22
           clear c22
           obtain ⟨ji23, hji23⟩ : ∃ j_ : Int, (wrap64 (x5_2 + 2)) = j_ := ⟨_, rfl⟩
           replace H : (if 0 ≤ (ji23) then (if (ji23) < (l0.length : Int) then (if 0 ≤ (wrap64 (x5_2 + 3)) then (if (wrap64 (x5_2 + 3)) ≤ (wrap64 (x5_2 + 11)) then (if (wrap64 (x5_2 + 11)) ≤ (l0.length : Int) then ((zn.f k2 ((l0.take ((wrap64 (x5_2 + 11)) : Int).toNat).drop ((wrap64 (x5_2 + 3)) : Int).toNat)).bind fun t389 => (if x383001_2.length < 4398046511104 then (yd.l0 k2 l0 (wrap64 (x5_2 + 11)) t384 (x383001_2 ++ [(⟨wrap64 (rd l0 x5_2), wrap64 (rd l0 (ji20)), wrap64 (rd l0 (ji23)), t389⟩ : yl)])) else (none))) else (none)) else (none)) else (none)) else (none)) else (none)) = some (r1, r2, r3) := by first | (rw [hji23] at H; exact H) | (simp only [hji23] at H ⊢; exact H)
           have hji23w : (IntKind.i64.wrap (x5_2 + 2)) = ji23 := (yg _).trans hji23
           by_cases c24 : 0 ≤ (ji23)
           ·rw [if_pos c24] at H
            have c24b0 : decide (0 ≤ (ji23)) = true := decide_eq_true c24
            clear c24
            by_cases c25 : (ji23) < (l0.length : Int)
            ·rw [if_pos c25] at H
             have c25b0 : decide ((ji23) < (l0.length : Int)) = true := decide_eq_true c25
             clear c25
             obtain ⟨ji26, hji26⟩ : ∃ j_ : Int, (wrap64 (x5_2 + 3)) = j_ := ⟨_, rfl⟩
             replace H : (if 0 ≤ (ji26) then (if (ji26) ≤ (wrap64 (x5_2 + 11)) then (if (wrap64 (x5_2 + 11)) ≤ (l0.length : Int) then ((zn.f k2 ((l0.take ((wrap64 (x5_2 + 11)) : Int).toNat).drop ((ji26) : Int).toNat)).bind fun t389 => (if x383001_2.length < 4398046511104 then (yd.l0 k2 l0 (wrap64 (x5_2 + 11)) t384 (x383001_2 ++ [(⟨wrap64 (rd l0 x5_2), wrap64 (rd l0 (ji20)), wrap64 (rd l0 (ji23)), t389⟩ : yl)])) else (none))) else (none)) else (none)) else (none)) = some (r1, r2, r3) := by first | (rw [hji26] at H; exact H) | (simp only [hji26] at H ⊢; exact H)
             have hji26w : (IntKind.i64.wrap (x5_2 + 3)) = ji26 := (yg _).trans hji26
             by_cases c27 : 0 ≤ (ji26)
             ·rw [if_pos c27] at H
              have c27b0 := eq_true c27
              have c27b1 : decide (0 ≤ (ji26)) = true := decide_eq_true c27
              clear c27
              by_cases c28 : (ji26) ≤ (wrap64 (x5_2 + 11))
              ·rw [if_pos c28] at H
               have c28b0 := eq_true c28
               have c28b1 : decide ((ji26) ≤ (wrap64 (x5_2 + 11))) = true := decide_eq_true c28
               by_cases c29 : (wrap64 (x5_2 + 11)) ≤ (l0.length : Int)
               ·rw [if_pos c29] at H
                have c29b0 := eq_true c29
                have c29b1 : decide ((wrap64 (x5_2 + 11)) ≤ (l0.length : Int)) = true := decide_eq_true c29
                replace H := Option.bind_eq_some_iff.mp H
                obtain ⟨t389, A300, H⟩ := H
                replace H : (if x383001_2.length < 4398046511104 then (yd.l0 k2 l0 (wrap64 (x5_2 + 11)) t384 (x383001_2 ++ [(⟨wrap64 (rd l0 x5_2), wrap64 (rd l0 (ji20)), wrap64 (rd l0 (ji23)), t389⟩ : yl)])) else (none)) = some (r1, r2, r3) := H
                have A30 := z2.mk A300
                clear A300
                by_cases c31 : x383001_2.length < 4398046511104
                ·rw [if_pos c31] at H
                 have LMc31 := z2.mk c31
                 clear c31
                 obtain ⟨y390, hy390⟩ : ∃ y_ : List (yl), y_ = (x383001_2 ++ [(⟨wrap64 (rd l0 x5_2), wrap64 (rd l0 (ji20)), wrap64 (rd l0 (ji23)), t389⟩ : yl)]) := ⟨_, rfl⟩
                 replace H : (yd.l0 k2 l0 (wrap64 (x5_2 + 11)) t384 y390) = some (r1, r2, r3) := by first | (rw [hy390]; with_reducible exact H) | (have H2_ := (Option.bind_some _ _).symm.trans H; rw [hy390]; with_reducible exact H2_) | (have H2_ := (Option.bind_some _ _).symm.trans H; with_reducible exact H2_) | with_reducible exact H | (rw [hy390]; exact H) | exact H
                 have Ny390 := z2.mk hy390
                 clear hy390
                 have H' := z2.mk H
                 clear H
                 try go_wp2
                 have n0_ := z2.mk (Kd.zb HO_383001.out)
                 have n1_ := z2.mk (y6 BK381.out)
                 have n2_ := z2.mk (y6 BK382.out)
                 have n3_ := z2.mk (z3 HB.out)
                 clear HO_383001
                 clear BK381
                 clear BK382
                 clear HB
                 have HO_383001 := n0_
                 have BK381 := n1_
                 have BK382 := n2_
                 have HB := n3_
                 clear n0_ n1_ n2_ n3_
                 have p385 : 0 ≤ (x5_2 : Int) := of_decide_eq_true (by first | (with_reducible assumption) | assumption)
                 have q385 : x5_2 < (l0.length : Int) := of_decide_eq_true (by first | (with_reducible assumption) | assumption)
                 obtain ⟨ad385, e385, hx385_0⟩ := Kd.q07 HR0.out x5_2 p385 q385
                 have hw385_0 := hx385_0
                 cases e385
                 replace hx385_0 := (HB.out.cell (World.block_lt_of_cell? w _ hx385_0)).trans hx385_0
                 replace p385 := eq_true p385
                 replace q385 := eq_true q385
                 have p386 : 0 ≤ ((ji20) : Int) := of_decide_eq_true (by first | (with_reducible assumption) | assumption)
                 have q386 : (ji20) < (l0.length : Int) := of_decide_eq_true (by first | (with_reducible assumption) | assumption)
                 obtain ⟨ad386, e386, hx386_0⟩ := Kd.q07 HR0.out (ji20) p386 q386
                 have hw386_0 := hx386_0
                 obtain rfl : ad385 = ad386 := (by injection e386)
                 replace hx386_0 := (HB.out.cell (World.block_lt_of_cell? w _ hx386_0)).trans hx386_0
                 replace p386 := eq_true p386
                 replace q386 := eq_true q386
                 have p387 : 0 ≤ ((ji23) : Int) := of_decide_eq_true (by first | (with_reducible assumption) | assumption)
                 have q387 : (ji23) < (l0.length : Int) := of_decide_eq_true (by first | (with_reducible assumption) | assumption)
                 obtain ⟨ad387, e387, hx387_0⟩ := Kd.q07 HR0.out (ji23) p387 q387
                 have hw387_0 := hx387_0
                 obtain rfl : ad385 = ad387 := (by injection e387)
                 replace hx387_0 := (HB.out.cell (World.block_lt_of_cell? w _ hx387_0)).trans hx387_0
                 replace p387 := eq_true p387
                 replace q387 := eq_true q387
                 obtain ⟨i033, hi033, _, hsz33, _⟩ := info_parts y0f
                 obtain ⟨A33, hcut33, hA33, hC33⟩ := y0e (P := Try.prog) (Value.int .u8) 0 37 5 .i64 .i64 Try.underlying37 hi033 hsz33 (some ad385) c0 l0 (ji26) (wrap64 (x5_2 + 11)) (of_decide_eq_true (by first | (with_reducible assumption) | assumption)) (by first | omega | exact of_decide_eq_true (by first | (with_reducible assumption) | assumption)) (of_decide_eq_true (by first | (with_reducible assumption) | assumption)) HC0.out
                 have HR388 := z2.mk (Kd.z05 (h1 := fun _ => rfl) (hA33 _ (Kd.z02 HR0.out)))
                 have HC388 := z2.mk hC33
                 clear hA33 hC33 hi033 hsz33
                 refine z0f (n := 31) (S := fun w' => w'.cell? ⟨gb382, 0, none⟩ = some (.int .i64 t384) ∧ w'.cell? ⟨gb382, 1, none⟩ = some (u383001) ∧ w'.cell? (ad385.add (x5_2).toNat) = some (.int .u8 (rd l0 x5_2)) ∧ w'.cell? (ad385.add ((ji20)).toNat) = some (.int .u8 (rd l0 (ji20))) ∧ w'.cell? (ad385.add ((ji23)).toNat) = some (.int .u8 (rd l0 (ji23)))) (ds := [30]) #[false, false, false, false, false, false, false, false, false, false, false, false, false, false, false, false, false, false, false, false, false, false, false, false, false, false, false, false, false, false, false] (by kernel_rfl) rfl rfl ⟨(z6 BK382.out 0).trans rfl, (z6 BK382.out 1).trans rfl, ((HB.out.cell (World.block_lt_of_cell? w _ hw385_0)).trans hw385_0), ((HB.out.cell (World.block_lt_of_cell? w _ hw386_0)).trans hw386_0), ((HB.out.cell (World.block_lt_of_cell? w _ hw387_0)).trans hw387_0)⟩ (fun hHeld => ?_); refine q03 yd.y2v yd.q2d (fun HT_ HW_ => ?_)
                 generalize wr.drew = w32 at HO_383001 BK381 BK382 HB HR388 hx385_0 hx386_0 hx387_0 hHeld ⊢
                 refine yo (i := 0) (N := some 33) (v := ?_) (a' := ?_) #[true, false, false, false, false, false, false, false, false, false, false, false, false, false, false, false, false, false, false, false, false, false, false, false, false, false, false, false, false, false, false] rfl rfl (qj HT_.out (by kernel_rfl)) (fun _ _ _ h => h) (Or.inl ⟨by rfl, ?_⟩) ?_ ?_
                 rotate_left
                 ·intro w'
                  go_simp
                  with_reducible rfl
                 rotate_left
                 ·simp only [Act.put, List.setIfInBounds_toArray, List.set_cons_zero, List.set_cons_succ, yg, qg]
                  rfl
                 refine yo (i := 2) (N := some 35) (v := ?_) (a' := ?_) #[true, false, true, false, false, false, false, false, false, false, false, false, false, false, false, false, false, false, false, false, false, false, false, false, false, false, false, false, false, false, false] rfl rfl (qj HT_.out (by kernel_rfl)) (fun _ _ _ h => h) (Or.inl ⟨by rfl, ?_⟩) ?_ ?_
                 rotate_left
                 ·intro w'
                  go_simp
                  with_reducible rfl
                 rotate_left
                 ·simp only [Act.put, List.setIfInBounds_toArray, List.set_cons_zero, List.set_cons_succ, yg, qg]
                  rfl
                 refine yo (i := 3) (N := some 36) (v := ?_) (a' := ?_) #[true, false, true, true, false, false, false, false, false, false, false, false, false, false, false, false, false, false, false, false, false, false, false, false, false, false, false, false, false, false, false] rfl rfl (qj HT_.out (by kernel_rfl)) (fun _ _ _ h => h) (Or.inl ⟨by rfl, ?_⟩) ?_ ?_
                 rotate_left
                 ·intro w'
                  go_simp
                  with_reducible rfl
                 rotate_left
                 ·simp only [Act.put, List.setIfInBounds_toArray, List.set_cons_zero, List.set_cons_succ, yg, qg]
                  rfl
                 refine yo (i := 4) (N := some 37) (v := ?_) (a' := ?_) #[true, false, true, true, true, false, false, false, false, false, false, false, false, false, false, false, false, false, false, false, false, false, false, false, false, false, false, false, false, false, false] rfl rfl (qj HT_.out (by kernel_rfl)) (fun _ _ _ h => h) (Or.inl ⟨by rfl, ?_⟩) ?_ ?_
                 rotate_left
                 ·intro w'
                  go_simp
                  with_reducible rfl
                 rotate_left
                 ·simp only [Act.put, List.setIfInBounds_toArray, List.set_cons_zero, List.set_cons_succ, yg, qg]
                  rfl
                 refine yo (i := 7) (N := some 40) (v := ?_) (a' := ?_) #[true, false, true, true, true, false, false, true, false, false, false, false, false, false, false, false, false, false, false, false, false, false, false, false, false, false, false, false, false, false, false] rfl rfl (qj HT_.out (by kernel_rfl)) (fun _ _ _ h => h) (Or.inl ⟨by rfl, ?_⟩) ?_ ?_
                 rotate_left
                 ·intro w'
                  go_simp
                  with_reducible rfl
                 rotate_left
                 ·simp only [Act.put, List.setIfInBounds_toArray, List.set_cons_zero, List.set_cons_succ, yg, qg]
                  rfl
                 refine yo (i := 8) (N := some 41) (v := ?_) (a' := ?_) #[true, false, true, true, true, false, false, true, true, false, false, false, false, false, false, false, false, false, false, false, false, false, false, false, false, false, false, false, false, false, false] rfl rfl (qj HT_.out (by kernel_rfl)) (fun _ _ _ h => h) (Or.inl ⟨by rfl, ?_⟩) ?_ ?_
                 rotate_left
                 ·intro w'
                  go_simp
                  with_reducible rfl
                 rotate_left
                 ·simp only [Act.put, List.setIfInBounds_toArray, List.set_cons_zero, List.set_cons_succ, yg, qg]
                  rfl
                 refine yo (i := 9) (N := some 42) (v := ?_) (a' := ?_) #[true, false, true, true, true, false, false, true, true, true, false, false, false, false, false, false, false, false, false, false, false, false, false, false, false, false, false, false, false, false, false] rfl rfl (qj HT_.out (by kernel_rfl)) (fun _ _ _ h => h) (Or.inl ⟨by rfl, ?_⟩) ?_ ?_
                 rotate_left
                 ·intro w'
                  go_simp
                  with_reducible rfl
                 rotate_left
                 ·simp only [Act.put, List.setIfInBounds_toArray, List.set_cons_zero, List.set_cons_succ, yg, qg]
                  rfl
                 refine yo (i := 10) (N := some 43) (v := ?_) (a' := ?_) #[true, false, true, true, true, false, false, true, true, true, true, false, false, false, false, false, false, false, false, false, false, false, false, false, false, false, false, false, false, false, false] rfl rfl (qj HT_.out (by kernel_rfl)) (fun _ _ _ h => h) (Or.inl ⟨by rfl, ?_⟩) ?_ ?_
                 rotate_left
                 ·intro w'
                  go_simp
                  with_reducible rfl
                 rotate_left
                 ·simp only [Act.put, List.setIfInBounds_toArray, List.set_cons_zero, List.set_cons_succ, yg, qg]
                  rfl
                 refine yo (i := 13) (N := some 46) (v := ?_) (a' := ?_) #[true, false, true, true, true, false, false, true, true, true, true, false, false, true, false, false, false, false, false, false, false, false, false, false, false, false, false, false, false, false, false] rfl rfl (qj HT_.out (by kernel_rfl)) (fun _ _ _ h => h) (Or.inl ⟨by rfl, ?_⟩) ?_ ?_
                 rotate_left
                 ·intro w'
                  go_simp
                  with_reducible rfl
                 rotate_left
                 ·simp only [Act.put, List.setIfInBounds_toArray, List.set_cons_zero, List.set_cons_succ, yg, qg]
                  rfl
                 refine yo (i := 14) (N := some 47) (v := ?_) (a' := ?_) #[true, false, true, true, true, false, false, true, true, true, true, false, false, true, true, false, false, false, false, false, false, false, false, false, false, false, false, false, false, false, false] rfl rfl (qj HT_.out (by kernel_rfl)) (fun _ _ _ h => h) (Or.inl ⟨by rfl, ?_⟩) ?_ ?_
                 rotate_left
                 ·intro w'
                  go_simp
                  with_reducible rfl
                 rotate_left
                 ·simp only [Act.put, List.setIfInBounds_toArray, List.set_cons_zero, List.set_cons_succ, yg, qg]
                  rfl
                 refine yo (i := 15) (N := some 48) (v := ?_) (a' := ?_) #[true, false, true, true, true, false, false, true, true, true, true, false, false, true, true, true, false, false, false, false, false, false, false, false, false, false, false, false, false, false, false] rfl rfl (qj HT_.out (by kernel_rfl)) (fun _ _ _ h => h) (Or.inl ⟨by rfl, ?_⟩) ?_ ?_
                 rotate_left
                 ·intro w'
                  go_simp
                  with_reducible rfl
                 rotate_left
                 ·simp only [Act.put, List.setIfInBounds_toArray, List.set_cons_zero, List.set_cons_succ, yg, qg]
                  rfl
                 refine yo (i := 16) (N := some 49) (v := ?_) (a' := ?_) #[true, false, true, true, true, false, false, true, true, true, true, false, false, true, true, true, true, false, false, false, false, false, false, false, false, false, false, false, false, false, false] rfl rfl (qj HT_.out (by kernel_rfl)) (fun _ _ _ h => h) (Or.inl ⟨by rfl, ?_⟩) ?_ ?_
                 rotate_left
                 ·intro w'
                  go_simp
                  with_reducible rfl
                 rotate_left
                 ·simp only [Act.put, List.setIfInBounds_toArray, List.set_cons_zero, List.set_cons_succ, yg, qg]
                  rfl
                 refine yo (i := 19) (N := some 52) (v := ?_) (a' := ?_) #[true, false, true, true, true, false, false, true, true, true, true, false, false, true, true, true, true, false, false, true, false, false, false, false, false, false, false, false, false, false, false] rfl rfl (qj HT_.out (by kernel_rfl)) (fun _ _ _ h => h) (Or.inl ⟨by rfl, ?_⟩) ?_ ?_
                 rotate_left
                 ·intro w'
                  go_simp
                  with_reducible rfl
                 rotate_left
                 ·simp only [Act.put, List.setIfInBounds_toArray, List.set_cons_zero, List.set_cons_succ, yg, qg]
                  rfl
                 refine yo (i := 20) (N := some 53) (v := ?_) (a' := ?_) #[true, false, true, true, true, false, false, true, true, true, true, false, false, true, true, true, true, false, false, true, true, false, false, false, false, false, false, false, false, false, false] rfl rfl (qj HT_.out (by kernel_rfl)) (fun _ _ _ h => h) (Or.inl ⟨by rfl, ?_⟩) ?_ ?_
                 rotate_left
                 ·intro w'
                  go_simp
                  with_reducible rfl
                 rotate_left
                 ·simp only [Act.put, List.setIfInBounds_toArray, List.set_cons_zero, List.set_cons_succ, yg, qg]
                  rfl
                 refine yo (i := 21) (N := some 54) (v := ?_) (a' := ?_) #[true, false, true, true, true, false, false, true, true, true, true, false, false, true, true, true, true, false, false, true, true, true, false, false, false, false, false, false, false, false, false] rfl rfl (qj HT_.out (by kernel_rfl)) (fun _ _ _ h => h) (Or.inl ⟨by rfl, ?_⟩) ?_ ?_
                 rotate_left
                 ·intro w'
                  go_simp
                  with_reducible rfl
                 rotate_left
                 ·simp only [Act.put, List.setIfInBounds_toArray, List.set_cons_zero, List.set_cons_succ, yg, qg]
                  rfl
                 refine yo (i := 22) (N := some 55) (v := ?_) (a' := ?_) #[true, false, true, true, true, false, false, true, true, true, true, false, false, true, true, true, true, false, false, true, true, true, true, false, false, false, false, false, false, false, false] rfl rfl (qj HT_.out (by kernel_rfl)) (fun _ _ _ h => h) (Or.inl ⟨by rfl, ?_⟩) ?_ ?_
                 rotate_left
                 ·intro w'
                  go_simp
                  with_reducible rfl
                 rotate_left
                 ·simp only [Act.put, List.setIfInBounds_toArray, List.set_cons_zero, List.set_cons_succ, yg, qg]
                  rfl
                 refine yo (i := 23) (N := some 56) (v := ?_) (a' := ?_) #[true, false, true, true, true, false, false, true, true, true, true, false, false, true, true, true, true, false, false, true, true, true, true, true, false, false, false, false, false, false, false] rfl rfl (qj HT_.out (by kernel_rfl)) (fun _ _ _ h => h) (Or.inl ⟨by rfl, ?_⟩) ?_ ?_
                 rotate_left
                 ·intro w'
                  go_simp
                  with_reducible rfl
                 rotate_left
                 ·simp only [Act.put, List.setIfInBounds_toArray, List.set_cons_zero, List.set_cons_succ, yg, qg]
                  rfl
                 refine yo (i := 24) (N := some 57) (v := ?_) (a' := ?_) #[true, false, true, true, true, false, false, true, true, true, true, false, false, true, true, true, true, false, false, true, true, true, true, true, true, false, false, false, false, false, false] rfl rfl (qj HT_.out (by kernel_rfl)) (fun _ _ _ h => h) (Or.inl ⟨by rfl, ?_⟩) ?_ ?_
                 rotate_left
                 ·intro w'
                  go_simp
                  with_reducible rfl
                 rotate_left
                 ·simp only [Act.put, List.setIfInBounds_toArray, List.set_cons_zero, List.set_cons_succ, yg, qg]
                  rfl
                 refine y04 (i := 1) (N := some 34) (v := ?_) (a' := ?_) #[true, true, true, true, true, false, false, true, true, true, true, false, false, true, true, true, true, false, false, true, true, true, true, true, true, false, false, false, false, false, false] rfl rfl (zv HT_.out HW_.out (by kernel_rfl)) (fun _ _ _ h => h) (Or.inl ⟨by rfl, ?_⟩) hHeld ?_ ?_
                 rotate_left
                 ·rintro w' ⟨s0, s1, s2, s3, s4⟩
                  go_simp
                  with_reducible rfl
                 rotate_left
                 ·simp only [Act.put, List.setIfInBounds_toArray, List.set_cons_zero, List.set_cons_succ, yg, qg]
                  rfl
                 refine y04 (i := 5) (N := some 38) (v := ?_) (a' := ?_) #[true, true, true, true, true, true, false, true, true, true, true, false, false, true, true, true, true, false, false, true, true, true, true, true, true, false, false, false, false, false, false] rfl rfl (zv HT_.out HW_.out (by kernel_rfl)) (fun _ _ _ h => h) (Or.inl ⟨by rfl, ?_⟩) hHeld ?_ ?_
                 rotate_left
                 ·rintro w' ⟨s0, s1, s2, s3, s4⟩
                  go_simp
                  with_reducible rfl
                 rotate_left
                 ·simp only [Act.put, List.setIfInBounds_toArray, List.set_cons_zero, List.set_cons_succ, yg, qg]
                  rfl
                 refine yo (i := 6) (N := some 39) (v := ?_) (a' := ?_) #[true, true, true, true, true, true, true, true, true, true, true, false, false, true, true, true, true, false, false, true, true, true, true, true, true, false, false, false, false, false, false] rfl rfl (qj HT_.out (by kernel_rfl)) (fun _ _ _ h => h) (Or.inl ⟨by rfl, ?_⟩) ?_ ?_
                 rotate_left
                 ·intro w'
                  go_simp
                  with_reducible rfl
                 rotate_left
                 ·simp only [Act.put, List.setIfInBounds_toArray, List.set_cons_zero, List.set_cons_succ, yg, qg]
                  rfl
                 refine y04 (i := 11) (N := some 44) (v := ?_) (a' := ?_) #[true, true, true, true, true, true, true, true, true, true, true, true, false, true, true, true, true, false, false, true, true, true, true, true, true, false, false, false, false, false, false] rfl rfl (zv HT_.out HW_.out (by kernel_rfl)) (fun _ _ _ h => h) (Or.inl ⟨by rfl, ?_⟩) hHeld ?_ ?_
                 rotate_left
                 ·rintro w' ⟨s0, s1, s2, s3, s4⟩
                  go_simp
                  with_reducible rfl
                 rotate_left
                 ·simp only [Act.put, List.setIfInBounds_toArray, List.set_cons_zero, List.set_cons_succ, yg, qg]
                  rfl
                 refine yo (i := 12) (N := some 45) (v := ?_) (a' := ?_) #[true, true, true, true, true, true, true, true, true, true, true, true, true, true, true, true, true, false, false, true, true, true, true, true, true, false, false, false, false, false, false] rfl rfl (qj HT_.out (by kernel_rfl)) (fun _ _ _ h => h) (Or.inl ⟨by rfl, ?_⟩) ?_ ?_
                 rotate_left
                 ·intro w'
                  go_simp
                  with_reducible rfl
                 rotate_left
                 ·simp only [Act.put, List.setIfInBounds_toArray, List.set_cons_zero, List.set_cons_succ, yg, qg]
                  rfl
                 refine y04 (i := 17) (N := some 50) (v := ?_) (a' := ?_) #[true, true, true, true, true, true, true, true, true, true, true, true, true, true, true, true, true, true, false, true, true, true, true, true, true, false, false, false, false, false, false] rfl rfl (zv HT_.out HW_.out (by kernel_rfl)) (fun _ _ _ h => h) (Or.inl ⟨by rfl, ?_⟩) hHeld ?_ ?_
                 rotate_left
                 ·rintro w' ⟨s0, s1, s2, s3, s4⟩
                  go_simp
                  with_reducible rfl
                 rotate_left
                 ·simp only [Act.put, List.setIfInBounds_toArray, List.set_cons_zero, List.set_cons_succ, yg, qg]
                  rfl
                 refine yo (i := 18) (N := some 51) (v := ?_) (a' := ?_) #[true, true, true, true, true, true, true, true, true, true, true, true, true, true, true, true, true, true, true, true, true, true, true, true, true, false, false, false, false, false, false] rfl rfl (qj HT_.out (by kernel_rfl)) (fun _ _ _ h => h) (Or.inl ⟨by rfl, ?_⟩) ?_ ?_
                 rotate_left
                 ·intro w'
                  go_simp
                  with_reducible rfl
                 rotate_left
                 ·simp only [Act.put, List.setIfInBounds_toArray, List.set_cons_zero, List.set_cons_succ, yg, qg]
                  rfl
                 refine q0j (i := 25) (N := some 58) #[true, true, true, true, true, true, true, true, true, true, true, true, true, true, true, true, true, true, true, true, true, true, true, true, true, true, false, false, false, false, false] rfl rfl (qz HT_.out (by kernel_rfl)) (by decide) (fun K hK => ?_)
                 refine y0g Try.func108 (by kernel_rfl) rfl #[.slice A33 ((l0.take ((wrap64 (x5_2 + 11)) : Int).toNat).drop ((ji26) : Int).toNat).length (c0 - (ji26).toNat)] (by rfl) rfl rfl (by (try simp only [List.map_toArray, List.map_cons, List.map_nil]); first | done | (rw [show ((l0.take ((wrap64 (x5_2 + 11)) : Int).toNat).drop ((ji26) : Int).toNat).length = ((wrap64 (x5_2 + 11)).toNat - (ji26).toNat) from (by rw [List.length_drop, List.length_take]; have h_ : ((wrap64 (x5_2 + 11)) : Int) ≤ (l0.length : Int) := of_decide_eq_true (by first | (with_reducible assumption) | assumption); omega)] <;> rfl) | (simp only [hji26]; rfl) | rfl | (simp only [List.length_drop, List.length_take]; rfl)) ?_
                 with_reducible refine (zn.calls k2 _ _ ((l0.take ((wrap64 (x5_2 + 11)) : Int).toNat).drop ((ji26) : Int).toNat) t389 _ ?side1 ?side2 A30.out).mono ?_
                 (case side1 => repeat (first | exact (Kd.yp HR388.out HB.out) | (with_reducible refine Kd.yi ?_ _) | (with_reducible refine Kd.qi ?_ _) | (with_reducible refine Kd.C_drew ?_)))
                 (case side2 => exact HC388.out)
                 rintro e w' ⟨rfl, ⟨nd, rfl⟩⟩
                 refine ⟨_, rfl, ?_⟩
                 refine hK.out _ _ ⟨(z6 BK382.out 0).trans rfl, (z6 BK382.out 1).trans rfl, ((HB.out.cell (World.block_lt_of_cell? w _ hw385_0)).trans hw385_0), ((HB.out.cell (World.block_lt_of_cell? w _ hw386_0)).trans hw386_0), ((HB.out.cell (World.block_lt_of_cell? w _ hw387_0)).trans hw387_0)⟩ (fun hHeld => ?_)
                 clear hK K
                 refine zx (a' := ?_) ?_ ?_
                 rotate_left
                 ·show Act.put _ (some 58) _ = _
                  simp only [Act.put, List.setIfInBounds_toArray, List.set_cons_zero, List.set_cons_succ, yg, qg]
                  rfl
                 refine yo (i := 26) (N := some 59) (v := ?_) (a' := ?_) #[true, true, true, true, true, true, true, true, true, true, true, true, true, true, true, true, true, true, true, true, true, true, true, true, true, true, true, false, false, false, false] rfl rfl (qj HT_.out (by kernel_rfl)) (fun _ _ _ h => h) (Or.inl ⟨by rfl, ?_⟩) ?_ ?_
                 rotate_left
                 ·intro w'
                  go_simp
                  with_reducible rfl
                 rotate_left
                 ·simp only [Act.put, List.setIfInBounds_toArray, List.set_cons_zero, List.set_cons_succ, yg, qg]
                  rfl
                 refine q0j (i := 27) (N := some 60) #[true, true, true, true, true, true, true, true, true, true, true, true, true, true, true, true, true, true, true, true, true, true, true, true, true, true, true, true, false, false, false] rfl rfl (qz HT_.out (by kernel_rfl)) (by decide) (fun K hK => ?_)
                 refine z2d (w1 := ?_) (v := ?_) (by rfl) rfl ?_ ?_
                 rotate_left 2
                 ·go_simp
                  constructor
                  ·rfl
                  ·rfl
                 refine hK.out _ _ ⟨(z6 (y4 BK382.out _) 0).trans rfl, (z6 (y4 BK382.out _) 1).trans rfl, (World.cell?_alloc_lt _ _ _ (World.block_lt_of_cell? _ _ (((HB.out.cell (World.block_lt_of_cell? w _ hw385_0)).trans hw385_0)))).trans (((HB.out.cell (World.block_lt_of_cell? w _ hw385_0)).trans hw385_0)), (World.cell?_alloc_lt _ _ _ (World.block_lt_of_cell? _ _ (((HB.out.cell (World.block_lt_of_cell? w _ hw386_0)).trans hw386_0)))).trans (((HB.out.cell (World.block_lt_of_cell? w _ hw386_0)).trans hw386_0)), (World.cell?_alloc_lt _ _ _ (World.block_lt_of_cell? _ _ (((HB.out.cell (World.block_lt_of_cell? w _ hw387_0)).trans hw387_0)))).trans (((HB.out.cell (World.block_lt_of_cell? w _ hw387_0)).trans hw387_0))⟩ (fun hHeld => ?_)
                 clear hK K
                 refine zx (a' := ?_) ?_ ?_
                 rotate_left
                 ·show Act.put _ (some 60) _ = _
                  simp only [Act.put, List.setIfInBounds_toArray, List.set_cons_zero, List.set_cons_succ, yg, qg]
                  rfl
                 refine q0j (i := 28) (N := some 61) #[true, true, true, true, true, true, true, true, true, true, true, true, true, true, true, true, true, true, true, true, true, true, true, true, true, true, true, true, true, false, false] rfl rfl (qz HT_.out (by kernel_rfl)) (by decide) (fun K hK => ?_)
                 refine Kd.y0p y08 (w0 := w) w.heap.size (by rfl) (.tmp 34) (.tmp 60) 29 138 (.agg #[(.int .i64 0), (.int .i64 0), (.int .i64 0), (.int .i64 0)]) 32 rfl Try.underlying29 q20 rfl (by decide) (by omega) u383001 x383001_2 (⟨wrap64 (rd l0 x5_2), wrap64 (rd l0 (ji20)), wrap64 (rd l0 (ji23)), t389⟩ : yl) [.int .i64 (wrap64 (rd l0 x5_2)), .int .i64 (wrap64 (rd l0 (ji20))), .int .i64 (wrap64 (rd l0 (ji23))), .int .i64 t389] (fun _ => True) (fun _ => False) rfl rfl ?aP (fun _ hk => hk.elim) ?aF ?aO ?aB ?aS ?aL ?_
                 (case aP => exact q0m _ _ _ (⟨wrap64 (rd l0 x5_2), wrap64 (rd l0 (ji20)), wrap64 (rd l0 (ji23)), t389⟩ : yl))
                 (case aB => exact (by repeat (first | (with_reducible first | exact HB.out | apply z4 | apply z1 | apply z3 | refine z7 ?_ GE381.out | refine z7 ?_ GE382.out) | exact HB.out)))
                 (case aF => exact (fun _ _ => trivial))
                 (case aO => exact (by (with_reducible repeat (first | apply Kd.R_alloc | apply Kd.y9 | apply Kd.zb)); exact HO_383001.out))
                 (case aS => exact (z8 (by repeat (first | (with_reducible first | exact HB.out | apply z4 | apply z1 | apply z3 | refine z7 ?_ GE381.out | refine z7 ?_ GE382.out) | exact HB.out))))
                 (case aL => have := LMc31.out; omega)
                 intro v391 w34 ho hb hg hat
                 rw [← Ny390.out] at ho
                 have n0_ := z2.mk (yy (g := gb381) (o := .cells #[.int .i64 0, .slice none 0 0] 31 (0, 0)) (by (with_reducible repeat (first | refine z5 ?_ _ | refine y6 ?_ | refine y4 ?_ _)); exact BK381.out) hg (Kd.y0k HO_383001.out BK381.out (by decide)))
                 have n1_ := z2.mk (yy (g := gb382) (o := .cells #[.int .i64 t384, u383001] 31 (0, 0)) (by (with_reducible repeat (first | refine z5 ?_ _ | refine y6 ?_ | refine y4 ?_ _)); exact BK382.out) hg (Kd.y0k HO_383001.out BK382.out (by decide)))
                 have n2_ := z2.mk (hb)
                 have n3_ := z2.mk (ho)
                 clear BK381
                 clear BK382
                 clear HB
                 clear HO_383001
                 have BK381 := n0_
                 have BK382 := n1_
                 have HB := n2_
                 have HO392 := n3_
                 clear n0_ n1_ n2_ n3_
                 clear ho hb hg hat
                 obtain ⟨Ao35, co35, eo35⟩ := Kd.zt HO392.out
                 (first | subst eo35 | (injection eo35 with f1_ f2_ f3_; have f4_ := f1_.symm; have f5_ := f3_.symm; clear f1_ f2_ f3_; subst f4_; subst f5_))
                 refine hK.out _ _ ⟨(z6 BK382.out 0).trans rfl, (z6 BK382.out 1).trans rfl, ((HB.out.cell (World.block_lt_of_cell? w _ hw385_0)).trans hw385_0), ((HB.out.cell (World.block_lt_of_cell? w _ hw386_0)).trans hw386_0), ((HB.out.cell (World.block_lt_of_cell? w _ hw387_0)).trans hw387_0)⟩ (fun hHeld => ?_)
                 clear hK K
                 refine zx (a' := ?_) ?_ ?_
                 rotate_left
                 ·show Act.put _ (some 61) _ = _
                  simp only [Act.put, List.setIfInBounds_toArray, List.set_cons_zero, List.set_cons_succ, yg, qg]
                  rfl
                 refine yo (i := 29) (N := some 62) (v := ?_) (a' := ?_) #[true, true, true, true, true, true, true, true, true, true, true, true, true, true, true, true, true, true, true, true, true, true, true, true, true, true, true, true, true, true, false] rfl rfl (qj HT_.out (by kernel_rfl)) (fun _ _ _ h => h) (Or.inl ⟨by rfl, ?_⟩) ?_ ?_
                 rotate_left
                 ·intro w'
                  go_simp
                  with_reducible rfl
                 rotate_left
                 ·simp only [Act.put, List.setIfInBounds_toArray, List.set_cons_zero, List.set_cons_succ, yg, qg]
                  rfl
                 refine y2f (i := 30) (N := none) #[true, true, true, true, true, true, true, true, true, true, true, true, true, true, true, true, true, true, true, true, true, true, true, true, true, true, true, true, true, true, true] rfl rfl (qz HT_.out (by kernel_rfl)) (by decide) (fun K hK => ?_)
                 have hs36 : w34.cell? ⟨gb382, 1, none⟩ = some (u383001) := (z6 BK382.out 1).trans rfl
                 have hfs36 := y5 BK382.out 1
                 have hns36_0 := NB381_382.out
                 have hms36_0 := NB382_381.out
                 refine q0v (w1 := ?_) (by rfl) rfl ?_ ?_
                 rotate_left
                 ·go_simp
                  rfl
                 refine hK.out _ _ ?_
                 clear hK K
                 refine y0n (q0b HT_.out (by kernel_rfl)) ?_
                 try go_wp2
                 go_roundg k2
                 case measure => have := HJ1.out; have := HK2.out; omega
                 case rel => exact ⟨(wrap64 (x5_2 + 11)), (y390), (.slice Ao35 y390.length co35), (by first | rfl | (simp; done) | (simp [*]; done)), H', ⟨by have := HJ1.out; have := HK2.out; omega⟩, ⟨by (with_reducible repeat (first | apply Kd.R_alloc | apply Kd.y9 | apply Kd.zb)); exact Kd.yk (Kd.zf (p := ⟨gb382, 1, none⟩) (Kd.qp HO392.out BK382.out (by decide)) (fun _ hk => hk.2) (.slice Ao35 y390.length co35)) (fun _ hk => trivial)⟩, ⟨by (with_reducible repeat (first | refine z5 ?_ _ | refine y6 ?_ | refine y4 ?_ _)); refine zd ?_ NB381_382.out _; (with_reducible repeat (first | refine z5 ?_ _ | refine y6 ?_ | refine y4 ?_ _)); exact BK381.out⟩, ⟨by (with_reducible repeat (first | refine z5 ?_ _ | refine y6 ?_ | refine y4 ?_ _)); refine qc (cs := #[.int .i64 t384, u383001]) ?_ 1 _ rfl; (with_reducible repeat (first | refine z5 ?_ _ | refine y6 ?_ | refine y4 ?_ _)); exact BK382.out⟩, ⟨by repeat (first | (with_reducible first | exact HB.out | apply z4 | apply z1 | apply z3 | refine z7 ?_ GE381.out | refine z7 ?_ GE382.out) | exact HB.out)⟩⟩
                ·rw [if_neg c31] at H
                 exact absurd H (by simp)
               ·rw [if_neg c29] at H
                exact absurd H (by simp)
              ·rw [if_neg c28] at H
               exact absurd H (by simp)
             ·rw [if_neg c27] at H
              exact absurd H (by simp)
            ·rw [if_neg c25] at H
             exact absurd H (by simp)
           ·rw [if_neg c24] at H
            exact absurd H (by simp)
          ·rw [if_neg c22] at H
           exact absurd H (by simp)
         ·rw [if_neg c21] at H
          exact absurd H (by simp)
        ·rw [if_neg c19] at H
         exact absurd H (by simp)
       ·rw [if_neg c18] at H
        have c18b0 : decide (x5_2 < (l0.length : Int)) = false := decide_eq_false c18
        clear c18
        replace H := Option.bind_eq_some_iff.mp H
        obtain ⟨t393, A370, H⟩ := H
        replace H : (some (t384, x383001_2, (t393 == 0))) = some (r1, r2, r3) := H
        have A37 := z2.mk A370
        clear A370
        simp only [Option.some.injEq, Prod.mk.injEq] at H
        obtain ⟨rfl, rfl, rfl⟩ := H
        try go_wp2
        have n0_ := z2.mk (Kd.zb HO_383001.out)
        have n1_ := z2.mk (y6 BK381.out)
        have n2_ := z2.mk (y6 BK382.out)
        have n3_ := z2.mk (z3 HB.out)
        clear HO_383001
        clear BK381
        clear BK382
        clear HB
        have HO_383001 := n0_
        have BK381 := n1_
        have BK382 := n2_
        have HB := n3_
        clear n0_ n1_ n2_ n3_
        obtain ⟨Ao39, co39, eo39⟩ := Kd.zt HO_383001.out
        (first | subst eo39 | (injection eo39 with f1_ f2_ f3_; have f4_ := f1_.symm; have f5_ := f3_.symm; clear f1_ f2_ f3_; subst f4_; subst f5_))
        refine z0f (n := 6) (S := fun w' => w'.cell? ⟨gb382, 0, none⟩ = some (.int .i64 t384) ∧ w'.cell? ⟨gb382, 1, none⟩ = some (.slice Ao39 x383001_2.length co39)) (ds := []) #[false, false, false, false, false, false] (by kernel_rfl) rfl rfl ⟨(z6 BK382.out 0).trans rfl, (z6 BK382.out 1).trans rfl⟩ (fun hHeld => ?_)
        generalize wr.drew = w38 at HO_383001 BK381 BK382 HB hHeld ⊢
        refine y04 (i := 0) (N := some 63) (v := ?_) (a' := ?_) #[true, false, false, false, false, false] rfl rfl (by kernel_rfl) (fun _ _ _ h => h) (Or.inl ⟨by rfl, ?_⟩) hHeld ?_ ?_
        rotate_left
        ·rintro w' ⟨s0, s1⟩
         go_simp
         with_reducible rfl
        rotate_left
        ·simp only [Act.put, List.setIfInBounds_toArray, List.set_cons_zero, List.set_cons_succ, yg, qg]
         rfl
        refine y04 (i := 1) (N := some 64) (v := ?_) (a' := ?_) #[true, true, false, false, false, false] rfl rfl (by kernel_rfl) (fun _ _ _ h => h) (Or.inl ⟨by rfl, ?_⟩) hHeld ?_ ?_
        rotate_left
        ·rintro w' ⟨s0, s1⟩
         go_simp
         with_reducible rfl
        rotate_left
        ·simp only [Act.put, List.setIfInBounds_toArray, List.set_cons_zero, List.set_cons_succ, yg, qg]
         rfl
        refine q0j (i := 2) (N := some 65) #[true, true, true, false, false, false] rfl rfl (by kernel_rfl) (by decide) (fun K hK => ?_)
        refine y0g Try.func46 (by kernel_rfl) rfl #[.agg #[.int .i64 t384, .slice Ao39 x383001_2.length co39]] (by rfl) rfl rfl (by (try simp only [List.map_toArray, List.map_cons, List.map_nil]); first | done | rfl | (simp only [List.length_drop, List.length_take]; rfl)) ?_
        with_reducible refine (za.calls k2 t384 _ _ x383001_2 t393 _ ?side1 ?side2 A37.out).mono ?_
        (case side1 => repeat (first | exact (Kd.qd HO_383001.out).2.2 | (with_reducible refine Kd.yi ?_ _) | (with_reducible refine Kd.qi ?_ _) | (with_reducible refine Kd.C_drew ?_)))
        (case side2 => exact (Kd.qd HO_383001.out).2.1)
        rintro e w40 ⟨rfl, hb⟩
        refine ⟨_, rfl, ?_⟩
        have n0_ := z2.mk (Kd.qf (by (with_reducible repeat (first | apply Kd.R_alloc | apply Kd.y9 | apply Kd.zb)); exact HO_383001.out) hb)
        have n1_ := z2.mk (z9 (g := gb381) (o := .cells #[.int .i64 0, .slice none 0 0] 31 (0, 0)) (by (with_reducible repeat (first | refine z5 ?_ _ | refine y6 ?_ | refine y4 ?_ _)); exact BK381.out) hb)
        have n2_ := z2.mk (z9 (g := gb382) (o := .cells #[.int .i64 t384, .slice Ao39 x383001_2.length co39] 31 (0, 0)) (by (with_reducible repeat (first | refine z5 ?_ _ | refine y6 ?_ | refine y4 ?_ _)); exact BK382.out) hb)
        have n3_ := z2.mk (y8 (by repeat (first | (with_reducible first | exact HB.out | apply z4 | apply z1 | apply z3 | refine z7 ?_ GE381.out | refine z7 ?_ GE382.out) | exact HB.out)) hb)
        clear HO_383001
        clear BK381
        clear BK382
        clear HB
        have HO_383001 := n0_
        have BK381 := n1_
        have BK382 := n2_
        have HB := n3_
        clear n0_ n1_ n2_ n3_
        (try clear hb)
        (try clear hb2)
        (try clear hk)
        (try clear hi)
        refine hK.out _ _ ⟨(z6 BK382.out 0).trans rfl, (z6 BK382.out 1).trans rfl⟩ (fun hHeld => ?_)
        clear hK K
        refine zx (a' := ?_) ?_ ?_
        rotate_left
        ·show Act.put _ (some 65) _ = _
         simp only [Act.put, List.setIfInBounds_toArray, List.set_cons_zero, List.set_cons_succ, yg, qg]
         rfl
        refine yo (i := 3) (N := some 66) (v := ?_) (a' := ?_) #[true, true, true, true, false, false] rfl rfl (by kernel_rfl) (fun _ _ _ h => h) (Or.inl ⟨by rfl, ?_⟩) ?_ ?_
        rotate_left
        ·intro w'
         go_simp
         with_reducible rfl
        rotate_left
        ·simp only [Act.put, List.setIfInBounds_toArray, List.set_cons_zero, List.set_cons_succ, yg, qg]
         rfl
        refine q0j (i := 4) (N := none) #[true, true, true, true, true, false] rfl rfl (by kernel_rfl) (by decide) (fun K hK => ?_)
        have hs41 : w40.cell? ⟨gb381, 0, none⟩ = some (.int .i64 0) := (z6 BK381.out 0).trans rfl
        have hfs41 := y5 BK381.out 0
        have hns41_1 := NB382_381.out
        have hms41_1 := NB381_382.out
        have hs42 : w40.cell? ⟨gb381, 1, none⟩ = some (.slice none 0 0) := (z6 BK381.out 1).trans rfl
        have hfs42 := y5 BK381.out 1
        have hns42_1 := NB382_381.out
        have hms42_1 := NB381_382.out
        refine q0v (w1 := ?_) (by rfl) rfl ?_ ?_
        rotate_left
        ·go_simp
         rfl
        refine hK.out _ _ ⟨((cell_far (p := ⟨gb381, _, none⟩) NB382_381.out _).trans (((cell_far (p := ⟨gb381, _, none⟩) NB382_381.out _).trans (hHeld.1)))), ((cell_far (p := ⟨gb381, _, none⟩) NB382_381.out _).trans (((cell_far (p := ⟨gb381, _, none⟩) NB382_381.out _).trans (hHeld.2))))⟩ (fun hHeld => ?_)
        clear hK K
        refine yo (i := 5) (N := some 3) (v := ?_) (a' := ?_) #[true, true, true, true, true, true] rfl rfl (by kernel_rfl) (fun _ _ _ h => h) (Or.inl ⟨by rfl, ?_⟩) ?_ ?_
        rotate_left
        ·intro w'
         go_simp
         with_reducible rfl
        rotate_left
        ·simp only [Act.put, List.setIfInBounds_toArray, List.set_cons_zero, List.set_cons_succ, yg, qg]
         rfl
        refine y0n (by kernel_rfl) ?_
        try go_wp2
        refine bodyPost_ret (y02 rfl _ _ gb381 31 #[.int .i64 t384, .slice Ao39 x383001_2.length co39] (0, 0) _ rfl (by (with_reducible repeat (first | refine z5 ?_ _ | refine y6 ?_ | refine y4 ?_ _)); refine qc (cs := #[.int .i64 t384, .slice none 0 0]) ?_ 1 _ rfl; (with_reducible repeat (first | refine z5 ?_ _ | refine y6 ?_ | refine y4 ?_ _)); refine qc (cs := #[.int .i64 0, .slice none 0 0]) ?_ 0 _ rfl; (with_reducible repeat (first | refine z5 ?_ _ | refine y6 ?_ | refine y4 ?_ _)); exact BK381.out) Try.underlying31 rfl (by kernel_rfl)) rfl ?_
        exact ⟨_, by first | rfl | (simp [ya, qa] <;> rfl) | (simp [*, ya, qa] <;> rfl), by (with_reducible repeat (first | apply Kd.R_alloc | apply Kd.y9 | apply Kd.zb)); exact Kd.yk (Kd.zf (p := ⟨gb381, 1, none⟩) (Kd.zf (p := ⟨gb381, 0, none⟩) (Kd.qp HO_383001.out BK381.out (by decide)) (fun _ hk => hk.2) (.int .i64 t384)) (fun _ hk => hk.2) (.slice Ao39 x383001_2.length co39)) (fun _ hk => trivial), by repeat (first | (with_reducible first | exact HB.out | apply z4 | apply z1 | apply z3 | refine z7 ?_ GE381.out | refine z7 ?_ GE382.out) | exact HB.out)⟩
    ·rw [if_neg c13] at H
     exact absurd H (by simp)
end Go.Proofs.Ytkeojolmapcgbaa.PEv
end
section
namespace Go.Proofs.Ytkeojolmapcgbaa.PEv
open Go.RowKit Go.Proofs.YtkeojolmapcgbaaW.PrintWords Go.Proofs.YtkeojolmapcgbaaW.PrintLast Go.Proofs.YtkeojolmapcgbaaW.PrintMore
set_option linter.unusedVariables false
set_option linter.unusedSimpArgs false
def zl.j0 : Nat → List Int → Bool → Bool → Int → Int → Option (Bool × Int × (List (yl)) × Int × Bool)
 | 0, _, _, _, _, _ => none
 | k + 1, x0, x35, x396000, x396001, x396003 => if x35 = true then (some (x396000, x396001, ([] : List (yl)), x396003, false)) else (if 1 ≤ 9 then (if 9 ≤ (x0.length : Int) then ((zn.f k ((x0.take 9).drop 1)).bind fun t406 => (if 9 < (x0.length : Int) then ((yj.f k x396000 t406 ([] : List (yl)) (wrap64 (rd x0 9))).bind fun t408 => (some (x396000, t406, ([] : List (yl)), wrap64 (rd x0 9), (t408 == 0)))) else (none))) else (none)) else (none))
def zl.f (k : Nat) (l0 : List Int) : Option (Bool × Int × (List (yl)) × Int × Bool) := if (l0.length : Int) = 0 then (some (false, 0, ([] : List (yl)), 0, false)) else (if 0 < (l0.length : Int) then (if (rd l0 0) = 1 then (if 1 ≤ (l0.length : Int) then ((yd.f k (l0.drop 1)).bind fun bt398 => (some (true, bt398.1, bt398.2.1, 0, bt398.2.2))) else (none)) else (if (rd l0 0) = 2 then (zl.j0 k l0 ((l0.length : Int) != 10) false 0 0) else (zl.j0 k l0 true false 0 0))) else (none))
set_option maxHeartbeats 8000000 in
set_option maxRecDepth 100000 in
theorem zl.calls (k : Nat) (A0 : Option Addr) (c0 : Nat) (l0 : List Int) (r1 : Bool) (r2 : Int) (r3 : List (yl)) (r4 : Int) (r5 : Bool) (w : World) (hr0 : Kd.C (Kd.int .u8) w A0 l0.length l0) (hc0 : l0.length ≤ c0) (h : zl.f k l0 = some (r1, r2, r3, r4, r5)) :
  Calls Try.prog 58 #[.slice A0 l0.length c0] w fun e w' => ∃ v2_ : Value, e = .returned (.tuple #[.agg #[.bool r1, .int .i64 r2, v2_, .int .i64 r4], .bool r5]) ∧ Kd.R y08 138 w' w.heap.size (fun _ => True) v2_ r3 ∧ Below w.heap.size w w' := by
 have hu33 := Try.underlying33
 have hu31 := Try.underlying31
 have HR0 := z2.mk hr0
 have HC0 := z2.mk hc0
 clear hr0 hc0
 have HB := z2.mk (Below.refl w.heap.size w)
 have H : (if (l0.length : Int) = 0 then (some (false, 0, ([] : List (yl)), 0, false)) else (if 0 < (l0.length : Int) then (if (rd l0 0) = 1 then (if 1 ≤ (l0.length : Int) then ((yd.f k (l0.drop 1)).bind fun bt398 => (some (true, bt398.1, bt398.2.1, 0, bt398.2.2))) else (none)) else (if (rd l0 0) = 2 then (zl.j0 k l0 ((l0.length : Int) != 10) false 0 0) else (zl.j0 k l0 true false 0 0))) else (none))) = some (r1, r2, r3, r4, r5) := h
 clear h
 by_cases c2 : (l0.length : Int) = 0
 ·rw [if_pos c2] at H
  have c2b0 : ((l0.length : Int) == 0) = true := beq_iff_eq.mpr c2
  have c2b1 : ((l0.length : Int) != 0) = false := bne_eq_false_iff_eq.mpr c2
  clear c2
  simp only [Option.some.injEq, Prod.mk.injEq] at H
  obtain ⟨rfl, rfl, rfl, rfl, rfl⟩ := H
  go_enter Try.func58, Try.ntmps58
  go_wp2_with (first | ((with_reducible refine ye (N := 2) rfl ?_); (try (refine yw (by rfl) ?_; dsimp only)); refine ze ?hg (N := 2) ?hd (cs := #[.bool false, .int .i64 0, .slice none 0 0, .int .i64 0]) (t := 33) ?hr ?_; (case hd => rfl); (case hg => rfl); (case hr => first | (go_simp; done) | (go_simp; rfl)); intro gb394 hg w3 hbox hb; have n0_ := z2.mk (y8 (by repeat (first | (with_reducible first | exact HB.out | apply z4 | apply z1 | apply z3) | exact HB.out)) hb); have n1_ := z2.mk (hbox); have n2_ := z2.mk ((by rw [hg]; exact (z8 (by repeat (first | (with_reducible first | exact HB.out | apply z4 | apply z1 | apply z3) | exact HB.out))) : w.heap.size ≤ gb394)); have n3_ := z2.mk ((by rw [hg]; exact (z8 (by repeat (first | (with_reducible first | exact HB.out | apply z4 | apply z1 | apply z3) | exact HB.out))) : w.heap.size ≤ gb394)); clear HB; have HB := n0_; have BK394 := n1_; have GW394 := n2_; have GE394 := n3_; clear n0_ n1_ n2_ n3_ hb hbox hg) | ((with_reducible refine ye (N := 4) rfl ?_); (try (refine yw (by rfl) ?_; dsimp only)); refine ze ?hg (N := 4) ?hd (cs := #[.bool false, .int .i64 0, .slice none 0 0, .int .i64 0]) (t := 33) ?hr ?_; (case hd => rfl); (case hg => rfl); (case hr => first | (go_simp; done) | (go_simp; rfl)); intro gb395 hg w4 hbox hb; have n0_ := z2.mk (z9 (g := gb394) (o := .cells #[.bool false, .int .i64 0, .slice none 0 0, .int .i64 0] 33 (0, 0)) (by (with_reducible repeat (first | refine z5 ?_ _ | refine y6 ?_ | refine y4 ?_ _)); exact BK394.out) hb); have n1_ := z2.mk (y8 (by repeat (first | (with_reducible first | exact HB.out | apply z4 | apply z1 | apply z3 | refine z7 ?_ GE394.out) | exact HB.out)) hb); have n2_ := z2.mk (hbox); have n3_ := z2.mk ((by rw [hg]; exact (z8 (by repeat (first | (with_reducible first | exact HB.out | apply z4 | apply z1 | apply z3 | refine z7 ?_ GE394.out) | exact HB.out))) : w.heap.size ≤ gb395)); have n4_ := z2.mk ((by rw [hg]; exact (z8 (by repeat (first | (with_reducible first | exact HB.out | apply z4 | apply z1 | apply z3 | refine z7 ?_ GE394.out) | exact HB.out))) : w.heap.size ≤ gb395)); have n5_ := z2.mk ((by rw [hg]; exact Nat.ne_of_lt (qk (g := gb394) (o := .cells #[.bool false, .int .i64 0, .slice none 0 0, .int .i64 0] 33 (0, 0)) (by (with_reducible repeat (first | refine z5 ?_ _ | refine y6 ?_ | refine y4 ?_ _)); exact BK394.out)) : gb394 ≠ gb395)); have n6_ := z2.mk ((by rw [hg]; exact Nat.ne_of_gt (qk (g := gb394) (o := .cells #[.bool false, .int .i64 0, .slice none 0 0, .int .i64 0] 33 (0, 0)) (by (with_reducible repeat (first | refine z5 ?_ _ | refine y6 ?_ | refine y4 ?_ _)); exact BK394.out)) : gb395 ≠ gb394)); clear BK394 HB; have BK394 := n0_; have HB := n1_; have BK395 := n2_; have GW395 := n3_; have GE395 := n4_; have NB394_395 := n5_; have NB395_394 := n6_; clear n0_ n1_ n2_ n3_ n4_ n5_ n6_ hb hbox hg; have hnb5 := NB395_394.out; have hnc5 := NB394_395.out; have hcz6_0 : w4.cell? ⟨gb395, 0, none⟩ = some (.bool false) := (z6 BK395.out 0).trans rfl; have hcz6_1 : w4.cell? ⟨gb395, 1, none⟩ = some (.int .i64 0) := (z6 BK395.out 1).trans rfl; have hcz6_2 : w4.cell? ⟨gb395, 2, none⟩ = some (.slice none 0 0) := (z6 BK395.out 2).trans rfl; have hcz6_3 : w4.cell? ⟨gb395, 3, none⟩ = some (.int .i64 0) := (z6 BK395.out 3).trans rfl; have hfz6_0 := y5 BK395.out 0; have hfz6_1 := y5 BK395.out 1; have hfz6_2 := y5 BK395.out 2; have hfz6_3 := y5 BK395.out 3; have hcz7_0 : w4.cell? ⟨gb394, 0, none⟩ = some (.bool false) := (z6 BK394.out 0).trans rfl; have hcz7_1 : w4.cell? ⟨gb394, 1, none⟩ = some (.int .i64 0) := (z6 BK394.out 1).trans rfl; have hcz7_2 : w4.cell? ⟨gb394, 2, none⟩ = some (.slice none 0 0) := (z6 BK394.out 2).trans rfl; have hcz7_3 : w4.cell? ⟨gb394, 3, none⟩ = some (.int .i64 0) := (z6 BK394.out 3).trans rfl; have hfz7_0 := y5 BK394.out 0; have hfz7_1 := y5 BK394.out 1; have hfz7_2 := y5 BK394.out 2; have hfz7_3 := y5 BK394.out 3))
  refine bodyPost_ret (y02 rfl _ _ gb394 33 #[.bool false, .int .i64 0, .slice none 0 0, .int .i64 0] (0, 0) _ rfl (by (with_reducible repeat (first | refine z5 ?_ _ | refine y6 ?_ | refine y4 ?_ _)); refine qc (cs := #[.bool false, .int .i64 0, .slice none 0 0, .int .i64 0]) ?_ 3 _ rfl; (with_reducible repeat (first | refine z5 ?_ _ | refine y6 ?_ | refine y4 ?_ _)); refine qc (cs := #[.bool false, .int .i64 0, .slice none 0 0, .int .i64 0]) ?_ 2 _ rfl; (with_reducible repeat (first | refine z5 ?_ _ | refine y6 ?_ | refine y4 ?_ _)); refine qc (cs := #[.bool false, .int .i64 0, .slice none 0 0, .int .i64 0]) ?_ 1 _ rfl; (with_reducible repeat (first | refine z5 ?_ _ | refine y6 ?_ | refine y4 ?_ _)); refine qc (cs := #[.bool false, .int .i64 0, .slice none 0 0, .int .i64 0]) ?_ 0 _ rfl; (with_reducible repeat (first | refine z5 ?_ _ | refine y6 ?_ | refine y4 ?_ _)); refine zd ?_ NB394_395.out _; (with_reducible repeat (first | refine z5 ?_ _ | refine y6 ?_ | refine y4 ?_ _)); refine zd ?_ NB394_395.out _; (with_reducible repeat (first | refine z5 ?_ _ | refine y6 ?_ | refine y4 ?_ _)); refine zd ?_ NB394_395.out _; (with_reducible repeat (first | refine z5 ?_ _ | refine y6 ?_ | refine y4 ?_ _)); refine zd ?_ NB394_395.out _; (with_reducible repeat (first | refine z5 ?_ _ | refine y6 ?_ | refine y4 ?_ _)); exact BK394.out) Try.underlying33 rfl (by kernel_rfl)) rfl ?_
  exact ⟨_, by first | rfl | (simp [ya, qa] <;> rfl) | (simp [*, ya, qa] <;> rfl), by first | exact Kd.z0n _ _ _ _ _ | exact Kd.N_nil _ _ _ _ _ | exact Kd.V_nil _ _ _ _ _ | exact Kd.Q_nil _ _ _ _ _ | exact Kd.S_nil _ _ _ _ _, by repeat (first | (with_reducible first | exact HB.out | apply z4 | apply z1 | apply z3 | refine z7 ?_ GE394.out | refine z7 ?_ GE395.out) | exact HB.out)⟩
 ·rw [if_neg c2] at H
  have c2b0 : ((l0.length : Int) == 0) = false := beq_eq_false_iff_ne.mpr c2
  have c2b1 : ((l0.length : Int) != 0) = true := bne_iff_ne.mpr c2
  have c2b2 : ¬ (l0 = []) := fun h_ => c2 (by rw [h_]; rfl)
  by_cases c8 : 0 < (l0.length : Int)
  ·rw [if_pos c8] at H
   have c8b0 : decide (0 < (l0.length : Int)) = true := decide_eq_true c8
   have c8b1 : decide (0 < l0.length) = true := decide_eq_true (by omega)
   clear c8
   by_cases c9 : (rd l0 0) = 1
   ·rw [if_pos c9] at H
    have c9b0 : ((rd l0 0) == 1) = true := beq_iff_eq.mpr c9
    have c9b1 : ((rd l0 0) != 1) = false := bne_eq_false_iff_eq.mpr c9
    clear c9
    by_cases c10 : 1 ≤ (l0.length : Int)
    ·rw [if_pos c10] at H
     have c10b0 := eq_true c10
     have c10b1 : decide (1 ≤ (l0.length : Int)) = true := decide_eq_true c10
     clear c10
     replace H := Option.bind_eq_some_iff.mp H
     obtain ⟨⟨t398, t399, t402⟩, A110, H⟩ := H
     replace H : (some (true, t398, t399, 0, t402)) = some (r1, r2, r3, r4, r5) := H
     have A11 := z2.mk A110
     clear A110
     simp only [Option.some.injEq, Prod.mk.injEq] at H
     obtain ⟨rfl, rfl, rfl, rfl, rfl⟩ := H
     go_enter Try.func58, Try.ntmps58
     go_wp2_with (first | ((with_reducible refine ye (N := 2) rfl ?_); (try (refine yw (by rfl) ?_; dsimp only)); refine ze ?hg (N := 2) ?hd (cs := #[.bool false, .int .i64 0, .slice none 0 0, .int .i64 0]) (t := 33) ?hr ?_; (case hd => rfl); (case hg => rfl); (case hr => first | (go_simp; done) | (go_simp; rfl)); intro gb394 hg w12 hbox hb; have n0_ := z2.mk (y8 (by repeat (first | (with_reducible first | exact HB.out | apply z4 | apply z1 | apply z3) | exact HB.out)) hb); have n1_ := z2.mk (hbox); have n2_ := z2.mk ((by rw [hg]; exact (z8 (by repeat (first | (with_reducible first | exact HB.out | apply z4 | apply z1 | apply z3) | exact HB.out))) : w.heap.size ≤ gb394)); have n3_ := z2.mk ((by rw [hg]; exact (z8 (by repeat (first | (with_reducible first | exact HB.out | apply z4 | apply z1 | apply z3) | exact HB.out))) : w.heap.size ≤ gb394)); clear HB; have HB := n0_; have BK394 := n1_; have GW394 := n2_; have GE394 := n3_; clear n0_ n1_ n2_ n3_ hb hbox hg) | ((with_reducible refine ye (N := 4) rfl ?_); (try (refine yw (by rfl) ?_; dsimp only)); refine ze ?hg (N := 4) ?hd (cs := #[.bool false, .int .i64 0, .slice none 0 0, .int .i64 0]) (t := 33) ?hr ?_; (case hd => rfl); (case hg => rfl); (case hr => first | (go_simp; done) | (go_simp; rfl)); intro gb395 hg w13 hbox hb; have n0_ := z2.mk (z9 (g := gb394) (o := .cells #[.bool false, .int .i64 0, .slice none 0 0, .int .i64 0] 33 (0, 0)) (by (with_reducible repeat (first | refine z5 ?_ _ | refine y6 ?_ | refine y4 ?_ _)); exact BK394.out) hb); have n1_ := z2.mk (y8 (by repeat (first | (with_reducible first | exact HB.out | apply z4 | apply z1 | apply z3 | refine z7 ?_ GE394.out) | exact HB.out)) hb); have n2_ := z2.mk (hbox); have n3_ := z2.mk ((by rw [hg]; exact (z8 (by repeat (first | (with_reducible first | exact HB.out | apply z4 | apply z1 | apply z3 | refine z7 ?_ GE394.out) | exact HB.out))) : w.heap.size ≤ gb395)); have n4_ := z2.mk ((by rw [hg]; exact (z8 (by repeat (first | (with_reducible first | exact HB.out | apply z4 | apply z1 | apply z3 | refine z7 ?_ GE394.out) | exact HB.out))) : w.heap.size ≤ gb395)); have n5_ := z2.mk ((by rw [hg]; exact Nat.ne_of_lt (qk (g := gb394) (o := .cells #[.bool false, .int .i64 0, .slice none 0 0, .int .i64 0] 33 (0, 0)) (by (with_reducible repeat (first | refine z5 ?_ _ | refine y6 ?_ | refine y4 ?_ _)); exact BK394.out)) : gb394 ≠ gb395)); have n6_ := z2.mk ((by rw [hg]; exact Nat.ne_of_gt (qk (g := gb394) (o := .cells #[.bool false, .int .i64 0, .slice none 0 0, .int .i64 0] 33 (0, 0)) (by (with_reducible repeat (first | refine z5 ?_ _ | refine y6 ?_ | refine y4 ?_ _)); exact BK394.out)) : gb395 ≠ gb394)); clear BK394 HB; have BK394 := n0_; have HB := n1_; have BK395 := n2_; have GW395 := n3_; have GE395 := n4_; have NB394_395 := n5_; have NB395_394 := n6_; clear n0_ n1_ n2_ n3_ n4_ n5_ n6_ hb hbox hg; have hnb14 := NB395_394.out; have hnc14 := NB394_395.out; have hcz15_0 : w13.cell? ⟨gb395, 0, none⟩ = some (.bool false) := (z6 BK395.out 0).trans rfl; have hcz15_1 : w13.cell? ⟨gb395, 1, none⟩ = some (.int .i64 0) := (z6 BK395.out 1).trans rfl; have hcz15_2 : w13.cell? ⟨gb395, 2, none⟩ = some (.slice none 0 0) := (z6 BK395.out 2).trans rfl; have hcz15_3 : w13.cell? ⟨gb395, 3, none⟩ = some (.int .i64 0) := (z6 BK395.out 3).trans rfl; have hfz15_0 := y5 BK395.out 0; have hfz15_1 := y5 BK395.out 1; have hfz15_2 := y5 BK395.out 2; have hfz15_3 := y5 BK395.out 3; have p396 : 0 ≤ (0 : Int) := (by omega); have q396 : 0 < (l0.length : Int) := of_decide_eq_true (by first | (with_reducible assumption) | assumption); obtain ⟨ad396, e396, hx396_0⟩ := Kd.q07 HR0.out 0 p396 q396; cases e396; have qi396 : (0 < l0.length) = True := eq_true (by omega); (try rw [show ((0 : Int)).toNat = 0 from rfl] at hx396_0); (try rw [Addr.add_zero'] at hx396_0); have hn396_0 : ad396.block ≠ gb395 := Nat.ne_of_lt (Nat.lt_of_lt_of_le (by have := World.block_lt_of_cell? _ _ hx396_0; first | rwa [add_block] at this | exact this) GW395.out); have hn396_1 : ad396.block ≠ gb395 := Nat.ne_of_lt (Nat.lt_of_lt_of_le (by have := World.block_lt_of_cell? _ _ hx396_0; first | rwa [add_block] at this | exact this) GW395.out); have hn396_2 : ad396.block ≠ gb395 := Nat.ne_of_lt (Nat.lt_of_lt_of_le (by have := World.block_lt_of_cell? _ _ hx396_0; first | rwa [add_block] at this | exact this) GW395.out); have hn396_3 : ad396.block ≠ gb395 := Nat.ne_of_lt (Nat.lt_of_lt_of_le (by have := World.block_lt_of_cell? _ _ hx396_0; first | rwa [add_block] at this | exact this) GW395.out); replace hx396_0 := (HB.out.cell (World.block_lt_of_cell? w _ hx396_0)).trans hx396_0; replace hx396_0 := (cell_far (p := ⟨gb395, 0, none⟩) (by first | (rw [add_block]; exact hn396_0) | (show (Addr.add _ _).block ≠ _; rw [add_block]; exact hn396_0) | exact hn396_0) (.bool false)).trans hx396_0; replace hx396_0 := (cell_far (p := ⟨gb395, 1, none⟩) (by first | (rw [add_block]; exact hn396_1) | (show (Addr.add _ _).block ≠ _; rw [add_block]; exact hn396_1) | exact hn396_1) (.int .i64 0)).trans hx396_0; replace hx396_0 := (cell_far (p := ⟨gb395, 2, none⟩) (by first | (rw [add_block]; exact hn396_2) | (show (Addr.add _ _).block ≠ _; rw [add_block]; exact hn396_2) | exact hn396_2) (.slice none 0 0)).trans hx396_0; replace hx396_0 := (cell_far (p := ⟨gb395, 3, none⟩) (by first | (rw [add_block]; exact hn396_3) | (show (Addr.add _ _).block ≠ _; rw [add_block]; exact hn396_3) | exact hn396_3) (.int .i64 0)).trans hx396_0; clear hn396_0 hn396_1 hn396_2 hn396_3; replace p396 := eq_true p396; replace q396 := eq_true q396; obtain ⟨i016, hi016, _, hsz16, _⟩ := info_parts y0f; obtain ⟨A16, hcut16, hA16, hC16⟩ := z0j (P := Try.prog) (Value.int .u8) 0 37 5 .i64 Try.underlying37 hi016 hsz16 (some ad396) c0 l0 1 (by omega) (of_decide_eq_true (by first | (with_reducible assumption) | assumption)) HC0.out; have HR397 := z2.mk (Kd.z05 (h1 := fun _ => rfl) (hA16 _ (Kd.z02 HR0.out))); have HC397 := z2.mk hC16; clear hA16 hC16 hi016 hsz16) | ((with_reducible refine qb (f := 107) rfl ?_); refine zm (some 19) rfl rfl Try.func107 (by kernel_rfl) rfl #[.slice A16 (l0.drop 1).length (c0 - 1)] rfl (by (try simp only [List.map_toArray, List.map_cons, List.map_nil]); first | done | (rw [show (l0.drop 1).length = (l0.length - 1) from List.length_drop] <;> rfl) | rfl | (simp only [List.length_drop, List.length_take]; rfl)) ?_; (with_reducible refine (yd.calls k _ _ (l0.drop 1) t398 t399 t402 _ ?side1 ?side2 A11.out).mono ?_); (case side1 => exact Kd.yp HR397.out (by repeat (first | (with_reducible first | exact HB.out | apply z4 | apply z1 | apply z3 | refine z7 ?_ GE394.out | refine z7 ?_ GE395.out) | exact HB.out))); (case side2 => exact HC397.out); rintro e w17 ⟨v400, rfl, ho0, hb⟩; refine ⟨_, rfl, ?_⟩; have n0_ := z2.mk (Kd.yr ho0 (z8 (by repeat (first | (with_reducible first | exact HB.out | apply z4 | apply z1 | apply z3 | refine z7 ?_ GE394.out | refine z7 ?_ GE395.out) | exact HB.out)))); have n1_ := z2.mk (z9 (g := gb394) (o := .cells #[.bool false, .int .i64 0, .slice none 0 0, .int .i64 0] 33 (0, 0)) (by (with_reducible repeat (first | refine z5 ?_ _ | refine y6 ?_ | refine y4 ?_ _)); refine zd ?_ NB394_395.out _; (with_reducible repeat (first | refine z5 ?_ _ | refine y6 ?_ | refine y4 ?_ _)); refine zd ?_ NB394_395.out _; (with_reducible repeat (first | refine z5 ?_ _ | refine y6 ?_ | refine y4 ?_ _)); refine zd ?_ NB394_395.out _; (with_reducible repeat (first | refine z5 ?_ _ | refine y6 ?_ | refine y4 ?_ _)); refine zd ?_ NB394_395.out _; (with_reducible repeat (first | refine z5 ?_ _ | refine y6 ?_ | refine y4 ?_ _)); exact BK394.out) hb); have n2_ := z2.mk (z9 (g := gb395) (o := .cells #[.bool false, .int .i64 0, .slice none 0 0, .int .i64 0] 33 (0, 0)) (by (with_reducible repeat (first | refine z5 ?_ _ | refine y6 ?_ | refine y4 ?_ _)); refine qc (cs := #[.bool false, .int .i64 0, .slice none 0 0, .int .i64 0]) ?_ 3 _ rfl; (with_reducible repeat (first | refine z5 ?_ _ | refine y6 ?_ | refine y4 ?_ _)); refine qc (cs := #[.bool false, .int .i64 0, .slice none 0 0, .int .i64 0]) ?_ 2 _ rfl; (with_reducible repeat (first | refine z5 ?_ _ | refine y6 ?_ | refine y4 ?_ _)); refine qc (cs := #[.bool false, .int .i64 0, .slice none 0 0, .int .i64 0]) ?_ 1 _ rfl; (with_reducible repeat (first | refine z5 ?_ _ | refine y6 ?_ | refine y4 ?_ _)); refine qc (cs := #[.bool false, .int .i64 0, .slice none 0 0, .int .i64 0]) ?_ 0 _ rfl; (with_reducible repeat (first | refine z5 ?_ _ | refine y6 ?_ | refine y4 ?_ _)); exact BK395.out) hb); have n3_ := z2.mk (y8 (by repeat (first | (with_reducible first | exact HB.out | apply z4 | apply z1 | apply z3 | refine z7 ?_ GE394.out | refine z7 ?_ GE395.out) | exact HB.out)) hb); clear BK394 BK395 HB; have HO401 := n0_; have BK394 := n1_; have BK395 := n2_; have HB := n3_; clear n0_ n1_ n2_ n3_; (try clear hb); (try clear hb2); (try clear hk); (try clear hi); (try clear ho0)) | ((with_reducible refine ye (N := 5) rfl ?_); (try (refine yw (by rfl) ?_; dsimp only)); refine ze ?hg (N := 5) ?hd (cs := #[.int .i64 0, .slice none 0 0]) (t := 31) ?hr ?_; (case hd => rfl); (case hg => rfl); (case hr => first | (go_simp; done) | (go_simp; rfl)); intro gb403 hg w18 hbox hb; have n0_ := z2.mk (Kd.qf (by (with_reducible repeat (first | apply Kd.R_alloc | apply Kd.y9 | apply Kd.zb)); exact HO401.out) hb); have n1_ := z2.mk (z9 (g := gb394) (o := .cells #[.bool false, .int .i64 0, .slice none 0 0, .int .i64 0] 33 (0, 0)) (by (with_reducible repeat (first | refine z5 ?_ _ | refine y6 ?_ | refine y4 ?_ _)); exact BK394.out) hb); have n2_ := z2.mk (z9 (g := gb395) (o := .cells #[.bool false, .int .i64 0, .slice none 0 0, .int .i64 0] 33 (0, 0)) (by (with_reducible repeat (first | refine z5 ?_ _ | refine y6 ?_ | refine y4 ?_ _)); exact BK395.out) hb); have n3_ := z2.mk (y8 (by repeat (first | (with_reducible first | exact HB.out | apply z4 | apply z1 | apply z3 | refine z7 ?_ GE394.out | refine z7 ?_ GE395.out) | exact HB.out)) hb); have n4_ := z2.mk (hbox); have n5_ := z2.mk ((by rw [hg]; exact (z8 (by repeat (first | (with_reducible first | exact HB.out | apply z4 | apply z1 | apply z3 | refine z7 ?_ GE394.out | refine z7 ?_ GE395.out) | exact HB.out))) : w.heap.size ≤ gb403)); have n6_ := z2.mk ((by rw [hg]; exact (z8 (by repeat (first | (with_reducible first | exact HB.out | apply z4 | apply z1 | apply z3 | refine z7 ?_ GE394.out | refine z7 ?_ GE395.out) | exact HB.out))) : w.heap.size ≤ gb403)); have n7_ := z2.mk ((by rw [hg]; exact Nat.ne_of_lt (qk (g := gb394) (o := .cells #[.bool false, .int .i64 0, .slice none 0 0, .int .i64 0] 33 (0, 0)) (by (with_reducible repeat (first | refine z5 ?_ _ | refine y6 ?_ | refine y4 ?_ _)); exact BK394.out)) : gb394 ≠ gb403)); have n8_ := z2.mk ((by rw [hg]; exact Nat.ne_of_gt (qk (g := gb394) (o := .cells #[.bool false, .int .i64 0, .slice none 0 0, .int .i64 0] 33 (0, 0)) (by (with_reducible repeat (first | refine z5 ?_ _ | refine y6 ?_ | refine y4 ?_ _)); exact BK394.out)) : gb403 ≠ gb394)); have n9_ := z2.mk ((by rw [hg]; exact Nat.ne_of_lt (qk (g := gb395) (o := .cells #[.bool false, .int .i64 0, .slice none 0 0, .int .i64 0] 33 (0, 0)) (by (with_reducible repeat (first | refine z5 ?_ _ | refine y6 ?_ | refine y4 ?_ _)); exact BK395.out)) : gb395 ≠ gb403)); have n10_ := z2.mk ((by rw [hg]; exact Nat.ne_of_gt (qk (g := gb395) (o := .cells #[.bool false, .int .i64 0, .slice none 0 0, .int .i64 0] 33 (0, 0)) (by (with_reducible repeat (first | refine z5 ?_ _ | refine y6 ?_ | refine y4 ?_ _)); exact BK395.out)) : gb403 ≠ gb395)); clear HO401 BK394 BK395 HB; have HO401 := n0_; have BK394 := n1_; have BK395 := n2_; have HB := n3_; have BK403 := n4_; have GW403 := n5_; have GE403 := n6_; have NB394_403 := n7_; have NB403_394 := n8_; have NB395_403 := n9_; have NB403_395 := n10_; clear n0_ n1_ n2_ n3_ n4_ n5_ n6_ n7_ n8_ n9_ n10_ hb hbox hg; have hnb19 := NB403_394.out; have hnc19 := NB394_403.out; have hnb20 := NB403_395.out; have hnc20 := NB395_403.out; have hcz21_0 : w18.cell? ⟨gb403, 0, none⟩ = some (.int .i64 0) := (z6 BK403.out 0).trans rfl; have hcz21_1 : w18.cell? ⟨gb403, 1, none⟩ = some (.slice none 0 0) := (z6 BK403.out 1).trans rfl; have hfz21_0 := y5 BK403.out 0; have hfz21_1 := y5 BK403.out 1; obtain ⟨Ao22, co22, eo22⟩ := Kd.zt HO401.out; subst eo22; have hcz23_0 : w18.cell? ⟨gb395, 0, none⟩ = some (.bool false) := (z6 BK395.out 0).trans rfl; have hcz23_1 : w18.cell? ⟨gb395, 1, none⟩ = some (.int .i64 0) := (z6 BK395.out 1).trans rfl; have hcz23_2 : w18.cell? ⟨gb395, 2, none⟩ = some (.slice none 0 0) := (z6 BK395.out 2).trans rfl; have hcz23_3 : w18.cell? ⟨gb395, 3, none⟩ = some (.int .i64 0) := (z6 BK395.out 3).trans rfl; have hfz23_0 := y5 BK395.out 0; have hfz23_1 := y5 BK395.out 1; have hfz23_2 := y5 BK395.out 2; have hfz23_3 := y5 BK395.out 3; have hcz24_0 : w18.cell? ⟨gb394, 0, none⟩ = some (.bool false) := (z6 BK394.out 0).trans rfl; have hcz24_1 : w18.cell? ⟨gb394, 1, none⟩ = some (.int .i64 0) := (z6 BK394.out 1).trans rfl; have hcz24_2 : w18.cell? ⟨gb394, 2, none⟩ = some (.slice none 0 0) := (z6 BK394.out 2).trans rfl; have hcz24_3 : w18.cell? ⟨gb394, 3, none⟩ = some (.int .i64 0) := (z6 BK394.out 3).trans rfl; have hfz24_0 := y5 BK394.out 0; have hfz24_1 := y5 BK394.out 1; have hfz24_2 := y5 BK394.out 2; have hfz24_3 := y5 BK394.out 3))
     refine bodyPost_ret (y02 rfl _ _ gb394 33 #[.bool true, .int .i64 t398, .slice Ao22 t399.length co22, .int .i64 0] (0, 0) _ rfl (by (with_reducible repeat (first | refine z5 ?_ _ | refine y6 ?_ | refine y4 ?_ _)); refine qc (cs := #[.bool true, .int .i64 t398, .slice Ao22 t399.length co22, .int .i64 0]) ?_ 3 _ rfl; (with_reducible repeat (first | refine z5 ?_ _ | refine y6 ?_ | refine y4 ?_ _)); refine qc (cs := #[.bool true, .int .i64 t398, .slice none 0 0, .int .i64 0]) ?_ 2 _ rfl; (with_reducible repeat (first | refine z5 ?_ _ | refine y6 ?_ | refine y4 ?_ _)); refine qc (cs := #[.bool true, .int .i64 0, .slice none 0 0, .int .i64 0]) ?_ 1 _ rfl; (with_reducible repeat (first | refine z5 ?_ _ | refine y6 ?_ | refine y4 ?_ _)); refine qc (cs := #[.bool false, .int .i64 0, .slice none 0 0, .int .i64 0]) ?_ 0 _ rfl; (with_reducible repeat (first | refine z5 ?_ _ | refine y6 ?_ | refine y4 ?_ _)); refine zd ?_ NB394_395.out _; (with_reducible repeat (first | refine z5 ?_ _ | refine y6 ?_ | refine y4 ?_ _)); refine zd ?_ NB394_395.out _; (with_reducible repeat (first | refine z5 ?_ _ | refine y6 ?_ | refine y4 ?_ _)); refine zd ?_ NB394_395.out _; (with_reducible repeat (first | refine z5 ?_ _ | refine y6 ?_ | refine y4 ?_ _)); refine zd ?_ NB394_403.out _; (with_reducible repeat (first | refine z5 ?_ _ | refine y6 ?_ | refine y4 ?_ _)); refine zd ?_ NB394_403.out _; (with_reducible repeat (first | refine z5 ?_ _ | refine y6 ?_ | refine y4 ?_ _)); exact BK394.out) Try.underlying33 rfl (by kernel_rfl)) rfl ?_
     exact ⟨_, by first | rfl | (simp [ya, qa] <;> rfl) | (simp [*, ya, qa] <;> rfl), by (with_reducible repeat (first | apply Kd.R_alloc | apply Kd.y9 | apply Kd.zb)); exact Kd.yk (Kd.zf (p := ⟨gb394, 3, none⟩) (Kd.zf (p := ⟨gb394, 2, none⟩) (Kd.zf (p := ⟨gb394, 1, none⟩) (Kd.zf (p := ⟨gb394, 0, none⟩) (Kd.zf (p := ⟨gb395, 2, none⟩) (Kd.zf (p := ⟨gb395, 1, none⟩) (Kd.zf (p := ⟨gb395, 0, none⟩) (Kd.zf (p := ⟨gb403, 1, none⟩) (Kd.zf (p := ⟨gb403, 0, none⟩) (Kd.qp (Kd.qp (Kd.qp HO401.out BK403.out (by decide)) BK395.out (by decide)) BK394.out (by decide)) (fun _ hk => hk.1.1.2) (.int .i64 t398)) (fun _ hk => hk.1.1.2) (.slice Ao22 t399.length co22)) (fun _ hk => hk.1.2) (.bool true)) (fun _ hk => hk.1.2) (.int .i64 t398)) (fun _ hk => hk.1.2) (.slice Ao22 t399.length co22)) (fun _ hk => hk.2) (.bool true)) (fun _ hk => hk.2) (.int .i64 t398)) (fun _ hk => hk.2) (.slice Ao22 t399.length co22)) (fun _ hk => hk.2) (.int .i64 0)) (fun _ hk => trivial), by repeat (first | (with_reducible first | exact HB.out | apply z4 | apply z1 | apply z3 | refine z7 ?_ GE394.out | refine z7 ?_ GE395.out | refine z7 ?_ GE403.out) | exact HB.out)⟩
    ·rw [if_neg c10] at H
     exact absurd H (by simp)
   ·rw [if_neg c9] at H
    have c9b0 : ((rd l0 0) == 1) = false := beq_eq_false_iff_ne.mpr c9
    have c9b1 : ((rd l0 0) != 1) = true := bne_iff_ne.mpr c9
    have HC25 := z2.mk H
    clear H
    go_enter Try.func58, Try.ntmps58
    go_upto_region 9 with (first | ((with_reducible refine ye (N := 2) rfl ?_); (try (refine yw (by rfl) ?_; dsimp only)); refine ze ?hg (N := 2) ?hd (cs := #[.bool false, .int .i64 0, .slice none 0 0, .int .i64 0]) (t := 33) ?hr ?_; (case hd => rfl); (case hg => rfl); (case hr => first | (go_simp; done) | (go_simp; rfl)); intro gb394 hg w26 hbox hb; have n0_ := z2.mk (y8 (by repeat (first | (with_reducible first | exact HB.out | apply z4 | apply z1 | apply z3) | exact HB.out)) hb); have n1_ := z2.mk (hbox); have n2_ := z2.mk ((by rw [hg]; exact (z8 (by repeat (first | (with_reducible first | exact HB.out | apply z4 | apply z1 | apply z3) | exact HB.out))) : w.heap.size ≤ gb394)); have n3_ := z2.mk ((by rw [hg]; exact (z8 (by repeat (first | (with_reducible first | exact HB.out | apply z4 | apply z1 | apply z3) | exact HB.out))) : w.heap.size ≤ gb394)); clear HB; have HB := n0_; have BK394 := n1_; have GW394 := n2_; have GE394 := n3_; clear n0_ n1_ n2_ n3_ hb hbox hg) | ((with_reducible refine ye (N := 4) rfl ?_); (try (refine yw (by rfl) ?_; dsimp only)); refine ze ?hg (N := 4) ?hd (cs := #[.bool false, .int .i64 0, .slice none 0 0, .int .i64 0]) (t := 33) ?hr ?_; (case hd => rfl); (case hg => rfl); (case hr => first | (go_simp; done) | (go_simp; rfl)); intro gb395 hg w27 hbox hb; have n0_ := z2.mk (z9 (g := gb394) (o := .cells #[.bool false, .int .i64 0, .slice none 0 0, .int .i64 0] 33 (0, 0)) (by (with_reducible repeat (first | refine z5 ?_ _ | refine y6 ?_ | refine y4 ?_ _)); exact BK394.out) hb); have n1_ := z2.mk (y8 (by repeat (first | (with_reducible first | exact HB.out | apply z4 | apply z1 | apply z3 | refine z7 ?_ GE394.out) | exact HB.out)) hb); have n2_ := z2.mk (hbox); have n3_ := z2.mk ((by rw [hg]; exact (z8 (by repeat (first | (with_reducible first | exact HB.out | apply z4 | apply z1 | apply z3 | refine z7 ?_ GE394.out) | exact HB.out))) : w.heap.size ≤ gb395)); have n4_ := z2.mk ((by rw [hg]; exact (z8 (by repeat (first | (with_reducible first | exact HB.out | apply z4 | apply z1 | apply z3 | refine z7 ?_ GE394.out) | exact HB.out))) : w.heap.size ≤ gb395)); have n5_ := z2.mk ((by rw [hg]; exact Nat.ne_of_lt (qk (g := gb394) (o := .cells #[.bool false, .int .i64 0, .slice none 0 0, .int .i64 0] 33 (0, 0)) (by (with_reducible repeat (first | refine z5 ?_ _ | refine y6 ?_ | refine y4 ?_ _)); exact BK394.out)) : gb394 ≠ gb395)); have n6_ := z2.mk ((by rw [hg]; exact Nat.ne_of_gt (qk (g := gb394) (o := .cells #[.bool false, .int .i64 0, .slice none 0 0, .int .i64 0] 33 (0, 0)) (by (with_reducible repeat (first | refine z5 ?_ _ | refine y6 ?_ | refine y4 ?_ _)); exact BK394.out)) : gb395 ≠ gb394)); clear BK394 HB; have BK394 := n0_; have HB := n1_; have BK395 := n2_; have GW395 := n3_; have GE395 := n4_; have NB394_395 := n5_; have NB395_394 := n6_; clear n0_ n1_ n2_ n3_ n4_ n5_ n6_ hb hbox hg; have hnb28 := NB395_394.out; have hnc28 := NB394_395.out; have hcz29_0 : w27.cell? ⟨gb395, 0, none⟩ = some (.bool false) := (z6 BK395.out 0).trans rfl; have hcz29_1 : w27.cell? ⟨gb395, 1, none⟩ = some (.int .i64 0) := (z6 BK395.out 1).trans rfl; have hcz29_2 : w27.cell? ⟨gb395, 2, none⟩ = some (.slice none 0 0) := (z6 BK395.out 2).trans rfl; have hcz29_3 : w27.cell? ⟨gb395, 3, none⟩ = some (.int .i64 0) := (z6 BK395.out 3).trans rfl; have hfz29_0 := y5 BK395.out 0; have hfz29_1 := y5 BK395.out 1; have hfz29_2 := y5 BK395.out 2; have hfz29_3 := y5 BK395.out 3; have p396 : 0 ≤ (0 : Int) := (by omega); have q396 : 0 < (l0.length : Int) := of_decide_eq_true (by first | (with_reducible assumption) | assumption); obtain ⟨ad396, e396, hx396_0⟩ := Kd.q07 HR0.out 0 p396 q396; cases e396; have qi396 : (0 < l0.length) = True := eq_true (by omega); (try rw [show ((0 : Int)).toNat = 0 from rfl] at hx396_0); (try rw [Addr.add_zero'] at hx396_0); have hn396_0 : ad396.block ≠ gb395 := Nat.ne_of_lt (Nat.lt_of_lt_of_le (by have := World.block_lt_of_cell? _ _ hx396_0; first | rwa [add_block] at this | exact this) GW395.out); have hn396_1 : ad396.block ≠ gb395 := Nat.ne_of_lt (Nat.lt_of_lt_of_le (by have := World.block_lt_of_cell? _ _ hx396_0; first | rwa [add_block] at this | exact this) GW395.out); have hn396_2 : ad396.block ≠ gb395 := Nat.ne_of_lt (Nat.lt_of_lt_of_le (by have := World.block_lt_of_cell? _ _ hx396_0; first | rwa [add_block] at this | exact this) GW395.out); have hn396_3 : ad396.block ≠ gb395 := Nat.ne_of_lt (Nat.lt_of_lt_of_le (by have := World.block_lt_of_cell? _ _ hx396_0; first | rwa [add_block] at this | exact this) GW395.out); replace hx396_0 := (HB.out.cell (World.block_lt_of_cell? w _ hx396_0)).trans hx396_0; replace hx396_0 := (cell_far (p := ⟨gb395, 0, none⟩) (by first | (rw [add_block]; exact hn396_0) | (show (Addr.add _ _).block ≠ _; rw [add_block]; exact hn396_0) | exact hn396_0) (.bool false)).trans hx396_0; replace hx396_0 := (cell_far (p := ⟨gb395, 1, none⟩) (by first | (rw [add_block]; exact hn396_1) | (show (Addr.add _ _).block ≠ _; rw [add_block]; exact hn396_1) | exact hn396_1) (.int .i64 0)).trans hx396_0; replace hx396_0 := (cell_far (p := ⟨gb395, 2, none⟩) (by first | (rw [add_block]; exact hn396_2) | (show (Addr.add _ _).block ≠ _; rw [add_block]; exact hn396_2) | exact hn396_2) (.slice none 0 0)).trans hx396_0; replace hx396_0 := (cell_far (p := ⟨gb395, 3, none⟩) (by first | (rw [add_block]; exact hn396_3) | (show (Addr.add _ _).block ≠ _; rw [add_block]; exact hn396_3) | exact hn396_3) (.int .i64 0)).trans hx396_0; clear hn396_0 hn396_1 hn396_2 hn396_3; replace p396 := eq_true p396; replace q396 := eq_true q396))
    (try simp only [Act.put, List.setIfInBounds_toArray, List.set_cons_zero, List.set_cons_succ])
    go_cut [35] (fun v35 wc => ∃ (kq : Nat) (x35_24 : Bool), v35 = .bool x35_24 ∧ z2 (zl.j0 kq l0 x35_24 false 0 0 = some (r1, r2, r3, r4, r5)) ∧ z2 (kq ≤ k) ∧ z2 (wc.heap[gb394]? = some (.cells #[.bool false, .int .i64 0, (.slice none 0 0), .int .i64 0] 33 (0, 0))) ∧ z2 (wc.heap[gb395]? = some (.cells #[.bool false, .int .i64 0, (.slice none 0 0), .int .i64 0] 33 (0, 0))) ∧ z2 (Below w.heap.size w wc))
    case first =>
     have H := HC25.out
     clear HC25
     by_cases c30 : (rd l0 0) = 2
     ·rw [if_pos c30] at H
      have c30b0 : ((rd l0 0) == 2) = true := beq_iff_eq.mpr c30
      have c30b1 : ((rd l0 0) != 2) = false := bne_eq_false_iff_eq.mpr c30
      clear c30
      (first | rw [c30b0] | (simp only [yg, qg]; rw [c30b0]) | skip)
      have H' := z2.mk H
      clear H
      have p404 : 0 ≤ (0 : Int) := (by omega)
      have q404 : 0 < (l0.length : Int) := of_decide_eq_true (by first | (with_reducible assumption) | assumption)
      obtain ⟨ad404, e404, hx404_0⟩ := Kd.q07 HR0.out 0 p404 q404
      obtain rfl : ad396 = ad404 := (by injection e404)
      have qi404 : (0 < l0.length) = True := eq_true (by omega)
      (try rw [show ((0 : Int)).toNat = 0 from rfl] at hx404_0)
      (try rw [Addr.add_zero'] at hx404_0)
      have hn404_0 : ad396.block ≠ gb395 := Nat.ne_of_lt (Nat.lt_of_lt_of_le (by have := World.block_lt_of_cell? _ _ hx404_0; first | rwa [add_block] at this | exact this) GW395.out)
      have hn404_1 : ad396.block ≠ gb395 := Nat.ne_of_lt (Nat.lt_of_lt_of_le (by have := World.block_lt_of_cell? _ _ hx404_0; first | rwa [add_block] at this | exact this) GW395.out)
      have hn404_2 : ad396.block ≠ gb395 := Nat.ne_of_lt (Nat.lt_of_lt_of_le (by have := World.block_lt_of_cell? _ _ hx404_0; first | rwa [add_block] at this | exact this) GW395.out)
      have hn404_3 : ad396.block ≠ gb395 := Nat.ne_of_lt (Nat.lt_of_lt_of_le (by have := World.block_lt_of_cell? _ _ hx404_0; first | rwa [add_block] at this | exact this) GW395.out)
      replace hx404_0 := (HB.out.cell (World.block_lt_of_cell? w _ hx404_0)).trans hx404_0
      replace hx404_0 := (cell_far (p := ⟨gb395, 0, none⟩) (by first | (rw [add_block]; exact hn404_0) | (show (Addr.add _ _).block ≠ _; rw [add_block]; exact hn404_0) | exact hn404_0) (.bool false)).trans hx404_0
      replace hx404_0 := (cell_far (p := ⟨gb395, 1, none⟩) (by first | (rw [add_block]; exact hn404_1) | (show (Addr.add _ _).block ≠ _; rw [add_block]; exact hn404_1) | exact hn404_1) (.int .i64 0)).trans hx404_0
      replace hx404_0 := (cell_far (p := ⟨gb395, 2, none⟩) (by first | (rw [add_block]; exact hn404_2) | (show (Addr.add _ _).block ≠ _; rw [add_block]; exact hn404_2) | exact hn404_2) (.slice none 0 0)).trans hx404_0
      replace hx404_0 := (cell_far (p := ⟨gb395, 3, none⟩) (by first | (rw [add_block]; exact hn404_3) | (show (Addr.add _ _).block ≠ _; rw [add_block]; exact hn404_3) | exact hn404_3) (.int .i64 0)).trans hx404_0
      clear hn404_0
      clear hn404_1
      clear hn404_2
      clear hn404_3
      replace p404 := eq_true p404
      replace q404 := eq_true q404
      go_wp2
      go_meet
      case rel => exact ⟨_, (((l0.length : Int) != 10)), (by first | rfl | (simp; done) | (simp [*]; done)), H', ⟨by first | omega | exact Nat.le_refl _⟩, ⟨by (with_reducible repeat (first | refine z5 ?_ _ | refine y6 ?_ | refine y4 ?_ _)); refine zd ?_ NB394_395.out _; (with_reducible repeat (first | refine z5 ?_ _ | refine y6 ?_ | refine y4 ?_ _)); refine zd ?_ NB394_395.out _; (with_reducible repeat (first | refine z5 ?_ _ | refine y6 ?_ | refine y4 ?_ _)); refine zd ?_ NB394_395.out _; (with_reducible repeat (first | refine z5 ?_ _ | refine y6 ?_ | refine y4 ?_ _)); refine zd ?_ NB394_395.out _; (with_reducible repeat (first | refine z5 ?_ _ | refine y6 ?_ | refine y4 ?_ _)); exact BK394.out⟩, ⟨by (with_reducible repeat (first | refine z5 ?_ _ | refine y6 ?_ | refine y4 ?_ _)); refine qc (cs := #[.bool false, .int .i64 0, .slice none 0 0, .int .i64 0]) ?_ 3 _ rfl; (with_reducible repeat (first | refine z5 ?_ _ | refine y6 ?_ | refine y4 ?_ _)); refine qc (cs := #[.bool false, .int .i64 0, .slice none 0 0, .int .i64 0]) ?_ 2 _ rfl; (with_reducible repeat (first | refine z5 ?_ _ | refine y6 ?_ | refine y4 ?_ _)); refine qc (cs := #[.bool false, .int .i64 0, .slice none 0 0, .int .i64 0]) ?_ 1 _ rfl; (with_reducible repeat (first | refine z5 ?_ _ | refine y6 ?_ | refine y4 ?_ _)); refine qc (cs := #[.bool false, .int .i64 0, .slice none 0 0, .int .i64 0]) ?_ 0 _ rfl; (with_reducible repeat (first | refine z5 ?_ _ | refine y6 ?_ | refine y4 ?_ _)); exact BK395.out⟩, ⟨by repeat (first | (with_reducible first | exact HB.out | apply z4 | apply z1 | apply z3 | refine z7 ?_ GE394.out | refine z7 ?_ GE395.out) | exact HB.out)⟩⟩
     ·rw [if_neg c30] at H
      have c30b0 : ((rd l0 0) == 2) = false := beq_eq_false_iff_ne.mpr c30
      have c30b1 : ((rd l0 0) != 2) = true := bne_iff_ne.mpr c30
      (first | rw [c30b0] | (simp only [yg, qg]; rw [c30b0]) | skip)
      have H' := z2.mk H
      clear H
      have p404 : 0 ≤ (0 : Int) := (by omega)
      have q404 : 0 < (l0.length : Int) := of_decide_eq_true (by first | (with_reducible assumption) | assumption)
      obtain ⟨ad404, e404, hx404_0⟩ := Kd.q07 HR0.out 0 p404 q404
      obtain rfl : ad396 = ad404 := (by injection e404)
      have qi404 : (0 < l0.length) = True := eq_true (by omega)
      (try rw [show ((0 : Int)).toNat = 0 from rfl] at hx404_0)
      (try rw [Addr.add_zero'] at hx404_0)
      have hn404_0 : ad396.block ≠ gb395 := Nat.ne_of_lt (Nat.lt_of_lt_of_le (by have := World.block_lt_of_cell? _ _ hx404_0; first | rwa [add_block] at this | exact this) GW395.out)
      have hn404_1 : ad396.block ≠ gb395 := Nat.ne_of_lt (Nat.lt_of_lt_of_le (by have := World.block_lt_of_cell? _ _ hx404_0; first | rwa [add_block] at this | exact this) GW395.out)
      have hn404_2 : ad396.block ≠ gb395 := Nat.ne_of_lt (Nat.lt_of_lt_of_le (by have := World.block_lt_of_cell? _ _ hx404_0; first | rwa [add_block] at this | exact this) GW395.out)
      have hn404_3 : ad396.block ≠ gb395 := Nat.ne_of_lt (Nat.lt_of_lt_of_le (by have := World.block_lt_of_cell? _ _ hx404_0; first | rwa [add_block] at this | exact this) GW395.out)
      replace hx404_0 := (HB.out.cell (World.block_lt_of_cell? w _ hx404_0)).trans hx404_0
      replace hx404_0 := (cell_far (p := ⟨gb395, 0, none⟩) (by first | (rw [add_block]; exact hn404_0) | (show (Addr.add _ _).block ≠ _; rw [add_block]; exact hn404_0) | exact hn404_0) (.bool false)).trans hx404_0
      replace hx404_0 := (cell_far (p := ⟨gb395, 1, none⟩) (by first | (rw [add_block]; exact hn404_1) | (show (Addr.add _ _).block ≠ _; rw [add_block]; exact hn404_1) | exact hn404_1) (.int .i64 0)).trans hx404_0
      replace hx404_0 := (cell_far (p := ⟨gb395, 2, none⟩) (by first | (rw [add_block]; exact hn404_2) | (show (Addr.add _ _).block ≠ _; rw [add_block]; exact hn404_2) | exact hn404_2) (.slice none 0 0)).trans hx404_0
      replace hx404_0 := (cell_far (p := ⟨gb395, 3, none⟩) (by first | (rw [add_block]; exact hn404_3) | (show (Addr.add _ _).block ≠ _; rw [add_block]; exact hn404_3) | exact hn404_3) (.int .i64 0)).trans hx404_0
      clear hn404_0
      clear hn404_1
      clear hn404_2
      clear hn404_3
      replace p404 := eq_true p404
      replace q404 := eq_true q404
      go_wp2
      go_meet
      case rel => exact ⟨_, (true), (by first | rfl | (simp; done) | (simp [*]; done)), H', ⟨by first | omega | exact Nat.le_refl _⟩, ⟨by (with_reducible repeat (first | refine z5 ?_ _ | refine y6 ?_ | refine y4 ?_ _)); refine zd ?_ NB394_395.out _; (with_reducible repeat (first | refine z5 ?_ _ | refine y6 ?_ | refine y4 ?_ _)); refine zd ?_ NB394_395.out _; (with_reducible repeat (first | refine z5 ?_ _ | refine y6 ?_ | refine y4 ?_ _)); refine zd ?_ NB394_395.out _; (with_reducible repeat (first | refine z5 ?_ _ | refine y6 ?_ | refine y4 ?_ _)); refine zd ?_ NB394_395.out _; (with_reducible repeat (first | refine z5 ?_ _ | refine y6 ?_ | refine y4 ?_ _)); exact BK394.out⟩, ⟨by (with_reducible repeat (first | refine z5 ?_ _ | refine y6 ?_ | refine y4 ?_ _)); refine qc (cs := #[.bool false, .int .i64 0, .slice none 0 0, .int .i64 0]) ?_ 3 _ rfl; (with_reducible repeat (first | refine z5 ?_ _ | refine y6 ?_ | refine y4 ?_ _)); refine qc (cs := #[.bool false, .int .i64 0, .slice none 0 0, .int .i64 0]) ?_ 2 _ rfl; (with_reducible repeat (first | refine z5 ?_ _ | refine y6 ?_ | refine y4 ?_ _)); refine qc (cs := #[.bool false, .int .i64 0, .slice none 0 0, .int .i64 0]) ?_ 1 _ rfl; (with_reducible repeat (first | refine z5 ?_ _ | refine y6 ?_ | refine y4 ?_ _)); refine qc (cs := #[.bool false, .int .i64 0, .slice none 0 0, .int .i64 0]) ?_ 0 _ rfl; (with_reducible repeat (first | refine z5 ?_ _ | refine y6 ?_ | refine y4 ?_ _)); exact BK395.out⟩, ⟨by repeat (first | (with_reducible first | exact HB.out | apply z4 | apply z1 | apply z3 | refine z7 ?_ GE394.out | refine z7 ?_ GE395.out) | exact HB.out)⟩⟩
    case rest =>
     clear HC25
     try clear c1
     try clear c2
     try clear c2b0
     try clear c2b1
     try clear c2b2
     try clear p2
     try clear c3
     try clear p3
     try clear q3
     try clear hx3
     try clear qi3
     try clear p4
     try clear q4
     try clear hx4
     try clear qi4
     try clear c5
     try clear c8
     try clear c8b0
     try clear c8b1
     try clear c9
     try clear c9b0
     try clear c9b1
     try clear c10
     try clear c10b0
     try clear c10b1
     try clear c14
     try clear c19
     try clear c20
     try clear c28
     try clear c30
     try clear c30b0
     try clear c30b1
     try clear hcz15_0
     try clear hcz15_1
     try clear hcz15_2
     try clear hcz15_3
     try clear hcz21_0
     try clear hcz21_1
     try clear hcz23_0
     try clear hcz23_1
     try clear hcz23_2
     try clear hcz23_3
     try clear hcz24_0
     try clear hcz24_1
     try clear hcz24_2
     try clear hcz24_3
     try clear hcz29_0
     try clear hcz29_1
     try clear hcz29_2
     try clear hcz29_3
     try clear hcz6_0
     try clear hcz6_1
     try clear hcz6_2
     try clear hcz6_3
     try clear hcz7_0
     try clear hcz7_1
     try clear hcz7_2
     try clear hcz7_3
     try clear hfz15_0
     try clear hfz15_1
     try clear hfz15_2
     try clear hfz15_3
     try clear hfz21_0
     try clear hfz21_1
     try clear hfz23_0
     try clear hfz23_1
     try clear hfz23_2
     try clear hfz23_3
     try clear hfz24_0
     try clear hfz24_1
     try clear hfz24_2
     try clear hfz24_3
     try clear hfz29_0
     try clear hfz29_1
     try clear hfz29_2
     try clear hfz29_3
     try clear hfz6_0
     try clear hfz6_1
     try clear hfz6_2
     try clear hfz6_3
     try clear hfz7_0
     try clear hfz7_1
     try clear hfz7_2
     try clear hfz7_3
     try clear hx396_0
     try clear hx404_0
     try clear p396
     try clear p404
     try clear q396
     try clear q404
     obtain ⟨kq, x35_24, rfl, HA, HJ24, BK394, BK395, HB⟩ := hcut
     cases kq with
     | zero => exact absurd HA.out (by simp [zl.j0])
     | succ kj24 =>
      have H := HA.out
      clear HA
      simp only [zl.j0] at H
      by_cases c31 : x35_24 = true
      ·subst c31
       have H1 : (some (false, 0, ([] : List (yl)), 0, false)) = some (r1, r2, r3, r4, r5) := by rw [if_pos rfl] at H; exact H
       clear H
       have H := H1
       clear H1
       simp only [Option.some.injEq, Prod.mk.injEq] at H
       obtain ⟨rfl, rfl, rfl, rfl, rfl⟩ := H
       have hnb32 := NB395_394.out
       have hnc32 := NB394_395.out
       have hcz33_0 : wc.cell? ⟨gb395, 0, none⟩ = some (.bool false) := (z6 BK395.out 0).trans rfl
       have hcz33_1 : wc.cell? ⟨gb395, 1, none⟩ = some (.int .i64 0) := (z6 BK395.out 1).trans rfl
       have hcz33_2 : wc.cell? ⟨gb395, 2, none⟩ = some (.slice none 0 0) := (z6 BK395.out 2).trans rfl
       have hcz33_3 : wc.cell? ⟨gb395, 3, none⟩ = some (.int .i64 0) := (z6 BK395.out 3).trans rfl
       have hfz33_0 := y5 BK395.out 0
       have hfz33_1 := y5 BK395.out 1
       have hfz33_2 := y5 BK395.out 2
       have hfz33_3 := y5 BK395.out 3
       have hcz34_0 : wc.cell? ⟨gb394, 0, none⟩ = some (.bool false) := (z6 BK394.out 0).trans rfl
       have hcz34_1 : wc.cell? ⟨gb394, 1, none⟩ = some (.int .i64 0) := (z6 BK394.out 1).trans rfl
       have hcz34_2 : wc.cell? ⟨gb394, 2, none⟩ = some (.slice none 0 0) := (z6 BK394.out 2).trans rfl
       have hcz34_3 : wc.cell? ⟨gb394, 3, none⟩ = some (.int .i64 0) := (z6 BK394.out 3).trans rfl
       have hfz34_0 := y5 BK394.out 0
       have hfz34_1 := y5 BK394.out 1
       have hfz34_2 := y5 BK394.out 2
       have hfz34_3 := y5 BK394.out 3
       go_wp2
       refine bodyPost_ret (y02 rfl _ _ gb394 33 #[.bool false, .int .i64 0, .slice none 0 0, .int .i64 0] (0, 0) _ rfl (by (with_reducible repeat (first | refine z5 ?_ _ | refine y6 ?_ | refine y4 ?_ _)); refine qc (cs := #[.bool false, .int .i64 0, .slice none 0 0, .int .i64 0]) ?_ 3 _ rfl; (with_reducible repeat (first | refine z5 ?_ _ | refine y6 ?_ | refine y4 ?_ _)); refine qc (cs := #[.bool false, .int .i64 0, .slice none 0 0, .int .i64 0]) ?_ 2 _ rfl; (with_reducible repeat (first | refine z5 ?_ _ | refine y6 ?_ | refine y4 ?_ _)); refine qc (cs := #[.bool false, .int .i64 0, .slice none 0 0, .int .i64 0]) ?_ 1 _ rfl; (with_reducible repeat (first | refine z5 ?_ _ | refine y6 ?_ | refine y4 ?_ _)); refine qc (cs := #[.bool false, .int .i64 0, .slice none 0 0, .int .i64 0]) ?_ 0 _ rfl; (with_reducible repeat (first | refine z5 ?_ _ | refine y6 ?_ | refine y4 ?_ _)); exact BK394.out) Try.underlying33 rfl (by kernel_rfl)) rfl ?_
       exact ⟨_, by first | rfl | (simp [ya, qa] <;> rfl) | (simp [*, ya, qa] <;> rfl), by first | exact Kd.z0n _ _ _ _ _ | exact Kd.N_nil _ _ _ _ _ | exact Kd.V_nil _ _ _ _ _ | exact Kd.Q_nil _ _ _ _ _ | exact Kd.S_nil _ _ _ _ _, by repeat (first | (with_reducible first | exact HB.out | apply z4 | apply z1 | apply z3 | refine z7 ?_ GE394.out | refine z7 ?_ GE395.out) | exact HB.out)⟩
      ·replace c31 := Bool.eq_false_iff.mpr c31
       subst c31
       have H1 : (if 1 ≤ 9 then (if 9 ≤ (l0.length : Int) then ((zn.f kj24 ((l0.take 9).drop 1)).bind fun t406 => (if 9 < (l0.length : Int) then ((yj.f kj24 false t406 ([] : List (yl)) (wrap64 (rd l0 9))).bind fun t408 => (some (false, t406, ([] : List (yl)), wrap64 (rd l0 9), (t408 == 0)))) else (none))) else (none)) else (none)) = some (r1, r2, r3, r4, r5) := by rw [if_neg (show ¬ (false = true) by decide)] at H; exact H
       clear H
       have H := H1
       clear H1
       by_cases c35 : 1 ≤ 9
       ·rw [if_pos c35] at H
        have c35b0 := eq_true c35
        have c35b1 : decide (1 ≤ 9) = true := decide_eq_true c35
        clear c35
        by_cases c36 : 9 ≤ (l0.length : Int)
        ·rw [if_pos c36] at H
         have c36b0 := eq_true c36
         have c36b1 : decide (9 ≤ (l0.length : Int)) = true := decide_eq_true c36
         clear c36
         replace H := Option.bind_eq_some_iff.mp H
         obtain ⟨t406, A370, H⟩ := H
         replace H : (if 9 < (l0.length : Int) then ((yj.f kj24 false t406 ([] : List (yl)) (wrap64 (rd l0 9))).bind fun t408 => (some (false, t406, ([] : List (yl)), wrap64 (rd l0 9), (t408 == 0)))) else (none)) = some (r1, r2, r3, r4, r5) := H
         have A37 := z2.mk A370
         clear A370
         by_cases c38 : 9 < (l0.length : Int)
         ·rw [if_pos c38] at H
          have c38b0 : decide (9 < (l0.length : Int)) = true := decide_eq_true c38
          have c38b1 : decide (9 < l0.length) = true := decide_eq_true (by omega)
          clear c38
          replace H := Option.bind_eq_some_iff.mp H
          obtain ⟨t408, A390, H⟩ := H
          replace H : (some (false, t406, ([] : List (yl)), wrap64 (rd l0 9), (t408 == 0))) = some (r1, r2, r3, r4, r5) := H
          have A39 := z2.mk A390
          clear A390
          simp only [Option.some.injEq, Prod.mk.injEq] at H
          obtain ⟨rfl, rfl, rfl, rfl, rfl⟩ := H
          obtain ⟨i040, hi040, _, hsz40, _⟩ := info_parts y0f
          obtain ⟨A40, hcut40, hA40, hC40⟩ := y0e (P := Try.prog) (Value.int .u8) 0 37 5 .i64 .i64 Try.underlying37 hi040 hsz40 (some ad396) c0 l0 1 9 (by omega) (by first | omega | exact of_decide_eq_true (by first | (with_reducible assumption) | assumption)) (of_decide_eq_true (by first | (with_reducible assumption) | assumption)) HC0.out
          have HR405 := z2.mk (Kd.z05 (h1 := fun _ => rfl) (hA40 _ (Kd.z02 HR0.out)))
          have HC405 := z2.mk hC40
          clear hA40 hC40 hi040 hsz40
          try go_wp2_with (first | ((with_reducible refine qb (f := 108) rfl ?_); refine zm (some 39) rfl rfl Try.func108 (by kernel_rfl) rfl #[.slice A40 ((l0.take 9).drop 1).length (c0 - 1)] rfl (by (try simp only [List.map_toArray, List.map_cons, List.map_nil]); first | done | (rw [show ((l0.take 9).drop 1).length = (9 - 1) from (by rw [List.length_drop, List.length_take]; have h_ : (9 : Int) ≤ (l0.length : Int) := of_decide_eq_true (by first | (with_reducible assumption) | assumption); omega)] <;> rfl) | rfl | (simp only [List.length_drop, List.length_take]; rfl)) ?_; (with_reducible refine (zn.calls kj24 _ _ ((l0.take 9).drop 1) t406 _ ?side1 ?side2 A37.out).mono ?_); (case side1 => repeat (first | exact (Kd.yp HR405.out HB.out) | (with_reducible refine Kd.yi ?_ _) | (with_reducible refine Kd.qi ?_ _) | (with_reducible refine Kd.C_drew ?_))); (case side2 => exact HC405.out); rintro e w' ⟨rfl, ⟨nd, rfl⟩⟩; refine ⟨_, rfl, ?_⟩; (try (rw [z0m wc]; generalize hq_ : World.drewN wc _ = wc; have n0_ : z2 (wc.heap[gb394]? = some (.cells #[.bool false, .int .i64 0, .slice none 0 0, .int .i64 0] 33 (0, 0))) := ⟨by rw [← hq_]; exact (by (with_reducible repeat (first | refine z5 ?_ _ | refine y6 ?_ | refine y4 ?_ _)); exact BK394.out)⟩; have n1_ : z2 (wc.heap[gb395]? = some (.cells #[.bool false, .int .i64 0, .slice none 0 0, .int .i64 0] 33 (0, 0))) := ⟨by rw [← hq_]; exact (by (with_reducible repeat (first | refine z5 ?_ _ | refine y6 ?_ | refine y4 ?_ _)); exact BK395.out)⟩; have n2_ : z2 (Below w.heap.size w wc) := ⟨by rw [← hq_]; exact (by repeat (first | (with_reducible first | exact HB.out | apply z4 | apply z1 | apply z3 | refine z7 ?_ GE394.out | refine z7 ?_ GE395.out) | exact HB.out))⟩; clear BK394 BK395 HB hq_; have BK394 := n0_; have BK395 := n1_; have HB := n2_; clear n0_ n1_ n2_)); have hnb41 := NB395_394.out; have hnc41 := NB394_395.out; have hcz42_0 : wc.cell? ⟨gb395, 0, none⟩ = some (.bool false) := (z6 BK395.out 0).trans rfl; have hcz42_1 : wc.cell? ⟨gb395, 1, none⟩ = some (.int .i64 0) := (z6 BK395.out 1).trans rfl; have hcz42_2 : wc.cell? ⟨gb395, 2, none⟩ = some (.slice none 0 0) := (z6 BK395.out 2).trans rfl; have hcz42_3 : wc.cell? ⟨gb395, 3, none⟩ = some (.int .i64 0) := (z6 BK395.out 3).trans rfl; have hfz42_0 := y5 BK395.out 0; have hfz42_1 := y5 BK395.out 1; have hfz42_2 := y5 BK395.out 2; have hfz42_3 := y5 BK395.out 3; have p407 : 0 ≤ (9 : Int) := (by omega); have q407 : 9 < (l0.length : Int) := of_decide_eq_true (by first | (with_reducible assumption) | assumption); obtain ⟨ad407, e407, hx407_0⟩ := Kd.q07 HR0.out 9 p407 q407; obtain rfl : ad396 = ad407 := (by injection e407); (try simp only [show (9 : Int).toNat = 9 from rfl, Nat.reduceMul, Nat.reduceEqDiff, Go.Addr.add, ↓reduceIte] at hx407_0); have qi407 : (9 < l0.length) = True := eq_true (by omega); (try rw [show ((9 : Int)).toNat = 9 from rfl] at hx407_0); have hn407_0 : ad396.block ≠ gb395 := Nat.ne_of_lt (Nat.lt_of_lt_of_le (by have := World.block_lt_of_cell? _ _ hx407_0; first | rwa [add_block] at this | exact this) GW395.out); replace hx407_0 := (HB.out.cell (World.block_lt_of_cell? w _ hx407_0)).trans hx407_0; replace hx407_0 := (cell_far (p := ⟨gb395, 1, none⟩) (by first | (rw [add_block]; exact hn407_0) | (show (Addr.add _ _).block ≠ _; rw [add_block]; exact hn407_0) | exact hn407_0) (.int .i64 t406)).trans hx407_0; clear hn407_0; replace p407 := eq_true p407; replace q407 := eq_true q407))
          have n0_ : z2 (((wc.setCell ⟨gb395, 1, none⟩ (.int .i64 t406)).setCell ⟨gb395, 3, none⟩ (.int .i64 (wrap64 (rd l0 9)))).heap[gb394]? = some (.cells #[.bool false, .int .i64 0, .slice none 0 0, .int .i64 0] 33 (0, 0))) := ⟨by (with_reducible repeat (first | refine z5 ?_ _ | refine y6 ?_ | refine y4 ?_ _)); refine zd ?_ NB394_395.out _; (with_reducible repeat (first | refine z5 ?_ _ | refine y6 ?_ | refine y4 ?_ _)); refine zd ?_ NB394_395.out _; (with_reducible repeat (first | refine z5 ?_ _ | refine y6 ?_ | refine y4 ?_ _)); exact BK394.out⟩
          have n1_ : z2 (((wc.setCell ⟨gb395, 1, none⟩ (.int .i64 t406)).setCell ⟨gb395, 3, none⟩ (.int .i64 (wrap64 (rd l0 9)))).heap[gb395]? = some (.cells #[.bool false, .int .i64 t406, .slice none 0 0, .int .i64 (wrap64 (rd l0 9))] 33 (0, 0))) := ⟨by (with_reducible repeat (first | refine z5 ?_ _ | refine y6 ?_ | refine y4 ?_ _)); refine qc (cs := #[.bool false, .int .i64 t406, .slice none 0 0, .int .i64 0]) ?_ 3 _ rfl; (with_reducible repeat (first | refine z5 ?_ _ | refine y6 ?_ | refine y4 ?_ _)); refine qc (cs := #[.bool false, .int .i64 0, .slice none 0 0, .int .i64 0]) ?_ 1 _ rfl; (with_reducible repeat (first | refine z5 ?_ _ | refine y6 ?_ | refine y4 ?_ _)); exact BK395.out⟩
          have n2_ : z2 (Below w.heap.size w ((wc.setCell ⟨gb395, 1, none⟩ (.int .i64 t406)).setCell ⟨gb395, 3, none⟩ (.int .i64 (wrap64 (rd l0 9))))) := ⟨by repeat (first | (with_reducible first | exact HB.out | apply z4 | apply z1 | apply z3 | refine z7 ?_ GE394.out | refine z7 ?_ GE395.out) | exact HB.out)⟩
          (try clear BK394)
          (try clear BK395)
          (try clear HB)
          generalize ((wc.setCell ⟨gb395, 1, none⟩ (.int .i64 t406)).setCell ⟨gb395, 3, none⟩ (.int .i64 (wrap64 (rd l0 9)))) = w43 at n0_ n1_ n2_ ⊢
          have BK394 := n0_
          have BK395 := n1_
          have HB := n2_
          clear n0_ n1_ n2_
          have n0_ := z2.mk (y6 BK394.out)
          have n1_ := z2.mk (y6 BK395.out)
          have n2_ := z2.mk (z3 HB.out)
          clear BK394
          clear BK395
          clear HB
          have BK394 := n0_
          have BK395 := n1_
          have HB := n2_
          clear n0_ n1_ n2_
          refine z0f (n := 6) (S := fun w' => w'.cell? ⟨gb395, 0, none⟩ = some (.bool false) ∧ w'.cell? ⟨gb395, 1, none⟩ = some (.int .i64 t406) ∧ w'.cell? ⟨gb395, 2, none⟩ = some (.slice none 0 0) ∧ w'.cell? ⟨gb395, 3, none⟩ = some (.int .i64 (wrap64 (rd l0 9)))) (ds := []) #[false, false, false, false, false, false] (by kernel_rfl) rfl rfl ⟨(z6 BK395.out 0).trans rfl, (z6 BK395.out 1).trans rfl, (z6 BK395.out 2).trans rfl, (z6 BK395.out 3).trans rfl⟩ (fun hHeld => ?_)
          generalize w43.drew = w44 at BK394 BK395 HB hHeld ⊢
          refine y04 (i := 0) (N := some 47) (v := ?_) (a' := ?_) #[true, false, false, false, false, false] rfl rfl (by kernel_rfl) (fun _ _ _ h => h) (Or.inl ⟨by rfl, ?_⟩) hHeld ?_ ?_
          rotate_left
          ·rintro w' ⟨s0, s1, s2, s3⟩
           go_simp
           with_reducible rfl
          rotate_left
          ·simp only [Act.put, List.setIfInBounds_toArray, List.set_cons_zero, List.set_cons_succ, yg, qg]
           rfl
          refine y04 (i := 1) (N := some 48) (v := ?_) (a' := ?_) #[true, true, false, false, false, false] rfl rfl (by kernel_rfl) (fun _ _ _ h => h) (Or.inl ⟨by rfl, ?_⟩) hHeld ?_ ?_
          rotate_left
          ·rintro w' ⟨s0, s1, s2, s3⟩
           go_simp
           with_reducible rfl
          rotate_left
          ·simp only [Act.put, List.setIfInBounds_toArray, List.set_cons_zero, List.set_cons_succ, yg, qg]
           rfl
          refine q0j (i := 2) (N := some 49) #[true, true, true, false, false, false] rfl rfl (by kernel_rfl) (by decide) (fun K hK => ?_)
          refine y0g Try.func9 (by kernel_rfl) rfl #[.agg #[.bool false, .int .i64 t406, .slice none 0 0, .int .i64 (wrap64 (rd l0 9))]] (by rfl) rfl rfl (by (try simp only [List.map_toArray, List.map_cons, List.map_nil]); first | done | rfl | (simp only [List.length_drop, List.length_take]; rfl)) ?_
          refine (yj.calls kj24 false t406 _ _ ([] : List (yl)) (wrap64 (rd l0 9)) t408 _ ?side1 ?side2 A39.out).mono ?_
          (case side1 => exact Kd.z1i _ _)
          (case side2 => exact Nat.le_refl _)
          rintro e w45 ⟨rfl, hb⟩
          refine ⟨_, rfl, ?_⟩
          have n0_ := z2.mk (z9 (g := gb394) (o := .cells #[.bool false, .int .i64 0, .slice none 0 0, .int .i64 0] 33 (0, 0)) (by (with_reducible repeat (first | refine z5 ?_ _ | refine y6 ?_ | refine y4 ?_ _)); exact BK394.out) hb)
          have n1_ := z2.mk (z9 (g := gb395) (o := .cells #[.bool false, .int .i64 t406, .slice none 0 0, .int .i64 (wrap64 (rd l0 9))] 33 (0, 0)) (by (with_reducible repeat (first | refine z5 ?_ _ | refine y6 ?_ | refine y4 ?_ _)); exact BK395.out) hb)
          have n2_ := z2.mk (y8 (by repeat (first | (with_reducible first | exact HB.out | apply z4 | apply z1 | apply z3 | refine z7 ?_ GE394.out | refine z7 ?_ GE395.out) | exact HB.out)) hb)
          clear BK394
          clear BK395
          clear HB
          have BK394 := n0_
          have BK395 := n1_
          have HB := n2_
          clear n0_ n1_ n2_
          (try clear hb)
          (try clear hb2)
          (try clear hk)
          (try clear hi)
          refine hK.out _ _ ⟨(z6 BK395.out 0).trans rfl, (z6 BK395.out 1).trans rfl, (z6 BK395.out 2).trans rfl, (z6 BK395.out 3).trans rfl⟩ (fun hHeld => ?_)
          clear hK K
          refine zx (a' := ?_) ?_ ?_
          rotate_left
          ·show Act.put _ (some 49) _ = _
           simp only [Act.put, List.setIfInBounds_toArray, List.set_cons_zero, List.set_cons_succ, yg, qg]
           rfl
          refine yo (i := 3) (N := some 50) (v := ?_) (a' := ?_) #[true, true, true, true, false, false] rfl rfl (by kernel_rfl) (fun _ _ _ h => h) (Or.inl ⟨by rfl, ?_⟩) ?_ ?_
          rotate_left
          ·intro w'
           go_simp
           with_reducible rfl
          rotate_left
          ·simp only [Act.put, List.setIfInBounds_toArray, List.set_cons_zero, List.set_cons_succ, yg, qg]
           rfl
          refine q0j (i := 4) (N := none) #[true, true, true, true, true, false] rfl rfl (by kernel_rfl) (by decide) (fun K hK => ?_)
          have hs46 : w45.cell? ⟨gb394, 0, none⟩ = some (.bool false) := (z6 BK394.out 0).trans rfl
          have hfs46 := y5 BK394.out 0
          have hns46_1 := NB395_394.out
          have hms46_1 := NB394_395.out
          have hs47 : w45.cell? ⟨gb394, 1, none⟩ = some (.int .i64 0) := (z6 BK394.out 1).trans rfl
          have hfs47 := y5 BK394.out 1
          have hns47_1 := NB395_394.out
          have hms47_1 := NB394_395.out
          have hs48 : w45.cell? ⟨gb394, 2, none⟩ = some (.slice none 0 0) := (z6 BK394.out 2).trans rfl
          have hfs48 := y5 BK394.out 2
          have hns48_1 := NB395_394.out
          have hms48_1 := NB394_395.out
          have hs49 : w45.cell? ⟨gb394, 3, none⟩ = some (.int .i64 0) := (z6 BK394.out 3).trans rfl
          have hfs49 := y5 BK394.out 3
          have hns49_1 := NB395_394.out
          have hms49_1 := NB394_395.out
          refine q0v (w1 := ?_) (by rfl) rfl ?_ ?_
          rotate_left
          ·go_simp
           rfl
          refine hK.out _ _ ⟨((cell_far (p := ⟨gb394, _, none⟩) NB395_394.out _).trans (((cell_far (p := ⟨gb394, _, none⟩) NB395_394.out _).trans (((cell_far (p := ⟨gb394, _, none⟩) NB395_394.out _).trans (((cell_far (p := ⟨gb394, _, none⟩) NB395_394.out _).trans (hHeld.1)))))))), ((cell_far (p := ⟨gb394, _, none⟩) NB395_394.out _).trans (((cell_far (p := ⟨gb394, _, none⟩) NB395_394.out _).trans (((cell_far (p := ⟨gb394, _, none⟩) NB395_394.out _).trans (((cell_far (p := ⟨gb394, _, none⟩) NB395_394.out _).trans (hHeld.2.1)))))))), ((cell_far (p := ⟨gb394, _, none⟩) NB395_394.out _).trans (((cell_far (p := ⟨gb394, _, none⟩) NB395_394.out _).trans (((cell_far (p := ⟨gb394, _, none⟩) NB395_394.out _).trans (((cell_far (p := ⟨gb394, _, none⟩) NB395_394.out _).trans (hHeld.2.2.1)))))))), ((cell_far (p := ⟨gb394, _, none⟩) NB395_394.out _).trans (((cell_far (p := ⟨gb394, _, none⟩) NB395_394.out _).trans (((cell_far (p := ⟨gb394, _, none⟩) NB395_394.out _).trans (((cell_far (p := ⟨gb394, _, none⟩) NB395_394.out _).trans (hHeld.2.2.2))))))))⟩ (fun hHeld => ?_)
          clear hK K
          refine yo (i := 5) (N := some 3) (v := ?_) (a' := ?_) #[true, true, true, true, true, true] rfl rfl (by kernel_rfl) (fun _ _ _ h => h) (Or.inl ⟨by rfl, ?_⟩) ?_ ?_
          rotate_left
          ·intro w'
           go_simp
           with_reducible rfl
          rotate_left
          ·simp only [Act.put, List.setIfInBounds_toArray, List.set_cons_zero, List.set_cons_succ, yg, qg]
           rfl
          refine y0n (by kernel_rfl) ?_
          try go_wp2
          refine bodyPost_ret (y02 rfl _ _ gb394 33 #[.bool false, .int .i64 t406, .slice none 0 0, .int .i64 (wrap64 (rd l0 9))] (0, 0) _ rfl (by (with_reducible repeat (first | refine z5 ?_ _ | refine y6 ?_ | refine y4 ?_ _)); refine qc (cs := #[.bool false, .int .i64 t406, .slice none 0 0, .int .i64 0]) ?_ 3 _ rfl; (with_reducible repeat (first | refine z5 ?_ _ | refine y6 ?_ | refine y4 ?_ _)); refine qc (cs := #[.bool false, .int .i64 t406, .slice none 0 0, .int .i64 0]) ?_ 2 _ rfl; (with_reducible repeat (first | refine z5 ?_ _ | refine y6 ?_ | refine y4 ?_ _)); refine qc (cs := #[.bool false, .int .i64 0, .slice none 0 0, .int .i64 0]) ?_ 1 _ rfl; (with_reducible repeat (first | refine z5 ?_ _ | refine y6 ?_ | refine y4 ?_ _)); refine qc (cs := #[.bool false, .int .i64 0, .slice none 0 0, .int .i64 0]) ?_ 0 _ rfl; (with_reducible repeat (first | refine z5 ?_ _ | refine y6 ?_ | refine y4 ?_ _)); exact BK394.out) Try.underlying33 rfl (by kernel_rfl)) rfl ?_
          exact ⟨_, by first | rfl | (simp [ya, qa] <;> rfl) | (simp [*, ya, qa] <;> rfl), by first | exact Kd.z0n _ _ _ _ _ | exact Kd.N_nil _ _ _ _ _ | exact Kd.V_nil _ _ _ _ _ | exact Kd.Q_nil _ _ _ _ _ | exact Kd.S_nil _ _ _ _ _, by repeat (first | (with_reducible first | exact HB.out | apply z4 | apply z1 | apply z3 | refine z7 ?_ GE394.out | refine z7 ?_ GE395.out) | exact HB.out)⟩
         ·rw [if_neg c38] at H
          exact absurd H (by simp)
        ·rw [if_neg c36] at H
         exact absurd H (by simp)
       ·rw [if_neg c35] at H
        exact absurd H (by simp)
  ·rw [if_neg c8] at H
   exact absurd H (by simp)
end Go.Proofs.Ytkeojolmapcgbaa.PEv
end
section
namespace Go.Proofs.Ytkeojolmapcgbaa.PEv
open Go.RowKit Go.Proofs.YtkeojolmapcgbaaW.PrintWords Go.Proofs.YtkeojolmapcgbaaW.PrintLast Go.Proofs.YtkeojolmapcgbaaW.PrintMore
set_option linter.unusedVariables false
set_option linter.unusedSimpArgs false
def zz.f (k : Nat) (l0 : List Int) : Option (Int × Bool × Int × (List (yl)) × Int) := (zl.f k l0).bind fun bt410 => (if bt410.2.2.2.2 = true then (some (0, bt410.1, bt410.2.1, bt410.2.2.1, bt410.2.2.2.1)) else (some (5, false, 0, ([] : List (yl)), 0)))
set_option maxHeartbeats 8000000 in
set_option maxRecDepth 100000 in
theorem zz.calls (k : Nat) (A0 : Option Addr) (c0 : Nat) (l0 : List Int) (r1 : Int) (r2 : Bool) (r3 : Int) (r4 : List (yl)) (r5 : Int) (w : World) (hr0 : Kd.C (Kd.int .u8) w A0 l0.length l0) (hc0 : l0.length ≤ c0) (h : zz.f k l0 = some (r1, r2, r3, r4, r5)) :
  Calls Try.prog 19 #[.slice A0 l0.length c0] w fun e w' => ∃ v3_ : Value, e = .returned (.agg #[.int .i64 r1, .bool r2, .int .i64 r3, v3_, .int .i64 r5]) ∧ Kd.R y08 138 w' w.heap.size (fun _ => True) v3_ r4 ∧ Below w.heap.size w w' := by
 have hu45 := Try.underlying45
 have hu33 := Try.underlying33
 have HR0 := z2.mk hr0
 have HC0 := z2.mk hc0
 clear hr0 hc0
 have HB := z2.mk (Below.refl w.heap.size w)
 have H : ((zl.f k l0).bind fun bt410 => (if bt410.2.2.2.2 = true then (some (0, bt410.1, bt410.2.1, bt410.2.2.1, bt410.2.2.2.1)) else (some (5, false, 0, ([] : List (yl)), 0)))) = some (r1, r2, r3, r4, r5) := h
 clear h
 replace H := Option.bind_eq_some_iff.mp H
 obtain ⟨⟨t410, t411, t412, t415, t416⟩, A20, H⟩ := H
 replace H : (if t416 = true then (some (0, t410, t411, t412, t415)) else (some (5, false, 0, ([] : List (yl)), 0))) = some (r1, r2, r3, r4, r5) := H
 have A2 := z2.mk A20
 clear A20
 by_cases c3 : t416 = true
 ·subst c3
  have H1 : (some (0, t410, t411, t412, t415)) = some (r1, r2, r3, r4, r5) := by rw [if_pos rfl] at H; exact H
  clear H
  have H := H1
  clear H1
  simp only [Option.some.injEq, Prod.mk.injEq] at H
  obtain ⟨rfl, rfl, rfl, rfl, rfl⟩ := H
  go_enter Try.func19, Try.ntmps19
  go_wp2_with (first | ((with_reducible refine ye (N := 2) rfl ?_); refine ze ?hg (N := 2) ?hd (cs := #[.int .i64 0, .bool false, .int .i64 0, .slice none 0 0, .int .i64 0]) (t := 45) ?hr ?_; (case hd => rfl); (case hg => rfl); (case hr => first | (go_simp; done) | (go_simp; rfl)); intro gb409 hg w4 hbox hb; have n0_ := z2.mk (y8 (by repeat (first | (with_reducible first | exact HB.out | apply z4 | apply z1 | apply z3) | exact HB.out)) hb); have n1_ := z2.mk (hbox); have n2_ := z2.mk ((by rw [hg]; exact (z8 (by repeat (first | (with_reducible first | exact HB.out | apply z4 | apply z1 | apply z3) | exact HB.out))) : w.heap.size ≤ gb409)); have n3_ := z2.mk ((by rw [hg]; exact (z8 (by repeat (first | (with_reducible first | exact HB.out | apply z4 | apply z1 | apply z3) | exact HB.out))) : w.heap.size ≤ gb409)); clear HB; have HB := n0_; have BK409 := n1_; have GW409 := n2_; have GE409 := n3_; clear n0_ n1_ n2_ n3_ hb hbox hg) | ((with_reducible refine qb (f := 58) rfl ?_); refine zm (some 7) rfl rfl Try.func58 (by kernel_rfl) rfl #[.slice A0 l0.length c0] rfl (by (try simp only [List.map_toArray, List.map_cons, List.map_nil]); first | done | rfl | (simp only [List.length_drop, List.length_take]; rfl)) ?_; (with_reducible refine (zl.calls k _ _ l0 t410 t411 t412 t415 true _ ?side1 ?side2 A2.out).mono ?_); (case side1 => repeat (first | exact (Kd.yp HR0.out HB.out) | (with_reducible refine Kd.yi ?_ _) | (with_reducible refine Kd.qi ?_ _) | (with_reducible refine Kd.C_drew ?_))); (case side2 => exact HC0.out); rintro e w5 ⟨v413, rfl, ho0, hb⟩; refine ⟨_, rfl, ?_⟩; have n0_ := z2.mk (Kd.yr ho0 (z8 (by repeat (first | (with_reducible first | exact HB.out | apply z4 | apply z1 | apply z3 | refine z7 ?_ GE409.out) | exact HB.out)))); have n1_ := z2.mk (z9 (g := gb409) (o := .cells #[.int .i64 0, .bool false, .int .i64 0, .slice none 0 0, .int .i64 0] 45 (0, 0)) (by (with_reducible repeat (first | refine z5 ?_ _ | refine y6 ?_ | refine y4 ?_ _)); exact BK409.out) hb); have n2_ := z2.mk (y8 (by repeat (first | (with_reducible first | exact HB.out | apply z4 | apply z1 | apply z3 | refine z7 ?_ GE409.out) | exact HB.out)) hb); clear BK409 HB; have HO414 := n0_; have BK409 := n1_; have HB := n2_; clear n0_ n1_ n2_; (try clear hb); (try clear hb2); (try clear hk); (try clear hi); (try clear ho0)) | ((with_reducible refine ye (N := 3) rfl ?_); refine ze ?hg (N := 3) ?hd (cs := #[.bool false, .int .i64 0, .slice none 0 0, .int .i64 0]) (t := 33) ?hr ?_; (case hd => rfl); (case hg => rfl); (case hr => first | (go_simp; done) | (go_simp; rfl)); intro gb417 hg w6 hbox hb; have n0_ := z2.mk (Kd.qf (by (with_reducible repeat (first | apply Kd.R_alloc | apply Kd.y9 | apply Kd.zb)); exact HO414.out) hb); have n1_ := z2.mk (z9 (g := gb409) (o := .cells #[.int .i64 0, .bool false, .int .i64 0, .slice none 0 0, .int .i64 0] 45 (0, 0)) (by (with_reducible repeat (first | refine z5 ?_ _ | refine y6 ?_ | refine y4 ?_ _)); exact BK409.out) hb); have n2_ := z2.mk (y8 (by repeat (first | (with_reducible first | exact HB.out | apply z4 | apply z1 | apply z3 | refine z7 ?_ GE409.out) | exact HB.out)) hb); have n3_ := z2.mk (hbox); have n4_ := z2.mk ((by rw [hg]; exact (z8 (by repeat (first | (with_reducible first | exact HB.out | apply z4 | apply z1 | apply z3 | refine z7 ?_ GE409.out) | exact HB.out))) : w.heap.size ≤ gb417)); have n5_ := z2.mk ((by rw [hg]; exact (z8 (by repeat (first | (with_reducible first | exact HB.out | apply z4 | apply z1 | apply z3 | refine z7 ?_ GE409.out) | exact HB.out))) : w.heap.size ≤ gb417)); have n6_ := z2.mk ((by rw [hg]; exact Nat.ne_of_lt (qk (g := gb409) (o := .cells #[.int .i64 0, .bool false, .int .i64 0, .slice none 0 0, .int .i64 0] 45 (0, 0)) (by (with_reducible repeat (first | refine z5 ?_ _ | refine y6 ?_ | refine y4 ?_ _)); exact BK409.out)) : gb409 ≠ gb417)); have n7_ := z2.mk ((by rw [hg]; exact Nat.ne_of_gt (qk (g := gb409) (o := .cells #[.int .i64 0, .bool false, .int .i64 0, .slice none 0 0, .int .i64 0] 45 (0, 0)) (by (with_reducible repeat (first | refine z5 ?_ _ | refine y6 ?_ | refine y4 ?_ _)); exact BK409.out)) : gb417 ≠ gb409)); clear HO414 BK409 HB; have HO414 := n0_; have BK409 := n1_; have HB := n2_; have BK417 := n3_; have GW417 := n4_; have GE417 := n5_; have NB409_417 := n6_; have NB417_409 := n7_; clear n0_ n1_ n2_ n3_ n4_ n5_ n6_ n7_ hb hbox hg; have hnb7 := NB417_409.out; have hnc7 := NB409_417.out; have hcz8_0 : w6.cell? ⟨gb417, 0, none⟩ = some (.bool false) := (z6 BK417.out 0).trans rfl; have hcz8_1 : w6.cell? ⟨gb417, 1, none⟩ = some (.int .i64 0) := (z6 BK417.out 1).trans rfl; have hcz8_2 : w6.cell? ⟨gb417, 2, none⟩ = some (.slice none 0 0) := (z6 BK417.out 2).trans rfl; have hcz8_3 : w6.cell? ⟨gb417, 3, none⟩ = some (.int .i64 0) := (z6 BK417.out 3).trans rfl; have hfz8_0 := y5 BK417.out 0; have hfz8_1 := y5 BK417.out 1; have hfz8_2 := y5 BK417.out 2; have hfz8_3 := y5 BK417.out 3; obtain ⟨Ao9, co9, eo9⟩ := Kd.zt HO414.out; subst eo9; have hcz10_0 : w6.cell? ⟨gb409, 0, none⟩ = some (.int .i64 0) := (z6 BK409.out 0).trans rfl; have hcz10_1 : w6.cell? ⟨gb409, 1, none⟩ = some (.bool false) := (z6 BK409.out 1).trans rfl; have hcz10_2 : w6.cell? ⟨gb409, 2, none⟩ = some (.int .i64 0) := (z6 BK409.out 2).trans rfl; have hcz10_3 : w6.cell? ⟨gb409, 3, none⟩ = some (.slice none 0 0) := (z6 BK409.out 3).trans rfl; have hcz10_4 : w6.cell? ⟨gb409, 4, none⟩ = some (.int .i64 0) := (z6 BK409.out 4).trans rfl; have hfz10_0 := y5 BK409.out 0; have hfz10_1 := y5 BK409.out 1; have hfz10_2 := y5 BK409.out 2; have hfz10_3 := y5 BK409.out 3; have hfz10_4 := y5 BK409.out 4))
  refine bodyPost_ret (results_cell_row rfl _ _ gb409 45 #[.int .i64 0, .bool t410, .int .i64 t411, .slice Ao9 t412.length co9, .int .i64 t415] (0, 0) _ rfl (by (with_reducible repeat (first | refine z5 ?_ _ | refine y6 ?_ | refine y4 ?_ _)); refine qc (cs := #[.int .i64 0, .bool t410, .int .i64 t411, .slice Ao9 t412.length co9, .int .i64 0]) ?_ 4 _ rfl; (with_reducible repeat (first | refine z5 ?_ _ | refine y6 ?_ | refine y4 ?_ _)); refine qc (cs := #[.int .i64 0, .bool t410, .int .i64 t411, .slice none 0 0, .int .i64 0]) ?_ 3 _ rfl; (with_reducible repeat (first | refine z5 ?_ _ | refine y6 ?_ | refine y4 ?_ _)); refine qc (cs := #[.int .i64 0, .bool t410, .int .i64 0, .slice none 0 0, .int .i64 0]) ?_ 2 _ rfl; (with_reducible repeat (first | refine z5 ?_ _ | refine y6 ?_ | refine y4 ?_ _)); refine qc (cs := #[.int .i64 0, .bool false, .int .i64 0, .slice none 0 0, .int .i64 0]) ?_ 1 _ rfl; (with_reducible repeat (first | refine z5 ?_ _ | refine y6 ?_ | refine y4 ?_ _)); refine qc (cs := #[.int .i64 0, .bool false, .int .i64 0, .slice none 0 0, .int .i64 0]) ?_ 0 _ rfl; (with_reducible repeat (first | refine z5 ?_ _ | refine y6 ?_ | refine y4 ?_ _)); refine zd ?_ NB409_417.out _; (with_reducible repeat (first | refine z5 ?_ _ | refine y6 ?_ | refine y4 ?_ _)); refine zd ?_ NB409_417.out _; (with_reducible repeat (first | refine z5 ?_ _ | refine y6 ?_ | refine y4 ?_ _)); refine zd ?_ NB409_417.out _; (with_reducible repeat (first | refine z5 ?_ _ | refine y6 ?_ | refine y4 ?_ _)); refine zd ?_ NB409_417.out _; (with_reducible repeat (first | refine z5 ?_ _ | refine y6 ?_ | refine y4 ?_ _)); exact BK409.out) Try.underlying45 rfl (by kernel_rfl)) rfl ?_
  exact ⟨_, by first | rfl | (simp [ya, qa] <;> rfl) | (simp [*, ya, qa] <;> rfl), by (with_reducible repeat (first | apply Kd.R_alloc | apply Kd.y9 | apply Kd.zb)); exact Kd.yk (Kd.zf (p := ⟨gb409, 4, none⟩) (Kd.zf (p := ⟨gb409, 3, none⟩) (Kd.zf (p := ⟨gb409, 2, none⟩) (Kd.zf (p := ⟨gb409, 1, none⟩) (Kd.zf (p := ⟨gb409, 0, none⟩) (Kd.zf (p := ⟨gb417, 3, none⟩) (Kd.zf (p := ⟨gb417, 2, none⟩) (Kd.zf (p := ⟨gb417, 1, none⟩) (Kd.zf (p := ⟨gb417, 0, none⟩) (Kd.qp (Kd.qp HO414.out BK417.out (by decide)) BK409.out (by decide)) (fun _ hk => hk.1.2) (.bool t410)) (fun _ hk => hk.1.2) (.int .i64 t411)) (fun _ hk => hk.1.2) (.slice Ao9 t412.length co9)) (fun _ hk => hk.1.2) (.int .i64 t415)) (fun _ hk => hk.2) (.int .i64 0)) (fun _ hk => hk.2) (.bool t410)) (fun _ hk => hk.2) (.int .i64 t411)) (fun _ hk => hk.2) (.slice Ao9 t412.length co9)) (fun _ hk => hk.2) (.int .i64 t415)) (fun _ hk => trivial), by repeat (first | (with_reducible first | exact HB.out | apply z4 | apply z1 | apply z3 | refine z7 ?_ GE409.out | refine z7 ?_ GE417.out) | exact HB.out)⟩
 ·replace c3 := Bool.eq_false_iff.mpr c3
  subst c3
  have H1 : (some (5, false, 0, ([] : List (yl)), 0)) = some (r1, r2, r3, r4, r5) := by rw [if_neg (show ¬ (false = true) by decide)] at H; exact H
  clear H
  have H := H1
  clear H1
  simp only [Option.some.injEq, Prod.mk.injEq] at H
  obtain ⟨rfl, rfl, rfl, rfl, rfl⟩ := H
  go_enter Try.func19, Try.ntmps19
  go_wp2_with (first | ((with_reducible refine ye (N := 2) rfl ?_); refine ze ?hg (N := 2) ?hd (cs := #[.int .i64 0, .bool false, .int .i64 0, .slice none 0 0, .int .i64 0]) (t := 45) ?hr ?_; (case hd => rfl); (case hg => rfl); (case hr => first | (go_simp; done) | (go_simp; rfl)); intro gb409 hg w11 hbox hb; have n0_ := z2.mk (y8 (by repeat (first | (with_reducible first | exact HB.out | apply z4 | apply z1 | apply z3) | exact HB.out)) hb); have n1_ := z2.mk (hbox); have n2_ := z2.mk ((by rw [hg]; exact (z8 (by repeat (first | (with_reducible first | exact HB.out | apply z4 | apply z1 | apply z3) | exact HB.out))) : w.heap.size ≤ gb409)); have n3_ := z2.mk ((by rw [hg]; exact (z8 (by repeat (first | (with_reducible first | exact HB.out | apply z4 | apply z1 | apply z3) | exact HB.out))) : w.heap.size ≤ gb409)); clear HB; have HB := n0_; have BK409 := n1_; have GW409 := n2_; have GE409 := n3_; clear n0_ n1_ n2_ n3_ hb hbox hg) | ((with_reducible refine qb (f := 58) rfl ?_); refine zm (some 7) rfl rfl Try.func58 (by kernel_rfl) rfl #[.slice A0 l0.length c0] rfl (by (try simp only [List.map_toArray, List.map_cons, List.map_nil]); first | done | rfl | (simp only [List.length_drop, List.length_take]; rfl)) ?_; (with_reducible refine (zl.calls k _ _ l0 t410 t411 t412 t415 false _ ?side1 ?side2 A2.out).mono ?_); (case side1 => repeat (first | exact (Kd.yp HR0.out HB.out) | (with_reducible refine Kd.yi ?_ _) | (with_reducible refine Kd.qi ?_ _) | (with_reducible refine Kd.C_drew ?_))); (case side2 => exact HC0.out); rintro e w12 ⟨v413, rfl, ho0, hb⟩; refine ⟨_, rfl, ?_⟩; have n0_ := z2.mk (Kd.yr ho0 (z8 (by repeat (first | (with_reducible first | exact HB.out | apply z4 | apply z1 | apply z3 | refine z7 ?_ GE409.out) | exact HB.out)))); have n1_ := z2.mk (z9 (g := gb409) (o := .cells #[.int .i64 0, .bool false, .int .i64 0, .slice none 0 0, .int .i64 0] 45 (0, 0)) (by (with_reducible repeat (first | refine z5 ?_ _ | refine y6 ?_ | refine y4 ?_ _)); exact BK409.out) hb); have n2_ := z2.mk (y8 (by repeat (first | (with_reducible first | exact HB.out | apply z4 | apply z1 | apply z3 | refine z7 ?_ GE409.out) | exact HB.out)) hb); clear BK409 HB; have HO414 := n0_; have BK409 := n1_; have HB := n2_; clear n0_ n1_ n2_; (try clear hb); (try clear hb2); (try clear hk); (try clear hi); (try clear ho0)) | ((with_reducible refine ye (N := 3) rfl ?_); refine ze ?hg (N := 3) ?hd (cs := #[.bool false, .int .i64 0, .slice none 0 0, .int .i64 0]) (t := 33) ?hr ?_; (case hd => rfl); (case hg => rfl); (case hr => first | (go_simp; done) | (go_simp; rfl)); intro gb417 hg w13 hbox hb; have n0_ := z2.mk (Kd.qf (by (with_reducible repeat (first | apply Kd.R_alloc | apply Kd.y9 | apply Kd.zb)); exact HO414.out) hb); have n1_ := z2.mk (z9 (g := gb409) (o := .cells #[.int .i64 0, .bool false, .int .i64 0, .slice none 0 0, .int .i64 0] 45 (0, 0)) (by (with_reducible repeat (first | refine z5 ?_ _ | refine y6 ?_ | refine y4 ?_ _)); exact BK409.out) hb); have n2_ := z2.mk (y8 (by repeat (first | (with_reducible first | exact HB.out | apply z4 | apply z1 | apply z3 | refine z7 ?_ GE409.out) | exact HB.out)) hb); have n3_ := z2.mk (hbox); have n4_ := z2.mk ((by rw [hg]; exact (z8 (by repeat (first | (with_reducible first | exact HB.out | apply z4 | apply z1 | apply z3 | refine z7 ?_ GE409.out) | exact HB.out))) : w.heap.size ≤ gb417)); have n5_ := z2.mk ((by rw [hg]; exact (z8 (by repeat (first | (with_reducible first | exact HB.out | apply z4 | apply z1 | apply z3 | refine z7 ?_ GE409.out) | exact HB.out))) : w.heap.size ≤ gb417)); have n6_ := z2.mk ((by rw [hg]; exact Nat.ne_of_lt (qk (g := gb409) (o := .cells #[.int .i64 0, .bool false, .int .i64 0, .slice none 0 0, .int .i64 0] 45 (0, 0)) (by (with_reducible repeat (first | refine z5 ?_ _ | refine y6 ?_ | refine y4 ?_ _)); exact BK409.out)) : gb409 ≠ gb417)); have n7_ := z2.mk ((by rw [hg]; exact Nat.ne_of_gt (qk (g := gb409) (o := .cells #[.int .i64 0, .bool false, .int .i64 0, .slice none 0 0, .int .i64 0] 45 (0, 0)) (by (with_reducible repeat (first | refine z5 ?_ _ | refine y6 ?_ | refine y4 ?_ _)); exact BK409.out)) : gb417 ≠ gb409)); clear HO414 BK409 HB; have HO414 := n0_; have BK409 := n1_; have HB := n2_; have BK417 := n3_; have GW417 := n4_; have GE417 := n5_; have NB409_417 := n6_; have NB417_409 := n7_; clear n0_ n1_ n2_ n3_ n4_ n5_ n6_ n7_ hb hbox hg; have hnb14 := NB417_409.out; have hnc14 := NB409_417.out; have hcz15_0 : w13.cell? ⟨gb417, 0, none⟩ = some (.bool false) := (z6 BK417.out 0).trans rfl; have hcz15_1 : w13.cell? ⟨gb417, 1, none⟩ = some (.int .i64 0) := (z6 BK417.out 1).trans rfl; have hcz15_2 : w13.cell? ⟨gb417, 2, none⟩ = some (.slice none 0 0) := (z6 BK417.out 2).trans rfl; have hcz15_3 : w13.cell? ⟨gb417, 3, none⟩ = some (.int .i64 0) := (z6 BK417.out 3).trans rfl; have hfz15_0 := y5 BK417.out 0; have hfz15_1 := y5 BK417.out 1; have hfz15_2 := y5 BK417.out 2; have hfz15_3 := y5 BK417.out 3; obtain ⟨Ao16, co16, eo16⟩ := Kd.zt HO414.out; subst eo16; have hcz17_0 : w13.cell? ⟨gb409, 0, none⟩ = some (.int .i64 0) := (z6 BK409.out 0).trans rfl; have hcz17_1 : w13.cell? ⟨gb409, 1, none⟩ = some (.bool false) := (z6 BK409.out 1).trans rfl; have hcz17_2 : w13.cell? ⟨gb409, 2, none⟩ = some (.int .i64 0) := (z6 BK409.out 2).trans rfl; have hcz17_3 : w13.cell? ⟨gb409, 3, none⟩ = some (.slice none 0 0) := (z6 BK409.out 3).trans rfl; have hcz17_4 : w13.cell? ⟨gb409, 4, none⟩ = some (.int .i64 0) := (z6 BK409.out 4).trans rfl; have hfz17_0 := y5 BK409.out 0; have hfz17_1 := y5 BK409.out 1; have hfz17_2 := y5 BK409.out 2; have hfz17_3 := y5 BK409.out 3; have hfz17_4 := y5 BK409.out 4))
  refine bodyPost_ret (results_cell_row rfl _ _ gb409 45 #[.int .i64 5, .bool false, .int .i64 0, .slice none 0 0, .int .i64 0] (0, 0) _ rfl (by (with_reducible repeat (first | refine z5 ?_ _ | refine y6 ?_ | refine y4 ?_ _)); refine qc (cs := #[.int .i64 5, .bool false, .int .i64 0, .slice none 0 0, .int .i64 0]) ?_ 4 _ rfl; (with_reducible repeat (first | refine z5 ?_ _ | refine y6 ?_ | refine y4 ?_ _)); refine qc (cs := #[.int .i64 5, .bool false, .int .i64 0, .slice none 0 0, .int .i64 0]) ?_ 3 _ rfl; (with_reducible repeat (first | refine z5 ?_ _ | refine y6 ?_ | refine y4 ?_ _)); refine qc (cs := #[.int .i64 5, .bool false, .int .i64 0, .slice none 0 0, .int .i64 0]) ?_ 2 _ rfl; (with_reducible repeat (first | refine z5 ?_ _ | refine y6 ?_ | refine y4 ?_ _)); refine qc (cs := #[.int .i64 5, .bool false, .int .i64 0, .slice none 0 0, .int .i64 0]) ?_ 1 _ rfl; (with_reducible repeat (first | refine z5 ?_ _ | refine y6 ?_ | refine y4 ?_ _)); refine qc (cs := #[.int .i64 0, .bool false, .int .i64 0, .slice none 0 0, .int .i64 0]) ?_ 0 _ rfl; (with_reducible repeat (first | refine z5 ?_ _ | refine y6 ?_ | refine y4 ?_ _)); refine zd ?_ NB409_417.out _; (with_reducible repeat (first | refine z5 ?_ _ | refine y6 ?_ | refine y4 ?_ _)); refine zd ?_ NB409_417.out _; (with_reducible repeat (first | refine z5 ?_ _ | refine y6 ?_ | refine y4 ?_ _)); refine zd ?_ NB409_417.out _; (with_reducible repeat (first | refine z5 ?_ _ | refine y6 ?_ | refine y4 ?_ _)); refine zd ?_ NB409_417.out _; (with_reducible repeat (first | refine z5 ?_ _ | refine y6 ?_ | refine y4 ?_ _)); exact BK409.out) Try.underlying45 rfl (by kernel_rfl)) rfl ?_
  exact ⟨_, by first | rfl | (simp [ya, qa] <;> rfl) | (simp [*, ya, qa] <;> rfl), by first | exact Kd.z0n _ _ _ _ _ | exact Kd.N_nil _ _ _ _ _ | exact Kd.V_nil _ _ _ _ _ | exact Kd.Q_nil _ _ _ _ _ | exact Kd.S_nil _ _ _ _ _, by repeat (first | (with_reducible first | exact HB.out | apply z4 | apply z1 | apply z3 | refine z7 ?_ GE409.out | refine z7 ?_ GE417.out) | exact HB.out)⟩
def zk.l0 : Nat → List Int → List Int → Int → Option (List Int)
 | 0, _, _, _ => none
 | k + 1, x0, x3, x4 => if x4 < (x0.length : Int) then (if 0 ≤ x4 then (if x4 < (x3.length : Int) then (zk.l0 k x0 (x3.set (x4 : Int).toNat (rd x0 x4)) (wrap64 (x4 + 1))) else (none)) else (none)) else (some x3)
def zk.f (k : Nat) (l0 : List Int) : Option (List Int) := if 0 ≤ (l0.length : Int) then (if ((l0.length : Int) : Int).toNat ≤ 281474976710656 then (zk.l0 k l0 (List.replicate ((l0.length : Int) : Int).toNat 0) 0) else (none)) else (none)
set_option maxHeartbeats 8000000 in
set_option maxRecDepth 100000 in
theorem zk.calls (k : Nat) (A0 : Option Addr) (c0 : Nat) (l0 : List Int) (r : List Int) (w : World) (hr0 : Kd.C (Kd.int .u8) w A0 l0.length l0) (hc0 : l0.length ≤ c0) (h : zk.f k l0 = some r) :
  Calls Try.prog 20 #[.slice A0 l0.length c0] w fun e w' => ∃ v0_ : Value, e = .returned (v0_) ∧ Kd.R (Kd.int .u8) 5 w' w.heap.size (fun _ => True) v0_ r ∧ Below w.heap.size w w' := by
 have HR0 := z2.mk hr0
 have HC0 := z2.mk hc0
 clear hr0 hc0
 have HB := z2.mk (Below.refl w.heap.size w)
 have H : (if 0 ≤ (l0.length : Int) then (if ((l0.length : Int) : Int).toNat ≤ 281474976710656 then (zk.l0 k l0 (List.replicate ((l0.length : Int) : Int).toNat 0) 0) else (none)) else (none)) = some r := h
 clear h
 by_cases c2 : 0 ≤ (l0.length : Int)
 ·rw [if_pos c2] at H
  have c2b0 := eq_true c2
  have c2b1 : decide (0 ≤ (l0.length : Int)) = true := decide_eq_true c2
  clear c2
  by_cases c3 : ((l0.length : Int) : Int).toNat ≤ 281474976710656
  ·rw [if_pos c3] at H
   have c3b0 := eq_true c3
   have c3b1 : decide (((l0.length : Int) : Int).toNat ≤ 281474976710656) = true := decide_eq_true c3
   clear c3
   obtain ⟨y418, hy418⟩ : ∃ y_ : List Int, y_ = (List.replicate ((l0.length : Int) : Int).toNat 0) := ⟨_, rfl⟩
   replace H : (zk.l0 k l0 y418 0) = some r := by first | (rw [hy418]; with_reducible exact H) | (have H2_ := (Option.bind_some _ _).symm.trans H; rw [hy418]; with_reducible exact H2_) | (have H2_ := (Option.bind_some _ _).symm.trans H; with_reducible exact H2_) | with_reducible exact H | (rw [hy418]; exact H) | exact H
   have Ny418 := z2.mk hy418
   clear hy418
   have H' := z2.mk H
   clear H
   go_enter Try.func20, Try.ntmps20
   go_wp2_with (first | ((with_reducible refine ye (N := 7) rfl ?_); refine Kd.q1t (Kd.int .u8) _ 5 rfl (N := 7) rfl 37 _ _ rfl (l0.length : Int) rfl rfl Try.underlying37 (.int .u8 0) 1 y0f rfl (by decide) (by omega) 0 (ok := fun _ => True) (okp := fun _ => True) rfl (fun _ hk => hk) trivial (of_decide_eq_true (by first | (with_reducible assumption) | assumption)) (Nat.le_trans (Nat.mul_le_mul_right _ (of_decide_eq_true (by first | (with_reducible assumption) | assumption) : (l0.length : Int).toNat ≤ 281474976710656)) (by omega)) (Below.refl _ _) (Nat.le_refl _) ?_; intro v419 w4 ho5 hb hg_ hnew_; clear hg_ hnew_; (first | rw [← Ny418.out] at ho5 | (simp only [Int.reduceToNat] at ho5; rw [← Ny418.out] at ho5)); have n0_ := z2.mk (Kd.yr ho5 (z8 (by repeat (first | (with_reducible first | exact HB.out | apply z4 | apply z1 | apply z3) | exact HB.out)))); have n1_ := z2.mk (y8 (by repeat (first | (with_reducible first | exact HB.out | apply z4 | apply z1 | apply z3) | exact HB.out)) hb); clear HB; have HO420 := n0_; have HB := n1_; clear n0_ n1_ hb ho5))
   go_loopg [4] k (fun kq v4 w' => ∃ (x3_1 : List Int) (x4_1 : Int), v4 = .int .i64 x4_1 ∧ z2 (zk.l0 kq l0 x3_1 x4_1 = some r) ∧ z2 (kq ≤ k) ∧ z2 (Kd.R (Kd.int .u8) 5 w' w.heap.size (fun _ => True) v419 x3_1) ∧ z2 (Below w.heap.size w w'))
   case atStart => exact ⟨(y418), (0), (by first | rfl | (simp; done) | (simp [*]; done)), H', ⟨Nat.le_refl _⟩, ⟨by (with_reducible repeat (first | apply Kd.R_alloc | apply Kd.y9 | apply Kd.zb)); exact HO420.out⟩, ⟨by repeat (first | (with_reducible first | exact HB.out | apply z4 | apply z1 | apply z3) | exact HB.out)⟩⟩
   case round =>
    clear H'
    try clear c2
    try clear c2b0
    try clear c2b1
    try clear p2
    try clear c3
    try clear c3b0
    try clear c3b1
    obtain ⟨x3_1, x4_1, rfl, HA, HK1, HO_3, HB⟩ := hrel
    cases gk with
    | zero => exact absurd HA.out (by simp [zk.l0])
    | succ k1 =>
     have H := HA.out
     clear HA
     simp only [zk.l0] at H
     by_cases c6 : x4_1 < (l0.length : Int)
     ·rw [if_pos c6] at H
      have c6b0 : decide (x4_1 < (l0.length : Int)) = true := decide_eq_true c6
      clear c6
      by_cases c7 : 0 ≤ x4_1
      ·rw [if_pos c7] at H
       have c7b0 : decide (0 ≤ x4_1) = true := decide_eq_true c7
       clear c7
       by_cases c8 : x4_1 < (x3_1.length : Int)
       ·rw [if_pos c8] at H
        have c8b0 : decide (x4_1 < (x3_1.length : Int)) = true := decide_eq_true c8
        clear c8
        obtain ⟨y422, hy422⟩ : ∃ y_ : List Int, y_ = (x3_1.set (x4_1 : Int).toNat (rd l0 x4_1)) := ⟨_, rfl⟩
        replace H : (zk.l0 k1 l0 y422 (wrap64 (x4_1 + 1))) = some r := by first | (rw [hy422]; with_reducible exact H) | (have H2_ := (Option.bind_some _ _).symm.trans H; rw [hy422]; with_reducible exact H2_) | (have H2_ := (Option.bind_some _ _).symm.trans H; with_reducible exact H2_) | with_reducible exact H | (rw [hy422]; exact H) | exact H
        have Ny422 := z2.mk hy422
        clear hy422
        have H' := z2.mk H
        clear H
        have p421 : 0 ≤ (x4_1 : Int) := of_decide_eq_true (by first | (with_reducible assumption) | assumption)
        have q421 : x4_1 < (l0.length : Int) := of_decide_eq_true (by first | (with_reducible assumption) | assumption)
        obtain ⟨ad421, e421, hx421_0⟩ := Kd.q07 HR0.out x4_1 p421 q421
        cases e421
        replace hx421_0 := (HB.out.cell (World.block_lt_of_cell? w _ hx421_0)).trans hx421_0
        replace p421 := eq_true p421
        replace q421 := eq_true q421
        have p9 : 0 ≤ (x4_1 : Int) := of_decide_eq_true (by first | (with_reducible assumption) | assumption)
        have q9 : (x4_1 : Int) < ((x3_1.length : Int) : Int) := of_decide_eq_true (by first | (with_reducible assumption) | assumption)
        obtain ⟨go9, co9, eo9, gb9, gl9, cl9, HG9⟩ := Kd.y1d HO_3.out (by omega)
        (first | cases eo9 | (injection eo9 with ea_ en_ ec_; (first | subst ea_ | (injection ea_ with ea_; subst ea_)); subst ec_; clear en_))
        have GB9 := z2.mk gb9
        have GG9 := z2.mk HG9
        clear gb9 gl9 HG9
        obtain ⟨hx9_0, hf9_0⟩ := Kd.z18 0 HO_3.out (x4_1 : Int) p9 q9
        replace p9 := eq_true p9
        replace q9 := eq_true q9
        have HP10 := Kd.y1u HO_3.out (x4_1 : Int) (rd l0 x4_1)
        go_wp2_with (first | ((with_reducible refine q0d (t := 5) (p := 20) rfl ?_); refine z0a (t := 5) (p := 20) (v := ?vo_w11) (w1 := (wr.setCell ⟨go9, (x4_1 : Int).toNat, none⟩ (.int .u8 (rd l0 x4_1)))) ?hg ?ho ?hn ?hr ?_; (case ho => rfl); (case hg => rfl); (case hn => rfl); (case hr => first | (go_simp; done) | (go_simp; rfl)); intro w11 hw; have hg : wr.grownBy w11 (some go9) := (by rw [hw]; exact HP10.2); have hp_ : Kd.R (Kd.int .u8) 5 w11 w.heap.size (fun _ => True) (.slice (some ⟨go9, 0, none⟩) x3_1.length co9) y422 := (by rw [hw, Ny422.out]; exact HP10.1); clear HP10; have n0_ := z2.mk (hp_); have n1_ := z2.mk ((by rw [hw]; exact z7 (HB.out) GB9.out : Below w.heap.size w w11)); clear HO_3 HB; have HO_3 := n0_; have HB := n1_; clear n0_ n1_ hg hw hp_))
        go_roundg k1
        case measure => have := HK1.out; omega
        case rel => exact ⟨(y422), (wrap64 (x4_1 + 1)), (by first | rfl | (simp; done) | (simp [*]; done)), H', ⟨by have := HK1.out; omega⟩, ⟨by (with_reducible repeat (first | apply Kd.R_alloc | apply Kd.y9 | apply Kd.zb)); exact HO_3.out⟩, ⟨by repeat (first | (with_reducible first | exact HB.out | apply z4 | apply z1 | apply z3) | exact HB.out)⟩⟩
       ·rw [if_neg c8] at H
        exact absurd H (by simp)
      ·rw [if_neg c7] at H
       exact absurd H (by simp)
     ·rw [if_neg c6] at H
      have c6b0 : decide (x4_1 < (l0.length : Int)) = false := decide_eq_false c6
      clear c6
      obtain rfl := Option.some.inj H
      go_wp2
      go_ret
      exact ⟨_, by first | rfl | (simp [ya, qa] <;> rfl) | (simp [*, ya, qa] <;> rfl), by (with_reducible repeat (first | apply Kd.R_alloc | apply Kd.y9 | apply Kd.zb)); exact HO_3.out, by repeat (first | (with_reducible first | exact HB.out | apply z4 | apply z1 | apply z3) | exact HB.out)⟩
  ·rw [if_neg c3] at H
   exact absurd H (by simp)
 ·rw [if_neg c2] at H
  exact absurd H (by simp)
def zi.l0 : Nat → Int → List Int → Int → Int → Option (Int × Int)
 | 0, _, _, _, _ => none
 | k + 1, x3, x10, x11, x12 => if x12 < x11 then (if 0 ≤ x12 then (if x12 < (x10.length : Int) then (zi.l0 k (IntKind.u64.wrap ((IntKind.u64.wrap (x3 * 256)) + (IntKind.u64.wrap (rd x10 x12)))) x10 x11 (wrap64 (x12 + 1))) else (none)) else (none)) else (some (0, wrap64 (x3)))
def zi.f (k : Nat) (l0 : List Int) : Option (Int × Int) := if (l0.length : Int) = 8 then (zi.l0 k 0 l0 (l0.length : Int) 0) else (some (1, 0))
set_option maxHeartbeats 8000000 in
set_option maxRecDepth 100000 in
theorem zi.calls (k : Nat) (A0 : Option Addr) (c0 : Nat) (l0 : List Int) (r1 : Int) (r2 : Int) (w : World) (hr0 : Kd.C (Kd.int .u8) w A0 l0.length l0) (hc0 : l0.length ≤ c0) (h : zi.f k l0 = some (r1, r2)) :
  Calls Try.prog 110 #[.slice A0 l0.length c0] w fun e w' => e = .returned (.agg #[.int .i64 r1, .int .i64 r2]) ∧ Below w.heap.size w w' := by
 have hu156 := Try.underlying156
 have HR0 := z2.mk hr0
 have HC0 := z2.mk hc0
 clear hr0 hc0
 have HB := z2.mk (Below.refl w.heap.size w)
 have H : (if (l0.length : Int) = 8 then (zi.l0 k 0 l0 (l0.length : Int) 0) else (some (1, 0))) = some (r1, r2) := h
 clear h
 by_cases c2 : (l0.length : Int) = 8
 ·rw [if_pos c2] at H
  have c2b0 : ((l0.length : Int) == 8) = true := beq_iff_eq.mpr c2
  have c2b1 : ((l0.length : Int) != 8) = false := bne_eq_false_iff_eq.mpr c2
  clear c2
  have H' := z2.mk H
  clear H
  go_enter Try.func110, Try.ntmps110
  go_wp2_with (first | ((with_reducible refine ye (N := 2) rfl ?_); refine ze ?hg (N := 2) ?hd (cs := #[.int .i64 0, .int .i64 0]) (t := 156) ?hr ?_; (case hd => rfl); (case hg => rfl); (case hr => first | (go_simp; done) | (go_simp; rfl)); intro gb423 hg w3 hbox hb; have n0_ := z2.mk (y8 (by repeat (first | (with_reducible first | exact HB.out | apply z4 | apply z1 | apply z3) | exact HB.out)) hb); have n1_ := z2.mk (hbox); have n2_ := z2.mk ((by rw [hg]; exact (z8 (by repeat (first | (with_reducible first | exact HB.out | apply z4 | apply z1 | apply z3) | exact HB.out))) : w.heap.size ≤ gb423)); have n3_ := z2.mk ((by rw [hg]; exact (z8 (by repeat (first | (with_reducible first | exact HB.out | apply z4 | apply z1 | apply z3) | exact HB.out))) : w.heap.size ≤ gb423)); clear HB; have HB := n0_; have BK423 := n1_; have GW423 := n2_; have GE423 := n3_; clear n0_ n1_ n2_ n3_ hb hbox hg))
  go_loopg [3, 12] k (fun kq v3 v12 w' => ∃ (x3_1 : Int) (x12_1 : Int), v3 = .int .u64 x3_1 ∧ v12 = .int .i64 x12_1 ∧ z2 (zi.l0 kq x3_1 l0 (l0.length : Int) x12_1 = some (r1, r2)) ∧ z2 (kq ≤ k) ∧ z2 (w'.heap[gb423]? = some (.cells #[.int .i64 0, .int .i64 0] 156 (0, 0))) ∧ z2 (Below w.heap.size w w'))
  case atStart => exact ⟨(0), (0), (by first | rfl | (simp; done) | (simp [*]; done)), (by first | rfl | (simp; done) | (simp [*]; done)), H', ⟨Nat.le_refl _⟩, ⟨by (with_reducible repeat (first | refine z5 ?_ _ | refine y6 ?_ | refine y4 ?_ _)); exact BK423.out⟩, ⟨by repeat (first | (with_reducible first | exact HB.out | apply z4 | apply z1 | apply z3 | refine z7 ?_ GE423.out) | exact HB.out)⟩⟩
  case round =>
   clear H'
   try clear c1
   try clear c2
   try clear c2b0
   try clear c2b1
   try clear p2
   obtain ⟨x3_1, x12_1, rfl, rfl, HA, HK1, BK423, HB⟩ := hrel
   cases gk with
   | zero => exact absurd HA.out (by simp [zi.l0])
   | succ k1 =>
    have H := HA.out
    clear HA
    simp only [zi.l0] at H
    by_cases c4 : x12_1 < (l0.length : Int)
    ·rw [if_pos c4] at H
     have c4b0 : decide (x12_1 < (l0.length : Int)) = true := decide_eq_true c4
     clear c4
     by_cases c5 : 0 ≤ x12_1
     ·rw [if_pos c5] at H
      have c5b0 : decide (0 ≤ x12_1) = true := decide_eq_true c5
      clear c5
      by_cases c6 : x12_1 < (l0.length : Int)
      ·rw [if_pos c6] at H
       have c6b0 : decide (x12_1 < (l0.length : Int)) = true := decide_eq_true c6
       clear c6
       have H' := z2.mk H
       clear H
       have p424 : 0 ≤ (x12_1 : Int) := of_decide_eq_true (by first | (with_reducible assumption) | assumption)
       have q424 : x12_1 < (l0.length : Int) := of_decide_eq_true (by first | (with_reducible assumption) | assumption)
       obtain ⟨ad424, e424, hx424_0⟩ := Kd.q07 HR0.out x12_1 p424 q424
       cases e424
       replace hx424_0 := (HB.out.cell (World.block_lt_of_cell? w _ hx424_0)).trans hx424_0
       replace p424 := eq_true p424
       replace q424 := eq_true q424
       go_wp2
       go_roundg k1
       case measure => have := HK1.out; omega
       case rel => exact ⟨(IntKind.u64.wrap ((IntKind.u64.wrap (x3_1 * 256)) + (IntKind.u64.wrap (rd l0 x12_1)))), (wrap64 (x12_1 + 1)), (by first | rfl | (simp; done) | (simp [*]; done)), (by first | rfl | (simp; done) | (simp [*]; done)), H', ⟨by have := HK1.out; omega⟩, ⟨by (with_reducible repeat (first | refine z5 ?_ _ | refine y6 ?_ | refine y4 ?_ _)); exact BK423.out⟩, ⟨by repeat (first | (with_reducible first | exact HB.out | apply z4 | apply z1 | apply z3 | refine z7 ?_ GE423.out) | exact HB.out)⟩⟩
      ·rw [if_neg c6] at H
       exact absurd H (by simp)
     ·rw [if_neg c5] at H
      exact absurd H (by simp)
    ·rw [if_neg c4] at H
     have c4b0 : decide (x12_1 < (l0.length : Int)) = false := decide_eq_false c4
     clear c4
     simp only [Option.some.injEq, Prod.mk.injEq] at H
     obtain ⟨rfl, rfl⟩ := H
     have hcz7_0 : wr.cell? ⟨gb423, 0, none⟩ = some (.int .i64 0) := (z6 BK423.out 0).trans rfl
     have hcz7_1 : wr.cell? ⟨gb423, 1, none⟩ = some (.int .i64 0) := (z6 BK423.out 1).trans rfl
     have hfz7_0 := y5 BK423.out 0
     have hfz7_1 := y5 BK423.out 1
     go_wp2
     refine bodyPost_ret (results_cell_row rfl _ _ gb423 156 #[.int .i64 0, .int .i64 (wrap64 (x3_1))] (0, 0) _ rfl (by (with_reducible repeat (first | refine z5 ?_ _ | refine y6 ?_ | refine y4 ?_ _)); refine qc (cs := #[.int .i64 0, .int .i64 0]) ?_ 1 _ rfl; (with_reducible repeat (first | refine z5 ?_ _ | refine y6 ?_ | refine y4 ?_ _)); refine qc (cs := #[.int .i64 0, .int .i64 0]) ?_ 0 _ rfl; (with_reducible repeat (first | refine z5 ?_ _ | refine y6 ?_ | refine y4 ?_ _)); exact BK423.out) Try.underlying156 rfl (by kernel_rfl)) rfl ?_
     exact ⟨by first | rfl | (simp [ya, qa] <;> rfl) | (simp [*, ya, qa] <;> rfl), by repeat (first | (with_reducible first | exact HB.out | apply z4 | apply z1 | apply z3 | refine z7 ?_ GE423.out) | exact HB.out)⟩
 ·rw [if_neg c2] at H
  have c2b0 : ((l0.length : Int) == 8) = false := beq_eq_false_iff_ne.mpr c2
  have c2b1 : ((l0.length : Int) != 8) = true := bne_iff_ne.mpr c2
  simp only [Option.some.injEq, Prod.mk.injEq] at H
  obtain ⟨rfl, rfl⟩ := H
  go_enter Try.func110, Try.ntmps110
  go_wp2_with (first | ((with_reducible refine ye (N := 2) rfl ?_); refine ze ?hg (N := 2) ?hd (cs := #[.int .i64 0, .int .i64 0]) (t := 156) ?hr ?_; (case hd => rfl); (case hg => rfl); (case hr => first | (go_simp; done) | (go_simp; rfl)); intro gb423 hg w8 hbox hb; have n0_ := z2.mk (y8 (by repeat (first | (with_reducible first | exact HB.out | apply z4 | apply z1 | apply z3) | exact HB.out)) hb); have n1_ := z2.mk (hbox); have n2_ := z2.mk ((by rw [hg]; exact (z8 (by repeat (first | (with_reducible first | exact HB.out | apply z4 | apply z1 | apply z3) | exact HB.out))) : w.heap.size ≤ gb423)); have n3_ := z2.mk ((by rw [hg]; exact (z8 (by repeat (first | (with_reducible first | exact HB.out | apply z4 | apply z1 | apply z3) | exact HB.out))) : w.heap.size ≤ gb423)); clear HB; have HB := n0_; have BK423 := n1_; have GW423 := n2_; have GE423 := n3_; clear n0_ n1_ n2_ n3_ hb hbox hg; have hcz9_0 : w8.cell? ⟨gb423, 0, none⟩ = some (.int .i64 0) := (z6 BK423.out 0).trans rfl; have hcz9_1 : w8.cell? ⟨gb423, 1, none⟩ = some (.int .i64 0) := (z6 BK423.out 1).trans rfl; have hfz9_0 := y5 BK423.out 0; have hfz9_1 := y5 BK423.out 1))
  refine bodyPost_ret (results_cell_row rfl _ _ gb423 156 #[.int .i64 1, .int .i64 0] (0, 0) _ rfl (by (with_reducible repeat (first | refine z5 ?_ _ | refine y6 ?_ | refine y4 ?_ _)); refine qc (cs := #[.int .i64 1, .int .i64 0]) ?_ 1 _ rfl; (with_reducible repeat (first | refine z5 ?_ _ | refine y6 ?_ | refine y4 ?_ _)); refine qc (cs := #[.int .i64 0, .int .i64 0]) ?_ 0 _ rfl; (with_reducible repeat (first | refine z5 ?_ _ | refine y6 ?_ | refine y4 ?_ _)); exact BK423.out) Try.underlying156 rfl (by kernel_rfl)) rfl ?_
  exact ⟨by first | rfl | (simp [ya, qa] <;> rfl) | (simp [*, ya, qa] <;> rfl), by repeat (first | (with_reducible first | exact HB.out | apply z4 | apply z1 | apply z3 | refine z7 ?_ GE423.out) | exact HB.out)⟩
def zo.f (l0 : List Int) (l1 : List Int) : Option (Bool) := some ((strOfNums l0).toList == (strOfNums l1).toList)
set_option maxHeartbeats 8000000 in
set_option maxRecDepth 100000 in
theorem zo.calls (A0 : Option Addr) (c0 : Nat) (l0 : List Int) (A1 : Option Addr) (c1 : Nat) (l1 : List Int) (r : Bool) (w : World) (hr0 : Kd.C (Kd.int .u8) w A0 l0.length l0) (hc0 : l0.length ≤ c0) (hr1 : Kd.C (Kd.int .u8) w A1 l1.length l1) (hc1 : l1.length ≤ c1) (h : zo.f l0 l1 = some r) :
  Calls Try.prog 111 #[.slice A0 l0.length c0, .slice A1 l1.length c1] w fun e w' => e = .returned (.bool r) ∧ zq w w' := by
 have HR0 := z2.mk hr0
 have HC0 := z2.mk hc0
 clear hr0 hc0
 have HR1 := z2.mk hr1
 have HC1 := z2.mk hc1
 clear hr1 hc1
 have H : (some ((strOfNums l0).toList == (strOfNums l1).toList)) = some r := h
 clear h
 obtain rfl := Option.some.inj H
 have hcv3 := Kd.z1m (P := Try.prog) (A := A0) (c := c0) Try.underlying37 Try.underlying5 Try.underlying9 HR0.out
 have hcv4 := Kd.z1m (P := Try.prog) (A := A1) (c := c1) Try.underlying37 Try.underlying5 Try.underlying9 HR1.out
 go_enter Try.func111, Try.ntmps111
 go_wp2
 go_ret
 exact ⟨by first | rfl | (simp; done) | (simp [*]; done), by repeat (first | exact zq.refl _ | apply zq.step)⟩
end Go.Proofs.Ytkeojolmapcgbaa.PEv
end
section
namespace Go.Proofs.Ytkeojolmapcgbaa.PEv
open Go.RowKit Go.Proofs.YtkeojolmapcgbaaW.PrintWords Go.Proofs.YtkeojolmapcgbaaW.PrintLast Go.Proofs.YtkeojolmapcgbaaW.PrintMore
set_option linter.unusedVariables false
set_option linter.unusedSimpArgs false
def qq.l0 : Nat → List (yl) → List (yl) → Int → Option (Bool)
 | 0, _, _, _ => none
 | k + 1, x0, x1, x5 => if x5 < (x0.length : Int) then (if 0 ≤ x5 then (if x5 < (x1.length : Int) then ((q0a.f ((y7 x0 x5).f0) ((y7 x0 x5).f1) ((y7 x0 x5).f2) ((y7 x0 x5).f3) ((y7 x1 x5).f0) ((y7 x1 x5).f1) ((y7 x1 x5).f2) ((y7 x1 x5).f3)).bind fun t170 => (if t170 = true then (qq.l0 k x0 x1 (wrap64 (x5 + 1))) else (some false))) else (none)) else (none)) else (some true)
def qq.f (k : Nat) (l0 : List (yl)) (l1 : List (yl)) : Option (Bool) := if (l0.length : Int) = (l1.length : Int) then (qq.l0 k l0 l1 0) else (some false)
def qq.T6 : Bool × List (List Nat × List Nat) := (true, [([], []), ([], []), ([0, 1], [0, 1]), ([2], [2]), ([], []), ([], []), ([4, 5], [4, 5]), ([6], [6]), ([3, 7], [3, 7]), ([8], [8])])
def qq.B6 : List Nat := [0, 0, 3, 7, 0, 0, 48, 112, 255, 511]
theorem qq.q2o : z0s .any (opsOf Try.f101 6) = qq.T6 := by kernel_rfl
theorem qq.q1v : z0h qq.T6.2 qq.B6 = true := by kernel_rfl
set_option maxHeartbeats 8000000 in
set_option maxRecDepth 100000 in
theorem qq.calls (k : Nat) (A0 : Option Addr) (c0 : Nat) (l0 : List (yl)) (A1 : Option Addr) (c1 : Nat) (l1 : List (yl)) (r : Bool) (w : World) (hr0 : Kd.C y08 w A0 l0.length l0) (hc0 : l0.length ≤ c0) (hr1 : Kd.C y08 w A1 l1.length l1) (hc1 : l1.length ≤ c1) (h : qq.f k l0 l1 = some r) :
  Calls Try.prog 101 #[.slice A0 l0.length c0, .slice A1 l1.length c1] w fun e w' => e = .returned (.bool r) ∧ Below w.heap.size w w' := by
 have hu138 := Try.underlying138
 have HR0 := z2.mk hr0
 have HC0 := z2.mk hc0
 clear hr0 hc0
 have HR1 := z2.mk hr1
 have HC1 := z2.mk hc1
 clear hr1 hc1
 have HB := z2.mk (Below.refl w.heap.size w)
 have H : (if (l0.length : Int) = (l1.length : Int) then (qq.l0 k l0 l1 0) else (some false)) = some r := h
 clear h
 by_cases c3 : (l0.length : Int) = (l1.length : Int)
 ·rw [if_pos c3] at H
  have c3b0 : ((l0.length : Int) == (l1.length : Int)) = true := beq_iff_eq.mpr c3
  have c3b1 : ((l0.length : Int) != (l1.length : Int)) = false := bne_eq_false_iff_eq.mpr c3
  have c3b2 : (l0.length == l1.length) = true := by first | simpa using c3 | (simp at c3 ⊢; omega)
  clear c3
  have H' := z2.mk H
  clear H
  go_enter Try.func101, Try.ntmps101
  go_wp2
  go_loopg [5] k (fun kq v5 w' => ∃ (x5_1 : Int), v5 = .int .i64 x5_1 ∧ z2 (qq.l0 kq l0 l1 x5_1 = some r) ∧ z2 (kq ≤ k) ∧ z2 (Below w.heap.size w w'))
  case atStart => exact ⟨(0), (by first | rfl | (simp; done) | (simp [*]; done)), H', ⟨Nat.le_refl _⟩, ⟨by repeat (first | (with_reducible first | exact HB.out | apply z4 | apply z1 | apply z3) | exact HB.out)⟩⟩
  case round =>
   clear H'
   try clear c1
   try clear p2
   try clear c3
   try clear c3b0
   try clear c3b1
   try clear c3b2
   obtain ⟨x5_1, rfl, HA, HK1, HB⟩ := hrel
   cases gk with
   | zero => exact absurd HA.out (by simp [qq.l0])
   | succ k1 =>
    have H := HA.out
    clear HA
    simp only [qq.l0] at H
    by_cases c4 : x5_1 < (l0.length : Int)
    ·rw [if_pos c4] at H
     have c4b0 : decide (x5_1 < (l0.length : Int)) = true := decide_eq_true c4
     clear c4
     by_cases c5 : 0 ≤ x5_1
     ·rw [if_pos c5] at H
      have c5b0 : decide (0 ≤ x5_1) = true := decide_eq_true c5
      clear c5
      by_cases c6 : x5_1 < (l1.length : Int)
      ·rw [if_pos c6] at H
       have c6b0 : decide (x5_1 < (l1.length : Int)) = true := decide_eq_true c6
       clear c6
       replace H := Option.bind_eq_some_iff.mp H
       obtain ⟨t170, A70, H⟩ := H
       replace H : (if t170 = true then (qq.l0 k1 l0 l1 (wrap64 (x5_1 + 1))) else (some false)) = some r := H
       have A7 := z2.mk A70
       clear A70
       by_cases c8 : t170 = true
       ·subst c8
        have H1 : (qq.l0 k1 l0 l1 (wrap64 (x5_1 + 1))) = some r := by rw [if_pos rfl] at H; exact H
        clear H
        have H := H1
        clear H1
        have H' := z2.mk H
        clear H
        try go_wp2
        have n0_ := z2.mk (z3 HB.out)
        clear HB
        have HB := n0_
        clear n0_
        have p168 : 0 ≤ (x5_1 : Int) := of_decide_eq_true (by first | (with_reducible assumption) | assumption)
        have q168 : x5_1 < (l0.length : Int) := of_decide_eq_true (by first | (with_reducible assumption) | assumption)
        obtain ⟨ad168, e168, hx168_0, hx168_1, hx168_2, hx168_3⟩ := yz HR0.out x5_1 p168 q168
        have hw168_3 := hx168_3
        have hw168_2 := hx168_2
        have hw168_1 := hx168_1
        have hw168_0 := hx168_0
        cases e168
        replace hx168_0 := (HB.out.cell (World.block_lt_of_cell? w _ hx168_0)).trans hx168_0
        replace hx168_1 := (HB.out.cell (World.block_lt_of_cell? w _ hx168_1)).trans hx168_1
        replace hx168_2 := (HB.out.cell (World.block_lt_of_cell? w _ hx168_2)).trans hx168_2
        replace hx168_3 := (HB.out.cell (World.block_lt_of_cell? w _ hx168_3)).trans hx168_3
        replace p168 := eq_true p168
        replace q168 := eq_true q168
        have p169 : 0 ≤ (x5_1 : Int) := of_decide_eq_true (by first | (with_reducible assumption) | assumption)
        have q169 : x5_1 < (l1.length : Int) := of_decide_eq_true (by first | (with_reducible assumption) | assumption)
        obtain ⟨ad169, e169, hx169_0, hx169_1, hx169_2, hx169_3⟩ := yz HR1.out x5_1 p169 q169
        have hw169_3 := hx169_3
        have hw169_2 := hx169_2
        have hw169_1 := hx169_1
        have hw169_0 := hx169_0
        cases e169
        replace hx169_0 := (HB.out.cell (World.block_lt_of_cell? w _ hx169_0)).trans hx169_0
        replace hx169_1 := (HB.out.cell (World.block_lt_of_cell? w _ hx169_1)).trans hx169_1
        replace hx169_2 := (HB.out.cell (World.block_lt_of_cell? w _ hx169_2)).trans hx169_2
        replace hx169_3 := (HB.out.cell (World.block_lt_of_cell? w _ hx169_3)).trans hx169_3
        replace p169 := eq_true p169
        replace q169 := eq_true q169
        refine z0f (n := 10) (S := fun w' => w'.cell? (ad168.add ((x5_1).toNat * 4)) = some (.int .i64 ((y7 l0 x5_1).f0)) ∧ w'.cell? ⟨(ad168.add ((x5_1).toNat * 4)).block, (ad168.add ((x5_1).toNat * 4)).off + 1, none⟩ = some (.int .i64 ((y7 l0 x5_1).f1)) ∧ w'.cell? ⟨(ad168.add ((x5_1).toNat * 4)).block, (ad168.add ((x5_1).toNat * 4)).off + 2, none⟩ = some (.int .i64 ((y7 l0 x5_1).f2)) ∧ w'.cell? ⟨(ad168.add ((x5_1).toNat * 4)).block, (ad168.add ((x5_1).toNat * 4)).off + 3, none⟩ = some (.int .i64 ((y7 l0 x5_1).f3)) ∧ w'.cell? (ad169.add ((x5_1).toNat * 4)) = some (.int .i64 ((y7 l1 x5_1).f0)) ∧ w'.cell? ⟨(ad169.add ((x5_1).toNat * 4)).block, (ad169.add ((x5_1).toNat * 4)).off + 1, none⟩ = some (.int .i64 ((y7 l1 x5_1).f1)) ∧ w'.cell? ⟨(ad169.add ((x5_1).toNat * 4)).block, (ad169.add ((x5_1).toNat * 4)).off + 2, none⟩ = some (.int .i64 ((y7 l1 x5_1).f2)) ∧ w'.cell? ⟨(ad169.add ((x5_1).toNat * 4)).block, (ad169.add ((x5_1).toNat * 4)).off + 3, none⟩ = some (.int .i64 ((y7 l1 x5_1).f3))) (ds := []) #[false, false, false, false, false, false, false, false, false, false] (by kernel_rfl) rfl rfl ⟨((HB.out.cell (World.block_lt_of_cell? w _ hw168_0)).trans hw168_0), ((HB.out.cell (World.block_lt_of_cell? w _ hw168_1)).trans hw168_1), ((HB.out.cell (World.block_lt_of_cell? w _ hw168_2)).trans hw168_2), ((HB.out.cell (World.block_lt_of_cell? w _ hw168_3)).trans hw168_3), ((HB.out.cell (World.block_lt_of_cell? w _ hw169_0)).trans hw169_0), ((HB.out.cell (World.block_lt_of_cell? w _ hw169_1)).trans hw169_1), ((HB.out.cell (World.block_lt_of_cell? w _ hw169_2)).trans hw169_2), ((HB.out.cell (World.block_lt_of_cell? w _ hw169_3)).trans hw169_3)⟩ (fun hHeld => ?_); refine q03 qq.q2o qq.q1v (fun HT_ HW_ => ?_)
        generalize wr.drew = w9 at HB hx168_0 hx168_1 hx168_2 hx168_3 hx169_0 hx169_1 hx169_2 hx169_3 hHeld ⊢
        refine yo (i := 0) (N := some 17) (v := ?_) (a' := ?_) #[true, false, false, false, false, false, false, false, false, false] rfl rfl (qj HT_.out (by kernel_rfl)) (fun _ _ _ h => h) (Or.inl ⟨by rfl, ?_⟩) ?_ ?_
        rotate_left
        ·intro w'
         go_simp
         with_reducible rfl
        rotate_left
        ·simp only [Act.put, List.setIfInBounds_toArray, List.set_cons_zero, List.set_cons_succ, yg, qg]
         rfl
        refine yo (i := 1) (N := some 18) (v := ?_) (a' := ?_) #[true, true, false, false, false, false, false, false, false, false] rfl rfl (qj HT_.out (by kernel_rfl)) (fun _ _ _ h => h) (Or.inl ⟨by rfl, ?_⟩) ?_ ?_
        rotate_left
        ·intro w'
         go_simp
         with_reducible rfl
        rotate_left
        ·simp only [Act.put, List.setIfInBounds_toArray, List.set_cons_zero, List.set_cons_succ, yg, qg]
         rfl
        refine yo (i := 2) (N := some 19) (v := ?_) (a' := ?_) #[true, true, true, false, false, false, false, false, false, false] rfl rfl (qj HT_.out (by kernel_rfl)) (fun _ _ _ h => h) (Or.inl ⟨by rfl, ?_⟩) ?_ ?_
        rotate_left
        ·intro w'
         go_simp
         with_reducible rfl
        rotate_left
        ·simp only [Act.put, List.setIfInBounds_toArray, List.set_cons_zero, List.set_cons_succ, yg, qg]
         rfl
        refine yo (i := 4) (N := some 21) (v := ?_) (a' := ?_) #[true, true, true, false, true, false, false, false, false, false] rfl rfl (qj HT_.out (by kernel_rfl)) (fun _ _ _ h => h) (Or.inl ⟨by rfl, ?_⟩) ?_ ?_
        rotate_left
        ·intro w'
         go_simp
         with_reducible rfl
        rotate_left
        ·simp only [Act.put, List.setIfInBounds_toArray, List.set_cons_zero, List.set_cons_succ, yg, qg]
         rfl
        refine yo (i := 5) (N := some 22) (v := ?_) (a' := ?_) #[true, true, true, false, true, true, false, false, false, false] rfl rfl (qj HT_.out (by kernel_rfl)) (fun _ _ _ h => h) (Or.inl ⟨by rfl, ?_⟩) ?_ ?_
        rotate_left
        ·intro w'
         go_simp
         with_reducible rfl
        rotate_left
        ·simp only [Act.put, List.setIfInBounds_toArray, List.set_cons_zero, List.set_cons_succ, yg, qg]
         rfl
        refine yo (i := 6) (N := some 23) (v := ?_) (a' := ?_) #[true, true, true, false, true, true, true, false, false, false] rfl rfl (qj HT_.out (by kernel_rfl)) (fun _ _ _ h => h) (Or.inl ⟨by rfl, ?_⟩) ?_ ?_
        rotate_left
        ·intro w'
         go_simp
         with_reducible rfl
        rotate_left
        ·simp only [Act.put, List.setIfInBounds_toArray, List.set_cons_zero, List.set_cons_succ, yg, qg]
         rfl
        refine y04 (i := 3) (N := some 20) (v := ?_) (a' := ?_) #[true, true, true, true, true, true, true, false, false, false] rfl rfl (zv HT_.out HW_.out (by kernel_rfl)) (fun _ _ _ h => h) (Or.inl ⟨by rfl, ?_⟩) hHeld ?_ ?_
        rotate_left
        ·rintro w' ⟨s0, s1, s2, s3, s4, s5, s6, s7⟩
         go_simp
         with_reducible rfl
        rotate_left
        ·simp only [Act.put, List.setIfInBounds_toArray, List.set_cons_zero, List.set_cons_succ, yg, qg]
         rfl
        refine y04 (i := 7) (N := some 24) (v := ?_) (a' := ?_) #[true, true, true, true, true, true, true, true, false, false] rfl rfl (zv HT_.out HW_.out (by kernel_rfl)) (fun _ _ _ h => h) (Or.inl ⟨by rfl, ?_⟩) hHeld ?_ ?_
        rotate_left
        ·rintro w' ⟨s0, s1, s2, s3, s4, s5, s6, s7⟩
         go_simp
         with_reducible rfl
        rotate_left
        ·simp only [Act.put, List.setIfInBounds_toArray, List.set_cons_zero, List.set_cons_succ, yg, qg]
         rfl
        refine q0j (i := 8) (N := some 25) #[true, true, true, true, true, true, true, true, true, false] rfl rfl (qz HT_.out (by kernel_rfl)) (by decide) (fun K hK => ?_)
        refine y0g Try.func152 (by kernel_rfl) rfl #[.agg #[.int .i64 ((y7 l0 x5_1).f0), .int .i64 ((y7 l0 x5_1).f1), .int .i64 ((y7 l0 x5_1).f2), .int .i64 ((y7 l0 x5_1).f3)], .agg #[.int .i64 ((y7 l1 x5_1).f0), .int .i64 ((y7 l1 x5_1).f1), .int .i64 ((y7 l1 x5_1).f2), .int .i64 ((y7 l1 x5_1).f3)]] (by rfl) rfl rfl (by (try simp only [List.map_toArray, List.map_cons, List.map_nil]); first | done | rfl | (simp only [List.length_drop, List.length_take]; rfl)) ?_
        with_reducible refine (q0a.calls ((y7 l0 x5_1).f0) ((y7 l0 x5_1).f1) ((y7 l0 x5_1).f2) ((y7 l0 x5_1).f3) ((y7 l1 x5_1).f0) ((y7 l1 x5_1).f1) ((y7 l1 x5_1).f2) ((y7 l1 x5_1).f3) true _ A7.out).mono ?_
        rintro e w10 ⟨rfl, hb⟩
        refine ⟨_, rfl, ?_⟩
        have n0_ := z2.mk (y8 (by repeat (first | (with_reducible first | exact HB.out | apply z4 | apply z1 | apply z3) | exact HB.out)) hb)
        clear HB
        have HB := n0_
        clear n0_
        (try clear hb)
        (try clear hb2)
        (try clear hk)
        (try clear hi)
        refine hK.out _ _ ⟨((HB.out.cell (World.block_lt_of_cell? w _ hw168_0)).trans hw168_0), ((HB.out.cell (World.block_lt_of_cell? w _ hw168_1)).trans hw168_1), ((HB.out.cell (World.block_lt_of_cell? w _ hw168_2)).trans hw168_2), ((HB.out.cell (World.block_lt_of_cell? w _ hw168_3)).trans hw168_3), ((HB.out.cell (World.block_lt_of_cell? w _ hw169_0)).trans hw169_0), ((HB.out.cell (World.block_lt_of_cell? w _ hw169_1)).trans hw169_1), ((HB.out.cell (World.block_lt_of_cell? w _ hw169_2)).trans hw169_2), ((HB.out.cell (World.block_lt_of_cell? w _ hw169_3)).trans hw169_3)⟩ (fun hHeld => ?_)
        clear hK K
        refine zx (a' := ?_) ?_ ?_
        rotate_left
        ·show Act.put _ (some 25) _ = _
         simp only [Act.put, List.setIfInBounds_toArray, List.set_cons_zero, List.set_cons_succ, yg, qg]
         rfl
        refine yo (i := 9) (N := some 26) (v := ?_) (a' := ?_) #[true, true, true, true, true, true, true, true, true, true] rfl rfl (qj HT_.out (by kernel_rfl)) (fun _ _ _ h => h) (Or.inl ⟨by rfl, ?_⟩) ?_ ?_
        rotate_left
        ·intro w'
         go_simp
         with_reducible rfl
        rotate_left
        ·simp only [Act.put, List.setIfInBounds_toArray, List.set_cons_zero, List.set_cons_succ, yg, qg]
         rfl
        refine y0n (q0b HT_.out (by kernel_rfl)) ?_
        try go_wp2
        go_roundg k1
        case measure => have := HK1.out; omega
        case rel => exact ⟨(wrap64 (x5_1 + 1)), (by first | rfl | (simp; done) | (simp [*]; done)), H', ⟨by have := HK1.out; omega⟩, ⟨by repeat (first | (with_reducible first | exact HB.out | apply z4 | apply z1 | apply z3) | exact HB.out)⟩⟩
       ·replace c8 := Bool.eq_false_iff.mpr c8
        subst c8
        have H1 : (some false) = some r := by rw [if_neg (show ¬ (false = true) by decide)] at H; exact H
        clear H
        have H := H1
        clear H1
        obtain rfl := Option.some.inj H
        try go_wp2
        have n0_ := z2.mk (z3 HB.out)
        clear HB
        have HB := n0_
        clear n0_
        have p168 : 0 ≤ (x5_1 : Int) := of_decide_eq_true (by first | (with_reducible assumption) | assumption)
        have q168 : x5_1 < (l0.length : Int) := of_decide_eq_true (by first | (with_reducible assumption) | assumption)
        obtain ⟨ad168, e168, hx168_0, hx168_1, hx168_2, hx168_3⟩ := yz HR0.out x5_1 p168 q168
        have hw168_3 := hx168_3
        have hw168_2 := hx168_2
        have hw168_1 := hx168_1
        have hw168_0 := hx168_0
        cases e168
        replace hx168_0 := (HB.out.cell (World.block_lt_of_cell? w _ hx168_0)).trans hx168_0
        replace hx168_1 := (HB.out.cell (World.block_lt_of_cell? w _ hx168_1)).trans hx168_1
        replace hx168_2 := (HB.out.cell (World.block_lt_of_cell? w _ hx168_2)).trans hx168_2
        replace hx168_3 := (HB.out.cell (World.block_lt_of_cell? w _ hx168_3)).trans hx168_3
        replace p168 := eq_true p168
        replace q168 := eq_true q168
        have p169 : 0 ≤ (x5_1 : Int) := of_decide_eq_true (by first | (with_reducible assumption) | assumption)
        have q169 : x5_1 < (l1.length : Int) := of_decide_eq_true (by first | (with_reducible assumption) | assumption)
        obtain ⟨ad169, e169, hx169_0, hx169_1, hx169_2, hx169_3⟩ := yz HR1.out x5_1 p169 q169
        have hw169_3 := hx169_3
        have hw169_2 := hx169_2
        have hw169_1 := hx169_1
        have hw169_0 := hx169_0
        cases e169
        replace hx169_0 := (HB.out.cell (World.block_lt_of_cell? w _ hx169_0)).trans hx169_0
        replace hx169_1 := (HB.out.cell (World.block_lt_of_cell? w _ hx169_1)).trans hx169_1
        replace hx169_2 := (HB.out.cell (World.block_lt_of_cell? w _ hx169_2)).trans hx169_2
        replace hx169_3 := (HB.out.cell (World.block_lt_of_cell? w _ hx169_3)).trans hx169_3
        replace p169 := eq_true p169
        replace q169 := eq_true q169
        refine z0f (n := 10) (S := fun w' => w'.cell? (ad168.add ((x5_1).toNat * 4)) = some (.int .i64 ((y7 l0 x5_1).f0)) ∧ w'.cell? ⟨(ad168.add ((x5_1).toNat * 4)).block, (ad168.add ((x5_1).toNat * 4)).off + 1, none⟩ = some (.int .i64 ((y7 l0 x5_1).f1)) ∧ w'.cell? ⟨(ad168.add ((x5_1).toNat * 4)).block, (ad168.add ((x5_1).toNat * 4)).off + 2, none⟩ = some (.int .i64 ((y7 l0 x5_1).f2)) ∧ w'.cell? ⟨(ad168.add ((x5_1).toNat * 4)).block, (ad168.add ((x5_1).toNat * 4)).off + 3, none⟩ = some (.int .i64 ((y7 l0 x5_1).f3)) ∧ w'.cell? (ad169.add ((x5_1).toNat * 4)) = some (.int .i64 ((y7 l1 x5_1).f0)) ∧ w'.cell? ⟨(ad169.add ((x5_1).toNat * 4)).block, (ad169.add ((x5_1).toNat * 4)).off + 1, none⟩ = some (.int .i64 ((y7 l1 x5_1).f1)) ∧ w'.cell? ⟨(ad169.add ((x5_1).toNat * 4)).block, (ad169.add ((x5_1).toNat * 4)).off + 2, none⟩ = some (.int .i64 ((y7 l1 x5_1).f2)) ∧ w'.cell? ⟨(ad169.add ((x5_1).toNat * 4)).block, (ad169.add ((x5_1).toNat * 4)).off + 3, none⟩ = some (.int .i64 ((y7 l1 x5_1).f3))) (ds := []) #[false, false, false, false, false, false, false, false, false, false] (by kernel_rfl) rfl rfl ⟨((HB.out.cell (World.block_lt_of_cell? w _ hw168_0)).trans hw168_0), ((HB.out.cell (World.block_lt_of_cell? w _ hw168_1)).trans hw168_1), ((HB.out.cell (World.block_lt_of_cell? w _ hw168_2)).trans hw168_2), ((HB.out.cell (World.block_lt_of_cell? w _ hw168_3)).trans hw168_3), ((HB.out.cell (World.block_lt_of_cell? w _ hw169_0)).trans hw169_0), ((HB.out.cell (World.block_lt_of_cell? w _ hw169_1)).trans hw169_1), ((HB.out.cell (World.block_lt_of_cell? w _ hw169_2)).trans hw169_2), ((HB.out.cell (World.block_lt_of_cell? w _ hw169_3)).trans hw169_3)⟩ (fun hHeld => ?_); refine q03 qq.q2o qq.q1v (fun HT_ HW_ => ?_)
        generalize wr.drew = w11 at HB hx168_0 hx168_1 hx168_2 hx168_3 hx169_0 hx169_1 hx169_2 hx169_3 hHeld ⊢
        refine yo (i := 0) (N := some 17) (v := ?_) (a' := ?_) #[true, false, false, false, false, false, false, false, false, false] rfl rfl (qj HT_.out (by kernel_rfl)) (fun _ _ _ h => h) (Or.inl ⟨by rfl, ?_⟩) ?_ ?_
        rotate_left
        ·intro w'
         go_simp
         with_reducible rfl
        rotate_left
        ·simp only [Act.put, List.setIfInBounds_toArray, List.set_cons_zero, List.set_cons_succ, yg, qg]
         rfl
        refine yo (i := 1) (N := some 18) (v := ?_) (a' := ?_) #[true, true, false, false, false, false, false, false, false, false] rfl rfl (qj HT_.out (by kernel_rfl)) (fun _ _ _ h => h) (Or.inl ⟨by rfl, ?_⟩) ?_ ?_
        rotate_left
        ·intro w'
         go_simp
         with_reducible rfl
        rotate_left
        ·simp only [Act.put, List.setIfInBounds_toArray, List.set_cons_zero, List.set_cons_succ, yg, qg]
         rfl
        refine yo (i := 2) (N := some 19) (v := ?_) (a' := ?_) #[true, true, true, false, false, false, false, false, false, false] rfl rfl (qj HT_.out (by kernel_rfl)) (fun _ _ _ h => h) (Or.inl ⟨by rfl, ?_⟩) ?_ ?_
        rotate_left
        ·intro w'
         go_simp
         with_reducible rfl
        rotate_left
        ·simp only [Act.put, List.setIfInBounds_toArray, List.set_cons_zero, List.set_cons_succ, yg, qg]
         rfl
        refine yo (i := 4) (N := some 21) (v := ?_) (a' := ?_) #[true, true, true, false, true, false, false, false, false, false] rfl rfl (qj HT_.out (by kernel_rfl)) (fun _ _ _ h => h) (Or.inl ⟨by rfl, ?_⟩) ?_ ?_
        rotate_left
        ·intro w'
         go_simp
         with_reducible rfl
        rotate_left
        ·simp only [Act.put, List.setIfInBounds_toArray, List.set_cons_zero, List.set_cons_succ, yg, qg]
         rfl
        refine yo (i := 5) (N := some 22) (v := ?_) (a' := ?_) #[true, true, true, false, true, true, false, false, false, false] rfl rfl (qj HT_.out (by kernel_rfl)) (fun _ _ _ h => h) (Or.inl ⟨by rfl, ?_⟩) ?_ ?_
        rotate_left
        ·intro w'
         go_simp
         with_reducible rfl
        rotate_left
        ·simp only [Act.put, List.setIfInBounds_toArray, List.set_cons_zero, List.set_cons_succ, yg, qg]
         rfl
        refine yo (i := 6) (N := some 23) (v := ?_) (a' := ?_) #[true, true, true, false, true, true, true, false, false, false] rfl rfl (qj HT_.out (by kernel_rfl)) (fun _ _ _ h => h) (Or.inl ⟨by rfl, ?_⟩) ?_ ?_
        rotate_left
        ·intro w'
         go_simp
         with_reducible rfl
        rotate_left
        ·simp only [Act.put, List.setIfInBounds_toArray, List.set_cons_zero, List.set_cons_succ, yg, qg]
         rfl
        refine y04 (i := 3) (N := some 20) (v := ?_) (a' := ?_) #[true, true, true, true, true, true, true, false, false, false] rfl rfl (zv HT_.out HW_.out (by kernel_rfl)) (fun _ _ _ h => h) (Or.inl ⟨by rfl, ?_⟩) hHeld ?_ ?_
        rotate_left
        ·rintro w' ⟨s0, s1, s2, s3, s4, s5, s6, s7⟩
         go_simp
         with_reducible rfl
        rotate_left
        ·simp only [Act.put, List.setIfInBounds_toArray, List.set_cons_zero, List.set_cons_succ, yg, qg]
         rfl
        refine y04 (i := 7) (N := some 24) (v := ?_) (a' := ?_) #[true, true, true, true, true, true, true, true, false, false] rfl rfl (zv HT_.out HW_.out (by kernel_rfl)) (fun _ _ _ h => h) (Or.inl ⟨by rfl, ?_⟩) hHeld ?_ ?_
        rotate_left
        ·rintro w' ⟨s0, s1, s2, s3, s4, s5, s6, s7⟩
         go_simp
         with_reducible rfl
        rotate_left
        ·simp only [Act.put, List.setIfInBounds_toArray, List.set_cons_zero, List.set_cons_succ, yg, qg]
         rfl
        refine q0j (i := 8) (N := some 25) #[true, true, true, true, true, true, true, true, true, false] rfl rfl (qz HT_.out (by kernel_rfl)) (by decide) (fun K hK => ?_)
        refine y0g Try.func152 (by kernel_rfl) rfl #[.agg #[.int .i64 ((y7 l0 x5_1).f0), .int .i64 ((y7 l0 x5_1).f1), .int .i64 ((y7 l0 x5_1).f2), .int .i64 ((y7 l0 x5_1).f3)], .agg #[.int .i64 ((y7 l1 x5_1).f0), .int .i64 ((y7 l1 x5_1).f1), .int .i64 ((y7 l1 x5_1).f2), .int .i64 ((y7 l1 x5_1).f3)]] (by rfl) rfl rfl (by (try simp only [List.map_toArray, List.map_cons, List.map_nil]); first | done | rfl | (simp only [List.length_drop, List.length_take]; rfl)) ?_
        with_reducible refine (q0a.calls ((y7 l0 x5_1).f0) ((y7 l0 x5_1).f1) ((y7 l0 x5_1).f2) ((y7 l0 x5_1).f3) ((y7 l1 x5_1).f0) ((y7 l1 x5_1).f1) ((y7 l1 x5_1).f2) ((y7 l1 x5_1).f3) false _ A7.out).mono ?_
        rintro e w12 ⟨rfl, hb⟩
        refine ⟨_, rfl, ?_⟩
        have n0_ := z2.mk (y8 (by repeat (first | (with_reducible first | exact HB.out | apply z4 | apply z1 | apply z3) | exact HB.out)) hb)
        clear HB
        have HB := n0_
        clear n0_
        (try clear hb)
        (try clear hb2)
        (try clear hk)
        (try clear hi)
        refine hK.out _ _ ⟨((HB.out.cell (World.block_lt_of_cell? w _ hw168_0)).trans hw168_0), ((HB.out.cell (World.block_lt_of_cell? w _ hw168_1)).trans hw168_1), ((HB.out.cell (World.block_lt_of_cell? w _ hw168_2)).trans hw168_2), ((HB.out.cell (World.block_lt_of_cell? w _ hw168_3)).trans hw168_3), ((HB.out.cell (World.block_lt_of_cell? w _ hw169_0)).trans hw169_0), ((HB.out.cell (World.block_lt_of_cell? w _ hw169_1)).trans hw169_1), ((HB.out.cell (World.block_lt_of_cell? w _ hw169_2)).trans hw169_2), ((HB.out.cell (World.block_lt_of_cell? w _ hw169_3)).trans hw169_3)⟩ (fun hHeld => ?_)
        clear hK K
        refine zx (a' := ?_) ?_ ?_
        rotate_left
        ·show Act.put _ (some 25) _ = _
         simp only [Act.put, List.setIfInBounds_toArray, List.set_cons_zero, List.set_cons_succ, yg, qg]
         rfl
        refine yo (i := 9) (N := some 26) (v := ?_) (a' := ?_) #[true, true, true, true, true, true, true, true, true, true] rfl rfl (qj HT_.out (by kernel_rfl)) (fun _ _ _ h => h) (Or.inl ⟨by rfl, ?_⟩) ?_ ?_
        rotate_left
        ·intro w'
         go_simp
         with_reducible rfl
        rotate_left
        ·simp only [Act.put, List.setIfInBounds_toArray, List.set_cons_zero, List.set_cons_succ, yg, qg]
         rfl
        refine y0n (q0b HT_.out (by kernel_rfl)) ?_
        try go_wp2
        go_ret
        exact ⟨by first | rfl | (simp [ya, qa] <;> rfl) | (simp [*, ya, qa] <;> rfl), by repeat (first | (with_reducible first | exact HB.out | apply z4 | apply z1 | apply z3) | exact HB.out)⟩
      ·rw [if_neg c6] at H
       exact absurd H (by simp)
     ·rw [if_neg c5] at H
      exact absurd H (by simp)
    ·rw [if_neg c4] at H
     have c4b0 : decide (x5_1 < (l0.length : Int)) = false := decide_eq_false c4
     clear c4
     obtain rfl := Option.some.inj H
     go_wp2
     go_ret
     exact ⟨by first | rfl | (simp [ya, qa] <;> rfl) | (simp [*, ya, qa] <;> rfl), by repeat (first | (with_reducible first | exact HB.out | apply z4 | apply z1 | apply z3) | exact HB.out)⟩
 ·rw [if_neg c3] at H
  have c3b0 : ((l0.length : Int) == (l1.length : Int)) = false := beq_eq_false_iff_ne.mpr c3
  have c3b1 : ((l0.length : Int) != (l1.length : Int)) = true := bne_iff_ne.mpr c3
  have c3b2 : (l0.length == l1.length) = false := by first | simpa using c3 | (simp at c3 ⊢; omega)
  obtain rfl := Option.some.inj H
  go_enter Try.func101, Try.ntmps101
  go_wp2
  go_ret
  exact ⟨by first | rfl | (simp [ya, qa] <;> rfl) | (simp [*, ya, qa] <;> rfl), by repeat (first | (with_reducible first | exact HB.out | apply z4 | apply z1 | apply z3) | exact HB.out)⟩
end Go.Proofs.Ytkeojolmapcgbaa.PEv
end
