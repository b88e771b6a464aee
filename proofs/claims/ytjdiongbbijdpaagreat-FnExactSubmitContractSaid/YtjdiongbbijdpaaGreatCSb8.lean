/- WHAT IS PROVED: FnExactSubmitContract, for every argument of its parameters' types that can be read as data: the call returns true and its arguments read as before. No condition. -/
import Derived.Test.YtjdiongbbijdpaaGreatCSb7
import Derived.WalkKit
import Derived.OrdersHeld
import Derived.DeepKeys
import Derived.Maps.RangeWalk
import Derived.Maps.OwnOps
import Derived.WideKeyEntry
import Derived.Orders
import Derived.Deep.Slices
import Derived.ChangeArms
import Derived.WideShapes
import Derived.Sort.AssemblyPlain
import Derived.Lib.SlicesCompact
import Derived.Test.YtjdiongbbijdpaaGreatProg
import Derived.Shelf.SortG.Plain
import Derived.Shelf.SortG.SortNone
import Derived.Shelf.SlicesG.CompactI
import Derived.Lib.OwnBridge
import Derived.RangeFuncGives
import Derived.RangeFuncBox
import Derived.RangeFuncLeaves
import Derived.Shelf.Abstract
import Derived.Maps.AppendAt
import Derived.OwnWalkIn
import Derived.TacticsInMore
import Derived.LoopNIn
import Derived.LoopIn
import Derived.Shelf.SlicesG.Delete
import Derived.Shelf.SlicesQ.Reverse
import Derived.Shelf.SlicesE.Kit
import Derived.Shelf.SlSortCmp.NoneTotal
import Derived.Shelf.SlSortCmp.WholeK
import Derived.Test.YtjdiongbbijdpaaGreatRows
import Derived.ProofKit
import Derived.OpenShut
import Derived.ShutString
import Derived.ChangeOld
import Derived.Below
import Derived.SizedLaws
set_option linter.unusedVariables false
set_option linter.unusedSimpArgs false
section
namespace Go.Proofs.YtjdiongbbijdpaaGreat
open Go Go.Sx
set_option maxRecDepth 20000
set_option maxHeartbeats 4000000
abbrev pkS (c : Clu) (cons : List Con) (ms : List Msg) : List PK := [.n (.l 2 (c.cons.map Con.cs)) (.l 2 (cons.map Con.cs)), .k (.l (c.shs.map Shd.cs)), .k (.l (c.accs.map Acc.cs)), .k (.l (c.ldrs.map Ldr.cs)), .n (.l 9 (c.msgs.map Msg.cs)) (.l 9 (ms.map Msg.cs))]
theorem q4z (c : Clu) (ho : zz c) (id : Int) (h : y07 c.cons id = none) : PC Tryz.prog 129 [.one (.p c.cs), .one (i64 id)] (.tup [.own true [.s (.int .i64 0), .l 4 []], .own false [.s (.bool false)]]) := by
 refine PC.begin Tryz.func129 Y (by kernel_rfl) ?_; have hi := q5w _ c.cons (fun x => x.id == id) 231 (.p [i64 id]) rfl (fun x _ => z1f x id) ho.1.1; rw [q18 h] at hi; refine z7 rfl (hi) rfl ⟨trivial, (List.forall_mem_cons.2 ⟨⟨trivial, trivial⟩, (fun _ h => nomatch h)⟩), trivial⟩ (xj (k := 1) rfl ?_); refine xr Y (zm Y ⟨(by decide), ⟨⟨Y, Y, Y, trivial⟩, ⟨Y, Y, trivial⟩, trivial⟩, z6 Y⟩)
def q6t (c : Clu) (x : Con) : Int := if yi x ≠ 0 then yi x else if z7l c x then 4 else match y07 c.cons x.id with | some y => if y.same x then 0 else 7 | none => if c.cons.length = 20 then 2 else 0
def qc5 (c : Clu) (x : Con) : Prop := yi x = 0 ∧ z7l c x = false ∧ y07 c.cons x.id = none ∧ c.cons.length ≠ 20
theorem zat (c : Clu) (ho : zz c) (hc : zj c = 0) (x : Con) (hl : x.legs.length ≤ 1048576) (h : ¬ qc5 c x) : PC Tryz.prog 65 [.one (.p c.cs), .agg x.cs] (rI (q6t c x)) := by
 refine PC.begin Tryz.func65 Y (by kernel_rfl) ?_; have hF := z0l x hl; have hn : (c.cons.map Con.cs).length = c.cons.length := by simp
 by_cases h1 : yi x = 0
 case neg =>
  have e : q6t c x = yi x := by unfold q6t; rw [if_pos h1]
  rw [e]; refine z7 Y (z0l _ (by assumption)) Y ⟨tv3, trivial⟩ ?_; refine xb Y ?_ ?_ <;> intro b0
  refine xr Y (zm Y ⟨⟨Y, Y, trivial⟩, z6 Y⟩); exact absurd b0 (by simp; omega); all_goals first | (exfalso; simp_all; done) | skip
 have hH := q0x c ho x hl
 cases h2 : y07 c.cons x.id with
 | none =>
   have hC := q0w c ho x.id h2
   cases h3 : z7l c x with
   | true =>
     have e : q6t c x = 4 := by unfold q6t; rw [if_neg (by simpa using h1), h3]; rfl
     rw [e]; rw [h3] at hH; refine z7 Y (z0l _ (by assumption)) Y ⟨tv3, trivial⟩ ?_; refine xb Y ?_ ?_ <;> intro b0
     exact absurd b0 (by simp; omega); refine z7 Y (hC) Y tv3 (z7 Y (hH) Y ⟨trivial, tv3, trivial⟩ (xj (k := 1) Y ?_)); refine xr Y (zm Y ⟨⟨Y, Y, trivial⟩, z6 Y⟩); all_goals first | (exfalso; simp_all; done) | skip
   | false =>
     have h4 : c.cons.length = 20 := by
      rcases Nat.decEq c.cons.length 20 with h5 | h5
      · exact absurd ⟨h1, h3, h2, h5⟩ h
      · exact h5
     have e : q6t c x = 2 := by unfold q6t; rw [if_neg (by simpa using h1), h3, h2]; simp [h4]
     rw [e]; rw [h3] at hH; refine z7 Y (z0l _ (by assumption)) Y ⟨tv3, trivial⟩ ?_; refine xb Y ?_ ?_ <;> intro b0
     exact absurd b0 (by simp; omega); refine z7 Y (hC) Y tv3 (z7 Y (hH) Y ⟨trivial, tv3, trivial⟩ (xj (k := 8) Y ?_)); refine xb Y ?_ ?_ <;> intro b1
     refine xr Y (zm Y ⟨⟨Y, Y, trivial⟩, z6 Y⟩); exact absurd b1 (by simp; omega); all_goals first | (exfalso; simp_all; done) | skip
 | some y =>
   have hC := z0x c ho x.id y h2
   cases h3 : z7l c x with
   | true =>
     have e : q6t c x = 4 := by unfold q6t; rw [if_neg (by simpa using h1), h3]; rfl
     rw [e]; rw [h3] at hH; refine z7 Y (z0l _ (by assumption)) Y ⟨tv3, trivial⟩ ?_; refine xb Y ?_ ?_ <;> intro b0
     exact absurd b0 (by simp; omega); refine z7 Y (hC) Y tv3 (z7 Y (hH) Y ⟨trivial, tv3, trivial⟩ (xj (k := 1) Y ?_)); refine xr Y (zm Y ⟨⟨Y, Y, trivial⟩, z6 Y⟩); all_goals first | (exfalso; simp_all; done) | skip
   | false =>
     have e : q6t c x = if y.same x then 0 else 7 := by unfold q6t; rw [if_neg (by simpa using h1), h3, h2]; rfl
     rw [e]; rw [h3] at hH; have hS := z4j y x (ho.1.2 y (y4z h2).1); refine z7 Y (z0l _ (by assumption)) Y ⟨tv3, trivial⟩ ?_; refine xb Y ?_ ?_ <;> intro b0
     exact absurd b0 (by simp; omega); refine z7 Y (hC) Y tv3 (z7 Y (hH) Y ⟨trivial, tv3, trivial⟩ (xj (k := 4) Y (z7 Y (hS) Y ⟨tv3, tv3, trivial⟩ (xj (k := 2) Y ?_)))); refine xb Y ?_ ?_ <;> intro b1
     refine xv Y Y Y ?_; rotate_left; refine xj (k := 1) Y ?_; refine xv Y Y Y ?_; rotate_left; all_goals first | (exfalso; simp_all; done) | (refine vi ?_; simp_all; done) | skip
theorem yat (c : Clu) (ho : zz c) (hc : zj c = 0) (x : Con) (hl : x.legs.length ≤ 1048576) (h : qc5 c x) : PP Tryz.prog 65 0 (pkS c (y20 x c.cons) (c.msgs ++ asks x (shF x.legs))) [.agg [], .agg x.cs] (rI 0) := by
 refine PP.begin Tryz.func65 Y (by kernel_rfl) ?_; obtain ⟨h1, h3, h2, h4⟩ := h; have hF := z0l x hl; have hn : (c.cons.map Con.cs).length = c.cons.length := by simp
 have hH := q0x c ho x hl; rw [h3] at hH; have hC := q4z c ho x.id h2; have hX := y1f x hl; obtain ⟨q1, q2, q3⟩ := q2y hc; have hx2 := y1x h1; have hSh := y68 x (by omega); have hS := q9j (c.cons ++ [x]) (by simp; omega) (z9k hc h2); rw [z9l hc h2, List.map_append] at hS; refine z7 Y (z0l _ (by assumption)) Y ⟨tv3, trivial⟩ ?_; refine xb Y ?_ ?_ <;> intro b0
 exact absurd b0 (by simp; omega); refine z7 Y (hC) Y ⟨⟨Y, ⟨Y, trivial⟩, ⟨Y, trivial⟩, ⟨Y, trivial⟩, Y, trivial⟩, trivial, trivial⟩ (z7 Y (hH) Y ⟨⟨Y, ⟨Y, trivial⟩, ⟨Y, trivial⟩, ⟨Y, trivial⟩, Y, trivial⟩, tv3, trivial⟩ (xj (k := 8) Y ?_)); refine xb Y ?_ ?_ <;> intro b1
 exact absurd b1 (by simp; omega); refine yb Y [] (Tk (Rg 0 4) (.take 4 (Rg 8 4) (.take 5 (Rg 6 6) (.alt 6 (.alt 7 (.alt 8 (Tk [9, 10] (.alt 11 .done .nil)) .nil) .nil) .nil)))) (by kernel_rfl) (z7 Y (hX) Y ⟨tv3, trivial⟩ (xs Y ⟨trivial, ⟨Y, Y⟩, trivial⟩ (xs Y Y (xs Y Y (xs Y (.inl Y) (xs Y (by simp; omega) (xs Y (by simp; omega) (z0k Y (hS) ⟨⟨Y, Y, Y, (by first | omega | (simp only [ai_len]; omega) | simp_all)⟩, ⟨Y, Y⟩, trivial⟩ Y (z7 Y (hSh) Y ⟨tv3, trivial⟩ ?_))))))))); refine q8v rfl (ι := Nat) (fun i => i ≤ (shF x.legs).length) (fun i => match i with | 0 => ⟨[(63, sV (.int .i64 ((0 : Nat) : Int))), (62, sV (.int .i64 (ints (shF x.legs)).length)), (61, .one (.h 6200000 (ints (shF x.legs)).length)), (3, .one (.a 3 0)), (0, .one (.a 1100000000 0))], [(1100000000, .var [.h 1100000001 ((y20 x c.cons).map Con.cs).length, .mx 2 1100000002, .mx 2 1100000003, .mx 2 1100000004, .h 1100000005 ((c.msgs).map Msg.cs).length]), (1100000001, .arr true 2 0 ((y20 x c.cons).map Con.cs)), (1100000005, .arr true 9 0 ((c.msgs).map Msg.cs)), (1100000002, .kp (.l (c.shs.map Shd.cs))), (1100000003, .kp (.l (c.accs.map Acc.cs))), (1100000004, .kp (.l (c.ldrs.map Ldr.cs))), (3, .var [.b (i64 x.id), .b (.l (x.legs.map Leg.cs))]), (6200000, .arr true 1 0 (ints (shF x.legs)))]⟩ | j + 1 => ⟨[(63, sV (.int .i64 ((j + 1 : Nat) : Int))), (62, sV (.int .i64 (ints (shF x.legs)).length)), (61, .one (.h 6200000 (ints (shF x.legs)).length)), (3, .one (.a 3 0)), (0, .one (.a 1100000000 0))], [(1100000000, .var [.h 1100000001 ((y20 x c.cons).map Con.cs).length, .mx 2 1100000002, .mx 2 1100000003, .mx 2 1100000004, .h 77 ((c.msgs ++ asks x ((shF x.legs).take (j + 1))).map Msg.cs).length]), (1100000001, .arr true 2 0 ((y20 x c.cons).map Con.cs)), (77, .arr true 9 0 ((c.msgs ++ asks x ((shF x.legs).take (j + 1))).map Msg.cs)), (1100000005, .dead), (1100000002, .kp (.l (c.shs.map Shd.cs))), (1100000003, .kp (.l (c.accs.map Acc.cs))), (1100000004, .kp (.l (c.ldrs.map Ldr.cs))), (3, .var [.b (i64 x.id), .b (.l (x.legs.map Leg.cs))]), (6200000, .arr true 1 0 (ints (shF x.legs)))]⟩) (fun i => (shF x.legs).length - i) 0 (Nat.zero_le _) ?_ ?_
 · exact .of ⟨⟨Y, Y, I, I, I, trivial⟩, ⟨⟨⟨Y, by simp [y30], Y⟩, I, I, I, I, trivial⟩, U, U, Y, Y, Y, ⟨Y, Y, trivial⟩, U, trivial⟩, Y⟩
 · intro i hi J hJ
   have hln : (ints (shF x.legs)).length = (shF x.legs).length := by simp [ints]
   have hsl := y1m x.legs x.legs.length; rw [List.take_length] at hsl
   cases i with
   | zero =>
     refine xb Y ?_ ?_ <;> intro h
     · have h : 0 < (shF x.legs).length := by simpa [hln] using h
       obtain ⟨s, hs⟩ := gx h; have hg : (ints (shF x.legs))[0]? = some [i64 s] := by simp [ints, hs]
       have hq := y8m ⟨y20 x c.cons, c.shs, c.accs, c.ldrs, c.msgs⟩ (y9s x.id s) (by show c.msgs.length ≤ _; omega); have he : c.msgs ++ [y9s x.id s] = c.msgs ++ asks x ((shF x.legs).take (0 + 1)) := by rw [y33 hs]; simp [asks]
       rw [show (Clu.mk (y20 x c.cons) c.shs c.accs c.ldrs c.msgs).msgs = c.msgs from rfl, he] at hq; refine xs Y Y (xs Y (nn_ _) (y9 Y _ hg (xs Y Y (xs Y Y (y9 Y _ hg ?_))))); refine yay _ 500200700 Y (hq) Y Y Y ⟨⟨⟨Y, Y⟩, Y⟩, ⟨⟨Y, trivial⟩, Y⟩, ⟨⟨Y, trivial⟩, Y⟩, ⟨⟨Y, trivial⟩, Y⟩, ⟨Y, Y, .inl Y⟩, trivial⟩ ⟨tv10, trivial⟩ Y ?_; exact q9 Y (hJ _ 1 (by omega) (by omega) ⟨[(7300004, 77)], Y, ⟨Y, Y, I, I, I, trivial⟩, ⟨⟨I, I, I, I, I, trivial⟩, U, U, trivial, Y, Y, Y, ⟨Y, Y, trivial⟩, U, trivial⟩, Y⟩)
     · have h : (shF x.legs).length = 0 := by have : ¬ 0 < (shF x.legs).length := by simpa [hln] using h
                                              omega
       have e : c.msgs ++ asks x (shF x.legs) = c.msgs := by rw [List.eq_nil_of_length_eq_zero h]; simp [asks]
       rw [e]; refine xr Y (z8w Y Y ⟨⟨Y, Y, .inl Y⟩, ⟨Y, trivial⟩, ⟨Y, trivial⟩, ⟨Y, trivial⟩, ⟨Y, Y, .inl Y⟩, trivial⟩ ⟨⟨Y, Y, trivial⟩, z6 Y⟩)
   | succ j =>
     have hal : (c.msgs ++ asks x ((shF x.legs).take (j + 1))).length ≤ c.msgs.length + (shF x.legs).length := by rw [List.length_append, q6h, List.length_take]; omega
     refine xb Y ?_ ?_ <;> intro h
     · have h : j + 1 < (shF x.legs).length := by
        have h : (j : Int) + 1 < (shF x.legs).length := by simpa [hln] using h
        omega
       obtain ⟨s, hs⟩ := gx h; have hg : (ints (shF x.legs))[j + 1]? = some [i64 s] := by simp [ints, hs]
       have hq := y8m ⟨y20 x c.cons, c.shs, c.accs, c.ldrs, c.msgs ++ asks x ((shF x.legs).take (j + 1))⟩ (y9s x.id s) (by show (c.msgs ++ asks x ((shF x.legs).take (j + 1))).length ≤ _; omega); have he : (c.msgs ++ asks x ((shF x.legs).take (j + 1))) ++ [y9s x.id s] = c.msgs ++ asks x ((shF x.legs).take (j + 1 + 1)) := by rw [y33 hs, List.append_assoc]
       rw [show (Clu.mk (y20 x c.cons) c.shs c.accs c.ldrs (c.msgs ++ asks x ((shF x.legs).take (j + 1)))).msgs = c.msgs ++ asks x ((shF x.legs).take (j + 1)) from rfl, he] at hq; refine xs Y Y (xs Y (nn_ _) (y9 Y _ hg (xs Y Y (xs Y Y (y9 Y _ hg ?_))))); refine yay _ 500400700 Y (hq) Y Y Y ⟨⟨⟨Y, Y⟩, Y⟩, ⟨⟨Y, trivial⟩, Y⟩, ⟨⟨Y, trivial⟩, Y⟩, ⟨⟨Y, trivial⟩, Y⟩, ⟨Y, Y, .inl Y⟩, trivial⟩ ⟨tv10, trivial⟩ Y ?_; exact q9 Y (hJ _ (j + 1 + 1) (by omega) (by omega) ⟨[(7300004, 77)], Y, ⟨cwi (by omega) (by omega) (by omega), Y, I, I, I, trivial⟩, ⟨⟨I, I, I, I, I, trivial⟩, U, U, trivial, Y, Y, Y, ⟨Y, Y, trivial⟩, U, trivial⟩, Y⟩)
     · have h : j + 1 = (shF x.legs).length := by
        have h : ((shF x.legs).length : Int) ≤ (j : Int) + 1 := by simpa [hln] using h
        omega
       have ee : asks x (shF x.legs) = asks x ((shF x.legs).take (j + 1)) := by rw [h, List.take_length]
       rw [ee]; refine xr Y (z8w Y Y ⟨⟨Y, Y, .inl Y⟩, ⟨Y, trivial⟩, ⟨Y, trivial⟩, ⟨Y, trivial⟩, ⟨Y, Y, .inl Y⟩, trivial⟩ ⟨⟨Y, Y, trivial⟩, z6 Y⟩)
theorem y9l (c : Clu) (x : Con) (cons : List Con) (ms : List Msg) (h : PP Tryz.prog 65 0 (pkS c cons ms) [.agg [], .agg x.cs] (rI 0)) : PP Tryz.prog 64 0 (pkS c cons ms) [.agg [], .one (.p x.cs)] (rI 0) := by
 refine PP.begin Tryz.func64 Y (by kernel_rfl) ?_; refine yay _ 500100100 Y (h) Y Y Y ⟨⟨Y, Y, .inl Y⟩, ⟨⟨Y, trivial⟩, Y⟩, ⟨⟨Y, trivial⟩, Y⟩, ⟨⟨Y, trivial⟩, Y⟩, ⟨Y, Y, .inl Y⟩, trivial⟩ ⟨tv3, trivial⟩ Y ?_; refine xr Y (z8w Y Y ⟨⟨Y, Y, .inl Y⟩, ⟨Y, trivial⟩, ⟨Y, trivial⟩, ⟨Y, trivial⟩, ⟨Y, Y, .inl Y⟩, trivial⟩ ⟨⟨Y, Y, trivial⟩, z6 Y⟩)
theorem z8p (c : Clu) (x : Con) (k : Int) (h : PC Tryz.prog 65 [.one (.p c.cs), .agg x.cs] (rI k)) : PC Tryz.prog 64 [.one (.p c.cs), .one (.p x.cs)] (rI k) := by
 refine PC.begin Tryz.func64 Y (by kernel_rfl) ?_; refine z7 Y (h) Y ⟨trivial, tv3, trivial⟩ ?_; refine xr Y (zm Y ⟨⟨Y, Y, trivial⟩, z6 Y⟩)
theorem ya4 (c : Clu) (ho : zz c) (fn : Nat) (xs : List Cell) (cons : List Con) (ms : List Msg) (hf : PP Tryz.prog fn 0 (pkS c cons ms) [.agg [], .one (.p xs)] (rI 0)) : PC Tryz.prog 95 [.agg c.cs, .one (.f fn [.p xs])] (q9e (told ⟨cons, c.shs, c.accs, c.ldrs, ms⟩).1 (told ⟨cons, c.shs, c.accs, c.ldrs, ms⟩).2) := by
 refine PC.begin Tryz.func95 Y (by kernel_rfl) ?_; have hn : (ms.map Msg.cs).length = ms.length := by simp
 have hc := z1u c ho; by_cases h : 200 < ms.length
 · have e : told ⟨cons, c.shs, c.accs, c.ldrs, ms⟩ = (2, q2n) := by unfold told; rw [if_pos (by exact h)]
   rw [e]; refine z7 Y (hc) Y ⟨tv6, trivial⟩ ?_; refine yay _ 500100200 Y (hf) Y Y Y ⟨⟨Y, Y, .inl Y⟩, ⟨⟨Y, Y⟩, Y⟩, ⟨⟨Y, Y⟩, Y⟩, ⟨⟨Y, Y⟩, Y⟩, ⟨Y, Y, .inl Y⟩, trivial⟩ ⟨trivial, trivial⟩ Y ?_; refine xj (k := 5) Y ?_; refine xb Y ?_ ?_ <;> intro b0
   refine xj (k := 1) Y ?_; refine xr Y (zm Y ⟨⟨Y, Y, Y, Y, Y, Y, Y, trivial⟩, z6 Y⟩); exact absurd b0 (by simp; omega); all_goals first | (exfalso; simp_all; done) | (exfalso; simp_all; omega) | skip
 · have e : told ⟨cons, c.shs, c.accs, c.ldrs, ms⟩ = (0, ⟨cons, c.shs, c.accs, c.ldrs, ms⟩) := by unfold told; rw [if_neg (by exact h)]
   rw [e]; refine z7 Y (hc) Y ⟨tv6, trivial⟩ ?_; refine yay _ 500200200 Y (hf) Y Y Y ⟨⟨Y, Y, .inl Y⟩, ⟨⟨Y, Y⟩, Y⟩, ⟨⟨Y, Y⟩, Y⟩, ⟨⟨Y, Y⟩, Y⟩, ⟨Y, Y, .inl Y⟩, trivial⟩ ⟨trivial, trivial⟩ Y ?_; refine xj (k := 5) Y ?_; refine xb Y ?_ ?_ <;> intro b0
   exact absurd b0 (by simp; omega); refine xj (k := 1) Y ?_; refine xr Y (zm Y ⟨⟨Y, Y, ⟨Y, Y, .inl Y⟩, ⟨Y, Y, .inl Y⟩, ⟨Y, Y, .inl Y⟩, ⟨Y, Y, .inl Y⟩, ⟨Y, Y, .inl Y⟩, trivial⟩, z6 Y⟩); all_goals first | (exfalso; simp_all; done) | (exfalso; simp_all; omega) | skip
theorem za4 (c : Clu) (ho : zz c) (hm : c.msgs.length ≤ 200) (fn : Nat) (xs : List Cell) (k : Int) (hf : PC Tryz.prog fn [.one (.p c.cs), .one (.p xs)] (rI k)) : PC Tryz.prog 95 [.agg c.cs, .one (.f fn [.p xs])] (q9e k (if k = 0 then c else q2n)) := by
 refine PC.begin Tryz.func95 Y (by kernel_rfl) ?_; have hn : (c.msgs.map Msg.cs).length = c.msgs.length := by simp
 have hc := z1u c ho; by_cases h : k = 0
 · subst h
   rw [if_pos rfl]; refine z7 Y (hc) Y ⟨tv6, trivial⟩ (z7 Y (hf) Y ⟨⟨Y, Y, Y, Y, Y, trivial⟩, trivial, trivial⟩ (xj (k := 5) Y ?_)); refine xb Y ?_ ?_ <;> intro b0
   exact absurd b0 (by simp; omega); refine xj (k := 1) Y ?_; refine xr Y (zm Y ⟨⟨Y, Y, ⟨Y, Y, .inl Y⟩, ⟨Y, Y, .inl Y⟩, ⟨Y, Y, .inl Y⟩, ⟨Y, Y, .inl Y⟩, ⟨Y, Y, .inl Y⟩, trivial⟩, z6 Y⟩); all_goals first | (exfalso; simp_all; done) | (exfalso; simp_all; omega) | skip
 · rw [if_neg h]
   refine z7 Y (hc) Y ⟨tv6, trivial⟩ (z7 Y (hf) Y ⟨⟨Y, Y, Y, Y, Y, trivial⟩, trivial, trivial⟩ ?_); refine xb Y ?_ ?_ <;> intro b0
   exact absurd b0 (by simp; omega); refine xj (k := 5) Y ?_; refine xb Y ?_ ?_ <;> intro b1
   refine xr Y (zm Y ⟨⟨Y, Y, Y, Y, Y, Y, Y, trivial⟩, z6 Y⟩); exact absurd b1 (by simp; omega); all_goals first | (exfalso; simp_all; done) | (exfalso; simp_all; omega) | skip
theorem z7r (c : Clu) (ho : zz c) (fn : Nat) (xs : List Cell) (k : Int) (d : Clu) (hf : zj c = 0 → PC Tryz.prog 95 [.agg c.cs, .one (.f fn [.p xs])] (q9e k d)) : PC Tryz.prog 63 [.agg c.cs, .one (.f fn [.p xs])] (q9e (if zj c = 0 then k else zj c) (if zj c = 0 then d else q2n)) := by
 refine PC.begin Tryz.func63 Y (by kernel_rfl) ?_; by_cases h : zj c = 0
 · have hA := hf h
   rw [if_pos h, if_pos h]; refine z7 Y (q83 c ho) Y ⟨tv6, trivial⟩ ?_; refine xb Y ?_ ?_ <;> intro b0
   exact absurd b0 (by simp; omega); refine z7 Y (hA) Y ⟨tv6, trivial, trivial⟩ ?_; refine xr Y (zm Y ⟨⟨Y, Y, ⟨Y, Y, .inl Y⟩, ⟨Y, Y, .inl Y⟩, ⟨Y, Y, .inl Y⟩, ⟨Y, Y, .inl Y⟩, ⟨Y, Y, .inl Y⟩, trivial⟩, z6 Y⟩); all_goals first | (exfalso; simp_all; done) | skip
 · rw [if_neg h, if_neg h]
   refine z7 Y (q83 c ho) Y ⟨tv6, trivial⟩ ?_; refine xb Y ?_ ?_ <;> intro b0
   refine xr Y (zm Y ⟨⟨Y, Y, Y, Y, Y, Y, Y, trivial⟩, z6 Y⟩); exact absurd b0 (by simp; omega); all_goals first | (exfalso; simp_all; done) | skip
theorem q74 (c : Clu) (ho : zz c) (x : Con) (hl : x.legs.length ≤ 1048576) : PC Tryz.prog 14 [.agg c.cs, .agg x.cs] (q9e (zr c x).1 (zr c x).2) := by
 refine PC.begin Tryz.func14 Y (by kernel_rfl) ?_; refine z5n (n := 0) Y (ι := Unit) (fun _ => True) (fun _ => ⟨[(2, .one (.b (.p c.cs))), (3, .one (.b (.p x.cs))), (4, .one (.a 4 0))], [(4, .var [.b (i64 0), .nil, .nil, .nil, .nil, .nil])]⟩) ?_ ?_
 · intro K hK
   exact q9 Y (hK _ () trivial ⟨⟨I, I, I, trivial⟩, ⟨⟨Y, trivial, trivial, trivial, trivial, trivial, trivial⟩, trivial⟩, Y⟩)
 intro _ _
 have hW : ∀ k d, zr c x = (if zj c = 0 then k else zj c, if zj c = 0 then d else q2n) → (zj c = 0 → PC Tryz.prog 95 [.agg c.cs, .one (.f 64 [.p x.cs])] (q9e k d)) → PC Tryz.prog 63 [.agg c.cs, .one (.f 64 [.p x.cs])] (q9e (zr c x).1 (zr c x).2) := fun k d e h => by
  rw [e]; exact z7r c ho 64 x.cs k d h
 have hA : PC Tryz.prog 63 [.agg c.cs, .one (.f 64 [.p x.cs])] (q9e (zr c x).1 (zr c x).2) := by
  by_cases hw : qc5 c x
  · refine hW (told (y6a c x)).1 (told (y6a c x)).2 ?_ fun hc => ya4 c ho _ x.cs _ _ (y9l c x _ _ (yat c ho hc x hl hw))
    obtain ⟨h1, h3, h2, h4⟩ := hw; unfold zr; by_cases hc : zj c = 0
    · rw [if_neg (by simpa using hc), if_neg (by simpa using h1), h3, h2, if_pos hc, if_pos hc]; simp [h4]
    · rw [if_pos hc, if_neg hc, if_neg hc]
  · refine hW (q6t c x) (if q6t c x = 0 then c else q2n) ?_ fun hc => za4 c ho (q2y hc).1 _ x.cs _ (z8p c x _ (zat c ho hc x hl hw))
    unfold zr; by_cases hc : zj c = 0
    · rw [if_neg (by simpa using hc), if_pos hc, if_pos hc]
      unfold q6t; by_cases h1 : yi x = 0
      · have n1 : ¬ yi x ≠ 0 := fun h => h h1
        rw [if_neg n1, if_neg n1]
        cases h3 : z7l c x with
        | true => rfl
        | false =>
          cases h2 : y07 c.cons x.id with
          | some y =>
            show (if y.same x = true then (0, c) else (7, q2n) : Int × Clu) = (if y.same x = true then (0 : Int) else 7, if (if y.same x = true then (0 : Int) else 7) = 0 then c else q2n); by_cases hs : y.same x = true
            · rw [if_pos hs, if_pos hs]; rfl
            · rw [if_neg hs, if_neg hs]; rfl
          | none =>
            have h4 : c.cons.length = 20 := by
             rcases Nat.decEq c.cons.length 20 with h5 | h5
             · exact absurd ⟨h1, h3, h2, h5⟩ hw
             · exact h5
            show (if c.cons.length = 20 then (2, q2n) else told (y6a c x) : Int × Clu) = (if c.cons.length = 20 then (2 : Int) else 0, if (if c.cons.length = 20 then (2 : Int) else 0) = 0 then c else q2n); rw [if_pos h4, if_pos h4]; rfl
      · rw [if_pos h1, if_pos h1, if_neg h1]
    · rw [if_pos hc, if_neg hc, if_neg hc]
 generalize (zr c x).1 = k at hA; generalize (zr c x).2 = d at hA; refine z7 Y (hA) Y ⟨tv6, trivial, trivial⟩ ?_; refine xr Y (zm Y ⟨⟨Y, Y, ⟨Y, Y, .inl Y⟩, ⟨Y, Y, .inl Y⟩, ⟨Y, Y, .inl Y⟩, ⟨Y, Y, .inl Y⟩, ⟨Y, Y, .inl Y⟩, trivial⟩, z6 Y⟩)
abbrev y7d (k : Int) (d : Clu) : Res := .one (.bor true (i64 k :: d.cs))
theorem q33 (k : Int) : PC Tryz.prog 49 [.one (i64 k)] (y7d k q2n) := PC.q9w (zb6 k)
theorem y5x (c : Clu) (ho : zz c) : PC Tryz.prog 52 [.agg c.cs] (.one (.bor true c.cs)) := PC.q9w (q41 c ho)
theorem z9n (c : Clu) : PC Tryz.prog 57 [.agg c.cs] (y7d (told c).1 (told c).2) := by
 refine PC.begin Tryz.func57 Y (by kernel_rfl) ?_; by_cases h : 200 < c.msgs.length
 · have e : told c = (2, q2n) := by unfold told; rw [if_pos h]
   rw [e]; refine xb Y ?_ ?_ <;> intro b0
   refine xr Y (zm Y ⟨⟨Y, Y, Y, Y, Y, Y, Y, trivial⟩, z6 Y⟩); exact absurd b0 (by simp; omega); all_goals first | (exfalso; simp_all; omega) | skip
 · have e : told c = (0, c) := by unfold told; rw [if_neg h]
   rw [e]; refine xb Y ?_ ?_ <;> intro b0
   exact absurd b0 (by simp; omega); refine xr Y (zm Y ⟨⟨Y, Y, Y, Y, Y, Y, Y, trivial⟩, z6 Y⟩); all_goals first | (exfalso; simp_all; omega) | skip
theorem y7f (c : Clu) (ho : zz c) (x : Con) (hl : x.legs.length ≤ 1048576) : PC Tryz.prog 11 [.agg c.cs, .agg x.cs] (y7d (zr c x).1 (zr c x).2) := by
 refine PC.begin Tryz.func11 Y (by kernel_rfl) ?_; refine z5n (n := 0) Y (ι := Unit) (fun _ => True) (fun _ => ⟨[(2, .one (.b (.p c.cs))), (3, .one (.b (.p x.cs))), (4, .one (.a 4 0))], [(4, .var [.b (i64 0), .nil, .nil, .nil, .nil, .nil])]⟩) ?_ ?_
 · intro K hK
   exact q9 Y (hK _ () trivial ⟨⟨I, I, I, trivial⟩, ⟨⟨Y, trivial, trivial, trivial, trivial, trivial, trivial⟩, trivial⟩, Y⟩)
 intro _ _; have hG := qap c ho; have hX := z0t x hl; by_cases hc : zj c = 0
 case neg =>
  have e : zr c x = (zj c, q2n) := by unfold zr; rw [if_pos hc]
  rw [e]; refine z7 Y (hG) Y ⟨tv6, trivial⟩ ?_; refine xb Y ?_ ?_ <;> intro b0
  refine z7 Y (q33 (zj c)) Y ⟨trivial, trivial⟩ ?_; refine xr Y (zm Y ⟨⟨Y, Y, Y, Y, Y, Y, Y, trivial⟩, z6 Y⟩); exact absurd b0 (by simp; omega); all_goals first | (exfalso; simp_all; done) | skip
 have n0 : ¬ zj c ≠ 0 := fun h => h hc
 by_cases h1 : yi x = 0
 case neg =>
  have e : zr c x = (yi x, q2n) := by unfold zr; rw [if_neg n0, if_pos h1]
  rw [e]; refine z7 Y (hG) Y ⟨tv6, trivial⟩ ?_; refine xb Y ?_ ?_ <;> intro b0
  exact absurd b0 (by simp; omega); refine z7 Y (z0t _ (by assumption)) Y ⟨tv3, trivial⟩ ?_; refine xb Y ?_ ?_ <;> intro b1
  refine z7 Y (q33 (yi x)) Y ⟨trivial, trivial⟩ ?_; refine xr Y (zm Y ⟨⟨Y, Y, Y, Y, Y, Y, Y, trivial⟩, z6 Y⟩); exact absurd b1 (by simp; omega); all_goals first | (exfalso; simp_all; done) | skip
 have n1 : ¬ yi x ≠ 0 := fun h => h h1
 have hSh := z1a x hl; have hla := z5a h1 c; have hlr := y3d h1; have hlw := y5y h1; have hsn : (c.shs.map Shd.cs).length = c.shs.length := by simp
 have hcn : (c.cons.map Con.cs).length = c.cons.length := by simp
 have hCp := y5x c ho; have hFd := q0p c x.id ho.1.1; obtain ⟨q1, q2, q3⟩ := q2y hc
 cases h3 : z7l c x with
 | true =>
   have e : zr c x = (4, q2n) := by unfold zr; rw [if_neg n0, if_neg n1, h3]; rfl
   rw [e]; rw [h3] at hla; have hlb : (c.shs.length : Int) ≤ q59 x := by simpa using hla.symm
   clear hla; refine z7 Y (hG) Y ⟨tv6, trivial⟩ ?_; refine xb Y ?_ ?_ <;> intro b0
   exact absurd b0 (by simp; omega); refine z7 Y (z0t _ (by assumption)) Y ⟨tv3, trivial⟩ ?_; refine xb Y ?_ ?_ <;> intro b1
   exact absurd b1 (by simp; omega); refine z7 Y (hSh) Y ⟨tv3, trivial⟩ (yb Y [] (Tk (Rg 0 5) (.take 5 [9] (.take 6 [] (.take 7 [8, 9] (Tk [8, 9] .done))))) (by kernel_rfl) (xs Y (hlw) (y9 Y _ hlr (xs Y Y ?_)))); refine xb Y ?_ ?_ <;> intro b2
   refine z7 Y (q33 4) Y ⟨trivial, trivial⟩ ?_; refine xr Y (zm Y ⟨⟨Y, Y, Y, Y, Y, Y, Y, trivial⟩, z6 Y⟩); exact absurd b2 (by simp; omega); all_goals first | (exfalso; simp_all; done) | (exfalso; simp_all; omega) | skip
 | false =>
   rw [h3] at hla; have hlb : q59 x < (c.shs.length : Int) := by simpa using hla.symm
   clear hla
   cases h2 : y07 c.cons x.id with
   | some y =>
     have e : zr c x = if y.same x then (0, c) else (7, q2n) := by unfold zr; rw [if_neg n0, if_neg n1, h3, h2]; rfl
     rw [e]; obtain ⟨i, hi0, hy⟩ := y18 h2; rw [hi0] at hFd; have hg := gm Con.cs hy; have hS := y31 y x (ho.1.2 y (y4z h2).1)
     cases hs : y.same x with
     | true =>
       rw [hs] at hS; show G _ (QR _ _ (y7d 0 c)) _ _ _; refine z7 Y (hG) Y ⟨tv6, trivial⟩ ?_; refine xb Y ?_ ?_ <;> intro b0
       exact absurd b0 (by simp; omega); refine z7 Y (z0t _ (by assumption)) Y ⟨tv3, trivial⟩ ?_; refine xb Y ?_ ?_ <;> intro b1
       exact absurd b1 (by simp; omega); refine z7 Y (hSh) Y ⟨tv3, trivial⟩ (yb Y [] (Tk (Rg 0 5) (.take 5 [9] (.take 6 [] (.take 7 [8, 9] (Tk [8, 9] .done))))) (by kernel_rfl) (xs Y (hlw) (y9 Y _ hlr (xs Y Y ?_)))); refine xb Y ?_ ?_ <;> intro b2
       exact absurd b2 (by simp; omega); refine z7 Y (hCp) Y ⟨tv6, trivial⟩ (z7 Y (hFd) Y tv3 (xj (k := 1) Y (yb Y [] (.take 0 [] (.take 1 [3, 4, 6, 7] (Tk [2, 3] (.take 4 [6, 7] (.take 5 [6, 7] (.alt 6 (.take 7 [] .done) .nil)))))) (by kernel_rfl) (xs Y (nn_ _) (y9 Y _ hg (xs Y Y (z7 Y (hS) Y ⟨tv3, tv3, trivial⟩ (xj (k := 1) Y ?_)))))))); refine xr Y (zm Y ⟨⟨Y, Y, Y, Y, Y, Y, Y, trivial⟩, z6 Y⟩); all_goals first | (exfalso; simp_all; done) | (exfalso; simp_all; omega) | skip
     | false =>
       rw [hs] at hS; show G _ (QR _ _ (y7d 7 q2n)) _ _ _; refine z7 Y (hG) Y ⟨tv6, trivial⟩ ?_; refine xb Y ?_ ?_ <;> intro b0
       exact absurd b0 (by simp; omega); refine z7 Y (z0t _ (by assumption)) Y ⟨tv3, trivial⟩ ?_; refine xb Y ?_ ?_ <;> intro b1
       exact absurd b1 (by simp; omega); refine z7 Y (hSh) Y ⟨tv3, trivial⟩ (yb Y [] (Tk (Rg 0 5) (.take 5 [9] (.take 6 [] (.take 7 [8, 9] (Tk [8, 9] .done))))) (by kernel_rfl) (xs Y (hlw) (y9 Y _ hlr (xs Y Y ?_)))); refine xb Y ?_ ?_ <;> intro b2
       exact absurd b2 (by simp; omega); refine z7 Y (hCp) Y ⟨tv6, trivial⟩ (z7 Y (hFd) Y tv3 (xj (k := 1) Y (yb Y [] (.take 0 [] (.take 1 [3, 4, 6, 7] (Tk [2, 3] (.take 4 [6, 7] (.take 5 [6, 7] (.alt 6 (.take 7 [] .done) .nil)))))) (by kernel_rfl) (xs Y (nn_ _) (y9 Y _ hg (xs Y Y (z7 Y (hS) Y ⟨tv3, tv3, trivial⟩ (xj (k := 1) Y (z7 Y (q33 7) Y ⟨trivial, trivial⟩ ?_))))))))); refine xr Y (zm Y ⟨⟨Y, Y, Y, Y, Y, Y, Y, trivial⟩, z6 Y⟩); all_goals first | (exfalso; simp_all; done) | (exfalso; simp_all; omega) | skip
   | none =>
     rw [q18 h2] at hFd; by_cases h4 : c.cons.length = 20
     · have e : zr c x = (2, q2n) := by unfold zr; rw [if_neg n0, if_neg n1, h3, h2]; simp [h4]
       rw [e]; refine z7 Y (hG) Y ⟨tv6, trivial⟩ ?_; refine xb Y ?_ ?_ <;> intro b0
       exact absurd b0 (by simp; omega); refine z7 Y (z0t _ (by assumption)) Y ⟨tv3, trivial⟩ ?_; refine xb Y ?_ ?_ <;> intro b1
       exact absurd b1 (by simp; omega); refine z7 Y (hSh) Y ⟨tv3, trivial⟩ (yb Y [] (Tk (Rg 0 5) (.take 5 [9] (.take 6 [] (.take 7 [8, 9] (Tk [8, 9] .done))))) (by kernel_rfl) (xs Y (hlw) (y9 Y _ hlr (xs Y Y ?_)))); refine xb Y ?_ ?_ <;> intro b2
       exact absurd b2 (by simp; omega); refine z7 Y (hCp) Y ⟨tv6, trivial⟩ (z7 Y (hFd) Y tv3 (xj (k := 1) Y ?_)); refine xb Y ?_ ?_ <;> intro b3
       refine z7 Y (q33 2) Y ⟨trivial, trivial⟩ ?_; refine xr Y (zm Y ⟨⟨Y, Y, Y, Y, Y, Y, Y, trivial⟩, z6 Y⟩); exact absurd b3 (by simp; omega); all_goals first | (exfalso; simp_all; done) | (exfalso; simp_all; omega) | skip
     · have e : zr c x = told (y6a c x) := by unfold zr; rw [if_neg n0, if_neg n1, h3, h2]; simp [h4]
       rw [e]; refine z7 Y (hG) Y ⟨tv6, trivial⟩ ?_; refine xb Y ?_ ?_ <;> intro b0
       exact absurd b0 (by simp; omega); refine z7 Y (z0t _ (by assumption)) Y ⟨tv3, trivial⟩ ?_; refine xb Y ?_ ?_ <;> intro b1
       exact absurd b1 (by simp; omega); refine z7 Y (hSh) Y ⟨tv3, trivial⟩ (yb Y [] (Tk (Rg 0 5) (.take 5 [9] (.take 6 [] (.take 7 [8, 9] (Tk [8, 9] .done))))) (by kernel_rfl) (xs Y (hlw) (y9 Y _ hlr (xs Y Y ?_)))); refine xb Y ?_ ?_ <;> intro b2
       exact absurd b2 (by simp; omega); refine z5n (n := 1) Y (ι := Unit) (fun _ => True) (fun _ => ⟨[(8, .one (.a 8 0)), (7, .one (.b (.l (ints (shF x.legs))))), (2, .one (.b (.p c.cs))), (3, .one (.b (.p x.cs))), (4, .one (.a 4 0))], [(8, .var [.b (.l (c.cons.map Con.cs)), .h 3900001 (c.shs.map Shd.cs).length, .h 3900002 (c.accs.map Acc.cs).length, .h 3900003 (c.ldrs.map Ldr.cs).length, .h 3900004 (c.msgs.map Msg.cs).length]), (3900001, .arr true 6 0 (c.shs.map Shd.cs)), (3900002, .arr true 1 0 (c.accs.map Acc.cs)), (3900003, .arr true 3 0 (c.ldrs.map Ldr.cs)), (3900004, .arr true 9 0 (c.msgs.map Msg.cs)), (4, .var [.b (i64 0), .nil, .nil, .nil, .nil, .nil])]⟩) ?_ ?_
       · intro K hK
         have hCo := q41 c ho; clear hCp; refine z7 Y (hCo) Y ⟨tv6, trivial⟩ ?_; exact q9 Y (hK _ () trivial ⟨⟨I, Y, Y, Y, I, trivial⟩, ⟨⟨I, I, I, I, I, trivial⟩, U, U, U, U, ⟨Y, trivial, trivial, trivial, trivial, trivial, trivial⟩, trivial⟩, Y⟩)
       intro _ _; clear hCp; refine z7 Y (hFd) Y tv3 (xj (k := 1) Y ?_); refine xb Y ?_ ?_ <;> intro b0
       exact absurd b0 (by simp; omega); all_goals first | (exfalso; simp_all; done) | (exfalso; simp_all; omega) | skip
       refine z5n (n := 1) Y (ι := Unit) (fun _ => True) (fun _ => ⟨[(10, sV (.int .i64 ((0 : Nat) : Int))), (8, .one (.a 8 0)), (7, .one (.b (.l (ints (shF x.legs))))), (2, .one (.b (.p c.cs))), (3, .one (.b (.p x.cs))), (4, .one (.a 4 0))], [(8, .var [.b (.l (c.cons.map Con.cs)), .h 3900001 (c.shs.map Shd.cs).length, .h 3900002 (c.accs.map Acc.cs).length, .h 3900003 (c.ldrs.map Ldr.cs).length, .h 3900004 (c.msgs.map Msg.cs).length]), (3900001, .arr true 6 0 (c.shs.map Shd.cs)), (3900002, .arr true 1 0 (c.accs.map Acc.cs)), (3900003, .arr true 3 0 (c.ldrs.map Ldr.cs)), (3900004, .arr true 9 0 (c.msgs.map Msg.cs)), (4, .var [.b (i64 0), .nil, .nil, .nil, .nil, .nil])]⟩) ?_ ?_
       · intro K hK
         exact q9 Y (hK _ () trivial ⟨⟨Y, I, Y, Y, Y, I, trivial⟩, ⟨⟨Y, I, I, I, I, trivial⟩, U, U, U, U, ⟨Y, trivial, trivial, trivial, trivial, trivial, trivial⟩, trivial⟩, Y⟩)
       intro _ _; refine z5n (n := 0) Y (ι := Unit) (fun _ => True) (fun _ => ⟨[(10, sV (.int .i64 ((y3v x.id c.cons : Nat) : Int))), (8, .one (.a 8 0)), (7, .one (.b (.l (ints (shF x.legs))))), (2, .one (.b (.p c.cs))), (3, .one (.b (.p x.cs))), (4, .one (.a 4 0))], [(8, .var [.b (.l (c.cons.map Con.cs)), .h 3900001 (c.shs.map Shd.cs).length, .h 3900002 (c.accs.map Acc.cs).length, .h 3900003 (c.ldrs.map Ldr.cs).length, .h 3900004 (c.msgs.map Msg.cs).length]), (3900001, .arr true 6 0 (c.shs.map Shd.cs)), (3900002, .arr true 1 0 (c.accs.map Acc.cs)), (3900003, .arr true 3 0 (c.ldrs.map Ldr.cs)), (3900004, .arr true 9 0 (c.msgs.map Msg.cs)), (4, .var [.b (i64 0), .nil, .nil, .nil, .nil, .nil])]⟩) ?_ ?_
       · intro K hK
         refine qc Y (ι := Nat) (fun i => i ≤ c.cons.length ∧ ∀ (j : Nat) (y : Con), j < i → c.cons[j]? = some y → y.id < x.id) (fun i => ⟨[(10, sV (.int .i64 (i : Nat))), (8, .one (.a 8 0)), (7, .one (.b (.l (ints (shF x.legs))))), (2, .one (.b (.p c.cs))), (3, .one (.b (.p x.cs))), (4, .one (.a 4 0))], [(8, .var [.b (.l (c.cons.map Con.cs)), .h 3900001 (c.shs.map Shd.cs).length, .h 3900002 (c.accs.map Acc.cs).length, .h 3900003 (c.ldrs.map Ldr.cs).length, .h 3900004 (c.msgs.map Msg.cs).length]), (3900001, .arr true 6 0 (c.shs.map Shd.cs)), (3900002, .arr true 1 0 (c.accs.map Acc.cs)), (3900003, .arr true 3 0 (c.ldrs.map Ldr.cs)), (3900004, .arr true 9 0 (c.msgs.map Msg.cs)), (4, .var [.b (i64 0), .nil, .nil, .nil, .nil, .nil])]⟩) (fun i => c.cons.length - i) 0 ⟨Nat.zero_le _, fun j y hj => by omega⟩ ?_ ?_
         · exact ⟨⟨Y, I, Y, Y, Y, I, trivial⟩, ⟨⟨Y, I, I, I, I, trivial⟩, U, U, U, U, ⟨Y, trivial, trivial, trivial, trivial, trivial, trivial⟩, trivial⟩, Y⟩
         · intro i ⟨hi, h0⟩ J hJ
           rcases Nat.lt_or_ge i c.cons.length with hlt | hge
           · obtain ⟨y, hy⟩ := gx hlt
             have hg := gm Con.cs hy; refine yb Y [] (Tk [0, 1] (.take 2 (Rg 3 13) (Tk (Rg 3 4) (.take 7 [9, 10, 11, 14, 15] (Tk [8, 9, 10] (.take 11 [14, 15] (.take 12 [] (.take 13 [14, 15] (Tk [14, 15] .done))))))))) (by kernel_rfl) ?_; refine xb Y ?_ ?_ <;> intro b0
             refine xj (k := 3) Y (xs Y (nn_ _) (y9 Y _ hg (xs Y Y (xj (k := 6) Y ?_)))); refine xb Y (fun b1 => ?_) (fun b1 => ?_); rotate_left; rotate_left; exact absurd b0 (by simp; omega)
             · have h2' : y.id < x.id := by simpa using b1
               exact q9 Y (hJ _ (i + 1) ⟨by omega, fun j z hj hz => by
                rcases Nat.lt_or_ge j i with h5 | h5
                · exact h0 j z h5 hz
                · have : j = i := by omega
                  subst this
                  rw [hy] at hz; cases hz; exact h2'⟩ (by omega) ⟨⟨cwi (by omega) (by omega) (by omega), ⟨rfl, rfl, rfl⟩, rfl, rfl, rfl, ⟨rfl, rfl, rfl⟩, trivial⟩, ⟨⟨rfl, ⟨rfl, rfl, rfl⟩, ⟨rfl, rfl, rfl⟩, ⟨rfl, rfl, rfl⟩, ⟨rfl, rfl, rfl⟩, trivial⟩, ⟨rfl, .inl rfl, .inl rfl⟩, ⟨rfl, .inl rfl, .inl rfl⟩, ⟨rfl, .inl rfl, .inl rfl⟩, ⟨rfl, .inl rfl, .inl rfl⟩, ⟨rfl, trivial, trivial, trivial, trivial, trivial, trivial⟩, trivial⟩, rfl⟩)
             · have h2' : x.id ≤ y.id := by simpa using b1
               have hle : y3v x.id c.cons = i := q89 h0 hi (.inr ⟨y, hy, h2'⟩); rw [hle] at hK; exact q9 Y (hK _ () trivial ⟨⟨Y, I, Y, Y, Y, I, trivial⟩, ⟨⟨Y, I, I, I, I, trivial⟩, U, U, U, U, ⟨Y, trivial, trivial, trivial, trivial, trivial, trivial⟩, trivial⟩, Y⟩)
           · have hie : i = c.cons.length := by omega
             have hle : y3v x.id c.cons = i := q89 h0 hi (.inl hie); rw [hle] at hK; refine yb Y [] (Tk [0, 1] (.take 2 (Rg 3 13) (Tk (Rg 3 4) (.take 7 [9, 10, 11, 14, 15] (Tk [8, 9, 10] (.take 11 [14, 15] (.take 12 [] (.take 13 [14, 15] (Tk [14, 15] .done))))))))) (by kernel_rfl) ?_; refine xb Y ?_ ?_ <;> intro b0
             exact absurd b0 (by simp; omega); refine xj (k := 10) Y ?_; all_goals first | (exfalso; simp_all; done) | (exfalso; simp_all; omega) | skip
             all_goals exact q9 Y (hK _ () trivial ⟨⟨Y, I, Y, Y, Y, I, trivial⟩, ⟨⟨Y, I, I, I, I, trivial⟩, U, U, U, U, ⟨Y, trivial, trivial, trivial, trivial, trivial, trivial⟩, trivial⟩, Y⟩)
       intro _ _; have hLc : PC Tryz.prog 55 [.agg x.cs] (.one (.bor true x.cs)) := PC.q9w (q0z x hl); have hk := z8a x.id c.cons
       have hrow : ∀ row ∈ c.cons.map Con.cs, row.length = 2 := fun row hr => by
        obtain ⟨y, _, rfl⟩ := List.mem_map.1 hr; rfl
       have hput : (c.cons.map Con.cs).take (y3v x.id c.cons) ++ [x.cs] ++ (c.cons.map Con.cs).drop (y3v x.id c.cons) = (y20 x c.cons).map Con.cs := by simp [y20, List.map_take, List.map_drop]
       have htk : (c.cons.map Con.cs).take c.cons.length = c.cons.map Con.cs := List.take_of_length_le (by simp); have hpl : ((y20 x c.cons).map Con.cs).length = c.cons.length + 1 := by simp [y30]
       refine z5n (n := 0) Y (ι := Unit) (fun _ => True) (fun _ => ⟨[(8, .one (.a 8 0)), (7, .one (.b (.l (ints (shF x.legs))))), (2, .one (.b (.p c.cs))), (3, .one (.b (.p x.cs))), (4, .one (.a 4 0))], [(8, .var [.h 78 ((y20 x c.cons).map Con.cs).length, .h 3900001 (c.shs.map Shd.cs).length, .h 3900002 (c.accs.map Acc.cs).length, .h 3900003 (c.ldrs.map Ldr.cs).length, .h 3900004 (c.msgs.map Msg.cs).length]), (78, .arr false 2 0 ((y20 x c.cons).map Con.cs)), (3900001, .arr true 6 0 (c.shs.map Shd.cs)), (3900002, .arr true 1 0 (c.accs.map Acc.cs)), (3900003, .arr true 3 0 (c.ldrs.map Ldr.cs)), (3900004, .arr true 9 0 (c.msgs.map Msg.cs)), (4, .var [.b (i64 0), .nil, .nil, .nil, .nil, .nil])]⟩) ?_ ?_
       · intro K hK
         refine yb Y [] (.take 1 [] (.take 2 [4, 5, 7, 8, 9, 14, 15, 16] (Tk [3, 4, 10, 12] (.alt 0 (.alt 5 (.take 6 (Rg 7 3 ++ Rg 14 3) (.alt 7 (.alt 8 (.alt 9 (.take 11 (Rg 13 4) (.take 13 [] (.alt 14 (.take 15 [] (.alt 16 .done .nil)) .nil))) (.alt 11 (.take 13 [] (.alt 9 (.alt 14 (.take 15 [] (.alt 16 .done .nil)) .nil) .nil)) .nil)) (.alt 11 (.take 13 [] (.alt 8 (.alt 9 (.alt 14 (.take 15 [] (.alt 16 .done .nil)) .nil) .nil) .nil)) .nil)) (.alt 11 (.take 13 [] (.alt 7 (.alt 8 (.alt 9 (.alt 14 (.take 15 [] (.alt 16 .done .nil)) .nil) .nil) .nil) .nil)) .nil))) (.alt 6 (.alt 5 (.alt 7 (.alt 8 (.alt 9 (.take 11 (Rg 13 4) (.take 13 [] (.alt 14 (.take 15 [] (.alt 16 .done .nil)) .nil))) (.alt 11 (.take 13 [] (.alt 9 (.alt 14 (.take 15 [] (.alt 16 .done .nil)) .nil) .nil)) .nil)) (.alt 11 (.take 13 [] (.alt 8 (.alt 9 (.alt 14 (.take 15 [] (.alt 16 .done .nil)) .nil) .nil) .nil)) .nil)) (.alt 11 (.take 13 [] (.alt 7 (.alt 8 (.alt 9 (.alt 14 (.take 15 [] (.alt 16 .done .nil)) .nil) .nil) .nil) .nil)) .nil)) (.alt 11 (.take 13 [] (.alt 5 (.alt 7 (.alt 8 (.alt 9 (.alt 14 (.take 15 [] (.alt 16 .done .nil)) .nil) .nil) .nil) .nil) .nil)) .nil)) (.alt 11 (.take 13 [] (.alt 5 (.take 6 (Rg 7 3 ++ Rg 14 3) (.alt 7 (.alt 8 (.alt 9 (.alt 14 (.take 15 [] (.alt 16 .done .nil)) .nil) .nil) .nil) .nil)) (.alt 6 (.alt 5 (.alt 7 (.alt 8 (.alt 9 (.alt 14 (.take 15 [] (.alt 16 .done .nil)) .nil) .nil) .nil) .nil) .nil) .nil))) .nil))) (.alt 6 (.alt 0 (.alt 5 (.alt 7 (.alt 8 (.alt 9 (.take 11 (Rg 13 4) (.take 13 [] (.alt 14 (.take 15 [] (.alt 16 .done .nil)) .nil))) (.alt 11 (.take 13 [] (.alt 9 (.alt 14 (.take 15 [] (.alt 16 .done .nil)) .nil) .nil)) .nil)) (.alt 11 (.take 13 [] (.alt 8 (.alt 9 (.alt 14 (.take 15 [] (.alt 16 .done .nil)) .nil) .nil) .nil)) .nil)) (.alt 11 (.take 13 [] (.alt 7 (.alt 8 (.alt 9 (.alt 14 (.take 15 [] (.alt 16 .done .nil)) .nil) .nil) .nil) .nil)) .nil)) (.alt 11 (.take 13 [] (.alt 5 (.alt 7 (.alt 8 (.alt 9 (.alt 14 (.take 15 [] (.alt 16 .done .nil)) .nil) .nil) .nil) .nil) .nil)) .nil)) (.alt 11 (.take 13 [] (.alt 0 (.alt 5 (.alt 7 (.alt 8 (.alt 9 (.alt 14 (.take 15 [] (.alt 16 .done .nil)) .nil) .nil) .nil) .nil) .nil) .nil)) .nil)) (.alt 11 (.take 13 [] (.alt 0 (.alt 5 (.take 6 (Rg 7 3 ++ Rg 14 3) (.alt 7 (.alt 8 (.alt 9 (.alt 14 (.take 15 [] (.alt 16 .done .nil)) .nil) .nil) .nil) .nil)) (.alt 6 (.alt 5 (.alt 7 (.alt 8 (.alt 9 (.alt 14 (.take 15 [] (.alt 16 .done .nil)) .nil) .nil) .nil) .nil) .nil) .nil)) (.alt 6 (.alt 0 (.alt 5 (.alt 7 (.alt 8 (.alt 9 (.alt 14 (.take 15 [] (.alt 16 .done .nil)) .nil) .nil) .nil) .nil) .nil) .nil) .nil))) .nil)))))) (by kernel_rfl) (xs Y (.inl Y) (xs Y (by simp; done) (xs Y (by simp; done) (xs Y (by simp; omega) ?_)))); refine yr Y ?_ ?_; refine xs Y trivial ?_; refine yr Y ?_ ?_; refine xs Y Y (xs Y (fun row hr => hrow row (List.mem_of_mem_take (List.mem_of_mem_drop hr))) (xs Y (by simp; omega) (xs Y (by simp; omega) ?_))); refine yr Y ?_ ?_; refine z7 Y (hLc) Y ⟨tv3, trivial⟩ ?_; refine yr Y ?_ ?_; refine xs Y ⟨trivial, Y, trivial⟩ ?_; refine yr Y ?_ ?_; refine xs Y (by simp; done) (xs Y Y (xs Y (.inl Y) (xs Y (by simp; omega) (xs Y (by simp; omega) (xs Y (.inr hrow) (xs Y (by simp; done) (xs Y (by simp; omega) (xs Y (by simp; done) (xs Y (by simp; done) ?_))))))))); refine xs rfl (fun row hr => hrow row (List.mem_of_mem_take (List.mem_of_mem_drop hr))) (xs rfl (fun h : false = true => nomatch h) (xs rfl (by simp; omega) ?_)); refine xs Y (by simp; omega) ?_; rotate_left; refine xs Y (.inr hrow) (xs Y (by simp; done) (xs Y (by simp; omega) (xs Y (by simp; done) (xs Y (by simp; done) (xs Y Y (xs Y (.inl Y) (xs Y (by simp; omega) (xs Y (by simp; omega) (xs Y (by simp; done) ?_))))))))); refine xs rfl (fun row hr => hrow row (List.mem_of_mem_take (List.mem_of_mem_drop hr))) (xs rfl (fun h : false = true => nomatch h) (xs rfl (by simp; omega) ?_)); refine xs Y (by simp; omega) ?_; rotate_left
         refine xs Y (.inr hrow) (xs Y (by simp; done) (xs Y (by simp; omega) (xs Y (by simp; done) (xs Y ⟨trivial, Y, trivial⟩ (xs Y (by simp; done) (xs Y Y (xs Y (.inl Y) (xs Y (by simp; omega) (xs Y (by simp; omega) ?_))))))))); refine xs rfl (by simp; done) (xs rfl (fun row hr => hrow row (List.mem_of_mem_take (List.mem_of_mem_drop hr))) (xs rfl (fun h : false = true => nomatch h) (xs rfl (by simp; omega) ?_))); refine xs Y (by simp; omega) ?_; rotate_left; refine xs Y (.inr hrow) (xs Y (by simp; done) (xs Y (by simp; omega) (xs Y (by simp; done) (z7 Y (hLc) Y ⟨tv3, trivial⟩ (xs Y ⟨trivial, Y, trivial⟩ (xs Y (by simp; done) (xs Y Y (xs Y (.inl Y) (xs Y (by simp; omega) ?_))))))))); refine xs rfl (by simp; omega) (xs rfl (by simp; done) (xs rfl (fun row hr => hrow row (List.mem_of_mem_take (List.mem_of_mem_drop hr))) (xs rfl (fun h : false = true => nomatch h) (xs rfl (by simp; omega) ?_)))); refine xs Y (by simp; omega) ?_; rotate_left; refine yr Y ?_ ?_; refine yr Y ?_ ?_; refine xs Y Y (xs Y (fun row hr => hrow row (List.mem_of_mem_take (List.mem_of_mem_drop hr))) (xs Y (by simp; omega) (xs Y (by simp; omega) ?_))); refine yr Y ?_ ?_; refine z7 Y (hLc) Y ⟨tv3, trivial⟩ ?_; refine yr Y ?_ ?_; refine xs Y ⟨trivial, Y, trivial⟩ ?_; refine yr Y ?_ ?_; refine xs Y (by simp; done) (xs Y Y (xs Y (.inl Y) (xs Y (by simp; omega) (xs Y (by simp; omega) (xs Y (.inr hrow) (xs Y (by simp; done) (xs Y (by simp; omega) (xs Y (by simp; done) (xs Y (by simp; done) ?_))))))))); refine xs rfl (fun row hr => hrow row (List.mem_of_mem_take (List.mem_of_mem_drop hr))) (xs rfl (fun h : false = true => nomatch h) (xs rfl (by simp; omega) ?_)); refine xs Y (by simp; omega) ?_; rotate_left; refine xs Y (.inr hrow) (xs Y (by simp; done) (xs Y (by simp; omega) (xs Y (by simp; done) (xs Y (by simp; done) (xs Y Y (xs Y (.inl Y) (xs Y (by simp; omega) (xs Y (by simp; omega) (xs Y (by simp; done) ?_))))))))); refine xs rfl (fun row hr => hrow row (List.mem_of_mem_take (List.mem_of_mem_drop hr))) (xs rfl (fun h : false = true => nomatch h) (xs rfl (by simp; omega) ?_)); refine xs Y (by simp; omega) ?_; rotate_left; refine xs Y (.inr hrow) (xs Y (by simp; done) (xs Y (by simp; omega) (xs Y (by simp; done) (xs Y ⟨trivial, Y, trivial⟩ (xs Y (by simp; done) (xs Y Y (xs Y (.inl Y) (xs Y (by simp; omega) (xs Y (by simp; omega) ?_))))))))); refine xs rfl (by simp; done) (xs rfl (fun row hr => hrow row (List.mem_of_mem_take (List.mem_of_mem_drop hr))) (xs rfl (fun h : false = true => nomatch h) (xs rfl (by simp; omega) ?_))); refine xs Y (by simp; omega) ?_; rotate_left; refine xs Y (.inr hrow) (xs Y (by simp; done) (xs Y (by simp; omega) (xs Y (by simp; done) (z7 Y (hLc) Y ⟨tv3, trivial⟩ (xs Y ⟨trivial, Y, trivial⟩ (xs Y (by simp; done) (xs Y Y (xs Y (.inl Y) (xs Y (by simp; omega) ?_))))))))); refine xs rfl (by simp; omega) (xs rfl (by simp; done) (xs rfl (fun row hr => hrow row (List.mem_of_mem_take (List.mem_of_mem_drop hr))) (xs rfl (fun h : false = true => nomatch h) (xs rfl (by simp; omega) ?_)))); refine xs Y (by simp; omega) ?_; rotate_left; refine xs Y (.inr hrow) (xs Y (by simp; done) (xs Y (by simp; omega) (xs Y (by simp; done) (xs Y Y (xs Y (fun row hr => hrow row (List.mem_of_mem_take (List.mem_of_mem_drop hr))) (xs Y (by simp; omega) (xs Y (by simp; omega) (z7 Y (hLc) Y ⟨tv3, trivial⟩ (xs Y ⟨trivial, Y, trivial⟩ ?_))))))))); refine xs rfl (by simp; done) (xs rfl rfl (xs rfl (.inl rfl) (xs rfl (by simp; omega) (xs rfl (by simp; omega) (xs rfl (by simp; done) (xs rfl (fun row hr => hrow row (List.mem_of_mem_take (List.mem_of_mem_drop hr))) (xs rfl (fun h : false = true => nomatch h) (xs rfl (by simp; omega) ?_)))))))); refine xs Y (by simp; omega) ?_; rotate_left; refine xs Y (.inr hrow) (xs Y (by simp; done) (xs Y (by simp; omega) (xs Y (by simp; done) ?_)))
         refine yr Y ?_ ?_; refine xs Y Y (xs Y (fun row hr => hrow row (List.mem_of_mem_take (List.mem_of_mem_drop hr))) (xs Y (by simp; omega) (xs Y (by simp; omega) (z7 Y (hLc) Y ⟨tv3, trivial⟩ (xs Y ⟨trivial, Y, trivial⟩ (xs Y (by simp; done) (xs Y Y (xs Y (.inl Y) (xs Y (by simp; omega) ?_))))))))); refine xs rfl (by simp; omega) (xs rfl (by simp; done) (xs rfl (fun row hr => hrow row (List.mem_of_mem_take (List.mem_of_mem_drop hr))) (xs rfl (fun h : false = true => nomatch h) (xs rfl (by simp; omega) ?_)))); refine xs Y (by simp; omega) ?_; rotate_left; refine xs Y Y (xs Y (fun row hr => hrow row (List.mem_of_mem_take (List.mem_of_mem_drop hr))) (xs Y (by simp; omega) (xs Y (by simp; omega) (z7 Y (hLc) Y ⟨tv3, trivial⟩ (xs Y ⟨trivial, Y, trivial⟩ (xs Y (by simp; done) (xs Y Y (xs Y (.inl Y) (xs Y (by simp; omega) ?_))))))))); refine xs rfl (by simp; omega) (xs rfl (by simp; done) (xs rfl (fun row hr => hrow row (List.mem_of_mem_take (List.mem_of_mem_drop hr))) (xs rfl (fun h : false = true => nomatch h) (xs rfl (by simp; omega) ?_)))); refine xs Y (by simp; omega) ?_; rotate_left; refine yr Y ?_ ?_; refine yr Y ?_ ?_; refine xs Y trivial ?_; refine yr Y ?_ ?_; refine xs Y Y (xs Y (fun row hr => hrow row (List.mem_of_mem_take (List.mem_of_mem_drop hr))) (xs Y (by simp; omega) (xs Y (by simp; omega) ?_))); refine yr Y ?_ ?_; refine z7 Y (hLc) Y ⟨tv3, trivial⟩ ?_; refine yr Y ?_ ?_; refine xs Y ⟨trivial, Y, trivial⟩ ?_; refine yr Y ?_ ?_; refine xs Y (by simp; done) (xs Y Y (xs Y (.inl Y) (xs Y (by simp; omega) (xs Y (by simp; omega) (xs Y (.inr hrow) (xs Y (by simp; done) (xs Y (by simp; omega) (xs Y (by simp; done) (xs Y (by simp; done) ?_))))))))); refine xs rfl (fun row hr => hrow row (List.mem_of_mem_take (List.mem_of_mem_drop hr))) (xs rfl (fun h : false = true => nomatch h) (xs rfl (by simp; omega) ?_)); refine xs Y (by simp; omega) ?_; rotate_left; refine xs Y (.inr hrow) (xs Y (by simp; done) (xs Y (by simp; omega) (xs Y (by simp; done) (xs Y (by simp; done) (xs Y Y (xs Y (.inl Y) (xs Y (by simp; omega) (xs Y (by simp; omega) (xs Y (by simp; done) ?_))))))))); refine xs rfl (fun row hr => hrow row (List.mem_of_mem_take (List.mem_of_mem_drop hr))) (xs rfl (fun h : false = true => nomatch h) (xs rfl (by simp; omega) ?_)); refine xs Y (by simp; omega) ?_; rotate_left; refine xs Y (.inr hrow) (xs Y (by simp; done) (xs Y (by simp; omega) (xs Y (by simp; done) (xs Y ⟨trivial, Y, trivial⟩ (xs Y (by simp; done) (xs Y Y (xs Y (.inl Y) (xs Y (by simp; omega) (xs Y (by simp; omega) ?_))))))))); refine xs rfl (by simp; done) (xs rfl (fun row hr => hrow row (List.mem_of_mem_take (List.mem_of_mem_drop hr))) (xs rfl (fun h : false = true => nomatch h) (xs rfl (by simp; omega) ?_))); refine xs Y (by simp; omega) ?_; rotate_left; refine xs Y (.inr hrow) (xs Y (by simp; done) (xs Y (by simp; omega) (xs Y (by simp; done) (z7 Y (hLc) Y ⟨tv3, trivial⟩ (xs Y ⟨trivial, Y, trivial⟩ (xs Y (by simp; done) (xs Y Y (xs Y (.inl Y) (xs Y (by simp; omega) ?_))))))))); refine xs rfl (by simp; omega) (xs rfl (by simp; done) (xs rfl (fun row hr => hrow row (List.mem_of_mem_take (List.mem_of_mem_drop hr))) (xs rfl (fun h : false = true => nomatch h) (xs rfl (by simp; omega) ?_)))); refine xs Y (by simp; omega) ?_; rotate_left; refine xs Y (.inr hrow) (xs Y (by simp; done) (xs Y (by simp; omega) (xs Y (by simp; done) (xs Y Y (xs Y (fun row hr => hrow row (List.mem_of_mem_take (List.mem_of_mem_drop hr))) (xs Y (by simp; omega) (xs Y (by simp; omega) (z7 Y (hLc) Y ⟨tv3, trivial⟩ (xs Y ⟨trivial, Y, trivial⟩ ?_))))))))); refine xs rfl (by simp; done) (xs rfl rfl (xs rfl (.inl rfl) (xs rfl (by simp; omega) (xs rfl (by simp; omega) (xs rfl (by simp; done) (xs rfl (fun row hr => hrow row (List.mem_of_mem_take (List.mem_of_mem_drop hr))) (xs rfl (fun h : false = true => nomatch h) (xs rfl (by simp; omega) ?_))))))))
         refine xs Y (by simp; omega) ?_; rotate_left; refine xs Y (.inr hrow) (xs Y (by simp; done) (xs Y (by simp; omega) (xs Y (by simp; done) (xs Y trivial (xs Y Y (xs Y (fun row hr => hrow row (List.mem_of_mem_take (List.mem_of_mem_drop hr))) (xs Y (by simp; omega) (xs Y (by simp; omega) (z7 Y (hLc) Y ⟨tv3, trivial⟩ ?_))))))))); refine xs rfl ⟨trivial, rfl, trivial⟩ (xs rfl (by simp; done) (xs rfl rfl (xs rfl (.inl rfl) (xs rfl (by simp; omega) (xs rfl (by simp; omega) (xs rfl (by simp; done) (xs rfl (fun row hr => hrow row (List.mem_of_mem_take (List.mem_of_mem_drop hr))) (xs rfl (fun h : false = true => nomatch h) (xs rfl (by simp; omega) ?_))))))))); refine xs Y (by simp; omega) ?_; rotate_left; refine xs Y (.inr hrow) (xs Y (by simp; done) (xs Y (by simp; omega) (xs Y (by simp; done) ?_))); refine yr Y ?_ ?_; refine xs Y trivial ?_; refine yr Y ?_ ?_; refine xs Y Y (xs Y (fun row hr => hrow row (List.mem_of_mem_take (List.mem_of_mem_drop hr))) (xs Y (by simp; omega) (xs Y (by simp; omega) (z7 Y (hLc) Y ⟨tv3, trivial⟩ (xs Y ⟨trivial, Y, trivial⟩ (xs Y (by simp; done) (xs Y Y (xs Y (.inl Y) (xs Y (by simp; omega) ?_))))))))); refine xs rfl (by simp; omega) (xs rfl (by simp; done) (xs rfl (fun row hr => hrow row (List.mem_of_mem_take (List.mem_of_mem_drop hr))) (xs rfl (fun h : false = true => nomatch h) (xs rfl (by simp; omega) ?_)))); refine xs Y (by simp; omega) ?_; rotate_left; refine xs Y Y (xs Y (fun row hr => hrow row (List.mem_of_mem_take (List.mem_of_mem_drop hr))) (xs Y (by simp; omega) (xs Y (by simp; omega) (z7 Y (hLc) Y ⟨tv3, trivial⟩ (xs Y ⟨trivial, Y, trivial⟩ (xs Y (by simp; done) (xs Y Y (xs Y (.inl Y) (xs Y (by simp; omega) ?_))))))))); refine xs rfl (by simp; omega) (xs rfl (by simp; done) (xs rfl (fun row hr => hrow row (List.mem_of_mem_take (List.mem_of_mem_drop hr))) (xs rfl (fun h : false = true => nomatch h) (xs rfl (by simp; omega) ?_)))); refine xs Y (by simp; omega) ?_; rotate_left; refine xs Y trivial (xs Y Y (xs Y (fun row hr => hrow row (List.mem_of_mem_take (List.mem_of_mem_drop hr))) (xs Y (by simp; omega) (xs Y (by simp; omega) (z7 Y (hLc) Y ⟨tv3, trivial⟩ (xs Y ⟨trivial, Y, trivial⟩ (xs Y (by simp; done) (xs Y Y (xs Y (.inl Y) ?_))))))))); refine xs rfl (by simp; omega) (xs rfl (by simp; omega) (xs rfl (by simp; done) (xs rfl (fun row hr => hrow row (List.mem_of_mem_take (List.mem_of_mem_drop hr))) (xs rfl (fun h : false = true => nomatch h) (xs rfl (by simp; omega) ?_))))); refine xs Y (by simp; omega) ?_; rotate_left; all_goals exact q9 Y (hK _ () trivial ⟨⟨I, Y, Y, Y, I, trivial⟩, ⟨⟨⟨Y, by rw [← hput]; simp; omega, Y⟩, I, I, I, I, trivial⟩, ⟨by rw [← hput]; simp [htk], .inl Y, .inl Y⟩, U, U, U, U, ⟨Y, trivial, trivial, trivial, trivial, trivial, trivial⟩, trivial⟩, Y⟩)
       intro _ _; refine z5n (n := 0) Y (ι := Unit) (fun _ => True) (fun _ => ⟨[(8, .one (.a 8 0)), (7, .one (.b (.l (ints (shF x.legs))))), (2, .one (.b (.p c.cs))), (3, .one (.b (.p x.cs))), (4, .one (.a 4 0))], [(8, .var [.b (.l ((y20 x c.cons).map Con.cs)), .b (.l (c.shs.map Shd.cs)), .b (.l (c.accs.map Acc.cs)), .b (.l (c.ldrs.map Ldr.cs)), .b (.l ((c.msgs ++ asks x (shF x.legs)).map Msg.cs))]), (4, .var [.b (i64 0), .nil, .nil, .nil, .nil, .nil])]⟩) ?_ ?_
       · intro K hK
         have hln : (ints (shF x.legs)).length = (shF x.legs).length := by simp [ints]
         have hsl := y1m x.legs x.legs.length; rw [List.take_length] at hsl; have hx2 := y1x h1; have e0 : c.msgs ++ asks x ((shF x.legs).take 0) = c.msgs := by simp [asks]
         refine q8v Y (ι := Nat) (fun i => i ≤ (shF x.legs).length) (fun i => ⟨[(11, sV (.int .i64 (i : Nat))), (8, .one (.a 8 0)), (7, .one (.b (.l (ints (shF x.legs))))), (2, .one (.b (.p c.cs))), (3, .one (.b (.p x.cs))), (4, .one (.a 4 0))], [(8, .var [.h 78 ((y20 x c.cons).map Con.cs).length, .h 3900001 (c.shs.map Shd.cs).length, .h 3900002 (c.accs.map Acc.cs).length, .h 3900003 (c.ldrs.map Ldr.cs).length, .h 77 ((c.msgs ++ asks x ((shF x.legs).take i)).map Msg.cs).length]), (78, .arr false 2 0 ((y20 x c.cons).map Con.cs)), (3900001, .arr true 6 0 (c.shs.map Shd.cs)), (3900002, .arr true 1 0 (c.accs.map Acc.cs)), (3900003, .arr true 3 0 (c.ldrs.map Ldr.cs)), (77, .arr true 9 0 ((c.msgs ++ asks x ((shF x.legs).take i)).map Msg.cs)), (4, .var [.b (i64 0), .nil, .nil, .nil, .nil, .nil])]⟩) (fun i => (shF x.legs).length - i) 0 (Nat.zero_le _) ?_ ?_
         · rw [e0]
           exact ⟨[(3900004, 77)], Y, ⟨Y, I, Y, Y, Y, I, trivial⟩, ⟨⟨I, I, I, I, I, trivial⟩, U, U, U, U, U, ⟨Y, trivial, trivial, trivial, trivial, trivial, trivial⟩, trivial⟩, Y⟩
         · intro i hi J hJ
           have hal : (c.msgs ++ asks x ((shF x.legs).take i)).length ≤ c.msgs.length + (shF x.legs).length := by rw [List.length_append, q6h, List.length_take]; omega
           refine xb Y ?_ ?_ <;> intro h
           · have h : i < (shF x.legs).length := by simpa [hln] using h
             obtain ⟨s, hs⟩ := gx h; have hg : (ints (shF x.legs))[i]? = some [i64 s] := by simp [ints, hs]
             have hq := q9h ⟨y20 x c.cons, c.shs, c.accs, c.ldrs, c.msgs ++ asks x ((shF x.legs).take i)⟩ (y9s x.id s) (by show (c.msgs ++ asks x ((shF x.legs).take i)).length ≤ _; omega); have he : (c.msgs ++ asks x ((shF x.legs).take i)) ++ [y9s x.id s] = c.msgs ++ asks x ((shF x.legs).take (i + 1)) := by rw [y33 hs, List.append_assoc]
             rw [show (Clu.mk (y20 x c.cons) c.shs c.accs c.ldrs (c.msgs ++ asks x ((shF x.legs).take i))).msgs = c.msgs ++ asks x ((shF x.legs).take i) from rfl, he] at hq; refine yb Y [7] (Tk [0, 1, 2] (.take 3 [6, 7] (.take 4 [] (.take 5 [6, 7] (.take 6 [] (.alt 7 .done .nil)))))) (by kernel_rfl) (xs Y (nn_ _) (y9 Y _ hg (xs Y Y ?_))); refine yay _ 501300400 Y (hq) Y Y Y ⟨⟨⟨Y, Y⟩, Y⟩, ⟨⟨Y, Y⟩, Y⟩, ⟨⟨Y, Y⟩, Y⟩, ⟨⟨Y, Y⟩, Y⟩, ⟨Y, Y, .inl Y⟩, trivial⟩ ⟨tv10, trivial⟩ Y ?_; exact q9 Y (hJ _ (i + 1) (by omega) (by omega) ⟨[(10800004, 77)], Y, ⟨cwi (by omega) (by omega) (by omega), I, Y, Y, Y, I, trivial⟩, ⟨⟨I, I, I, I, I, trivial⟩, U, U, U, U, U, ⟨Y, trivial, trivial, trivial, trivial, trivial, trivial⟩, trivial⟩, Y⟩)
           · have h : i = (shF x.legs).length := by
              have : ¬ i < (shF x.legs).length := by simpa [hln] using h
              omega
             subst h; rw [List.take_length]; skip; exact q9 Y (hK _ () trivial ⟨⟨I, Y, Y, Y, I, trivial⟩, ⟨⟨I, I, I, I, I, trivial⟩, ⟨Y, trivial, trivial, trivial, trivial, trivial, trivial⟩, trivial⟩, Y⟩)
       intro _ _; have hT := z9n (y6a c x); refine z7 Y (hT) Y ⟨tv6, trivial⟩ ?_; refine xr Y (zm Y ⟨⟨Y, Y, Y, Y, Y, Y, Y, trivial⟩, z6 Y⟩); all_goals skip
theorem z3e (z1 : Nat) (x0 : Int) (x1 : List (List Cell)) (k : Int) (k1 : Int) (h1 : WR 9000000000000000000 qs x1) (e1 : (mkR (mk qs) x1 k).2 = k1) : PG Tryz.prog 19 [.agg [.bor (.s (.int .i64 x0)), .giv true z1 x1], .one (.bor (i64 k))] (rI k1) [(1, (mkR (mk qs) x1 k).1)] := by
 refine PG.begin Tryz.func19 Y (by kernel_rfl) ?_; refine z0k Y (y3e z1 x1 k h1) ⟨⟨Y, Y, Y, Y⟩, Y, trivial⟩ Y ?_; rw [e1]; exact xr Y (y1t Y ⟨⟨Y, Y, trivial⟩, z6 Y⟩ ⟨⟨Y, Y, Y, qn _ _ _, qq h1⟩, trivial⟩)
theorem zb8 (x0 : Int) (x1 : List (List Cell)) (hw : WT 9223372036854775807 q7 [.s (.int .i64 x0), .l x1]) (b : Nat) (hb : b ≤ 1048576) :
 PC Tryz.prog 10 [.agg [.s (.int .i64 x0), .l x1], .one (i64 b)] (rI (-1)) ∨ ∃ x : Con, x0 = x.id ∧ x1 = x.legs.map Leg.cs ∧ x.legs.length ≤ 1048576 ∧ (WT 1048576 q7 x.cs ∧ tot q7 x.cs ≤ b) ∧
  (∃ n : Nat, n ≤ b ∧ PC Tryz.prog 10 [.agg x.cs, .one (i64 b)] (rI n)) ∧ PC Tryz.prog 13 [.agg x.cs] (.one (.own true [.s (.int .i64 x.id), .l 4 (x.legs.map Leg.cs)])) ∧ PC Tryz.prog 17 [.agg x.cs, .agg x.cs] (rB true) := by
 obtain ⟨_, _, e, k1⟩ := yu hw; cases e; have hsz := q2e x0 x1 b k1 (by omega) (by omega); by_cases ht : tot q7 [.s (.int .i64 x0), .l x1] ≤ b
 · right
   have hs : szn b (tot q7 [.s (.int .i64 x0), .l x1]) = ((b - tot q7 [.s (.int .i64 x0), .l x1] : Nat) : Int) := by
    unfold szn; rw [if_neg (by omega)]; omega
   rw [hs] at hsz; have hwt := ya1 hw (Nat.le_trans ht hb); obtain ⟨_, _, e, m1⟩ := yu hwt; cases e; have up : ∀ {e : Sh} {r : List (List Cell)}, WR 1048576 e r → WR 9000000000000000000 e r := fun h => h.mono (by omega)
   have heq := y26 x0 x1 x0 x1 (up m1) (up m1); rw [show dE (α := List Cell) [.s (.int .i64 x0), .l x1] [.s (.int .i64 x0), .l x1] = true from (Value.bool.inj (zy rfl)).symm] at heq; have hto := z2f x0 x1 m1; obtain ⟨us, rfl, hl, _⟩ := y02 m1 q6j; exact ⟨⟨x0, us⟩, Y, Y, hl, ⟨hwt, ht⟩, ⟨_, Nat.sub_le _ _, hsz⟩, hto, heq⟩
 · left
   have hs : szn b (tot q7 [.s (.int .i64 x0), .l x1]) = -1 := by
    unfold szn; rw [if_pos (by omega)]
   rw [hs] at hsz; exact hsz
theorem q92 (x : Con) (h : WT 1048576 q7 x.cs ∧ tot q7 x.cs ≤ 1048576) (k0 : Int) (h0 : 0 ≤ k0) (h1 : k0 ≤ 1000000000000000) : ∃ (k : Int) (r : List (List Cell)), 0 ≤ k ∧
 PG Tryz.prog 19 [.agg [.bor (.s (.int .i64 x.id)), .giv true 4 (x.legs.map Leg.cs)], .one (.bor (i64 k0))] (rI k) [(1, r)] := by
 obtain ⟨h, ht⟩ := h; obtain ⟨_, _, e, m1⟩ := yu h; cases e; have up : ∀ {e : Sh} {r : List (List Cell)}, WR 1048576 e r → WR 9000000000000000000 e r := fun h => h.mono (by omega)
 have hm := z3e 4 x.id (x.legs.map Leg.cs) k0 _ (up m1) rfl; have hl := m1.1; have hc := y9a (up m1); rw [show wid qs = 4 from rfl, show y43 qs = 0 from rfl] at hc; obtain ⟨_, h2⟩ := z4o (f := mk qs) (g := hd qs) (c := cnt qs) (rows := x.legs.map Leg.cs) (fun row hr k h1 h2 => y62 (m1.2 row hr) k h1 h2) k0 h0 (by omega)
 exact ⟨_, _, by
  show 0 ≤ (mkR (mk qs) (x.legs.map Leg.cs) k0).2
  rw [h2]; omega, hm⟩
theorem y7t (c : Clu) (h : WT 1048576 ze c.cs ∧ tot ze c.cs ≤ 1048576) : ∃ (k : Int) (r0 r1 r2 r3 r4 : List (List Cell)), 0 ≤ k ∧ k ≤ 1000000000000000 ∧
 PG Tryz.prog 18 [.agg [.giv true 2 (c.cons.map Con.cs), .giv true 6 (c.shs.map Shd.cs), .giv true 1 (c.accs.map Acc.cs), .giv true 3 (c.ldrs.map Ldr.cs), .giv true 9 (c.msgs.map Msg.cs)], .one (.bor (i64 1))] (rI k) [(0, r0), (1, r1), (2, r2), (3, r3), (4, r4)] := by
 obtain ⟨h, ht⟩ := h; obtain ⟨_, _, _, _, _, e, m0, m1, m2, m3, m4⟩ := q04 h; cases e; have up : ∀ {e : Sh} {r : List (List Cell)}, WR 1048576 e r → WR 9000000000000000000 e r := fun h => h.mono (by omega)
 have hm := z1v 2 6 1 3 9 _ _ _ _ _ 1 _ _ _ _ _ (up m0) (up m1) (up m2) (up m3) (up m4) rfl rfl rfl rfl rfl; have hc := z7u h; have hw : wid ze = 0 := rfl; have hw2 : y43 ze = 48 := rfl; rw [hw, hw2] at hc; have hk := (y62 h 1 (by omega) (by omega)).2
 exact ⟨_, _, _, _, _, _, by
  show 0 ≤ (mk ze c.cs 1).2
  rw [hk]; omega, by
  show (mk ze c.cs 1).2 ≤ _
  rw [hk]; omega, hm⟩
theorem q7g {c : Clu} {x : Con} (h : WT 1048576 ze c.cs ∧ tot ze c.cs ≤ 1048576) (hx : WT 1048576 q7 x.cs ∧ tot q7 x.cs ≤ 1048576) : WT 1048576 ze (zr c x).2.cs ∧ tot ze (zr c x).2.cs ≤ 4194304 := by
 unfold zr; split
 · exact zay
 rename_i hc; have hc : zj c = 0 := by simpa using hc
 split
 · exact zay
 split
 · exact zay
 split
 · split
   · exact ⟨h.1, Nat.le_trans h.2 (by decide)⟩
   · exact zay
 split
 · exact zay
 unfold told; split
 · exact zay
 rename_i hm; have hm : (y6a c x).msgs.length ≤ 200 := by omega
 have h20 := (q2y hc).2.2; obtain ⟨h, hs⟩ := h; obtain ⟨_, _, _, _, _, e, m0, m1, m2, m3, m4⟩ := q04 h; cases e; refine ⟨.l _ (by rw [List.length_map]; show (y20 x c.cons).length ≤ _; rw [y30]; omega) (fun row hr => ?_) (.l _ m1.1 m1.2 (.l _ m2.1 m2.2 (.l _ m3.1 m3.2 (.l _ (by rw [List.length_map]; exact Nat.le_trans hm (by decide)) (fun row hr => ?_) .nil)))), ?_⟩
 · obtain ⟨y, hy, rfl⟩ := List.mem_map.1 hr
   rcases z9e.1 hy with hy | rfl
   · exact m0.2 _ (List.mem_map_of_mem hy)
   · exact hx.1
 · obtain ⟨m, _, rfl⟩ := List.mem_map.1 hr
   exact zbm _ m
 · have e1 : tot ze (y6a c x).cs = ((y6a c x).cons.map Con.cs).length + qz (tot q7) ((y6a c x).cons.map Con.cs) + ((c.shs.map Shd.cs).length + qz (tot zb) (c.shs.map Shd.cs) + ((c.accs.map Acc.cs).length + qz (tot z8) (c.accs.map Acc.cs) + ((c.ldrs.map Ldr.cs).length + qz (tot qa) (c.ldrs.map Ldr.cs) + (((y6a c x).msgs.map Msg.cs).length + qz (tot qb) ((y6a c x).msgs.map Msg.cs) + 0)))) := rfl
   have e2 : tot ze c.cs = (c.cons.map Con.cs).length + qz (tot q7) (c.cons.map Con.cs) + ((c.shs.map Shd.cs).length + qz (tot zb) (c.shs.map Shd.cs) + ((c.accs.map Acc.cs).length + qz (tot z8) (c.accs.map Acc.cs) + ((c.ldrs.map Ldr.cs).length + qz (tot qa) (c.ldrs.map Ldr.cs) + ((c.msgs.map Msg.cs).length + qz (tot qb) (c.msgs.map Msg.cs) + 0)))) := rfl
   have e3 : qz (tot q7) ((y6a c x).cons.map Con.cs) = qz (tot q7) (c.cons.map Con.cs) + tot q7 x.cs := by
    show qz (tot q7) ((y20 x c.cons).map Con.cs) = _; unfold y20; rw [List.map_append, List.map_append, y0q, y0q, List.map_take, List.map_drop, q0e (tot q7) (c.cons.map Con.cs) (y3v x.id c.cons)]; show _ + (tot q7 x.cs + 0) + _ = _; omega
   have e4 : (y6a c x).cons.length = c.cons.length + 1 := y30 _ _; rw [z6u] at e1 e2; simp only [List.length_map] at e1 e2; show tot ze (y6a c x).cs ≤ _; omega
theorem y99 (cs xs : List Cell) (hw : WT 9223372036854775807 ze cs) (hx : WT 9223372036854775807 q7 xs) : PC Tryz.prog 3 [.agg cs, .agg xs] (rB true) := by
 refine PC.begin Tryz.func3 Y (by kernel_rfl) ?_; obtain ⟨y0, y1, y2, y3, y4, rfl, _⟩ := q04 hw; obtain ⟨z0, z1, rfl, _⟩ := yu hx; rcases yb7 y0 y1 y2 y3 y4 hw 1048576 (Nat.le_refl _) with hsz | ⟨c, rfl, rfl, rfl, rfl, rfl, ho, hwt, ⟨m, hm, hsz⟩, hto, heq⟩
 · skip
   refine z7 Y (hsz) Y ⟨tv6, trivial, trivial⟩ (xj (k := 1) Y ?_); refine xr Y (zm Y ⟨⟨Y, Y, trivial⟩, z6 Y⟩)
 · rcases zb8 z0 z1 hx m hm with hgz | ⟨x, rfl, rfl, hxl, hxw, ⟨n2, _, hgz⟩, hgto, hgeq⟩
   · skip
     refine z7 Y (hsz) Y ⟨tv6, trivial, trivial⟩ (xj (k := 1) Y (z7 Y (hgz) Y ⟨tv3, trivial, trivial⟩ (xj (k := 1) Y ?_))); refine xr Y (zm Y ⟨⟨Y, Y, trivial⟩, z6 Y⟩)
   · have hI := q74 c ho x hxl
     have hS := y7f c ho x hxl; obtain ⟨w1, w2⟩ := q7g (x := x) hwt ⟨hxw.1, by omega⟩; unfold y7d at hS; generalize (zr c x).1 = code at hI hS; generalize (zr c x).2 = d at hI hS w1 w2; have hr := qa9 d w1 code; obtain ⟨k1, r0, r1, r2, r3, r4, hk1, hk2, hmk⟩ := y7t c hwt; obtain ⟨k, rx, hk, hmx⟩ := q92 x ⟨hxw.1, by omega⟩ k1 hk1 hk2; obtain ⟨q, s0, s1, s2, s3, s4, hq, ⟨l0, l1, l2, l3, l4⟩, hmr, hhd⟩ := ya9 d w1 w2; refine z7 Y (hsz) Y ⟨tv6, trivial, trivial⟩ (xj (k := 1) Y (z7 Y (hgz) Y ⟨tv3, trivial, trivial⟩ (xj (k := 1) Y ?_))); refine z5n (n := 1) Y (ι := Unit) (fun _ => True) (fun _ => ⟨[(6, .one (.a 6 0)), (2, .one (.b (.p c.cs))), (3, .one (.b (.p x.cs)))], [(6, .var (.b (i64 code) :: d.cs.map .b))]⟩) ?_ ?_
     · intro K hK
       refine yb Y [] (.take 0 [1, 3, 4, 6] (.take 2 [3, 4, 6] (.alt 1 (.alt 3 (.alt 4 (.alt 5 (.alt 6 .done .nil) .nil) (.alt 5 (.alt 4 (.alt 6 .done .nil) .nil) .nil)) (.alt 5 (.alt 3 (.alt 4 (.alt 6 .done .nil) .nil) .nil) .nil)) (.alt 5 (.alt 1 (.alt 3 (.alt 4 (.alt 6 .done .nil) .nil) .nil) .nil) .nil)))) (by kernel_rfl) ?_; refine yr Y ?_ ?_; refine z7 Y (PC.q9w hto) Y ⟨tv6, trivial⟩ ?_; refine yr Y ?_ ?_; refine z7 Y (PC.q9w hgto) Y ⟨tv3, trivial⟩ ?_; refine yr Y ?_ ?_; refine z7 Y (hS) Y ⟨tv6, tv3, trivial⟩ ?_; rotate_left; refine z7 Y (hS) Y ⟨tv6, tv3, trivial⟩ ?_; rotate_left; refine z7 Y (PC.q9w hgto) Y ⟨tv3, trivial⟩ ?_; refine z7 Y (hS) Y ⟨tv6, tv3, trivial⟩ ?_; rotate_left; refine z7 Y (PC.q9w hto) Y ⟨tv6, trivial⟩ (z7 Y (PC.q9w hgto) Y ⟨tv3, trivial⟩ ?_); refine z7 Y (hS) Y ⟨tv6, tv3, trivial⟩ ?_; rotate_left; all_goals exact q9 Y (hK _ () trivial ⟨⟨I, I, I, trivial⟩, ⟨⟨Y, Y, Y, Y, Y, Y, trivial⟩, trivial⟩, Y⟩)
     intro _ _; refine z7 Y (hto) Y ⟨tv6, trivial⟩ (z7 Y (hgto) Y ⟨tv3, trivial⟩ (z7 Y (hI) Y ⟨⟨Y, Y, Y, Y, Y, trivial⟩, ⟨trivial, Y, trivial⟩, trivial⟩ (z7 Y (hr) Y ⟨⟨trivial, Y, Y, Y, Y, Y, trivial⟩, tv7, trivial⟩ (xj (k := 1) Y (yb Y [] (.take 0 [3, 4] (.take 1 (Rg 2 3) (.alt 2 (.alt 3 (.take 4 [] .done) .nil) .nil))) (by kernel_rfl) (z7 Y (hto) Y ⟨tv6, trivial⟩ (z7 Y (heq) Y ⟨⟨Y, Y, Y, Y, Y, trivial⟩, ⟨Y, Y, Y, Y, Y, trivial⟩, trivial⟩ (xj (k := 1) Y (yb Y [] (.take 0 [3, 4] (.take 1 (Rg 2 3) (.alt 2 (.alt 3 (.take 4 [] .done) .nil) .nil))) (by kernel_rfl) ?_))))))))); refine z7 Y (hgto) Y ⟨tv3, trivial⟩ (z7 Y (hgeq) Y ⟨⟨trivial, Y, trivial⟩, ⟨trivial, Y, trivial⟩, trivial⟩ (xj (k := 1) Y (z0k Y (hmk) ⟨⟨⟨Y, Y, Y, Y⟩, ⟨Y, Y, Y, Y⟩, ⟨Y, Y, Y, Y⟩, ⟨Y, Y, Y, Y⟩, ⟨Y, Y, Y, Y⟩, trivial⟩, Y, trivial⟩ Y (z0k Y (hmx) ⟨⟨Y, ⟨Y, Y, Y, Y⟩, trivial⟩, Y, trivial⟩ Y ?_)))); refine xb Y ?_ ?_ <;> intro b0
     exact absurd b0 (by simp; omega); refine xj (k := 2) Y (z7 Y (hr) Y ⟨⟨trivial, Y, Y, Y, Y, Y, trivial⟩, tv7, trivial⟩ (xj (k := 3) Y (z0k Y (hmr code) ⟨⟨Y, ⟨Y, Y, Y, Y⟩, ⟨Y, Y, Y, Y⟩, ⟨Y, Y, Y, Y⟩, ⟨Y, Y, Y, Y⟩, ⟨Y, Y, Y, Y⟩, trivial⟩, Y, trivial⟩ Y (z7 Y (hhd code) Y ⟨⟨trivial, l0.symm, l1.symm, l2.symm, l3.symm, l4.symm, trivial⟩, trivial, trivial⟩ ?_)))); refine xb Y ?_ ?_ <;> intro b0
     exact absurd b0 (by simp; omega); refine xb Y ?_ ?_ <;> intro b1
     exact absurd b1 (by simp [*]); refine z5n (n := 1) Y (ι := Unit) (fun _ => True) (fun _ => ⟨[(13, .one (.a 13 0)), (9, .one (.a 9 0)), (6, .one (.a 6 0)), (11, sV (.int .i64 q))], [(13, .var (.b (i64 code) :: d.cs.map .b)), (9, .var [.b (i64 code), .b (.l s0), .b (.l s1), .b (.l s2), .b (.l s3), .b (.l s4)]), (6, .var (.b (i64 code) :: d.cs.map .b))]⟩) ?_ ?_
     · intro K hK
       refine yb Y [] (.take 0 [1, 3, 4, 6] (.take 2 [3, 4, 6] (.alt 1 (.alt 3 (.alt 4 (.alt 5 (.alt 6 .done .nil) .nil) (.alt 5 (.alt 4 (.alt 6 .done .nil) .nil) .nil)) (.alt 5 (.alt 3 (.alt 4 (.alt 6 .done .nil) .nil) .nil) .nil)) (.alt 5 (.alt 1 (.alt 3 (.alt 4 (.alt 6 .done .nil) .nil) .nil) .nil) .nil)))) (by kernel_rfl) ?_; refine yr Y ?_ ?_; refine z7 Y (hto) Y ⟨tv6, trivial⟩ ?_; refine yr Y ?_ ?_; refine z7 Y (hgto) Y ⟨tv3, trivial⟩ ?_; refine yr Y ?_ ?_; refine z7 Y (hI) Y ⟨⟨Y, Y, Y, Y, Y, trivial⟩, ⟨trivial, Y, trivial⟩, trivial⟩ ?_; rotate_left; refine z7 Y (hI) Y ⟨⟨Y, Y, Y, Y, Y, trivial⟩, ⟨trivial, Y, trivial⟩, trivial⟩ ?_; rotate_left; refine z7 Y (hgto) Y ⟨tv3, trivial⟩ ?_; refine z7 Y (hI) Y ⟨⟨Y, Y, Y, Y, Y, trivial⟩, ⟨trivial, Y, trivial⟩, trivial⟩ ?_; rotate_left; refine z7 Y (hto) Y ⟨tv6, trivial⟩ (z7 Y (hgto) Y ⟨tv3, trivial⟩ ?_); refine z7 Y (hI) Y ⟨⟨Y, Y, Y, Y, Y, trivial⟩, ⟨trivial, Y, trivial⟩, trivial⟩ ?_; rotate_left; all_goals exact q9 Y (hK _ () trivial ⟨⟨I, I, I, Y, trivial⟩, ⟨⟨Y, I, I, I, I, I, trivial⟩, ⟨Y, ⟨Y, l0.symm, Y⟩, ⟨Y, l1.symm, Y⟩, ⟨Y, l2.symm, Y⟩, ⟨Y, l3.symm, Y⟩, ⟨Y, l4.symm, Y⟩, trivial⟩, ⟨Y, Y, Y, Y, Y, Y, trivial⟩, trivial⟩, Y⟩)
     intro _ _; refine z7 Y (hr) Y ⟨tv7, tv7, trivial⟩ (xj (k := 1) Y (z7 Y (hhd code) Y ⟨tv7, trivial, trivial⟩ ?_)); refine xb Y ?_ ?_ <;> intro b0
     exact absurd b0 (by simp; omega); refine xb Y ?_ ?_ <;> intro b1
     exact absurd b1 (by simp [*]); refine xr Y (zm Y ⟨⟨Y, Y, trivial⟩, z6 Y⟩)
end Go.Proofs.YtjdiongbbijdpaaGreat
end
section
namespace Go.Proofs.YtjdiongbbijdpaaGreat.fnExactSubmitContract
open Go.ChangeShapes Go.WideShapes Go.ChangeAt Go.RowKit
set_option maxRecDepth 100000 in
set_option maxHeartbeats 40000000 in
theorem closed : joinedFacts Tryz.pinned.checked.prog 3 Tryz.f3 Rows.fnExactSubmitContractSpec Rows.fnExactSubmitContractRow = true := by
 unfold joinedFacts; simp only [Bool.and_eq_true]
 repeat' refine And.intro ?_ ?_
 all_goals as_aux_lemma => kernel_rfl
end Go.Proofs.YtjdiongbbijdpaaGreat.fnExactSubmitContract
end
section
namespace Go.Proofs.YtjdiongbbijdpaaGreat.fnExactSubmitContract
open Go.ChangeShapes Go.WideShapes Go.ChangeAt Go.RowKit Go.Sx
open Go.ChangeMaps (open_string shut_string)
theorem own : ownKnob Tryz.prog.godebug = none := by kernel_rfl
theorem laidOut : laidOutB Tryz.prog = true := by kernel_rfl
theorem q2 : OS Tryz.prog 2 (.i .i64 .nil) := ybg Tryz.underlying2 (by kernel_rfl)
theorem yce : OS Tryz.prog 128 qs := z01 Tryz.underlying128 (by kernel_rfl) (.cons (by kernel_rfl) (.cons (by kernel_rfl) (.cons (by kernel_rfl) (.cons (by kernel_rfl) (.nil _))))) (qh q2 (qh q2 (qh q2 (y0h q2) rfl rfl) rfl rfl) rfl rfl)
theorem q29 : OS Tryz.prog 29 (.l qs .nil) := q06 Tryz.underlying29 (by kernel_rfl) yce
theorem q31 : OS Tryz.prog 31 q7 := z01 Tryz.underlying31 (by kernel_rfl) (.cons (by kernel_rfl) (.cons (by kernel_rfl) (.nil _))) (qh q2 (y0h q29) rfl rfl)
theorem q22 : OS Tryz.prog 22 (.l q7 .nil) := q06 Tryz.underlying22 (by kernel_rfl) q31
theorem zci : OS Tryz.prog 344 qd := z01 Tryz.underlying344 (by kernel_rfl) (.cons (by kernel_rfl) (.cons (by kernel_rfl) (.cons (by kernel_rfl) (.nil _)))) (qh q2 (qh q2 (y0h q2) rfl rfl) rfl rfl)
theorem qce : OS Tryz.prog 143 (.l qd .nil) := q06 Tryz.underlying143 (by kernel_rfl) zci
theorem yci : OS Tryz.prog 346 zh := z01 Tryz.underlying346 (by kernel_rfl) (.cons (by kernel_rfl) (.cons (by kernel_rfl) (.nil _))) (qh q2 (y0h q2) rfl rfl)
theorem yca : OS Tryz.prog 144 (.l zh .nil) := q06 Tryz.underlying144 (by kernel_rfl) yci
theorem q86 : OS Tryz.prog 86 (.l (.i .i64 .nil) .nil) := q06 Tryz.underlying86 (by kernel_rfl) q2
theorem zcf : OS Tryz.prog 146 zb := z01 Tryz.underlying146 (by kernel_rfl) (.cons (by kernel_rfl) (.cons (by kernel_rfl) (.cons (by kernel_rfl) (.cons (by kernel_rfl) (.cons (by kernel_rfl) (.cons (by kernel_rfl) (.nil _))))))) (qh q2 (qh qce (qh yca (qh q22 (qh yca (y0h q86) rfl rfl) rfl rfl) rfl rfl) rfl rfl) rfl rfl)
theorem q23 : OS Tryz.prog 23 (.l zb .nil) := q06 Tryz.underlying23 (by kernel_rfl) zcf
theorem qc4 : OS Tryz.prog 178 yl := z01 Tryz.underlying178 (by kernel_rfl) (.cons (by kernel_rfl) (.cons (by kernel_rfl) (.nil _))) (qh q2 (y0h q2) rfl rfl)
theorem qca : OS Tryz.prog 333 (.l yl .nil) := q06 Tryz.underlying333 (by kernel_rfl) qc4
theorem ych : OS Tryz.prog 335 zk := z01 Tryz.underlying335 (by kernel_rfl) (.cons (by kernel_rfl) (.cons (by kernel_rfl) (.cons (by kernel_rfl) (.cons (by kernel_rfl) (.cons (by kernel_rfl) (.nil _)))))) (qh q2 (qh q2 (qh q2 (qh qc4 (y0h qca) rfl rfl) rfl rfl) rfl rfl) rfl rfl)
theorem ycf : OS Tryz.prog 148 (.l zk .nil) := q06 Tryz.underlying148 (by kernel_rfl) ych
theorem qcf : OS Tryz.prog 150 z8 := z01 Tryz.underlying150 (by kernel_rfl) (.cons (by kernel_rfl) (.nil _)) (y0h ycf)
theorem q24 : OS Tryz.prog 24 (.l z8 .nil) := q06 Tryz.underlying24 (by kernel_rfl) qcf
theorem qch : OS Tryz.prog 338 qp := z01 Tryz.underlying338 (by kernel_rfl) (.cons (by kernel_rfl) (.cons (by kernel_rfl) (.cons (by kernel_rfl) (.cons (by kernel_rfl) (.cons (by kernel_rfl) (.cons (by kernel_rfl) (.nil _))))))) (qh q2 (qh q2 (qh q2 (qh q2 (qh q86 (y0h qca) rfl rfl) rfl rfl) rfl rfl) rfl rfl) rfl rfl)
theorem zcg : OS Tryz.prog 152 (.l qp .nil) := q06 Tryz.underlying152 (by kernel_rfl) qch
theorem qci : OS Tryz.prog 350 zn := z01 Tryz.underlying350 (by kernel_rfl) (.cons (by kernel_rfl) (.cons (by kernel_rfl) (.cons (by kernel_rfl) (.cons (by kernel_rfl) (.cons (by kernel_rfl) (.nil _)))))) (qh q2 (qh q2 (qh q2 (qh q2 (y0h q2) rfl rfl) rfl rfl) rfl rfl) rfl rfl)
theorem ycg : OS Tryz.prog 153 (.l zn .nil) := q06 Tryz.underlying153 (by kernel_rfl) qci
theorem qcg : OS Tryz.prog 155 qa := z01 Tryz.underlying155 (by kernel_rfl) (.cons (by kernel_rfl) (.cons (by kernel_rfl) (.cons (by kernel_rfl) (.nil _)))) (qh q2 (qh zcg (y0h ycg) rfl rfl) rfl rfl)
theorem q25 : OS Tryz.prog 25 (.l qa .nil) := q06 Tryz.underlying25 (by kernel_rfl) qcg
theorem zch : OS Tryz.prog 180 qb := z01 Tryz.underlying180 (by kernel_rfl) (.cons (by kernel_rfl) (.cons (by kernel_rfl) (.cons (by kernel_rfl) (.cons (by kernel_rfl) (.cons (by kernel_rfl) (.cons (by kernel_rfl) (.cons (by kernel_rfl) (.cons (by kernel_rfl) (.nil _))))))))) (qh q2 (qh q2 (qh q2 (qh q2 (qh q2 (qh q2 (qh q2 (y0h qc4) rfl rfl) rfl rfl) rfl rfl) rfl rfl) rfl rfl) rfl rfl) rfl rfl)
theorem q26 : OS Tryz.prog 26 (.l qb .nil) := q06 Tryz.underlying26 (by kernel_rfl) zch
theorem q28 : OS Tryz.prog 28 ze := z01 Tryz.underlying28 (by kernel_rfl) (.cons (by kernel_rfl) (.cons (by kernel_rfl) (.cons (by kernel_rfl) (.cons (by kernel_rfl) (.cons (by kernel_rfl) (.nil _)))))) (qh q22 (qh q23 (qh q24 (qh q25 (y0h q26) rfl rfl) rfl rfl) rfl rfl) rfl rfl)
set_option maxRecDepth 100000 in
theorem lifted (os : Os) (started : os.Started) (H : Type) (enc : TypeId × Value → H) :
 ReturnsInHanded {} Tryz.checked os 3 .any (Rows.fnExactSubmitContractSpec.pre6 enc Tryz.prog Tryz.f3 Rows.fnExactSubmitContractRow.domain false) (Rows.fnExactSubmitContractSpec.post enc Tryz.prog Tryz.f3 false true false false) := by
 refine returnsInHanded_of_change_sized (C := Tryz.checked) own started (by kernel_rfl) Tryz.func3
  (ChangeSpec.witness6 (enc := enc) (C := Tryz.checked) false ⟨#[], #[.agg #[.slice none 0 0, .slice none 0 0, .slice none 0 0, .slice none 0 0, .slice none 0 0], .agg #[.int .i64 0, .slice none 0 0]], []⟩ 8 (by kernel_rfl) (by kernel_rfl) (by kernel_rfl) (by kernel_rfl)) ?_
 intro W base args ds gs before hval0 hW _ _ _; have hval : ∀ (j : Nat) t v, Tryz.f3.params[j]? = some t → args[j]? = some v → Value.okWide Tryz.prog W .any base t v := hval0
 have hW' := hW; obtain ⟨p, q, hA0, hV, rfl, hfz, hnd⟩ := hW; have hA : DataW.TrodAll enc Tryz.prog W 0 (fun _ => true) true Tryz.f3.params.toList args.toList ds p := hA0; rw [Tryz.params3] at hA hval; obtain ⟨v0, vs0, d0, ds0, p0, q0, hargs, rfl, rfl, h0, r0⟩ := trodAll_cons hA; obtain ⟨v1, vs1, d1, ds1, p1, q1, rfl, rfl, rfl, h1, r1⟩ := trodAll_cons r0; obtain ⟨rfl, rfl, rfl⟩ := trodAll_nil r1; obtain rfl : args = #[v0, v1] := by cases args; simp_all
 obtain ⟨rfl, rfl⟩ := trodVars_none hV; have k0 := h0; have lt0 : ∀ x ∈ p0, x.block < W.heap.size := by obtain ⟨m, hm⟩ := k0; exact DataW.trod_lt m _ _ _ hm
 obtain ⟨c0, R0, w0⟩ := z9s Tryz.underlying28 q28 (hval 0 28 v0 rfl rfl) h0; have k1 := h1; have lt1 : ∀ x ∈ p1, x.block < W.heap.size := by obtain ⟨m, hm⟩ := k1; exact DataW.trod_lt m _ _ _ hm
 obtain ⟨c1, R1, w1⟩ := z9s Tryz.underlying31 q31 (hval 1 31 v1 rfl rfl) h1; clear hA0 hval0; refine (PC.law (y99 c0 c1 w0 w1) (q4u.two R0 R1)).mono fun e W' ⟨he, bel⟩ => ?_
 subst he; exact ⟨_, Y, _, _, _, [], _, [], hW', trodAll_mk1 (shut_bool Tryz.underlying4 _), (trodAll_cons_mk (Below.trod laidOut (by kernel_rfl) (of_decide_eq_true (by kernel_rfl)) k0 bel lt0) (trodAll_cons_mk (Below.trod laidOut (by kernel_rfl) (of_decide_eq_true (by kernel_rfl)) k1 bel lt1) trodAll_mk0)), Y, bel.frame _, fun h => by cases h⟩
theorem zce : Rows.fnExactSubmitContractRow.holds Tryz.pinned (OpenSpec.ofChange Rows.fnExactSubmitContractSpec) :=
 OpenClaim.holds_of_wide 3 Tryz.f3 rfl rfl rfl rfl rfl rfl rfl ⟨rfl, rfl, rfl, rfl, rfl⟩ rfl rfl rfl rfl rfl (by as_aux_lemma => kernel_rfl) Tryz.func3 closed
  (by as_aux_lemma => exact of_decide_eq_true (by kernel_rfl)) (by as_aux_lemma => unfold Func.isWrapper; first | (rw [if_pos (by decide +kernel)]; kernel_rfl) | (rw [if_neg (by decide +kernel)]; exact ⟨Y, Y⟩))
  (fun os started H enc _ => lifted os started H enc)
theorem ybh : Rows.FnExactSubmitContractSaid := zce
end Go.Proofs.YtjdiongbbijdpaaGreat.fnExactSubmitContract
namespace Go.Proofs.YtjdiongbbijdpaaGreat
theorem fnExactSubmitContract_holds : Rows.FnExactSubmitContractSaid := fnExactSubmitContract.ybh
end Go.Proofs.YtjdiongbbijdpaaGreat
end
