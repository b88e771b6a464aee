/- WHAT IS PROVED: parts of the proof of fnExactResendShard_holds: a frame for walks, what each Go function that it reaches answers, and plain lemmas; no condition beyond those that each theorem names. -/
import Derived.Test.YtbnbjaedijbnpaaGreatCRs6
import Derived.WalkKit
import Derived.OrdersHeld
import Derived.DeepKeys
import Derived.Maps.RangeWalk
import Derived.Maps.OwnOps
import Derived.WideKeyEntry
import Derived.Orders
import Derived.Deep.Slices
import Derived.ChangeArms
import Derived.WideShapes
import Derived.Sort.AssemblyPlain
import Derived.Test.YtbnbjaedijbnpaaGreatProg
import Derived.Shelf.SortG.Plain
import Derived.Shelf.SortG.SortNone
import Derived.Shelf.SlicesG.CompactI
import Derived.Lib.OwnBridge
import Derived.RangeFuncGives
import Derived.RangeFuncBox
import Derived.RangeFuncLeaves
import Derived.Shelf.Abstract
import Derived.Maps.AppendAt
import Derived.OwnWalkIn
import Derived.TacticsInMore
import Derived.LoopNIn
import Derived.LoopIn
set_option linter.unusedVariables false
set_option linter.unusedSimpArgs false
section
namespace Go.Proofs.YtbnbjaedijbnpaaGreat
open Go Go.Sx
set_option maxRecDepth 20000
set_option maxHeartbeats 4000000
theorem y2e (us : List Mk) : ∀ row ∈ us.map Mk.cs, row.length = 2 := fun row h => by
 simp at h
 obtain ⟨_, _, rfl⟩ := h; rfl
theorem z6y (us : List Mk) : zr (us.map Mk.cs) := fun row h => by
 simp only [List.mem_map] at h
 obtain ⟨x, _, rfl⟩ := h
 intro c hc
 simp at hc
 rcases hc with rfl | rfl <;> exact ⟨_, rfl⟩
theorem z91 (c : Clu) (ho : q00 c) : PC Tryz.prog 99 [.one (.p c.cs)] (rI (scan (z2i c) c.shs.length)) := by
 refine PC.begin Tryz.func99 rfl (by kernel_rfl) ?_
 have hl := ho.2.1.1
 refine yd rfl (ι := Nat) (fun i => i ≤ c.shs.length ∧ ∀ j, j < i → z2i c j = 0) (fun i => ⟨[(3, sV (.int .i64 i)), (0, .one (.b (.p c.cs)))], []⟩) (fun i => c.shs.length - i) 0 ⟨Nat.zero_le _, fun j hj => by omega⟩ ?_ ?_
 · exact ⟨⟨rfl, rfl, trivial⟩, trivial, rfl⟩
 · intro i ⟨hi, h0⟩ J hJ
   refine xb rfl ?_ ?_ <;> intro h
   · have h : i < c.shs.length := by simpa using h
     obtain ⟨s, hx⟩ := gx h
     have hg := gm Shd.cs hx
     have hso := ho.2.1.2 s (List.mem_of_getElem? hx)
     obtain ⟨o1, o2, o3, o4, o5, o6⟩ := id hso
     have hF : z2i c i = y9h c i s := by unfold z2i; rw [hx]
     refine xs rfl (nn_ _) (y9 rfl _ hg (xs rfl rfl (z7 rfl (y86 s hso) rfl ⟨tv7, trivial⟩ ?_)))
     refine xb rfl ?_ ?_ <;> intro b0
     refine xv rfl rfl rfl ?_; rotate_left
     refine xb rfl ?_ ?_ <;> intro b1
     refine xv rfl rfl rfl ?_; rotate_left
     refine qd rfl [] (.take 1 [] (.take 2 [3, 6, 7] (.take 4 [] (.alt 0 (.alt 3 (.take 5 [6, 7] (.alt 6 (.take 7 [] .done) .nil)) (.alt 5 (.alt 3 (.alt 6 (.take 7 [] .done) .nil) .nil) .nil)) (.alt 5 (.alt 0 (.alt 3 (.alt 6 (.take 7 [] .done) .nil) .nil) .nil) .nil))))) (by kernel_rfl) ?_
     refine y04 rfl ?_ ?_
     refine xs rfl trivial ?_
     refine y04 rfl ?_ ?_
     refine xs rfl rfl (xs rfl (y2e _) (xs rfl (fun _ => z6y _) (xs rfl (by simp; omega) (xs rfl (by simp; omega) (xs rfl (by simp) (xs rfl (y2e _) (xs rfl (fun _ => z6y _) (xs rfl (by simp; omega) ?_))))))))
     refine xs rfl (by simp; omega) ?_; rotate_left
     refine xs rfl rfl (xs rfl (y2e _) (xs rfl (fun _ => z6y _) (xs rfl (by simp; omega) (xs rfl (by simp; omega) (xs rfl (by simp) (xs rfl (y2e _) (xs rfl (fun _ => z6y _) (xs rfl (by simp; omega) ?_))))))))
     refine xs rfl (by simp; omega) ?_; rotate_left
     refine xs rfl trivial (xs rfl rfl (xs rfl (y2e _) (xs rfl (fun _ => z6y _) (xs rfl (by simp; omega) (xs rfl (by simp; omega) (xs rfl (by simp) (xs rfl (y2e _) (xs rfl (fun _ => z6y _) (xs rfl (by simp; omega) ?_)))))))))
     refine xs rfl (by simp; omega) ?_; rotate_left
     all_goals first
      | (refine vi (q8 h h0 ?_ (by first | decide | (clear hJ h0; simp_all; done))); clear hJ h0 hg; rw [hF]; unfold y9h; simp_all; done)
      | skip
     · skip
       have hsf : yp s = 0 := by simpa using b0
       have hix : s.idx = i := by simpa using b1
       have hE := q4l (c := c) hsf hix
       have hcon := z2x hsf
       rw [hE] at hF
       obtain ⟨ms, hms⟩ : ∃ ms, ms = s.votes ++ s.done := ⟨_, rfl⟩
       have hml : ms.length ≤ 2097152 := by rw [hms, List.length_append]; omega
       refine yd rfl (ι := Nat) (fun k => k ≤ ms.length ∧ ∀ j y, j < k → ms[j]? = some y → (!(z16 c.cons y.c s.idx)) = false) (fun k => ⟨[(7, sV (.int .i64 k)), (6, .one (.h 35 ms.length)), (4, .one (.a 4 0)), (3, sV (.int .i64 i)), (0, .one (.b (.p c.cs)))], [(35, .arr true 2 0 (ms.map Mk.cs)), (4, .var (s.cs.map .b))]⟩) (fun k => ms.length - k) 0 ⟨Nat.zero_le _, fun j y hj => by omega⟩ ?_ ?_
       · exact ⟨⟨rfl, ⟨rfl, (by rw [hms]; simp), rfl⟩, ⟨rfl, rfl, rfl⟩, rfl, rfl, trivial⟩, ⟨⟨(by rw [hms]; simp), .inl rfl, .inl rfl⟩, ⟨rfl, rfl, rfl, rfl, rfl, rfl, trivial⟩, trivial⟩, rfl⟩
       · intro k ⟨hk, h0k⟩ Jk hJk
         refine xb rfl ?_ ?_ <;> intro hh
         · have hh : k < ms.length := by simpa using hh
           have hkl : k < 2097152 := by omega
           obtain ⟨y, hy⟩ := gx hh
           have hgy := gm Mk.cs hy
           refine qd rfl [] (Tk (Rg 0 5) (.take 5 [8, 9] (.take 6 [] (.take 7 [8, 9] (.alt 8 (.take 9 [] .done) .nil))))) (by kernel_rfl) (xs rfl (by simp) (xs rfl (nn_ _) (y9 rfl _ hgy (xs rfl rfl (xs rfl (by simp) (y9 rfl _ hgy (z7 rfl (zy _ (by assumption) _ _) rfl tv4 ?_)))))))
           refine xb rfl ?_ ?_ <;> intro b0
           refine xv rfl rfl rfl ?_; rotate_left
           rotate_left
           · refine vi (q8 h h0 ?_ (by decide))
             have ha := zu (p := fun y => !(z16 c.cons y.c s.idx)) hy b0
             rw [hms, List.any_append, hix] at ha
             rw [hF, if_pos ha.symm]
           · exact q9 rfl (hJk _ (k + 1) ⟨by omega, qg hy h0k b0⟩ (by omega) ⟨⟨cwi (by omega) (by omega) (by omega), ⟨rfl, rfl, rfl⟩, ⟨rfl, rfl, rfl⟩, rfl, rfl, trivial⟩, ⟨⟨rfl, .inl rfl, .inl rfl⟩, lcr, trivial⟩, rfl⟩)
         · have hh : ¬ k < ms.length := by simpa using hh
           have ha := any_none (zk (by omega) h0k)
           rw [hms, List.any_append, hix] at ha
           rw [if_neg (by rw [← ha]; decide)] at hF
           clear hJk h0k
           refine yd rfl (ι := Nat) (fun k => k ≤ s.held.length ∧ ∀ j y, j < k → s.held[j]? = some y → q3k c y = false) (fun k => ⟨[(8, sV (.int .i64 k)), (4, .one (.a 4 0)), (3, sV (.int .i64 i)), (0, .one (.b (.p c.cs)))], [(4, .var (s.cs.map .b))]⟩) (fun k => s.held.length - k) 0 ⟨Nat.zero_le _, fun j y hj => by omega⟩ ?_ ?_
           · exact ⟨⟨rfl, ⟨rfl, rfl, rfl⟩, rfl, rfl, trivial⟩, ⟨lcr, trivial⟩, rfl⟩
           · intro k ⟨hk, h0k⟩ Jk hJk
             refine xb rfl ?_ ?_ <;> intro hh
             · have hh : k < s.held.length := by simpa using hh
               obtain ⟨y, hy⟩ := gx hh
               have hgy := gm Con.cs hy
               have hf := z10 c y.id ho.1.1
               cases hc : y0x c.cons y.id with
               | none =>
                 rw [q1w hc] at hf
                 have hb : q3k c y = true := by unfold q3k; rw [hc]
                 refine xs rfl (nn_ _) (y9 rfl _ hgy (xs rfl rfl (z7 rfl (hf) rfl tv3 (qd rfl [] (Tk (Rg 0 6) (.take 6 [8, 9, 15, 16, 17] (Tk [7, 8] (.take 9 (Rg 15 3) (.take 10 [] (.take 11 (Rg 13 5) (Tk [12, 13] (.take 14 (Rg 15 3) (.alt 15 (Tk [16, 17] .done) .nil))))))))) (by kernel_rfl) (xj (k := 16) rfl (xv rfl rfl rfl ?_))))))
                 exact vi (q8 h h0 (by rw [hF, if_pos (zu hy hb).symm]) (by decide))
               | some x =>
                 obtain ⟨q, hq, hqx⟩ := q1e hc
                 rw [hq] at hf
                 have hgq := gm Con.cs hqx
                 have hxl := ho.1.2 x (List.mem_of_find?_eq_some hc)
                 have hb : q3k c y = !(x.same y) := by unfold q3k; rw [hc]
                 refine xs rfl (nn_ _) (y9 rfl _ hgy (xs rfl rfl (z7 rfl (hf) rfl tv3 (qd rfl [] (Tk (Rg 0 6) (.take 6 [8, 9, 15, 16, 17] (Tk [7, 8] (.take 9 (Rg 15 3) (.take 10 [] (.take 11 (Rg 13 5) (Tk [12, 13] (.take 14 (Rg 15 3) (.alt 15 (Tk [16, 17] .done) .nil))))))))) (by kernel_rfl) (xj (k := 6) rfl (xs rfl (nn_ _) (y9 rfl _ hgq (xs rfl rfl (xj (k := 5) rfl ?_)))))))))
                 refine xs rfl (nn_ _) (y9 rfl _ hgy (xs rfl rfl (xj (k := 2) rfl (z7 rfl (y4k x y hxl) rfl ⟨tv3, tv3, trivial⟩ (xj (k := 2) rfl ?_)))))
                 refine xb rfl ?_ ?_ <;> intro b0
                 refine xv rfl rfl rfl ?_; rotate_left
                 rotate_left
                 all_goals first
                  | (exfalso; simp at b0; omega)
                  | exact vi (q8 h h0 (by rw [hF, if_pos (zu hy (hb.trans b0)).symm]) (by decide))
                  | exact q9 rfl (hJk _ (k + 1) ⟨by omega, qg hy h0k (hb.trans b0)⟩ (by omega) ⟨⟨cwi (by omega) (by omega) (by omega), ⟨rfl, rfl, rfl⟩, rfl, rfl, trivial⟩, ⟨lcr, trivial⟩, rfl⟩)
             · have hh : ¬ k < s.held.length := by simpa using hh
               have hz := any_none (zk (by omega) h0k)
               rw [if_neg (by rw [← hz]; decide)] at hF
               skip
               exact q9 rfl (hJ _ (i + 1) ⟨by omega, zc h0 hF⟩ (by omega) ⟨⟨cwi (by omega) (by omega) (by omega), rfl, trivial⟩, trivial, rfl⟩)
     · skip
       have hsf : yp s = 0 := by simpa using b0
       have hix : s.idx = i := by simpa using b1
       have hE := q4l (c := c) hsf hix
       have hcon := z2x hsf
       rw [hE] at hF
       obtain ⟨ms, hms⟩ : ∃ ms, ms = s.votes ++ s.done := ⟨_, rfl⟩
       have hml : ms.length ≤ 2097152 := by rw [hms, List.length_append]; omega
       refine yd rfl (ι := Nat) (fun k => k ≤ ms.length ∧ ∀ j y, j < k → ms[j]? = some y → (!(z16 c.cons y.c s.idx)) = false) (fun k => ⟨[(7, sV (.int .i64 k)), (6, .one (.h 35 ms.length)), (4, .one (.a 4 0)), (3, sV (.int .i64 i)), (0, .one (.b (.p c.cs)))], [(35, .arr true 2 0 (ms.map Mk.cs)), (4, .var (s.cs.map .b))]⟩) (fun k => ms.length - k) 0 ⟨Nat.zero_le _, fun j y hj => by omega⟩ ?_ ?_
       · exact ⟨⟨rfl, ⟨rfl, (by rw [hms]; simp), rfl⟩, ⟨rfl, rfl, rfl⟩, rfl, rfl, trivial⟩, ⟨⟨(by rw [hms]; simp), .inl rfl, .inl rfl⟩, ⟨rfl, rfl, rfl, rfl, rfl, rfl, trivial⟩, trivial⟩, rfl⟩
       · intro k ⟨hk, h0k⟩ Jk hJk
         refine xb rfl ?_ ?_ <;> intro hh
         · have hh : k < ms.length := by simpa using hh
           have hkl : k < 2097152 := by omega
           obtain ⟨y, hy⟩ := gx hh
           have hgy := gm Mk.cs hy
           refine qd rfl [] (Tk (Rg 0 5) (.take 5 [8, 9] (.take 6 [] (.take 7 [8, 9] (.alt 8 (.take 9 [] .done) .nil))))) (by kernel_rfl) (xs rfl (by simp) (xs rfl (nn_ _) (y9 rfl _ hgy (xs rfl rfl (xs rfl (by simp) (y9 rfl _ hgy (z7 rfl (zy _ (by assumption) _ _) rfl tv4 ?_)))))))
           refine xb rfl ?_ ?_ <;> intro b0
           refine xv rfl rfl rfl ?_; rotate_left
           rotate_left
           · refine vi (q8 h h0 ?_ (by decide))
             have ha := zu (p := fun y => !(z16 c.cons y.c s.idx)) hy b0
             rw [hms, List.any_append, hix] at ha
             rw [hF, if_pos ha.symm]
           · exact q9 rfl (hJk _ (k + 1) ⟨by omega, qg hy h0k b0⟩ (by omega) ⟨⟨cwi (by omega) (by omega) (by omega), ⟨rfl, rfl, rfl⟩, ⟨rfl, rfl, rfl⟩, rfl, rfl, trivial⟩, ⟨⟨rfl, .inl rfl, .inl rfl⟩, lcr, trivial⟩, rfl⟩)
         · have hh : ¬ k < ms.length := by simpa using hh
           have ha := any_none (zk (by omega) h0k)
           rw [hms, List.any_append, hix] at ha
           rw [if_neg (by rw [← ha]; decide)] at hF
           clear hJk h0k
           refine yd rfl (ι := Nat) (fun k => k ≤ s.held.length ∧ ∀ j y, j < k → s.held[j]? = some y → q3k c y = false) (fun k => ⟨[(8, sV (.int .i64 k)), (4, .one (.a 4 0)), (3, sV (.int .i64 i)), (0, .one (.b (.p c.cs)))], [(4, .var (s.cs.map .b))]⟩) (fun k => s.held.length - k) 0 ⟨Nat.zero_le _, fun j y hj => by omega⟩ ?_ ?_
           · exact ⟨⟨rfl, ⟨rfl, rfl, rfl⟩, rfl, rfl, trivial⟩, ⟨lcr, trivial⟩, rfl⟩
           · intro k ⟨hk, h0k⟩ Jk hJk
             refine xb rfl ?_ ?_ <;> intro hh
             · have hh : k < s.held.length := by simpa using hh
               obtain ⟨y, hy⟩ := gx hh
               have hgy := gm Con.cs hy
               have hf := z10 c y.id ho.1.1
               cases hc : y0x c.cons y.id with
               | none =>
                 rw [q1w hc] at hf
                 have hb : q3k c y = true := by unfold q3k; rw [hc]
                 refine xs rfl (nn_ _) (y9 rfl _ hgy (xs rfl rfl (z7 rfl (hf) rfl tv3 (qd rfl [] (Tk (Rg 0 6) (.take 6 [8, 9, 15, 16, 17] (Tk [7, 8] (.take 9 (Rg 15 3) (.take 10 [] (.take 11 (Rg 13 5) (Tk [12, 13] (.take 14 (Rg 15 3) (.alt 15 (Tk [16, 17] .done) .nil))))))))) (by kernel_rfl) (xj (k := 16) rfl (xv rfl rfl rfl ?_))))))
                 exact vi (q8 h h0 (by rw [hF, if_pos (zu hy hb).symm]) (by decide))
               | some x =>
                 obtain ⟨q, hq, hqx⟩ := q1e hc
                 rw [hq] at hf
                 have hgq := gm Con.cs hqx
                 have hxl := ho.1.2 x (List.mem_of_find?_eq_some hc)
                 have hb : q3k c y = !(x.same y) := by unfold q3k; rw [hc]
                 refine xs rfl (nn_ _) (y9 rfl _ hgy (xs rfl rfl (z7 rfl (hf) rfl tv3 (qd rfl [] (Tk (Rg 0 6) (.take 6 [8, 9, 15, 16, 17] (Tk [7, 8] (.take 9 (Rg 15 3) (.take 10 [] (.take 11 (Rg 13 5) (Tk [12, 13] (.take 14 (Rg 15 3) (.alt 15 (Tk [16, 17] .done) .nil))))))))) (by kernel_rfl) (xj (k := 6) rfl (xs rfl (nn_ _) (y9 rfl _ hgq (xs rfl rfl (xj (k := 5) rfl ?_)))))))))
                 refine xs rfl (nn_ _) (y9 rfl _ hgy (xs rfl rfl (xj (k := 2) rfl (z7 rfl (y4k x y hxl) rfl ⟨tv3, tv3, trivial⟩ (xj (k := 2) rfl ?_)))))
                 refine xb rfl ?_ ?_ <;> intro b0
                 refine xv rfl rfl rfl ?_; rotate_left
                 rotate_left
                 all_goals first
                  | (exfalso; simp at b0; omega)
                  | exact vi (q8 h h0 (by rw [hF, if_pos (zu hy (hb.trans b0)).symm]) (by decide))
                  | exact q9 rfl (hJk _ (k + 1) ⟨by omega, qg hy h0k (hb.trans b0)⟩ (by omega) ⟨⟨cwi (by omega) (by omega) (by omega), ⟨rfl, rfl, rfl⟩, rfl, rfl, trivial⟩, ⟨lcr, trivial⟩, rfl⟩)
             · have hh : ¬ k < s.held.length := by simpa using hh
               have hz := any_none (zk (by omega) h0k)
               rw [if_neg (by rw [← hz]; decide)] at hF
               skip
               exact q9 rfl (hJ _ (i + 1) ⟨by omega, zc h0 hF⟩ (by omega) ⟨⟨cwi (by omega) (by omega) (by omega), rfl, trivial⟩, trivial, rfl⟩)
     · skip
       have hsf : yp s = 0 := by simpa using b0
       have hix : s.idx = i := by simpa using b1
       have hE := q4l (c := c) hsf hix
       have hcon := z2x hsf
       rw [hE] at hF
       obtain ⟨ms, hms⟩ : ∃ ms, ms = s.votes ++ s.done := ⟨_, rfl⟩
       have hml : ms.length ≤ 2097152 := by rw [hms, List.length_append]; omega
       refine yd rfl (ι := Nat) (fun k => k ≤ ms.length ∧ ∀ j y, j < k → ms[j]? = some y → (!(z16 c.cons y.c s.idx)) = false) (fun k => ⟨[(7, sV (.int .i64 k)), (6, .one (.h 35 ms.length)), (4, .one (.a 4 0)), (3, sV (.int .i64 i)), (0, .one (.b (.p c.cs)))], [(35, .arr true 2 0 (ms.map Mk.cs)), (4, .var (s.cs.map .b))]⟩) (fun k => ms.length - k) 0 ⟨Nat.zero_le _, fun j y hj => by omega⟩ ?_ ?_
       · exact ⟨⟨rfl, ⟨rfl, (by rw [hms]; simp), rfl⟩, ⟨rfl, rfl, rfl⟩, rfl, rfl, trivial⟩, ⟨⟨(by rw [hms]; simp), .inl rfl, .inl rfl⟩, ⟨rfl, rfl, rfl, rfl, rfl, rfl, trivial⟩, trivial⟩, rfl⟩
       · intro k ⟨hk, h0k⟩ Jk hJk
         refine xb rfl ?_ ?_ <;> intro hh
         · have hh : k < ms.length := by simpa using hh
           have hkl : k < 2097152 := by omega
           obtain ⟨y, hy⟩ := gx hh
           have hgy := gm Mk.cs hy
           refine qd rfl [] (Tk (Rg 0 5) (.take 5 [8, 9] (.take 6 [] (.take 7 [8, 9] (.alt 8 (.take 9 [] .done) .nil))))) (by kernel_rfl) (xs rfl (by simp) (xs rfl (nn_ _) (y9 rfl _ hgy (xs rfl rfl (xs rfl (by simp) (y9 rfl _ hgy (z7 rfl (zy _ (by assumption) _ _) rfl tv4 ?_)))))))
           refine xb rfl ?_ ?_ <;> intro b0
           refine xv rfl rfl rfl ?_; rotate_left
           rotate_left
           · refine vi (q8 h h0 ?_ (by decide))
             have ha := zu (p := fun y => !(z16 c.cons y.c s.idx)) hy b0
             rw [hms, List.any_append, hix] at ha
             rw [hF, if_pos ha.symm]
           · exact q9 rfl (hJk _ (k + 1) ⟨by omega, qg hy h0k b0⟩ (by omega) ⟨⟨cwi (by omega) (by omega) (by omega), ⟨rfl, rfl, rfl⟩, ⟨rfl, rfl, rfl⟩, rfl, rfl, trivial⟩, ⟨⟨rfl, .inl rfl, .inl rfl⟩, lcr, trivial⟩, rfl⟩)
         · have hh : ¬ k < ms.length := by simpa using hh
           have ha := any_none (zk (by omega) h0k)
           rw [hms, List.any_append, hix] at ha
           rw [if_neg (by rw [← ha]; decide)] at hF
           clear hJk h0k
           refine yd rfl (ι := Nat) (fun k => k ≤ s.held.length ∧ ∀ j y, j < k → s.held[j]? = some y → q3k c y = false) (fun k => ⟨[(8, sV (.int .i64 k)), (4, .one (.a 4 0)), (3, sV (.int .i64 i)), (0, .one (.b (.p c.cs)))], [(4, .var (s.cs.map .b))]⟩) (fun k => s.held.length - k) 0 ⟨Nat.zero_le _, fun j y hj => by omega⟩ ?_ ?_
           · exact ⟨⟨rfl, ⟨rfl, rfl, rfl⟩, rfl, rfl, trivial⟩, ⟨lcr, trivial⟩, rfl⟩
           · intro k ⟨hk, h0k⟩ Jk hJk
             refine xb rfl ?_ ?_ <;> intro hh
             · have hh : k < s.held.length := by simpa using hh
               obtain ⟨y, hy⟩ := gx hh
               have hgy := gm Con.cs hy
               have hf := z10 c y.id ho.1.1
               cases hc : y0x c.cons y.id with
               | none =>
                 rw [q1w hc] at hf
                 have hb : q3k c y = true := by unfold q3k; rw [hc]
                 refine xs rfl (nn_ _) (y9 rfl _ hgy (xs rfl rfl (z7 rfl (hf) rfl tv3 (qd rfl [] (Tk (Rg 0 6) (.take 6 [8, 9, 15, 16, 17] (Tk [7, 8] (.take 9 (Rg 15 3) (.take 10 [] (.take 11 (Rg 13 5) (Tk [12, 13] (.take 14 (Rg 15 3) (.alt 15 (Tk [16, 17] .done) .nil))))))))) (by kernel_rfl) (xj (k := 16) rfl (xv rfl rfl rfl ?_))))))
                 exact vi (q8 h h0 (by rw [hF, if_pos (zu hy hb).symm]) (by decide))
               | some x =>
                 obtain ⟨q, hq, hqx⟩ := q1e hc
                 rw [hq] at hf
                 have hgq := gm Con.cs hqx
                 have hxl := ho.1.2 x (List.mem_of_find?_eq_some hc)
                 have hb : q3k c y = !(x.same y) := by unfold q3k; rw [hc]
                 refine xs rfl (nn_ _) (y9 rfl _ hgy (xs rfl rfl (z7 rfl (hf) rfl tv3 (qd rfl [] (Tk (Rg 0 6) (.take 6 [8, 9, 15, 16, 17] (Tk [7, 8] (.take 9 (Rg 15 3) (.take 10 [] (.take 11 (Rg 13 5) (Tk [12, 13] (.take 14 (Rg 15 3) (.alt 15 (Tk [16, 17] .done) .nil))))))))) (by kernel_rfl) (xj (k := 6) rfl (xs rfl (nn_ _) (y9 rfl _ hgq (xs rfl rfl (xj (k := 5) rfl ?_)))))))))
                 refine xs rfl (nn_ _) (y9 rfl _ hgy (xs rfl rfl (xj (k := 2) rfl (z7 rfl (y4k x y hxl) rfl ⟨tv3, tv3, trivial⟩ (xj (k := 2) rfl ?_)))))
                 refine xb rfl ?_ ?_ <;> intro b0
                 refine xv rfl rfl rfl ?_; rotate_left
                 rotate_left
                 all_goals first
                  | (exfalso; simp at b0; omega)
                  | exact vi (q8 h h0 (by rw [hF, if_pos (zu hy (hb.trans b0)).symm]) (by decide))
                  | exact q9 rfl (hJk _ (k + 1) ⟨by omega, qg hy h0k (hb.trans b0)⟩ (by omega) ⟨⟨cwi (by omega) (by omega) (by omega), ⟨rfl, rfl, rfl⟩, rfl, rfl, trivial⟩, ⟨lcr, trivial⟩, rfl⟩)
             · have hh : ¬ k < s.held.length := by simpa using hh
               have hz := any_none (zk (by omega) h0k)
               rw [if_neg (by rw [← hz]; decide)] at hF
               skip
               exact q9 rfl (hJ _ (i + 1) ⟨by omega, zc h0 hF⟩ (by omega) ⟨⟨cwi (by omega) (by omega) (by omega), rfl, trivial⟩, trivial, rfl⟩)
   · have h : ¬ i < c.shs.length := by simpa using h
     have hz := zg (f := z2i c) (n := c.shs.length) (fun j hj => h0 j (by omega))
     refine xv rfl rfl rfl ?_
     exact vi (hz.symm)
theorem y8z (c : Clu) (ho : q00 c) : PC Tryz.prog 100 [.one (.p c.cs)] (rI (scan (q2q c) c.accs.length)) := by
 refine PC.begin Tryz.func100 rfl (by kernel_rfl) ?_
 have hl := ho.2.2.1.1
 refine yd rfl (ι := Nat) (fun i => i ≤ c.accs.length ∧ ∀ j, j < i → q2q c j = 0) (fun i => ⟨[(3, sV (.int .i64 i)), (0, .one (.b (.p c.cs)))], []⟩) (fun i => c.accs.length - i) 0 ⟨Nat.zero_le _, fun j hj => by omega⟩ ?_ ?_
 · exact ⟨⟨rfl, rfl, trivial⟩, trivial, rfl⟩
 · intro i ⟨hi, h0⟩ J hJ
   refine xb rfl ?_ ?_ <;> intro h
   · have h : i < c.accs.length := by simpa using h
     obtain ⟨a, hx⟩ := gx h
     have hg := gm Acc.cs hx
     have hao := ho.2.2.1.2 a (List.mem_of_getElem? hx)
     have hF : q2q c i = y9k c a := by unfold q2q; rw [hx]
     have hal := hao.1
     refine xs rfl (nn_ _) (y9 rfl _ hg (xs rfl rfl (z7 rfl (za4 a hao) rfl ⟨⟨trivial, trivial⟩, trivial⟩ ?_)))
     refine xb rfl ?_ ?_ <;> intro b0
     refine xv rfl rfl rfl ?_; rotate_left
     rotate_left
     all_goals first
      | (refine vi (q8 h h0 ?_ (by first | decide | (clear hJ h0; simp_all; done))); clear hJ h0 hg; rw [hF]; unfold y9k; simp_all; done)
      | skip
     have haf : a.fault = 0 := by simpa using b0
     unfold y9k at hF
     rw [if_neg (by simpa using haf)] at hF
     refine yd rfl (ι := Nat) (fun k => k ≤ a.slots.length ∧ ∀ j y, j < k → a.slots[j]? = some y → (!(z16 c.cons y.c y.s)) = false) (fun k => ⟨[(5, sV (.int .i64 k)), (3, sV (.int .i64 i)), (0, .one (.b (.p c.cs)))], []⟩) (fun k => a.slots.length - k) 0 ⟨Nat.zero_le _, fun j y hj => by omega⟩ ?_ ?_
     · exact ⟨⟨rfl, rfl, rfl, trivial⟩, trivial, rfl⟩
     · intro k ⟨hk, h0k⟩ Jk hJk
       refine xs rfl (nn_ _) (y9 rfl _ hg (xs rfl rfl ?_))
       refine xb rfl ?_ ?_ <;> intro hh
       · have hh : k < a.slots.length := by simpa using hh
         obtain ⟨y, hy⟩ := gx hh
         have hgy := gm Slt.cs hy
         refine xs rfl (nn_ _) (y9 rfl _ hg (xs rfl rfl (xs rfl (nn_ _) (y9 rfl _ hgy (xs rfl rfl (z7 rfl (zy _ (by assumption) _ _) rfl tv4 ?_))))))
         refine xb rfl ?_ ?_ <;> intro b0
         refine xv rfl rfl rfl ?_; rotate_left
         rotate_left
         · exact vi (q8 h h0 (by rw [hF, if_pos (zu hy b0).symm]) (by decide))
         · exact q9 rfl (hJk _ (k + 1) ⟨by omega, qg hy h0k b0⟩ (by omega) ⟨⟨cwi (by omega) (by omega) (by omega), rfl, rfl, trivial⟩, trivial, rfl⟩)
       · have hh : ¬ k < a.slots.length := by simpa using hh
         have hz := any_none (zk (by omega) h0k)
         rw [if_neg (by rw [← hz]; decide)] at hF
         skip
         exact q9 rfl (hJ _ (i + 1) ⟨by omega, zc h0 hF⟩ (by omega) ⟨⟨cwi (by omega) (by omega) (by omega), rfl, trivial⟩, trivial, rfl⟩)
   · have h : ¬ i < c.accs.length := by simpa using h
     have hz := zg (f := q2q c) (n := c.accs.length) (fun j hj => h0 j (by omega))
     refine xv rfl rfl rfl ?_
     exact vi (hz.symm)
theorem zap (rr : List (List Cell)) (us : List Vt) (p : Vt → Bool) (fn : Nat) (hr : rr = us.map Vt.cs) (hf : ∀ x ∈ us, PC Tryz.prog fn [.agg x.cs] (rB (p x))) (hl : us.length ≤ 1048576) : PC Tryz.prog 320 [.one (.l rr), .one (.f fn [])] (rI (y1e p us)) := by
 refine PC.begin Tryz.func320 rfl (by kernel_rfl) ?_
 subst hr
 have hn : (us.map Vt.cs).length = us.length := by simp
 refine yd rfl (ι := Nat) (fun i => i ≤ us.length ∧ ∀ j y, j < i → us[j]? = some y → p y = false) (fun i => ⟨[(8, sV (.int .i64 i)), (7, sV (.int .i64 (us.map Vt.cs).length)), (0, .one (.b (.l (us.map Vt.cs)))), (1, .one (.b (.f fn [])))], []⟩) (fun i => us.length - i) 0 ⟨Nat.zero_le _, fun j y hj => by omega⟩ ?_ ?_
 · exact ⟨⟨rfl, rfl, rfl, rfl, trivial⟩, trivial, rfl⟩
 · intro i ⟨hi, h0⟩ J hJ
   refine xb rfl ?_ ?_ <;> intro h
   · have h : i < us.length := by simpa using h
     obtain ⟨x, hx⟩ := gx h
     have hg := gm Vt.cs hx
     have hxm := List.mem_of_getElem? hx
     refine xs rfl (nn_ _) (y9 rfl _ hg (xs rfl rfl (z7 rfl (hf _ hxm) rfl ⟨tv3, trivial⟩ ?_)))
     refine xb rfl ?_ ?_ <;> intro b0
     refine xv rfl rfl rfl ?_; rotate_left
     rotate_left
     · exact vi (q08 hx h0 b0).symm
     · exact q9 rfl (hJ _ (i + 1) ⟨by omega, qg hx h0 b0⟩ (by omega) ⟨⟨cwi (by omega) (by omega) (by omega), rfl, rfl, rfl, trivial⟩, trivial, rfl⟩)
   · have h : ¬ i < us.length := by simpa using h
     refine xv rfl rfl rfl ?_
     exact vi (y02 (zk (by omega) h0)).symm
theorem qaj (rr : List (List Cell)) (us : List Vt) (p : Vt → Bool) (fn : Nat) (hr : rr = us.map Vt.cs) (hf : ∀ x ∈ us, PC Tryz.prog fn [.agg x.cs] (rB (p x))) (hl : us.length ≤ 1048576) : PC Tryz.prog 233 [.one (.l rr), .one (.f fn [])] (rB (us.any p)) := by
 refine PC.begin Tryz.func233 rfl (by kernel_rfl) ?_
 have hi := zap rr us p fn hr hf hl
 refine z7 rfl (hi) rfl tv3 (xv rfl rfl rfl ?_)
 exact vb q0h
theorem z9v (rr : List (List Cell)) (us : List Int) (p : Int → Bool) (fn : Nat) (c0 : Cell) (hr : rr = ints us) (hf : ∀ x ∈ us, PC Tryz.prog fn [.one (i64 x), .one c0] (rB (p x))) (hl : us.length ≤ 1048576) : PC Tryz.prog 142 [.one (.l rr), .one (.f fn [c0])] (rI (y1e p us)) := by
 refine PC.begin Tryz.func142 rfl (by kernel_rfl) ?_
 subst hr
 have hn : (ints us).length = us.length := by simp
 refine yd rfl (ι := Nat) (fun i => i ≤ us.length ∧ ∀ j y, j < i → us[j]? = some y → p y = false) (fun i => ⟨[(8, sV (.int .i64 i)), (7, sV (.int .i64 (ints us).length)), (0, .one (.b (.l (ints us)))), (1, .one (.b (.f fn [c0])))], []⟩) (fun i => us.length - i) 0 ⟨Nat.zero_le _, fun j y hj => by omega⟩ ?_ ?_
 · exact ⟨⟨rfl, rfl, rfl, rfl, trivial⟩, trivial, rfl⟩
 · intro i ⟨hi, h0⟩ J hJ
   refine xb rfl ?_ ?_ <;> intro h
   · have h : i < us.length := by simpa using h
     obtain ⟨x, hx⟩ := gx h
     have hg := gm (fun n => [i64 n]) hx
     have hxm := List.mem_of_getElem? hx
     refine xs rfl (nn_ _) (y9 rfl _ hg (xs rfl rfl (z7 rfl (hf _ hxm) rfl tv3 ?_)))
     refine xb rfl ?_ ?_ <;> intro b0
     refine xv rfl rfl rfl ?_; rotate_left
     rotate_left
     · exact vi (q08 hx h0 b0).symm
     · exact q9 rfl (hJ _ (i + 1) ⟨by omega, qg hx h0 b0⟩ (by omega) ⟨⟨cwi (by omega) (by omega) (by omega), rfl, rfl, rfl, trivial⟩, trivial, rfl⟩)
   · have h : ¬ i < us.length := by simpa using h
     refine xv rfl rfl rfl ?_
     exact vi (y02 (zk (by omega) h0)).symm
theorem y9l (rr : List (List Cell)) (us : List Int) (p : Int → Bool) (fn : Nat) (c0 : Cell) (hr : rr = ints us) (hf : ∀ x ∈ us, PC Tryz.prog fn [.one (i64 x), .one c0] (rB (p x))) (hl : us.length ≤ 1048576) : PC Tryz.prog 68 [.one (.l rr), .one (.f fn [c0])] (rB (us.any p)) := by
 refine PC.begin Tryz.func68 rfl (by kernel_rfl) ?_
 have hi := z9v rr us p fn c0 hr hf hl
 refine z7 rfl (hi) rfl tv3 (xv rfl rfl rfl ?_)
 exact vb q0h
theorem q9u (us : List Int) (v : Int) (rr : List (List Cell)) (hr : rr = ints us) (hl : us.length ≤ 1048576) : PC Tryz.prog 371 [.one (.l rr), .one (i64 v)] (rI (y1e (fun y => y == v) us)) := by
 refine PC.begin Tryz.func371 rfl (by kernel_rfl) ?_
 subst hr
 have hn : (ints us).length = us.length := by simp
 refine yd rfl (ι := Nat) (fun i => i ≤ us.length ∧ ∀ j y, j < i → us[j]? = some y → (y == v) = false) (fun i => ⟨[(8, sV (.int .i64 i)), (7, sV (.int .i64 (ints us).length)), (0, .one (.b (.l (ints us)))), (1, sV (.int .i64 v))], []⟩) (fun i => us.length - i) 0 ⟨Nat.zero_le _, fun j y hj => by omega⟩ ?_ ?_
 · exact ⟨⟨rfl, rfl, rfl, rfl, trivial⟩, trivial, rfl⟩
 · intro i ⟨hi, h0⟩ J hJ
   refine xb rfl ?_ ?_ <;> intro h
   · have h : i < us.length := by simpa using h
     obtain ⟨x, hx⟩ := gx h
     have hg := gm (fun n => [i64 n]) hx
     refine xs rfl (nn_ _) (y9 rfl _ hg (xs rfl rfl ?_))
     refine xb rfl ?_ ?_ <;> intro b0
     refine xv rfl rfl rfl ?_; rotate_left
     rotate_left
     · exact vi (q08 hx h0 (by rw [beq_iff_eq] at b0 ⊢; exact b0.symm)).symm
     · exact q9 rfl (hJ _ (i + 1) ⟨by omega, qg hx h0 (by rw [beq_eq_false_iff_ne] at b0 ⊢; exact fun e => b0 e.symm)⟩ (by omega) ⟨⟨cwi (by omega) (by omega) (by omega), rfl, rfl, rfl, trivial⟩, trivial, rfl⟩)
   · have h : ¬ i < us.length := by simpa using h
     refine xv rfl rfl rfl ?_
     exact vi (y02 (p := fun y => y == v) (zk (by omega) h0)).symm
theorem q9s (us : List Int) (v : Int) (rr : List (List Cell)) (hr : rr = ints us) (hl : us.length ≤ 1048576) : PC Tryz.prog 349 [.one (.l rr), .one (i64 v)] (rB (us.any fun y => y == v)) := by
 refine PC.begin Tryz.func349 rfl (by kernel_rfl) ?_
 refine z7 rfl (q9u us v _ hr hl) rfl tv3 (xv rfl rfl rfl ?_)
 exact vb q0h
theorem z5y (c : Clu) (ho : q00 c) (p : Int) : PC Tryz.prog 347 [.one (i64 p), .one (.p [.p c.cs])] (rB (y1v c p)) := by
 refine PC.begin Tryz.func347 rfl (by kernel_rfl) ?_
 have q2 := ho.2.2.1.1
 have p2 : (c.accs.map Acc.cs).length ≤ 1048576 := by simpa using q2
 refine z7 rfl (z0f _ _ (by assumption)) rfl tv3 (xv rfl rfl rfl ?_)
 all_goals (refine vb ?_; unfold y1v; rw [List.length_map])
theorem q95 (x : Vt) : PC Tryz.prog 348 [.agg x.cs] (rB (z0r x)) := by
 refine PC.begin Tryz.func348 rfl (by kernel_rfl) ?_
 refine qd rfl [] (.take 0 (Rg 2 7) (.alt 1 (Tk [2, 3] (.take 4 (Rg 5 4) (.alt 5 (Tk [6, 7, 8] .done) .nil))) .nil)) (by kernel_rfl) (z7 rfl (z3a) rfl trivial ?_)
 refine xb rfl ?_ ?_ <;> intro b0
 refine xj (k := 1) rfl (z7 rfl (q24 _) rfl ⟨tv3, trivial⟩ (xj (k := 2) rfl ?_))
 refine xv rfl rfl rfl ?_; rotate_left
 refine xj (k := 3) rfl ?_
 refine xv rfl rfl rfl ?_; rotate_left
 all_goals (refine vb ?_; simp_all [z0r, q22, Vt.none])
theorem y38 (us : List Int) (k : Nat) : List.drop (none.getD 0 : Int).toNat (List.take ((some (k : Int)).getD ((ints us).length : Int)).toNat (ints us)) = ints (us.take k) := by
 simp [ints, List.map_take]
theorem z62 (c : Clu) (ho : q00 c) (t : Tr) (ht : zah t) : PC Tryz.prog 283 [.one (.p c.cs), .agg t.cs] (rI (if t.fr.length != t.olds.length then 1 else q77 c t)) := by
 refine PC.begin Tryz.func283 rfl (by kernel_rfl) ?_
 obtain ⟨o1, o2⟩ := ht
 have hf := y9l _ t.fr (y1v c) 347 (.p [.p c.cs]) rfl (fun x _ => z5y c ho x) o1
 have hw := qaj _ t.olds z0r 348 rfl (fun x _ => q95 x) o2
 refine xb rfl ?_ ?_ <;> intro h0
 · have h0 : ¬ t.fr.length = t.olds.length := by simp at h0; omega
   rw [if_pos (by simpa using h0)]
   refine xr rfl (qm rfl ⟨⟨rfl, rfl, trivial⟩, z6 rfl⟩)
 · have h0 : t.fr.length = t.olds.length := by simp at h0; omega
   rw [if_neg (by simpa using h0)]
   refine z7 rfl (hf) rfl ⟨trivial, (List.forall_mem_cons.2 ⟨⟨trivial, trivial⟩, (fun _ h => nomatch h)⟩), trivial⟩ ?_
   refine xb rfl ?_ ?_ <;> intro b0
   refine xj (k := 5) rfl ?_
   refine xv rfl rfl rfl ?_; rotate_left
   refine xj (k := 3) rfl (z7 rfl (hw) rfl ⟨trivial, (fun _ h => nomatch h), trivial⟩ (xj (k := 1) rfl ?_))
   refine xb rfl ?_ ?_ <;> intro b1
   refine xv rfl rfl rfl ?_; rotate_left
   rotate_left
   all_goals first | (refine vi ?_; clear hf hw; unfold q77; simp_all; done) | skip
   have hfw : (t.fr.any (y1v c) || t.olds.any z0r) = false := by rw [b0, b1]; rfl
   unfold q77
   rw [hfw]
   rw [if_neg (by decide)]
   clear hf hw b0 b1 hfw
   refine yd rfl (ι := Nat) (fun i => i ≤ t.fr.length ∧ ∀ j, j < i → z0s t.fr j = 0) (fun i => ⟨[(32, sV (.int .i64 i)), (31, sV (.int .i64 (ints t.fr).length)), (30, .one (.b (.l (ints t.fr)))), (3, .one (.a 3 0))], [(3, .var (t.cs.map .b))]⟩) (fun i => t.fr.length - i) 0 ⟨Nat.zero_le _, fun j hj => by omega⟩ ?_ ?_
   · exact ⟨⟨rfl, rfl, rfl, ⟨rfl, rfl, rfl⟩, trivial⟩, ⟨lcr, trivial⟩, rfl⟩
   · intro i ⟨hi, h0⟩ J hJ
     refine xb rfl ?_ ?_ <;> intro h
     · have h : i < t.fr.length := by simpa using h
       obtain ⟨x, hx⟩ := gx h
       have hg := gm (fun n => [i64 n]) hx
       refine xs rfl (nn_ _) (y9 rfl _ hg (xs rfl rfl (xs rfl (.inl rfl) (xs rfl (nn_ _) (xs rfl (nn_ _) (xs rfl (by simp; omega) (z7 rfl (q9s (t.fr.take i) x _ (y38 _ _) (by rw [List.length_take]; omega)) rfl tv3 ?_)))))))
       refine xb rfl ?_ ?_ <;> intro b0
       refine xv rfl rfl rfl ?_; rotate_left
       rotate_left
       · exact vi (q8 h h0 (by unfold z0s; rw [hx]; exact if_pos b0) (by decide))
       · exact q9 rfl (hJ _ (i + 1) ⟨by omega, zc h0 (by unfold z0s; rw [hx]; exact if_neg (by rw [b0]; decide))⟩ (by omega) ⟨⟨cwi (by omega) (by omega) (by omega), rfl, rfl, ⟨rfl, rfl, rfl⟩, trivial⟩, ⟨lcr, trivial⟩, rfl⟩)
     · have h : ¬ i < t.fr.length := by simpa using h
       have hz := zg (f := z0s t.fr) (n := t.fr.length) (fun j hj => h0 j (by omega))
       refine xv rfl rfl rfl ?_
       exact vi (hz.symm)
theorem q30 (a b : Tr) : PC Tryz.prog 282 [.agg a.cs, .agg b.cs] (rI (orr [y0i a.c b.c, y0i a.s b.s])) := by
 refine PC.begin Tryz.func282 rfl (by kernel_rfl) ?_
 refine qd rfl [] (.take 0 [] (.take 1 [4, 9, 10, 11, 12] (.take 2 [] (.take 3 [4, 9, 10, 11, 12] (.take 5 [] (.take 6 (Rg 9 4) (.take 7 [] (.take 8 (Rg 9 4) (.alt 4 (.alt 9 (.alt 10 (.alt 11 (.take 12 [] .done) .nil) .nil) .nil) .nil))))))))) (by kernel_rfl) (z7 rfl (qu _ _) rfl tv3 (z7 rfl (qu _ _) rfl tv3 (xs rfl tv3 (z7 rfl (q8w [_, _] (by simp)) rfl ⟨rfl, trivial⟩ ?_))))
 refine xr rfl (qm rfl ⟨⟨rfl, rfl, trivial⟩, z6 rfl⟩)
theorem z9c {p x : Tr} : 0 ≤ orr [y0i p.c x.c, y0i p.s x.s] ↔ Tr.lt p x = false := by
 unfold orr orr orr y0i Tr.lt
 repeat' split
 all_goals (simp; try omega)
theorem z30 (a b : Hd) : PC Tryz.prog 286 [.agg a.cs, .agg b.cs] (rI (Hd.cmp a b)) := by
 refine PC.begin Tryz.func286 rfl (by kernel_rfl) ?_
 refine qd rfl [] (.take 0 [] (.take 1 [4, 9, 14, 19, 24, 25, 26, 27] (.take 2 [] (.take 3 [4, 9, 14, 19, 24, 25, 26, 27] (.take 5 [] (.take 6 [9, 14, 19, 24, 25, 26, 27] (.take 7 [] (.take 8 [9, 14, 19, 24, 25, 26, 27] (.take 10 [] (.take 11 [14, 19, 24, 25, 26, 27] (.take 12 [] (.take 13 [14, 19, 24, 25, 26, 27] (.take 15 [] (.take 16 [19, 24, 25, 26, 27] (.take 17 [] (.take 18 [19, 24, 25, 26, 27] (.take 20 [] (.take 21 (Rg 24 4) (.take 22 [] (.take 23 (Rg 24 4) (.alt 4 (.alt 9 (.alt 14 (.alt 19 (.alt 24 (.alt 25 (.alt 26 (.take 27 [] .done) .nil) .nil) .nil) .nil) .nil) .nil) .nil))))))))))))))))))))) (by kernel_rfl) (z7 rfl (qu _ _) rfl tv3 (z7 rfl (qu _ _) rfl tv3 (z7 rfl (qu _ _) rfl tv3 (z7 rfl (qu _ _) rfl tv3 (z7 rfl (qu _ _) rfl tv3 (xs rfl tv6 (z7 rfl (q8w [_, _, _, _, _] (by simp)) rfl ⟨rfl, trivial⟩ ?_)))))))
 refine xr rfl (qm rfl ⟨⟨rfl, rfl, trivial⟩, z6 rfl⟩)
theorem y9b {p x : Hd} : 0 ≤ Hd.cmp p x ↔ Hd.lt p x = false := by
 unfold Hd.lt
 simp
theorem q7q (c : Clu) (ho : q00 c) (ts : List Tr) (hl : ts.length ≤ 1048576) (ht : ∀ t ∈ ts, zah t) : PC Tryz.prog 207 [.one (.p c.cs), .one (.l (ts.map Tr.cs))] (rI (scan (q3l c ts) ts.length)) := by
 refine PC.begin Tryz.func207 rfl (by kernel_rfl) ?_
 refine yd rfl (ι := Nat) (fun i => i ≤ ts.length ∧ ∀ j, j < i → q3l c ts j = 0) (fun i => ⟨[(10, sV (.int .i64 i)), (9, sV (.int .i64 (ts.map Tr.cs).length)), (8, .one (.b (.l (ts.map Tr.cs)))), (0, .one (.b (.p c.cs))), (1, .one (.b (.l (ts.map Tr.cs))))], []⟩) (fun i => ts.length - i) 0 ⟨Nat.zero_le _, fun j hj => by omega⟩ ?_ ?_
 · exact ⟨⟨rfl, rfl, rfl, rfl, rfl, trivial⟩, trivial, rfl⟩
 · intro i ⟨hi, h0⟩ J hJ
   refine xb rfl ?_ ?_ <;> intro h
   · have h : i < ts.length := by simpa using h
     obtain ⟨x, hx⟩ := gx h
     have hg := gm Tr.cs hx
     have hxt := ht x (List.mem_of_getElem? hx)
     rcases Nat.eq_zero_or_pos i with hz | hz
     · subst hz
       refine xs rfl (nn_ _) (y9 rfl _ hg (xs rfl rfl (z7 rfl (z19 _ (by assumption) _ _) rfl tv4 ?_)))
       refine xb rfl ?_ ?_ <;> intro b0
       refine xv rfl rfl rfl ?_; rotate_left
       refine z7 rfl (zo _ _ _) rfl tv4 ?_
       refine xb rfl ?_ ?_ <;> intro b1
       refine xj (k := 5) rfl ?_
       refine xv rfl rfl rfl ?_; rotate_left
       refine xj (k := 2) rfl (z7 rfl (zo _ _ _) rfl tv4 (xj (k := 2) rfl ?_))
       refine xb rfl ?_ ?_ <;> intro b2
       refine xv rfl rfl rfl ?_; rotate_left
       refine qd rfl [] (Tk (Rg 0 7) (.take 7 (Rg 9 4) (.take 8 (Rg 9 4) (.alt 9 (Tk [10, 11, 12] .done) .nil)))) (by kernel_rfl) (xj (k := 10) rfl (z7 rfl (z62 c ho x hxt) rfl ⟨trivial, tv7, trivial⟩ ?_))
       refine xb rfl ?_ ?_ <;> intro b3
       refine xv rfl rfl rfl ?_; rotate_left
       rotate_left
       all_goals (first | (refine vi (q8 h h0 ?_ (by first | decide | decide | simp_all)); clear hJ h0 hg; (first | (simp_all [q3l, ahead_zero, z9c, y5e]; done) | (simp_all [q3l, ahead_zero, z9c, y5e]; omega)); done) | (refine q9 rfl (hJ _ 1 ⟨by omega, zc h0 ?_⟩ (by omega) ⟨⟨cwi (by omega) (by omega) (by omega), rfl, rfl, rfl, rfl, trivial⟩, trivial, rfl⟩); clear hJ h0 hg; (first | (simp_all [q3l, ahead_zero, z9c, y5e]; done) | (simp_all [q3l, ahead_zero, z9c, y5e]; omega)); done) | skip)
     · obtain ⟨p, hp⟩ := gx (xs := ts) (i := i - 1) (by omega)
       have hgp := y1b Tr.cs hz (by omega) hp
       refine xs rfl (nn_ _) (y9 rfl _ hg (xs rfl rfl (z7 rfl (z19 _ (by assumption) _ _) rfl tv4 ?_)))
       refine xb rfl ?_ ?_ <;> intro b0
       refine xv rfl rfl rfl ?_; rotate_left
       refine z7 rfl (zo _ _ _) rfl tv4 ?_
       refine xb rfl ?_ ?_ <;> intro b1
       refine xj (k := 5) rfl ?_
       refine xv rfl rfl rfl ?_; rotate_left
       refine xj (k := 2) rfl (z7 rfl (zo _ _ _) rfl tv4 (xj (k := 2) rfl ?_))
       refine xb rfl ?_ ?_ <;> intro b2
       refine xv rfl rfl rfl ?_; rotate_left
       refine qd rfl [] (Tk (Rg 0 7) (.take 7 (Rg 9 4) (.take 8 (Rg 9 4) (.alt 9 (Tk [10, 11, 12] .done) .nil)))) (by kernel_rfl) ?_
       refine xb rfl ?_ ?_ <;> intro b3
       refine xj (k := 3) rfl (xs rfl (q0n hz (by omega)) (y9 rfl _ hgp (xs rfl rfl (xj (k := 3) rfl (z7 rfl (q30 _ _) rfl ⟨tv7, tv7, trivial⟩ (xj (k := 2) rfl ?_))))))
       refine xb rfl ?_ ?_ <;> intro b4
       refine xv rfl rfl rfl ?_; rotate_left
       refine z7 rfl (z62 c ho x hxt) rfl ⟨trivial, tv7, trivial⟩ ?_
       refine xb rfl ?_ ?_ <;> intro b5
       refine xv rfl rfl rfl ?_; rotate_left
       rotate_left
       refine xj (k := 9) rfl (z7 rfl (z62 c ho x hxt) rfl ⟨trivial, tv7, trivial⟩ ?_)
       refine xb rfl ?_ ?_ <;> intro b4
       refine xv rfl rfl rfl ?_; rotate_left
       rotate_left
       all_goals (first | (refine vi (q8 h h0 ?_ (by first | decide | decide | simp_all)); clear hJ h0 hg hgp; (first | (simp_all [q3l, ya hz hp, z9c, y5e]; done) | (simp_all [q3l, ya hz hp, z9c, y5e]; omega)); done) | (refine q9 rfl (hJ _ (i + 1) ⟨by omega, zc h0 ?_⟩ (by omega) ⟨⟨cwi (by omega) (by omega) (by omega), rfl, rfl, rfl, rfl, trivial⟩, trivial, rfl⟩); clear hJ h0 hg hgp; (first | (simp_all [q3l, ya hz hp, z9c, y5e]; done) | (simp_all [q3l, ya hz hp, z9c, y5e]; omega)); done) | skip)
   · have h : ¬ i < ts.length := by simpa using h
     have hz := zg (f := q3l c ts) (n := ts.length) (fun j hj => h0 j (by omega))
     clear hJ
     refine xv rfl rfl rfl ?_
     exact vi (hz.symm)
theorem y7q (c : Clu) (ho : q00 c) (ks : List Hd) (hl : ks.length ≤ 1048576) : PC Tryz.prog 208 [.one (.p c.cs), .one (.l (ks.map Hd.cs))] (rI (scan (hdF c ks) ks.length)) := by
 refine PC.begin Tryz.func208 rfl (by kernel_rfl) ?_
 have q2 := ho.2.2.1.1
 have p2 : (c.accs.map Acc.cs).length ≤ 1048576 := by simpa using q2
 refine yd rfl (ι := Nat) (fun i => i ≤ ks.length ∧ ∀ j, j < i → hdF c ks j = 0) (fun i => ⟨[(9, sV (.int .i64 i)), (8, sV (.int .i64 (ks.map Hd.cs).length)), (7, .one (.b (.l (ks.map Hd.cs)))), (0, .one (.b (.p c.cs))), (1, .one (.b (.l (ks.map Hd.cs))))], []⟩) (fun i => ks.length - i) 0 ⟨Nat.zero_le _, fun j hj => by omega⟩ ?_ ?_
 · exact ⟨⟨rfl, rfl, rfl, rfl, rfl, trivial⟩, trivial, rfl⟩
 · intro i ⟨hi, h0⟩ J hJ
   refine xb rfl ?_ ?_ <;> intro h
   · have h : i < ks.length := by simpa using h
     obtain ⟨x, hx⟩ := gx h
     have hg := gm Hd.cs hx
     rcases Nat.eq_zero_or_pos i with hz | hz
     · subst hz
       refine xs rfl (nn_ _) (y9 rfl _ hg (xs rfl rfl (z7 rfl (z19 _ (by assumption) _ _) rfl tv4 ?_)))
       refine xb rfl ?_ ?_ <;> intro b0
       refine xv rfl rfl rfl ?_; rotate_left
       refine qd rfl [] (.take 0 [] (.take 1 (Rg 2 19) (.alt 2 (Tk [3, 4, 5] (.take 6 (Rg 7 14) (.alt 7 (Tk (Rg 8 4) (.take 12 (Rg 17 4) (Tk [13, 14, 15] (.take 16 (Rg 17 4) (.alt 17 (Tk [18, 19, 20] .done) .nil))))) .nil))) .nil))) (by kernel_rfl) (z7 rfl (y0a _) rfl ⟨trivial, trivial⟩ ?_)
       refine xb rfl ?_ ?_ <;> intro b1
       refine xj (k := 14) rfl ?_
       refine xv rfl rfl rfl ?_; rotate_left
       refine xj (k := 2) rfl (z7 rfl (q0o _) rfl ⟨trivial, trivial⟩ (xj (k := 2) rfl ?_))
       refine xb rfl ?_ ?_ <;> intro b2
       refine xj (k := 9) rfl ?_
       refine xv rfl rfl rfl ?_; rotate_left
       refine xj (k := 6) rfl (z7 rfl (z0f _ _ (by assumption)) rfl tv3 (xj (k := 2) rfl ?_))
       refine xb rfl ?_ ?_ <;> intro b3
       refine xv rfl rfl rfl ?_; rotate_left
       refine qd rfl [] (Tk (Rg 0 7) (.take 7 (Rg 9 4) (.take 8 (Rg 9 4) (.alt 9 (Tk [10, 11, 12] .done) .nil)))) (by kernel_rfl) ?_
       refine xj (k := 10) rfl ?_; rotate_left
       all_goals (first | (refine vi (q8 h h0 ?_ (by first | decide | decide | simp_all)); clear hJ h0 hg; (first | (simp_all [hdF, ahead_zero, y9b]; done) | (simp_all [hdF, ahead_zero, y9b]; omega)); done) | (refine q9 rfl (hJ _ 1 ⟨by omega, zc h0 ?_⟩ (by omega) ⟨⟨cwi (by omega) (by omega) (by omega), rfl, rfl, rfl, rfl, trivial⟩, trivial, rfl⟩); clear hJ h0 hg; (first | (simp_all [hdF, ahead_zero, y9b]; done) | (simp_all [hdF, ahead_zero, y9b]; omega)); done) | skip)
     · obtain ⟨p, hp⟩ := gx (xs := ks) (i := i - 1) (by omega)
       have hgp := y1b Hd.cs hz (by omega) hp
       refine xs rfl (nn_ _) (y9 rfl _ hg (xs rfl rfl (z7 rfl (z19 _ (by assumption) _ _) rfl tv4 ?_)))
       refine xb rfl ?_ ?_ <;> intro b0
       refine xv rfl rfl rfl ?_; rotate_left
       refine qd rfl [] (.take 0 [] (.take 1 (Rg 2 19) (.alt 2 (Tk [3, 4, 5] (.take 6 (Rg 7 14) (.alt 7 (Tk (Rg 8 4) (.take 12 (Rg 17 4) (Tk [13, 14, 15] (.take 16 (Rg 17 4) (.alt 17 (Tk [18, 19, 20] .done) .nil))))) .nil))) .nil))) (by kernel_rfl) (z7 rfl (y0a _) rfl ⟨trivial, trivial⟩ ?_)
       refine xb rfl ?_ ?_ <;> intro b1
       refine xj (k := 14) rfl ?_
       refine xv rfl rfl rfl ?_; rotate_left
       refine xj (k := 2) rfl (z7 rfl (q0o _) rfl ⟨trivial, trivial⟩ (xj (k := 2) rfl ?_))
       refine xb rfl ?_ ?_ <;> intro b2
       refine xj (k := 9) rfl ?_
       refine xv rfl rfl rfl ?_; rotate_left
       refine xj (k := 6) rfl (z7 rfl (z0f _ _ (by assumption)) rfl tv3 (xj (k := 2) rfl ?_))
       refine xb rfl ?_ ?_ <;> intro b3
       refine xv rfl rfl rfl ?_; rotate_left
       refine qd rfl [] (Tk (Rg 0 7) (.take 7 (Rg 9 4) (.take 8 (Rg 9 4) (.alt 9 (Tk [10, 11, 12] .done) .nil)))) (by kernel_rfl) ?_
       refine xb rfl ?_ ?_ <;> intro b4
       refine xj (k := 3) rfl (xs rfl (q0n hz (by omega)) (y9 rfl _ hgp (xs rfl rfl (xj (k := 3) rfl (z7 rfl (z30 _ _) rfl ⟨tv6, tv6, trivial⟩ (xj (k := 2) rfl ?_))))))
       refine xb rfl ?_ ?_ <;> intro b5
       refine xv rfl rfl rfl ?_; rotate_left
       rotate_left
       refine xj (k := 9) rfl ?_; rotate_left
       all_goals (first | (refine vi (q8 h h0 ?_ (by first | decide | decide | simp_all)); clear hJ h0 hg hgp; (first | (simp_all [hdF, ya hz hp, y9b]; done) | (simp_all [hdF, ya hz hp, y9b]; omega)); done) | (refine q9 rfl (hJ _ (i + 1) ⟨by omega, zc h0 ?_⟩ (by omega) ⟨⟨cwi (by omega) (by omega) (by omega), rfl, rfl, rfl, rfl, trivial⟩, trivial, rfl⟩); clear hJ h0 hg hgp; (first | (simp_all [hdF, ya hz hp, y9b]; done) | (simp_all [hdF, ya hz hp, y9b]; omega)); done) | skip)
   · have h : ¬ i < ks.length := by simpa using h
     have hz := zg (f := hdF c ks) (n := ks.length) (fun j hj => h0 j (by omega))
     clear hJ
     refine xv rfl rfl rfl ?_
     exact vi (hz.symm)
theorem y9t (c : Clu) (ho : q00 c) (l : Ldr) (hl : z8k l) : PC Tryz.prog 121 [.one (.p c.cs), .agg l.cs] (rI (z7v c l)) := by
 refine PC.begin Tryz.func121 rfl (by kernel_rfl) ?_
 obtain ⟨l1, l2, l3⟩ := hl
 have hT := q7q c ho l.tries l1 l3
 have hK := y7q c ho l.known l2
 refine z7 rfl (zo _ _ _) rfl tv4 ?_
 refine xb rfl ?_ ?_ <;> intro b0
 refine xv rfl rfl rfl ?_; rotate_left
 refine xb rfl ?_ ?_ <;> intro b1
 refine xj (k := 5) rfl ?_
 refine xv rfl rfl rfl ?_; rotate_left
 refine xj (k := 4) rfl ?_
 refine xb rfl ?_ ?_ <;> intro b2
 refine xv rfl rfl rfl ?_; rotate_left
 refine qd rfl [] (Tk [0, 1] (.take 2 [3, 7, 8, 9, 10] (Tk [4, 5] (.take 6 (Rg 7 4) (.alt 3 (.alt 7 (.alt 8 (.alt 9 (.take 10 [] .done) .nil) .nil) .nil) .nil))))) (by kernel_rfl) (z7 rfl (hT) rfl tv3 (z7 rfl (hK) rfl tv3 (xs rfl tv3 (z7 rfl (z2d [_, _] (by simp)) rfl ⟨rfl, trivial⟩ ?_))))
 refine xv rfl rfl rfl ?_; rotate_left
 all_goals (refine vi ?_; clear hT hK; unfold z7v; simp_all; try omega)
theorem z52 (a b : Hd) : PC Tryz.prog 183 [.agg a.cs, .agg b.cs] (rB (Hd.lt a b)) := by
 refine PC.begin Tryz.func183 rfl (by kernel_rfl) ?_
 refine xs rfl tv6 (xs rfl tv6 ?_)
 refine yd rfl (ι := Nat) (fun i => i ≤ 5 ∧ (1 ≤ i → a.c = b.c) ∧ (2 ≤ i → a.s = b.s) ∧ (3 ≤ i → a.b = b.b) ∧ (4 ≤ i → a.v = b.v) ∧ (5 ≤ i → a.f = b.f)) (fun i => ⟨[(7, sV (.int .i64 i)), (5, .one (.h 18 5)), (6, .one (.h 29 5))], [(18, .arr true 1 0 [[i64 a.c], [i64 a.s], [i64 a.b], [i64 a.v], [i64 a.f]]), (29, .arr true 1 0 [[i64 b.c], [i64 b.s], [i64 b.b], [i64 b.v], [i64 b.f]])]⟩) (fun i => 5 - i) 0 ⟨by omega, by omega, by omega, by omega, by omega, by omega⟩ ?_ ?_
 · exact ⟨⟨rfl, ⟨rfl, rfl, rfl⟩, ⟨rfl, rfl, rfl⟩, trivial⟩, ⟨⟨rfl, .inl rfl, .inl rfl⟩, ⟨rfl, .inl rfl, .inl rfl⟩, trivial⟩, rfl⟩
 · intro i ⟨hi, h1, h2, h3, h4, h5⟩ J hJ
   have hc : i = 0 ∨ i = 1 ∨ i = 2 ∨ i = 3 ∨ i = 4 ∨ i = 5 := by omega
   rcases hc with rfl | rfl | rfl | rfl | rfl | rfl
   · skip
     clear h1 h2 h3 h4 h5
     have hga : [[i64 a.c], [i64 a.s], [i64 a.b], [i64 a.v], [i64 a.f]][((0 : Nat) : Int).toNat]? = some [i64 a.c] := rfl
     have hgb : [[i64 b.c], [i64 b.s], [i64 b.b], [i64 b.v], [i64 b.f]][((0 : Nat) : Int).toNat]? = some [i64 b.c] := rfl
     refine xj (k := 1) rfl (qd rfl [] (Tk [0, 1, 2] (.take 3 [8] (Tk [4, 5, 6] (.take 7 [8] (.take 8 [] .done))))) (by kernel_rfl) (xs rfl rfl (xs rfl (by decide) (y9 rfl _ hga (xs rfl rfl (xs rfl rfl (y9 rfl _ hga (xs rfl rfl (xs rfl (by decide) ?_)))))))))
     refine y9 rfl _ hgb (xs rfl rfl (xs rfl rfl (y9 rfl _ hgb ?_)))
     refine xb rfl ?_ ?_ <;> intro b0
     refine qd rfl [] (Tk [0, 1, 2] (.take 3 [8, 9] (Tk [4, 5, 6] (.take 7 [8, 9] (Tk [8, 9] .done))))) (by kernel_rfl) (xs rfl rfl (xs rfl (by decide) (y9 rfl _ hga (xs rfl rfl (xs rfl rfl (y9 rfl _ hga (xs rfl rfl (xs rfl (by decide) (y9 rfl _ hgb ?_)))))))))
     refine xs rfl rfl (xs rfl rfl (y9 rfl _ hgb ?_))
     refine xv rfl rfl rfl ?_; rotate_left
     rotate_left
     · have hn : ¬ a.c = b.c := by simpa using b0
       refine vb ?_
       rw [Bool.eq_iff_iff]
       simp only [Hd.lt, Hd.cmp, orr, y0i, decide_eq_true_eq]
       (repeat' split) <;> first | omega | (simp; omega) | (simp_all; done) | (simp_all; omega)
     · have hn : a.c = b.c := by simpa using b0
       exact q9 rfl (hJ _ 1 ⟨by omega, by omega, by omega, by omega, by omega, by omega⟩ (by omega) ⟨⟨rfl, ⟨rfl, rfl, rfl⟩, ⟨rfl, rfl, rfl⟩, trivial⟩, ⟨⟨rfl, .inl rfl, .inl rfl⟩, ⟨rfl, .inl rfl, .inl rfl⟩, trivial⟩, rfl⟩)
   · skip
     have e1 := h1 (by omega)
     clear h1 h2 h3 h4 h5
     have hga : [[i64 a.c], [i64 a.s], [i64 a.b], [i64 a.v], [i64 a.f]][((1 : Nat) : Int).toNat]? = some [i64 a.s] := rfl
     have hgb : [[i64 b.c], [i64 b.s], [i64 b.b], [i64 b.v], [i64 b.f]][((1 : Nat) : Int).toNat]? = some [i64 b.s] := rfl
     refine xj (k := 1) rfl (qd rfl [] (Tk [0, 1, 2] (.take 3 [8] (Tk [4, 5, 6] (.take 7 [8] (.take 8 [] .done))))) (by kernel_rfl) (xs rfl rfl (xs rfl (by decide) (y9 rfl _ hga (xs rfl rfl (xs rfl rfl (y9 rfl _ hga (xs rfl rfl (xs rfl (by decide) ?_)))))))))
     refine y9 rfl _ hgb (xs rfl rfl (xs rfl rfl (y9 rfl _ hgb ?_)))
     refine xb rfl ?_ ?_ <;> intro b0
     refine qd rfl [] (Tk [0, 1, 2] (.take 3 [8, 9] (Tk [4, 5, 6] (.take 7 [8, 9] (Tk [8, 9] .done))))) (by kernel_rfl) (xs rfl rfl (xs rfl (by decide) (y9 rfl _ hga (xs rfl rfl (xs rfl rfl (y9 rfl _ hga (xs rfl rfl (xs rfl (by decide) (y9 rfl _ hgb ?_)))))))))
     refine xs rfl rfl (xs rfl rfl (y9 rfl _ hgb ?_))
     refine xv rfl rfl rfl ?_; rotate_left
     rotate_left
     · have hn : ¬ a.s = b.s := by simpa using b0
       refine vb ?_
       rw [Bool.eq_iff_iff]
       simp only [Hd.lt, Hd.cmp, orr, y0i, e1, decide_eq_true_eq]
       (repeat' split) <;> first | omega | (simp; omega) | (simp_all; done) | (simp_all; omega)
     · have hn : a.s = b.s := by simpa using b0
       exact q9 rfl (hJ _ 2 ⟨by omega, by omega, by omega, by omega, by omega, by omega⟩ (by omega) ⟨⟨rfl, ⟨rfl, rfl, rfl⟩, ⟨rfl, rfl, rfl⟩, trivial⟩, ⟨⟨rfl, .inl rfl, .inl rfl⟩, ⟨rfl, .inl rfl, .inl rfl⟩, trivial⟩, rfl⟩)
   · skip
     have e1 := h1 (by omega)
     have e2 := h2 (by omega)
     clear h1 h2 h3 h4 h5
     have hga : [[i64 a.c], [i64 a.s], [i64 a.b], [i64 a.v], [i64 a.f]][((2 : Nat) : Int).toNat]? = some [i64 a.b] := rfl
     have hgb : [[i64 b.c], [i64 b.s], [i64 b.b], [i64 b.v], [i64 b.f]][((2 : Nat) : Int).toNat]? = some [i64 b.b] := rfl
     refine xj (k := 1) rfl (qd rfl [] (Tk [0, 1, 2] (.take 3 [8] (Tk [4, 5, 6] (.take 7 [8] (.take 8 [] .done))))) (by kernel_rfl) (xs rfl rfl (xs rfl (by decide) (y9 rfl _ hga (xs rfl rfl (xs rfl rfl (y9 rfl _ hga (xs rfl rfl (xs rfl (by decide) ?_)))))))))
     refine y9 rfl _ hgb (xs rfl rfl (xs rfl rfl (y9 rfl _ hgb ?_)))
     refine xb rfl ?_ ?_ <;> intro b0
     refine qd rfl [] (Tk [0, 1, 2] (.take 3 [8, 9] (Tk [4, 5, 6] (.take 7 [8, 9] (Tk [8, 9] .done))))) (by kernel_rfl) (xs rfl rfl (xs rfl (by decide) (y9 rfl _ hga (xs rfl rfl (xs rfl rfl (y9 rfl _ hga (xs rfl rfl (xs rfl (by decide) (y9 rfl _ hgb ?_)))))))))
     refine xs rfl rfl (xs rfl rfl (y9 rfl _ hgb ?_))
     refine xv rfl rfl rfl ?_; rotate_left
     rotate_left
     · have hn : ¬ a.b = b.b := by simpa using b0
       refine vb ?_
       rw [Bool.eq_iff_iff]
       simp only [Hd.lt, Hd.cmp, orr, y0i, e1, e2, decide_eq_true_eq]
       (repeat' split) <;> first | omega | (simp; omega) | (simp_all; done) | (simp_all; omega)
     · have hn : a.b = b.b := by simpa using b0
       exact q9 rfl (hJ _ 3 ⟨by omega, by omega, by omega, by omega, by omega, by omega⟩ (by omega) ⟨⟨rfl, ⟨rfl, rfl, rfl⟩, ⟨rfl, rfl, rfl⟩, trivial⟩, ⟨⟨rfl, .inl rfl, .inl rfl⟩, ⟨rfl, .inl rfl, .inl rfl⟩, trivial⟩, rfl⟩)
   · skip
     have e1 := h1 (by omega)
     have e2 := h2 (by omega)
     have e3 := h3 (by omega)
     clear h1 h2 h3 h4 h5
     have hga : [[i64 a.c], [i64 a.s], [i64 a.b], [i64 a.v], [i64 a.f]][((3 : Nat) : Int).toNat]? = some [i64 a.v] := rfl
     have hgb : [[i64 b.c], [i64 b.s], [i64 b.b], [i64 b.v], [i64 b.f]][((3 : Nat) : Int).toNat]? = some [i64 b.v] := rfl
     refine xj (k := 1) rfl (qd rfl [] (Tk [0, 1, 2] (.take 3 [8] (Tk [4, 5, 6] (.take 7 [8] (.take 8 [] .done))))) (by kernel_rfl) (xs rfl rfl (xs rfl (by decide) (y9 rfl _ hga (xs rfl rfl (xs rfl rfl (y9 rfl _ hga (xs rfl rfl (xs rfl (by decide) ?_)))))))))
     refine y9 rfl _ hgb (xs rfl rfl (xs rfl rfl (y9 rfl _ hgb ?_)))
     refine xb rfl ?_ ?_ <;> intro b0
     refine qd rfl [] (Tk [0, 1, 2] (.take 3 [8, 9] (Tk [4, 5, 6] (.take 7 [8, 9] (Tk [8, 9] .done))))) (by kernel_rfl) (xs rfl rfl (xs rfl (by decide) (y9 rfl _ hga (xs rfl rfl (xs rfl rfl (y9 rfl _ hga (xs rfl rfl (xs rfl (by decide) (y9 rfl _ hgb ?_)))))))))
     refine xs rfl rfl (xs rfl rfl (y9 rfl _ hgb ?_))
     refine xv rfl rfl rfl ?_; rotate_left
     rotate_left
     · have hn : ¬ a.v = b.v := by simpa using b0
       refine vb ?_
       rw [Bool.eq_iff_iff]
       simp only [Hd.lt, Hd.cmp, orr, y0i, e1, e2, e3, decide_eq_true_eq]
       (repeat' split) <;> first | omega | (simp; omega) | (simp_all; done) | (simp_all; omega)
     · have hn : a.v = b.v := by simpa using b0
       exact q9 rfl (hJ _ 4 ⟨by omega, by omega, by omega, by omega, by omega, by omega⟩ (by omega) ⟨⟨rfl, ⟨rfl, rfl, rfl⟩, ⟨rfl, rfl, rfl⟩, trivial⟩, ⟨⟨rfl, .inl rfl, .inl rfl⟩, ⟨rfl, .inl rfl, .inl rfl⟩, trivial⟩, rfl⟩)
   · skip
     have e1 := h1 (by omega)
     have e2 := h2 (by omega)
     have e3 := h3 (by omega)
     have e4 := h4 (by omega)
     clear h1 h2 h3 h4 h5
     have hga : [[i64 a.c], [i64 a.s], [i64 a.b], [i64 a.v], [i64 a.f]][((4 : Nat) : Int).toNat]? = some [i64 a.f] := rfl
     have hgb : [[i64 b.c], [i64 b.s], [i64 b.b], [i64 b.v], [i64 b.f]][((4 : Nat) : Int).toNat]? = some [i64 b.f] := rfl
     refine xj (k := 1) rfl (qd rfl [] (Tk [0, 1, 2] (.take 3 [8] (Tk [4, 5, 6] (.take 7 [8] (.take 8 [] .done))))) (by kernel_rfl) (xs rfl rfl (xs rfl (by decide) (y9 rfl _ hga (xs rfl rfl (xs rfl rfl (y9 rfl _ hga (xs rfl rfl (xs rfl (by decide) ?_)))))))))
     refine y9 rfl _ hgb (xs rfl rfl (xs rfl rfl (y9 rfl _ hgb ?_)))
     refine xb rfl ?_ ?_ <;> intro b0
     refine qd rfl [] (Tk [0, 1, 2] (.take 3 [8, 9] (Tk [4, 5, 6] (.take 7 [8, 9] (Tk [8, 9] .done))))) (by kernel_rfl) (xs rfl rfl (xs rfl (by decide) (y9 rfl _ hga (xs rfl rfl (xs rfl rfl (y9 rfl _ hga (xs rfl rfl (xs rfl (by decide) (y9 rfl _ hgb ?_)))))))))
     refine xs rfl rfl (xs rfl rfl (y9 rfl _ hgb ?_))
     refine xv rfl rfl rfl ?_; rotate_left
     rotate_left
     · have hn : ¬ a.f = b.f := by simpa using b0
       refine vb ?_
       rw [Bool.eq_iff_iff]
       simp only [Hd.lt, Hd.cmp, orr, y0i, e1, e2, e3, e4, decide_eq_true_eq]
       (repeat' split) <;> first | omega | (simp; omega) | (simp_all; done) | (simp_all; omega)
     · have hn : a.f = b.f := by simpa using b0
       exact q9 rfl (hJ _ 5 ⟨by omega, by omega, by omega, by omega, by omega, by omega⟩ (by omega) ⟨⟨rfl, ⟨rfl, rfl, rfl⟩, ⟨rfl, rfl, rfl⟩, trivial⟩, ⟨⟨rfl, .inl rfl, .inl rfl⟩, ⟨rfl, .inl rfl, .inl rfl⟩, trivial⟩, rfl⟩)
   · have e1 := h1 (by omega)
     have e2 := h2 (by omega)
     have e3 := h3 (by omega)
     have e4 := h4 (by omega)
     have e5 := h5 (by omega)
     refine xj (k := 1) rfl (xv rfl rfl rfl ?_)
     refine vb ?_
     simp [Hd.lt, Hd.cmp, orr, y0i, e1, e2, e3, e4, e5]
theorem q42 (c : Clu) (y : Int) : True := trivial
theorem z9i {c : Clu} {ts : List Tr} {i : Nat} {t : Tr} {h w1 w2 a d : Bool} (e1 : z16 c.cons t.c t.s = h) (e2 : Go.Sx.within t.b 1 1000 = w1) (e3 : Go.Sx.within t.v 0 2 = w2) (e4 : Go.Sx.ahead Tr.lt ts i t = a) (e5 : (t.fr.length != t.olds.length) = d) : y5e c ts i t = (bif h then (bif w1 then (bif w2 then (bif a then (bif d then 1 else q77 c t) else 1) else 3) else 3) else 4) := by
 unfold y5e
 rw [e1, e2, e3, e4, e5]
 cases h <;> cases w1 <;> cases w2 <;> cases a <;> cases d <;> rfl
theorem ybq {us : List Int} {vs : List Vt} : (((ints us).length : Int) != ((vs.map Vt.cs).length : Int)) = (us.length != vs.length) := by
 rw [Bool.eq_iff_iff]
 simp
 omega
theorem qa5 (c : Clu) (ho : q00 c) (ts : List Tr) (i : Nat) (t : Tr) (hl : ts.length ≤ 1048576) (ht : zah t) (hx : ts[i]? = some t) : PC Tryz.prog 180 [.one (.p c.cs), .one (.l (ts.map Tr.cs)), .one (i64 i)] (rI (y5e c ts i t)) := by
 refine PC.begin Tryz.func180 rfl (by kernel_rfl) ?_
 obtain ⟨o1, o2⟩ := ht
 have hg := gm Tr.cs hx
 have hlt := (List.getElem?_eq_some_iff.1 hx).1
 have w2 := wl1 Acc.cs ho.2.2.1.1
 have hD := (ybq (us := t.fr) (vs := t.olds)).symm
 rcases Nat.eq_zero_or_pos i with hz | hz
 · have hA : Go.Sx.ahead Tr.lt ts i t = true := by subst hz; rfl
   have hK := z9i (c := c) rfl rfl rfl hA hD
   subst hz
   refine xs rfl (nn_ _) (y9 rfl _ hg (xs rfl rfl (z7 rfl (zy _ (by assumption) _ _) rfl tv4 ?_)))
   refine xb rfl ?_ ?_ <;> intro b0
   refine xv rfl rfl rfl ?_; rotate_left
   refine z7 rfl (qi _ _ _) rfl tv4 ?_
   refine xb rfl ?_ ?_ <;> intro b1
   refine xj (k := 5) rfl ?_
   refine xv rfl rfl rfl ?_; rotate_left
   refine xj (k := 2) rfl (z7 rfl (qi _ _ _) rfl tv4 (xj (k := 2) rfl ?_))
   refine xb rfl ?_ ?_ <;> intro b2
   refine xv rfl rfl rfl ?_; rotate_left
   refine qd rfl [] (Tk (Rg 0 8) (.take 8 (Rg 15 1 ++ Rg 21 12) (Tk (Rg 9 5) (.take 14 (Rg 15 1 ++ Rg 21 12) (Tk [15, 16] (.take 17 (Rg 20 13) (.take 18 [] (.take 19 (Rg 20 13) (.take 20 [] (.alt 21 (Tk (Rg 22 4) (.take 26 [27, 31, 32] (Tk [27, 28] (.take 29 (Rg 30 3) (Tk [30, 31, 32] .done))))) .nil)))))))))) (by kernel_rfl) (xj (k := 29) rfl ?_)
   refine xb rfl ?_ ?_ <;> intro b3
   refine xv rfl rfl rfl ?_; rotate_left
   rotate_left
   all_goals first | (refine vi ?_; rw [hK]; clear hg hK hA; simp_all only [Bool.not_eq_true', Bool.not_eq_false', cond_true, cond_false]; done) | skip
   have hT : y5e c ts 0 t = q77 c t := by rw [hK]; clear hg hK hA; simp_all only [Bool.not_eq_true', Bool.not_eq_false', cond_true, cond_false]
   have hle : t.fr.length = t.olds.length := by have := hD.trans b3; simpa using this
   clear hK hD b0 b1 b2 b3 hA
   refine yd rfl (ι := Nat) (fun k => k ≤ t.fr.length ∧ (∀ j y, j < k → t.fr[j]? = some y → y1v c y = false) ∧ ∀ j y, j < k → t.olds[j]? = some y → z0r y = false) (fun k => ⟨[(8, sV (.int .i64 k)), (7, .one (.a 7 0)), (0, .one (.b (.p c.cs)))], [(7, .var (t.cs.map .b))]⟩) (fun k => t.fr.length - k) 0 ⟨Nat.zero_le _, fun j y hj => by omega, fun j y hj => by omega⟩ ?_ ?_
   · exact ⟨⟨rfl, ⟨rfl, rfl, rfl⟩, rfl, trivial⟩, ⟨⟨rfl, rfl, rfl, rfl, rfl, rfl, trivial⟩, trivial⟩, rfl⟩
   · intro k ⟨hk, h0k, h1k⟩ Jk hJk
     refine xb rfl ?_ ?_ <;> intro hh
     · have hh : k < t.fr.length := by simpa using hh
       obtain ⟨y, hy⟩ := gx hh
       obtain ⟨v, hv⟩ := gx (xs := t.olds) (i := k) (by omega)
       have hgy := gm (fun n => [i64 n]) hy
       have hgv := gm Vt.cs hv
       have hwq := q42 c y
       refine qd rfl [] (.take 0 [] (.take 1 (Rg 3 2 ++ Rg 11 20) (Tk [2, 3] (.take 4 (Rg 11 20) (Tk [5, 6, 7] (.take 8 (Rg 9 22) (Tk [9, 10] (.alt 11 (Tk [12, 13, 14] (.take 15 (Rg 17 2 ++ Rg 20 11) (Tk [16, 17] (.take 18 (Rg 20 11) (.alt 19 (Tk [20, 21, 22] (.take 23 (Rg 25 6) (Tk [24, 25] (.take 26 (Rg 27 4) (.alt 27 (Tk [28, 29, 30] .done) .nil))))) .nil))))) .nil)))))))) (by kernel_rfl) (xs rfl (nn_ _) (y9 rfl _ hgy (xs rfl rfl (z7 rfl (qi _ _ _) rfl tv4 ?_))))
       refine xb rfl ?_ ?_ <;> intro b0
       refine xj (k := 10) rfl ?_
       refine xv rfl rfl rfl ?_; rotate_left
       refine xj (k := 3) rfl (xs rfl (nn_ _) (y9 rfl _ hgv (xs rfl rfl (xj (k := 2) rfl (z7 rfl (z25) rfl trivial (xj (k := 2) rfl ?_))))))
       refine xb rfl ?_ ?_ <;> intro b1
       refine xj (k := 3) rfl (xs rfl (nn_ _) (y9 rfl _ hgv (xs rfl rfl (xj (k := 2) rfl (z7 rfl (q1x _) rfl ⟨tv3, trivial⟩ (xj (k := 4) rfl ?_))))))
       refine xb rfl ?_ ?_ <;> intro b2
       refine xv rfl rfl rfl ?_; rotate_left
       rotate_left
       refine xj (k := 10) rfl ?_; rotate_left
       all_goals first
        | (refine vi ?_
           have hb : y1v c y = true := by unfold y1v; rw [← w2]; assumption
           rw [hT]; unfold q77; rw [zu hy hb |>.symm]; rfl)
        | (refine vi ?_
           have hb : z0r v = true := by unfold z0r; simp_all [y1d, Vt.none]
           rw [hT]; unfold q77; rw [zu hv hb |>.symm, Bool.or_true]; rfl)
        | (have hb : y1v c y = false := by unfold y1v; rw [← w2]; assumption
           have hb2 : z0r v = false := by unfold z0r; simp_all [y1d, Vt.none]
           exact q9 rfl (hJk _ (k + 1) ⟨by omega, qg hy h0k hb, qg hv h1k hb2⟩ (by omega) ⟨⟨cwi (by omega) (by omega) (by omega), ⟨rfl, rfl, rfl⟩, rfl, trivial⟩, ⟨lcr, trivial⟩, rfl⟩))
        | skip
     · have hh : ¬ k < t.fr.length := by simpa using hh
       have ha := any_none (zk (by omega) h0k)
       have hb := any_none (l := t.olds) (zk (by omega) h1k)
       have hT2 : y5e c ts 0 t = scan (z0s t.fr) t.fr.length := by rw [hT]; unfold q77; rw [← ha, ← hb]; rfl
       clear hJk h0k h1k ha hb
       refine yd rfl (ι := Nat) (fun k => k ≤ t.fr.length ∧ ∀ j, j < k → z0s t.fr j = 0) (fun k => ⟨[(9, sV (.int .i64 k)), (7, .one (.a 7 0)), (0, .one (.b (.p c.cs)))], [(7, .var (t.cs.map .b))]⟩) (fun k => t.fr.length - k) 0 ⟨Nat.zero_le _, fun j hj => by omega⟩ ?_ ?_
       · exact ⟨⟨rfl, ⟨rfl, rfl, rfl⟩, rfl, trivial⟩, ⟨lcr, trivial⟩, rfl⟩
       · intro k ⟨hk, h0k⟩ Jk hJk
         refine xb rfl ?_ ?_ <;> intro hh
         · have hh : k < t.fr.length := by simpa using hh
           obtain ⟨y, hy⟩ := gx hh
           have hgy := gm (fun n => [i64 n]) hy
           refine qd rfl [] (.take 0 [] (.take 1 [3, 9] (Tk [2, 3, 4] (.take 5 (Rg 7 3) (Tk [6, 7] (.take 8 [9] (.alt 9 .done .nil))))))) (by kernel_rfl) (xs rfl (.inl rfl) (xs rfl (nn_ _) (xs rfl (nn_ _) (xs rfl (by simp; omega) (xs rfl (nn_ _) (y9 rfl _ hgy (xs rfl rfl (z7 rfl (q2w _ (t.fr.take k) y (y38 _ _) (by rw [List.length_take]; omega)) rfl tv3 ?_))))))))
           refine xb rfl ?_ ?_ <;> intro b0
           refine xv rfl rfl rfl ?_; rotate_left
           rotate_left
           · exact vi (by rw [hT2]; exact q8 hh h0k (by unfold z0s; rw [hy]; exact if_pos b0) (by decide))
           · exact q9 rfl (hJk _ (k + 1) ⟨by omega, zc h0k (by unfold z0s; rw [hy]; exact if_neg (by rw [b0]; decide))⟩ (by omega) ⟨⟨cwi (by omega) (by omega) (by omega), ⟨rfl, rfl, rfl⟩, rfl, trivial⟩, ⟨lcr, trivial⟩, rfl⟩)
         · have hh : ¬ k < t.fr.length := by simpa using hh
           have hz := zg (f := z0s t.fr) (n := t.fr.length) (fun j hj => h0k j (by omega))
           refine xv rfl rfl rfl ?_
           exact vi (by rw [hT2, hz])
 · obtain ⟨p, hp⟩ := gx (xs := ts) (i := i - 1) (by omega)
   have hgp := y1b Tr.cs hz (by omega) hp
   have hA : Go.Sx.ahead Tr.lt ts i t = Slt.lt ⟨p.c, p.s, 0, 0, 0, []⟩ ⟨t.c, t.s, 0, 0, 0, []⟩ := ya hz hp
   have hK := z9i (c := c) rfl rfl rfl hA hD
   refine xs rfl (nn_ _) (y9 rfl _ hg (xs rfl rfl (z7 rfl (zy _ (by assumption) _ _) rfl tv4 ?_)))
   refine xb rfl ?_ ?_ <;> intro b0
   refine xv rfl rfl rfl ?_; rotate_left
   refine z7 rfl (qi _ _ _) rfl tv4 ?_
   refine xb rfl ?_ ?_ <;> intro b1
   refine xj (k := 5) rfl ?_
   refine xv rfl rfl rfl ?_; rotate_left
   refine xj (k := 2) rfl (z7 rfl (qi _ _ _) rfl tv4 (xj (k := 2) rfl ?_))
   refine xb rfl ?_ ?_ <;> intro b2
   refine xv rfl rfl rfl ?_; rotate_left
   refine qd rfl [] (Tk (Rg 0 8) (.take 8 (Rg 15 1 ++ Rg 21 12) (Tk (Rg 9 5) (.take 14 (Rg 15 1 ++ Rg 21 12) (Tk [15, 16] (.take 17 (Rg 20 13) (.take 18 [] (.take 19 (Rg 20 13) (.take 20 [] (.alt 21 (Tk (Rg 22 4) (.take 26 [27, 31, 32] (Tk [27, 28] (.take 29 (Rg 30 3) (Tk [30, 31, 32] .done))))) .nil)))))))))) (by kernel_rfl) ?_
   refine xb rfl ?_ ?_ <;> intro b3
   refine xj (k := 3) rfl (xs rfl (q0n hz (by omega)) (y9 rfl _ hgp (xs rfl rfl (xj (k := 6) rfl (xs rfl (q0n hz (by omega)) (y9 rfl _ hgp (xs rfl rfl (xj (k := 9) rfl (z7 rfl (q3w ⟨p.c, p.s, 0, 0, 0, []⟩ ⟨t.c, t.s, 0, 0, 0, []⟩) rfl ⟨tv7, tv7, trivial⟩ ?_)))))))))
   refine xj (k := 2) rfl ?_
   refine xb rfl ?_ ?_ <;> intro b4
   refine xj (k := 8) rfl ?_
   refine xv rfl rfl rfl ?_; rotate_left
   refine xj (k := 7) rfl ?_
   refine xb rfl ?_ ?_ <;> intro b5
   refine xv rfl rfl rfl ?_; rotate_left
   rotate_left
   exact absurd b3 (by simp; omega)
   all_goals first | (refine vi ?_; rw [hK]; clear hg hgp hK hA; simp_all only [Bool.not_eq_true', Bool.not_eq_false', cond_true, cond_false]; done) | (exfalso; clear hK; simp at b3; omega) | skip
   have hT : y5e c ts i t = q77 c t := by rw [hK]; clear hg hgp hK hA; simp_all only [Bool.not_eq_true', Bool.not_eq_false', cond_true, cond_false]
   have hle : t.fr.length = t.olds.length := by have := hD.trans b5; simpa using this
   clear hK hD b0 b1 b2 b3 b4 b5 hA
   refine yd rfl (ι := Nat) (fun k => k ≤ t.fr.length ∧ (∀ j y, j < k → t.fr[j]? = some y → y1v c y = false) ∧ ∀ j y, j < k → t.olds[j]? = some y → z0r y = false) (fun k => ⟨[(8, sV (.int .i64 k)), (7, .one (.a 7 0)), (0, .one (.b (.p c.cs)))], [(7, .var (t.cs.map .b))]⟩) (fun k => t.fr.length - k) 0 ⟨Nat.zero_le _, fun j y hj => by omega, fun j y hj => by omega⟩ ?_ ?_
   · exact ⟨⟨rfl, ⟨rfl, rfl, rfl⟩, rfl, trivial⟩, ⟨⟨rfl, rfl, rfl, rfl, rfl, rfl, trivial⟩, trivial⟩, rfl⟩
   · intro k ⟨hk, h0k, h1k⟩ Jk hJk
     refine xb rfl ?_ ?_ <;> intro hh
     · have hh : k < t.fr.length := by simpa using hh
       obtain ⟨y, hy⟩ := gx hh
       obtain ⟨v, hv⟩ := gx (xs := t.olds) (i := k) (by omega)
       have hgy := gm (fun n => [i64 n]) hy
       have hgv := gm Vt.cs hv
       have hwq := q42 c y
       refine qd rfl [] (.take 0 [] (.take 1 (Rg 3 2 ++ Rg 11 20) (Tk [2, 3] (.take 4 (Rg 11 20) (Tk [5, 6, 7] (.take 8 (Rg 9 22) (Tk [9, 10] (.alt 11 (Tk [12, 13, 14] (.take 15 (Rg 17 2 ++ Rg 20 11) (Tk [16, 17] (.take 18 (Rg 20 11) (.alt 19 (Tk [20, 21, 22] (.take 23 (Rg 25 6) (Tk [24, 25] (.take 26 (Rg 27 4) (.alt 27 (Tk [28, 29, 30] .done) .nil))))) .nil))))) .nil)))))))) (by kernel_rfl) (xs rfl (nn_ _) (y9 rfl _ hgy (xs rfl rfl (z7 rfl (qi _ _ _) rfl tv4 ?_))))
       refine xb rfl ?_ ?_ <;> intro b0
       refine xj (k := 10) rfl ?_
       refine xv rfl rfl rfl ?_; rotate_left
       refine xj (k := 3) rfl (xs rfl (nn_ _) (y9 rfl _ hgv (xs rfl rfl (xj (k := 2) rfl (z7 rfl (z25) rfl trivial (xj (k := 2) rfl ?_))))))
       refine xb rfl ?_ ?_ <;> intro b1
       refine xj (k := 3) rfl (xs rfl (nn_ _) (y9 rfl _ hgv (xs rfl rfl (xj (k := 2) rfl (z7 rfl (q1x _) rfl ⟨tv3, trivial⟩ (xj (k := 4) rfl ?_))))))
       refine xb rfl ?_ ?_ <;> intro b2
       refine xv rfl rfl rfl ?_; rotate_left
       rotate_left
       refine xj (k := 10) rfl ?_; rotate_left
       all_goals first
        | (refine vi ?_
           have hb : y1v c y = true := by unfold y1v; rw [← w2]; assumption
           rw [hT]; unfold q77; rw [zu hy hb |>.symm]; rfl)
        | (refine vi ?_
           have hb : z0r v = true := by unfold z0r; simp_all [y1d, Vt.none]
           rw [hT]; unfold q77; rw [zu hv hb |>.symm, Bool.or_true]; rfl)
        | (have hb : y1v c y = false := by unfold y1v; rw [← w2]; assumption
           have hb2 : z0r v = false := by unfold z0r; simp_all [y1d, Vt.none]
           exact q9 rfl (hJk _ (k + 1) ⟨by omega, qg hy h0k hb, qg hv h1k hb2⟩ (by omega) ⟨⟨cwi (by omega) (by omega) (by omega), ⟨rfl, rfl, rfl⟩, rfl, trivial⟩, ⟨lcr, trivial⟩, rfl⟩))
        | skip
     · have hh : ¬ k < t.fr.length := by simpa using hh
       have ha := any_none (zk (by omega) h0k)
       have hb := any_none (l := t.olds) (zk (by omega) h1k)
       have hT2 : y5e c ts i t = scan (z0s t.fr) t.fr.length := by rw [hT]; unfold q77; rw [← ha, ← hb]; rfl
       clear hJk h0k h1k ha hb
       refine yd rfl (ι := Nat) (fun k => k ≤ t.fr.length ∧ ∀ j, j < k → z0s t.fr j = 0) (fun k => ⟨[(9, sV (.int .i64 k)), (7, .one (.a 7 0)), (0, .one (.b (.p c.cs)))], [(7, .var (t.cs.map .b))]⟩) (fun k => t.fr.length - k) 0 ⟨Nat.zero_le _, fun j hj => by omega⟩ ?_ ?_
       · exact ⟨⟨rfl, ⟨rfl, rfl, rfl⟩, rfl, trivial⟩, ⟨lcr, trivial⟩, rfl⟩
       · intro k ⟨hk, h0k⟩ Jk hJk
         refine xb rfl ?_ ?_ <;> intro hh
         · have hh : k < t.fr.length := by simpa using hh
           obtain ⟨y, hy⟩ := gx hh
           have hgy := gm (fun n => [i64 n]) hy
           refine qd rfl [] (.take 0 [] (.take 1 [3, 9] (Tk [2, 3, 4] (.take 5 (Rg 7 3) (Tk [6, 7] (.take 8 [9] (.alt 9 .done .nil))))))) (by kernel_rfl) (xs rfl (.inl rfl) (xs rfl (nn_ _) (xs rfl (nn_ _) (xs rfl (by simp; omega) (xs rfl (nn_ _) (y9 rfl _ hgy (xs rfl rfl (z7 rfl (q2w _ (t.fr.take k) y (y38 _ _) (by rw [List.length_take]; omega)) rfl tv3 ?_))))))))
           refine xb rfl ?_ ?_ <;> intro b0
           refine xv rfl rfl rfl ?_; rotate_left
           rotate_left
           · exact vi (by rw [hT2]; exact q8 hh h0k (by unfold z0s; rw [hy]; exact if_pos b0) (by decide))
           · exact q9 rfl (hJk _ (k + 1) ⟨by omega, zc h0k (by unfold z0s; rw [hy]; exact if_neg (by rw [b0]; decide))⟩ (by omega) ⟨⟨cwi (by omega) (by omega) (by omega), ⟨rfl, rfl, rfl⟩, rfl, trivial⟩, ⟨lcr, trivial⟩, rfl⟩)
         · have hh : ¬ k < t.fr.length := by simpa using hh
           have hz := zg (f := z0s t.fr) (n := t.fr.length) (fun j hj => h0k j (by omega))
           refine xv rfl rfl rfl ?_
           exact vi (by rw [hT2, hz])
theorem qbc {c : Clu} {l : Ldr} (hn : Go.Sx.within l.n 0 400 = true) (hm : ¬ (60 < l.tries.length ∨ 300 < l.known.length)) {v : Int} (hv : v = scan (q3l c l.tries) l.tries.length) (h : v ≠ 0) : z7v c l = v := by
 unfold z7v
 rw [hn, if_neg (by decide), if_neg hm, orr, ← hv, if_pos h]
theorem y5p {c : Clu} {l : Ldr} (hn : Go.Sx.within l.n 0 400 = true) (hm : ¬ (60 < l.tries.length ∨ 300 < l.known.length)) (h1 : scan (q3l c l.tries) l.tries.length = 0) {v : Int} (hv : v = scan (hdF c l.known) l.known.length) : z7v c l = v := by
 unfold z7v
 rw [hn, if_neg (by decide), if_neg hm, orr, h1, if_neg (by decide), orr, ← hv, orr]
 split
 · rfl
 · rename_i h; have h : v = 0 := by simpa using h
   exact h.symm
theorem q90 (c : Clu) (ho : q00 c) : PC Tryz.prog 101 [.one (.p c.cs)] (rI (scan (z2s c) c.ldrs.length)) := by
 refine PC.begin Tryz.func101 rfl (by kernel_rfl) ?_
 have hl := ho.2.2.2.1.1
 have w2 := wl1 Acc.cs ho.2.2.1.1
 refine yd rfl (ι := Nat) (fun i => i ≤ c.ldrs.length ∧ ∀ j, j < i → z2s c j = 0) (fun i => ⟨[(3, sV (.int .i64 i)), (0, .one (.b (.p c.cs)))], []⟩) (fun i => c.ldrs.length - i) 0 ⟨Nat.zero_le _, fun j hj => by omega⟩ ?_ ?_
 · exact ⟨⟨rfl, rfl, trivial⟩, trivial, rfl⟩
 · intro io ⟨hio, h0o⟩ Jo hJo
   refine xb rfl ?_ ?_ <;> intro hho
   · have hho : io < c.ldrs.length := by simpa using hho
     obtain ⟨l, hlx⟩ := gx hho
     have hgl := gm Ldr.cs hlx
     obtain ⟨l1, l2, l3⟩ := ho.2.2.2.1.2 l (List.mem_of_getElem? hlx)
     have hF : z2s c io = z7v c l := by unfold z2s; rw [hlx]
     refine xs rfl (nn_ _) (y9 rfl _ hgl (xs rfl rfl (z7 rfl (qi _ _ _) rfl tv4 ?_)))
     refine xb rfl ?_ ?_ <;> intro b0
     refine xv rfl rfl rfl ?_; rotate_left
     refine xb rfl ?_ ?_ <;> intro b1
     refine xj (k := 5) rfl ?_
     refine xv rfl rfl rfl ?_; rotate_left
     refine xj (k := 4) rfl ?_
     refine xb rfl ?_ ?_ <;> intro b2
     refine xv rfl rfl rfl ?_; rotate_left
     rotate_left
     all_goals first
      | (refine vi (q8 hho h0o ?_ (by decide)); clear hJo h0o hgl; rw [hF]; unfold z7v; simp_all; done)
      | (refine vi (q8 hho h0o ?_ (by decide)); clear hJo h0o hgl; rw [hF]; unfold z7v; simp_all; omega)
      | skip
     have hn : Go.Sx.within l.n 0 400 = true := by simpa using b0
     have hm : ¬ (60 < l.tries.length ∨ 300 < l.known.length) := by simp at b1 b2; omega
     clear b0 b1 b2
     refine yd rfl (ι := Nat) (fun i => i ≤ l.tries.length ∧ ∀ j, j < i → q3l c l.tries j = 0) (fun i => ⟨[(5, sV (.int .i64 i)), (4, .one (.a 4 0)), (3, sV (.int .i64 io)), (0, .one (.b (.p c.cs)))], [(4, .var (l.cs.map .b))]⟩) (fun i => l.tries.length - i) 0 ⟨Nat.zero_le _, fun j hj => by omega⟩ ?_ ?_
     · exact ⟨⟨rfl, ⟨rfl, rfl, rfl⟩, rfl, rfl, trivial⟩, ⟨⟨rfl, rfl, rfl, trivial⟩, trivial⟩, rfl⟩
     · intro i ⟨hi, h0⟩ J hJ
       refine xb rfl ?_ ?_ <;> intro h
       · have h : i < l.tries.length := by simpa using h
         obtain ⟨x, hx⟩ := gx h
         have hg := gm Tr.cs hx
         refine z7 rfl (qa5 c ho l.tries i x l1 (l3 x (List.mem_of_getElem? hx)) hx) rfl tv4 ?_
         refine xb rfl ?_ ?_ <;> intro b0
         refine xv rfl rfl rfl ?_; rotate_left
         rotate_left
         all_goals (first | (have hsc := q8 (c := y5e c l.tries i x) h h0 (by clear hJ h0 hg; (first | (simp_all [q3l]; done) | (simp_all [q3l]; omega)); done) (by clear hJ h0; simp_all); exact vi (q8 hho h0o (hF.trans (qbc hn hm hsc (by simpa using b0))) (by simpa using b0)); done) | (refine vi (q8 h h0 ?_ (by first | decide | decide | simp_all)); clear hJ h0 hg; (first | (simp_all [q3l]; done) | (simp_all [q3l]; omega)); done) | (refine q9 rfl (hJ _ (i + 1) ⟨by omega, zc h0 ?_⟩ (by omega) ⟨⟨cwi (by omega) (by omega) (by omega), ⟨rfl, rfl, rfl⟩, rfl, rfl, trivial⟩, ⟨⟨rfl, rfl, rfl, trivial⟩, trivial⟩, rfl⟩); clear hJ h0 hg; (first | (simp_all [q3l]; done) | (simp_all [q3l]; omega)); done) | skip)
       · have h : ¬ i < l.tries.length := by simpa using h
         have hz := zg (f := q3l c l.tries) (n := l.tries.length) (fun j hj => h0 j (by omega))
         clear hJ
         have hz1 := hz
         clear hz h h0
         refine yd rfl (ι := Nat) (fun i => i ≤ l.known.length ∧ ∀ j, j < i → hdF c l.known j = 0) (fun i => ⟨[(7, sV (.int .i64 i)), (4, .one (.a 4 0)), (3, sV (.int .i64 io)), (0, .one (.b (.p c.cs)))], [(4, .var (l.cs.map .b))]⟩) (fun i => l.known.length - i) 0 ⟨Nat.zero_le _, fun j hj => by omega⟩ ?_ ?_
         · exact ⟨⟨rfl, ⟨rfl, rfl, rfl⟩, rfl, rfl, trivial⟩, ⟨⟨rfl, rfl, rfl, trivial⟩, trivial⟩, rfl⟩
         · intro i ⟨hi, h0⟩ J hJ
           refine xb rfl ?_ ?_ <;> intro h
           · have h : i < l.known.length := by simpa using h
             obtain ⟨x, hx⟩ := gx h
             have hg := gm Hd.cs hx
             rcases Nat.eq_zero_or_pos i with hz | hz
             · subst hz
               refine xs rfl (nn_ _) (y9 rfl _ hg (xs rfl rfl (z7 rfl (zy _ (by assumption) _ _) rfl tv4 ?_)))
               refine xb rfl ?_ ?_ <;> intro b0
               refine xv rfl rfl rfl ?_; rotate_left
               refine qd rfl [] (.take 0 [] (.take 1 (Rg 2 20) (.alt 2 (Tk [3, 4, 5] (.take 6 (Rg 7 15) (.alt 7 (Tk (Rg 8 4) (.take 12 (Rg 19 3) (Tk [13, 14, 15] (.take 16 (Rg 17 5) (Tk [17, 18] (.alt 19 (Tk [20, 21] .done) .nil)))))) .nil))) .nil))) (by kernel_rfl) (z7 rfl (y01 _) rfl ⟨trivial, trivial⟩ ?_)
               refine xb rfl ?_ ?_ <;> intro b1
               refine xj (k := 16) rfl ?_
               refine xv rfl rfl rfl ?_; rotate_left
               refine xj (k := 2) rfl (z7 rfl (y0b _) rfl ⟨trivial, trivial⟩ (xj (k := 2) rfl ?_))
               refine xb rfl ?_ ?_ <;> intro b2
               refine xj (k := 11) rfl ?_
               refine xv rfl rfl rfl ?_; rotate_left
               refine xj (k := 8) rfl (z7 rfl (qi _ _ _) rfl tv4 (xj (k := 2) rfl ?_))
               refine xb rfl ?_ ?_ <;> intro b3
               refine xv rfl rfl rfl ?_; rotate_left
               refine qd rfl [] (Tk (Rg 0 4) (.take 4 [7, 8, 10, 11, 12] (Tk [5, 6, 7] (.take 8 (Rg 10 3) (.take 9 (Rg 10 3) (.alt 10 (Tk [11, 12] .done) .nil)))))) (by kernel_rfl) ?_
               refine xj (k := 11) rfl ?_; rotate_left
               all_goals (first | (have hsc := q8 (c := 4) h h0 (by clear hJ h0 hg; (first | (simp_all [hdF, ahead_zero]; done) | (simp_all [hdF, ahead_zero]; omega)); done) (by decide); exact vi (q8 hho h0o (hF.trans (y5p hn hm hz1 hsc)) (by decide)); done) | (have hsc := q8 (c := 3) h h0 (by clear hJ h0 hg; (first | (simp_all [hdF, ahead_zero]; done) | (simp_all [hdF, ahead_zero]; omega)); done) (by decide); exact vi (q8 hho h0o (hF.trans (y5p hn hm hz1 hsc)) (by decide)); done) | (have hsc := q8 (c := 1) h h0 (by clear hJ h0 hg; (first | (simp_all [hdF, ahead_zero]; done) | (simp_all [hdF, ahead_zero]; omega)); done) (by decide); exact vi (q8 hho h0o (hF.trans (y5p hn hm hz1 hsc)) (by decide)); done) | (refine vi (q8 h h0 ?_ (by first | decide | decide | simp_all)); clear hJ h0 hg; (first | (simp_all [hdF, ahead_zero]; done) | (simp_all [hdF, ahead_zero]; omega)); done) | (refine q9 rfl (hJ _ 1 ⟨by omega, zc h0 ?_⟩ (by omega) ⟨⟨cwi (by omega) (by omega) (by omega), ⟨rfl, rfl, rfl⟩, rfl, rfl, trivial⟩, ⟨⟨rfl, rfl, rfl, trivial⟩, trivial⟩, rfl⟩); clear hJ h0 hg; (first | (simp_all [hdF, ahead_zero]; done) | (simp_all [hdF, ahead_zero]; omega)); done) | skip)
             · obtain ⟨p, hp⟩ := gx (xs := l.known) (i := i - 1) (by omega)
               have hgp := y1b Hd.cs hz (by omega) hp
               refine xs rfl (nn_ _) (y9 rfl _ hg (xs rfl rfl (z7 rfl (zy _ (by assumption) _ _) rfl tv4 ?_)))
               refine xb rfl ?_ ?_ <;> intro b0
               refine xv rfl rfl rfl ?_; rotate_left
               refine qd rfl [] (.take 0 [] (.take 1 (Rg 2 20) (.alt 2 (Tk [3, 4, 5] (.take 6 (Rg 7 15) (.alt 7 (Tk (Rg 8 4) (.take 12 (Rg 19 3) (Tk [13, 14, 15] (.take 16 (Rg 17 5) (Tk [17, 18] (.alt 19 (Tk [20, 21] .done) .nil)))))) .nil))) .nil))) (by kernel_rfl) (z7 rfl (y01 _) rfl ⟨trivial, trivial⟩ ?_)
               refine xb rfl ?_ ?_ <;> intro b1
               refine xj (k := 16) rfl ?_
               refine xv rfl rfl rfl ?_; rotate_left
               refine xj (k := 2) rfl (z7 rfl (y0b _) rfl ⟨trivial, trivial⟩ (xj (k := 2) rfl ?_))
               refine xb rfl ?_ ?_ <;> intro b2
               refine xj (k := 11) rfl ?_
               refine xv rfl rfl rfl ?_; rotate_left
               refine xj (k := 8) rfl (z7 rfl (qi _ _ _) rfl tv4 (xj (k := 2) rfl ?_))
               refine xb rfl ?_ ?_ <;> intro b3
               refine xv rfl rfl rfl ?_; rotate_left
               refine qd rfl [] (Tk (Rg 0 4) (.take 4 [7, 8, 10, 11, 12] (Tk [5, 6, 7] (.take 8 (Rg 10 3) (.take 9 (Rg 10 3) (.alt 10 (Tk [11, 12] .done) .nil)))))) (by kernel_rfl) ?_
               refine xb rfl ?_ ?_ <;> intro b4
               refine xj (k := 4) rfl (xs rfl (q0n hz (by omega)) (y9 rfl _ hgp (xs rfl rfl (xj (k := 3) rfl (z7 rfl (z52 _ _) rfl ⟨tv6, tv6, trivial⟩ (xj (k := 2) rfl ?_))))))
               refine xb rfl ?_ ?_ <;> intro b5
               refine xv rfl rfl rfl ?_; rotate_left
               rotate_left
               refine xj (k := 10) rfl ?_; rotate_left
               all_goals (first | (have hsc := q8 (c := 4) h h0 (by clear hJ h0 hg hgp; (first | (simp_all [hdF, ya hz hp]; done) | (simp_all [hdF, ya hz hp]; omega)); done) (by decide); exact vi (q8 hho h0o (hF.trans (y5p hn hm hz1 hsc)) (by decide)); done) | (have hsc := q8 (c := 3) h h0 (by clear hJ h0 hg hgp; (first | (simp_all [hdF, ya hz hp]; done) | (simp_all [hdF, ya hz hp]; omega)); done) (by decide); exact vi (q8 hho h0o (hF.trans (y5p hn hm hz1 hsc)) (by decide)); done) | (have hsc := q8 (c := 1) h h0 (by clear hJ h0 hg hgp; (first | (simp_all [hdF, ya hz hp]; done) | (simp_all [hdF, ya hz hp]; omega)); done) (by decide); exact vi (q8 hho h0o (hF.trans (y5p hn hm hz1 hsc)) (by decide)); done) | (refine vi (q8 h h0 ?_ (by first | decide | decide | simp_all)); clear hJ h0 hg hgp; (first | (simp_all [hdF, ya hz hp]; done) | (simp_all [hdF, ya hz hp]; omega)); done) | (refine q9 rfl (hJ _ (i + 1) ⟨by omega, zc h0 ?_⟩ (by omega) ⟨⟨cwi (by omega) (by omega) (by omega), ⟨rfl, rfl, rfl⟩, rfl, rfl, trivial⟩, ⟨⟨rfl, rfl, rfl, trivial⟩, trivial⟩, rfl⟩); clear hJ h0 hg hgp; (first | (simp_all [hdF, ya hz hp]; done) | (simp_all [hdF, ya hz hp]; omega)); done) | skip)
           · have h : ¬ i < l.known.length := by simpa using h
             have hz := zg (f := hdF c l.known) (n := l.known.length) (fun j hj => h0 j (by omega))
             clear hJ
             skip
             exact q9 rfl (hJo _ (io + 1) ⟨by omega, zc h0o (hF.trans (y5p hn hm hz1 hz.symm))⟩ (by omega) ⟨⟨cwi (by omega) (by omega) (by omega), rfl, trivial⟩, trivial, rfl⟩)
   · have hho : ¬ io < c.ldrs.length := by simpa using hho
     have hz := zg (f := z2s c) (n := c.ldrs.length) (fun j hj => h0o j (by omega))
     refine xv rfl rfl rfl ?_
     exact vi (hz.symm)
theorem zbr {a b c d e : Int} : orr [a, b, c, d, e] = if a ≠ 0 then a else if b ≠ 0 then b else if c ≠ 0 then c else if d ≠ 0 then d else e := by
 unfold orr orr orr orr orr orr
 repeat' split
 all_goals first | rfl | omega
theorem y0d {c : Clu} : z0p c = true ↔ (20 < c.cons.length ∨ ¬ (1 ≤ c.shs.length ∧ c.shs.length ≤ 3) ∨ ¬ (1 ≤ c.accs.length ∧ c.accs.length ≤ 5) ∨ c.ldrs.length ≠ 2 ∨ 200 < c.msgs.length) := by
 unfold z0p Go.Sx.within
 simp
 omega
theorem z9b {c : Clu} (h : z0p c = true) : zt c = 2 := by unfold zt; rw [if_pos h]
theorem y8m {c : Clu} (h : ¬ z0p c = true) : zt c = if scan (q0d c) c.cons.length ≠ 0 then scan (q0d c) c.cons.length else if scan (z2i c) c.shs.length ≠ 0 then scan (z2i c) c.shs.length else if scan (q2q c) c.accs.length ≠ 0 then scan (q2q c) c.accs.length else if scan (z2s c) c.ldrs.length ≠ 0 then scan (z2s c) c.ldrs.length else scan (z4i c) c.msgs.length := by
 unfold zt; rw [if_neg h, zbr]
theorem qb9 (c : Clu) (us : List Acc) (F : Acc → Int) (G : Nat → Int) (fn : Nat) (hG : ∀ i x, us[i]? = some x → G i = F x) (hf : ∀ x ∈ us, PC Tryz.prog fn [.one (.p c.cs), .agg x.cs] (rI (F x))) (hl : us.length ≤ 1048576) : PC Tryz.prog 118 [.one (.l (us.map Acc.cs)), .one (.m fn false [.p c.cs])] (rI (scan G us.length)) := by
 refine PC.begin Tryz.func118 rfl (by kernel_rfl) ?_
 have hn : (us.map Acc.cs).length = us.length := by simp
 refine yd rfl (ι := Nat) (fun i => i ≤ us.length ∧ ∀ j, j < i → G j = 0) (fun i => ⟨[(10, sV (.int .i64 i)), (9, sV (.int .i64 (us.map Acc.cs).length)), (8, .one (.b (.l (us.map Acc.cs)))), (1, .one (.b (.m fn false [.p c.cs])))], []⟩) (fun i => us.length - i) 0 ⟨Nat.zero_le _, fun j hj => by omega⟩ ?_ ?_
 · exact ⟨⟨rfl, rfl, rfl, rfl, trivial⟩, trivial, rfl⟩
 · intro i ⟨hi, h0⟩ J hJ
   refine xb rfl ?_ ?_ <;> intro h
   · have h : i < us.length := by simpa using h
     obtain ⟨x, hx⟩ := gx h
     have hg := gm Acc.cs hx
     have hxm := List.mem_of_getElem? hx
     have hGx := hG i x hx
     refine xs rfl (nn_ _) (y9 rfl _ hg (xs rfl rfl (z7 rfl (hf _ hxm) rfl ⟨trivial, ⟨trivial, trivial⟩, trivial⟩ ?_)))
     refine xb rfl ?_ ?_ <;> intro b0
     refine xv rfl rfl rfl ?_; rotate_left
     rotate_left
     · exact vi (q8 h h0 hGx (by simpa using b0))
     · exact q9 rfl (hJ _ (i + 1) ⟨by omega, zc h0 (hGx.trans (by simpa using b0))⟩ (by omega) ⟨⟨cwi (by omega) (by omega) (by omega), rfl, rfl, rfl, trivial⟩, trivial, rfl⟩)
   · have h : ¬ i < us.length := by simpa using h
     have hz := zg (f := G) (n := us.length) (fun j hj => h0 j (by omega))
     refine xv rfl rfl rfl ?_
     exact vi (hz.symm)
theorem zba (c : Clu) (us : List Ldr) (F : Ldr → Int) (G : Nat → Int) (fn : Nat) (hG : ∀ i x, us[i]? = some x → G i = F x) (hf : ∀ x ∈ us, PC Tryz.prog fn [.one (.p c.cs), .agg x.cs] (rI (F x))) (hl : us.length ≤ 1048576) : PC Tryz.prog 120 [.one (.l (us.map Ldr.cs)), .one (.m fn false [.p c.cs])] (rI (scan G us.length)) := by
 refine PC.begin Tryz.func120 rfl (by kernel_rfl) ?_
 have hn : (us.map Ldr.cs).length = us.length := by simp
 refine yd rfl (ι := Nat) (fun i => i ≤ us.length ∧ ∀ j, j < i → G j = 0) (fun i => ⟨[(10, sV (.int .i64 i)), (9, sV (.int .i64 (us.map Ldr.cs).length)), (8, .one (.b (.l (us.map Ldr.cs)))), (1, .one (.b (.m fn false [.p c.cs])))], []⟩) (fun i => us.length - i) 0 ⟨Nat.zero_le _, fun j hj => by omega⟩ ?_ ?_
 · exact ⟨⟨rfl, rfl, rfl, rfl, trivial⟩, trivial, rfl⟩
 · intro i ⟨hi, h0⟩ J hJ
   refine xb rfl ?_ ?_ <;> intro h
   · have h : i < us.length := by simpa using h
     obtain ⟨x, hx⟩ := gx h
     have hg := gm Ldr.cs hx
     have hxm := List.mem_of_getElem? hx
     have hGx := hG i x hx
     refine xs rfl (nn_ _) (y9 rfl _ hg (xs rfl rfl (z7 rfl (hf _ hxm) rfl ⟨trivial, tv4, trivial⟩ ?_)))
     refine xb rfl ?_ ?_ <;> intro b0
     refine xv rfl rfl rfl ?_; rotate_left
     rotate_left
     · exact vi (q8 h h0 hGx (by simpa using b0))
     · exact q9 rfl (hJ _ (i + 1) ⟨by omega, zc h0 (hGx.trans (by simpa using b0))⟩ (by omega) ⟨⟨cwi (by omega) (by omega) (by omega), rfl, rfl, rfl, trivial⟩, trivial, rfl⟩)
   · have h : ¬ i < us.length := by simpa using h
     have hz := zg (f := G) (n := us.length) (fun j hj => h0 j (by omega))
     refine xv rfl rfl rfl ?_
     exact vi (hz.symm)
theorem yba (c : Clu) (us : List Msg) (F : Msg → Int) (G : Nat → Int) (fn : Nat) (hG : ∀ i x, us[i]? = some x → G i = F x) (hf : ∀ x ∈ us, PC Tryz.prog fn [.agg x.cs, .one (.p c.cs)] (rI (F x))) (hl : us.length ≤ 1048576) : PC Tryz.prog 122 [.one (.l (us.map Msg.cs)), .one (.f fn [.p c.cs])] (rI (scan G us.length)) := by
 refine PC.begin Tryz.func122 rfl (by kernel_rfl) ?_
 have hn : (us.map Msg.cs).length = us.length := by simp
 refine yd rfl (ι := Nat) (fun i => i ≤ us.length ∧ ∀ j, j < i → G j = 0) (fun i => ⟨[(10, sV (.int .i64 i)), (9, sV (.int .i64 (us.map Msg.cs).length)), (8, .one (.b (.l (us.map Msg.cs)))), (1, .one (.b (.f fn [.p c.cs])))], []⟩) (fun i => us.length - i) 0 ⟨Nat.zero_le _, fun j hj => by omega⟩ ?_ ?_
 · exact ⟨⟨rfl, rfl, rfl, rfl, trivial⟩, trivial, rfl⟩
 · intro i ⟨hi, h0⟩ J hJ
   refine xb rfl ?_ ?_ <;> intro h
   · have h : i < us.length := by simpa using h
     obtain ⟨x, hx⟩ := gx h
     have hg := gm Msg.cs hx
     have hxm := List.mem_of_getElem? hx
     have hGx := hG i x hx
     refine xs rfl (nn_ _) (y9 rfl _ hg (xs rfl rfl (z7 rfl (hf _ hxm) rfl ⟨tv10, trivial, trivial⟩ ?_)))
     refine xb rfl ?_ ?_ <;> intro b0
     refine xv rfl rfl rfl ?_; rotate_left
     rotate_left
     · exact vi (q8 h h0 hGx (by simpa using b0))
     · exact q9 rfl (hJ _ (i + 1) ⟨by omega, zc h0 (hGx.trans (by simpa using b0))⟩ (by omega) ⟨⟨cwi (by omega) (by omega) (by omega), rfl, rfl, rfl, trivial⟩, trivial, rfl⟩)
   · have h : ¬ i < us.length := by simpa using h
     have hz := zg (f := G) (n := us.length) (fun j hj => h0 j (by omega))
     refine xv rfl rfl rfl ?_
     exact vi (hz.symm)
theorem ya1 (c : Clu) (ho : q00 c) (m : Msg) : PC Tryz.prog 123 [.agg m.cs, .one (.p c.cs)] (rI (z0i c m)) := by
 refine PC.begin Tryz.func123 rfl (by kernel_rfl) ?_
 refine z7 rfl (q9t c ho m) rfl ⟨tv6, tv10, trivial⟩ ?_
 refine xr rfl (qm rfl ⟨⟨rfl, rfl, trivial⟩, z6 rfl⟩)
theorem z7q (c : Clu) (ho : q00 c) : PC Tryz.prog 50 [.agg c.cs] (rI (zt c)) := by
 refine PC.begin Tryz.func50 rfl (by kernel_rfl) ?_
 have hl := ho.2.1.1
 have hA := qb9 c c.accs (y9k c) (q2q c) 119 (fun i x h => by unfold q2q; rw [h]) (fun a ha => q8q c ho a (ho.2.2.1.2 a ha)) ho.2.2.1.1
 have hL := zba c c.ldrs (z7v c) (z2s c) 121 (fun i x h => by unfold z2s; rw [h]) (fun l hl => y9t c ho l (ho.2.2.2.1.2 l hl)) ho.2.2.2.1.1
 have hM := yba c c.msgs (z0i c) (z4i c) 123 (fun i x h => by unfold z4i; rw [h]) (fun m _ => ya1 c ho m) ho.2.2.2.2
 refine xb rfl ?_ ?_ <;> intro b0
 refine xj (k := 22) rfl ?_
 refine xv rfl rfl rfl ?_; rotate_left
 refine xj (k := 2) rfl (z7 rfl (z2q _) rfl ⟨trivial, trivial⟩ (xj (k := 1) rfl (z7 rfl (zo _ _ _) rfl tv4 (xj (k := 2) rfl ?_))))
 refine xb rfl ?_ ?_ <;> intro b1
 refine xj (k := 16) rfl ?_
 refine xv rfl rfl rfl ?_; rotate_left
 refine xj (k := 2) rfl (z7 rfl (y1k _) rfl ⟨trivial, trivial⟩ (xj (k := 1) rfl (z7 rfl (zo _ _ _) rfl tv4 (xj (k := 2) rfl ?_))))
 refine xb rfl ?_ ?_ <;> intro b2
 refine xj (k := 10) rfl ?_
 refine xv rfl rfl rfl ?_; rotate_left
 refine xj (k := 4) rfl ?_
 refine xb rfl ?_ ?_ <;> intro b3
 refine xj (k := 5) rfl ?_
 refine xv rfl rfl rfl ?_; rotate_left
 refine xj (k := 4) rfl ?_
 refine xb rfl ?_ ?_ <;> intro b4
 refine xv rfl rfl rfl ?_; rotate_left
 refine z7 rfl (y8r c ho) rfl ⟨tv6, trivial⟩ ?_
 refine xb rfl ?_ ?_ <;> intro b5
 refine xv rfl rfl rfl ?_; rotate_left
 rotate_left
 all_goals first
  | (refine vi (z9b (y0d.2 ?_)).symm; clear hA hL hM ho; (simp only [List.length_map, Go.Sx.within, gt_iff_lt, ge_iff_le] at *; simp at *; omega); done)
  | skip
 · refine vi ?_
   have hm : ¬ z0p c = true := fun h => by rw [y0d] at h; clear hA hL hM ho; (simp only [List.length_map, Go.Sx.within, gt_iff_lt, ge_iff_le] at *; simp at *; omega)
   rw [y8m hm, if_pos (by simpa using b5)]
 · have hm : ¬ z0p c = true := fun h => by rw [y0d] at h; clear hA hL hM ho; (simp only [List.length_map, Go.Sx.within, gt_iff_lt, ge_iff_le] at *; simp at *; omega)
   have h1 : scan (q0d c) c.cons.length = 0 := by simpa using b5
   rw [y8m hm, if_neg (by simpa using h1)]
   clear b0 b1 b2 b3 b4 b5 h1 hm
   refine yd rfl (ι := Nat) (fun i => i ≤ c.shs.length ∧ ∀ j, j < i → z2i c j = 0) (fun i => ⟨[(44, sV (.int .i64 i)), (43, sV (.int .i64 (c.shs.map Shd.cs).length)), (1, .one (.a 1 0))], [(1, .var (c.cs.map .b))]⟩) (fun i => c.shs.length - i) 0 ⟨Nat.zero_le _, fun j hj => by omega⟩ ?_ ?_
   · exact ⟨⟨rfl, rfl, ⟨rfl, rfl, rfl⟩, trivial⟩, ⟨lcr, trivial⟩, rfl⟩
   · intro i ⟨hi, h0⟩ J hJ
     refine xb rfl ?_ ?_ <;> intro h
     · have h : i < c.shs.length := by simpa using h
       obtain ⟨s, hx⟩ := gx h
       have hF : z2i c i = y9h c i s := by unfold z2i; rw [hx]
       refine z7 rfl (q8r c ho i s hx) rfl ⟨tv6, trivial, trivial⟩ ?_
       refine xb rfl ?_ ?_ <;> intro b0
       refine xv rfl rfl rfl ?_; rotate_left
       rotate_left
       · have hsc := q8 h h0 hF (by simpa using b0)
         refine vi ?_
         rw [if_pos (by rw [← hsc]; simpa using b0), ← hsc]
       · exact q9 rfl (hJ _ (i + 1) ⟨by omega, zc h0 (hF.trans (by simpa using b0))⟩ (by omega) ⟨⟨cwi (by omega) (by omega) (by omega), rfl, ⟨rfl, rfl, rfl⟩, trivial⟩, ⟨lcr, trivial⟩, rfl⟩)
     · have h : ¬ i < c.shs.length := by simpa using h
       have hz := zg (f := z2i c) (n := c.shs.length) (fun j hj => h0 j (by omega))
       rw [if_neg (by simpa using hz)]
       clear hJ h0
       refine qd rfl [] (.take 0 [] (.take 1 [3, 7, 8, 9, 10] (Tk [2, 4] (.take 5 (Rg 7 4) (.take 6 [] (.alt 3 (.alt 7 (.alt 8 (.alt 9 (.take 10 [] .done) .nil) .nil) .nil) .nil)))))) (by kernel_rfl) (z7 rfl (hA) rfl ⟨trivial, tv6, trivial⟩ (z7 rfl (hL) rfl ⟨trivial, tv6, trivial⟩ (xs rfl tv3 (z7 rfl (z2d [_, _] (by simp)) rfl ⟨rfl, trivial⟩ ?_))))
       refine xb rfl ?_ ?_ <;> intro b0
       refine xv rfl rfl rfl ?_; rotate_left
       refine z7 rfl (hM) rfl ⟨trivial, (List.forall_mem_cons.2 ⟨tv6, (fun _ h => nomatch h)⟩), trivial⟩ ?_
       refine xv rfl rfl rfl ?_; rotate_left
       all_goals (refine vi ?_; clear hA hL hM ho; unfold orr orr orr at *; by_cases h1 : scan (q2q c) c.accs.length = 0 <;> by_cases h2 : scan (z2s c) c.ldrs.length = 0 <;> simp_all <;> done)
theorem q5w (c : Clu) (ho : q00 c) : PC Tryz.prog 38 [.agg c.cs] (rI (zt c)) := by
 refine PC.begin Tryz.func38 rfl (by kernel_rfl) ?_
 have hl := ho.2.2.2.2
 refine xb rfl ?_ ?_ <;> intro b0
 refine xj (k := 30) rfl ?_
 refine xv rfl rfl rfl ?_; rotate_left
 refine xj (k := 4) rfl ?_
 refine xb rfl ?_ ?_ <;> intro b1
 refine xj (k := 25) rfl ?_
 refine xv rfl rfl rfl ?_; rotate_left
 refine xj (k := 4) rfl ?_
 refine xb rfl ?_ ?_ <;> intro b2
 refine xj (k := 20) rfl ?_
 refine xv rfl rfl rfl ?_; rotate_left
 refine xj (k := 4) rfl ?_
 refine xb rfl ?_ ?_ <;> intro b3
 refine xj (k := 15) rfl ?_
 refine xv rfl rfl rfl ?_; rotate_left
 refine xj (k := 4) rfl ?_
 refine xb rfl ?_ ?_ <;> intro b4
 refine xj (k := 10) rfl ?_
 refine xv rfl rfl rfl ?_; rotate_left
 refine xj (k := 4) rfl ?_
 refine xb rfl ?_ ?_ <;> intro b5
 refine xj (k := 5) rfl ?_
 refine xv rfl rfl rfl ?_; rotate_left
 refine xj (k := 4) rfl ?_
 refine xb rfl ?_ ?_ <;> intro b6
 refine xv rfl rfl rfl ?_; rotate_left
 refine z7 rfl (z90 c ho) rfl ⟨tv6, trivial⟩ ?_
 refine xb rfl ?_ ?_ <;> intro b7
 refine xv rfl rfl rfl ?_; rotate_left
 refine z7 rfl (z91 c ho) rfl ⟨tv6, trivial⟩ ?_
 refine xb rfl ?_ ?_ <;> intro b8
 refine xv rfl rfl rfl ?_; rotate_left
 refine z7 rfl (y8z c ho) rfl ⟨tv6, trivial⟩ ?_
 refine xb rfl ?_ ?_ <;> intro b9
 refine xv rfl rfl rfl ?_; rotate_left
 refine z7 rfl (q90 c ho) rfl ⟨tv6, trivial⟩ ?_
 refine xb rfl ?_ ?_ <;> intro b10
 refine xv rfl rfl rfl ?_; rotate_left
 rotate_left
 all_goals first
  | (refine vi (z9b (y0d.2 ?_)).symm; clear ho; (simp only [List.length_map, Go.Sx.within, gt_iff_lt, ge_iff_le] at *; simp at *; omega); done)
  | (refine vi ?_
     have hm : ¬ z0p c = true := fun h => by rw [y0d] at h; clear ho; (simp only [List.length_map, Go.Sx.within, gt_iff_lt, ge_iff_le] at *; simp at *; omega)
     rw [y8m hm]
     clear hm ho
     simp_all
     done)
  | skip
 have hm : ¬ z0p c = true := fun h => by rw [y0d] at h; clear ho; (simp only [List.length_map, Go.Sx.within, gt_iff_lt, ge_iff_le] at *; simp at *; omega)
 rw [y8m hm, if_neg (by simp_all), if_neg (by simp_all), if_neg (by simp_all), if_neg (by simp_all)]
 refine yd rfl (ι := Nat) (fun i => i ≤ c.msgs.length ∧ ∀ j, j < i → z4i c j = 0) (fun i => ⟨[(7, sV (.int .i64 i)), (1, .one (.a 1 0))], [(1, .var (c.cs.map .b))]⟩) (fun i => c.msgs.length - i) 0 ⟨Nat.zero_le _, fun j hj => by omega⟩ ?_ ?_
 · exact ⟨⟨rfl, ⟨rfl, rfl, rfl⟩, trivial⟩, ⟨lcr, trivial⟩, rfl⟩
 · intro i ⟨hi, h0⟩ J hJ
   refine xb rfl ?_ ?_ <;> intro h
   · have h : i < c.msgs.length := by simpa using h
     obtain ⟨m, hx⟩ := gx h
     have hg := gm Msg.cs hx
     have hF : z4i c i = z0i c m := by unfold z4i; rw [hx]
     refine xs rfl (nn_ _) (y9 rfl _ hg (xs rfl rfl (z7 rfl (ya5 c ho m) rfl ⟨tv6, tv10, trivial⟩ ?_)))
     refine xb rfl ?_ ?_ <;> intro b0
     refine xv rfl rfl rfl ?_; rotate_left
     rotate_left
     · exact vi (q8 h h0 hF (by simpa using b0))
     · exact q9 rfl (hJ _ (i + 1) ⟨by omega, zc h0 (hF.trans (by simpa using b0))⟩ (by omega) ⟨⟨cwi (by omega) (by omega) (by omega), ⟨rfl, rfl, rfl⟩, trivial⟩, ⟨lcr, trivial⟩, rfl⟩)
   · have h : ¬ i < c.msgs.length := by simpa using h
     have hz := zg (f := z4i c) (n := c.msgs.length) (fun j hj => h0 j (by omega))
     refine xv rfl rfl rfl ?_
     exact vi (hz.symm)
end Go.Proofs.YtbnbjaedijbnpaaGreat
end
section
namespace Go.Proofs.YtbnbjaedijbnpaaGreat
open Go Go.Sx
set_option maxRecDepth 20000
theorem q02 {α : Type} {f : α → List Cell} {P : α → Prop} {N : Nat} {e : Sh} : ∀ {rr : List (List Cell)}, WR N e rr → (∀ row, WT N e row → ∃ x, row = f x ∧ P x) → ∃ us : List α, rr = us.map f ∧ us.length ≤ N ∧ ∀ x ∈ us, P x
 | [], _, _ => ⟨[], rfl, Nat.zero_le _, fun x hx => by cases hx⟩
 | row :: rr, h, hc => by
   obtain ⟨x, hx, hp⟩ := hc row (h.2 row List.mem_cons_self)
   obtain ⟨us, hu, _, hps⟩ := q02 (rr := rr) ⟨by have := h.1; simp at this; omega, fun r hr => h.2 r (List.mem_cons_of_mem _ hr)⟩ hc
   refine ⟨x :: us, by rw [hx, hu]; rfl, by have := h.1; rw [hu] at this; simpa using this, fun y hy => ?_⟩
   rcases List.mem_cons.1 hy with rfl | hy
   · exact hp
   · exact hps y hy
theorem y8n {N : Nat} (row : List Cell) (h : WT N qw row) : ∃ x : Leg, row = x.cs ∧ True := by
 obtain ⟨a0, a1, a2, a3, rfl⟩ := z1x h
 exact ⟨⟨a0, a1, a2, a3⟩, rfl, trivial⟩
theorem q4u {N : Nat} (row : List Cell) (h : WT N ze row) : ∃ x : Bal, row = x.cs ∧ True := by
 obtain ⟨a0, a1, a2, rfl⟩ := q09 h
 exact ⟨⟨a0, a1, a2⟩, rfl, trivial⟩
theorem y4v {N : Nat} (row : List Cell) (h : WT N zh row) : ∃ x : Mk, row = x.cs ∧ True := by
 obtain ⟨a0, a1, rfl⟩ := q16 h
 exact ⟨⟨a0, a1⟩, rfl, trivial⟩
theorem z4w {N : Nat} (row : List Cell) (h : WT N yk row) : ∃ x : Vt, row = x.cs ∧ True := by
 obtain ⟨a0, a1, rfl⟩ := y17 h
 exact ⟨⟨a0, a1⟩, rfl, trivial⟩
theorem z6p {N : Nat} (row : List Cell) (h : WT N zm row) : ∃ x : Hd, row = x.cs ∧ True := by
 obtain ⟨a0, a1, a2, a3, a4, rfl⟩ := q0p h
 exact ⟨⟨a0, a1, a2, a3, a4⟩, rfl, trivial⟩
theorem q4v {N : Nat} (row : List Cell) (h : WT N qb row) : ∃ x : Msg, row = x.cs ∧ True := by
 obtain ⟨a0, a1, a2, a3, a4, a5, a6, a7, a8, rfl⟩ := z0a h
 exact ⟨⟨a0, a1, a2, a3, a4, a5, a6, a7, a8⟩, rfl, trivial⟩
theorem y69 {N : Nat} (row : List Cell) (h : WT N (.i .i64 .nil) row) : ∃ x : Int, row = [i64 x] ∧ True := by
 obtain ⟨x0, _, rfl, hnil⟩ := h.qx
 obtain rfl := hnil.yz
 exact ⟨x0, rfl, trivial⟩
theorem q21 (row : List Cell) (h : WT 1048576 q7 row) : ∃ x : Con, row = x.cs ∧ x.legs.length ≤ 1048576 := by
 obtain ⟨a, b, rfl, h1⟩ := y05 h
 obtain ⟨us, rfl, hl, _⟩ := q02 h1 y8n
 exact ⟨⟨a, us⟩, rfl, hl⟩
theorem y6p (row : List Cell) (h : WT 1048576 zb row) : ∃ x : Shd, row = x.cs ∧ yb2 x := by
 obtain ⟨a, b, c, d, e, f, rfl, h1, h2, h3, h4, h5⟩ := z0q h
 obtain ⟨u1, rfl, l1, _⟩ := q02 h1 q4u
 obtain ⟨u2, rfl, l2, _⟩ := q02 h2 y4v
 obtain ⟨u3, rfl, l3, p3⟩ := q02 h3 q21
 obtain ⟨u4, rfl, l4, _⟩ := q02 h4 y4v
 obtain ⟨u5, rfl, l5, _⟩ := q02 h5 y69
 exact ⟨⟨a, u1, u2, u3, u4, u5⟩, rfl, l1, l2, l3, l4, l5, p3⟩
theorem z7i (row : List Cell) (h : WT 1048576 qj row) : ∃ x : Slt, row = x.cs ∧ x.cast.length ≤ 1048576 := by
 obtain ⟨a, b, c, d, e, f, rfl, h1⟩ := z17 h
 obtain ⟨u1, rfl, l1, _⟩ := q02 h1 z4w
 exact ⟨⟨a, b, c, d, e, u1⟩, rfl, l1⟩
theorem y48 (row : List Cell) (h : WT 1048576 z8 row) : ∃ x : Acc, row = x.cs ∧ y43 x := by
 obtain ⟨a, rfl, h1⟩ := q04 h
 obtain ⟨u1, rfl, l1, p1⟩ := q02 h1 z7i
 exact ⟨⟨u1⟩, rfl, l1, p1⟩
theorem q8n (row : List Cell) (h : WT 1048576 zp row) : ∃ x : Tr, row = x.cs ∧ zah x := by
 obtain ⟨a, b, c, d, e, f, rfl, h1, h2⟩ := y1x h
 obtain ⟨u1, rfl, l1, _⟩ := q02 h1 y69
 obtain ⟨u2, rfl, l2, _⟩ := q02 h2 z4w
 exact ⟨⟨a, b, c, d, u1, u2⟩, rfl, l1, l2⟩
theorem q5j (row : List Cell) (h : WT 1048576 qa row) : ∃ x : Ldr, row = x.cs ∧ z8k x := by
 obtain ⟨a, b, c, rfl, h1, h2⟩ := q0e h
 obtain ⟨u1, rfl, l1, p1⟩ := q02 h1 q8n
 obtain ⟨u2, rfl, l2, _⟩ := q02 h2 z6p
 exact ⟨⟨a, u1, u2⟩, rfl, l1, l2, p1⟩
theorem z4v (row : List Cell) (h : WT 1048576 yb row) : ∃ x : Clu, row = x.cs ∧ q00 x := by
 obtain ⟨a, b, c, d, e, rfl, h1, h2, h3, h4, h5⟩ := z05 h
 obtain ⟨u1, rfl, l1, p1⟩ := q02 h1 q21
 obtain ⟨u2, rfl, l2, p2⟩ := q02 h2 y6p
 obtain ⟨u3, rfl, l3, p3⟩ := q02 h3 y48
 obtain ⟨u4, rfl, l4, p4⟩ := q02 h4 q5j
 obtain ⟨u5, rfl, l5, _⟩ := q02 h5 q4v
 exact ⟨⟨u1, u2, u3, u4, u5⟩, rfl, ⟨l1, p1⟩, ⟨l2, p2⟩, ⟨l3, p3⟩, ⟨l4, p4⟩, l5⟩
theorem q2z {f : List Cell → Nat} {row : List Cell} : ∀ {rows : List (List Cell)}, row ∈ rows → f row ≤ y00 f rows
 | r :: rows, h => by
   rw [y00]
   rcases List.mem_cons.1 h with rfl | h
   · omega
   · have := q2z (f := f) h; omega
theorem yay {N M : Nat} {e : Sh} {cs : List Cell} (hw : WT N e cs) : tot e cs ≤ M → WT M e cs := by
 induction hw with
 | nil => exact fun _ => .nil
 | i n _ ih => exact fun h => .i n (ih h)
 | b x _ ih => exact fun h => .b x (ih h)
 | @l e' r' cs' rows h1 h2 h3 ih1 ih2 =>
   intro h
   simp only [tot] at h
   exact .l rows (by omega) (fun row hr => ih1 row hr (by have := q2z (f := tot e') hr; omega)) (ih2 (by omega))
theorem q93 (x0 : Int) (x1 : Int) (x2 : Int) (x3 : Int)  : PC Tryz.prog 257 [.agg [.s (.int .i64 x0), .s (.int .i64 x1), .s (.int .i64 x2), .s (.int .i64 x3)]] (.one (.own true [.s (.int .i64 x0), .s (.int .i64 x1), .s (.int .i64 x2), .s (.int .i64 x3)])) := by
 refine PC.begin Tryz.func257 rfl (by kernel_rfl) ?_
 exact xr rfl (qm rfl ⟨⟨rfl, rfl, rfl, rfl, rfl, trivial⟩, z6 rfl⟩)
theorem q8c (rr : List (List Cell)) (hw : WR 1048576 qw rr) : PC Tryz.prog 190 [.one (.l rr)] (.one (.own false [.l 4 rr])) := by
 refine PC.begin Tryz.func190 rfl (by kernel_rfl) ?_
 have hlen := hw.1
 refine xs rfl rfl (xs rfl (nn_ _) (xs rfl (by omega) (xs rfl (by omega) ?_)))
 refine yd rfl (ι := Nat) (fun i => i ≤ rr.length) (fun i => ⟨[(4, sV (.int .i64 i)), (3, .one (.h 7 rr.length)), (0, .one (.b (.l rr)))], [(7, .arr true 4 0 (rr.take i ++ List.replicate (rr.length - i) [.s (.int .i64 0), .s (.int .i64 0), .s (.int .i64 0), .s (.int .i64 0)]))]⟩) (fun i => rr.length - i) 0 (Nat.zero_le _) ?_ ?_
 · repeat' (first | exact trivial | exact rfl | exact Or.inl rfl | refine And.intro ?_ ?_)
 · intro i hi J hJ
   refine xb rfl ?_ ?_ <;> intro h
   · have h : i < rr.length := by simpa using h
     obtain ⟨row, hg⟩ : ∃ row, rr[i]? = some row := ⟨_, List.getElem?_eq_getElem h⟩
     obtain ⟨x0, x1, x2, x3, rfl⟩ := z1x (hw.2 row (List.mem_of_getElem? hg))
     refine xs rfl (nn_ _) (y9 rfl _ hg (xs rfl rfl ?_))
     refine z7 rfl (q93 _ _ _ _) rfl ⟨tv5, trivial⟩ ?_
     refine xs rfl (yh _ _ _ _ (by omega) rfl).symm (xs rfl (nn_ _) (y9 rfl [.s (.int .i64 0), .s (.int .i64 0), .s (.int .i64 0), .s (.int .i64 0)] (qo _ _ _ _ (by omega) rfl) (xs rfl rfl ?_)))
     refine xs rfl (yh _ _ _ _ (by omega) rfl).symm (y9 rfl [.s (.int .i64 0), .s (.int .i64 0), .s (.int .i64 0), .s (.int .i64 0)] (qo _ _ _ _ (by omega) rfl) (xs rfl (by decide) (xs rfl tv5 ?_)))
     refine q9 rfl (hJ _ (i + 1) (by omega) (by omega) ?_)
     repeat' (first | exact trivial | exact rfl | exact Or.inl rfl | exact cwi (by omega) (by omega) (by omega) | refine And.intro ?_ ?_)
     exact q07 _ _ _ _ _ hg rfl
   · have h : ¬ i < rr.length := by simpa using h
     have : i = rr.length := by omega
     subst this
     refine xr rfl (qm rfl ⟨⟨rfl, ⟨(yh _ _ _ _ (by omega) rfl).symm, z06 _ _ _ rfl, Or.inl rfl⟩, trivial⟩, z6 rfl⟩)
theorem q4o (x0 : Int) (x1 : List (List Cell)) (h1 : WR 1048576 qw x1) : PC Tryz.prog 107 [.agg [.s (.int .i64 x0), .l x1]] (.one (.own true [.s (.int .i64 x0), .l 4 x1])) := by
 refine PC.begin Tryz.func107 rfl (by kernel_rfl) ?_
 refine z7 rfl (q8c _ h1) rfl ⟨trivial, trivial⟩ ?_
 exact xr rfl (qm rfl ⟨⟨rfl, rfl, ⟨rfl, rfl, .inl rfl⟩, trivial⟩, z6 rfl⟩)
theorem q1t (rr : List (List Cell)) (hw : WR 1048576 q7 rr) : PC Tryz.prog 45 [.one (.l rr)] (.one (.own false [.l 2 rr])) := by
 refine PC.begin Tryz.func45 rfl (by kernel_rfl) ?_
 have hlen := hw.1
 refine xs rfl rfl (xs rfl (nn_ _) (xs rfl (by omega) (xs rfl (by omega) ?_)))
 refine yd rfl (ι := Nat) (fun i => i ≤ rr.length) (fun i => ⟨[(4, sV (.int .i64 i)), (3, .one (.h 7 rr.length)), (0, .one (.b (.l rr)))], [(7, .arr true 2 0 (rr.take i ++ List.replicate (rr.length - i) [.s (.int .i64 0), .l []]))]⟩) (fun i => rr.length - i) 0 (Nat.zero_le _) ?_ ?_
 · repeat' (first | exact trivial | exact rfl | exact Or.inl rfl | refine And.intro ?_ ?_)
 · intro i hi J hJ
   refine xb rfl ?_ ?_ <;> intro h
   · have h : i < rr.length := by simpa using h
     obtain ⟨row, hg⟩ : ∃ row, rr[i]? = some row := ⟨_, List.getElem?_eq_getElem h⟩
     obtain ⟨x0, x1, rfl, h1⟩ := y05 (hw.2 row (List.mem_of_getElem? hg))
     refine xs rfl (nn_ _) (y9 rfl _ hg (xs rfl rfl ?_))
     refine z7 rfl (q4o _ _ h1) rfl ⟨tv3, trivial⟩ ?_
     refine xs rfl (yh _ _ _ _ (by omega) rfl).symm (xs rfl (nn_ _) (y9 rfl [.s (.int .i64 0), .l []] (qo _ _ _ _ (by omega) rfl) (xs rfl rfl ?_)))
     refine xs rfl (yh _ _ _ _ (by omega) rfl).symm (y9 rfl [.s (.int .i64 0), .l []] (qo _ _ _ _ (by omega) rfl) (xs rfl (by decide) (xs rfl ⟨trivial, ⟨rfl, rfl⟩, trivial⟩ ?_)))
     refine q9 rfl (hJ _ (i + 1) (by omega) (by omega) ?_)
     repeat' (first | exact trivial | exact rfl | exact Or.inl rfl | exact cwi (by omega) (by omega) (by omega) | refine And.intro ?_ ?_)
     exact q07 _ _ _ _ _ hg rfl
   · have h : ¬ i < rr.length := by simpa using h
     have : i = rr.length := by omega
     subst this
     refine xr rfl (qm rfl ⟨⟨rfl, ⟨(yh _ _ _ _ (by omega) rfl).symm, z06 _ _ _ rfl, Or.inl rfl⟩, trivial⟩, z6 rfl⟩)
theorem y5c (x0 : Int) (x1 : Int) (x2 : Int)  : PC Tryz.prog 189 [.agg [.s (.int .i64 x0), .s (.int .i64 x1), .s (.int .i64 x2)]] (.one (.own true [.s (.int .i64 x0), .s (.int .i64 x1), .s (.int .i64 x2)])) := by
 refine PC.begin Tryz.func189 rfl (by kernel_rfl) ?_
 exact xr rfl (qm rfl ⟨⟨rfl, rfl, rfl, rfl, trivial⟩, z6 rfl⟩)
theorem y4o (rr : List (List Cell)) (hw : WR 1048576 ze rr) : PC Tryz.prog 106 [.one (.l rr)] (.one (.own false [.l 3 rr])) := by
 refine PC.begin Tryz.func106 rfl (by kernel_rfl) ?_
 have hlen := hw.1
 refine xs rfl rfl (xs rfl (nn_ _) (xs rfl (by omega) (xs rfl (by omega) ?_)))
 refine yd rfl (ι := Nat) (fun i => i ≤ rr.length) (fun i => ⟨[(4, sV (.int .i64 i)), (3, .one (.h 7 rr.length)), (0, .one (.b (.l rr)))], [(7, .arr true 3 0 (rr.take i ++ List.replicate (rr.length - i) [.s (.int .i64 0), .s (.int .i64 0), .s (.int .i64 0)]))]⟩) (fun i => rr.length - i) 0 (Nat.zero_le _) ?_ ?_
 · repeat' (first | exact trivial | exact rfl | exact Or.inl rfl | refine And.intro ?_ ?_)
 · intro i hi J hJ
   refine xb rfl ?_ ?_ <;> intro h
   · have h : i < rr.length := by simpa using h
     obtain ⟨row, hg⟩ : ∃ row, rr[i]? = some row := ⟨_, List.getElem?_eq_getElem h⟩
     obtain ⟨x0, x1, x2, rfl⟩ := q09 (hw.2 row (List.mem_of_getElem? hg))
     refine xs rfl (nn_ _) (y9 rfl _ hg (xs rfl rfl ?_))
     refine z7 rfl (y5c _ _ _) rfl ⟨tv4, trivial⟩ ?_
     refine xs rfl (yh _ _ _ _ (by omega) rfl).symm (xs rfl (nn_ _) (y9 rfl [.s (.int .i64 0), .s (.int .i64 0), .s (.int .i64 0)] (qo _ _ _ _ (by omega) rfl) (xs rfl rfl ?_)))
     refine xs rfl (yh _ _ _ _ (by omega) rfl).symm (y9 rfl [.s (.int .i64 0), .s (.int .i64 0), .s (.int .i64 0)] (qo _ _ _ _ (by omega) rfl) (xs rfl (by decide) (xs rfl tv4 ?_)))
     refine q9 rfl (hJ _ (i + 1) (by omega) (by omega) ?_)
     repeat' (first | exact trivial | exact rfl | exact Or.inl rfl | exact cwi (by omega) (by omega) (by omega) | refine And.intro ?_ ?_)
     exact q07 _ _ _ _ _ hg rfl
   · have h : ¬ i < rr.length := by simpa using h
     have : i = rr.length := by omega
     subst this
     refine xr rfl (qm rfl ⟨⟨rfl, ⟨(yh _ _ _ _ (by omega) rfl).symm, z06 _ _ _ rfl, Or.inl rfl⟩, trivial⟩, z6 rfl⟩)
theorem z8d (x0 : Int) (x1 : Int)  : PC Tryz.prog 258 [.agg [.s (.int .i64 x0), .s (.int .i64 x1)]] (.one (.own true [.s (.int .i64 x0), .s (.int .i64 x1)])) := by
 refine PC.begin Tryz.func258 rfl (by kernel_rfl) ?_
 exact xr rfl (qm rfl ⟨⟨rfl, rfl, rfl, trivial⟩, z6 rfl⟩)
theorem y41 (rr : List (List Cell)) (hw : WR 1048576 zh rr) : PC Tryz.prog 191 [.one (.l rr)] (.one (.own false [.l 2 rr])) := by
 refine PC.begin Tryz.func191 rfl (by kernel_rfl) ?_
 have hlen := hw.1
 refine xs rfl rfl (xs rfl (nn_ _) (xs rfl (by omega) (xs rfl (by omega) ?_)))
 refine yd rfl (ι := Nat) (fun i => i ≤ rr.length) (fun i => ⟨[(4, sV (.int .i64 i)), (3, .one (.h 7 rr.length)), (0, .one (.b (.l rr)))], [(7, .arr true 2 0 (rr.take i ++ List.replicate (rr.length - i) [.s (.int .i64 0), .s (.int .i64 0)]))]⟩) (fun i => rr.length - i) 0 (Nat.zero_le _) ?_ ?_
 · repeat' (first | exact trivial | exact rfl | exact Or.inl rfl | refine And.intro ?_ ?_)
 · intro i hi J hJ
   refine xb rfl ?_ ?_ <;> intro h
   · have h : i < rr.length := by simpa using h
     obtain ⟨row, hg⟩ : ∃ row, rr[i]? = some row := ⟨_, List.getElem?_eq_getElem h⟩
     obtain ⟨x0, x1, rfl⟩ := q16 (hw.2 row (List.mem_of_getElem? hg))
     refine xs rfl (nn_ _) (y9 rfl _ hg (xs rfl rfl ?_))
     refine z7 rfl (z8d _ _) rfl ⟨tv3, trivial⟩ ?_
     refine xs rfl (yh _ _ _ _ (by omega) rfl).symm (xs rfl (nn_ _) (y9 rfl [.s (.int .i64 0), .s (.int .i64 0)] (qo _ _ _ _ (by omega) rfl) (xs rfl rfl ?_)))
     refine xs rfl (yh _ _ _ _ (by omega) rfl).symm (y9 rfl [.s (.int .i64 0), .s (.int .i64 0)] (qo _ _ _ _ (by omega) rfl) (xs rfl (by decide) (xs rfl tv3 ?_)))
     refine q9 rfl (hJ _ (i + 1) (by omega) (by omega) ?_)
     repeat' (first | exact trivial | exact rfl | exact Or.inl rfl | exact cwi (by omega) (by omega) (by omega) | refine And.intro ?_ ?_)
     exact q07 _ _ _ _ _ hg rfl
   · have h : ¬ i < rr.length := by simpa using h
     have : i = rr.length := by omega
     subst this
     refine xr rfl (qm rfl ⟨⟨rfl, ⟨(yh _ _ _ _ (by omega) rfl).symm, z06 _ _ _ rfl, Or.inl rfl⟩, trivial⟩, z6 rfl⟩)
theorem z3j (rr : List (List Cell)) (hw : WR 1048576 (.i .i64 .nil) rr) : PC Tryz.prog 192 [.one (.l rr)] (.one (.own false [.l 1 rr])) := by
 refine PC.begin Tryz.func192 rfl (by kernel_rfl) ?_
 have hlen := hw.1
 refine xs rfl rfl (xs rfl (nn_ _) (xs rfl (by omega) (xs rfl (by omega) ?_)))
 refine yd rfl (ι := Nat) (fun i => i ≤ rr.length) (fun i => ⟨[(4, sV (.int .i64 i)), (3, .one (.h 7 rr.length)), (0, .one (.b (.l rr)))], [(7, .arr true 1 0 (rr.take i ++ List.replicate (rr.length - i) [.s (.int .i64 0)]))]⟩) (fun i => rr.length - i) 0 (Nat.zero_le _) ?_ ?_
 · repeat' (first | exact trivial | exact rfl | exact Or.inl rfl | refine And.intro ?_ ?_)
 · intro i hi J hJ
   refine xb rfl ?_ ?_ <;> intro h
   · have h : i < rr.length := by simpa using h
     obtain ⟨row, hg⟩ : ∃ row, rr[i]? = some row := ⟨_, List.getElem?_eq_getElem h⟩
     obtain ⟨x0, _, rfl, hnil⟩ := ((hw.2 row (List.mem_of_getElem? hg))).qx; obtain rfl := hnil.yz
     refine xs rfl (nn_ _) (y9 rfl _ hg (xs rfl rfl ?_))
     refine xs rfl (yh _ _ _ _ (by omega) rfl).symm (xs rfl (nn_ _) (y9 rfl [.s (.int .i64 0)] (qo _ _ _ _ (by omega) rfl) (xs rfl rfl ?_)))
     refine xs rfl (yh _ _ _ _ (by omega) rfl).symm (y9 rfl [.s (.int .i64 0)] (qo _ _ _ _ (by omega) rfl) (xs rfl (by decide) (xs rfl ⟨trivial, trivial⟩ ?_)))
     refine q9 rfl (hJ _ (i + 1) (by omega) (by omega) ?_)
     repeat' (first | exact trivial | exact rfl | exact Or.inl rfl | exact cwi (by omega) (by omega) (by omega) | refine And.intro ?_ ?_)
     exact q07 _ _ _ _ _ hg rfl
   · have h : ¬ i < rr.length := by simpa using h
     have : i = rr.length := by omega
     subst this
     refine xr rfl (qm rfl ⟨⟨rfl, ⟨(yh _ _ _ _ (by omega) rfl).symm, z06 _ _ _ rfl, Or.inl rfl⟩, trivial⟩, z6 rfl⟩)
theorem q76 (x0 : Int) (x1 : List (List Cell)) (x2 : List (List Cell)) (x3 : List (List Cell)) (x4 : List (List Cell)) (x5 : List (List Cell)) (h1 : WR 1048576 ze x1) (h2 : WR 1048576 zh x2) (h3 : WR 1048576 q7 x3) (h4 : WR 1048576 zh x4) (h5 : WR 1048576 (.i .i64 .nil) x5) : PC Tryz.prog 108 [.agg [.s (.int .i64 x0), .l x1, .l x2, .l x3, .l x4, .l x5]] (.one (.own true [.s (.int .i64 x0), .l 3 x1, .l 2 x2, .l 2 x3, .l 2 x4, .l 1 x5])) := by
 refine PC.begin Tryz.func108 rfl (by kernel_rfl) ?_
 refine z7 rfl (y4o _ h1) rfl ⟨trivial, trivial⟩ (z7 rfl (y41 _ h2) rfl ⟨trivial, trivial⟩ (z7 rfl (q1t _ h3) rfl ⟨trivial, trivial⟩ (z7 rfl (y41 _ h4) rfl ⟨trivial, trivial⟩ (z7 rfl (z3j _ h5) rfl ⟨trivial, trivial⟩ ?_))))
 exact xr rfl (qm rfl ⟨⟨rfl, rfl, ⟨rfl, rfl, .inl rfl⟩, ⟨rfl, rfl, .inl rfl⟩, ⟨rfl, rfl, .inl rfl⟩, ⟨rfl, rfl, .inl rfl⟩, ⟨rfl, rfl, .inl rfl⟩, trivial⟩, z6 rfl⟩)
theorem y61 (rr : List (List Cell)) (hw : WR 1048576 zb rr) : PC Tryz.prog 46 [.one (.l rr)] (.one (.own false [.l 6 rr])) := by
 refine PC.begin Tryz.func46 rfl (by kernel_rfl) ?_
 have hlen := hw.1
 refine xs rfl rfl (xs rfl (nn_ _) (xs rfl (by omega) (xs rfl (by omega) ?_)))
 refine yd rfl (ι := Nat) (fun i => i ≤ rr.length) (fun i => ⟨[(4, sV (.int .i64 i)), (3, .one (.h 7 rr.length)), (0, .one (.b (.l rr)))], [(7, .arr true 6 0 (rr.take i ++ List.replicate (rr.length - i) [.s (.int .i64 0), .l [], .l [], .l [], .l [], .l []]))]⟩) (fun i => rr.length - i) 0 (Nat.zero_le _) ?_ ?_
 · repeat' (first | exact trivial | exact rfl | exact Or.inl rfl | refine And.intro ?_ ?_)
 · intro i hi J hJ
   refine xb rfl ?_ ?_ <;> intro h
   · have h : i < rr.length := by simpa using h
     obtain ⟨row, hg⟩ : ∃ row, rr[i]? = some row := ⟨_, List.getElem?_eq_getElem h⟩
     obtain ⟨x0, x1, x2, x3, x4, x5, rfl, h1, h2, h3, h4, h5⟩ := z0q (hw.2 row (List.mem_of_getElem? hg))
     refine xs rfl (nn_ _) (y9 rfl _ hg (xs rfl rfl ?_))
     refine z7 rfl (q76 _ _ _ _ _ _ h1 h2 h3 h4 h5) rfl ⟨tv7, trivial⟩ ?_
     refine xs rfl (yh _ _ _ _ (by omega) rfl).symm (xs rfl (nn_ _) (y9 rfl [.s (.int .i64 0), .l [], .l [], .l [], .l [], .l []] (qo _ _ _ _ (by omega) rfl) (xs rfl rfl ?_)))
     refine xs rfl (yh _ _ _ _ (by omega) rfl).symm (y9 rfl [.s (.int .i64 0), .l [], .l [], .l [], .l [], .l []] (qo _ _ _ _ (by omega) rfl) (xs rfl (by decide) (xs rfl ⟨trivial, ⟨rfl, rfl⟩, ⟨rfl, rfl⟩, ⟨rfl, rfl⟩, ⟨rfl, rfl⟩, ⟨rfl, rfl⟩, trivial⟩ ?_)))
     refine q9 rfl (hJ _ (i + 1) (by omega) (by omega) ?_)
     repeat' (first | exact trivial | exact rfl | exact Or.inl rfl | exact cwi (by omega) (by omega) (by omega) | refine And.intro ?_ ?_)
     exact q07 _ _ _ _ _ hg rfl
   · have h : ¬ i < rr.length := by simpa using h
     have : i = rr.length := by omega
     subst this
     refine xr rfl (qm rfl ⟨⟨rfl, ⟨(yh _ _ _ _ (by omega) rfl).symm, z06 _ _ _ rfl, Or.inl rfl⟩, trivial⟩, z6 rfl⟩)
theorem y3j (x0 : Int) (x1 : Int)  : PC Tryz.prog 196 [.agg [.s (.int .i64 x0), .s (.int .i64 x1)]] (.one (.own true [.s (.int .i64 x0), .s (.int .i64 x1)])) := by
 refine PC.begin Tryz.func196 rfl (by kernel_rfl) ?_
 exact xr rfl (qm rfl ⟨⟨rfl, rfl, rfl, trivial⟩, z6 rfl⟩)
theorem q41 (rr : List (List Cell)) (hw : WR 1048576 yk rr) : PC Tryz.prog 335 [.one (.l rr)] (.one (.own false [.l 2 rr])) := by
 refine PC.begin Tryz.func335 rfl (by kernel_rfl) ?_
 have hlen := hw.1
 refine xs rfl rfl (xs rfl (nn_ _) (xs rfl (by omega) (xs rfl (by omega) ?_)))
 refine yd rfl (ι := Nat) (fun i => i ≤ rr.length) (fun i => ⟨[(4, sV (.int .i64 i)), (3, .one (.h 7 rr.length)), (0, .one (.b (.l rr)))], [(7, .arr true 2 0 (rr.take i ++ List.replicate (rr.length - i) [.s (.int .i64 0), .s (.int .i64 0)]))]⟩) (fun i => rr.length - i) 0 (Nat.zero_le _) ?_ ?_
 · repeat' (first | exact trivial | exact rfl | exact Or.inl rfl | refine And.intro ?_ ?_)
 · intro i hi J hJ
   refine xb rfl ?_ ?_ <;> intro h
   · have h : i < rr.length := by simpa using h
     obtain ⟨row, hg⟩ : ∃ row, rr[i]? = some row := ⟨_, List.getElem?_eq_getElem h⟩
     obtain ⟨x0, x1, rfl⟩ := y17 (hw.2 row (List.mem_of_getElem? hg))
     refine xs rfl (nn_ _) (y9 rfl _ hg (xs rfl rfl ?_))
     refine z7 rfl (y3j _ _) rfl ⟨tv3, trivial⟩ ?_
     refine xs rfl (yh _ _ _ _ (by omega) rfl).symm (xs rfl (nn_ _) (y9 rfl [.s (.int .i64 0), .s (.int .i64 0)] (qo _ _ _ _ (by omega) rfl) (xs rfl rfl ?_)))
     refine xs rfl (yh _ _ _ _ (by omega) rfl).symm (y9 rfl [.s (.int .i64 0), .s (.int .i64 0)] (qo _ _ _ _ (by omega) rfl) (xs rfl (by decide) (xs rfl tv3 ?_)))
     refine q9 rfl (hJ _ (i + 1) (by omega) (by omega) ?_)
     repeat' (first | exact trivial | exact rfl | exact Or.inl rfl | exact cwi (by omega) (by omega) (by omega) | refine And.intro ?_ ?_)
     exact q07 _ _ _ _ _ hg rfl
   · have h : ¬ i < rr.length := by simpa using h
     have : i = rr.length := by omega
     subst this
     refine xr rfl (qm rfl ⟨⟨rfl, ⟨(yh _ _ _ _ (by omega) rfl).symm, z06 _ _ _ rfl, Or.inl rfl⟩, trivial⟩, z6 rfl⟩)
theorem y8d (x0 : Int) (x1 : Int) (x2 : Int) (x3 : Int) (x4 : Int) (x5 : List (List Cell)) (h5 : WR 1048576 yk x5) : PC Tryz.prog 259 [.agg [.s (.int .i64 x0), .s (.int .i64 x1), .s (.int .i64 x2), .s (.int .i64 x3), .s (.int .i64 x4), .l x5]] (.one (.own true [.s (.int .i64 x0), .s (.int .i64 x1), .s (.int .i64 x2), .s (.int .i64 x3), .s (.int .i64 x4), .l 2 x5])) := by
 refine PC.begin Tryz.func259 rfl (by kernel_rfl) ?_
 refine z7 rfl (y3j _ _) rfl ⟨tv3, trivial⟩ (z7 rfl (q41 _ h5) rfl ⟨trivial, trivial⟩ ?_)
 exact xr rfl (qm rfl ⟨⟨rfl, rfl, rfl, rfl, rfl, rfl, ⟨rfl, rfl, .inl rfl⟩, trivial⟩, z6 rfl⟩)
theorem z77 (rr : List (List Cell)) (hw : WR 1048576 qj rr) : PC Tryz.prog 193 [.one (.l rr)] (.one (.own false [.l 6 rr])) := by
 refine PC.begin Tryz.func193 rfl (by kernel_rfl) ?_
 have hlen := hw.1
 refine xs rfl rfl (xs rfl (nn_ _) (xs rfl (by omega) (xs rfl (by omega) ?_)))
 refine yd rfl (ι := Nat) (fun i => i ≤ rr.length) (fun i => ⟨[(4, sV (.int .i64 i)), (3, .one (.h 7 rr.length)), (0, .one (.b (.l rr)))], [(7, .arr true 6 0 (rr.take i ++ List.replicate (rr.length - i) [.s (.int .i64 0), .s (.int .i64 0), .s (.int .i64 0), .s (.int .i64 0), .s (.int .i64 0), .l []]))]⟩) (fun i => rr.length - i) 0 (Nat.zero_le _) ?_ ?_
 · repeat' (first | exact trivial | exact rfl | exact Or.inl rfl | refine And.intro ?_ ?_)
 · intro i hi J hJ
   refine xb rfl ?_ ?_ <;> intro h
   · have h : i < rr.length := by simpa using h
     obtain ⟨row, hg⟩ : ∃ row, rr[i]? = some row := ⟨_, List.getElem?_eq_getElem h⟩
     obtain ⟨x0, x1, x2, x3, x4, x5, rfl, h5⟩ := z17 (hw.2 row (List.mem_of_getElem? hg))
     refine xs rfl (nn_ _) (y9 rfl _ hg (xs rfl rfl ?_))
     refine z7 rfl (y8d _ _ _ _ _ _ h5) rfl ⟨tv7, trivial⟩ ?_
     refine xs rfl (yh _ _ _ _ (by omega) rfl).symm (xs rfl (nn_ _) (y9 rfl [.s (.int .i64 0), .s (.int .i64 0), .s (.int .i64 0), .s (.int .i64 0), .s (.int .i64 0), .l []] (qo _ _ _ _ (by omega) rfl) (xs rfl rfl ?_)))
     refine xs rfl (yh _ _ _ _ (by omega) rfl).symm (y9 rfl [.s (.int .i64 0), .s (.int .i64 0), .s (.int .i64 0), .s (.int .i64 0), .s (.int .i64 0), .l []] (qo _ _ _ _ (by omega) rfl) (xs rfl (by decide) (xs rfl ⟨trivial, trivial, trivial, trivial, trivial, ⟨rfl, rfl⟩, trivial⟩ ?_)))
     refine q9 rfl (hJ _ (i + 1) (by omega) (by omega) ?_)
     repeat' (first | exact trivial | exact rfl | exact Or.inl rfl | exact cwi (by omega) (by omega) (by omega) | refine And.intro ?_ ?_)
     exact q07 _ _ _ _ _ hg rfl
   · have h : ¬ i < rr.length := by simpa using h
     have : i = rr.length := by omega
     subst this
     refine xr rfl (qm rfl ⟨⟨rfl, ⟨(yh _ _ _ _ (by omega) rfl).symm, z06 _ _ _ rfl, Or.inl rfl⟩, trivial⟩, z6 rfl⟩)
theorem z4o (x0 : List (List Cell)) (h0 : WR 1048576 qj x0) : PC Tryz.prog 109 [.agg [.l x0]] (.one (.own true [.l 6 x0])) := by
 refine PC.begin Tryz.func109 rfl (by kernel_rfl) ?_
 refine z7 rfl (z77 _ h0) rfl ⟨trivial, trivial⟩ ?_
 exact xr rfl (qm rfl ⟨⟨rfl, ⟨rfl, rfl, .inl rfl⟩, trivial⟩, z6 rfl⟩)
theorem z3t (rr : List (List Cell)) (hw : WR 1048576 z8 rr) : PC Tryz.prog 47 [.one (.l rr)] (.one (.own false [.l 1 rr])) := by
 refine PC.begin Tryz.func47 rfl (by kernel_rfl) ?_
 have hlen := hw.1
 refine xs rfl rfl (xs rfl (nn_ _) (xs rfl (by omega) (xs rfl (by omega) ?_)))
 refine yd rfl (ι := Nat) (fun i => i ≤ rr.length) (fun i => ⟨[(4, sV (.int .i64 i)), (3, .one (.h 7 rr.length)), (0, .one (.b (.l rr)))], [(7, .arr true 1 0 (rr.take i ++ List.replicate (rr.length - i) [.l []]))]⟩) (fun i => rr.length - i) 0 (Nat.zero_le _) ?_ ?_
 · repeat' (first | exact trivial | exact rfl | exact Or.inl rfl | refine And.intro ?_ ?_)
 · intro i hi J hJ
   refine xb rfl ?_ ?_ <;> intro h
   · have h : i < rr.length := by simpa using h
     obtain ⟨row, hg⟩ : ∃ row, rr[i]? = some row := ⟨_, List.getElem?_eq_getElem h⟩
     obtain ⟨x0, rfl, h0⟩ := q04 (hw.2 row (List.mem_of_getElem? hg))
     refine xs rfl (nn_ _) (y9 rfl _ hg (xs rfl rfl ?_))
     refine z7 rfl (z4o _ h0) rfl ⟨⟨trivial, trivial⟩, trivial⟩ ?_
     refine xs rfl (yh _ _ _ _ (by omega) rfl).symm (xs rfl (nn_ _) (y9 rfl [.l []] (qo _ _ _ _ (by omega) rfl) (xs rfl rfl ?_)))
     refine xs rfl (yh _ _ _ _ (by omega) rfl).symm (y9 rfl [.l []] (qo _ _ _ _ (by omega) rfl) (xs rfl (by decide) (xs rfl ⟨⟨rfl, rfl⟩, trivial⟩ ?_)))
     refine q9 rfl (hJ _ (i + 1) (by omega) (by omega) ?_)
     repeat' (first | exact trivial | exact rfl | exact Or.inl rfl | exact cwi (by omega) (by omega) (by omega) | refine And.intro ?_ ?_)
     exact q07 _ _ _ _ _ hg rfl
   · have h : ¬ i < rr.length := by simpa using h
     have : i = rr.length := by omega
     subst this
     refine xr rfl (qm rfl ⟨⟨rfl, ⟨(yh _ _ _ _ (by omega) rfl).symm, z06 _ _ _ rfl, Or.inl rfl⟩, trivial⟩, z6 rfl⟩)
theorem z94 (x0 : Int) (x1 : Int) (x2 : Int) (x3 : Int) (x4 : List (List Cell)) (x5 : List (List Cell)) (h4 : WR 1048576 (.i .i64 .nil) x4) (h5 : WR 1048576 yk x5) : PC Tryz.prog 260 [.agg [.s (.int .i64 x0), .s (.int .i64 x1), .s (.int .i64 x2), .s (.int .i64 x3), .l x4, .l x5]] (.one (.own true [.s (.int .i64 x0), .s (.int .i64 x1), .s (.int .i64 x2), .s (.int .i64 x3), .l 1 x4, .l 2 x5])) := by
 refine PC.begin Tryz.func260 rfl (by kernel_rfl) ?_
 refine z7 rfl (z3j _ h4) rfl ⟨trivial, trivial⟩ (z7 rfl (q41 _ h5) rfl ⟨trivial, trivial⟩ ?_)
 exact xr rfl (qm rfl ⟨⟨rfl, rfl, rfl, rfl, rfl, ⟨rfl, rfl, .inl rfl⟩, ⟨rfl, rfl, .inl rfl⟩, trivial⟩, z6 rfl⟩)
theorem q8d (rr : List (List Cell)) (hw : WR 1048576 zp rr) : PC Tryz.prog 194 [.one (.l rr)] (.one (.own false [.l 6 rr])) := by
 refine PC.begin Tryz.func194 rfl (by kernel_rfl) ?_
 have hlen := hw.1
 refine xs rfl rfl (xs rfl (nn_ _) (xs rfl (by omega) (xs rfl (by omega) ?_)))
 refine yd rfl (ι := Nat) (fun i => i ≤ rr.length) (fun i => ⟨[(4, sV (.int .i64 i)), (3, .one (.h 7 rr.length)), (0, .one (.b (.l rr)))], [(7, .arr true 6 0 (rr.take i ++ List.replicate (rr.length - i) [.s (.int .i64 0), .s (.int .i64 0), .s (.int .i64 0), .s (.int .i64 0), .l [], .l []]))]⟩) (fun i => rr.length - i) 0 (Nat.zero_le _) ?_ ?_
 · repeat' (first | exact trivial | exact rfl | exact Or.inl rfl | refine And.intro ?_ ?_)
 · intro i hi J hJ
   refine xb rfl ?_ ?_ <;> intro h
   · have h : i < rr.length := by simpa using h
     obtain ⟨row, hg⟩ : ∃ row, rr[i]? = some row := ⟨_, List.getElem?_eq_getElem h⟩
     obtain ⟨x0, x1, x2, x3, x4, x5, rfl, h4, h5⟩ := y1x (hw.2 row (List.mem_of_getElem? hg))
     refine xs rfl (nn_ _) (y9 rfl _ hg (xs rfl rfl ?_))
     refine z7 rfl (z94 _ _ _ _ _ _ h4 h5) rfl ⟨tv7, trivial⟩ ?_
     refine xs rfl (yh _ _ _ _ (by omega) rfl).symm (xs rfl (nn_ _) (y9 rfl [.s (.int .i64 0), .s (.int .i64 0), .s (.int .i64 0), .s (.int .i64 0), .l [], .l []] (qo _ _ _ _ (by omega) rfl) (xs rfl rfl ?_)))
     refine xs rfl (yh _ _ _ _ (by omega) rfl).symm (y9 rfl [.s (.int .i64 0), .s (.int .i64 0), .s (.int .i64 0), .s (.int .i64 0), .l [], .l []] (qo _ _ _ _ (by omega) rfl) (xs rfl (by decide) (xs rfl ⟨trivial, trivial, trivial, trivial, ⟨rfl, rfl⟩, ⟨rfl, rfl⟩, trivial⟩ ?_)))
     refine q9 rfl (hJ _ (i + 1) (by omega) (by omega) ?_)
     repeat' (first | exact trivial | exact rfl | exact Or.inl rfl | exact cwi (by omega) (by omega) (by omega) | refine And.intro ?_ ?_)
     exact q07 _ _ _ _ _ hg rfl
   · have h : ¬ i < rr.length := by simpa using h
     have : i = rr.length := by omega
     subst this
     refine xr rfl (qm rfl ⟨⟨rfl, ⟨(yh _ _ _ _ (by omega) rfl).symm, z06 _ _ _ rfl, Or.inl rfl⟩, trivial⟩, z6 rfl⟩)
theorem y76 (x0 : Int) (x1 : Int) (x2 : Int) (x3 : Int) (x4 : Int)  : PC Tryz.prog 261 [.agg [.s (.int .i64 x0), .s (.int .i64 x1), .s (.int .i64 x2), .s (.int .i64 x3), .s (.int .i64 x4)]] (.one (.own true [.s (.int .i64 x0), .s (.int .i64 x1), .s (.int .i64 x2), .s (.int .i64 x3), .s (.int .i64 x4)])) := by
 refine PC.begin Tryz.func261 rfl (by kernel_rfl) ?_
 exact xr rfl (qm rfl ⟨⟨rfl, rfl, rfl, rfl, rfl, rfl, trivial⟩, z6 rfl⟩)
theorem y60 (rr : List (List Cell)) (hw : WR 1048576 zm rr) : PC Tryz.prog 195 [.one (.l rr)] (.one (.own false [.l 5 rr])) := by
 refine PC.begin Tryz.func195 rfl (by kernel_rfl) ?_
 have hlen := hw.1
 refine xs rfl rfl (xs rfl (nn_ _) (xs rfl (by omega) (xs rfl (by omega) ?_)))
 refine yd rfl (ι := Nat) (fun i => i ≤ rr.length) (fun i => ⟨[(4, sV (.int .i64 i)), (3, .one (.h 7 rr.length)), (0, .one (.b (.l rr)))], [(7, .arr true 5 0 (rr.take i ++ List.replicate (rr.length - i) [.s (.int .i64 0), .s (.int .i64 0), .s (.int .i64 0), .s (.int .i64 0), .s (.int .i64 0)]))]⟩) (fun i => rr.length - i) 0 (Nat.zero_le _) ?_ ?_
 · repeat' (first | exact trivial | exact rfl | exact Or.inl rfl | refine And.intro ?_ ?_)
 · intro i hi J hJ
   refine xb rfl ?_ ?_ <;> intro h
   · have h : i < rr.length := by simpa using h
     obtain ⟨row, hg⟩ : ∃ row, rr[i]? = some row := ⟨_, List.getElem?_eq_getElem h⟩
     obtain ⟨x0, x1, x2, x3, x4, rfl⟩ := q0p (hw.2 row (List.mem_of_getElem? hg))
     refine xs rfl (nn_ _) (y9 rfl _ hg (xs rfl rfl ?_))
     refine z7 rfl (y76 _ _ _ _ _) rfl ⟨tv6, trivial⟩ ?_
     refine xs rfl (yh _ _ _ _ (by omega) rfl).symm (xs rfl (nn_ _) (y9 rfl [.s (.int .i64 0), .s (.int .i64 0), .s (.int .i64 0), .s (.int .i64 0), .s (.int .i64 0)] (qo _ _ _ _ (by omega) rfl) (xs rfl rfl ?_)))
     refine xs rfl (yh _ _ _ _ (by omega) rfl).symm (y9 rfl [.s (.int .i64 0), .s (.int .i64 0), .s (.int .i64 0), .s (.int .i64 0), .s (.int .i64 0)] (qo _ _ _ _ (by omega) rfl) (xs rfl (by decide) (xs rfl tv6 ?_)))
     refine q9 rfl (hJ _ (i + 1) (by omega) (by omega) ?_)
     repeat' (first | exact trivial | exact rfl | exact Or.inl rfl | exact cwi (by omega) (by omega) (by omega) | refine And.intro ?_ ?_)
     exact q07 _ _ _ _ _ hg rfl
   · have h : ¬ i < rr.length := by simpa using h
     have : i = rr.length := by omega
     subst this
     refine xr rfl (qm rfl ⟨⟨rfl, ⟨(yh _ _ _ _ (by omega) rfl).symm, z06 _ _ _ rfl, Or.inl rfl⟩, trivial⟩, z6 rfl⟩)
theorem q60 (x0 : Int) (x1 : List (List Cell)) (x2 : List (List Cell)) (h1 : WR 1048576 zp x1) (h2 : WR 1048576 zm x2) : PC Tryz.prog 110 [.agg [.s (.int .i64 x0), .l x1, .l x2]] (.one (.own true [.s (.int .i64 x0), .l 6 x1, .l 5 x2])) := by
 refine PC.begin Tryz.func110 rfl (by kernel_rfl) ?_
 refine z7 rfl (q8d _ h1) rfl ⟨trivial, trivial⟩ (z7 rfl (y60 _ h2) rfl ⟨trivial, trivial⟩ ?_)
 exact xr rfl (qm rfl ⟨⟨rfl, rfl, ⟨rfl, rfl, .inl rfl⟩, ⟨rfl, rfl, .inl rfl⟩, trivial⟩, z6 rfl⟩)
theorem z5d (rr : List (List Cell)) (hw : WR 1048576 qa rr) : PC Tryz.prog 48 [.one (.l rr)] (.one (.own false [.l 3 rr])) := by
 refine PC.begin Tryz.func48 rfl (by kernel_rfl) ?_
 have hlen := hw.1
 refine xs rfl rfl (xs rfl (nn_ _) (xs rfl (by omega) (xs rfl (by omega) ?_)))
 refine yd rfl (ι := Nat) (fun i => i ≤ rr.length) (fun i => ⟨[(4, sV (.int .i64 i)), (3, .one (.h 7 rr.length)), (0, .one (.b (.l rr)))], [(7, .arr true 3 0 (rr.take i ++ List.replicate (rr.length - i) [.s (.int .i64 0), .l [], .l []]))]⟩) (fun i => rr.length - i) 0 (Nat.zero_le _) ?_ ?_
 · repeat' (first | exact trivial | exact rfl | exact Or.inl rfl | refine And.intro ?_ ?_)
 · intro i hi J hJ
   refine xb rfl ?_ ?_ <;> intro h
   · have h : i < rr.length := by simpa using h
     obtain ⟨row, hg⟩ : ∃ row, rr[i]? = some row := ⟨_, List.getElem?_eq_getElem h⟩
     obtain ⟨x0, x1, x2, rfl, h1, h2⟩ := q0e (hw.2 row (List.mem_of_getElem? hg))
     refine xs rfl (nn_ _) (y9 rfl _ hg (xs rfl rfl ?_))
     refine z7 rfl (q60 _ _ _ h1 h2) rfl ⟨tv4, trivial⟩ ?_
     refine xs rfl (yh _ _ _ _ (by omega) rfl).symm (xs rfl (nn_ _) (y9 rfl [.s (.int .i64 0), .l [], .l []] (qo _ _ _ _ (by omega) rfl) (xs rfl rfl ?_)))
     refine xs rfl (yh _ _ _ _ (by omega) rfl).symm (y9 rfl [.s (.int .i64 0), .l [], .l []] (qo _ _ _ _ (by omega) rfl) (xs rfl (by decide) (xs rfl ⟨trivial, ⟨rfl, rfl⟩, ⟨rfl, rfl⟩, trivial⟩ ?_)))
     refine q9 rfl (hJ _ (i + 1) (by omega) (by omega) ?_)
     repeat' (first | exact trivial | exact rfl | exact Or.inl rfl | exact cwi (by omega) (by omega) (by omega) | refine And.intro ?_ ?_)
     exact q07 _ _ _ _ _ hg rfl
   · have h : ¬ i < rr.length := by simpa using h
     have : i = rr.length := by omega
     subst this
     refine xr rfl (qm rfl ⟨⟨rfl, ⟨(yh _ _ _ _ (by omega) rfl).symm, z06 _ _ _ rfl, Or.inl rfl⟩, trivial⟩, z6 rfl⟩)
theorem y5d (x0 : Int) (x1 : Int) (x2 : Int) (x3 : Int) (x4 : Int) (x5 : Int) (x6 : Int) (x7 : Int) (x8 : Int)  : PC Tryz.prog 111 [.agg [.s (.int .i64 x0), .s (.int .i64 x1), .s (.int .i64 x2), .s (.int .i64 x3), .s (.int .i64 x4), .s (.int .i64 x5), .s (.int .i64 x6), .s (.int .i64 x7), .s (.int .i64 x8)]] (.one (.own true [.s (.int .i64 x0), .s (.int .i64 x1), .s (.int .i64 x2), .s (.int .i64 x3), .s (.int .i64 x4), .s (.int .i64 x5), .s (.int .i64 x6), .s (.int .i64 x7), .s (.int .i64 x8)])) := by
 refine PC.begin Tryz.func111 rfl (by kernel_rfl) ?_
 refine z7 rfl (y3j _ _) rfl ⟨tv3, trivial⟩ ?_
 exact xr rfl (qm rfl ⟨⟨rfl, rfl, rfl, rfl, rfl, rfl, rfl, rfl, rfl, rfl, trivial⟩, z6 rfl⟩)
theorem z4p (rr : List (List Cell)) (hw : WR 1048576 qb rr) : PC Tryz.prog 49 [.one (.l rr)] (.one (.own false [.l 9 rr])) := by
 refine PC.begin Tryz.func49 rfl (by kernel_rfl) ?_
 have hlen := hw.1
 refine xs rfl rfl (xs rfl (nn_ _) (xs rfl (by omega) (xs rfl (by omega) ?_)))
 refine yd rfl (ι := Nat) (fun i => i ≤ rr.length) (fun i => ⟨[(4, sV (.int .i64 i)), (3, .one (.h 7 rr.length)), (0, .one (.b (.l rr)))], [(7, .arr true 9 0 (rr.take i ++ List.replicate (rr.length - i) [.s (.int .i64 0), .s (.int .i64 0), .s (.int .i64 0), .s (.int .i64 0), .s (.int .i64 0), .s (.int .i64 0), .s (.int .i64 0), .s (.int .i64 0), .s (.int .i64 0)]))]⟩) (fun i => rr.length - i) 0 (Nat.zero_le _) ?_ ?_
 · repeat' (first | exact trivial | exact rfl | exact Or.inl rfl | refine And.intro ?_ ?_)
 · intro i hi J hJ
   refine xb rfl ?_ ?_ <;> intro h
   · have h : i < rr.length := by simpa using h
     obtain ⟨row, hg⟩ : ∃ row, rr[i]? = some row := ⟨_, List.getElem?_eq_getElem h⟩
     obtain ⟨x0, x1, x2, x3, x4, x5, x6, x7, x8, rfl⟩ := z0a (hw.2 row (List.mem_of_getElem? hg))
     refine xs rfl (nn_ _) (y9 rfl _ hg (xs rfl rfl ?_))
     refine z7 rfl (y5d _ _ _ _ _ _ _ _ _) rfl ⟨tv10, trivial⟩ ?_
     refine xs rfl (yh _ _ _ _ (by omega) rfl).symm (xs rfl (nn_ _) (y9 rfl [.s (.int .i64 0), .s (.int .i64 0), .s (.int .i64 0), .s (.int .i64 0), .s (.int .i64 0), .s (.int .i64 0), .s (.int .i64 0), .s (.int .i64 0), .s (.int .i64 0)] (qo _ _ _ _ (by omega) rfl) (xs rfl rfl ?_)))
     refine xs rfl (yh _ _ _ _ (by omega) rfl).symm (y9 rfl [.s (.int .i64 0), .s (.int .i64 0), .s (.int .i64 0), .s (.int .i64 0), .s (.int .i64 0), .s (.int .i64 0), .s (.int .i64 0), .s (.int .i64 0), .s (.int .i64 0)] (qo _ _ _ _ (by omega) rfl) (xs rfl (by decide) (xs rfl tv10 ?_)))
     refine q9 rfl (hJ _ (i + 1) (by omega) (by omega) ?_)
     repeat' (first | exact trivial | exact rfl | exact Or.inl rfl | exact cwi (by omega) (by omega) (by omega) | refine And.intro ?_ ?_)
     exact q07 _ _ _ _ _ hg rfl
   · have h : ¬ i < rr.length := by simpa using h
     have : i = rr.length := by omega
     subst this
     refine xr rfl (qm rfl ⟨⟨rfl, ⟨(yh _ _ _ _ (by omega) rfl).symm, z06 _ _ _ rfl, Or.inl rfl⟩, trivial⟩, z6 rfl⟩)
theorem q5c (x0 : List (List Cell)) (x1 : List (List Cell)) (x2 : List (List Cell)) (x3 : List (List Cell)) (x4 : List (List Cell)) (h0 : WR 1048576 q7 x0) (h1 : WR 1048576 zb x1) (h2 : WR 1048576 z8 x2) (h3 : WR 1048576 qa x3) (h4 : WR 1048576 qb x4) : PC Tryz.prog 13 [.agg [.l x0, .l x1, .l x2, .l x3, .l x4]] (.one (.own true [.l 2 x0, .l 6 x1, .l 1 x2, .l 3 x3, .l 9 x4])) := by
 refine PC.begin Tryz.func13 rfl (by kernel_rfl) ?_
 refine z7 rfl (q1t _ h0) rfl ⟨trivial, trivial⟩ (z7 rfl (y61 _ h1) rfl ⟨trivial, trivial⟩ (z7 rfl (z3t _ h2) rfl ⟨trivial, trivial⟩ (z7 rfl (z5d _ h3) rfl ⟨trivial, trivial⟩ (z7 rfl (z4p _ h4) rfl ⟨trivial, trivial⟩ ?_))))
 exact xr rfl (qm rfl ⟨⟨rfl, ⟨rfl, rfl, .inl rfl⟩, ⟨rfl, rfl, .inl rfl⟩, ⟨rfl, rfl, .inl rfl⟩, ⟨rfl, rfl, .inl rfl⟩, ⟨rfl, rfl, .inl rfl⟩, trivial⟩, z6 rfl⟩)
theorem y8b (rr : List (List Cell)) (b : Int) (hw : WR 9223372036854775807 qw rr) (p0 : 0 ≤ b) (p1 : b ≤ 1048576) : PC Tryz.prog 169 [.one (.l rr), .one (.s (.int .i64 b))] (rI (szn b (ym qw rr))) := by
 refine PC.begin Tryz.func169 rfl (by kernel_rfl) ?_
 have hlen := hw.1
 have w1 : IntKind.i64.wrap (b - rr.length) = b - rr.length := wrap_i64 (by omega) (by omega)
 rw [y0s (fun row hr => by obtain ⟨x0, x1, x2, x3, rfl⟩ := z1x hr; rfl) hw]
 refine xb rfl ?_ ?_ <;> intro h
 · simp only [w1, decide_eq_true_eq] at h
   exact xv rfl rfl rfl (by show Value.int _ _ = Value.int _ _; rw [szn, if_pos h])
 · simp only [w1, decide_eq_false_iff_not] at h
   exact xv rfl rfl rfl (by show Value.int .i64 (IntKind.i64.wrap (b - rr.length)) = Value.int _ _; rw [szn, if_neg h, w1])
theorem y4n (x0 : Int) (x1 : List (List Cell)) (b : Int) (h1 : WR 9223372036854775807 qw x1) (hb0 : 0 ≤ b) (hb1 : b ≤ 1048576) : PC Tryz.prog 94 [.agg [.s (.int .i64 x0), .l x1], .one (.s (.int .i64 b))] (rI (szn b (tot q7 [.s (.int .i64 x0), .l x1]))) := by
 refine PC.begin Tryz.func94 rfl (by kernel_rfl) ?_
 have ht : tot q7 [.s (.int .i64 x0), .l x1] = ym qw x1 := by simp only [tot, ym] <;> omega
 refine z7 rfl (y8b x1 b h1 hb0 hb1) rfl tv3 ?_
 refine xb rfl (fun h => ?_) (fun e0 => ?_)
 · have h : szn b (ym qw x1) < 0 := by simpa using h
   exact xv rfl rfl rfl (by show Value.int _ _ = Value.int _ _; congr 1; rw [ht]; unfold szn at *; split at h <;> rw [if_pos] <;> omega)
 have e0 : 0 ≤ szn b (ym qw x1) := by simpa using e0
 exact xv rfl rfl rfl (by show Value.int _ _ = Value.int _ _; rw [ht])
theorem y1t (rr : List (List Cell)) (b : Int) (hw : WR 9223372036854775807 q7 rr) (p0 : 0 ≤ b) (p1 : b ≤ 1048576) : PC Tryz.prog 33 [.one (.l rr), .one (.s (.int .i64 b))] (rI (szn b (ym q7 rr))) := by
 refine PC.begin Tryz.func33 rfl (by kernel_rfl) ?_
 have hlen := hw.1
 have w1 : IntKind.i64.wrap (b - rr.length) = b - rr.length := wrap_i64 (by omega) (by omega)
 refine xb rfl ?_ ?_ <;> intro h
 · simp only [w1, decide_eq_true_eq] at h
   exact xv rfl rfl rfl (by show Value.int _ _ = Value.int _ _; unfold szn ym; rw [if_pos (by omega)])
 simp only [w1, decide_eq_false_iff_not] at h
 have hs : szn b rr.length = b - rr.length := by unfold szn; rw [if_neg h]
 refine yd rfl (ι := Nat) (fun i => i ≤ rr.length ∧ 0 ≤ szn b (rr.length + y00 (tot q7) (rr.take i))) (fun i => ⟨[(5, sV (.int .i64 i)), (1, sV (.int .i64 (szn b (rr.length + y00 (tot q7) (rr.take i))))), (0, .one (.b (.l rr)))], []⟩) (fun i => rr.length - i) 0 ⟨Nat.zero_le _, by simp only [List.take_zero, y00, Nat.add_zero, hs]; omega⟩ ?_ ?_
 · refine ⟨⟨rfl, ?_, rfl, trivial⟩, trivial, rfl⟩
   show Cell.s (.int .i64 (IntKind.i64.wrap (b - rr.length))) = Cell.s (.int .i64 (szn b (rr.length + 0)))
   rw [w1, Nat.add_zero, hs]
 · intro i ⟨hi, hb⟩ J hJ
   refine xb rfl ?_ ?_ <;> intro h
   · have h : i < rr.length := by simpa using h
     obtain ⟨row, hg⟩ : ∃ row, rr[i]? = some row := ⟨_, List.getElem?_eq_getElem h⟩
     have hc := q0y (f := tot q7) hg
     have hc2 := y0o (tot q7) rr (i + 1)
     obtain ⟨x0, x1, rfl, h1⟩ := y05 (hw.2 row (List.mem_of_getElem? hg))
     refine xs rfl (nn_ _) (y9 rfl _ hg (xs rfl rfl ?_))
     refine z7 rfl (y4n _ _ _ h1 hb (y0l p1 p0)) rfl ⟨tv3, trivial, trivial⟩ ?_
     refine xb rfl ?_ ?_ <;> intro hn
     · have hn : szn (szn b (rr.length + y00 (tot q7) (rr.take i))) (tot q7 [.s (.int .i64 x0), .l x1]) < 0 := by simpa using hn
       rw [zj hb] at hn
       exact xv rfl rfl rfl (by show Value.int _ _ = Value.int _ _; congr 1; unfold szn ym at *; split at hn <;> rw [if_pos] <;> omega)
     · have hn : ¬ szn (szn b (rr.length + y00 (tot q7) (rr.take i))) (tot q7 [.s (.int .i64 x0), .l x1]) < 0 := by simpa using hn
       have he := zj (n := tot q7 [.s (.int .i64 x0), .l x1]) hb
       rw [he] at hn
       rw [Nat.add_assoc, ← hc] at he hn
       refine q9 rfl (hJ _ (i + 1) ⟨by omega, by omega⟩ (by omega) ?_)
       refine ⟨⟨cwi (by omega) (by omega) (by omega), ?_, rfl, trivial⟩, trivial, rfl⟩
       exact congrArg (fun n => Cell.s (.int .i64 n)) he
   · have h : ¬ i < rr.length := by simpa using h
     have : i = rr.length := by omega
     subst this
     exact xv rfl rfl rfl (by show Value.int _ _ = Value.int _ _; rw [List.take_length]; rfl)
theorem z4n (rr : List (List Cell)) (b : Int) (hw : WR 9223372036854775807 ze rr) (p0 : 0 ≤ b) (p1 : b ≤ 1048576) : PC Tryz.prog 93 [.one (.l rr), .one (.s (.int .i64 b))] (rI (szn b (ym ze rr))) := by
 refine PC.begin Tryz.func93 rfl (by kernel_rfl) ?_
 have hlen := hw.1
 have w1 : IntKind.i64.wrap (b - rr.length) = b - rr.length := wrap_i64 (by omega) (by omega)
 rw [y0s (fun row hr => by obtain ⟨x0, x1, x2, rfl⟩ := q09 hr; rfl) hw]
 refine xb rfl ?_ ?_ <;> intro h
 · simp only [w1, decide_eq_true_eq] at h
   exact xv rfl rfl rfl (by show Value.int _ _ = Value.int _ _; rw [szn, if_pos h])
 · simp only [w1, decide_eq_false_iff_not] at h
   exact xv rfl rfl rfl (by show Value.int .i64 (IntKind.i64.wrap (b - rr.length)) = Value.int _ _; rw [szn, if_neg h, w1])
theorem y40 (rr : List (List Cell)) (b : Int) (hw : WR 9223372036854775807 zh rr) (p0 : 0 ≤ b) (p1 : b ≤ 1048576) : PC Tryz.prog 170 [.one (.l rr), .one (.s (.int .i64 b))] (rI (szn b (ym zh rr))) := by
 refine PC.begin Tryz.func170 rfl (by kernel_rfl) ?_
 have hlen := hw.1
 have w1 : IntKind.i64.wrap (b - rr.length) = b - rr.length := wrap_i64 (by omega) (by omega)
 rw [y0s (fun row hr => by obtain ⟨x0, x1, rfl⟩ := q16 hr; rfl) hw]
 refine xb rfl ?_ ?_ <;> intro h
 · simp only [w1, decide_eq_true_eq] at h
   exact xv rfl rfl rfl (by show Value.int _ _ = Value.int _ _; rw [szn, if_pos h])
 · simp only [w1, decide_eq_false_iff_not] at h
   exact xv rfl rfl rfl (by show Value.int .i64 (IntKind.i64.wrap (b - rr.length)) = Value.int _ _; rw [szn, if_neg h, w1])
theorem y3i (rr : List (List Cell)) (b : Int) (hw : WR 9223372036854775807 (.i .i64 .nil) rr) (p0 : 0 ≤ b) (p1 : b ≤ 1048576) : PC Tryz.prog 171 [.one (.l rr), .one (.s (.int .i64 b))] (rI (szn b (ym (.i .i64 .nil) rr))) := by
 refine PC.begin Tryz.func171 rfl (by kernel_rfl) ?_
 have hlen := hw.1
 have w1 : IntKind.i64.wrap (b - rr.length) = b - rr.length := wrap_i64 (by omega) (by omega)
 rw [y0s (fun row hr => by obtain ⟨x0, _, rfl, hnil⟩ := (hr).qx; obtain rfl := hnil.yz; rfl) hw]
 refine xb rfl ?_ ?_ <;> intro h
 · simp only [w1, decide_eq_true_eq] at h
   exact xv rfl rfl rfl (by show Value.int _ _ = Value.int _ _; rw [szn, if_pos h])
 · simp only [w1, decide_eq_false_iff_not] at h
   exact xv rfl rfl rfl (by show Value.int .i64 (IntKind.i64.wrap (b - rr.length)) = Value.int _ _; rw [szn, if_neg h, w1])
theorem q75 (x0 : Int) (x1 : List (List Cell)) (x2 : List (List Cell)) (x3 : List (List Cell)) (x4 : List (List Cell)) (x5 : List (List Cell)) (b : Int) (h1 : WR 9223372036854775807 ze x1) (h2 : WR 9223372036854775807 zh x2) (h3 : WR 9223372036854775807 q7 x3) (h4 : WR 9223372036854775807 zh x4) (h5 : WR 9223372036854775807 (.i .i64 .nil) x5) (hb0 : 0 ≤ b) (hb1 : b ≤ 1048576) : PC Tryz.prog 95 [.agg [.s (.int .i64 x0), .l x1, .l x2, .l x3, .l x4, .l x5], .one (.s (.int .i64 b))] (rI (szn b (tot zb [.s (.int .i64 x0), .l x1, .l x2, .l x3, .l x4, .l x5]))) := by
 refine PC.begin Tryz.func95 rfl (by kernel_rfl) ?_
 have ht : tot zb [.s (.int .i64 x0), .l x1, .l x2, .l x3, .l x4, .l x5] = ym ze x1 + ym zh x2 + ym q7 x3 + ym zh x4 + ym (.i .i64 .nil) x5 := by simp only [tot, ym] <;> omega
 refine z7 rfl (z4n x1 b h1 hb0 hb1) rfl tv3 ?_
 refine xb rfl (fun h => ?_) (fun e0 => ?_)
 · have h : szn b (ym ze x1) < 0 := by simpa using h
   exact xv rfl rfl rfl (by show Value.int _ _ = Value.int _ _; congr 1; rw [ht]; unfold szn at *; split at h <;> rw [if_pos] <;> omega)
 have e0 : 0 ≤ szn b (ym ze x1) := by simpa using e0
 refine z7 rfl (y40 x2 (szn b (ym ze x1)) h2 e0 (y0l hb1 hb0)) rfl tv3 ?_
 refine xb rfl (fun h => ?_) (fun e1 => ?_)
 · have h : szn (szn b (ym ze x1)) (ym zh x2) < 0 := by simpa using h
   rw [zj e0] at h
   exact xv rfl rfl rfl (by show Value.int _ _ = Value.int _ _; congr 1; rw [ht]; unfold szn at *; split at h <;> rw [if_pos] <;> omega)
 have e1 : 0 ≤ szn b (ym ze x1 + ym zh x2) := by rw [← zj e0]; simpa using e1
 rw [zj e0]
 refine z7 rfl (y1t x3 (szn b (ym ze x1 + ym zh x2)) h3 e1 (y0l hb1 hb0)) rfl tv3 ?_
 refine xb rfl (fun h => ?_) (fun e2 => ?_)
 · have h : szn (szn b (ym ze x1 + ym zh x2)) (ym q7 x3) < 0 := by simpa using h
   rw [zj e1] at h
   exact xv rfl rfl rfl (by show Value.int _ _ = Value.int _ _; congr 1; rw [ht]; unfold szn at *; split at h <;> rw [if_pos] <;> omega)
 have e2 : 0 ≤ szn b (ym ze x1 + ym zh x2 + ym q7 x3) := by rw [← zj e1]; simpa using e2
 rw [zj e1]
 refine z7 rfl (y40 x4 (szn b (ym ze x1 + ym zh x2 + ym q7 x3)) h4 e2 (y0l hb1 hb0)) rfl tv3 ?_
 refine xb rfl (fun h => ?_) (fun e3 => ?_)
 · have h : szn (szn b (ym ze x1 + ym zh x2 + ym q7 x3)) (ym zh x4) < 0 := by simpa using h
   rw [zj e2] at h
   exact xv rfl rfl rfl (by show Value.int _ _ = Value.int _ _; congr 1; rw [ht]; unfold szn at *; split at h <;> rw [if_pos] <;> omega)
 have e3 : 0 ≤ szn b (ym ze x1 + ym zh x2 + ym q7 x3 + ym zh x4) := by rw [← zj e2]; simpa using e3
 rw [zj e2]
 refine z7 rfl (y3i x5 (szn b (ym ze x1 + ym zh x2 + ym q7 x3 + ym zh x4)) h5 e3 (y0l hb1 hb0)) rfl tv3 ?_
 refine xb rfl (fun h => ?_) (fun e4 => ?_)
 · have h : szn (szn b (ym ze x1 + ym zh x2 + ym q7 x3 + ym zh x4)) (ym (.i .i64 .nil) x5) < 0 := by simpa using h
   rw [zj e3] at h
   exact xv rfl rfl rfl (by show Value.int _ _ = Value.int _ _; congr 1; rw [ht]; unfold szn at *; split at h <;> rw [if_pos] <;> omega)
 have e4 : 0 ≤ szn b (ym ze x1 + ym zh x2 + ym q7 x3 + ym zh x4 + ym (.i .i64 .nil) x5) := by rw [← zj e3]; simpa using e4
 rw [zj e3]
 exact xv rfl rfl rfl (by show Value.int _ _ = Value.int _ _; rw [ht])
theorem q5z (rr : List (List Cell)) (b : Int) (hw : WR 9223372036854775807 zb rr) (p0 : 0 ≤ b) (p1 : b ≤ 1048576) : PC Tryz.prog 34 [.one (.l rr), .one (.s (.int .i64 b))] (rI (szn b (ym zb rr))) := by
 refine PC.begin Tryz.func34 rfl (by kernel_rfl) ?_
 have hlen := hw.1
 have w1 : IntKind.i64.wrap (b - rr.length) = b - rr.length := wrap_i64 (by omega) (by omega)
 refine xb rfl ?_ ?_ <;> intro h
 · simp only [w1, decide_eq_true_eq] at h
   exact xv rfl rfl rfl (by show Value.int _ _ = Value.int _ _; unfold szn ym; rw [if_pos (by omega)])
 simp only [w1, decide_eq_false_iff_not] at h
 have hs : szn b rr.length = b - rr.length := by unfold szn; rw [if_neg h]
 refine yd rfl (ι := Nat) (fun i => i ≤ rr.length ∧ 0 ≤ szn b (rr.length + y00 (tot zb) (rr.take i))) (fun i => ⟨[(5, sV (.int .i64 i)), (1, sV (.int .i64 (szn b (rr.length + y00 (tot zb) (rr.take i))))), (0, .one (.b (.l rr)))], []⟩) (fun i => rr.length - i) 0 ⟨Nat.zero_le _, by simp only [List.take_zero, y00, Nat.add_zero, hs]; omega⟩ ?_ ?_
 · refine ⟨⟨rfl, ?_, rfl, trivial⟩, trivial, rfl⟩
   show Cell.s (.int .i64 (IntKind.i64.wrap (b - rr.length))) = Cell.s (.int .i64 (szn b (rr.length + 0)))
   rw [w1, Nat.add_zero, hs]
 · intro i ⟨hi, hb⟩ J hJ
   refine xb rfl ?_ ?_ <;> intro h
   · have h : i < rr.length := by simpa using h
     obtain ⟨row, hg⟩ : ∃ row, rr[i]? = some row := ⟨_, List.getElem?_eq_getElem h⟩
     have hc := q0y (f := tot zb) hg
     have hc2 := y0o (tot zb) rr (i + 1)
     obtain ⟨x0, x1, x2, x3, x4, x5, rfl, h1, h2, h3, h4, h5⟩ := z0q (hw.2 row (List.mem_of_getElem? hg))
     refine xs rfl (nn_ _) (y9 rfl _ hg (xs rfl rfl ?_))
     refine z7 rfl (q75 _ _ _ _ _ _ _ h1 h2 h3 h4 h5 hb (y0l p1 p0)) rfl ⟨tv7, trivial, trivial⟩ ?_
     refine xb rfl ?_ ?_ <;> intro hn
     · have hn : szn (szn b (rr.length + y00 (tot zb) (rr.take i))) (tot zb [.s (.int .i64 x0), .l x1, .l x2, .l x3, .l x4, .l x5]) < 0 := by simpa using hn
       rw [zj hb] at hn
       exact xv rfl rfl rfl (by show Value.int _ _ = Value.int _ _; congr 1; unfold szn ym at *; split at hn <;> rw [if_pos] <;> omega)
     · have hn : ¬ szn (szn b (rr.length + y00 (tot zb) (rr.take i))) (tot zb [.s (.int .i64 x0), .l x1, .l x2, .l x3, .l x4, .l x5]) < 0 := by simpa using hn
       have he := zj (n := tot zb [.s (.int .i64 x0), .l x1, .l x2, .l x3, .l x4, .l x5]) hb
       rw [he] at hn
       rw [Nat.add_assoc, ← hc] at he hn
       refine q9 rfl (hJ _ (i + 1) ⟨by omega, by omega⟩ (by omega) ?_)
       refine ⟨⟨cwi (by omega) (by omega) (by omega), ?_, rfl, trivial⟩, trivial, rfl⟩
       exact congrArg (fun n => Cell.s (.int .i64 n)) he
   · have h : ¬ i < rr.length := by simpa using h
     have : i = rr.length := by omega
     subst this
     exact xv rfl rfl rfl (by show Value.int _ _ = Value.int _ _; rw [List.take_length]; rfl)
theorem q40 (rr : List (List Cell)) (b : Int) (hw : WR 9223372036854775807 yk rr) (p0 : 0 ≤ b) (p1 : b ≤ 1048576) : PC Tryz.prog 330 [.one (.l rr), .one (.s (.int .i64 b))] (rI (szn b (ym yk rr))) := by
 refine PC.begin Tryz.func330 rfl (by kernel_rfl) ?_
 have hlen := hw.1
 have w1 : IntKind.i64.wrap (b - rr.length) = b - rr.length := wrap_i64 (by omega) (by omega)
 rw [y0s (fun row hr => by obtain ⟨x0, x1, rfl⟩ := y17 hr; rfl) hw]
 refine xb rfl ?_ ?_ <;> intro h
 · simp only [w1, decide_eq_true_eq] at h
   exact xv rfl rfl rfl (by show Value.int _ _ = Value.int _ _; rw [szn, if_pos h])
 · simp only [w1, decide_eq_false_iff_not] at h
   exact xv rfl rfl rfl (by show Value.int .i64 (IntKind.i64.wrap (b - rr.length)) = Value.int _ _; rw [szn, if_neg h, w1])
theorem q8b (x0 : Int) (x1 : Int) (x2 : Int) (x3 : Int) (x4 : Int) (x5 : List (List Cell)) (b : Int) (h5 : WR 9223372036854775807 yk x5) (hb0 : 0 ≤ b) (hb1 : b ≤ 1048576) : PC Tryz.prog 248 [.agg [.s (.int .i64 x0), .s (.int .i64 x1), .s (.int .i64 x2), .s (.int .i64 x3), .s (.int .i64 x4), .l x5], .one (.s (.int .i64 b))] (rI (szn b (tot qj [.s (.int .i64 x0), .s (.int .i64 x1), .s (.int .i64 x2), .s (.int .i64 x3), .s (.int .i64 x4), .l x5]))) := by
 refine PC.begin Tryz.func248 rfl (by kernel_rfl) ?_
 have ht : tot qj [.s (.int .i64 x0), .s (.int .i64 x1), .s (.int .i64 x2), .s (.int .i64 x3), .s (.int .i64 x4), .l x5] = ym yk x5 := by simp only [tot, ym] <;> omega
 refine z7 rfl (q40 x5 b h5 hb0 hb1) rfl tv3 ?_
 refine xb rfl (fun h => ?_) (fun e0 => ?_)
 · have h : szn b (ym yk x5) < 0 := by simpa using h
   exact xv rfl rfl rfl (by show Value.int _ _ = Value.int _ _; congr 1; rw [ht]; unfold szn at *; split at h <;> rw [if_pos] <;> omega)
 have e0 : 0 ≤ szn b (ym yk x5) := by simpa using e0
 exact xv rfl rfl rfl (by show Value.int _ _ = Value.int _ _; rw [ht])
theorem z76 (rr : List (List Cell)) (b : Int) (hw : WR 9223372036854775807 qj rr) (p0 : 0 ≤ b) (p1 : b ≤ 1048576) : PC Tryz.prog 172 [.one (.l rr), .one (.s (.int .i64 b))] (rI (szn b (ym qj rr))) := by
 refine PC.begin Tryz.func172 rfl (by kernel_rfl) ?_
 have hlen := hw.1
 have w1 : IntKind.i64.wrap (b - rr.length) = b - rr.length := wrap_i64 (by omega) (by omega)
 refine xb rfl ?_ ?_ <;> intro h
 · simp only [w1, decide_eq_true_eq] at h
   exact xv rfl rfl rfl (by show Value.int _ _ = Value.int _ _; unfold szn ym; rw [if_pos (by omega)])
 simp only [w1, decide_eq_false_iff_not] at h
 have hs : szn b rr.length = b - rr.length := by unfold szn; rw [if_neg h]
 refine yd rfl (ι := Nat) (fun i => i ≤ rr.length ∧ 0 ≤ szn b (rr.length + y00 (tot qj) (rr.take i))) (fun i => ⟨[(5, sV (.int .i64 i)), (1, sV (.int .i64 (szn b (rr.length + y00 (tot qj) (rr.take i))))), (0, .one (.b (.l rr)))], []⟩) (fun i => rr.length - i) 0 ⟨Nat.zero_le _, by simp only [List.take_zero, y00, Nat.add_zero, hs]; omega⟩ ?_ ?_
 · refine ⟨⟨rfl, ?_, rfl, trivial⟩, trivial, rfl⟩
   show Cell.s (.int .i64 (IntKind.i64.wrap (b - rr.length))) = Cell.s (.int .i64 (szn b (rr.length + 0)))
   rw [w1, Nat.add_zero, hs]
 · intro i ⟨hi, hb⟩ J hJ
   refine xb rfl ?_ ?_ <;> intro h
   · have h : i < rr.length := by simpa using h
     obtain ⟨row, hg⟩ : ∃ row, rr[i]? = some row := ⟨_, List.getElem?_eq_getElem h⟩
     have hc := q0y (f := tot qj) hg
     have hc2 := y0o (tot qj) rr (i + 1)
     obtain ⟨x0, x1, x2, x3, x4, x5, rfl, h5⟩ := z17 (hw.2 row (List.mem_of_getElem? hg))
     refine xs rfl (nn_ _) (y9 rfl _ hg (xs rfl rfl ?_))
     refine z7 rfl (q8b _ _ _ _ _ _ _ h5 hb (y0l p1 p0)) rfl ⟨tv7, trivial, trivial⟩ ?_
     refine xb rfl ?_ ?_ <;> intro hn
     · have hn : szn (szn b (rr.length + y00 (tot qj) (rr.take i))) (tot qj [.s (.int .i64 x0), .s (.int .i64 x1), .s (.int .i64 x2), .s (.int .i64 x3), .s (.int .i64 x4), .l x5]) < 0 := by simpa using hn
       rw [zj hb] at hn
       exact xv rfl rfl rfl (by show Value.int _ _ = Value.int _ _; congr 1; unfold szn ym at *; split at hn <;> rw [if_pos] <;> omega)
     · have hn : ¬ szn (szn b (rr.length + y00 (tot qj) (rr.take i))) (tot qj [.s (.int .i64 x0), .s (.int .i64 x1), .s (.int .i64 x2), .s (.int .i64 x3), .s (.int .i64 x4), .l x5]) < 0 := by simpa using hn
       have he := zj (n := tot qj [.s (.int .i64 x0), .s (.int .i64 x1), .s (.int .i64 x2), .s (.int .i64 x3), .s (.int .i64 x4), .l x5]) hb
       rw [he] at hn
       rw [Nat.add_assoc, ← hc] at he hn
       refine q9 rfl (hJ _ (i + 1) ⟨by omega, by omega⟩ (by omega) ?_)
       refine ⟨⟨cwi (by omega) (by omega) (by omega), ?_, rfl, trivial⟩, trivial, rfl⟩
       exact congrArg (fun n => Cell.s (.int .i64 n)) he
   · have h : ¬ i < rr.length := by simpa using h
     have : i = rr.length := by omega
     subst this
     exact xv rfl rfl rfl (by show Value.int _ _ = Value.int _ _; rw [List.take_length]; rfl)
theorem q4m (x0 : List (List Cell)) (b : Int) (h0 : WR 9223372036854775807 qj x0) (hb0 : 0 ≤ b) (hb1 : b ≤ 1048576) : PC Tryz.prog 96 [.agg [.l x0], .one (.s (.int .i64 b))] (rI (szn b (tot z8 [.l x0]))) := by
 refine PC.begin Tryz.func96 rfl (by kernel_rfl) ?_
 have ht : tot z8 [.l x0] = ym qj x0 := by simp only [tot, ym] <;> omega
 refine z7 rfl (z76 x0 b h0 hb0 hb1) rfl tv3 ?_
 refine xb rfl (fun h => ?_) (fun e0 => ?_)
 · have h : szn b (ym qj x0) < 0 := by simpa using h
   exact xv rfl rfl rfl (by show Value.int _ _ = Value.int _ _; congr 1; rw [ht]; unfold szn at *; split at h <;> rw [if_pos] <;> omega)
 have e0 : 0 ≤ szn b (ym qj x0) := by simpa using e0
 exact xv rfl rfl rfl (by show Value.int _ _ = Value.int _ _; rw [ht])
theorem q3s (rr : List (List Cell)) (b : Int) (hw : WR 9223372036854775807 z8 rr) (p0 : 0 ≤ b) (p1 : b ≤ 1048576) : PC Tryz.prog 35 [.one (.l rr), .one (.s (.int .i64 b))] (rI (szn b (ym z8 rr))) := by
 refine PC.begin Tryz.func35 rfl (by kernel_rfl) ?_
 have hlen := hw.1
 have w1 : IntKind.i64.wrap (b - rr.length) = b - rr.length := wrap_i64 (by omega) (by omega)
 refine xb rfl ?_ ?_ <;> intro h
 · simp only [w1, decide_eq_true_eq] at h
   exact xv rfl rfl rfl (by show Value.int _ _ = Value.int _ _; unfold szn ym; rw [if_pos (by omega)])
 simp only [w1, decide_eq_false_iff_not] at h
 have hs : szn b rr.length = b - rr.length := by unfold szn; rw [if_neg h]
 refine yd rfl (ι := Nat) (fun i => i ≤ rr.length ∧ 0 ≤ szn b (rr.length + y00 (tot z8) (rr.take i))) (fun i => ⟨[(5, sV (.int .i64 i)), (1, sV (.int .i64 (szn b (rr.length + y00 (tot z8) (rr.take i))))), (0, .one (.b (.l rr)))], []⟩) (fun i => rr.length - i) 0 ⟨Nat.zero_le _, by simp only [List.take_zero, y00, Nat.add_zero, hs]; omega⟩ ?_ ?_
 · refine ⟨⟨rfl, ?_, rfl, trivial⟩, trivial, rfl⟩
   show Cell.s (.int .i64 (IntKind.i64.wrap (b - rr.length))) = Cell.s (.int .i64 (szn b (rr.length + 0)))
   rw [w1, Nat.add_zero, hs]
 · intro i ⟨hi, hb⟩ J hJ
   refine xb rfl ?_ ?_ <;> intro h
   · have h : i < rr.length := by simpa using h
     obtain ⟨row, hg⟩ : ∃ row, rr[i]? = some row := ⟨_, List.getElem?_eq_getElem h⟩
     have hc := q0y (f := tot z8) hg
     have hc2 := y0o (tot z8) rr (i + 1)
     obtain ⟨x0, rfl, h0⟩ := q04 (hw.2 row (List.mem_of_getElem? hg))
     refine xs rfl (nn_ _) (y9 rfl _ hg (xs rfl rfl ?_))
     refine z7 rfl (q4m _ _ h0 hb (y0l p1 p0)) rfl ⟨⟨trivial, trivial⟩, trivial, trivial⟩ ?_
     refine xb rfl ?_ ?_ <;> intro hn
     · have hn : szn (szn b (rr.length + y00 (tot z8) (rr.take i))) (tot z8 [.l x0]) < 0 := by simpa using hn
       rw [zj hb] at hn
       exact xv rfl rfl rfl (by show Value.int _ _ = Value.int _ _; congr 1; unfold szn ym at *; split at hn <;> rw [if_pos] <;> omega)
     · have hn : ¬ szn (szn b (rr.length + y00 (tot z8) (rr.take i))) (tot z8 [.l x0]) < 0 := by simpa using hn
       have he := zj (n := tot z8 [.l x0]) hb
       rw [he] at hn
       rw [Nat.add_assoc, ← hc] at he hn
       refine q9 rfl (hJ _ (i + 1) ⟨by omega, by omega⟩ (by omega) ?_)
       refine ⟨⟨cwi (by omega) (by omega) (by omega), ?_, rfl, trivial⟩, trivial, rfl⟩
       exact congrArg (fun n => Cell.s (.int .i64 n)) he
   · have h : ¬ i < rr.length := by simpa using h
     have : i = rr.length := by omega
     subst this
     exact xv rfl rfl rfl (by show Value.int _ _ = Value.int _ _; rw [List.take_length]; rfl)
theorem y93 (x0 : Int) (x1 : Int) (x2 : Int) (x3 : Int) (x4 : List (List Cell)) (x5 : List (List Cell)) (b : Int) (h4 : WR 9223372036854775807 (.i .i64 .nil) x4) (h5 : WR 9223372036854775807 yk x5) (hb0 : 0 ≤ b) (hb1 : b ≤ 1048576) : PC Tryz.prog 249 [.agg [.s (.int .i64 x0), .s (.int .i64 x1), .s (.int .i64 x2), .s (.int .i64 x3), .l x4, .l x5], .one (.s (.int .i64 b))] (rI (szn b (tot zp [.s (.int .i64 x0), .s (.int .i64 x1), .s (.int .i64 x2), .s (.int .i64 x3), .l x4, .l x5]))) := by
 refine PC.begin Tryz.func249 rfl (by kernel_rfl) ?_
 have ht : tot zp [.s (.int .i64 x0), .s (.int .i64 x1), .s (.int .i64 x2), .s (.int .i64 x3), .l x4, .l x5] = ym (.i .i64 .nil) x4 + ym yk x5 := by simp only [tot, ym] <;> omega
 refine z7 rfl (y3i x4 b h4 hb0 hb1) rfl tv3 ?_
 refine xb rfl (fun h => ?_) (fun e0 => ?_)
 · have h : szn b (ym (.i .i64 .nil) x4) < 0 := by simpa using h
   exact xv rfl rfl rfl (by show Value.int _ _ = Value.int _ _; congr 1; rw [ht]; unfold szn at *; split at h <;> rw [if_pos] <;> omega)
 have e0 : 0 ≤ szn b (ym (.i .i64 .nil) x4) := by simpa using e0
 refine z7 rfl (q40 x5 (szn b (ym (.i .i64 .nil) x4)) h5 e0 (y0l hb1 hb0)) rfl tv3 ?_
 refine xb rfl (fun h => ?_) (fun e1 => ?_)
 · have h : szn (szn b (ym (.i .i64 .nil) x4)) (ym yk x5) < 0 := by simpa using h
   rw [zj e0] at h
   exact xv rfl rfl rfl (by show Value.int _ _ = Value.int _ _; congr 1; rw [ht]; unfold szn at *; split at h <;> rw [if_pos] <;> omega)
 have e1 : 0 ≤ szn b (ym (.i .i64 .nil) x4 + ym yk x5) := by rw [← zj e0]; simpa using e1
 rw [zj e0]
 exact xv rfl rfl rfl (by show Value.int _ _ = Value.int _ _; rw [ht])
theorem z8c (rr : List (List Cell)) (b : Int) (hw : WR 9223372036854775807 zp rr) (p0 : 0 ≤ b) (p1 : b ≤ 1048576) : PC Tryz.prog 173 [.one (.l rr), .one (.s (.int .i64 b))] (rI (szn b (ym zp rr))) := by
 refine PC.begin Tryz.func173 rfl (by kernel_rfl) ?_
 have hlen := hw.1
 have w1 : IntKind.i64.wrap (b - rr.length) = b - rr.length := wrap_i64 (by omega) (by omega)
 refine xb rfl ?_ ?_ <;> intro h
 · simp only [w1, decide_eq_true_eq] at h
   exact xv rfl rfl rfl (by show Value.int _ _ = Value.int _ _; unfold szn ym; rw [if_pos (by omega)])
 simp only [w1, decide_eq_false_iff_not] at h
 have hs : szn b rr.length = b - rr.length := by unfold szn; rw [if_neg h]
 refine yd rfl (ι := Nat) (fun i => i ≤ rr.length ∧ 0 ≤ szn b (rr.length + y00 (tot zp) (rr.take i))) (fun i => ⟨[(5, sV (.int .i64 i)), (1, sV (.int .i64 (szn b (rr.length + y00 (tot zp) (rr.take i))))), (0, .one (.b (.l rr)))], []⟩) (fun i => rr.length - i) 0 ⟨Nat.zero_le _, by simp only [List.take_zero, y00, Nat.add_zero, hs]; omega⟩ ?_ ?_
 · refine ⟨⟨rfl, ?_, rfl, trivial⟩, trivial, rfl⟩
   show Cell.s (.int .i64 (IntKind.i64.wrap (b - rr.length))) = Cell.s (.int .i64 (szn b (rr.length + 0)))
   rw [w1, Nat.add_zero, hs]
 · intro i ⟨hi, hb⟩ J hJ
   refine xb rfl ?_ ?_ <;> intro h
   · have h : i < rr.length := by simpa using h
     obtain ⟨row, hg⟩ : ∃ row, rr[i]? = some row := ⟨_, List.getElem?_eq_getElem h⟩
     have hc := q0y (f := tot zp) hg
     have hc2 := y0o (tot zp) rr (i + 1)
     obtain ⟨x0, x1, x2, x3, x4, x5, rfl, h4, h5⟩ := y1x (hw.2 row (List.mem_of_getElem? hg))
     refine xs rfl (nn_ _) (y9 rfl _ hg (xs rfl rfl ?_))
     refine z7 rfl (y93 _ _ _ _ _ _ _ h4 h5 hb (y0l p1 p0)) rfl ⟨tv7, trivial, trivial⟩ ?_
     refine xb rfl ?_ ?_ <;> intro hn
     · have hn : szn (szn b (rr.length + y00 (tot zp) (rr.take i))) (tot zp [.s (.int .i64 x0), .s (.int .i64 x1), .s (.int .i64 x2), .s (.int .i64 x3), .l x4, .l x5]) < 0 := by simpa using hn
       rw [zj hb] at hn
       exact xv rfl rfl rfl (by show Value.int _ _ = Value.int _ _; congr 1; unfold szn ym at *; split at hn <;> rw [if_pos] <;> omega)
     · have hn : ¬ szn (szn b (rr.length + y00 (tot zp) (rr.take i))) (tot zp [.s (.int .i64 x0), .s (.int .i64 x1), .s (.int .i64 x2), .s (.int .i64 x3), .l x4, .l x5]) < 0 := by simpa using hn
       have he := zj (n := tot zp [.s (.int .i64 x0), .s (.int .i64 x1), .s (.int .i64 x2), .s (.int .i64 x3), .l x4, .l x5]) hb
       rw [he] at hn
       rw [Nat.add_assoc, ← hc] at he hn
       refine q9 rfl (hJ _ (i + 1) ⟨by omega, by omega⟩ (by omega) ?_)
       refine ⟨⟨cwi (by omega) (by omega) (by omega), ?_, rfl, trivial⟩, trivial, rfl⟩
       exact congrArg (fun n => Cell.s (.int .i64 n)) he
   · have h : ¬ i < rr.length := by simpa using h
     have : i = rr.length := by omega
     subst this
     exact xv rfl rfl rfl (by show Value.int _ _ = Value.int _ _; rw [List.take_length]; rfl)
theorem z5z (rr : List (List Cell)) (b : Int) (hw : WR 9223372036854775807 zm rr) (p0 : 0 ≤ b) (p1 : b ≤ 1048576) : PC Tryz.prog 174 [.one (.l rr), .one (.s (.int .i64 b))] (rI (szn b (ym zm rr))) := by
 refine PC.begin Tryz.func174 rfl (by kernel_rfl) ?_
 have hlen := hw.1
 have w1 : IntKind.i64.wrap (b - rr.length) = b - rr.length := wrap_i64 (by omega) (by omega)
 rw [y0s (fun row hr => by obtain ⟨x0, x1, x2, x3, x4, rfl⟩ := q0p hr; rfl) hw]
 refine xb rfl ?_ ?_ <;> intro h
 · simp only [w1, decide_eq_true_eq] at h
   exact xv rfl rfl rfl (by show Value.int _ _ = Value.int _ _; rw [szn, if_pos h])
 · simp only [w1, decide_eq_false_iff_not] at h
   exact xv rfl rfl rfl (by show Value.int .i64 (IntKind.i64.wrap (b - rr.length)) = Value.int _ _; rw [szn, if_neg h, w1])
theorem y5z (x0 : Int) (x1 : List (List Cell)) (x2 : List (List Cell)) (b : Int) (h1 : WR 9223372036854775807 zp x1) (h2 : WR 9223372036854775807 zm x2) (hb0 : 0 ≤ b) (hb1 : b ≤ 1048576) : PC Tryz.prog 97 [.agg [.s (.int .i64 x0), .l x1, .l x2], .one (.s (.int .i64 b))] (rI (szn b (tot qa [.s (.int .i64 x0), .l x1, .l x2]))) := by
 refine PC.begin Tryz.func97 rfl (by kernel_rfl) ?_
 have ht : tot qa [.s (.int .i64 x0), .l x1, .l x2] = ym zp x1 + ym zm x2 := by simp only [tot, ym] <;> omega
 refine z7 rfl (z8c x1 b h1 hb0 hb1) rfl tv3 ?_
 refine xb rfl (fun h => ?_) (fun e0 => ?_)
 · have h : szn b (ym zp x1) < 0 := by simpa using h
   exact xv rfl rfl rfl (by show Value.int _ _ = Value.int _ _; congr 1; rw [ht]; unfold szn at *; split at h <;> rw [if_pos] <;> omega)
 have e0 : 0 ≤ szn b (ym zp x1) := by simpa using e0
 refine z7 rfl (z5z x2 (szn b (ym zp x1)) h2 e0 (y0l hb1 hb0)) rfl tv3 ?_
 refine xb rfl (fun h => ?_) (fun e1 => ?_)
 · have h : szn (szn b (ym zp x1)) (ym zm x2) < 0 := by simpa using h
   rw [zj e0] at h
   exact xv rfl rfl rfl (by show Value.int _ _ = Value.int _ _; congr 1; rw [ht]; unfold szn at *; split at h <;> rw [if_pos] <;> omega)
 have e1 : 0 ≤ szn b (ym zp x1 + ym zm x2) := by rw [← zj e0]; simpa using e1
 rw [zj e0]
 exact xv rfl rfl rfl (by show Value.int _ _ = Value.int _ _; rw [ht])
theorem z5c (rr : List (List Cell)) (b : Int) (hw : WR 9223372036854775807 qa rr) (p0 : 0 ≤ b) (p1 : b ≤ 1048576) : PC Tryz.prog 36 [.one (.l rr), .one (.s (.int .i64 b))] (rI (szn b (ym qa rr))) := by
 refine PC.begin Tryz.func36 rfl (by kernel_rfl) ?_
 have hlen := hw.1
 have w1 : IntKind.i64.wrap (b - rr.length) = b - rr.length := wrap_i64 (by omega) (by omega)
 refine xb rfl ?_ ?_ <;> intro h
 · simp only [w1, decide_eq_true_eq] at h
   exact xv rfl rfl rfl (by show Value.int _ _ = Value.int _ _; unfold szn ym; rw [if_pos (by omega)])
 simp only [w1, decide_eq_false_iff_not] at h
 have hs : szn b rr.length = b - rr.length := by unfold szn; rw [if_neg h]
 refine yd rfl (ι := Nat) (fun i => i ≤ rr.length ∧ 0 ≤ szn b (rr.length + y00 (tot qa) (rr.take i))) (fun i => ⟨[(5, sV (.int .i64 i)), (1, sV (.int .i64 (szn b (rr.length + y00 (tot qa) (rr.take i))))), (0, .one (.b (.l rr)))], []⟩) (fun i => rr.length - i) 0 ⟨Nat.zero_le _, by simp only [List.take_zero, y00, Nat.add_zero, hs]; omega⟩ ?_ ?_
 · refine ⟨⟨rfl, ?_, rfl, trivial⟩, trivial, rfl⟩
   show Cell.s (.int .i64 (IntKind.i64.wrap (b - rr.length))) = Cell.s (.int .i64 (szn b (rr.length + 0)))
   rw [w1, Nat.add_zero, hs]
 · intro i ⟨hi, hb⟩ J hJ
   refine xb rfl ?_ ?_ <;> intro h
   · have h : i < rr.length := by simpa using h
     obtain ⟨row, hg⟩ : ∃ row, rr[i]? = some row := ⟨_, List.getElem?_eq_getElem h⟩
     have hc := q0y (f := tot qa) hg
     have hc2 := y0o (tot qa) rr (i + 1)
     obtain ⟨x0, x1, x2, rfl, h1, h2⟩ := q0e (hw.2 row (List.mem_of_getElem? hg))
     refine xs rfl (nn_ _) (y9 rfl _ hg (xs rfl rfl ?_))
     refine z7 rfl (y5z _ _ _ _ h1 h2 hb (y0l p1 p0)) rfl ⟨tv4, trivial, trivial⟩ ?_
     refine xb rfl ?_ ?_ <;> intro hn
     · have hn : szn (szn b (rr.length + y00 (tot qa) (rr.take i))) (tot qa [.s (.int .i64 x0), .l x1, .l x2]) < 0 := by simpa using hn
       rw [zj hb] at hn
       exact xv rfl rfl rfl (by show Value.int _ _ = Value.int _ _; congr 1; unfold szn ym at *; split at hn <;> rw [if_pos] <;> omega)
     · have hn : ¬ szn (szn b (rr.length + y00 (tot qa) (rr.take i))) (tot qa [.s (.int .i64 x0), .l x1, .l x2]) < 0 := by simpa using hn
       have he := zj (n := tot qa [.s (.int .i64 x0), .l x1, .l x2]) hb
       rw [he] at hn
       rw [Nat.add_assoc, ← hc] at he hn
       refine q9 rfl (hJ _ (i + 1) ⟨by omega, by omega⟩ (by omega) ?_)
       refine ⟨⟨cwi (by omega) (by omega) (by omega), ?_, rfl, trivial⟩, trivial, rfl⟩
       exact congrArg (fun n => Cell.s (.int .i64 n)) he
   · have h : ¬ i < rr.length := by simpa using h
     have : i = rr.length := by omega
     subst this
     exact xv rfl rfl rfl (by show Value.int _ _ = Value.int _ _; rw [List.take_length]; rfl)
theorem q4n (rr : List (List Cell)) (b : Int) (hw : WR 9223372036854775807 qb rr) (p0 : 0 ≤ b) (p1 : b ≤ 1048576) : PC Tryz.prog 37 [.one (.l rr), .one (.s (.int .i64 b))] (rI (szn b (ym qb rr))) := by
 refine PC.begin Tryz.func37 rfl (by kernel_rfl) ?_
 have hlen := hw.1
 have w1 : IntKind.i64.wrap (b - rr.length) = b - rr.length := wrap_i64 (by omega) (by omega)
 rw [y0s (fun row hr => by obtain ⟨x0, x1, x2, x3, x4, x5, x6, x7, x8, rfl⟩ := z0a hr; rfl) hw]
 refine xb rfl ?_ ?_ <;> intro h
 · simp only [w1, decide_eq_true_eq] at h
   exact xv rfl rfl rfl (by show Value.int _ _ = Value.int _ _; rw [szn, if_pos h])
 · simp only [w1, decide_eq_false_iff_not] at h
   exact xv rfl rfl rfl (by show Value.int .i64 (IntKind.i64.wrap (b - rr.length)) = Value.int _ _; rw [szn, if_neg h, w1])
theorem q5b (x0 : List (List Cell)) (x1 : List (List Cell)) (x2 : List (List Cell)) (x3 : List (List Cell)) (x4 : List (List Cell)) (b : Int) (h0 : WR 9223372036854775807 q7 x0) (h1 : WR 9223372036854775807 zb x1) (h2 : WR 9223372036854775807 z8 x2) (h3 : WR 9223372036854775807 qa x3) (h4 : WR 9223372036854775807 qb x4) (hb0 : 0 ≤ b) (hb1 : b ≤ 1048576) : PC Tryz.prog 10 [.agg [.l x0, .l x1, .l x2, .l x3, .l x4], .one (.s (.int .i64 b))] (rI (szn b (tot yb [.l x0, .l x1, .l x2, .l x3, .l x4]))) := by
 refine PC.begin Tryz.func10 rfl (by kernel_rfl) ?_
 have ht : tot yb [.l x0, .l x1, .l x2, .l x3, .l x4] = ym q7 x0 + ym zb x1 + ym z8 x2 + ym qa x3 + ym qb x4 := by simp only [tot, ym] <;> omega
 refine z7 rfl (y1t x0 b h0 hb0 hb1) rfl tv3 ?_
 refine xb rfl (fun h => ?_) (fun e0 => ?_)
 · have h : szn b (ym q7 x0) < 0 := by simpa using h
   exact xv rfl rfl rfl (by show Value.int _ _ = Value.int _ _; congr 1; rw [ht]; unfold szn at *; split at h <;> rw [if_pos] <;> omega)
 have e0 : 0 ≤ szn b (ym q7 x0) := by simpa using e0
 refine z7 rfl (q5z x1 (szn b (ym q7 x0)) h1 e0 (y0l hb1 hb0)) rfl tv3 ?_
 refine xb rfl (fun h => ?_) (fun e1 => ?_)
 · have h : szn (szn b (ym q7 x0)) (ym zb x1) < 0 := by simpa using h
   rw [zj e0] at h
   exact xv rfl rfl rfl (by show Value.int _ _ = Value.int _ _; congr 1; rw [ht]; unfold szn at *; split at h <;> rw [if_pos] <;> omega)
 have e1 : 0 ≤ szn b (ym q7 x0 + ym zb x1) := by rw [← zj e0]; simpa using e1
 rw [zj e0]
 refine z7 rfl (q3s x2 (szn b (ym q7 x0 + ym zb x1)) h2 e1 (y0l hb1 hb0)) rfl tv3 ?_
 refine xb rfl (fun h => ?_) (fun e2 => ?_)
 · have h : szn (szn b (ym q7 x0 + ym zb x1)) (ym z8 x2) < 0 := by simpa using h
   rw [zj e1] at h
   exact xv rfl rfl rfl (by show Value.int _ _ = Value.int _ _; congr 1; rw [ht]; unfold szn at *; split at h <;> rw [if_pos] <;> omega)
 have e2 : 0 ≤ szn b (ym q7 x0 + ym zb x1 + ym z8 x2) := by rw [← zj e1]; simpa using e2
 rw [zj e1]
 refine z7 rfl (z5c x3 (szn b (ym q7 x0 + ym zb x1 + ym z8 x2)) h3 e2 (y0l hb1 hb0)) rfl tv3 ?_
 refine xb rfl (fun h => ?_) (fun e3 => ?_)
 · have h : szn (szn b (ym q7 x0 + ym zb x1 + ym z8 x2)) (ym qa x3) < 0 := by simpa using h
   rw [zj e2] at h
   exact xv rfl rfl rfl (by show Value.int _ _ = Value.int _ _; congr 1; rw [ht]; unfold szn at *; split at h <;> rw [if_pos] <;> omega)
 have e3 : 0 ≤ szn b (ym q7 x0 + ym zb x1 + ym z8 x2 + ym qa x3) := by rw [← zj e2]; simpa using e3
 rw [zj e2]
 refine z7 rfl (q4n x4 (szn b (ym q7 x0 + ym zb x1 + ym z8 x2 + ym qa x3)) h4 e3 (y0l hb1 hb0)) rfl tv3 ?_
 refine xb rfl (fun h => ?_) (fun e4 => ?_)
 · have h : szn (szn b (ym q7 x0 + ym zb x1 + ym z8 x2 + ym qa x3)) (ym qb x4) < 0 := by simpa using h
   rw [zj e3] at h
   exact xv rfl rfl rfl (by show Value.int _ _ = Value.int _ _; congr 1; rw [ht]; unfold szn at *; split at h <;> rw [if_pos] <;> omega)
 have e4 : 0 ≤ szn b (ym q7 x0 + ym zb x1 + ym z8 x2 + ym qa x3 + ym qb x4) := by rw [← zj e3]; simpa using e4
 rw [zj e3]
 exact xv rfl rfl rfl (by show Value.int _ _ = Value.int _ _; rw [ht])
end Go.Proofs.YtbnbjaedijbnpaaGreat
end
section
namespace Go.Proofs.YtbnbjaedijbnpaaGreat
open Go Go.Sx
set_option maxRecDepth 20000
set_option maxHeartbeats 4000000
theorem yal (x0 x1 x2 x3 x4 : List (List Cell)) (hw : WT 9223372036854775807 yb [.l x0, .l x1, .l x2, .l x3, .l x4]) (b : Nat) (hb : b ≤ 1048576) :
 PC Tryz.prog 10 [.agg [.l x0, .l x1, .l x2, .l x3, .l x4], .one (i64 b)] (rI (-1)) ∨ ∃ c : Clu, x0 = c.cons.map Con.cs ∧ x1 = c.shs.map Shd.cs ∧ x2 = c.accs.map Acc.cs ∧ x3 = c.ldrs.map Ldr.cs ∧ x4 = c.msgs.map Msg.cs ∧ q00 c ∧ (WT 1048576 yb c.cs ∧ tot yb c.cs ≤ b) ∧
  (∃ n : Nat, n ≤ b ∧ PC Tryz.prog 10 [.agg c.cs, .one (i64 b)] (rI n)) ∧ PC Tryz.prog 13 [.agg c.cs] (.one (.own true [.l 2 (c.cons.map Con.cs), .l 6 (c.shs.map Shd.cs), .l 1 (c.accs.map Acc.cs), .l 3 (c.ldrs.map Ldr.cs), .l 9 (c.msgs.map Msg.cs)])) ∧
  PC Tryz.prog 16 [.agg c.cs, .agg c.cs] (rB true) := by
 obtain ⟨_, _, _, _, _, e, k0, k1, k2, k3, k4⟩ := z05 hw
 cases e
 have hsz := q5b x0 x1 x2 x3 x4 b k0 k1 k2 k3 k4 (by omega) (by omega)
 by_cases ht : tot yb [.l x0, .l x1, .l x2, .l x3, .l x4] ≤ b
 · right
   have hs : szn b (tot yb [.l x0, .l x1, .l x2, .l x3, .l x4]) = ((b - tot yb [.l x0, .l x1, .l x2, .l x3, .l x4] : Nat) : Int) := by
    unfold szn; rw [if_neg (by omega)]; omega
   rw [hs] at hsz
   have hwt := yay hw (Nat.le_trans ht hb)
   obtain ⟨_, _, _, _, _, e, m0, m1, m2, m3, m4⟩ := z05 hwt
   cases e
   obtain ⟨c, ec, ho⟩ := z4v _ hwt
   have up : ∀ {e : Sh} {r : List (List Cell)}, WR 1048576 e r → WR 9000000000000000000 e r := fun h => h.mono (by omega)
   have heq := y2k x0 x1 x2 x3 x4 x0 x1 x2 x3 x4 (up m0) (up m1) (up m2) (up m3) (up m4) (up m0) (up m1) (up m2) (up m3) (up m4)
   rw [show dE (α := List Cell) [.l x0, .l x1, .l x2, .l x3, .l x4] [.l x0, .l x1, .l x2, .l x3, .l x4] = true from (Value.bool.inj (yx rfl)).symm] at heq
   have hto := q5c x0 x1 x2 x3 x4 m0 m1 m2 m3 m4
   simp only [Clu.cs, List.cons.injEq, Cell.l.injEq, and_true] at ec
   obtain ⟨rfl, rfl, rfl, rfl, rfl⟩ := ec
   exact ⟨c, rfl, rfl, rfl, rfl, rfl, ho, ⟨hwt, ht⟩, ⟨_, Nat.sub_le _ _, hsz⟩, hto, heq⟩
 · left
   have hs : szn b (tot yb [.l x0, .l x1, .l x2, .l x3, .l x4]) = -1 := by
    unfold szn; rw [if_pos (by omega)]
   rw [hs] at hsz
   exact hsz
theorem q8m (c : Clu) (h : WT 1048576 yb c.cs ∧ tot yb c.cs ≤ 1048576) : ∃ (k : Int) (r0 r1 r2 r3 r4 : List (List Cell)), 0 ≤ k ∧
 PG Tryz.prog 25 [.agg [.giv true 2 (c.cons.map Con.cs), .giv true 6 (c.shs.map Shd.cs), .giv true 1 (c.accs.map Acc.cs), .giv true 3 (c.ldrs.map Ldr.cs), .giv true 9 (c.msgs.map Msg.cs)], .one (.bor (i64 1))] (rI k) [(0, r0), (1, r1), (2, r2), (3, r3), (4, r4)] := by
 obtain ⟨h, ht⟩ := h
 obtain ⟨_, _, _, _, _, e, m0, m1, m2, m3, m4⟩ := z05 h
 cases e
 have up : ∀ {e : Sh} {r : List (List Cell)}, WR 1048576 e r → WR 9000000000000000000 e r := fun h => h.mono (by omega)
 have hm := y1s 2 6 1 3 9 _ _ _ _ _ 1 _ _ _ _ _ (up m0) (up m1) (up m2) (up m3) (up m4) rfl rfl rfl rfl rfl
 have hc := y9c h
 have hw : wid yb = 0 := rfl
 have hw2 : q4p yb = 48 := rfl
 rw [hw, hw2] at hc
 have hk := (z7y h 1 (by omega) (by omega)).2
 exact ⟨_, _, _, _, _, _, by
  show 0 ≤ (mk yb c.cs 1).2
  rw [hk]; omega, hm⟩
abbrev qbq (c : Clu) : List OC := [.l 2 (c.cons.map Con.cs), .l 6 (c.shs.map Shd.cs), .l 1 (c.accs.map Acc.cs), .l 3 (c.ldrs.map Ldr.cs), .l 9 (c.msgs.map Msg.cs)]
abbrev yab (code : Int) (c : Clu) : Res := .one (.own true (.s (.int .i64 code) :: qbq c))
theorem z9p (c : Clu) (h : WT 1048576 yb c.cs) (hsz : tot yb c.cs ≤ 4194304) : ∃ (k : Int) (r0 r1 r2 r3 r4 : List (List Cell)), 0 ≤ k ∧ (r0.length = (c.cons.map Con.cs).length ∧ r1.length = (c.shs.map Shd.cs).length ∧ r2.length = (c.accs.map Acc.cs).length ∧ r3.length = (c.ldrs.map Ldr.cs).length ∧ r4.length = (c.msgs.map Msg.cs).length) ∧
 (∀ code : Int, PG Tryz.prog 26 [.agg [.bor (.s (.int .i64 code)), .giv true 2 (c.cons.map Con.cs), .giv true 6 (c.shs.map Shd.cs), .giv true 1 (c.accs.map Acc.cs), .giv true 3 (c.ldrs.map Ldr.cs), .giv true 9 (c.msgs.map Msg.cs)], .one (.bor (i64 1))] (rI k) [(1, r0), (2, r1), (3, r2), (4, r3), (5, r4)]) ∧
 ∀ code : Int, PC Tryz.prog 27 [.agg [.s (.int .i64 code), .l r0, .l r1, .l r2, .l r3, .l r4], .one (i64 1)] (rI k) := by
 obtain ⟨_, _, _, _, _, e, m0, m1, m2, m3, m4⟩ := z05 h
 cases e
 have up : ∀ {e : Sh} {r : List (List Cell)}, WR 1048576 e r → WR 9000000000000000000 e r := fun h => h.mono (by omega)
 have hc := y9c h
 have hw : wid yb = 0 := rfl
 have hw2 : q4p yb = 48 := rfl
 rw [hw, hw2] at hc
 obtain ⟨h1, h2⟩ := z7y h 1 (by omega) (by omega)
 refine ⟨(mk yb c.cs 1).2, _, _, _, _, _, by rw [h2]; omega, ⟨qn _ _ _, qn _ _ _, qn _ _ _, qn _ _ _, qn _ _ _⟩, fun code => z1q 2 6 1 3 9 code _ _ _ _ _ 1 _ _ _ _ _ (up m0) (up m1) (up m2) (up m3) (up m4) rfl rfl rfl rfl rfl, fun code => ?_⟩
 have hh := y1p code _ _ _ _ _ 1 (y54 (up m0) 1) (y54 (up m1) (mkR (mk q7) (c.cons.map Con.cs) 1).2) (y54 (up m2) (mkR (mk zb) (c.shs.map Shd.cs) (mkR (mk q7) (c.cons.map Con.cs) 1).2).2)
  (y54 (up m3) (mkR (mk z8) (c.accs.map Acc.cs) (mkR (mk zb) (c.shs.map Shd.cs) (mkR (mk q7) (c.cons.map Con.cs) 1).2).2).2)
  (y54 (up m4) (mkR (mk qa) (c.ldrs.map Ldr.cs) (mkR (mk z8) (c.accs.map Acc.cs) (mkR (mk zb) (c.shs.map Shd.cs) (mkR (mk q7) (c.cons.map Con.cs) 1).2).2).2).2) (by omega)
 have e : ng (hd yb (mk yb c.cs 1).1 1) = (mk yb c.cs 1).2 := by rw [h1, h2]; rfl
 rw [← e]
 exact hh
theorem y9p (c : Clu) (h : WT 1048576 yb c.cs) (code : Int) : PC Tryz.prog 24 [.agg (.s (.int .i64 code) :: c.cs), .agg (.s (.int .i64 code) :: c.cs)] (rB true) := by
 obtain ⟨_, _, _, _, _, e, m0, m1, m2, m3, m4⟩ := z05 h
 cases e
 have up : ∀ {e : Sh} {r : List (List Cell)}, WR 1048576 e r → WR 9000000000000000000 e r := fun h => h.mono (by omega)
 have h := y22 code _ _ _ _ _ code _ _ _ _ _ (up m0) (up m1) (up m2) (up m3) (up m4) (up m0) (up m1) (up m2) (up m3) (up m4)
 rwa [show dE (α := List Cell) (.s (.int .i64 code) :: c.cs) (.s (.int .i64 code) :: c.cs) = true from (Value.bool.inj (yx rfl)).symm] at h
theorem zay (N : Nat) (m : Msg) : WT N qb m.cs := .i _ (.i _ (.i _ (.i _ (.i _ (.i _ (.i _ (.i _ (.i _ .nil))))))))
theorem y6j : ∀ ms : List Msg, y00 (tot qb) (ms.map Msg.cs) = 0
 | [] => rfl
 | m :: ms => by
   rw [List.map_cons, y00, y6j ms]; rfl
theorem qbj {c : Clu} (h : WT 1048576 yb c.cs ∧ tot yb c.cs ≤ 1048576) {ms : List Msg} (hm : ms.length ≤ 1048576) : WT 1048576 yb (c.wm ms).cs ∧ tot yb (c.wm ms).cs ≤ 4194304 := by
 obtain ⟨h, hs⟩ := h
 obtain ⟨_, _, _, _, _, e, m0, m1, m2, m3, m4⟩ := z05 h
 cases e
 refine ⟨.l _ m0.1 m0.2 (.l _ m1.1 m1.2 (.l _ m2.1 m2.2 (.l _ m3.1 m3.2 (.l _ (by rw [List.length_map]; exact hm) (fun row hr => ?_) .nil)))), ?_⟩
 · obtain ⟨m, _, rfl⟩ := List.mem_map.1 hr
   exact zay _ m
 · have e1 : tot yb (c.wm ms).cs = (c.cons.map Con.cs).length + y00 (tot q7) (c.cons.map Con.cs) + ((c.shs.map Shd.cs).length + y00 (tot zb) (c.shs.map Shd.cs) + ((c.accs.map Acc.cs).length + y00 (tot z8) (c.accs.map Acc.cs) + ((c.ldrs.map Ldr.cs).length + y00 (tot qa) (c.ldrs.map Ldr.cs) + ((ms.map Msg.cs).length + y00 (tot qb) (ms.map Msg.cs) + 0)))) := rfl
   have e2 : tot yb c.cs = (c.cons.map Con.cs).length + y00 (tot q7) (c.cons.map Con.cs) + ((c.shs.map Shd.cs).length + y00 (tot zb) (c.shs.map Shd.cs) + ((c.accs.map Acc.cs).length + y00 (tot z8) (c.accs.map Acc.cs) + ((c.ldrs.map Ldr.cs).length + y00 (tot qa) (c.ldrs.map Ldr.cs) + ((c.msgs.map Msg.cs).length + y00 (tot qb) (c.msgs.map Msg.cs) + 0)))) := rfl
   rw [y6j] at e1 e2
   simp only [List.length_map] at e1 e2
   omega
theorem ybj : WT 1048576 yb y68.cs ∧ tot yb y68.cs ≤ 4194304 :=
 ⟨.l _ (Nat.zero_le _) (fun _ h => by cases h) (.l _ (Nat.zero_le _) (fun _ h => by cases h) (.l _ (Nat.zero_le _) (fun _ h => by cases h) (.l _ (Nat.zero_le _) (fun _ h => by cases h) (.l _ (Nat.zero_le _) (fun _ h => by cases h) .nil)))), Nat.zero_le _⟩
theorem ya8 {c d : Clu} (h : WT 1048576 yb c.cs ∧ tot yb c.cs ≤ 1048576) {ms : List Msg} (e : d = (told (c.wm ms)).2) : WT 1048576 yb d.cs ∧ tot yb d.cs ≤ 4194304 := by
 subst e
 unfold told
 split
 · exact ybj
 · rename_i h1
   exact qbj h (by have : ¬ 200 < ms.length := h1; omega)
theorem q71 {c : Clu} (h : WT 1048576 yb c.cs ∧ tot yb c.cs ≤ 1048576) (k : Int) : WT 1048576 yb (q01 c k).2.cs ∧ tot yb (q01 c k).2.cs ≤ 4194304 := by
 unfold q01
 split
 · exact ybj
 · split
   · exact ybj
   · exact ya8 h rfl
theorem ya6 (us : List Vt) : zr (us.map Vt.cs) := fun row hr => by
 obtain ⟨x, _, rfl⟩ := List.mem_map.1 hr
 intro c hc
 simp only [Vt.cs, List.mem_cons, List.not_mem_nil, or_false] at hc
 rcases hc with rfl | rfl <;> exact ⟨_, rfl⟩
theorem z9h (us : List Msg) : zr (us.map Msg.cs) := fun row hr => by
 obtain ⟨x, _, rfl⟩ := List.mem_map.1 hr
 intro c hc
 simp only [Msg.cs, List.mem_cons, List.not_mem_nil, or_false] at hc
 rcases hc with rfl | rfl | rfl | rfl | rfl | rfl | rfl | rfl | rfl <;> exact ⟨_, rfl⟩
theorem yav (us : List Hd) : zr (us.map Hd.cs) := fun row hr => by
 obtain ⟨x, _, rfl⟩ := List.mem_map.1 hr
 intro c hc
 simp only [Hd.cs, List.mem_cons, List.not_mem_nil, or_false] at hc
 rcases hc with rfl | rfl | rfl | rfl | rfl <;> exact ⟨_, rfl⟩
theorem y9g (us : List Bal) : zr (us.map Bal.cs) := fun row hr => by
 obtain ⟨x, _, rfl⟩ := List.mem_map.1 hr
 intro c hc
 simp only [Bal.cs, List.mem_cons, List.not_mem_nil, or_false] at hc
 rcases hc with rfl | rfl | rfl <;> exact ⟨_, rfl⟩
theorem za6 (us : List Mk) : zr (us.map Mk.cs) := fun row hr => by
 obtain ⟨x, _, rfl⟩ := List.mem_map.1 hr
 intro c hc
 simp only [Mk.cs, List.mem_cons, List.not_mem_nil, or_false] at hc
 rcases hc with rfl | rfl <;> exact ⟨_, rfl⟩
theorem q9g (us : List Leg) : zr (us.map Leg.cs) := fun row hr => by
 obtain ⟨x, _, rfl⟩ := List.mem_map.1 hr
 intro c hc
 simp only [Leg.cs, List.mem_cons, List.not_mem_nil, or_false] at hc
 rcases hc with rfl | rfl | rfl | rfl <;> exact ⟨_, rfl⟩
theorem z5x (us : List Int) : zr (ints us) := fun row hr => by
 simp only [ints, List.mem_map] at hr
 obtain ⟨x, _, rfl⟩ := hr
 intro c hc
 exact ⟨_, by simpa using hc⟩
theorem q2j (us : List Vt) (hl : us.length ≤ 1048576) : PC Tryz.prog 301 [.one (.l (us.map Vt.cs))] (.one (.own false [.l 2 (us.map Vt.cs)])) := by
 refine PC.begin Tryz.func301 rfl (by kernel_rfl) ?_
 have hsc := ya6 us
 refine qa8 rfl (fun b0 b0' => ?_)
 refine xb rfl ?_ ?_ <;> intro b1
 refine xr rfl (qm rfl ⟨⟨rfl, ?_, trivial⟩, z6 rfl⟩); rotate_left
 refine xs rfl trivial (xs rfl rfl (xs rfl (by simp) (xs rfl (fun _ => hsc) (xs rfl (by simp; omega) (xs rfl (by simp; omega) ?_)))))
 refine xr rfl (qm rfl ⟨⟨rfl, ⟨?_, rfl, .inl rfl⟩, trivial⟩, z6 rfl⟩); rotate_left
 · exact b0' b1
 · simp
theorem y2z (us : List Msg) (hl : us.length ≤ 1048576) : PC Tryz.prog 325 [.one (.l (us.map Msg.cs))] (.one (.own false [.l 9 (us.map Msg.cs)])) := by
 refine PC.begin Tryz.func325 rfl (by kernel_rfl) ?_
 have hsc := z9h us
 refine qa8 rfl (fun b0 b0' => ?_)
 refine xb rfl ?_ ?_ <;> intro b1
 refine xr rfl (qm rfl ⟨⟨rfl, ?_, trivial⟩, z6 rfl⟩); rotate_left
 refine xs rfl trivial (xs rfl rfl (xs rfl (by simp) (xs rfl (fun _ => hsc) (xs rfl (by simp; omega) (xs rfl (by simp; omega) ?_)))))
 refine xr rfl (qm rfl ⟨⟨rfl, ⟨?_, rfl, .inl rfl⟩, trivial⟩, z6 rfl⟩); rotate_left
 · exact b0' b1
 · simp
theorem q47 (us : List Hd) (hl : us.length ≤ 1048576) : PC Tryz.prog 328 [.one (.l (us.map Hd.cs))] (.one (.own false [.l 5 (us.map Hd.cs)])) := by
 refine PC.begin Tryz.func328 rfl (by kernel_rfl) ?_
 have hsc := yav us
 refine qa8 rfl (fun b0 b0' => ?_)
 refine xb rfl ?_ ?_ <;> intro b1
 refine xr rfl (qm rfl ⟨⟨rfl, ?_, trivial⟩, z6 rfl⟩); rotate_left
 refine xs rfl trivial (xs rfl rfl (xs rfl (by simp) (xs rfl (fun _ => hsc) (xs rfl (by simp; omega) (xs rfl (by simp; omega) ?_)))))
 refine xr rfl (qm rfl ⟨⟨rfl, ⟨?_, rfl, .inl rfl⟩, trivial⟩, z6 rfl⟩); rotate_left
 · exact b0' b1
 · simp
theorem q2y (us : List Bal) (hl : us.length ≤ 1048576) : PC Tryz.prog 362 [.one (.l (us.map Bal.cs))] (.one (.own false [.l 3 (us.map Bal.cs)])) := by
 refine PC.begin Tryz.func362 rfl (by kernel_rfl) ?_
 have hsc := y9g us
 refine qa8 rfl (fun b0 b0' => ?_)
 refine xb rfl ?_ ?_ <;> intro b1
 refine xr rfl (qm rfl ⟨⟨rfl, ?_, trivial⟩, z6 rfl⟩); rotate_left
 refine xs rfl trivial (xs rfl rfl (xs rfl (by simp) (xs rfl (fun _ => hsc) (xs rfl (by simp; omega) (xs rfl (by simp; omega) ?_)))))
 refine xr rfl (qm rfl ⟨⟨rfl, ⟨?_, rfl, .inl rfl⟩, trivial⟩, z6 rfl⟩); rotate_left
 · exact b0' b1
 · simp
theorem y2j (us : List Mk) (hl : us.length ≤ 1048576) : PC Tryz.prog 363 [.one (.l (us.map Mk.cs))] (.one (.own false [.l 2 (us.map Mk.cs)])) := by
 refine PC.begin Tryz.func363 rfl (by kernel_rfl) ?_
 have hsc := za6 us
 refine qa8 rfl (fun b0 b0' => ?_)
 refine xb rfl ?_ ?_ <;> intro b1
 refine xr rfl (qm rfl ⟨⟨rfl, ?_, trivial⟩, z6 rfl⟩); rotate_left
 refine xs rfl trivial (xs rfl rfl (xs rfl (by simp) (xs rfl (fun _ => hsc) (xs rfl (by simp; omega) (xs rfl (by simp; omega) ?_)))))
 refine xr rfl (qm rfl ⟨⟨rfl, ⟨?_, rfl, .inl rfl⟩, trivial⟩, z6 rfl⟩); rotate_left
 · exact b0' b1
 · simp
theorem y5j (us : List Leg) (hl : us.length ≤ 1048576) : PC Tryz.prog 381 [.one (.l (us.map Leg.cs))] (.one (.own false [.l 4 (us.map Leg.cs)])) := by
 refine PC.begin Tryz.func381 rfl (by kernel_rfl) ?_
 have hsc := q9g us
 refine qa8 rfl (fun b0 b0' => ?_)
 refine xb rfl ?_ ?_ <;> intro b1
 refine xr rfl (qm rfl ⟨⟨rfl, ?_, trivial⟩, z6 rfl⟩); rotate_left
 refine xs rfl trivial (xs rfl rfl (xs rfl (by simp) (xs rfl (fun _ => hsc) (xs rfl (by simp; omega) (xs rfl (by simp; omega) ?_)))))
 refine xr rfl (qm rfl ⟨⟨rfl, ⟨?_, rfl, .inl rfl⟩, trivial⟩, z6 rfl⟩); rotate_left
 · exact b0' b1
 · simp
theorem z2z (us : List Int) (hl : us.length ≤ 1048576) : PC Tryz.prog 327 [.one (.l (ints us))] (.one (.own false [.l 1 (ints us)])) := by
 refine PC.begin Tryz.func327 rfl (by kernel_rfl) ?_
 have hsc := z5x us
 refine qa8 rfl (fun b0 b0' => ?_)
 refine xb rfl ?_ ?_ <;> intro b1
 refine xr rfl (qm rfl ⟨⟨rfl, ?_, trivial⟩, z6 rfl⟩); rotate_left
 refine xs rfl trivial (xs rfl rfl (xs rfl (by simp) (xs rfl (fun _ => hsc) (xs rfl (by simp; omega) (xs rfl (by simp; omega) ?_)))))
 refine xr rfl (qm rfl ⟨⟨rfl, ⟨?_, rfl, .inl rfl⟩, trivial⟩, z6 rfl⟩); rotate_left
 · exact b0' b1
 · simp
theorem tk {α : Type} (f : α → List Cell) {us : List α} {i : Nat} {x : α} (hx : us[i]? = some x) : (us.take (i + 1)).map f = (us.take i).map f ++ [f x] := by
 rw [List.take_add_one, hx]; simp
theorem z32 (x : Con) (hl : x.legs.length ≤ 1048576) : PC Tryz.prog 360 [.agg x.cs] (.one (.own true [.s (.int .i64 x.id), .l 4 (x.legs.map Leg.cs)])) := by
 refine PC.begin Tryz.func360 rfl (by kernel_rfl) ?_
 have h1 := y5j x.legs hl
 refine qd rfl [] (.take 0 [] (.take 1 [5, 6] (.take 2 [] (.take 3 (Rg 4 3) (.alt 4 (.take 5 [] (.alt 6 .done .nil)) .nil))))) (by kernel_rfl) (z7 rfl (h1) rfl ⟨trivial, trivial⟩ ?_)
 refine xr rfl (qm rfl ⟨⟨rfl, rfl, ⟨rfl, rfl, .inl rfl⟩, trivial⟩, z6 rfl⟩)
theorem q18 (us : List Con) (hl : us.length ≤ 1048576) (hb : ∀ x ∈ us, x.legs.length ≤ 1048576) : PC Tryz.prog 323 [.one (.l (us.map Con.cs))] (.one (.own false [.l 2 (us.map Con.cs)])) := by
 refine PC.begin Tryz.func323 rfl (by kernel_rfl) ?_
 refine xs rfl trivial ?_
 refine yd rfl (ι := Nat) (fun i => i ≤ us.length) (fun i => ⟨[(9, sV (.int .i64 i)), (8, sV (.int .i64 (us.map Con.cs).length)), (7, .one (.b (.l (us.map Con.cs)))), (3, .one (.h 6 ((us.take i).map Con.cs).length))], [(6, .arr true 2 0 ((us.take i).map Con.cs))]⟩) (fun i => us.length - i) 0 (Nat.zero_le _) ?_ ?_
 · exact ⟨⟨rfl, rfl, rfl, ⟨rfl, rfl, rfl⟩, trivial⟩, ⟨⟨rfl, .inl rfl, .inl rfl⟩, trivial⟩, rfl⟩
 · intro i hi J hJ
   refine xb rfl ?_ ?_ <;> intro h
   · have h : i < us.length := by simpa using h
     obtain ⟨x, hx⟩ := gx h
     have hg := gm Con.cs hx
     have hc := z32 x (hb x (List.mem_of_getElem? hx))
     have hst := tk Con.cs hx
     refine xs rfl (by simp) (y9 rfl _ hg (xs rfl rfl (z7 rfl (hc) rfl ⟨tv3, trivial⟩ (xs rfl ⟨trivial, ⟨rfl, rfl⟩, trivial⟩ (xs rfl rfl (xs rfl rfl (xs rfl (.inl rfl) (xs rfl (by simp; omega) (xs rfl (by simp; omega) ?_)))))))))
     exact q9 rfl (hJ _ (i + 1) (by omega) (by omega) ⟨⟨cwi (by omega) (by omega) (by omega), rfl, rfl, ⟨rfl, by rw [hst]; exact List.length_append.symm, rfl⟩, trivial⟩, ⟨⟨hst.symm, .inl rfl, .inl rfl⟩, trivial⟩, rfl⟩)
   · have h : i = us.length := by have : ¬ i < us.length := (by simpa using h); omega
     subst h
     rw [List.take_length]
     refine xr rfl (qm rfl ⟨⟨rfl, ⟨rfl, rfl, .inl rfl⟩, trivial⟩, z6 rfl⟩)
theorem y4w (s : Shd) (ho : yb2 s) : PC Tryz.prog 326 [.agg s.cs] (.one (.own true [.s (.int .i64 s.idx), .l 3 (s.bals.map Bal.cs), .l 2 (s.votes.map Mk.cs), .l 2 (s.held.map Con.cs), .l 2 (s.done.map Mk.cs), .l 1 (ints s.app)])) := by
 refine PC.begin Tryz.func326 rfl (by kernel_rfl) ?_
 obtain ⟨o1, o2, o3, o4, o5, o6⟩ := ho
 have h1 := q2y s.bals o1
 have h2 := y2j s.votes o2
 have h3 := q18 s.held o3 o6
 have h4 := y2j s.done o4
 have h5 := z2z s.app o5
 refine qd rfl [] (.take 0 [] (.take 1 [17, 18] (.take 2 [] (.take 3 [4, 7, 10, 13, 16, 17, 18] (.take 5 [] (.take 6 [7, 10, 13, 16, 17, 18] (.take 8 [] (.take 9 [10, 13, 16, 17, 18] (.take 11 [] (.take 12 [13, 16, 17, 18] (.take 14 [] (.take 15 (Rg 16 3) (.alt 4 (.alt 7 (.alt 10 (.alt 13 (.alt 16 (.take 17 [] (.alt 18 .done .nil)) .nil) .nil) .nil) .nil) .nil))))))))))))) (by kernel_rfl) (z7 rfl (h1) rfl ⟨trivial, trivial⟩ (z7 rfl (h2) rfl ⟨trivial, trivial⟩ (z7 rfl (h3) rfl ⟨trivial, trivial⟩ (z7 rfl (h4) rfl ⟨trivial, trivial⟩ (z7 rfl (h5) rfl ⟨trivial, trivial⟩ ?_)))))
 refine xr rfl (qm rfl ⟨⟨rfl, rfl, ⟨rfl, rfl, .inl rfl⟩, ⟨rfl, rfl, .inl rfl⟩, ⟨rfl, rfl, .inl rfl⟩, ⟨rfl, rfl, .inl rfl⟩, ⟨rfl, rfl, .inl rfl⟩, trivial⟩, z6 rfl⟩)
theorem z5k (s : Slt) (hl : s.cast.length ≤ 1048576) : PC Tryz.prog 307 [.agg s.cs] (.one (.own true [.s (.int .i64 s.c), .s (.int .i64 s.s), .s (.int .i64 s.p), .s (.int .i64 s.lb), .s (.int .i64 s.lv), .l 2 (s.cast.map Vt.cs)])) := by
 refine PC.begin Tryz.func307 rfl (by kernel_rfl) ?_
 have h1 := q2j s.cast hl
 refine z7 rfl (h1) rfl ⟨trivial, trivial⟩ ?_
 refine xr rfl (qm rfl ⟨⟨rfl, rfl, rfl, rfl, rfl, rfl, ⟨rfl, rfl, .inl rfl⟩, trivial⟩, z6 rfl⟩)
theorem y31 (a : Acc) (ho : y43 a) : PC Tryz.prog 361 [.agg a.cs] (.one (.own true [.l 6 (a.slots.map Slt.cs)])) := by
 refine PC.begin Tryz.func361 rfl (by kernel_rfl) ?_
 obtain ⟨hl, hb⟩ := ho
 refine yd rfl (ι := Nat) (fun i => i ≤ a.slots.length) (fun i => ⟨[(10, sV (.int .i64 i)), (9, sV (.int .i64 (a.slots.map Slt.cs).length)), (8, .one (.b (.l (a.slots.map Slt.cs)))), (3, .one (.a 3 0)), (2, .one (.a 2 0)), (1, .one (.a 1 0))], [(3, .var [.h 19 ((a.slots.take i).map Slt.cs).length]), (19, .arr true 6 0 ((a.slots.take i).map Slt.cs)), (2, .var [.nil]), (1, .var [.b (.l (a.slots.map Slt.cs))])]⟩) (fun i => a.slots.length - i) 0 (Nat.zero_le _) ?_ ?_
 · exact ⟨⟨rfl, rfl, rfl, ⟨rfl, rfl, rfl⟩, ⟨rfl, rfl, rfl⟩, ⟨rfl, rfl, rfl⟩, trivial⟩, ⟨⟨⟨rfl, rfl, rfl⟩, trivial⟩, rfl, ⟨trivial, trivial⟩, ⟨rfl, trivial⟩, trivial⟩, rfl⟩
 · intro i hi J hJ
   refine xb rfl ?_ ?_ <;> intro h
   · have h : i < a.slots.length := by simpa using h
     obtain ⟨x, hx⟩ := gx h
     have hg := gm Slt.cs hx
     have hc := z5k x (hb x (List.mem_of_getElem? hx))
     have hst := tk Slt.cs hx
     refine xs rfl (by simp) (y9 rfl _ hg (xs rfl rfl (qd rfl [] (.take 0 [] (.take 1 (Rg 5 3) (.take 2 (Rg 3 5) (.alt 3 (.alt 4 (.alt 5 (.take 6 [] (.alt 7 .done .nil)) .nil) .nil) .nil)))) (by kernel_rfl) (z7 rfl (hc) rfl ⟨tv7, trivial⟩ (xs rfl ⟨trivial, trivial, trivial, trivial, trivial, ⟨rfl, rfl⟩, trivial⟩ (xs rfl rfl (xs rfl rfl (xs rfl (.inl rfl) (xs rfl (by simp; omega) ?_)))))))))
     refine xs rfl (by simp; omega) ?_
     all_goals exact q9 rfl (hJ _ (i + 1) (by omega) (by omega) ⟨⟨cwi (by omega) (by omega) (by omega), rfl, rfl, ⟨rfl, rfl, rfl⟩, ⟨rfl, rfl, rfl⟩, ⟨rfl, rfl, rfl⟩, trivial⟩, ⟨⟨⟨rfl, by rw [hst]; exact List.length_append.symm, rfl⟩, trivial⟩, ⟨hst.symm, .inl rfl, .inl rfl⟩, ⟨trivial, trivial⟩, ⟨rfl, trivial⟩, trivial⟩, rfl⟩)
   · have h : i = a.slots.length := by have : ¬ i < a.slots.length := (by simpa using h); omega
     subst h
     rw [List.take_length]
     refine xr rfl (qm rfl ⟨⟨rfl, ⟨rfl, rfl, .inl rfl⟩, trivial⟩, z6 rfl⟩)
theorem z2r (us : List Acc) (hl : us.length ≤ 1048576) (hb : ∀ a ∈ us, y43 a) : PC Tryz.prog 324 [.one (.l (us.map Acc.cs))] (.one (.own false [.l 1 (us.map Acc.cs)])) := by
 refine PC.begin Tryz.func324 rfl (by kernel_rfl) ?_
 refine xs rfl trivial ?_
 refine yd rfl (ι := Nat) (fun i => i ≤ us.length) (fun i => ⟨[(9, sV (.int .i64 i)), (8, sV (.int .i64 (us.map Acc.cs).length)), (7, .one (.b (.l (us.map Acc.cs)))), (3, .one (.h 6 ((us.take i).map Acc.cs).length))], [(6, .arr true 1 0 ((us.take i).map Acc.cs))]⟩) (fun i => us.length - i) 0 (Nat.zero_le _) ?_ ?_
 · exact ⟨⟨rfl, rfl, rfl, ⟨rfl, rfl, rfl⟩, trivial⟩, ⟨⟨rfl, .inl rfl, .inl rfl⟩, trivial⟩, rfl⟩
 · intro i hi J hJ
   refine xb rfl ?_ ?_ <;> intro h
   · have h : i < us.length := by simpa using h
     obtain ⟨x, hx⟩ := gx h
     have hg := gm Acc.cs hx
     have hc := y31 x (hb x (List.mem_of_getElem? hx))
     have hst := tk Acc.cs hx
     refine xs rfl (by simp) (y9 rfl _ hg (xs rfl rfl (z7 rfl (hc) rfl ⟨⟨trivial, trivial⟩, trivial⟩ (xs rfl ⟨⟨rfl, rfl⟩, trivial⟩ (xs rfl rfl (xs rfl rfl (xs rfl (.inl rfl) (xs rfl (by simp; omega) (xs rfl (by simp; omega) ?_)))))))))
     exact q9 rfl (hJ _ (i + 1) (by omega) (by omega) ⟨⟨cwi (by omega) (by omega) (by omega), rfl, rfl, ⟨rfl, by rw [hst]; exact List.length_append.symm, rfl⟩, trivial⟩, ⟨⟨hst.symm, .inl rfl, .inl rfl⟩, trivial⟩, rfl⟩)
   · have h : i = us.length := by have : ¬ i < us.length := (by simpa using h); omega
     subst h
     rw [List.take_length]
     refine xr rfl (qm rfl ⟨⟨rfl, ⟨rfl, rfl, .inl rfl⟩, trivial⟩, z6 rfl⟩)
theorem z7t (s : Slt) (hl : s.cast.length ≤ 1048576) : PC Tryz.prog 229 [.agg s.cs] (.one (.own true [.s (.int .i64 s.c), .s (.int .i64 s.s), .s (.int .i64 s.p), .s (.int .i64 s.lb), .s (.int .i64 s.lv), .l 2 (s.cast.map Vt.cs)])) := by
 refine PC.begin Tryz.func229 rfl (by kernel_rfl) ?_
 have hsc := ya6 s.cast
 refine xs rfl trivial (xs rfl rfl (xs rfl (by simp) (xs rfl (fun _ => hsc) (xs rfl (by simp; omega) (xs rfl (by simp; omega) ?_)))))
 refine xr rfl (qm rfl ⟨⟨rfl, rfl, rfl, rfl, rfl, rfl, ⟨?_, rfl, .inl rfl⟩, trivial⟩, z6 rfl⟩)
 all_goals exact List.length_append.symm
theorem q7t (a : Acc) (ho : y43 a) : PC Tryz.prog 236 [.agg a.cs] (.one (.own true [.l 6 (a.slots.map Slt.cs)])) := by
 refine PC.begin Tryz.func236 rfl (by kernel_rfl) ?_
 obtain ⟨hl, hb⟩ := ho
 refine yd rfl (ι := Nat) (fun i => i ≤ a.slots.length) (fun i => ⟨[(4, sV (.int .i64 i)), (3, .one (.a 3 0)), (2, .one (.a 2 0)), (1, .one (.b (.p a.cs)))], [(3, .var [.h 22 ((a.slots.take i).map Slt.cs).length]), (22, .arr true 6 0 ((a.slots.take i).map Slt.cs)), (2, .var [.nil])]⟩) (fun i => a.slots.length - i) 0 (Nat.zero_le _) ?_ ?_
 · exact ⟨⟨rfl, ⟨rfl, rfl, rfl⟩, ⟨rfl, rfl, rfl⟩, ⟨rfl, rfl, rfl⟩, trivial⟩, ⟨⟨⟨rfl, rfl, rfl⟩, trivial⟩, rfl, ⟨trivial, trivial⟩, trivial⟩, rfl⟩
 · intro i hi J hJ
   refine xb rfl ?_ ?_ <;> intro h
   · have h : i < a.slots.length := by simpa using h
     obtain ⟨x, hx⟩ := gx h
     have hg := gm Slt.cs hx
     have hc := z7t x (hb x (List.mem_of_getElem? hx))
     have hst := tk Slt.cs hx
     refine qd rfl [] (.take 0 [] (.take 1 (Rg 9 3) (.take 2 [] (.take 3 (Rg 5 7) (Tk [4, 5] (.take 6 (Rg 7 5) (.alt 7 (.alt 8 (.alt 9 (.take 10 [] (.alt 11 .done .nil)) .nil) .nil) .nil))))))) (by kernel_rfl) (xs rfl (nn_ _) (y9 rfl _ hg (xs rfl rfl (z7 rfl (hc) rfl ⟨tv7, trivial⟩ (xs rfl ⟨trivial, trivial, trivial, trivial, trivial, ⟨rfl, rfl⟩, trivial⟩ (xs rfl rfl (xs rfl rfl (xs rfl (.inl rfl) (xs rfl (by simp; omega) ?_)))))))))
     refine xs rfl (by simp; omega) ?_
     all_goals exact q9 rfl (hJ _ (i + 1) (by omega) (by omega) ⟨⟨cwi (by omega) (by omega) (by omega), ⟨rfl, rfl, rfl⟩, ⟨rfl, rfl, rfl⟩, rfl, trivial⟩, ⟨⟨⟨rfl, by rw [hst]; exact List.length_append.symm, rfl⟩, trivial⟩, ⟨hst.symm, .inl rfl, .inl rfl⟩, ⟨trivial, trivial⟩, trivial⟩, rfl⟩)
   · have h : i = a.slots.length := by have : ¬ i < a.slots.length := (by simpa using h); omega
     subst h
     rw [List.take_length]
     refine xr rfl (qm rfl ⟨⟨rfl, ⟨rfl, rfl, .inl rfl⟩, trivial⟩, z6 rfl⟩)
theorem q8s (us : List Acc) (hl : us.length ≤ 1048576) (hb : ∀ a ∈ us, y43 a) : PC Tryz.prog 147 [.one (.l (us.map Acc.cs))] (.one (.own false [.l 1 (us.map Acc.cs)])) := by
 refine PC.begin Tryz.func147 rfl (by kernel_rfl) ?_
 refine xs rfl trivial ?_
 refine yd rfl (ι := Nat) (fun i => i ≤ us.length) (fun i => ⟨[(4, sV (.int .i64 i)), (3, .one (.h 5 ((us.take i).map Acc.cs).length)), (0, .one (.b (.l (us.map Acc.cs))))], [(5, .arr true 1 0 ((us.take i).map Acc.cs))]⟩) (fun i => us.length - i) 0 (Nat.zero_le _) ?_ ?_
 · exact ⟨⟨rfl, ⟨rfl, rfl, rfl⟩, rfl, trivial⟩, ⟨⟨rfl, .inl rfl, .inl rfl⟩, trivial⟩, rfl⟩
 · intro i hi J hJ
   refine xb rfl ?_ ?_ <;> intro h
   · have h : i < us.length := by simpa using h
     obtain ⟨x, hx⟩ := gx h
     have hg := gm Acc.cs hx
     have hc := q7t x (hb x (List.mem_of_getElem? hx))
     have hst := tk Acc.cs hx
     refine xs rfl (nn_ _) (y9 rfl _ hg (xs rfl rfl (z7 rfl (hc) rfl ⟨⟨trivial, trivial⟩, trivial⟩ (xs rfl ⟨⟨rfl, rfl⟩, trivial⟩ (xs rfl rfl (xs rfl rfl (xs rfl (.inl rfl) (xs rfl (by simp; omega) (xs rfl (by simp; omega) ?_)))))))))
     exact q9 rfl (hJ _ (i + 1) (by omega) (by omega) ⟨⟨cwi (by omega) (by omega) (by omega), ⟨rfl, by rw [hst]; exact List.length_append.symm, rfl⟩, rfl, trivial⟩, ⟨⟨hst.symm, .inl rfl, .inl rfl⟩, trivial⟩, rfl⟩)
   · have h : i = us.length := by have : ¬ i < us.length := (by simpa using h); omega
     subst h
     rw [List.take_length]
     refine xr rfl (qm rfl ⟨⟨rfl, ⟨rfl, rfl, .inl rfl⟩, trivial⟩, z6 rfl⟩)
theorem q1r (x : Con) (hl : x.legs.length ≤ 1048576) : PC Tryz.prog 148 [.agg x.cs] (.one (.own true [.s (.int .i64 x.id), .l 4 (x.legs.map Leg.cs)])) := by
 refine PC.begin Tryz.func148 rfl (by kernel_rfl) ?_
 have hsc := q9g x.legs
 refine qd rfl [] (Tk [0, 3] (.take 4 (Rg 5 3) (.alt 1 (.alt 2 (.alt 5 (.take 6 [] (.alt 7 .done .nil)) .nil) .nil) (.alt 2 (.alt 1 (.alt 5 (.take 6 [] (.alt 7 .done .nil)) .nil) (.alt 5 (.take 1 [6, 7] (.take 6 [] (.alt 7 .done .nil))) .nil)) .nil)))) (by kernel_rfl) ?_
 refine y04 rfl ?_ ?_
 refine xs rfl trivial (xs rfl rfl (xs rfl (by simp) (xs rfl (fun _ => hsc) (xs rfl (by simp; omega) (xs rfl (by simp; omega) ?_)))))
 refine xr rfl (qm rfl ⟨⟨rfl, rfl, ⟨?_, rfl, .inl rfl⟩, trivial⟩, z6 rfl⟩); rotate_left
 refine xs rfl trivial ?_
 refine y04 rfl ?_ ?_
 refine xs rfl rfl (xs rfl (by simp) (xs rfl (fun _ => hsc) (xs rfl (by simp; omega) (xs rfl (by simp; omega) ?_))))
 refine xr rfl (qm rfl ⟨⟨rfl, rfl, ⟨?_, rfl, .inl rfl⟩, trivial⟩, z6 rfl⟩); rotate_left
 refine xs rfl rfl (xs rfl (by simp) (xs rfl (fun _ => hsc) (xs rfl (by simp; omega) (xs rfl (by simp; omega) ?_))))
 refine xr rfl (qm rfl ⟨⟨rfl, rfl, ⟨?_, rfl, .inl rfl⟩, trivial⟩, z6 rfl⟩); rotate_left
 all_goals exact List.length_append.symm
theorem y9r {l : List (Nat × AV)} {n : List (Nat × AV)} (h : ∀ p ∈ n, get l p.1 = some p.2) : ∀ t av, get n t = some av → get l t = some av := by
 induction n with
 | nil => intro t av h; cases h
 | cons p n ih =>
   obtain ⟨k, v⟩ := p
   intro t av hg
   rw [za] at hg
   split at hg
   · rename_i e
     have h1 := h (k, v) (by simp)
     rw [← hg, ← e]; exact h1
   · exact ih (fun p hp => h p (by simp [hp])) t av hg
theorem z5t {ops : Array Oper} {f : Nat → Bool} (hc : ∀ j k, q79 ops j k = true → f j = true → f k = true) {j k : Nat} (hd : q79 ops j k = true) (h : f k = false) : f j = false := by
 cases hj : f j with
 | false => rfl
 | true => rw [hc j k hd hj] at h; cases h
def Lc (s : Shd) : List (Option (Nat × AV)) :=
 [some (5, .one (.b (.p s.cs))), some (6, .one (.b (i64 s.idx))), some (7, .one .em), some (8, .one (.b (.p (s.cs.drop 1)))), some (9, .one (.b (.l (s.bals.map Bal.cs)))), some (10, .one (.h 10 (s.bals.map Bal.cs).length)),
  some (11, .one .em), some (12, .one (.b (.p (s.cs.drop 2)))), some (13, .one (.b (.l (s.votes.map Mk.cs)))), some (14, .one (.h 14 (s.votes.map Mk.cs).length)),
  some (15, .one .em), some (16, .one (.b (.p (s.cs.drop 4)))), some (17, .one (.b (.l (s.done.map Mk.cs)))), some (18, .one (.h 18 (s.done.map Mk.cs).length)),
  some (19, .one .em), some (20, .one (.b (.p (s.cs.drop 5)))), some (21, .one (.b (.l (ints s.app)))), some (22, .one (.h 22 (ints s.app).length)),
  some (23, .agg [.b (i64 s.idx), .h 10 (s.bals.map Bal.cs).length, .h 14 (s.votes.map Mk.cs).length, .nil, .h 18 (s.done.map Mk.cs).length, .h 22 (ints s.app).length]), some (3, .one (.a 3 0)), none]
def Bc (s : Shd) (a5 a9 a13 a17 a19 a20 : Bool) : List (Nat × AB) :=
 (2, .var [.b (i64 0), .nil, .nil, .nil, .nil, .nil]) :: (bif a5 then [(10, .arr true 3 0 (s.bals.map Bal.cs))] else []) ++ (bif a9 then [(14, .arr true 2 0 (s.votes.map Mk.cs))] else []) ++ (bif a13 then [(18, .arr true 2 0 (s.done.map Mk.cs))] else []) ++ (bif a17 then [(22, .arr true 1 0 (ints s.app))] else []) ++
   (bif a19 then [(3, .var (bif a20 then [.b (i64 s.idx), .h 10 (s.bals.map Bal.cs).length, .h 14 (s.votes.map Mk.cs).length, .nil, .h 18 (s.done.map Mk.cs).length, .h 22 (ints s.app).length] else [.b (i64 0), .nil, .nil, .nil, .nil, .nil]))] else [])
def jc : List (List Nat) := [[], [0], [], [], [3], [2, 4], [], [], [7], [6, 8], [], [], [11], [10, 12], [], [], [15], [14, 16], [1, 5, 9, 13, 17], [], [18, 19]]
theorem q6t (s : Shd) (ho : yb2 s) : PC Tryz.prog 149 [.agg s.cs] (.one (.own true [.s (.int .i64 s.idx), .l 3 (s.bals.map Bal.cs), .l 2 (s.votes.map Mk.cs), .l 2 (s.held.map Con.cs), .l 2 (s.done.map Mk.cs), .l 1 (ints s.app)])) := by
 obtain ⟨o1, o2, o3, o4, o5, o6⟩ := ho
 refine PC.yak (by kernel_rfl) Tryz.func149 rfl (by kernel_rfl) (fun σ => Wk0 σ ⟨[(2, .one (.a 2 0)), (1, .one (.b (.p s.cs)))], [(2, .var [.b (i64 0), .nil, .nil, .nil, .nil, .nil])]⟩)
  (fun σ => σ = ⟨[(3, .one (.a 3 0)), (2, .one (.a 2 0)), (1, .one (.b (.p s.cs)))], Bc s true true true true true true⟩) ?_ ?_ ?_
 · exact q9 rfl ⟨⟨⟨rfl, rfl, rfl⟩, ⟨rfl, rfl, rfl⟩, trivial⟩, ⟨⟨rfl, trivial, trivial, trivial, trivial, trivial, trivial⟩, trivial⟩, rfl⟩
 · intro σ hσ
   have b1 := y9g s.bals
   have b2 := za6 s.votes
   have b3 := za6 s.done
   have b4 := z5x s.app
   refine yaf.table (Lc s) [(2, .one (.a 2 0)), (1, .one (.b (.p s.cs)))] (fun f => Bc s (f 5) (f 9) (f 13) (f 17) (f 19) (f 20)) rfl (by kernel_rfl) (fun i => (jc[i]?).getD []) (by kernel_rfl) (To.wk hσ) ?_ ?_ ?_ rfl
   · refine ⟨?_, ?_, ?_, ?_, ?_, ?_, ?_, ?_, ?_, ?_, ?_, ?_, ?_, ?_, ?_, ?_, ?_, ?_, ?_, ?_, ?_, trivial⟩
     · exact fun R f _ _ _ => yv.run (Q0 := fun _ _ => False) (q9 rfl (To.refl _))
     · exact fun R f _ _ _ => yv.run (Q0 := fun _ _ => False) (q9 rfl (To.refl _))
     · exact fun R f _ _ _ => yv.em rfl rfl rfl rfl (by kernel_rfl) (To.refl _)
     · exact fun R f _ _ _ => yv.run (Q0 := fun _ _ => False) (q9 rfl (To.refl _))
     · exact fun R f _ _ _ => yv.run (Q0 := fun _ _ => False) (q9 rfl (To.refl _))
     · intro R f h0 hd hc
       have e9 : f 9 = false := z5t hc (j := 9) (k := 5) (by kernel_rfl) h0
       have e13 : f 13 = false := z5t hc (j := 13) (k := 9) (by kernel_rfl) e9
       have e17 : f 17 = false := z5t hc (j := 17) (k := 13) (by kernel_rfl) e13
       have e18 : f 18 = false := z5t hc (j := 18) (k := 5) (by kernel_rfl) h0
       have e20 : f 20 = false := z5t hc (j := 20) (k := 18) (by kernel_rfl) e18
       show yv _ _ _ ⟨_, Bc s (f 5) (f 9) (f 13) (f 17) (f 19) (f 20)⟩ (fun σ' => To σ' ⟨_, Bc s true (f 9) (f 13) (f 17) (f 19) (f 20)⟩)
       rw [h0, e9, e13, e17, e20]
       cases f 19 <;> refine yv.run (Q0 := fun _ _ => False) (xs rfl (by simp) (xs rfl b1 (xs rfl (by simp; omega) (xs rfl (by simp; omega) ?_)))) <;> first | exact q9 rfl (To.refl _) | exact q9 rfl (To.y0j fun β => by simp only [Bc, za, get_nil, cond_true, cond_false, List.cons_append, List.nil_append]; (repeat' split) <;> first | rfl | (exfalso; omega))
     · exact fun R f _ _ _ => yv.em rfl rfl rfl rfl (by kernel_rfl) (To.refl _)
     · exact fun R f _ _ _ => yv.run (Q0 := fun _ _ => False) (q9 rfl (To.refl _))
     · exact fun R f _ _ _ => yv.run (Q0 := fun _ _ => False) (q9 rfl (To.refl _))
     · intro R f h0 hd hc
       have e13 : f 13 = false := z5t hc (j := 13) (k := 9) (by kernel_rfl) h0
       have e17 : f 17 = false := z5t hc (j := 17) (k := 13) (by kernel_rfl) e13
       have e18 : f 18 = false := z5t hc (j := 18) (k := 9) (by kernel_rfl) h0
       have e20 : f 20 = false := z5t hc (j := 20) (k := 18) (by kernel_rfl) e18
       have e5 : f 5 = true := hd 5 (by kernel_rfl)
       show yv _ _ _ ⟨_, Bc s (f 5) (f 9) (f 13) (f 17) (f 19) (f 20)⟩ (fun σ' => To σ' ⟨_, Bc s (f 5) true (f 13) (f 17) (f 19) (f 20)⟩)
       rw [h0, e13, e17, e20, e5]
       cases f 19 <;> refine yv.run (Q0 := fun _ _ => False) (xs rfl (by simp) (xs rfl b2 (xs rfl (by simp; omega) (xs rfl (by simp; omega) ?_)))) <;> first | exact q9 rfl (To.refl _) | exact q9 rfl (To.y0j fun β => by simp only [Bc, za, get_nil, cond_true, cond_false, List.cons_append, List.nil_append]; (repeat' split) <;> first | rfl | (exfalso; omega))
     · exact fun R f _ _ _ => yv.em rfl rfl rfl rfl (by kernel_rfl) (To.refl _)
     · exact fun R f _ _ _ => yv.run (Q0 := fun _ _ => False) (q9 rfl (To.refl _))
     · exact fun R f _ _ _ => yv.run (Q0 := fun _ _ => False) (q9 rfl (To.refl _))
     · intro R f h0 hd hc
       have e17 : f 17 = false := z5t hc (j := 17) (k := 13) (by kernel_rfl) h0
       have e18 : f 18 = false := z5t hc (j := 18) (k := 13) (by kernel_rfl) h0
       have e20 : f 20 = false := z5t hc (j := 20) (k := 18) (by kernel_rfl) e18
       have e9 : f 9 = true := hd 9 (by kernel_rfl)
       have e5 : f 5 = true := hc 9 5 (by kernel_rfl) e9
       show yv _ _ _ ⟨_, Bc s (f 5) (f 9) (f 13) (f 17) (f 19) (f 20)⟩ (fun σ' => To σ' ⟨_, Bc s (f 5) (f 9) true (f 17) (f 19) (f 20)⟩)
       rw [h0, e17, e20, e9, e5]
       cases f 19 <;> refine yv.run (Q0 := fun _ _ => False) (xs rfl (by simp) (xs rfl b3 (xs rfl (by simp; omega) (xs rfl (by simp; omega) ?_)))) <;> first | exact q9 rfl (To.refl _) | exact q9 rfl (To.y0j fun β => by simp only [Bc, za, get_nil, cond_true, cond_false, List.cons_append, List.nil_append]; (repeat' split) <;> first | rfl | (exfalso; omega))
     · exact fun R f _ _ _ => yv.em rfl rfl rfl rfl (by kernel_rfl) (To.refl _)
     · exact fun R f _ _ _ => yv.run (Q0 := fun _ _ => False) (q9 rfl (To.refl _))
     · exact fun R f _ _ _ => yv.run (Q0 := fun _ _ => False) (q9 rfl (To.refl _))
     · intro R f h0 hd hc
       have e18 : f 18 = false := z5t hc (j := 18) (k := 17) (by kernel_rfl) h0
       have e20 : f 20 = false := z5t hc (j := 20) (k := 18) (by kernel_rfl) e18
       have e13 : f 13 = true := hd 13 (by kernel_rfl)
       have e9 : f 9 = true := hc 13 9 (by kernel_rfl) e13
       have e5 : f 5 = true := hc 9 5 (by kernel_rfl) e9
       show yv _ _ _ ⟨_, Bc s (f 5) (f 9) (f 13) (f 17) (f 19) (f 20)⟩ (fun σ' => To σ' ⟨_, Bc s (f 5) (f 9) (f 13) true (f 19) (f 20)⟩)
       rw [h0, e20, e13, e9, e5]
       cases f 19 <;> refine yv.run (Q0 := fun _ _ => False) (xs rfl (by simp) (xs rfl b4 (xs rfl (by simp; omega) (xs rfl (by simp; omega) ?_)))) <;> first | exact q9 rfl (To.refl _) | exact q9 rfl (To.y0j fun β => by simp only [Bc, za, get_nil, cond_true, cond_false, List.cons_append, List.nil_append]; (repeat' split) <;> first | rfl | (exfalso; omega))
     · exact fun R f _ _ _ => yv.run (Q0 := fun _ _ => False) (q9 rfl (To.refl _))
     · intro R f h0 hd hc
       have e20 : f 20 = false := z5t hc (j := 20) (k := 19) (by kernel_rfl) h0
       show yv _ _ _ ⟨_, Bc s (f 5) (f 9) (f 13) (f 17) (f 19) (f 20)⟩ (fun σ' => To σ' ⟨_, Bc s (f 5) (f 9) (f 13) (f 17) true (f 20)⟩)
       rw [h0, e20]
       cases f 5 <;> cases f 9 <;> cases f 13 <;> cases f 17 <;> exact yv.run (Q0 := fun _ _ => False) (q9 rfl (To.refl _))
     · intro R f h0 hd hc
       have e18 : f 18 = true := hd 18 (by kernel_rfl)
       show yv _ _ _ ⟨_, Bc s (f 5) (f 9) (f 13) (f 17) (f 19) (f 20)⟩ (fun σ' => To σ' ⟨_, Bc s (f 5) (f 9) (f 13) (f 17) (f 19) true⟩)
       rw [h0, hd 19 (by kernel_rfl), hc 18 5 (by kernel_rfl) e18, hc 18 9 (by kernel_rfl) e18, hc 18 13 (by kernel_rfl) e18, hc 18 17 (by kernel_rfl) e18]
       exact yv.run (Q0 := fun _ _ => False) (q9 rfl (To.refl _))
   · exact fun R hL h0 => ⟨_, To.tmps (y9r fun p hp => by
      rcases List.mem_cons.1 hp with rfl | hp
      · exact hL 19 (3, .one (.a 3 0)) (by decide) rfl
      · exact h0 p hp), rfl⟩
   · intro f hf
     show Bc s (f 5) (f 9) (f 13) (f 17) (f 19) (f 20) = _
     rw [hf 5 (by decide), hf 9 (by decide), hf 13 (by decide), hf 17 (by decide), hf 19 (by decide), hf 20 (by decide)]
 · rintro σ rfl
   refine yd rfl (ι := Nat) (fun i => i ≤ s.held.length) (fun i => ⟨[(4, sV (.int .i64 i)), (3, .one (.a 3 0)), (2, .one (.a 2 0)), (1, .one (.b (.p s.cs)))], [(3, .var [.b (i64 s.idx), .h 10 (s.bals.map Bal.cs).length, .h 14 (s.votes.map Mk.cs).length, .h 40 ((s.held.take i).map Con.cs).length, .h 18 (s.done.map Mk.cs).length, .h 22 (ints s.app).length]), (40, .arr true 2 0 ((s.held.take i).map Con.cs)), (10, .arr true 3 0 (s.bals.map Bal.cs)), (14, .arr true 2 0 (s.votes.map Mk.cs)), (18, .arr true 2 0 (s.done.map Mk.cs)), (22, .arr true 1 0 (ints s.app)), (2, .var [.b (i64 0), .nil, .nil, .nil, .nil, .nil])]⟩) (fun i => s.held.length - i) 0 (Nat.zero_le _) ?_ ?_
   · exact ⟨⟨rfl, ⟨rfl, rfl, rfl⟩, ⟨rfl, rfl, rfl⟩, rfl, trivial⟩, ⟨⟨rfl, ⟨rfl, rfl, rfl⟩, ⟨rfl, rfl, rfl⟩, ⟨rfl, rfl, rfl⟩, ⟨rfl, rfl, rfl⟩, ⟨rfl, rfl, rfl⟩, trivial⟩, rfl, ⟨rfl, .inl rfl, .inl rfl⟩, ⟨rfl, .inl rfl, .inl rfl⟩, ⟨rfl, .inl rfl, .inl rfl⟩, ⟨rfl, .inl rfl, .inl rfl⟩, ⟨rfl, trivial, trivial, trivial, trivial, trivial, trivial⟩, trivial⟩, rfl⟩
   · intro i hi J hJ
     refine xb rfl ?_ ?_ <;> intro h
     · have h : i < s.held.length := by simpa using h
       obtain ⟨x, hx⟩ := gx h
       have hg := gm Con.cs hx
       have hc := q1r x (o6 x (List.mem_of_getElem? hx))
       have hst := tk Con.cs hx
       refine qd rfl [] (.take 0 [] (.take 1 (Rg 9 3) (.take 2 [] (.take 3 (Rg 5 7) (Tk [4, 5] (.take 6 (Rg 7 5) (.alt 7 (.alt 8 (.alt 9 (.take 10 [] (.alt 11 .done .nil)) .nil) .nil) .nil))))))) (by kernel_rfl) (xs rfl (nn_ _) (y9 rfl _ hg (xs rfl rfl (z7 rfl (hc) rfl ⟨tv3, trivial⟩ (xs rfl ⟨trivial, ⟨rfl, rfl⟩, trivial⟩ (xs rfl rfl (xs rfl rfl (xs rfl (.inl rfl) (xs rfl (by simp; omega) ?_)))))))))
       refine xs rfl (by simp; omega) ?_
       all_goals exact q9 rfl (hJ _ (i + 1) (by omega) (by omega) ⟨⟨cwi (by omega) (by omega) (by omega), ⟨rfl, rfl, rfl⟩, ⟨rfl, rfl, rfl⟩, rfl, trivial⟩, ⟨⟨rfl, ⟨rfl, rfl, rfl⟩, ⟨rfl, rfl, rfl⟩, ⟨rfl, by rw [hst]; exact List.length_append.symm, rfl⟩, ⟨rfl, rfl, rfl⟩, ⟨rfl, rfl, rfl⟩, trivial⟩, ⟨hst.symm, .inl rfl, .inl rfl⟩, ⟨rfl, .inl rfl, .inl rfl⟩, ⟨rfl, .inl rfl, .inl rfl⟩, ⟨rfl, .inl rfl, .inl rfl⟩, ⟨rfl, .inl rfl, .inl rfl⟩, ⟨rfl, trivial, trivial, trivial, trivial, trivial, trivial⟩, trivial⟩, rfl⟩)
     · have h : i = s.held.length := by have : ¬ i < s.held.length := (by simpa using h); omega
       subst h
       rw [List.take_length]
       refine xr rfl (qm rfl ⟨⟨rfl, rfl, ⟨rfl, rfl, .inl rfl⟩, ⟨rfl, rfl, .inl rfl⟩, ⟨rfl, rfl, .inl rfl⟩, ⟨rfl, rfl, .inl rfl⟩, ⟨rfl, rfl, .inl rfl⟩, trivial⟩, z6 rfl⟩)
theorem y52 (l : Ldr) (ho : z8k l) : PC Tryz.prog 150 [.agg l.cs] (.one (.own true [.s (.int .i64 l.n), .l 6 (l.tries.map Tr.cs), .l 5 (l.known.map Hd.cs)])) := by
 obtain ⟨lt, lk, bt⟩ := ho
 refine PC.begin Tryz.func150 rfl (by kernel_rfl) ?_
 have hsc := yav l.known
 refine z96 (n := 0) rfl (ι := Unit) (fun _ => True) (fun _ => ⟨[(2, .one (.a 2 0)), (1, .one (.b (.p l.cs)))], [(2, .var [.b (i64 0), .nil, .nil])]⟩) ?_ ?_
 · intro K hK
   exact q9 rfl (hK _ () trivial ⟨⟨⟨rfl, rfl, rfl⟩, ⟨rfl, rfl, rfl⟩, trivial⟩, ⟨⟨rfl, trivial, trivial, trivial⟩, trivial⟩, rfl⟩)
 intro _ _
 refine z96 (n := 0) rfl (ι := Unit) (fun _ => True) (fun _ => ⟨[(3, .one (.a 3 0)), (2, .one (.a 2 0)), (1, .one (.b (.p l.cs)))], [(3, .var [.b (i64 l.n), .nil, .h 8 (l.known.map Hd.cs).length]), (8, .arr true 5 0 (l.known.map Hd.cs)), (2, .var [.b (i64 0), .nil, .nil])]⟩) ?_ ?_
 · intro K hK
   refine qd rfl [] (Tk [0, 3] (.take 4 [5, 6, 8] (.alt 1 (.alt 2 (.alt 5 (.take 6 [] (.alt 7 (.alt 8 .done .nil) .nil)) (.alt 7 (.alt 5 (.take 6 [] (.alt 8 .done .nil)) .nil) .nil)) (.alt 7 (.alt 2 (.alt 5 (.take 6 [] (.alt 8 .done .nil)) .nil) .nil) .nil)) (.alt 2 (.alt 1 (.alt 5 (.take 6 [] (.alt 7 (.alt 8 .done .nil) .nil)) (.alt 7 (.alt 5 (.take 6 [] (.alt 8 .done .nil)) .nil) .nil)) (.alt 5 (.take 1 [6, 8] (.take 6 [] (.alt 7 (.alt 8 .done .nil) .nil))) (.alt 7 (.alt 1 (.alt 5 (.take 6 [] (.alt 8 .done .nil)) .nil) (.alt 5 (.take 1 [6, 8] (.take 6 [] (.alt 8 .done .nil))) .nil)) .nil))) (.alt 7 (.alt 1 (.alt 2 (.alt 5 (.take 6 [] (.alt 8 .done .nil)) .nil) .nil) (.alt 2 (.alt 1 (.alt 5 (.take 6 [] (.alt 8 .done .nil)) .nil) (.alt 5 (.take 1 [6, 8] (.take 6 [] (.alt 8 .done .nil))) .nil)) .nil)) .nil))))) (by kernel_rfl) ?_
   refine y04 rfl ?_ ?_
   refine y04 rfl ?_ ?_
   refine xs rfl trivial ?_
   refine y04 rfl ?_ ?_
   refine xs rfl rfl (xs rfl (by simp) (xs rfl (fun _ => hsc) (xs rfl (by simp; omega) ?_)))
   refine xs rfl (by simp; omega) ?_; rotate_left
   refine xs rfl rfl (xs rfl (by simp) (xs rfl (fun _ => hsc) (xs rfl (by simp; omega) ?_)))
   refine xs rfl (by simp; omega) ?_; rotate_left
   refine xs rfl trivial (xs rfl rfl (xs rfl (by simp) (xs rfl (fun _ => hsc) (xs rfl (by simp; omega) ?_))))
   refine xs rfl (by simp; omega) ?_; rotate_left
   refine y04 rfl ?_ ?_
   refine xs rfl trivial ?_
   refine y04 rfl ?_ ?_
   refine y04 rfl ?_ ?_
   refine xs rfl rfl (xs rfl (by simp) (xs rfl (fun _ => hsc) (xs rfl (by simp; omega) ?_)))
   refine xs rfl (by simp; omega) ?_; rotate_left
   refine xs rfl rfl (xs rfl (by simp) (xs rfl (fun _ => hsc) (xs rfl (by simp; omega) ?_)))
   refine xs rfl (by simp; omega) ?_; rotate_left
   refine y04 rfl ?_ ?_
   refine xs rfl rfl (xs rfl (by simp) (xs rfl (fun _ => hsc) (xs rfl (by simp; omega) ?_)))
   refine xs rfl (by simp; omega) ?_; rotate_left
   refine y04 rfl ?_ ?_
   refine xs rfl rfl (xs rfl (by simp) (xs rfl (fun _ => hsc) (xs rfl (by simp; omega) ?_)))
   refine xs rfl (by simp; omega) ?_; rotate_left
   refine xs rfl rfl (xs rfl (by simp) (xs rfl (fun _ => hsc) (xs rfl (by simp; omega) ?_)))
   refine xs rfl (by simp; omega) ?_; rotate_left
   refine y04 rfl ?_ ?_
   refine xs rfl trivial (xs rfl rfl (xs rfl (by simp) (xs rfl (fun _ => hsc) (xs rfl (by simp; omega) ?_))))
   refine xs rfl (by simp; omega) ?_; rotate_left
   refine xs rfl trivial ?_
   refine y04 rfl ?_ ?_
   refine xs rfl rfl (xs rfl (by simp) (xs rfl (fun _ => hsc) (xs rfl (by simp; omega) ?_)))
   refine xs rfl (by simp; omega) ?_; rotate_left
   refine xs rfl rfl (xs rfl (by simp) (xs rfl (fun _ => hsc) (xs rfl (by simp; omega) ?_)))
   refine xs rfl (by simp; omega) ?_; rotate_left
   all_goals exact q9 rfl (hK _ () trivial ⟨⟨⟨rfl, rfl, rfl⟩, ⟨rfl, rfl, rfl⟩, rfl, trivial⟩, ⟨⟨rfl, trivial, ⟨rfl, by simp, rfl⟩, trivial⟩, ⟨rfl, .inl rfl, .inl rfl⟩, ⟨rfl, trivial, trivial, trivial⟩, trivial⟩, rfl⟩)
 intro _ _
 refine yd rfl (ι := Nat) (fun i => i ≤ l.tries.length) (fun i => ⟨[(4, sV (.int .i64 i)), (3, .one (.a 3 0)), (2, .one (.a 2 0)), (1, .one (.b (.p l.cs)))], [(3, .var [.b (i64 l.n), .h 39 ((l.tries.take i).map Tr.cs).length, .h 8 (l.known.map Hd.cs).length]), (39, .arr true 6 0 ((l.tries.take i).map Tr.cs)), (8, .arr true 5 0 (l.known.map Hd.cs)), (2, .var [.b (i64 0), .nil, .nil])]⟩) (fun i => l.tries.length - i) 0 (Nat.zero_le _) ?_ ?_
 · exact ⟨⟨rfl, ⟨rfl, rfl, rfl⟩, ⟨rfl, rfl, rfl⟩, rfl, trivial⟩, ⟨⟨rfl, ⟨rfl, rfl, rfl⟩, ⟨rfl, rfl, rfl⟩, trivial⟩, rfl, ⟨rfl, .inl rfl, .inl rfl⟩, ⟨rfl, trivial, trivial, trivial⟩, trivial⟩, rfl⟩
 · intro i hi J hJ
   refine xb rfl ?_ ?_ <;> intro h
   · have h : i < l.tries.length := by simpa using h
     obtain ⟨x, hx⟩ := gx h
     have hg := gm Tr.cs hx
     obtain ⟨b1, b2⟩ := bt x (List.mem_of_getElem? hx)
     have h1 := z5x x.fr
     have h2 := ya6 x.olds
     have hst := tk Tr.cs hx
     refine xs rfl (nn_ _) (y9 rfl _ hg (xs rfl rfl (xs rfl trivial (xs rfl rfl (xs rfl (by simp) (xs rfl (fun _ => h1) (xs rfl (by simp; omega) (xs rfl (by simp; omega) (xs rfl trivial ?_)))))))))
     refine xs rfl rfl (xs rfl (by simp) (xs rfl (fun _ => h2) (xs rfl (by simp; omega) (xs rfl (by simp; omega) (xs rfl (⟨trivial, trivial, trivial, trivial, ⟨rfl, List.length_append.symm⟩, ⟨rfl, List.length_append.symm⟩, trivial⟩) (xs rfl rfl (xs rfl rfl (xs rfl (.inl rfl) (xs rfl (by simp; omega) ?_)))))))))
     refine xs rfl (by simp; omega) ?_
     all_goals exact q9 rfl (hJ _ (i + 1) (by omega) (by omega) ⟨⟨cwi (by omega) (by omega) (by omega), ⟨rfl, rfl, rfl⟩, ⟨rfl, rfl, rfl⟩, rfl, trivial⟩, ⟨⟨rfl, ⟨rfl, by rw [hst]; exact List.length_append.symm, rfl⟩, ⟨rfl, rfl, rfl⟩, trivial⟩, ⟨hst.symm, .inl rfl, .inl rfl⟩, ⟨rfl, .inl rfl, .inl rfl⟩, ⟨rfl, trivial, trivial, trivial⟩, trivial⟩, rfl⟩)
   · have h : i = l.tries.length := by have : ¬ i < l.tries.length := (by simpa using h); omega
     subst h
     rw [List.take_length]
     refine xr rfl (qm rfl ⟨⟨rfl, rfl, ⟨rfl, rfl, .inl rfl⟩, ⟨rfl, rfl, .inl rfl⟩, trivial⟩, z6 rfl⟩)
theorem z6u (c : Clu) (ho : q00 c) : PC Tryz.prog 74 [.agg c.cs] (.one (.own true [.l 2 (c.cons.map Con.cs), .l 6 (c.shs.map Shd.cs), .l 1 (c.accs.map Acc.cs), .l 3 (c.ldrs.map Ldr.cs), .l 9 (c.msgs.map Msg.cs)])) := by
 refine PC.begin Tryz.func74 rfl (by kernel_rfl) ?_
 obtain ⟨⟨lc, bc⟩, ⟨ls, bs⟩, ⟨la, ba⟩, ⟨ll, bl⟩, lm⟩ := ho
 have h1 := q8s c.accs la ba
 have hsc := z9h c.msgs
 refine z96 (n := 0) rfl (ι := Unit) (fun _ => True) (fun _ => ⟨[(2, .one (.a 2 0)), (1, .one (.b (.p c.cs)))], [(2, .var [.nil, .nil, .nil, .nil, .nil])]⟩) ?_ ?_
 · intro K hK
   exact q9 rfl (hK _ () trivial ⟨⟨⟨rfl, rfl, rfl⟩, ⟨rfl, rfl, rfl⟩, trivial⟩, ⟨tv6, trivial⟩, rfl⟩)
 intro _ _
 refine z96 (n := 0) rfl (ι := Unit) (fun _ => True) (fun _ => ⟨[(3, .one (.a 3 0)), (2, .one (.a 2 0)), (1, .one (.b (.p c.cs)))], [(3, .var [.nil, .nil, .h 1000000 (c.accs.map Acc.cs).length, .nil, .h 10 (c.msgs.map Msg.cs).length]), (1000000, .arr true 1 0 (c.accs.map Acc.cs)), (10, .arr true 9 0 (c.msgs.map Msg.cs)), (2, .var [.nil, .nil, .nil, .nil, .nil])]⟩) ?_ ?_
 · intro K hK
   refine qd rfl [] (.take 0 [] (.take 1 [2, 6, 7, 9] (.take 4 [] (.take 5 [6, 7, 9] (.alt 2 (.alt 3 (.alt 6 (.take 7 [] (.alt 8 (.alt 9 .done .nil) .nil)) (.alt 8 (.alt 6 (.take 7 [] (.alt 9 .done .nil)) .nil) .nil)) (.alt 8 (.alt 3 (.alt 6 (.take 7 [] (.alt 9 .done .nil)) .nil) .nil) .nil)) (.alt 3 (.alt 2 (.alt 6 (.take 7 [] (.alt 8 (.alt 9 .done .nil) .nil)) (.alt 8 (.alt 6 (.take 7 [] (.alt 9 .done .nil)) .nil) .nil)) (.alt 8 (.alt 2 (.alt 6 (.take 7 [] (.alt 9 .done .nil)) .nil) .nil) .nil)) (.alt 8 (.alt 2 (.alt 3 (.alt 6 (.take 7 [] (.alt 9 .done .nil)) .nil) .nil) (.alt 3 (.alt 2 (.alt 6 (.take 7 [] (.alt 9 .done .nil)) .nil) .nil) .nil)) .nil))))))) (by kernel_rfl) ?_
   refine y04 rfl ?_ ?_
   refine z7 rfl (h1) rfl ⟨trivial, trivial⟩ ?_
   refine y04 rfl ?_ ?_
   refine xs rfl trivial ?_
   refine y04 rfl ?_ ?_
   refine xs rfl rfl (xs rfl (by simp) (xs rfl (fun _ => hsc) (xs rfl (by simp; omega) ?_)))
   refine xs rfl (by simp; omega) ?_; rotate_left
   refine xs rfl rfl (xs rfl (by simp) (xs rfl (fun _ => hsc) (xs rfl (by simp; omega) ?_)))
   refine xs rfl (by simp; omega) ?_; rotate_left
   refine xs rfl trivial (xs rfl rfl (xs rfl (by simp) (xs rfl (fun _ => hsc) (xs rfl (by simp; omega) ?_))))
   refine xs rfl (by simp; omega) ?_; rotate_left
   refine y04 rfl ?_ ?_
   refine xs rfl trivial ?_
   refine y04 rfl ?_ ?_
   refine z7 rfl (h1) rfl ⟨trivial, trivial⟩ ?_
   refine y04 rfl ?_ ?_
   refine xs rfl rfl (xs rfl (by simp) (xs rfl (fun _ => hsc) (xs rfl (by simp; omega) ?_)))
   refine xs rfl (by simp; omega) ?_; rotate_left
   refine xs rfl rfl (xs rfl (by simp) (xs rfl (fun _ => hsc) (xs rfl (by simp; omega) ?_)))
   refine xs rfl (by simp; omega) ?_; rotate_left
   refine z7 rfl (h1) rfl ⟨trivial, trivial⟩ (xs rfl rfl (xs rfl (by simp) (xs rfl (fun _ => hsc) (xs rfl (by simp; omega) ?_))))
   refine xs rfl (by simp; omega) ?_; rotate_left
   refine y04 rfl ?_ ?_
   refine z7 rfl (h1) rfl ⟨trivial, trivial⟩ (xs rfl trivial (xs rfl rfl (xs rfl (by simp) (xs rfl (fun _ => hsc) (xs rfl (by simp; omega) ?_)))))
   refine xs rfl (by simp; omega) ?_; rotate_left
   refine xs rfl trivial (z7 rfl (h1) rfl ⟨trivial, trivial⟩ (xs rfl rfl (xs rfl (by simp) (xs rfl (fun _ => hsc) (xs rfl (by simp; omega) ?_)))))
   refine xs rfl (by simp; omega) ?_; rotate_left
   all_goals exact q9 rfl (hK _ () trivial ⟨⟨⟨rfl, rfl, rfl⟩, ⟨rfl, rfl, rfl⟩, rfl, trivial⟩, ⟨⟨trivial, trivial, ⟨rfl, rfl, rfl⟩, trivial, ⟨rfl, by simp, rfl⟩, trivial⟩, ⟨rfl, .inl rfl, .inl rfl⟩, ⟨rfl, .inl rfl, .inl rfl⟩, tv6, trivial⟩, rfl⟩)
 intro _ _
 refine yd rfl (ι := Nat) (fun i => i ≤ c.cons.length) (fun i => ⟨[(4, sV (.int .i64 i)), (3, .one (.a 3 0)), (2, .one (.a 2 0)), (1, .one (.b (.p c.cs)))], [(3, .var [.h 31 ((c.cons.take i).map Con.cs).length, .nil, .h 1000000 (c.accs.map Acc.cs).length, .nil, .h 10 (c.msgs.map Msg.cs).length]), (31, .arr true 2 0 ((c.cons.take i).map Con.cs)), (1000000, .arr true 1 0 (c.accs.map Acc.cs)), (10, .arr true 9 0 (c.msgs.map Msg.cs)), (2, .var [.nil, .nil, .nil, .nil, .nil])]⟩) (fun i => c.cons.length - i) 0 (Nat.zero_le _) ?_ ?_
 · exact ⟨⟨rfl, ⟨rfl, rfl, rfl⟩, ⟨rfl, rfl, rfl⟩, rfl, trivial⟩, ⟨⟨⟨rfl, rfl, rfl⟩, trivial, ⟨rfl, rfl, rfl⟩, trivial, ⟨rfl, rfl, rfl⟩, trivial⟩, rfl, ⟨rfl, .inl rfl, .inl rfl⟩, ⟨rfl, .inl rfl, .inl rfl⟩, tv6, trivial⟩, rfl⟩
 · intro i hi J hJ
   refine xb rfl ?_ ?_ <;> intro h
   · have h : i < c.cons.length := by simpa using h
     obtain ⟨x, hx⟩ := gx h
     have hg := gm Con.cs hx
     have hc := q1r x (bc x (List.mem_of_getElem? hx))
     have hst := tk Con.cs hx
     refine qd rfl [] (.take 0 [] (.take 1 (Rg 9 3) (.take 2 [] (.take 3 (Rg 5 7) (Tk [4, 5] (.take 6 (Rg 7 5) (.alt 7 (.alt 8 (.alt 9 (.take 10 [] (.alt 11 .done .nil)) .nil) .nil) .nil))))))) (by kernel_rfl) (xs rfl (nn_ _) (y9 rfl _ hg (xs rfl rfl (z7 rfl (hc) rfl ⟨tv3, trivial⟩ (xs rfl ⟨trivial, ⟨rfl, rfl⟩, trivial⟩ (xs rfl rfl (xs rfl rfl (xs rfl (.inl rfl) (xs rfl (by simp; omega) ?_)))))))))
     refine xs rfl (by simp; omega) ?_
     all_goals exact q9 rfl (hJ _ (i + 1) (by omega) (by omega) ⟨⟨cwi (by omega) (by omega) (by omega), ⟨rfl, rfl, rfl⟩, ⟨rfl, rfl, rfl⟩, rfl, trivial⟩, ⟨⟨⟨rfl, by rw [hst]; exact List.length_append.symm, rfl⟩, trivial, ⟨rfl, rfl, rfl⟩, trivial, ⟨rfl, rfl, rfl⟩, trivial⟩, ⟨hst.symm, .inl rfl, .inl rfl⟩, ⟨rfl, .inl rfl, .inl rfl⟩, ⟨rfl, .inl rfl, .inl rfl⟩, tv6, trivial⟩, rfl⟩)
   · have h : i = c.cons.length := by have : ¬ i < c.cons.length := (by simpa using h); omega
     subst h
     rw [List.take_length]
     refine yd rfl (ι := Nat) (fun i => i ≤ c.shs.length) (fun i => ⟨[(5, sV (.int .i64 i)), (3, .one (.a 3 0)), (2, .one (.a 2 0)), (1, .one (.b (.p c.cs)))], [(3, .var [.h 31 (c.cons.map Con.cs).length, .h 49 ((c.shs.take i).map Shd.cs).length, .h 1000000 (c.accs.map Acc.cs).length, .nil, .h 10 (c.msgs.map Msg.cs).length]), (49, .arr true 6 0 ((c.shs.take i).map Shd.cs)), (31, .arr true 2 0 (c.cons.map Con.cs)), (1000000, .arr true 1 0 (c.accs.map Acc.cs)), (10, .arr true 9 0 (c.msgs.map Msg.cs)), (2, .var [.nil, .nil, .nil, .nil, .nil])]⟩) (fun i => c.shs.length - i) 0 (Nat.zero_le _) ?_ ?_
     · exact ⟨⟨rfl, ⟨rfl, rfl, rfl⟩, ⟨rfl, rfl, rfl⟩, rfl, trivial⟩, ⟨⟨⟨rfl, rfl, rfl⟩, ⟨rfl, rfl, rfl⟩, ⟨rfl, rfl, rfl⟩, trivial, ⟨rfl, rfl, rfl⟩, trivial⟩, rfl, ⟨rfl, .inl rfl, .inl rfl⟩, ⟨rfl, .inl rfl, .inl rfl⟩, ⟨rfl, .inl rfl, .inl rfl⟩, tv6, trivial⟩, rfl⟩
     · intro i hi J hJ
       refine xb rfl ?_ ?_ <;> intro h
       · have h : i < c.shs.length := by simpa using h
         obtain ⟨x, hx⟩ := gx h
         have hg := gm Shd.cs hx
         have hc := q6t x (bs x (List.mem_of_getElem? hx))
         have hst := tk Shd.cs hx
         refine qd rfl [] (.take 0 [] (.take 1 (Rg 9 3) (.take 2 [] (.take 3 (Rg 5 7) (Tk [4, 5] (.take 6 (Rg 7 5) (.alt 7 (.alt 8 (.alt 9 (.take 10 [] (.alt 11 .done .nil)) .nil) .nil) .nil))))))) (by kernel_rfl) (xs rfl (nn_ _) (y9 rfl _ hg (xs rfl rfl (z7 rfl (hc) rfl ⟨tv7, trivial⟩ (xs rfl ⟨trivial, ⟨rfl, rfl⟩, ⟨rfl, rfl⟩, ⟨rfl, rfl⟩, ⟨rfl, rfl⟩, ⟨rfl, rfl⟩, trivial⟩ (xs rfl rfl (xs rfl rfl (xs rfl (.inl rfl) (xs rfl (by simp; omega) ?_)))))))))
         refine xs rfl (by simp; omega) ?_
         all_goals exact q9 rfl (hJ _ (i + 1) (by omega) (by omega) ⟨⟨cwi (by omega) (by omega) (by omega), ⟨rfl, rfl, rfl⟩, ⟨rfl, rfl, rfl⟩, rfl, trivial⟩, ⟨⟨⟨rfl, rfl, rfl⟩, ⟨rfl, by rw [hst]; exact List.length_append.symm, rfl⟩, ⟨rfl, rfl, rfl⟩, trivial, ⟨rfl, rfl, rfl⟩, trivial⟩, ⟨hst.symm, .inl rfl, .inl rfl⟩, ⟨rfl, .inl rfl, .inl rfl⟩, ⟨rfl, .inl rfl, .inl rfl⟩, ⟨rfl, .inl rfl, .inl rfl⟩, tv6, trivial⟩, rfl⟩)
       · have h : i = c.shs.length := by have : ¬ i < c.shs.length := (by simpa using h); omega
         subst h
         rw [List.take_length]
         refine yd rfl (ι := Nat) (fun i => i ≤ c.ldrs.length) (fun i => ⟨[(6, sV (.int .i64 i)), (3, .one (.a 3 0)), (2, .one (.a 2 0)), (1, .one (.b (.p c.cs)))], [(3, .var [.h 31 (c.cons.map Con.cs).length, .h 49 (c.shs.map Shd.cs).length, .h 1000000 (c.accs.map Acc.cs).length, .h 67 ((c.ldrs.take i).map Ldr.cs).length, .h 10 (c.msgs.map Msg.cs).length]), (67, .arr true 3 0 ((c.ldrs.take i).map Ldr.cs)), (31, .arr true 2 0 (c.cons.map Con.cs)), (49, .arr true 6 0 (c.shs.map Shd.cs)), (1000000, .arr true 1 0 (c.accs.map Acc.cs)), (10, .arr true 9 0 (c.msgs.map Msg.cs)), (2, .var [.nil, .nil, .nil, .nil, .nil])]⟩) (fun i => c.ldrs.length - i) 0 (Nat.zero_le _) ?_ ?_
         · exact ⟨⟨rfl, ⟨rfl, rfl, rfl⟩, ⟨rfl, rfl, rfl⟩, rfl, trivial⟩, ⟨⟨⟨rfl, rfl, rfl⟩, ⟨rfl, rfl, rfl⟩, ⟨rfl, rfl, rfl⟩, ⟨rfl, rfl, rfl⟩, ⟨rfl, rfl, rfl⟩, trivial⟩, rfl, ⟨rfl, .inl rfl, .inl rfl⟩, ⟨rfl, .inl rfl, .inl rfl⟩, ⟨rfl, .inl rfl, .inl rfl⟩, ⟨rfl, .inl rfl, .inl rfl⟩, tv6, trivial⟩, rfl⟩
         · intro i hi J hJ
           refine xb rfl ?_ ?_ <;> intro h
           · have h : i < c.ldrs.length := by simpa using h
             obtain ⟨x, hx⟩ := gx h
             have hg := gm Ldr.cs hx
             have hc := y52 x (bl x (List.mem_of_getElem? hx))
             have hst := tk Ldr.cs hx
             refine qd rfl [] (.take 0 [] (.take 1 (Rg 9 3) (.take 2 [] (.take 3 (Rg 5 7) (Tk [4, 5] (.take 6 (Rg 7 5) (.alt 7 (.alt 8 (.alt 9 (.take 10 [] (.alt 11 .done .nil)) .nil) .nil) .nil))))))) (by kernel_rfl) (xs rfl (nn_ _) (y9 rfl _ hg (xs rfl rfl (z7 rfl (hc) rfl ⟨tv4, trivial⟩ (xs rfl ⟨trivial, ⟨rfl, rfl⟩, ⟨rfl, rfl⟩, trivial⟩ (xs rfl rfl (xs rfl rfl (xs rfl (.inl rfl) (xs rfl (by simp; omega) ?_)))))))))
             refine xs rfl (by simp; omega) ?_
             all_goals exact q9 rfl (hJ _ (i + 1) (by omega) (by omega) ⟨⟨cwi (by omega) (by omega) (by omega), ⟨rfl, rfl, rfl⟩, ⟨rfl, rfl, rfl⟩, rfl, trivial⟩, ⟨⟨⟨rfl, rfl, rfl⟩, ⟨rfl, rfl, rfl⟩, ⟨rfl, rfl, rfl⟩, ⟨rfl, by rw [hst]; exact List.length_append.symm, rfl⟩, ⟨rfl, rfl, rfl⟩, trivial⟩, ⟨hst.symm, .inl rfl, .inl rfl⟩, ⟨rfl, .inl rfl, .inl rfl⟩, ⟨rfl, .inl rfl, .inl rfl⟩, ⟨rfl, .inl rfl, .inl rfl⟩, ⟨rfl, .inl rfl, .inl rfl⟩, tv6, trivial⟩, rfl⟩)
           · have h : i = c.ldrs.length := by have : ¬ i < c.ldrs.length := (by simpa using h); omega
             subst h
             rw [List.take_length]
             refine xr rfl (qm rfl ⟨⟨rfl, ⟨rfl, rfl, .inl rfl⟩, ⟨rfl, rfl, .inl rfl⟩, ⟨rfl, rfl, .inl rfl⟩, ⟨rfl, rfl, .inl rfl⟩, ⟨rfl, rfl, .inl rfl⟩, trivial⟩, z6 rfl⟩)
theorem z3n (c : Clu) (ho : q00 c) : PC Tryz.prog 237 [.agg c.cs] (.one (.own true [.l 2 (c.cons.map Con.cs), .l 6 (c.shs.map Shd.cs), .l 1 (c.accs.map Acc.cs), .l 3 (c.ldrs.map Ldr.cs), .l 9 (c.msgs.map Msg.cs)])) := by
 refine PC.begin Tryz.func237 rfl (by kernel_rfl) ?_
 obtain ⟨⟨lc, bc⟩, ⟨ls, bs⟩, ⟨la, ba⟩, ⟨ll, bl⟩, lm⟩ := ho
 have h1 := q18 c.cons lc bc
 have h2 := z2r c.accs la ba
 have h3 := y2z c.msgs lm
 refine z96 (n := 0) rfl (ι := Unit) (fun _ => True) (fun _ => ⟨[(2, .one (.a 2 0)), (1, .one (.b (.p c.cs)))], [(2, .var [.nil, .nil, .nil, .nil, .nil])]⟩) ?_ ?_
 · intro K hK
   exact q9 rfl (hK _ () trivial ⟨⟨⟨rfl, rfl, rfl⟩, ⟨rfl, rfl, rfl⟩, trivial⟩, ⟨tv6, trivial⟩, rfl⟩)
 intro _ _
 refine z96 (n := 0) rfl (ι := Unit) (fun _ => True) (fun _ => ⟨[(3, .one (.a 3 0)), (2, .one (.a 2 0)), (1, .one (.b (.p c.cs)))], [(3, .var [.h 1400000 (c.cons.map Con.cs).length, .nil, .h 1700000 (c.accs.map Acc.cs).length, .nil, .h 2000000 (c.msgs.map Msg.cs).length]), (1400000, .arr true 2 0 (c.cons.map Con.cs)), (1700000, .arr true 1 0 (c.accs.map Acc.cs)), (2000000, .arr true 9 0 (c.msgs.map Msg.cs)), (2, .var [.nil, .nil, .nil, .nil, .nil])]⟩) ?_ ?_
 · intro K hK
   refine qd rfl [] (.take 0 [] (.take 1 [2, 5, 8, 9, 11] (.take 3 [] (.take 4 [5, 8, 9, 11] (.take 6 [] (.take 7 [8, 9, 11] (.alt 2 (.alt 5 (.alt 8 (.take 9 [] (.alt 10 (.alt 11 .done .nil) .nil)) (.alt 10 (.alt 8 (.take 9 [] (.alt 11 .done .nil)) .nil) .nil)) (.alt 10 (.alt 5 (.alt 8 (.take 9 [] (.alt 11 .done .nil)) .nil) .nil) .nil)) (.alt 10 (.alt 2 (.alt 5 (.alt 8 (.take 9 [] (.alt 11 .done .nil)) .nil) .nil) .nil) .nil)))))))) (by kernel_rfl) ?_
   refine y04 rfl ?_ ?_
   refine z7 rfl (h1) rfl ⟨trivial, trivial⟩ ?_
   refine y04 rfl ?_ ?_
   refine z7 rfl (h2) rfl ⟨trivial, trivial⟩ ?_
   refine y04 rfl ?_ ?_
   refine z7 rfl (h3) rfl ⟨trivial, trivial⟩ ?_; rotate_left
   refine z7 rfl (h3) rfl ⟨trivial, trivial⟩ ?_; rotate_left
   refine z7 rfl (h2) rfl ⟨trivial, trivial⟩ ?_
   refine z7 rfl (h3) rfl ⟨trivial, trivial⟩ ?_; rotate_left
   refine z7 rfl (h1) rfl ⟨trivial, trivial⟩ (z7 rfl (h2) rfl ⟨trivial, trivial⟩ ?_)
   refine z7 rfl (h3) rfl ⟨trivial, trivial⟩ ?_; rotate_left
   all_goals exact q9 rfl (hK _ () trivial ⟨⟨⟨rfl, rfl, rfl⟩, ⟨rfl, rfl, rfl⟩, rfl, trivial⟩, ⟨⟨⟨rfl, rfl, rfl⟩, trivial, ⟨rfl, rfl, rfl⟩, trivial, ⟨rfl, rfl, rfl⟩, trivial⟩, ⟨rfl, .inl rfl, .inl rfl⟩, ⟨rfl, .inl rfl, .inl rfl⟩, ⟨rfl, .inl rfl, .inl rfl⟩, tv6, trivial⟩, rfl⟩)
 intro _ _
 refine yd rfl (ι := Nat) (fun i => i ≤ c.shs.length) (fun i => ⟨[(24, sV (.int .i64 i)), (23, sV (.int .i64 (c.shs.map Shd.cs).length)), (22, .one (.b (.l (c.shs.map Shd.cs)))), (3, .one (.a 3 0)), (2, .one (.a 2 0)), (1, .one (.b (.p c.cs)))], [(3, .var [.h 1400000 (c.cons.map Con.cs).length, .h 33 ((c.shs.take i).map Shd.cs).length, .h 1700000 (c.accs.map Acc.cs).length, .nil, .h 2000000 (c.msgs.map Msg.cs).length]), (33, .arr true 6 0 ((c.shs.take i).map Shd.cs)), (1400000, .arr true 2 0 (c.cons.map Con.cs)), (1700000, .arr true 1 0 (c.accs.map Acc.cs)), (2000000, .arr true 9 0 (c.msgs.map Msg.cs)), (2, .var [.nil, .nil, .nil, .nil, .nil])]⟩) (fun i => c.shs.length - i) 0 (Nat.zero_le _) ?_ ?_
 · exact ⟨⟨rfl, rfl, rfl, ⟨rfl, rfl, rfl⟩, ⟨rfl, rfl, rfl⟩, rfl, trivial⟩, ⟨⟨⟨rfl, rfl, rfl⟩, ⟨rfl, rfl, rfl⟩, ⟨rfl, rfl, rfl⟩, trivial, ⟨rfl, rfl, rfl⟩, trivial⟩, rfl, ⟨rfl, .inl rfl, .inl rfl⟩, ⟨rfl, .inl rfl, .inl rfl⟩, ⟨rfl, .inl rfl, .inl rfl⟩, tv6, trivial⟩, rfl⟩
 · intro i hi J hJ
   refine xb rfl ?_ ?_ <;> intro h
   · have h : i < c.shs.length := by simpa using h
     obtain ⟨x, hx⟩ := gx h
     have hg := gm Shd.cs hx
     have hc := y4w x (bs x (List.mem_of_getElem? hx))
     have hst := tk Shd.cs hx
     refine xs rfl (by simp) (y9 rfl _ hg (xs rfl rfl (qd rfl [] (.take 0 [] (.take 1 (Rg 5 3) (.take 2 (Rg 3 5) (.alt 3 (.alt 4 (.alt 5 (.take 6 [] (.alt 7 .done .nil)) .nil) .nil) .nil)))) (by kernel_rfl) (z7 rfl (hc) rfl ⟨tv7, trivial⟩ (xs rfl ⟨trivial, ⟨rfl, rfl⟩, ⟨rfl, rfl⟩, ⟨rfl, rfl⟩, ⟨rfl, rfl⟩, ⟨rfl, rfl⟩, trivial⟩ (xs rfl rfl (xs rfl rfl (xs rfl (.inl rfl) (xs rfl (by simp; omega) ?_)))))))))
     refine xs rfl (by simp; omega) ?_
     all_goals exact q9 rfl (hJ _ (i + 1) (by omega) (by omega) ⟨⟨cwi (by omega) (by omega) (by omega), rfl, rfl, ⟨rfl, rfl, rfl⟩, ⟨rfl, rfl, rfl⟩, rfl, trivial⟩, ⟨⟨⟨rfl, rfl, rfl⟩, ⟨rfl, by rw [hst]; exact List.length_append.symm, rfl⟩, ⟨rfl, rfl, rfl⟩, trivial, ⟨rfl, rfl, rfl⟩, trivial⟩, ⟨hst.symm, .inl rfl, .inl rfl⟩, ⟨rfl, .inl rfl, .inl rfl⟩, ⟨rfl, .inl rfl, .inl rfl⟩, ⟨rfl, .inl rfl, .inl rfl⟩, tv6, trivial⟩, rfl⟩)
   · have h : i = c.shs.length := by have : ¬ i < c.shs.length := (by simpa using h); omega
     subst h
     rw [List.take_length]
     refine yd rfl (ι := Nat) (fun i => i ≤ c.ldrs.length) (fun i => ⟨[(39, sV (.int .i64 i)), (38, sV (.int .i64 (c.ldrs.map Ldr.cs).length)), (37, .one (.b (.l (c.ldrs.map Ldr.cs)))), (3, .one (.a 3 0)), (2, .one (.a 2 0)), (1, .one (.b (.p c.cs)))], [(3, .var [.h 1400000 (c.cons.map Con.cs).length, .h 33 (c.shs.map Shd.cs).length, .h 1700000 (c.accs.map Acc.cs).length, .h 74 ((c.ldrs.take i).map Ldr.cs).length, .h 2000000 (c.msgs.map Msg.cs).length]), (33, .arr true 6 0 (c.shs.map Shd.cs)), (74, .arr true 3 0 ((c.ldrs.take i).map Ldr.cs)), (1400000, .arr true 2 0 (c.cons.map Con.cs)), (1700000, .arr true 1 0 (c.accs.map Acc.cs)), (2000000, .arr true 9 0 (c.msgs.map Msg.cs)), (2, .var [.nil, .nil, .nil, .nil, .nil])]⟩) (fun i => c.ldrs.length - i) 0 (Nat.zero_le _) ?_ ?_
     · exact ⟨⟨rfl, rfl, rfl, ⟨rfl, rfl, rfl⟩, ⟨rfl, rfl, rfl⟩, rfl, trivial⟩, ⟨⟨⟨rfl, rfl, rfl⟩, ⟨rfl, rfl, rfl⟩, ⟨rfl, rfl, rfl⟩, ⟨rfl, rfl, rfl⟩, ⟨rfl, rfl, rfl⟩, trivial⟩, ⟨rfl, .inl rfl, .inl rfl⟩, rfl, ⟨rfl, .inl rfl, .inl rfl⟩, ⟨rfl, .inl rfl, .inl rfl⟩, ⟨rfl, .inl rfl, .inl rfl⟩, tv6, trivial⟩, rfl⟩
     · intro i hi J hJ
       refine xb rfl ?_ ?_ <;> intro h
       · have h : i < c.ldrs.length := by simpa using h
         obtain ⟨x, hx⟩ := gx h
         have hg := gm Ldr.cs hx
         obtain ⟨lt, lk, bt⟩ := bl x (List.mem_of_getElem? hx)
         have hst := tk Ldr.cs hx
         have hk := q47 x.known lk
         refine xs rfl (nn_ _) (y9 rfl _ hg (xs rfl rfl (xs rfl trivial ?_)))
         refine yd rfl (ι := Nat) (fun k => k ≤ x.tries.length) (fun k => ⟨[(47, sV (.int .i64 k)), (46, sV (.int .i64 (x.tries.map Tr.cs).length)), (45, .one (.b (.l (x.tries.map Tr.cs)))), (8, .one (.h 43 ((x.tries.take k).map Tr.cs).length)), (7, .one (.a 7 0)), (39, sV (.int .i64 i)), (38, sV (.int .i64 (c.ldrs.map Ldr.cs).length)), (37, .one (.b (.l (c.ldrs.map Ldr.cs)))), (3, .one (.a 3 0)), (2, .one (.a 2 0)), (1, .one (.b (.p c.cs)))], [(43, .arr true 6 0 ((x.tries.take k).map Tr.cs)), (7, .var [.b (i64 x.n), .b (.l (x.tries.map Tr.cs)), .b (.l (x.known.map Hd.cs))]), (3, .var [.h 1400000 (c.cons.map Con.cs).length, .h 33 (c.shs.map Shd.cs).length, .h 1700000 (c.accs.map Acc.cs).length, .h 74 ((c.ldrs.take i).map Ldr.cs).length, .h 2000000 (c.msgs.map Msg.cs).length]), (33, .arr true 6 0 (c.shs.map Shd.cs)), (74, .arr true 3 0 ((c.ldrs.take i).map Ldr.cs)), (1400000, .arr true 2 0 (c.cons.map Con.cs)), (1700000, .arr true 1 0 (c.accs.map Acc.cs)), (2000000, .arr true 9 0 (c.msgs.map Msg.cs)), (2, .var [.nil, .nil, .nil, .nil, .nil])]⟩) (fun k => x.tries.length - k) 0 (Nat.zero_le _) ?_ ?_
         · exact ⟨⟨rfl, rfl, rfl, ⟨rfl, rfl, rfl⟩, ⟨rfl, rfl, rfl⟩, rfl, rfl, rfl, ⟨rfl, rfl, rfl⟩, ⟨rfl, rfl, rfl⟩, rfl, trivial⟩, ⟨⟨rfl, .inl rfl, .inl rfl⟩, ⟨rfl, rfl, rfl, trivial⟩, ⟨⟨rfl, rfl, rfl⟩, ⟨rfl, rfl, rfl⟩, ⟨rfl, rfl, rfl⟩, ⟨rfl, rfl, rfl⟩, ⟨rfl, rfl, rfl⟩, trivial⟩, ⟨rfl, .inl rfl, .inl rfl⟩, ⟨rfl, .inl rfl, .inl rfl⟩, ⟨rfl, .inl rfl, .inl rfl⟩, ⟨rfl, .inl rfl, .inl rfl⟩, ⟨rfl, .inl rfl, .inl rfl⟩, tv6, trivial⟩, rfl⟩
         · intro k hk' J' hJ'
           refine xb rfl (fun h' => ?_) (fun h' => ?_)
           · have h' : k < x.tries.length := by simpa using h'
             obtain ⟨t, ht⟩ := gx h'
             have hgt := gm Tr.cs ht
             obtain ⟨b1, b2⟩ := bt t (List.mem_of_getElem? ht)
             have hf := z2z t.fr b1
             have hv := q2j t.olds b2
             have hst' := tk Tr.cs ht
             refine xs rfl (by simp) (y9 rfl _ hgt (xs rfl rfl (qd rfl [] (.take 0 [] (.take 1 (Rg 2 1 ++ Rg 5 5) (.take 3 [] (.take 4 (Rg 5 5) (.alt 2 (.take 6 [] (.alt 5 (.alt 7 (.take 8 [] (.alt 9 .done .nil)) .nil) .nil)) .nil))))) (by kernel_rfl) (z7 rfl (hf) rfl ⟨trivial, trivial⟩ (z7 rfl (hv) rfl ⟨trivial, trivial⟩ (xs rfl ⟨trivial, trivial, trivial, trivial, ⟨rfl, rfl⟩, ⟨rfl, rfl⟩, trivial⟩ (xs rfl rfl (xs rfl rfl (xs rfl (.inl rfl) ?_)))))))))
             refine xs rfl (by simp; omega) (xs rfl (by simp; omega) ?_)
             all_goals exact q9 rfl (hJ' _ (k + 1) (by omega) (by omega) ⟨⟨cwi (by omega) (by omega) (by omega), rfl, rfl, ⟨rfl, by rw [hst']; exact List.length_append.symm, rfl⟩, ⟨rfl, rfl, rfl⟩, rfl, rfl, rfl, ⟨rfl, rfl, rfl⟩, ⟨rfl, rfl, rfl⟩, rfl, trivial⟩, ⟨⟨hst'.symm, .inl rfl, .inl rfl⟩, ⟨rfl, rfl, rfl, trivial⟩, ⟨⟨rfl, rfl, rfl⟩, ⟨rfl, rfl, rfl⟩, ⟨rfl, rfl, rfl⟩, ⟨rfl, rfl, rfl⟩, ⟨rfl, rfl, rfl⟩, trivial⟩, ⟨rfl, .inl rfl, .inl rfl⟩, ⟨rfl, .inl rfl, .inl rfl⟩, ⟨rfl, .inl rfl, .inl rfl⟩, ⟨rfl, .inl rfl, .inl rfl⟩, ⟨rfl, .inl rfl, .inl rfl⟩, tv6, trivial⟩, rfl⟩)
           · have h' : k = x.tries.length := by have : ¬ k < x.tries.length := by simpa using h'
                                                omega
             subst h'
             rw [List.take_length]
             refine qd rfl [] (.take 0 [] (.take 1 (Rg 10 3) (.take 2 [] (.take 3 (Rg 8 5) (Tk [4, 5] (.take 6 (Rg 7 6) (.alt 7 (.take 8 [] (.alt 9 (.alt 10 (.take 11 [] (.alt 12 .done .nil)) .nil) .nil)) .nil))))))) (by kernel_rfl) (z7 rfl (hk) rfl ⟨trivial, trivial⟩ (xs rfl ⟨trivial, ⟨rfl, rfl⟩, ⟨rfl, rfl⟩, trivial⟩ (xs rfl rfl (xs rfl rfl (xs rfl (.inl rfl) (xs rfl (by simp; omega) (xs rfl (by simp; omega) ?_)))))))
             all_goals exact q9 rfl (hJ _ (i + 1) (by omega) (by omega) ⟨⟨cwi (by omega) (by omega) (by omega), rfl, rfl, ⟨rfl, rfl, rfl⟩, ⟨rfl, rfl, rfl⟩, rfl, trivial⟩, ⟨⟨⟨rfl, rfl, rfl⟩, ⟨rfl, rfl, rfl⟩, ⟨rfl, rfl, rfl⟩, ⟨rfl, by rw [hst]; exact List.length_append.symm, rfl⟩, ⟨rfl, rfl, rfl⟩, trivial⟩, ⟨rfl, .inl rfl, .inl rfl⟩, ⟨hst.symm, .inl rfl, .inl rfl⟩, ⟨rfl, .inl rfl, .inl rfl⟩, ⟨rfl, .inl rfl, .inl rfl⟩, ⟨rfl, .inl rfl, .inl rfl⟩, tv6, trivial⟩, rfl⟩)
       · have h : i = c.ldrs.length := by have : ¬ i < c.ldrs.length := (by simpa using h); omega
         subst h
         rw [List.take_length]
         refine xr rfl (qm rfl ⟨⟨rfl, ⟨rfl, rfl, .inl rfl⟩, ⟨rfl, rfl, .inl rfl⟩, ⟨rfl, rfl, .inl rfl⟩, ⟨rfl, rfl, .inl rfl⟩, ⟨rfl, rfl, .inl rfl⟩, trivial⟩, z6 rfl⟩)
end Go.Proofs.YtbnbjaedijbnpaaGreat
end
