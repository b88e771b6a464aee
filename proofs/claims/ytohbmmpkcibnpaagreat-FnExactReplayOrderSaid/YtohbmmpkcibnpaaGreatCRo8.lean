/- WHAT IS PROVED: FnExactReplayOrder, for every argument of its parameters' types that can be read as data: the call returns true and its arguments read as before. No condition. -/
import Derived.Test.YtohbmmpkcibnpaaGreatCRo7
import Derived.WalkKit
import Derived.OrdersHeld
import Derived.DeepKeys
import Derived.Maps.RangeWalk
import Derived.Maps.OwnOps
import Derived.WideKeyEntry
import Derived.Deep.Slices
import Derived.ChangeArms
import Derived.WideShapes
import Derived.Sort.AssemblyPlain
import Derived.Lib.SlicesCompact
import Derived.WideKeyPair
import Derived.Test.YtohbmmpkcibnpaaGreatProg
import Derived.Shelf.SortG.Plain
import Derived.Shelf.SortG.SortNone
import Derived.Shelf.SlicesG.CompactI
import Derived.Lib.OwnBridge
import Derived.RangeFuncGives
import Derived.RangeFuncBox
import Derived.RangeFuncLeaves
import Derived.Shelf.Abstract
import Derived.Maps.AppendAt
import Derived.OwnWalkIn
import Derived.TacticsInMore
import Derived.LoopNIn
import Derived.LoopIn
import Derived.Shelf.SlicesG.Delete
import Derived.Shelf.SlicesQ.Reverse
import Derived.Shelf.SlicesE.Kit
import Derived.Shelf.Spec.SlicesInsertGrow
import Derived.Test.YtohbmmpkcibnpaaGreatRows
import Derived.ProofKit
import Derived.OpenShut
import Derived.ShutString
import Derived.ChangeOld
import Derived.Below
import Derived.SizedLaws
set_option linter.unusedVariables false
set_option linter.unusedSimpArgs false
section
namespace Go.Proofs.YtohbmmpkcibnpaaGreat
open Go Go.Sx
set_option maxRecDepth 20000
set_option maxHeartbeats 4000000
open Go.Proofs Go.Shelf Go.RowKit Go.Lib
def qcv : Ren := ⟨fun _ => 291, fun t => bif Nat.beq t 3 then 3 else bif Nat.beq t 4 then 4 else bif Nat.beq t 22 then 64 else bif Nat.beq t 23 then 2 else 0, fun x => x⟩
theorem zc9 : SlLaysN.n45 Tryz.prog qcv where
 mixed := by kernel_rfl
 f45 := ⟨ "slices.Delete[[]int64,int64]", by decide, by kernel_rfl⟩
 t0 := Tryz.underlying0
 a0 := Tryz.isAgg0
 z0 := Tryz.sizeOf0
 v0 := Tryz.zeroValue0
 t3 := Tryz.underlying3
 a3 := Tryz.isAgg3
 z3 := Tryz.sizeOf3
 v3 := Tryz.zeroValue3
 t4 := Tryz.underlying4
 a4 := Tryz.isAgg4
 z4 := Tryz.sizeOf4
 v4 := Tryz.zeroValue4
 t22 := Tryz.underlying64
 a22 := Tryz.isAgg64
 z22 := Tryz.sizeOf64
 v22 := Tryz.zeroValue64
 t23 := Tryz.underlying2
 a23 := Tryz.isAgg2
 z23 := Tryz.sizeOf2
 v23 := Tryz.zeroValue2
 i23 := by kernel_rfl
theorem zal (N : Nat → Prop) (S : Nat → Prop) (us : List Int) (i : Nat) (w : World) (v0 : Value) (hi : i < us.length) (hS : ∀ x, S x → x < w.heap.size) (h0 : y0d w (CN w N true) S 1 (ints us) v0) :
 Calls Tryz.prog 291 #[v0, .int .i64 i, .int .i64 ((i : Int) + 1)] w fun e w' => ∃ (v' : Value) (R : Nat → Prop), e = .returned v' ∧ zt w w' S ∧ y0d w' (Go.Sx.Own w') R 1 (ints (us.eraseIdx i)) v' ∧ ∀ x, R x → S x ∧ x < w'.heap.size := by
 rcases z3r h0 with ⟨rfl, A, rfl⟩ | ⟨e, ho, hSo⟩
 · simp at hi
 · by_cases hn : v0 = .slice none 0 0
   · have hl : us.length = 0 := by
      rcases ho.2 with ⟨_, h⟩ | ⟨g, cap, cur, h, _⟩
      · exact h
      · rw [hn] at h; cases h
     omega
   · obtain ⟨g, cap, rfl, hb, hg, hc1, hc2, hzl, hH⟩ := holds_of_ownsRow ho hn
     refine (AnyG.slices_Delete_int zc9 g 0 cap i (i + 1) us w hH hc1 hc2 (by omega) (by omega)).mono ?_
     rintro e' w' ⟨rfl, q, rfl⟩
     have hgS := hSo g rfl; have hel : us.eraseIdx i = us.take i ++ us.drop (i + 1) := List.eraseIdx_eq_take_drop_succ us i; have hlen : (us.eraseIdx i).length = us.length - 1 := List.length_eraseIdx_of_lt hi; have hp := ownsRow_putRow (q := q) (k := (us.eraseIdx i).length) (ys := us.take i ++ us.drop (i + 1) ++ List.replicate (i + 1 - i) 0) ho (by rw [← hel]; simp; omega) (by omega); rw [← hel, List.take_left' rfl] at hp; rw [← hel, show us.length - (i + 1 - i) = (us.eraseIdx i).length by omega]; refine ⟨_, fun x => x = g, rfl, ⟨rfl, rfl, rfl, by simp [Sort.putRow, Sort.mapBlock, Sort.ahead], fun k hk hnk => ?_⟩, q51 hp (fun g' h => by cases h; rfl), fun x hx => ?_⟩
     · simp [Sort.putRow, Sort.mapBlock, Sort.ahead, Array.getElem?_modify, show g ≠ k from fun h => hnk (h ▸ hgS)]
     · cases hx
       exact ⟨hgS, by simpa [Sort.putRow, Sort.mapBlock, Sort.ahead] using hg⟩
theorem qbl (us : List Int) (i : Nat) (j : Int) (hi : i < us.length) (hj : j = (i : Int) + 1) : PG Tryz.prog 291 [.one (.giv true 1 (ints us)), .one (.bor (i64 i)), .one (.bor (i64 j))] (.one (.own false [.l 1 (ints (us.eraseIdx i))])) [] := by
 subst hj; refine ⟨by kernel_rfl, fun N S w vals hS hSd hsh hc => ?_⟩
 obtain ⟨v0, v1, v2, rfl⟩ : ∃ v0 v1 v2, vals = #[v0, v1, v2] := by
  match vals, hsh with
  | ⟨[v0, v1, v2]⟩, _ => exact ⟨v0, v1, v2, rfl⟩
 obtain ⟨sz, hz, h0⟩ := hc 0 _ v0 rfl rfl; obtain rfl := hz (by decide); have h1 : Rep w N (i64 i) v1 := hc 1 _ v1 rfl rfl; have h2 : Rep w N (i64 ((i : Int) + 1)) v2 := hc 2 _ v2 rfl rfl; obtain rfl : v1 = .int .i64 i := by cases h1; rfl
 obtain rfl : v2 = .int .i64 ((i : Int) + 1) := by cases h2; rfl
 refine (zal N (S 0) us i w v0 hi (fun x hx => (hS 0 x hx).1) h0).mono ?_
 rintro e w' ⟨v', R, rfl, hk, hsl, hv⟩
 refine ⟨v', R, fun _ _ => False, rfl, hk.mono fun _ _ h => ⟨0, h⟩, ⟨#[v'], fun k x => k = 0 ∧ R x, rfl, rfl, fun k x hx => hx.2, fun k k' x hx hx' => by rw [hx.1, hx'.1], fun k c u hc hu => ?_⟩, fun x hx => ⟨.inr ⟨0, (hv x hx).1⟩, (hv x hx).2, fun _ h => h⟩, fun _ _ h => h.elim, fun _ _ _ h => h.elim, fun t rows' hb => by cases hb⟩
 cases k with
 | succ k => simp at hc
 | zero =>
   cases hc; cases hu; exact ⟨1, fun _ => rfl, y0d.imp hsl (fun _ h => ⟨rfl, h⟩) (fun _ _ _ => rfl) (fun _ _ _ _ h => h)⟩
end Go.Proofs.YtohbmmpkcibnpaaGreat
end
section
namespace Go.Proofs.YtohbmmpkcibnpaaGreat
open Go Go.Sx
set_option maxRecDepth 20000
set_option maxHeartbeats 4000000
theorem y8e (rr : List (List Cell)) (us : List Int) (p : Int → Bool) (fn : Nat) (c0 c1 : Cell) (hr : rr = ints us) (hf : ∀ x ∈ us, PC Tryz.prog fn [.one (i64 x), .one c0, .one c1] (rB (p x))) (hl : us.length ≤ 1048576) : PC Tryz.prog 164 [.one (.l rr), .one (.f fn [c0, c1])] (rI (y0h p us)) := by
 refine PC.begin Tryz.func164 rfl (by kernel_rfl) ?_; subst hr; have hn : (ints us).length = us.length := by simp
 refine qb rfl (ι := Nat) (fun i => i ≤ us.length ∧ ∀ j y, j < i → us[j]? = some y → p y = false) (fun i => ⟨[(8, sV (.int .i64 i)), (7, sV (.int .i64 (ints us).length)), (0, .one (.b (.l (ints us)))), (1, .one (.b (.f fn [c0, c1])))], []⟩) (fun i => us.length - i) 0 ⟨Nat.zero_le _, fun j y hj => by omega⟩ ?_ ?_
 · exact ⟨⟨rfl, rfl, rfl, rfl, trivial⟩, trivial, rfl⟩
 · intro i ⟨hi, h0⟩ J hJ
   refine xb rfl ?_ ?_ <;> intro h
   · have h : i < us.length := by simpa using h
     obtain ⟨x, hx⟩ := gx h; have hg := gm (fun n => [i64 n]) hx; have hxm := List.mem_of_getElem? hx; refine xs rfl (nn_ _) (y9 rfl _ hg (xs rfl rfl (z7 rfl (hf _ hxm) rfl tv4 ?_))); refine xb rfl ?_ ?_ <;> intro b0
     refine xv rfl rfl rfl ?_; rotate_left; rotate_left
     · exact vi (z03 hx h0 b0).symm
     · exact q9 rfl (hJ _ (i + 1) ⟨by omega, qf hx h0 b0⟩ (by omega) ⟨⟨cwi (by omega) (by omega) (by omega), rfl, rfl, rfl, trivial⟩, trivial, rfl⟩)
   · have h : ¬ i < us.length := by simpa using h
     refine xv rfl rfl rfl ?_; exact vi (qw (qj (by omega) h0)).symm
theorem yaf (rr : List (List Cell)) (us : List Int) (p : Int → Bool) (fn : Nat) (c0 c1 : Cell) (hr : rr = ints us) (hf : ∀ x ∈ us, PC Tryz.prog fn [.one (i64 x), .one c0, .one c1] (rB (p x))) (hl : us.length ≤ 1048576) : PC Tryz.prog 74 [.one (.l rr), .one (.f fn [c0, c1])] (rB (us.any p)) := by
 refine PC.begin Tryz.func74 rfl (by kernel_rfl) ?_; have hi := y8e rr us p fn c0 c1 hr hf hl; refine z7 rfl (hi) rfl tv3 (xv rfl rfl rfl ?_); exact vb q0e
theorem yb0 (c : Clu) (ho : zy c) (hc : yj c = 0) (a b : Int) (ha : ∃ x, q02 c.cons a = some x) (hb : ∃ x, q02 c.cons b = some x) : PC Tryz.prog 289 [.one (i64 b), .one (.p [i64 a]), .one (.p [.p c.cs])] (rB (b != a && q7y c a b)) := by
 refine PC.begin Tryz.func289 rfl (by kernel_rfl) ?_; have hA := z7f c ho hc a b ha hb; refine xb rfl ?_ ?_ <;> intro b0
 refine xj (k := 3) rfl (z7 rfl (hA) rfl tv4 (xj (k := 2) rfl ?_)); refine xv rfl rfl rfl ?_; rotate_left; refine xj (k := 5) rfl ?_; refine xv rfl rfl rfl ?_; rotate_left; all_goals (refine vb ?_; simp_all)
theorem zb0 (c : Clu) (ho : zy c) (hc : yj c = 0) (left : List Int) (hL : q39 c left) (hl : left.length ≤ 1048576) (a : Int) (ha : a ∈ left) : PC Tryz.prog 288 [.one (i64 a), .one (.p [.l (ints left)]), .one (.p [.p c.cs])] (rB (y0y c left a)) := by
 refine PC.begin Tryz.func288 rfl (by kernel_rfl) ?_; refine y5x (n := 0) rfl (ι := Unit) (fun _ => True) (fun _ => ⟨[(3, .one (.b (.p [i64 a]))), (1, .one (.b (.p [.l (ints left)]))), (2, .one (.b (.p [.p c.cs])))], []⟩) ?_ ?_
 · intro K hK
   exact q9 rfl (hK _ () trivial ⟨⟨⟨rfl, rfl, rfl⟩, rfl, rfl, trivial⟩, trivial, rfl⟩)
 intro _ _; have hq := yaf _ left (fun b => b != a && q7y c a b) 289 (.p [i64 a]) (.p [.p c.cs]) rfl (fun b hb => yb0 c ho hc a b (hL.con a ha) (hL.con b hb)) hl; refine z7 rfl (hq) rfl tv3 ?_; refine xr rfl (ym rfl ⟨⟨rfl, rfl, trivial⟩, z6 rfl⟩)
def qcm : Option (List Int) → Res
 | some l => .tup [.own false [.l 1 (ints l)], .own false [.s (.bool true)]]
 | none => .tup [.own false [.l 1 []], .own false [.s (.bool false)]]
theorem q9p (c : Clu) (ho : zy c) (hc : yj c = 0) : PC Tryz.prog 190 [.one (.p c.cs)] (qcm (z2y c)) := by
 refine PC.begin Tryz.func190 rfl (by kernel_rfl) ?_; have hD := q9f c ho hc; have hdl := q4m hc; refine z7 rfl (hD) rfl ⟨trivial, trivial⟩ (xs rfl trivial ?_); refine q72 rfl (ι := List Int × List Int) (fun z => q39 c z.1 ∧ z.1.length + z.2.length ≤ 300 ∧ z98 c z.1.length z.1 z.2 = z2y c) (fun z => ⟨[(5, .one (.h 9 (ints z.2).length)), (4, .one (.a 4 0)), (1, .one (.a 1 0))], [(4, .var [.h 900000 (ints z.1).length]), (900000, .arr true 1 0 (ints z.1)), (9, .arr true 1 0 (ints z.2)), (1, .var [.b (.p c.cs)])]⟩) (fun z => z.1.length) (y3x c, []) ⟨z4n hc, by simpa using hdl, rfl⟩ (.of ?_) ?_
 · exact ⟨⟨⟨rfl, rfl, rfl⟩, ⟨rfl, rfl, rfl⟩, ⟨rfl, rfl, rfl⟩, trivial⟩, ⟨⟨⟨rfl, rfl, rfl⟩, trivial⟩, ⟨rfl, .inl rfl, .inl rfl⟩, ⟨rfl, .inl rfl, .inl rfl⟩, ⟨rfl, trivial⟩, trivial⟩, rfl⟩
 · intro ⟨left, out⟩ ⟨hL, hlen, hO⟩ J hJ
   dsimp only at hL hlen hO; have hle : (ints left).length = left.length := by simp
   refine xb rfl ?_ ?_ <;> intro h
   · have h : 0 < left.length := by simpa using h
     have hn : left.length = (left.length - 1) + 1 := by omega
     rw [hn, z98] at hO; have hq := y8e _ left (y0y c left) 288 (.p [.l (ints left)]) (.p [.p c.cs]) rfl (fun a ha => zb0 c ho hc left hL (by omega) a ha) (by omega); rcases y14 (p := y0y c left) (l := left) with ⟨k, hk, hkl, ⟨v, hv, _⟩, _⟩ | ⟨hk, _⟩
     · rw [hk] at hq hO
       rw [if_neg (by omega)] at hO; have hgv := gm (fun n => [i64 n]) hv; have hdel := qbl left k (IntKind.i64.wrap ((k : Int) + 1)) hkl (wrap_i64 (by omega) (by omega)); rw [Int.toNat_natCast, hv] at hO; refine z7 rfl (hq) rfl ⟨rfl, (List.forall_mem_cons.2 ⟨⟨rfl, trivial⟩, (List.forall_mem_cons.2 ⟨⟨trivial, trivial⟩, (fun _ h => nomatch h)⟩)⟩), trivial⟩ (xj (k := 1) rfl (yb rfl [11] (.take 0 [] (.take 1 (Rg 3 4 ++ Rg 11 3) (Tk [2, 3] (.take 4 [5, 6, 11, 12, 13] (Tk [8, 9, 10] (.alt 5 (.alt 6 (.take 7 (Rg 11 3) (.alt 11 (.take 12 [] (.alt 13 .done .nil)) .nil)) (.alt 7 (.alt 6 (.alt 11 (.take 12 [] (.alt 13 .done .nil)) .nil) .nil) .nil)) (.alt 7 (.alt 5 (.alt 6 (.alt 11 (.take 12 [] (.alt 13 .done .nil)) .nil) .nil) .nil) .nil))))))) (by kernel_rfl) (xs rfl rfl (xs rfl (nn_ _) (y9 rfl _ hgv (xs rfl rfl (xs rfl rfl (y9 rfl _ hgv ?_)))))))); refine y0p rfl ?_ ?_; refine xs rfl ⟨trivial, trivial⟩ ?_; refine y0p rfl ?_ ?_; refine xs rfl rfl (xs rfl rfl (xs rfl (.inl rfl) (xs rfl (by simp; omega) (xs rfl (by simp; omega) ?_)))); refine y08 rfl (hdel) ⟨⟨rfl, rfl, rfl, rfl⟩, rfl, rfl, trivial⟩ rfl ?_; rotate_left; refine xs rfl rfl (xs rfl rfl (xs rfl (.inl rfl) (xs rfl (by simp; omega) (xs rfl (by simp; omega) ?_)))); refine y08 rfl (hdel) ⟨⟨rfl, rfl, rfl, rfl⟩, rfl, rfl, trivial⟩ rfl ?_; rotate_left; refine xs rfl ⟨trivial, trivial⟩ (xs rfl rfl (xs rfl rfl (xs rfl (.inl rfl) (xs rfl (by simp; omega) (xs rfl (by simp; omega) ?_))))); refine y08 rfl (hdel) ⟨⟨rfl, rfl, rfl, rfl⟩, rfl, rfl, trivial⟩ rfl ?_; rotate_left; all_goals refine q9 rfl (hJ _ (left.eraseIdx k, out ++ [v]) ⟨hL.erase k, by simp [List.length_eraseIdx_of_lt hkl]; omega, by rw [show (left.eraseIdx k).length = left.length - 1 from List.length_eraseIdx_of_lt hkl]; exact hO⟩ (by simp [List.length_eraseIdx_of_lt hkl]; omega) ⟨[(3000000, 900000)], ?_, ?_⟩)
       all_goals first
        | rfl
        | exact ⟨⟨⟨rfl, by simp, rfl⟩, ⟨rfl, rfl, rfl⟩, ⟨rfl, rfl, rfl⟩, trivial⟩, ⟨⟨⟨rfl, rfl, rfl⟩, trivial⟩, ⟨rfl, .inl rfl, .inl rfl⟩, ⟨by simp, .inl rfl, .inl rfl⟩, ⟨rfl, trivial⟩, trivial⟩, rfl⟩
        | skip
     · rw [hk] at hq hO
       rw [if_pos (by omega)] at hO; rw [← hO]; refine z7 rfl (hq) rfl ⟨rfl, (List.forall_mem_cons.2 ⟨⟨rfl, trivial⟩, (List.forall_mem_cons.2 ⟨⟨trivial, trivial⟩, (fun _ h => nomatch h)⟩)⟩), trivial⟩ (xj (k := 1) rfl ?_); refine xr rfl (ym rfl ⟨(by decide), ⟨⟨rfl, rfl, trivial⟩, ⟨rfl, rfl, trivial⟩, trivial⟩, z6 rfl⟩)
   · have h : left.length = 0 := by have : ¬ 0 < left.length := (by simpa using h); omega
     rw [h] at hO; rw [← hO]; refine xr rfl (ym rfl ⟨(by decide), ⟨⟨rfl, ⟨rfl, rfl, .inl rfl⟩, trivial⟩, ⟨rfl, rfl, trivial⟩, trivial⟩, z6 rfl⟩)
def q2u (c : Clu) (left : List Int) (a : Int) (k : Nat) : Bool := !((left.take k).any fun b => b != a && q7y c a b)
theorem y65 {c : Clu} {left : List Int} {a b : Int} {k : Nat} (h : left[k]? = some b) : q2u c left a (k + 1) = (q2u c left a k && !(b != a && q7y c a b)) := by
 unfold q2u; rw [List.take_add_one, h, List.any_append]; simp
theorem q7c (c : Clu) (left : List Int) (a : Int) : q2u c left a left.length = y0y c left a := by unfold q2u y0y; rw [List.take_length]
def qco (c : Clu) (left : List Int) (i : Nat) (q : Int) : Prop :=
 (q = -1 ∧ ∀ (j : Nat) (x : Int), j < i → left[j]? = some x → y0y c left x = false) ∨ ∃ (j : Nat) (x : Int), q = j ∧ i = j + 1 ∧ left[j]? = some x ∧ y0y c left x = true ∧ ∀ (j' : Nat) (y : Int), j' < j → left[j']? = some y → y0y c left y = false
theorem zce {left : List Int} (h : left.Pairwise (· < ·)) {i j : Nat} {x y : Int} (hi : left[i]? = some x) (hj : left[j]? = some y) (hij : i ≠ j) : x ≠ y := by
 obtain ⟨h1, h2⟩ := List.getElem?_eq_some_iff.1 hi; obtain ⟨h3, h4⟩ := List.getElem?_eq_some_iff.1 hj; rcases Nat.lt_or_gt_of_ne hij with h5 | h5
 · have := (List.pairwise_iff_getElem.1 h) i j h1 h3 h5
   omega
 · have := (List.pairwise_iff_getElem.1 h) j i h3 h1 h5
   omega
theorem y8v (c : Clu) (ho : zy c) (hc : yj c = 0) : PC Tryz.prog 185 [.one (.p c.cs)] (qcm (z2y c)) := by
 refine PC.begin Tryz.func185 rfl (by kernel_rfl) ?_; have hD := q9t c ho hc; have hdl := q4m hc; refine z7 rfl (hD) rfl ⟨trivial, trivial⟩ (xs rfl trivial ?_); refine qb rfl (ι := List Int × List Int) (fun z => q39 c z.1 ∧ z.1.length + z.2.length ≤ 300 ∧ z98 c z.1.length z.1 z.2 = z2y c) (fun z => ⟨[(5, .one (.h 12 (ints z.2).length)), (4, .one (.b (.l (ints z.1)))), (0, .one (.b (.p c.cs)))], [(12, .arr true 1 0 (ints z.2))]⟩) (fun z => z.1.length) (y3x c, []) ⟨z4n hc, by simpa using hdl, rfl⟩ ?_ ?_
 · exact ⟨⟨⟨rfl, rfl, rfl⟩, rfl, rfl, trivial⟩, ⟨⟨rfl, .inl rfl, .inl rfl⟩, trivial⟩, rfl⟩
 · intro ⟨left, out⟩ ⟨hL, hlen, hO⟩ J hJ
   dsimp only at hL hlen hO; have hle : (ints left).length = left.length := by simp
   refine xb rfl ?_ ?_ <;> intro h
   · have h : 0 < left.length := by simpa using h
     have hn : left.length = (left.length - 1) + 1 := by omega
     rw [hn, z98] at hO; clear hn; refine qb rfl (ι := Nat × Int) (fun z => z.1 ≤ left.length ∧ qco c left z.1 z.2) (fun z => ⟨[(7, sV (.int .i64 z.1)), (6, sV (.int .i64 z.2)), (5, .one (.h 12 (ints out).length)), (4, .one (.b (.l (ints left)))), (0, .one (.b (.p c.cs)))], [(12, .arr true 1 0 (ints out))]⟩) (fun z => left.length - z.1) (0, -1) ⟨Nat.zero_le _, .inl ⟨rfl, fun j x hj => by omega⟩⟩ ?_ ?_
     · exact ⟨⟨rfl, rfl, ⟨rfl, rfl, rfl⟩, rfl, rfl, trivial⟩, ⟨⟨rfl, .inl rfl, .inl rfl⟩, trivial⟩, rfl⟩
     · intro ⟨i, q⟩ ⟨hi, hq⟩ Ji hJi
       dsimp only at hi hq; by_cases hcon : i < left.length ∧ q < 0
       · obtain ⟨hil, hq0⟩ := hcon
         rcases hq with ⟨rfl, hno⟩ | ⟨j, x, rfl, _⟩
         · obtain ⟨a, ha⟩ := gx hil
           have hga := gm (fun n => [i64 n]) ha; refine xb rfl ?_ ?_ <;> intro b0
           refine xj (k := 3) rfl ?_; rotate_left; exact absurd b0 (by simp; omega)
           all_goals first
            | (exfalso; simp_all; done)
            | skip
           refine qb rfl (ι := Nat) (fun k => k ≤ left.length) (fun k => ⟨[(9, sV (.int .i64 k)), (8, sV (.bool (q2u c left a k))), (7, sV (.int .i64 i)), (6, sV (.int .i64 (-1))), (5, .one (.h 12 (ints out).length)), (4, .one (.b (.l (ints left)))), (0, .one (.b (.p c.cs)))], [(12, .arr true 1 0 (ints out))]⟩) (fun k => left.length - k) 0 (Nat.zero_le _) ?_ ?_
           · exact ⟨⟨rfl, rfl, rfl, rfl, ⟨rfl, rfl, rfl⟩, rfl, rfl, trivial⟩, ⟨⟨rfl, .inl rfl, .inl rfl⟩, trivial⟩, rfl⟩
           · intro k hk Jk hJk
             refine xb rfl ?_ ?_ <;> intro hh
             · have hh : k < left.length := by simpa using hh
               obtain ⟨b, hb⟩ := gx hh; have hgb := gm (fun n => [i64 n]) hb; have hst := y65 (c := c) (left := left) (a := a) hb; by_cases hki : k = i
               · subst hki
                 rw [ha] at hb; cases hb; generalize q2u c left a k = f at hst ⊢; refine yb rfl [] (Tk (Rg 0 10) (.take 10 (Rg 15 5) (Tk [11, 12, 13] (.take 14 (Rg 15 5) (.alt 15 (Tk (Rg 16 4) .done) .nil))))) (by kernel_rfl) ?_; refine xb rfl ?_ ?_ <;> intro b0
                 refine xj (k := 3) rfl ?_; refine xb rfl ?_ ?_ <;> intro b1
                 refine xj (k := 13) rfl ?_; rotate_left; exact absurd b1 (by simp [*]); refine xj (k := 5) rfl ?_; rotate_left
                 all_goals first
                  | exact q9 rfl (hJk _ (k + 1) (by omega) (by omega) ⟨⟨cwi (by omega) (by omega) (by omega), congrArg (fun t => Cell.s (.bool t)) (by rw [hst]; simp_all), rfl, rfl, ⟨rfl, rfl, rfl⟩, rfl, rfl, trivial⟩, ⟨⟨rfl, .inl rfl, .inl rfl⟩, trivial⟩, rfl⟩)
                  | (exfalso; simp_all; done)
                  | skip
               · have hne := zce hL.pw ha hb (fun e => hki e.symm)
                 have hA := y8u c ho hc a b hne (hL.con a (List.mem_of_getElem? ha)) (hL.con b (List.mem_of_getElem? hb)); have hba : (b != a) = true := by simpa using fun e => hne e.symm
                 rw [hba, Bool.true_and] at hst; generalize q2u c left a k = f at hst ⊢; generalize q7y c a b = bad at hA hst; refine yb rfl [] (Tk (Rg 0 10) (.take 10 (Rg 15 5) (Tk [11, 12, 13] (.take 14 (Rg 15 5) (.alt 15 (Tk (Rg 16 4) .done) .nil))))) (by kernel_rfl) ?_; refine xb rfl ?_ ?_ <;> intro b0
                 refine xj (k := 3) rfl ?_; refine xb rfl ?_ ?_ <;> intro b1
                 exact absurd b1 (by simp; omega); refine xj (k := 3) rfl (xs rfl (nn_ _) (y9 rfl _ hgb (xs rfl rfl (xj (k := 4) rfl (xs rfl (nn_ _) (y9 rfl _ hga (xs rfl rfl (xj (k := 2) rfl (z7 rfl (hA) rfl tv4 ?_))))))))); refine xj (k := 4) rfl ?_; rotate_left; refine xj (k := 5) rfl ?_; rotate_left
                 all_goals first
                  | exact q9 rfl (hJk _ (k + 1) (by omega) (by omega) ⟨⟨cwi (by omega) (by omega) (by omega), congrArg (fun t => Cell.s (.bool t)) (by rw [hst]; simp_all; done), rfl, rfl, ⟨rfl, rfl, rfl⟩, rfl, rfl, trivial⟩, ⟨⟨rfl, .inl rfl, .inl rfl⟩, trivial⟩, rfl⟩)
                  | (exfalso; simp_all; omega)
                  | skip
             · have hh : k = left.length := by have : ¬ k < left.length := (by simpa using hh); omega
               subst hh; rw [q7c]; refine xb rfl (fun b0 => ?_) (fun b0 => ?_); rotate_left; rotate_left
               · exact q9 rfl (hJi _ (i + 1, (i : Int)) ⟨by omega, .inr ⟨i, a, rfl, rfl, ha, b0, hno⟩⟩ (by dsimp only; omega) ⟨⟨cwi (by omega) (by omega) (by omega), rfl, ⟨rfl, rfl, rfl⟩, rfl, rfl, trivial⟩, ⟨⟨rfl, .inl rfl, .inl rfl⟩, trivial⟩, rfl⟩)
               · exact q9 rfl (hJi _ (i + 1, -1) ⟨by omega, .inl ⟨rfl, qf ha hno b0⟩⟩ (by dsimp only; omega) ⟨⟨cwi (by omega) (by omega) (by omega), rfl, ⟨rfl, rfl, rfl⟩, rfl, rfl, trivial⟩, ⟨⟨rfl, .inl rfl, .inl rfl⟩, trivial⟩, rfl⟩)
         · omega
       · rcases hq with ⟨rfl, hno⟩ | ⟨j, v, rfl, rfl, hv, hp, hmin⟩
         · have hil : i = left.length := by omega
           subst hil; have hid : y0h (y0y c left) left = -1 := qw (fun m y hm => hno m y (List.getElem?_eq_some_iff.1 hm).1 hm); rw [hid, if_pos (by omega)] at hO; rw [← hO]; refine xb rfl ?_ ?_ <;> intro b0
           exact absurd b0 (by simp [*]); refine xj (k := 4) rfl ?_; refine xr rfl (ym rfl ⟨(by decide), ⟨⟨rfl, rfl, trivial⟩, ⟨rfl, rfl, trivial⟩, trivial⟩, z6 rfl⟩); all_goals (exfalso; simp_all; done)
         · have hjl := (List.getElem?_eq_some_iff.1 hv).1
           have hid : y0h (y0y c left) left = j := z03 hv hmin hp; rw [hid, if_neg (by omega), Int.toNat_natCast, hv] at hO; have hgv := gm (fun n => [i64 n]) hv; have hw0 : (0 : Int) ≤ IntKind.i64.wrap ((j : Int) + 1) := by rw [wrap_i64 (by omega) (by omega)]; omega
           have hw1 : IntKind.i64.wrap ((j : Int) + 1) ≤ ((ints left).length : Int) := by rw [wrap_i64 (by omega) (by omega)]; omega
           have hel : left.eraseIdx j = left.take j ++ left.drop (j + 1) := List.eraseIdx_eq_take_drop_succ left j
           have hcl : ints (left.eraseIdx j) = [] ++ ((ints left).take (j : Int).toNat).drop (0 : Int).toNat ++ ((ints left).take ((ints left).length : Int).toNat).drop (IntKind.i64.wrap ((j : Int) + 1)).toNat := by
            rw [wrap_i64 (by omega) (by omega), hel, show ((j : Int) + 1).toNat = j + 1 by omega]; simp only [Int.toNat_natCast, List.take_length]; simp [ints, List.map_take, List.map_drop]
           refine xb rfl ?_ ?_ <;> intro b0
           refine xj (k := 4) rfl (xs rfl (nn_ _) (y9 rfl _ hgv (xs rfl rfl (xs rfl ⟨trivial, trivial⟩ (xs rfl rfl (xs rfl rfl (xs rfl (.inl rfl) (xs rfl (by simp; omega) (xs rfl (by simp; omega) ?_))))))))); refine yb rfl [] (Tk [1, 2, 3, 5, 6, 7, 8] (.alt 0 (.alt 4 (.alt 9 (.take 10 [] .done) .nil) .nil) .nil)) (by kernel_rfl) (xs rfl (.inl rfl) (xs rfl (nn_ _) (xs rfl (nn_ _) (xs rfl (by simp; omega) (xs rfl (by simp) (xs rfl (hw0) (xs rfl (hw1) (xs rfl (by simp) (xs rfl trivial ?_))))))))); refine xs rfl rfl (xs rfl (y07 _ _ _) (xs rfl (fun _ => q07 _ _ _) (xs rfl (by simp; omega) (xs rfl (by simp; omega) (xs rfl (by simp) (xs rfl (y07 _ _ _) (xs rfl (fun _ => q07 _ _ _) (xs rfl (by simp; omega) ?_)))))))); refine xs rfl (by simp; omega) ?_; rotate_left; refine xj (k := 4) rfl (xs rfl (nn_ _) (y9 rfl _ hgv (xs rfl rfl (xs rfl ⟨trivial, trivial⟩ (xs rfl rfl (xs rfl rfl (xs rfl (.inl rfl) (xs rfl (by simp; omega) (xs rfl (by simp; omega) ?_))))))))); refine yb rfl [] (Tk [1, 2, 3, 5, 6, 7, 8] (.alt 0 (.alt 4 (.alt 9 (.take 10 [] .done) .nil) .nil) .nil)) (by kernel_rfl) (xs rfl (.inl rfl) (xs rfl (nn_ _) (xs rfl (nn_ _) (xs rfl (by simp; omega) (xs rfl (by simp) (xs rfl (hw0) (xs rfl (hw1) (xs rfl (by simp) (xs rfl trivial ?_))))))))); refine xs rfl rfl (xs rfl (y07 _ _ _) (xs rfl (fun _ => q07 _ _ _) (xs rfl (by simp; omega) (xs rfl (by simp; omega) (xs rfl (by simp) (xs rfl (y07 _ _ _) (xs rfl (fun _ => q07 _ _ _) (xs rfl (by simp; omega) ?_)))))))); refine xs rfl (by simp; omega) ?_; rotate_left; all_goals exact q9 rfl (hJ _ (left.eraseIdx j, out ++ [v]) ⟨hL.erase j, by simp [List.length_eraseIdx_of_lt hjl]; omega, by rw [show (left.eraseIdx j).length = left.length - 1 from List.length_eraseIdx_of_lt hjl]; exact hO⟩ (by simp [List.length_eraseIdx_of_lt hjl]; omega) ⟨⟨⟨rfl, by simp, rfl⟩, ⟨rfl, List.length_append.symm, congrArg Cell.l hcl⟩, rfl, trivial⟩, ⟨⟨by simp, .inl rfl, .inl rfl⟩, trivial⟩, rfl⟩)
   · have h : left.length = 0 := by have : ¬ 0 < left.length := (by simpa using h); omega
     rw [h] at hO; rw [← hO]; refine xr rfl (ym rfl ⟨(by decide), ⟨⟨rfl, ⟨rfl, rfl, .inl rfl⟩, trivial⟩, ⟨rfl, rfl, trivial⟩, trivial⟩, z6 rfl⟩)
abbrev rIs (code : Int) (us : List Int) : Res := .one (.own true [.s (.int .i64 code), .l 1 (ints us)])
theorem z8d (c : Clu) (ho : zy c) : PC Tryz.prog 106 [.agg c.cs] (rIs (q1v c).1 (q1v c).2) := by
 refine PC.begin Tryz.func106 rfl (by kernel_rfl) ?_; by_cases hc : yj c = 0
 · have hop := q9p c ho hc
   cases hO : z2y c with
   | some l =>
     have hR : q1v c = (0, l) := by unfold q1v; rw [if_neg (by simpa using hc), hO]
     rw [hR]; rw [hO] at hop; refine z7 rfl (q67 c ho) rfl ⟨tv6, trivial⟩ ?_; refine xb rfl ?_ ?_ <;> intro b0
     exact absurd b0 (by simp; omega); refine z7 rfl (hop) rfl ⟨tv6, trivial⟩ (xj (k := 1) rfl ?_); refine xr rfl (ym rfl ⟨⟨rfl, rfl, ⟨rfl, rfl, .inl rfl⟩, trivial⟩, z6 rfl⟩)
     all_goals first
      | (exfalso; simp_all; done)
      | skip
   | none =>
     have hR : q1v c = (1, []) := by unfold q1v; rw [if_neg (by simpa using hc), hO]
     rw [hR]; rw [hO] at hop; refine z7 rfl (q67 c ho) rfl ⟨tv6, trivial⟩ ?_; refine xb rfl ?_ ?_ <;> intro b0
     exact absurd b0 (by simp; omega); refine z7 rfl (hop) rfl ⟨tv6, trivial⟩ (xj (k := 1) rfl ?_); refine xr rfl (ym rfl ⟨⟨rfl, rfl, rfl, trivial⟩, z6 rfl⟩)
     all_goals first
      | (exfalso; simp_all; done)
      | skip
 · have hR : q1v c = (yj c, []) := by unfold q1v; rw [if_pos hc]
   rw [hR]; refine z7 rfl (q67 c ho) rfl ⟨tv6, trivial⟩ ?_; refine xb rfl ?_ ?_ <;> intro b0
   refine xr rfl (ym rfl ⟨⟨rfl, rfl, rfl, trivial⟩, z6 rfl⟩); exact absurd b0 (by simp; omega); all_goals (exfalso; simp_all; done)
theorem z8v (c : Clu) (ho : zy c) : PC Tryz.prog 103 [.agg c.cs] (rIs (q1v c).1 (q1v c).2) := by
 refine PC.begin Tryz.func103 rfl (by kernel_rfl) ?_; by_cases hc : yj c = 0
 · have hop := y8v c ho hc
   cases hO : z2y c with
   | some l =>
     have hR : q1v c = (0, l) := by unfold q1v; rw [if_neg (by simpa using hc), hO]
     rw [hR]; rw [hO] at hop; refine z7 rfl (z6h c ho) rfl ⟨tv6, trivial⟩ ?_; refine xb rfl ?_ ?_ <;> intro b0
     exact absurd b0 (by simp; omega); refine z7 rfl (hop) rfl ⟨tv6, trivial⟩ (xj (k := 1) rfl ?_); refine xr rfl (ym rfl ⟨⟨rfl, rfl, ⟨rfl, rfl, .inl rfl⟩, trivial⟩, z6 rfl⟩)
     all_goals first
      | (exfalso; simp_all; done)
      | skip
   | none =>
     have hR : q1v c = (1, []) := by unfold q1v; rw [if_neg (by simpa using hc), hO]
     rw [hR]; rw [hO] at hop; refine z7 rfl (z6h c ho) rfl ⟨tv6, trivial⟩ ?_; refine xb rfl ?_ ?_ <;> intro b0
     exact absurd b0 (by simp; omega); refine z7 rfl (hop) rfl ⟨tv6, trivial⟩ (xj (k := 1) rfl ?_); refine xr rfl (ym rfl ⟨⟨rfl, rfl, rfl, trivial⟩, z6 rfl⟩)
     all_goals first
      | (exfalso; simp_all; done)
      | skip
 · have hR : q1v c = (yj c, []) := by unfold q1v; rw [if_pos hc]
   rw [hR]; refine z7 rfl (z6h c ho) rfl ⟨tv6, trivial⟩ ?_; refine xb rfl ?_ ?_ <;> intro b0
   refine xr rfl (ym rfl ⟨⟨rfl, rfl, rfl, trivial⟩, z6 rfl⟩); exact absurd b0 (by simp; omega); all_goals (exfalso; simp_all; done)
theorem q6w {c : Clu} : ∀ {n : Nat} {left out r : List Int}, (∀ x ∈ left, ∃ y, q02 c.cons x = some y) → (∀ x ∈ out, ∃ y, q02 c.cons x = some y) → z98 c n left out = some r → ∀ x ∈ r, ∃ y, q02 c.cons x = some y
 | 0, left, out, r, _, ho, h => by cases h; exact ho
 | n + 1, left, out, r, hl, ho, h => by
   rw [z98] at h; split at h
   · cases h
   · rename_i h0
     rcases y14 (p := y0y c left) (l := left) with ⟨k, hk, hkl, ⟨v, hv, _⟩, _⟩ | ⟨hk, _⟩
     · rw [hk, Int.toNat_natCast, hv] at h
       refine q6w (fun x hx => hl x ((List.eraseIdx_sublist _ _).subset hx)) (fun x hx => ?_) h; rcases List.mem_append.1 hx with h1 | h1
       · exact ho x h1
       · obtain rfl := List.mem_singleton.1 h1
         exact hl _ (List.mem_of_getElem? hv)
     · omega
theorem y6x {c : Clu} (h : (q1v c).1 = 0) : yj c = 0 ∧ ∀ x ∈ (q1v c).2, ∃ y, q02 c.cons x = some y := by
 unfold q1v at h ⊢; by_cases hc : yj c = 0
 · rw [if_neg (by simpa using hc)] at h ⊢
   refine ⟨hc, ?_⟩
   cases hO : z2y c with
   | none => rw [hO] at h; cases h
   | some l => exact q6w (z4n hc).con (fun x hx => by cases hx) hO
 · rw [if_pos hc] at h
   exact absurd h hc
abbrev y84 (c : Clu) (us : List Int) : List (List Cell) := (us.map (z1e c)).map Con.cs
theorem y7e (st : List (List Bal)) (c : Clu) (ho : zy c) (hsl : st.length ≤ 1048576) (hsb : ∀ us ∈ st, us.length ≤ 1048576) : PC Tryz.prog 30 [.agg (q7s st), .agg c.cs] (qce (z0m st c)) := by
 refine PC.begin Tryz.func30 rfl (by kernel_rfl) ?_; refine y5x (n := 0) rfl (ι := Unit) (fun _ => True) (fun _ => ⟨[(2, .one (.a 2 0)), (3, .one (.b (.p c.cs))), (4, .one (.a 4 0))], [(2, .var [.b (.l (ya st))]), (4, .var [.b (i64 0), .nil, .nil])]⟩) ?_ ?_
 · intro K hK
   exact q9 rfl (hK _ () trivial ⟨⟨⟨rfl, rfl, rfl⟩, ⟨rfl, rfl, rfl⟩, ⟨rfl, rfl, rfl⟩, trivial⟩, ⟨⟨rfl, trivial⟩, ⟨rfl, trivial, trivial, trivial⟩, trivial⟩, rfl⟩)
 intro _ _; have hO := z8d c ho; by_cases h1 : (q1v c).1 = 0
 case neg =>
  rw [show z0m st c = ((q1v c).1, [], []) by unfold z0m; rw [if_pos h1]]; refine z7 rfl (hO) rfl ⟨tv6, trivial⟩ ?_; refine xb rfl ?_ ?_ <;> intro b0
  refine xr rfl (ym rfl ⟨⟨rfl, rfl, rfl, rfl, trivial⟩, z6 rfl⟩); exact absurd b0 (by simp; omega); all_goals first | (exfalso; simp_all; done) | skip
 rw [show z0m st c = zq st ((q1v c).2.map (z1e c)) by unfold z0m; rw [if_neg (by simpa using h1)]]; obtain ⟨hc, hcon⟩ := y6x h1; have hle := q8o c; unfold rIs at hO; rw [h1] at hO; generalize (q1v c).2 = ids at hO hcon hle ⊢
 have hAll := yao st (ids.map (z1e c)) hsl hsb (by simpa using hle) (fun x hx => by
  obtain ⟨id, _, rfl⟩ := List.mem_map.1 hx; have := (q6r hc id).1
  omega)
 refine z7 rfl (hO) rfl ⟨tv6, trivial⟩ (xj (k := 1) rfl (xs rfl trivial ?_)); all_goals first | (exfalso; simp_all; done) | skip
 refine qb rfl (ι := Nat) (fun i => i ≤ ids.length) (fun i => ⟨[(23, sV (.int .i64 i)), (22, sV (.int .i64 (ints ids).length)), (21, .one (.b (.l (ints ids)))), (6, .one (.h 19 (y84 c (ids.take i)).length)), (3, .one (.b (.p c.cs))), (2, .one (.a 2 0)), (4, .one (.a 4 0))], [(19, .arr false 2 0 (y84 c (ids.take i))), (2, .var [.b (.l (ya st))]), (4, .var [.b (i64 0), .nil, .nil])]⟩) (fun i => ids.length - i) 0 (Nat.zero_le _) ?_ ?_
 · exact ⟨⟨rfl, rfl, ⟨rfl, rfl, rfl⟩, ⟨rfl, rfl, rfl⟩, rfl, ⟨rfl, rfl, rfl⟩, ⟨rfl, rfl, rfl⟩, trivial⟩, ⟨⟨rfl, .inr rfl, .inl rfl⟩, ⟨rfl, trivial⟩, ⟨rfl, trivial, trivial, trivial⟩, trivial⟩, rfl⟩
 · intro i hi J hJ
   refine xb rfl ?_ ?_ <;> intro h
   · have h : i < ids.length := by simpa [ints] using h
     obtain ⟨id, hx⟩ := gx h; have hg : (ints ids)[i]? = some [i64 id] := by simp [ints, hx]
     obtain ⟨x, hxc⟩ := hcon id (List.mem_of_getElem? hx)
     have hst : y84 c (ids.take (i + 1)) = y84 c (ids.take i) ++ [x.cs] := by
      unfold y84; rw [List.take_add_one, hx]; simp [z0q hxc]
     refine xs rfl (by simp) (y9 rfl _ hg (xs rfl rfl (z7 rfl (y0b c ho id x hxc) rfl tv3 (xs rfl ⟨trivial, rfl, trivial⟩ (xs rfl rfl (xs rfl rfl (xs rfl (.inl rfl) (xs rfl (by simp; omega) (xs rfl (by simp; omega) ?_))))))))); all_goals exact q9 rfl (hJ _ (i + 1) (by omega) (by omega) ⟨⟨cwi (by omega) (by omega) (by omega), rfl, rfl, ⟨rfl, by rw [hst]; simp, rfl⟩, rfl, ⟨rfl, rfl, rfl⟩, ⟨rfl, rfl, rfl⟩, trivial⟩, ⟨⟨hst.symm, .inl rfl, .inl rfl⟩, ⟨rfl, trivial⟩, ⟨rfl, trivial, trivial, trivial⟩, trivial⟩, rfl⟩)
   · have h : i = ids.length := by have : ¬ i < ids.length := by simpa [ints] using h
                                   omega
     subst h; rw [List.take_length]; refine z7 rfl (hAll) rfl ⟨⟨trivial, trivial⟩, rfl, trivial⟩ ?_; refine xr rfl (ym rfl ⟨⟨rfl, rfl, ⟨rfl, rfl, .inl rfl⟩, ⟨rfl, rfl, .inl rfl⟩, trivial⟩, z6 rfl⟩)
theorem y7n (st : List (List Bal)) (c : Clu) (ho : zy c) (hsl : st.length ≤ 1048576) (hsb : ∀ us ∈ st, us.length ≤ 1048576) : PC Tryz.prog 28 [.agg (q7s st), .agg c.cs] (yb1 (z0m st c)) := by
 refine PC.begin Tryz.func28 rfl (by kernel_rfl) ?_; refine y5x (n := 0) rfl (ι := Unit) (fun _ => True) (fun _ => ⟨[(2, .one (.a 2 0)), (3, .one (.b (.p c.cs))), (4, .one (.a 4 0))], [(2, .var [.b (.l (ya st))]), (4, .var [.b (i64 0), .nil, .nil])]⟩) ?_ ?_
 · intro K hK
   exact q9 rfl (hK _ () trivial ⟨⟨⟨rfl, rfl, rfl⟩, ⟨rfl, rfl, rfl⟩, ⟨rfl, rfl, rfl⟩, trivial⟩, ⟨⟨rfl, trivial⟩, ⟨rfl, trivial, trivial, trivial⟩, trivial⟩, rfl⟩)
 intro _ _; have hO := z8v c ho; by_cases h1 : (q1v c).1 = 0
 case neg =>
  rw [show z0m st c = ((q1v c).1, [], []) by unfold z0m; rw [if_pos h1]]; refine z7 rfl (hO) rfl ⟨tv6, trivial⟩ ?_; refine xb rfl ?_ ?_ <;> intro b0
  refine xr rfl (ym rfl ⟨⟨rfl, rfl, rfl, rfl, trivial⟩, z6 rfl⟩); exact absurd b0 (by simp; omega); all_goals first | (exfalso; simp_all; done) | skip
 rw [show z0m st c = zq st ((q1v c).2.map (z1e c)) by unfold z0m; rw [if_neg (by simpa using h1)]]; obtain ⟨hc, hcon⟩ := y6x h1; have hle := q8o c; unfold rIs at hO; rw [h1] at hO; generalize (q1v c).2 = ids at hO hcon hle ⊢
 have hAll := zb4 st (ids.map (z1e c)) hsl hsb (by simpa using hle) (fun x hx => by
  obtain ⟨id, _, rfl⟩ := List.mem_map.1 hx; have := (q6r hc id).1
  omega)
 refine z7 rfl (hO) rfl ⟨tv6, trivial⟩ (xj (k := 1) rfl (xs rfl trivial ?_)); all_goals first | (exfalso; simp_all; done) | skip
 refine y5x (n := 4) rfl (ι := Unit) (fun _ => True) (fun _ => ⟨[(6, .one (.b (.l (y84 c ids)))), (2, .one (.a 2 0)), (4, .one (.a 4 0))], [(2, .var [.b (.l (ya st))]), (4, .var [.b (i64 0), .nil, .nil])]⟩) ?_ ?_
 · intro K hK
   refine qb rfl (ι := Nat) (fun i => i ≤ ids.length) (fun i => ⟨[(7, sV (.int .i64 i)), (6, .one (.h 16 (y84 c (ids.take i)).length)), (5, .one (.a 5 0)), (3, .one (.b (.p c.cs))), (2, .one (.a 2 0)), (4, .one (.a 4 0))], [(16, .arr false 2 0 (y84 c (ids.take i))), (5, .var [.b (i64 0), .b (.l (ints ids))]), (2, .var [.b (.l (ya st))]), (4, .var [.b (i64 0), .nil, .nil])]⟩) (fun i => ids.length - i) 0 (Nat.zero_le _) ?_ ?_
   · exact ⟨⟨rfl, ⟨rfl, rfl, rfl⟩, ⟨rfl, rfl, rfl⟩, rfl, ⟨rfl, rfl, rfl⟩, ⟨rfl, rfl, rfl⟩, trivial⟩, ⟨⟨rfl, .inr rfl, .inl rfl⟩, ⟨rfl, ⟨rfl, rfl, rfl⟩, trivial⟩, ⟨rfl, trivial⟩, ⟨rfl, trivial, trivial, trivial⟩, trivial⟩, rfl⟩
   · intro i hi J hJ
     refine xb rfl ?_ ?_ <;> intro h
     · have h : i < ids.length := by simpa [ints] using h
       obtain ⟨id, hx⟩ := gx h; have hg : (ints ids)[i]? = some [i64 id] := by simp [ints, hx]
       obtain ⟨x, hxc⟩ := hcon id (List.mem_of_getElem? hx); obtain ⟨k, hk0, hk⟩ := q0s hxc; have hfd := y0c c id ho.1.1; rw [hk0] at hfd; have hgk := gm Con.cs hk
       have hst : y84 c (ids.take (i + 1)) = y84 c (ids.take i) ++ [x.cs] := by
        unfold y84; rw [List.take_add_one, hx]; simp [z0q hxc]
       refine yb rfl [] (Tk [0, 1] (.take 2 (Rg 9 5) (.take 3 [] (.take 4 (Rg 6 8) (Tk [5, 6] (.take 7 (Rg 8 6) (.alt 8 (.take 9 [] (.take 10 (Rg 11 3) (.alt 11 (.alt 12 (.take 13 [] .done) .nil) .nil))) .nil))))))) (by kernel_rfl) (xs rfl (nn_ _) (y9 rfl _ hg (xs rfl rfl (z7 rfl (hfd) rfl tv3 (xs rfl (nn_ _) (y9 rfl _ hgk (xs rfl rfl (xs rfl ⟨trivial, rfl, trivial⟩ (xs rfl rfl ?_))))))))); refine xs rfl rfl (xs rfl (.inl rfl) (xs rfl (by simp; omega) (xs rfl (by simp; omega) ?_))); all_goals exact q9 rfl (hJ _ (i + 1) (by omega) (by omega) ⟨⟨cwi (by omega) (by omega) (by omega), ⟨rfl, by rw [hst]; simp, rfl⟩, ⟨rfl, rfl, rfl⟩, rfl, ⟨rfl, rfl, rfl⟩, ⟨rfl, rfl, rfl⟩, trivial⟩, ⟨⟨hst.symm, .inl rfl, .inl rfl⟩, ⟨rfl, rfl, trivial⟩, ⟨rfl, trivial⟩, ⟨rfl, trivial, trivial, trivial⟩, trivial⟩, rfl⟩)
     · have h : i = ids.length := by have : ¬ i < ids.length := by simpa [ints] using h
                                     omega
       subst h; rw [List.take_length]; exact q9 rfl (hK _ () trivial ⟨⟨⟨rfl, rfl, rfl⟩, ⟨rfl, rfl, rfl⟩, ⟨rfl, rfl, rfl⟩, trivial⟩, ⟨⟨rfl, trivial⟩, ⟨rfl, trivial, trivial, trivial⟩, trivial⟩, rfl⟩)
 intro _ _; refine z7 rfl (hAll) rfl ⟨⟨trivial, trivial⟩, trivial, trivial⟩ ?_; refine xr rfl (ym rfl ⟨⟨rfl, rfl, rfl, rfl, trivial⟩, z6 rfl⟩)
abbrev q16 : Sh := (.i .i64 (.l (.i .i64 .nil) (.l (.l q7 .nil) .nil)))
theorem z20 (x0 : Int) (x1 : List (List Cell)) (x2 : List (List Cell)) (y0 : Int) (y1 : List (List Cell)) (y2 : List (List Cell)) (h1 : WR 9000000000000000000 (.i .i64 .nil) x1) (h2 : WR 9000000000000000000 (.l q7 .nil) x2) (k1 : WR 9000000000000000000 (.i .i64 .nil) y1) (k2 : WR 9000000000000000000 (.l q7 .nil) y2) : PC Tryz.prog 31 [.agg [.s (.int .i64 x0), .l x1, .l x2], .agg [.s (.int .i64 y0), .l y1, .l y2]] (rB (dE (α := List Cell) [.s (.int .i64 x0), .l x1, .l x2] [.s (.int .i64 y0), .l y1, .l y2])) := by
 refine PC.begin Tryz.func31 rfl (by kernel_rfl) ?_; refine xb rfl (fun h => ?_) (fun e0 => ?_)
 · exact xv rfl rfl rfl (zk (fun e => by simp only [List.cons.injEq, Cell.s.injEq, Value.int.injEq, Value.bool.injEq, Value.string.injEq] at e; simp [e] at h))
 have e0 : x0 = y0 := by simpa using e0
 refine z7 rfl (q1z _ _ h1 k1) rfl tv3 ?_; refine xb rfl (fun h => ?_) (fun e1 => ?_)
 · exact xv rfl rfl rfl (zk (fun e => q06 h (by simp only [List.cons.injEq, Cell.l.injEq] at e ⊢; simp only [e]; try trivial)))
 have e1 := y06 e1; refine z7 rfl (y3e _ _ h2 k2) rfl ⟨⟨trivial, trivial⟩, ⟨trivial, trivial⟩, trivial⟩ ?_; refine xb rfl (fun h => ?_) (fun e2 => ?_)
 · exact xv rfl rfl rfl (zk (fun e => q06 h (by simp only [List.cons.injEq, Cell.l.injEq] at e ⊢; simp only [e]; try trivial)))
 have e2 := y06 e2; simp only [List.cons.injEq, Cell.s.injEq, Cell.l.injEq, Value.int.injEq, Value.bool.injEq, and_true, true_and] at e2; exact xv rfl rfl rfl (qv (by simp [e0, e1, e2]))
theorem y1h (z1 z2 : Nat) (x0 : Int) (x1 : List (List Cell)) (x2 : List (List Cell)) (k : Int) (k1 : Int) (k2 : Int) (h1 : WR 9000000000000000000 (.i .i64 .nil) x1) (h2 : WR 9000000000000000000 (.l q7 .nil) x2) (e1 : (mkR (mk (.i .i64 .nil)) x1 k).2 = k1) (e2 : (mkR (mk (.l q7 .nil)) x2 k1).2 = k2) : PG Tryz.prog 34 [.agg [.bor (.s (.int .i64 x0)), .giv true z1 x1, .giv true z2 x2], .one (.bor (i64 k))] (rI k2) [(1, (mkR (mk (.i .i64 .nil)) x1 k).1), (2, (mkR (mk (.l q7 .nil)) x2 k1).1)] := by
 refine PG.begin Tryz.func34 rfl (by kernel_rfl) ?_; refine y08 rfl (q19 z1 x1 k h1) ⟨⟨rfl, rfl, rfl, rfl⟩, rfl, trivial⟩ rfl ?_; rw [e1]; refine y08 rfl (z2f z2 x2 k1 k2 h2 e2) ⟨⟨⟨rfl, rfl, rfl, rfl⟩, trivial⟩, rfl, trivial⟩ rfl ?_; exact xr rfl (y1n rfl ⟨⟨rfl, rfl, trivial⟩, z6 rfl⟩ ⟨⟨rfl, rfl, rfl, qq _ _ _, qs h1⟩, ⟨rfl, rfl, rfl, qq _ _ _, qs h2⟩, trivial⟩)
theorem q1f (x0 : Int) (x1 : List (List Cell)) (x2 : List (List Cell)) (k : Int) (h1 : WR 9000000000000000000 (.i .i64 .nil) x1) (h2 : WR 9000000000000000000 (.l q7 .nil) x2) (hk : 0 ≤ k) : PC Tryz.prog 35 [.agg [.s (.int .i64 x0), .l x1, .l x2], .one (i64 k)] (rI (ng (ht q16 [.s (.int .i64 x0), .l x1, .l x2] k))) := by
 refine PC.begin Tryz.func35 rfl (by kernel_rfl) ?_; have e : ht q16 [.s (.int .i64 x0), .l x1, .l x2] k = ((ps (ng (hdR (hd (.i .i64 .nil)) x1 k))).bind fun v1 => (ht yq [.l x2] v1).bind fun v2 => some v2) := by simp only [ht, Option.bind_assoc, Option.bind_some]
 rw [e]; refine z7 rfl (y4r x1 k h1) rfl tv3 ?_; generalize hk1 : ng (hdR (hd (.i .i64 .nil)) x1 (k)) = k1; refine xb rfl ?_ ?_ <;> intro hb
 · have hb : k1 < 0 := by simpa using hb
   exact xv rfl rfl rfl (congrArg (Value.int .i64) (y1i (by simp only [hk1, zb1 hb]; rfl)).symm)
 have hb1 : ¬ k1 < 0 := by simpa using hb
 have hp1 : 0 ≤ k1 := by omega
 clear hb; refine z7 rfl (q4r x2 k1 h2 hp1) rfl ⟨⟨trivial, trivial⟩, trivial, trivial⟩ ?_; generalize hk2 : ng (ht yq [.l x2] (k1)) = k2; refine xb rfl ?_ ?_ <;> intro hb
 · have hb : k2 < 0 := by simpa using hb
   exact xv rfl rfl rfl (congrArg (Value.int .i64) (y1i (by simp only [hk1, z8q hb1, Option.bind_some, qc7 hp1 hk2 hb]; rfl)).symm)
 have hb2 : ¬ k2 < 0 := by simpa using hb
 have hp2 : 0 ≤ k2 := by omega
 clear hb; exact xv rfl rfl rfl (congrArg (Value.int .i64) (by simp only [hk1, z8q hb1, Option.bind_some, zaz hk2 hb2, Option.bind_some]; rfl))
theorem q43 (rr : List (List Cell)) (hw : WR 1048576 (.l q7 .nil) rr) : PC Tryz.prog 105 [.one (.l rr)] (.one (.own false [.l 1 rr])) := by
 refine PC.begin Tryz.func105 rfl (by kernel_rfl) ?_; have hlen := hw.1; refine xs rfl rfl (xs rfl (nn_ _) (xs rfl (by omega) (xs rfl (by omega) ?_))); refine qb rfl (ι := Nat) (fun i => i ≤ rr.length) (fun i => ⟨[(4, sV (.int .i64 i)), (3, .one (.h 7 rr.length)), (0, .one (.b (.l rr)))], [(7, .arr true 1 0 (rr.take i ++ List.replicate (rr.length - i) [.l []]))]⟩) (fun i => rr.length - i) 0 (Nat.zero_le _) ?_ ?_
 · repeat' (first | exact trivial | exact rfl | exact Or.inl rfl | refine And.intro ?_ ?_)
 · intro i hi J hJ
   refine xb rfl ?_ ?_ <;> intro h
   · have h : i < rr.length := by simpa using h
     obtain ⟨row, hg⟩ := gx h; obtain ⟨x0, _, rfl, h0, hnil⟩ := ((hw.2 row (List.mem_of_getElem? hg))).z0f; obtain rfl := hnil.qr; refine xs rfl (nn_ _) (y9 rfl _ hg (xs rfl rfl ?_)); refine z7 rfl (z2k _ h0) rfl ⟨trivial, trivial⟩ ?_; refine xs rfl (yg _ _ _ _ (by omega) rfl).symm (xs rfl (nn_ _) (y9 rfl [.l []] (qn _ _ _ _ (by omega) rfl) (xs rfl rfl ?_))); refine xs rfl (yg _ _ _ _ (by omega) rfl).symm (y9 rfl [.l []] (qn _ _ _ _ (by omega) rfl) (xs rfl (by decide) (xs rfl ⟨⟨rfl, rfl⟩, trivial⟩ ?_))); refine q9 rfl (hJ _ (i + 1) (by omega) (by omega) ?_)
     repeat' (first | exact trivial | exact rfl | exact Or.inl rfl | exact cwi (by omega) (by omega) (by omega) | refine And.intro ?_ ?_)
     exact q05 _ _ _ _ _ hg rfl
   · have h : ¬ i < rr.length := by simpa using h
     have : i = rr.length := by omega
     subst this; refine xr rfl (ym rfl ⟨⟨rfl, ⟨(yg _ _ _ _ (by omega) rfl).symm, y04 _ _ _ rfl, Or.inl rfl⟩, trivial⟩, z6 rfl⟩)
theorem y6l (x0 : List (List Cell)) (h0 : WR 1048576 (.l q7 .nil) x0) : PC Tryz.prog 29 [.agg [.l x0]] (.one (.own true [.l 1 x0])) := by
 refine PC.begin Tryz.func29 rfl (by kernel_rfl) ?_; refine z7 rfl (q43 _ h0) rfl ⟨trivial, trivial⟩ ?_; exact xr rfl (ym rfl ⟨⟨rfl, ⟨rfl, rfl, .inl rfl⟩, trivial⟩, z6 rfl⟩)
theorem q42 (rr : List (List Cell)) (b : Int) (hw : WR 9223372036854775807 (.l q7 .nil) rr) (p0 : 0 ≤ b) (p1 : b ≤ 1048576) : PC Tryz.prog 102 [.one (.l rr), .one (.s (.int .i64 b))] (rI (szn b (ql (.l q7 .nil) rr))) := by
 refine PC.begin Tryz.func102 rfl (by kernel_rfl) ?_; have hlen := hw.1; have w1 : IntKind.i64.wrap (b - rr.length) = b - rr.length := wrap_i64 (by omega) (by omega); refine xb rfl ?_ ?_ <;> intro h
 · simp only [w1, decide_eq_true_eq] at h
   exact xv rfl rfl rfl (by show Value.int _ _ = Value.int _ _; unfold szn ql; rw [if_pos (by omega)])
 simp only [w1, decide_eq_false_iff_not] at h; have hs : szn b rr.length = b - rr.length := by unfold szn; rw [if_neg h]
 refine qb rfl (ι := Nat) (fun i => i ≤ rr.length ∧ 0 ≤ szn b (rr.length + q01 (tot (.l q7 .nil)) (rr.take i))) (fun i => ⟨[(5, sV (.int .i64 i)), (1, sV (.int .i64 (szn b (rr.length + q01 (tot (.l q7 .nil)) (rr.take i))))), (0, .one (.b (.l rr)))], []⟩) (fun i => rr.length - i) 0 ⟨Nat.zero_le _, by simp only [List.take_zero, q01, Nat.add_zero, hs]; omega⟩ ?_ ?_
 · refine ⟨⟨rfl, ?_, rfl, trivial⟩, trivial, rfl⟩
   show Cell.s (.int .i64 (IntKind.i64.wrap (b - rr.length))) = Cell.s (.int .i64 (szn b (rr.length + 0))); rw [w1, Nat.add_zero, hs]
 · intro i ⟨hi, hb⟩ J hJ
   refine xb rfl ?_ ?_ <;> intro h
   · have h : i < rr.length := by simpa using h
     obtain ⟨row, hg⟩ := gx h; have hc := q0r (f := tot (.l q7 .nil)) hg; have hc2 := z0i (tot (.l q7 .nil)) rr (i + 1); obtain ⟨x0, _, rfl, h0', hnil⟩ := ((hw.2 row (List.mem_of_getElem? hg))).z0f; obtain rfl := hnil.qr; have ht0 : tot (.l q7 .nil) [.l x0] = ql q7 x0 := by simp only [tot, ql] <;> omega
     refine xs rfl (nn_ _) (y9 rfl _ hg (xs rfl rfl ?_)); refine z7 rfl (q2j _ _ h0' hb (q0m p1 p0)) rfl tv3 ?_; refine xb rfl ?_ ?_ <;> intro hn
     · have hn : szn (szn b (rr.length + q01 (tot (.l q7 .nil)) (rr.take i))) (tot (.l q7 .nil) [.l x0]) < 0 := by rw [ht0]; simpa using hn
       rw [zj hb] at hn; exact xv rfl rfl rfl (by show Value.int _ _ = Value.int _ _; congr 1; unfold szn ql at *; split at hn <;> rw [if_pos] <;> omega)
     · have hn : ¬ szn (szn b (rr.length + q01 (tot (.l q7 .nil)) (rr.take i))) (tot (.l q7 .nil) [.l x0]) < 0 := by rw [ht0]; simpa using hn
       have he := zj (n := tot (.l q7 .nil) [.l x0]) hb; rw [he] at hn; rw [Nat.add_assoc, ← hc] at he hn; refine q9 rfl (hJ _ (i + 1) ⟨by omega, by omega⟩ (by omega) ?_); refine ⟨⟨cwi (by omega) (by omega) (by omega), ?_, rfl, trivial⟩, trivial, rfl⟩; exact congrArg (fun n => Cell.s (.int .i64 n)) he
   · have h : ¬ i < rr.length := by simpa using h
     have : i = rr.length := by omega
     subst this; exact xv rfl rfl rfl (by show Value.int _ _ = Value.int _ _; rw [List.take_length]; rfl)
theorem z6k (x0 : List (List Cell)) (b : Int) (h0 : WR 9223372036854775807 (.l q7 .nil) x0) (hb0 : 0 ≤ b) (hb1 : b ≤ 1048576) : PC Tryz.prog 27 [.agg [.l x0], .one (.s (.int .i64 b))] (rI (szn b (tot yq [.l x0]))) := by
 refine PC.begin Tryz.func27 rfl (by kernel_rfl) ?_; have ht : tot yq [.l x0] = ql (.l q7 .nil) x0 := by simp only [tot, ql] <;> omega
 refine z7 rfl (q42 x0 b h0 hb0 hb1) rfl tv3 ?_; refine xb rfl (fun h => ?_) (fun e0 => ?_)
 · have h : szn b (ql (.l q7 .nil) x0) < 0 := by simpa using h
   exact xv rfl rfl rfl (by show Value.int _ _ = Value.int _ _; congr 1; rw [ht]; unfold szn at *; split at h <;> rw [if_pos] <;> omega)
 have e0 : 0 ≤ szn b (ql (.l q7 .nil) x0) := by simpa using e0
 exact xv rfl rfl rfl (by show Value.int _ _ = Value.int _ _; rw [ht])
abbrev y1m : Sh := (.l (.i .i64 .nil) (.l (.l q7 .nil) .nil))
theorem z9e (row : List Cell) (h : WT 1048576 (.l q7 .nil) row) : ∃ us : List Bal, row = y0t us ∧ us.length ≤ 1048576 := by
 obtain ⟨x, _, rfl, h1, h2⟩ := h.z0f; obtain rfl := h2.qr; obtain ⟨us, rfl, l1, _⟩ := y01 h1 z2u; exact ⟨us, rfl, l1⟩
theorem ybp (x0 : List (List Cell)) (hw : WT 9223372036854775807 yq [.l x0]) (b : Nat) (hb : b ≤ 1048576) :
 PC Tryz.prog 27 [.agg [.l x0], .one (i64 b)] (rI (-1)) ∨ ∃ st : List (List Bal), x0 = ya st ∧ st.length ≤ 1048576 ∧ (∀ us ∈ st, us.length ≤ 1048576) ∧ (WT 1048576 yq [.l (ya st)] ∧ tot yq [.l (ya st)] ≤ 1048576) ∧ (∃ n : Nat, n ≤ b ∧ PC Tryz.prog 27 [.agg [.l (ya st)], .one (i64 b)] (rI n)) ∧
  PC Tryz.prog 29 [.agg [.l (ya st)]] (.one (.own true [.l 1 (ya st)])) ∧ PC Tryz.prog 32 [.agg [.l (ya st)], .agg [.l (ya st)]] (rB true) := by
 obtain ⟨_, e, k0⟩ := z1p hw; cases e; have hsz := z6k x0 b k0 (by omega) (by omega); by_cases ht : tot yq [.l x0] ≤ b
 · right
   have hs : szn b (tot yq [.l x0]) = ((b - tot yq [.l x0] : Nat) : Int) := by
    unfold szn; rw [if_neg (by omega)]; omega
   rw [hs] at hsz; have hwt := zab hw (Nat.le_trans ht hb); obtain ⟨_, e, m0⟩ := z1p hwt; cases e; have up : ∀ {e : Sh} {r : List (List Cell)}, WR 1048576 e r → WR 9000000000000000000 e r := fun h => h.mono (by omega)
   have heq := y3e x0 x0 (up m0) (up m0); rw [show dE (α := List Cell) [.l x0] [.l x0] = true from (Value.bool.inj (qv rfl)).symm] at heq; have hto := y6l x0 m0; obtain ⟨st, rfl, l1, p1⟩ := y01 m0 z9e; exact ⟨st, rfl, l1, p1, ⟨hwt, Nat.le_trans ht hb⟩, ⟨_, Nat.sub_le _ _, hsz⟩, hto, heq⟩
 · left
   have hs : szn b (tot yq [.l x0]) = -1 := by
    unfold szn; rw [if_pos (by omega)]
   rw [hs] at hsz; exact hsz
theorem q8i (st : List (List Bal)) (h : WT 1048576 yq [.l (ya st)] ∧ tot yq [.l (ya st)] ≤ 1048576) : ∃ (k : Int) (r : List (List Cell)), 0 ≤ k ∧ k ≤ 1000000000000000 ∧
 PG Tryz.prog 33 [.agg [.giv true 1 (ya st)], .one (.bor (i64 1))] (rI k) [(0, r)] := by
 obtain ⟨h, ht⟩ := h; obtain ⟨_, e, m0⟩ := z1p h; cases e; have up : ∀ {e : Sh} {r : List (List Cell)}, WR 1048576 e r → WR 9000000000000000000 e r := fun h => h.mono (by omega)
 have hm := z2f 1 (ya st) 1 _ (up m0) rfl; have hc := z82 h; rw [show wid yq = 0 from rfl, show z4z yq = 3 from rfl] at hc; have hk := (z6d h 1 (by omega) (by omega)).2; have hk2 : (mkR (mk (.l q7 .nil)) (ya st) 1).2 = 1 + cnt yq [.l (ya st)] := hk; exact ⟨_, _, by rw [hk2]; omega, by rw [hk2]; omega, hm⟩
theorem q81 (c : Clu) (h : WT 1048576 qp c.cs ∧ tot qp c.cs ≤ 1048576) (k0 : Int) (h0 : 0 ≤ k0) (h1 : k0 ≤ 1000000000000000) : ∃ (k : Int) (r0 r1 r2 r3 r4 : List (List Cell)), 0 ≤ k ∧
 PG Tryz.prog 24 [.agg [.giv true 2 (c.cons.map Con.cs), .giv true 6 (c.shs.map Shd.cs), .giv true 1 (c.accs.map Acc.cs), .giv true 3 (c.ldrs.map Ldr.cs), .giv true 9 (c.msgs.map Msg.cs)], .one (.bor (i64 k0))] (rI k) [(0, r0), (1, r1), (2, r2), (3, r3), (4, r4)] := by
 obtain ⟨h, ht⟩ := h; obtain ⟨_, _, _, _, _, e, m0, m1, m2, m3, m4⟩ := z0t h; cases e; have up : ∀ {e : Sh} {r : List (List Cell)}, WR 1048576 e r → WR 9000000000000000000 e r := fun h => h.mono (by omega)
 have hm := z40 2 6 1 3 9 _ _ _ _ _ k0 _ _ _ _ _ (up m0) (up m1) (up m2) (up m3) (up m4) rfl rfl rfl rfl rfl; have hc := z82 h; have hw : wid qp = 0 := rfl; have hw2 : z4z qp = 48 := rfl; rw [hw, hw2] at hc; have hk := (z6d h k0 (by omega) (by omega)).2
 exact ⟨_, _, _, _, _, _, by
  show 0 ≤ (mk qp c.cs k0).2
  rw [hk]; omega, hm⟩
theorem qb8 {us : List Bal} (h : us.length ≤ 18) : WT 1048576 (.l q7 .nil) (y0t us) := .l _ (by rw [List.length_map]; omega) (fun row hr => by
 obtain ⟨x, _, rfl⟩ := List.mem_map.1 hr
 exact .i _ (.i _ (.i _ .nil))) .nil
theorem q9y {us : List Bal} (h : us.length ≤ 18) : tot (.l q7 .nil) (y0t us) ≤ 18 + 0 * 0 := by
 have e : q01 (tot q7) (us.map Bal.cs) = 0 := by
  clear h
  induction us with
  | nil => rfl
  | cons x us ih => rw [List.map_cons, q01, ih]; rfl
 show (us.map Bal.cs).length + q01 (tot q7) (us.map Bal.cs) + 0 ≤ _; rw [e, List.length_map]; omega
theorem ya9 {us : List Int} {st : List (List Bal)} (hu : us.length ≤ 100) (hs : st.length ≤ 3) (ho : q1c st) : WT 1048576 y1m [.l (ints us), .l (ya st)] ∧ tot y1m [.l (ints us), .l (ya st)] ≤ 1000 := by
 refine ⟨.l _ (by simp [ints]; omega) (fun row hr => ?_) (.l _ (by simp [ya]; omega) (fun row hr => ?_) .nil), ?_⟩
 · simp [ints] at hr
   obtain ⟨n, _, rfl⟩ := hr; exact .i n .nil
 · obtain ⟨x, hx, rfl⟩ := List.mem_map.1 hr
   exact qb8 (y17 (ho x hx))
 · have e1 : q01 (tot (.i .i64 .nil)) (ints us) ≤ 0 * (ints us).length + 0 * q01 (fun _ => 0) (ints us) := Go.Sx.z1z fun row hr => by
    simp [ints] at hr; obtain ⟨n, _, rfl⟩ := hr; exact Nat.zero_le _
   have e2 : q01 (tot (.l q7 .nil)) (ya st) ≤ 18 * (ya st).length + 0 * q01 (fun _ => 0) (ya st) := Go.Sx.z1z fun row hr => by
    obtain ⟨x, hx, rfl⟩ := List.mem_map.1 hr; exact q9y (y17 (ho x hx))
   have l1 : (ints us).length = us.length := by simp [ints]
   have l2 : (ya st).length = st.length := by simp [ya]
   show (ints us).length + q01 (tot (.i .i64 .nil)) (ints us) + ((ya st).length + q01 (tot (.l q7 .nil)) (ya st) + 0) ≤ _; omega
theorem z9q (us : List Int) (st : List (List Bal)) (hu : us.length ≤ 100) (hs : st.length ≤ 3) (ho : q1c st) : ∃ (k : Int) (r1 r2 : List (List Cell)), 0 ≤ k ∧ (r1.length = (ints us).length ∧ r2.length = (ya st).length) ∧
 (∀ code : Int, PG Tryz.prog 34 [.agg [.bor (.s (.int .i64 code)), .giv true 1 (ints us), .giv true 1 (ya st)], .one (.bor (i64 1))] (rI k) [(1, r1), (2, r2)]) ∧
 ∀ code : Int, PC Tryz.prog 35 [.agg [.s (.int .i64 code), .l r1, .l r2], .one (i64 1)] (rI k) := by
 obtain ⟨h, ht⟩ := ya9 hu hs ho; obtain ⟨_, _, e, m0, hr⟩ := h.z0f; cases e; obtain ⟨_, _, e, m1, _⟩ := hr.z0f; cases e; have up : ∀ {e : Sh} {r : List (List Cell)}, WR 1048576 e r → WR 9000000000000000000 e r := fun h => h.mono (by omega)
 have hc := z82 h; rw [show wid y1m = 0 from rfl, show z4z y1m = 4 from rfl] at hc; obtain ⟨h1, h2⟩ := z6d h 1 (by omega) (by omega); refine ⟨(mk y1m [.l (ints us), .l (ya st)] 1).2, _, _, by rw [h2]; omega, ⟨qq _ _ _, qq _ _ _⟩, fun code => y1h 1 1 code _ _ 1 _ _ (up m0) (up m1) rfl rfl, fun code => ?_⟩; have hh := q1f code _ _ 1 (ya8 (up m0) 1) (ya8 (up m1) (mkR (mk (.i .i64 .nil)) (ints us) 1).2) (by omega); have e : ng (hd y1m (mk y1m [.l (ints us), .l (ya st)] 1).1 1) = (mk y1m [.l (ints us), .l (ya st)] 1).2 := by rw [h1, h2]; rfl
 rw [← e]; exact hh
theorem y9q (us : List Int) (st : List (List Bal)) (hu : us.length ≤ 100) (hs : st.length ≤ 3) (ho : q1c st) (code : Int) : PC Tryz.prog 31 [.agg [.s (.int .i64 code), .l (ints us), .l (ya st)], .agg [.s (.int .i64 code), .l (ints us), .l (ya st)]] (rB true) := by
 obtain ⟨h, _⟩ := ya9 hu hs ho; obtain ⟨_, _, e, m0, hr⟩ := h.z0f; cases e; obtain ⟨_, _, e, m1, _⟩ := hr.z0f; cases e; have up : ∀ {e : Sh} {r : List (List Cell)}, WR 1048576 e r → WR 9000000000000000000 e r := fun h => h.mono (by omega)
 have h := z20 code _ _ code _ _ (up m0) (up m1) (up m0) (up m1)
 rwa [show dE (α := List Cell) [.s (.int .i64 code), .l (ints us), .l (ya st)] [.s (.int .i64 code), .l (ints us), .l (ya st)] = true from (Value.bool.inj (qv rfl)).symm] at h
theorem y9m (gs cs : List Cell) (hg : WT 9223372036854775807 yq gs) (hw : WT 9223372036854775807 qp cs) : PC Tryz.prog 6 [.agg gs, .agg cs] (rB true) := by
 refine PC.begin Tryz.func6 rfl (by kernel_rfl) ?_; obtain ⟨g0, rfl, _⟩ := z1p hg; obtain ⟨x0, x1, x2, x3, x4, rfl, _⟩ := z0t hw; rcases ybp g0 hg 1048576 (Nat.le_refl _) with hgz | ⟨st, rfl, hsl, hsb, hsw, ⟨m, hm, hgz⟩, hgto, hgeq⟩
 · skip
   refine z7 rfl (hgz) rfl ⟨⟨trivial, trivial⟩, trivial, trivial⟩ (xj (k := 1) rfl ?_); refine xr rfl (ym rfl ⟨⟨rfl, rfl, trivial⟩, z6 rfl⟩)
 · rcases qbk x0 x1 x2 x3 x4 hw m (by omega) with hsz | ⟨c, rfl, rfl, rfl, rfl, rfl, ho, hwt, ⟨n, _, hsz⟩, hto, heq⟩
   · skip
     refine z7 rfl (hgz) rfl ⟨⟨trivial, trivial⟩, trivial, trivial⟩ (xj (k := 1) rfl (z7 rfl (hsz) rfl ⟨tv6, trivial, trivial⟩ (xj (k := 1) rfl ?_))); refine xr rfl (ym rfl ⟨⟨rfl, rfl, trivial⟩, z6 rfl⟩)
   · have hI := y7e st c ho hsl hsb
     have hS := y7n st c ho hsl hsb; obtain ⟨hle1, hle2, hle3⟩ := y8t st c; unfold qce at hI; unfold yb1 at hS; generalize (z0m st c).1 = code at hI hS; generalize (z0m st c).2.1 = outs at hI hS hle1; generalize (z0m st c).2.2 = fin at hI hS hle2 hle3; have hr := y9q outs fin hle1 hle2 hle3 code; obtain ⟨k1, rs, hk1, hk2, hm1⟩ := q8i st hsw; obtain ⟨k, r0, r1, r2, r3, r4, hk, hmk⟩ := q81 c ⟨hwt.1, by omega⟩ k1 hk1 hk2; obtain ⟨q, o1, o2, hq, ⟨hl1, hl2⟩, hmr, hhd⟩ := z9q outs fin hle1 hle2 hle3; refine z7 rfl (hgz) rfl ⟨⟨trivial, trivial⟩, trivial, trivial⟩ (xj (k := 1) rfl (z7 rfl (hsz) rfl ⟨tv6, trivial, trivial⟩ (xj (k := 1) rfl ?_))); refine y5x (n := 1) rfl (ι := Unit) (fun _ => True) (fun _ => ⟨[(6, .one (.a 6 0)), (2, .one (.b (.p [.l (ya st)]))), (3, .one (.b (.p c.cs)))], [(6, .var [.b (i64 code), .b (.l (ints outs)), .b (.l (ya fin))])]⟩) ?_ ?_
     · intro K hK
       refine yb rfl [] (.take 0 [1, 3, 4, 6] (.take 2 [3, 4, 6] (.alt 1 (.alt 3 (.alt 4 (.alt 5 (.alt 6 .done .nil) .nil) (.alt 5 (.alt 4 (.alt 6 .done .nil) .nil) .nil)) (.alt 5 (.alt 3 (.alt 4 (.alt 6 .done .nil) .nil) .nil) .nil)) (.alt 5 (.alt 1 (.alt 3 (.alt 4 (.alt 6 .done .nil) .nil) .nil) .nil) .nil)))) (by kernel_rfl) ?_; refine y0p rfl ?_ ?_; refine z7 rfl (PC.ybb hgto) rfl ⟨⟨trivial, trivial⟩, trivial⟩ ?_; refine y0p rfl ?_ ?_; refine z7 rfl (PC.ybb hto) rfl ⟨tv6, trivial⟩ ?_; refine y0p rfl ?_ ?_; refine z7 rfl (hS) rfl ⟨⟨trivial, trivial⟩, tv6, trivial⟩ ?_; rotate_left; refine z7 rfl (hS) rfl ⟨⟨trivial, trivial⟩, tv6, trivial⟩ ?_; rotate_left; refine z7 rfl (PC.ybb hto) rfl ⟨tv6, trivial⟩ ?_; refine z7 rfl (hS) rfl ⟨⟨trivial, trivial⟩, tv6, trivial⟩ ?_; rotate_left; refine z7 rfl (PC.ybb hgto) rfl ⟨⟨trivial, trivial⟩, trivial⟩ (z7 rfl (PC.ybb hto) rfl ⟨tv6, trivial⟩ ?_); refine z7 rfl (hS) rfl ⟨⟨trivial, trivial⟩, tv6, trivial⟩ ?_; rotate_left; all_goals exact q9 rfl (hK _ () trivial ⟨⟨⟨rfl, rfl, rfl⟩, ⟨rfl, rfl, rfl⟩, ⟨rfl, rfl, rfl⟩, trivial⟩, ⟨⟨rfl, rfl, rfl, trivial⟩, trivial⟩, rfl⟩)
     intro _ _; refine z7 rfl (hgto) rfl ⟨⟨trivial, trivial⟩, trivial⟩ (z7 rfl (hto) rfl ⟨tv6, trivial⟩ (z7 rfl (hI) rfl ⟨⟨rfl, trivial⟩, ⟨rfl, rfl, rfl, rfl, rfl, trivial⟩, trivial⟩ (z7 rfl (hr) rfl ⟨⟨trivial, rfl, rfl, trivial⟩, tv4, trivial⟩ (xj (k := 1) rfl (yb rfl [] (.take 0 [3, 4] (.take 1 (Rg 2 3) (.alt 2 (.alt 3 (.take 4 [] .done) .nil) .nil))) (by kernel_rfl) (z7 rfl (hgto) rfl ⟨⟨trivial, trivial⟩, trivial⟩ (z7 rfl (hgeq) rfl ⟨⟨rfl, trivial⟩, ⟨rfl, trivial⟩, trivial⟩ (xj (k := 1) rfl (yb rfl [] (.take 0 [3, 4] (.take 1 (Rg 2 3) (.alt 2 (.alt 3 (.take 4 [] .done) .nil) .nil))) (by kernel_rfl) ?_))))))))); refine z7 rfl (hto) rfl ⟨tv6, trivial⟩ (z7 rfl (heq) rfl ⟨⟨rfl, rfl, rfl, rfl, rfl, trivial⟩, ⟨rfl, rfl, rfl, rfl, rfl, trivial⟩, trivial⟩ (xj (k := 1) rfl (y08 rfl (hm1) ⟨⟨⟨rfl, rfl, rfl, rfl⟩, trivial⟩, rfl, trivial⟩ rfl (y08 rfl (hmk) ⟨⟨⟨rfl, rfl, rfl, rfl⟩, ⟨rfl, rfl, rfl, rfl⟩, ⟨rfl, rfl, rfl, rfl⟩, ⟨rfl, rfl, rfl, rfl⟩, ⟨rfl, rfl, rfl, rfl⟩, trivial⟩, rfl, trivial⟩ rfl ?_)))); refine xb rfl ?_ ?_ <;> intro b0
     exact absurd b0 (by simp; omega); refine xj (k := 2) rfl (z7 rfl (hr) rfl ⟨⟨trivial, rfl, rfl, trivial⟩, tv4, trivial⟩ (xj (k := 3) rfl (y08 rfl (hmr code) ⟨⟨rfl, ⟨rfl, rfl, rfl, rfl⟩, ⟨rfl, rfl, rfl, rfl⟩, trivial⟩, rfl, trivial⟩ rfl (z7 rfl (hhd code) rfl ⟨⟨trivial, hl1.symm, hl2.symm, trivial⟩, trivial, trivial⟩ ?_)))); refine xb rfl ?_ ?_ <;> intro b0
     exact absurd b0 (by simp; omega); refine xb rfl ?_ ?_ <;> intro b1
     exact absurd b1 (by simp [*]); refine y5x (n := 1) rfl (ι := Unit) (fun _ => True) (fun _ => ⟨[(13, .one (.a 13 0)), (9, .one (.a 9 0)), (6, .one (.a 6 0)), (11, sV (.int .i64 q))], [(13, .var [.b (i64 code), .b (.l (ints outs)), .b (.l (ya fin))]), (9, .var [.b (i64 code), .b (.l o1), .b (.l o2)]), (6, .var [.b (i64 code), .b (.l (ints outs)), .b (.l (ya fin))])]⟩) ?_ ?_
     · intro K hK
       refine yb rfl [] (.take 0 [1, 3, 4, 6] (.take 2 [3, 4, 6] (.alt 1 (.alt 3 (.alt 4 (.alt 5 (.alt 6 .done .nil) .nil) (.alt 5 (.alt 4 (.alt 6 .done .nil) .nil) .nil)) (.alt 5 (.alt 3 (.alt 4 (.alt 6 .done .nil) .nil) .nil) .nil)) (.alt 5 (.alt 1 (.alt 3 (.alt 4 (.alt 6 .done .nil) .nil) .nil) .nil) .nil)))) (by kernel_rfl) ?_; refine y0p rfl ?_ ?_; refine z7 rfl (hgto) rfl ⟨⟨trivial, trivial⟩, trivial⟩ ?_; refine y0p rfl ?_ ?_; refine z7 rfl (hto) rfl ⟨tv6, trivial⟩ ?_; refine y0p rfl ?_ ?_; refine z7 rfl (hI) rfl ⟨⟨rfl, trivial⟩, ⟨rfl, rfl, rfl, rfl, rfl, trivial⟩, trivial⟩ ?_; rotate_left; refine z7 rfl (hI) rfl ⟨⟨rfl, trivial⟩, ⟨rfl, rfl, rfl, rfl, rfl, trivial⟩, trivial⟩ ?_; rotate_left; refine z7 rfl (hto) rfl ⟨tv6, trivial⟩ ?_; refine z7 rfl (hI) rfl ⟨⟨rfl, trivial⟩, ⟨rfl, rfl, rfl, rfl, rfl, trivial⟩, trivial⟩ ?_; rotate_left; refine z7 rfl (hgto) rfl ⟨⟨trivial, trivial⟩, trivial⟩ (z7 rfl (hto) rfl ⟨tv6, trivial⟩ ?_); refine z7 rfl (hI) rfl ⟨⟨rfl, trivial⟩, ⟨rfl, rfl, rfl, rfl, rfl, trivial⟩, trivial⟩ ?_; rotate_left; all_goals exact q9 rfl (hK _ () trivial ⟨⟨⟨rfl, rfl, rfl⟩, ⟨rfl, rfl, rfl⟩, ⟨rfl, rfl, rfl⟩, rfl, trivial⟩, ⟨⟨rfl, ⟨rfl, rfl, rfl⟩, ⟨rfl, rfl, rfl⟩, trivial⟩, ⟨rfl, ⟨rfl, hl1.symm, rfl⟩, ⟨rfl, hl2.symm, rfl⟩, trivial⟩, ⟨rfl, rfl, rfl, trivial⟩, trivial⟩, rfl⟩)
     intro _ _; refine z7 rfl (hr) rfl ⟨tv4, tv4, trivial⟩ (xj (k := 1) rfl (z7 rfl (hhd code) rfl ⟨tv4, trivial, trivial⟩ ?_)); refine xb rfl ?_ ?_ <;> intro b0
     exact absurd b0 (by simp; omega); refine xb rfl ?_ ?_ <;> intro b1
     exact absurd b1 (by simp [*]); refine xr rfl (ym rfl ⟨⟨rfl, rfl, trivial⟩, z6 rfl⟩)
end Go.Proofs.YtohbmmpkcibnpaaGreat
end
section
namespace Go.Proofs.YtohbmmpkcibnpaaGreat.fnExactReplayOrder
open Go.ChangeShapes Go.WideShapes Go.ChangeAt Go.RowKit
set_option maxRecDepth 100000 in
set_option maxHeartbeats 40000000 in
theorem closed : joinedFacts Tryz.pinned.checked.prog 6 Tryz.f6 Rows.fnExactReplayOrderSpec Rows.fnExactReplayOrderRow = true := by
 unfold joinedFacts; simp only [Bool.and_eq_true]
 repeat' refine And.intro ?_ ?_
 all_goals as_aux_lemma => kernel_rfl
end Go.Proofs.YtohbmmpkcibnpaaGreat.fnExactReplayOrder
end
section
namespace Go.Proofs.YtohbmmpkcibnpaaGreat.fnExactReplayOrder
open Go.ChangeShapes Go.WideShapes Go.ChangeAt Go.RowKit Go.Sx
open Go.ChangeMaps (open_string shut_string)
theorem own : ownKnob Tryz.prog.godebug = none := by kernel_rfl
theorem laidOut : laidOutB Tryz.prog = true := by kernel_rfl
theorem q2 : OS Tryz.prog 2 (.i .i64 .nil) := zbt Tryz.underlying2 (by kernel_rfl)
theorem yct : OS Tryz.prog 336 q7 := qz Tryz.underlying336 (by kernel_rfl) (.cons (by kernel_rfl) (.cons (by kernel_rfl) (.cons (by kernel_rfl) (.nil _)))) (zh q2 (zh q2 (z0g q2) rfl rfl) rfl rfl)
theorem ycl : OS Tryz.prog 181 (.l q7 .nil) := y05 Tryz.underlying181 (by kernel_rfl) yct
theorem q60 : OS Tryz.prog 60 (.l (.l q7 .nil) .nil) := y05 Tryz.underlying60 (by kernel_rfl) ycl
theorem q62 : OS Tryz.prog 62 yq := qz Tryz.underlying62 (by kernel_rfl) (.cons (by kernel_rfl) (.nil _)) (z0g q60)
theorem zct : OS Tryz.prog 266 y02 := qz Tryz.underlying266 (by kernel_rfl) (.cons (by kernel_rfl) (.cons (by kernel_rfl) (.cons (by kernel_rfl) (.cons (by kernel_rfl) (.nil _))))) (zh q2 (zh q2 (zh q2 (z0g q2) rfl rfl) rfl rfl) rfl rfl)
theorem q77 : OS Tryz.prog 77 (.l y02 .nil) := y05 Tryz.underlying77 (by kernel_rfl) zct
theorem q79 : OS Tryz.prog 79 z8 := qz Tryz.underlying79 (by kernel_rfl) (.cons (by kernel_rfl) (.cons (by kernel_rfl) (.nil _))) (zh q2 (z0g q77) rfl rfl)
theorem q22 : OS Tryz.prog 22 (.l z8 .nil) := y05 Tryz.underlying22 (by kernel_rfl) q79
theorem ycu : OS Tryz.prog 368 zi := qz Tryz.underlying368 (by kernel_rfl) (.cons (by kernel_rfl) (.cons (by kernel_rfl) (.nil _))) (zh q2 (z0g q2) rfl rfl)
theorem qcl : OS Tryz.prog 182 (.l zi .nil) := y05 Tryz.underlying182 (by kernel_rfl) ycu
theorem q64 : OS Tryz.prog 64 (.l (.i .i64 .nil) .nil) := y05 Tryz.underlying64 (by kernel_rfl) q2
theorem qcq : OS Tryz.prog 184 zg := qz Tryz.underlying184 (by kernel_rfl) (.cons (by kernel_rfl) (.cons (by kernel_rfl) (.cons (by kernel_rfl) (.cons (by kernel_rfl) (.cons (by kernel_rfl) (.cons (by kernel_rfl) (.nil _))))))) (zh q2 (zh ycl (zh qcl (zh q22 (zh qcl (z0g q64) rfl rfl) rfl rfl) rfl rfl) rfl rfl) rfl rfl)
theorem q23 : OS Tryz.prog 23 (.l zg .nil) := y05 Tryz.underlying23 (by kernel_rfl) qcq
theorem yce : OS Tryz.prog 205 zo := qz Tryz.underlying205 (by kernel_rfl) (.cons (by kernel_rfl) (.cons (by kernel_rfl) (.nil _))) (zh q2 (z0g q2) rfl rfl)
theorem zcm : OS Tryz.prog 359 (.l zo .nil) := y05 Tryz.underlying359 (by kernel_rfl) yce
theorem qct : OS Tryz.prog 361 zn := qz Tryz.underlying361 (by kernel_rfl) (.cons (by kernel_rfl) (.cons (by kernel_rfl) (.cons (by kernel_rfl) (.cons (by kernel_rfl) (.cons (by kernel_rfl) (.nil _)))))) (zh q2 (zh q2 (zh q2 (zh yce (z0g zcm) rfl rfl) rfl rfl) rfl rfl) rfl rfl)
theorem zcr : OS Tryz.prog 186 (.l zn .nil) := y05 Tryz.underlying186 (by kernel_rfl) qct
theorem ycr : OS Tryz.prog 188 qa := qz Tryz.underlying188 (by kernel_rfl) (.cons (by kernel_rfl) (.nil _)) (z0g zcr)
theorem q24 : OS Tryz.prog 24 (.l qa .nil) := y05 Tryz.underlying24 (by kernel_rfl) ycr
theorem zcu : OS Tryz.prog 364 zr := qz Tryz.underlying364 (by kernel_rfl) (.cons (by kernel_rfl) (.cons (by kernel_rfl) (.cons (by kernel_rfl) (.cons (by kernel_rfl) (.cons (by kernel_rfl) (.cons (by kernel_rfl) (.nil _))))))) (zh q2 (zh q2 (zh q2 (zh q2 (zh q64 (z0g zcm) rfl rfl) rfl rfl) rfl rfl) rfl rfl) rfl rfl)
theorem qcr : OS Tryz.prog 190 (.l zr .nil) := y05 Tryz.underlying190 (by kernel_rfl) zcu
theorem qcu : OS Tryz.prog 372 zp := qz Tryz.underlying372 (by kernel_rfl) (.cons (by kernel_rfl) (.cons (by kernel_rfl) (.cons (by kernel_rfl) (.cons (by kernel_rfl) (.cons (by kernel_rfl) (.nil _)))))) (zh q2 (zh q2 (zh q2 (zh q2 (z0g q2) rfl rfl) rfl rfl) rfl rfl) rfl rfl)
theorem zcs : OS Tryz.prog 191 (.l zp .nil) := y05 Tryz.underlying191 (by kernel_rfl) qcu
theorem ycs : OS Tryz.prog 193 qe := qz Tryz.underlying193 (by kernel_rfl) (.cons (by kernel_rfl) (.cons (by kernel_rfl) (.cons (by kernel_rfl) (.nil _)))) (zh q2 (zh qcr (z0g zcs) rfl rfl) rfl rfl)
theorem q25 : OS Tryz.prog 25 (.l qe .nil) := y05 Tryz.underlying25 (by kernel_rfl) ycs
theorem qcs : OS Tryz.prog 207 qg := qz Tryz.underlying207 (by kernel_rfl) (.cons (by kernel_rfl) (.cons (by kernel_rfl) (.cons (by kernel_rfl) (.cons (by kernel_rfl) (.cons (by kernel_rfl) (.cons (by kernel_rfl) (.cons (by kernel_rfl) (.cons (by kernel_rfl) (.nil _))))))))) (zh q2 (zh q2 (zh q2 (zh q2 (zh q2 (zh q2 (zh q2 (z0g yce) rfl rfl) rfl rfl) rfl rfl) rfl rfl) rfl rfl) rfl rfl) rfl rfl)
theorem q26 : OS Tryz.prog 26 (.l qg .nil) := y05 Tryz.underlying26 (by kernel_rfl) qcs
theorem q28 : OS Tryz.prog 28 qp := qz Tryz.underlying28 (by kernel_rfl) (.cons (by kernel_rfl) (.cons (by kernel_rfl) (.cons (by kernel_rfl) (.cons (by kernel_rfl) (.cons (by kernel_rfl) (.nil _)))))) (zh q22 (zh q23 (zh q24 (zh q25 (z0g q26) rfl rfl) rfl rfl) rfl rfl) rfl rfl)
set_option maxRecDepth 100000 in
theorem lifted (os : Os) (started : os.Started) (H : Type) (enc : TypeId × Value → H) :
 ReturnsInHanded {} Tryz.checked os 6 .any (Rows.fnExactReplayOrderSpec.pre6 enc Tryz.prog Tryz.f6 Rows.fnExactReplayOrderRow.domain false) (Rows.fnExactReplayOrderSpec.post enc Tryz.prog Tryz.f6 false true false false) := by
 refine returnsInHanded_of_change_sized (C := Tryz.checked) own started (by kernel_rfl) Tryz.func6
  (ChangeSpec.witness6 (enc := enc) (C := Tryz.checked) false ⟨#[], #[.agg #[.slice none 0 0], .agg #[.slice none 0 0, .slice none 0 0, .slice none 0 0, .slice none 0 0, .slice none 0 0]], []⟩ 8 (by kernel_rfl) (by kernel_rfl) (by kernel_rfl) (by kernel_rfl)) ?_
 intro W base args ds gs before hval0 hW _ _ _; have hval : ∀ (j : Nat) t v, Tryz.f6.params[j]? = some t → args[j]? = some v → Value.okWide Tryz.prog W .any base t v := hval0
 have hW' := hW; obtain ⟨p, q, hA0, hV, rfl, hfz, hnd⟩ := hW; have hA : DataW.TrodAll enc Tryz.prog W 0 (fun _ => true) true Tryz.f6.params.toList args.toList ds p := hA0; rw [Tryz.params6] at hA hval; obtain ⟨v0, vs0, d0, ds0, p0, q0, hargs, rfl, rfl, h0, r0⟩ := trodAll_cons hA; obtain ⟨v1, vs1, d1, ds1, p1, q1, rfl, rfl, rfl, h1, r1⟩ := trodAll_cons r0; obtain ⟨rfl, rfl, rfl⟩ := trodAll_nil r1; obtain rfl : args = #[v0, v1] := by cases args; simp_all
 obtain ⟨rfl, rfl⟩ := trodVars_none hV; have k0 := h0; have lt0 : ∀ x ∈ p0, x.block < W.heap.size := by obtain ⟨m, hm⟩ := k0; exact DataW.trod_lt m _ _ _ hm
 obtain ⟨c0, R0, w0⟩ := za3 Tryz.underlying62 q62 (hval 0 62 v0 rfl rfl) h0; have k1 := h1; have lt1 : ∀ x ∈ p1, x.block < W.heap.size := by obtain ⟨m, hm⟩ := k1; exact DataW.trod_lt m _ _ _ hm
 obtain ⟨c1, R1, w1⟩ := za3 Tryz.underlying28 q28 (hval 1 28 v1 rfl rfl) h1; clear hA0 hval0; refine (PC.law (y9m c0 c1 w0 w1) (z58.two R0 R1)).mono fun e W' ⟨he, bel⟩ => ?_
 subst he; exact ⟨_, rfl, _, _, _, [], _, [], hW', trodAll_mk1 (shut_bool Tryz.underlying4 _), (trodAll_cons_mk (Below.trod laidOut (by kernel_rfl) (of_decide_eq_true (by kernel_rfl)) k0 bel lt0) (trodAll_cons_mk (Below.trod laidOut (by kernel_rfl) (of_decide_eq_true (by kernel_rfl)) k1 bel lt1) trodAll_mk0)), rfl, bel.frame _, fun h => by cases h⟩
theorem ycq : Rows.fnExactReplayOrderRow.holds Tryz.pinned (OpenSpec.ofChange Rows.fnExactReplayOrderSpec) :=
 OpenClaim.holds_of_wide 6 Tryz.f6 rfl rfl rfl rfl rfl rfl rfl ⟨rfl, rfl, rfl, rfl, rfl⟩ rfl rfl rfl rfl rfl (by as_aux_lemma => kernel_rfl) Tryz.func6 closed
  (by as_aux_lemma => exact of_decide_eq_true (by kernel_rfl)) (by as_aux_lemma => unfold Func.isWrapper; first | (rw [if_pos (by decide +kernel)]; kernel_rfl) | (rw [if_neg (by decide +kernel)]; exact ⟨rfl, rfl⟩))
  (fun os started H enc _ => lifted os started H enc)
theorem qbt : Rows.FnExactReplayOrderSaid := ycq
end Go.Proofs.YtohbmmpkcibnpaaGreat.fnExactReplayOrder
namespace Go.Proofs.YtohbmmpkcibnpaaGreat
theorem fnExactReplayOrder_holds : Rows.FnExactReplayOrderSaid := fnExactReplayOrder.qbt
end Go.Proofs.YtohbmmpkcibnpaaGreat
end
