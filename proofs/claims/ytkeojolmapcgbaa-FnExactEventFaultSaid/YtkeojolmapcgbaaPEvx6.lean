/- WHAT IS PROVED: for each Go function that the laws of Ev reach, that the call answers what a plain Lean function says, whatever fits the arguments' types; no other condition. Written by our own program over the kit's print. -/
import Derived.Test.YtkeojolmapcgbaaPEvx0
import Derived.Test.YtkeojolmapcgbaaPEvx4
import Derived.Test.YtkeojolmapcgbaaPEvx5
namespace Go.Proofs.Ytkeojolmapcgbaa.PEv
open Go.RowKit Go.Proofs.YtkeojolmapcgbaaW.PrintWords Go.Proofs.YtkeojolmapcgbaaW.PrintLast Go.Proofs.YtkeojolmapcgbaaW.PrintMore
attribute [local go_sem] max2_int min2_int max_two min_two max_three min_three max_four min_four   -- for this text's walks alone
set_option linter.unusedVariables false
set_option linter.unusedSimpArgs false

/-! ### impl_ContractFault: function 50 (given) -/
section
open Go.Maps

def sameAt (x y : S138) : Bool := x.f0 == y.f0 && (x.f1 == y.f1 && x.f2 == y.f2)
def hasAt (l : List S138) (y : S138) : Bool := l.any fun x => sameAt x y

set_option maxRecDepth 100000 in
theorem samePlace_any (x y : S138) (w : World) :
    Calls Try.prog 100 #[.agg #[.int .i64 x.f0, .int .i64 x.f1, .int .i64 x.f2, .int .i64 x.f3], .agg #[.int .i64 y.f0, .int .i64 y.f1, .int .i64 y.f2, .int .i64 y.f3]] w fun e w' => e = .returned (.bool (sameAt x y)) ∧ Below w.heap.size w w' := by
  go_enter Try.func100, Try.ntmps100
  go_wp2
  all_goals go_ret
  all_goals exact ⟨by simp [sameAt, *], ((Below.refl _ _).alloc (Nat.le_refl _) _).alloc (by simp) _⟩

set_option maxRecDepth 100000 in
theorem samePlace_closure (x y : S138) (a : Addr) (w : World) (h0 : w.cell? a = some (.int .i64 y.f0)) (h1 : w.cell? ⟨a.block, a.off + 1, none⟩ = some (.int .i64 y.f1)) (h2 : w.cell? ⟨a.block, a.off + 2, none⟩ = some (.int .i64 y.f2)) (h3 : w.cell? ⟨a.block, a.off + 3, none⟩ = some (.int .i64 y.f3)) :
    Calls Try.prog 99 #[.agg #[.int .i64 x.f0, .int .i64 x.f1, .int .i64 x.f2, .int .i64 x.f3], .pointer (some a)] w fun e w' => e = .returned (.bool (sameAt x y)) ∧ Below w.heap.size w w' := by
  have hu138 := Try.underlying138
  have b : a.block < w.heap.size := World.block_lt_of_cell? w a h0
  have hb1 := (Below.refl w.heap.size w).alloc (Nat.le_refl _) (.cells #[.int .i64 x.f0, .int .i64 x.f1, .int .i64 x.f2, .int .i64 x.f3] 138)
  have g0 := (hb1.cell (p := a) b).trans h0
  have g1 := (hb1.cell (p := ⟨a.block, a.off + 1, none⟩) b).trans h1
  have g2 := (hb1.cell (p := ⟨a.block, a.off + 2, none⟩) b).trans h2
  have g3 := (hb1.cell (p := ⟨a.block, a.off + 3, none⟩) b).trans h3
  have HB := Aside0.mk hb1
  clear hb1
  clear h0 h1 h2 h3
  go_enter Try.func99, Try.ntmps99
  go_wp2_with fail
  refine (samePlace_any x y _).mono ?_
  rintro e w' ⟨rfl, hb⟩
  go_wp2
  go_ret
  exact ⟨rfl, below_step HB.out hb⟩

def idxAt (l : List S138) (y : S138) : Int := ((l.findIdx? fun x => sameAt x y).map Int.ofNat).getD (-1)
theorem idxAt_some (l : List S138) (y : S138) (k : Nat) (hk : k < l.length) (h0 : ∀ j : Nat, j < k → sameAt (l.getD j z138) y = false) (h1 : sameAt (l.getD k z138) y = true) : idxAt l y = (k : Int) := by
  have e : (l.findIdx? fun x => sameAt x y) = some k := by
    rw [List.findIdx?_eq_some_iff_getElem]
    refine ⟨hk, ?_, fun j hj => ?_⟩
    · simpa [List.getD_eq_getElem?_getD, List.getElem?_eq_getElem hk] using h1
    · have := h0 j hj
      simpa [List.getD_eq_getElem?_getD, List.getElem?_eq_getElem (show j < l.length by omega)] using this
  unfold idxAt
  rw [e]
  rfl
theorem idxAt_none (l : List S138) (y : S138) (h0 : ∀ j : Nat, j < l.length → sameAt (l.getD j z138) y = false) : idxAt l y = -1 := by
  have e : (l.findIdx? fun x => sameAt x y) = none := by
    rw [List.findIdx?_eq_none_iff]
    intro x hx
    obtain ⟨j, hj, rfl⟩ := List.getElem_of_mem hx
    have := h0 j hj
    simpa [List.getD_eq_getElem?_getD, List.getElem?_eq_getElem hj] using this
  unfold idxAt
  rw [e]
  rfl
theorem idxAt_has (l : List S138) (y : S138) : decide (0 ≤ idxAt l y) = hasAt l y := by
  unfold idxAt hasAt
  cases e : l.findIdx? fun x => sameAt x y with
  | none =>
    rw [List.findIdx?_eq_none_iff] at e
    rw [eq_comm, Bool.eq_iff_iff]
    simp
    intro x hx
    simpa using e x hx
  | some k =>
    rw [List.findIdx?_eq_some_iff_getElem] at e
    obtain ⟨hk, h1, _⟩ := e
    rw [eq_comm, Bool.eq_iff_iff]
    simp
    exact ⟨_, List.getElem_mem hk, h1⟩

set_option maxRecDepth 100000 in
theorem indexFunc_any (A : Option Addr) (c : Nat) (l : List S138) (y : S138) (a : Addr) (w : World) (hr : Kd.C k138 w A l.length l) (h0 : w.cell? a = some (.int .i64 y.f0)) (h1 : w.cell? ⟨a.block, a.off + 1, none⟩ = some (.int .i64 y.f1)) (h2 : w.cell? ⟨a.block, a.off + 2, none⟩ = some (.int .i64 y.f2)) (h3 : w.cell? ⟨a.block, a.off + 3, none⟩ = some (.int .i64 y.f3)) :
    Calls Try.prog 151 #[.slice A l.length c, .func (.func 99) #[] #[.pointer (some a)]] w fun e w' => e = .returned (.int .i64 (idxAt l y)) ∧ Below w.heap.size w w' := by
  have HR := Aside0.mk hr
  have hmax : l.length ≤ 9223372036854775807 := Kd.C_max hr
  have H0 := Aside0.mk h0
  have H1 := Aside0.mk h1
  have H2 := Aside0.mk h2
  have H3 := Aside0.mk h3
  have hu138 := Try.underlying138
  clear hr h0 h1 h2 h3
  go_enter Try.func151, Try.ntmps151
  go_wp2
  go_loopw [8] (fun i wr => ∃ k : Nat, k ≤ l.length ∧ i = .int .i64 k ∧ Aside0 (∀ j : Nat, j < k → sameAt (l.getD j z138) y = false) ∧ Aside0 (Below w.heap.size w wr)) (fun i _ => l.length - (intOf i).toNat)
  case atStart => exact ⟨0, Nat.zero_le _, rfl, ⟨fun j hj => by omega⟩, ⟨Below.refl _ _⟩⟩
  case round =>
    obtain ⟨k, hk, rfl, HF, HB⟩ := hrel
    by_cases hlt : k < l.length
    · obtain ⟨ad, rfl, x0, x1, x2, x3⟩ := at_T138 HR.out (k : Int) (by omega) (by omega)
      replace x0 := pw_cell_below HB.out x0
      replace x1 := pw_cell_below HB.out x1
      replace x2 := pw_cell_below HB.out x2
      replace x3 := pw_cell_below HB.out x3
      rw [Int.toNat_natCast] at x0 x1 x2 x3
      have y0 := pw_cell_below HB.out H0.out
      have y1 := pw_cell_below HB.out H1.out
      have y2 := pw_cell_below HB.out H2.out
      have y3 := pw_cell_below HB.out H3.out
      have C := Aside0.mk (samePlace_closure (rd_T138 l (k : Int)) y a wr y0 y1 y2 y3)
      clear y0 y1 y2 y3
      have hrd : rd_T138 l (k : Int) = l.getD k z138 := by unfold rd_T138; rw [Int.toNat_natCast]
      have HRD := Aside0.mk hrd
      clear hrd
      cases hs : sameAt (rd_T138 l (k : Int)) y with
      | true =>
        have HS := Aside0.mk hs
        go_wp2_with (go_at_call 99; refine C.out.mono ?_; rintro e w' ⟨rfl, hb⟩)
        go_ret
        exact ⟨by rw [idxAt_some l y k hlt HF.out (by rw [← HRD.out]; exact HS.out)]; rfl, below_step HB.out hb⟩
      | false =>
        have HS := Aside0.mk hs
        go_wp2_with (go_at_call 99; refine C.out.mono ?_; rintro e w' ⟨rfl, hb⟩)
        go_roundw
        case rel =>
          refine ⟨k + 1, by omega, by go_num, ⟨fun j hj => ?_⟩, ⟨below_step HB.out hb⟩⟩
          by_cases e : j = k
          · subst e; rw [← HRD.out]; exact HS.out
          · exact HF.out j (by omega)
        case measure => simp [intOf]; omega
    · go_wp2
      go_ret
      exact ⟨by rw [idxAt_none l y (fun j hj => HF.out j (by omega))]; rfl, HB.out⟩

set_option maxRecDepth 100000 in
theorem containsFunc_any (A : Option Addr) (c : Nat) (l : List S138) (y : S138) (a : Addr) (w : World) (hr : Kd.C k138 w A l.length l) (h0 : w.cell? a = some (.int .i64 y.f0)) (h1 : w.cell? ⟨a.block, a.off + 1, none⟩ = some (.int .i64 y.f1)) (h2 : w.cell? ⟨a.block, a.off + 2, none⟩ = some (.int .i64 y.f2)) (h3 : w.cell? ⟨a.block, a.off + 3, none⟩ = some (.int .i64 y.f3)) :
    Calls Try.prog 98 #[.slice A l.length c, .func (.func 99) #[] #[.pointer (some a)]] w fun e w' => e = .returned (.bool (hasAt l y)) ∧ Below w.heap.size w w' := by
  have C := Aside0.mk (indexFunc_any A c l y a w hr h0 h1 h2 h3)
  have E := Aside0.mk (idxAt_has l y)
  clear hr h0 h1 h2 h3
  go_enter Try.func98, Try.ntmps98
  go_wp2_with (go_at_call 151; refine C.out.mono ?_; rintro e w' ⟨rfl, hb⟩)
  go_ret
  exact ⟨by rw [← E.out]; rfl, hb⟩

def amtOk (x : S138) : Prop := -1000000000000 ≤ x.f3 ∧ x.f3 ≤ 1000000000000
def placeOk (x : S138) : Prop := (0 ≤ x.f0 ∧ x.f0 ≤ 2) ∧ (0 ≤ x.f1 ∧ x.f1 ≤ 5) ∧ (0 ≤ x.f2 ∧ x.f2 ≤ 2)
instance (x : S138) : Decidable (amtOk x) := by unfold amtOk; infer_instance
instance (x : S138) : Decidable (placeOk x) := by unfold placeOk; infer_instance
def legCode (x : S138) : Int := if placeOk x ∧ amtOk x then (if x.f3 = 0 then 1 else 0) else 3
def sumA (l : List S138) (a : Int) : Int := (l.map fun x => if x.f2 = a then x.f3 else 0).sum
def scan : List S138 → List S138 → Int
  | done, [] => if done.any (fun x => sumA done x.f2 != 0) then 1 else 0
  | done, x :: rest => if legCode x = 0 then (if hasAt done x then 7 else scan (done ++ [x]) rest) else legCode x
def cf (id : Int) (l : List S138) : Int := if 1 ≤ id ∧ id ≤ 1000000000 then (if 2 ≤ l.length ∧ l.length ≤ 8 then scan [] l else 2) else 3

theorem legCode_ok {x : S138} (h : legCode x = 0) : placeOk x ∧ amtOk x ∧ x.f3 ≠ 0 := by
  unfold legCode at h
  split at h
  · rename_i h1
    split at h
    · omega
    · rename_i h2
      exact ⟨h1.1, h1.2, h2⟩
  · omega

theorem sumA_snoc (l : List S138) (x : S138) (a : Int) : sumA (l ++ [x]) a = sumA l a + if x.f2 = a then x.f3 else 0 := by
  simp [sumA]
theorem sumA_bd (l : List S138) (a : Int) (h : ∀ x ∈ l, amtOk x) : -1000000000000 * (l.length : Int) ≤ sumA l a ∧ sumA l a ≤ 1000000000000 * (l.length : Int) := by
  induction l with
  | nil => simp [sumA]
  | cons x l ih =>
    have h1 := ih (fun y hy => h y (List.mem_cons_of_mem _ hy))
    have h2 := h x List.mem_cons_self
    unfold amtOk at h2
    have e : sumA (x :: l) a = (if x.f2 = a then x.f3 else 0) + sumA l a := by simp [sumA]
    rw [e, List.length_cons]
    split <;> omega
theorem sumA_none (l : List S138) (a : Int) (h : ∀ x ∈ l, x.f2 ≠ a) : sumA l a = 0 := by
  induction l with
  | nil => rfl
  | cons x l ih =>
    have e : sumA (x :: l) a = (if x.f2 = a then x.f3 else 0) + sumA l a := by simp [sumA]
    rw [e, if_neg (h x List.mem_cons_self), ih (fun y hy => h y (List.mem_cons_of_mem _ hy))]
    rfl

theorem legFault_f (x : S138) : impl_LegFault.f 1 x.f0 x.f1 x.f2 x.f3 = some (legCode x) := by
  unfold impl_LegFault.f impl_isShard.f impl_isPlace.f impl_isAsset.f impl_within.f legCode placeOk amtOk
  by_cases h0 : 0 ≤ x.f0 <;> by_cases h1 : x.f0 ≤ 2 <;> by_cases h2 : 0 ≤ x.f1 <;> by_cases h3 : x.f1 ≤ 5 <;> by_cases h4 : 0 ≤ x.f2 <;> by_cases h5 : x.f2 ≤ 2 <;> by_cases h6 : -1000000000000 ≤ x.f3 <;> by_cases h7 : x.f3 ≤ 1000000000000 <;> (simp [h0, h1, h2, h3, h4, h5, h6, h7, impl_LegFault.j0] <;> (try (split <;> rfl)))

/-- What the map holds: of each asset the sum. -/
def SM (done : List S138) (D : DataW Unit) : Prop := Maps.IsMap D ∧ ∀ a : Int, D.atKey (.int .i64 a) (.lit (.int .i64 0)) = .lit (.int .i64 (sumA done a))
theorem SM_nil : SM [] (.map []) := ⟨Maps.isMap_empty, fun _ => rfl⟩
theorem SM_step {done : List S138} {D : DataW Unit} (h : SM done D) (x : S138) (hx : amtOk x) (hd : ∀ y ∈ done, amtOk y) (hn : done.length ≤ 8) {c : Int} (hc : D.atKey (.int .i64 x.f2) (.lit (.int .i64 0)) = .lit (.int .i64 c)) :
    SM (done ++ [x]) (D.put (.int .i64 x.f2) (.lit (.int .i64 (wrap64 (c + x.f3))))) := by
  have e : c = sumA done x.f2 := by
    have := hc.symm.trans (h.2 x.f2)
    simpa using this
  have b := sumA_bd done x.f2 hd
  unfold amtOk at hx
  have ew : wrap64 (c + x.f3) = sumA done x.f2 + x.f3 := by rw [e]; unfold wrap64; omega
  refine ⟨h.1.put _ _, fun a => ?_⟩
  rw [sumA_snoc, ew]
  by_cases ha : x.f2 = a
  · rw [if_pos ha, ← ha]
    exact Maps.atKey_put_same (k := .int .i64 x.f2) h.1 trivial _ _
  · rw [if_neg ha, Maps.atKey_put_other (by intro e'; injection e' with _ e'; exact ha e'.symm)]
    rw [h.2 a]
    simp


theorem law2 : Keyed Try.prog 2 := int_keyed Try.underlying2
theorem zero2 (w : World) : (zeroValue 2).run Try.prog w = .ok (.int .i64 0) w := by kernel_rfl
theorem size_f (l : List S138) : impl_Leg_96.f l = some (l.length : Int) := rfl
theorem within_f (a b c : Int) : impl_within.f a b c = some (decide (b ≤ a ∧ a ≤ c)) := by
  unfold impl_within.f
  by_cases h : a ≥ b
  · have h' : b ≤ a := h
    rw [if_pos h]; simp [h']
  · have h' : ¬ b ≤ a := h
    rw [if_neg h]; simp [h']
theorem isId_f (a : Int) : impl_isId.f a = some (decide (1 ≤ a ∧ a ≤ 1000000000)) := by
  unfold impl_isId.f; rw [within_f]; rfl

theorem scan_zero (l : List S138) (h : ∀ a, sumA l a = 0) : scan l [] = 0 := by
  unfold scan
  rw [if_neg]
  simp [h]
theorem scan_one (l : List S138) (a : Int) (h : sumA l a ≠ 0) : scan l [] = 1 := by
  unfold scan
  rw [if_pos]
  rw [List.any_eq_true]
  by_cases hx : ∃ x ∈ l, x.f2 = a
  · obtain ⟨x, hm, e⟩ := hx
    exact ⟨x, hm, by simpa [e] using h⟩
  · exact absurd (sumA_none l a (fun x hm e => hx ⟨x, hm, e⟩)) h

theorem contains_take (ad : Addr) (c : Nat) (l : List S138) (k : Nat) (hk : k ≤ l.length) (y : S138) (a : Addr) (w : World) (hr : Kd.C k138 w (some ad) l.length l) (h0 : w.cell? a = some (.int .i64 y.f0)) (h1 : w.cell? ⟨a.block, a.off + 1, none⟩ = some (.int .i64 y.f1)) (h2 : w.cell? ⟨a.block, a.off + 2, none⟩ = some (.int .i64 y.f2)) (h3 : w.cell? ⟨a.block, a.off + 3, none⟩ = some (.int .i64 y.f3)) :
    Calls Try.prog 98 #[.slice (some ad) k c, .func (.func 99) #[] #[.pointer (some a)]] w fun e w' => e = .returned (.bool (hasAt (l.take k) y)) ∧ Below w.heap.size w w' := by
  have el : (l.take k).length = k := by rw [List.length_take]; omega
  have h := containsFunc_any (some ad) c (l.take k) y a w ⟨rfl, by rw [el]; exact Nat.le_trans hk hr.2.1, fun hp => by
    obtain ⟨ad', e, hc⟩ := hr.2.2 (by omega)
    refine ⟨ad', e, fun j p hj => hc j p ?_⟩
    rw [List.getElem?_take] at hj
    split at hj
    · exact hj
    · cases hj⟩ h0 h1 h2 h3
  rwa [el] at h

set_option maxRecDepth 100000 in
set_option maxHeartbeats 1000000 in
theorem cf_any (id : Int) (A : Option Addr) (c : Nat) (l : List S138) (w : World) (hr : Kd.C k138 w A l.length l) (hc : l.length ≤ c) :
    Calls Try.prog 50 #[.agg #[.int .i64 id, .slice A l.length c]] w fun e w' => e = .returned (.int .i64 (cf id l)) ∧ Below w.heap.size w w' := by
  have HR := Aside0.mk hr
  have HC := Aside0.mk hc
  clear hr hc
  have hu138 := Try.underlying138
  have hu31 := Try.underlying31
  have hmm := @run_makeMap Try.prog
  have hmf : ∀ (fn : Fn) (first cap : Array Value) (w : World), (Instr.makeFunc fn first cap).run Try.prog w = .ok (.func fn first cap) w := fun _ _ _ _ => rfl
  by_cases hid : 1 ≤ id ∧ id ≤ 1000000000
  · by_cases hl : 2 ≤ l.length ∧ l.length ≤ 8
    · have e1 := Aside0.mk ((isId_f id).trans (by rw [decide_eq_true hid]))
      have e2 := Aside0.mk (((within_f (l.length : Int) 2 8).trans (by rw [decide_eq_true (by omega)])) : impl_within.f (l.length : Int) 2 8 = some true)
      have ecf := Aside0.mk (show cf id l = scan [] l by unfold cf; rw [if_pos hid, if_pos hl])
      clear hid
      go_enter Try.func50, Try.ntmps50
      go_wp2_with (first | (go_at_call 51; refine (impl_isId.calls id true _ e1.out).mono ?_; rintro e w' ⟨rfl, ⟨n1, rfl⟩⟩) | (go_at_call 96; refine (impl_Leg_96.calls _ _ l _ _ ?s1 HC.out (size_f l)).mono ?_; (case s1 => repeat (first | exact HR.out | (with_reducible refine Kd.C_alloc ?_ _) | (with_reducible refine Kd.C_drewN ?_ _) | (with_reducible refine Kd.C_drew ?_))); rintro e w' ⟨rfl, ⟨n2, rfl⟩⟩) | (go_at_call 95; refine (impl_within.calls _ 2 8 true _ e2.out).mono ?_; rintro e w' ⟨rfl, ⟨n3, rfl⟩⟩))
      go_loopw [24] (fun i wr => ∃ k : Nat, k ≤ l.length ∧ i = .int .i64 k ∧ Aside0 (scan [] l = scan (l.take k) (l.drop k) ∧ ∀ x ∈ l.take k, amtOk x) ∧ Aside0 (∃ D, SM (l.take k) D ∧ wr.ownsMap Try.prog 2 (plainElem (H := Unit) Try.prog 2) (w.heap.size + 1) k D) ∧ Aside0 (wr.heap[w.heap.size]? = some (.cells #[.int .i64 id, .slice A l.length c] 31 (0, 0))) ∧ Aside0 (Below w.heap.size w wr)) (fun i _ => l.length - (intOf i).toNat)
      case atStart =>
        refine ⟨0, Nat.zero_le _, rfl, ⟨by simp⟩, ⟨.map [], SM_nil, ?_⟩, ⟨?_⟩, ⟨(pw_below_drewN ((Below.refl _ _).alloc (Nat.le_refl _) _) _).alloc (by simp) _⟩⟩
        · have h := World.ownsMap_made (H := Unit) ((w.alloc (.cells #[.int .i64 id, .slice A l.length c] 31)).drewN (n1 + n2 + n3)) Try.prog 2 (plainElem Try.prog 2)
          have e : ((w.alloc (.cells #[.int .i64 id, .slice A l.length c] 31)).drewN (n1 + n2 + n3)).heap.size = w.heap.size + 1 := by simp
          rw [e] at h
          exact h
        · exact (Below.heap_alloc _ _ _ (by simp)).trans (heap_alloc_new w _)
      case round =>
        obtain ⟨k, hk, rfl, HP, HM, HBX, HB⟩ := hrel
        obtain ⟨D, HS, HM⟩ := HM.out
        by_cases hlt : k < l.length
        · obtain ⟨ad, rfl, x0, x1, x2, x3⟩ := at_T138 HR.out (k : Int) (by omega) (by omega)
          replace x0 := pw_cell_below HB.out x0
          replace x1 := pw_cell_below HB.out x1
          replace x2 := pw_cell_below HB.out x2
          replace x3 := pw_cell_below HB.out x3
          rw [Int.toNat_natCast] at x0 x1 x2 x3
          have b1 : wr.cell? ⟨w.heap.size, 1, none⟩ = some (.slice (some ad) l.length c) := (blk_cell HBX.out 1).trans rfl
          generalize hx : rd_T138 l (k : Int) = x at *
          have hx' : l.drop k = x :: l.drop (k + 1) ∧ l.take (k + 1) = l.take k ++ [x] := by
            have e : x = l[k] := by rw [← hx]; unfold rd_T138; rw [Int.toNat_natCast, List.getD_eq_getElem?_getD, List.getElem?_eq_getElem hlt]; rfl
            exact ⟨by rw [e]; exact List.drop_eq_getElem_cons hlt, by rw [e]; exact List.take_succ_eq_append_getElem hlt⟩
          have HX := Aside0.mk hx'
          clear hx hx'
          have ewx := Aside0.mk (legFault_f x)
          have arm : ∀ w1, Below (wr.alloc (.cells #[.int .i64 x.f0, .int .i64 x.f1, .int .i64 x.f2, .int .i64 x.f3] 138)).heap.size (wr.alloc (.cells #[.int .i64 x.f0, .int .i64 x.f1, .int .i64 x.f2, .int .i64 x.f3] 138)) w1 →
              w1.heap[wr.heap.size]? = some (.cells #[.int .i64 x.f0, .int .i64 x.f1, .int .i64 x.f2, .int .i64 x.f3] 138 (0, 0)) ∧ w1.heap[w.heap.size]? = some (.cells #[.int .i64 id, .slice (some ad) l.length c] 31 (0, 0)) ∧ w1.ownsMap Try.prog 2 (plainElem (H := Unit) Try.prog 2) (w.heap.size + 1) k D ∧ Below w.heap.size w w1 := fun w1 hb => by
            have hlt2 : w.heap.size < wr.heap.size := blk_lt HBX.out
            exact ⟨(hb.block _ (by simp)).trans (heap_alloc_new wr _), (hb.block _ (by simp; omega)).trans ((Below.heap_alloc _ _ _ hlt2).trans HBX.out), (HM.alloc _).kept (grown_of_below hb none) (by simp), below_step (HB.out.alloc HB.out.size _) hb⟩
          have ARM := Aside0.mk arm
          clear arm
          have hkc : k ≤ c := Nat.le_trans (Nat.le_of_lt hlt) HC.out
          by_cases hz : legCode x = 0
          · obtain ⟨hpl, ham, _⟩ := legCode_ok hz
            have HAM := Aside0.mk ham
            clear hpl ham
            have hz0 : (legCode x != 0) = false := by simp [hz]
            cases hh : hasAt (l.take k) x with
            | true =>
              have HH := Aside0.mk hh
              have HZ := Aside0.mk hz
              clear hz
              go_wp2_with (first | (go_at_call 97; refine (impl_LegFault.calls 1 x.f0 x.f1 x.f2 x.f3 _ _ ewx.out).mono ?_; rintro e w1 ⟨rfl, hb⟩; have hq := ARM.out w1 hb; have HQ0 := Aside0.mk hq.1; have HQ1 := Aside0.mk hq.2.1; have HQ2 := Aside0.mk hq.2.2.1; have HQ3 := Aside0.mk hq.2.2.2; clear hq hb; have q0 : w1.cell? ⟨wr.heap.size, 0, none⟩ = some (.int .i64 x.f0) := (blk_cell HQ0.out 0).trans rfl; have q1 : w1.cell? ⟨wr.heap.size, 1, none⟩ = some (.int .i64 x.f1) := (blk_cell HQ0.out 1).trans rfl; have q2 : w1.cell? ⟨wr.heap.size, 2, none⟩ = some (.int .i64 x.f2) := (blk_cell HQ0.out 2).trans rfl; have q3 : w1.cell? ⟨wr.heap.size, 3, none⟩ = some (.int .i64 x.f3) := (blk_cell HQ0.out 3).trans rfl; have q4 : w1.cell? ⟨w.heap.size, 1, none⟩ = some (.slice (some ad) l.length c) := (blk_cell HQ1.out 1).trans rfl) | (go_at_call 98; refine (contains_take ad c l k hk x ⟨wr.heap.size, 0, none⟩ w1 (Kd.C_below HR.out HQ3.out) q0 q1 q2 q3).mono ?_; rintro e w2 ⟨rfl, hb2⟩))
              go_ret
              refine ⟨?_, below_step HQ3.out hb2⟩
              rw [ecf.out, HP.out.1, HX.out.1]
              simp only [scan, HZ.out, HH.out, if_true]
              rfl
            | false =>
              have HH := Aside0.mk hh
              have HZ := Aside0.mk hz
              have hkey : keyOf Try.prog 2 (.int .i64 x.f2) = some (.int .i64 x.f2) := keyOf_int_mk Try.underlying2 (WalkArith.wf_i64 (by have := (legCode_ok HZ.out).1.2.2; omega))
              have HKEY := Aside0.mk hkey
              clear hz hkey
              go_wp2_with (first | (go_at_call 97; refine (impl_LegFault.calls 1 x.f0 x.f1 x.f2 x.f3 _ _ ewx.out).mono ?_; rintro e w1 ⟨rfl, hb⟩; have hq := ARM.out w1 hb; have HQ0 := Aside0.mk hq.1; have HQ1 := Aside0.mk hq.2.1; have HQ2 := Aside0.mk hq.2.2.1; have HQ3 := Aside0.mk hq.2.2.2; clear hq hb; have q0 : w1.cell? ⟨wr.heap.size, 0, none⟩ = some (.int .i64 x.f0) := (blk_cell HQ0.out 0).trans rfl; have q1 : w1.cell? ⟨wr.heap.size, 1, none⟩ = some (.int .i64 x.f1) := (blk_cell HQ0.out 1).trans rfl; have q2 : w1.cell? ⟨wr.heap.size, 2, none⟩ = some (.int .i64 x.f2) := (blk_cell HQ0.out 2).trans rfl; have q3 : w1.cell? ⟨wr.heap.size, 3, none⟩ = some (.int .i64 x.f3) := (blk_cell HQ0.out 3).trans rfl; have q4 : w1.cell? ⟨w.heap.size, 1, none⟩ = some (.slice (some ad) l.length c) := (blk_cell HQ1.out 1).trans rfl) | (go_at_call 98; refine (contains_take ad c l k hk x ⟨wr.heap.size, 0, none⟩ w1 (Kd.C_below HR.out HQ3.out) q0 q1 q2 q3).mono ?_; rintro e w2 ⟨rfl, hb2⟩; have r2 : w2.cell? ⟨wr.heap.size, 2, none⟩ = some (.int .i64 x.f2) := pw_cell_below hb2 q2; have r3 : w2.cell? ⟨wr.heap.size, 3, none⟩ = some (.int .i64 x.f3) := pw_cell_below hb2 q3; have HR1 := Aside0.mk ((hb2.block _ (blk_lt HQ1.out)).trans HQ1.out); have HR2 := Aside0.mk (HQ2.out.kept (grown_of_below hb2 none) (by simp)); have HR3 := Aside0.mk (below_step HQ3.out hb2); clear hb2 q0 q1 q2 q3 q4) | (at_lookup; refine wpList_lookup_own_int _ rfl _ _ 142 rfl 2 2 .i64 law2 Try.underlying142 Try.underlying2 (zero2 _) (w.heap.size + 1) k _ rfl HR2.out _ _ rfl HKEY.out ?_; intro cv hat _; have HAT := Aside0.mk hat; clear hat) | (at_mapUpdate; refine wpList_mapUpdate_own _ rfl _ _ _ 142 rfl 2 2 law2 Try.underlying142 _ (w.heap.size + 1) k _ rfl HR2.out (by unfold maxLen; omega) _ _ _ rfl rfl HKEY.out _ [] (plainElem_int Try.underlying2 (wrap64_wf _)) ?_; intro w3 hown3 hg3; have HR4 := Aside0.mk hown3; have HR5 := Aside0.mk hg3; clear hown3 hg3))
              go_roundw
              case rel =>
                have hd : ∀ y ∈ l.take k, amtOk y := HP.out.2
                refine ⟨k + 1, by omega, by go_num, ⟨?_, ?_⟩, ⟨_, by rw [HX.out.2]; exact SM_step HS x HAM.out hd (by rw [List.length_take]; omega) HAT.out, HR4.out⟩, ⟨(HR5.out.block _ (blk_lt HR1.out) (by simp)).trans HR1.out⟩, ⟨HR3.out.grown HR5.out HR3.out.size (fun j hj => by cases hj; omega)⟩⟩
                · rw [HP.out.1, HX.out.1, HX.out.2]
                  simp only [scan, HZ.out, HH.out, if_true]
                  rfl
                · rw [HX.out.2]
                  intro y hy
                  rcases List.mem_append.1 hy with hy | hy
                  · exact hd y hy
                  · rw [List.mem_singleton.1 hy]; exact HAM.out
              case measure => simp [intOf]; omega
          · have hz1 : (legCode x != 0) = true := by simp [hz]
            have HZ := Aside0.mk hz
            clear hz
            go_wp2_with (first | (go_at_call 97; refine (impl_LegFault.calls 1 x.f0 x.f1 x.f2 x.f3 _ _ ewx.out).mono ?_; rintro e w1 ⟨rfl, hb⟩; have hq := ARM.out w1 hb; have HQ0 := Aside0.mk hq.1; have HQ1 := Aside0.mk hq.2.1; have HQ2 := Aside0.mk hq.2.2.1; have HQ3 := Aside0.mk hq.2.2.2; clear hq hb; have q0 : w1.cell? ⟨wr.heap.size, 0, none⟩ = some (.int .i64 x.f0) := (blk_cell HQ0.out 0).trans rfl; have q1 : w1.cell? ⟨wr.heap.size, 1, none⟩ = some (.int .i64 x.f1) := (blk_cell HQ0.out 1).trans rfl; have q2 : w1.cell? ⟨wr.heap.size, 2, none⟩ = some (.int .i64 x.f2) := (blk_cell HQ0.out 2).trans rfl; have q3 : w1.cell? ⟨wr.heap.size, 3, none⟩ = some (.int .i64 x.f3) := (blk_cell HQ0.out 3).trans rfl; have q4 : w1.cell? ⟨w.heap.size, 1, none⟩ = some (.slice (some ad) l.length c) := (blk_cell HQ1.out 1).trans rfl))
            go_ret
            refine ⟨?_, HQ3.out⟩
            rw [ecf.out, HP.out.1, HX.out.1]
            simp only [scan, if_neg HZ.out]
            rfl
        · have ek : k = l.length := by omega
          subst ek
          rw [List.take_length] at HS
          have hscan : scan [] l = scan l [] := by have h := HP.out.1; rwa [List.take_length, List.drop_length] at h
          have HSC := Aside0.mk hscan
          have HSM := Aside0.mk HS
          clear HP HS hscan hl hlt hk
          obtain ⟨wo, rfl⟩ : ∃ wo : World, wo = wr := ⟨_, rfl⟩
          have hlw : w.heap.size < wo.heap.size := blk_lt HBX.out
          go_wp2_with (first | (at_range; refine wpList_range_own _ rfl _ 142 rfl 2 2 law2 Try.underlying142 _ (w.heap.size + 1) l.length _ rfl HM ?_; intro w0 hrg0 hg0 hs0; have HRG := Aside0.mk hrg0; have HG0 := Aside0.mk hg0; clear hrg0 hg0 hs0))
          go_frame
          go_loopw [8] (fun _ wl => Aside0 (∃ left cnt, wl.ranges Try.prog 2 (plainElem (H := Unit) Try.prog 2) (w.heap.size + 1) wo.heap.size l.length D left cnt ∧ ∀ a : Int, left (.int .i64 a) = false → D.atKey (.int .i64 a) (.lit (.int .i64 0)) = .lit (.int .i64 0)) ∧ Aside0 (Below w.heap.size w wl)) (fun _ wl => wl.rangeLeft (w.heap.size + 1) wo.heap.size)
          case atStart => exact ⟨⟨_, _, HRG.out, fun a ha => Maps.atKey_of_not_has ha _⟩, ⟨HB.out.grown HG0.out HB.out.size (fun j hj => by cases hj)⟩⟩
          case round =>
            obtain ⟨HL, HB2⟩ := hrel
            obtain ⟨left, cnt, hrg, hz⟩ := HL.out
            have HRG2 := Aside0.mk hrg
            have HZ2 := Aside0.mk hz
            clear HL hrg hz HRG HB HG0
            go_wp2_with (first | (at_next; refine wpList_next_ranges_ii _ rfl _ rfl 2 2 .i64 .i64 law2 Try.underlying2 Try.underlying2 (w.heap.size + 1) wo.heap.size l.length _ _ _ rfl HRG2.out ?_ ?_))
            · intro _ hl0
              have HL0 := Aside0.mk hl0
              clear hl0
              go_wp2
              go_ret
              refine ⟨?_, HB2.out⟩
              rw [ecf.out, HSC.out, scan_zero l (fun a => by
                have h := (HSM.out.2 a).symm.trans (HZ2.out a (HL0.out _))
                simpa using h)]
              rfl
            · intro x cv w1 cnt1 hwx hwc hlx hat hrg1 hlt1 hg1 hs1 hen
              have HAT := Aside0.mk hat
              have HR1 := Aside0.mk hrg1
              have HG1 := Aside0.mk hg1
              clear hat hrg1 hg1 hs1 hlx hwx hwc
              have HLT := Aside0.mk hlt1
              clear hlt1
              by_cases hcv : cv = 0
              · subst hcv
                go_wp2
                refine ⟨⟨⟨_, _, HR1.out, fun a ha => ?_⟩, ⟨HB2.out.grown HG1.out HB2.out.size (fun j hj => by cases hj; omega)⟩⟩, ?_⟩
                · by_cases e : a = x
                  · subst e
                    exact HAT.out _
                  · refine HZ2.out a ?_
                    have h1 : (Lit.int IntKind.i64 a).sameKey (Lit.int IntKind.i64 x) = false := Maps.sameKey_ne (fun h => e (by injection h))
                    simpa [h1] using ha
                · show w1.rangeLeft _ _ < _
                  rw [HR1.out.left_eq, HRG2.out.left_eq]
                  exact HLT.out
              · have hcv1 : (cv != 0) = true := by simp [hcv]
                have HCV := Aside0.mk hcv
                clear hcv
                go_wp2
                go_ret
                refine ⟨?_, HB2.out.grown HG1.out HB2.out.size (fun j hj => by cases hj; omega)⟩
                rw [ecf.out, HSC.out, scan_one l x (fun h => HCV.out (by
                  have h1 := (HAT.out (.lit (.int .i64 0))).symm.trans (HSM.out.2 x)
                  rw [h] at h1
                  simpa using h1))]
                rfl
    · have e1 := Aside0.mk ((isId_f id).trans (by rw [decide_eq_true hid]))
      have e2 := Aside0.mk (((within_f (l.length : Int) 2 8).trans (by rw [decide_eq_false (by omega)])) : impl_within.f (l.length : Int) 2 8 = some false)
      have ecf := Aside0.mk (show cf id l = 2 by unfold cf; rw [if_pos hid, if_neg hl])
      clear hid hl
      go_enter Try.func50, Try.ntmps50
      go_wp2_with (first | (go_at_call 51; refine (impl_isId.calls id true _ e1.out).mono ?_; rintro e w' ⟨rfl, ⟨n1, rfl⟩⟩) | (go_at_call 96; refine (impl_Leg_96.calls _ _ l _ _ ?s1 HC.out (size_f l)).mono ?_; (case s1 => repeat (first | exact HR.out | (with_reducible refine Kd.C_alloc ?_ _) | (with_reducible refine Kd.C_drewN ?_ _) | (with_reducible refine Kd.C_drew ?_))); rintro e w' ⟨rfl, ⟨n2, rfl⟩⟩) | (go_at_call 95; refine (impl_within.calls _ 2 8 false _ e2.out).mono ?_; rintro e w' ⟨rfl, ⟨n3, rfl⟩⟩))
      go_ret
      exact ⟨by rw [ecf.out]; rfl, pw_below_drewN ((Below.refl _ _).alloc (Nat.le_refl _) _) _⟩
  · have e1 := Aside0.mk ((isId_f id).trans (by rw [decide_eq_false hid]))
    have ecf := Aside0.mk (show cf id l = 3 by unfold cf; rw [if_neg hid])
    clear hid
    go_enter Try.func50, Try.ntmps50
    go_wp2_with (first | (go_at_call 51; refine (impl_isId.calls id false _ e1.out).mono ?_; rintro e w' ⟨rfl, ⟨n1, rfl⟩⟩))
    go_ret
    exact ⟨by rw [ecf.out]; rfl, pw_below_drewN ((Below.refl _ _).alloc (Nat.le_refl _) _) _⟩


/-- The program's ContractFault, as a plain function. -/
def impl_ContractFault.f (a0_0 : Int) (l0_1 : List (S138)) : Option (Int) := some (cf a0_0 l0_1)
theorem impl_ContractFault.calls (a0_0 : Int) (A0_1 : Option Addr) (c0_1 : Nat) (l0_1 : List (S138)) (r : Int) (w : World) (hr0_1 : Kd.C k138 w A0_1 l0_1.length l0_1) (hc0_1 : l0_1.length ≤ c0_1) (h : impl_ContractFault.f a0_0 l0_1 = some r) :
    Calls Try.prog 50 #[.agg #[.int .i64 a0_0, .slice A0_1 l0_1.length c0_1]] w fun e w' => e = .returned (.int .i64 r) ∧ Below w.heap.size w w' := by
  have e : cf a0_0 l0_1 = r := Option.some.inj h
  rw [← e]
  exact cf_any a0_0 A0_1 c0_1 l0_1 w hr0_1 hc0_1
end

end Go.Proofs.Ytkeojolmapcgbaa.PEv
