/- WHAT IS PROVED: plain lemmas on counted loops as print.sh writes them (rounds first): copying, comparing, measuring, marking; no program in sight, no condition. -/
import Derived.Test.YtkeojolmapcgbaaWWords
namespace Go.Proofs.Ytkeojolmapcgbaa.Plain
open Go.RowKit Go.Proofs.YtkeojolmapcgbaaW.PrintWords

theorem wrap_id {i : Int} (h0 : -9223372036854775808 ≤ i) (h1 : i ≤ 9223372036854775807) : wrap64 i = i := by
  unfold wrap64
  omega

/-- From the end down: what holds at the end and is handed back by each round holds at the beginning. -/
theorem climb {P : Int → Prop} (n : Nat) (h0 : P (n : Int)) (step : ∀ i : Nat, i < n → P ((i : Int) + 1) → P (i : Int)) : ∀ j : Nat, j ≤ n → P (j : Int) := by
  intro j hj
  obtain ⟨d, hd⟩ : ∃ d, n = j + d := ⟨n - j, by omega⟩
  induction d generalizing j with
  | zero =>
    obtain rfl : n = j := by omega
    exact h0
  | succ d ih =>
    have h := ih (j + 1) (by omega) (by omega)
    exact step j (by omega) (by simpa using h)

theorem climb0 {P : Int → Prop} (n : Nat) (h0 : P (n : Int)) (step : ∀ i : Nat, i < n → P ((i : Int) + 1) → P (i : Int)) : P 0 := climb n h0 step 0 (Nat.zero_le _)

theorem ev_eq {α : Type} {g : Nat → Option α} {r s : α} (h : Ev g r) (e : r = s) : Ev g s := e ▸ h

theorem ev_unique {α : Type} {g : Nat → Option α} {r s : α} (h : Ev g r) (k : Ev g s) : r = s := by
  obtain ⟨K, h⟩ := h
  obtain ⟨L, k⟩ := k
  have h1 := h (max K L) (by omega)
  have h2 := k (max K L) (by omega)
  rw [h1] at h2
  exact Option.some.inj h2

/-- A value that needs no rounds. -/
theorem ev_const {α : Type} {o : Option α} {r : α} (h : o = some r) : Ev (fun _ => o) r := ⟨0, fun _ _ => h⟩

theorem getD_lt {α : Type} (l : List α) (z : α) (i : Nat) (h : i < l.length) : l.getD i z = l[i] := by
  simp [List.getD_eq_getElem?_getD, List.getElem?_eq_getElem h]

theorem getD_mem {α : Type} (l : List α) (z : α) (i : Nat) (h : i < l.length) : l.getD i z ∈ l := by
  rw [getD_lt l z i h]; exact List.getElem_mem h

section
variable {α β γ : Type}

/-- Copying, element by element. -/
theorem to_loop (x0 : List α) (z : α) (e : Nat → α → Option γ) (m : γ → β) (c : α → γ) (l : Nat → List β → Int → Option (List β))
    (hl : ∀ k x3 x4, l (k + 1) x3 x4 = if x4 < (x0.length : Int) then (if 0 ≤ x4 then ((e k (x0.getD x4.toNat z)).bind fun y => (if x4 < (x3.length : Int) then l k (x3.set x4.toNat (m y)) (wrap64 (x4 + 1)) else none)) else none) else some x3)
    (he : ∀ a ∈ x0, Ev (fun k => e k a) (c a)) (hn : x0.length ≤ 9223372036854775806) (x3 : List β) (h3 : x3.length = x0.length) :
    Ev (fun k => l k x3 0) (x0.map fun a => m (c a)) := by
  have key := climb (P := fun i => ∀ x3 : List β, x3.length = x0.length → (∀ j : Nat, (j : Int) < i → x3[j]? = (x0.map fun a => m (c a))[j]?) → Ev (fun k => l k x3 i) (x0.map fun a => m (c a))) x0.length ?_ ?_ 0 (Nat.zero_le _)
  · exact key x3 h3 (fun j hj => by omega)
  · intro x3 h3 hj
    have e3 : x3 = x0.map fun a => m (c a) := by
      apply List.ext_getElem?
      intro j
      by_cases h : j < x0.length
      · exact hj j (by omega)
      · rw [List.getElem?_eq_none (by omega), List.getElem?_eq_none (by simp; omega)]
    refine Ev.step (f := fun _ => some x3) (fun k => ?_) (e3 ▸ Ev.now x3)
    rw [hl, if_neg (by omega)]
  · intro i hi ih x3 h3 hj
    have hm := he _ (getD_mem x0 z i hi)
    have ih' := ih (x3.set i (m (c (x0.getD i z)))) (by simp [h3]) (fun j hj' => by
      by_cases hji : j = i
      · subst hji
        rw [List.getElem?_set_self (by omega), List.getElem?_map, List.getElem?_eq_getElem hi, getD_lt x0 z j hi]
        rfl
      · rw [List.getElem?_set_ne (by omega)]
        exact hj j (by omega))
    refine Ev.step (f := fun k => (e k (x0.getD i z)).bind fun y => l k (x3.set i (m y)) ((i : Int) + 1)) (fun k => ?_) (Ev.bind hm ih')
    rw [hl, if_pos (by omega), if_pos (by omega), Int.toNat_natCast]
    congr 1
    funext y
    rw [if_pos (by omega), wrap_id (by omega) (by omega)]

/-- Comparing a list with itself, by a test of its elements that has rounds. -/
theorem eq_loop (x0 : List α) (z : α) (e : Nat → α → α → Option Bool) (l : Nat → Int → Option Bool)
    (hl : ∀ k x5, l (k + 1) x5 = if x5 < (x0.length : Int) then (if 0 ≤ x5 then (if x5 < (x0.length : Int) then ((e k (x0.getD x5.toNat z) (x0.getD x5.toNat z)).bind fun t => (if t = true then l k (wrap64 (x5 + 1)) else some false)) else none) else none) else some true)
    (he : ∀ a ∈ x0, Ev (fun k => e k a a) true) (hn : x0.length ≤ 9223372036854775806) : Ev (fun k => l k 0) true := by
  refine climb0 (P := fun i => Ev (fun k => l k i) true) x0.length ?_ ?_
  · refine Ev.step (f := fun _ => some true) (fun k => ?_) (Ev.now true)
    rw [hl, if_neg (by omega)]
  · intro i hi ih
    refine Ev.step (f := fun k => (e k (x0.getD i z) (x0.getD i z)).bind fun t => if t = true then l k ((i : Int) + 1) else some false) (fun k => ?_) (Ev.bind (he _ (getD_mem x0 z i hi)) (by simpa using ih))
    rw [hl, if_pos (by omega), if_pos (by omega), if_pos (by omega), Int.toNat_natCast, wrap_id (by omega) (by omega)]

/-- .. by a plain test. -/
theorem eq_loop' [DecidableEq β] (x0 : List α) (z : α) (f : α → β) (l : Nat → Int → Option Bool)
    (hl : ∀ k x5, l (k + 1) x5 = if x5 < (x0.length : Int) then (if 0 ≤ x5 then (if x5 < (x0.length : Int) then (if f (x0.getD x5.toNat z) = f (x0.getD x5.toNat z) then l k (wrap64 (x5 + 1)) else some false) else none) else none) else some true)
    (hn : x0.length ≤ 9223372036854775806) : Ev (fun k => l k 0) true := by
  refine climb0 (P := fun i => Ev (fun k => l k i) true) x0.length ?_ ?_
  · refine Ev.step (f := fun _ => some true) (fun k => ?_) (Ev.now true)
    rw [hl, if_neg (by omega)]
  · intro i hi ih
    refine Ev.step (f := fun k => l k ((i : Int) + 1)) (fun k => ?_) ih
    rw [hl, if_pos (by omega), if_pos (by omega), if_pos (by omega), if_pos rfl, wrap_id (by omega) (by omega)]

/-- What is left of a measure: below 0 at once, or no more than it was, and then something is known. -/
def SzLeft (g : Nat → Option Int) (a : Int) (G : Prop) : Prop := ∃ r, Ev g r ∧ (r < 0 ∨ (0 ≤ r ∧ r ≤ a ∧ G))

theorem sz_loop (x0 : List α) (z : α) (s : Nat → α → Int → Option Int) (G : α → Prop) (l : Nat → Int → Int → Option Int)
    (hl : ∀ k x1 x5, l (k + 1) x1 x5 = if x5 < (x0.length : Int) then (if 0 ≤ x5 then ((s k (x0.getD x5.toNat z) x1).bind fun t => (if t < 0 then some (-1) else l k t (wrap64 (x5 + 1)))) else none) else some x1)
    (hs : ∀ a ∈ x0, ∀ b, 0 ≤ b → b ≤ 1048576 → SzLeft (fun k => s k a b) b (G a)) (hn : x0.length ≤ 9223372036854775806) (b : Int) (h0 : 0 ≤ b) (hb : b ≤ 1048576) :
    SzLeft (fun k => l k b 0) b (∀ a ∈ x0, G a) := by
  have key := climb (P := fun i => ∀ b, 0 ≤ b → b ≤ 1048576 → SzLeft (fun k => l k b i) b (∀ j : Nat, i ≤ (j : Int) → (h : j < x0.length) → G x0[j])) x0.length ?_ ?_ 0 (Nat.zero_le _)
  · obtain ⟨r, hr, h⟩ := key b h0 hb
    refine ⟨r, hr, h.imp_right fun ⟨h1, h2, h3⟩ => ⟨h1, h2, fun a ha => ?_⟩⟩
    obtain ⟨j, hj, rfl⟩ := List.getElem_of_mem ha
    exact h3 j (by omega) hj
  · intro b h0 hb
    refine ⟨b, Ev.step (f := fun _ => some b) (fun k => ?_) (Ev.now b), .inr ⟨h0, Int.le_refl _, fun j hj h => by omega⟩⟩
    rw [hl, if_neg (by omega)]
  · intro i hi ih b h0 hb
    obtain ⟨t, ht, hor⟩ := hs _ (getD_mem x0 z i hi) b h0 hb
    have st : ∀ k, l (k + 1) b (i : Int) = (s k (x0.getD i z) b).bind fun t => (if t < 0 then some (-1) else l k t ((i : Int) + 1)) := fun k => by
      rw [hl, if_pos (by omega), if_pos (by omega), Int.toNat_natCast, wrap_id (by omega) (by omega)]
    by_cases hneg : t < 0
    · refine ⟨-1, Ev.step st (Ev.bind ht ?_), .inl (by omega)⟩
      simp only [if_pos hneg]
      exact Ev.now _
    · obtain ⟨h1, h2, hg⟩ : 0 ≤ t ∧ t ≤ b ∧ G (x0.getD i z) := by
        rcases hor with h | h
        · omega
        · exact h
      obtain ⟨r, hr, hor'⟩ := ih t h1 (by omega)
      refine ⟨r, Ev.step st (Ev.bind ht ?_), hor'.imp_right fun ⟨g1, g2, g3⟩ => ⟨g1, by omega, fun j hj h => ?_⟩⟩
      · simp only [if_neg hneg]
        exact hr
      · by_cases hji : j = i
        · subst hji
          rw [getD_lt x0 z j h] at hg
          exact hg
        · exact g3 j (by omega) h

end
end Go.Proofs.Ytkeojolmapcgbaa.Plain
