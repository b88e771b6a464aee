/- WHAT IS PROVED: the reference's ContractFault and the program's answer the same number, for every id and every list of legs (no condition): the pure part. -/
import Derived.Test.YtkeojolmapcgbaaPEvx2
import Derived.Test.YtkeojolmapcgbaaPEvx6
import Derived.Test.YtkeojolmapcgbaaPlain
namespace Go.Proofs.Ytkeojolmapcgbaa.PEv
open Go.RowKit Go.Proofs.YtkeojolmapcgbaaW.PrintWords Go.Proofs.YtkeojolmapcgbaaW.PrintLast Go.Proofs.Ytkeojolmapcgbaa.Plain

theorem l1In_f (a b c : Int) : spec_l1In.f a b c = some (decide (b ≤ a ∧ a ≤ c)) := by
  unfold spec_l1In.f
  by_cases h : a ≥ b
  · have h' : b ≤ a := h
    rw [if_pos h]; simp [h']
  · have h' : ¬ b ≤ a := h
    rw [if_neg h]; simp [h']
theorem l1Id_f (a : Int) : spec_l1Id.f a = some (decide (1 ≤ a ∧ a ≤ 1000000000)) := by
  unfold spec_l1Id.f; rw [l1In_f]; rfl

theorem spec_legFault (x : S138) : Ev (fun k => spec_LegFault.f k x.f0 x.f1 x.f2 x.f3) (legCode x) := by
  refine ⟨1, fun k hk => ?_⟩
  obtain ⟨k, rfl⟩ : ∃ m, k = m + 1 := ⟨k - 1, by omega⟩
  show spec_LegFault.f (k + 1) x.f0 x.f1 x.f2 x.f3 = some (legCode x)
  unfold spec_LegFault.f
  rw [l1In_f, l1In_f, l1In_f, l1In_f]
  simp only [Option.bind_some]
  by_cases h0 : 0 ≤ x.f0 ∧ x.f0 ≤ 2
  · by_cases h1 : 0 ≤ x.f1 ∧ x.f1 ≤ 5
    · by_cases h2 : 0 ≤ x.f2 ∧ x.f2 ≤ 2
      · by_cases h3 : -1000000000000 ≤ x.f3 ∧ x.f3 ≤ 1000000000000
        · have e : placeOk x ∧ amtOk x := ⟨⟨h0, h1, h2⟩, h3⟩
          unfold legCode
          rw [if_pos e]
          simp only [decide_eq_true h0, decide_eq_true h1, decide_eq_true h2, decide_eq_true h3, if_true, spec_LegFault.j0]
          by_cases hz : x.f3 = 0 <;> simp [hz]
        · have e : ¬ (placeOk x ∧ amtOk x) := fun h => h3 h.2
          unfold legCode
          rw [if_neg e]
          simp only [decide_eq_true h0, decide_eq_true h1, decide_eq_true h2, decide_eq_false h3, if_true, spec_LegFault.j0]
          simp
      · have e : ¬ (placeOk x ∧ amtOk x) := fun h => h2 h.1.2.2
        unfold legCode
        rw [if_neg e]
        simp [h0, h1, h2, spec_LegFault.j0]
    · have e : ¬ (placeOk x ∧ amtOk x) := fun h => h1 h.1.2.1
      unfold legCode
      rw [if_neg e]
      simp [h0, h1, spec_LegFault.j0]
  · have e : ¬ (placeOk x ∧ amtOk x) := fun h => h0 h.1.1
    unfold legCode
    rw [if_neg e]
    simp [h0, spec_LegFault.j0]

theorem rdT (l : List S138) (i : Nat) (h : i < l.length) : rd_T138 l (i : Int) = l[i] := by
  unfold rd_T138
  rw [Int.toNat_natCast, getD_lt l _ i h]

/-- The sums of the three assets. -/
def sums3 (l : List S138) : List Int := [sumA l 0, sumA l 1, sumA l 2]
theorem rd_sums (l : List S138) (a : Int) (h0 : 0 ≤ a) (h2 : a ≤ 2) : rd (sums3 l) a = sumA l a := by
  have : a = 0 ∨ a = 1 ∨ a = 2 := by omega
  rcases this with rfl | rfl | rfl <;> rfl
theorem sums3_snoc (l : List S138) (x : S138) (h0 : 0 ≤ x.f2) (h2 : x.f2 ≤ 2) : sums3 (l ++ [x]) = (sums3 l).set x.f2.toNat (sumA l x.f2 + x.f3) := by
  unfold sums3
  rw [sumA_snoc, sumA_snoc, sumA_snoc]
  have : x.f2 = 0 ∨ x.f2 = 1 ∨ x.f2 = 2 := by omega
  rcases this with h | h | h <;> rw [h] <;> simp

theorem spec_l2 (l : List S138) (hp : ∀ x ∈ l, placeOk x) : Ev (fun k => spec_ContractFault.l2 k (sums3 l) 0) (scan l []) := by
  have e0 : ∀ i : Nat, i < 3 → ∀ k, spec_ContractFault.l2 (k + 1) (sums3 l) (i : Int) = if sumA l (i : Int) = 0 then spec_ContractFault.l2 k (sums3 l) ((i : Int) + 1) else some 1 := fun i hi k => by
    have hlen : ((sums3 l).length : Int) = 3 := rfl
    simp only [spec_ContractFault.l2]
    rw [hlen, if_pos (by omega), if_pos (by omega), rd_sums l i (by omega) (by omega), wrap_id (by omega) (by omega)]
  have s0 := e0 0 (by omega)
  have s1 := e0 1 (by omega)
  have s2 := e0 2 (by omega)
  have s3 : ∀ k, spec_ContractFault.l2 (k + 1) (sums3 l) 3 = some 0 := fun k => by
    have hlen : ((sums3 l).length : Int) = 3 := rfl
    simp only [spec_ContractFault.l2]
    rw [hlen, if_neg (by omega)]
  by_cases h0 : sumA l 0 = 0
  · by_cases h1 : sumA l 1 = 0
    · by_cases h2 : sumA l 2 = 0
      · have e : scan l [] = 0 := scan_zero l (fun a => by
          by_cases ha : a = 0 ∨ a = 1 ∨ a = 2
          · rcases ha with rfl | rfl | rfl <;> assumption
          · exact sumA_none l a (fun x hx e => by have := (hp x hx).2.2; omega))
        rw [e]
        exact Ev.step (fun k => (s0 k).trans (if_pos h0)) (Ev.step (fun k => (s1 k).trans (if_pos h1)) (Ev.step (fun k => (s2 k).trans (if_pos h2)) (Ev.step s3 (Ev.now 0))))
      · rw [scan_one l 2 h2]
        exact Ev.step (fun k => (s0 k).trans (if_pos h0)) (Ev.step (fun k => (s1 k).trans (if_pos h1)) (Ev.step (fun k => (s2 k).trans (if_neg h2)) (Ev.now 1)))
    · rw [scan_one l 1 h1]
      exact Ev.step (fun k => (s0 k).trans (if_pos h0)) (Ev.step (fun k => (s1 k).trans (if_neg h1)) (Ev.now 1))
  · rw [scan_one l 0 h0]
    exact Ev.step (fun k => (s0 k).trans (if_neg h0)) (Ev.now 1)

theorem spec_l1 (id : Int) (l : List S138) (s : List Int) (i : Nat) (hi : i < l.length) (hn : l.length ≤ 8) (x : S138) (r : Int)
    (hr : hasAt (l.take i) x = false → Ev (fun k => spec_ContractFault.l1 k s i i id l x.f0 x.f1 x.f2 x.f3) r) :
    Ev (fun k => spec_ContractFault.l1 k s i 0 id l x.f0 x.f1 x.f2 x.f3) (if hasAt (l.take i) x = true then 7 else r) := by
  have key : ∀ j : Nat, j ≤ i → Ev (fun k => spec_ContractFault.l1 k s i (j : Int) id l x.f0 x.f1 x.f2 x.f3) (if hasAt ((l.take i).drop j) x = true then 7 else r) ∨ hasAt (l.take j) x = true := by
    have := climb (P := fun j => ∀ m : Nat, (m : Int) = j → (hasAt (l.take m) x = false → Ev (fun k => spec_ContractFault.l1 k s i j id l x.f0 x.f1 x.f2 x.f3) (if hasAt ((l.take i).drop m) x = true then 7 else r))) i ?_ ?_
    · intro j hj
      cases hb : hasAt (l.take j) x with
      | true => exact .inr rfl
      | false => exact .inl (this j hj j rfl hb)
    · intro m hm hb
      obtain rfl : m = i := by omega
      have e : (l.take m).drop m = [] := by simp
      rw [e]
      exact hr hb
    · intro j hj ih m hm hb
      obtain rfl : m = j := by omega
      have hjl : m < l.length := by omega
      have ed : (l.take i).drop m = l[m] :: (l.take i).drop (m + 1) := by
        rw [List.drop_eq_getElem_cons (by simp; omega)]
        simp
      have st : ∀ k, spec_ContractFault.l1 (k + 1) s i (m : Int) id l x.f0 x.f1 x.f2 x.f3 = if sameAt l[m] x = true then some 7 else spec_ContractFault.l1 k s i ((m : Int) + 1) id l x.f0 x.f1 x.f2 x.f3 := fun k => by
        simp only [spec_ContractFault.l1]
        rw [if_pos (by omega), if_pos (by omega), if_pos (by omega), rdT l m hjl, wrap_id (by omega) (by omega)]
        unfold sameAt
        by_cases h0 : l[m].f0 = x.f0 <;> by_cases h1 : l[m].f1 = x.f1 <;> by_cases h2 : l[m].f2 = x.f2 <;> simp [h0, h1, h2]
      cases hs : sameAt l[m] x with
      | true =>
        have e7 : hasAt ((l.take i).drop m) x = true := by rw [ed]; simp [hasAt, hs]
        rw [if_pos e7]
        exact Ev.step (fun k => (st k).trans (by rw [hs]; rfl)) (Ev.now 7)
      | false =>
        have e1 : hasAt (l.take (m + 1)) x = false := by
          rw [List.take_succ_eq_append_getElem hjl]
          unfold hasAt at hb ⊢
          rw [List.any_append, hb]
          simp [hs]
        have e2 : hasAt ((l.take i).drop m) x = hasAt ((l.take i).drop (m + 1)) x := by rw [ed]; simp [hasAt, hs]
        rw [e2]
        exact Ev.step (fun k => (st k).trans (by rw [hs]; rfl)) (ih (m + 1) (by simp) e1)
  have h0 := key 0 (Nat.zero_le _)
  rcases h0 with h | h
  · simpa using h
  · simp [hasAt] at h

theorem spec_cf (id : Int) (l : List S138) : Ev (fun k => spec_ContractFault.f k id l) (cf id l) := by
  unfold spec_ContractFault.f cf
  rw [l1Id_f]
  by_cases hid : 1 ≤ id ∧ id ≤ 1000000000
  · rw [if_pos hid]
    simp only [decide_eq_true hid, Option.bind_some, if_true]
    by_cases hl : 2 ≤ l.length ∧ l.length ≤ 8
    · rw [if_pos hl]
      have hg : decide ((l.length : Int) > 8) = false := decide_eq_false (by omega)
      have h2 : ¬ (l.length : Int) < 2 := by omega
      simp only [if_neg h2, hg]
      refine Ev.step (f := fun k => spec_ContractFault.l0 k (List.replicate 3 0) 0 id l) (fun k => ?_) ?_
      · simp only [spec_ContractFault.j0]
        rfl
      · have key : ∀ i : Nat, i ≤ l.length → (∀ x ∈ l.take i, placeOk x ∧ amtOk x) → Ev (fun k => spec_ContractFault.l0 k (sums3 (l.take i)) (i : Int) id l) (scan (l.take i) (l.drop i)) := by
          have := climb (P := fun j => ∀ i : Nat, (i : Int) = j → (∀ x ∈ l.take i, placeOk x ∧ amtOk x) → Ev (fun k => spec_ContractFault.l0 k (sums3 (l.take i)) j id l) (scan (l.take i) (l.drop i))) l.length ?_ ?_
          · exact fun i hi h => this i hi i rfl h
          · intro i hi hp
            obtain rfl : i = l.length := by omega
            rw [List.take_length, List.drop_length] at *
            refine Ev.step (f := fun k => spec_ContractFault.l2 k (sums3 l) 0) (fun k => ?_) (spec_l2 l (fun x hx => (hp x hx).1))
            simp only [spec_ContractFault.l0]
            rw [if_neg (by omega)]
          · intro i hi ih m hm hp
            obtain rfl : m = i := by omega
            have ed : l.drop m = l[m] :: l.drop (m + 1) := List.drop_eq_getElem_cons hi
            have et : l.take (m + 1) = l.take m ++ [l[m]] := List.take_succ_eq_append_getElem hi
            rw [ed]
            simp only [scan]
            have st : ∀ k, spec_ContractFault.l0 (k + 1) (sums3 (l.take m)) (m : Int) id l = (spec_LegFault.f k l[m].f0 l[m].f1 l[m].f2 l[m].f3).bind fun t => (if t = 0 then spec_ContractFault.l1 k (sums3 (l.take m)) (m : Int) 0 id l l[m].f0 l[m].f1 l[m].f2 l[m].f3 else some t) := fun k => by
              simp only [spec_ContractFault.l0]
              rw [if_pos (by omega), if_pos (by omega), rdT l m hi]
            refine Ev.step st (Ev.bind (spec_legFault l[m]) ?_)
            by_cases hz : legCode l[m] = 0
            · simp only [if_pos hz]
              obtain ⟨hpl, ham, _⟩ := legCode_ok hz
              have h1 := spec_l1 id l (sums3 (l.take m)) m hi hl.2 l[m] (scan (l.take m ++ [l[m]]) (l.drop (m + 1))) ?_
              · exact h1
              · intro hb
                have hp' : ∀ x ∈ l.take (m + 1), placeOk x ∧ amtOk x := by
                  rw [et]
                  intro x hx
                  rcases List.mem_append.1 hx with hx | hx
                  · exact hp x hx
                  · rw [List.mem_singleton.1 hx]; exact ⟨hpl, ham⟩
                have h2 := ih (m + 1) (by simp) hp'
                rw [et] at h2
                refine Ev.step (f := fun k => spec_ContractFault.l0 k (sums3 (l.take m ++ [l[m]])) ((m : Int) + 1) id l) (fun k => ?_) h2
                have b := sumA_bd (l.take m) l[m].f2 (fun x hx => (hp x hx).2)
                have hlen : (l.take m).length ≤ 8 := by rw [List.length_take]; omega
                unfold amtOk at ham
                have hs3 : ((sums3 (l.take m)).length : Int) = 3 := rfl
                simp only [spec_ContractFault.l1]
                rw [if_neg (by omega), if_pos hpl.2.2.1, hs3, if_pos (by have := hpl.2.2.2; omega), rd_sums _ _ hpl.2.2.1 hpl.2.2.2, wrap_id (by omega) (by omega), wrap_id (by omega) (by omega), sums3_snoc _ _ hpl.2.2.1 hpl.2.2.2]
            · simp only [if_neg hz]
              exact Ev.now _
        exact key 0 (Nat.zero_le _) (fun x hx => by simp at hx)
    · rw [if_neg hl]
      by_cases h2 : (l.length : Int) < 2
      · simp only [if_pos h2]
        exact Ev.step (f := fun _ => some 2) (fun k => by simp only [spec_ContractFault.j0, if_true]) (Ev.now 2)
      · have hg : decide ((l.length : Int) > 8) = true := decide_eq_true (by omega)
        simp only [if_neg h2, hg]
        exact Ev.step (f := fun _ => some 2) (fun k => by simp only [spec_ContractFault.j0, if_true]) (Ev.now 2)
  · rw [if_neg hid]
    simp only [decide_eq_false hid, Option.bind_some]
    exact Ev.now 3

theorem impl_cf (id : Int) (l : List S138) : impl_ContractFault.f id l = some (cf id l) := rfl

end Go.Proofs.Ytkeojolmapcgbaa.PEv
