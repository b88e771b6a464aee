/- WHAT IS PROVED: the program's SessionsFault answers what the reference's answers, for all lists of sessions whose integers fit int64 and whose lists have lengths that fit a slice, as the law FnExactSessionsFault asks it: the pure part, over numbers and lists alone. -/
import Derived.Test.YtfffmmkddfgnfaaPFnExactSessionsFaultx
import Derived.Test.YtfffmmkddfgnfaaPlain
namespace Go.Proofs.Ytfffmmkddfgnfaa.Pure
open Go.RowKit Go.Proofs.Ytfffmmkddfgnfaa.PFnExactSessionsFault Go.Proofs.YtfffmmkddfgnfaaW.PrintWords Go.Proofs.YtfffmmkddfgnfaaW.PrintLast Go.Proofs.Ytfffmmkddfgnfaa.Plain

def conv (s : S54) : S55 := ⟨s.f0, s.f1, s.f2⟩

theorem sz_session (s : S54) (hs : s.f2.length ≤ 9223372036854775807) (b : Int) (h0 : 0 ≤ b) (hb : b ≤ 1048576) : SzLeft (fun _ => laws_szSession.f s.f0 s.f1 s.f2 b) b ((s.f2.length : Int) ≤ 1048576) := by
  unfold laws_szSession.f laws_szInt64S.f
  rw [wrap_id (by omega) (by omega)]
  by_cases h : b - (s.f2.length : Int) < 0
  · refine ⟨-1, ev_const ?_, .inl (by omega)⟩
    rw [if_pos h]; rfl
  · refine ⟨b - s.f2.length, ev_const ?_, .inr ⟨by omega, by omega, by omega⟩⟩
    rw [if_neg h]
    simp only [Option.bind_some]
    rw [if_neg h]

theorem sz_sessions (l : List S54) (hl : l.length ≤ 9223372036854775807) (hs : ∀ s ∈ l, s.f2.length ≤ 9223372036854775807) :
    SzLeft (fun k => laws_szSessionS.f k l 1048576) 1048576 ((l.length : Int) ≤ 1048576 ∧ ∀ s ∈ l, (s.f2.length : Int) ≤ 1048576) := by
  unfold laws_szSessionS.f
  rw [wrap_id (by omega) (by omega)]
  by_cases h : (1048576 : Int) - (l.length : Int) < 0
  · exact ⟨-1, Ev.congr (fun _ => if_pos h) (Ev.now _), .inl (by omega)⟩
  · obtain ⟨r, hr, hor⟩ := sz_loop l z54 (fun k a b => laws_szSession.f a.f0 a.f1 a.f2 b) (fun s => (s.f2.length : Int) ≤ 1048576) (fun k b i => laws_szSessionS.l0 k l b i) (fun _ _ _ => rfl)
      (fun s hm b h0 hb => sz_session s (hs s hm) b h0 hb) (by omega) (1048576 - l.length) (by omega) (by omega)
    refine ⟨r, Ev.congr (fun k => if_neg h) hr, hor.imp_right fun ⟨h1, h2, h3⟩ => ⟨h1, by omega, by omega, h3⟩⟩

theorem to_ints (l : List Int) (hl : (l.length : Int) ≤ 1048576) : Ev (fun k => laws_toInt64S.f k l) l := by
  unfold laws_toInt64S.f
  refine Ev.congr (fun k => by rw [if_pos (by omega), if_pos (by omega)]) (ev_eq (to_loop l 0 (fun _ a => some a) (fun a => a) (fun a => a) (fun k x3 x4 => laws_toInt64S.l0 k l x3 x4) (fun _ _ _ => rfl) (fun a _ => Ev.now a) (by omega) (List.replicate (l.length : Int).toNat 0) (by simp)) (by simp))

theorem to_session (s : S54) (hs : (s.f2.length : Int) ≤ 1048576) : Ev (fun k => laws_toSession.f k s.f0 s.f1 s.f2) (s.f0, s.f1, s.f2) := by
  unfold laws_toSession.f
  exact Ev.bind (to_ints _ hs) (Ev.now _)

theorem to_sessions (l : List S54) (hl : (l.length : Int) ≤ 1048576) (hs : ∀ s ∈ l, (s.f2.length : Int) ≤ 1048576) : Ev (fun k => laws_toSessionS.f k l) (l.map conv) := by
  unfold laws_toSessionS.f
  refine Ev.congr (fun k => by rw [if_pos (by omega), if_pos (by omega)]) (to_loop l z54 (fun k a => laws_toSession.f k a.f0 a.f1 a.f2) (fun bt => (⟨bt.1, bt.2.1, bt.2.2⟩ : S55)) (fun s => (s.f0, s.f1, s.f2)) (fun k x3 x4 => laws_toSessionS.l0 k l x3 x4) (fun _ _ _ => rfl) (fun s hm => to_session s (hs s hm)) (by omega) _ (by simp))

theorem eq_ints (l : List Int) (hl : (l.length : Int) ≤ 1048576) : Ev (fun k => laws_eqInt64S.f k l l) true := by
  unfold laws_eqInt64S.f
  exact Ev.congr (fun k => if_pos rfl) (eq_loop' l 0 id (fun k i => laws_eqInt64S.l0 k l l i) (fun _ _ => rfl) (by omega))

theorem eq_session (s : S55) (hs : (s.f2.length : Int) ≤ 1048576) : Ev (fun k => laws_eqSession.f k s.f0 s.f1 s.f2 s.f0 s.f1 s.f2) true := by
  unfold laws_eqSession.f
  simp only [if_true]
  exact Ev.bind (eq_ints _ hs) (by simpa using Ev.now true)

theorem eq_sessions (l : List S55) (hl : (l.length : Int) ≤ 1048576) (hs : ∀ s ∈ l, (s.f2.length : Int) ≤ 1048576) : Ev (fun k => laws_eqSessionS.f k l l) true := by
  unfold laws_eqSessionS.f
  exact Ev.congr (fun k => if_pos rfl) (eq_loop l z55 (fun k a b => laws_eqSession.f k a.f0 a.f1 a.f2 b.f0 b.f1 b.f2) (fun k i => laws_eqSessionS.l0 k l l i) (fun _ _ => rfl) (fun s hm => eq_session s (hs s hm)) (by omega))

/-! The two functions. -/
theorem rd_nat (s : List Int) (i : Nat) : rd s (i : Int) = s.getD i 0 := by unfold rd; rw [Int.toNat_natCast]

theorem spec_sent (l : List S55) (x3 : Int) (c n : Int) (s : List Int) (hs : (s.length : Int) ≤ 1048576) (r : Int) (hr : Ev (fun k => spec_SessionsFault.l0 k l (wrap64 (x3 + 1))) r) :
    ((∀ j : Nat, j < s.length → s.getD j 0 = (j : Int) + 1) → Ev (fun k => spec_SessionsFault.l1 k l x3 0 c n s) r) ∧ (¬ (∀ j : Nat, j < s.length → s.getD j 0 = (j : Int) + 1) → Ev (fun k => spec_SessionsFault.l1 k l x3 0 c n s) 1) := by
  have good : ∀ i : Nat, i < s.length → s.getD i 0 = (i : Int) + 1 → ∀ k, spec_SessionsFault.l1 (k + 1) l x3 (i : Int) c n s = spec_SessionsFault.l1 k l x3 ((i : Int) + 1) c n s := fun i hi h k => by
    simp only [spec_SessionsFault.l1]
    rw [if_pos (by omega), if_pos (by omega), wrap_id (by omega) (by omega), if_pos (by rw [rd_nat]; exact h)]
  refine ⟨fun H => ?_, fun H => ?_⟩
  · refine climb0 (P := fun i => Ev (fun k => spec_SessionsFault.l1 k l x3 i c n s) r) s.length ?_ (fun i hi ih => Ev.step (good i hi (H i hi)) ih)
    exact Ev.step (f := fun k => spec_SessionsFault.l0 k l (wrap64 (x3 + 1))) (fun k => by simp only [spec_SessionsFault.l1]; rw [if_neg (by omega)]) hr
  · refine climb0 (P := fun i => (∃ j : Nat, i ≤ (j : Int) ∧ j < s.length ∧ s.getD j 0 ≠ (j : Int) + 1) → Ev (fun k => spec_SessionsFault.l1 k l x3 i c n s) 1) s.length ?_ (fun i hi ih hex => ?_) ?_
    · rintro ⟨j, h1, h2, _⟩
      omega
    · by_cases h : s.getD i 0 = (i : Int) + 1
      · refine Ev.step (good i hi h) (ih ?_)
        obtain ⟨j, h1, h2, h3⟩ := hex
        refine ⟨j, ?_, h2, h3⟩
        by_cases e : j = i
        · subst e; exact absurd h h3
        · omega
      · refine Ev.step (f := fun k => some 1) (fun k => ?_) (Ev.now (1 : Int))
        simp only [spec_SessionsFault.l1]
        rw [if_pos (by omega), if_pos (by omega), wrap_id (by omega) (by omega), if_neg (by rw [rd_nat]; exact h)]
    · simp only [Classical.not_forall] at H
      obtain ⟨j, h1, h2⟩ := H
      exact ⟨j, by omega, h1, h2⟩

theorem impl_sent (c n : Int) (s : List Int) (hs : (s.length : Int) ≤ 1048576) (hn : 1 ≤ n ∧ n ≤ 1000) :
    ∃ b, Ev (fun k => impl_sentOk.f k c n s) b ∧ (b = true ↔ (∀ j : Nat, j < s.length → s.getD j 0 = (j : Int) + 1) ∧ (s.length : Int) = n - 1) := by
  unfold impl_sentOk.f
  have key := climb0 (P := fun i => ∃ b, Ev (fun k => impl_sentOk.l0 k s s.length i c n s) b ∧ (b = true ↔ (∀ j : Nat, i ≤ (j : Int) → j < s.length → s.getD j 0 = (j : Int) + 1) ∧ (s.length : Int) = n - 1)) s.length ?_ ?_
  · obtain ⟨b, hb, h⟩ := key
    exact ⟨b, hb, h.trans (by simp)⟩
  · refine ⟨((s.length : Int) == n - 1), Ev.step (f := fun k => some ((s.length : Int) == n - 1)) (fun k => ?_) (Ev.now _), ?_⟩
    · simp only [impl_sentOk.l0, impl_size_int64.f]
      rw [if_neg (by omega), wrap_id (by omega) (by omega)]
      rfl
    · simp
      intro _ j h1 h2
      omega
  · rintro i hi ⟨b, hb, h⟩
    by_cases hi1 : s.getD i 0 = (i : Int) + 1
    · refine ⟨b, Ev.step (f := fun k => impl_sentOk.l0 k s s.length ((i : Int) + 1) c n s) (fun k => ?_) hb, h.trans (and_congr_left fun _ => ?_)⟩
      · simp only [impl_sentOk.l0]
        rw [if_pos (by omega), if_pos (by omega), if_pos (by omega), wrap_id (by omega) (by omega), if_pos (by rw [rd_nat]; exact hi1)]
      · constructor
        · intro H j h1 h2
          by_cases hj : j = i
          · subst hj; exact hi1
          · exact H j (by omega) h2
        · intro H j h1 h2
          exact H j (by omega) h2
    · refine ⟨false, Ev.step (f := fun k => some false) (fun k => ?_) (Ev.now false), ?_⟩
      · simp only [impl_sentOk.l0]
        rw [if_pos (by omega), if_pos (by omega), if_pos (by omega), wrap_id (by omega) (by omega), if_neg (by rw [rd_nat]; exact hi1)]
      · simp only [Bool.false_eq_true, false_iff]
        exact fun H => hi1 (H.1 i (by omega) hi)

theorem l1In_f (a b c : Int) : spec_l1In.f a b c = some (decide (b ≤ a ∧ a ≤ c)) := by
  unfold spec_l1In.f
  by_cases h : a ≥ b
  · have h' : b ≤ a := h
    rw [if_pos h]; simp [h']
  · have h' : ¬ b ≤ a := h
    rw [if_neg h]; simp [h']
theorem within_f (a b c : Int) : impl_within.f a b c = some (decide (b ≤ a ∧ a ≤ c)) := by
  unfold impl_within.f
  by_cases h : a ≥ b
  · have h' : b ≤ a := h
    rw [if_pos h]; simp [h']
  · have h' : ¬ b ≤ a := h
    rw [if_neg h]; simp [h']
theorem isClient_f (a : Int) : impl_isClient.f a = some (decide (1 ≤ a ∧ a ≤ 999)) := by
  unfold impl_isClient.f; rw [within_f]; rfl

theorem both (l : List S55) (hl : l.length ≤ 10) (hs : ∀ s ∈ l, (s.f2.length : Int) ≤ 1048576) :
    ∃ r, Ev (fun k => spec_SessionsFault.l0 k l 0) r ∧ Ev (fun k => impl_SessionsFault.l0 k l l l.length 0) r := by
  refine climb0 (P := fun i => ∃ r, Ev (fun k => spec_SessionsFault.l0 k l i) r ∧ Ev (fun k => impl_SessionsFault.l0 k l l l.length i) r) l.length ?_ ?_
  · refine ⟨0, Ev.step (f := fun _ => some 0) (fun k => ?_) (Ev.now _), Ev.step (f := fun _ => some 0) (fun k => ?_) (Ev.now _)⟩
    · simp only [spec_SessionsFault.l0]; rw [if_neg (by omega)]
    · simp only [impl_SessionsFault.l0]; rw [if_neg (by omega)]
  · rintro i hi ⟨r, h1, h2⟩
    have hsi : ((rd_T55 l (i : Int)).f2.length : Int) ≤ 1048576 := by
      have := hs _ (getD_mem l z55 i hi)
      unfold rd_T55
      rw [Int.toNat_natCast]
      exact this
    generalize he : rd_T55 l (i : Int) = s at hsi
    have w1 : wrap64 ((i : Int) + 1) = (i : Int) + 1 := wrap_id (by omega) (by omega)
    by_cases hr : (1 ≤ s.f0 ∧ s.f0 ≤ 999) ∧ (1 ≤ s.f1 ∧ s.f1 ≤ 1000)
    · obtain ⟨hc, hn⟩ := hr
      have wn : wrap64 (s.f1 - 1) = s.f1 - 1 := wrap_id (by omega) (by omega)
      have specL : ∀ k, spec_SessionsFault.l0 (k + 1) l (i : Int) = spec_SessionsFault.j1 k l i false s.f0 s.f1 s.f2 := fun k => by
        simp only [spec_SessionsFault.l0]
        rw [if_pos (by omega), if_pos (by omega), he, l1In_f, l1In_f]
        simp [hc, hn]
      have implL : ∀ k, impl_SessionsFault.l0 (k + 1) l l l.length (i : Int) = impl_SessionsFault.j1 k l i l l.length i false s.f0 s.f1 s.f2 := fun k => by
        simp only [impl_SessionsFault.l0]
        rw [if_pos (by omega), if_pos (by omega), if_pos (by omega), he, isClient_f, within_f]
        simp [hc, hn]
      obtain ⟨S1, S2⟩ := spec_sent l (i : Int) s.f0 s.f1 s.f2 hsi r (by rw [w1]; exact h1)
      obtain ⟨b, I, hb⟩ := impl_sent s.f0 s.f1 s.f2 hsi hn
      -- what both answer where the client is above the one ahead
      obtain ⟨q, hq1, hq2⟩ : ∃ q, Ev (fun k => spec_SessionsFault.j2 k l i ((s.f2.length : Int) != s.f1 - 1) s.f0 s.f1 s.f2) q ∧
          Ev (fun k => (impl_sentOk.f k s.f0 s.f1 s.f2).bind fun t => (if t = true then (impl_SessionsFault.l0 k l l l.length (wrap64 ((i : Int) + 1))) else (some 1))) q := by
        by_cases hL : (s.f2.length : Int) = s.f1 - 1
        · have e0 : ((s.f2.length : Int) != s.f1 - 1) = false := by simp [hL]
          have sj : ∀ k, spec_SessionsFault.j2 (k + 1) l i ((s.f2.length : Int) != s.f1 - 1) s.f0 s.f1 s.f2 = spec_SessionsFault.l1 k l i 0 s.f0 s.f1 s.f2 := fun k => by
            simp only [spec_SessionsFault.j2, e0]; rfl
          by_cases hA : ∀ j : Nat, j < s.f2.length → s.f2.getD j 0 = (j : Int) + 1
          · have ebt : b = true := hb.mpr ⟨hA, hL⟩
            refine ⟨r, Ev.step sj (S1 hA), Ev.bind I ?_⟩
            simp only [ebt, if_true, w1]
            exact h2
          · have ebf : b = false := by
              cases b with
              | false => rfl
              | true => exact absurd (hb.mp rfl).1 hA
            refine ⟨1, Ev.step sj (S2 hA), Ev.bind I ?_⟩
            simp only [ebf]
            exact Ev.now _
        · have e1 : ((s.f2.length : Int) != s.f1 - 1) = true := by simp [hL]
          have ebf : b = false := by
            cases b with
            | false => rfl
            | true => exact absurd (hb.mp rfl).2 hL
          refine ⟨1, Ev.step (f := fun _ => some 1) (fun k => ?_) (Ev.now _), Ev.bind I ?_⟩
          · simp only [spec_SessionsFault.j2, e1, if_true]
          · simp only [ebf]
            exact Ev.now _
      by_cases h0 : 0 < (i : Int)
      · have wi : wrap64 ((i : Int) - 1) = (i : Int) - 1 := wrap_id (by omega) (by omega)
        by_cases hp : s.f0 ≤ (rd_T55 l ((i : Int) - 1)).f0
        · refine ⟨1, Ev.step specL (Ev.step (f := fun k => spec_SessionsFault.j2 k l i true s.f0 s.f1 s.f2) (fun k => ?_) (Ev.step (f := fun _ => some 1) (fun k => by simp only [spec_SessionsFault.j2, if_true]) (Ev.now _))), Ev.step implL (Ev.step (f := fun _ => some 1) (fun k => ?_) (Ev.now _))⟩
          · simp only [spec_SessionsFault.j1]
            rw [wi]
            rw [if_neg (by simp), if_pos (by omega), if_pos (by omega), if_pos (by omega), if_pos hp]
          · simp only [impl_SessionsFault.j1]
            rw [wi]
            rw [if_neg (by simp), if_pos (by omega), if_pos (by omega), if_pos (by omega), if_pos (by omega)]
        · refine ⟨q, Ev.step specL (Ev.step (f := fun k => spec_SessionsFault.j2 k l i ((s.f2.length : Int) != s.f1 - 1) s.f0 s.f1 s.f2) (fun k => ?_) hq1), Ev.step implL (Ev.step (f := fun k => (impl_sentOk.f k s.f0 s.f1 s.f2).bind fun t => (if t = true then (impl_SessionsFault.l0 k l l l.length (wrap64 ((i : Int) + 1))) else (some 1))) (fun k => ?_) hq2)⟩
          · simp only [spec_SessionsFault.j1]
            rw [wi, wn]
            rw [if_neg (by simp), if_pos (by omega), if_pos (by omega), if_pos (by omega), if_neg hp]
          · simp only [impl_SessionsFault.j1]
            rw [wi]
            rw [if_neg (by simp), if_pos (by omega), if_pos (by omega), if_pos (by omega), if_neg (by omega)]
      · refine ⟨q, Ev.step specL (Ev.step (f := fun k => spec_SessionsFault.j2 k l i ((s.f2.length : Int) != s.f1 - 1) s.f0 s.f1 s.f2) (fun k => ?_) hq1), Ev.step implL (Ev.step (f := fun k => (impl_sentOk.f k s.f0 s.f1 s.f2).bind fun t => (if t = true then (impl_SessionsFault.l0 k l l l.length (wrap64 ((i : Int) + 1))) else (some 1))) (fun k => ?_) hq2)⟩
        · simp only [spec_SessionsFault.j1]
          rw [wn]
          rw [if_neg (by simp), if_neg (by omega)]
        · simp only [impl_SessionsFault.j1]
          rw [if_neg (by simp), if_neg (by omega)]
    · refine ⟨3, Ev.step (f := fun k => spec_SessionsFault.j1 k l i true s.f0 s.f1 s.f2) (fun k => ?_) (Ev.step (f := fun _ => some 3) (fun k => ?_) (Ev.now _)), Ev.step (f := fun k => impl_SessionsFault.j1 k l i l l.length i true s.f0 s.f1 s.f2) (fun k => ?_) (Ev.step (f := fun _ => some 3) (fun k => ?_) (Ev.now _))⟩
      · simp only [spec_SessionsFault.l0]
        rw [if_pos (by omega), if_pos (by omega), he, l1In_f, l1In_f]
        by_cases hc : 1 ≤ s.f0 ∧ s.f0 ≤ 999
        · have hn : ¬ (1 ≤ s.f1 ∧ s.f1 ≤ 1000) := fun h => hr ⟨hc, h⟩
          simp only [Option.bind_some, decide_eq_true hc, decide_eq_false hn, if_true, Bool.not_false]
        · simp only [Option.bind_some, decide_eq_false hc]
          rfl
      · simp only [spec_SessionsFault.j1, if_true]
      · simp only [impl_SessionsFault.l0]
        rw [if_pos (by omega), if_pos (by omega), if_pos (by omega), he, isClient_f, within_f]
        by_cases hc : 1 ≤ s.f0 ∧ s.f0 ≤ 999
        · have hn : ¬ (1 ≤ s.f1 ∧ s.f1 ≤ 1000) := fun h => hr ⟨hc, h⟩
          simp only [Option.bind_some, decide_eq_true hc, decide_eq_false hn, if_true, Bool.not_false]
        · simp only [Option.bind_some, decide_eq_false hc]
          rfl
      · simp only [impl_SessionsFault.j1, if_true]

theorem same (l : List S55) (hs : ∀ s ∈ l, (s.f2.length : Int) ≤ 1048576) : ∃ r, Ev (fun k => spec_SessionsFault.f k l) r ∧ Ev (fun k => impl_SessionsFault.f k l) r := by
  unfold spec_SessionsFault.f impl_SessionsFault.f
  by_cases h : (l.length : Int) > 10
  · exact ⟨2, Ev.congr (fun _ => if_pos h) (Ev.now _), Ev.congr (fun _ => if_pos h) (Ev.now _)⟩
  · obtain ⟨r, h1, h2⟩ := both l (by omega) hs
    exact ⟨r, Ev.congr (fun _ => if_neg h) h1, Ev.congr (fun _ => if_neg h) h2⟩

theorem law_holds (l : List S54) (hl : l.length ≤ 9223372036854775807) (hs : ∀ s ∈ l, s.f2.length ≤ 9223372036854775807) : ∃ k, laws_FnExactSessionsFault.f k l = some true := by
  refine Ev.rounds ?_
  unfold laws_FnExactSessionsFault.f
  obtain ⟨t, ht, hor⟩ := sz_sessions l hl hs
  refine Ev.bind ht ?_
  by_cases hneg : t < 0
  · simp only [if_pos hneg]
    exact Ev.now _
  · simp only [if_neg hneg]
    obtain ⟨_, _, h1, h2⟩ : 0 ≤ t ∧ t ≤ 1048576 ∧ _ ∧ _ := by
      rcases hor with h | h
      · omega
      · exact h
    have h1' : ((l.map conv).length : Int) ≤ 1048576 := by rw [List.length_map]; exact h1
    have h2' : ∀ s ∈ l.map conv, (s.f2.length : Int) ≤ 1048576 := fun s hm => by
      obtain ⟨a, ha, rfl⟩ := List.mem_map.1 hm
      exact h2 a ha
    obtain ⟨r, hr1, hr2⟩ := same (l.map conv) h2'
    refine Ev.bind (to_sessions l h1 h2) (Ev.bind hr1 (Ev.bind (to_sessions l h1 h2) (Ev.bind hr2 ?_)))
    simp only [if_true]
    refine Ev.bind (to_sessions l h1 h2) (Ev.bind (eq_sessions _ h1' h2') ?_)
    simp only [if_true]
    exact Ev.now _

theorem FnExactSessionsFault (l : List S54) (h : l.length ≤ maxLen ∧ ∀ s ∈ l, (Lit.int .i64 s.f0).wf = true ∧ (Lit.int .i64 s.f1).wf = true ∧ s.f2.length ≤ maxLen ∧ ∀ n ∈ s.f2, (Lit.int .i64 n).wf = true) : ∃ k, laws_FnExactSessionsFault.f k l = some true :=
  law_holds l (by have := h.1; unfold maxLen at this; omega) (fun s hs => by have := (h.2 s hs).2.2.1; unfold maxLen at this; omega)

end Go.Proofs.Ytfffmmkddfgnfaa.Pure
