/- WHAT IS PROVED: the law's own helpers on legs, contracts and events (measuring, copying, comparing with itself) answer as they should where what comes in is no longer than the law's bound, and the reference's EventFault and the program's answer the same number, for all events: the pure part. -/
import Derived.Test.YtkeojolmapcgbaaPureCF
import Derived.Test.YtkeojolmapcgbaaPEvx1
import Derived.Test.YtkeojolmapcgbaaPEvx4
import Derived.Test.YtkeojolmapcgbaaPEvx9
import Derived.Test.YtkeojolmapcgbaaPEvx3
import Derived.Test.YtkeojolmapcgbaaPEvx7
namespace Go.Proofs.Ytkeojolmapcgbaa.PEv
open Go.RowKit Go.Proofs.YtkeojolmapcgbaaW.PrintWords Go.Proofs.YtkeojolmapcgbaaW.PrintLast Go.Proofs.Ytkeojolmapcgbaa.Plain

def conv (x : S186) : S138 := ⟨x.f0, x.f1, x.f2, x.f3⟩

theorem sz_legs (l : List S186) (hl : l.length ≤ 9223372036854775807) (b : Int) (h0 : 0 ≤ b) (hb : b ≤ 1048576) : SzLeft (fun _ => laws_szLegS.f l b) b ((l.length : Int) ≤ b) := by
  unfold laws_szLegS.f
  rw [wrap_id (by omega) (by omega)]
  by_cases h : b - (l.length : Int) < 0
  · exact ⟨-1, ev_const (if_pos h), .inl (by omega)⟩
  · exact ⟨b - l.length, ev_const (if_neg h), .inr ⟨by omega, by omega, by omega⟩⟩
theorem sz_contract (id : Int) (l : List S186) (hl : l.length ≤ 9223372036854775807) (b : Int) (h0 : 0 ≤ b) (hb : b ≤ 1048576) : SzLeft (fun _ => laws_szContract.f id l b) b ((l.length : Int) ≤ b) := by
  unfold laws_szContract.f
  obtain ⟨r, hr, hor⟩ := sz_legs l hl b h0 hb
  by_cases hn : r < 0
  · refine ⟨-1, Ev.bind hr ?_, .inl (by omega)⟩
    simp only [if_pos hn]
    exact Ev.now _
  · refine ⟨r, Ev.bind hr ?_, hor⟩
    simp only [if_neg hn]
    exact Ev.now _
theorem sz_event (v : Bool) (id : Int) (l : List S186) (o : Int) (hl : l.length ≤ 9223372036854775807) (b : Int) (h0 : 0 ≤ b) (hb : b ≤ 1048576) : SzLeft (fun _ => laws_szEvent.f v id l o b) b ((l.length : Int) ≤ b) := by
  unfold laws_szEvent.f
  obtain ⟨r, hr, hor⟩ := sz_contract id l hl b h0 hb
  by_cases hn : r < 0
  · refine ⟨-1, Ev.bind hr ?_, .inl (by omega)⟩
    simp only [if_pos hn]
    exact Ev.now _
  · refine ⟨r, Ev.bind hr ?_, hor⟩
    simp only [if_neg hn]
    exact Ev.now _

theorem to_legs (l : List S186) (hl : (l.length : Int) ≤ 1048576) : Ev (fun k => laws_toLegS.f k l) (l.map conv) := by
  unfold laws_toLegS.f
  exact Ev.congr (fun k => by rw [if_pos (by omega), if_pos (by omega)]) (to_loop l z186 (fun _ a => laws_toLeg.f a.f0 a.f1 a.f2 a.f3) (fun bt => (⟨bt.1, bt.2.1, bt.2.2.1, bt.2.2.2⟩ : S138)) (fun s => (s.f0, s.f1, s.f2, s.f3)) (fun k x3 x4 => laws_toLegS.l0 k l x3 x4) (fun _ _ _ => rfl) (fun _ _ => Ev.now _) (by omega) (List.replicate (l.length : Int).toNat z138) (by simp))
theorem to_contract (id : Int) (l : List S186) (hl : (l.length : Int) ≤ 1048576) : Ev (fun k => laws_toContract.f k id l) (id, l.map conv) := by
  unfold laws_toContract.f
  exact Ev.bind (to_legs l hl) (Ev.now _)
theorem to_event (v : Bool) (id : Int) (l : List S186) (o : Int) (hl : (l.length : Int) ≤ 1048576) : Ev (fun k => laws_toEvent.f k v id l o) (v, id, l.map conv, o) := by
  unfold laws_toEvent.f
  exact Ev.bind (to_contract id l hl) (Ev.now _)

theorem eq_leg (x : S138) : laws_eqLeg.f x.f0 x.f1 x.f2 x.f3 x.f0 x.f1 x.f2 x.f3 = some true := by
  unfold laws_eqLeg.f
  simp only [if_true]
theorem eq_legs (l : List S138) (hl : (l.length : Int) ≤ 1048576) : Ev (fun k => laws_eqLegS.f k l l) true := by
  unfold laws_eqLegS.f
  exact Ev.congr (fun k => if_pos rfl) (eq_loop l z138 (fun _ a b => laws_eqLeg.f a.f0 a.f1 a.f2 a.f3 b.f0 b.f1 b.f2 b.f3) (fun k i => laws_eqLegS.l0 k l l i) (fun _ _ => rfl) (fun x _ => ev_const (eq_leg x)) (by omega))
theorem eq_contract (id : Int) (l : List S138) (hl : (l.length : Int) ≤ 1048576) : Ev (fun k => laws_eqContract.f k id l id l) true := by
  unfold laws_eqContract.f
  simp only [if_true]
  exact Ev.bind (eq_legs l hl) (by simpa using Ev.now true)
theorem eq_event (v : Bool) (id : Int) (l : List S138) (o : Int) (hl : (l.length : Int) ≤ 1048576) : Ev (fun k => laws_eqEvent.f k v id l o v id l o) true := by
  unfold laws_eqEvent.f
  have e : ¬ ((v != v) = true) := by cases v <;> decide
  simp only [if_neg e, if_true]
  exact Ev.bind (eq_contract id l hl) (by simpa using Ev.now true)

/-- What EventFault answers. -/
def ef (v : Bool) (id : Int) (l : List S138) (o : Int) : Int :=
  if v = true then (if cf id l = 0 then (if o = 0 then 0 else 1) else cf id l)
  else if (1 ≤ id ∧ id ≤ 1000000000) ∧ (1 ≤ o ∧ o ≤ 2) then (if (l.length : Int) > 0 then 1 else 0) else 3

theorem spec_ef (v : Bool) (id : Int) (l : List S138) (o : Int) : Ev (fun k => spec_EventFault.f k v id l o) (ef v id l o) := by
  unfold spec_EventFault.f ef
  cases v with
  | true =>
    simp only [if_true]
    refine Ev.bind (spec_cf id l) ?_
    by_cases h : cf id l = 0
    · simp only [if_pos h]
      by_cases ho : o = 0
      · simp only [if_pos ho]; exact Ev.now _
      · simp only [if_neg ho]; exact Ev.now _
    · simp only [if_neg h]; exact Ev.now _
  | false =>
    have e : ¬ (false = true) := by decide
    simp only [if_neg e]
    rw [l1Id_f, l1In_f]
    have good : ∀ k, spec_EventFault.j0 (k + 1) false false id l o = if (l.length : Int) > 0 then some 1 else some 0 := fun k => by simp only [spec_EventFault.j0, if_neg e]
    have bad : ∀ k, spec_EventFault.j0 (k + 1) true false id l o = some 3 := fun k => by simp only [spec_EventFault.j0, if_true]
    by_cases h1 : 1 ≤ id ∧ id ≤ 1000000000
    · by_cases h2 : 1 ≤ o ∧ o ≤ 2
      · rw [if_pos ⟨h1, h2⟩]
        simp only [decide_eq_true h1, decide_eq_true h2, Option.bind_some, if_true, Bool.not_true]
        refine Ev.step good ?_
        by_cases hp : (l.length : Int) > 0
        · simp only [if_pos hp]; exact Ev.now _
        · simp only [if_neg hp]; exact Ev.now _
      · rw [if_neg (fun h => h2 h.2)]
        simp only [decide_eq_true h1, decide_eq_false h2, Option.bind_some, if_true, Bool.not_false]
        exact Ev.step bad (Ev.now _)
    · rw [if_neg (fun h => h1 h.1)]
      simp only [decide_eq_false h1, Option.bind_some, if_neg e]
      exact Ev.step bad (Ev.now _)

theorem isOutcome_f (o : Int) : impl_isOutcome.f o = some (decide (1 ≤ o ∧ o ≤ 2)) := by
  unfold impl_isOutcome.f
  by_cases h : o = 1
  · subst h; rfl
  · rw [if_neg h]
    congr 1
    rw [Bool.eq_iff_iff]
    simp
    omega

theorem impl_ef (v : Bool) (id : Int) (l : List S138) (o : Int) : Ev (fun k => impl_EventFault.f k v id l o) (ef v id l o) := by
  unfold impl_EventFault.f ef
  cases v with
  | true =>
    simp only [if_true]
    refine Ev.bind (ev_const (impl_cf id l)) ?_
    by_cases h : cf id l = 0
    · simp only [if_pos h]
      by_cases ho : o = 0
      · simp only [if_pos ho]; exact Ev.now _
      · simp only [if_neg ho]; exact Ev.now _
    · simp only [if_neg h]; exact Ev.now _
  | false =>
    have e : ¬ (false = true) := by decide
    simp only [if_neg e]
    rw [isId_f, isOutcome_f]
    have good : ∀ k, impl_EventFault.j0 (k + 1) false false id l o = if (l.length : Int) > 0 then some 1 else some 0 := fun k => by simp only [impl_EventFault.j0, if_neg e]
    have bad : ∀ k, impl_EventFault.j0 (k + 1) true false id l o = some 3 := fun k => by simp only [impl_EventFault.j0, if_true]
    by_cases h1 : 1 ≤ id ∧ id ≤ 1000000000
    · by_cases h2 : 1 ≤ o ∧ o ≤ 2
      · rw [if_pos ⟨h1, h2⟩]
        simp only [decide_eq_true h1, decide_eq_true h2, Option.bind_some, if_true, Bool.not_true]
        refine Ev.step good ?_
        by_cases hp : (l.length : Int) > 0
        · simp only [if_pos hp]; exact Ev.now _
        · simp only [if_neg hp]; exact Ev.now _
      · rw [if_neg (fun h => h2 h.2)]
        simp only [decide_eq_true h1, decide_eq_false h2, Option.bind_some, if_true, Bool.not_false]
        exact Ev.step bad (Ev.now _)
    · rw [if_neg (fun h => h1 h.1)]
      simp only [decide_eq_false h1, Option.bind_some, if_neg e]
      exact Ev.step bad (Ev.now _)

end Go.Proofs.Ytkeojolmapcgbaa.PEv
