/- WHAT IS PROVED: parts of the proof of fnExactEventsOf_holds: a frame for walks, what each Go function that it reaches answers, and plain lemmas; no condition beyond those that each theorem names. -/
import Derived.Test.YtlkjdcpcbnfbbaaCEv3
import Derived.WalkKit
import Derived.OrdersHeld
import Derived.DeepKeys
import Derived.Maps.RangeWalk
import Derived.Maps.OwnOps
import Derived.WideKeyEntry
import Derived.Deep.Slices
import Derived.ChangeArms
import Derived.WideShapes
set_option linter.unusedVariables false
set_option linter.unusedSimpArgs false
section
namespace Go.Sx
open Go.RowKit (Below)
section
variable {g : Bool} {P : Program} {F : TT} {σ : St} {o : Oper} {K : St → Prop}
theorem evR_holds {x : Operand} {f : AV → R} (h : (evR σ x f).holds P K) : ∃ av, ev σ x = some av ∧ (f av).holds P K := by
  unfold evR at h
  split at h
  · rename_i av hav; exact ⟨av, hav, h⟩
  · exact h.elim
theorem ntupB_ntup {z : AV} (h : ntupB z = true) : ntup z := by cases z <;> first | trivial | cases h
theorem ntupM {z : AV} (h : ntupB z = true) : (match (generalizing := false) z with | .tup _ => False | _ => True) := by cases z <;> first | trivial | cases h
theorem intR_eq {x : Option Operand} {r : Option Int} (h : intR? x σ = some r) : intOf? x σ = some r := h
theorem evK_of {x : Operand} {K' : AV → Prop} (h : (evR σ x fun av => valR σ o.dst av).holds P K) (hK : ∀ av, K (σ.put o.dst av) → K' av) : evK σ x K' := by
  obtain ⟨av, h1, h2⟩ := evR_holds h
  unfold evK
  rw [h1]
  exact hK _ (valR_holds.1 h2)
theorem lenR_ok {t : Nat} {av : AV} {f : Value → R} {K' : Value → Prop} (hF : F = F.map P) (hf : ∀ v, (f v).holds P K → K' v) (h : (lenR F σ t av f).holds P K) : lenY P t σ av K' := by
  unfold lenR at h
  split at h
  · obtain ⟨_, h1, h2⟩ := someR_holds h; exact ⟨by rw [F_esz_ok hF h1]; rfl, hf _ h2⟩
  · obtain ⟨_, h1, h2⟩ := someR_holds h; exact ⟨by rw [F_esz_ok hF h1]; rfl, hf _ h2⟩
  · obtain ⟨_, h1, h2⟩ := someR_holds h; exact ⟨by rw [F_esz_ok hF h1]; rfl, hf _ h2⟩
  · obtain ⟨_, h1, h2⟩ := someR_holds h; exact ⟨by rw [F_esz_ok hF h1]; rfl, hf _ h2⟩
  · obtain ⟨h1, h2⟩ := guardB_holds h; exact ⟨F_str_ok hF h1, hf _ h2⟩
  · obtain ⟨_, h1, h2⟩ := someR_holds h
    refine ⟨by rw [F_esz_ok hF h1]; rfl, ?_⟩
    split at h2
    · rename_i full sz ep rows hg
      obtain ⟨h3, row, h4, h5⟩ := h2
      rw [hg]
      refine ⟨h3, ?_⟩
      rw [h4]
      dsimp only at h5 ⊢
      split at h5
      · rename_i rs hrs; rw [nth_eq] at hrs; rw [hrs]; exact hf _ h5
      · exact h5.elim
    · exact h2.elim
  · exact h.elim
theorem loadK {av : AV} {ag : Bool} {n : Nat} (h : (cellsR σ av fun cs => (match ag with
      | true => guardB (leLen n cs) (someR (force (cs.take n)) fun cs => valR σ o.dst (.agg cs))
      | false => (match cs with | [] => .fail | c :: _ => valR σ o.dst (.one c)))).holds P K) : cellsAt σ av fun cs => match loadAs ag n cs with | some r => K (σ.put o.dst r) | none => False := by
  refine cellsR_ok (fun cs h => ?_) h
  split at h
  · obtain ⟨h1, h2⟩ := guardB_holds h
    obtain ⟨cs', h3, h4⟩ := someR_holds h2
    rw [force_eq h3] at h4
    simp only [loadAs, if_true, if_pos (leLen_le h1)]
    exact valR_holds.1 h4
  · split at h
    · exact h.elim
    · exact valR_holds.1 h
theorem yes {av : AV} (h : (valR σ o.dst av).holds P K) : K (σ.put o.dst av) := valR_holds.1 h
theorem varR_ok {d : Option Tmp} {cs : List AC} (h : (varR σ d cs).holds P K) : newVarK σ d cs K := by
  unfold varR at h
  unfold newVarK
  split at h
  · split at h
    · rename_i hn; dsimp only; rw [hn]; exact bR_holds h
    · exact h.elim
  · exact h.elim
theorem litR_ok (hF : F = F.map P) {t n : Nat} {ps : List (Nat × Operand)} {d : Option Tmp} (h : (litR F σ t n ps d).holds P K) : litK P σ t n ps d K := by
  unfold litR at h
  unfold litK
  split at h
  · rename_i d sz by_ rws h1 h2
    rw [F_esI_ok hF h1, partsR_eq h2]
    dsimp only
    split at h
    · rename_i hn
      rw [hn]
      dsimp only
      obtain ⟨g1, h⟩ := guardB_holds h
      obtain ⟨g2, h⟩ := guardB_holds h
      obtain ⟨g3, h⟩ := guardB_holds h
      obtain ⟨g4, h⟩ := guardB_holds h
      obtain ⟨g5, h⟩ := guardB_holds h
      obtain ⟨g6, h⟩ := h
      obtain ⟨rs, g7, h⟩ := someR_holds h
      rw [gams_eq] at g4 g5
      have h := bR_holds h
      rw [gams_eq, fullL_eq, mapRs_eq g7] at h
      rw [fullL_eq] at g6
      exact ⟨eqLen_eq g1, Nat.le_of_ble_eq_true g2, allLen_eq g3, nodB_nodup g4, memB_not (notB_eq g5), g6, h⟩
    · exact h.elim
  · exact h.elim
theorem makR_ok (hF : F = F.map P) {t : Nat} {l c : Operand} {d : Option Tmp} (h : (makR F σ t l c d).holds P K) : makeK P σ t l c d K := by
  unfold makR at h
  unfold makeK
  split at h
  · rename_i d sz by_ zrow k n k' n' h1 h2 h3 h4
    rw [F_esI_ok hF h1, F_zrow_ok hF h2, h3, h4]
    dsimp only
    split at h
    · rename_i hn
      rw [hn]
      dsimp only
      obtain ⟨g1, g2, g3, g4, g5, h⟩ := guardB_holds h
      exact ⟨g2, g3, g4, g5, eqLen_eq g1, bR_holds h⟩
    · exact h.elim
  · exact h.elim
theorem storeE_ok (hF : F = F.map P) {t : Nat} {β m i k : Nat} {x : AV} (h : (storeR F σ t (.one (.e β m i k)) x).holds P K) : storeE P σ t (.one (.e β m i k)) x K := by
  unfold storeR at h
  unfold storeE
  split at h
  · rename_i n β m i k x h1 he
    cases he
    rw [F_lay_ok hF h1]
    dsimp only
    split at h
    · rename_i full sz ep rows hg
      rw [hg]
      dsimp only
      obtain ⟨g1, h⟩ := guardB_holds h
      obtain ⟨g2, h⟩ := guardB_holds h
      obtain ⟨g3, h⟩ := guardB_holds h
      obtain ⟨g4, h⟩ := guardB_holds h
      obtain ⟨g5, row, g6, g7, g8, h⟩ := h
      obtain ⟨xs, g9, h⟩ := someR_holds h
      have h := bR_holds h
      rw [gams_eq] at g3 g4 h
      rw [mapC_eq g9] at h
      refine ⟨g5, ?_⟩
      rw [g6]
      refine ⟨eqLen_eq g2, ?_, g7, nodB_nodup g3, memB_not (notB_eq g4), g8, h⟩
      exact ntupM g1
    · exact h.elim
  · rename_i he; cases he
  · rename_i he; cases he
  · exact h.elim
theorem storeV_ok (hF : F = F.map P) {t : Nat} {p x : AV} (hne : ∀ β m i k, p ≠ .one (.e β m i k)) (h : (storeR F σ t p x).holds P K) : storeK P σ t p x K := by
  unfold storeR at h
  unfold storeK
  split at h
  · exact absurd rfl (hne _ _ _ _)
  · rename_i β off c h1
    split at h
    · rename_i cs hg
      simp only [F_lay_ok hF h1, hg]
      obtain ⟨g1, h⟩ := guardB_holds h
      obtain ⟨cs', g2, h⟩ := someR_holds h
      rw [force_eq g2] at h
      exact ⟨leLen_le g1, bR_holds h⟩
    · exact h.elim
  · rename_i n β off xs h1
    split at h
    · rename_i cs hg
      simp only [F_lay_ok hF h1, hg]
      obtain ⟨g0, h⟩ := guardB_holds h
      obtain ⟨g1, h⟩ := guardB_holds h
      obtain ⟨cs', g2, h⟩ := someR_holds h
      rw [force_eq g2] at h
      exact ⟨eqLen_eq g0, leLen_le g1, bR_holds h⟩
    · exact h.elim
  · exact h.elim
theorem callR_ok (hF : F = F.map P) {c : Call} (ho : o.op = .call c) (h : (callR g F σ o c).holds P K) : opL g P σ o K := by
  unfold callR at h
  split at h
  · rename_i hc
    simp only [opL, ho, hc, opY]
    split at h
    · rename_i t _ x ht hx
      obtain ⟨av, h1, h2⟩ := evR_holds h
      rw [ht, hx]
      simp only [evK, h1]
      exact lenR_ok hF (fun v hv => yes hv) h2
    · exact h.elim
  · rename_i hc
    simp only [opL, ho, hc]
    split at h
    · rename_i t tx s x d ht hx hd
      unfold appK
      rw [ht, hx, hd]
      dsimp only
      split at h
      · rename_i sz by_ p β n γ m e1 e2 e3 e4
        rw [F_esI_ok hF e1, F_esI_ok hF e2, e3, e4]
        dsimp only
        split at h
        · rename_i full0 sz0 ep rows0 full sz1 ep1 rows e5 e6
          rw [e5, e6]
          dsimp only
          obtain ⟨g1, h⟩ := guardB_holds h
          obtain ⟨g2, h⟩ := guardB_holds h
          obtain ⟨g3, h⟩ := guardB_holds h
          obtain ⟨g4, g5, h⟩ := h
          refine ⟨g4, g5, Nat.eq_of_beq_eq_true g1, Nat.eq_of_beq_eq_true g2, Nat.ne_of_beq_eq_false (notB_eq g3), ?_⟩
          split at h
          · obtain ⟨g6, g7, g8, h⟩ := h
            exact ⟨g7, g8, false, .inl rfl, .inr ⟨rfl, g6⟩, bR_holds h⟩
          · obtain ⟨g6, g7, g8, h⟩ := h
            exact ⟨g7, g8, _, g6, .inl rfl, bR_holds h⟩
        · exact h.elim
      · rename_i sz by_ p β n rows e1 e2 e3 e4
        rw [F_esI_ok hF e1, F_esI_ok hF e2, e3, e4]
        dsimp only
        split at h
        · rename_i full0 sz0 ep rows0 e5
          rw [e5]
          dsimp only
          obtain ⟨g1, h⟩ := guardB_holds h
          obtain ⟨g4, g5, h⟩ := h
          refine ⟨g4, Nat.eq_of_beq_eq_true g1, g5, ?_⟩
          split at h
          · rename_i e6
            obtain ⟨g7, g8, h⟩ := h
            exact ⟨g7, g8, false, .inr (turnB_nil e6), nofun, bR_holds h⟩
          · obtain ⟨g6, g7, g8, h⟩ := h
            exact ⟨g7, g8, _, .inl rfl, g6, bR_holds h⟩
        · exact h.elim
      · rename_i sz by_ p γ m e1 e2 e3 e4
        rw [F_esI_ok hF e1, F_esI_ok hF e2, e3, e4]
        dsimp only
        split at h
        · rename_i full sz1 ep1 rows e5 e6
          rw [e5, e6]
          dsimp only
          obtain ⟨g1, h⟩ := guardB_holds h
          obtain ⟨g2, h⟩ := guardB_holds h
          obtain ⟨g4, g5, g6, h⟩ := h
          exact ⟨g4, Nat.eq_of_beq_eq_true g1, Nat.ne_of_beq_eq_false (notB_eq g2), g5, g6, bR_holds h⟩
        · exact h.elim
      · rename_i sz by_ p γ m e1 e2 e3 e4
        rw [F_esI_ok hF e1, F_esI_ok hF e2, e3, e4]
        dsimp only
        split at h
        · rename_i full sz1 ep1 rows e5 e6
          rw [e5, e6]
          dsimp only
          obtain ⟨g1, h⟩ := guardB_holds h
          obtain ⟨g2, h⟩ := guardB_holds h
          obtain ⟨g4, g5, g6, h⟩ := h
          exact ⟨g4, Nat.eq_of_beq_eq_true g1, Nat.ne_of_beq_eq_false (notB_eq g2), g5, g6, bR_holds h⟩
        · exact h.elim
      · rename_i sz by_ p rows e1 e2 e3 e4
        rw [F_esI_ok hF e1, F_esI_ok hF e2, e3, e4]
        dsimp only
        split at h
        · rename_i e5
          rw [e5]
          dsimp only
          obtain ⟨g4, g5, g6, g7, h⟩ := h
          exact ⟨g4, g5, g6, g7, bR_holds h⟩
        · exact h.elim
      · rename_i sz by_ p rows e1 e2 e3 e4
        rw [F_esI_ok hF e1, F_esI_ok hF e2, e3, e4]
        dsimp only
        split at h
        · rename_i e5
          rw [e5]
          dsimp only
          obtain ⟨g4, g5, g6, g7, h⟩ := h
          exact ⟨g4, g5, g6, g7, bR_holds h⟩
        · exact h.elim
      · exact h.elim
    · exact h.elim
  · rename_i x hc
    simp only [opL, ho, hc]
    split at h
    · rename_i f caps avs e1 e2
      rw [e1, e2]
      obtain ⟨avs', h1, h2⟩ := someR_holds h
      rw [force_eq h1] at h2
      exact h2
    · rename_i f caps avs e1 e2
      rw [e1, e2]
      obtain ⟨avs', h1, h2⟩ := someR_holds h
      rw [force_eq h1] at h2
      exact h2
    · rename_i f β off avs e1 e2
      rw [e1, e2]
      exact h
    · rename_i f ag row avs e1 e2
      rw [e1, e2]
      exact h
    · exact h.elim
  · rename_i hc
    simp only [opL, ho, hc, opY]
    split at h
    · rename_i x y hx
      rw [hx]
      dsimp only
      split at h
      · rename_i e1 e2; rw [e1, e2]; exact yes h
      · exact h.elim
    · rename_i x y z t hx
      rw [hx]
      dsimp only
      split at h
      · rename_i e1 e2 e3 e4; rw [e1, e2, e3, e4]; exact yes h
      · exact h.elim
    · exact h.elim
  · rename_i hc
    simp only [opL, ho, hc, opY]
    split at h
    · rename_i x y hx
      rw [hx]
      dsimp only
      split at h
      · rename_i e1 e2; rw [e1, e2]; exact yes h
      · exact h.elim
    · exact h.elim
  · exact h
theorem opR_ok (hF : F = F.map P) (h : (opR g F σ o).holds P K) : opL g P σ o K := by
  unfold opR at h
  split at h
  case h_1 x ho => simp only [opL, ho, opY]; exact evK_of h (fun _ hk => hk)
  case h_2 x ho => simp only [opL, ho, opY]; exact evK_of h (fun _ hk => hk)
  case h_3 c x y ho =>
    simp only [opL, ho, opY]
    split at h
    · rename_i t ht
      rw [ht]
      exact ⟨fun hb => evK_of (x := if (true : Bool) then x else y) (h.1 hb) (fun _ hk => hk), fun hb => evK_of (x := if (false : Bool) then x else y) (h.2 hb) (fun _ hk => hk)⟩
    · exact h.elim
  case h_4 t x ho =>
    simp only [opL, ho, opY]
    split at h
    · rename_i av ag n h1 h2
      rw [h1, F_lay_ok hF h2]
      exact loadK h
    · exact h.elim
  case h_5 op t x y yt ho =>
    split at h
    · rename_i p q h1 h2
      simp only [opL, ho, opY, h1, h2]
      obtain ⟨g1, h⟩ := guardB_holds h
      refine ⟨F_boo_ok hF g1, ?_⟩
      unfold boolEq
      split at h
      · exact yes h
      · exact yes h
      · exact h.elim
    · rename_i u v hne h1 h2
      simp only [opL, ho, opY]
      split
      · rename_i e1 e2
        rw [h1] at e1; rw [h2] at e2
        cases e1; cases e2
        exact (hne _ _ rfl rfl).elim
      · rename_i u' v' _ e1 e2
        rw [h1] at e1; rw [h2] at e2
        cases e1; cases e2
        exact binR_ok (fun v hv => yes hv) h
      · rename_i e1 e2
        rw [h1] at e1
        cases e1
      · rename_i e1 e2
        rw [h1] at e1
        cases e1
      · rename_i _ hx _ _
        exact (hx _ _ h1 h2).elim
    · rename_i rows h1 h2
      simp only [opL, ho, opY, h1, h2]
      obtain ⟨sz, g1, h⟩ := someR_holds h
      obtain ⟨e, _, g2, _⟩ := esz_spec (F_esz_ok hF g1)
      refine ⟨⟨e, g2⟩, fun b hb => ?_⟩
      split at h
      · exact yes (h b hb)
      · exact yes (h b hb)
      · exact h.elim
    · rename_i cs cs' h1 h2
      simp only [opL, ho, opY, h1, h2]
      obtain ⟨ks, g1, h⟩ := someR_holds h
      obtain ⟨xs, g2, h⟩ := someR_holds h
      obtain ⟨ys, g3, h⟩ := someR_holds h
      obtain ⟨g4, h⟩ := guardB_holds h
      obtain ⟨g5, h⟩ := guardB_holds h
      simp only [aggEq, F_cmp_ok hF g1, g2, g3]
      refine ⟨fitB_ok g4, fitB_ok g5, ?_⟩
      split at h
      · exact yes h
      · exact yes h
      · exact h.elim
    · exact h
  case h_6 op t x ho =>
    simp only [opL, ho, opY]
    split at h
    · rename_i b hb; rw [hb]; exact yes h
    · rename_i k n hn; rw [hn]; exact yes h
    · exact h.elim
  case h_7 s d x ho =>
    split at h
    · rename_i k0 n k h1 h2
      simp only [opL, ho, opY, h1, F_ik_ok hF h2]
      obtain ⟨g1, h⟩ := guardB_holds h
      exact ⟨F_und_ok hF g1, yes h⟩
    · exact h
  case h_8 s x f ho =>
    simp only [opL, ho, opY]
    split at h
    · rename_i row off h1 h2
      rw [h1, F_foff_ok hF h2]
      obtain ⟨g1, h⟩ := guardB_holds h
      obtain ⟨r, g2, h⟩ := someR_holds h
      rw [force_eq g2] at h
      exact ⟨leLen_le g1, yes h⟩
    · rename_i β i off h1 h2
      rw [h1, F_foff_ok hF h2]; exact yes h
    · rename_i β m i k off h1 h2
      rw [h1, F_foff_ok hF h2]; exact yes h
    · exact h.elim
  case h_9 s x f ho =>
    simp only [opL, ho, opY]
    split at h
    · rename_i cs off n h1 h2
      rw [h1, F_fld_ok hF h2]
      obtain ⟨g1, h⟩ := guardB_holds h
      obtain ⟨r, g2, h⟩ := someR_holds h
      rw [force_eq g2] at h
      exact ⟨leLen_le g1, yes h⟩
    · rename_i cs off n h1 h2
      rw [h1, F_fld_ok hF h2]
      obtain ⟨c, g2, h⟩ := someR_holds h
      rw [nth_eq] at g2
      dsimp only
      rw [g2]
      exact yes h
    · exact h.elim
  case h_10 t x i ho =>
    split at h
    · rename_i rows k n sz h1 h2 h3
      simp only [opL, ho, opY, h1, h2, F_esz_ok hF h3]
      obtain ⟨g1, row, g2, g3, h⟩ := h
      refine ⟨g1, ?_⟩
      rw [g2]
      exact ⟨g3, yes h⟩
    · rename_i β m k n sz h1 h2 h3
      simp only [opL, ho, opY, h1, h2, F_esz_ok hF h3]
      split at h
      · rename_i full sz0 ep rows hg
        rw [hg]
        obtain ⟨g0, g1, row, g2, g3, h⟩ := h
        refine ⟨g0, g1, ?_⟩
        rw [g2]
        exact ⟨g3, yes h⟩
      · exact h.elim
    · exact h
  case h_11 t x i ho =>
    simp only [opL, ho, opY]
    split at h
    · rename_i s k n h1 h2
      rw [h1, h2]
      obtain ⟨g1, h⟩ := guardB_holds h
      obtain ⟨g2, b, g3, h⟩ := h
      refine ⟨F_str_ok hF g1, g2, ?_⟩
      rw [g3]
      exact yes h
    · exact h.elim
  case h_12 t x lo hi ho =>
    split at h
    · rename_i s l hh h1 h2 h3
      simp only [opL, ho, opY, h1, intR_eq h2, intR_eq h3]
      obtain ⟨g1, g2, g3, g4, h⟩ := guardB_holds h
      exact ⟨F_str_ok hF g1, g2, g3, g4, yes h⟩
    · rename_i rows l hh h1 h2 h3
      simp only [opL, ho, opY, h1, intR_eq h2, intR_eq h3]
      obtain ⟨sz, g0, g1, g2, g3, g4, h⟩ := someR_holds h
      rw [F_esz_ok hF g0]
      exact ⟨g1, g2, g3, g4, yes h⟩
    · exact h
  case h_13 x i ho =>
    simp only [opL, ho, opY]
    split at h
    · rename_i vs h1
      obtain ⟨av, g1, h⟩ := someR_holds h
      rw [nth_eq] at g1
      rw [h1]
      dsimp only
      rw [g1]
      exact yes h
    · exact h.elim
  case h_14 f first caps ho =>
    simp only [opL, ho, opY]
    split at h
    · rename_i x hf hc
      rw [hf, hc]
      dsimp only
      split at h
      · rename_i e1; rw [e1]; exact yes h
      · rename_i e1; rw [e1]; exact yes h
      · rename_i cs e1
        rw [e1]
        obtain ⟨l, g1, h⟩ := someR_holds h
        dsimp only
        rw [g1]
        exact yes h
      · exact h.elim
    · rename_i hf
      rw [hf]
      dsimp only
      cases hcs : capsR σ caps.toList with
      | some cs =>
        rw [hcs] at h
        have e := (capsR_eq (σ := σ) (l := caps.toList)).symm.trans hcs
        split
        · rename_i cs' h'
          have := h'.symm.trans e
          cases this
          exact yes h
        · rename_i h'
          have := h'.symm.trans e
          cases this
      | none =>
        rw [hcs] at h
        obtain ⟨cs, g1, h⟩ := someR_holds h
        have e := (capsR_eq (σ := σ) (l := caps.toList)).symm.trans hcs
        have e2 := capsB_eq g1
        split
        · rename_i cs' h'
          have := h'.symm.trans e
          cases this
        · split
          · rename_i cs' h'
            have := h'.symm.trans e2
            cases this
            exact yes h
          · rename_i h'
            have := h'.symm.trans e2
            cases this
    · exact h.elim
  case h_15 t ps ho =>
    cases g1 : F_zeroB F t with
    | none => rw [g1] at h; exact h
    | some z =>
      rw [g1] at h
      simp only [opL, ho, opY]
      obtain ⟨cs, g2, h⟩ := someR_holds h
      rw [F_zeroB_ok hF g1]
      dsimp only
      rw [fillR_eq hF g2]
      exact yes h
  case h_16 e ho =>
    simp only [opL, ho]
    split at h
    · rename_i z hz
      obtain ⟨g1, h⟩ := guardB_holds h
      rw [F_zero_ok hF hz]
      exact ⟨ntupB_ntup g1, varR_ok h⟩
    · exact h.elim
  case h_17 e x ho =>
    simp only [opL, ho]
    split at h
    · rename_i z hz
      obtain ⟨g1, h⟩ := guardB_holds h
      rw [hz]
      exact ⟨ntupB_ntup g1, varR_ok h⟩
    · exact h.elim
  case h_18 t p x ho =>
    simp only [opL, ho]
    split at h
    · rename_i pv xv hd h1 h2
      refine ⟨hd, ?_⟩
      rw [h1, h2]
      split
      · rename_i e1 e2; cases e1; cases e2; exact storeE_ok hF h
      · rename_i pv' xv' hne e1 e2
        cases e1; cases e2
        exact storeV_ok hF (fun β m i k e => hne β m i k e) h
      · rename_i hx; exact (hx _ _ rfl rfl).elim
    · exact h.elim
  case h_19 t n ps ho => simp only [opL, ho]; exact litR_ok hF h
  case h_20 t l c ho => simp only [opL, ho]; exact makR_ok hF h
  case h_21 c ho => exact callR_ok hF ho h
  case h_22 x ho =>
    simp only [opL, ho, opY]
    obtain ⟨av, g1, h⟩ := evR_holds h
    rw [g1]
    split at h
    · exact yes h
    · exact yes h
    · exact yes h
    · exact h.elim
  case h_23 => exact h
end
end Go.Sx
end
section
namespace Go.Sx
open Go.RowKit (Below)
inductive Fr where
  | ops (ops : Array Oper) (l : List Oper)
  | op1 (g : Bool) (o : Oper)
  | r (r : R)
  | code (c : Code)
  | blk (id : Nat)
  | lp (J : St → Prop)
  | plan (ops : Array Oper) (LC : List Nat) (p : Plan)
def G (P : Program) (Q : Ex → St → Prop) : List Fr → Option Nat → St → Prop
  | [], none, σ => Q .normal σ
  | [], some i, σ => Q (.exit i) σ
  | .blk j :: st, some i, σ => if i = j then G P Q st none σ else G P Q st (some i) σ
  | _ :: st, some i, σ => G P Q st (some i) σ
  | .ops ops l :: st, none, σ => runO P ops l σ (G P Q st none)
  | .op1 g o :: st, none, σ => opL g P σ o (G P Q st none)
  | .r r :: st, none, _ => r.holds P (G P Q st none)
  | .code c :: st, none, σ => vc P c (fun e σ => match e with | .normal => G P Q st none σ | .exit i => G P Q st (some i) σ | .ret => Q .ret σ) σ
  | .blk _ :: st, none, σ => G P Q st none σ
  | .lp J :: _, none, σ => J σ
  | .plan ops LC p :: st, none, σ => planK LC P ops p σ (G P Q st none)
inductive T where
  | go (st : List Fr) (σ : St)
  | br (t : Bool) (st : List Fr) (σ : St) (st' : List Fr) (σ' : St)
  | side (p : Prop) (st : List Fr) (σ : St)
  | any (q : Bool → Prop) (f : Bool → R) (st : List Fr)
  | row (rows : List (List Cell)) (i : Nat) (f : List Cell → R) (st : List Fr)
  | byte (s : ByteArray) (i : Nat) (f : UInt8 → R) (st : List Fr)
  | call (g : Bool) (σ : St) (d : Option Tmp) (f : Nat) (avs : List AV) (st : List Fr)
  | raw (g : Bool) (σ : St) (o : Oper) (st : List Fr)
  | loop (b : Code) (st : List Fr) (σ : St)
  | cont (J : St → Prop) (σ : St)
  | draw (id : Nat) (ops : Array Oper) (st : List Fr) (σ : St)
  | both (st st' : List Fr) (σ : St)
  | yes
  | fin (e : Ex) (σ : St)
  | fail
def T.holds (P : Program) (Q : Ex → St → Prop) : T → Prop
  | .go st σ => G P Q st none σ
  | .br t st σ st' σ' => (t = true → G P Q st none σ) ∧ (t = false → G P Q st' none σ')
  | .side p st σ => p ∧ G P Q st none σ
  | .any q f st => ∀ b, q b → (f b).holds P (G P Q st none)
  | .row rows i f st => ∃ row, rows[i]? = some row ∧ (f row).holds P (G P Q st none)
  | .byte s i f st => ∃ b, s[i]? = some b ∧ (f b).holds P (G P Q st none)
  | .call g σ d f avs st => CallV P σ d f avs (G P Q st none) ∨ (g = true ∧ CallG P σ d f avs (G P Q st none))
  | .raw g σ o st => opL g P σ o (G P Q st none)
  | .loop b st σ => vc P (.loop b) (fun e σ => match e with | .normal => G P Q st none σ | .exit i => G P Q st (some i) σ | .ret => Q .ret σ) σ
  | .cont J σ => J σ
  | .draw id ops st σ => vc P (.region id ops true) (fun e σ => match e with | .normal => G P Q st none σ | .exit i => G P Q st (some i) σ | .ret => Q .ret σ) σ
  | .both st st' σ => G P Q st none σ ∧ G P Q st' none σ
  | .yes => True
  | .fin e σ => Q e σ
  | .fail => False
def popTo (i : Nat) : List Fr → Option (List Fr)
  | [] => none
  | .blk j :: st => bif Nat.beq i j then some st else popTo i st
  | _ :: st => popTo i st
def delT (σ : St) (d : Option Tmp) : St := match σ, d with
  | ⟨t, b⟩, some d => ⟨(d, .tup []) :: t, b⟩
  | σ, none => σ
def skR (σ : St) (d : Option Tmp) : R := match delT σ d with | ⟨t, b⟩ => (match force t with | some t => .ok ⟨t, b⟩ | none => .fail)
theorem skR_holds {P : Program} {σ : St} {d : Option Tmp} {K : St → Prop} (h : (skR σ d).holds P K) : K (delT σ d) := by
  unfold skR at h
  split at h
  rename_i t b e
  split at h
  · rename_i t' ht; rw [force_eq ht] at h; rw [e]; exact h
  · exact h.elim
def opStep (g : Bool) (F : TT) (ops : Array Oper) (o : Oper) (st : List Fr) (σ : St) : T := match o.guard with
    | none => .go (.r (opR g F σ o) :: st) σ
    | some (j, want) => (match nth ops.toList j with
      | some o' => (match o'.dst with
        | some d => (match get σ.t d with
          | some (.one (.b (.s (.bool t)))) => (match want with
            | true => .br t (.op1 g o :: st) (knowT σ (.tmp d) true) (.r (skR (knowT σ (.tmp d) false) o.dst) :: st) ⟨[], []⟩
            | false => .br t (.r (skR (knowT σ (.tmp d) true) o.dst) :: st) ⟨[], []⟩ (.op1 g o :: st) (knowT σ (.tmp d) false))
          | some (.tup []) => .go (.r (skR σ o.dst) :: st) ⟨[], []⟩
          | _ => .fail)
        | none => .fail)
      | none => .fail)
def step (F : TT) : List Fr → St → T
  | [], σ => .fin .normal σ
  | .ops _ [] :: st, σ => .go st σ
  | .ops ops (o :: l) :: st, σ => opStep true F ops o (.ops ops l :: st) σ
  | .op1 g o :: st, σ => .go (.r (opR g F σ o) :: st) σ
  | .r r :: st, σ => (match r with
    | .fail => .fail
    | .ok σ => .go st σ
    | .side p r => .side p (.r r :: st) σ
    | .br t r r' => .br t (.r r :: st) σ (.r r' :: st) σ
    | .any q f => .any q f st
    | .row rows i f => .row rows i f st
    | .byte s i f => .byte s i f st
    | .call g σ d f avs => .call g σ d f avs st
    | .raw g σ o => .raw g σ o st)
  | .code c :: st, σ => (match c with
    | .skip => .go st σ
    | .region id ops draw => (match draw with | true => .draw id ops st σ | false => .go (.ops ops ops.toList :: st) σ)
    | .seq x y => .go (.code x :: .code y :: st) σ
    | .cond c x y => (match ev σ c with
      | some (.one (.b (.s (.bool t)))) => .br t (.code x :: st) (knowT σ c true) (.code y :: st) (knowT σ c false)
      | _ => .fail)
    | .block id b => .go (.code b :: .blk id :: st) σ
    | .loop b => .loop b st σ
    | .exit id => (match popTo id st with | some st => .go st σ | none => .fail)
    | .ret => .fin .ret σ
    | _ => .fail)
  | .blk _ :: st, σ => .go st σ
  | .lp J :: _, σ => .cont J σ
  | .plan ops LC p :: st, σ => (match p with
    | .done => .go st σ
    | .nil => .yes
    | .take i _ p => (match nth ops.toList i with | some o => opStep (LC.contains i) F ops o (.plan ops LC p :: st) σ | none => .fail)
    | .alt i p .nil => (match nth ops.toList i with | some o => opStep (LC.contains i) F ops o (.plan ops LC p :: st) σ | none => .fail)
    | .alt i p q => .both (.plan ops LC (.alt i p .nil) :: st) (.plan ops LC q :: st) σ)
def exec : Nat → TT → List Fr → St → T
  | 0, _, st, σ => .go st σ
  | n + 1, F, st, σ => match step F st σ with
    | .go st σ => exec n F st σ
    | t => t
section
variable {P : Program} {F : TT} {Q : Ex → St → Prop}
theorem popTo_G {i : Nat} {σ : St} : ∀ {st st' : List Fr}, popTo i st = some st' → G P Q st' none σ → G P Q st (some i) σ
  | [], st', h, _ => by cases h
  | .blk j :: st, st', h, hg => by
    rw [popTo] at h
    rw [G]
    by_cases hij : i = j
    · subst hij; simp only [Nat.beq_refl, cond_true, Option.some.injEq] at h; subst h; rw [if_pos rfl]; exact hg
    · rw [beq_false hij] at h; rw [if_neg hij]; exact popTo_G h hg
  | .ops _ _ :: st, st', h, hg => popTo_G (st := st) h hg
  | .op1 _ _ :: st, st', h, hg => popTo_G (st := st) h hg
  | .r _ :: st, st', h, hg => popTo_G (st := st) h hg
  | .code _ :: st, st', h, hg => popTo_G (st := st) h hg
  | .lp _ :: st, st', h, hg => popTo_G (st := st) h hg
  | .plan _ _ _ :: st, st', h, hg => popTo_G (st := st) h hg
theorem opStep_ok {g : Bool} (hF : F = F.map P) {ops : Array Oper} {o : Oper} {st : List Fr} {σ : St} (h : (opStep g F ops o st σ).holds P Q) : guardK ops σ o (fun σ => opL g P σ o (G P Q st none)) (fun σ => skipK σ o.dst (G P Q st none)) := by
  simp only [opStep] at h
  unfold guardK
  split at h
  · rename_i hg; rw [hg]; exact opR_ok hF h
  · rename_i j want hg
    rw [hg]
    dsimp only
    split at h
    · rename_i o' ho'
      rw [nth_eq, Array.getElem?_toList] at ho'
      split at h
      · rename_i d hd
        rw [ho']
        simp only [Option.bind_some, hd]
        split at h
        · rename_i t ht
          rw [ht]
          dsimp only
          have hsk : ∀ (σ0 : St) (K : St → Prop), K (delT σ0 o.dst) → skipK σ0 o.dst K := fun σ0 K hk => by
            unfold skipK
            cases σ0 with
            | mk t0 b0 =>
            cases hdd : o.dst with
            | none => rw [hdd] at hk; exact hk
            | some d0 =>
              rw [hdd] at hk
              exact hk
          cases σ with
          | mk t0 b0 =>
          split at h
          · obtain ⟨h1, h2⟩ := h
            exact ⟨fun hb => by simp only [beq_self_eq_true, if_true]; exact h1 hb, fun hb => by
              have : ¬ ((false == true) = true) := by decide
              dsimp only; rw [if_neg this]; exact hsk _ _ (skR_holds (h2 hb))⟩
          · obtain ⟨h1, h2⟩ := h
            exact ⟨fun hb => by
              have : ¬ ((true == false) = true) := by decide
              dsimp only; rw [if_neg this]; exact hsk _ _ (skR_holds (h1 hb)), fun hb => by simp only [beq_self_eq_true, if_true]; exact h2 hb⟩
        · rename_i ht
          rw [ht]
          have h' := skR_holds (P := P) (K := G P Q st none) h
          unfold skipK
          cases σ with
          | mk t0 b0 =>
          cases hdd : o.dst with
          | none => rw [hdd] at h'; exact h'
          | some d0 => rw [hdd] at h'; exact h'
        · exact h.elim
      · exact h.elim
    · exact h.elim
theorem step_ok (hF : F = F.map P) {st : List Fr} {σ : St} (h : (step F st σ).holds P Q) : G P Q st none σ := by
  cases st with
  | nil => exact h
  | cons f st =>
    cases f with
    | ops ops l =>
      cases l with
      | nil => exact h
      | cons o l =>
        exact opStep_ok (st := .ops ops l :: st) hF h
    | op1 g o => exact opR_ok hF h
    | r r => cases r <;> exact h
    | code c =>
      cases c with
      | skip => exact h
      | region id ops draw =>
        cases draw with
        | true => exact h
        | false => exact h
      | seq x y =>
        have e : (fun (e : Ex) (σ : St) => match e with | .normal => G P Q (.code y :: st) none σ | .exit i => G P Q (.code y :: st) (some i) σ | .ret => Q .ret σ) =
          (fun e σ => match e with | .normal => vc P y (fun e σ => match e with | .normal => G P Q st none σ | .exit i => G P Q st (some i) σ | .ret => Q .ret σ) σ | .exit i => G P Q st (some i) σ | .ret => Q .ret σ) := by
          funext e σ; cases e <;> rfl
        have h' : vc P x (fun (e : Ex) (σ : St) => match e with | .normal => G P Q (.code y :: st) none σ | .exit i => G P Q (.code y :: st) (some i) σ | .ret => Q .ret σ) σ := h
        rw [e] at h'
        exact .inl h'
      | cond c x y =>
        simp only [step] at h
        simp only [G, vc]
        split at h
        · rename_i t ht; rw [ht]; exact h
        · exact h.elim
      | block id b =>
        have e : (fun (e : Ex) (σ : St) => match e with | .normal => G P Q (.blk id :: st) none σ | .exit i => G P Q (.blk id :: st) (some i) σ | .ret => Q .ret σ) =
          (fun e σ => match e with | .normal => G P Q st none σ | .exit i => if i = id then G P Q st none σ else G P Q st (some i) σ | .ret => Q .ret σ) := by
          funext e σ; cases e <;> rfl
        have h' : vc P b (fun (e : Ex) (σ : St) => match e with | .normal => G P Q (.blk id :: st) none σ | .exit i => G P Q (.blk id :: st) (some i) σ | .ret => Q .ret σ) σ := h
        rw [e] at h'
        exact h'
      | loop b => exact h
      | exit id =>
        simp only [step] at h
        split at h
        · rename_i st' hp; exact popTo_G hp h
        · exact h.elim
      | ret => exact h
      | _ => exact h.elim
    | blk id => exact h
    | lp J => exact h
    | plan ops LC p =>
      have one : ∀ {i : Nat} {p' : Plan}, (match nth ops.toList i with | some o => opStep (LC.contains i) F ops o (.plan ops LC p' :: st) σ | none => .fail).holds P Q → opAt LC P ops i σ (fun σ => planK LC P ops p' σ (G P Q st none)) := fun {i p'} h => by
        unfold opAt
        split at h
        · rename_i o ho
          rw [nth_eq, Array.getElem?_toList] at ho
          rw [ho]
          exact opStep_ok (st := .plan ops LC p' :: st) hF h
        · exact h.elim
      cases p with
      | done => exact h
      | nil => trivial
      | take i W p => exact one h
      | alt i p q =>
        cases q with
        | nil => exact ⟨one h, trivial⟩
        | done => exact ⟨h.1.1, h.2⟩
        | take _ _ _ => exact ⟨h.1.1, h.2⟩
        | alt _ _ _ => exact ⟨h.1.1, h.2⟩
theorem exec_ok (hF : F = F.map P) : ∀ {n : Nat} {st : List Fr} {σ : St}, (exec n F st σ).holds P Q → G P Q st none σ
  | 0, _, _, h => h
  | n + 1, st, σ, h => by
    refine step_ok hF ?_
    rw [exec] at h
    split at h
    · rename_i st' σ' hs; rw [hs]; exact exec_ok hF h
    · exact h
theorem run (hF : F = F.map P) {n : Nat} {st : List Fr} {σ : St} {t : T} (he : exec n F st σ = t) (h : t.holds P Q) : G P Q st none σ := exec_ok hF (by rw [he]; exact h)
def execJ : Nat → TT → List Fr → St → T
  | 0, _, st, σ => .go st σ
  | k + 1, F, st, σ => match exec 2000 F st σ with
    | .br t st1 σ1 st2 σ2 => (match t with | true => execJ k F st1 σ1 | false => execJ k F st2 σ2)
    | _ => .fail
theorem execJ_ok (hF : F = F.map P) : ∀ {k : Nat} {st : List Fr} {σ : St}, (execJ k F st σ).holds P Q → G P Q st none σ
  | 0, _, _, h => h
  | k + 1, st, σ, h => by
    rw [execJ] at h
    split at h
    · rename_i t st1 σ1 st2 σ2 he
      refine run hF he ?_
      cases t with
      | true => exact ⟨fun _ => execJ_ok hF h, nofun⟩
      | false => exact ⟨nofun, fun _ => execJ_ok hF h⟩
    · exact h.elim
def QR (P : Program) (fn : Func) (res : Res) (e : Ex) (σ : St) : Prop := match e with | .exit _ => False | _ => retK P fn res σ
theorem PC.begin {f : Nat} {fn : Func} {c : Code} {args : List SV} {res : Res} (hf : P.funcs[f]? = some fn) (hb : fn.body = some c) (hok : (okF P f && okCode fn.ntmps c && Nat.ble args.length fn.ntmps) = true)
    (h : G P (QR P fn res) [.code c] none ⟨argT 0 args, []⟩) : PC P f args res := by
  refine PC.intro hf hb hok ?_
  have e : (fun (e : Ex) (σ : St) => match e with | .normal => G P (QR P fn res) [] none σ | .exit i => G P (QR P fn res) [] (some i) σ | .ret => QR P fn res .ret σ) =
    (fun e σ => match e with | .exit _ => False | _ => retK P fn res σ) := by
    funext e σ; cases e <;> rfl
  have h' : vc P c (fun (e : Ex) (σ : St) => match e with | .normal => G P (QR P fn res) [] none σ | .exit i => G P (QR P fn res) [] (some i) σ | .ret => QR P fn res .ret σ) ⟨argT 0 args, []⟩ := h
  rw [e] at h'
  exact h'
end
end Go.Sx
end
section
namespace Go.Sx
class Tabled (P : Program) where
  F : TT
  ok : F = F.map P
  mix : P.follows .mixedOrders = true
def afterR (σ : St) (d : Option Tmp) (res : Res) : R := match d with
  | some d => (match σ with | ⟨t, b⟩ => bR ((d, resAV (nameOf d) res) :: t) (resABs (nameOf d) res ++ b))
  | none => .ok σ
def strictCB : AC → Bool
  | .b _ => true
  | .nil => true
  | .em => true
  | _ => false
def strictB : List AV → Bool
  | [] => true
  | .one c :: l => bif strictCB c then strictB l else false
  | .agg cs :: l => bif cs.all strictCB then strictB l else false
  | _ => false
def freshB (B : List (Nat × AB)) : List (Nat × AB) → Bool
  | [] => true
  | (β, _) :: l => match get B β with | none => freshB B l | some _ => false
theorem strictCB_ok {c : AC} (h : strictCB c = true) : strictC c := by cases c <;> first | trivial | cases h
theorem strictB_ok : ∀ {avs : List AV}, strictB avs = true → allV strictV avs
  | [], _ => trivial
  | .one c :: l, h => by
    rw [strictB] at h
    cases hc : strictCB c with
    | false => rw [hc] at h; cases h
    | true => rw [hc] at h; exact ⟨strictCB_ok hc, strictB_ok h⟩
  | .agg cs :: l, h => by
    rw [strictB] at h
    cases hc : cs.all strictCB with
    | false => rw [hc] at h; cases h
    | true =>
      rw [hc] at h
      have : ∀ cs : List AC, cs.all strictCB = true → allC strictC cs := by
        intro cs
        induction cs with
        | nil => intro _; trivial
        | cons c cs ih => intro h; simp only [List.all_cons, Bool.and_eq_true] at h; exact ⟨strictCB_ok h.1, ih h.2⟩
      exact ⟨this cs hc, strictB_ok h⟩
  | .tup _ :: l, h => by cases h
theorem freshB_ok {B : List (Nat × AB)} : ∀ {l : List (Nat × AB)}, freshB B l = true → freshIn B l
  | [], _ => trivial
  | (β, _) :: l, h => by
    rw [freshB] at h
    split at h
    · rename_i hn; exact ⟨hn, freshB_ok h⟩
    · cases h
def callOk (σ : St) (d : Option Tmp) (avs : List AV) (res : Res) : Bool := bif smallRes res then (bif hasBor res then (bif strictB avs then freshB σ.b (resABs (nameOf (d.getD 0)) res) else false) else freshB σ.b (resABs (nameOf (d.getD 0)) res)) else false
section
variable {P : Program} [Tabled P] {Q : Ex → St → Prop} {st st1 st2 : List Fr} {σ σ1 σ2 : St}
theorem xb {t : Bool} (h : exec 2000 (Tabled.F P) st σ = .br t st1 σ1 st2 σ2) (h1 : t = true → G P Q st1 none σ1) (h2 : t = false → G P Q st2 none σ2) : G P Q st none σ := run Tabled.ok h ⟨h1, h2⟩
theorem xf (h : exec 2000 (Tabled.F P) st σ = .br false st1 σ1 st2 σ2) (h1 : G P Q st2 none σ2) : G P Q st none σ := run Tabled.ok h ⟨nofun, fun _ => h1⟩
theorem xj {k : Nat} (h : execJ k (Tabled.F P) st σ = .go st1 σ1) (h1 : G P Q st1 none σ1) : G P Q st none σ := execJ_ok Tabled.ok (by rw [h]; exact h1)
theorem xr {e : Ex} (h : exec 2000 (Tabled.F P) st σ = .fin e σ1) (h1 : Q e σ1) : G P Q st none σ := run Tabled.ok h h1
theorem xs {p : Prop} (h : exec 2000 (Tabled.F P) st σ = .side p st1 σ1) (h1 : p) (h2 : G P Q st1 none σ1) : G P Q st none σ := run Tabled.ok h ⟨h1, h2⟩
theorem xany {q : Bool → Prop} {f : Bool → R} (h : exec 2000 (Tabled.F P) st σ = .any q f st1) (h1 : ∀ b, q b → G P Q (.r (f b) :: st1) none ⟨[], []⟩) : G P Q st none σ := run Tabled.ok h h1
theorem xrow {rows : List (List Cell)} {i : Nat} {f : List Cell → R} (h : exec 2000 (Tabled.F P) st σ = .row rows i f st1) (row : List Cell) (hr : rows[i]? = some row) (h1 : G P Q (.r (f row) :: st1) none ⟨[], []⟩) : G P Q st none σ := run Tabled.ok h ⟨row, hr, h1⟩
theorem xraw {g : Bool} {o : Oper} (h : exec 2000 (Tabled.F P) st σ = .raw g σ1 o st1) (h1 : opL g P σ1 o (G P Q st1 none)) : G P Q st none σ := run Tabled.ok h h1
theorem xcont {J : St → Prop} (h : exec 2000 (Tabled.F P) st σ = .cont J σ1) (h1 : J σ1) : G P Q st none σ := run Tabled.ok h h1
theorem xboth (h : exec 2000 (Tabled.F P) st σ = .both st1 st2 σ1) (h1 : G P Q st1 none σ1) (h2 : G P Q st2 none σ1) : G P Q st none σ := run Tabled.ok h ⟨h1, h2⟩
def drawOk (ops : Array Oper) (LC : List Nat) (p : Plan) : Bool := Region.noSelect ops && (headOk .any ops (Array.replicate ops.size false) p && planOk LC .any ops p ops.size (Array.replicate ops.size false))
theorem xdraw {id : Nat} {ops : Array Oper} (h : exec 2000 (Tabled.F P) st σ = .draw id ops st1 σ1) (LC : List Nat) (p : Plan) (hp : drawOk ops LC p = true) (h1 : G P Q (.plan ops LC p :: st1) none σ1) : G P Q st none σ := by
  simp only [drawOk, Bool.and_eq_true] at hp
  exact run Tabled.ok h ⟨Tabled.mix, hp.1, LC, p, hp.2.1, hp.2.2, h1⟩
theorem xcallN {g : Bool} {d : Option Tmp} {f : Nat} {avs : List AV} {res : Res} (h : exec 2000 (Tabled.F P) st σ = .call g σ1 d f avs st1) (hpc : PCn P f avs (avs.map (toSV σ1.b)) res) (hok : callOk σ1 d avs res = true) (hw : allV (wfV σ1.b) avs) (h1 : G P Q (.r (afterR σ1 d res) :: st1) none ⟨[], []⟩) : G P Q st none σ := by
  refine run Tabled.ok h (.inl ⟨res, hpc, ?_⟩)
  unfold callOk at hok
  cases h2 : smallRes res with
  | false => rw [h2] at hok; cases hok
  | true =>
    rw [h2] at hok
    have hK : G P Q st1 none (afterCall σ1 d res) := by
      have h1 : (afterR σ1 d res).holds P (G P Q st1 none) := h1
      unfold afterR at h1
      unfold afterCall
      cases d with
      | none => exact h1
      | some d => cases σ1; exact bR_holds h1
    cases h3 : hasBor res with
    | true =>
      rw [h3] at hok
      cases h4 : strictB avs with
      | false => rw [h4] at hok; cases hok
      | true => rw [h4] at hok; exact ⟨rfl, hw, fun _ => strictB_ok h4, freshB_ok hok, hK⟩
    | false => rw [h3] at hok; exact ⟨rfl, hw, nofun, freshB_ok hok, hK⟩
theorem xcall {g : Bool} {d : Option Tmp} {f : Nat} {avs : List AV} {res : Res} (h : exec 2000 (Tabled.F P) st σ = .call g σ1 d f avs st1) (hpc : PC P f (avs.map (toSV σ1.b)) res) (hok : callOk σ1 d avs res = true) (hw : allV (wfV σ1.b) avs) (h1 : G P Q (.r (afterR σ1 d res) :: st1) none ⟨[], []⟩) : G P Q st none σ := xcallN h hpc.n hok hw h1
def afterGR (σ : St) (d : Option Tmp) (res : Res) (T : List (Nat × AB)) : R := match σ, d with
  | ⟨t, b⟩, some d => bR ((d, resAV (nameOf d) res) :: t) ((resABs (nameOf d) res ++ T) ++ b)
  | ⟨t, b⟩, none => bR t (([] ++ T) ++ b)
def giveOk (σ : St) (d : Option Tmp) (avs : List AV) (args : List GA) (res : Res) : Bool := bif smallRes res then (bif nodB ((given 0 (acs avs) (gcs args)).map (·.2.1)) then freshB σ.b (resABs (nameOf (d.getD 0)) res) else false) else false
theorem xgive {d : Option Tmp} {f : Nat} {avs : List AV} {args : List GA} {res : Res} {back : List (Nat × List (List Cell))} (h : exec 2000 (Tabled.F P) st σ = .call true σ1 d f avs st1) (hpc : PG P f args res back) (hm : mAs σ1.b avs args) (hok : giveOk σ1 d avs args res = true)
    (h1 : G P Q (.r (afterGR σ1 d res (turned σ1.b back (given 0 (acs avs) (gcs args)))) :: st1) none ⟨[], []⟩) : G P Q st none σ := by
  unfold giveOk at hok
  cases h2 : smallRes res with
  | false => rw [h2] at hok; cases hok
  | true =>
    rw [h2] at hok
    cases h3 : nodB ((given 0 (acs avs) (gcs args)).map (·.2.1)) with
    | false => rw [h3] at hok; cases hok
    | true =>
      rw [h3] at hok
      refine run Tabled.ok h (.inr ⟨rfl, .inl ⟨args, res, back, hpc, h2, hm, nodB_nodup h3, freshB_ok hok, ?_⟩⟩)
      have h1 : (afterGR σ1 d res (turned σ1.b back (given 0 (acs avs) (gcs args)))).holds P (G P Q st1 none) := h1
      cases σ1
      cases d with
      | none => exact bR_holds h1
      | some d => exact bR_holds h1
theorem xloopS {b : Code} (h : exec 2000 (Tabled.F P) st σ = .loop b st1 σ1) {ι : Type} (pre : ι → Prop) (inv : ι → St) (m : ι → Nat) (i0 : ι) (h0 : pre i0) (hw : Wk σ1 (inv i0))
    (hs : ∀ i, pre i → ∀ J : St → Prop, (∀ σ' i', pre i' → m i' < m i → Wk σ' (inv i') → J σ') → G P Q (.code b :: .lp J :: st1) none (inv i)) : G P Q st none σ := by
  refine run Tabled.ok h ⟨ι, pre, inv, m, ⟨i0, h0, hw⟩, fun i hi => ?_⟩
  have h2 := hs i hi (fun σ => ∃ i', pre i' ∧ m i' < m i ∧ Wk σ (inv i')) (fun σ' i' h1 h2 h3 => ⟨i', h1, h2, h3⟩)
  have e : (fun (e : Ex) (σ : St) => match e with | .normal => G P Q (.lp (fun σ => ∃ i', pre i' ∧ m i' < m i ∧ Wk σ (inv i')) :: st1) none σ | .exit i' => G P Q (.lp (fun σ => ∃ i', pre i' ∧ m i' < m i ∧ Wk σ (inv i')) :: st1) (some i') σ | .ret => Q .ret σ) =
      (fun e σ => match e with | .normal => ∃ i', pre i' ∧ m i' < m i ∧ Wk σ (inv i') | .exit j => G P Q st1 (some j) σ | .ret => Q .ret σ) := by
    funext e σ; cases e <;> rfl
  have h3 : vc P b (fun (e : Ex) (σ : St) => match e with | .normal => G P Q (.lp (fun σ => ∃ i', pre i' ∧ m i' < m i ∧ Wk σ (inv i')) :: st1) none σ | .exit i' => G P Q (.lp (fun σ => ∃ i', pre i' ∧ m i' < m i ∧ Wk σ (inv i')) :: st1) (some i') σ | .ret => Q .ret σ) (inv i) := h2
  rw [e] at h3
  exact h3
theorem xloop {b : Code} (h : exec 2000 (Tabled.F P) st σ = .loop b st1 σ1) {ι : Type} (pre : ι → Prop) (inv : ι → St) (m : ι → Nat) (i0 : ι) (h0 : pre i0) (hw : Wk0 σ1 (inv i0))
    (hs : ∀ i, pre i → ∀ J : St → Prop, (∀ σ' i', pre i' → m i' < m i → Wk0 σ' (inv i') → J σ') → G P Q (.code b :: .lp J :: st1) none (inv i)) : G P Q st none σ :=
  xloopS h pre inv m i0 h0 (.of hw) (fun i hi J hJ => hs i hi J (fun σ' i' h1 h2 h3 => hJ σ' i' h1 h2 (.of h3)))
omit [Tabled P] in
theorem xret {fn : Func} {res : Res} {e : Ex} (he : (match e with | .exit _ => false | _ => true) = true) (h : retK P fn res σ) : QR P fn res e σ := by
  cases e with
  | exit i => cases he
  | _ => exact h
end
end Go.Sx
end
section
namespace Go.Sx
theorem wrap_i64 {n : Int} (h : -9223372036854775808 ≤ n) (h2 : n ≤ 9223372036854775807) : IntKind.i64.wrap n = n := by
  have e : IntKind.i64.wrap n = if n % 18446744073709551616 ≥ 9223372036854775808 then n % 18446744073709551616 - 18446744073709551616 else n % 18446744073709551616 := by
    simp [IntKind.wrap, IntKind.signed, IntKind.bits]
  rw [e]
  split <;> omega
theorem get_fill {α : Type} (xs : List α) (z : α) (i n : Nat) (h : i < xs.length) (hn : n = xs.length) : (xs.take i ++ List.replicate (n - i) z)[i]? = some z := by
  subst hn
  have e1 : (xs.take i).length = i := by simp; omega
  rw [List.getElem?_append_right (by omega), List.getElem?_replicate, e1, if_pos (by omega)]
theorem set_fill {α : Type} (xs : List α) (z x : α) (i n : Nat) (h : xs[i]? = some x) (hn : n = xs.length) : (xs.take i ++ List.replicate (n - i) z).set i x = xs.take (i + 1) ++ List.replicate (n - (i + 1)) z := by
  subst hn
  obtain ⟨hi, rfl⟩ := List.getElem?_eq_some_iff.1 h
  apply List.ext_getElem?
  intro j
  rw [List.getElem?_set]
  by_cases hj : i = j
  · subst hj
    rw [if_pos rfl]
    have : i < (xs.take i ++ List.replicate (xs.length - i) z).length := by simp; omega
    rw [if_pos this, List.getElem?_append_left (by simp; omega), List.getElem?_take, if_pos (by omega)]
    simp
  · rw [if_neg hj]
    by_cases h1 : j < i
    · rw [List.getElem?_append_left (by simp; omega), List.getElem?_append_left (by simp; omega), List.getElem?_take, List.getElem?_take, if_pos h1, if_pos (by omega)]
    · rw [List.getElem?_append_right (by simp; omega), List.getElem?_append_right (by simp; omega), List.getElem?_replicate, List.getElem?_replicate]
      have e1 : (xs.take i).length = i := by simp; omega
      have e2 : (xs.take (i + 1)).length = i + 1 := by simp; omega
      rw [e1, e2]
      by_cases h3 : j < xs.length
      · rw [if_pos (by omega), if_pos (by omega)]
      · rw [if_neg (by omega), if_neg (by omega)]
theorem len_fill {α : Type} (xs : List α) (z : α) (i n : Nat) (h : i ≤ xs.length) (hn : n = xs.length) : (xs.take i ++ List.replicate (n - i) z).length = n := by
  subst hn; simp; omega
theorem all_fill {α : Type} (xs : List α) (z : α) (n : Nat) (hn : n = xs.length) : xs.take n ++ List.replicate (n - n) z = xs := by
  subst hn; simp
end Go.Sx
end
section
namespace Go.Sx
open Go.RowKit (Below)
def gAC (t : Nat) : GC → AC
  | .bor c => .b c
  | .giv _ _ rows => .h (1000000000 + t) rows.length
def gACs : Nat → List GC → List AC
  | _, [] => []
  | t, c :: l => gAC t c :: gACs (t + 1) l
def gAV (t : Nat) : GA → AV
  | .one c => .one (gAC t c)
  | .agg cs => .agg (gACs t cs)
def gT : Nat → Nat → List GA → List (Nat × AV)
  | _, _, [] => []
  | i, t, .one c :: l => (i, gAV t (.one c)) :: gT (i + 1) (t + 1) l
  | i, t, .agg cs :: l => (i, gAV t (.agg cs)) :: gT (i + 1) (t + cs.length) l
def gB : Nat → List GC → List (Nat × AB)
  | _, [] => []
  | t, .bor _ :: l => gB (t + 1) l
  | t, .giv full sz rows :: l => (1000000000 + t, .arr full sz 0 rows) :: gB (t + 1) l
def ghosts : Nat → List GC → List Value → List (AC × Value)
  | t, .giv _ _ rows :: l, u :: us => (.h (1000000000 + t) rows.length, u) :: ghosts (t + 1) l us
  | t, .bor _ :: l, _ :: us => ghosts (t + 1) l us
  | _, _, _ => []
def backOk (args : List GA) (σ : St) : List (Nat × List (List Cell)) → Prop
  | [] => True
  | (t, rows') :: l => (match nth (gcs args) t, get σ.b (1000000000 + t) with
    | some (.giv full sz rows), some (.arr full' sz' _ rows'') => full' = full ∧ sz' = sz ∧ rows'' = rows' ∧ rows'.length = rows.length ∧ sameLens rows rows'
    | _, _ => False) ∧ backOk args σ l
def keys {α : Type} : List (Nat × α) → List Nat
  | [] => []
  | (t, _) :: l => (1000000000 + t) :: keys l
def retG (P : Program) (fn : Func) (args : List GA) (res : Res) (back : List (Nat × List (List Cell))) (σ : St) : Prop := retKB P fn res (keys back) σ ∧ backOk args σ back
def QG (P : Program) (fn : Func) (args : List GA) (res : Res) (back : List (Nat × List (List Cell))) (e : Ex) (σ : St) : Prop := match e with | .exit _ => False | _ => retG P fn args res back σ
theorem xretG {P : Program} {fn : Func} {args : List GA} {res : Res} {back : List (Nat × List (List Cell))} {e : Ex} {σ : St} (he : (match e with | .exit _ => false | _ => true) = true) (h : retKB P fn res (keys back) σ) (hb : backOk args σ back) : QG P fn args res back e σ := by
  cases e with
  | exit i => cases he
  | _ => exact ⟨h, hb⟩
section
variable {C : Ctx} {σ : St} {ρ : Env} {a : Act} {w : World}
theorem gACs_len : ∀ (t : Nat) (cs : List GC), (gACs t cs).length = cs.length
  | _, [] => rfl
  | t, c :: l => by simp [gACs, gACs_len (t + 1) l]
theorem gACs_get : ∀ {t : Nat} {cs : List GC} {k : Nat} {c : AC}, (gACs t cs)[k]? = some c → ∃ g, cs[k]? = some g ∧ c = gAC (t + k) g
  | t, [], k, c, h => by simp [gACs] at h
  | t, g :: l, k, c, h => by
    cases k with
    | zero => cases h; exact ⟨g, rfl, rfl⟩
    | succ k =>
      obtain ⟨g', h1, h2⟩ := gACs_get (t := t + 1) (cs := l) (k := k) (by simpa [gACs] using h)
      exact ⟨g', by simpa using h1, by rw [h2]; congr 1; omega⟩
theorem gT_rel {B : List (Nat × AB)} : ∀ {args : List GA} {vals : List Value} {i t0 : Nat}, shapeG args vals → (∀ (t : Nat) (g : GC) (u : Value), (gcs args)[t]? = some g → (vflat args vals)[t]? = some u → RelAC C w ρ B (gAC (t0 + t) g) u) →
    ∀ {k : Nat} {av : AV}, get (gT i t0 args) k = some av → ∃ j v, k = i + j ∧ vals[j]? = some v ∧ RelAV C w ρ B av v
  | [], vals, i, t0, _, _, k, av, h => by cases h
  | .one c :: l, [], i, t0, hs, _, k, av, h => hs.elim
  | .agg c :: l, [], i, t0, hs, _, k, av, h => hs.elim
  | .one c :: l, v :: vs, i, t0, hs, hX, k, av, h => by
    rw [gT, get_cons'] at h
    by_cases hk : i = k
    · rw [if_pos hk] at h
      cases h
      exact ⟨0, v, by omega, rfl, hX 0 c v rfl rfl⟩
    · rw [if_neg hk] at h
      obtain ⟨j, v', h1, h2, h3⟩ := gT_rel (args := l) (vals := vs) (t0 := t0 + 1) hs (fun t g u hg hu => by
        have := hX (t + 1) g u (by simpa [gcs] using hg) (by simpa [vflat] using hu)
        rwa [show t0 + (t + 1) = t0 + 1 + t by omega] at this) h
      exact ⟨j + 1, v', by omega, by simpa using h2, h3⟩
  | .agg cs :: l, v :: vs, i, t0, hs, hX, k, av, h => by
    obtain ⟨⟨arr, rfl, h0⟩, hs⟩ := hs
    rw [gT, get_cons'] at h
    by_cases hk : i = k
    · rw [if_pos hk] at h
      cases h
      refine ⟨0, _, by omega, rfl, arr, rfl, by rw [gACs_len, h0], fun k c u hc hu => ?_⟩
      obtain ⟨g, hg, rfl⟩ := gACs_get hc
      have hlt := (List.getElem?_eq_some_iff.1 hg).1
      refine hX k g u ?_ ?_
      · simp only [gcs]; rw [List.getElem?_append_left hlt]; exact hg
      · simp only [vflat]; rw [List.getElem?_append_left (by rw [Array.length_toList]; omega), Array.getElem?_toList]; exact hu
    · rw [if_neg hk] at h
      obtain ⟨j, v', h1, h2, h3⟩ := gT_rel (args := l) (vals := vs) (t0 := t0 + cs.length) hs (fun t g u hg hu => by
        have := hX (cs.length + t) g u (by simp only [gcs]; rw [List.getElem?_append_right (by omega)]; simpa using hg) (by
          have e : arr.toList.length = cs.length := (Array.length_toList).trans h0
          simp only [vflat]; rw [List.getElem?_append_right (by omega), e]; simpa using hu)
        rwa [← Nat.add_assoc] at this) h
      exact ⟨j + 1, v', by omega, by simpa using h2, h3⟩
theorem gB_get : ∀ {t0 : Nat} {cs : List GC} {β : Nat} {ab : AB}, get (gB t0 cs) β = some ab → ∃ k full sz rows, β = 1000000000 + (t0 + k) ∧ cs[k]? = some (.giv full sz rows) ∧ ab = .arr full sz 0 rows
  | t0, [], β, ab, h => by cases h
  | t0, .bor c :: l, β, ab, h => by
    obtain ⟨k, full, sz, rows, h1, h2, h3⟩ := gB_get (t0 := t0 + 1) (cs := l) h
    exact ⟨k + 1, full, sz, rows, by omega, by simpa using h2, h3⟩
  | t0, .giv full sz rows :: l, β, ab, h => by
    rw [gB, get_cons'] at h
    by_cases hb : 1000000000 + t0 = β
    · rw [if_pos hb] at h; cases h; exact ⟨0, full, sz, rows, by omega, rfl, rfl⟩
    · rw [if_neg hb] at h
      obtain ⟨k, full, sz, rows, h1, h2, h3⟩ := gB_get (t0 := t0 + 1) (cs := l) h
      exact ⟨k + 1, full, sz, rows, by omega, by simpa using h2, h3⟩
theorem gB_put : ∀ {t0 : Nat} {cs : List GC} {k : Nat} {full : Bool} {sz : Nat} {rows : List (List Cell)}, cs[k]? = some (.giv full sz rows) → get (gB t0 cs) (1000000000 + (t0 + k)) = some (.arr full sz 0 rows)
  | t0, [], k, full, sz, rows, h => by simp at h
  | t0, .bor c :: l, k, full, sz, rows, h => by
    cases k with
    | zero => cases h
    | succ k =>
      have := gB_put (t0 := t0 + 1) (cs := l) (k := k) (by simpa using h)
      rw [show t0 + (k + 1) = t0 + 1 + k by omega]; exact this
  | t0, .giv full' sz' rows' :: l, k, full, sz, rows, h => by
    cases k with
    | zero => cases h; rw [gB, get_cons', if_pos (by omega)]
    | succ k =>
      have := gB_put (t0 := t0 + 1) (cs := l) (k := k) (by simpa using h)
      rw [gB, get_cons', if_neg (by omega), show t0 + (k + 1) = t0 + 1 + k by omega]; exact this
theorem ghosts_get : ∀ {t0 : Nat} {cs : List GC} {us : List Value} {g : AC × Value}, g ∈ ghosts t0 cs us → ∃ k full sz rows u, g = (.h (1000000000 + (t0 + k)) rows.length, u) ∧ cs[k]? = some (.giv full sz rows) ∧ us[k]? = some u
  | t0, [], us, g, h => by cases us <;> simp [ghosts] at h
  | t0, .bor c :: l, [], g, h => by simp [ghosts] at h
  | t0, .giv _ _ _ :: l, [], g, h => by simp [ghosts] at h
  | t0, .bor c :: l, u :: us, g, h => by
    obtain ⟨k, full, sz, rows, u', h1, h2, h3⟩ := ghosts_get (t0 := t0 + 1) (cs := l) (us := us) h
    exact ⟨k + 1, full, sz, rows, u', by rw [h1, show t0 + 1 + k = t0 + (k + 1) by omega], by simpa using h2, by simpa using h3⟩
  | t0, .giv full sz rows :: l, u :: us, g, h => by
    rcases List.mem_cons.1 h with rfl | h
    · exact ⟨0, full, sz, rows, u, rfl, rfl, rfl⟩
    · obtain ⟨k, full, sz, rows, u', h1, h2, h3⟩ := ghosts_get (t0 := t0 + 1) (cs := l) (us := us) h
      exact ⟨k + 1, full, sz, rows, u', by rw [h1, show t0 + 1 + k = t0 + (k + 1) by omega], by simpa using h2, by simpa using h3⟩
theorem ghosts_put : ∀ {t0 : Nat} {cs : List GC} {us : List Value} {k : Nat} {full : Bool} {sz : Nat} {rows : List (List Cell)} {u : Value}, cs[k]? = some (.giv full sz rows) → us[k]? = some u → (AC.h (1000000000 + (t0 + k)) rows.length, u) ∈ ghosts t0 cs us
  | t0, [], us, k, full, sz, rows, u, h, _ => by simp at h
  | t0, c :: l, [], k, full, sz, rows, u, _, h => by simp at h
  | t0, .bor c :: l, u' :: us, k, full, sz, rows, u, h, h' => by
    cases k with
    | zero => cases h
    | succ k =>
      have := ghosts_put (t0 := t0 + 1) (cs := l) (us := us) (k := k) (by simpa using h) (by simpa using h')
      rw [show t0 + (k + 1) = t0 + 1 + k by omega]; exact this
  | t0, .giv full' sz' rows' :: l, u' :: us, k, full, sz, rows, u, h, h' => by
    cases k with
    | zero => cases h; cases h'; exact List.mem_cons_self ..
    | succ k =>
      have := ghosts_put (t0 := t0 + 1) (cs := l) (us := us) (k := k) (by simpa using h) (by simpa using h')
      rw [show t0 + (k + 1) = t0 + 1 + k by omega]; exact List.mem_cons_of_mem _ this
theorem backOk_get {args : List GA} : ∀ {back : List (Nat × List (List Cell))} {t : Nat} {rows' : List (List Cell)}, backOk args σ back → get back t = some rows' → (1000000000 + t) ∈ keys back ∧ ∃ full sz rows ep, (gcs args)[t]? = some (.giv full sz rows) ∧ get σ.b (1000000000 + t) = some (.arr full sz ep rows') ∧ rows'.length = rows.length ∧ sameLens rows rows'
  | [], t, rows', _, h => by cases h
  | (k, r) :: l, t, rows', hb, h => by
    rw [get_cons'] at h
    by_cases hk : k = t
    · subst hk
      rw [if_pos rfl] at h
      cases h
      refine ⟨List.mem_cons_self .., ?_⟩
      have h1 := hb.1
      split at h1
      · rename_i full sz rows full' sz' ep rows'' e1 e2
        obtain ⟨rfl, rfl, rfl, h2, h3⟩ := h1
        rw [nth_eq] at e1
        exact ⟨_, _, rows, ep, e1, e2, h2, h3⟩
      · exact h1.elim
    · rw [if_neg hk] at h
      obtain ⟨h1, h2⟩ := backOk_get hb.2 h
      exact ⟨List.mem_cons_of_mem _ h1, h2⟩
end
theorem CN.mono {w : World} {N N' : Nat → Prop} {full : Bool} {F : Nat → Prop} {c : Cell} {u : Value} (h : CN w N full F c u) (hN : ∀ x, x < w.heap.size → N x → N' x) : CN w N' full F c u := by
  cases full with
  | true => exact h
  | false => exact Rep.mono h hN
theorem PG.begin {P : Program} {f : Nat} {fn : Func} {c : Code} {args : List GA} {res : Res} {back : List (Nat × List (List Cell))} (hf : P.funcs[f]? = some fn) (hb : fn.body = some c) (hok : (okF P f && okCode fn.ntmps c && Nat.ble args.length fn.ntmps) = true)
    (h : G P (QG P fn args res back) [.code c] none ⟨gT 0 0 args, gB 0 (gcs args)⟩) : PG P f args res back := by
  simp only [Bool.and_eq_true] at hok
  obtain ⟨⟨ho1, ho2⟩, ho3⟩ := hok
  refine ⟨ho1, fun N S w vals hS1 hS2 hsh hcell => ?_⟩
  refine calls_of_wp hf hb ?_
  have hle : args.length ≤ fn.ntmps := Nat.le_of_ble_eq_true ho3
  have hshl : ∀ {args : List GA} {vals : List Value}, shapeG args vals → vals.length = args.length := by
    intro args
    induction args with
    | nil => intro vals h; cases vals with | nil => rfl | cons _ _ => exact h.elim
    | cons ga l ih =>
      intro vals h
      cases vals with
      | nil => cases ga <;> exact h.elim
      | cons v vs =>
        cases ga with
        | one c => simp [ih (vals := vs) h]
        | agg cs => simp [ih (vals := vs) h.2]
  have hvl : vals.size = args.length := by simpa using hshl hsh
  have hlen := vflat_len hsh
  generalize hC : Ctx.mk P fn.ntmps w N (fun x => ∃ t, S t x) (ghosts 0 (gcs args) (vflat args vals.toList)) = C
  generalize hρ : (⟨fun β => ((vflat args vals.toList)[β - 1000000000]?).getD undef, fun β x => S (β - 1000000000) x⟩ : Env) = ρ
  have hname : ∀ t, 1000000000 + t - 1000000000 = t := fun t => by omega
  have hNB : ∀ x, N x → Bor C ρ (gB 0 (gcs args)) x := fun x hx => by
    refine ⟨?_, fun β ab hg hs => ?_⟩
    · rw [← hC]; exact .inl hx
    · rw [← hρ] at hs; exact (hS1 _ x hs).2 hx
  have hAC : ∀ (t : Nat) (g : GC) (u : Value), (gcs args)[t]? = some g → (vflat args vals.toList)[t]? = some u → RelAC C w ρ (gB 0 (gcs args)) (gAC (0 + t) g) u := fun t g u hg hu => by
    have hc := hcell t g u hg hu
    cases g with
    | bor c => exact Rep.mono hc (fun x _ hx => hNB x hx)
    | giv full sz rows =>
      obtain ⟨sz', _, hslab⟩ := hc
      obtain ⟨A, cap, rfl⟩ := hslab.slice
      refine ⟨⟨A, cap, rfl⟩, _, gB_put hg, fun full' sz1 ep rows' he => ?_⟩
      cases he
      refine ⟨Nat.le_refl _, fun _ => ?_⟩
      rw [← hρ]
      simp only [Nat.zero_add, hname, hu, Option.getD_some]
  have hinit : RelAt C ⟨gT 0 0 args, gB 0 (gcs args)⟩ ρ { tmps := vals ++ Array.replicate (fn.ntmps - vals.size) undef, defers := [] } w := by
    refine ⟨fun t av ht => ?_, fun β ab hg => ?_, fun β β' ab ab' x hg hg' hx hx' => ?_, fun β ab x hg hx => ?_, ?_, rfl, ?_, fun g hg => ?_⟩
    · obtain ⟨j, v, h1, h2, h3⟩ := gT_rel hsh hAC ht
      have hj : j < vals.size := by have := (List.getElem?_eq_some_iff.1 h2).1; simpa using this
      refine ⟨v, ?_, h3⟩
      have htj : t = j := by omega
      subst htj
      rw [Array.getElem?_append, if_pos hj]
      simpa using h2
    · obtain ⟨k, full, sz, rows, rfl, h2, rfl⟩ := gB_get hg
      have hlt : k < (vflat args vals.toList).length := by rw [hlen]; exact (List.getElem?_eq_some_iff.1 h2).1
      obtain ⟨sz', hsz, hslab⟩ := hcell k _ _ h2 (List.getElem?_eq_getElem hlt)
      refine ⟨sz', hsz, ?_⟩
      have e1 : ρ.v (1000000000 + (0 + k)) = (vflat args vals.toList)[k] := by
        rw [← hρ]; simp only [Nat.zero_add, hname, List.getElem?_eq_getElem hlt, Option.getD_some]
      have e2 : ρ.S (1000000000 + (0 + k)) = S k := by
        rw [← hρ]; simp only [Nat.zero_add, hname]
      rw [e1, e2, CC_CN (σ := ⟨[], gB 0 (gcs args)⟩)]
      exact Slab.imp hslab (fun _ h => h) (fun _ _ _ => rfl) (fun _ _ _ _ hc => CN.mono hc (fun x _ hx => hNB x hx))
    · obtain ⟨k, _, _, _, rfl, _, _⟩ := gB_get hg
      obtain ⟨k', _, _, _, rfl, _, _⟩ := gB_get hg'
      rw [← hρ] at hx hx'
      have := hS2 _ _ x hx hx'
      omega
    · rw [← hρ] at hx
      refine ⟨(hS1 _ x hx).1, .inr ?_⟩
      rw [← hC]; exact ⟨_, hx⟩
    · rw [← hC]
      show (vals ++ Array.replicate (fn.ntmps - vals.size) undef).size = fn.ntmps
      rw [Array.size_append, Array.size_replicate]
      omega
    · rw [← hC]; exact Keep.refl _ _
    · rw [← hC] at hg
      obtain ⟨k, full, sz, rows, u, rfl, h2, h3⟩ := ghosts_get hg
      exact hAC k (.giv full sz rows) u h2 h3
  have hCP : C.P = P := by rw [← hC]
  have hCT : C.T = fn.ntmps := by rw [← hC]
  have hQ : vc C.P c (fun (e : Ex) (σ : St) => match e with | .normal => G P (QG P fn args res back) [] none σ | .exit i => G P (QG P fn args res back) [] (some i) σ | .ret => QG P fn args res back .ret σ) ⟨gT 0 0 args, gB 0 (gcs args)⟩ := by rw [hCP]; exact h
  have hwp := vc_sound (C := C) (fun g hg => by
    rw [← hC] at hg
    obtain ⟨k, _, _, _, _, rfl, _, _⟩ := ghosts_get hg
    exact Nat.le_add_right _ _) (by rw [hCT]; exact ho2) ⟨ρ, hinit⟩ hQ
  rw [hCP] at hwp
  refine wp_mono hwp (fun e a' w' hq => ?_)
  obtain ⟨e', he, σ', hr, ρ', hrel⟩ := hq
  have fin : retG P fn args res back σ' → a'.defers = [] ∧ ∃ v, (results fn a'.tmps).run P w' = .ok v w' ∧ ∃ (v' : Value) (SR : Nat → Prop) (SB : Nat → Nat → Prop), Ending.returned v = .returned v' ∧ Keep w w' (fun x => ∃ t, S t x) ∧ RelRes w' (Rest N w S SR SB) SR res v' ∧
      (∀ x, SR x → (w.heap.size ≤ x ∨ ∃ t, S t x) ∧ x < w'.heap.size ∧ ∀ t, ¬ SB t x) ∧ (∀ t x, SB t x → (w.heap.size ≤ x ∨ ∃ t, S t x) ∧ x < w'.heap.size) ∧ (∀ t t' x, SB t x → SB t' x → t = t') ∧
      ∀ (t : Nat) (rows' : List (List Cell)), get back t = some rows' → ∀ (full : Bool) (sz : Nat) (rows : List (List Cell)) (u : Value), (gcs args)[t]? = some (.giv full sz rows) → (vflat args vals.toList)[t]? = some u →
        rows'.length = rows.length ∧ (∀ (i : Nat) (row row' : List Cell), rows[i]? = some row → rows'[i]? = some row' → row'.length = row.length) ∧ ∃ sz', (sz ≠ 0 → sz' = sz) ∧ Slab w' (CN w' (Rest N w S SR SB) full) (SB t) sz' rows' u := fun hret => by
    obtain ⟨hret, hbk⟩ := hret
    rw [← hCP] at hret
    obtain ⟨v, ms, h1, h2, h3⟩ := ret_sound hrel hret
    rw [hCP] at h1
    have hmine : ∀ β ab x, get σ'.b β = some ab → ρ'.S β x → x < w'.heap.size ∧ (w.heap.size ≤ x ∨ ∃ t, S t x) := by
      have := hrel.mine
      rw [← hC] at this
      exact this
    have hkeep : Keep w w' (fun x => ∃ t, S t x) := by
      have := hrel.keep
      rw [← hC] at this
      exact this
    have hfree : ∀ x, Bor C ρ' σ'.b x → N x ∨ w.heap.size ≤ x ∨ ∃ t, S t x := by
      intro x hx
      have := hx.1
      rw [← hC] at this
      exact this
    have hrest : ∀ x, Bor C ρ' σ'.b x → Rest N w S (gS σ' ρ' ms) (fun t x => (get back t).isSome = true ∧ (∃ ab, get σ'.b (1000000000 + t) = some ab) ∧ ρ'.S (1000000000 + t) x) x := fun x hx =>
      ⟨hfree x hx, fun ⟨γ, _, ⟨ab, hab⟩, hs⟩ => hx.2 γ ab hab hs, fun t ⟨_, ⟨ab, hab⟩, hs⟩ => hx.2 _ ab hab hs⟩
    have hkey : ∀ t, (get back t).isSome = true → (1000000000 + t) ∈ keys back := fun t ht => by
      obtain ⟨rows', hr'⟩ := Option.isSome_iff_exists.1 ht
      exact (backOk_get hbk hr').1
    refine ⟨hrel.defers, v, h1, v, gS σ' ρ' ms, fun t x => (get back t).isSome = true ∧ (∃ ab, get σ'.b (1000000000 + t) = some ab) ∧ ρ'.S (1000000000 + t) x, rfl, hkeep, h2.mono hrest, fun x hx => ?_, fun t x hx => ?_, fun t t' x hx hx' => ?_, fun t rows' ht full sz rows u hg hu => ?_⟩
    · obtain ⟨γ, hγ, ⟨ab, hab⟩, hs⟩ := hx
      refine ⟨(hmine γ ab x hab hs).2, (hmine γ ab x hab hs).1, fun t ⟨h4, ⟨ab', hab'⟩, h6⟩ => ?_⟩
      have := hrel.disj γ _ ab ab' x hab hab' hs h6
      exact h3 γ hγ (this ▸ hkey t h4)
    · obtain ⟨_, ⟨ab, hab⟩, hs⟩ := hx
      exact ⟨(hmine _ ab x hab hs).2, (hmine _ ab x hab hs).1⟩
    · obtain ⟨_, ⟨ab, hab⟩, hs⟩ := hx
      obtain ⟨_, ⟨ab', hab'⟩, hs'⟩ := hx'
      have := hrel.disj _ _ ab ab' x hab hab' hs hs'
      omega
    · obtain ⟨_, full1, sz1, rows1, ep, e1, e2, e3, e4⟩ := backOk_get hbk ht
      rw [hg] at e1
      cases e1
      refine ⟨e3, e4, ?_⟩
      obtain ⟨sz', hsz, hslab⟩ := hrel.blks _ _ e2
      refine ⟨sz', hsz, ?_⟩
      have hgh := hrel.ghost (.h (1000000000 + (0 + t)) rows.length, u) (by rw [← hC]; exact ghosts_put hg hu)
      obtain ⟨_, ab, h5, h6⟩ := hgh
      simp only [Nat.zero_add] at h5 h6
      rw [e2] at h5
      cases h5
      rw [(h6 _ _ _ _ rfl).2 e3.symm]
      rw [CC_CN] at hslab
      exact Slab.imp hslab (fun x hx => ⟨by rw [ht]; rfl, ⟨_, e2⟩, hx⟩) (fun _ _ _ => rfl) (fun _ _ _ _ hc => CN.mono hc (fun x _ hx => hrest x hx))
  cases e <;> simp only [exOf, Option.some.injEq] at he <;> first | (subst he) | cases he
  · exact fin hr
  · exact hr.elim
  · exact fin hr
end Go.Sx
end
section
namespace Go.Sx
theorem get_set {α : Type} {xs : List α} {i : Nat} {x : α} (h : i < xs.length) : (xs.set i x)[i]? = some x := by simp [h]
theorem setRow_eq {rws : List (List Cell)} {i k : Nat} {c : Cell} {row : List Cell} (h : rws[i]? = some row) : setRow rws i k c = rws.set i (row.set k c) := by simp only [setRow, h]
theorem setRow_len {rws : List (List Cell)} {i k : Nat} {c : Cell} : (setRow rws i k c).length = rws.length := by
  unfold setRow
  split
  · exact List.length_set
  · rfl
theorem setRow_get {rws : List (List Cell)} {i k : Nat} {c : Cell} {row : List Cell} (h : rws[i]? = some row) : (setRow rws i k c)[i]? = some (row.set k c) := by
  rw [setRow_eq h, get_set (List.getElem?_eq_some_iff.1 h).1]
end Go.Sx
end
section
namespace Go.Sx
open Go.RowKit Go.ChangeShapes Go.WideShapes Go.Deep
def Reps (w : World) (cells : List Cell) (cs : List Value) : Prop := cs.length = cells.length ∧ ∀ (k : Nat) (c : Cell) (u : Value), cells[k]? = some c → cs[k]? = some u → Rep w (fun _ => True) c u
structure Opens (P : Program) (t : TypeId) {α : Type} (sz : Nat) (f : α → List Cell) (G : α → Prop) : Prop where
  hsz : P.cellsOf t = sz
  len : ∀ a, (f a).length = sz
  get : ∀ {H : Type} (enc : TypeId × Value → H) (w : World) (base : Nat) (spare : Nat → Bool) (held : Bool) (fuel : Nat) (cs : List Value) (x : DataW H × List MemPlace), DataW.trod enc P w base spare held fuel t cs = some x → ∃ a, Reps w (f a) cs ∧ G a
section
variable {P : Program} {α β : Type} {t e : TypeId}
theorem Reps.one {w : World} {c : Cell} {u : Value} (h : Rep w (fun _ => True) c u) : Reps w [c] [u] := ⟨rfl, fun k c' u' h1 h2 => by
  cases k with
  | zero => cases h1; cases h2; exact h
  | succ k => simp at h1⟩
theorem opens_int {k : IntKind} (ht : P.underlying t = some (.int k)) (hc : P.cellsOf t = 1) : Opens P t 1 (fun n : Int => [.s (.int k n)]) (fun n => (Lit.int k n).wf = true) :=
  ⟨hc, fun _ => rfl, fun enc w base spare held fuel cs x h => by obtain ⟨n, rfl, _, hw⟩ := DataW.trod_int ht h; exact ⟨n, .one (.s _ rfl), hw⟩⟩
theorem opens_row {sz : Nat} {f : α → List Cell} {G : α → Prop} (ht : P.underlying t = some (.slice e)) (he : Opens P e sz f G)
    {H : Type} (enc : TypeId × Value → H) (w : World) (base : Nat) (spare : Nat → Bool) (held : Bool) (fuel : Nat) (cs : List Value) (x : DataW H × List MemPlace) (h : DataW.trod enc P w base spare held fuel t cs = some x) :
    ∃ (l : List α) (v : Value), cs = [v] ∧ Rep w (fun _ => True) (.l (l.map f)) v ∧ (l.length ≤ maxLen ∧ ∀ a ∈ l, G a) := by
  classical
  rcases open_slice ht h with ⟨rfl, _⟩ | ⟨a, len, cap, m, n, D, Pl, rfl, hb, hl, hm, hmm, rfl, hx⟩
  · exact ⟨[], _, rfl, .l 0 [] none 0 (fun _ _ => undef) (by simp) (Nat.le_refl _) (fun _ => rfl) (fun j k hj => by simp at hj) (fun j k row c h1 => by simp at h1), by simp, fun a ha => by cases ha⟩
  · have hlm : len ≤ m := by rw [hmm]; split <;> omega
    have hall : ∀ i, i < len → ∃ b cs', cs'.length = sz ∧ Reps w (f b) cs' ∧ G b ∧ ∀ j, j < sz → w.cell? ((a.add (i * sz)).add j) = cs'[j]? := fun i hi => by
      obtain ⟨cs', h1, h2⟩ := hx i (by omega)
      obtain ⟨b, hK, hg⟩ := he.get enc w base spare held n cs' _ h2
      rw [he.hsz] at h1
      obtain ⟨_, hlen, hcell⟩ := World.cells?_some h1
      exact ⟨b, cs', hlen, hK, hg, hcell⟩
    have key : ∀ k, k ≤ len → ∃ l : List α, l.length = k ∧ (∀ j p, l[j]? = some p → ∃ c, c.length = sz ∧ Reps w (f p) c ∧ ∀ i u, c[i]? = some u → w.cell? (a.add (j * sz + i)) = some u) ∧ ∀ a ∈ l, G a := by
      intro k
      induction k with
      | zero => exact fun _ => ⟨[], rfl, fun j p hj => by simp at hj, fun a ha => by cases ha⟩
      | succ k ih =>
        intro hk
        obtain ⟨l, hl, hc, hG⟩ := ih (by omega)
        obtain ⟨b, c, hs, hK, hg, hcell⟩ := hall k (by omega)
        refine ⟨l ++ [b], by simp [hl], fun j p hj => ?_, fun b' hb' => ?_⟩
        · rcases Nat.lt_or_ge j l.length with hjl | hjl
          · rw [List.getElem?_append_left hjl] at hj
            exact hc j p hj
          · have hj' : j = l.length := by
              have := (List.getElem?_eq_some_iff.1 hj).1
              rw [List.length_append, List.length_singleton] at this
              omega
            subst hj'
            have hp : b = p := by simpa using hj
            subst hp
            refine ⟨c, hs, hK, fun i u hu => ?_⟩
            have hi : i < sz := by rw [← hs]; exact (List.getElem?_eq_some_iff.1 hu).1
            have := hcell i hi
            rw [Go.Deep.add_add, ← hl] at this
            rw [this, hu]
        · rcases List.mem_append.1 hb' with hb' | hb'
          · exact hG b' hb'
          · rw [List.mem_singleton.1 hb']; exact hg
    obtain ⟨l, hl', hc, hG⟩ := key len (Nat.le_refl _)
    subst hl'
    have hch : ∀ j : Nat, ∃ c : List Value, ∀ p, l[j]? = some p → c.length = sz ∧ Reps w (f p) c ∧ ∀ i u, c[i]? = some u → w.cell? (a.add (j * sz + i)) = some u := fun j => by
      cases hj : l[j]? with
      | none => exact ⟨[], fun p h => by cases h⟩
      | some p =>
        obtain ⟨c, h1, h2, h3⟩ := hc j p hj
        exact ⟨c, fun p' h => by cases h; exact ⟨h1, h2, h3⟩⟩
    have hch2 : ∃ c : Nat → List Value, ∀ j p, l[j]? = some p → (c j).length = sz ∧ Reps w (f p) (c j) ∧ ∀ i u, (c j)[i]? = some u → w.cell? (a.add (j * sz + i)) = some u := ⟨fun j => Classical.choose (hch j), fun j => Classical.choose_spec (hch j)⟩
    obtain ⟨c, hc⟩ := hch2
    have hlr : (l.map f).length = l.length := by simp
    refine ⟨l, _, rfl, ?_, by omega, hG⟩
    rw [show (Value.slice (some a) l.length cap) = .slice (some a) (l.map f).length cap by rw [hlr]]
    refine .l sz (l.map f) (some a) cap (fun j k => ((c j)[k]?).getD undef) (fun row hr => ?_) (by rw [hlr]; exact hl) (fun h => by cases h) (fun j k hj hk => ?_) (fun j k row c' h1 h2 => ?_)
    · obtain ⟨p, _, rfl⟩ := List.mem_map.1 hr; exact he.len p
    · rw [hlr] at hj
      obtain ⟨h1, _, h3⟩ := hc j _ (List.getElem?_eq_getElem hj)
      refine ⟨a, rfl, trivial, ?_⟩
      have hlt : k < (c j).length := by omega
      rw [h3 k _ (List.getElem?_eq_getElem hlt), List.getElem?_eq_getElem hlt]; rfl
    · rw [List.getElem?_map] at h1
      cases hj : l[j]? with
      | none => rw [hj] at h1; cases h1
      | some p =>
        rw [hj] at h1
        cases h1
        obtain ⟨h4, h5, _⟩ := hc j p hj
        have hk : k < (c j).length := by rw [h4, ← he.len p]; exact (List.getElem?_eq_some_iff.1 h2).1
        refine h5.2 k c' _ h2 ?_
        rw [List.getElem?_eq_getElem hk]; rfl
inductive Laid (P : Program) : Nat → List Field → Prop
  | nil (o : Nat) : Laid P o []
  | cons {o : Nat} {f : Field} {fs : List Field} : f.offset = o → Laid P (o + P.cellsOf f.type) fs → Laid P o (f :: fs)
def OpensF (P : Program) (fs : List Field) {α : Type} (sz : Nat) (f : α → List Cell) (G : α → Prop) : Prop :=
  (∀ a, (f a).length = sz) ∧ ∀ {H : Type} (enc : TypeId × Value → H) (w : World) (base : Nat) (spare : Nat → Bool) (held : Bool) (fuel : Nat) (cs : List Value), cs.length = sz →
    (∀ (i : Nat) (f : Field), fs[i]? = some f → ∃ x, DataW.trod enc P w base spare held fuel f.type ((cs.drop (((fs.take i).map fun g => P.cellsOf g.type).sum)).take (P.cellsOf f.type)) = some x) →
    ∃ a, Reps w (f a) cs ∧ G a
theorem Reps.append {w : World} {xs ys : List Cell} {us vs : List Value} (h : Reps w xs us) (k : Reps w ys vs) : Reps w (xs ++ ys) (us ++ vs) := by
  refine ⟨by simp [h.1, k.1], fun i c u h1 h2 => ?_⟩
  rw [List.getElem?_append] at h1 h2
  rw [h.1] at h2
  by_cases hi : i < xs.length
  · rw [if_pos hi] at h1 h2; exact h.2 i c u h1 h2
  · rw [if_neg hi] at h1 h2; exact k.2 _ c u h1 h2
theorem opensF_one {fd : Field} {sz : Nat} {f : α → List Cell} {G : α → Prop} (h : Opens P fd.type sz f G) : OpensF P [fd] sz f G := by
  refine ⟨h.len, fun enc w base spare held fuel cs hl hx => ?_⟩
  obtain ⟨x, hx⟩ := hx 0 fd rfl
  simp only [List.take_zero, List.map_nil, List.sum_nil, List.drop_zero] at hx
  rw [h.hsz, ← hl, List.take_length] at hx
  exact h.get enc w base spare held fuel cs x hx
theorem opensF_cons {fd : Field} {fs : List Field} {sz sz' : Nat} {f : α → List Cell} {f' : β → List Cell} {G : α → Prop} {G' : β → Prop} (h : Opens P fd.type sz f G) (h' : OpensF P fs sz' f' G') : OpensF P (fd :: fs) (sz + sz') (fun x : α × β => f x.1 ++ f' x.2) (fun x => G x.1 ∧ G' x.2) := by
  refine ⟨fun a => by simp [h.len, h'.1], fun enc w base spare held fuel cs hl hx => ?_⟩
  obtain ⟨x, hx0⟩ := hx 0 fd rfl
  simp only [List.take_zero, List.map_nil, List.sum_nil, List.drop_zero] at hx0
  rw [h.hsz] at hx0
  obtain ⟨a, hK, hG⟩ := h.get enc w base spare held fuel _ x hx0
  obtain ⟨b, hK', hG'⟩ := h'.2 enc w base spare held fuel (cs.drop sz) (by rw [List.length_drop]; omega) (fun i g hi => by
    obtain ⟨y, hy⟩ := hx (i + 1) g (by simpa using hi)
    refine ⟨y, ?_⟩
    rw [List.drop_drop]
    simpa [h.hsz] using hy)
  refine ⟨(a, b), ?_, hG, hG'⟩
  have := hK.append hK'
  rwa [List.take_append_drop] at this
theorem laid_offset : ∀ {fs : List Field} {o : Nat}, Laid P o fs → ∀ (i : Nat) (f : Field), fs[i]? = some f → f.offset = o + ((fs.take i).map fun g => P.cellsOf g.type).sum
  | [], _, _, i, f, h => by simp at h
  | g :: fs, o, .cons h1 h2, 0, f, h => by
    have : g = f := by simpa using h
    subst this
    simp [h1]
  | g :: fs, o, .cons h1 h2, i + 1, f, h => by
    rw [laid_offset h2 i f (by simpa using h)]
    simp [Nat.add_assoc]
theorem opens_struct {fs : List Field} {sz : Nat} {f : α → List Cell} {G : α → Prop} {f' : β → List Cell} {G' : β → Prop} (g : α → β) (hfg : ∀ a, f' (g a) = f a) (hG : ∀ a, G a → G' (g a)) (hlen : ∀ b, (f' b).length = sz) (ht : P.underlying t = some (.struct fs.toArray)) (hc : P.cellsOf t = sz) (hL : Laid P 0 fs) (hF : OpensF P fs sz f G) :
    Opens P t sz f' G' :=
  ⟨hc, hlen, fun enc w base spare held fuel cs x h => by
    obtain ⟨xs, n, rfl, _, hl, hxs, hf⟩ := DataW.trod_struct ht h
    obtain ⟨a, hK, hg⟩ := hF.2 enc w base spare held n cs (by rw [hl, hc]) (fun i f hi => by
      have hoff := laid_offset hL i f hi
      rw [Nat.zero_add] at hoff
      have h1 := hf i f (by simpa using hi)
      rw [hoff] at h1
      have hi' : i < xs.length := by
        rw [hxs]
        have := (List.getElem?_eq_some_iff.1 hi).1
        simpa using this
      exact ⟨xs[i], by rw [h1, List.getElem?_eq_getElem hi']⟩)
    exact ⟨g a, by rw [hfg]; exact hK, hG a hg⟩⟩
theorem opens_slice {sz : Nat} {f : α → List Cell} {G : α → Prop} (ht : P.underlying t = some (.slice e)) (hc : P.cellsOf t = 1) (he : Opens P e sz f G) : Opens P t 1 (fun l : List α => [.l (l.map f)]) (fun l => l.length ≤ maxLen ∧ ∀ a ∈ l, G a) :=
  ⟨hc, fun _ => rfl, fun enc w base spare held fuel cs x h => by
    obtain ⟨l, v, rfl, hr, hG⟩ := opens_row ht he enc w base spare held fuel cs x h
    exact ⟨l, .one hr, hG⟩⟩
theorem arg_struct {fs : Array Field} {sz : Nat} {f : α → List Cell} {G : α → Prop} (ht : P.underlying t = some (.struct fs)) (he : Opens P t sz f G) {H : Type} {enc : TypeId × Value → H} {w : World} {r : Reach} {b : Nat} {v : Value} {dd : DataW H} {ps : List MemPlace}
    (hv : Value.okWide P w r b t v) (h : DataW.Trod enc P w 0 (fun _ => true) true t v dd ps) : ∃ a : α, RepV w (fun _ => True) (.agg (f a)) v ∧ G a := by
  obtain ⟨cs, rfl, _⟩ := okWide_struct ht hv
  obtain ⟨fuel, hf⟩ := h
  obtain ⟨a, hK, hG⟩ := he.get enc w 0 _ true fuel _ _ hf
  have hK' : Reps w (f a) cs.toList := by simpa [Value.cells] using hK
  exact ⟨a, ⟨cs, rfl, by simpa using hK'.1, fun k c u hc hu => hK'.2 k c u hc (by simpa using hu)⟩, hG⟩
end
end Go.Sx
end
section
namespace Go.Sx
open Go.RowKit (Below)
theorem PC.law {P : Program} {f : Nat} {args : List SV} {b : Bool} (h : PC P f args (.one (.own false [.s (.bool b)]))) {w : World} {vals : Array Value} (ha : ArgsR w (fun _ => True) vals args) :
    Calls P f vals w fun e w' => e = .returned (.bool b) ∧ Below w.heap.size w w' := by
  refine (h.2 _ w vals ha).mono ?_
  rintro e w' ⟨v, S, rfl, hk, ⟨arr, F, h1, h2, _, _, h5⟩, _⟩
  have h1' : arr = #[v] := h1
  subst h1'
  obtain ⟨rfl, _⟩ := h5 0 _ v rfl rfl
  exact ⟨rfl, hk.below⟩
theorem ArgsR.one {w : World} {N : Nat → Prop} {sv : SV} {v : Value} (h : RepV w N sv v) : ArgsR w N #[v] [sv] := ⟨rfl, fun i s u h1 h2 => by
  cases i with
  | zero => cases h1; cases h2; exact h
  | succ i => simp at h1⟩
end Go.Sx
end
section
namespace Go.Sx
inductive Sh where
  | nil
  | i (k : IntKind) (r : Sh)
  | b (r : Sh)
  | l (e : Sh) (r : Sh)
inductive WT (N : Nat) : Sh → List Cell → Prop
  | nil : WT N .nil []
  | i {k : IntKind} {r : Sh} {cs : List Cell} (n : Int) : WT N r cs → WT N (.i k r) (.s (.int k n) :: cs)
  | b {r : Sh} {cs : List Cell} (x : Bool) : WT N r cs → WT N (.b r) (.s (.bool x) :: cs)
  | l {e r : Sh} {cs : List Cell} (rows : List (List Cell)) : rows.length ≤ N → (∀ row ∈ rows, WT N e row) → WT N r cs → WT N (.l e r) (.l rows :: cs)
def WR (N : Nat) (e : Sh) (rows : List (List Cell)) : Prop := rows.length ≤ N ∧ ∀ row ∈ rows, WT N e row
def nx (k : Int) : Int := IntKind.i64.wrap (k + 1)
def mkv : IntKind → Int → Int
  | .i64, k => k
  | t, k => t.wrap k
def mkR (f : List Cell → Int → List Cell × Int) : List (List Cell) → Int → List (List Cell) × Int
  | [], k => ([], k)
  | row :: rows, k => ((f row k).1 :: (mkR f rows (f row k).2).1, (mkR f rows (f row k).2).2)
def mk : Sh → List Cell → Int → List Cell × Int
  | .nil, cs, k => (cs, k)
  | .i t r, _ :: cs, k => (.s (.int t (mkv t k)) :: (mk r cs (nx k)).1, (mk r cs (nx k)).2)
  | .b r, _ :: cs, k => (.s (.bool (k.tmod 3 == 0)) :: (mk r cs (nx k)).1, (mk r cs (nx k)).2)
  | .l e r, .l rows :: cs, k => (.l (mkR (mk e) rows k).1 :: (mk r cs (mkR (mk e) rows k).2).1, (mk r cs (mkR (mk e) rows k).2).2)
  | _, cs, k => (cs, k)
def hdR (f : List Cell → Int → Option Int) : List (List Cell) → Int → Option Int
  | [], k => some k
  | row :: rows, k => (f row k).bind (hdR f rows)
def ng (o : Option Int) : Int := o.getD (-1)
def ps (k : Int) : Option Int := if k < 0 then none else some k
def hd : Sh → List Cell → Int → Option Int
  | .nil, _, k => some k
  | .i t r, .s (.int _ n) :: cs, k => if n = mkv t k then hd r cs (nx k) else none
  | .b r, .s (.bool x) :: cs, k => if x = (k.tmod 3 == 0) then hd r cs (nx k) else none
  | .l e r, .l rows :: cs, k => (ps (ng (hdR (hd e) rows k))).bind (hd r cs)
  | _, _, k => some k
def mt : Sh → List Cell → Int → List Cell × Int
  | .i _ r, c :: cs, k => (c :: (mt r cs k).1, (mt r cs k).2)
  | .b r, c :: cs, k => (c :: (mt r cs k).1, (mt r cs k).2)
  | .l e r, .l rows :: cs, k => (.l (mkR (mk e) rows k).1 :: (mt r cs (mkR (mk e) rows k).2).1, (mt r cs (mkR (mk e) rows k).2).2)
  | _, cs, k => (cs, k)
def ht : Sh → List Cell → Int → Option Int
  | .i _ r, _ :: cs, k => ht r cs k
  | .b r, _ :: cs, k => ht r cs k
  | .l e r, .l rows :: cs, k => (ps (ng (hdR (hd e) rows k))).bind (ht r cs)
  | _, _, k => some k
theorem ps_ok {k : Int} (h : ¬ k < 0) : ps k = some k := by unfold ps; rw [if_neg h]
theorem ps_no {k : Int} (h : k < 0) : ps k = none := by unfold ps; rw [if_pos h]
theorem ng_none {o : Option Int} (h : o = none) : ng o = -1 := by rw [h]; rfl
def cntR (f : List Cell → Nat) : List (List Cell) → Nat
  | [] => 0
  | row :: rows => f row + cntR f rows
def cnt : Sh → List Cell → Nat
  | .i _ r, _ :: cs => 1 + cnt r cs
  | .b r, _ :: cs => 1 + cnt r cs
  | .l e r, .l rows :: cs => cntR (cnt e) rows + cnt r cs
  | _, _ => 0
def tot : Sh → List Cell → Nat
  | .i _ r, _ :: cs => tot r cs
  | .b r, _ :: cs => tot r cs
  | .l e r, .l rows :: cs => rows.length + cntR (tot e) rows + tot r cs
  | _, _ => 0
def totR (e : Sh) (rows : List (List Cell)) : Nat := rows.length + cntR (tot e) rows
def wid : Sh → Nat
  | .i _ r => 1 + wid r
  | .b r => 1 + wid r
  | .l _ r => wid r
  | .nil => 0
def mwid : Sh → Nat
  | .i _ r => mwid r
  | .b r => mwid r
  | .l e r => wid e + mwid e + mwid r
  | .nil => 0
theorem nx_eq {k : Int} (h : 0 ≤ k) (h1 : k < 9000000000000000000) : nx k = k + 1 := wrap_i64 (by omega) (by omega)
theorem mkR_len (f : List Cell → Int → List Cell × Int) : ∀ (rows : List (List Cell)) (k : Int), (mkR f rows k).1.length = rows.length
  | [], _ => rfl
  | row :: rows, k => by simp [mkR, mkR_len f rows]
theorem WT.mono {N M : Nat} (h : N ≤ M) {e : Sh} {cs : List Cell} (hw : WT N e cs) : WT M e cs := by
  induction hw with
  | nil => exact .nil
  | i n _ ih => exact .i n ih
  | b x _ ih => exact .b x ih
  | l rows h1 _ _ ih1 ih2 => exact .l rows (by omega) ih1 ih2
theorem WR.mono {N M : Nat} (h : N ≤ M) {e : Sh} {rows : List (List Cell)} (hw : WR N e rows) : WR M e rows := ⟨Nat.le_trans hw.1 h, fun r hr => (hw.2 r hr).mono h⟩
theorem WT.inv_i {N : Nat} {k : IntKind} {r : Sh} {cs : List Cell} (h : WT N (.i k r) cs) : ∃ n cs', cs = .s (.int k n) :: cs' ∧ WT N r cs' := by
  cases h with | i n h => exact ⟨_, _, rfl, h⟩
theorem WT.inv_b {N : Nat} {r : Sh} {cs : List Cell} (h : WT N (.b r) cs) : ∃ n cs', cs = .s (.bool n) :: cs' ∧ WT N r cs' := by
  cases h with | b n h => exact ⟨_, _, rfl, h⟩
theorem WT.inv_l {N : Nat} {e r : Sh} {cs : List Cell} (h : WT N (.l e r) cs) : ∃ rows cs', cs = .l rows :: cs' ∧ WR N e rows ∧ WT N r cs' := by
  cases h with | l rows h1 h2 h3 => exact ⟨_, _, rfl, ⟨h1, h2⟩, h3⟩
theorem WT.inv_nil {N : Nat} {cs : List Cell} (h : WT N .nil cs) : cs = [] := by
  cases h; rfl
theorem mkR_wt {N : Nat} {e : Sh} {f : List Cell → Int → List Cell × Int} : ∀ {rows : List (List Cell)}, (∀ row ∈ rows, ∀ k, WT N e (f row k).1) → ∀ k, ∀ row ∈ (mkR f rows k).1, WT N e row
  | [], _, k, row, hr => by cases hr
  | r :: rows, h, k, row, hr => by
    rcases List.mem_cons.1 hr with rfl | hr
    · exact h r (by simp) k
    · exact mkR_wt (fun row hr => h row (by simp [hr])) _ row hr
theorem mk_wt {N : Nat} {e : Sh} {cs : List Cell} (h : WT N e cs) : ∀ k, WT N e (mk e cs k).1 := by
  induction h with
  | nil => exact fun k => .nil
  | i n _ ih => exact fun k => .i _ (ih _)
  | b x _ ih => exact fun k => .b _ (ih _)
  | l rows h1 _ _ ih1 ih2 => exact fun k => .l _ (by rw [mkR_len]; exact h1) (mkR_wt ih1 k) (ih2 _)
theorem mkR_WR {N : Nat} {e : Sh} {rows : List (List Cell)} (h : WR N e rows) (k : Int) : WR N e (mkR (mk e) rows k).1 := ⟨by rw [mkR_len]; exact h.1, mkR_wt (fun row hr => mk_wt (h.2 row hr)) k⟩
theorem mkR_held {f : List Cell → Int → List Cell × Int} {g : List Cell → Int → Option Int} {c : List Cell → Nat} : ∀ {rows : List (List Cell)},
    (∀ row ∈ rows, ∀ k : Int, 0 ≤ k → k + c row ≤ 4000000000000000000 → g (f row k).1 k = some (k + c row) ∧ (f row k).2 = k + c row) →
    ∀ k : Int, 0 ≤ k → k + cntR c rows ≤ 4000000000000000000 → hdR g (mkR f rows k).1 k = some (k + cntR c rows) ∧ (mkR f rows k).2 = k + cntR c rows
  | [], _, k, _, _ => by simp [mkR, hdR, cntR]
  | r :: rows, h, k, h0, h1 => by
    simp only [cntR] at h1 ⊢
    obtain ⟨e1, e2⟩ := h r (by simp) k h0 (by omega)
    obtain ⟨e3, e4⟩ := mkR_held (rows := rows) (fun row hr => h row (by simp [hr])) (k + c r) (by omega) (by omega)
    simp only [mkR, hdR, e1, e2, Option.bind_some, e3, e4]
    constructor
    · congr 1; omega
    · omega
theorem mk_held {N : Nat} {e : Sh} {cs : List Cell} (h : WT N e cs) : ∀ k : Int, 0 ≤ k → k + cnt e cs ≤ 4000000000000000000 → hd e (mk e cs k).1 k = some (k + cnt e cs) ∧ (mk e cs k).2 = k + cnt e cs := by
  induction h with
  | nil => intro k _ _; simp [mk, hd, cnt]
  | @i t r cs n _ ih =>
    intro k h0 h1
    simp only [cnt] at h1
    obtain ⟨e1, e2⟩ := ih (nx k) (by rw [nx_eq h0 (by omega)]; omega) (by rw [nx_eq h0 (by omega)]; omega)
    have hn : nx k + (cnt r cs : Nat) = k + (cnt (.i t r) (.s (.int t n) :: cs) : Nat) := by rw [nx_eq h0 (by omega)]; simp only [cnt]; omega
    simp only [mk, hd, if_true]
    exact ⟨e1.trans (congrArg some hn), e2.trans hn⟩
  | @b r cs x _ ih =>
    intro k h0 h1
    simp only [cnt] at h1
    obtain ⟨e1, e2⟩ := ih (nx k) (by rw [nx_eq h0 (by omega)]; omega) (by rw [nx_eq h0 (by omega)]; omega)
    have hn : nx k + (cnt r cs : Nat) = k + (cnt (.b r) (.s (.bool x) :: cs) : Nat) := by rw [nx_eq h0 (by omega)]; simp only [cnt]; omega
    simp only [mk, hd, if_true]
    exact ⟨e1.trans (congrArg some hn), e2.trans hn⟩
  | @l e r cs rows _ _ _ ih1 ih2 =>
    intro k h0 h1
    simp only [cnt] at h1
    obtain ⟨e1, e2⟩ := mkR_held ih1 k h0 (by omega)
    obtain ⟨e3, e4⟩ := ih2 (k + cntR (cnt e) rows) (by omega) (by omega)
    have hn : k + (cntR (cnt e) rows : Nat) + (cnt r cs : Nat) = k + (cnt (.l e r) (.l rows :: cs) : Nat) := by simp only [cnt]; omega
    have hp : ps (ng (some (k + (cntR (cnt e) rows : Nat)))) = some (k + cntR (cnt e) rows) := ps_ok (by show ¬ (k + _ < (0 : Int)); omega)
    simp only [mk, hd, e1, e2, hp, Option.bind_some]
    exact ⟨e3.trans (congrArg some hn), e4.trans hn⟩
theorem cntR_le {f g : List Cell → Nat} {a b : Nat} : ∀ {rows : List (List Cell)}, (∀ row ∈ rows, f row ≤ a + b * g row) → cntR f rows ≤ a * rows.length + b * cntR g rows
  | [], _ => by simp [cntR]
  | r :: rows, h => by
    have h1 := h r (by simp)
    have h2 := cntR_le (rows := rows) (fun row hr => h row (by simp [hr]))
    simp only [cntR, List.length_cons, Nat.mul_add, Nat.mul_one]
    omega
theorem cnt_le {N : Nat} {e : Sh} {cs : List Cell} (h : WT N e cs) : cnt e cs ≤ wid e + mwid e * tot e cs := by
  induction h with
  | nil => simp [cnt]
  | i n _ ih => simp only [cnt, wid, mwid, tot]; omega
  | b x _ ih => simp only [cnt, wid, mwid, tot]; omega
  | @l e r cs rows _ _ _ ih1 ih2 =>
    simp only [cnt, wid, mwid, tot]
    have h1 := cntR_le ih1
    have h3 : (wid e + mwid e + mwid r) * (rows.length + cntR (tot e) rows + tot r cs) ≥ wid e * rows.length + mwid e * cntR (tot e) rows + mwid r * tot r cs := by
      have a1 : wid e * rows.length ≤ wid e * (rows.length + cntR (tot e) rows + tot r cs) := Nat.mul_le_mul_left _ (by omega)
      have a2 : mwid e * cntR (tot e) rows ≤ mwid e * (rows.length + cntR (tot e) rows + tot r cs) := Nat.mul_le_mul_left _ (by omega)
      have a3 : mwid r * tot r cs ≤ mwid r * (rows.length + cntR (tot e) rows + tot r cs) := Nat.mul_le_mul_left _ (by omega)
      simp only [Nat.add_mul]
      omega
    omega
def md (f : List Cell → Int → List Cell × Int) (rows : List (List Cell)) (k : Int) (i : Nat) : List (List Cell) := (mkR f (rows.take i) k).1 ++ rows.drop i
def mdk (f : List Cell → Int → List Cell × Int) (rows : List (List Cell)) (k : Int) (i : Nat) : Int := (mkR f (rows.take i) k).2
theorem mkR_append (f : List Cell → Int → List Cell × Int) : ∀ (xs ys : List (List Cell)) (k : Int), mkR f (xs ++ ys) k = ((mkR f xs k).1 ++ (mkR f ys (mkR f xs k).2).1, (mkR f ys (mkR f xs k).2).2)
  | [], ys, k => rfl
  | x :: xs, ys, k => by simp [mkR, mkR_append f xs]
section
variable {f : List Cell → Int → List Cell × Int} {rows : List (List Cell)} {k : Int} {i : Nat} {row : List Cell}
theorem take_succ_of (h : rows[i]? = some row) : rows.take (i + 1) = rows.take i ++ [row] := by rw [List.take_add_one, h]; rfl
theorem md_zero : md f rows k 0 = rows := by simp [md, mkR]
theorem mdk_zero : mdk f rows k 0 = k := by simp [mdk, mkR]
theorem md_all : md f rows k rows.length = (mkR f rows k).1 := by simp [md]
theorem mdk_all : mdk f rows k rows.length = (mkR f rows k).2 := by simp [mdk]
theorem md_len (h : i ≤ rows.length) : (md f rows k i).length = rows.length := by simp [md, mkR_len]; omega
theorem md_get (h : rows[i]? = some row) : (md f rows k i)[i]? = some row := by
  have hi := (List.getElem?_eq_some_iff.1 h).1
  unfold md
  rw [List.getElem?_append_right (by simp [mkR_len]; omega)]
  simp only [mkR_len, List.length_take, Nat.min_eq_left (Nat.le_of_lt hi), Nat.sub_self, List.getElem?_drop, Nat.add_zero]
  exact h
theorem mdk_succ (h : rows[i]? = some row) : mdk f rows k (i + 1) = (f row (mdk f rows k i)).2 := by
  unfold mdk; rw [take_succ_of h, mkR_append]; rfl
theorem md_set (h : rows[i]? = some row) : (md f rows k i).set i (f row (mdk f rows k i)).1 = md f rows k (i + 1) := by
  have hi := (List.getElem?_eq_some_iff.1 h).1
  have hl : (mkR f (rows.take i) k).1.length = i := by simp [mkR_len]; omega
  unfold md
  rw [take_succ_of h, mkR_append, List.set_append_right _ _ (by omega), hl, Nat.sub_self]
  have : rows.drop i = row :: rows.drop (i + 1) := by rw [List.drop_eq_getElem_cons hi]; rw [List.getElem?_eq_getElem hi] at h; cases h; rfl
  rw [this]
  simp [mkR, mdk]
end
theorem hdR_append (f : List Cell → Int → Option Int) : ∀ (xs ys : List (List Cell)) (k : Int), hdR f (xs ++ ys) k = (hdR f xs k).bind (hdR f ys)
  | [], ys, k => rfl
  | x :: xs, ys, k => by
    simp only [List.cons_append, hdR]
    cases f x k with
    | none => rfl
    | some v => exact hdR_append f xs ys v
theorem hdR_step {f : List Cell → Int → Option Int} {rows : List (List Cell)} {i : Nat} {row : List Cell} {k v : Int} (h : rows[i]? = some row) (hv : hdR f (rows.take i) k = some v) : hdR f (rows.take (i + 1)) k = f row v := by
  rw [take_succ_of h, hdR_append, hv]
  simp only [Option.bind_some, hdR]
  cases f row v <;> rfl
theorem hdR_none {f : List Cell → Int → Option Int} {rows : List (List Cell)} {i : Nat} {k : Int} (h : hdR f (rows.take i) k = none) : hdR f rows k = none := by
  rw [← List.take_append_drop i rows, hdR_append, h]; rfl
theorem mk_len {N : Nat} {e : Sh} {cs : List Cell} (h : WT N e cs) : ∀ k, (mk e cs k).1.length = cs.length := by
  induction h with
  | nil => exact fun k => rfl
  | i n _ ih => exact fun k => by simp [mk, ih]
  | b x _ ih => exact fun k => by simp [mk, ih]
  | l rows _ _ _ _ ih => exact fun k => by simp [mk, ih]
theorem mkR_rows0 {N : Nat} {e : Sh} : ∀ {rows : List (List Cell)}, (∀ row ∈ rows, WT N e row) → ∀ (k : Int) (j : Nat) (row row' : List Cell), rows[j]? = some row → (mkR (mk e) rows k).1[j]? = some row' → row'.length = row.length
  | [], _, k, j, row, row', h, _ => by simp at h
  | r :: rows, hw, k, 0, row, row', h, h' => by
    simp [mkR] at h h'
    subst h; subst h'
    exact mk_len (hw r (by simp)) k
  | r :: rows, hw, k, j + 1, row, row', h, h' => by
    simp [mkR] at h h'
    exact mkR_rows0 (fun x hx => hw x (by simp [hx])) _ j row row' h h'
theorem mkR_rows {N : Nat} {e : Sh} {rows : List (List Cell)} (hw : WR N e rows) {k : Int} : ∀ (j : Nat) (row row' : List Cell), rows[j]? = some row → (mkR (mk e) rows k).1[j]? = some row' → row'.length = row.length := mkR_rows0 hw.2 k
def szn (b : Int) (n : Nat) : Int := if b - n < 0 then -1 else b - n
theorem szn_le {b : Int} {n : Nat} (h : b ≤ 1048576) (h0 : 0 ≤ b) : szn b n ≤ 1048576 := by unfold szn; split <;> omega
theorem szn_add {b : Int} {m n : Nat} (h : 0 ≤ szn b m) : szn (szn b m) n = szn b (m + n) := by
  unfold szn at *; split at h
  · omega
  · rename_i h1; simp only [if_neg h1]; split <;> split <;> omega
theorem lset {α : Type} {xs : List α} {i n : Nat} {x : α} (h : xs.length = n) : (xs.set i x).length = n := List.length_set.trans h
theorem lsr {xs : List (List Cell)} {i k n : Nat} {c : Cell} (h : xs.length = n) : (setRow xs i k c).length = n := setRow_len.trans h
theorem gset {α : Type} {xs : List α} {i n : Nat} {x : α} (h : xs.length = n) (hi : i < n) : (xs.set i x)[i]? = some x := get_set (h ▸ hi)
theorem ssr {xs : List (List Cell)} {i k : Nat} {c : Cell} {r : List Cell} (h : i < xs.length) : setRow (xs.set i r) i k c = xs.set i (r.set k c) := by rw [setRow_eq (get_set h), List.set_set]
theorem cwi {k : IntKind} {n m : Int} (h : -9223372036854775808 ≤ n) (h2 : n ≤ 9223372036854775807) (e : n = m) : Cell.s (.int k (IntKind.i64.wrap n)) = Cell.s (.int k m) := by rw [wrap_i64 h h2, e]
theorem totR_leaf {N : Nat} {e : Sh} {rows : List (List Cell)} (h : ∀ row, WT N e row → tot e row = 0) (hw : WR N e rows) : totR e rows = rows.length := by
  have : ∀ rows : List (List Cell), (∀ row ∈ rows, WT N e row) → cntR (tot e) rows = 0 := by
    intro rows
    induction rows with
    | nil => intro _; rfl
    | cons r rows ih => intro hr; rw [cntR, h r (hr r (by simp)), ih (fun x hx => hr x (by simp [hx]))]
  rw [totR, this rows hw.2, Nat.add_zero]
theorem take_succ_eq {α : Type} {xs ys : List α} {i : Nat} {a : α} (h : xs.take i = ys.take i) (hx : xs[i]? = some a) (hy : ys[i]? = some a) : xs.take (i + 1) = ys.take (i + 1) := by
  rw [List.take_add_one, List.take_add_one, h, hx, hy]
noncomputable def dE {α : Type} (p q : α) : Bool := open Classical in decide (p = q)
theorem dE_no {α : Type} {p q : α} (h : p ≠ q) : Value.bool false = Value.bool (dE p q) := by simp [dE, h]
theorem dE_yes {α : Type} {p q : α} (h : p = q) : Value.bool true = Value.bool (dE p q) := by simp [dE, h]
theorem nE_ne {α : Type} {p q : α} (h : (!dE p q) = true) : p ≠ q := by simpa [dE] using h
theorem nE_eq {α : Type} {p q : α} (h : (!dE p q) = false) : p = q := by simpa [dE] using h
abbrev i64 (n : Int) : Cell := .s (.int .i64 n)
abbrev rI (n : Int) : Res := .one (.own false [.s (.int .i64 n)])
abbrev rB (b : Bool) : Res := .one (.own false [.s (.bool b)])
end Go.Sx
end
section
namespace Go.Sx
open Go.Maps (Keyed)
section
variable {P : Program} [Tabled P] {Q : Ex → St → Prop} {st st1 : List Fr} {σ σ1 : St} {g : Bool} {o : Oper} {t : TypeId} {m x : Operand} {β k e n : Nat} {D : DataW Unit} {q : IntKind}
theorem xmkmap {r : Nat} (h : exec 2000 (Tabled.F P) st σ = .raw g σ1 o st1) (ho : o.op = .makeMap t none) (hd : o.dst = some r) (hu : P.underlying t = some (.map k e)) (hn : get σ1.b r = none)
    (h1 : G P Q st1 none ⟨(r, .one (.mx 0 r)) :: σ1.t, pset σ1.b r (.mp k e 0 (.map []) none)⟩) : G P Q st none σ :=
  xraw h (by simp only [opL, ho]; exact ⟨r, k, e, rfl, hd, hu, hn, h1⟩)
theorem xlook {av : AV} {key : Value} {kl : Lit} (h : exec 2000 (Tabled.F P) st σ = .raw g σ1 o st1) (ho : o.op = .lookup t m x false) (hm : ev σ1 m = some (.one (.mx 0 β))) (hb : get σ1.b β = some (.mp k e n D none))
    (hu : P.underlying t = some (.map k e)) (he : P.underlying e = some (.int q)) (hK : Keyed P k) (hz : ∀ w, (zeroValue e).run P w = .ok (.int q 0) w) (hx : ev σ1 x = some av) (hv : valOf av = some key) (hkey : keyOf P k key = some kl)
    (h1 : ∀ c, D.atKey kl (.lit (.int q 0)) = .lit (.int q c) → (Lit.int q c).wf = true → G P Q st1 none (σ1.put o.dst (.one (.b (.s (.int q c)))))) : G P Q st none σ :=
  xraw h (by simp only [opL, ho]; exact .inl ⟨β, k, e, n, D, q, kl, av, key, rfl, hm, hb, hu, he, hK, hz, hx, hv, hkey, h1⟩)
theorem xupd {v : Operand} {av : AV} {key : Value} {kl : Lit} {c : Int} (h : exec 2000 (Tabled.F P) st σ = .raw g σ1 o st1) (ho : o.op = .mapUpdate t m x v) (hd : o.dst = none) (hm : ev σ1 m = some (.one (.mx 0 β))) (hb : get σ1.b β = some (.mp k e n D none))
    (hu : P.underlying t = some (.map k e)) (he : P.underlying e = some (.int q)) (hK : Keyed P k) (hn : n < maxLen) (hx : ev σ1 x = some av) (hv : valOf av = some key) (hkey : keyOf P k key = some kl) (hc : ev σ1 v = some (.one (.b (.s (.int q c))))) (hw : (Lit.int q c).wf = true)
    (h1 : G P Q st1 none ⟨σ1.t, pset σ1.b β (.mp k e (n + 1) (D.put kl (.lit (.int q c))) none)⟩) : G P Q st none σ :=
  xraw h (by simp only [opL, ho]; exact ⟨β, k, e, n, D, q, kl, av, key, c, hd, hm, hb, hu, he, hK, hn, hx, hv, hkey, hc, hw, h1⟩)
theorem xrange {r : Nat} (h : exec 2000 (Tabled.F P) st σ = .raw g σ1 o st1) (ho : o.op = .range t m) (hd : o.dst = some r) (hm : ev σ1 m = some (.one (.mx 0 β))) (hb : get σ1.b β = some (.mp k e n D none)) (hr : get σ1.b r = none)
    (hu : P.underlying t = some (.map k e)) (hK : Keyed P k)
    (h1 : G P Q st1 none ⟨(r, .one (.mx 1 r)) :: σ1.t, pset (pset σ1.b β .dead) r (.mp k e n D (some (Maps.has D, Maps.size D, none)))⟩) : G P Q st none σ :=
  xraw h (by simp only [opL, ho]; exact ⟨r, β, k, e, n, D, hd, hm, hb, hr, hu, hK, h1⟩)
theorem xnext {r : Nat} {left : Lit → Bool} {cnt : Nat} {cur : Option (Value × Value)} (h : exec 2000 (Tabled.F P) st σ = .raw g σ1 o st1) (ho : o.op = .next m false) (hd : o.dst = some r) (hm : ev σ1 m = some (.one (.mx 1 β))) (hb : get σ1.b β = some (.mp k e n D (some (left, cnt, cur))))
    (hK : Keyed P k) (he : P.underlying e = some (.int q))
    (h0 : cnt = 0 → (∀ kl, left kl = false) → G P Q st1 none ⟨(r, .tup [.one (.b (.s (.bool false)))]) :: σ1.t, σ1.b⟩)
    (h1 : ∀ key kl c cnt', keyOf P k key = some kl → left kl = true → (∀ zd, D.atKey kl zd = .lit (.int q c)) → (Lit.int q c).wf = true → cnt' < cnt →
      ∃ av, ofVal key = some av ∧ (∀ vs, av ≠ .tup vs) ∧ G P Q st1 none ⟨(r, .tup [.one (.b (.s (.bool true))), av, .one (.b (.s (.int q c)))]) :: σ1.t, pset σ1.b β (.mp k e n D (some ((fun z => left z && !z.sameKey kl), cnt', some (key, .int q c))))⟩) : G P Q st none σ :=
  xraw h (by simp only [opL, ho]; exact ⟨r, β, k, e, n, D, left, cnt, cur, q, rfl, hd, hm, hb, hK, he, h0, h1⟩)
theorem xnexti {r : Nat} {qk : IntKind} {left : Lit → Bool} {cnt : Nat} {cur : Option (Value × Value)} (h : exec 2000 (Tabled.F P) st σ = .raw g σ1 o st1) (ho : o.op = .next m false) (hd : o.dst = some r) (hm : ev σ1 m = some (.one (.mx 1 β))) (hb : get σ1.b β = some (.mp k e n D (some (left, cnt, cur))))
    (hK : Keyed P k) (hk : P.underlying k = some (.int qk)) (he : P.underlying e = some (.int q))
    (h0 : cnt = 0 → (∀ kl, left kl = false) → G P Q st1 none ⟨(r, .tup [.one (.b (.s (.bool false)))]) :: σ1.t, σ1.b⟩)
    (h1 : ∀ y c cnt', left (.int qk y) = true → (∀ zd, D.atKey (.int qk y) zd = .lit (.int q c)) → (Lit.int q c).wf = true → cnt' < cnt →
      G P Q st1 none ⟨(r, .tup [.one (.b (.s (.bool true))), .one (.b (.s (.int qk y))), .one (.b (.s (.int q c)))]) :: σ1.t, pset σ1.b β (.mp k e n D (some ((fun z => left z && !z.sameKey (.int qk y)), cnt', some (.int qk y, .int q c))))⟩) : G P Q st none σ :=
  xnext h ho hd hm hb hK he h0 (fun key kl c cnt' hkey hl hat hw hlt => by
    obtain ⟨y, rfl, rfl, _⟩ := Maps.keyOf_int_inv hk hkey
    exact ⟨.one (.b (.s (.int qk y))), rfl, fun vs h => (nomatch h), h1 y c cnt' hl hat hw hlt⟩)
theorem xentry {r : Nat} {left : Lit → Bool} {cnt : Nat} {key u : Value} {av av' : AV} (h : exec 2000 (Tabled.F P) st σ = .raw g σ1 o st1) (ho : o.op = .entry m) (hd : o.dst = some r) (hm : ev σ1 m = some (.one (.mx 1 β))) (hb : get σ1.b β = some (.mp k e n D (some (left, cnt, some (key, u)))))
    (h2 : ofVal key = some av) (h3 : ofVal u = some av') (h4 : ∀ vs, av ≠ .tup vs) (h5 : ∀ vs, av' ≠ .tup vs) (h1 : G P Q st1 none ⟨(r, .tup [av, av']) :: σ1.t, σ1.b⟩) : G P Q st none σ :=
  xraw h (by simp only [opL, ho]; exact ⟨r, β, k, e, n, D, left, cnt, key, u, av, av', hd, hm, hb, h2, h4, h3, h5, h1⟩)
end
end Go.Sx
end
section
namespace Go.Sx
open Go.RowKit
def Sh.len : Sh → Nat
  | .nil => 0
  | .i _ r => r.len + 1
  | .b r => r.len + 1
  | .l _ r => r.len + 1
def Sh.app : Sh → Sh → Sh
  | .nil, t => t
  | .i k r, t => .i k (r.app t)
  | .b r, t => .b (r.app t)
  | .l e r, t => .l e (r.app t)
theorem WT.len {N : Nat} {s : Sh} {cs : List Cell} (h : WT N s cs) : cs.length = s.len := by
  induction h with
  | nil => rfl
  | i n _ ih => simp [Sh.len, ih]
  | b x _ ih => simp [Sh.len, ih]
  | l rows _ _ _ _ ih => simp [Sh.len, ih]
section
variable {P : Program} {t e : TypeId}
end
end Go.Sx
end
section
namespace Go.Sx
open Go.RowKit
inductive WB (N : Nat) : Sh → List Cell → Prop
  | nil : WB N .nil []
  | i {k : IntKind} {r : Sh} {cs : List Cell} (n : Int) : (Lit.int k n).wf = true → WB N r cs → WB N (.i k r) (.s (.int k n) :: cs)
  | b {r : Sh} {cs : List Cell} (x : Bool) : WB N r cs → WB N (.b r) (.s (.bool x) :: cs)
  | l {e r : Sh} {cs : List Cell} (rows : List (List Cell)) : rows.length ≤ N → (∀ row ∈ rows, WB N e row) → WB N r cs → WB N (.l e r) (.l rows :: cs)
theorem WB.wt {N : Nat} {s : Sh} {cs : List Cell} (h : WB N s cs) : WT N s cs := by
  induction h with
  | nil => exact .nil
  | i n _ _ ih => exact .i n ih
  | b x _ ih => exact .b x ih
  | l rows h1 _ _ ih1 ih2 => exact .l rows h1 ih1 ih2
theorem WB.app {N : Nat} {s t : Sh} {xs ys : List Cell} (h : WB N s xs) (k : WB N t ys) : WB N (s.app t) (xs ++ ys) := by
  induction h with
  | nil => exact k
  | i n hw _ ih => exact .i n hw ih
  | b x _ ih => exact .b x ih
  | l rows h1 h2 _ _ ih => exact .l rows h1 h2 ih
theorem WB.inv_i {N : Nat} {k : IntKind} {r : Sh} {cs : List Cell} (h : WB N (.i k r) cs) : ∃ n cs', cs = .s (.int k n) :: cs' ∧ (Lit.int k n).wf = true ∧ WB N r cs' := by
  cases h with
  | i n h1 h2 => exact ⟨n, _, rfl, h1, h2⟩
theorem WB.inv_l {N : Nat} {e r : Sh} {cs : List Cell} (h : WB N (.l e r) cs) : ∃ rows cs', cs = .l rows :: cs' ∧ (∀ row ∈ rows, WB N e row) ∧ WB N r cs' := by
  cases h with
  | l rows h1 h2 h3 => exact ⟨rows, _, rfl, h2, h3⟩
theorem WB.bytes {N : Nat} {row : List Cell} (h : WB N (.i .u8 .nil) row) : ∃ n : Int, row = [.s (.int .u8 n)] ∧ 0 ≤ n ∧ n ≤ 255 := by
  obtain ⟨n, _, rfl, h1, h2⟩ := h.inv_i
  cases h2
  refine ⟨n, rfl, ?_⟩
  simp only [Lit.wf, beq_iff_eq, decide_eq_true_eq, Bool.and_eq_true] at h1
  exact h1
abbrev OB (P : Program) (t : TypeId) (s : Sh) : Prop := Opens P t s.len (fun a : {cs : List Cell // WB 9223372036854775807 s cs} => a.1) (fun _ => True)
abbrev OBF (P : Program) (fs : List Field) (s : Sh) : Prop := OpensF P fs s.len (fun a : {cs : List Cell // WB 9223372036854775807 s cs} => a.1) (fun _ => True)
section
variable {P : Program} {t e : TypeId}
theorem OB.mk {sz : Nat} {α : Type} {f : α → List Cell} {G : α → Prop} {s : Sh} (h : Opens P t sz f G) (hz : sz = s.len) (hw : ∀ a, G a → WB 9223372036854775807 s (f a)) : OB P t s :=
  ⟨h.hsz.trans hz, fun a => a.2.wt.len, fun enc w base spare held fuel cs x hx => by
    obtain ⟨a, h1, h2⟩ := h.get enc w base spare held fuel cs x hx
    exact ⟨⟨f a, hw a h2⟩, h1, trivial⟩⟩
theorem ob_int {k : IntKind} (ht : P.underlying t = some (.int k)) (hc : P.cellsOf t = 1) : OB P t (.i k .nil) := .mk (opens_int ht hc) rfl fun n h => .i n h .nil
theorem ob_slice {s : Sh} (ht : P.underlying t = some (.slice e)) (hc : P.cellsOf t = 1) (he : OB P e s) : OB P t (.l s .nil) := .mk (opens_slice ht hc he) rfl fun l hl => .l _ (by
    have h : l.length ≤ maxLen := hl.1
    rw [List.length_map]; exact h) (fun row hr => by
    obtain ⟨a, _, rfl⟩ := List.mem_map.1 hr
    exact a.2) .nil
theorem obf_one {fd : Field} {s : Sh} (h : OB P fd.type s) : OBF P [fd] s := opensF_one h
theorem obf_cons {fd : Field} {fs : List Field} {s t u : Sh} (h : OB P fd.type s) (k : OBF P fs t) (hu : s.app t = u) (hl : s.len + t.len = u.len) : OBF P (fd :: fs) u := by
  have hc := opensF_cons h k
  subst hu
  refine ⟨fun a => a.2.wt.len, fun enc w base spare held fuel cs hn hx => ?_⟩
  obtain ⟨a, h1, _⟩ := hc.2 enc w base spare held fuel cs (hn.trans hl.symm) hx
  exact ⟨⟨_, a.1.2.app a.2.2⟩, h1, trivial⟩
theorem ob_struct {fs : List Field} {s : Sh} (ht : P.underlying t = some (.struct fs.toArray)) (hc : P.cellsOf t = s.len) (hL : Laid P 0 fs) (hF : OBF P fs s) : OB P t s :=
  opens_struct (fun a => a) (fun _ => rfl) (fun _ h => h) (fun b => b.2.wt.len) ht hc hL hF
theorem arg_sb {fs : Array Field} {s : Sh} (ht : P.underlying t = some (.struct fs)) (he : OB P t s) {H : Type} {enc : TypeId × Value → H} {w : World} {r : Reach} {b : Nat} {v : Value} {dd : DataW H} {ps : List MemPlace}
    (hv : Value.okWide P w r b t v) (h : DataW.Trod enc P w 0 (fun _ => true) true t v dd ps) : ∃ cs : List Cell, RepV w (fun _ => True) (.agg cs) v ∧ WB 9223372036854775807 s cs := by
  obtain ⟨a, h1, _⟩ := arg_struct ht he hv h
  exact ⟨a.1, h1, a.2⟩
end
end Go.Sx
end
section
namespace Go.Sx
def ocCell : OC → Cell
  | .s v => .s v
  | .l _ rows => .l rows
theorem PC.lend {P : Program} {f : Nat} {args : List SV} {ag : Bool} {cs : List OC} (h : PC P f args (.one (.own ag cs))) : PC P f args (.one (.bor ag (cs.map ocCell))) := by
  refine ⟨h.1, fun N w vals ha => (h.2 N w vals ha).mono ?_⟩
  rintro e w' ⟨v, S, rfl, hk, ⟨arr, F, h1, h2, h3, _, h5⟩, hS⟩
  refine ⟨v, fun _ => False, rfl, hk, ⟨arr, h1, by simp [h2], fun k c u hc hu => ?_⟩, fun x hx => hx.elim⟩
  rw [List.getElem?_map] at hc
  cases ho : cs[k]? with
  | none => rw [ho] at hc; cases hc
  | some oc =>
    rw [ho] at hc
    cases hc
    have h6 := h5 k oc u ho hu
    cases oc with
    | s x => obtain ⟨rfl, h7⟩ := h6; exact .s _ h7
    | l sz rows =>
      obtain ⟨sz', _, h7⟩ := h6
      exact (own_slab.2 ⟨sz', h7⟩).rep fun x hx => ⟨.inr (hS x (h3 k x hx)).1, fun h => h⟩
end Go.Sx
end
section
namespace Go.Sx
theorem gm {α β : Type} {xs : List α} {i : Nat} {x : α} (f : α → β) (h : xs[i]? = some x) : (xs.map f)[i]? = some (f x) := by rw [List.getElem?_map, h]; rfl
theorem gx {α : Type} {xs : List α} {i : Nat} (h : i < xs.length) : ∃ x, xs[i]? = some x := ⟨_, List.getElem?_eq_getElem h⟩
def scan (f : Nat → Int) : Nat → Int
  | 0 => 0
  | n + 1 => if scan f n ≠ 0 then scan f n else f n
theorem scan_zero {f : Nat → Int} : ∀ {n : Nat}, (∀ j, j < n → f j = 0) → scan f n = 0
  | 0, _ => rfl
  | n + 1, h => by rw [scan, scan_zero (fun j hj => h j (by omega)), h n (by omega)]; simp
theorem scan_all {f : Nat → Int} : ∀ {n : Nat}, scan f n = 0 → ∀ j, j < n → f j = 0
  | n + 1, h, j, hj => by
    rw [scan] at h
    split at h
    · rename_i h1; exact absurd h h1
    · rename_i h1
      have h1 : scan f n = 0 := by simpa using h1
      rcases Nat.lt_or_ge j n with h2 | h2
      · exact scan_all h1 j h2
      · have : j = n := by omega
        subst this; exact h
theorem scan_hit {f : Nat → Int} {i : Nat} (h0 : ∀ j, j < i → f j = 0) (h : f i ≠ 0) : ∀ {n : Nat}, i < n → scan f n = f i
  | n + 1, hi => by
    rw [scan]
    rcases Nat.lt_or_ge i n with h2 | h2
    · have := scan_hit h0 h h2
      rw [this, if_pos h]
    · have : i = n := by omega
      subst this
      rw [scan_zero h0]; simp
theorem scan_step {f : Nat → Int} {i : Nat} (h0 : ∀ j, j < i → f j = 0) (h : f i = 0) : ∀ j, j < i + 1 → f j = 0 := fun j hj => by
  rcases Nat.lt_or_ge j i with h2 | h2
  · exact h0 j h2
  · have : j = i := by omega
    subst this; exact h
def within (n lo hi : Int) : Bool := decide (lo ≤ n) && decide (n ≤ hi)
theorem within_iff {n lo hi : Int} : within n lo hi = true ↔ lo ≤ n ∧ n ≤ hi := by simp [within]
def orr : List Int → Int
  | [] => 0
  | x :: xs => if x ≠ 0 then x else orr xs
theorem orr_hit : ∀ {xs : List Int} {i : Nat} {x : Int}, xs[i]? = some x → (∀ (j : Nat) (y : Int), j < i → xs[j]? = some y → y = 0) → x ≠ 0 → orr xs = x
  | y :: xs, 0, x, h, _, hx => by simp at h; subst h; rw [orr, if_pos hx]
  | y :: xs, i + 1, x, h, h0, hx => by
    rw [orr, if_neg (by simpa using h0 0 y (by omega) rfl)]
    exact orr_hit (by simpa using h) (fun j z hj hz => h0 (j + 1) z (by omega) (by simpa using hz)) hx
structure Leg where
  (s a b v : Int)
abbrev Leg.cs (l : Leg) : List Cell := [i64 l.s, i64 l.a, i64 l.b, i64 l.v]
def Leg.bad (l : Leg) : Bool := !(within l.s 0 2 && within l.a 0 5 && within l.b 0 2 && within l.v (-1000000000000) 1000000000000)
def Leg.fault (l : Leg) : Int := if l.bad then 3 else if l.v = 0 then 1 else 0
def Leg.same (l m : Leg) : Bool := l.s == m.s && l.a == m.a && l.b == m.b
structure Con where
  id : Int
  legs : List Leg
abbrev Con.cs (c : Con) : List Cell := [i64 c.id, .l (c.legs.map Leg.cs)]
theorem miss_step {α : Type} {xs : List α} {i : Nat} {x : α} {p : α → Prop} (hx : xs[i]? = some x) (h : ∀ (j : Nat) (y : α), j < i → xs[j]? = some y → p y) (hp : p x) : ∀ (j : Nat) (y : α), j < i + 1 → xs[j]? = some y → p y := fun j y hj hy => by
  rcases Nat.lt_or_ge j i with h2 | h2
  · exact h j y h2 hy
  · have : j = i := by omega
    subst this; rw [hx] at hy; cases hy; exact hp
theorem miss_all {α : Type} {xs : List α} {i : Nat} {p : α → Prop} (hi : i = xs.length) (h : ∀ (j : Nat) (y : α), j < i → xs[j]? = some y → p y) : ∀ (j : Nat) (y : α), xs[j]? = some y → p y := fun j y hy => h j y (by have := (List.getElem?_eq_some_iff.1 hy).1; omega) hy
theorem vi {a b : Int} (h : a = b) : Value.int .i64 a = Value.int .i64 b := by rw [h]
theorem vb {a b : Bool} (h : a = b) : Value.bool a = Value.bool b := by rw [h]
theorem lcr {B B' : List (Nat × AB)} : ∀ {l : List Cell}, leCs B B' (l.map .b) (l.map .b)
  | [] => trivial
  | _ :: l => ⟨rfl, lcr (l := l)⟩
def idxP {α : Type} (p : α → Bool) : List α → Int
  | [] => -1
  | x :: l => if p x then 0 else if idxP p l < 0 then -1 else idxP p l + 1
theorem idxP_hit {α : Type} {p : α → Bool} : ∀ {l : List α} {i : Nat} {x : α}, l[i]? = some x → (∀ (j : Nat) (y : α), j < i → l[j]? = some y → p y = false) → p x = true → idxP p l = i
  | y :: l, 0, x, h, _, hx => by simp at h; subst h; rw [idxP, if_pos hx]; rfl
  | y :: l, i + 1, x, h, h0, hx => by
    have ih := idxP_hit (l := l) (by simpa using h) (fun j z hj hz => h0 (j + 1) z (by omega) (by simpa using hz)) hx
    rw [idxP, if_neg (by rw [h0 0 y (by omega) rfl]; decide), ih, if_neg (by omega)]
    omega
theorem idxP_none {α : Type} {p : α → Bool} : ∀ {l : List α}, (∀ (j : Nat) (y : α), l[j]? = some y → p y = false) → idxP p l = -1
  | [], _ => rfl
  | y :: l, h => by
    rw [idxP, if_neg (by rw [h 0 y rfl]; decide), idxP_none (l := l) (fun j z hz => h (j + 1) z (by simpa using hz))]
    rfl
theorem idxP_any {α : Type} {p : α → Bool} : ∀ {l : List α}, decide (idxP p l ≥ 0) = l.any p
  | [] => rfl
  | y :: l => by
    have ih := idxP_any (p := p) (l := l)
    rw [idxP, List.any_cons]
    by_cases h : p y = true
    · rw [if_pos h, h]; rfl
    · rw [if_neg h, show p y = false by simpa using h, Bool.false_or, ← ih]
      by_cases h2 : idxP p l < 0
      · rw [if_pos h2, show decide (idxP p l ≥ 0) = false by simp; omega]; rfl
      · rw [if_neg h2, show decide (idxP p l ≥ 0) = true by simp; omega]; simp; omega
theorem any_hit {α : Type} {p : α → Bool} {l : List α} {i : Nat} {x : α} (h : l[i]? = some x) (hx : p x = true) : true = l.any p := (List.any_eq_true.2 ⟨x, List.mem_of_getElem? h, hx⟩).symm
theorem any_none {α : Type} {p : α → Bool} {l : List α} (h : ∀ (j : Nat) (y : α), l[j]? = some y → p y = false) : false = l.any p := by
  rw [eq_comm, List.any_eq_false]
  intro x hx
  obtain ⟨j, hj⟩ := List.mem_iff_getElem?.1 hx
  rw [h j x hj]; decide
end Go.Sx
end
section
namespace Go.Sx
def sumA (l : List Leg) (a : Int) : Int := (l.map fun x => if x.b = a then x.v else 0).sum
def sumsBad (l : List Leg) : Bool := decide (sumA l 0 ≠ 0) || (decide (sumA l 1 ≠ 0) || decide (sumA l 2 ≠ 0))
def conF (l : List Leg) (i : Nat) : Int := match l[i]? with | some x => if x.fault ≠ 0 then x.fault else if (l.take i).any (fun y => y.same x) then 7 else 0 | none => 0
def conFault (c : Con) : Int := if within c.id 1 1000000000 then (if 2 ≤ c.legs.length ∧ c.legs.length ≤ 8 then (if scan (conF c.legs) c.legs.length ≠ 0 then scan (conF c.legs) c.legs.length else if sumsBad c.legs then 1 else 0) else 2) else 3
theorem sumA_snoc (l : List Leg) (x : Leg) (a : Int) : sumA (l ++ [x]) a = sumA l a + if x.b = a then x.v else 0 := by simp [sumA]
theorem sumA_step {l : List Leg} {i : Nat} {x : Leg} (h : l[i]? = some x) (a : Int) : sumA (l.take (i + 1)) a = sumA (l.take i) a + if x.b = a then x.v else 0 := by
  rw [List.take_add_one, h]; exact sumA_snoc _ _ _
def Leg.small (x : Leg) : Prop := -1000000000000 ≤ x.v ∧ x.v ≤ 1000000000000
theorem Leg.fault_ok {x : Leg} (h : x.fault = 0) : (0 ≤ x.s ∧ x.s ≤ 2) ∧ (0 ≤ x.a ∧ x.a ≤ 5) ∧ (0 ≤ x.b ∧ x.b ≤ 2) ∧ x.small ∧ x.v ≠ 0 := by
  unfold Leg.fault at h
  split at h
  · omega
  · rename_i hb
    split at h
    · omega
    · rename_i hv
      simp [Leg.bad, within] at hb
      unfold Leg.small
      omega
theorem sumA_bd : ∀ (l : List Leg) (a : Int), (∀ x ∈ l, x.small) → -1000000000000 * (l.length : Int) ≤ sumA l a ∧ sumA l a ≤ 1000000000000 * (l.length : Int)
  | [], a, _ => by simp [sumA]
  | x :: l, a, h => by
    have h1 := sumA_bd l a (fun y hy => h y (List.mem_cons_of_mem _ hy))
    have h2 := h x List.mem_cons_self
    unfold Leg.small at h2
    have e : sumA (x :: l) a = (if x.b = a then x.v else 0) + sumA l a := by simp [sumA]
    rw [e, List.length_cons]
    split <;> omega
theorem sumA_none : ∀ (l : List Leg) (a : Int), (∀ x ∈ l, x.b ≠ a) → sumA l a = 0
  | [], _, _ => rfl
  | x :: l, a, h => by
    have e : sumA (x :: l) a = (if x.b = a then x.v else 0) + sumA l a := by simp [sumA]
    rw [e, if_neg (h x List.mem_cons_self), sumA_none l a (fun y hy => h y (List.mem_cons_of_mem _ hy))]
    rfl
theorem conF_small {l : List Leg} {i : Nat} (h : ∀ j, j < i → conF l j = 0) : ∀ x ∈ l.take i, x.fault = 0 := fun x hx => by
  obtain ⟨j, hj⟩ := List.mem_iff_getElem?.1 hx
  rw [List.getElem?_take] at hj
  split at hj
  · rename_i hlt
    have := h j hlt
    simp only [conF, hj] at this
    split at this
    · exact absurd this ‹_›
    · simp_all
  · cases hj
theorem sumsBad_no {l : List Leg} (h : ∀ a, sumA l a = 0) : sumsBad l = false := by simp [sumsBad, h]
theorem sumsBad_yes {l : List Leg} (hf : ∀ x ∈ l, x.fault = 0) {a : Int} (h : sumA l a ≠ 0) : sumsBad l = true := by
  have : ∃ x ∈ l, x.b = a := by
    by_cases hx : ∃ x ∈ l, x.b = a
    · exact hx
    · exact absurd (sumA_none l a (fun x hm e => hx ⟨x, hm, e⟩)) h
  obtain ⟨x, hm, rfl⟩ := this
  have h0 := (Leg.fault_ok (hf x hm)).2.2.1
  have : x.b = 0 ∨ x.b = 1 ∨ x.b = 2 := by omega
  rcases this with e | e | e <;> rw [e] at h <;> simp [sumsBad, h]
def rows3 (l : List Leg) : List (List Cell) := [[i64 (sumA l 0)], [i64 (sumA l 1)], [i64 (sumA l 2)]]
theorem rows3_get {l : List Leg} {b : Int} (h0 : 0 ≤ b) (h2 : b ≤ 2) : (rows3 l)[b.toNat]? = some [i64 (sumA l b)] := by
  have : b = 0 ∨ b = 1 ∨ b = 2 := by omega
  rcases this with rfl | rfl | rfl <;> rfl
theorem rows3_step {l : List Leg} {i : Nat} {x : Leg} (hi : l[i]? = some x) (h0 : 0 ≤ x.b) (h2 : x.b ≤ 2) (hd : ∀ y ∈ l.take i, y.fault = 0) (hx : x.fault = 0) (hn : i ≤ 8) :
    (rows3 (l.take i)).set x.b.toNat [i64 (IntKind.i64.wrap (sumA (l.take i) x.b + x.v))] = rows3 (l.take (i + 1)) := by
  have hb := sumA_bd (l.take i) x.b (fun y hy => (Leg.fault_ok (hd y hy)).2.2.2.1)
  have hs := (Leg.fault_ok hx).2.2.2.1
  unfold Leg.small at hs
  have hlen : (l.take i).length ≤ 8 := by rw [List.length_take]; omega
  rw [wrap_i64 (by omega) (by omega)]
  unfold rows3
  rw [sumA_step hi, sumA_step hi, sumA_step hi]
  have : x.b = 0 ∨ x.b = 1 ∨ x.b = 2 := by omega
  rcases this with e | e | e <;> rw [e] <;> simp
def SM (l : List Leg) (D : DataW Unit) : Prop := Maps.IsMap D ∧ ∀ a : Int, D.atKey (.int .i64 a) (.lit (.int .i64 0)) = .lit (.int .i64 (sumA l a))
theorem SM_nil : SM [] (.map []) := ⟨Maps.isMap_empty, fun _ => rfl⟩
theorem lit_inj {k : IntKind} {a b : Int} (h : (DataW.lit (.int k a) : DataW Unit) = .lit (.int k b)) : a = b := by simpa using h
theorem SM_wrap {l : List Leg} {i : Nat} {x : Leg} {D : DataW Unit} (h : SM (l.take i) D) (hx : x.fault = 0) (hd : ∀ y ∈ l.take i, y.fault = 0) (hn : i ≤ 8) {c : Int} (hc : D.atKey (.int .i64 x.b) (.lit (.int .i64 0)) = .lit (.int .i64 c)) :
    c = sumA (l.take i) x.b ∧ IntKind.i64.wrap (c + x.v) = sumA (l.take i) x.b + x.v := by
  have e : c = sumA (l.take i) x.b := lit_inj (hc.symm.trans (h.2 x.b))
  have b := sumA_bd (l.take i) x.b (fun y hy => (Leg.fault_ok (hd y hy)).2.2.2.1)
  have hs := (Leg.fault_ok hx).2.2.2.1
  unfold Leg.small at hs
  have hlen : (l.take i).length ≤ 8 := by rw [List.length_take]; omega
  refine ⟨e, ?_⟩
  rw [e, wrap_i64 (by omega) (by omega)]
theorem SM_step {l : List Leg} {i : Nat} {x : Leg} {D : DataW Unit} (h : SM (l.take i) D) (hi : l[i]? = some x) (hx : x.fault = 0) (hd : ∀ y ∈ l.take i, y.fault = 0) (hn : i ≤ 8) {c : Int} (hc : D.atKey (.int .i64 x.b) (.lit (.int .i64 0)) = .lit (.int .i64 c)) :
    SM (l.take (i + 1)) (D.put (.int .i64 x.b) (.lit (.int .i64 (IntKind.i64.wrap (c + x.v))))) := by
  refine ⟨h.1.put _ _, fun a => ?_⟩
  rw [sumA_step hi, (SM_wrap h hx hd hn hc).2]
  by_cases ha : x.b = a
  · rw [if_pos ha, ← ha]
    exact Maps.atKey_put_same (k := .int .i64 x.b) h.1 trivial _ _
  · rw [if_neg ha, Maps.atKey_put_other (by intro e'; injection e' with _ e'; exact ha e'.symm), h.2 a]
    simp
theorem wfi {n : Int} (h1 : -9223372036854775808 ≤ n) (h2 : n ≤ 9223372036854775807) : (Lit.int .i64 n).wf = true := by
  simp [Lit.wf, IntKind.min, IntKind.max, IntKind.signed, IntKind.bits]; omega
theorem nextOk {l : List Leg} {left : Lit → Bool} {y c : Int} (h : ∀ a : Int, left (.int .i64 a) = false → sumA l a = 0) (hc : sumA l y = c) (h0 : c = 0) : ∀ a : Int, (left (.int .i64 a) && !(Lit.int .i64 a).sameKey (.int .i64 y)) = false → sumA l a = 0 := fun a ha => by
  by_cases e : a = y
  · subst e; rw [hc]; exact h0
  · refine h a ?_
    have h1 : (Lit.int IntKind.i64 a).sameKey (Lit.int IntKind.i64 y) = false := Maps.sameKey_ne (fun h => e (by injection h))
    simpa [h1] using ha
theorem SM_left {l : List Leg} {D : DataW Unit} (h : SM l D) : ∀ a : Int, Maps.has D (.int .i64 a) = false → sumA l a = 0 := fun a ha => lit_inj ((h.2 a).symm.trans (Maps.atKey_of_not_has ha _))
theorem SM_at {l : List Leg} {D : DataW Unit} (h : SM l D) {y c : Int} (hat : ∀ zd, D.atKey (.int .i64 y) zd = .lit (.int .i64 c)) : sumA l y = c := lit_inj ((h.2 y).symm.trans (hat _))
end Go.Sx
end
section
namespace Go.Sx
theorem mark_cnt {N : Nat} {e : Sh} {rows : List (List Cell)} (hw : WR N e rows) : cntR (cnt e) rows ≤ wid e * rows.length + mwid e * cntR (tot e) rows :=
  cntR_le fun row hr => cnt_le (hw.2 row hr)
theorem mark_one {N : Nat} {e : Sh} {rows : List (List Cell)} (hw : WR N e rows) (hs : cntR (cnt e) rows ≤ 1000000000000000000) :
    0 ≤ (mkR (mk e) rows 1).2 ∧ ∀ (k0 : IntKind) (c : Cell), ng (ht (.i k0 (.l e .nil)) [c, .l (mkR (mk e) rows 1).1] 1) = (mkR (mk e) rows 1).2 := by
  obtain ⟨h1, h2⟩ := mkR_held (f := mk e) (g := hd e) (c := cnt e) (rows := rows) (fun row hr k h1 h2 => mk_held (hw.2 row hr) k h1 h2) 1 (by omega) (by omega)
  refine ⟨by omega, fun k0 c => ?_⟩
  simp only [ht, h1, h2]
  have : ng (some (1 + (cntR (cnt e) rows : Int))) = 1 + cntR (cnt e) rows := rfl
  rw [this, ps_ok (by omega)]
  rfl
end Go.Sx
end
section
namespace Go.Sx
abbrev bts (bs : List Int) : List (List Cell) := bs.map fun b => [.s (.int .u8 b)]
def BOk (bs : List Int) : Prop := ∀ b ∈ bs, 0 ≤ b ∧ b ≤ 255
theorem wrap_u8 (n : Int) : IntKind.u8.wrap n = n % 256 := rfl
theorem wrap_u64 (n : Int) : IntKind.u64.wrap n = n % 18446744073709551616 := rfl
theorem wrap_i64m (n : Int) : IntKind.i64.wrap n = if n % 18446744073709551616 ≥ 9223372036854775808 then n % 18446744073709551616 - 18446744073709551616 else n % 18446744073709551616 := by
  show (if (true && decide (n % 18446744073709551616 ≥ 9223372036854775808)) = true then _ else _) = _
  simp only [Bool.true_and, decide_eq_true_eq]
  rfl
def byt (n : Int) : Int := IntKind.u8.wrap n
theorem byt_ok (n : Int) : 0 ≤ byt n ∧ byt n ≤ 255 := by unfold byt; rw [wrap_u8]; omega
theorem byt_id {n : Int} (h : 0 ≤ n ∧ n ≤ 255) : byt n = n := by unfold byt; rw [wrap_u8]; omega
def packN (n : Int) : List Int := [byt (n / 72057594037927936), byt (n / 281474976710656), byt (n / 1099511627776), byt (n / 4294967296), byt (n / 16777216), byt (n / 65536), byt (n / 256), byt n]
def unB (n b : Int) : Int := IntKind.u64.wrap (IntKind.u64.wrap (n * 256) + IntKind.u64.wrap b)
def unN (bs : List Int) : Int := IntKind.i64.wrap (bs.foldl unB 0)
theorem packN_len (n : Int) : (packN n).length = 8 := rfl
theorem packN_ok (n : Int) : BOk (packN n) := by
  intro b hb
  simp only [packN, List.mem_cons, List.not_mem_nil, or_false] at hb
  rcases hb with rfl | rfl | rfl | rfl | rfl | rfl | rfl | rfl <;> exact byt_ok _
theorem len8 {bs : List Int} (h : bs.length = 8) : ∃ a b c d e f g i, bs = [a, b, c, d, e, f, g, i] := by
  match bs, h with
  | [a, b, c, d, e, f, g, i], _ => exact ⟨a, b, c, d, e, f, g, i, rfl⟩
theorem unB_add {n b : Int} (hn : 0 ≤ n) (hn2 : n * 256 + b < 18446744073709551616) (hb : 0 ≤ b) : unB n b = n * 256 + b := by
  unfold unB
  rw [wrap_u64, wrap_u64, wrap_u64]
  omega
theorem pack_un {bs : List Int} (h : bs.length = 8) (hb : BOk bs) : packN (unN bs) = bs := by
  obtain ⟨a, b, c, d, e, f, g, i, rfl⟩ := len8 h
  have h1 := hb a (by simp)
  have h2 := hb b (by simp)
  have h3 := hb c (by simp)
  have h4 := hb d (by simp)
  have h5 := hb e (by simp)
  have h6 := hb f (by simp)
  have h7 := hb g (by simp)
  have h8 := hb i (by simp)
  clear hb h
  have e1 : [a, b, c, d, e, f, g, i].foldl unB 0 = a * 72057594037927936 + b * 281474976710656 + c * 1099511627776 + d * 4294967296 + e * 16777216 + f * 65536 + g * 256 + i := by
    simp only [List.foldl]
    rw [unB_add (n := 0) (by omega) (by omega) h1.1]
    rw [unB_add (n := 0 * 256 + a) (by omega) (by omega) h2.1]
    rw [unB_add (n := (0 * 256 + a) * 256 + b) (by omega) (by omega) h3.1]
    rw [unB_add (n := ((0 * 256 + a) * 256 + b) * 256 + c) (by omega) (by omega) h4.1]
    rw [unB_add (n := (((0 * 256 + a) * 256 + b) * 256 + c) * 256 + d) (by omega) (by omega) h5.1]
    rw [unB_add (n := ((((0 * 256 + a) * 256 + b) * 256 + c) * 256 + d) * 256 + e) (by omega) (by omega) h6.1]
    rw [unB_add (n := (((((0 * 256 + a) * 256 + b) * 256 + c) * 256 + d) * 256 + e) * 256 + f) (by omega) (by omega) h7.1]
    rw [unB_add (n := ((((((0 * 256 + a) * 256 + b) * 256 + c) * 256 + d) * 256 + e) * 256 + f) * 256 + g) (by omega) (by omega) h8.1]
    omega
  unfold unN
  rw [e1, wrap_i64m]
  simp only [packN, byt, wrap_u8]
  generalize hV : a * 72057594037927936 + b * 281474976710656 + c * 1099511627776 + d * 4294967296 + e * 16777216 + f * 65536 + g * 256 + i = V
  have hV0 : 0 ≤ V ∧ V < 18446744073709551616 := by omega
  have hm : V % 18446744073709551616 = V := by omega
  rw [hm]
  have key : ∀ (W : Int), (W = V ∨ W = V - 18446744073709551616) → W / 72057594037927936 % 256 = a ∧ W / 281474976710656 % 256 = b ∧ W / 1099511627776 % 256 = c ∧ W / 4294967296 % 256 = d ∧ W / 16777216 % 256 = e ∧ W / 65536 % 256 = f ∧ W / 256 % 256 = g ∧ W % 256 = i := by
    intro W hW
    refine ⟨?_, ?_, ?_, ?_, ?_, ?_, ?_, ?_⟩ <;> omega
  split
  · obtain ⟨k1, k2, k3, k4, k5, k6, k7, k8⟩ := key (V - 18446744073709551616) (.inr rfl)
    rw [k1, k2, k3, k4, k5, k6, k7, k8]
  · obtain ⟨k1, k2, k3, k4, k5, k6, k7, k8⟩ := key V (.inl rfl)
    rw [k1, k2, k3, k4, k5, k6, k7, k8]
def packL (l : Leg) : List Int := [byt l.s, byt l.a, byt l.b] ++ packN l.v
def packC (c : Con) : List Int := packN c.id ++ c.legs.flatMap packL
def unL (bs : List Int) (k : Nat) : Leg := ⟨bs.getD k 0, bs.getD (k + 1) 0, bs.getD (k + 2) 0, unN ((bs.drop (k + 3)).take 8)⟩
def unLs (bs : List Int) (n : Nat) : List Leg := (List.range n).map fun i => unL bs (8 + 11 * i)
def lenC (n : Nat) : Bool := decide (8 ≤ n) && (decide ((n - 8) % 11 = 0) && decide (n ≤ 96))
def unC (bs : List Int) : Con := ⟨unN (bs.take 8), unLs bs ((bs.length - 8) / 11)⟩
theorem packL_len (l : Leg) : (packL l).length = 11 := rfl
theorem BOk.drop {bs : List Int} (h : BOk bs) (k : Nat) : BOk (bs.drop k) := fun b hb => h b (List.mem_of_mem_drop hb)
theorem BOk.take {bs : List Int} (h : BOk bs) (k : Nat) : BOk (bs.take k) := fun b hb => h b (List.mem_of_mem_take hb)
theorem pack_unL {bs : List Int} {k : Nat} (hb : BOk bs) (hk : k + 11 ≤ bs.length) : packL (unL bs k) = (bs.drop k).take 11 := by
  have h1 : ∀ j, j < bs.length → bs.getD j 0 = bs[j]! := fun j hj => by simp [List.getD, hj]
  have g : ∀ j, j < bs.length → ∃ b, bs[j]? = some b ∧ bs.getD j 0 = b ∧ 0 ≤ b ∧ b ≤ 255 := fun j hj => by
    obtain ⟨b, hb'⟩ := gx hj
    exact ⟨b, hb', by simp [List.getD, hb'], hb b (List.mem_of_getElem? hb')⟩
  obtain ⟨a, ha, ea, oa⟩ := g k (by omega)
  obtain ⟨b, hb1, eb, ob⟩ := g (k + 1) (by omega)
  obtain ⟨c, hc, ec, oc⟩ := g (k + 2) (by omega)
  have hp := pack_un (bs := (bs.drop (k + 3)).take 8) (by rw [List.length_take, List.length_drop]; omega) ((hb.drop _).take _)
  simp only [packL, unL, ea, eb, ec, byt_id oa, byt_id ob, byt_id oc, hp]
  have e1 : bs.drop k = a :: bs.drop (k + 1) := List.drop_eq_getElem?_toList_append ▸ (by simp [ha])
  have e2 : bs.drop (k + 1) = b :: bs.drop (k + 2) := List.drop_eq_getElem?_toList_append ▸ (by simp [hb1])
  have e3 : bs.drop (k + 2) = c :: bs.drop (k + 3) := List.drop_eq_getElem?_toList_append ▸ (by simp [hc])
  rw [e1, e2, e3]; rfl
theorem pack_unLs {bs : List Int} (hb : BOk bs) : ∀ n, 8 + 11 * n ≤ bs.length → (unLs bs n).flatMap packL = (bs.drop 8).take (11 * n)
  | 0, _ => by simp [unLs]
  | n + 1, h => by
    have ih := pack_unLs hb n (by omega)
    unfold unLs at ih ⊢
    rw [List.range_succ, List.map_append, List.flatMap_append, ih]
    simp only [List.map_cons, List.map_nil, List.flatMap_cons, List.flatMap_nil, List.append_nil]
    rw [pack_unL hb (by omega), show 11 * (n + 1) = 11 * n + 11 by omega, List.take_add, List.drop_drop]
theorem pack_unC {bs : List Int} (hb : BOk bs) (h : lenC bs.length = true) : packC (unC bs) = bs := by
  simp only [lenC, Bool.and_eq_true, decide_eq_true_eq] at h
  unfold packC unC
  dsimp only
  rw [pack_un (by rw [List.length_take]; omega) (hb.take 8), pack_unLs hb _ (by omega)]
  rw [List.take_of_length_le (l := bs.drop 8) (by rw [List.length_drop]; omega), List.take_append_drop]
end Go.Sx
end
section
namespace Go.Sx
structure Evt where
  vote : Bool
  con : Con
  out : Int
abbrev Evt.cs (e : Evt) : List Cell := [.s (.bool e.vote), i64 e.con.id, .l (e.con.legs.map Leg.cs), i64 e.out]
def evt0 : Evt := ⟨false, ⟨0, []⟩, 0⟩
def evFault (e : Evt) : Int :=
  if e.vote = true then (if conFault e.con ≠ 0 then conFault e.con else if e.out ≠ 0 then 1 else 0)
  else if !(within e.con.id 1 1000000000 && (e.out == 1 || e.out == 2)) then 3 else if 0 < e.con.legs.length then 1 else 0
def packE (e : Evt) : List Int := if e.vote = true then 1 :: packC e.con else (2 :: packN e.con.id) ++ [byt e.out]
def unCk (bs : List Int) : Bool := lenC bs.length && (conFault (unC bs) == 0)
def headIs (bs : List Int) (n : Int) : Bool := bs[0]? == some n
def unE (bs : List Int) : Evt :=
  if headIs bs 1 = true then ⟨true, if unCk (bs.drop 1) = true then unC (bs.drop 1) else ⟨0, []⟩, 0⟩
  else if bs.length = 10 ∧ headIs bs 2 = true then ⟨false, ⟨unN ((bs.drop 1).take 8), []⟩, bs.getD 9 0⟩ else evt0
def unES (bs : List Int) : Evt :=
  if headIs bs 1 = true then ⟨true, if lenC (bs.drop 1).length = true then unC (bs.drop 1) else ⟨0, []⟩, 0⟩
  else if bs.length = 10 ∧ headIs bs 2 = true then ⟨false, ⟨unN ((bs.drop 1).take 8), []⟩, bs.getD 9 0⟩ else evt0
def okE (bs : List Int) : Bool := if headIs bs 1 = true then unCk (bs.drop 1) else decide (bs.length = 10) && (headIs bs 2 && (evFault (unE bs) == 0))
theorem con0_fault : conFault ⟨0, []⟩ ≠ 0 := by decide
theorem evt0_fault : evFault evt0 ≠ 0 := by decide
theorem head_cons {bs : List Int} {n : Int} (h : headIs bs n = true) : bs = n :: bs.drop 1 := by
  unfold headIs at h
  cases bs with
  | nil => simp at h
  | cons a r => simp at h; simp [h]
theorem okE_fault {bs : List Int} : (evFault (unE bs) == 0) = okE bs := by
  unfold okE
  by_cases h1 : headIs bs 1 = true
  · rw [if_pos h1]
    have e : unE bs = ⟨true, if unCk (bs.drop 1) = true then unC (bs.drop 1) else ⟨0, []⟩, 0⟩ := by unfold unE; rw [if_pos h1]
    rw [e]
    unfold evFault
    dsimp only
    rw [if_pos rfl]
    cases h2 : unCk (bs.drop 1) with
    | true =>
      have h3 : conFault (unC (bs.drop 1)) = 0 := by
        unfold unCk at h2
        simp only [Bool.and_eq_true, beq_iff_eq] at h2
        exact h2.2
      simp [h3, -List.drop_one]
    | false => simp [con0_fault]
  · rw [if_neg h1]
    by_cases h2 : bs.length = 10 ∧ headIs bs 2 = true
    · simp [h2.1, h2.2]
    · have e : unE bs = evt0 := by unfold unE; rw [if_neg h1, if_neg h2]
      rw [e]
      have : (evFault evt0 == 0) = false := by simpa using evt0_fault
      rw [this]
      symm
      rw [Bool.and_eq_false_iff, Bool.and_eq_false_iff]
      by_cases h3 : bs.length = 10
      · exact .inr (.inl (by simpa using fun h => h2 ⟨h3, h⟩))
      · exact .inl (by simpa using h3)
theorem okE_eq {bs : List Int} (h : okE bs = true) : unES bs = unE bs := by
  unfold okE at h
  unfold unES unE
  by_cases h1 : headIs bs 1 = true
  · rw [if_pos h1] at h
    have h2 : lenC (bs.drop 1).length = true := by
      unfold unCk at h
      simp only [Bool.and_eq_true] at h
      exact h.1
    rw [if_pos h1, if_pos h1, if_pos h, if_pos h2]
  · rw [if_neg h1, if_neg h1]
theorem okE_faultS {bs : List Int} (h1 : ¬ headIs bs 1 = true) : unES bs = unE bs := by
  unfold unES unE
  rw [if_neg h1, if_neg h1]
theorem okE_pack {bs : List Int} (hb : BOk bs) (h : okE bs = true) : packE (unE bs) = bs := by
  unfold okE at h
  by_cases h1 : headIs bs 1 = true
  · rw [if_pos h1] at h
    have e : unE bs = ⟨true, unC (bs.drop 1), 0⟩ := by unfold unE; rw [if_pos h1, if_pos h]
    unfold unCk at h
    simp only [Bool.and_eq_true] at h
    rw [e]
    unfold packE
    dsimp only
    rw [if_pos rfl, pack_unC (hb.drop 1) h.1]
    exact (head_cons h1).symm
  · rw [if_neg h1] at h
    simp only [Bool.and_eq_true, decide_eq_true_eq] at h
    obtain ⟨h2, h3, h4⟩ := h
    have e : unE bs = ⟨false, ⟨unN ((bs.drop 1).take 8), []⟩, bs.getD 9 0⟩ := by unfold unE; rw [if_neg h1, if_pos ⟨h2, h3⟩]
    rw [e]
    unfold packE
    dsimp only
    rw [if_neg (by decide), pack_un (by rw [List.length_take, List.length_drop]; omega) ((hb.drop 1).take 8)]
    obtain ⟨b, hb9⟩ := gx (xs := bs) (i := 9) (by omega)
    have ob := hb b (List.mem_of_getElem? hb9)
    have e9 : bs.getD 9 0 = b := by simp [List.getD, hb9]
    rw [e9, byt_id ob]
    have hc := head_cons h3
    have hd : (bs.drop 1).drop 8 = [b] := by
      rw [List.drop_drop]
      apply List.ext_getElem?
      intro i
      rw [List.getElem?_drop]
      cases i with
      | zero => simpa using hb9
      | succ i => rw [List.getElem?_eq_none (by omega)]; simp
    calc (2 :: (bs.drop 1).take 8) ++ [b] = 2 :: ((bs.drop 1).take 8 ++ (bs.drop 1).drop 8) := by rw [hd]; rfl
      _ = 2 :: bs.drop 1 := by rw [List.take_append_drop]
      _ = bs := hc.symm
def chkS (h b : Int) : Int := (h * 257 + b + 1) % 65521
def chk (bs : List Int) : Int := bs.foldl chkS 1
theorem chk_ok (bs : List Int) : 0 ≤ chk bs ∧ chk bs < 65521 := by
  unfold chk
  have : ∀ (bs : List Int) (h : Int), 0 ≤ h ∧ h < 65521 → 0 ≤ bs.foldl chkS h ∧ bs.foldl chkS h < 65521 := by
    intro bs
    induction bs with
    | nil => intro h hh; exact hh
    | cons b bs ih => intro h _; exact ih _ (by unfold chkS; omega)
  exact this bs 1 (by omega)
def many (bs : List Int) : Int := bs.getD 0 0 * 256 + bs.getD 1 0
def rec1 (bs : List Int) : Option Nat :=
  if bs.length < 4 then none else if many bs < 1 ∨ 500 < many bs ∨ (bs.length : Int) < 4 + many bs then none
  else if bs.getD 2 0 * 256 + bs.getD 3 0 = chk ((bs.drop 4).take (many bs).toNat) then some (many bs).toNat else none
def recsF : Nat → List Int → List (List Int) × Nat
  | 0, _ => ([], 0)
  | f + 1, bs => match rec1 bs with
    | none => ([], 0)
    | some n => ((bs.drop 4).take n :: (recsF f (bs.drop (4 + n))).1, 4 + n + (recsF f (bs.drop (4 + n))).2)
theorem rec1_le {bs : List Int} {n : Nat} (h : rec1 bs = some n) : 4 + n ≤ bs.length ∧ 1 ≤ n ∧ n ≤ 500 := by
  unfold rec1 at h
  split at h
  · cases h
  · split at h
    · cases h
    · split at h
      · cases h; omega
      · cases h
theorem recsF_fuel : ∀ (f g : Nat) (bs : List Int), bs.length < f → bs.length < g → recsF f bs = recsF g bs
  | 0, _, _, h, _ => by omega
  | _, 0, _, _, h => by omega
  | f + 1, g + 1, bs, h1, h2 => by
    rw [recsF, recsF]
    cases hr : rec1 bs with
    | none => rfl
    | some n =>
      have := rec1_le hr
      have hl : (bs.drop (4 + n)).length = bs.length - (4 + n) := List.length_drop ..
      dsimp only
      rw [recsF_fuel f g (bs.drop (4 + n)) (by omega) (by omega)]
def recs (bs : List Int) : List (List Int) × Nat := recsF (bs.length + 1) bs
theorem recs_none {bs : List Int} (h : rec1 bs = none) : recs bs = ([], 0) := by unfold recs; rw [recsF, h]
theorem recs_some {bs : List Int} {n : Nat} (h : rec1 bs = some n) : recs bs = ((bs.drop 4).take n :: (recs (bs.drop (4 + n))).1, 4 + n + (recs (bs.drop (4 + n))).2) := by
  have hl := rec1_le h
  unfold recs
  rw [recsF, h]
  dsimp only
  have e : (bs.drop (4 + n)).length = bs.length - (4 + n) := List.length_drop ..
  rw [recsF_fuel bs.length ((bs.drop (4 + n)).length + 1) (bs.drop (4 + n)) (by omega) (by omega)]
theorem recs_le : ∀ (m : Nat) (bs : List Int), bs.length ≤ m → (recs bs).2 ≤ bs.length ∧ (recs bs).1.length ≤ bs.length ∧ ∀ r ∈ (recs bs).1, r.length ≤ 500 ∧ (BOk bs → BOk r)
  | m, bs, hm => by
    cases hr : rec1 bs with
    | none => rw [recs_none hr]; simp
    | some n =>
      have h1 := rec1_le hr
      rw [recs_some hr]
      have e : (bs.drop (4 + n)).length = bs.length - (4 + n) := List.length_drop ..
      cases m with
      | zero => omega
      | succ m =>
        obtain ⟨h2, h3, h4⟩ := recs_le m (bs.drop (4 + n)) (by omega)
        refine ⟨by dsimp only; omega, by simp only [List.length_cons]; omega, fun r hr => ?_⟩
        rcases List.mem_cons.1 hr with rfl | hr
        · exact ⟨by rw [List.length_take]; omega, fun hb => (hb.drop 4).take n⟩
        · exact ⟨(h4 r hr).1, fun hb => (h4 r hr).2 (hb.drop _)⟩
def eventsR (sy lo : List Int) : Int × List Evt :=
  if 6000 < sy.length + lo.length then (2, [])
  else if (recs (sy ++ lo)).1.all okE = false then (5, [])
  else if (recs (sy ++ lo)).2 ≠ sy.length + lo.length then (5, [])
  else if 60 < (recs (sy ++ lo)).1.length then (2, [])
  else (0, (recs (sy ++ lo)).1.map unE)
end Go.Sx
end
