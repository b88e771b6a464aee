/- WHAT IS PROVED: parts of the proof of fnExactOpenSession_holds: a frame for walks, what each Go function that it reaches answers, and plain lemmas; no condition beyond those that each theorem names. -/
import Derived.Test.YtlkjdcpcbnfbbaaCOs3
import Derived.WalkKit
import Derived.OrdersHeld
import Derived.DeepKeys
import Derived.Maps.RangeWalk
import Derived.Maps.OwnOps
import Derived.WideKeyEntry
import Derived.Deep.Slices
import Derived.ChangeArms
import Derived.WideShapes
set_option linter.unusedVariables false
set_option linter.unusedSimpArgs false
section
namespace Go.Sx
open Go.RowKit (Below)
section
variable {g : Bool} {P : Program} {F : TT} {σ : St} {o : Oper} {K : St → Prop}
theorem evR_holds {x : Operand} {f : AV → R} (h : (evR σ x f).holds P K) : ∃ av, ev σ x = some av ∧ (f av).holds P K := by
  unfold evR at h
  split at h
  · rename_i av hav; exact ⟨av, hav, h⟩
  · exact h.elim
theorem ntupB_ntup {z : AV} (h : ntupB z = true) : ntup z := by cases z <;> first | trivial | cases h
theorem ntupM {z : AV} (h : ntupB z = true) : (match (generalizing := false) z with | .tup _ => False | _ => True) := by cases z <;> first | trivial | cases h
theorem intR_eq {x : Option Operand} {r : Option Int} (h : intR? x σ = some r) : intOf? x σ = some r := h
theorem evK_of {x : Operand} {K' : AV → Prop} (h : (evR σ x fun av => valR σ o.dst av).holds P K) (hK : ∀ av, K (σ.put o.dst av) → K' av) : evK σ x K' := by
  obtain ⟨av, h1, h2⟩ := evR_holds h
  unfold evK
  rw [h1]
  exact hK _ (valR_holds.1 h2)
theorem lenR_ok {t : Nat} {av : AV} {f : Value → R} {K' : Value → Prop} (hF : F = F.map P) (hf : ∀ v, (f v).holds P K → K' v) (h : (lenR F σ t av f).holds P K) : lenY P t σ av K' := by
  unfold lenR at h
  split at h
  · obtain ⟨_, h1, h2⟩ := someR_holds h; exact ⟨by rw [F_esz_ok hF h1]; rfl, hf _ h2⟩
  · obtain ⟨_, h1, h2⟩ := someR_holds h; exact ⟨by rw [F_esz_ok hF h1]; rfl, hf _ h2⟩
  · obtain ⟨_, h1, h2⟩ := someR_holds h; exact ⟨by rw [F_esz_ok hF h1]; rfl, hf _ h2⟩
  · obtain ⟨_, h1, h2⟩ := someR_holds h; exact ⟨by rw [F_esz_ok hF h1]; rfl, hf _ h2⟩
  · obtain ⟨h1, h2⟩ := guardB_holds h; exact ⟨F_str_ok hF h1, hf _ h2⟩
  · obtain ⟨_, h1, h2⟩ := someR_holds h
    refine ⟨by rw [F_esz_ok hF h1]; rfl, ?_⟩
    split at h2
    · rename_i full sz ep rows hg
      obtain ⟨h3, row, h4, h5⟩ := h2
      rw [hg]
      refine ⟨h3, ?_⟩
      rw [h4]
      dsimp only at h5 ⊢
      split at h5
      · rename_i rs hrs; rw [nth_eq] at hrs; rw [hrs]; exact hf _ h5
      · exact h5.elim
    · exact h2.elim
  · exact h.elim
theorem loadK {av : AV} {ag : Bool} {n : Nat} (h : (cellsR σ av fun cs => (match ag with
      | true => guardB (leLen n cs) (someR (force (cs.take n)) fun cs => valR σ o.dst (.agg cs))
      | false => (match cs with | [] => .fail | c :: _ => valR σ o.dst (.one c)))).holds P K) : cellsAt σ av fun cs => match loadAs ag n cs with | some r => K (σ.put o.dst r) | none => False := by
  refine cellsR_ok (fun cs h => ?_) h
  split at h
  · obtain ⟨h1, h2⟩ := guardB_holds h
    obtain ⟨cs', h3, h4⟩ := someR_holds h2
    rw [force_eq h3] at h4
    simp only [loadAs, if_true, if_pos (leLen_le h1)]
    exact valR_holds.1 h4
  · split at h
    · exact h.elim
    · exact valR_holds.1 h
theorem yes {av : AV} (h : (valR σ o.dst av).holds P K) : K (σ.put o.dst av) := valR_holds.1 h
theorem varR_ok {d : Option Tmp} {cs : List AC} (h : (varR σ d cs).holds P K) : newVarK σ d cs K := by
  unfold varR at h
  unfold newVarK
  split at h
  · split at h
    · rename_i hn; dsimp only; rw [hn]; exact bR_holds h
    · exact h.elim
  · exact h.elim
theorem litR_ok (hF : F = F.map P) {t n : Nat} {ps : List (Nat × Operand)} {d : Option Tmp} (h : (litR F σ t n ps d).holds P K) : litK P σ t n ps d K := by
  unfold litR at h
  unfold litK
  split at h
  · rename_i d sz by_ rws h1 h2
    rw [F_esI_ok hF h1, partsR_eq h2]
    dsimp only
    split at h
    · rename_i hn
      rw [hn]
      dsimp only
      obtain ⟨g1, h⟩ := guardB_holds h
      obtain ⟨g2, h⟩ := guardB_holds h
      obtain ⟨g3, h⟩ := guardB_holds h
      obtain ⟨g4, h⟩ := guardB_holds h
      obtain ⟨g5, h⟩ := guardB_holds h
      obtain ⟨g6, h⟩ := h
      obtain ⟨rs, g7, h⟩ := someR_holds h
      rw [gams_eq] at g4 g5
      have h := bR_holds h
      rw [gams_eq, fullL_eq, mapRs_eq g7] at h
      rw [fullL_eq] at g6
      exact ⟨eqLen_eq g1, Nat.le_of_ble_eq_true g2, allLen_eq g3, nodB_nodup g4, memB_not (notB_eq g5), g6, h⟩
    · exact h.elim
  · exact h.elim
theorem makR_ok (hF : F = F.map P) {t : Nat} {l c : Operand} {d : Option Tmp} (h : (makR F σ t l c d).holds P K) : makeK P σ t l c d K := by
  unfold makR at h
  unfold makeK
  split at h
  · rename_i d sz by_ zrow k n k' n' h1 h2 h3 h4
    rw [F_esI_ok hF h1, F_zrow_ok hF h2, h3, h4]
    dsimp only
    split at h
    · rename_i hn
      rw [hn]
      dsimp only
      obtain ⟨g1, g2, g3, g4, g5, h⟩ := guardB_holds h
      exact ⟨g2, g3, g4, g5, eqLen_eq g1, bR_holds h⟩
    · exact h.elim
  · exact h.elim
theorem storeE_ok (hF : F = F.map P) {t : Nat} {β m i k : Nat} {x : AV} (h : (storeR F σ t (.one (.e β m i k)) x).holds P K) : storeE P σ t (.one (.e β m i k)) x K := by
  unfold storeR at h
  unfold storeE
  split at h
  · rename_i n β m i k x h1 he
    cases he
    rw [F_lay_ok hF h1]
    dsimp only
    split at h
    · rename_i full sz ep rows hg
      rw [hg]
      dsimp only
      obtain ⟨g1, h⟩ := guardB_holds h
      obtain ⟨g2, h⟩ := guardB_holds h
      obtain ⟨g3, h⟩ := guardB_holds h
      obtain ⟨g4, h⟩ := guardB_holds h
      obtain ⟨g5, row, g6, g7, g8, h⟩ := h
      obtain ⟨xs, g9, h⟩ := someR_holds h
      have h := bR_holds h
      rw [gams_eq] at g3 g4 h
      rw [mapC_eq g9] at h
      refine ⟨g5, ?_⟩
      rw [g6]
      refine ⟨eqLen_eq g2, ?_, g7, nodB_nodup g3, memB_not (notB_eq g4), g8, h⟩
      exact ntupM g1
    · exact h.elim
  · rename_i he; cases he
  · rename_i he; cases he
  · exact h.elim
theorem storeV_ok (hF : F = F.map P) {t : Nat} {p x : AV} (hne : ∀ β m i k, p ≠ .one (.e β m i k)) (h : (storeR F σ t p x).holds P K) : storeK P σ t p x K := by
  unfold storeR at h
  unfold storeK
  split at h
  · exact absurd rfl (hne _ _ _ _)
  · rename_i β off c h1
    split at h
    · rename_i cs hg
      simp only [F_lay_ok hF h1, hg]
      obtain ⟨g1, h⟩ := guardB_holds h
      obtain ⟨cs', g2, h⟩ := someR_holds h
      rw [force_eq g2] at h
      exact ⟨leLen_le g1, bR_holds h⟩
    · exact h.elim
  · rename_i n β off xs h1
    split at h
    · rename_i cs hg
      simp only [F_lay_ok hF h1, hg]
      obtain ⟨g0, h⟩ := guardB_holds h
      obtain ⟨g1, h⟩ := guardB_holds h
      obtain ⟨cs', g2, h⟩ := someR_holds h
      rw [force_eq g2] at h
      exact ⟨eqLen_eq g0, leLen_le g1, bR_holds h⟩
    · exact h.elim
  · exact h.elim
theorem callR_ok (hF : F = F.map P) {c : Call} (ho : o.op = .call c) (h : (callR g F σ o c).holds P K) : opL g P σ o K := by
  unfold callR at h
  split at h
  · rename_i hc
    simp only [opL, ho, hc, opY]
    split at h
    · rename_i t _ x ht hx
      obtain ⟨av, h1, h2⟩ := evR_holds h
      rw [ht, hx]
      simp only [evK, h1]
      exact lenR_ok hF (fun v hv => yes hv) h2
    · exact h.elim
  · rename_i hc
    simp only [opL, ho, hc]
    split at h
    · rename_i t tx s x d ht hx hd
      unfold appK
      rw [ht, hx, hd]
      dsimp only
      split at h
      · rename_i sz by_ p β n γ m e1 e2 e3 e4
        rw [F_esI_ok hF e1, F_esI_ok hF e2, e3, e4]
        dsimp only
        split at h
        · rename_i full0 sz0 ep rows0 full sz1 ep1 rows e5 e6
          rw [e5, e6]
          dsimp only
          obtain ⟨g1, h⟩ := guardB_holds h
          obtain ⟨g2, h⟩ := guardB_holds h
          obtain ⟨g3, h⟩ := guardB_holds h
          obtain ⟨g4, g5, h⟩ := h
          refine ⟨g4, g5, Nat.eq_of_beq_eq_true g1, Nat.eq_of_beq_eq_true g2, Nat.ne_of_beq_eq_false (notB_eq g3), ?_⟩
          split at h
          · obtain ⟨g6, g7, g8, h⟩ := h
            exact ⟨g7, g8, false, .inl rfl, .inr ⟨rfl, g6⟩, bR_holds h⟩
          · obtain ⟨g6, g7, g8, h⟩ := h
            exact ⟨g7, g8, _, g6, .inl rfl, bR_holds h⟩
        · exact h.elim
      · rename_i sz by_ p β n rows e1 e2 e3 e4
        rw [F_esI_ok hF e1, F_esI_ok hF e2, e3, e4]
        dsimp only
        split at h
        · rename_i full0 sz0 ep rows0 e5
          rw [e5]
          dsimp only
          obtain ⟨g1, h⟩ := guardB_holds h
          obtain ⟨g4, g5, h⟩ := h
          refine ⟨g4, Nat.eq_of_beq_eq_true g1, g5, ?_⟩
          split at h
          · rename_i e6
            obtain ⟨g7, g8, h⟩ := h
            exact ⟨g7, g8, false, .inr (turnB_nil e6), nofun, bR_holds h⟩
          · obtain ⟨g6, g7, g8, h⟩ := h
            exact ⟨g7, g8, _, .inl rfl, g6, bR_holds h⟩
        · exact h.elim
      · rename_i sz by_ p γ m e1 e2 e3 e4
        rw [F_esI_ok hF e1, F_esI_ok hF e2, e3, e4]
        dsimp only
        split at h
        · rename_i full sz1 ep1 rows e5 e6
          rw [e5, e6]
          dsimp only
          obtain ⟨g1, h⟩ := guardB_holds h
          obtain ⟨g2, h⟩ := guardB_holds h
          obtain ⟨g4, g5, g6, h⟩ := h
          exact ⟨g4, Nat.eq_of_beq_eq_true g1, Nat.ne_of_beq_eq_false (notB_eq g2), g5, g6, bR_holds h⟩
        · exact h.elim
      · rename_i sz by_ p γ m e1 e2 e3 e4
        rw [F_esI_ok hF e1, F_esI_ok hF e2, e3, e4]
        dsimp only
        split at h
        · rename_i full sz1 ep1 rows e5 e6
          rw [e5, e6]
          dsimp only
          obtain ⟨g1, h⟩ := guardB_holds h
          obtain ⟨g2, h⟩ := guardB_holds h
          obtain ⟨g4, g5, g6, h⟩ := h
          exact ⟨g4, Nat.eq_of_beq_eq_true g1, Nat.ne_of_beq_eq_false (notB_eq g2), g5, g6, bR_holds h⟩
        · exact h.elim
      · rename_i sz by_ p rows e1 e2 e3 e4
        rw [F_esI_ok hF e1, F_esI_ok hF e2, e3, e4]
        dsimp only
        split at h
        · rename_i e5
          rw [e5]
          dsimp only
          obtain ⟨g4, g5, g6, g7, h⟩ := h
          exact ⟨g4, g5, g6, g7, bR_holds h⟩
        · exact h.elim
      · rename_i sz by_ p rows e1 e2 e3 e4
        rw [F_esI_ok hF e1, F_esI_ok hF e2, e3, e4]
        dsimp only
        split at h
        · rename_i e5
          rw [e5]
          dsimp only
          obtain ⟨g4, g5, g6, g7, h⟩ := h
          exact ⟨g4, g5, g6, g7, bR_holds h⟩
        · exact h.elim
      · exact h.elim
    · exact h.elim
  · rename_i x hc
    simp only [opL, ho, hc]
    split at h
    · rename_i f caps avs e1 e2
      rw [e1, e2]
      obtain ⟨avs', h1, h2⟩ := someR_holds h
      rw [force_eq h1] at h2
      exact h2
    · rename_i f caps avs e1 e2
      rw [e1, e2]
      obtain ⟨avs', h1, h2⟩ := someR_holds h
      rw [force_eq h1] at h2
      exact h2
    · rename_i f β off avs e1 e2
      rw [e1, e2]
      exact h
    · rename_i f ag row avs e1 e2
      rw [e1, e2]
      exact h
    · exact h.elim
  · rename_i hc
    simp only [opL, ho, hc, opY]
    split at h
    · rename_i x y hx
      rw [hx]
      dsimp only
      split at h
      · rename_i e1 e2; rw [e1, e2]; exact yes h
      · exact h.elim
    · rename_i x y z t hx
      rw [hx]
      dsimp only
      split at h
      · rename_i e1 e2 e3 e4; rw [e1, e2, e3, e4]; exact yes h
      · exact h.elim
    · exact h.elim
  · rename_i hc
    simp only [opL, ho, hc, opY]
    split at h
    · rename_i x y hx
      rw [hx]
      dsimp only
      split at h
      · rename_i e1 e2; rw [e1, e2]; exact yes h
      · exact h.elim
    · exact h.elim
  · exact h
theorem opR_ok (hF : F = F.map P) (h : (opR g F σ o).holds P K) : opL g P σ o K := by
  unfold opR at h
  split at h
  case h_1 x ho => simp only [opL, ho, opY]; exact evK_of h (fun _ hk => hk)
  case h_2 x ho => simp only [opL, ho, opY]; exact evK_of h (fun _ hk => hk)
  case h_3 c x y ho =>
    simp only [opL, ho, opY]
    split at h
    · rename_i t ht
      rw [ht]
      exact ⟨fun hb => evK_of (x := if (true : Bool) then x else y) (h.1 hb) (fun _ hk => hk), fun hb => evK_of (x := if (false : Bool) then x else y) (h.2 hb) (fun _ hk => hk)⟩
    · exact h.elim
  case h_4 t x ho =>
    simp only [opL, ho, opY]
    split at h
    · rename_i av ag n h1 h2
      rw [h1, F_lay_ok hF h2]
      exact loadK h
    · exact h.elim
  case h_5 op t x y yt ho =>
    split at h
    · rename_i p q h1 h2
      simp only [opL, ho, opY, h1, h2]
      obtain ⟨g1, h⟩ := guardB_holds h
      refine ⟨F_boo_ok hF g1, ?_⟩
      unfold boolEq
      split at h
      · exact yes h
      · exact yes h
      · exact h.elim
    · rename_i u v hne h1 h2
      simp only [opL, ho, opY]
      split
      · rename_i e1 e2
        rw [h1] at e1; rw [h2] at e2
        cases e1; cases e2
        exact (hne _ _ rfl rfl).elim
      · rename_i u' v' _ e1 e2
        rw [h1] at e1; rw [h2] at e2
        cases e1; cases e2
        exact binR_ok (fun v hv => yes hv) h
      · rename_i e1 e2
        rw [h1] at e1
        cases e1
      · rename_i e1 e2
        rw [h1] at e1
        cases e1
      · rename_i _ hx _ _
        exact (hx _ _ h1 h2).elim
    · rename_i rows h1 h2
      simp only [opL, ho, opY, h1, h2]
      obtain ⟨sz, g1, h⟩ := someR_holds h
      obtain ⟨e, _, g2, _⟩ := esz_spec (F_esz_ok hF g1)
      refine ⟨⟨e, g2⟩, fun b hb => ?_⟩
      split at h
      · exact yes (h b hb)
      · exact yes (h b hb)
      · exact h.elim
    · rename_i cs cs' h1 h2
      simp only [opL, ho, opY, h1, h2]
      obtain ⟨ks, g1, h⟩ := someR_holds h
      obtain ⟨xs, g2, h⟩ := someR_holds h
      obtain ⟨ys, g3, h⟩ := someR_holds h
      obtain ⟨g4, h⟩ := guardB_holds h
      obtain ⟨g5, h⟩ := guardB_holds h
      simp only [aggEq, F_cmp_ok hF g1, g2, g3]
      refine ⟨fitB_ok g4, fitB_ok g5, ?_⟩
      split at h
      · exact yes h
      · exact yes h
      · exact h.elim
    · exact h
  case h_6 op t x ho =>
    simp only [opL, ho, opY]
    split at h
    · rename_i b hb; rw [hb]; exact yes h
    · rename_i k n hn; rw [hn]; exact yes h
    · exact h.elim
  case h_7 s d x ho =>
    split at h
    · rename_i k0 n k h1 h2
      simp only [opL, ho, opY, h1, F_ik_ok hF h2]
      obtain ⟨g1, h⟩ := guardB_holds h
      exact ⟨F_und_ok hF g1, yes h⟩
    · exact h
  case h_8 s x f ho =>
    simp only [opL, ho, opY]
    split at h
    · rename_i row off h1 h2
      rw [h1, F_foff_ok hF h2]
      obtain ⟨g1, h⟩ := guardB_holds h
      obtain ⟨r, g2, h⟩ := someR_holds h
      rw [force_eq g2] at h
      exact ⟨leLen_le g1, yes h⟩
    · rename_i β i off h1 h2
      rw [h1, F_foff_ok hF h2]; exact yes h
    · rename_i β m i k off h1 h2
      rw [h1, F_foff_ok hF h2]; exact yes h
    · exact h.elim
  case h_9 s x f ho =>
    simp only [opL, ho, opY]
    split at h
    · rename_i cs off n h1 h2
      rw [h1, F_fld_ok hF h2]
      obtain ⟨g1, h⟩ := guardB_holds h
      obtain ⟨r, g2, h⟩ := someR_holds h
      rw [force_eq g2] at h
      exact ⟨leLen_le g1, yes h⟩
    · rename_i cs off n h1 h2
      rw [h1, F_fld_ok hF h2]
      obtain ⟨c, g2, h⟩ := someR_holds h
      rw [nth_eq] at g2
      dsimp only
      rw [g2]
      exact yes h
    · exact h.elim
  case h_10 t x i ho =>
    split at h
    · rename_i rows k n sz h1 h2 h3
      simp only [opL, ho, opY, h1, h2, F_esz_ok hF h3]
      obtain ⟨g1, row, g2, g3, h⟩ := h
      refine ⟨g1, ?_⟩
      rw [g2]
      exact ⟨g3, yes h⟩
    · rename_i β m k n sz h1 h2 h3
      simp only [opL, ho, opY, h1, h2, F_esz_ok hF h3]
      split at h
      · rename_i full sz0 ep rows hg
        rw [hg]
        obtain ⟨g0, g1, row, g2, g3, h⟩ := h
        refine ⟨g0, g1, ?_⟩
        rw [g2]
        exact ⟨g3, yes h⟩
      · exact h.elim
    · exact h
  case h_11 t x i ho =>
    simp only [opL, ho, opY]
    split at h
    · rename_i s k n h1 h2
      rw [h1, h2]
      obtain ⟨g1, h⟩ := guardB_holds h
      obtain ⟨g2, b, g3, h⟩ := h
      refine ⟨F_str_ok hF g1, g2, ?_⟩
      rw [g3]
      exact yes h
    · exact h.elim
  case h_12 t x lo hi ho =>
    split at h
    · rename_i s l hh h1 h2 h3
      simp only [opL, ho, opY, h1, intR_eq h2, intR_eq h3]
      obtain ⟨g1, g2, g3, g4, h⟩ := guardB_holds h
      exact ⟨F_str_ok hF g1, g2, g3, g4, yes h⟩
    · rename_i rows l hh h1 h2 h3
      simp only [opL, ho, opY, h1, intR_eq h2, intR_eq h3]
      obtain ⟨sz, g0, g1, g2, g3, g4, h⟩ := someR_holds h
      rw [F_esz_ok hF g0]
      exact ⟨g1, g2, g3, g4, yes h⟩
    · exact h
  case h_13 x i ho =>
    simp only [opL, ho, opY]
    split at h
    · rename_i vs h1
      obtain ⟨av, g1, h⟩ := someR_holds h
      rw [nth_eq] at g1
      rw [h1]
      dsimp only
      rw [g1]
      exact yes h
    · exact h.elim
  case h_14 f first caps ho =>
    simp only [opL, ho, opY]
    split at h
    · rename_i x hf hc
      rw [hf, hc]
      dsimp only
      split at h
      · rename_i e1; rw [e1]; exact yes h
      · rename_i e1; rw [e1]; exact yes h
      · rename_i cs e1
        rw [e1]
        obtain ⟨l, g1, h⟩ := someR_holds h
        dsimp only
        rw [g1]
        exact yes h
      · exact h.elim
    · rename_i hf
      rw [hf]
      dsimp only
      cases hcs : capsR σ caps.toList with
      | some cs =>
        rw [hcs] at h
        have e := (capsR_eq (σ := σ) (l := caps.toList)).symm.trans hcs
        split
        · rename_i cs' h'
          have := h'.symm.trans e
          cases this
          exact yes h
        · rename_i h'
          have := h'.symm.trans e
          cases this
      | none =>
        rw [hcs] at h
        obtain ⟨cs, g1, h⟩ := someR_holds h
        have e := (capsR_eq (σ := σ) (l := caps.toList)).symm.trans hcs
        have e2 := capsB_eq g1
        split
        · rename_i cs' h'
          have := h'.symm.trans e
          cases this
        · split
          · rename_i cs' h'
            have := h'.symm.trans e2
            cases this
            exact yes h
          · rename_i h'
            have := h'.symm.trans e2
            cases this
    · exact h.elim
  case h_15 t ps ho =>
    cases g1 : F_zeroB F t with
    | none => rw [g1] at h; exact h
    | some z =>
      rw [g1] at h
      simp only [opL, ho, opY]
      obtain ⟨cs, g2, h⟩ := someR_holds h
      rw [F_zeroB_ok hF g1]
      dsimp only
      rw [fillR_eq hF g2]
      exact yes h
  case h_16 e ho =>
    simp only [opL, ho]
    split at h
    · rename_i z hz
      obtain ⟨g1, h⟩ := guardB_holds h
      rw [F_zero_ok hF hz]
      exact ⟨ntupB_ntup g1, varR_ok h⟩
    · exact h.elim
  case h_17 e x ho =>
    simp only [opL, ho]
    split at h
    · rename_i z hz
      obtain ⟨g1, h⟩ := guardB_holds h
      rw [hz]
      exact ⟨ntupB_ntup g1, varR_ok h⟩
    · exact h.elim
  case h_18 t p x ho =>
    simp only [opL, ho]
    split at h
    · rename_i pv xv hd h1 h2
      refine ⟨hd, ?_⟩
      rw [h1, h2]
      split
      · rename_i e1 e2; cases e1; cases e2; exact storeE_ok hF h
      · rename_i pv' xv' hne e1 e2
        cases e1; cases e2
        exact storeV_ok hF (fun β m i k e => hne β m i k e) h
      · rename_i hx; exact (hx _ _ rfl rfl).elim
    · exact h.elim
  case h_19 t n ps ho => simp only [opL, ho]; exact litR_ok hF h
  case h_20 t l c ho => simp only [opL, ho]; exact makR_ok hF h
  case h_21 c ho => exact callR_ok hF ho h
  case h_22 x ho =>
    simp only [opL, ho, opY]
    obtain ⟨av, g1, h⟩ := evR_holds h
    rw [g1]
    split at h
    · exact yes h
    · exact yes h
    · exact yes h
    · exact h.elim
  case h_23 => exact h
end
end Go.Sx
end
section
namespace Go.Sx
open Go.RowKit (Below)
inductive Fr where
  | ops (ops : Array Oper) (l : List Oper)
  | op1 (g : Bool) (o : Oper)
  | r (r : R)
  | code (c : Code)
  | blk (id : Nat)
  | lp (J : St → Prop)
  | plan (ops : Array Oper) (LC : List Nat) (p : Plan)
def G (P : Program) (Q : Ex → St → Prop) : List Fr → Option Nat → St → Prop
  | [], none, σ => Q .normal σ
  | [], some i, σ => Q (.exit i) σ
  | .blk j :: st, some i, σ => if i = j then G P Q st none σ else G P Q st (some i) σ
  | _ :: st, some i, σ => G P Q st (some i) σ
  | .ops ops l :: st, none, σ => runO P ops l σ (G P Q st none)
  | .op1 g o :: st, none, σ => opL g P σ o (G P Q st none)
  | .r r :: st, none, _ => r.holds P (G P Q st none)
  | .code c :: st, none, σ => vc P c (fun e σ => match e with | .normal => G P Q st none σ | .exit i => G P Q st (some i) σ | .ret => Q .ret σ) σ
  | .blk _ :: st, none, σ => G P Q st none σ
  | .lp J :: _, none, σ => J σ
  | .plan ops LC p :: st, none, σ => planK LC P ops p σ (G P Q st none)
inductive T where
  | go (st : List Fr) (σ : St)
  | br (t : Bool) (st : List Fr) (σ : St) (st' : List Fr) (σ' : St)
  | side (p : Prop) (st : List Fr) (σ : St)
  | any (q : Bool → Prop) (f : Bool → R) (st : List Fr)
  | row (rows : List (List Cell)) (i : Nat) (f : List Cell → R) (st : List Fr)
  | byte (s : ByteArray) (i : Nat) (f : UInt8 → R) (st : List Fr)
  | call (g : Bool) (σ : St) (d : Option Tmp) (f : Nat) (avs : List AV) (st : List Fr)
  | raw (g : Bool) (σ : St) (o : Oper) (st : List Fr)
  | loop (b : Code) (st : List Fr) (σ : St)
  | cont (J : St → Prop) (σ : St)
  | draw (id : Nat) (ops : Array Oper) (st : List Fr) (σ : St)
  | both (st st' : List Fr) (σ : St)
  | yes
  | fin (e : Ex) (σ : St)
  | fail
def T.holds (P : Program) (Q : Ex → St → Prop) : T → Prop
  | .go st σ => G P Q st none σ
  | .br t st σ st' σ' => (t = true → G P Q st none σ) ∧ (t = false → G P Q st' none σ')
  | .side p st σ => p ∧ G P Q st none σ
  | .any q f st => ∀ b, q b → (f b).holds P (G P Q st none)
  | .row rows i f st => ∃ row, rows[i]? = some row ∧ (f row).holds P (G P Q st none)
  | .byte s i f st => ∃ b, s[i]? = some b ∧ (f b).holds P (G P Q st none)
  | .call g σ d f avs st => CallV P σ d f avs (G P Q st none) ∨ (g = true ∧ CallG P σ d f avs (G P Q st none))
  | .raw g σ o st => opL g P σ o (G P Q st none)
  | .loop b st σ => vc P (.loop b) (fun e σ => match e with | .normal => G P Q st none σ | .exit i => G P Q st (some i) σ | .ret => Q .ret σ) σ
  | .cont J σ => J σ
  | .draw id ops st σ => vc P (.region id ops true) (fun e σ => match e with | .normal => G P Q st none σ | .exit i => G P Q st (some i) σ | .ret => Q .ret σ) σ
  | .both st st' σ => G P Q st none σ ∧ G P Q st' none σ
  | .yes => True
  | .fin e σ => Q e σ
  | .fail => False
def popTo (i : Nat) : List Fr → Option (List Fr)
  | [] => none
  | .blk j :: st => bif Nat.beq i j then some st else popTo i st
  | _ :: st => popTo i st
def delT (σ : St) (d : Option Tmp) : St := match σ, d with
  | ⟨t, b⟩, some d => ⟨(d, .tup []) :: t, b⟩
  | σ, none => σ
def skR (σ : St) (d : Option Tmp) : R := match delT σ d with | ⟨t, b⟩ => (match force t with | some t => .ok ⟨t, b⟩ | none => .fail)
theorem skR_holds {P : Program} {σ : St} {d : Option Tmp} {K : St → Prop} (h : (skR σ d).holds P K) : K (delT σ d) := by
  unfold skR at h
  split at h
  rename_i t b e
  split at h
  · rename_i t' ht; rw [force_eq ht] at h; rw [e]; exact h
  · exact h.elim
def opStep (g : Bool) (F : TT) (ops : Array Oper) (o : Oper) (st : List Fr) (σ : St) : T := match o.guard with
    | none => .go (.r (opR g F σ o) :: st) σ
    | some (j, want) => (match nth ops.toList j with
      | some o' => (match o'.dst with
        | some d => (match get σ.t d with
          | some (.one (.b (.s (.bool t)))) => (match want with
            | true => .br t (.op1 g o :: st) (knowT σ (.tmp d) true) (.r (skR (knowT σ (.tmp d) false) o.dst) :: st) ⟨[], []⟩
            | false => .br t (.r (skR (knowT σ (.tmp d) true) o.dst) :: st) ⟨[], []⟩ (.op1 g o :: st) (knowT σ (.tmp d) false))
          | some (.tup []) => .go (.r (skR σ o.dst) :: st) ⟨[], []⟩
          | _ => .fail)
        | none => .fail)
      | none => .fail)
def step (F : TT) : List Fr → St → T
  | [], σ => .fin .normal σ
  | .ops _ [] :: st, σ => .go st σ
  | .ops ops (o :: l) :: st, σ => opStep true F ops o (.ops ops l :: st) σ
  | .op1 g o :: st, σ => .go (.r (opR g F σ o) :: st) σ
  | .r r :: st, σ => (match r with
    | .fail => .fail
    | .ok σ => .go st σ
    | .side p r => .side p (.r r :: st) σ
    | .br t r r' => .br t (.r r :: st) σ (.r r' :: st) σ
    | .any q f => .any q f st
    | .row rows i f => .row rows i f st
    | .byte s i f => .byte s i f st
    | .call g σ d f avs => .call g σ d f avs st
    | .raw g σ o => .raw g σ o st)
  | .code c :: st, σ => (match c with
    | .skip => .go st σ
    | .region id ops draw => (match draw with | true => .draw id ops st σ | false => .go (.ops ops ops.toList :: st) σ)
    | .seq x y => .go (.code x :: .code y :: st) σ
    | .cond c x y => (match ev σ c with
      | some (.one (.b (.s (.bool t)))) => .br t (.code x :: st) (knowT σ c true) (.code y :: st) (knowT σ c false)
      | _ => .fail)
    | .block id b => .go (.code b :: .blk id :: st) σ
    | .loop b => .loop b st σ
    | .exit id => (match popTo id st with | some st => .go st σ | none => .fail)
    | .ret => .fin .ret σ
    | _ => .fail)
  | .blk _ :: st, σ => .go st σ
  | .lp J :: _, σ => .cont J σ
  | .plan ops LC p :: st, σ => (match p with
    | .done => .go st σ
    | .nil => .yes
    | .take i _ p => (match nth ops.toList i with | some o => opStep (LC.contains i) F ops o (.plan ops LC p :: st) σ | none => .fail)
    | .alt i p .nil => (match nth ops.toList i with | some o => opStep (LC.contains i) F ops o (.plan ops LC p :: st) σ | none => .fail)
    | .alt i p q => .both (.plan ops LC (.alt i p .nil) :: st) (.plan ops LC q :: st) σ)
def exec : Nat → TT → List Fr → St → T
  | 0, _, st, σ => .go st σ
  | n + 1, F, st, σ => match step F st σ with
    | .go st σ => exec n F st σ
    | t => t
section
variable {P : Program} {F : TT} {Q : Ex → St → Prop}
theorem popTo_G {i : Nat} {σ : St} : ∀ {st st' : List Fr}, popTo i st = some st' → G P Q st' none σ → G P Q st (some i) σ
  | [], st', h, _ => by cases h
  | .blk j :: st, st', h, hg => by
    rw [popTo] at h
    rw [G]
    by_cases hij : i = j
    · subst hij; simp only [Nat.beq_refl, cond_true, Option.some.injEq] at h; subst h; rw [if_pos rfl]; exact hg
    · rw [beq_false hij] at h; rw [if_neg hij]; exact popTo_G h hg
  | .ops _ _ :: st, st', h, hg => popTo_G (st := st) h hg
  | .op1 _ _ :: st, st', h, hg => popTo_G (st := st) h hg
  | .r _ :: st, st', h, hg => popTo_G (st := st) h hg
  | .code _ :: st, st', h, hg => popTo_G (st := st) h hg
  | .lp _ :: st, st', h, hg => popTo_G (st := st) h hg
  | .plan _ _ _ :: st, st', h, hg => popTo_G (st := st) h hg
theorem opStep_ok {g : Bool} (hF : F = F.map P) {ops : Array Oper} {o : Oper} {st : List Fr} {σ : St} (h : (opStep g F ops o st σ).holds P Q) : guardK ops σ o (fun σ => opL g P σ o (G P Q st none)) (fun σ => skipK σ o.dst (G P Q st none)) := by
  simp only [opStep] at h
  unfold guardK
  split at h
  · rename_i hg; rw [hg]; exact opR_ok hF h
  · rename_i j want hg
    rw [hg]
    dsimp only
    split at h
    · rename_i o' ho'
      rw [nth_eq, Array.getElem?_toList] at ho'
      split at h
      · rename_i d hd
        rw [ho']
        simp only [Option.bind_some, hd]
        split at h
        · rename_i t ht
          rw [ht]
          dsimp only
          have hsk : ∀ (σ0 : St) (K : St → Prop), K (delT σ0 o.dst) → skipK σ0 o.dst K := fun σ0 K hk => by
            unfold skipK
            cases σ0 with
            | mk t0 b0 =>
            cases hdd : o.dst with
            | none => rw [hdd] at hk; exact hk
            | some d0 =>
              rw [hdd] at hk
              exact hk
          cases σ with
          | mk t0 b0 =>
          split at h
          · obtain ⟨h1, h2⟩ := h
            exact ⟨fun hb => by simp only [beq_self_eq_true, if_true]; exact h1 hb, fun hb => by
              have : ¬ ((false == true) = true) := by decide
              dsimp only; rw [if_neg this]; exact hsk _ _ (skR_holds (h2 hb))⟩
          · obtain ⟨h1, h2⟩ := h
            exact ⟨fun hb => by
              have : ¬ ((true == false) = true) := by decide
              dsimp only; rw [if_neg this]; exact hsk _ _ (skR_holds (h1 hb)), fun hb => by simp only [beq_self_eq_true, if_true]; exact h2 hb⟩
        · rename_i ht
          rw [ht]
          have h' := skR_holds (P := P) (K := G P Q st none) h
          unfold skipK
          cases σ with
          | mk t0 b0 =>
          cases hdd : o.dst with
          | none => rw [hdd] at h'; exact h'
          | some d0 => rw [hdd] at h'; exact h'
        · exact h.elim
      · exact h.elim
    · exact h.elim
theorem step_ok (hF : F = F.map P) {st : List Fr} {σ : St} (h : (step F st σ).holds P Q) : G P Q st none σ := by
  cases st with
  | nil => exact h
  | cons f st =>
    cases f with
    | ops ops l =>
      cases l with
      | nil => exact h
      | cons o l =>
        exact opStep_ok (st := .ops ops l :: st) hF h
    | op1 g o => exact opR_ok hF h
    | r r => cases r <;> exact h
    | code c =>
      cases c with
      | skip => exact h
      | region id ops draw =>
        cases draw with
        | true => exact h
        | false => exact h
      | seq x y =>
        have e : (fun (e : Ex) (σ : St) => match e with | .normal => G P Q (.code y :: st) none σ | .exit i => G P Q (.code y :: st) (some i) σ | .ret => Q .ret σ) =
          (fun e σ => match e with | .normal => vc P y (fun e σ => match e with | .normal => G P Q st none σ | .exit i => G P Q st (some i) σ | .ret => Q .ret σ) σ | .exit i => G P Q st (some i) σ | .ret => Q .ret σ) := by
          funext e σ; cases e <;> rfl
        have h' : vc P x (fun (e : Ex) (σ : St) => match e with | .normal => G P Q (.code y :: st) none σ | .exit i => G P Q (.code y :: st) (some i) σ | .ret => Q .ret σ) σ := h
        rw [e] at h'
        exact .inl h'
      | cond c x y =>
        simp only [step] at h
        simp only [G, vc]
        split at h
        · rename_i t ht; rw [ht]; exact h
        · exact h.elim
      | block id b =>
        have e : (fun (e : Ex) (σ : St) => match e with | .normal => G P Q (.blk id :: st) none σ | .exit i => G P Q (.blk id :: st) (some i) σ | .ret => Q .ret σ) =
          (fun e σ => match e with | .normal => G P Q st none σ | .exit i => if i = id then G P Q st none σ else G P Q st (some i) σ | .ret => Q .ret σ) := by
          funext e σ; cases e <;> rfl
        have h' : vc P b (fun (e : Ex) (σ : St) => match e with | .normal => G P Q (.blk id :: st) none σ | .exit i => G P Q (.blk id :: st) (some i) σ | .ret => Q .ret σ) σ := h
        rw [e] at h'
        exact h'
      | loop b => exact h
      | exit id =>
        simp only [step] at h
        split at h
        · rename_i st' hp; exact popTo_G hp h
        · exact h.elim
      | ret => exact h
      | _ => exact h.elim
    | blk id => exact h
    | lp J => exact h
    | plan ops LC p =>
      have one : ∀ {i : Nat} {p' : Plan}, (match nth ops.toList i with | some o => opStep (LC.contains i) F ops o (.plan ops LC p' :: st) σ | none => .fail).holds P Q → opAt LC P ops i σ (fun σ => planK LC P ops p' σ (G P Q st none)) := fun {i p'} h => by
        unfold opAt
        split at h
        · rename_i o ho
          rw [nth_eq, Array.getElem?_toList] at ho
          rw [ho]
          exact opStep_ok (st := .plan ops LC p' :: st) hF h
        · exact h.elim
      cases p with
      | done => exact h
      | nil => trivial
      | take i W p => exact one h
      | alt i p q =>
        cases q with
        | nil => exact ⟨one h, trivial⟩
        | done => exact ⟨h.1.1, h.2⟩
        | take _ _ _ => exact ⟨h.1.1, h.2⟩
        | alt _ _ _ => exact ⟨h.1.1, h.2⟩
theorem exec_ok (hF : F = F.map P) : ∀ {n : Nat} {st : List Fr} {σ : St}, (exec n F st σ).holds P Q → G P Q st none σ
  | 0, _, _, h => h
  | n + 1, st, σ, h => by
    refine step_ok hF ?_
    rw [exec] at h
    split at h
    · rename_i st' σ' hs; rw [hs]; exact exec_ok hF h
    · exact h
theorem run (hF : F = F.map P) {n : Nat} {st : List Fr} {σ : St} {t : T} (he : exec n F st σ = t) (h : t.holds P Q) : G P Q st none σ := exec_ok hF (by rw [he]; exact h)
def execJ : Nat → TT → List Fr → St → T
  | 0, _, st, σ => .go st σ
  | k + 1, F, st, σ => match exec 2000 F st σ with
    | .br t st1 σ1 st2 σ2 => (match t with | true => execJ k F st1 σ1 | false => execJ k F st2 σ2)
    | _ => .fail
theorem execJ_ok (hF : F = F.map P) : ∀ {k : Nat} {st : List Fr} {σ : St}, (execJ k F st σ).holds P Q → G P Q st none σ
  | 0, _, _, h => h
  | k + 1, st, σ, h => by
    rw [execJ] at h
    split at h
    · rename_i t st1 σ1 st2 σ2 he
      refine run hF he ?_
      cases t with
      | true => exact ⟨fun _ => execJ_ok hF h, nofun⟩
      | false => exact ⟨nofun, fun _ => execJ_ok hF h⟩
    · exact h.elim
def QR (P : Program) (fn : Func) (res : Res) (e : Ex) (σ : St) : Prop := match e with | .exit _ => False | _ => retK P fn res σ
theorem PC.begin {f : Nat} {fn : Func} {c : Code} {args : List SV} {res : Res} (hf : P.funcs[f]? = some fn) (hb : fn.body = some c) (hok : (okF P f && okCode fn.ntmps c && Nat.ble args.length fn.ntmps) = true)
    (h : G P (QR P fn res) [.code c] none ⟨argT 0 args, []⟩) : PC P f args res := by
  refine PC.intro hf hb hok ?_
  have e : (fun (e : Ex) (σ : St) => match e with | .normal => G P (QR P fn res) [] none σ | .exit i => G P (QR P fn res) [] (some i) σ | .ret => QR P fn res .ret σ) =
    (fun e σ => match e with | .exit _ => False | _ => retK P fn res σ) := by
    funext e σ; cases e <;> rfl
  have h' : vc P c (fun (e : Ex) (σ : St) => match e with | .normal => G P (QR P fn res) [] none σ | .exit i => G P (QR P fn res) [] (some i) σ | .ret => QR P fn res .ret σ) ⟨argT 0 args, []⟩ := h
  rw [e] at h'
  exact h'
end
end Go.Sx
end
section
namespace Go.Sx
class Tabled (P : Program) where
  F : TT
  ok : F = F.map P
  mix : P.follows .mixedOrders = true
def afterR (σ : St) (d : Option Tmp) (res : Res) : R := match d with
  | some d => (match σ with | ⟨t, b⟩ => bR ((d, resAV (nameOf d) res) :: t) (resABs (nameOf d) res ++ b))
  | none => .ok σ
def strictCB : AC → Bool
  | .b _ => true
  | .nil => true
  | .em => true
  | _ => false
def strictB : List AV → Bool
  | [] => true
  | .one c :: l => bif strictCB c then strictB l else false
  | .agg cs :: l => bif cs.all strictCB then strictB l else false
  | _ => false
def freshB (B : List (Nat × AB)) : List (Nat × AB) → Bool
  | [] => true
  | (β, _) :: l => match get B β with | none => freshB B l | some _ => false
theorem strictCB_ok {c : AC} (h : strictCB c = true) : strictC c := by cases c <;> first | trivial | cases h
theorem strictB_ok : ∀ {avs : List AV}, strictB avs = true → allV strictV avs
  | [], _ => trivial
  | .one c :: l, h => by
    rw [strictB] at h
    cases hc : strictCB c with
    | false => rw [hc] at h; cases h
    | true => rw [hc] at h; exact ⟨strictCB_ok hc, strictB_ok h⟩
  | .agg cs :: l, h => by
    rw [strictB] at h
    cases hc : cs.all strictCB with
    | false => rw [hc] at h; cases h
    | true =>
      rw [hc] at h
      have : ∀ cs : List AC, cs.all strictCB = true → allC strictC cs := by
        intro cs
        induction cs with
        | nil => intro _; trivial
        | cons c cs ih => intro h; simp only [List.all_cons, Bool.and_eq_true] at h; exact ⟨strictCB_ok h.1, ih h.2⟩
      exact ⟨this cs hc, strictB_ok h⟩
  | .tup _ :: l, h => by cases h
theorem freshB_ok {B : List (Nat × AB)} : ∀ {l : List (Nat × AB)}, freshB B l = true → freshIn B l
  | [], _ => trivial
  | (β, _) :: l, h => by
    rw [freshB] at h
    split at h
    · rename_i hn; exact ⟨hn, freshB_ok h⟩
    · cases h
def callOk (σ : St) (d : Option Tmp) (avs : List AV) (res : Res) : Bool := bif smallRes res then (bif hasBor res then (bif strictB avs then freshB σ.b (resABs (nameOf (d.getD 0)) res) else false) else freshB σ.b (resABs (nameOf (d.getD 0)) res)) else false
section
variable {P : Program} [Tabled P] {Q : Ex → St → Prop} {st st1 st2 : List Fr} {σ σ1 σ2 : St}
theorem xb {t : Bool} (h : exec 2000 (Tabled.F P) st σ = .br t st1 σ1 st2 σ2) (h1 : t = true → G P Q st1 none σ1) (h2 : t = false → G P Q st2 none σ2) : G P Q st none σ := run Tabled.ok h ⟨h1, h2⟩
theorem xf (h : exec 2000 (Tabled.F P) st σ = .br false st1 σ1 st2 σ2) (h1 : G P Q st2 none σ2) : G P Q st none σ := run Tabled.ok h ⟨nofun, fun _ => h1⟩
theorem xj {k : Nat} (h : execJ k (Tabled.F P) st σ = .go st1 σ1) (h1 : G P Q st1 none σ1) : G P Q st none σ := execJ_ok Tabled.ok (by rw [h]; exact h1)
theorem xr {e : Ex} (h : exec 2000 (Tabled.F P) st σ = .fin e σ1) (h1 : Q e σ1) : G P Q st none σ := run Tabled.ok h h1
theorem xs {p : Prop} (h : exec 2000 (Tabled.F P) st σ = .side p st1 σ1) (h1 : p) (h2 : G P Q st1 none σ1) : G P Q st none σ := run Tabled.ok h ⟨h1, h2⟩
theorem xany {q : Bool → Prop} {f : Bool → R} (h : exec 2000 (Tabled.F P) st σ = .any q f st1) (h1 : ∀ b, q b → G P Q (.r (f b) :: st1) none ⟨[], []⟩) : G P Q st none σ := run Tabled.ok h h1
theorem xrow {rows : List (List Cell)} {i : Nat} {f : List Cell → R} (h : exec 2000 (Tabled.F P) st σ = .row rows i f st1) (row : List Cell) (hr : rows[i]? = some row) (h1 : G P Q (.r (f row) :: st1) none ⟨[], []⟩) : G P Q st none σ := run Tabled.ok h ⟨row, hr, h1⟩
theorem xcont {J : St → Prop} (h : exec 2000 (Tabled.F P) st σ = .cont J σ1) (h1 : J σ1) : G P Q st none σ := run Tabled.ok h h1
theorem xboth (h : exec 2000 (Tabled.F P) st σ = .both st1 st2 σ1) (h1 : G P Q st1 none σ1) (h2 : G P Q st2 none σ1) : G P Q st none σ := run Tabled.ok h ⟨h1, h2⟩
def drawOk (ops : Array Oper) (LC : List Nat) (p : Plan) : Bool := Region.noSelect ops && (headOk .any ops (Array.replicate ops.size false) p && planOk LC .any ops p ops.size (Array.replicate ops.size false))
theorem xdraw {id : Nat} {ops : Array Oper} (h : exec 2000 (Tabled.F P) st σ = .draw id ops st1 σ1) (LC : List Nat) (p : Plan) (hp : drawOk ops LC p = true) (h1 : G P Q (.plan ops LC p :: st1) none σ1) : G P Q st none σ := by
  simp only [drawOk, Bool.and_eq_true] at hp
  exact run Tabled.ok h ⟨Tabled.mix, hp.1, LC, p, hp.2.1, hp.2.2, h1⟩
theorem xcall {g : Bool} {d : Option Tmp} {f : Nat} {avs : List AV} {res : Res} (h : exec 2000 (Tabled.F P) st σ = .call g σ1 d f avs st1) (hpc : PC P f (avs.map (toSV σ1.b)) res) (hok : callOk σ1 d avs res = true) (hw : allV (wfV σ1.b) avs) (h1 : G P Q (.r (afterR σ1 d res) :: st1) none ⟨[], []⟩) : G P Q st none σ := by
  refine run Tabled.ok h (.inl ⟨res, hpc, ?_⟩)
  unfold callOk at hok
  cases h2 : smallRes res with
  | false => rw [h2] at hok; cases hok
  | true =>
    rw [h2] at hok
    have hK : G P Q st1 none (afterCall σ1 d res) := by
      have h1 : (afterR σ1 d res).holds P (G P Q st1 none) := h1
      unfold afterR at h1
      unfold afterCall
      cases d with
      | none => exact h1
      | some d => cases σ1; exact bR_holds h1
    cases h3 : hasBor res with
    | true =>
      rw [h3] at hok
      cases h4 : strictB avs with
      | false => rw [h4] at hok; cases hok
      | true => rw [h4] at hok; exact ⟨rfl, hw, fun _ => strictB_ok h4, freshB_ok hok, hK⟩
    | false => rw [h3] at hok; exact ⟨rfl, hw, nofun, freshB_ok hok, hK⟩
def afterGR (σ : St) (d : Option Tmp) (res : Res) (T : List (Nat × AB)) : R := match σ, d with
  | ⟨t, b⟩, some d => bR ((d, resAV (nameOf d) res) :: t) ((resABs (nameOf d) res ++ T) ++ b)
  | ⟨t, b⟩, none => bR t (([] ++ T) ++ b)
def giveOk (σ : St) (d : Option Tmp) (avs : List AV) (args : List GA) (res : Res) : Bool := bif smallRes res then (bif nodB ((given 0 (acs avs) (gcs args)).map (·.2.1)) then freshB σ.b (resABs (nameOf (d.getD 0)) res) else false) else false
theorem xgive {d : Option Tmp} {f : Nat} {avs : List AV} {args : List GA} {res : Res} {back : List (Nat × List (List Cell))} (h : exec 2000 (Tabled.F P) st σ = .call true σ1 d f avs st1) (hpc : PG P f args res back) (hm : mAs σ1.b avs args) (hok : giveOk σ1 d avs args res = true)
    (h1 : G P Q (.r (afterGR σ1 d res (turned σ1.b back (given 0 (acs avs) (gcs args)))) :: st1) none ⟨[], []⟩) : G P Q st none σ := by
  unfold giveOk at hok
  cases h2 : smallRes res with
  | false => rw [h2] at hok; cases hok
  | true =>
    rw [h2] at hok
    cases h3 : nodB ((given 0 (acs avs) (gcs args)).map (·.2.1)) with
    | false => rw [h3] at hok; cases hok
    | true =>
      rw [h3] at hok
      refine run Tabled.ok h (.inr ⟨rfl, .inl ⟨args, res, back, hpc, h2, hm, nodB_nodup h3, freshB_ok hok, ?_⟩⟩)
      have h1 : (afterGR σ1 d res (turned σ1.b back (given 0 (acs avs) (gcs args)))).holds P (G P Q st1 none) := h1
      cases σ1
      cases d with
      | none => exact bR_holds h1
      | some d => exact bR_holds h1
theorem xloopS {b : Code} (h : exec 2000 (Tabled.F P) st σ = .loop b st1 σ1) {ι : Type} (pre : ι → Prop) (inv : ι → St) (m : ι → Nat) (i0 : ι) (h0 : pre i0) (hw : Wk σ1 (inv i0))
    (hs : ∀ i, pre i → ∀ J : St → Prop, (∀ σ' i', pre i' → m i' < m i → Wk σ' (inv i') → J σ') → G P Q (.code b :: .lp J :: st1) none (inv i)) : G P Q st none σ := by
  refine run Tabled.ok h ⟨ι, pre, inv, m, ⟨i0, h0, hw⟩, fun i hi => ?_⟩
  have h2 := hs i hi (fun σ => ∃ i', pre i' ∧ m i' < m i ∧ Wk σ (inv i')) (fun σ' i' h1 h2 h3 => ⟨i', h1, h2, h3⟩)
  have e : (fun (e : Ex) (σ : St) => match e with | .normal => G P Q (.lp (fun σ => ∃ i', pre i' ∧ m i' < m i ∧ Wk σ (inv i')) :: st1) none σ | .exit i' => G P Q (.lp (fun σ => ∃ i', pre i' ∧ m i' < m i ∧ Wk σ (inv i')) :: st1) (some i') σ | .ret => Q .ret σ) =
      (fun e σ => match e with | .normal => ∃ i', pre i' ∧ m i' < m i ∧ Wk σ (inv i') | .exit j => G P Q st1 (some j) σ | .ret => Q .ret σ) := by
    funext e σ; cases e <;> rfl
  have h3 : vc P b (fun (e : Ex) (σ : St) => match e with | .normal => G P Q (.lp (fun σ => ∃ i', pre i' ∧ m i' < m i ∧ Wk σ (inv i')) :: st1) none σ | .exit i' => G P Q (.lp (fun σ => ∃ i', pre i' ∧ m i' < m i ∧ Wk σ (inv i')) :: st1) (some i') σ | .ret => Q .ret σ) (inv i) := h2
  rw [e] at h3
  exact h3
theorem xloop {b : Code} (h : exec 2000 (Tabled.F P) st σ = .loop b st1 σ1) {ι : Type} (pre : ι → Prop) (inv : ι → St) (m : ι → Nat) (i0 : ι) (h0 : pre i0) (hw : Wk0 σ1 (inv i0))
    (hs : ∀ i, pre i → ∀ J : St → Prop, (∀ σ' i', pre i' → m i' < m i → Wk0 σ' (inv i') → J σ') → G P Q (.code b :: .lp J :: st1) none (inv i)) : G P Q st none σ :=
  xloopS h pre inv m i0 h0 (.of hw) (fun i hi J hJ => hs i hi J (fun σ' i' h1 h2 h3 => hJ σ' i' h1 h2 (.of h3)))
theorem xcut {n : Nat} {x y : Code} (h : exec n (Tabled.F P) st σ = .go (.code (.seq x y) :: st1) σ1) {ι : Type} (pre : ι → Prop) (inv : ι → St)
    (h1 : ∀ K : St → Prop, (∀ σ' i, pre i → Wk0 σ' (inv i) → K σ') → G P Q (.code x :: .lp K :: st1) none σ1) (h2 : ∀ i, pre i → G P Q (.code y :: st1) none (inv i)) : G P Q st none σ := by
  refine run Tabled.ok h ?_
  show G P Q (.code (.seq x y) :: st1) none σ1
  refine .inr ⟨ι, pre, inv, ?_, h2⟩
  have h3 := h1 (fun σ' => ∃ i, pre i ∧ Wk σ' (inv i)) (fun σ' i hp hw => ⟨i, hp, .of hw⟩)
  have e : (fun (e : Ex) (σ : St) => match e with | .normal => G P Q (.lp (fun σ => ∃ i', pre i' ∧ Wk σ (inv i')) :: st1) none σ | .exit i' => G P Q (.lp (fun σ => ∃ i', pre i' ∧ Wk σ (inv i')) :: st1) (some i') σ | .ret => Q .ret σ) =
      (fun e σ => match e with | .normal => ∃ i', pre i' ∧ Wk σ (inv i') | .exit j => G P Q st1 (some j) σ | .ret => Q .ret σ) := by
    funext e σ; cases e <;> rfl
  have h4 : vc P x (fun (e : Ex) (σ : St) => match e with | .normal => G P Q (.lp (fun σ => ∃ i', pre i' ∧ Wk σ (inv i')) :: st1) none σ | .exit i' => G P Q (.lp (fun σ => ∃ i', pre i' ∧ Wk σ (inv i')) :: st1) (some i') σ | .ret => Q .ret σ) σ1 := h3
  rw [e] at h4
  exact h4
omit [Tabled P] in
theorem xret {fn : Func} {res : Res} {e : Ex} (he : (match e with | .exit _ => false | _ => true) = true) (h : retK P fn res σ) : QR P fn res e σ := by
  cases e with
  | exit i => cases he
  | _ => exact h
end
end Go.Sx
end
section
namespace Go.Sx
theorem wrap_i64 {n : Int} (h : -9223372036854775808 ≤ n) (h2 : n ≤ 9223372036854775807) : IntKind.i64.wrap n = n := by
  have e : IntKind.i64.wrap n = if n % 18446744073709551616 ≥ 9223372036854775808 then n % 18446744073709551616 - 18446744073709551616 else n % 18446744073709551616 := by
    simp [IntKind.wrap, IntKind.signed, IntKind.bits]
  rw [e]
  split <;> omega
theorem get_fill {α : Type} (xs : List α) (z : α) (i n : Nat) (h : i < xs.length) (hn : n = xs.length) : (xs.take i ++ List.replicate (n - i) z)[i]? = some z := by
  subst hn
  have e1 : (xs.take i).length = i := by simp; omega
  rw [List.getElem?_append_right (by omega), List.getElem?_replicate, e1, if_pos (by omega)]
theorem set_fill {α : Type} (xs : List α) (z x : α) (i n : Nat) (h : xs[i]? = some x) (hn : n = xs.length) : (xs.take i ++ List.replicate (n - i) z).set i x = xs.take (i + 1) ++ List.replicate (n - (i + 1)) z := by
  subst hn
  obtain ⟨hi, rfl⟩ := List.getElem?_eq_some_iff.1 h
  apply List.ext_getElem?
  intro j
  rw [List.getElem?_set]
  by_cases hj : i = j
  · subst hj
    rw [if_pos rfl]
    have : i < (xs.take i ++ List.replicate (xs.length - i) z).length := by simp; omega
    rw [if_pos this, List.getElem?_append_left (by simp; omega), List.getElem?_take, if_pos (by omega)]
    simp
  · rw [if_neg hj]
    by_cases h1 : j < i
    · rw [List.getElem?_append_left (by simp; omega), List.getElem?_append_left (by simp; omega), List.getElem?_take, List.getElem?_take, if_pos h1, if_pos (by omega)]
    · rw [List.getElem?_append_right (by simp; omega), List.getElem?_append_right (by simp; omega), List.getElem?_replicate, List.getElem?_replicate]
      have e1 : (xs.take i).length = i := by simp; omega
      have e2 : (xs.take (i + 1)).length = i + 1 := by simp; omega
      rw [e1, e2]
      by_cases h3 : j < xs.length
      · rw [if_pos (by omega), if_pos (by omega)]
      · rw [if_neg (by omega), if_neg (by omega)]
theorem len_fill {α : Type} (xs : List α) (z : α) (i n : Nat) (h : i ≤ xs.length) (hn : n = xs.length) : (xs.take i ++ List.replicate (n - i) z).length = n := by
  subst hn; simp; omega
theorem all_fill {α : Type} (xs : List α) (z : α) (n : Nat) (hn : n = xs.length) : xs.take n ++ List.replicate (n - n) z = xs := by
  subst hn; simp
end Go.Sx
end
section
namespace Go.Sx
open Go.RowKit (Below)
def gAC (t : Nat) : GC → AC
  | .bor c => .b c
  | .giv _ _ rows => .h (1000000000 + t) rows.length
def gACs : Nat → List GC → List AC
  | _, [] => []
  | t, c :: l => gAC t c :: gACs (t + 1) l
def gAV (t : Nat) : GA → AV
  | .one c => .one (gAC t c)
  | .agg cs => .agg (gACs t cs)
def gT : Nat → Nat → List GA → List (Nat × AV)
  | _, _, [] => []
  | i, t, .one c :: l => (i, gAV t (.one c)) :: gT (i + 1) (t + 1) l
  | i, t, .agg cs :: l => (i, gAV t (.agg cs)) :: gT (i + 1) (t + cs.length) l
def gB : Nat → List GC → List (Nat × AB)
  | _, [] => []
  | t, .bor _ :: l => gB (t + 1) l
  | t, .giv full sz rows :: l => (1000000000 + t, .arr full sz 0 rows) :: gB (t + 1) l
def ghosts : Nat → List GC → List Value → List (AC × Value)
  | t, .giv _ _ rows :: l, u :: us => (.h (1000000000 + t) rows.length, u) :: ghosts (t + 1) l us
  | t, .bor _ :: l, _ :: us => ghosts (t + 1) l us
  | _, _, _ => []
def backOk (args : List GA) (σ : St) : List (Nat × List (List Cell)) → Prop
  | [] => True
  | (t, rows') :: l => (match nth (gcs args) t, get σ.b (1000000000 + t) with
    | some (.giv full sz rows), some (.arr full' sz' _ rows'') => full' = full ∧ sz' = sz ∧ rows'' = rows' ∧ rows'.length = rows.length ∧ sameLens rows rows'
    | _, _ => False) ∧ backOk args σ l
def keys {α : Type} : List (Nat × α) → List Nat
  | [] => []
  | (t, _) :: l => (1000000000 + t) :: keys l
def retG (P : Program) (fn : Func) (args : List GA) (res : Res) (back : List (Nat × List (List Cell))) (σ : St) : Prop := retKB P fn res (keys back) σ ∧ backOk args σ back
def QG (P : Program) (fn : Func) (args : List GA) (res : Res) (back : List (Nat × List (List Cell))) (e : Ex) (σ : St) : Prop := match e with | .exit _ => False | _ => retG P fn args res back σ
theorem xretG {P : Program} {fn : Func} {args : List GA} {res : Res} {back : List (Nat × List (List Cell))} {e : Ex} {σ : St} (he : (match e with | .exit _ => false | _ => true) = true) (h : retKB P fn res (keys back) σ) (hb : backOk args σ back) : QG P fn args res back e σ := by
  cases e with
  | exit i => cases he
  | _ => exact ⟨h, hb⟩
section
variable {C : Ctx} {σ : St} {ρ : Env} {a : Act} {w : World}
theorem gACs_len : ∀ (t : Nat) (cs : List GC), (gACs t cs).length = cs.length
  | _, [] => rfl
  | t, c :: l => by simp [gACs, gACs_len (t + 1) l]
theorem gACs_get : ∀ {t : Nat} {cs : List GC} {k : Nat} {c : AC}, (gACs t cs)[k]? = some c → ∃ g, cs[k]? = some g ∧ c = gAC (t + k) g
  | t, [], k, c, h => by simp [gACs] at h
  | t, g :: l, k, c, h => by
    cases k with
    | zero => cases h; exact ⟨g, rfl, rfl⟩
    | succ k =>
      obtain ⟨g', h1, h2⟩ := gACs_get (t := t + 1) (cs := l) (k := k) (by simpa [gACs] using h)
      exact ⟨g', by simpa using h1, by rw [h2]; congr 1; omega⟩
theorem gT_rel {B : List (Nat × AB)} : ∀ {args : List GA} {vals : List Value} {i t0 : Nat}, shapeG args vals → (∀ (t : Nat) (g : GC) (u : Value), (gcs args)[t]? = some g → (vflat args vals)[t]? = some u → RelAC C w ρ B (gAC (t0 + t) g) u) →
    ∀ {k : Nat} {av : AV}, get (gT i t0 args) k = some av → ∃ j v, k = i + j ∧ vals[j]? = some v ∧ RelAV C w ρ B av v
  | [], vals, i, t0, _, _, k, av, h => by cases h
  | .one c :: l, [], i, t0, hs, _, k, av, h => hs.elim
  | .agg c :: l, [], i, t0, hs, _, k, av, h => hs.elim
  | .one c :: l, v :: vs, i, t0, hs, hX, k, av, h => by
    rw [gT, get_cons'] at h
    by_cases hk : i = k
    · rw [if_pos hk] at h
      cases h
      exact ⟨0, v, by omega, rfl, hX 0 c v rfl rfl⟩
    · rw [if_neg hk] at h
      obtain ⟨j, v', h1, h2, h3⟩ := gT_rel (args := l) (vals := vs) (t0 := t0 + 1) hs (fun t g u hg hu => by
        have := hX (t + 1) g u (by simpa [gcs] using hg) (by simpa [vflat] using hu)
        rwa [show t0 + (t + 1) = t0 + 1 + t by omega] at this) h
      exact ⟨j + 1, v', by omega, by simpa using h2, h3⟩
  | .agg cs :: l, v :: vs, i, t0, hs, hX, k, av, h => by
    obtain ⟨⟨arr, rfl, h0⟩, hs⟩ := hs
    rw [gT, get_cons'] at h
    by_cases hk : i = k
    · rw [if_pos hk] at h
      cases h
      refine ⟨0, _, by omega, rfl, arr, rfl, by rw [gACs_len, h0], fun k c u hc hu => ?_⟩
      obtain ⟨g, hg, rfl⟩ := gACs_get hc
      have hlt := (List.getElem?_eq_some_iff.1 hg).1
      refine hX k g u ?_ ?_
      · simp only [gcs]; rw [List.getElem?_append_left hlt]; exact hg
      · simp only [vflat]; rw [List.getElem?_append_left (by rw [Array.length_toList]; omega), Array.getElem?_toList]; exact hu
    · rw [if_neg hk] at h
      obtain ⟨j, v', h1, h2, h3⟩ := gT_rel (args := l) (vals := vs) (t0 := t0 + cs.length) hs (fun t g u hg hu => by
        have := hX (cs.length + t) g u (by simp only [gcs]; rw [List.getElem?_append_right (by omega)]; simpa using hg) (by
          have e : arr.toList.length = cs.length := (Array.length_toList).trans h0
          simp only [vflat]; rw [List.getElem?_append_right (by omega), e]; simpa using hu)
        rwa [← Nat.add_assoc] at this) h
      exact ⟨j + 1, v', by omega, by simpa using h2, h3⟩
theorem gB_get : ∀ {t0 : Nat} {cs : List GC} {β : Nat} {ab : AB}, get (gB t0 cs) β = some ab → ∃ k full sz rows, β = 1000000000 + (t0 + k) ∧ cs[k]? = some (.giv full sz rows) ∧ ab = .arr full sz 0 rows
  | t0, [], β, ab, h => by cases h
  | t0, .bor c :: l, β, ab, h => by
    obtain ⟨k, full, sz, rows, h1, h2, h3⟩ := gB_get (t0 := t0 + 1) (cs := l) h
    exact ⟨k + 1, full, sz, rows, by omega, by simpa using h2, h3⟩
  | t0, .giv full sz rows :: l, β, ab, h => by
    rw [gB, get_cons'] at h
    by_cases hb : 1000000000 + t0 = β
    · rw [if_pos hb] at h; cases h; exact ⟨0, full, sz, rows, by omega, rfl, rfl⟩
    · rw [if_neg hb] at h
      obtain ⟨k, full, sz, rows, h1, h2, h3⟩ := gB_get (t0 := t0 + 1) (cs := l) h
      exact ⟨k + 1, full, sz, rows, by omega, by simpa using h2, h3⟩
theorem gB_put : ∀ {t0 : Nat} {cs : List GC} {k : Nat} {full : Bool} {sz : Nat} {rows : List (List Cell)}, cs[k]? = some (.giv full sz rows) → get (gB t0 cs) (1000000000 + (t0 + k)) = some (.arr full sz 0 rows)
  | t0, [], k, full, sz, rows, h => by simp at h
  | t0, .bor c :: l, k, full, sz, rows, h => by
    cases k with
    | zero => cases h
    | succ k =>
      have := gB_put (t0 := t0 + 1) (cs := l) (k := k) (by simpa using h)
      rw [show t0 + (k + 1) = t0 + 1 + k by omega]; exact this
  | t0, .giv full' sz' rows' :: l, k, full, sz, rows, h => by
    cases k with
    | zero => cases h; rw [gB, get_cons', if_pos (by omega)]
    | succ k =>
      have := gB_put (t0 := t0 + 1) (cs := l) (k := k) (by simpa using h)
      rw [gB, get_cons', if_neg (by omega), show t0 + (k + 1) = t0 + 1 + k by omega]; exact this
theorem ghosts_get : ∀ {t0 : Nat} {cs : List GC} {us : List Value} {g : AC × Value}, g ∈ ghosts t0 cs us → ∃ k full sz rows u, g = (.h (1000000000 + (t0 + k)) rows.length, u) ∧ cs[k]? = some (.giv full sz rows) ∧ us[k]? = some u
  | t0, [], us, g, h => by cases us <;> simp [ghosts] at h
  | t0, .bor c :: l, [], g, h => by simp [ghosts] at h
  | t0, .giv _ _ _ :: l, [], g, h => by simp [ghosts] at h
  | t0, .bor c :: l, u :: us, g, h => by
    obtain ⟨k, full, sz, rows, u', h1, h2, h3⟩ := ghosts_get (t0 := t0 + 1) (cs := l) (us := us) h
    exact ⟨k + 1, full, sz, rows, u', by rw [h1, show t0 + 1 + k = t0 + (k + 1) by omega], by simpa using h2, by simpa using h3⟩
  | t0, .giv full sz rows :: l, u :: us, g, h => by
    rcases List.mem_cons.1 h with rfl | h
    · exact ⟨0, full, sz, rows, u, rfl, rfl, rfl⟩
    · obtain ⟨k, full, sz, rows, u', h1, h2, h3⟩ := ghosts_get (t0 := t0 + 1) (cs := l) (us := us) h
      exact ⟨k + 1, full, sz, rows, u', by rw [h1, show t0 + 1 + k = t0 + (k + 1) by omega], by simpa using h2, by simpa using h3⟩
theorem ghosts_put : ∀ {t0 : Nat} {cs : List GC} {us : List Value} {k : Nat} {full : Bool} {sz : Nat} {rows : List (List Cell)} {u : Value}, cs[k]? = some (.giv full sz rows) → us[k]? = some u → (AC.h (1000000000 + (t0 + k)) rows.length, u) ∈ ghosts t0 cs us
  | t0, [], us, k, full, sz, rows, u, h, _ => by simp at h
  | t0, c :: l, [], k, full, sz, rows, u, _, h => by simp at h
  | t0, .bor c :: l, u' :: us, k, full, sz, rows, u, h, h' => by
    cases k with
    | zero => cases h
    | succ k =>
      have := ghosts_put (t0 := t0 + 1) (cs := l) (us := us) (k := k) (by simpa using h) (by simpa using h')
      rw [show t0 + (k + 1) = t0 + 1 + k by omega]; exact this
  | t0, .giv full' sz' rows' :: l, u' :: us, k, full, sz, rows, u, h, h' => by
    cases k with
    | zero => cases h; cases h'; exact List.mem_cons_self ..
    | succ k =>
      have := ghosts_put (t0 := t0 + 1) (cs := l) (us := us) (k := k) (by simpa using h) (by simpa using h')
      rw [show t0 + (k + 1) = t0 + 1 + k by omega]; exact List.mem_cons_of_mem _ this
theorem backOk_get {args : List GA} : ∀ {back : List (Nat × List (List Cell))} {t : Nat} {rows' : List (List Cell)}, backOk args σ back → get back t = some rows' → (1000000000 + t) ∈ keys back ∧ ∃ full sz rows ep, (gcs args)[t]? = some (.giv full sz rows) ∧ get σ.b (1000000000 + t) = some (.arr full sz ep rows') ∧ rows'.length = rows.length ∧ sameLens rows rows'
  | [], t, rows', _, h => by cases h
  | (k, r) :: l, t, rows', hb, h => by
    rw [get_cons'] at h
    by_cases hk : k = t
    · subst hk
      rw [if_pos rfl] at h
      cases h
      refine ⟨List.mem_cons_self .., ?_⟩
      have h1 := hb.1
      split at h1
      · rename_i full sz rows full' sz' ep rows'' e1 e2
        obtain ⟨rfl, rfl, rfl, h2, h3⟩ := h1
        rw [nth_eq] at e1
        exact ⟨_, _, rows, ep, e1, e2, h2, h3⟩
      · exact h1.elim
    · rw [if_neg hk] at h
      obtain ⟨h1, h2⟩ := backOk_get hb.2 h
      exact ⟨List.mem_cons_of_mem _ h1, h2⟩
end
theorem CN.mono {w : World} {N N' : Nat → Prop} {full : Bool} {F : Nat → Prop} {c : Cell} {u : Value} (h : CN w N full F c u) (hN : ∀ x, x < w.heap.size → N x → N' x) : CN w N' full F c u := by
  cases full with
  | true => exact h
  | false => exact Rep.mono h hN
theorem PG.begin {P : Program} {f : Nat} {fn : Func} {c : Code} {args : List GA} {res : Res} {back : List (Nat × List (List Cell))} (hf : P.funcs[f]? = some fn) (hb : fn.body = some c) (hok : (okF P f && okCode fn.ntmps c && Nat.ble args.length fn.ntmps) = true)
    (h : G P (QG P fn args res back) [.code c] none ⟨gT 0 0 args, gB 0 (gcs args)⟩) : PG P f args res back := by
  simp only [Bool.and_eq_true] at hok
  obtain ⟨⟨ho1, ho2⟩, ho3⟩ := hok
  refine ⟨ho1, fun N S w vals hS1 hS2 hsh hcell => ?_⟩
  refine calls_of_wp hf hb ?_
  have hle : args.length ≤ fn.ntmps := Nat.le_of_ble_eq_true ho3
  have hshl : ∀ {args : List GA} {vals : List Value}, shapeG args vals → vals.length = args.length := by
    intro args
    induction args with
    | nil => intro vals h; cases vals with | nil => rfl | cons _ _ => exact h.elim
    | cons ga l ih =>
      intro vals h
      cases vals with
      | nil => cases ga <;> exact h.elim
      | cons v vs =>
        cases ga with
        | one c => simp [ih (vals := vs) h]
        | agg cs => simp [ih (vals := vs) h.2]
  have hvl : vals.size = args.length := by simpa using hshl hsh
  have hlen := vflat_len hsh
  generalize hC : Ctx.mk P fn.ntmps w N (fun x => ∃ t, S t x) (ghosts 0 (gcs args) (vflat args vals.toList)) = C
  generalize hρ : (⟨fun β => ((vflat args vals.toList)[β - 1000000000]?).getD undef, fun β x => S (β - 1000000000) x⟩ : Env) = ρ
  have hname : ∀ t, 1000000000 + t - 1000000000 = t := fun t => by omega
  have hNB : ∀ x, N x → Bor C ρ (gB 0 (gcs args)) x := fun x hx => by
    refine ⟨?_, fun β ab hg hs => ?_⟩
    · rw [← hC]; exact .inl hx
    · rw [← hρ] at hs; exact (hS1 _ x hs).2 hx
  have hAC : ∀ (t : Nat) (g : GC) (u : Value), (gcs args)[t]? = some g → (vflat args vals.toList)[t]? = some u → RelAC C w ρ (gB 0 (gcs args)) (gAC (0 + t) g) u := fun t g u hg hu => by
    have hc := hcell t g u hg hu
    cases g with
    | bor c => exact Rep.mono hc (fun x _ hx => hNB x hx)
    | giv full sz rows =>
      obtain ⟨sz', _, hslab⟩ := hc
      obtain ⟨A, cap, rfl⟩ := hslab.slice
      refine ⟨⟨A, cap, rfl⟩, _, gB_put hg, fun full' sz1 ep rows' he => ?_⟩
      cases he
      refine ⟨Nat.le_refl _, fun _ => ?_⟩
      rw [← hρ]
      simp only [Nat.zero_add, hname, hu, Option.getD_some]
  have hinit : RelAt C ⟨gT 0 0 args, gB 0 (gcs args)⟩ ρ { tmps := vals ++ Array.replicate (fn.ntmps - vals.size) undef, defers := [] } w := by
    refine ⟨fun t av ht => ?_, fun β ab hg => ?_, fun β β' ab ab' x hg hg' hx hx' => ?_, fun β ab x hg hx => ?_, ?_, rfl, ?_, fun g hg => ?_⟩
    · obtain ⟨j, v, h1, h2, h3⟩ := gT_rel hsh hAC ht
      have hj : j < vals.size := by have := (List.getElem?_eq_some_iff.1 h2).1; simpa using this
      refine ⟨v, ?_, h3⟩
      have htj : t = j := by omega
      subst htj
      rw [Array.getElem?_append, if_pos hj]
      simpa using h2
    · obtain ⟨k, full, sz, rows, rfl, h2, rfl⟩ := gB_get hg
      have hlt : k < (vflat args vals.toList).length := by rw [hlen]; exact (List.getElem?_eq_some_iff.1 h2).1
      obtain ⟨sz', hsz, hslab⟩ := hcell k _ _ h2 (List.getElem?_eq_getElem hlt)
      refine ⟨sz', hsz, ?_⟩
      have e1 : ρ.v (1000000000 + (0 + k)) = (vflat args vals.toList)[k] := by
        rw [← hρ]; simp only [Nat.zero_add, hname, List.getElem?_eq_getElem hlt, Option.getD_some]
      have e2 : ρ.S (1000000000 + (0 + k)) = S k := by
        rw [← hρ]; simp only [Nat.zero_add, hname]
      rw [e1, e2, CC_CN (σ := ⟨[], gB 0 (gcs args)⟩)]
      exact Slab.imp hslab (fun _ h => h) (fun _ _ _ => rfl) (fun _ _ _ _ hc => CN.mono hc (fun x _ hx => hNB x hx))
    · obtain ⟨k, _, _, _, rfl, _, _⟩ := gB_get hg
      obtain ⟨k', _, _, _, rfl, _, _⟩ := gB_get hg'
      rw [← hρ] at hx hx'
      have := hS2 _ _ x hx hx'
      omega
    · rw [← hρ] at hx
      refine ⟨(hS1 _ x hx).1, .inr ?_⟩
      rw [← hC]; exact ⟨_, hx⟩
    · rw [← hC]
      show (vals ++ Array.replicate (fn.ntmps - vals.size) undef).size = fn.ntmps
      rw [Array.size_append, Array.size_replicate]
      omega
    · rw [← hC]; exact Keep.refl _ _
    · rw [← hC] at hg
      obtain ⟨k, full, sz, rows, u, rfl, h2, h3⟩ := ghosts_get hg
      exact hAC k (.giv full sz rows) u h2 h3
  have hCP : C.P = P := by rw [← hC]
  have hCT : C.T = fn.ntmps := by rw [← hC]
  have hQ : vc C.P c (fun (e : Ex) (σ : St) => match e with | .normal => G P (QG P fn args res back) [] none σ | .exit i => G P (QG P fn args res back) [] (some i) σ | .ret => QG P fn args res back .ret σ) ⟨gT 0 0 args, gB 0 (gcs args)⟩ := by rw [hCP]; exact h
  have hwp := vc_sound (C := C) (fun g hg => by
    rw [← hC] at hg
    obtain ⟨k, _, _, _, _, rfl, _, _⟩ := ghosts_get hg
    exact Nat.le_add_right _ _) (by rw [hCT]; exact ho2) ⟨ρ, hinit⟩ hQ
  rw [hCP] at hwp
  refine wp_mono hwp (fun e a' w' hq => ?_)
  obtain ⟨e', he, σ', hr, ρ', hrel⟩ := hq
  have fin : retG P fn args res back σ' → a'.defers = [] ∧ ∃ v, (results fn a'.tmps).run P w' = .ok v w' ∧ ∃ (v' : Value) (SR : Nat → Prop) (SB : Nat → Nat → Prop), Ending.returned v = .returned v' ∧ Keep w w' (fun x => ∃ t, S t x) ∧ RelRes w' (Rest N w S SR SB) SR res v' ∧
      (∀ x, SR x → (w.heap.size ≤ x ∨ ∃ t, S t x) ∧ x < w'.heap.size ∧ ∀ t, ¬ SB t x) ∧ (∀ t x, SB t x → (w.heap.size ≤ x ∨ ∃ t, S t x) ∧ x < w'.heap.size) ∧ (∀ t t' x, SB t x → SB t' x → t = t') ∧
      ∀ (t : Nat) (rows' : List (List Cell)), get back t = some rows' → ∀ (full : Bool) (sz : Nat) (rows : List (List Cell)) (u : Value), (gcs args)[t]? = some (.giv full sz rows) → (vflat args vals.toList)[t]? = some u →
        rows'.length = rows.length ∧ (∀ (i : Nat) (row row' : List Cell), rows[i]? = some row → rows'[i]? = some row' → row'.length = row.length) ∧ ∃ sz', (sz ≠ 0 → sz' = sz) ∧ Slab w' (CN w' (Rest N w S SR SB) full) (SB t) sz' rows' u := fun hret => by
    obtain ⟨hret, hbk⟩ := hret
    rw [← hCP] at hret
    obtain ⟨v, ms, h1, h2, h3⟩ := ret_sound hrel hret
    rw [hCP] at h1
    have hmine : ∀ β ab x, get σ'.b β = some ab → ρ'.S β x → x < w'.heap.size ∧ (w.heap.size ≤ x ∨ ∃ t, S t x) := by
      have := hrel.mine
      rw [← hC] at this
      exact this
    have hkeep : Keep w w' (fun x => ∃ t, S t x) := by
      have := hrel.keep
      rw [← hC] at this
      exact this
    have hfree : ∀ x, Bor C ρ' σ'.b x → N x ∨ w.heap.size ≤ x ∨ ∃ t, S t x := by
      intro x hx
      have := hx.1
      rw [← hC] at this
      exact this
    have hrest : ∀ x, Bor C ρ' σ'.b x → Rest N w S (gS σ' ρ' ms) (fun t x => (get back t).isSome = true ∧ (∃ ab, get σ'.b (1000000000 + t) = some ab) ∧ ρ'.S (1000000000 + t) x) x := fun x hx =>
      ⟨hfree x hx, fun ⟨γ, _, ⟨ab, hab⟩, hs⟩ => hx.2 γ ab hab hs, fun t ⟨_, ⟨ab, hab⟩, hs⟩ => hx.2 _ ab hab hs⟩
    have hkey : ∀ t, (get back t).isSome = true → (1000000000 + t) ∈ keys back := fun t ht => by
      obtain ⟨rows', hr'⟩ := Option.isSome_iff_exists.1 ht
      exact (backOk_get hbk hr').1
    refine ⟨hrel.defers, v, h1, v, gS σ' ρ' ms, fun t x => (get back t).isSome = true ∧ (∃ ab, get σ'.b (1000000000 + t) = some ab) ∧ ρ'.S (1000000000 + t) x, rfl, hkeep, h2.mono hrest, fun x hx => ?_, fun t x hx => ?_, fun t t' x hx hx' => ?_, fun t rows' ht full sz rows u hg hu => ?_⟩
    · obtain ⟨γ, hγ, ⟨ab, hab⟩, hs⟩ := hx
      refine ⟨(hmine γ ab x hab hs).2, (hmine γ ab x hab hs).1, fun t ⟨h4, ⟨ab', hab'⟩, h6⟩ => ?_⟩
      have := hrel.disj γ _ ab ab' x hab hab' hs h6
      exact h3 γ hγ (this ▸ hkey t h4)
    · obtain ⟨_, ⟨ab, hab⟩, hs⟩ := hx
      exact ⟨(hmine _ ab x hab hs).2, (hmine _ ab x hab hs).1⟩
    · obtain ⟨_, ⟨ab, hab⟩, hs⟩ := hx
      obtain ⟨_, ⟨ab', hab'⟩, hs'⟩ := hx'
      have := hrel.disj _ _ ab ab' x hab hab' hs hs'
      omega
    · obtain ⟨_, full1, sz1, rows1, ep, e1, e2, e3, e4⟩ := backOk_get hbk ht
      rw [hg] at e1
      cases e1
      refine ⟨e3, e4, ?_⟩
      obtain ⟨sz', hsz, hslab⟩ := hrel.blks _ _ e2
      refine ⟨sz', hsz, ?_⟩
      have hgh := hrel.ghost (.h (1000000000 + (0 + t)) rows.length, u) (by rw [← hC]; exact ghosts_put hg hu)
      obtain ⟨_, ab, h5, h6⟩ := hgh
      simp only [Nat.zero_add] at h5 h6
      rw [e2] at h5
      cases h5
      rw [(h6 _ _ _ _ rfl).2 e3.symm]
      rw [CC_CN] at hslab
      exact Slab.imp hslab (fun x hx => ⟨by rw [ht]; rfl, ⟨_, e2⟩, hx⟩) (fun _ _ _ => rfl) (fun _ _ _ _ hc => CN.mono hc (fun x _ hx => hrest x hx))
  cases e <;> simp only [exOf, Option.some.injEq] at he <;> first | (subst he) | cases he
  · exact fin hr
  · exact hr.elim
  · exact fin hr
end Go.Sx
end
section
namespace Go.Sx
theorem get_set {α : Type} {xs : List α} {i : Nat} {x : α} (h : i < xs.length) : (xs.set i x)[i]? = some x := by simp [h]
theorem setRow_eq {rws : List (List Cell)} {i k : Nat} {c : Cell} {row : List Cell} (h : rws[i]? = some row) : setRow rws i k c = rws.set i (row.set k c) := by simp only [setRow, h]
theorem setRow_len {rws : List (List Cell)} {i k : Nat} {c : Cell} : (setRow rws i k c).length = rws.length := by
  unfold setRow
  split
  · exact List.length_set
  · rfl
theorem setRow_get {rws : List (List Cell)} {i k : Nat} {c : Cell} {row : List Cell} (h : rws[i]? = some row) : (setRow rws i k c)[i]? = some (row.set k c) := by
  rw [setRow_eq h, get_set (List.getElem?_eq_some_iff.1 h).1]
end Go.Sx
end
section
namespace Go.Sx
open Go.RowKit Go.ChangeShapes Go.WideShapes Go.Deep
def Reps (w : World) (cells : List Cell) (cs : List Value) : Prop := cs.length = cells.length ∧ ∀ (k : Nat) (c : Cell) (u : Value), cells[k]? = some c → cs[k]? = some u → Rep w (fun _ => True) c u
structure Opens (P : Program) (t : TypeId) {α : Type} (sz : Nat) (f : α → List Cell) (G : α → Prop) : Prop where
  hsz : P.cellsOf t = sz
  len : ∀ a, (f a).length = sz
  get : ∀ {H : Type} (enc : TypeId × Value → H) (w : World) (base : Nat) (spare : Nat → Bool) (held : Bool) (fuel : Nat) (cs : List Value) (x : DataW H × List MemPlace), DataW.trod enc P w base spare held fuel t cs = some x → ∃ a, Reps w (f a) cs ∧ G a
section
variable {P : Program} {α β : Type} {t e : TypeId}
theorem Reps.one {w : World} {c : Cell} {u : Value} (h : Rep w (fun _ => True) c u) : Reps w [c] [u] := ⟨rfl, fun k c' u' h1 h2 => by
  cases k with
  | zero => cases h1; cases h2; exact h
  | succ k => simp at h1⟩
theorem opens_int {k : IntKind} (ht : P.underlying t = some (.int k)) (hc : P.cellsOf t = 1) : Opens P t 1 (fun n : Int => [.s (.int k n)]) (fun n => (Lit.int k n).wf = true) :=
  ⟨hc, fun _ => rfl, fun enc w base spare held fuel cs x h => by obtain ⟨n, rfl, _, hw⟩ := DataW.trod_int ht h; exact ⟨n, .one (.s _ rfl), hw⟩⟩
theorem opens_row {sz : Nat} {f : α → List Cell} {G : α → Prop} (ht : P.underlying t = some (.slice e)) (he : Opens P e sz f G)
    {H : Type} (enc : TypeId × Value → H) (w : World) (base : Nat) (spare : Nat → Bool) (held : Bool) (fuel : Nat) (cs : List Value) (x : DataW H × List MemPlace) (h : DataW.trod enc P w base spare held fuel t cs = some x) :
    ∃ (l : List α) (v : Value), cs = [v] ∧ Rep w (fun _ => True) (.l (l.map f)) v ∧ (l.length ≤ maxLen ∧ ∀ a ∈ l, G a) := by
  classical
  rcases open_slice ht h with ⟨rfl, _⟩ | ⟨a, len, cap, m, n, D, Pl, rfl, hb, hl, hm, hmm, rfl, hx⟩
  · exact ⟨[], _, rfl, .l 0 [] none 0 (fun _ _ => undef) (by simp) (Nat.le_refl _) (fun _ => rfl) (fun j k hj => by simp at hj) (fun j k row c h1 => by simp at h1), by simp, fun a ha => by cases ha⟩
  · have hlm : len ≤ m := by rw [hmm]; split <;> omega
    have hall : ∀ i, i < len → ∃ b cs', cs'.length = sz ∧ Reps w (f b) cs' ∧ G b ∧ ∀ j, j < sz → w.cell? ((a.add (i * sz)).add j) = cs'[j]? := fun i hi => by
      obtain ⟨cs', h1, h2⟩ := hx i (by omega)
      obtain ⟨b, hK, hg⟩ := he.get enc w base spare held n cs' _ h2
      rw [he.hsz] at h1
      obtain ⟨_, hlen, hcell⟩ := World.cells?_some h1
      exact ⟨b, cs', hlen, hK, hg, hcell⟩
    have key : ∀ k, k ≤ len → ∃ l : List α, l.length = k ∧ (∀ j p, l[j]? = some p → ∃ c, c.length = sz ∧ Reps w (f p) c ∧ ∀ i u, c[i]? = some u → w.cell? (a.add (j * sz + i)) = some u) ∧ ∀ a ∈ l, G a := by
      intro k
      induction k with
      | zero => exact fun _ => ⟨[], rfl, fun j p hj => by simp at hj, fun a ha => by cases ha⟩
      | succ k ih =>
        intro hk
        obtain ⟨l, hl, hc, hG⟩ := ih (by omega)
        obtain ⟨b, c, hs, hK, hg, hcell⟩ := hall k (by omega)
        refine ⟨l ++ [b], by simp [hl], fun j p hj => ?_, fun b' hb' => ?_⟩
        · rcases Nat.lt_or_ge j l.length with hjl | hjl
          · rw [List.getElem?_append_left hjl] at hj
            exact hc j p hj
          · have hj' : j = l.length := by
              have := (List.getElem?_eq_some_iff.1 hj).1
              rw [List.length_append, List.length_singleton] at this
              omega
            subst hj'
            have hp : b = p := by simpa using hj
            subst hp
            refine ⟨c, hs, hK, fun i u hu => ?_⟩
            have hi : i < sz := by rw [← hs]; exact (List.getElem?_eq_some_iff.1 hu).1
            have := hcell i hi
            rw [Go.Deep.add_add, ← hl] at this
            rw [this, hu]
        · rcases List.mem_append.1 hb' with hb' | hb'
          · exact hG b' hb'
          · rw [List.mem_singleton.1 hb']; exact hg
    obtain ⟨l, hl', hc, hG⟩ := key len (Nat.le_refl _)
    subst hl'
    have hch : ∀ j : Nat, ∃ c : List Value, ∀ p, l[j]? = some p → c.length = sz ∧ Reps w (f p) c ∧ ∀ i u, c[i]? = some u → w.cell? (a.add (j * sz + i)) = some u := fun j => by
      cases hj : l[j]? with
      | none => exact ⟨[], fun p h => by cases h⟩
      | some p =>
        obtain ⟨c, h1, h2, h3⟩ := hc j p hj
        exact ⟨c, fun p' h => by cases h; exact ⟨h1, h2, h3⟩⟩
    have hch2 : ∃ c : Nat → List Value, ∀ j p, l[j]? = some p → (c j).length = sz ∧ Reps w (f p) (c j) ∧ ∀ i u, (c j)[i]? = some u → w.cell? (a.add (j * sz + i)) = some u := ⟨fun j => Classical.choose (hch j), fun j => Classical.choose_spec (hch j)⟩
    obtain ⟨c, hc⟩ := hch2
    have hlr : (l.map f).length = l.length := by simp
    refine ⟨l, _, rfl, ?_, by omega, hG⟩
    rw [show (Value.slice (some a) l.length cap) = .slice (some a) (l.map f).length cap by rw [hlr]]
    refine .l sz (l.map f) (some a) cap (fun j k => ((c j)[k]?).getD undef) (fun row hr => ?_) (by rw [hlr]; exact hl) (fun h => by cases h) (fun j k hj hk => ?_) (fun j k row c' h1 h2 => ?_)
    · obtain ⟨p, _, rfl⟩ := List.mem_map.1 hr; exact he.len p
    · rw [hlr] at hj
      obtain ⟨h1, _, h3⟩ := hc j _ (List.getElem?_eq_getElem hj)
      refine ⟨a, rfl, trivial, ?_⟩
      have hlt : k < (c j).length := by omega
      rw [h3 k _ (List.getElem?_eq_getElem hlt), List.getElem?_eq_getElem hlt]; rfl
    · rw [List.getElem?_map] at h1
      cases hj : l[j]? with
      | none => rw [hj] at h1; cases h1
      | some p =>
        rw [hj] at h1
        cases h1
        obtain ⟨h4, h5, _⟩ := hc j p hj
        have hk : k < (c j).length := by rw [h4, ← he.len p]; exact (List.getElem?_eq_some_iff.1 h2).1
        refine h5.2 k c' _ h2 ?_
        rw [List.getElem?_eq_getElem hk]; rfl
inductive Laid (P : Program) : Nat → List Field → Prop
  | nil (o : Nat) : Laid P o []
  | cons {o : Nat} {f : Field} {fs : List Field} : f.offset = o → Laid P (o + P.cellsOf f.type) fs → Laid P o (f :: fs)
def OpensF (P : Program) (fs : List Field) {α : Type} (sz : Nat) (f : α → List Cell) (G : α → Prop) : Prop :=
  (∀ a, (f a).length = sz) ∧ ∀ {H : Type} (enc : TypeId × Value → H) (w : World) (base : Nat) (spare : Nat → Bool) (held : Bool) (fuel : Nat) (cs : List Value), cs.length = sz →
    (∀ (i : Nat) (f : Field), fs[i]? = some f → ∃ x, DataW.trod enc P w base spare held fuel f.type ((cs.drop (((fs.take i).map fun g => P.cellsOf g.type).sum)).take (P.cellsOf f.type)) = some x) →
    ∃ a, Reps w (f a) cs ∧ G a
theorem Reps.append {w : World} {xs ys : List Cell} {us vs : List Value} (h : Reps w xs us) (k : Reps w ys vs) : Reps w (xs ++ ys) (us ++ vs) := by
  refine ⟨by simp [h.1, k.1], fun i c u h1 h2 => ?_⟩
  rw [List.getElem?_append] at h1 h2
  rw [h.1] at h2
  by_cases hi : i < xs.length
  · rw [if_pos hi] at h1 h2; exact h.2 i c u h1 h2
  · rw [if_neg hi] at h1 h2; exact k.2 _ c u h1 h2
theorem opensF_one {fd : Field} {sz : Nat} {f : α → List Cell} {G : α → Prop} (h : Opens P fd.type sz f G) : OpensF P [fd] sz f G := by
  refine ⟨h.len, fun enc w base spare held fuel cs hl hx => ?_⟩
  obtain ⟨x, hx⟩ := hx 0 fd rfl
  simp only [List.take_zero, List.map_nil, List.sum_nil, List.drop_zero] at hx
  rw [h.hsz, ← hl, List.take_length] at hx
  exact h.get enc w base spare held fuel cs x hx
theorem opensF_cons {fd : Field} {fs : List Field} {sz sz' : Nat} {f : α → List Cell} {f' : β → List Cell} {G : α → Prop} {G' : β → Prop} (h : Opens P fd.type sz f G) (h' : OpensF P fs sz' f' G') : OpensF P (fd :: fs) (sz + sz') (fun x : α × β => f x.1 ++ f' x.2) (fun x => G x.1 ∧ G' x.2) := by
  refine ⟨fun a => by simp [h.len, h'.1], fun enc w base spare held fuel cs hl hx => ?_⟩
  obtain ⟨x, hx0⟩ := hx 0 fd rfl
  simp only [List.take_zero, List.map_nil, List.sum_nil, List.drop_zero] at hx0
  rw [h.hsz] at hx0
  obtain ⟨a, hK, hG⟩ := h.get enc w base spare held fuel _ x hx0
  obtain ⟨b, hK', hG'⟩ := h'.2 enc w base spare held fuel (cs.drop sz) (by rw [List.length_drop]; omega) (fun i g hi => by
    obtain ⟨y, hy⟩ := hx (i + 1) g (by simpa using hi)
    refine ⟨y, ?_⟩
    rw [List.drop_drop]
    simpa [h.hsz] using hy)
  refine ⟨(a, b), ?_, hG, hG'⟩
  have := hK.append hK'
  rwa [List.take_append_drop] at this
theorem laid_offset : ∀ {fs : List Field} {o : Nat}, Laid P o fs → ∀ (i : Nat) (f : Field), fs[i]? = some f → f.offset = o + ((fs.take i).map fun g => P.cellsOf g.type).sum
  | [], _, _, i, f, h => by simp at h
  | g :: fs, o, .cons h1 h2, 0, f, h => by
    have : g = f := by simpa using h
    subst this
    simp [h1]
  | g :: fs, o, .cons h1 h2, i + 1, f, h => by
    rw [laid_offset h2 i f (by simpa using h)]
    simp [Nat.add_assoc]
theorem opens_struct {fs : List Field} {sz : Nat} {f : α → List Cell} {G : α → Prop} {f' : β → List Cell} {G' : β → Prop} (g : α → β) (hfg : ∀ a, f' (g a) = f a) (hG : ∀ a, G a → G' (g a)) (hlen : ∀ b, (f' b).length = sz) (ht : P.underlying t = some (.struct fs.toArray)) (hc : P.cellsOf t = sz) (hL : Laid P 0 fs) (hF : OpensF P fs sz f G) :
    Opens P t sz f' G' :=
  ⟨hc, hlen, fun enc w base spare held fuel cs x h => by
    obtain ⟨xs, n, rfl, _, hl, hxs, hf⟩ := DataW.trod_struct ht h
    obtain ⟨a, hK, hg⟩ := hF.2 enc w base spare held n cs (by rw [hl, hc]) (fun i f hi => by
      have hoff := laid_offset hL i f hi
      rw [Nat.zero_add] at hoff
      have h1 := hf i f (by simpa using hi)
      rw [hoff] at h1
      have hi' : i < xs.length := by
        rw [hxs]
        have := (List.getElem?_eq_some_iff.1 hi).1
        simpa using this
      exact ⟨xs[i], by rw [h1, List.getElem?_eq_getElem hi']⟩)
    exact ⟨g a, by rw [hfg]; exact hK, hG a hg⟩⟩
theorem opens_slice {sz : Nat} {f : α → List Cell} {G : α → Prop} (ht : P.underlying t = some (.slice e)) (hc : P.cellsOf t = 1) (he : Opens P e sz f G) : Opens P t 1 (fun l : List α => [.l (l.map f)]) (fun l => l.length ≤ maxLen ∧ ∀ a ∈ l, G a) :=
  ⟨hc, fun _ => rfl, fun enc w base spare held fuel cs x h => by
    obtain ⟨l, v, rfl, hr, hG⟩ := opens_row ht he enc w base spare held fuel cs x h
    exact ⟨l, .one hr, hG⟩⟩
theorem arg_slice {sz : Nat} {f : α → List Cell} {G : α → Prop} (ht : P.underlying t = some (.slice e)) (he : Opens P e sz f G) {H : Type} {enc : TypeId × Value → H} {w : World} {r : Reach} {b : Nat} {v : Value} {dd : DataW H} {ps : List MemPlace}
    (hv : Value.okWide P w r b t v) (h : DataW.Trod enc P w 0 (fun _ => true) true t v dd ps) : ∃ l : List α, RepV w (fun _ => True) (.one (.l (l.map f))) v ∧ (l.length ≤ maxLen ∧ ∀ a ∈ l, G a) := by
  obtain ⟨A, len, cap, rfl⟩ := okWide_slice ht hv
  obtain ⟨fuel, hf⟩ := h
  obtain ⟨l, v, hcs, h1, h2⟩ := opens_row ht he enc w 0 _ true fuel _ _ hf
  simp [Value.cells] at hcs
  subst hcs
  exact ⟨l, h1, h2⟩
end
end Go.Sx
end
section
namespace Go.Sx
open Go.RowKit (Below)
theorem PC.law {P : Program} {f : Nat} {args : List SV} {b : Bool} (h : PC P f args (.one (.own false [.s (.bool b)]))) {w : World} {vals : Array Value} (ha : ArgsR w (fun _ => True) vals args) :
    Calls P f vals w fun e w' => e = .returned (.bool b) ∧ Below w.heap.size w w' := by
  refine (h.2 _ w vals ha).mono ?_
  rintro e w' ⟨v, S, rfl, hk, ⟨arr, F, h1, h2, _, _, h5⟩, _⟩
  have h1' : arr = #[v] := h1
  subst h1'
  obtain ⟨rfl, _⟩ := h5 0 _ v rfl rfl
  exact ⟨rfl, hk.below⟩
theorem ArgsR.two {w : World} {N : Nat → Prop} {sv sv' : SV} {v v' : Value} (h : RepV w N sv v) (h' : RepV w N sv' v') : ArgsR w N #[v, v'] [sv, sv'] := ⟨rfl, fun i s u h1 h2 => by
  cases i with
  | zero => cases h1; cases h2; exact h
  | succ i =>
    cases i with
    | zero => cases h1; cases h2; exact h'
    | succ i => simp at h1⟩
end Go.Sx
end
section
namespace Go.Sx
inductive Sh where
  | nil
  | i (k : IntKind) (r : Sh)
  | b (r : Sh)
  | l (e : Sh) (r : Sh)
inductive WT (N : Nat) : Sh → List Cell → Prop
  | nil : WT N .nil []
  | i {k : IntKind} {r : Sh} {cs : List Cell} (n : Int) : WT N r cs → WT N (.i k r) (.s (.int k n) :: cs)
  | b {r : Sh} {cs : List Cell} (x : Bool) : WT N r cs → WT N (.b r) (.s (.bool x) :: cs)
  | l {e r : Sh} {cs : List Cell} (rows : List (List Cell)) : rows.length ≤ N → (∀ row ∈ rows, WT N e row) → WT N r cs → WT N (.l e r) (.l rows :: cs)
def WR (N : Nat) (e : Sh) (rows : List (List Cell)) : Prop := rows.length ≤ N ∧ ∀ row ∈ rows, WT N e row
def nx (k : Int) : Int := IntKind.i64.wrap (k + 1)
def mkv : IntKind → Int → Int
  | .i64, k => k
  | t, k => t.wrap k
def mkR (f : List Cell → Int → List Cell × Int) : List (List Cell) → Int → List (List Cell) × Int
  | [], k => ([], k)
  | row :: rows, k => ((f row k).1 :: (mkR f rows (f row k).2).1, (mkR f rows (f row k).2).2)
def mk : Sh → List Cell → Int → List Cell × Int
  | .nil, cs, k => (cs, k)
  | .i t r, _ :: cs, k => (.s (.int t (mkv t k)) :: (mk r cs (nx k)).1, (mk r cs (nx k)).2)
  | .b r, _ :: cs, k => (.s (.bool (k.tmod 3 == 0)) :: (mk r cs (nx k)).1, (mk r cs (nx k)).2)
  | .l e r, .l rows :: cs, k => (.l (mkR (mk e) rows k).1 :: (mk r cs (mkR (mk e) rows k).2).1, (mk r cs (mkR (mk e) rows k).2).2)
  | _, cs, k => (cs, k)
def hdR (f : List Cell → Int → Option Int) : List (List Cell) → Int → Option Int
  | [], k => some k
  | row :: rows, k => (f row k).bind (hdR f rows)
def ng (o : Option Int) : Int := o.getD (-1)
def ps (k : Int) : Option Int := if k < 0 then none else some k
def hd : Sh → List Cell → Int → Option Int
  | .nil, _, k => some k
  | .i t r, .s (.int _ n) :: cs, k => if n = mkv t k then hd r cs (nx k) else none
  | .b r, .s (.bool x) :: cs, k => if x = (k.tmod 3 == 0) then hd r cs (nx k) else none
  | .l e r, .l rows :: cs, k => (ps (ng (hdR (hd e) rows k))).bind (hd r cs)
  | _, _, k => some k
def mt : Sh → List Cell → Int → List Cell × Int
  | .i _ r, c :: cs, k => (c :: (mt r cs k).1, (mt r cs k).2)
  | .b r, c :: cs, k => (c :: (mt r cs k).1, (mt r cs k).2)
  | .l e r, .l rows :: cs, k => (.l (mkR (mk e) rows k).1 :: (mt r cs (mkR (mk e) rows k).2).1, (mt r cs (mkR (mk e) rows k).2).2)
  | _, cs, k => (cs, k)
def ht : Sh → List Cell → Int → Option Int
  | .i _ r, _ :: cs, k => ht r cs k
  | .b r, _ :: cs, k => ht r cs k
  | .l e r, .l rows :: cs, k => (ps (ng (hdR (hd e) rows k))).bind (ht r cs)
  | _, _, k => some k
theorem ps_ok {k : Int} (h : ¬ k < 0) : ps k = some k := by unfold ps; rw [if_neg h]
theorem ps_no {k : Int} (h : k < 0) : ps k = none := by unfold ps; rw [if_pos h]
theorem ng_none {o : Option Int} (h : o = none) : ng o = -1 := by rw [h]; rfl
theorem ng_some {o : Option Int} {k : Int} (h : ng o = k) (hk : ¬ k < 0) : o = some k := by
  cases o with
  | none => exact absurd (h ▸ (by decide : (-1 : Int) < 0)) hk
  | some v => exact congrArg some h
theorem ht_nn {e : Sh} : ∀ {cs : List Cell} {k v : Int}, 0 ≤ k → ht e cs k = some v → 0 ≤ v := by
  induction e with
  | nil => intro cs k v h0 h; simp only [ht, Option.some.injEq] at h; omega
  | i t r ih =>
    intro cs k v h0 h
    cases cs with
    | nil => simp only [ht, Option.some.injEq] at h; omega
    | cons c cs => exact ih h0 h
  | b r ih =>
    intro cs k v h0 h
    cases cs with
    | nil => simp only [ht, Option.some.injEq] at h; omega
    | cons c cs => exact ih h0 h
  | l e r _ ih =>
    intro cs k v h0 h
    cases cs with
    | nil => simp only [ht, Option.some.injEq] at h; omega
    | cons c cs =>
      cases c with
      | l rows =>
        simp only [ht] at h
        obtain ⟨a, h1, h2⟩ := Option.bind_eq_some_iff.1 h
        unfold ps at h1
        split at h1
        · cases h1
        · cases h1; exact ih (by omega) h2
      | s v' => simp only [ht, Option.some.injEq] at h; omega
      | p row => simp only [ht, Option.some.injEq] at h; omega
      | f fn caps => simp only [ht, Option.some.injEq] at h; omega
      | m fn ag row => simp only [ht, Option.some.injEq] at h; omega
theorem ht_no {e : Sh} {cs : List Cell} {k v : Int} (h0 : 0 ≤ k) (h : ng (ht e cs k) = v) (hv : v < 0) : ht e cs k = none := by
  cases h1 : ht e cs k with
  | none => rfl
  | some a => have := ht_nn h0 h1; rw [h1] at h; have h : a = v := h; omega
def cntR (f : List Cell → Nat) : List (List Cell) → Nat
  | [] => 0
  | row :: rows => f row + cntR f rows
def cnt : Sh → List Cell → Nat
  | .i _ r, _ :: cs => 1 + cnt r cs
  | .b r, _ :: cs => 1 + cnt r cs
  | .l e r, .l rows :: cs => cntR (cnt e) rows + cnt r cs
  | _, _ => 0
def tot : Sh → List Cell → Nat
  | .i _ r, _ :: cs => tot r cs
  | .b r, _ :: cs => tot r cs
  | .l e r, .l rows :: cs => rows.length + cntR (tot e) rows + tot r cs
  | _, _ => 0
def totR (e : Sh) (rows : List (List Cell)) : Nat := rows.length + cntR (tot e) rows
def wid : Sh → Nat
  | .i _ r => 1 + wid r
  | .b r => 1 + wid r
  | .l _ r => wid r
  | .nil => 0
def mwid : Sh → Nat
  | .i _ r => mwid r
  | .b r => mwid r
  | .l e r => wid e + mwid e + mwid r
  | .nil => 0
theorem nx_eq {k : Int} (h : 0 ≤ k) (h1 : k < 9000000000000000000) : nx k = k + 1 := wrap_i64 (by omega) (by omega)
theorem mkR_len (f : List Cell → Int → List Cell × Int) : ∀ (rows : List (List Cell)) (k : Int), (mkR f rows k).1.length = rows.length
  | [], _ => rfl
  | row :: rows, k => by simp [mkR, mkR_len f rows]
theorem WT.mono {N M : Nat} (h : N ≤ M) {e : Sh} {cs : List Cell} (hw : WT N e cs) : WT M e cs := by
  induction hw with
  | nil => exact .nil
  | i n _ ih => exact .i n ih
  | b x _ ih => exact .b x ih
  | l rows h1 _ _ ih1 ih2 => exact .l rows (by omega) ih1 ih2
theorem WR.mono {N M : Nat} (h : N ≤ M) {e : Sh} {rows : List (List Cell)} (hw : WR N e rows) : WR M e rows := ⟨Nat.le_trans hw.1 h, fun r hr => (hw.2 r hr).mono h⟩
theorem WT.inv_i {N : Nat} {k : IntKind} {r : Sh} {cs : List Cell} (h : WT N (.i k r) cs) : ∃ n cs', cs = .s (.int k n) :: cs' ∧ WT N r cs' := by
  cases h with | i n h => exact ⟨_, _, rfl, h⟩
theorem WT.inv_l {N : Nat} {e r : Sh} {cs : List Cell} (h : WT N (.l e r) cs) : ∃ rows cs', cs = .l rows :: cs' ∧ WR N e rows ∧ WT N r cs' := by
  cases h with | l rows h1 h2 h3 => exact ⟨_, _, rfl, ⟨h1, h2⟩, h3⟩
theorem WT.inv_nil {N : Nat} {cs : List Cell} (h : WT N .nil cs) : cs = [] := by
  cases h; rfl
theorem mkR_wt {N : Nat} {e : Sh} {f : List Cell → Int → List Cell × Int} : ∀ {rows : List (List Cell)}, (∀ row ∈ rows, ∀ k, WT N e (f row k).1) → ∀ k, ∀ row ∈ (mkR f rows k).1, WT N e row
  | [], _, k, row, hr => by cases hr
  | r :: rows, h, k, row, hr => by
    rcases List.mem_cons.1 hr with rfl | hr
    · exact h r (by simp) k
    · exact mkR_wt (fun row hr => h row (by simp [hr])) _ row hr
theorem mk_wt {N : Nat} {e : Sh} {cs : List Cell} (h : WT N e cs) : ∀ k, WT N e (mk e cs k).1 := by
  induction h with
  | nil => exact fun k => .nil
  | i n _ ih => exact fun k => .i _ (ih _)
  | b x _ ih => exact fun k => .b _ (ih _)
  | l rows h1 _ _ ih1 ih2 => exact fun k => .l _ (by rw [mkR_len]; exact h1) (mkR_wt ih1 k) (ih2 _)
theorem mkR_WR {N : Nat} {e : Sh} {rows : List (List Cell)} (h : WR N e rows) (k : Int) : WR N e (mkR (mk e) rows k).1 := ⟨by rw [mkR_len]; exact h.1, mkR_wt (fun row hr => mk_wt (h.2 row hr)) k⟩
theorem mkR_held {f : List Cell → Int → List Cell × Int} {g : List Cell → Int → Option Int} {c : List Cell → Nat} : ∀ {rows : List (List Cell)},
    (∀ row ∈ rows, ∀ k : Int, 0 ≤ k → k + c row ≤ 4000000000000000000 → g (f row k).1 k = some (k + c row) ∧ (f row k).2 = k + c row) →
    ∀ k : Int, 0 ≤ k → k + cntR c rows ≤ 4000000000000000000 → hdR g (mkR f rows k).1 k = some (k + cntR c rows) ∧ (mkR f rows k).2 = k + cntR c rows
  | [], _, k, _, _ => by simp [mkR, hdR, cntR]
  | r :: rows, h, k, h0, h1 => by
    simp only [cntR] at h1 ⊢
    obtain ⟨e1, e2⟩ := h r (by simp) k h0 (by omega)
    obtain ⟨e3, e4⟩ := mkR_held (rows := rows) (fun row hr => h row (by simp [hr])) (k + c r) (by omega) (by omega)
    simp only [mkR, hdR, e1, e2, Option.bind_some, e3, e4]
    constructor
    · congr 1; omega
    · omega
theorem mk_held {N : Nat} {e : Sh} {cs : List Cell} (h : WT N e cs) : ∀ k : Int, 0 ≤ k → k + cnt e cs ≤ 4000000000000000000 → hd e (mk e cs k).1 k = some (k + cnt e cs) ∧ (mk e cs k).2 = k + cnt e cs := by
  induction h with
  | nil => intro k _ _; simp [mk, hd, cnt]
  | @i t r cs n _ ih =>
    intro k h0 h1
    simp only [cnt] at h1
    obtain ⟨e1, e2⟩ := ih (nx k) (by rw [nx_eq h0 (by omega)]; omega) (by rw [nx_eq h0 (by omega)]; omega)
    have hn : nx k + (cnt r cs : Nat) = k + (cnt (.i t r) (.s (.int t n) :: cs) : Nat) := by rw [nx_eq h0 (by omega)]; simp only [cnt]; omega
    simp only [mk, hd, if_true]
    exact ⟨e1.trans (congrArg some hn), e2.trans hn⟩
  | @b r cs x _ ih =>
    intro k h0 h1
    simp only [cnt] at h1
    obtain ⟨e1, e2⟩ := ih (nx k) (by rw [nx_eq h0 (by omega)]; omega) (by rw [nx_eq h0 (by omega)]; omega)
    have hn : nx k + (cnt r cs : Nat) = k + (cnt (.b r) (.s (.bool x) :: cs) : Nat) := by rw [nx_eq h0 (by omega)]; simp only [cnt]; omega
    simp only [mk, hd, if_true]
    exact ⟨e1.trans (congrArg some hn), e2.trans hn⟩
  | @l e r cs rows _ _ _ ih1 ih2 =>
    intro k h0 h1
    simp only [cnt] at h1
    obtain ⟨e1, e2⟩ := mkR_held ih1 k h0 (by omega)
    obtain ⟨e3, e4⟩ := ih2 (k + cntR (cnt e) rows) (by omega) (by omega)
    have hn : k + (cntR (cnt e) rows : Nat) + (cnt r cs : Nat) = k + (cnt (.l e r) (.l rows :: cs) : Nat) := by simp only [cnt]; omega
    have hp : ps (ng (some (k + (cntR (cnt e) rows : Nat)))) = some (k + cntR (cnt e) rows) := ps_ok (by show ¬ (k + _ < (0 : Int)); omega)
    simp only [mk, hd, e1, e2, hp, Option.bind_some]
    exact ⟨e3.trans (congrArg some hn), e4.trans hn⟩
theorem cntR_le {f g : List Cell → Nat} {a b : Nat} : ∀ {rows : List (List Cell)}, (∀ row ∈ rows, f row ≤ a + b * g row) → cntR f rows ≤ a * rows.length + b * cntR g rows
  | [], _ => by simp [cntR]
  | r :: rows, h => by
    have h1 := h r (by simp)
    have h2 := cntR_le (rows := rows) (fun row hr => h row (by simp [hr]))
    simp only [cntR, List.length_cons, Nat.mul_add, Nat.mul_one]
    omega
theorem cnt_le {N : Nat} {e : Sh} {cs : List Cell} (h : WT N e cs) : cnt e cs ≤ wid e + mwid e * tot e cs := by
  induction h with
  | nil => simp [cnt]
  | i n _ ih => simp only [cnt, wid, mwid, tot]; omega
  | b x _ ih => simp only [cnt, wid, mwid, tot]; omega
  | @l e r cs rows _ _ _ ih1 ih2 =>
    simp only [cnt, wid, mwid, tot]
    have h1 := cntR_le ih1
    have h3 : (wid e + mwid e + mwid r) * (rows.length + cntR (tot e) rows + tot r cs) ≥ wid e * rows.length + mwid e * cntR (tot e) rows + mwid r * tot r cs := by
      have a1 : wid e * rows.length ≤ wid e * (rows.length + cntR (tot e) rows + tot r cs) := Nat.mul_le_mul_left _ (by omega)
      have a2 : mwid e * cntR (tot e) rows ≤ mwid e * (rows.length + cntR (tot e) rows + tot r cs) := Nat.mul_le_mul_left _ (by omega)
      have a3 : mwid r * tot r cs ≤ mwid r * (rows.length + cntR (tot e) rows + tot r cs) := Nat.mul_le_mul_left _ (by omega)
      simp only [Nat.add_mul]
      omega
    omega
def md (f : List Cell → Int → List Cell × Int) (rows : List (List Cell)) (k : Int) (i : Nat) : List (List Cell) := (mkR f (rows.take i) k).1 ++ rows.drop i
def mdk (f : List Cell → Int → List Cell × Int) (rows : List (List Cell)) (k : Int) (i : Nat) : Int := (mkR f (rows.take i) k).2
theorem mkR_append (f : List Cell → Int → List Cell × Int) : ∀ (xs ys : List (List Cell)) (k : Int), mkR f (xs ++ ys) k = ((mkR f xs k).1 ++ (mkR f ys (mkR f xs k).2).1, (mkR f ys (mkR f xs k).2).2)
  | [], ys, k => rfl
  | x :: xs, ys, k => by simp [mkR, mkR_append f xs]
section
variable {f : List Cell → Int → List Cell × Int} {rows : List (List Cell)} {k : Int} {i : Nat} {row : List Cell}
theorem take_succ_of (h : rows[i]? = some row) : rows.take (i + 1) = rows.take i ++ [row] := by rw [List.take_add_one, h]; rfl
theorem md_zero : md f rows k 0 = rows := by simp [md, mkR]
theorem mdk_zero : mdk f rows k 0 = k := by simp [mdk, mkR]
theorem md_all : md f rows k rows.length = (mkR f rows k).1 := by simp [md]
theorem mdk_all : mdk f rows k rows.length = (mkR f rows k).2 := by simp [mdk]
theorem md_len (h : i ≤ rows.length) : (md f rows k i).length = rows.length := by simp [md, mkR_len]; omega
theorem md_get (h : rows[i]? = some row) : (md f rows k i)[i]? = some row := by
  have hi := (List.getElem?_eq_some_iff.1 h).1
  unfold md
  rw [List.getElem?_append_right (by simp [mkR_len]; omega)]
  simp only [mkR_len, List.length_take, Nat.min_eq_left (Nat.le_of_lt hi), Nat.sub_self, List.getElem?_drop, Nat.add_zero]
  exact h
theorem mdk_succ (h : rows[i]? = some row) : mdk f rows k (i + 1) = (f row (mdk f rows k i)).2 := by
  unfold mdk; rw [take_succ_of h, mkR_append]; rfl
theorem md_set (h : rows[i]? = some row) : (md f rows k i).set i (f row (mdk f rows k i)).1 = md f rows k (i + 1) := by
  have hi := (List.getElem?_eq_some_iff.1 h).1
  have hl : (mkR f (rows.take i) k).1.length = i := by simp [mkR_len]; omega
  unfold md
  rw [take_succ_of h, mkR_append, List.set_append_right _ _ (by omega), hl, Nat.sub_self]
  have : rows.drop i = row :: rows.drop (i + 1) := by rw [List.drop_eq_getElem_cons hi]; rw [List.getElem?_eq_getElem hi] at h; cases h; rfl
  rw [this]
  simp [mkR, mdk]
end
theorem hdR_append (f : List Cell → Int → Option Int) : ∀ (xs ys : List (List Cell)) (k : Int), hdR f (xs ++ ys) k = (hdR f xs k).bind (hdR f ys)
  | [], ys, k => rfl
  | x :: xs, ys, k => by
    simp only [List.cons_append, hdR]
    cases f x k with
    | none => rfl
    | some v => exact hdR_append f xs ys v
theorem hdR_step {f : List Cell → Int → Option Int} {rows : List (List Cell)} {i : Nat} {row : List Cell} {k v : Int} (h : rows[i]? = some row) (hv : hdR f (rows.take i) k = some v) : hdR f (rows.take (i + 1)) k = f row v := by
  rw [take_succ_of h, hdR_append, hv]
  simp only [Option.bind_some, hdR]
  cases f row v <;> rfl
theorem hdR_none {f : List Cell → Int → Option Int} {rows : List (List Cell)} {i : Nat} {k : Int} (h : hdR f (rows.take i) k = none) : hdR f rows k = none := by
  rw [← List.take_append_drop i rows, hdR_append, h]; rfl
theorem mk_len {N : Nat} {e : Sh} {cs : List Cell} (h : WT N e cs) : ∀ k, (mk e cs k).1.length = cs.length := by
  induction h with
  | nil => exact fun k => rfl
  | i n _ ih => exact fun k => by simp [mk, ih]
  | b x _ ih => exact fun k => by simp [mk, ih]
  | l rows _ _ _ _ ih => exact fun k => by simp [mk, ih]
theorem mkR_rows0 {N : Nat} {e : Sh} : ∀ {rows : List (List Cell)}, (∀ row ∈ rows, WT N e row) → ∀ (k : Int) (j : Nat) (row row' : List Cell), rows[j]? = some row → (mkR (mk e) rows k).1[j]? = some row' → row'.length = row.length
  | [], _, k, j, row, row', h, _ => by simp at h
  | r :: rows, hw, k, 0, row, row', h, h' => by
    simp [mkR] at h h'
    subst h; subst h'
    exact mk_len (hw r (by simp)) k
  | r :: rows, hw, k, j + 1, row, row', h, h' => by
    simp [mkR] at h h'
    exact mkR_rows0 (fun x hx => hw x (by simp [hx])) _ j row row' h h'
theorem mkR_rows {N : Nat} {e : Sh} {rows : List (List Cell)} (hw : WR N e rows) {k : Int} : ∀ (j : Nat) (row row' : List Cell), rows[j]? = some row → (mkR (mk e) rows k).1[j]? = some row' → row'.length = row.length := mkR_rows0 hw.2 k
def szn (b : Int) (n : Nat) : Int := if b - n < 0 then -1 else b - n
theorem szn_le {b : Int} {n : Nat} (h : b ≤ 1048576) (h0 : 0 ≤ b) : szn b n ≤ 1048576 := by unfold szn; split <;> omega
theorem szn_add {b : Int} {m n : Nat} (h : 0 ≤ szn b m) : szn (szn b m) n = szn b (m + n) := by
  unfold szn at *; split at h
  · omega
  · rename_i h1; simp only [if_neg h1]; split <;> split <;> omega
theorem lset {α : Type} {xs : List α} {i n : Nat} {x : α} (h : xs.length = n) : (xs.set i x).length = n := List.length_set.trans h
theorem lsr {xs : List (List Cell)} {i k n : Nat} {c : Cell} (h : xs.length = n) : (setRow xs i k c).length = n := setRow_len.trans h
theorem gset {α : Type} {xs : List α} {i n : Nat} {x : α} (h : xs.length = n) (hi : i < n) : (xs.set i x)[i]? = some x := get_set (h ▸ hi)
theorem ssr {xs : List (List Cell)} {i k : Nat} {c : Cell} {r : List Cell} (h : i < xs.length) : setRow (xs.set i r) i k c = xs.set i (r.set k c) := by rw [setRow_eq (get_set h), List.set_set]
theorem cwi {k : IntKind} {n m : Int} (h : -9223372036854775808 ≤ n) (h2 : n ≤ 9223372036854775807) (e : n = m) : Cell.s (.int k (IntKind.i64.wrap n)) = Cell.s (.int k m) := by rw [wrap_i64 h h2, e]
theorem cntR_append (f : List Cell → Nat) : ∀ (xs ys : List (List Cell)), cntR f (xs ++ ys) = cntR f xs + cntR f ys
  | [], ys => by simp [cntR]
  | x :: xs, ys => by simp [cntR, cntR_append f xs, Nat.add_assoc]
theorem cntR_step {f : List Cell → Nat} {rows : List (List Cell)} {i : Nat} {row : List Cell} (h : rows[i]? = some row) : cntR f (rows.take (i + 1)) = cntR f (rows.take i) + f row := by
  rw [take_succ_of h, cntR_append]; simp [cntR]
theorem cntR_split (f : List Cell → Nat) (rows : List (List Cell)) (i : Nat) : cntR f rows = cntR f (rows.take i) + cntR f (rows.drop i) := by
  rw [← cntR_append, List.take_append_drop]
theorem totR_leaf {N : Nat} {e : Sh} {rows : List (List Cell)} (h : ∀ row, WT N e row → tot e row = 0) (hw : WR N e rows) : totR e rows = rows.length := by
  have : ∀ rows : List (List Cell), (∀ row ∈ rows, WT N e row) → cntR (tot e) rows = 0 := by
    intro rows
    induction rows with
    | nil => intro _; rfl
    | cons r rows ih => intro hr; rw [cntR, h r (hr r (by simp)), ih (fun x hx => hr x (by simp [hx]))]
  rw [totR, this rows hw.2, Nat.add_zero]
theorem take_succ_eq {α : Type} {xs ys : List α} {i : Nat} {a : α} (h : xs.take i = ys.take i) (hx : xs[i]? = some a) (hy : ys[i]? = some a) : xs.take (i + 1) = ys.take (i + 1) := by
  rw [List.take_add_one, List.take_add_one, h, hx, hy]
noncomputable def dE {α : Type} (p q : α) : Bool := open Classical in decide (p = q)
theorem dE_no {α : Type} {p q : α} (h : p ≠ q) : Value.bool false = Value.bool (dE p q) := by simp [dE, h]
theorem dE_yes {α : Type} {p q : α} (h : p = q) : Value.bool true = Value.bool (dE p q) := by simp [dE, h]
theorem nE_ne {α : Type} {p q : α} (h : (!dE p q) = true) : p ≠ q := by simpa [dE] using h
theorem nE_eq {α : Type} {p q : α} (h : (!dE p q) = false) : p = q := by simpa [dE] using h
abbrev i64 (n : Int) : Cell := .s (.int .i64 n)
abbrev rI (n : Int) : Res := .one (.own false [.s (.int .i64 n)])
abbrev rB (b : Bool) : Res := .one (.own false [.s (.bool b)])
end Go.Sx
end
section
namespace Go.Sx
open Go.RowKit
def Sh.len : Sh → Nat
  | .nil => 0
  | .i _ r => r.len + 1
  | .b r => r.len + 1
  | .l _ r => r.len + 1
def Sh.app : Sh → Sh → Sh
  | .nil, t => t
  | .i k r, t => .i k (r.app t)
  | .b r, t => .b (r.app t)
  | .l e r, t => .l e (r.app t)
theorem WT.len {N : Nat} {s : Sh} {cs : List Cell} (h : WT N s cs) : cs.length = s.len := by
  induction h with
  | nil => rfl
  | i n _ ih => simp [Sh.len, ih]
  | b x _ ih => simp [Sh.len, ih]
  | l rows _ _ _ _ ih => simp [Sh.len, ih]
theorem WT.app {N : Nat} {s t : Sh} {xs ys : List Cell} (h : WT N s xs) (k : WT N t ys) : WT N (s.app t) (xs ++ ys) := by
  induction h with
  | nil => exact k
  | i n _ ih => exact .i n ih
  | b x _ ih => exact .b x ih
  | l rows h1 h2 _ _ ih => exact .l rows h1 h2 ih
abbrev OS (P : Program) (t : TypeId) (s : Sh) : Prop := Opens P t s.len (fun a : {cs : List Cell // WT 9223372036854775807 s cs} => a.1) (fun _ => True)
abbrev OSF (P : Program) (fs : List Field) (s : Sh) : Prop := OpensF P fs s.len (fun a : {cs : List Cell // WT 9223372036854775807 s cs} => a.1) (fun _ => True)
section
variable {P : Program} {t e : TypeId}
theorem OS.mk {sz : Nat} {α : Type} {f : α → List Cell} {G : α → Prop} {s : Sh} (h : Opens P t sz f G) (hz : sz = s.len) (hw : ∀ a, G a → WT 9223372036854775807 s (f a)) : OS P t s :=
  ⟨h.hsz.trans hz, fun a => a.2.len, fun enc w base spare held fuel cs x hx => by
    obtain ⟨a, h1, h2⟩ := h.get enc w base spare held fuel cs x hx
    exact ⟨⟨f a, hw a h2⟩, h1, trivial⟩⟩
theorem os_int {k : IntKind} (ht : P.underlying t = some (.int k)) (hc : P.cellsOf t = 1) : OS P t (.i k .nil) := .mk (opens_int ht hc) rfl fun n _ => .i n .nil
theorem os_slice {s : Sh} (ht : P.underlying t = some (.slice e)) (hc : P.cellsOf t = 1) (he : OS P e s) : OS P t (.l s .nil) := .mk (opens_slice ht hc he) rfl fun l hl => .l _ (by
    have h : l.length ≤ maxLen := hl.1
    rw [List.length_map]; exact h) (fun row hr => by
    obtain ⟨a, _, rfl⟩ := List.mem_map.1 hr
    exact a.2) .nil
theorem osf_one {fd : Field} {s : Sh} (h : OS P fd.type s) : OSF P [fd] s := opensF_one h
theorem osf_cons {fd : Field} {fs : List Field} {s t u : Sh} (h : OS P fd.type s) (k : OSF P fs t) (hu : s.app t = u) (hl : s.len + t.len = u.len) : OSF P (fd :: fs) u := by
  have hc := opensF_cons h k
  subst hu
  refine ⟨fun a => a.2.len, fun enc w base spare held fuel cs hn hx => ?_⟩
  obtain ⟨a, h1, _⟩ := hc.2 enc w base spare held fuel cs (hn.trans hl.symm) hx
  exact ⟨⟨_, a.1.2.app a.2.2⟩, h1, trivial⟩
theorem os_struct {fs : List Field} {s : Sh} (ht : P.underlying t = some (.struct fs.toArray)) (hc : P.cellsOf t = s.len) (hL : Laid P 0 fs) (hF : OSF P fs s) : OS P t s :=
  opens_struct (fun a => a) (fun _ => rfl) (fun _ h => h) (fun b => b.2.len) ht hc hL hF
theorem arg_shl {s : Sh} (ht : P.underlying t = some (.slice e)) (he : OS P e s) {H : Type} {enc : TypeId × Value → H} {w : World} {r : Reach} {b : Nat} {v : Value} {dd : DataW H} {ps : List MemPlace}
    (hv : Value.okWide P w r b t v) (h : DataW.Trod enc P w 0 (fun _ => true) true t v dd ps) : ∃ rr : List (List Cell), RepV w (fun _ => True) (.one (.l rr)) v ∧ WR 9223372036854775807 s rr := by
  obtain ⟨l, h1, h2, _⟩ := arg_slice ht he hv h
  refine ⟨_, h1, ⟨by rw [List.length_map]; exact h2, fun row hr => ?_⟩⟩
  obtain ⟨a, _, rfl⟩ := List.mem_map.1 hr
  exact a.2
end
end Go.Sx
end
section
namespace Go.Sx
def ocCell : OC → Cell
  | .s v => .s v
  | .l _ rows => .l rows
theorem PC.lend {P : Program} {f : Nat} {args : List SV} {ag : Bool} {cs : List OC} (h : PC P f args (.one (.own ag cs))) : PC P f args (.one (.bor ag (cs.map ocCell))) := by
  refine ⟨h.1, fun N w vals ha => (h.2 N w vals ha).mono ?_⟩
  rintro e w' ⟨v, S, rfl, hk, ⟨arr, F, h1, h2, h3, _, h5⟩, hS⟩
  refine ⟨v, fun _ => False, rfl, hk, ⟨arr, h1, by simp [h2], fun k c u hc hu => ?_⟩, fun x hx => hx.elim⟩
  rw [List.getElem?_map] at hc
  cases ho : cs[k]? with
  | none => rw [ho] at hc; cases hc
  | some oc =>
    rw [ho] at hc
    cases hc
    have h6 := h5 k oc u ho hu
    cases oc with
    | s x => obtain ⟨rfl, h7⟩ := h6; exact .s _ h7
    | l sz rows =>
      obtain ⟨sz', _, h7⟩ := h6
      exact (own_slab.2 ⟨sz', h7⟩).rep fun x hx => ⟨.inr (hS x (h3 k x hx)).1, fun h => h⟩
end Go.Sx
end
section
namespace Go.Sx
theorem gm {α β : Type} {xs : List α} {i : Nat} {x : α} (f : α → β) (h : xs[i]? = some x) : (xs.map f)[i]? = some (f x) := by rw [List.getElem?_map, h]; rfl
theorem gx {α : Type} {xs : List α} {i : Nat} (h : i < xs.length) : ∃ x, xs[i]? = some x := ⟨_, List.getElem?_eq_getElem h⟩
def scan (f : Nat → Int) : Nat → Int
  | 0 => 0
  | n + 1 => if scan f n ≠ 0 then scan f n else f n
theorem scan_zero {f : Nat → Int} : ∀ {n : Nat}, (∀ j, j < n → f j = 0) → scan f n = 0
  | 0, _ => rfl
  | n + 1, h => by rw [scan, scan_zero (fun j hj => h j (by omega)), h n (by omega)]; simp
theorem scan_all {f : Nat → Int} : ∀ {n : Nat}, scan f n = 0 → ∀ j, j < n → f j = 0
  | n + 1, h, j, hj => by
    rw [scan] at h
    split at h
    · rename_i h1; exact absurd h h1
    · rename_i h1
      have h1 : scan f n = 0 := by simpa using h1
      rcases Nat.lt_or_ge j n with h2 | h2
      · exact scan_all h1 j h2
      · have : j = n := by omega
        subst this; exact h
theorem scan_hit {f : Nat → Int} {i : Nat} (h0 : ∀ j, j < i → f j = 0) (h : f i ≠ 0) : ∀ {n : Nat}, i < n → scan f n = f i
  | n + 1, hi => by
    rw [scan]
    rcases Nat.lt_or_ge i n with h2 | h2
    · have := scan_hit h0 h h2
      rw [this, if_pos h]
    · have : i = n := by omega
      subst this
      rw [scan_zero h0]; simp
theorem scan_hit' {f : Nat → Int} {i n : Nat} {c : Int} (hi : i < n) (h0 : ∀ j, j < i → f j = 0) (hc : f i = c) (h : c ≠ 0) : c = scan f n := by rw [scan_hit h0 (by rw [hc]; exact h) hi, hc]
theorem scan_step {f : Nat → Int} {i : Nat} (h0 : ∀ j, j < i → f j = 0) (h : f i = 0) : ∀ j, j < i + 1 → f j = 0 := fun j hj => by
  rcases Nat.lt_or_ge j i with h2 | h2
  · exact h0 j h2
  · have : j = i := by omega
    subst this; exact h
def within (n lo hi : Int) : Bool := decide (lo ≤ n) && decide (n ≤ hi)
def cmp3 (a b : Int) : Int := if a < b then -1 else if b < a then 1 else 0
def orr : List Int → Int
  | [] => 0
  | x :: xs => if x ≠ 0 then x else orr xs
abbrev ints (xs : List Int) : List (List Cell) := xs.map fun n => [i64 n]
theorem orr_hit : ∀ {xs : List Int} {i : Nat} {x : Int}, xs[i]? = some x → (∀ (j : Nat) (y : Int), j < i → xs[j]? = some y → y = 0) → x ≠ 0 → orr xs = x
  | y :: xs, 0, x, h, _, hx => by simp at h; subst h; rw [orr, if_pos hx]
  | y :: xs, i + 1, x, h, h0, hx => by
    rw [orr, if_neg (by simpa using h0 0 y (by omega) rfl)]
    exact orr_hit (by simpa using h) (fun j z hj hz => h0 (j + 1) z (by omega) (by simpa using hz)) hx
structure Leg where
  (s a b v : Int)
structure Con where
  id : Int
  legs : List Leg
structure Bal where
  (a b v : Int)
def ahead {α : Type} (lt : α → α → Bool) (xs : List α) (i : Nat) (x : α) : Bool := bif Nat.beq i 0 then true else match xs[i - 1]? with | some p => lt p x | none => true
structure Mk where
  (c v : Int)
theorem miss_step {α : Type} {xs : List α} {i : Nat} {x : α} {p : α → Prop} (hx : xs[i]? = some x) (h : ∀ (j : Nat) (y : α), j < i → xs[j]? = some y → p y) (hp : p x) : ∀ (j : Nat) (y : α), j < i + 1 → xs[j]? = some y → p y := fun j y hj hy => by
  rcases Nat.lt_or_ge j i with h2 | h2
  · exact h j y h2 hy
  · have : j = i := by omega
    subst this; rw [hx] at hy; cases hy; exact hp
theorem miss_all {α : Type} {xs : List α} {i : Nat} {p : α → Prop} (hi : i = xs.length) (h : ∀ (j : Nat) (y : α), j < i → xs[j]? = some y → p y) : ∀ (j : Nat) (y : α), xs[j]? = some y → p y := fun j y hy => h j y (by have := (List.getElem?_eq_some_iff.1 hy).1; omega) hy
theorem wprev {i : Nat} (h0 : 0 < i) (h : i ≤ 9000000000000000000) : 0 ≤ IntKind.i64.wrap ((i : Int) - 1) := by rw [wrap_i64 (by omega) (by omega)]; omega
theorem gprev {α β : Type} {xs : List α} {i : Nat} {p : α} (f : α → β) (h0 : 0 < i) (h : i ≤ 9000000000000000000) (hp : xs[i - 1]? = some p) : (xs.map f)[(IntKind.i64.wrap ((i : Int) - 1)).toNat]? = some (f p) := by
  rw [wrap_i64 (by omega) (by omega), show ((i : Int) - 1).toNat = i - 1 by omega]; exact gm f hp
theorem ahead_zero {α : Type} {lt : α → α → Bool} {xs : List α} {x : α} : ahead lt xs 0 x = true := rfl
theorem ahead_pos {α : Type} {lt : α → α → Bool} {xs : List α} {i : Nat} {x p : α} (h0 : 0 < i) (hp : xs[i - 1]? = some p) : ahead lt xs i x = lt p x := by
  unfold ahead; rw [beq_false (by omega), cond_false, hp]
theorem vi {a b : Int} (h : a = b) : Value.int .i64 a = Value.int .i64 b := by rw [h]
theorem vb {a b : Bool} (h : a = b) : Value.bool a = Value.bool b := by rw [h]
theorem ci {a b : Int} (h : a = b) : Cell.s (.int .i64 a) = Cell.s (.int .i64 b) := by rw [h]
structure Vt where
  (b v : Int)
structure Slt where
  (c s p lb lv : Int)
  cast : List Vt
structure Acc where
  slots : List Slt
structure Shd where
  idx : Int
  bals : List Bal
  votes : List Mk
  held : List Con
  done : List Mk
  app : List Int
theorem lcr {B B' : List (Nat × AB)} : ∀ {l : List Cell}, leCs B B' (l.map .b) (l.map .b)
  | [] => trivial
  | _ :: l => ⟨rfl, lcr (l := l)⟩
def bsr (c : Nat → Bool) (i j : Nat) : Nat := if h : i < j then (if c ((i + j) / 2) then bsr c ((i + j) / 2 + 1) j else bsr c i ((i + j) / 2)) else i
termination_by j - i
theorem bsr_eq {c : Nat → Bool} {p n : Nat} (hc : ∀ k, k < n → c k = decide (k < p)) : ∀ (i j : Nat), i ≤ p → p ≤ j → j ≤ n → bsr c i j = p := by
  intro i j
  induction h : j - i using Nat.strongRecOn generalizing i j with
  | _ m ih =>
    intro h1 h2 h3
    rw [bsr]
    split
    · have hk := hc ((i + j) / 2) (by omega)
      split
      · rename_i ht
        rw [hk] at ht
        have ht : (i + j) / 2 < p := by simpa using ht
        exact ih (j - ((i + j) / 2 + 1)) (by omega) _ _ rfl (by omega) h2 h3
      · rename_i ht
        rw [hk] at ht
        have ht : ¬ (i + j) / 2 < p := by simpa using ht
        exact ih ((i + j) / 2 - i) (by omega) _ _ rfl h1 (by omega) (by omega)
    · omega
theorem half {i j : Nat} (hi : i ≤ 1048576) (hj : j ≤ 1048576) : IntKind.i64.wrap ((IntKind.u64.wrap (IntKind.i64.wrap ((i : Int) + j))).fdiv (2 ^ (min (1 : Int).toNat IntKind.u64.bits))) = (((i + j) / 2 : Nat) : Int) := by
  have e1 : IntKind.i64.wrap ((i : Int) + j) = (i : Int) + j := wrap_i64 (by omega) (by omega)
  have e2 : IntKind.u64.wrap ((i : Int) + j) = (i : Int) + j := by simp [IntKind.wrap, IntKind.signed, IntKind.bits]; omega
  have e3 : (2 : Int) ^ (min (1 : Int).toNat IntKind.u64.bits) = 2 := by decide
  rw [e1, e2, e3]
  have e4 : ((i : Int) + j).fdiv 2 = (((i + j) / 2 : Nat) : Int) := by rw [Int.fdiv_eq_ediv_of_nonneg _ (by omega)]; omega
  rw [e4]
  exact wrap_i64 (by omega) (by omega)
def idxP {α : Type} (p : α → Bool) : List α → Int
  | [] => -1
  | x :: l => if p x then 0 else if idxP p l < 0 then -1 else idxP p l + 1
theorem idxP_hit {α : Type} {p : α → Bool} : ∀ {l : List α} {i : Nat} {x : α}, l[i]? = some x → (∀ (j : Nat) (y : α), j < i → l[j]? = some y → p y = false) → p x = true → idxP p l = i
  | y :: l, 0, x, h, _, hx => by simp at h; subst h; rw [idxP, if_pos hx]; rfl
  | y :: l, i + 1, x, h, h0, hx => by
    have ih := idxP_hit (l := l) (by simpa using h) (fun j z hj hz => h0 (j + 1) z (by omega) (by simpa using hz)) hx
    rw [idxP, if_neg (by rw [h0 0 y (by omega) rfl]; decide), ih, if_neg (by omega)]
    omega
theorem idxP_none {α : Type} {p : α → Bool} : ∀ {l : List α}, (∀ (j : Nat) (y : α), l[j]? = some y → p y = false) → idxP p l = -1
  | [], _ => rfl
  | y :: l, h => by
    rw [idxP, if_neg (by rw [h 0 y rfl]; decide), idxP_none (l := l) (fun j z hz => h (j + 1) z (by simpa using hz))]
    rfl
def bsC {α : Type} (f : α → Int) (us : List α) (k : Nat) : Bool := match us[k]? with | some x => decide (f x < 0) | none => false
def bsP {α : Type} (f : α → Int) (us : List α) : Nat := bsr (bsC f us) 0 us.length
def bsF {α : Type} (f : α → Int) (us : List α) : Bool := match us[bsP f us]? with | some x => f x == 0 | none => false
def bsV {α : Type} (f : α → Int) (us : List α) : Res := .tup [.own false [.s (.int .i64 (bsP f us))], .own false [.s (.bool (bsF f us))]]
theorem bsr_lo {c : Nat → Bool} {i j : Nat} (h : i < j) (hc : c ((i + j) / 2) = true) : bsr c i j = bsr c ((i + j) / 2 + 1) j := by rw [bsr, dif_pos h, if_pos hc]
theorem bsr_hi {c : Nat → Bool} {i j : Nat} (h : i < j) (hc : c ((i + j) / 2) = false) : bsr c i j = bsr c i ((i + j) / 2) := by rw [bsr, dif_pos h, if_neg (by rw [hc]; decide)]
theorem bsr_end {c : Nat → Bool} {i j : Nat} (h : ¬ i < j) : bsr c i j = i := by rw [bsr, dif_neg h]
theorem bsC_some {α : Type} {f : α → Int} {us : List α} {k : Nat} {x : α} (h : us[k]? = some x) : bsC f us k = decide (f x < 0) := by unfold bsC; rw [h]
theorem bsF_some {α : Type} {f : α → Int} {us : List α} {k : Nat} {x : α} (hk : bsP f us = k) (h : us[k]? = some x) : bsF f us = (f x == 0) := by unfold bsF; rw [hk, h]
theorem bsF_none {α : Type} {f : α → Int} {us : List α} {k : Nat} (hk : bsP f us = k) (h : us.length ≤ k) : bsF f us = false := by unfold bsF; rw [hk, List.getElem?_eq_none h]
theorem half0 {i j : Nat} (hi : i ≤ 1048576) (hj : j ≤ 1048576) : 0 ≤ IntKind.i64.wrap ((IntKind.u64.wrap (IntKind.i64.wrap ((i : Int) + j))).fdiv (2 ^ (min (1 : Int).toNat IntKind.u64.bits))) := by rw [half hi hj]; exact Int.natCast_nonneg _
theorem halfg {α β : Type} {us : List α} {x : α} {i j : Nat} (f : α → β) (hi : i ≤ 1048576) (hj : j ≤ 1048576) (h : us[(i + j) / 2]? = some x) : (us.map f)[(IntKind.i64.wrap ((IntKind.u64.wrap (IntKind.i64.wrap ((i : Int) + j))).fdiv (2 ^ (min (1 : Int).toNat IntKind.u64.bits)))).toNat]? = some (f x) := by
  rw [half hi hj, Int.toNat_natCast]; exact gm f h
end Go.Sx
end
section
namespace Go.Sx
def Strict {α : Type} (f : α → Int) (us : List α) : Prop := ∀ (i j : Nat) (x y : α), i < j → us[i]? = some x → us[j]? = some y → f y ≤ 0 → f x < 0
theorem bs_found {α : Type} {f : α → Int} {us : List α} (hs : Strict f us) {i : Nat} {x : α} (hx : us[i]? = some x) (h0 : f x = 0) : bsP f us = i ∧ bsF f us = true := by
  have hi : i < us.length := (List.getElem?_eq_some_iff.1 hx).1
  have hp : bsP f us = i := bsr_eq (n := us.length) (fun k hk => by
    obtain ⟨y, hy⟩ := gx hk
    rw [bsC_some hy]
    rcases Nat.lt_trichotomy k i with h | h | h
    · have := hs k i y x h hy hx (by omega)
      rw [decide_eq_true this, decide_eq_true h]
    · subst h; rw [hx] at hy; cases hy; rw [decide_eq_false (by omega), decide_eq_false (by omega)]
    · have : ¬ f y < 0 := fun h1 => by have := hs i k x y h hx hy (by omega); omega
      rw [decide_eq_false this, decide_eq_false (by omega)]) 0 us.length (Nat.zero_le _) (Nat.le_of_lt hi) (Nat.le_refl _)
  refine ⟨hp, ?_⟩
  rw [bsF_some hp hx, h0]; rfl
theorem bs_none {α : Type} {f : α → Int} {us : List α} (h : ∀ (i : Nat) (x : α), us[i]? = some x → f x ≠ 0) : bsF f us = false := by
  unfold bsF
  split
  · rename_i x hx; have := h _ x hx; simpa using this
  · rfl
theorem chain_lt {α : Type} {key : α → Int} {us : List α} (h : ∀ (j : Nat) (p x : α), us[j]? = some p → us[j + 1]? = some x → key p < key x) : ∀ (i j : Nat) (x y : α), i < j → us[i]? = some x → us[j]? = some y → key x < key y := by
  intro i j
  induction j with
  | zero => intro x y hij; omega
  | succ j ih =>
    intro x y hij hx hy
    have hj : j < us.length := by have := (List.getElem?_eq_some_iff.1 hy).1; omega
    obtain ⟨z, hz⟩ := gx hj
    have h1 := h j z y hz hy
    rcases Nat.lt_or_ge i j with h2 | h2
    · have := ih x z h2 hx hz; omega
    · have : i = j := by omega
      subst this; rw [hx] at hz; cases hz; exact h1
theorem cmp3_le {a b : Int} : cmp3 a b ≤ 0 ↔ a ≤ b := by unfold cmp3; split <;> (try split) <;> omega
theorem cmp3_lt {a b : Int} : cmp3 a b < 0 ↔ a < b := by unfold cmp3; split <;> (try split) <;> omega
theorem cmp3_eq {a b : Int} : cmp3 a b = 0 ↔ a = b := by unfold cmp3; split <;> (try split) <;> omega
theorem strict_of_key {α : Type} {key : α → Int} {us : List α} (h : ∀ (i j : Nat) (x y : α), i < j → us[i]? = some x → us[j]? = some y → key x < key y) (c : Int) : Strict (fun x => cmp3 (key x) c) us := fun i j x y hij hx hy h0 => by
  have := h i j x y hij hx hy
  rw [cmp3_le] at h0
  exact cmp3_lt.2 (by omega)
end Go.Sx
end
section
namespace Go.Sx
structure Msg where
  (k to fr c s b v ob ov : Int)
structure Tr where
  (c s b v : Int)
  fr : List Int
  olds : List Vt
structure Hd where
  (c s b v f : Int)
structure Ldr where
  n : Int
  tries : List Tr
  known : List Hd
structure Clu where
  cons : List Con
  shs : List Shd
  accs : List Acc
  ldrs : List Ldr
  msgs : List Msg
instance instDecidableEqLeg : DecidableEq Leg := fun x y =>
  if h : x.s = y.s ∧ x.a = y.a ∧ x.b = y.b ∧ x.v = y.v then isTrue (by cases x; cases y; simp_all) else isFalse (fun e => h (by subst e; exact ⟨rfl, rfl, rfl, rfl⟩))
def hasS (c : Con) (s : Int) : Bool := c.legs.any fun l => l.s == s
def conAt (cs : List Con) (id : Int) : Option Con := cs.find? fun c => c.id == id
def hasL (cs : List Con) (id s : Int) : Bool := match conAt cs id with | some c => hasS c s | none => false
theorem idxP_at {α : Type} {p : α → Bool} : ∀ {l : List α} {x : α}, l.find? p = some x → ∃ i : Nat, idxP p l = i ∧ l[i]? = some x
  | y :: l, x, h => by
    rw [List.find?_cons] at h
    by_cases hy : p y = true
    · rw [hy] at h; cases h; exact ⟨0, by rw [idxP, if_pos hy]; rfl, rfl⟩
    · rw [show p y = false by simpa using hy] at h
      obtain ⟨i, h1, h2⟩ := idxP_at h
      exact ⟨i + 1, by rw [idxP, if_neg hy, h1, if_neg (by omega)]; omega, by simpa using h2⟩
theorem idxP_no {α : Type} {p : α → Bool} : ∀ {l : List α}, l.find? p = none → idxP p l = -1
  | [], _ => rfl
  | y :: l, h => by
    rw [List.find?_cons] at h
    by_cases hy : p y = true
    · rw [hy] at h; cases h
    · rw [show p y = false by simpa using hy] at h
      rw [idxP, if_neg hy, idxP_no h]; rfl
def Hd.cmp (p x : Hd) : Int := orr [cmp3 p.c x.c, cmp3 p.s x.s, cmp3 p.b x.b, cmp3 p.v x.v, cmp3 p.f x.f]
def Hd.lt (p x : Hd) : Bool := decide (Hd.cmp p x < 0)
def hdF (c : Clu) (ks : List Hd) (i : Nat) : Int := match ks[i]? with
  | some h => if !(hasL c.cons h.c h.s) then 4 else if !(within h.b 0 1000 && within h.v 1 2 && within h.f 0 ((c.accs.length : Int) - 1)) then 3 else if ahead Hd.lt ks i h then 0 else 1
  | none => 0
end Go.Sx
end
section
namespace Go.Sx
theorem mark_cnt {N : Nat} {e : Sh} {rows : List (List Cell)} (hw : WR N e rows) : cntR (cnt e) rows ≤ wid e * rows.length + mwid e * cntR (tot e) rows :=
  cntR_le fun row hr => cnt_le (hw.2 row hr)
end Go.Sx
end
section
namespace Go.Sx
instance instDecidableEqBal : DecidableEq Bal := fun x y =>
  if h : x.a = y.a ∧ x.b = y.b ∧ x.v = y.v then isTrue (by cases x; cases y; simp_all) else isFalse (fun e => h (by subst e; exact ⟨rfl, rfl, rfl⟩))
end Go.Sx
end
section
namespace Go.Sx
instance instDecidableEqVt : DecidableEq Vt := fun x y =>
  if h : x.b = y.b ∧ x.v = y.v then isTrue (by cases x; cases y; simp_all) else isFalse (fun e => h (by subst e; exact ⟨rfl, rfl⟩))
end Go.Sx
end
section
namespace Go.Sx
structure Ses where
  (cl nx : Int)
  sent : List Int
abbrev Ses.cs (s : Ses) : List Cell := [i64 s.cl, i64 s.nx, .l (ints s.sent)]
def sentL (us : List Int) : Bool := us == (List.range us.length).map fun i : Nat => ((i : Nat) : Int) + 1
def sentB (s : Ses) : Bool := sentL s.sent && ((s.sent.length : Int) == s.nx - 1)
def sesF (xs : List Ses) (i : Nat) : Int := match xs[i]? with
  | some s => if !(within s.cl 1 999 && within s.nx 1 1000) then 3 else if ahead (fun p x : Ses => decide (p.cl < x.cl)) xs i s && sentB s then 0 else 1
  | none => 0
def sesFault (xs : List Ses) : Int := if 10 < xs.length then 2 else scan (sesF xs) xs.length
theorem sentL_at {us : List Int} (h : sentL us = true) {i : Nat} {n : Int} (hn : us[i]? = some n) : n = i + 1 := by
  unfold sentL at h
  have h := eq_of_beq h
  rw [h, List.getElem?_map] at hn
  rcases hr : (List.range us.length)[i]? with _ | j
  · rw [hr] at hn; cases hn
  · rw [hr] at hn
    have := List.getElem?_eq_some_iff.1 hr
    obtain ⟨h1, h2⟩ := this
    simp at h2 hn
    omega
theorem sentL_no {us : List Int} {i : Nat} {n : Int} (hn : us[i]? = some n) (h : n ≠ (i : Int) + 1) : sentL us = false := by
  cases hs : sentL us with
  | false => rfl
  | true => exact absurd (sentL_at hs hn) h
theorem sentL_yes {us : List Int} (h : ∀ (i : Nat) (n : Int), i < us.length → us[i]? = some n → n = (i : Int) + 1) : sentL us = true := by
  unfold sentL
  rw [beq_iff_eq]
  apply List.ext_getElem?
  intro i
  by_cases hi : i < us.length
  · obtain ⟨n, hn⟩ := gx hi
    rw [hn, h i n hi hn, List.getElem?_map, List.getElem?_range hi]
    rfl
  · rw [List.getElem?_eq_none (by omega), List.getElem?_eq_none (by simp; omega)]
theorem ses_ok {xs : List Ses} (h : sesFault xs = 0) : xs.length ≤ 10 ∧ (∀ s ∈ xs, (1 ≤ s.cl ∧ s.cl ≤ 999) ∧ (1 ≤ s.nx ∧ s.nx ≤ 1000) ∧ sentB s = true) ∧ ∀ (i j : Nat) (x y : Ses), i < j → xs[i]? = some x → xs[j]? = some y → x.cl < y.cl := by
  unfold sesFault at h
  split at h
  · omega
  · rename_i hl
    have h1 : ∀ (i : Nat) (x : Ses), xs[i]? = some x → ((1 ≤ x.cl ∧ x.cl ≤ 999) ∧ (1 ≤ x.nx ∧ x.nx ≤ 1000) ∧ sentB x = true) ∧ ahead (fun p x : Ses => decide (p.cl < x.cl)) xs i x = true := fun i x hx => by
      have h2 := scan_all h i (List.getElem?_eq_some_iff.1 hx).1
      simp only [sesF, hx] at h2
      split at h2
      · omega
      · rename_i h3
        split at h2
        · rename_i h4
          simp only [Bool.and_eq_true] at h4
          simp [within] at h3
          exact ⟨⟨by omega, by omega, h4.2⟩, h4.1⟩
        · omega
    refine ⟨by omega, fun x hx => ?_, chain_lt (key := Ses.cl) fun j p x hp hx => ?_⟩
    · obtain ⟨i, hi⟩ := List.mem_iff_getElem?.1 hx
      exact (h1 i x hi).1
    · have ha := (h1 (j + 1) x hx).2
      rw [ahead_pos (p := p) (by omega) (by simpa using hp)] at ha
      simpa using ha
theorem ses_find {list : List Ses} {cl : Int} {s : Ses} (h : (list.find? fun s => s.cl == cl) = some s) : s ∈ list ∧ s.cl = cl := ⟨List.mem_of_find?_eq_some h, by simpa using List.find?_some h⟩
end Go.Sx
end
section
namespace Go.Sx
theorem bs_at {α : Type} {f : α → Int} {us : List α} (hs : Strict f us) : bsP f us ≤ us.length ∧ (∀ (i : Nat) (x : α), i < bsP f us → us[i]? = some x → f x < 0) ∧ ∀ (i : Nat) (x : α), bsP f us ≤ i → us[i]? = some x → 0 ≤ f x := by
  have hp : bsP f us = us.findIdx (fun x => decide (0 ≤ f x)) := bsr_eq (n := us.length) (fun k hk => by
    obtain ⟨y, hy⟩ := gx hk
    rw [bsC_some hy]
    by_cases h : k < us.findIdx (fun x => decide (0 ≤ f x))
    · have h1 := List.not_of_lt_findIdx h
      have e : us[k] = y := by rw [List.getElem?_eq_getElem hk] at hy; exact Option.some.inj hy
      rw [e] at h1
      rw [decide_eq_true h, decide_eq_true (by simpa using h1)]
    · rw [decide_eq_false h]
      refine decide_eq_false fun hf => ?_
      have hl : us.findIdx (fun x => decide (0 ≤ f x)) < us.length := by omega
      have h1 := List.findIdx_getElem (w := hl)
      have h1 : 0 ≤ f us[us.findIdx (fun x => decide (0 ≤ f x))] := by simpa using h1
      rcases Nat.lt_or_ge (us.findIdx (fun x => decide (0 ≤ f x))) k with h2 | h2
      · have := hs _ k _ y h2 (List.getElem?_eq_getElem hl) hy (by omega)
        omega
      · have e : us.findIdx (fun x => decide (0 ≤ f x)) = k := by omega
        have e2 : us[us.findIdx (fun x => decide (0 ≤ f x))] = y := by
          rw [← Option.some.injEq, ← List.getElem?_eq_getElem hl, e, hy]
        rw [e2] at h1; omega) 0 us.length (Nat.zero_le _) (List.findIdx_le_length) (Nat.le_refl _)
  rw [hp]
  refine ⟨List.findIdx_le_length, fun i x hi hx => ?_, fun i x hi hx => ?_⟩
  · have h1 := List.not_of_lt_findIdx hi
    have hl : i < us.length := (List.getElem?_eq_some_iff.1 hx).1
    have e : us[i] = x := (List.getElem?_eq_some_iff.1 hx).2
    rw [e] at h1
    simpa using h1
  · have hl : i < us.length := (List.getElem?_eq_some_iff.1 hx).1
    have hl2 : us.findIdx (fun x => decide (0 ≤ f x)) < us.length := by omega
    have h1 := List.findIdx_getElem (w := hl2)
    have h1 : 0 ≤ f us[us.findIdx (fun x => decide (0 ≤ f x))] := by simpa using h1
    rcases Nat.lt_or_ge (us.findIdx (fun x => decide (0 ≤ f x))) i with h2 | h2
    · rcases Int.lt_or_le (f x) 0 with h3 | h3
      · have := hs _ i _ x h2 (List.getElem?_eq_getElem hl2) hx (by omega)
        omega
      · exact h3
    · have e : us.findIdx (fun x => decide (0 ≤ f x)) = i := by omega
      have e2 : us[us.findIdx (fun x => decide (0 ≤ f x))] = x := by
        rw [← Option.some.injEq, ← List.getElem?_eq_getElem hl2, e, hx]
      rw [e2] at h1; exact h1
end Go.Sx
end
section
namespace Go.Sx
def lowS (cl : Int) (ss : List Ses) : Nat := ss.findIdx fun y => decide (cl ≤ y.cl)
def putS1 (cl : Int) (ss : List Ses) : List Ses := ss.take (lowS cl ss) ++ [⟨cl, 1, []⟩] ++ ss.drop (lowS cl ss)
def openR (ss : List Ses) (cl : Int) : Int × List Ses :=
  if sesFault ss ≠ 0 then (sesFault ss, []) else if within cl 1 999 = false then (3, []) else if (ss.find? fun s => s.cl == cl).isSome then (0, ss) else if ss.length = 10 then (2, []) else (0, putS1 cl ss)
theorem lowS_le (cl : Int) (ss : List Ses) : lowS cl ss ≤ ss.length := List.findIdx_le_length
theorem lowS_lt {cl : Int} {ss : List Ses} {i : Nat} {y : Ses} (hi : i < lowS cl ss) (hy : ss[i]? = some y) : y.cl < cl := by
  have h1 := List.not_of_lt_findIdx hi
  have hl : i < ss.length := (List.getElem?_eq_some_iff.1 hy).1
  have e : ss[i] = y := (List.getElem?_eq_some_iff.1 hy).2
  rw [e] at h1
  simpa using h1
theorem lowS_at {cl : Int} {ss : List Ses} (h : lowS cl ss < ss.length) : ∃ y, ss[lowS cl ss]? = some y ∧ cl ≤ y.cl := by
  have h1 := List.findIdx_getElem (w := h)
  exact ⟨ss[lowS cl ss], List.getElem?_eq_getElem h, of_decide_eq_true h1⟩
theorem lowS_eq {cl : Int} {ss : List Ses} {i : Nat} (h0 : ∀ (j : Nat) (y : Ses), j < i → ss[j]? = some y → y.cl < cl) (hi : i ≤ ss.length) (h : i = ss.length ∨ ∃ y, ss[i]? = some y ∧ cl ≤ y.cl) : lowS cl ss = i := by
  rcases Nat.lt_trichotomy (lowS cl ss) i with h1 | h1 | h1
  · obtain ⟨y, hy, h2⟩ := lowS_at (cl := cl) (ss := ss) (by omega)
    have := h0 _ y h1 hy
    omega
  · exact h1
  · rcases h with h | ⟨y, hy, h2⟩
    · have := lowS_le cl ss; omega
    · have := lowS_lt h1 hy; omega
theorem bsP_low {cl : Int} {ss : List Ses} (hs : Strict (fun x : Ses => cmp3 x.cl cl) ss) : bsP (fun x : Ses => cmp3 x.cl cl) ss = lowS cl ss := by
  obtain ⟨h1, h2, h3⟩ := bs_at hs
  refine (lowS_eq (fun j y hj hy => cmp3_lt.1 (h2 j y hj hy)) h1 ?_).symm
  rcases Nat.lt_or_ge (bsP (fun x : Ses => cmp3 x.cl cl) ss) ss.length with h | h
  · obtain ⟨y, hy⟩ := gx h
    have h4 := h3 _ y (Nat.le_refl _) hy
    refine .inr ⟨y, hy, ?_⟩
    by_cases h5 : y.cl < cl
    · have := cmp3_lt.2 h5; omega
    · omega
  · exact .inl (by omega)
theorem putS1_len (cl : Int) (ss : List Ses) : (putS1 cl ss).length = ss.length + 1 := by
  have := lowS_le cl ss
  simp only [putS1, List.length_append, List.length_take, List.length_drop, List.length_cons, List.length_nil]; omega
theorem putS1_mem {cl : Int} {ss : List Ses} {y : Ses} (h : y ∈ putS1 cl ss) : y ∈ ss ∨ y = ⟨cl, 1, []⟩ := by
  simp only [putS1, List.mem_append, List.mem_singleton] at h
  rcases h with (h | h) | h
  · exact .inl (List.mem_of_mem_take h)
  · exact .inr h
  · exact .inl (List.mem_of_mem_drop h)
theorem ses_no {ss : List Ses} {cl : Int} (h : (ss.find? fun s => s.cl == cl).isSome = false) (i : Nat) (x : Ses) (hx : ss[i]? = some x) : x.cl ≠ cl := fun e => by
  cases hf : ss.find? fun s => s.cl == cl with
  | some s => rw [hf] at h; cases h
  | none => exact List.find?_eq_none.1 hf x (List.mem_of_getElem? hx) (by simpa using e)
end Go.Sx
end
