/- WHAT IS PROVED: parts of the proof of fnExactOutcomeAt_holds: a frame for walks, what each Go function that it reaches answers, and plain lemmas; no condition beyond those that each theorem names. -/
import Derived.Test.YtohbmmpkcibnpaaGreatCOa3
import Derived.WalkKit
import Derived.OrdersHeld
import Derived.DeepKeys
import Derived.Maps.RangeWalk
import Derived.Maps.OwnOps
import Derived.WideKeyEntry
import Derived.Deep.Slices
import Derived.ChangeArms
import Derived.WideShapes
import Derived.Sort.AssemblyPlain
import Derived.Lib.SlicesCompact
import Derived.WideKeyPair
set_option linter.unusedVariables false
set_option linter.unusedSimpArgs false
section
namespace Go.Sx
open Go.RowKit (Below)
section
variable {g : Bool} {P : Program} {F : TT} {σ : St} {o : Oper} {K : St → Prop}
theorem z2s {x : Operand} {f : AV → R} (h : (evR σ x f).holds P K) : ∃ av, ev σ x = some av ∧ (f av).holds P K := by
 unfold evR at h
 split at h
 · rename_i av hav; exact ⟨av, hav, h⟩
 · exact h.elim
theorem q3k {z : AV} (h : q7n z = true) : yax z := by cases z <;> first | trivial | cases h
theorem yb7 {z : AV} (h : q7n z = true) : (match (generalizing := false) z with | .tup _ => False | _ => True) := by cases z <;> first | trivial | cases h
theorem q3y {x : Option Operand} {r : Option Int} (h : y9q x σ = some r) : y2v x σ = some r := h
theorem z5x {x : Operand} {K' : AV → Prop} (h : (evR σ x fun av => z0p σ o.dst av).holds P K) (hK : ∀ av, K (σ.put o.dst av) → K' av) : evK σ x K' := by
 obtain ⟨av, h1, h2⟩ := z2s h
 unfold evK
 rw [h1]
 exact hK _ (z1h.1 h2)
theorem y9t {t : Nat} {av : AV} {f : Value → R} {K' : Value → Prop} (hF : F = F.map P) (hf : ∀ v, (f v).holds P K → K' v) (h : (zb5 F σ t av f).holds P K) : yb5 P t σ av K' := by
 unfold zb5 at h
 split at h
 · obtain ⟨_, h1, h2⟩ := zf h; exact ⟨by rw [z0h hF h1]; rfl, hf _ h2⟩
 · obtain ⟨_, h1, h2⟩ := zf h; exact ⟨by rw [z0h hF h1]; rfl, hf _ h2⟩
 · obtain ⟨_, h1, h2⟩ := zf h; exact ⟨by rw [z0h hF h1]; rfl, hf _ h2⟩
 · obtain ⟨_, h1, h2⟩ := zf h; exact ⟨by rw [z0h hF h1]; rfl, hf _ h2⟩
 · obtain ⟨h1, h2⟩ := za h; exact ⟨q3q hF h1, hf _ h2⟩
 · obtain ⟨_, h1, h2⟩ := zf h
   refine ⟨by rw [z0h hF h1]; rfl, ?_⟩
   split at h2
   · rename_i full sz ep rows hg
     obtain ⟨h3, row, h4, h5⟩ := h2
     rw [hg]
     refine ⟨h3, ?_⟩
     rw [h4]
     dsimp only at h5 ⊢
     split at h5
     · rename_i rs hrs; rw [z2d] at hrs; rw [hrs]; exact hf _ h5
     · exact h5.elim
   · exact h2.elim
 · exact h.elim
theorem zb6 {av : AV} {ag : Bool} {n : Nat} (h : (y5v σ av fun cs => (match ag with
 | true => zp (q3b n cs) (y0f (force (cs.take n)) fun cs => z0p σ o.dst (.agg cs))
 | false => (match cs with | [] => .fail | c :: _ => z0p σ o.dst (.one c)))).holds P K) : z1m σ av fun cs => match q3j ag n cs with | some r => K (σ.put o.dst r) | none => False := by
 refine z72 (fun cs h => ?_) h
 split at h
 · obtain ⟨h1, h2⟩ := za h
   obtain ⟨cs', h3, h4⟩ := zf h2
   rw [force_eq h3] at h4
   simp only [q3j, if_true, if_pos (y0r h1)]
   exact z1h.1 h4
 · split at h
   · exact h.elim
   · exact z1h.1 h
theorem yes {av : AV} (h : (z0p σ o.dst av).holds P K) : K (σ.put o.dst av) := z1h.1 h
theorem y85 {d : Option Tmp} {cs : List AC} (h : (yay σ d cs).holds P K) : y17 σ d cs K := by
 unfold yay at h
 unfold y17
 split at h
 · split at h
   · rename_i hn; dsimp only; rw [hn]; exact qx h
   · exact h.elim
 · exact h.elim
theorem q9t (hF : F = F.map P) {t n : Nat} {ps : List (Nat × Operand)} {d : Option Tmp} (h : (qb5 F σ t n ps d).holds P K) : zaj P σ t n ps d K := by
 unfold qb5 at h
 unfold zaj
 split at h
 · rename_i d sz by_ rws h1 h2
   rw [q00 hF h1, z2z h2]
   dsimp only
   split at h
   · rename_i hn
     rw [hn]
     dsimp only
     obtain ⟨g1, h⟩ := za h
     obtain ⟨g2, h⟩ := za h
     obtain ⟨g3, h⟩ := za h
     obtain ⟨g4, h⟩ := za h
     obtain ⟨g5, h⟩ := za h
     obtain ⟨g6, h⟩ := h
     obtain ⟨rs, g7, h⟩ := zf h
     rw [q3w] at g4 g5
     have h := qx h
     rw [q3w, q2k, y61 g7] at h
     rw [q2k] at g6
     exact ⟨z0x g1, Nat.le_of_ble_eq_true g2, q4c g3, z6 g4, y2l (z2y g5), g6, h⟩
   · exact h.elim
 · exact h.elim
theorem y9u (hF : F = F.map P) {t : Nat} {l c : Operand} {d : Option Tmp} (h : (yb6 F σ t l c d).holds P K) : y7l P σ t l c d K := by
 unfold yb6 at h
 unfold y7l
 split at h
 · rename_i d sz by_ zrow k n k' n' h1 h2 h3 h4
   rw [q00 hF h1, y6x hF h2, h3, h4]
   dsimp only
   split at h
   · rename_i hn
     rw [hn]
     dsimp only
     obtain ⟨g1, g2, g3, g4, g5, h⟩ := za h
     exact ⟨g2, g3, g4, g5, z0x g1, qx h⟩
   · exact h.elim
 · exact h.elim
theorem y7y (hF : F = F.map P) {t : Nat} {β m i k : Nat} {x : AV} (h : (q4x F σ t (.one (.e β m i k)) x).holds P K) : z4x P σ t (.one (.e β m i k)) x K := by
 unfold q4x at h
 unfold z4x
 split at h
 · rename_i n β m i k x h1 he
   cases he
   rw [q2h hF h1]
   dsimp only
   split at h
   · rename_i full sz ep rows hg
     rw [hg]
     dsimp only
     obtain ⟨g1, h⟩ := za h
     obtain ⟨g2, h⟩ := za h
     obtain ⟨g3, h⟩ := za h
     obtain ⟨g4, h⟩ := za h
     obtain ⟨g5, row, g6, g7, g8, h⟩ := h
     obtain ⟨xs, g9, h⟩ := zf h
     have h := qx h
     rw [q3w] at g3 g4 h
     rw [y40 g9] at h
     refine ⟨g5, ?_⟩
     rw [g6]
     refine ⟨z0x g2, ?_, g7, z6 g3, y2l (z2y g4), g8, h⟩
     exact yb7 g1
   · exact h.elim
 · rename_i he; cases he
 · rename_i he; cases he
 · exact h.elim
theorem q7y (hF : F = F.map P) {t : Nat} {p x : AV} (hne : ∀ β m i k, p ≠ .one (.e β m i k)) (h : (q4x F σ t p x).holds P K) : y4x P σ t p x K := by
 unfold q4x at h
 unfold y4x
 split at h
 · exact absurd rfl (hne _ _ _ _)
 · rename_i β off c h1
   split at h
   · rename_i cs hg
     simp only [q2h hF h1, hg]
     obtain ⟨g1, h⟩ := za h
     obtain ⟨cs', g2, h⟩ := zf h
     rw [force_eq g2] at h
     exact ⟨y0r g1, qx h⟩
   · exact h.elim
 · rename_i n β off xs h1
   split at h
   · rename_i cs hg
     simp only [q2h hF h1, hg]
     obtain ⟨g0, h⟩ := za h
     obtain ⟨g1, h⟩ := za h
     obtain ⟨cs', g2, h⟩ := zf h
     rw [force_eq g2] at h
     exact ⟨z0x g0, y0r g1, qx h⟩
   · exact h.elim
 · exact h.elim
theorem q8b (hF : F = F.map P) {c : Call} (ho : o.op = .call c) (h : (y9i g F σ o c).holds P K) : opL g P σ o K := by
 unfold y9i at h
 split at h
 · rename_i hc
   simp only [opL, ho, hc, opY]
   split at h
   · rename_i t _ x ht hx
     obtain ⟨av, h1, h2⟩ := z2s h
     rw [ht, hx]
     simp only [evK, h1]
     exact y9t hF (fun v hv => yes hv) h2
   · exact h.elim
 · rename_i hc
   simp only [opL, ho, hc]
   split at h
   · rename_i t tx s x d ht hx hd
     unfold qau
     rw [ht, hx, hd]
     dsimp only
     split at h
     · rename_i sz by_ p β n γ m e1 e2 e3 e4
       rw [q00 hF e1, q00 hF e2, e3, e4]
       dsimp only
       split at h
       · rename_i full0 sz0 ep rows0 full sz1 ep1 rows e5 e6
         rw [e5, e6]
         dsimp only
         obtain ⟨g1, h⟩ := za h
         obtain ⟨g2, h⟩ := za h
         obtain ⟨g3, h⟩ := za h
         obtain ⟨g4, g5, g6, g7, g8, h⟩ := h
         exact ⟨g4, g5, Nat.eq_of_beq_eq_true g1, Nat.eq_of_beq_eq_true g2, g6, Nat.ne_of_beq_eq_false (z2y g3), g7, g8, qx h⟩
       · exact h.elim
     · rename_i sz by_ p β n rows e1 e2 e3 e4
       rw [q00 hF e1, q00 hF e2, e3, e4]
       dsimp only
       split at h
       · rename_i full0 sz0 ep rows0 e5
         rw [e5]
         dsimp only
         obtain ⟨g1, h⟩ := za h
         obtain ⟨g4, g5, g6, g7, g8, h⟩ := h
         exact ⟨g4, Nat.eq_of_beq_eq_true g1, g5, g6, g7, g8, qx h⟩
       · exact h.elim
     · rename_i sz by_ p γ m e1 e2 e3 e4
       rw [q00 hF e1, q00 hF e2, e3, e4]
       dsimp only
       split at h
       · rename_i full sz1 ep1 rows e5 e6
         rw [e5, e6]
         dsimp only
         obtain ⟨g1, h⟩ := za h
         obtain ⟨g2, h⟩ := za h
         obtain ⟨g4, g5, g6, h⟩ := h
         exact ⟨g4, Nat.eq_of_beq_eq_true g1, Nat.ne_of_beq_eq_false (z2y g2), g5, g6, qx h⟩
       · exact h.elim
     · rename_i sz by_ p γ m e1 e2 e3 e4
       rw [q00 hF e1, q00 hF e2, e3, e4]
       dsimp only
       split at h
       · rename_i full sz1 ep1 rows e5 e6
         rw [e5, e6]
         dsimp only
         obtain ⟨g1, h⟩ := za h
         obtain ⟨g2, h⟩ := za h
         obtain ⟨g4, g5, g6, h⟩ := h
         exact ⟨g4, Nat.eq_of_beq_eq_true g1, Nat.ne_of_beq_eq_false (z2y g2), g5, g6, qx h⟩
       · exact h.elim
     · rename_i sz by_ p rows e1 e2 e3 e4
       rw [q00 hF e1, q00 hF e2, e3, e4]
       dsimp only
       split at h
       · rename_i e5
         rw [e5]
         dsimp only
         obtain ⟨g4, g5, g6, g7, h⟩ := h
         exact ⟨g4, g5, g6, g7, qx h⟩
       · exact h.elim
     · rename_i sz by_ p rows e1 e2 e3 e4
       rw [q00 hF e1, q00 hF e2, e3, e4]
       dsimp only
       split at h
       · rename_i e5
         rw [e5]
         dsimp only
         obtain ⟨g4, g5, g6, g7, h⟩ := h
         exact ⟨g4, g5, g6, g7, qx h⟩
       · exact h.elim
     · exact h.elim
   · exact h.elim
 · rename_i x hc
   simp only [opL, ho, hc]
   split at h
   · rename_i f caps avs e1 e2
     rw [e1, e2]
     obtain ⟨avs', h1, h2⟩ := zf h
     rw [force_eq h1] at h2
     exact h2
   · rename_i f caps avs e1 e2
     rw [e1, e2]
     obtain ⟨avs', h1, h2⟩ := zf h
     rw [force_eq h1] at h2
     exact h2
   · rename_i f β off avs e1 e2
     rw [e1, e2]
     exact h
   · rename_i f ag row avs e1 e2
     rw [e1, e2]
     exact h
   · exact h.elim
 · rename_i hc
   simp only [opL, ho, hc, opY]
   split at h
   · rename_i x y hx
     rw [hx]
     dsimp only
     split at h
     · rename_i e1 e2; rw [e1, e2]; exact yes h
     · exact h.elim
   · rename_i x y z t hx
     rw [hx]
     dsimp only
     split at h
     · rename_i e1 e2 e3 e4; rw [e1, e2, e3, e4]; exact yes h
     · exact h.elim
   · exact h.elim
 · rename_i hc
   simp only [opL, ho, hc, opY]
   split at h
   · rename_i x y hx
     rw [hx]
     dsimp only
     split at h
     · rename_i e1 e2; rw [e1, e2]; exact yes h
     · exact h.elim
   · exact h.elim
 · exact h
theorem z9b (hF : F = F.map P) (h : (opR g F σ o).holds P K) : opL g P σ o K := by
 unfold opR at h
 split at h
 case h_1 x ho => simp only [opL, ho, opY]; exact z5x h (fun _ hk => hk)
 case h_2 x ho => simp only [opL, ho, opY]; exact z5x h (fun _ hk => hk)
 case h_3 c x y ho =>
  simp only [opL, ho, opY]
  split at h
  · rename_i t ht
    rw [ht]
    exact ⟨fun hb => z5x (x := if (true : Bool) then x else y) (h.1 hb) (fun _ hk => hk), fun hb => z5x (x := if (false : Bool) then x else y) (h.2 hb) (fun _ hk => hk)⟩
  · exact h.elim
 case h_4 t x ho =>
  simp only [opL, ho, opY]
  split at h
  · rename_i av ag n h1 h2
    rw [h1, q2h hF h2]
    exact zb6 h
  · exact h.elim
 case h_5 op t x y yt ho =>
  split at h
  · rename_i p q h1 h2
    simp only [opL, ho, opY, h1, h2]
    obtain ⟨g1, h⟩ := za h
    refine ⟨y88 hF g1, ?_⟩
    unfold y71
    split at h
    · exact yes h
    · exact yes h
    · exact h.elim
  · rename_i u v hne h1 h2
    simp only [opL, ho, opY]
    split
    · rename_i e1 e2
      rw [h1] at e1; rw [h2] at e2
      cases e1; cases e2
      exact (hne _ _ rfl rfl).elim
    · rename_i u' v' _ e1 e2
      rw [h1] at e1; rw [h2] at e2
      cases e1; cases e2
      exact y9h (fun v hv => yes hv) h
    · rename_i e1 e2
      rw [h1] at e1
      cases e1
    · rename_i e1 e2
      rw [h1] at e1
      cases e1
    · rename_i _ hx _ _
      exact (hx _ _ h1 h2).elim
  · rename_i rows h1 h2
    simp only [opL, ho, opY, h1, h2]
    obtain ⟨sz, g1, h⟩ := zf h
    obtain ⟨e, _, g2, _⟩ := q0q (z0h hF g1)
    refine ⟨⟨e, g2⟩, fun b hb => ?_⟩
    split at h
    · exact yes (h b hb)
    · exact yes (h b hb)
    · exact h.elim
  · rename_i cs cs' h1 h2
    simp only [opL, ho, opY, h1, h2]
    obtain ⟨ks, g1, h⟩ := zf h
    obtain ⟨xs, g2, h⟩ := zf h
    obtain ⟨ys, g3, h⟩ := zf h
    obtain ⟨g4, h⟩ := za h
    obtain ⟨g5, h⟩ := za h
    simp only [y9f, q88 hF g1, g2, g3]
    refine ⟨q2t g4, q2t g5, ?_⟩
    split at h
    · exact yes h
    · exact yes h
    · exact h.elim
  · exact h
 case h_6 op t x ho =>
  simp only [opL, ho, opY]
  split at h
  · rename_i b hb; rw [hb]; exact yes h
  · rename_i k n hn; rw [hn]; exact yes h
  · exact h.elim
 case h_7 s d x ho =>
  split at h
  · rename_i k0 n k h1 h2
    simp only [opL, ho, opY, h1, y9d hF h2]
    obtain ⟨g1, h⟩ := za h
    exact ⟨y89 hF g1, yes h⟩
  · exact h
 case h_8 s x f ho =>
  simp only [opL, ho, opY]
  split at h
  · rename_i row off h1 h2
    rw [h1, z2n hF h2]
    obtain ⟨g1, h⟩ := za h
    obtain ⟨r, g2, h⟩ := zf h
    rw [force_eq g2] at h
    exact ⟨y0r g1, yes h⟩
  · rename_i β i off h1 h2
    rw [h1, z2n hF h2]; exact yes h
  · rename_i β m i k off h1 h2
    rw [h1, z2n hF h2]; exact yes h
  · exact h.elim
 case h_9 s x f ho =>
  simp only [opL, ho, opY]
  split at h
  · rename_i cs off n h1 h2
    rw [h1, y2h hF h2]
    obtain ⟨g1, h⟩ := za h
    obtain ⟨r, g2, h⟩ := zf h
    rw [force_eq g2] at h
    exact ⟨y0r g1, yes h⟩
  · rename_i cs off n h1 h2
    rw [h1, y2h hF h2]
    obtain ⟨c, g2, h⟩ := zf h
    rw [z2d] at g2
    dsimp only
    rw [g2]
    exact yes h
  · exact h.elim
 case h_10 t x i ho =>
  split at h
  · rename_i rows k n sz h1 h2 h3
    simp only [opL, ho, opY, h1, h2, z0h hF h3]
    obtain ⟨g1, row, g2, g3, h⟩ := h
    refine ⟨g1, ?_⟩
    rw [g2]
    exact ⟨g3, yes h⟩
  · rename_i β m k n sz h1 h2 h3
    simp only [opL, ho, opY, h1, h2, z0h hF h3]
    split at h
    · rename_i full sz0 ep rows hg
      rw [hg]
      obtain ⟨g0, g1, row, g2, g3, h⟩ := h
      refine ⟨g0, g1, ?_⟩
      rw [g2]
      exact ⟨g3, yes h⟩
    · exact h.elim
  · exact h
 case h_11 t x i ho =>
  simp only [opL, ho, opY]
  split at h
  · rename_i s k n h1 h2
    rw [h1, h2]
    obtain ⟨g1, h⟩ := za h
    obtain ⟨g2, b, g3, h⟩ := h
    refine ⟨q3q hF g1, g2, ?_⟩
    rw [g3]
    exact yes h
  · exact h.elim
 case h_12 t x lo hi ho =>
  split at h
  · rename_i s l hh h1 h2 h3
    simp only [opL, ho, opY, h1, q3y h2, q3y h3]
    obtain ⟨g1, g2, g3, g4, h⟩ := za h
    exact ⟨q3q hF g1, g2, g3, g4, yes h⟩
  · rename_i rows l hh h1 h2 h3
    simp only [opL, ho, opY, h1, q3y h2, q3y h3]
    obtain ⟨sz, g0, g1, g2, g3, g4, h⟩ := zf h
    rw [z0h hF g0]
    exact ⟨g1, g2, g3, g4, yes h⟩
  · exact h
 case h_13 x i ho =>
  simp only [opL, ho, opY]
  split at h
  · rename_i vs h1
    obtain ⟨av, g1, h⟩ := zf h
    rw [z2d] at g1
    rw [h1]
    dsimp only
    rw [g1]
    exact yes h
  · exact h.elim
 case h_14 f first caps ho =>
  simp only [opL, ho, opY]
  split at h
  · rename_i x hf hc
    rw [hf, hc]
    dsimp only
    split at h
    · rename_i e1; rw [e1]; exact yes h
    · rename_i e1; rw [e1]; exact yes h
    · rename_i cs e1
      rw [e1]
      obtain ⟨l, g1, h⟩ := zf h
      dsimp only
      rw [g1]
      exact yes h
    · exact h.elim
  · rename_i hf
    rw [hf]
    dsimp only
    cases hcs : z6b σ caps.toList with
    | some cs =>
      rw [hcs] at h
      have e := (q3s (σ := σ) (l := caps.toList)).symm.trans hcs
      split
      · rename_i cs' h'
        have := h'.symm.trans e
        cases this
        exact yes h
      · rename_i h'
        have := h'.symm.trans e
        cases this
    | none =>
      rw [hcs] at h
      obtain ⟨cs, g1, h⟩ := zf h
      have e := (q3s (σ := σ) (l := caps.toList)).symm.trans hcs
      have e2 := z5v g1
      split
      · rename_i cs' h'
        have := h'.symm.trans e
        cases this
      · split
        · rename_i cs' h'
          have := h'.symm.trans e2
          cases this
          exact yes h
        · rename_i h'
          have := h'.symm.trans e2
          cases this
  · exact h.elim
 case h_15 t ps ho =>
  cases g1 : q53 F t with
  | none => rw [g1] at h; exact h
  | some z =>
    rw [g1] at h
    simp only [opL, ho, opY]
    obtain ⟨cs, g2, h⟩ := zf h
    rw [q67 hF g1]
    dsimp only
    rw [z3w hF g2]
    exact yes h
 case h_16 e ho =>
  simp only [opL, ho]
  split at h
  · rename_i z hz
    obtain ⟨g1, h⟩ := za h
    rw [z6x hF hz]
    exact ⟨q3k g1, y85 h⟩
  · exact h.elim
 case h_17 e x ho =>
  simp only [opL, ho]
  split at h
  · rename_i z hz
    obtain ⟨g1, h⟩ := za h
    rw [hz]
    exact ⟨q3k g1, y85 h⟩
  · exact h.elim
 case h_18 t p x ho =>
  simp only [opL, ho]
  split at h
  · rename_i pv xv hd h1 h2
    refine ⟨hd, ?_⟩
    rw [h1, h2]
    split
    · rename_i e1 e2; cases e1; cases e2; exact y7y hF h
    · rename_i pv' xv' hne e1 e2
      cases e1; cases e2
      exact q7y hF (fun β m i k e => hne β m i k e) h
    · rename_i hx; exact (hx _ _ rfl rfl).elim
  · exact h.elim
 case h_19 t n ps ho => simp only [opL, ho]; exact q9t hF h
 case h_20 t l c ho => simp only [opL, ho]; exact y9u hF h
 case h_21 c ho => exact q8b hF ho h
 case h_22 x ho =>
  simp only [opL, ho, opY]
  obtain ⟨av, g1, h⟩ := z2s h
  rw [g1]
  split at h
  · exact yes h
  · exact yes h
  · exact yes h
  · exact h.elim
 case h_23 => exact h
end
inductive Fr where
 | ops (ops : Array Oper) (l : List Oper)
 | op1 (g : Bool) (o : Oper)
 | r (r : R)
 | code (c : Code)
 | blk (id : Nat)
 | lp (J : St → Prop)
 | plan (ops : Array Oper) (LC : List Nat) (p : y68)
def G (P : Program) (Q : Ex → St → Prop) : List Fr → Option Nat → St → Prop
 | [], none, σ => Q .normal σ
 | [], some i, σ => Q (.exit i) σ
 | .blk j :: st, some i, σ => if i = j then G P Q st none σ else G P Q st (some i) σ
 | _ :: st, some i, σ => G P Q st (some i) σ
 | .ops ops l :: st, none, σ => z9z P ops l σ (G P Q st none)
 | .op1 g o :: st, none, σ => opL g P σ o (G P Q st none)
 | .r r :: st, none, _ => r.holds P (G P Q st none)
 | .code c :: st, none, σ => vc P c (fun e σ => match e with | .normal => G P Q st none σ | .exit i => G P Q st (some i) σ | .ret => Q .ret σ) σ
 | .blk _ :: st, none, σ => G P Q st none σ
 | .lp J :: _, none, σ => J σ
 | .plan ops LC p :: st, none, σ => z30 LC P ops p σ (G P Q st none)
inductive T where
 | go (st : List Fr) (σ : St)
 | br (t : Bool) (st : List Fr) (σ : St) (st' : List Fr) (σ' : St)
 | side (p : Prop) (st : List Fr) (σ : St)
 | any (q : Bool → Prop) (f : Bool → R) (st : List Fr)
 | row (rows : List (List Cell)) (i : Nat) (f : List Cell → R) (st : List Fr)
 | byte (s : ByteArray) (i : Nat) (f : UInt8 → R) (st : List Fr)
 | call (g : Bool) (σ : St) (d : Option Tmp) (f : Nat) (avs : List AV) (st : List Fr)
 | raw (g : Bool) (σ : St) (o : Oper) (st : List Fr)
 | loop (b : Code) (st : List Fr) (σ : St)
 | cont (J : St → Prop) (σ : St)
 | draw (id : Nat) (ops : Array Oper) (st : List Fr) (σ : St)
 | both (st st' : List Fr) (σ : St)
 | yes
 | fin (e : Ex) (σ : St)
 | fail
def T.holds (P : Program) (Q : Ex → St → Prop) : T → Prop
 | .go st σ => G P Q st none σ
 | .br t st σ st' σ' => (t = true → G P Q st none σ) ∧ (t = false → G P Q st' none σ')
 | .side p st σ => p ∧ G P Q st none σ
 | .any q f st => ∀ b, q b → (f b).holds P (G P Q st none)
 | .row rows i f st => ∃ row, rows[i]? = some row ∧ (f row).holds P (G P Q st none)
 | .byte s i f st => ∃ b, s[i]? = some b ∧ (f b).holds P (G P Q st none)
 | .call g σ d f avs st => z3q P σ d f avs (G P Q st none) ∨ (g = true ∧ q3p P σ d f avs (G P Q st none))
 | .raw g σ o st => opL g P σ o (G P Q st none)
 | .loop b st σ => vc P (.loop b) (fun e σ => match e with | .normal => G P Q st none σ | .exit i => G P Q st (some i) σ | .ret => Q .ret σ) σ
 | .cont J σ => J σ
 | .draw id ops st σ => vc P (.region id ops true) (fun e σ => match e with | .normal => G P Q st none σ | .exit i => G P Q st (some i) σ | .ret => Q .ret σ) σ
 | .both st st' σ => G P Q st none σ ∧ G P Q st' none σ
 | .yes => True
 | .fin e σ => Q e σ
 | .fail => False
def y7q (i : Nat) : List Fr → Option (List Fr)
 | [] => none
 | .blk j :: st => bif Nat.beq i j then some st else y7q i st
 | _ :: st => y7q i st
def zb1 (σ : St) (d : Option Tmp) : St := match σ, d with
 | ⟨t, b⟩, some d => ⟨(d, .tup []) :: t, b⟩
 | σ, none => σ
def skR (σ : St) (d : Option Tmp) : R := match zb1 σ d with | ⟨t, b⟩ => (match force t with | some t => .ok ⟨t, b⟩ | none => .fail)
theorem y33 {P : Program} {σ : St} {d : Option Tmp} {K : St → Prop} (h : (skR σ d).holds P K) : K (zb1 σ d) := by
 unfold skR at h
 split at h
 rename_i t b e
 split at h
 · rename_i t' ht; rw [force_eq ht] at h; rw [e]; exact h
 · exact h.elim
def y3l (g : Bool) (F : TT) (ops : Array Oper) (o : Oper) (st : List Fr) (σ : St) : T := match o.guard with
    | none => .go (.r (opR g F σ o) :: st) σ
    | some (j, want) => (match nth ops.toList j with
      | some o' => (match o'.dst with
        | some d => (match get σ.t d with
          | some (.one (.b (.s (.bool t)))) => (match want with
            | true => .br t (.op1 g o :: st) (z3b σ (.tmp d) true) (.r (skR (z3b σ (.tmp d) false) o.dst) :: st) ⟨[], []⟩
            | false => .br t (.r (skR (z3b σ (.tmp d) true) o.dst) :: st) ⟨[], []⟩ (.op1 g o :: st) (z3b σ (.tmp d) false))
          | some (.tup []) => .go (.r (skR σ o.dst) :: st) ⟨[], []⟩
          | _ => .fail)
        | none => .fail)
      | none => .fail)
def step (F : TT) : List Fr → St → T
 | [], σ => .fin .normal σ
 | .ops _ [] :: st, σ => .go st σ
 | .ops ops (o :: l) :: st, σ => y3l true F ops o (.ops ops l :: st) σ
 | .op1 g o :: st, σ => .go (.r (opR g F σ o) :: st) σ
 | .r r :: st, σ => (match r with
   | .fail => .fail
   | .ok σ => .go st σ
   | .side p r => .side p (.r r :: st) σ
   | .br t r r' => .br t (.r r :: st) σ (.r r' :: st) σ
   | .any q f => .any q f st
   | .row rows i f => .row rows i f st
   | .byte s i f => .byte s i f st
   | .call g σ d f avs => .call g σ d f avs st
   | .raw g σ o => .raw g σ o st)
 | .code c :: st, σ => (match c with
   | .skip => .go st σ
   | .region id ops draw => (match draw with | true => .draw id ops st σ | false => .go (.ops ops ops.toList :: st) σ)
   | .seq x y => .go (.code x :: .code y :: st) σ
   | .cond c x y => (match ev σ c with
     | some (.one (.b (.s (.bool t)))) => .br t (.code x :: st) (z3b σ c true) (.code y :: st) (z3b σ c false)
     | _ => .fail)
   | .block id b => .go (.code b :: .blk id :: st) σ
   | .loop b => .loop b st σ
   | .exit id => (match y7q id st with | some st => .go st σ | none => .fail)
   | .ret => .fin .ret σ
   | _ => .fail)
 | .blk _ :: st, σ => .go st σ
 | .lp J :: _, σ => .cont J σ
 | .plan ops LC p :: st, σ => (match p with
   | .done => .go st σ
   | .nil => .yes
   | .take i _ p => (match nth ops.toList i with | some o => y3l (LC.contains i) F ops o (.plan ops LC p :: st) σ | none => .fail)
   | .alt i p .nil => (match nth ops.toList i with | some o => y3l (LC.contains i) F ops o (.plan ops LC p :: st) σ | none => .fail)
   | .alt i p q => .both (.plan ops LC (.alt i p .nil) :: st) (.plan ops LC q :: st) σ)
def exec : Nat → TT → List Fr → St → T
 | 0, _, st, σ => .go st σ
 | n + 1, F, st, σ => match step F st σ with
   | .go st σ => exec n F st σ
   | t => t
section
variable {P : Program} {F : TT} {Q : Ex → St → Prop}
theorem y19 {i : Nat} {σ : St} : ∀ {st st' : List Fr}, y7q i st = some st' → G P Q st' none σ → G P Q st (some i) σ
 | [], st', h, _ => by cases h
 | .blk j :: st, st', h, hg => by
   rw [y7q] at h
   rw [G]
   by_cases hij : i = j
   · subst hij; simp only [Nat.beq_refl, cond_true, Option.some.injEq] at h; subst h; rw [if_pos rfl]; exact hg
   · rw [beq_false hij] at h; rw [if_neg hij]; exact y19 h hg
 | .ops _ _ :: st, st', h, hg => y19 (st := st) h hg
 | .op1 _ _ :: st, st', h, hg => y19 (st := st) h hg
 | .r _ :: st, st', h, hg => y19 (st := st) h hg
 | .code _ :: st, st', h, hg => y19 (st := st) h hg
 | .lp _ :: st, st', h, hg => y19 (st := st) h hg
 | .plan _ _ _ :: st, st', h, hg => y19 (st := st) h hg
theorem y4p {g : Bool} (hF : F = F.map P) {ops : Array Oper} {o : Oper} {st : List Fr} {σ : St} (h : (y3l g F ops o st σ).holds P Q) : z3i ops σ o (fun σ => opL g P σ o (G P Q st none)) (fun σ => z5l σ o.dst (G P Q st none)) := by
 simp only [y3l] at h
 unfold z3i
 split at h
 · rename_i hg; rw [hg]; exact z9b hF h
 · rename_i j want hg
   rw [hg]
   dsimp only
   split at h
   · rename_i o' ho'
     rw [z2d, Array.getElem?_toList] at ho'
     split at h
     · rename_i d hd
       rw [ho']
       simp only [Option.bind_some, hd]
       split at h
       · rename_i t ht
         rw [ht]
         dsimp only
         have hsk : ∀ (σ0 : St) (K : St → Prop), K (zb1 σ0 o.dst) → z5l σ0 o.dst K := fun σ0 K hk => by
          unfold z5l
          cases σ0 with
          | mk t0 b0 =>
          cases hdd : o.dst with
          | none => rw [hdd] at hk; exact hk
          | some d0 =>
            rw [hdd] at hk
            exact hk
         cases σ with
         | mk t0 b0 =>
         split at h
         · obtain ⟨h1, h2⟩ := h
           exact ⟨fun hb => by simp only [beq_self_eq_true, if_true]; exact h1 hb, fun hb => by
            have : ¬ ((false == true) = true) := by decide
            dsimp only; rw [if_neg this]; exact hsk _ _ (y33 (h2 hb))⟩
         · obtain ⟨h1, h2⟩ := h
           exact ⟨fun hb => by
            have : ¬ ((true == false) = true) := by decide
            dsimp only; rw [if_neg this]; exact hsk _ _ (y33 (h1 hb)), fun hb => by simp only [beq_self_eq_true, if_true]; exact h2 hb⟩
       · rename_i ht
         rw [ht]
         have h' := y33 (P := P) (K := G P Q st none) h
         unfold z5l
         cases σ with
         | mk t0 b0 =>
         cases hdd : o.dst with
         | none => rw [hdd] at h'; exact h'
         | some d0 => rw [hdd] at h'; exact h'
       · exact h.elim
     · exact h.elim
   · exact h.elim
theorem ya2 (hF : F = F.map P) {st : List Fr} {σ : St} (h : (step F st σ).holds P Q) : G P Q st none σ := by
 cases st with
 | nil => exact h
 | cons f st =>
   cases f with
   | ops ops l =>
     cases l with
     | nil => exact h
     | cons o l =>
       exact y4p (st := .ops ops l :: st) hF h
   | op1 g o => exact z9b hF h
   | r r => cases r <;> exact h
   | code c =>
     cases c with
     | skip => exact h
     | region id ops draw =>
       cases draw with
       | true => exact h
       | false => exact h
     | seq x y =>
       have e : (fun (e : Ex) (σ : St) => match e with | .normal => G P Q (.code y :: st) none σ | .exit i => G P Q (.code y :: st) (some i) σ | .ret => Q .ret σ) =
        (fun e σ => match e with | .normal => vc P y (fun e σ => match e with | .normal => G P Q st none σ | .exit i => G P Q st (some i) σ | .ret => Q .ret σ) σ | .exit i => G P Q st (some i) σ | .ret => Q .ret σ) := by
        funext e σ; cases e <;> rfl
       have h' : vc P x (fun (e : Ex) (σ : St) => match e with | .normal => G P Q (.code y :: st) none σ | .exit i => G P Q (.code y :: st) (some i) σ | .ret => Q .ret σ) σ := h
       rw [e] at h'
       exact .inl h'
     | cond c x y =>
       simp only [step] at h
       simp only [G, vc]
       split at h
       · rename_i t ht; rw [ht]; exact h
       · exact h.elim
     | block id b =>
       have e : (fun (e : Ex) (σ : St) => match e with | .normal => G P Q (.blk id :: st) none σ | .exit i => G P Q (.blk id :: st) (some i) σ | .ret => Q .ret σ) =
        (fun e σ => match e with | .normal => G P Q st none σ | .exit i => if i = id then G P Q st none σ else G P Q st (some i) σ | .ret => Q .ret σ) := by
        funext e σ; cases e <;> rfl
       have h' : vc P b (fun (e : Ex) (σ : St) => match e with | .normal => G P Q (.blk id :: st) none σ | .exit i => G P Q (.blk id :: st) (some i) σ | .ret => Q .ret σ) σ := h
       rw [e] at h'
       exact h'
     | loop b => exact h
     | exit id =>
       simp only [step] at h
       split at h
       · rename_i st' hp; exact y19 hp h
       · exact h.elim
     | ret => exact h
     | _ => exact h.elim
   | blk id => exact h
   | lp J => exact h
   | plan ops LC p =>
     have one : ∀ {i : Nat} {p' : y68}, (match nth ops.toList i with | some o => y3l (LC.contains i) F ops o (.plan ops LC p' :: st) σ | none => .fail).holds P Q → y9w LC P ops i σ (fun σ => z30 LC P ops p' σ (G P Q st none)) := fun {i p'} h => by
      unfold y9w
      split at h
      · rename_i o ho
        rw [z2d, Array.getElem?_toList] at ho
        rw [ho]
        exact y4p (st := .plan ops LC p' :: st) hF h
      · exact h.elim
     cases p with
     | done => exact h
     | nil => trivial
     | take i W p => exact one h
     | alt i p q =>
       cases q with
       | nil => exact ⟨one h, trivial⟩
       | done => exact ⟨h.1.1, h.2⟩
       | take _ _ _ => exact ⟨h.1.1, h.2⟩
       | alt _ _ _ => exact ⟨h.1.1, h.2⟩
theorem q7b (hF : F = F.map P) : ∀ {n : Nat} {st : List Fr} {σ : St}, (exec n F st σ).holds P Q → G P Q st none σ
 | 0, _, _, h => h
 | n + 1, st, σ, h => by
   refine ya2 hF ?_
   rw [exec] at h
   split at h
   · rename_i st' σ' hs; rw [hs]; exact q7b hF h
   · exact h
theorem run (hF : F = F.map P) {n : Nat} {st : List Fr} {σ : St} {t : T} (he : exec n F st σ = t) (h : t.holds P Q) : G P Q st none σ := q7b hF (by rw [he]; exact h)
def y7b : Nat → TT → List Fr → St → T
 | 0, _, st, σ => .go st σ
 | k + 1, F, st, σ => match exec 2000 F st σ with
   | .br t st1 σ1 st2 σ2 => (match t with | true => y7b k F st1 σ1 | false => y7b k F st2 σ2)
   | _ => .fail
theorem q3v (hF : F = F.map P) : ∀ {k : Nat} {st : List Fr} {σ : St}, (y7b k F st σ).holds P Q → G P Q st none σ
 | 0, _, _, h => h
 | k + 1, st, σ, h => by
   rw [y7b] at h
   split at h
   · rename_i t st1 σ1 st2 σ2 he
     refine run hF he ?_
     cases t with
     | true => exact ⟨fun _ => q3v hF h, nofun⟩
     | false => exact ⟨nofun, fun _ => q3v hF h⟩
   · exact h.elim
def QR (P : Program) (fn : Func) (res : Res) (e : Ex) (σ : St) : Prop := match e with | .exit _ => False | _ => qa6 P fn res σ
theorem PC.begin {f : Nat} {fn : Func} {c : Code} {args : List SV} {res : Res} (hf : P.funcs[f]? = some fn) (hb : fn.body = some c) (hok : (okF P f && z18 fn.ntmps c && Nat.ble args.length fn.ntmps) = true)
 (h : G P (QR P fn res) [.code c] none ⟨z9h 0 args, []⟩) : PC P f args res := by
 refine PC.intro hf hb hok ?_
 have e : (fun (e : Ex) (σ : St) => match e with | .normal => G P (QR P fn res) [] none σ | .exit i => G P (QR P fn res) [] (some i) σ | .ret => QR P fn res .ret σ) =
  (fun e σ => match e with | .exit _ => False | _ => qa6 P fn res σ) := by
  funext e σ; cases e <;> rfl
 have h' : vc P c (fun (e : Ex) (σ : St) => match e with | .normal => G P (QR P fn res) [] none σ | .exit i => G P (QR P fn res) [] (some i) σ | .ret => QR P fn res .ret σ) ⟨z9h 0 args, []⟩ := h
 rw [e] at h'
 exact h'
end
end Go.Sx
end
section
namespace Go.Sx
class yk (P : Program) where
 F : TT
 ok : F = F.map P
 mix : P.follows .mixedOrders = true
def q6y (σ : St) (d : Option Tmp) (res : Res) : R := match d with
 | some d => (match σ with | ⟨t, b⟩ => bR ((d, q7s (nameOf d) res) :: t) (y1a (nameOf d) res ++ b))
 | none => .ok σ
def q1g : AC → Bool
 | .b _ => true
 | .nil => true
 | .em => true
 | _ => false
def q1p : List AV → Bool
 | [] => true
 | .one c :: l => bif q1g c then q1p l else false
 | .agg cs :: l => bif cs.all q1g then q1p l else false
 | _ => false
def q3h (B : List (Nat × AB)) : List (Nat × AB) → Bool
 | [] => true
 | (β, _) :: l => match get B β with | none => q3h B l | some _ => false
theorem y34 {c : AC} (h : q1g c = true) : z34 c := by cases c <;> first | trivial | cases h
theorem y28 : ∀ {avs : List AV}, q1p avs = true → q94 q5m avs
 | [], _ => trivial
 | .one c :: l, h => by
   rw [q1p] at h
   cases hc : q1g c with
   | false => rw [hc] at h; cases h
   | true => rw [hc] at h; exact ⟨y34 hc, y28 h⟩
 | .agg cs :: l, h => by
   rw [q1p] at h
   cases hc : cs.all q1g with
   | false => rw [hc] at h; cases h
   | true =>
     rw [hc] at h
     have : ∀ cs : List AC, cs.all q1g = true → z6z z34 cs := by
      intro cs
      induction cs with
      | nil => intro _; trivial
      | cons c cs ih => intro h; simp only [List.all_cons, Bool.and_eq_true] at h; exact ⟨y34 h.1, ih h.2⟩
     exact ⟨this cs hc, y28 h⟩
 | .tup _ :: l, h => by cases h
theorem y1t {B : List (Nat × AB)} : ∀ {l : List (Nat × AB)}, q3h B l = true → y07 B l
 | [], _ => trivial
 | (β, _) :: l, h => by
   rw [q3h] at h
   split at h
   · rename_i hn; exact ⟨hn, y1t h⟩
   · cases h
def y96 (σ : St) (d : Option Tmp) (avs : List AV) (res : Res) : Bool := bif q10 res then (bif y3i res then (bif q1p avs then q3h σ.b (y1a (nameOf (d.getD 0)) res) else false) else q3h σ.b (y1a (nameOf (d.getD 0)) res)) else false
section
variable {P : Program} [yk P] {Q : Ex → St → Prop} {st st1 st2 : List Fr} {σ σ1 σ2 : St}
theorem xb {t : Bool} (h : exec 2000 (yk.F P) st σ = .br t st1 σ1 st2 σ2) (h1 : t = true → G P Q st1 none σ1) (h2 : t = false → G P Q st2 none σ2) : G P Q st none σ := run yk.ok h ⟨h1, h2⟩
theorem xf (h : exec 2000 (yk.F P) st σ = .br false st1 σ1 st2 σ2) (h1 : G P Q st2 none σ2) : G P Q st none σ := run yk.ok h ⟨nofun, fun _ => h1⟩
theorem xj {k : Nat} (h : y7b k (yk.F P) st σ = .go st1 σ1) (h1 : G P Q st1 none σ1) : G P Q st none σ := q3v yk.ok (by rw [h]; exact h1)
theorem xr {e : Ex} (h : exec 2000 (yk.F P) st σ = .fin e σ1) (h1 : Q e σ1) : G P Q st none σ := run yk.ok h h1
theorem xs {p : Prop} (h : exec 2000 (yk.F P) st σ = .side p st1 σ1) (h1 : p) (h2 : G P Q st1 none σ1) : G P Q st none σ := run yk.ok h ⟨h1, h2⟩
theorem zbq {q : Bool → Prop} {f : Bool → R} (h : exec 2000 (yk.F P) st σ = .any q f st1) (h1 : ∀ b, q b → G P Q (.r (f b) :: st1) none ⟨[], []⟩) : G P Q st none σ := run yk.ok h h1
theorem q9 {rows : List (List Cell)} {i : Nat} {f : List Cell → R} (h : exec 2000 (yk.F P) st σ = .row rows i f st1) (row : List Cell) (hr : rows[i]? = some row) (h1 : G P Q (.r (f row) :: st1) none ⟨[], []⟩) : G P Q st none σ := run yk.ok h ⟨row, hr, h1⟩
theorem z92 {g : Bool} {o : Oper} (h : exec 2000 (yk.F P) st σ = .raw g σ1 o st1) (h1 : opL g P σ1 o (G P Q st1 none)) : G P Q st none σ := run yk.ok h h1
theorem q8 {J : St → Prop} (h : exec 2000 (yk.F P) st σ = .cont J σ1) (h1 : J σ1) : G P Q st none σ := run yk.ok h h1
theorem q0c (h : exec 2000 (yk.F P) st σ = .both st1 st2 σ1) (h1 : G P Q st1 none σ1) (h2 : G P Q st2 none σ1) : G P Q st none σ := run yk.ok h ⟨h1, h2⟩
def q98 (ops : Array Oper) (LC : List Nat) (p : y68) : Bool := Region.noSelect ops && (q2b .any ops (Array.replicate ops.size false) p && z19 LC .any ops p ops.size (Array.replicate ops.size false))
theorem ya {id : Nat} {ops : Array Oper} (h : exec 2000 (yk.F P) st σ = .draw id ops st1 σ1) (LC : List Nat) (p : y68) (hp : q98 ops LC p = true) (h1 : G P Q (.plan ops LC p :: st1) none σ1) : G P Q st none σ := by
 simp only [q98, Bool.and_eq_true] at hp
 exact run yk.ok h ⟨yk.mix, hp.1, LC, p, hp.2.1, hp.2.2, h1⟩
theorem z1 {g : Bool} {d : Option Tmp} {f : Nat} {avs : List AV} {res : Res} (h : exec 2000 (yk.F P) st σ = .call g σ1 d f avs st1) (hpc : PC P f (avs.map (y8z σ1.b)) res) (hok : y96 σ1 d avs res = true) (hw : q94 (wfV σ1.b) avs) (h1 : G P Q (.r (q6y σ1 d res) :: st1) none ⟨[], []⟩) : G P Q st none σ := by
 refine run yk.ok h (.inl ⟨res, hpc, ?_⟩)
 unfold y96 at hok
 cases h2 : q10 res with
 | false => rw [h2] at hok; cases hok
 | true =>
   rw [h2] at hok
   have hK : G P Q st1 none (q2n σ1 d res) := by
    have h1 : (q6y σ1 d res).holds P (G P Q st1 none) := h1
    unfold q6y at h1
    unfold q2n
    cases d with
    | none => exact h1
    | some d => cases σ1; exact qx h1
   cases h3 : y3i res with
   | true =>
     rw [h3] at hok
     cases h4 : q1p avs with
     | false => rw [h4] at hok; cases hok
     | true => rw [h4] at hok; exact ⟨rfl, hw, fun _ => y28 h4, y1t hok, hK⟩
   | false => rw [h3] at hok; exact ⟨rfl, hw, nofun, y1t hok, hK⟩
def z6y (σ : St) (d : Option Tmp) (res : Res) (T : List (Nat × AB)) : R := match σ, d with
 | ⟨t, b⟩, some d => bR ((d, q7s (nameOf d) res) :: t) ((y1a (nameOf d) res ++ T) ++ b)
 | ⟨t, b⟩, none => bR t (([] ++ T) ++ b)
def y99 (σ : St) (d : Option Tmp) (avs : List AV) (args : List GA) (res : Res) : Bool := bif q10 res then (bif z9w ((z0u 0 (acs avs) (gcs args)).map (·.2.1)) then q3h σ.b (y1a (nameOf (d.getD 0)) res) else false) else false
theorem z86 {d : Option Tmp} {f : Nat} {avs : List AV} {args : List GA} {res : Res} {back : List (Nat × List (List Cell))} (h : exec 2000 (yk.F P) st σ = .call true σ1 d f avs st1) (hpc : PG P f args res back) (hm : mAs σ1.b avs args) (hok : y99 σ1 d avs args res = true)
 (h1 : G P Q (.r (z6y σ1 d res (y1c σ1.b back (z0u 0 (acs avs) (gcs args)))) :: st1) none ⟨[], []⟩) : G P Q st none σ := by
 unfold y99 at hok
 cases h2 : q10 res with
 | false => rw [h2] at hok; cases hok
 | true =>
   rw [h2] at hok
   cases h3 : z9w ((z0u 0 (acs avs) (gcs args)).map (·.2.1)) with
   | false => rw [h3] at hok; cases hok
   | true =>
     rw [h3] at hok
     refine run yk.ok h (.inr ⟨rfl, .inl ⟨args, res, back, hpc, h2, hm, z6 h3, y1t hok, ?_⟩⟩)
     have h1 : (z6y σ1 d res (y1c σ1.b back (z0u 0 (acs avs) (gcs args)))).holds P (G P Q st1 none) := h1
     cases σ1
     cases d with
     | none => exact qx h1
     | some d => exact qx h1
theorem yar {b : Code} (h : exec 2000 (yk.F P) st σ = .loop b st1 σ1) {ι : Type} (pre : ι → Prop) (inv : ι → St) (m : ι → Nat) (i0 : ι) (h0 : pre i0) (hw : Wk σ1 (inv i0))
 (hs : ∀ i, pre i → ∀ J : St → Prop, (∀ σ' i', pre i' → m i' < m i → Wk σ' (inv i') → J σ') → G P Q (.code b :: .lp J :: st1) none (inv i)) : G P Q st none σ := by
 refine run yk.ok h ⟨ι, pre, inv, m, ⟨i0, h0, hw⟩, fun i hi => ?_⟩
 have h2 := hs i hi (fun σ => ∃ i', pre i' ∧ m i' < m i ∧ Wk σ (inv i')) (fun σ' i' h1 h2 h3 => ⟨i', h1, h2, h3⟩)
 have e : (fun (e : Ex) (σ : St) => match e with | .normal => G P Q (.lp (fun σ => ∃ i', pre i' ∧ m i' < m i ∧ Wk σ (inv i')) :: st1) none σ | .exit i' => G P Q (.lp (fun σ => ∃ i', pre i' ∧ m i' < m i ∧ Wk σ (inv i')) :: st1) (some i') σ | .ret => Q .ret σ) =
  (fun e σ => match e with | .normal => ∃ i', pre i' ∧ m i' < m i ∧ Wk σ (inv i') | .exit j => G P Q st1 (some j) σ | .ret => Q .ret σ) := by
  funext e σ; cases e <;> rfl
 have h3 : vc P b (fun (e : Ex) (σ : St) => match e with | .normal => G P Q (.lp (fun σ => ∃ i', pre i' ∧ m i' < m i ∧ Wk σ (inv i')) :: st1) none σ | .exit i' => G P Q (.lp (fun σ => ∃ i', pre i' ∧ m i' < m i ∧ Wk σ (inv i')) :: st1) (some i') σ | .ret => Q .ret σ) (inv i) := h2
 rw [e] at h3
 exact h3
theorem yc {b : Code} (h : exec 2000 (yk.F P) st σ = .loop b st1 σ1) {ι : Type} (pre : ι → Prop) (inv : ι → St) (m : ι → Nat) (i0 : ι) (h0 : pre i0) (hw : Wk0 σ1 (inv i0))
 (hs : ∀ i, pre i → ∀ J : St → Prop, (∀ σ' i', pre i' → m i' < m i → Wk0 σ' (inv i') → J σ') → G P Q (.code b :: .lp J :: st1) none (inv i)) : G P Q st none σ :=
 yar h pre inv m i0 h0 (.of hw) (fun i hi J hJ => hs i hi J (fun σ' i' h1 h2 h3 => hJ σ' i' h1 h2 (.of h3)))
theorem zba {n : Nat} {x y : Code} (h : exec n (yk.F P) st σ = .go (.code (.seq x y) :: st1) σ1) {ι : Type} (pre : ι → Prop) (inv : ι → St)
 (h1 : ∀ K : St → Prop, (∀ σ' i, pre i → Wk0 σ' (inv i) → K σ') → G P Q (.code x :: .lp K :: st1) none σ1) (h2 : ∀ i, pre i → G P Q (.code y :: st1) none (inv i)) : G P Q st none σ := by
 refine run yk.ok h ?_
 show G P Q (.code (.seq x y) :: st1) none σ1
 refine .inr ⟨ι, pre, inv, ?_, h2⟩
 have h3 := h1 (fun σ' => ∃ i, pre i ∧ Wk σ' (inv i)) (fun σ' i hp hw => ⟨i, hp, .of hw⟩)
 have e : (fun (e : Ex) (σ : St) => match e with | .normal => G P Q (.lp (fun σ => ∃ i', pre i' ∧ Wk σ (inv i')) :: st1) none σ | .exit i' => G P Q (.lp (fun σ => ∃ i', pre i' ∧ Wk σ (inv i')) :: st1) (some i') σ | .ret => Q .ret σ) =
  (fun e σ => match e with | .normal => ∃ i', pre i' ∧ Wk σ (inv i') | .exit j => G P Q st1 (some j) σ | .ret => Q .ret σ) := by
  funext e σ; cases e <;> rfl
 have h4 : vc P x (fun (e : Ex) (σ : St) => match e with | .normal => G P Q (.lp (fun σ => ∃ i', pre i' ∧ Wk σ (inv i')) :: st1) none σ | .exit i' => G P Q (.lp (fun σ => ∃ i', pre i' ∧ Wk σ (inv i')) :: st1) (some i') σ | .ret => Q .ret σ) σ1 := h3
 rw [e] at h4
 exact h4
omit [yk P] in
theorem yl {fn : Func} {res : Res} {e : Ex} (he : (match e with | .exit _ => false | _ => true) = true) (h : qa6 P fn res σ) : QR P fn res e σ := by
 cases e with
 | exit i => cases he
 | _ => exact h
end
def qbe (fn : Func) (σ : St) : Option Value := match fn.results.toList with
 | [.tmp t] => (match get σ.t t with | some (.one (.b (.s v))) => some v | _ => none)
 | _ => none
def zb3 : Ex → Bool
 | .exit _ => false
 | _ => true
theorem xv {P : Program} [yk P] {fn : Func} {st : List Fr} {σ σ1 : St} {e : Ex} {v v' : Value} (h : exec 2000 (yk.F P) st σ = .fin e σ1) (he : zb3 e = true) (ho : qbe fn σ1 = some v) (hv : v = v') : G P (QR P fn (.one (.own false [.s v']))) st none σ := by
 subst hv
 refine xr h (yl (by cases e <;> first | rfl | cases he) ?_)
 unfold qbe at ho
 split at ho
 case h_2 => cases ho
 rename_i t ht
 split at ho
 case h_2 => cases ho
 rename_i u hu
 cases ho
 unfold qa6 z8t
 rw [ht]
 show ya6 P σ1 (.tmp t) _
 unfold ya6
 dsimp only
 rw [hu]
 exact ⟨⟨rfl, rfl, trivial⟩, z6 rfl⟩
theorem wrap_i64 {n : Int} (h : -9223372036854775808 ≤ n) (h2 : n ≤ 9223372036854775807) : IntKind.i64.wrap n = n := by
 have e : IntKind.i64.wrap n = if n % 18446744073709551616 ≥ 9223372036854775808 then n % 18446744073709551616 - 18446744073709551616 else n % 18446744073709551616 := by
  simp [IntKind.wrap, IntKind.signed, IntKind.bits]
 rw [e]
 split <;> omega
theorem ym {α : Type} (xs : List α) (z : α) (i n : Nat) (h : i < xs.length) (hn : n = xs.length) : (xs.take i ++ List.replicate (n - i) z)[i]? = some z := by
 subst hn
 have e1 : (xs.take i).length = i := by simp; omega
 rw [List.getElem?_append_right (by omega), List.getElem?_replicate, e1, if_pos (by omega)]
theorem y02 {α : Type} (xs : List α) (z x : α) (i n : Nat) (h : xs[i]? = some x) (hn : n = xs.length) : (xs.take i ++ List.replicate (n - i) z).set i x = xs.take (i + 1) ++ List.replicate (n - (i + 1)) z := by
 subst hn
 obtain ⟨hi, rfl⟩ := List.getElem?_eq_some_iff.1 h
 apply List.ext_getElem?
 intro j
 rw [List.getElem?_set]
 by_cases hj : i = j
 · subst hj
   rw [if_pos rfl]
   have : i < (xs.take i ++ List.replicate (xs.length - i) z).length := by simp; omega
   rw [if_pos this, List.getElem?_append_left (by simp; omega), List.getElem?_take, if_pos (by omega)]
   simp
 · rw [if_neg hj]
   by_cases h1 : j < i
   · rw [List.getElem?_append_left (by simp; omega), List.getElem?_append_left (by simp; omega), List.getElem?_take, List.getElem?_take, if_pos h1, if_pos (by omega)]
   · rw [List.getElem?_append_right (by simp; omega), List.getElem?_append_right (by simp; omega), List.getElem?_replicate, List.getElem?_replicate]
     have e1 : (xs.take i).length = i := by simp; omega
     have e2 : (xs.take (i + 1)).length = i + 1 := by simp; omega
     rw [e1, e2]
     by_cases h3 : j < xs.length
     · rw [if_pos (by omega), if_pos (by omega)]
     · rw [if_neg (by omega), if_neg (by omega)]
theorem ye {α : Type} (xs : List α) (z : α) (i n : Nat) (h : i ≤ xs.length) (hn : n = xs.length) : (xs.take i ++ List.replicate (n - i) z).length = n := by
 subst hn; simp; omega
theorem q01 {α : Type} (xs : List α) (z : α) (n : Nat) (hn : n = xs.length) : xs.take n ++ List.replicate (n - n) z = xs := by
 subst hn; simp
end Go.Sx
end
section
namespace Go.Sx
open Go.RowKit Go.ChangeShapes Go.WideShapes Go.Deep
def q68 (w : World) (cells : List Cell) (cs : List Value) : Prop := cs.length = cells.length ∧ ∀ (k : Nat) (c : Cell) (u : Value), cells[k]? = some c → cs[k]? = some u → Rep w (fun _ => True) c u
structure q39 (P : Program) (t : TypeId) {α : Type} (sz : Nat) (f : α → List Cell) (G : α → Prop) : Prop where
 hsz : P.cellsOf t = sz
 len : ∀ a, (f a).length = sz
 get : ∀ {H : Type} (enc : TypeId × Value → H) (w : World) (base : Nat) (spare : Nat → Bool) (held : Bool) (fuel : Nat) (cs : List Value) (x : DataW H × List MemPlace), DataW.trod enc P w base spare held fuel t cs = some x → ∃ a, q68 w (f a) cs ∧ G a
section
variable {P : Program} {α β : Type} {t e : TypeId}
theorem q68.one {w : World} {c : Cell} {u : Value} (h : Rep w (fun _ => True) c u) : q68 w [c] [u] := ⟨rfl, fun k c' u' h1 h2 => by
 cases k with
 | zero => cases h1; cases h2; exact h
 | succ k => simp at h1⟩
theorem q7o {k : IntKind} (ht : P.underlying t = some (.int k)) (hc : P.cellsOf t = 1) : q39 P t 1 (fun n : Int => [.s (.int k n)]) (fun n => (Lit.int k n).wf = true) :=
 ⟨hc, fun _ => rfl, fun enc w base spare held fuel cs x h => by obtain ⟨n, rfl, _, hw⟩ := DataW.trod_int ht h; exact ⟨n, .one (.s _ rfl), hw⟩⟩
theorem z7p {sz : Nat} {f : α → List Cell} {G : α → Prop} (ht : P.underlying t = some (.slice e)) (he : q39 P e sz f G)
 {H : Type} (enc : TypeId × Value → H) (w : World) (base : Nat) (spare : Nat → Bool) (held : Bool) (fuel : Nat) (cs : List Value) (x : DataW H × List MemPlace) (h : DataW.trod enc P w base spare held fuel t cs = some x) :
 ∃ (l : List α) (v : Value), cs = [v] ∧ Rep w (fun _ => True) (.l (l.map f)) v ∧ (l.length ≤ maxLen ∧ ∀ a ∈ l, G a) := by
 classical
 rcases open_slice ht h with ⟨rfl, _⟩ | ⟨a, len, cap, m, n, D, Pl, rfl, hb, hl, hm, hmm, rfl, hx⟩
 · exact ⟨[], _, rfl, .l 0 [] none 0 (fun _ _ => undef) (by simp) (Nat.le_refl _) (fun _ => rfl) (fun j k hj => by simp at hj) (fun j k row c h1 => by simp at h1), by simp, fun a ha => by cases ha⟩
 · have hlm : len ≤ m := by rw [hmm]; split <;> omega
   have hall : ∀ i, i < len → ∃ b cs', cs'.length = sz ∧ q68 w (f b) cs' ∧ G b ∧ ∀ j, j < sz → w.cell? ((a.add (i * sz)).add j) = cs'[j]? := fun i hi => by
    obtain ⟨cs', h1, h2⟩ := hx i (by omega)
    obtain ⟨b, hK, hg⟩ := he.get enc w base spare held n cs' _ h2
    rw [he.hsz] at h1
    obtain ⟨_, hlen, hcell⟩ := World.cells?_some h1
    exact ⟨b, cs', hlen, hK, hg, hcell⟩
   have key : ∀ k, k ≤ len → ∃ l : List α, l.length = k ∧ (∀ j p, l[j]? = some p → ∃ c, c.length = sz ∧ q68 w (f p) c ∧ ∀ i u, c[i]? = some u → w.cell? (a.add (j * sz + i)) = some u) ∧ ∀ a ∈ l, G a := by
    intro k
    induction k with
    | zero => exact fun _ => ⟨[], rfl, fun j p hj => by simp at hj, fun a ha => by cases ha⟩
    | succ k ih =>
      intro hk
      obtain ⟨l, hl, hc, hG⟩ := ih (by omega)
      obtain ⟨b, c, hs, hK, hg, hcell⟩ := hall k (by omega)
      refine ⟨l ++ [b], by simp [hl], fun j p hj => ?_, fun b' hb' => ?_⟩
      · rcases Nat.lt_or_ge j l.length with hjl | hjl
        · rw [List.getElem?_append_left hjl] at hj
          exact hc j p hj
        · have hj' : j = l.length := by
           have := (List.getElem?_eq_some_iff.1 hj).1
           rw [List.length_append, List.length_singleton] at this
           omega
          subst hj'
          have hp : b = p := by simpa using hj
          subst hp
          refine ⟨c, hs, hK, fun i u hu => ?_⟩
          have hi : i < sz := by rw [← hs]; exact (List.getElem?_eq_some_iff.1 hu).1
          have := hcell i hi
          rw [Go.Deep.add_add, ← hl] at this
          rw [this, hu]
      · rcases List.mem_append.1 hb' with hb' | hb'
        · exact hG b' hb'
        · rw [List.mem_singleton.1 hb']; exact hg
   obtain ⟨l, hl', hc, hG⟩ := key len (Nat.le_refl _)
   subst hl'
   have hch : ∀ j : Nat, ∃ c : List Value, ∀ p, l[j]? = some p → c.length = sz ∧ q68 w (f p) c ∧ ∀ i u, c[i]? = some u → w.cell? (a.add (j * sz + i)) = some u := fun j => by
    cases hj : l[j]? with
    | none => exact ⟨[], fun p h => by cases h⟩
    | some p =>
      obtain ⟨c, h1, h2, h3⟩ := hc j p hj
      exact ⟨c, fun p' h => by cases h; exact ⟨h1, h2, h3⟩⟩
   have hch2 : ∃ c : Nat → List Value, ∀ j p, l[j]? = some p → (c j).length = sz ∧ q68 w (f p) (c j) ∧ ∀ i u, (c j)[i]? = some u → w.cell? (a.add (j * sz + i)) = some u := ⟨fun j => Classical.choose (hch j), fun j => Classical.choose_spec (hch j)⟩
   obtain ⟨c, hc⟩ := hch2
   have hlr : (l.map f).length = l.length := by simp
   refine ⟨l, _, rfl, ?_, by omega, hG⟩
   rw [show (Value.slice (some a) l.length cap) = .slice (some a) (l.map f).length cap by rw [hlr]]
   refine .l sz (l.map f) (some a) cap (fun j k => ((c j)[k]?).getD undef) (fun row hr => ?_) (by rw [hlr]; exact hl) (fun h => by cases h) (fun j k hj hk => ?_) (fun j k row c' h1 h2 => ?_)
   · obtain ⟨p, _, rfl⟩ := List.mem_map.1 hr; exact he.len p
   · rw [hlr] at hj
     obtain ⟨h1, _, h3⟩ := hc j _ (List.getElem?_eq_getElem hj)
     refine ⟨a, rfl, trivial, ?_⟩
     have hlt : k < (c j).length := by omega
     rw [h3 k _ (List.getElem?_eq_getElem hlt), List.getElem?_eq_getElem hlt]; rfl
   · rw [List.getElem?_map] at h1
     cases hj : l[j]? with
     | none => rw [hj] at h1; cases h1
     | some p =>
       rw [hj] at h1
       cases h1
       obtain ⟨h4, h5, _⟩ := hc j p hj
       have hk : k < (c j).length := by rw [h4, ← he.len p]; exact (List.getElem?_eq_some_iff.1 h2).1
       refine h5.2 k c' _ h2 ?_
       rw [List.getElem?_eq_getElem hk]; rfl
inductive Laid (P : Program) : Nat → List Field → Prop
 | nil (o : Nat) : Laid P o []
 | cons {o : Nat} {f : Field} {fs : List Field} : f.offset = o → Laid P (o + P.cellsOf f.type) fs → Laid P o (f :: fs)
def q4b (P : Program) (fs : List Field) {α : Type} (sz : Nat) (f : α → List Cell) (G : α → Prop) : Prop :=
 (∀ a, (f a).length = sz) ∧ ∀ {H : Type} (enc : TypeId × Value → H) (w : World) (base : Nat) (spare : Nat → Bool) (held : Bool) (fuel : Nat) (cs : List Value), cs.length = sz →
   (∀ (i : Nat) (f : Field), fs[i]? = some f → ∃ x, DataW.trod enc P w base spare held fuel f.type ((cs.drop (((fs.take i).map fun g => P.cellsOf g.type).sum)).take (P.cellsOf f.type)) = some x) →
   ∃ a, q68 w (f a) cs ∧ G a
theorem q68.append {w : World} {xs ys : List Cell} {us vs : List Value} (h : q68 w xs us) (k : q68 w ys vs) : q68 w (xs ++ ys) (us ++ vs) := by
 refine ⟨by simp [h.1, k.1], fun i c u h1 h2 => ?_⟩
 rw [List.getElem?_append] at h1 h2
 rw [h.1] at h2
 by_cases hi : i < xs.length
 · rw [if_pos hi] at h1 h2; exact h.2 i c u h1 h2
 · rw [if_neg hi] at h1 h2; exact k.2 _ c u h1 h2
theorem q6m {fd : Field} {sz : Nat} {f : α → List Cell} {G : α → Prop} (h : q39 P fd.type sz f G) : q4b P [fd] sz f G := by
 refine ⟨h.len, fun enc w base spare held fuel cs hl hx => ?_⟩
 obtain ⟨x, hx⟩ := hx 0 fd rfl
 simp only [List.take_zero, List.map_nil, List.sum_nil, List.drop_zero] at hx
 rw [h.hsz, ← hl, List.take_length] at hx
 exact h.get enc w base spare held fuel cs x hx
theorem q5f {fd : Field} {fs : List Field} {sz sz' : Nat} {f : α → List Cell} {f' : β → List Cell} {G : α → Prop} {G' : β → Prop} (h : q39 P fd.type sz f G) (h' : q4b P fs sz' f' G') : q4b P (fd :: fs) (sz + sz') (fun x : α × β => f x.1 ++ f' x.2) (fun x => G x.1 ∧ G' x.2) := by
 refine ⟨fun a => by simp [h.len, h'.1], fun enc w base spare held fuel cs hl hx => ?_⟩
 obtain ⟨x, hx0⟩ := hx 0 fd rfl
 simp only [List.take_zero, List.map_nil, List.sum_nil, List.drop_zero] at hx0
 rw [h.hsz] at hx0
 obtain ⟨a, hK, hG⟩ := h.get enc w base spare held fuel _ x hx0
 obtain ⟨b, hK', hG'⟩ := h'.2 enc w base spare held fuel (cs.drop sz) (by rw [List.length_drop]; omega) (fun i g hi => by
  obtain ⟨y, hy⟩ := hx (i + 1) g (by simpa using hi)
  refine ⟨y, ?_⟩
  rw [List.drop_drop]
  simpa [h.hsz] using hy)
 refine ⟨(a, b), ?_, hG, hG'⟩
 have := hK.append hK'
 rwa [List.take_append_drop] at this
theorem z2x : ∀ {fs : List Field} {o : Nat}, Laid P o fs → ∀ (i : Nat) (f : Field), fs[i]? = some f → f.offset = o + ((fs.take i).map fun g => P.cellsOf g.type).sum
 | [], _, _, i, f, h => by simp at h
 | g :: fs, o, .cons h1 h2, 0, f, h => by
   have : g = f := by simpa using h
   subst this
   simp [h1]
 | g :: fs, o, .cons h1 h2, i + 1, f, h => by
   rw [z2x h2 i f (by simpa using h)]
   simp [Nat.add_assoc]
theorem z4q {fs : List Field} {sz : Nat} {f : α → List Cell} {G : α → Prop} {f' : β → List Cell} {G' : β → Prop} (g : α → β) (hfg : ∀ a, f' (g a) = f a) (hG : ∀ a, G a → G' (g a)) (hlen : ∀ b, (f' b).length = sz) (ht : P.underlying t = some (.struct fs.toArray)) (hc : P.cellsOf t = sz) (hL : Laid P 0 fs) (hF : q4b P fs sz f G) :
 q39 P t sz f' G' :=
 ⟨hc, hlen, fun enc w base spare held fuel cs x h => by
   obtain ⟨xs, n, rfl, _, hl, hxs, hf⟩ := DataW.trod_struct ht h
   obtain ⟨a, hK, hg⟩ := hF.2 enc w base spare held n cs (by rw [hl, hc]) (fun i f hi => by
    have hoff := z2x hL i f hi
    rw [Nat.zero_add] at hoff
    have h1 := hf i f (by simpa using hi)
    rw [hoff] at h1
    have hi' : i < xs.length := by
     rw [hxs]
     have := (List.getElem?_eq_some_iff.1 hi).1
     simpa using this
    exact ⟨xs[i], by rw [h1, List.getElem?_eq_getElem hi']⟩)
   exact ⟨g a, by rw [hfg]; exact hK, hG a hg⟩⟩
theorem z5g {sz : Nat} {f : α → List Cell} {G : α → Prop} (ht : P.underlying t = some (.slice e)) (hc : P.cellsOf t = 1) (he : q39 P e sz f G) : q39 P t 1 (fun l : List α => [.l (l.map f)]) (fun l => l.length ≤ maxLen ∧ ∀ a ∈ l, G a) :=
 ⟨hc, fun _ => rfl, fun enc w base spare held fuel cs x h => by
   obtain ⟨l, v, rfl, hr, hG⟩ := z7p ht he enc w base spare held fuel cs x h
   exact ⟨l, .one hr, hG⟩⟩
theorem y6a {fs : Array Field} {sz : Nat} {f : α → List Cell} {G : α → Prop} (ht : P.underlying t = some (.struct fs)) (he : q39 P t sz f G) {H : Type} {enc : TypeId × Value → H} {w : World} {r : Reach} {b : Nat} {v : Value} {dd : DataW H} {ps : List MemPlace}
 (hv : Value.okWide P w r b t v) (h : DataW.Trod enc P w 0 (fun _ => true) true t v dd ps) : ∃ a : α, q89 w (fun _ => True) (.agg (f a)) v ∧ G a := by
 obtain ⟨cs, rfl, _⟩ := okWide_struct ht hv
 obtain ⟨fuel, hf⟩ := h
 obtain ⟨a, hK, hG⟩ := he.get enc w 0 _ true fuel _ _ hf
 have hK' : q68 w (f a) cs.toList := by simpa [Value.cells] using hK
 exact ⟨a, ⟨cs, rfl, by simpa using hK'.1, fun k c u hc hu => hK'.2 k c u hc (by simpa using hu)⟩, hG⟩
end
end Go.Sx
end
section
namespace Go.Sx
open Go.RowKit (Below)
theorem PC.law {P : Program} {f : Nat} {args : List SV} {b : Bool} (h : PC P f args (.one (.own false [.s (.bool b)]))) {w : World} {vals : Array Value} (ha : y4b w (fun _ => True) vals args) :
 Calls P f vals w fun e w' => e = .returned (.bool b) ∧ Below w.heap.size w w' := by
 refine (h.2 _ w vals ha).mono ?_
 rintro e w' ⟨v, S, rfl, hk, ⟨arr, F, h1, h2, _, _, h5⟩, _⟩
 have h1' : arr = #[v] := h1
 subst h1'
 obtain ⟨rfl, _⟩ := h5 0 _ v rfl rfl
 exact ⟨rfl, hk.below⟩
theorem y4b.two {w : World} {N : Nat → Prop} {sv sv' : SV} {v v' : Value} (h : q89 w N sv v) (h' : q89 w N sv' v') : y4b w N #[v, v'] [sv, sv'] := ⟨rfl, fun i s u h1 h2 => by
 cases i with
 | zero => cases h1; cases h2; exact h
 | succ i =>
   cases i with
   | zero => cases h1; cases h2; exact h'
   | succ i => simp at h1⟩
end Go.Sx
end
section
namespace Go.Sx
inductive Sh where
 | nil
 | i (k : IntKind) (r : Sh)
 | b (r : Sh)
 | l (e : Sh) (r : Sh)
inductive WT (N : Nat) : Sh → List Cell → Prop
 | nil : WT N .nil []
 | i {k : IntKind} {r : Sh} {cs : List Cell} (n : Int) : WT N r cs → WT N (.i k r) (.s (.int k n) :: cs)
 | b {r : Sh} {cs : List Cell} (x : Bool) : WT N r cs → WT N (.b r) (.s (.bool x) :: cs)
 | l {e r : Sh} {cs : List Cell} (rows : List (List Cell)) : rows.length ≤ N → (∀ row ∈ rows, WT N e row) → WT N r cs → WT N (.l e r) (.l rows :: cs)
def WR (N : Nat) (e : Sh) (rows : List (List Cell)) : Prop := rows.length ≤ N ∧ ∀ row ∈ rows, WT N e row
def nx (k : Int) : Int := IntKind.i64.wrap (k + 1)
def mkv : IntKind → Int → Int
 | .i64, k => k
 | t, k => t.wrap k
def mkR (f : List Cell → Int → List Cell × Int) : List (List Cell) → Int → List (List Cell) × Int
 | [], k => ([], k)
 | row :: rows, k => ((f row k).1 :: (mkR f rows (f row k).2).1, (mkR f rows (f row k).2).2)
def mk : Sh → List Cell → Int → List Cell × Int
 | .nil, cs, k => (cs, k)
 | .i t r, _ :: cs, k => (.s (.int t (mkv t k)) :: (mk r cs (nx k)).1, (mk r cs (nx k)).2)
 | .b r, _ :: cs, k => (.s (.bool (k.tmod 3 == 0)) :: (mk r cs (nx k)).1, (mk r cs (nx k)).2)
 | .l e r, .l rows :: cs, k => (.l (mkR (mk e) rows k).1 :: (mk r cs (mkR (mk e) rows k).2).1, (mk r cs (mkR (mk e) rows k).2).2)
 | _, cs, k => (cs, k)
def hdR (f : List Cell → Int → Option Int) : List (List Cell) → Int → Option Int
 | [], k => some k
 | row :: rows, k => (f row k).bind (hdR f rows)
def ng (o : Option Int) : Int := o.getD (-1)
def ps (k : Int) : Option Int := if k < 0 then none else some k
def hd : Sh → List Cell → Int → Option Int
 | .nil, _, k => some k
 | .i t r, .s (.int _ n) :: cs, k => if n = mkv t k then hd r cs (nx k) else none
 | .b r, .s (.bool x) :: cs, k => if x = (k.tmod 3 == 0) then hd r cs (nx k) else none
 | .l e r, .l rows :: cs, k => (ps (ng (hdR (hd e) rows k))).bind (hd r cs)
 | _, _, k => some k
def mt : Sh → List Cell → Int → List Cell × Int
 | .i _ r, c :: cs, k => (c :: (mt r cs k).1, (mt r cs k).2)
 | .b r, c :: cs, k => (c :: (mt r cs k).1, (mt r cs k).2)
 | .l e r, .l rows :: cs, k => (.l (mkR (mk e) rows k).1 :: (mt r cs (mkR (mk e) rows k).2).1, (mt r cs (mkR (mk e) rows k).2).2)
 | _, cs, k => (cs, k)
def ht : Sh → List Cell → Int → Option Int
 | .i _ r, _ :: cs, k => ht r cs k
 | .b r, _ :: cs, k => ht r cs k
 | .l e r, .l rows :: cs, k => (ps (ng (hdR (hd e) rows k))).bind (ht r cs)
 | _, _, k => some k
def z0e (f : List Cell → Nat) : List (List Cell) → Nat
 | [] => 0
 | row :: rows => f row + z0e f rows
def cnt : Sh → List Cell → Nat
 | .i _ r, _ :: cs => 1 + cnt r cs
 | .b r, _ :: cs => 1 + cnt r cs
 | .l e r, .l rows :: cs => z0e (cnt e) rows + cnt r cs
 | _, _ => 0
def tot : Sh → List Cell → Nat
 | .i _ r, _ :: cs => tot r cs
 | .b r, _ :: cs => tot r cs
 | .l e r, .l rows :: cs => rows.length + z0e (tot e) rows + tot r cs
 | _, _ => 0
def yj (e : Sh) (rows : List (List Cell)) : Nat := rows.length + z0e (tot e) rows
theorem WT.mono {N M : Nat} (h : N ≤ M) {e : Sh} {cs : List Cell} (hw : WT N e cs) : WT M e cs := by
 induction hw with
 | nil => exact .nil
 | i n _ ih => exact .i n ih
 | b x _ ih => exact .b x ih
 | l rows h1 _ _ ih1 ih2 => exact .l rows (by omega) ih1 ih2
theorem WR.mono {N M : Nat} (h : N ≤ M) {e : Sh} {rows : List (List Cell)} (hw : WR N e rows) : WR M e rows := ⟨Nat.le_trans hw.1 h, fun r hr => (hw.2 r hr).mono h⟩
theorem WT.yw {N : Nat} {k : IntKind} {r : Sh} {cs : List Cell} (h : WT N (.i k r) cs) : ∃ n cs', cs = .s (.int k n) :: cs' ∧ WT N r cs' := by
 cases h with | i n h => exact ⟨_, _, rfl, h⟩
theorem WT.q15 {N : Nat} {e r : Sh} {cs : List Cell} (h : WT N (.l e r) cs) : ∃ rows cs', cs = .l rows :: cs' ∧ WR N e rows ∧ WT N r cs' := by
 cases h with | l rows h1 h2 h3 => exact ⟨_, _, rfl, ⟨h1, h2⟩, h3⟩
theorem WT.qz {N : Nat} {cs : List Cell} (h : WT N .nil cs) : cs = [] := by
 cases h; rfl
theorem y3t {f g : List Cell → Nat} {a b : Nat} : ∀ {rows : List (List Cell)}, (∀ row ∈ rows, f row ≤ a + b * g row) → z0e f rows ≤ a * rows.length + b * z0e g rows
 | [], _ => by simp [z0e]
 | r :: rows, h => by
   have h1 := h r (by simp)
   have h2 := y3t (rows := rows) (fun row hr => h row (by simp [hr]))
   simp only [z0e, List.length_cons, Nat.mul_add, Nat.mul_one]
   omega
def md (f : List Cell → Int → List Cell × Int) (rows : List (List Cell)) (k : Int) (i : Nat) : List (List Cell) := (mkR f (rows.take i) k).1 ++ rows.drop i
section
variable {f : List Cell → Int → List Cell × Int} {rows : List (List Cell)} {k : Int} {i : Nat} {row : List Cell}
theorem y4z (h : rows[i]? = some row) : rows.take (i + 1) = rows.take i ++ [row] := by rw [List.take_add_one, h]; rfl
end
def szn (b : Int) (n : Nat) : Int := if b - n < 0 then -1 else b - n
theorem q0g {b : Int} {n : Nat} (h : b ≤ 1048576) (h0 : 0 ≤ b) : szn b n ≤ 1048576 := by unfold szn; split <;> omega
theorem qg {b : Int} {m n : Nat} (h : 0 ≤ szn b m) : szn (szn b m) n = szn b (m + n) := by
 unfold szn at *; split at h
 · omega
 · rename_i h1; simp only [if_neg h1]; split <;> split <;> omega
theorem cwi {k : IntKind} {n m : Int} (h : -9223372036854775808 ≤ n) (h2 : n ≤ 9223372036854775807) (e : n = m) : Cell.s (.int k (IntKind.i64.wrap n)) = Cell.s (.int k m) := by rw [wrap_i64 h h2, e]
theorem y1m (f : List Cell → Nat) : ∀ (xs ys : List (List Cell)), z0e f (xs ++ ys) = z0e f xs + z0e f ys
 | [], ys => by simp [z0e]
 | x :: xs, ys => by simp [z0e, y1m f xs, Nat.add_assoc]
theorem q0t {f : List Cell → Nat} {rows : List (List Cell)} {i : Nat} {row : List Cell} (h : rows[i]? = some row) : z0e f (rows.take (i + 1)) = z0e f (rows.take i) + f row := by
 rw [y4z h, y1m]; simp [z0e]
theorem z0j (f : List Cell → Nat) (rows : List (List Cell)) (i : Nat) : z0e f rows = z0e f (rows.take i) + z0e f (rows.drop i) := by
 rw [← y1m, List.take_append_drop]
theorem q0n {N : Nat} {e : Sh} {rows : List (List Cell)} (h : ∀ row, WT N e row → tot e row = 0) (hw : WR N e rows) : yj e rows = rows.length := by
 have : ∀ rows : List (List Cell), (∀ row ∈ rows, WT N e row) → z0e (tot e) rows = 0 := by
  intro rows
  induction rows with
  | nil => intro _; rfl
  | cons r rows ih => intro hr; rw [z0e, h r (hr r (by simp)), ih (fun x hx => hr x (by simp [hx]))]
 rw [yj, this rows hw.2, Nat.add_zero]
theorem yn {α : Type} {xs ys : List α} {i : Nat} {a : α} (h : xs.take i = ys.take i) (hx : xs[i]? = some a) (hy : ys[i]? = some a) : xs.take (i + 1) = ys.take (i + 1) := by
 rw [List.take_add_one, List.take_add_one, h, hx, hy]
noncomputable def dE {α : Type} (p q : α) : Bool := open Classical in decide (p = q)
theorem zi {α : Type} {p q : α} (h : p ≠ q) : Value.bool false = Value.bool (dE p q) := by simp [dE, h]
theorem zu {α : Type} {p q : α} (h : p = q) : Value.bool true = Value.bool (dE p q) := by simp [dE, h]
theorem y05 {α : Type} {p q : α} (h : (!dE p q) = true) : p ≠ q := by simpa [dE] using h
theorem z05 {α : Type} {p q : α} (h : (!dE p q) = false) : p = q := by simpa [dE] using h
abbrev i64 (n : Int) : Cell := .s (.int .i64 n)
abbrev rI (n : Int) : Res := .one (.own false [.s (.int .i64 n)])
abbrev rB (b : Bool) : Res := .one (.own false [.s (.bool b)])
end Go.Sx
end
section
namespace Go.Sx
open Go.Maps (Keyed)
section
variable {P : Program} [yk P] {Q : Ex → St → Prop} {st st1 : List Fr} {σ σ1 : St} {g : Bool} {o : Oper} {t : TypeId} {m x : Operand} {β k e n : Nat} {D : DataW Unit} {q : IntKind}
theorem q9c {r : Nat} (h : exec 2000 (yk.F P) st σ = .raw g σ1 o st1) (ho : o.op = .makeMap t none) (hd : o.dst = some r) (hu : P.underlying t = some (.map k e)) (hn : get σ1.b r = none)
 (h1 : G P Q st1 none ⟨(r, .one (.mx 0 r)) :: σ1.t, y08 σ1.b r (.mp k e 0 (.map []) none)⟩) : G P Q st none σ :=
 z92 h (by simp only [opL, ho]; exact ⟨r, k, e, rfl, hd, hu, hn, h1⟩)
theorem z6v {av : AV} {key : Value} {kl : Lit} (h : exec 2000 (yk.F P) st σ = .raw g σ1 o st1) (ho : o.op = .lookup t m x false) (hm : ev σ1 m = some (.one (.mx 0 β))) (hb : get σ1.b β = some (.mp k e n D none))
 (hu : P.underlying t = some (.map k e)) (he : P.underlying e = some (.int q)) (hK : Keyed P k) (hz : ∀ w, (zeroValue e).run P w = .ok (.int q 0) w) (hx : ev σ1 x = some av) (hv : valOf av = some key) (hkey : keyOf P k key = some kl)
 (h1 : ∀ c, D.atKey kl (.lit (.int q 0)) = .lit (.int q c) → (Lit.int q c).wf = true → G P Q st1 none (σ1.put o.dst (.one (.b (.s (.int q c)))))) : G P Q st none σ :=
 z92 h (by simp only [opL, ho]; exact .inl ⟨β, k, e, n, D, q, kl, av, key, rfl, hm, hb, hu, he, hK, hz, hx, hv, hkey, h1⟩)
theorem zar {av : AV} {key : Value} {kl : Lit} {born : Int} (h : exec 2000 (yk.F P) st σ = .raw g σ1 o st1) (ho : o.op = .lookup t m x false) (hm : ev σ1 m = some (.one (.mx 0 β))) (hb : get σ1.b β = some (.me k e n D kl born))
 (hu : P.underlying t = some (.map k e)) (he : P.underlying e = some (.int q)) (hz : ∀ w, (zeroValue e).run P w = .ok (.int q 0) w) (hx : ev σ1 x = some av) (hv : valOf av = some key) (hkey : keyOf P k key = some kl)
 (h1 : ∀ c, D.atKey kl (.lit (.int q 0)) = .lit (.int q c) → (Lit.int q c).wf = true → G P Q st1 none (σ1.put o.dst (.one (.b (.s (.int q c)))))) : G P Q st none σ :=
 z92 h (by simp only [opL, ho]; exact .inr ⟨β, k, e, n, D, q, kl, born, av, key, rfl, hm, hb, hu, he, hz, hx, hv, hkey, h1⟩)
theorem ybq {v : Operand} {av : AV} {key : Value} {kl : Lit} {c : Int} (h : exec 2000 (yk.F P) st σ = .raw g σ1 o st1) (ho : o.op = .mapUpdate t m x v) (hd : o.dst = none) (hm : ev σ1 m = some (.one (.mx 0 β))) (hb : get σ1.b β = some (.mp k e n D none))
 (hu : P.underlying t = some (.map k e)) (he : P.underlying e = some (.int q)) (hK : Keyed P k) (hn : n < maxLen) (hx : ev σ1 x = some av) (hv : valOf av = some key) (hkey : keyOf P k key = some kl) (hc : ev σ1 v = some (.one (.b (.s (.int q c))))) (hw : (Lit.int q c).wf = true)
 (h1 : G P Q st1 none ⟨σ1.t, y08 σ1.b β (.mp k e (n + 1) (D.put kl (.lit (.int q c))) none)⟩) : G P Q st none σ :=
 z92 h (by simp only [opL, ho]; exact ⟨β, k, e, n, D, q, kl, av, key, c, hd, hm, hb, hu, he, hK, hn, hx, hv, hkey, hc, hw, h1⟩)
theorem zas {r : Nat} (h : exec 2000 (yk.F P) st σ = .raw g σ1 o st1) (ho : o.op = .range t m) (hd : o.dst = some r) (hm : ev σ1 m = some (.one (.mx 0 β))) (hb : get σ1.b β = some (.mp k e n D none)) (hr : get σ1.b r = none)
 (hu : P.underlying t = some (.map k e)) (hK : Keyed P k)
 (h1 : G P Q st1 none ⟨(r, .one (.mx 1 r)) :: σ1.t, y08 (y08 σ1.b β .dead) r (.mp k e n D (some (Maps.has D, Maps.size D, none)))⟩) : G P Q st none σ :=
 z92 h (by simp only [opL, ho]; exact ⟨r, β, k, e, n, D, hd, hm, hb, hr, hu, hK, h1⟩)
theorem yba {r : Nat} {left : Lit → Bool} {cnt : Nat} {cur : Option (Value × Value)} (h : exec 2000 (yk.F P) st σ = .raw g σ1 o st1) (ho : o.op = .next m false) (hd : o.dst = some r) (hm : ev σ1 m = some (.one (.mx 1 β))) (hb : get σ1.b β = some (.mp k e n D (some (left, cnt, cur))))
 (hK : Keyed P k) (he : P.underlying e = some (.int q))
 (h0 : cnt = 0 → (∀ kl, left kl = false) → G P Q st1 none ⟨(r, .tup [.one (.b (.s (.bool false)))]) :: σ1.t, σ1.b⟩)
 (h1 : ∀ key kl c cnt', keyOf P k key = some kl → left kl = true → (∀ zd, D.atKey kl zd = .lit (.int q c)) → (Lit.int q c).wf = true → cnt' < cnt →
   ∃ av, q1h key = some av ∧ (∀ vs, av ≠ .tup vs) ∧ G P Q st1 none ⟨(r, .tup [.one (.b (.s (.bool true))), av, .one (.b (.s (.int q c)))]) :: σ1.t, y08 σ1.b β (.mp k e n D (some ((fun z => left z && !z.sameKey kl), cnt', some (key, .int q c))))⟩) : G P Q st none σ :=
 z92 h (by simp only [opL, ho]; exact ⟨r, β, k, e, n, D, left, cnt, cur, q, rfl, hd, hm, hb, hK, he, h0, h1⟩)
theorem qar {r : Nat} {qk : IntKind} {left : Lit → Bool} {cnt : Nat} {cur : Option (Value × Value)} (h : exec 2000 (yk.F P) st σ = .raw g σ1 o st1) (ho : o.op = .next m false) (hd : o.dst = some r) (hm : ev σ1 m = some (.one (.mx 1 β))) (hb : get σ1.b β = some (.mp k e n D (some (left, cnt, cur))))
 (hK : Keyed P k) (hk : P.underlying k = some (.int qk)) (he : P.underlying e = some (.int q))
 (h0 : cnt = 0 → (∀ kl, left kl = false) → G P Q st1 none ⟨(r, .tup [.one (.b (.s (.bool false)))]) :: σ1.t, σ1.b⟩)
 (h1 : ∀ y c cnt', left (.int qk y) = true → (∀ zd, D.atKey (.int qk y) zd = .lit (.int q c)) → (Lit.int q c).wf = true → cnt' < cnt →
   G P Q st1 none ⟨(r, .tup [.one (.b (.s (.bool true))), .one (.b (.s (.int qk y))), .one (.b (.s (.int q c)))]) :: σ1.t, y08 σ1.b β (.mp k e n D (some ((fun z => left z && !z.sameKey (.int qk y)), cnt', some (.int qk y, .int q c))))⟩) : G P Q st none σ :=
 yba h ho hd hm hb hK he h0 (fun key kl c cnt' hkey hl hat hw hlt => by
  obtain ⟨y, rfl, rfl, _⟩ := Maps.keyOf_int_inv hk hkey
  exact ⟨.one (.b (.s (.int qk y))), rfl, fun vs h => (nomatch h), h1 y c cnt' hl hat hw hlt⟩)
theorem qaq {r : Nat} {left : Lit → Bool} {cnt : Nat} {key u : Value} {av av' : AV} (h : exec 2000 (yk.F P) st σ = .raw g σ1 o st1) (ho : o.op = .entry m) (hd : o.dst = some r) (hm : ev σ1 m = some (.one (.mx 1 β))) (hb : get σ1.b β = some (.mp k e n D (some (left, cnt, some (key, u)))))
 (h2 : q1h key = some av) (h3 : q1h u = some av') (h4 : ∀ vs, av ≠ .tup vs) (h5 : ∀ vs, av' ≠ .tup vs) (h1 : G P Q st1 none ⟨(r, .tup [av, av']) :: σ1.t, σ1.b⟩) : G P Q st none σ :=
 z92 h (by simp only [opL, ho]; exact ⟨r, β, k, e, n, D, left, cnt, key, u, av, av', hd, hm, hb, h2, h4, h3, h5, h1⟩)
theorem ybh {r : Nat} {av : AV} {key : Value} {kl : Lit} (h : exec 2000 (yk.F P) st σ = .raw g σ1 o st1) (ho : o.op = .mapEntry t m x) (hd : o.dst = some r) (hm : ev σ1 m = some (.one (.mx 0 β))) (hb : get σ1.b β = some (.mp k e n D none))
 (hu : P.underlying t = some (.map k e)) (he : P.underlying e = some (.int q)) (hL : WideMaps.KeyLaw P k) (hn : n < maxLen) (hz : ∀ w, (zeroValue e).run P w = .ok (.int q 0) w) (hx : ev σ1 x = some av) (hv : valOf av = some key) (hkey : keyOf P k key = some kl)
 (h1 : ∀ c born, G P Q st1 none ⟨(r, .tup [.one (.b (.s (.int q c))), .one (.b (.s (.int .i64 born)))]) :: σ1.t, y08 σ1.b β (.me k e n D kl born)⟩) : G P Q st none σ :=
 z92 h (by simp only [opL, ho]; exact ⟨r, β, k, e, n, D, q, kl, av, key, hd, hm, hb, hu, he, hL, Maps.Keyed.of_law hL, hn, hz, hx, hv, hkey, h1⟩)
theorem qbh {s v : Operand} {kl : Lit} {born c : Int} (h : exec 2000 (yk.F P) st σ = .raw g σ1 o st1) (ho : o.op = .entryStore t m s v) (hd : o.dst = none) (hm : ev σ1 m = some (.one (.mx 0 β))) (hb : get σ1.b β = some (.me k e n D kl born))
 (he : P.underlying e = some (.int q)) (hs : ev σ1 s = some (.one (.b (.s (.int .i64 born))))) (hc : ev σ1 v = some (.one (.b (.s (.int q c))))) (hw : (Lit.int q c).wf = true)
 (h1 : G P Q st1 none ⟨σ1.t, y08 σ1.b β (.mp k e (n + 1) (D.put kl (.lit (.int q c))) none)⟩) : G P Q st none σ :=
 z92 h (by simp only [opL, ho]; exact ⟨β, k, e, n, D, q, kl, born, c, hd, hm, hb, he, hs, hc, hw, h1⟩)
end
end Go.Sx
end
section
namespace Go.Sx
open Go.RowKit
def Sh.len : Sh → Nat
 | .nil => 0
 | .i _ r => r.len + 1
 | .b r => r.len + 1
 | .l _ r => r.len + 1
def Sh.app : Sh → Sh → Sh
 | .nil, t => t
 | .i k r, t => .i k (r.app t)
 | .b r, t => .b (r.app t)
 | .l e r, t => .l e (r.app t)
theorem WT.len {N : Nat} {s : Sh} {cs : List Cell} (h : WT N s cs) : cs.length = s.len := by
 induction h with
 | nil => rfl
 | i n _ ih => simp [Sh.len, ih]
 | b x _ ih => simp [Sh.len, ih]
 | l rows _ _ _ _ ih => simp [Sh.len, ih]
theorem WT.app {N : Nat} {s t : Sh} {xs ys : List Cell} (h : WT N s xs) (k : WT N t ys) : WT N (s.app t) (xs ++ ys) := by
 induction h with
 | nil => exact k
 | i n _ ih => exact .i n ih
 | b x _ ih => exact .b x ih
 | l rows h1 h2 _ _ ih => exact .l rows h1 h2 ih
abbrev OS (P : Program) (t : TypeId) (s : Sh) : Prop := q39 P t s.len (fun a : {cs : List Cell // WT 9223372036854775807 s cs} => a.1) (fun _ => True)
abbrev OSF (P : Program) (fs : List Field) (s : Sh) : Prop := q4b P fs s.len (fun a : {cs : List Cell // WT 9223372036854775807 s cs} => a.1) (fun _ => True)
section
variable {P : Program} {t e : TypeId}
theorem OS.mk {sz : Nat} {α : Type} {f : α → List Cell} {G : α → Prop} {s : Sh} (h : q39 P t sz f G) (hz : sz = s.len) (hw : ∀ a, G a → WT 9223372036854775807 s (f a)) : OS P t s :=
 ⟨h.hsz.trans hz, fun a => a.2.len, fun enc w base spare held fuel cs x hx => by
   obtain ⟨a, h1, h2⟩ := h.get enc w base spare held fuel cs x hx
   exact ⟨⟨f a, hw a h2⟩, h1, trivial⟩⟩
theorem qal {k : IntKind} (ht : P.underlying t = some (.int k)) (hc : P.cellsOf t = 1) : OS P t (.i k .nil) := .mk (q7o ht hc) rfl fun n _ => .i n .nil
theorem z02 {s : Sh} (ht : P.underlying t = some (.slice e)) (hc : P.cellsOf t = 1) (he : OS P e s) : OS P t (.l s .nil) := .mk (z5g ht hc he) rfl fun l hl => .l _ (by
 have h : l.length ≤ maxLen := hl.1
 rw [List.length_map]; exact h) (fun row hr => by
 obtain ⟨a, _, rfl⟩ := List.mem_map.1 hr
 exact a.2) .nil
theorem q0b {fd : Field} {s : Sh} (h : OS P fd.type s) : OSF P [fd] s := q6m h
theorem qe {fd : Field} {fs : List Field} {s t u : Sh} (h : OS P fd.type s) (k : OSF P fs t) (hu : s.app t = u) (hl : s.len + t.len = u.len) : OSF P (fd :: fs) u := by
 have hc := q5f h k
 subst hu
 refine ⟨fun a => a.2.len, fun enc w base spare held fuel cs hn hx => ?_⟩
 obtain ⟨a, h1, _⟩ := hc.2 enc w base spare held fuel cs (hn.trans hl.symm) hx
 exact ⟨⟨_, a.1.2.app a.2.2⟩, h1, trivial⟩
theorem yx {fs : List Field} {s : Sh} (ht : P.underlying t = some (.struct fs.toArray)) (hc : P.cellsOf t = s.len) (hL : Laid P 0 fs) (hF : OSF P fs s) : OS P t s :=
 z4q (fun a => a) (fun _ => rfl) (fun _ h => h) (fun b => b.2.len) ht hc hL hF
theorem zae {fs : Array Field} {s : Sh} (ht : P.underlying t = some (.struct fs)) (he : OS P t s) {H : Type} {enc : TypeId × Value → H} {w : World} {r : Reach} {b : Nat} {v : Value} {dd : DataW H} {ps : List MemPlace}
 (hv : Value.okWide P w r b t v) (h : DataW.Trod enc P w 0 (fun _ => true) true t v dd ps) : ∃ cs : List Cell, q89 w (fun _ => True) (.agg cs) v ∧ WT 9223372036854775807 s cs := by
 obtain ⟨a, h1, _⟩ := y6a ht he hv h
 exact ⟨a.1, h1, a.2⟩
end
end Go.Sx
end
section
namespace Go.Sx
def yal : OC → Cell
 | .s v => .s v
 | .l _ rows => .l rows
theorem PC.zbe {P : Program} {f : Nat} {args : List SV} {ag : Bool} {cs : List OC} (h : PC P f args (.one (.own ag cs))) : PC P f args (.one (.bor ag (cs.map yal))) := by
 refine ⟨h.1, fun N w vals ha => (h.2 N w vals ha).mono ?_⟩
 rintro e w' ⟨v, S, rfl, hk, ⟨arr, F, h1, h2, h3, _, h5⟩, hS⟩
 refine ⟨v, fun _ => False, rfl, hk, ⟨arr, h1, by simp [h2], fun k c u hc hu => ?_⟩, fun x hx => hx.elim⟩
 rw [List.getElem?_map] at hc
 cases ho : cs[k]? with
 | none => rw [ho] at hc; cases hc
 | some oc =>
   rw [ho] at hc
   cases hc
   have h6 := h5 k oc u ho hu
   cases oc with
   | s x => obtain ⟨rfl, h7⟩ := h6; exact .s _ h7
   | l sz rows =>
     obtain ⟨sz', _, h7⟩ := h6
     exact (y1e.2 ⟨sz', h7⟩).rep fun x hx => ⟨.inr (hS x (h3 k x hx)).1, fun h => h⟩
theorem gm {α β : Type} {xs : List α} {i : Nat} {x : α} (f : α → β) (h : xs[i]? = some x) : (xs.map f)[i]? = some (f x) := by rw [List.getElem?_map, h]; rfl
theorem gx {α : Type} {xs : List α} {i : Nat} (h : i < xs.length) : ∃ x, xs[i]? = some x := ⟨_, List.getElem?_eq_getElem h⟩
def scan (f : Nat → Int) : Nat → Int
 | 0 => 0
 | n + 1 => if scan f n ≠ 0 then scan f n else f n
theorem qc {f : Nat → Int} : ∀ {n : Nat}, (∀ j, j < n → f j = 0) → scan f n = 0
 | 0, _ => rfl
 | n + 1, h => by rw [scan, qc (fun j hj => h j (by omega)), h n (by omega)]; simp
theorem qu {f : Nat → Int} : ∀ {n : Nat}, scan f n = 0 → ∀ j, j < n → f j = 0
 | n + 1, h, j, hj => by
   rw [scan] at h
   split at h
   · rename_i h1; exact absurd h h1
   · rename_i h1
     have h1 : scan f n = 0 := by simpa using h1
     rcases Nat.lt_or_ge j n with h2 | h2
     · exact qu h1 j h2
     · have : j = n := by omega
       subst this; exact h
theorem z0s {f : Nat → Int} {i : Nat} (h0 : ∀ j, j < i → f j = 0) (h : f i ≠ 0) : ∀ {n : Nat}, i < n → scan f n = f i
 | n + 1, hi => by
   rw [scan]
   rcases Nat.lt_or_ge i n with h2 | h2
   · have := z0s h0 h h2
     rw [this, if_pos h]
   · have : i = n := by omega
     subst this
     rw [qc h0]; simp
theorem z7 {f : Nat → Int} {i n : Nat} {c : Int} (hi : i < n) (h0 : ∀ j, j < i → f j = 0) (hc : f i = c) (h : c ≠ 0) : c = scan f n := by rw [z0s h0 (by rw [hc]; exact h) hi, hc]
theorem y9 {f : Nat → Int} {i : Nat} (h0 : ∀ j, j < i → f j = 0) (h : f i = 0) : ∀ j, j < i + 1 → f j = 0 := fun j hj => by
 rcases Nat.lt_or_ge j i with h2 | h2
 · exact h0 j h2
 · have : j = i := by omega
   subst this; exact h
theorem y0v {f g : Nat → Int} : ∀ {n : Nat}, (∀ j, j < n → (∀ k, k < j → f k = 0) → f j = g j) → scan f n = scan g n
 | 0, _ => rfl
 | n + 1, h => by
   have ih := y0v (f := f) (g := g) (n := n) (fun j hj => h j (by omega))
   rw [scan, scan, ih]
   split
   · rfl
   · rename_i h1
     have h1 : scan g n = 0 := by simpa using h1
     rw [← ih] at h1
     exact h n (by omega) (qu h1)
def within (n lo hi : Int) : Bool := decide (lo ≤ n) && decide (n ≤ hi)
theorem within_iff {n lo hi : Int} : within n lo hi = true ↔ lo ≤ n ∧ n ≤ hi := by simp [within]
def q08 (a b : Int) : Int := if a < b then -1 else if b < a then 1 else 0
def orr : List Int → Int
 | [] => 0
 | x :: xs => if x ≠ 0 then x else orr xs
abbrev ints (xs : List Int) : List (List Cell) := xs.map fun n => [i64 n]
theorem y5g : ∀ {xs : List Int} {i : Nat} {x : Int}, xs[i]? = some x → (∀ (j : Nat) (y : Int), j < i → xs[j]? = some y → y = 0) → x ≠ 0 → orr xs = x
 | y :: xs, 0, x, h, _, hx => by simp at h; subst h; rw [orr, if_pos hx]
 | y :: xs, i + 1, x, h, h0, hx => by
   rw [orr, if_neg (by simpa using h0 0 y (by omega) rfl)]
   exact y5g (by simpa using h) (fun j z hj hz => h0 (j + 1) z (by omega) (by simpa using hz)) hx
theorem y42 : ∀ {xs : List Int}, (∀ (j : Nat) (y : Int), xs[j]? = some y → y = 0) → orr xs = 0
 | [], _ => rfl
 | y :: xs, h => by
   rw [orr, if_neg (by simpa using h 0 y rfl)]
   exact y42 (fun j z hz => h (j + 1) z (by simpa using hz))
structure Leg where
 (s a b v : Int)
abbrev Leg.cs (l : Leg) : List Cell := [i64 l.s, i64 l.a, i64 l.b, i64 l.v]
def Leg.bad (l : Leg) : Bool := !(within l.s 0 2 && within l.a 0 5 && within l.b 0 2 && within l.v (-1000000000000) 1000000000000)
def Leg.fault (l : Leg) : Int := if l.bad then 3 else if l.v = 0 then 1 else 0
def Leg.same (l m : Leg) : Bool := l.s == m.s && l.a == m.a && l.b == m.b
structure Con where
 id : Int
 legs : List Leg
abbrev Con.cs (c : Con) : List Cell := [i64 c.id, .l (c.legs.map Leg.cs)]
structure Bal where
 (a b v : Int)
abbrev Bal.cs (x : Bal) : List Cell := [i64 x.a, i64 x.b, i64 x.v]
def Bal.bad (x : Bal) : Bool := !(within x.a 0 5 && within x.b 0 2 && within x.v 1 1000000000000)
def Bal.key (x : Bal) : Int := x.a * 3 + x.b
def ahead {α : Type} (lt : α → α → Bool) (xs : List α) (i : Nat) (x : α) : Bool := bif Nat.beq i 0 then true else match xs[i - 1]? with | some p => lt p x | none => true
def y29 (xs : List Bal) (i : Nat) : Int := match xs[i]? with
 | some x => if x.bad then 3 else if ahead (fun p x => decide (p.key < x.key)) xs i x then 0 else 1
 | none => 0
theorem q55 {us : List Bal} {i : Nat} {x : Bal} (hx : us[i]? = some x) (h : y29 us i = 0) : x.bad = false := by
 cases hb : x.bad with
 | false => rfl
 | true => simp [y29, hx, hb] at h
theorem Bal.z0r {x : Bal} (h : x.bad = false) : IntKind.i64.wrap (IntKind.i64.wrap (x.a * 3) + x.b) = x.key := by
 simp [Bal.bad, within] at h
 rw [wrap_i64 (n := x.a * 3) (by omega) (by omega), wrap_i64 (by omega) (by omega)]; rfl
def zj (xs : List Bal) : Int := if 18 < xs.length then 2 else scan (y29 xs) xs.length
def hasB : List Bal → Int → Int → Int
 | [], _, _ => 0
 | x :: xs, a, b => if x.a = a ∧ x.b = b then x.v else hasB xs a b
theorem z3x : ∀ {xs : List Bal} {i : Nat} {x : Bal} {a b : Int}, xs[i]? = some x → (∀ (j : Nat) (y : Bal), j < i → xs[j]? = some y → ¬ (y.a = a ∧ y.b = b)) → x.a = a ∧ x.b = b → hasB xs a b = x.v
 | y :: xs, 0, x, a, b, h, _, hx => by simp at h; subst h; rw [hasB, if_pos hx]
 | y :: xs, i + 1, x, a, b, h, h0, hx => by
   rw [hasB, if_neg (h0 0 y (by omega) rfl)]
   exact z3x (by simpa using h) (fun j z hj hz => h0 (j + 1) z (by omega) (by simpa using hz)) hx
theorem y2u : ∀ {xs : List Bal} {a b : Int}, (∀ (j : Nat) (y : Bal), xs[j]? = some y → ¬ (y.a = a ∧ y.b = b)) → hasB xs a b = 0
 | [], _, _, _ => rfl
 | y :: xs, a, b, h => by
   rw [hasB, if_neg (h 0 y rfl)]
   exact y2u (fun j z hz => h (j + 1) z (by simpa using hz))
def zaw (xs : List Bal) (l : Leg) : Int := if hasB xs l.a l.b + l.v < 0 then 6 else if 1000000000000 < hasB xs l.a l.b + l.v then 3 else 0
def z6j (xs : List Bal) (ls : List Leg) (i : Nat) : Int := match ls[i]? with | some l => zaw xs l | none => 0
def z3c (xs : List Bal) (ls : List Leg) : Int := scan (z6j xs ls) ls.length
structure Mk where
 (c v : Int)
abbrev Mk.cs (x : Mk) : List Cell := [i64 x.c, i64 x.v]
def q0h : List Mk → Int → Int
 | [], _ => 0
 | x :: xs, c => if x.c = c then x.v else q0h xs c
theorem z14 : ∀ {xs : List Mk} {i : Nat} {x : Mk} {c : Int}, xs[i]? = some x → (∀ (j : Nat) (y : Mk), j < i → xs[j]? = some y → ¬ y.c = c) → x.c = c → q0h xs c = x.v
 | y :: xs, 0, x, c, h, _, hx => by simp at h; subst h; rw [q0h, if_pos hx]
 | y :: xs, i + 1, x, c, h, h0, hx => by
   rw [q0h, if_neg (h0 0 y (by omega) rfl)]
   exact z14 (by simpa using h) (fun j z hj hz => h0 (j + 1) z (by omega) (by simpa using hz)) hx
theorem q1d : ∀ {xs : List Mk} {c : Int}, (∀ (j : Nat) (y : Mk), xs[j]? = some y → ¬ y.c = c) → q0h xs c = 0
 | [], _, _ => rfl
 | y :: xs, c, h => by
   rw [q0h, if_neg (h 0 y rfl)]
   exact q1d (fun j z hz => h (j + 1) z (by simpa using hz))
def y1v (xs : List Mk) (i : Nat) : Int := match xs[i]? with
 | some x => if !(within x.c 1 1000000000 && within x.v 1 2) then 3 else if ahead (fun p x => decide (p.c < x.c)) xs i x then 0 else 1
 | none => 0
def zg (xs : List Mk) : Int := scan (y1v xs) xs.length
theorem qd {α : Type} {xs : List α} {i : Nat} {x : α} {p : α → Prop} (hx : xs[i]? = some x) (h : ∀ (j : Nat) (y : α), j < i → xs[j]? = some y → p y) (hp : p x) : ∀ (j : Nat) (y : α), j < i + 1 → xs[j]? = some y → p y := fun j y hj hy => by
 rcases Nat.lt_or_ge j i with h2 | h2
 · exact h j y h2 hy
 · have : j = i := by omega
   subst this; rw [hx] at hy; cases hy; exact hp
theorem qh {α : Type} {xs : List α} {i : Nat} {p : α → Prop} (hi : i = xs.length) (h : ∀ (j : Nat) (y : α), j < i → xs[j]? = some y → p y) : ∀ (j : Nat) (y : α), xs[j]? = some y → p y := fun j y hy => h j y (by have := (List.getElem?_eq_some_iff.1 hy).1; omega) hy
theorem y0i {i : Nat} (h0 : 0 < i) (h : i ≤ 9000000000000000000) : 0 ≤ IntKind.i64.wrap ((i : Int) - 1) := by rw [wrap_i64 (by omega) (by omega)]; omega
theorem z12 {α β : Type} {xs : List α} {i : Nat} {p : α} (f : α → β) (h0 : 0 < i) (h : i ≤ 9000000000000000000) (hp : xs[i - 1]? = some p) : (xs.map f)[(IntKind.i64.wrap ((i : Int) - 1)).toNat]? = some (f p) := by
 rw [wrap_i64 (by omega) (by omega), show ((i : Int) - 1).toNat = i - 1 by omega]; exact gm f hp
theorem ahead_zero {α : Type} {lt : α → α → Bool} {xs : List α} {x : α} : ahead lt xs 0 x = true := rfl
theorem z8 {α : Type} {lt : α → α → Bool} {xs : List α} {i : Nat} {x p : α} (h0 : 0 < i) (hp : xs[i - 1]? = some p) : ahead lt xs i x = lt p x := by
 unfold ahead; rw [beq_false (by omega), cond_false, hp]
theorem vi {a b : Int} (h : a = b) : Value.int .i64 a = Value.int .i64 b := by rw [h]
theorem vb {a b : Bool} (h : a = b) : Value.bool a = Value.bool b := by rw [h]
theorem ci {a b : Int} (h : a = b) : Cell.s (.int .i64 a) = Cell.s (.int .i64 b) := by rw [h]
structure Vt where
 (b v : Int)
abbrev Vt.cs (x : Vt) : List Cell := [i64 x.b, i64 x.v]
def Vt.none : Vt := ⟨-1, 0⟩
def Vt.ok (x : Vt) : Bool := within x.b 0 1000 && within x.v 1 2
structure Slt where
 (c s p lb lv : Int)
 cast : List Vt
abbrev Slt.cs (x : Slt) : List Cell := [i64 x.c, i64 x.s, i64 x.p, i64 x.lb, i64 x.lv, .l (x.cast.map Vt.cs)]
def z0k (xs : List Vt) (i : Nat) : Int := match xs[i]? with
 | some x => if !x.ok then 3 else if ahead (fun p x => !(decide (x.b < p.b) || (x.b == p.b && x.v != p.v))) xs i x then 0 else 1
 | none => 0
def y3b (xs : List Vt) : Vt := (xs[xs.length - 1]?).getD Vt.none
def Slt.fault (x : Slt) : Int :=
 if !(within x.c 1 1000000000 && within x.s 0 2 && within x.p (-1) 1000) then 3
 else if 60 < x.cast.length then 2
 else if scan (z0k x.cast) x.cast.length ≠ 0 then scan (z0k x.cast) x.cast.length
 else if ¬ (x.lb = (y3b x.cast).b ∧ x.lv = (y3b x.cast).v) ∨ x.p < x.lb then 1 else 0
def Slt.lt (p x : Slt) : Bool := if p.c = x.c then decide (p.s < x.s) else decide (p.c < x.c)
def y37 (xs : List Slt) (i : Nat) : Int := match xs[i]? with
 | some x => if x.fault ≠ 0 then x.fault else if ahead Slt.lt xs i x then 0 else 1
 | none => 0
structure Acc where
 slots : List Slt
abbrev Acc.cs (x : Acc) : List Cell := [.l (x.slots.map Slt.cs)]
def Acc.fault (x : Acc) : Int := if 60 < x.slots.length then 2 else scan (y37 x.slots) x.slots.length
def q3c : List Int → Int → List Int
 | [], v => [v]
 | x :: xs, v => if x < v then x :: q3c xs v else if x = v then x :: xs else v :: x :: xs
def zl (c : Con) (s : Int) : List Leg := c.legs.filter fun l => l.s == s
structure Shd where
 idx : Int
 bals : List Bal
 votes : List Mk
 held : List Con
 done : List Mk
 app : List Int
abbrev Shd.cs (s : Shd) : List Cell := [i64 s.idx, .l (s.bals.map Bal.cs), .l (s.votes.map Mk.cs), .l (s.held.map Con.cs), .l (s.done.map Mk.cs), .l (ints s.app)]
theorem lcr {B B' : List (Nat × AB)} : ∀ {l : List Cell}, qai B B' (l.map .b) (l.map .b)
 | [] => trivial
 | _ :: l => ⟨rfl, lcr (l := l)⟩
def bsr (c : Nat → Bool) (i j : Nat) : Nat := if h : i < j then (if c ((i + j) / 2) then bsr c ((i + j) / 2 + 1) j else bsr c i ((i + j) / 2)) else i
termination_by j - i
theorem qae {c : Nat → Bool} {p n : Nat} (hc : ∀ k, k < n → c k = decide (k < p)) : ∀ (i j : Nat), i ≤ p → p ≤ j → j ≤ n → bsr c i j = p := by
 intro i j
 induction h : j - i using Nat.strongRecOn generalizing i j with
 | _ m ih =>
   intro h1 h2 h3
   rw [bsr]
   split
   · have hk := hc ((i + j) / 2) (by omega)
     split
     · rename_i ht
       rw [hk] at ht
       have ht : (i + j) / 2 < p := by simpa using ht
       exact ih (j - ((i + j) / 2 + 1)) (by omega) _ _ rfl (by omega) h2 h3
     · rename_i ht
       rw [hk] at ht
       have ht : ¬ (i + j) / 2 < p := by simpa using ht
       exact ih ((i + j) / 2 - i) (by omega) _ _ rfl h1 (by omega) (by omega)
   · omega
theorem half {i j : Nat} (hi : i ≤ 1048576) (hj : j ≤ 1048576) : IntKind.i64.wrap ((IntKind.u64.wrap (IntKind.i64.wrap ((i : Int) + j))).fdiv (2 ^ (min (1 : Int).toNat IntKind.u64.bits))) = (((i + j) / 2 : Nat) : Int) := by
 have e1 : IntKind.i64.wrap ((i : Int) + j) = (i : Int) + j := wrap_i64 (by omega) (by omega)
 have e2 : IntKind.u64.wrap ((i : Int) + j) = (i : Int) + j := by simp [IntKind.wrap, IntKind.signed, IntKind.bits]; omega
 have e3 : (2 : Int) ^ (min (1 : Int).toNat IntKind.u64.bits) = 2 := by decide
 rw [e1, e2, e3]
 have e4 : ((i : Int) + j).fdiv 2 = (((i + j) / 2 : Nat) : Int) := by rw [Int.fdiv_eq_ediv_of_nonneg _ (by omega)]; omega
 rw [e4]
 exact wrap_i64 (by omega) (by omega)
def y14 {α : Type} (p : α → Bool) : List α → Int
 | [] => -1
 | x :: l => if p x then 0 else if y14 p l < 0 then -1 else y14 p l + 1
theorem y03 {α : Type} {p : α → Bool} : ∀ {l : List α} {i : Nat} {x : α}, l[i]? = some x → (∀ (j : Nat) (y : α), j < i → l[j]? = some y → p y = false) → p x = true → y14 p l = i
 | y :: l, 0, x, h, _, hx => by simp at h; subst h; rw [y14, if_pos hx]; rfl
 | y :: l, i + 1, x, h, h0, hx => by
   have ih := y03 (l := l) (by simpa using h) (fun j z hj hz => h0 (j + 1) z (by omega) (by simpa using hz)) hx
   rw [y14, if_neg (by rw [h0 0 y (by omega) rfl]; decide), ih, if_neg (by omega)]
   omega
theorem qy {α : Type} {p : α → Bool} : ∀ {l : List α}, (∀ (j : Nat) (y : α), l[j]? = some y → p y = false) → y14 p l = -1
 | [], _ => rfl
 | y :: l, h => by
   rw [y14, if_neg (by rw [h 0 y rfl]; decide), qy (l := l) (fun j z hz => h (j + 1) z (by simpa using hz))]
   rfl
theorem y0d {α : Type} {p : α → Bool} : ∀ {l : List α}, decide (y14 p l ≥ 0) = l.any p
 | [] => rfl
 | y :: l => by
   have ih := y0d (p := p) (l := l)
   rw [y14, List.any_cons]
   by_cases h : p y = true
   · rw [if_pos h, h]; rfl
   · rw [if_neg h, show p y = false by simpa using h, Bool.false_or, ← ih]
     by_cases h2 : y14 p l < 0
     · rw [if_pos h2, show decide (y14 p l ≥ 0) = false by simp; omega]; rfl
     · rw [if_neg h2, show decide (y14 p l ≥ 0) = true by simp; omega]; simp; omega
def bsC {α : Type} (f : α → Int) (us : List α) (k : Nat) : Bool := match us[k]? with | some x => decide (f x < 0) | none => false
def bsP {α : Type} (f : α → Int) (us : List α) : Nat := bsr (bsC f us) 0 us.length
def bsF {α : Type} (f : α → Int) (us : List α) : Bool := match us[bsP f us]? with | some x => f x == 0 | none => false
def bsV {α : Type} (f : α → Int) (us : List α) : Res := .tup [.own false [.s (.int .i64 (bsP f us))], .own false [.s (.bool (bsF f us))]]
theorem q5u {c : Nat → Bool} {i j : Nat} (h : i < j) (hc : c ((i + j) / 2) = true) : bsr c i j = bsr c ((i + j) / 2 + 1) j := by rw [bsr, dif_pos h, if_pos hc]
theorem y5u {c : Nat → Bool} {i j : Nat} (h : i < j) (hc : c ((i + j) / 2) = false) : bsr c i j = bsr c i ((i + j) / 2) := by rw [bsr, dif_pos h, if_neg (by rw [hc]; decide)]
theorem y3s {c : Nat → Bool} {i j : Nat} (h : ¬ i < j) : bsr c i j = i := by rw [bsr, dif_neg h]
theorem q1q {α : Type} {f : α → Int} {us : List α} {k : Nat} {x : α} (h : us[k]? = some x) : bsC f us k = decide (f x < 0) := by unfold bsC; rw [h]
theorem z1r {α : Type} {f : α → Int} {us : List α} {k : Nat} {x : α} (hk : bsP f us = k) (h : us[k]? = some x) : bsF f us = (f x == 0) := by unfold bsF; rw [hk, h]
theorem q2i {α : Type} {f : α → Int} {us : List α} {k : Nat} (hk : bsP f us = k) (h : us.length ≤ k) : bsF f us = false := by unfold bsF; rw [hk, List.getElem?_eq_none h]
theorem q8i {i j : Nat} (hi : i ≤ 1048576) (hj : j ≤ 1048576) : 0 ≤ IntKind.i64.wrap ((IntKind.u64.wrap (IntKind.i64.wrap ((i : Int) + j))).fdiv (2 ^ (min (1 : Int).toNat IntKind.u64.bits))) := by rw [half hi hj]; exact Int.natCast_nonneg _
theorem z8j {α β : Type} {us : List α} {x : α} {i j : Nat} (f : α → β) (hi : i ≤ 1048576) (hj : j ≤ 1048576) (h : us[(i + j) / 2]? = some x) : (us.map f)[(IntKind.i64.wrap ((IntKind.u64.wrap (IntKind.i64.wrap ((i : Int) + j))).fdiv (2 ^ (min (1 : Int).toNat IntKind.u64.bits)))).toNat]? = some (f x) := by
 rw [half hi hj, Int.toNat_natCast]; exact gm f h
def z08 (p x : Bal) : Int := orr [q08 p.a x.a, q08 p.b x.b]
def z4b (us : List Bal) (a b : Int) : Int := bif bsF (fun x : Bal => z08 x ⟨a, b, 0⟩) us then (match us[bsP (fun x : Bal => z08 x ⟨a, b, 0⟩) us]? with | some x => x.v | none => 0) else 0
def q8n (us : List Bal) (l : Leg) : Int := if z4b us l.a l.b + l.v < 0 then 6 else if 1000000000000 < z4b us l.a l.b + l.v then 3 else 0
def q1v (us : List Mk) (c : Int) : Int := bif bsF (fun x : Mk => q08 x.c c) us then (match us[bsP (fun x : Mk => q08 x.c c) us]? with | some x => x.v | none => 0) else 0
theorem y1y {p x : Bal} (hp : p.bad = false) (hx : x.bad = false) : (0 ≤ z08 p x) ↔ ¬ p.key < x.key := by
 simp [Bal.bad, within] at hp hx
 unfold z08 q08 orr orr orr Bal.key
 split <;> split <;> (try split) <;> (try split) <;> omega
def z3z (hs : List Con) (c : Int) : Bool := hs.any fun x => x.id == c
def z52 (a b : List Leg) : Bool := a.any fun x => b.any fun y => x.a == y.a && x.b == y.b
theorem zq {α : Type} {p : α → Bool} {l : List α} {i : Nat} {x : α} (h : l[i]? = some x) (hx : p x = true) : true = l.any p := (List.any_eq_true.2 ⟨x, List.mem_of_getElem? h, hx⟩).symm
theorem any_none {α : Type} {p : α → Bool} {l : List α} (h : ∀ (j : Nat) (y : α), l[j]? = some y → p y = false) : false = l.any p := by
 rw [eq_comm, List.any_eq_false]
 intro x hx
 obtain ⟨j, hj⟩ := List.mem_iff_getElem?.1 hx
 rw [h j x hj]; decide
theorem y0x {α : Type} {p : α → Bool} {l : List α} {i : Nat} {x : α} (h : l[i]? = some x) : (l.take (i + 1)).filter p = (l.take i).filter p ++ (if p x then [x] else []) := by
 rw [List.take_add_one, h, List.filter_append]
 simp [List.filter_cons]
theorem z96 {α : Type} {f : α → Int} {us : List α} (h : us[bsP f us]? = none) : bsF f us = false := by unfold bsF; rw [h]
theorem q54 {us : List Bal} {a b : Int} (h : bsF (fun x : Bal => z08 x ⟨a, b, 0⟩) us = false) : 0 = z4b us a b := by unfold z4b; rw [h]; rfl
theorem z5t {us : List Bal} {a b : Int} {x : Bal} (h : bsF (fun x : Bal => z08 x ⟨a, b, 0⟩) us = true) (hq : us[bsP (fun x : Bal => z08 x ⟨a, b, 0⟩) us]? = some x) : x.v = z4b us a b := by unfold z4b; rw [h, hq]; rfl
theorem z41 {us : List Mk} {c : Int} (h : bsF (fun x : Mk => q08 x.c c) us = false) : 0 = q1v us c := by unfold q1v; rw [h]; rfl
theorem y4o {us : List Mk} {c : Int} {x : Mk} (h : bsF (fun x : Mk => q08 x.c c) us = true) (hq : us[bsP (fun x : Mk => q08 x.c c) us]? = some x) : x.v = q1v us c := by unfold q1v; rw [h, hq]; rfl
def q12 (l : List Leg) (a : Int) : Int := (l.map fun x => if x.b = a then x.v else 0).sum
def z1q (l : List Leg) : Bool := decide (q12 l 0 ≠ 0) || (decide (q12 l 1 ≠ 0) || decide (q12 l 2 ≠ 0))
def q37 (l : List Leg) (i : Nat) : Int := match l[i]? with | some x => if x.fault ≠ 0 then x.fault else if (l.take i).any (fun y => y.same x) then 7 else 0 | none => 0
def ql (c : Con) : Int := if within c.id 1 1000000000 then (if 2 ≤ c.legs.length ∧ c.legs.length ≤ 8 then (if scan (q37 c.legs) c.legs.length ≠ 0 then scan (q37 c.legs) c.legs.length else if z1q c.legs then 1 else 0) else 2) else 3
theorem z7z (l : List Leg) (x : Leg) (a : Int) : q12 (l ++ [x]) a = q12 l a + if x.b = a then x.v else 0 := by simp [q12]
theorem z20 {l : List Leg} {i : Nat} {x : Leg} (h : l[i]? = some x) (a : Int) : q12 (l.take (i + 1)) a = q12 (l.take i) a + if x.b = a then x.v else 0 := by
 rw [List.take_add_one, h]; exact z7z _ _ _
def Leg.small (x : Leg) : Prop := -1000000000000 ≤ x.v ∧ x.v ≤ 1000000000000
theorem Leg.z0d {x : Leg} (h : x.fault = 0) : (0 ≤ x.s ∧ x.s ≤ 2) ∧ (0 ≤ x.a ∧ x.a ≤ 5) ∧ (0 ≤ x.b ∧ x.b ≤ 2) ∧ x.small ∧ x.v ≠ 0 := by
 unfold Leg.fault at h
 split at h
 · omega
 · rename_i hb
   split at h
   · omega
   · rename_i hv
     simp [Leg.bad, within] at hb
     unfold Leg.small
     omega
theorem z48 : ∀ (l : List Leg) (a : Int), (∀ x ∈ l, x.small) → -1000000000000 * (l.length : Int) ≤ q12 l a ∧ q12 l a ≤ 1000000000000 * (l.length : Int)
 | [], a, _ => by simp [q12]
 | x :: l, a, h => by
   have h1 := z48 l a (fun y hy => h y (List.mem_cons_of_mem _ hy))
   have h2 := h x List.mem_cons_self
   unfold Leg.small at h2
   have e : q12 (x :: l) a = (if x.b = a then x.v else 0) + q12 l a := by simp [q12]
   rw [e, List.length_cons]
   split <;> omega
theorem z4y : ∀ (l : List Leg) (a : Int), (∀ x ∈ l, x.b ≠ a) → q12 l a = 0
 | [], _, _ => rfl
 | x :: l, a, h => by
   have e : q12 (x :: l) a = (if x.b = a then x.v else 0) + q12 l a := by simp [q12]
   rw [e, if_neg (h x List.mem_cons_self), z4y l a (fun y hy => h y (List.mem_cons_of_mem _ hy))]
   rfl
theorem z1d {l : List Leg} {i : Nat} (h : ∀ j, j < i → q37 l j = 0) : ∀ x ∈ l.take i, x.fault = 0 := fun x hx => by
 obtain ⟨j, hj⟩ := List.mem_iff_getElem?.1 hx
 rw [List.getElem?_take] at hj
 split at hj
 · rename_i hlt
   have := h j hlt
   simp only [q37, hj] at this
   split at this
   · exact absurd this ‹_›
   · simp_all
 · cases hj
theorem y6r {l : List Leg} (h : ∀ a, q12 l a = 0) : z1q l = false := by simp [z1q, h]
theorem q34 {l : List Leg} (hf : ∀ x ∈ l, x.fault = 0) {a : Int} (h : q12 l a ≠ 0) : z1q l = true := by
 have : ∃ x ∈ l, x.b = a := by
  by_cases hx : ∃ x ∈ l, x.b = a
  · exact hx
  · exact absurd (z4y l a (fun x hm e => hx ⟨x, hm, e⟩)) h
 obtain ⟨x, hm, rfl⟩ := this
 have h0 := (Leg.z0d (hf x hm)).2.2.1
 have : x.b = 0 ∨ x.b = 1 ∨ x.b = 2 := by omega
 rcases this with e | e | e <;> rw [e] at h <;> simp [z1q, h]
def q4s (l : List Leg) : List (List Cell) := [[i64 (q12 l 0)], [i64 (q12 l 1)], [i64 (q12 l 2)]]
theorem z4t {l : List Leg} {b : Int} (h0 : 0 ≤ b) (h2 : b ≤ 2) : (q4s l)[b.toNat]? = some [i64 (q12 l b)] := by
 have : b = 0 ∨ b = 1 ∨ b = 2 := by omega
 rcases this with rfl | rfl | rfl <;> rfl
theorem z6o {l : List Leg} {i : Nat} {x : Leg} (hi : l[i]? = some x) (h0 : 0 ≤ x.b) (h2 : x.b ≤ 2) (hd : ∀ y ∈ l.take i, y.fault = 0) (hx : x.fault = 0) (hn : i ≤ 8) :
 (q4s (l.take i)).set x.b.toNat [i64 (IntKind.i64.wrap (q12 (l.take i) x.b + x.v))] = q4s (l.take (i + 1)) := by
 have hb := z48 (l.take i) x.b (fun y hy => (Leg.z0d (hd y hy)).2.2.2.1)
 have hs := (Leg.z0d hx).2.2.2.1
 unfold Leg.small at hs
 have hlen : (l.take i).length ≤ 8 := by rw [List.length_take]; omega
 rw [wrap_i64 (by omega) (by omega)]
 unfold q4s
 rw [z20 hi, z20 hi, z20 hi]
 have : x.b = 0 ∨ x.b = 1 ∨ x.b = 2 := by omega
 rcases this with e | e | e <;> rw [e] <;> simp
def SM (l : List Leg) (D : DataW Unit) : Prop := Maps.IsMap D ∧ ∀ a : Int, D.atKey (.int .i64 a) (.lit (.int .i64 0)) = .lit (.int .i64 (q12 l a))
theorem qaa : SM [] (.map []) := ⟨Maps.isMap_empty, fun _ => rfl⟩
theorem y0z {k : IntKind} {a b : Int} (h : (DataW.lit (.int k a) : DataW Unit) = .lit (.int k b)) : a = b := by simpa using h
theorem q6x {l : List Leg} {i : Nat} {x : Leg} {D : DataW Unit} (h : SM (l.take i) D) (hx : x.fault = 0) (hd : ∀ y ∈ l.take i, y.fault = 0) (hn : i ≤ 8) {c : Int} (hc : D.atKey (.int .i64 x.b) (.lit (.int .i64 0)) = .lit (.int .i64 c)) :
 c = q12 (l.take i) x.b ∧ IntKind.i64.wrap (c + x.v) = q12 (l.take i) x.b + x.v := by
 have e : c = q12 (l.take i) x.b := y0z (hc.symm.trans (h.2 x.b))
 have b := z48 (l.take i) x.b (fun y hy => (Leg.z0d (hd y hy)).2.2.2.1)
 have hs := (Leg.z0d hx).2.2.2.1
 unfold Leg.small at hs
 have hlen : (l.take i).length ≤ 8 := by rw [List.length_take]; omega
 refine ⟨e, ?_⟩
 rw [e, wrap_i64 (by omega) (by omega)]
theorem z9f {l : List Leg} {i : Nat} {x : Leg} {D : DataW Unit} (h : SM (l.take i) D) (hi : l[i]? = some x) (hx : x.fault = 0) (hd : ∀ y ∈ l.take i, y.fault = 0) (hn : i ≤ 8) {c : Int} (hc : D.atKey (.int .i64 x.b) (.lit (.int .i64 0)) = .lit (.int .i64 c)) :
 SM (l.take (i + 1)) (D.put (.int .i64 x.b) (.lit (.int .i64 (IntKind.i64.wrap (c + x.v))))) := by
 refine ⟨h.1.put _ _, fun a => ?_⟩
 rw [z20 hi, (q6x h hx hd hn hc).2]
 by_cases ha : x.b = a
 · rw [if_pos ha, ← ha]
   exact Maps.atKey_put_same (k := .int .i64 x.b) h.1 trivial _ _
 · rw [if_neg ha, Maps.atKey_put_other (by intro e'; injection e' with _ e'; exact ha e'.symm), h.2 a]
   simp
theorem wfi {n : Int} (h1 : -9223372036854775808 ≤ n) (h2 : n ≤ 9223372036854775807) : (Lit.int .i64 n).wf = true := by
 simp [Lit.wf, IntKind.min, IntKind.max, IntKind.signed, IntKind.bits]; omega
theorem qak {l : List Leg} {left : Lit → Bool} {y c : Int} (h : ∀ a : Int, left (.int .i64 a) = false → q12 l a = 0) (hc : q12 l y = c) (h0 : c = 0) : ∀ a : Int, (left (.int .i64 a) && !(Lit.int .i64 a).sameKey (.int .i64 y)) = false → q12 l a = 0 := fun a ha => by
 by_cases e : a = y
 · subst e; rw [hc]; exact h0
 · refine h a ?_
   have h1 : (Lit.int IntKind.i64 a).sameKey (Lit.int IntKind.i64 y) = false := Maps.sameKey_ne (fun h => e (by injection h))
   simpa [h1] using ha
theorem q9e {l : List Leg} {D : DataW Unit} (h : SM l D) : ∀ a : Int, Maps.has D (.int .i64 a) = false → q12 l a = 0 := fun a ha => y0z ((h.2 a).symm.trans (Maps.atKey_of_not_has ha _))
theorem qaz {l : List Leg} {D : DataW Unit} (h : SM l D) {y c : Int} (hat : ∀ zd, D.atKey (.int .i64 y) zd = .lit (.int .i64 c)) : q12 l y = c := y0z ((h.2 y).symm.trans (hat _))
def z5s {α : Type} (f : α → Int) (us : List α) : Prop := ∀ (i j : Nat) (x y : α), i < j → us[i]? = some x → us[j]? = some y → f y ≤ 0 → f x < 0
theorem z2j {α : Type} {f : α → Int} {us : List α} (hs : z5s f us) {i : Nat} {x : α} (hx : us[i]? = some x) (h0 : f x = 0) : bsP f us = i ∧ bsF f us = true := by
 have hi : i < us.length := (List.getElem?_eq_some_iff.1 hx).1
 have hp : bsP f us = i := qae (n := us.length) (fun k hk => by
  obtain ⟨y, hy⟩ := gx hk
  rw [q1q hy]
  rcases Nat.lt_trichotomy k i with h | h | h
  · have := hs k i y x h hy hx (by omega)
    rw [decide_eq_true this, decide_eq_true h]
  · subst h; rw [hx] at hy; cases hy; rw [decide_eq_false (by omega), decide_eq_false (by omega)]
  · have : ¬ f y < 0 := fun h1 => by have := hs i k x y h hx hy (by omega); omega
    rw [decide_eq_false this, decide_eq_false (by omega)]) 0 us.length (Nat.zero_le _) (Nat.le_of_lt hi) (Nat.le_refl _)
 refine ⟨hp, ?_⟩
 rw [z1r hp hx, h0]; rfl
theorem z3s {α : Type} {f : α → Int} {us : List α} (h : ∀ (i : Nat) (x : α), us[i]? = some x → f x ≠ 0) : bsF f us = false := by
 unfold bsF
 split
 · rename_i x hx; have := h _ x hx; simpa using this
 · rfl
theorem y2j {α : Type} {key : α → Int} {us : List α} (h : ∀ (j : Nat) (p x : α), us[j]? = some p → us[j + 1]? = some x → key p < key x) : ∀ (i j : Nat) (x y : α), i < j → us[i]? = some x → us[j]? = some y → key x < key y := by
 intro i j
 induction j with
 | zero => intro x y hij; omega
 | succ j ih =>
   intro x y hij hx hy
   have hj : j < us.length := by have := (List.getElem?_eq_some_iff.1 hy).1; omega
   obtain ⟨z, hz⟩ := gx hj
   have h1 := h j z y hz hy
   rcases Nat.lt_or_ge i j with h2 | h2
   · have := ih x z h2 hx hz; omega
   · have : i = j := by omega
     subst this; rw [hx] at hz; cases hz; exact h1
theorem q9j {a b : Int} : q08 a b ≤ 0 ↔ a ≤ b := by unfold q08; split <;> (try split) <;> omega
theorem z9k {a b : Int} : q08 a b < 0 ↔ a < b := by unfold q08; split <;> (try split) <;> omega
theorem z3t {a b : Int} : q08 a b = 0 ↔ a = b := by unfold q08; split <;> (try split) <;> omega
theorem q1z {α : Type} {key : α → Int} {us : List α} (h : ∀ (i j : Nat) (x y : α), i < j → us[i]? = some x → us[j]? = some y → key x < key y) (c : Int) : z5s (fun x => q08 (key x) c) us := fun i j x y hij hx hy h0 => by
 have := h i j x y hij hx hy
 rw [q9j] at h0
 exact z9k.2 (by omega)
theorem q0z {us : List Mk} (h : zg us = 0) : ∀ (i j : Nat) (x y : Mk), i < j → us[i]? = some x → us[j]? = some y → x.c < y.c :=
 y2j (key := Mk.c) (fun j p x hp hx => by
  have hj := (List.getElem?_eq_some_iff.1 hx).1
  have := qu h (j + 1) hj
  simp only [y1v, hx] at this
  split at this
  · omega
  · split at this
    · rename_i ha
      rw [z8 (p := p) (by omega) (by simpa using hp)] at ha
      simpa using ha
    · omega)
theorem y27 {us : List Mk} (h : zg us = 0) (c : Int) : q1v us c = q0h us c := by
 by_cases hx : ∃ (i : Nat) (x : Mk), us[i]? = some x ∧ x.c = c
 · obtain ⟨i, x, hx, e⟩ := hx
   have hc := q0z h
   obtain ⟨h1, h2⟩ := z2j (q1z (key := Mk.c) hc c) hx (z3t.2 e)
   rw [← y4o h2 (by rw [h1]; exact hx)]
   exact (z14 hx (fun j y hj hy e' => by have := hc j i y x hj hy hx; omega) e).symm
 · have hn : ∀ (i : Nat) (x : Mk), us[i]? = some x → ¬ x.c = c := fun i x h1 h2 => hx ⟨i, x, h1, h2⟩
   rw [← z41 (z3s (f := fun x : Mk => q08 x.c c) (fun i x h1 => fun h2 => hn i x h1 (z3t.1 h2)))]
   exact (q1d hn).symm
theorem y3f {us : List Bal} (h : zj us = 0) : us.length ≤ 18 ∧ (∀ x ∈ us, x.bad = false) ∧ ∀ (i j : Nat) (x y : Bal), i < j → us[i]? = some x → us[j]? = some y → x.key < y.key := by
 unfold zj at h
 split at h
 · omega
 · rename_i hl
   refine ⟨by omega, fun x hx => ?_, y2j (key := Bal.key) (fun j p x hp hx => ?_)⟩
   · obtain ⟨j, hj⟩ := List.mem_iff_getElem?.1 hx
     exact q55 hj (qu h j (List.getElem?_eq_some_iff.1 hj).1)
   · have hj := (List.getElem?_eq_some_iff.1 hx).1
     have := qu h (j + 1) hj
     simp only [y29, hx] at this
     split at this
     · omega
     · split at this
       · rename_i ha
         rw [z8 (p := p) (by omega) (by simpa using hp)] at ha
         simpa using ha
       · omega
theorem y4s {x : Bal} {a b : Int} : z08 x ⟨a, b, 0⟩ = 0 ↔ x.a = a ∧ x.b = b := by
 unfold z08 q08 orr orr orr
 dsimp only
 repeat' split
 all_goals omega
theorem z43 {x y t : Bal} (hx : x.bad = false) (hy : y.bad = false) (h : x.key < y.key) (h0 : z08 y t ≤ 0) : z08 x t < 0 := by
 simp [Bal.bad, within] at hx hy
 unfold Bal.key at h
 revert h0
 unfold z08 q08 orr orr orr
 intro h0
 repeat' split
 all_goals (repeat' split at h0)
 all_goals omega
theorem q5s {us : List Bal} (h : zj us = 0) (a b : Int) : z4b us a b = hasB us a b := by
 obtain ⟨_, hb, hc⟩ := y3f h
 by_cases hx : ∃ (i : Nat) (x : Bal), us[i]? = some x ∧ x.a = a ∧ x.b = b
 · obtain ⟨i, x, hx, e⟩ := hx
   have hs : z5s (fun x : Bal => z08 x ⟨a, b, 0⟩) us := fun i j x y hij h1 h2 h0 => z43 (hb x (List.mem_of_getElem? h1)) (hb y (List.mem_of_getElem? h2)) (hc i j x y hij h1 h2) h0
   obtain ⟨h1, h2⟩ := z2j hs hx (y4s.2 e)
   rw [← z5t h2 (by rw [h1]; exact hx)]
   exact (z3x hx (fun j y hj hy e' => by
    have h3 := hc j i y x hj hy hx
    have h4 : y.key = x.key := by unfold Bal.key; rw [e'.1, e'.2, e.1, e.2]
    omega) e).symm
 · have hn : ∀ (i : Nat) (x : Bal), us[i]? = some x → ¬ (x.a = a ∧ x.b = b) := fun i x h1 h2 => hx ⟨i, x, h1, h2⟩
   rw [← q54 (z3s (f := fun x : Bal => z08 x ⟨a, b, 0⟩) (fun i x h1 => fun h2 => hn i x h1 (y4s.1 h2)))]
   exact (y2u hn).symm
theorem z9m {us : List Bal} (h : ∀ x ∈ us, x.bad = false) (a b : Int) : 0 ≤ hasB us a b ∧ hasB us a b ≤ 1000000000000 := by
 induction us with
 | nil => simp [hasB]
 | cons y us ih =>
   rw [hasB]
   split
   · have := h y List.mem_cons_self
     simp [Bal.bad, within] at this
     omega
   · exact ih (fun x hx => h x (List.mem_cons_of_mem _ hx))
def y1h (mk : List Mk → Int → Int) (s : Shd) (i : Nat) : Int := match s.held[i]? with
 | some c => if ql c ≠ 0 then ql c else if (!(ahead (fun p x : Con => decide (p.id < x.id)) s.held i c)) || ((zl c s.idx).length == 0 || (mk s.votes c.id != 1 || mk s.done c.id != 0)) then 1 else 0
 | none => 0
def qn (mk : List Mk → Int → Int) (s : Shd) : Int := scan (y1h mk s) s.held.length
def y6m (s : Shd) (m : Mk) : Bool := m.v == 1 && (!(bsF (fun x : Con => q08 x.id m.c) s.held) && q1v s.done m.c == 0)
def y3c (s : Shd) (m : Mk) : Bool := m.v == 1 && (!(z3z s.held m.c) && q0h s.done m.c == 0)
def q6k (s : Shd) (a b : Con) : Bool := (zl a s.idx).any fun l => (zl b s.idx).any fun m => l.same m
def q1j (s : Shd) (i : Nat) : Int := match s.held[i]? with | some c => if (s.held.take i).any fun own => q6k s own c then 7 else 0 | none => 0
def z17 (s : Shd) (i : Nat) : Int := match s.held[i]? with | some c => if (s.held.take i).any fun own => z52 (zl c s.idx) (zl own s.idx) then 7 else 0 | none => 0
def y3j (us : List Bal) (ls : List Leg) (i : Nat) : Int := match ls[i]? with | some l => q8n us l | none => 0
def y1j (us : List Bal) (ls : List Leg) : Int := scan (y3j us ls) ls.length
def q6f (code : List Bal → List Leg → Int) (s : Shd) (i : Nat) : Int := match s.held[i]? with | some c => code s.bals (zl c s.idx) | none => 0
def q03 (meet : Shd → Nat → Int) (code : List Bal → List Leg → Int) (s : Shd) : Int := if scan (meet s) s.held.length ≠ 0 then scan (meet s) s.held.length else scan (q6f code s) s.held.length
theorem z04 {c : Con} (h : ql c = 0) : (1 ≤ c.id ∧ c.id ≤ 1000000000) ∧ (2 ≤ c.legs.length ∧ c.legs.length ≤ 8) ∧ ∀ l ∈ c.legs, l.fault = 0 := by
 unfold ql at h
 split at h
 · rename_i h1
   split at h
   · rename_i h2
     split at h
     · rename_i h3; exact absurd h h3
     · rename_i h3
       have h3 : scan (q37 c.legs) c.legs.length = 0 := by simpa using h3
       refine ⟨Go.Sx.within_iff.1 h1, h2, fun l hl => ?_⟩
       exact z1d (i := c.legs.length) (qu h3) l (by rwa [List.take_length])
   · omega
 · omega
theorem q3x {mk : List Mk → Int → Int} {s : Shd} (h : qn mk s = 0) : ∀ c ∈ s.held, ql c = 0 := fun c hc => by
 obtain ⟨j, hj⟩ := List.mem_iff_getElem?.1 hc
 have := qu h j (List.getElem?_eq_some_iff.1 hj).1
 simp only [y1h, hj] at this
 split at this
 · rename_i h1; exact absurd this h1
 · rename_i h1; simpa using h1
theorem q6g {mk : List Mk → Int → Int} {s : Shd} (h : qn mk s = 0) : ∀ (i j : Nat) (x y : Con), i < j → s.held[i]? = some x → s.held[j]? = some y → x.id < y.id :=
 y2j (key := Con.id) (fun j p x hp hx => by
  have hj := (List.getElem?_eq_some_iff.1 hx).1
  have := qu h (j + 1) hj
  simp only [y1h, hx] at this
  split at this
  · rename_i h1; exact absurd this h1
  · split at this
    · omega
    · rename_i ha
      rw [z8 (p := p) (by omega) (by simpa using hp)] at ha
      simp at ha
      exact ha.1)
theorem q7e {s : Shd} (hb : zj s.bals = 0) {c : Con} (hc : ql c = 0) : ∀ l ∈ zl c s.idx, -9000000000000000000 ≤ hasB s.bals l.a l.b + l.v ∧ hasB s.bals l.a l.b + l.v ≤ 9000000000000000000 := fun l hl => by
 have h1 := z9m (y3f hb).2.1 l.a l.b
 have h2 := (Leg.z0d ((z04 hc).2.2 l (List.mem_filter.1 hl).1)).2.2.2.1
 unfold Leg.small at h2
 omega
theorem y8j {s : Shd} (hb : zj s.bals = 0) {c : Con} (hc : ql c = 0) : ∀ l ∈ zl c s.idx, -9000000000000000000 ≤ z4b s.bals l.a l.b + l.v ∧ z4b s.bals l.a l.b + l.v ≤ 9000000000000000000 := fun l hl => by
 rw [q5s hb]; exact q7e hb hc l hl
theorem y7k {us : List Bal} (h : zj us = 0) (ls : List Leg) : y1j us ls = z3c us ls := by
 unfold y1j z3c
 refine y0v (fun j hj _ => ?_)
 unfold y3j z6j
 cases ls[j]? with
 | some l => simp only [q8n, zaw, q5s h]
 | none => rfl
theorem z4k {s : Shd} (hv : zg s.votes = 0) (hd : zg s.done = 0) : qn q1v s = qn q0h s := by
 unfold qn
 refine y0v (fun j hj _ => ?_)
 unfold y1h
 split
 · rw [y27 hv, y27 hd]
 · rfl
theorem z7h {s : Shd} {mk : List Mk → Int → Int} (h : qn mk s = 0) (c : Int) : bsF (fun x : Con => q08 x.id c) s.held = z3z s.held c := by
 by_cases hx : ∃ (i : Nat) (x : Con), s.held[i]? = some x ∧ x.id = c
 · obtain ⟨i, x, hx, e⟩ := hx
   rw [(z2j (q1z (key := Con.id) (q6g h) c) hx (z3t.2 e)).2]
   exact zq hx (by simp [e])
 · have hn : ∀ (i : Nat) (x : Con), s.held[i]? = some x → ¬ x.id = c := fun i x h1 h2 => hx ⟨i, x, h1, h2⟩
   rw [z3s (f := fun x : Con => q08 x.id c) (fun i x h1 h2 => hn i x h1 (z3t.1 h2))]
   exact any_none (fun i x h1 => by simpa using hn i x h1)
theorem z6l (s : Shd) (a b : Con) : q6k s a b = z52 (zl b s.idx) (zl a s.idx) := by
 unfold q6k z52
 rw [Bool.eq_iff_iff]
 simp only [List.any_eq_true]
 have hs : ∀ {c : Con} {l : Leg}, l ∈ zl c s.idx → l.s = s.idx := fun {c l} hl => by simpa using (List.mem_filter.1 hl).2
 constructor
 · rintro ⟨l, hl, m, hm, h⟩
   refine ⟨m, hm, l, hl, ?_⟩
   simp [Leg.same] at h ⊢
   omega
 · rintro ⟨m, hm, l, hl, h⟩
   refine ⟨l, hl, m, hm, ?_⟩
   have h1 := hs hl
   have h2 := hs hm
   simp [Leg.same] at h ⊢
   omega
theorem z5p {s : Shd} (h : zj s.bals = 0) : q03 q1j y1j s = q03 z17 z3c s := by
 have e1 : scan (q1j s) s.held.length = scan (z17 s) s.held.length := y0v (fun j _ _ => by
  unfold q1j z17
  split
  · simp only [z6l]
  · rfl)
 have e2 : scan (q6f y1j s) s.held.length = scan (q6f z3c s) s.held.length := y0v (fun j _ _ => by
  unfold q6f
  split
  · exact y7k h _
  · rfl)
 unfold q03
 rw [e1, e2]
def y95 (s : Shd) (i : Nat) : Int := match s.app[i]? with | some a => if q0h s.done a != 1 || ((s.app.take i).any fun y => y == a) then 1 else 0 | none => 0
def z3a (us : List Mk) : Nat := (us.filter fun m => m.v == 1).length
theorem z6e {us : List Mk} {i : Nat} {x : Mk} (h : us[i]? = some x) : z3a (us.take (i + 1)) = z3a (us.take i) + (if x.v == 1 then 1 else 0) := by
 unfold z3a
 rw [y0x h, List.length_append]
 split <;> rfl
theorem q5w (us : List Mk) (i : Nat) : z3a (us.take i) ≤ i := by
 unfold z3a
 exact Nat.le_trans (List.length_filter_le _ _) (by rw [List.length_take]; omega)
def y5t (s : Shd) : Bool := scan (y95 s) s.app.length == 0 && z3a s.done == s.app.length
def many (s : Shd) : Bool := decide (100 < s.votes.length) || (decide (100 < s.held.length) || (decide (100 < s.done.length) || decide (100 < s.app.length)))
def q0v (s : Shd) : Int :=
 if qn q0h s ≠ 0 then qn q0h s else if s.votes.any (y3c s) then 1 else if y5t s then q03 z17 z3c s else 1
def zn (s : Shd) : Int :=
 if within s.idx 0 2 then (if zj s.bals ≠ 0 then zj s.bals else if many s then 2 else if zg s.votes ≠ 0 then zg s.votes else if zg s.done ≠ 0 then zg s.done else q0v s) else 3
def y1p (ok : Bool) (s : Shd) : Int :=
 if within s.idx 0 2 then (if zj s.bals ≠ 0 then zj s.bals else if many s then 2 else
  if orr [zg s.votes, zg s.done, qn q1v s] ≠ 0 then orr [zg s.votes, zg s.done, qn q1v s] else
  if s.votes.any (y6m s) || !ok then 1 else q03 q1j y1j s) else 3
theorem y45 (s : Shd) : y1p (y5t s) s = zn s := by
 unfold y1p zn q0v
 split
 · split
   · rfl
   · rename_i hb
     have hb : zj s.bals = 0 := by simpa using hb
     split
     · rfl
     · simp only [orr]
       by_cases hv : zg s.votes = 0
       · by_cases hd : zg s.done = 0
         · rw [z4k hv hd, z5p hb]
           by_cases hh : qn q0h s = 0
           · have : y6m s = y3c s := by
              funext m
              unfold y6m y3c
              rw [z7h hh, y27 hd]
             rw [this]
             simp only [hv, hd, hh]
             cases s.votes.any (y3c s) <;> cases y5t s <;> simp
           · simp [hv, hd, hh]
         · simp [hv, hd]
       · simp [hv]
 · rfl
theorem q9u (s : Shd) : decide (mx (mx (mx ((s.votes.map Mk.cs).length : Nat) ((s.held.map Con.cs).length : Nat)) ((s.done.map Mk.cs).length : Nat)) ((ints s.app).length : Nat) > 100) = many s := by
 unfold many
 simp only [List.length_map, ints]
 rw [Bool.eq_iff_iff]
 simp only [Bool.or_eq_true, decide_eq_true_eq]
 unfold mx
 repeat' split
 all_goals omega
theorem zbf {a b c : Int} (h : (orr [a, b, c] != 0) = false) : a = 0 ∧ b = 0 ∧ c = 0 := by
 simp only [orr] at h
 by_cases ha : a = 0 <;> by_cases hb : b = 0 <;> by_cases hc : c = 0 <;> simp_all
theorem y64 {s : Shd} {c : Int} (e : c = qn q0h s) (h : c ≠ 0) : c = q0v s := by unfold q0v; rw [if_pos (by rw [← e]; exact h)]; exact e
theorem y8w {s : Shd} (h : qn q0h s = 0) (ho : true = s.votes.any (y3c s)) : 1 = q0v s := by unfold q0v; rw [if_neg (by rw [h]; decide), if_pos ho.symm]
theorem q8w {s : Shd} (h : qn q0h s = 0) (ho : false = s.votes.any (y3c s)) (ha : y5t s = false) : 1 = q0v s := by unfold q0v; rw [if_neg (by rw [h]; decide), if_neg (by rw [← ho]; decide), if_neg (by rw [ha]; decide)]
theorem q45 {s : Shd} {c : Int} (h : qn q0h s = 0) (ho : false = s.votes.any (y3c s)) (ha : y5t s = true) (e : c = q03 z17 z3c s) : c = q0v s := by unfold q0v; rw [if_neg (by rw [h]; decide), if_neg (by rw [← ho]; decide), if_pos ha]; exact e
theorem y6t {meet : Shd → Nat → Int} {code : List Bal → List Leg → Int} {s : Shd} {c : Int} (e : c = scan (meet s) s.held.length) (h : c ≠ 0) : c = q03 meet code s := by unfold q03; rw [if_pos (by rw [← e]; exact h)]; exact e
theorem y3o {meet : Shd → Nat → Int} {code : List Bal → List Leg → Int} {s : Shd} {c : Int} (h : scan (meet s) s.held.length = 0) (e : c = scan (q6f code s) s.held.length) : c = q03 meet code s := by unfold q03; rw [if_neg (by rw [h]; decide)]; exact e
theorem q95 {t : Bool} {v : Int} (h : ((if t = true then v else 3) != 0) = false) : t = true ∧ v = 0 := by
 cases t with
 | true => exact ⟨rfl, by simpa using h⟩
 | false => simp at h
theorem z4v {s : Shd} (h : ((if within s.idx 0 2 = true then zj s.bals else 3) != 0) = true) : (if within s.idx 0 2 = true then zj s.bals else 3) = zn s := by
 unfold zn
 split
 · rename_i hw; rw [if_pos hw] at h; rw [if_pos (by simpa using h)]
 · rfl
theorem y4v {s : Shd} {c : Int} (h : within s.idx 0 2 = true ∧ zj s.bals = 0) (e : c = if many s then 2 else if zg s.votes ≠ 0 then zg s.votes else if zg s.done ≠ 0 then zg s.done else q0v s) : c = zn s := by
 unfold zn; rw [if_pos h.1, if_neg (by rw [h.2]; decide)]; exact e
theorem y7n {xs : List Int} : ∀ {ys : List Int}, xs.Nodup → (∀ x ∈ xs, x ∈ ys) → ∃ zs, ys.Perm (xs ++ zs) := by
 induction xs with
 | nil => intro ys _ _; exact ⟨ys, List.Perm.refl _⟩
 | cons x xs ih =>
   intro ys hn hm
   obtain ⟨hx, hn⟩ := List.nodup_cons.1 hn
   obtain ⟨zs, hz⟩ := ih (ys := ys.erase x) hn (fun y hy => (List.mem_erase_of_ne (fun e => hx (by rw [← e]; exact hy))).2 (hm y (List.mem_cons_of_mem _ hy)))
   exact ⟨zs, (List.perm_cons_erase (hm x List.mem_cons_self)).trans (hz.cons x)⟩
def dnI (us : List Mk) : List Int := (us.filter fun m => m.v == 1).map Mk.c
theorem y8f {us : List Mk} {i : Nat} {x : Mk} (h : us[i]? = some x) : dnI (us.take (i + 1)) = if x.v == 1 then dnI (us.take i) ++ [x.c] else dnI (us.take i) := by
 unfold dnI
 rw [y0x h, List.map_append]
 split
 · rfl
 · simp
theorem z78 (us : List Mk) : (dnI us).length = z3a us := by unfold dnI z3a; rw [List.length_map]
theorem q18 {α : Type} {r : α → α → Prop} : ∀ {us : List α}, (∀ (i j : Nat) (x y : α), i < j → us[i]? = some x → us[j]? = some y → r x y) → us.Pairwise r
 | [], _ => List.Pairwise.nil
 | x :: us, h => List.Pairwise.cons (fun y hy => by
     obtain ⟨j, hj⟩ := List.mem_iff_getElem?.1 hy
     exact h 0 (j + 1) x y (by omega) rfl (by simpa using hj)) (q18 (us := us) (fun i j a b hij ha hb => h (i + 1) (j + 1) a b (by omega) (by simpa using ha) (by simpa using hb)))
theorem y98 {us : List Mk} (h : zg us = 0) : (dnI us).Pairwise (· < ·) := by
 unfold dnI
 rw [List.pairwise_map]
 exact (q18 (r := fun a b : Mk => a.c < b.c) (q0z h)).sublist List.filter_sublist
theorem z5f {us : List Int} (h : us.Pairwise (· < ·)) : us.Nodup := h.imp (fun h => by omega)
theorem z7m {us : List Mk} (h : zg us = 0) (c : Int) : c ∈ dnI us ↔ q0h us c = 1 := by
 unfold dnI
 rw [List.mem_map]
 constructor
 · rintro ⟨m, hm, rfl⟩
   obtain ⟨hm, hv⟩ := List.mem_filter.1 hm
   obtain ⟨i, hi⟩ := List.mem_iff_getElem?.1 hm
   rw [z14 hi (fun j y hj hy e => by have := q0z h j i y m hj hy hi; omega) rfl]
   simpa using hv
 · intro hc
   by_cases hx : ∃ (i : Nat) (x : Mk), us[i]? = some x ∧ x.c = c
   · obtain ⟨i, x, hx, e⟩ := hx
     have := z14 hx (fun j y hj hy e' => by have := q0z h j i y x hj hy hx; omega) e
     exact ⟨x, List.mem_filter.2 ⟨List.mem_of_getElem? hx, by simp; omega⟩, e⟩
   · have hn : ∀ (i : Nat) (x : Mk), us[i]? = some x → ¬ x.c = c := fun i x h1 h2 => hx ⟨i, x, h1, h2⟩
     rw [q1d hn] at hc; omega
theorem z7n : ∀ {us : List Int}, (∀ (i : Nat) (x : Int), us[i]? = some x → ¬ x ∈ us.take i) → us.Nodup := by
 intro us h
 exact q18 (fun i j x y hij hx hy e => h j y hy (by
  rw [← e]
  exact List.mem_iff_getElem?.2 ⟨i, by rw [List.getElem?_take_of_lt hij]; exact hx⟩))
theorem z8a {s : Shd} (h : zg s.done = 0) : y5t s = true ↔ (∀ x ∈ s.app, x ∈ dnI s.done) ∧ s.app.Nodup ∧ (dnI s.done).length = s.app.length := by
 unfold y5t
 rw [z78]
 simp only [Bool.and_eq_true, beq_iff_eq]
 rw [← and_assoc]
 refine and_congr_left (fun _ => ?_)
 constructor
 · intro h0
   have hz : ∀ (i : Nat) (x : Int), s.app[i]? = some x → q0h s.done x = 1 ∧ ¬ x ∈ s.app.take i := fun i x hx => by
    have := qu h0 i (List.getElem?_eq_some_iff.1 hx).1
    simp only [y95, hx] at this
    split at this
    · omega
    · rename_i h1
      simp at h1
      exact ⟨h1.1, h1.2⟩
   refine ⟨fun x hx => ?_, z7n fun i x hx => (hz i x hx).2⟩
   obtain ⟨i, hi⟩ := List.mem_iff_getElem?.1 hx
   exact (z7m h x).2 (hz i x hi).1
 · rintro ⟨h1, h2⟩
   refine qc (fun i hi => ?_)
   obtain ⟨x, hx⟩ := gx hi
   simp only [y95, hx]
   rw [if_neg]
   have e := (z7m h x).1 (h1 x (List.mem_of_getElem? hx))
   have e2 : ¬ x ∈ s.app.take i := fun hm => by
    obtain ⟨j, hj⟩ := List.mem_iff_getElem?.1 hm
    have hji : j < i := by have := (List.getElem?_eq_some_iff.1 hj).1; rw [List.length_take] at this; omega
    rw [List.getElem?_take_of_lt hji] at hj
    obtain ⟨q1, q2⟩ := List.getElem?_eq_some_iff.1 hj
    obtain ⟨q3, q4⟩ := List.getElem?_eq_some_iff.1 hx
    have := (List.pairwise_iff_getElem.1 h2) j i q1 q3 hji
    exact this (by rw [q2, q4])
   simp [e]
   exact e2
def z0i (xs : List Int) : List Int := xs.mergeSort (fun a b => decide (a ≤ b))
theorem z6a {s : Shd} (h : zg s.done = 0) : (z0i s.app == dnI s.done) = y5t s := by
 rw [Bool.eq_iff_iff, z8a h, beq_iff_eq]
 unfold z0i
 have hp := List.mergeSort_perm s.app (fun a b : Int => decide (a ≤ b))
 constructor
 · intro e
   rw [e] at hp
   exact ⟨fun x hx => hp.symm.subset hx, hp.nodup_iff.1 (z5f (y98 h)), hp.length_eq⟩
 · rintro ⟨h1, h2, h3⟩
   obtain ⟨zs, hz⟩ := y7n h2 h1
   have hl := hz.length_eq
   rw [List.length_append] at hl
   have hz0 : zs = [] := List.eq_nil_of_length_eq_zero (by omega)
   subst hz0
   rw [List.append_nil] at hz
   refine List.Perm.eq_of_pairwise (le := fun a b : Int => decide (a ≤ b) = true) (fun a b _ _ h1 h2 => by simp at h1 h2; omega) (List.pairwise_mergeSort (fun a b c h1 h2 => by simp at h1 h2 ⊢; omega) (fun a b => by simp; omega) _) ((y98 h).imp (fun h => by simp; omega)) (hp.trans hz.symm)
structure Msg where
 (k to fr c s b v ob ov : Int)
abbrev Msg.cs (m : Msg) : List Cell := [i64 m.k, i64 m.to, i64 m.fr, i64 m.c, i64 m.s, i64 m.b, i64 m.v, i64 m.ob, i64 m.ov]
structure Tr where
 (c s b v : Int)
 fr : List Int
 olds : List Vt
abbrev Tr.cs (t : Tr) : List Cell := [i64 t.c, i64 t.s, i64 t.b, i64 t.v, .l (ints t.fr), .l (t.olds.map Vt.cs)]
structure Hd where
 (c s b v f : Int)
abbrev Hd.cs (h : Hd) : List Cell := [i64 h.c, i64 h.s, i64 h.b, i64 h.v, i64 h.f]
structure Ldr where
 n : Int
 tries : List Tr
 known : List Hd
abbrev Ldr.cs (l : Ldr) : List Cell := [i64 l.n, .l (l.tries.map Tr.cs), .l (l.known.map Hd.cs)]
structure Clu where
 cons : List Con
 shs : List Shd
 accs : List Acc
 ldrs : List Ldr
 msgs : List Msg
abbrev Clu.cs (c : Clu) : List Cell := [.l (c.cons.map Con.cs), .l (c.shs.map Shd.cs), .l (c.accs.map Acc.cs), .l (c.ldrs.map Ldr.cs), .l (c.msgs.map Msg.cs)]
instance instDecidableEqLeg : DecidableEq Leg := fun x y =>
 if h : x.s = y.s ∧ x.a = y.a ∧ x.b = y.b ∧ x.v = y.v then isTrue (by cases x; cases y; simp_all) else isFalse (fun e => h (by subst e; exact ⟨rfl, rfl, rfl, rfl⟩))
def qbc (s : Shd) : Prop := s.bals.length ≤ 1048576 ∧ s.votes.length ≤ 1048576 ∧ s.held.length ≤ 1048576 ∧ s.done.length ≤ 1048576 ∧ s.app.length ≤ 1048576 ∧ ∀ c ∈ s.held, c.legs.length ≤ 1048576
def z2f (a : Acc) : Prop := a.slots.length ≤ 1048576 ∧ ∀ s ∈ a.slots, s.cast.length ≤ 1048576
def yab (t : Tr) : Prop := t.fr.length ≤ 1048576 ∧ t.olds.length ≤ 1048576
def y9e (l : Ldr) : Prop := l.tries.length ≤ 1048576 ∧ l.known.length ≤ 1048576 ∧ ∀ t ∈ l.tries, yab t
def y01 (c : Clu) : Prop := (c.cons.length ≤ 1048576 ∧ ∀ x ∈ c.cons, x.legs.length ≤ 1048576) ∧ (c.shs.length ≤ 1048576 ∧ ∀ s ∈ c.shs, qbc s) ∧ (c.accs.length ≤ 1048576 ∧ ∀ a ∈ c.accs, z2f a) ∧ (c.ldrs.length ≤ 1048576 ∧ ∀ l ∈ c.ldrs, y9e l) ∧ c.msgs.length ≤ 1048576
def zag (c : Con) (s : Int) : Bool := c.legs.any fun l => l.s == s
def y0e (cs : List Con) (id : Int) : Option Con := cs.find? fun c => c.id == id
def y0u (cs : List Con) (id s : Int) : Bool := match y0e cs id with | some c => zag c s | none => false
theorem y0y {α : Type} {p : α → Bool} : ∀ {l : List α} {x : α}, l.find? p = some x → ∃ i : Nat, y14 p l = i ∧ l[i]? = some x
 | y :: l, x, h => by
   rw [List.find?_cons] at h
   by_cases hy : p y = true
   · rw [hy] at h; cases h; exact ⟨0, by rw [y14, if_pos hy]; rfl, rfl⟩
   · rw [show p y = false by simpa using hy] at h
     obtain ⟨i, h1, h2⟩ := y0y h
     exact ⟨i + 1, by rw [y14, if_neg hy, h1, if_neg (by omega)]; omega, by simpa using h2⟩
theorem q14 {α : Type} {p : α → Bool} : ∀ {l : List α}, l.find? p = none → y14 p l = -1
 | [], _ => rfl
 | y :: l, h => by
   rw [List.find?_cons] at h
   by_cases hy : p y = true
   · rw [hy] at h; cases h
   · rw [show p y = false by simpa using hy] at h
     rw [y14, if_neg hy, q14 h]; rfl
theorem q6j (c : Con) (s : Int) : decide (0 < (zl c s).length) = zag c s := by
 unfold zl zag
 rw [Bool.eq_iff_iff, decide_eq_true_eq, List.length_pos_iff_exists_mem, List.any_eq_true]
 simp only [List.mem_filter]
theorem q41 {x v : Int} : ∀ {l : List Int}, x ∈ q3c l v ↔ x = v ∨ x ∈ l
 | [] => by simp [q3c]
 | y :: l => by
   rw [q3c]
   split
   · rw [List.mem_cons, q41 (l := l), List.mem_cons]
     constructor
     · rintro (h | h | h) <;> simp [h]
     · rintro (h | h | h) <;> simp [h]
   · split
     · rename_i h; subst h; simp
     · simp
theorem z5h {v : Int} : ∀ {l : List Int} {i : Nat}, i ≤ l.length → (∀ (j : Nat) (x : Int), j < i → l[j]? = some x → x < v) → (∀ x, l[i]? = some x → ¬ x < v) → q3c l v = if l[i]? = some v then l else l.take i ++ v :: l.drop i
 | [], i, hi, _, _ => by
   have : i = 0 := by simpa using hi
   subst this; rfl
 | y :: l, 0, _, _, h1 => by
   have hy := h1 y rfl
   rw [q3c, if_neg hy]
   by_cases e : y = v
   · subst e; simp
   · rw [if_neg e, if_neg (by simpa using e)]; rfl
 | y :: l, i + 1, hi, h0, h1 => by
   have hy := h0 0 y (by omega) rfl
   rw [q3c, if_pos hy, z5h (l := l) (i := i) (by simpa using hi) (fun j x hj hx => h0 (j + 1) x (by omega) (by simpa using hx)) (fun x hx => h1 x (by simpa using hx))]
   simp only [List.getElem?_cons_succ]
   split
   · rfl
   · simp
theorem q7q {v : Int} : ∀ {l : List Int}, l.Pairwise (· < ·) → (q3c l v).Pairwise (· < ·)
 | [], _ => by simp [q3c]
 | x :: l, h => by
   obtain ⟨h1, h2⟩ := List.pairwise_cons.1 h
   rw [q3c]
   split
   · rename_i hx
     refine List.pairwise_cons.2 ⟨fun y hy => ?_, q7q h2⟩
     rcases q41.1 hy with rfl | hy
     · exact hx
     · exact h1 y hy
   · split
     · exact h
     · refine List.pairwise_cons.2 ⟨fun y hy => ?_, h⟩
       rcases List.mem_cons.1 hy with rfl | hy
       · omega
       · have := h1 y hy; omega
theorem z1n {l : List Int} {v : Int} {i : Nat} (hs : l.Pairwise (· < ·)) (h0 : ∀ (j : Nat) (x : Int), j < i → l[j]? = some x → x < v) (h1 : ∀ x, l[i]? = some x → ¬ x < v) : l.contains v = (l[i]? == some v) := by
 rw [Bool.eq_iff_iff, List.contains_iff_mem, beq_iff_eq]
 constructor
 · intro hm
   obtain ⟨j, hj⟩ := List.mem_iff_getElem?.1 hm
   rcases Nat.lt_trichotomy j i with h | h | h
   · have := h0 j v h hj; omega
   · subst h; exact hj
   · obtain ⟨hj1, hj2⟩ := List.getElem?_eq_some_iff.1 hj
     have hi : i < l.length := by omega
     have := (List.pairwise_iff_getElem.1 hs) i j hi hj1 h
     have := h1 l[i] (List.getElem?_eq_getElem hi)
     omega
 · exact fun h => List.mem_of_getElem? h
theorem q62 {v : Int} : ∀ {l : List Int}, l.Pairwise (· < ·) → l.contains v = true → q3c l v = l
 | [], _, h => by simp at h
 | x :: l, hs, h => by
   obtain ⟨h1, h2⟩ := List.pairwise_cons.1 hs
   rw [q3c]
   by_cases e : x = v
   · rw [if_neg (by omega), if_pos e]
   · have hm : v ∈ l := by
      rw [List.contains_iff_mem] at h
      rcases List.mem_cons.1 h with rfl | h
      · exact absurd rfl e
      · exact h
     rw [if_pos (h1 v hm), q62 h2 (by rw [List.contains_iff_mem]; exact hm)]
def shF (ls : List Leg) : List Int := ls.foldl (fun l x => q3c l x.s) []
theorem z64 {ls : List Leg} {i : Nat} {x : Leg} (h : ls[i]? = some x) : shF (ls.take (i + 1)) = q3c (shF (ls.take i)) x.s := by
 unfold shF
 rw [List.take_add_one, h, List.foldl_append]; rfl
theorem y2x {x : Int} : ∀ {ls : List Leg} {l : List Int}, x ∈ ls.foldl (fun l x => q3c l x.s) l ↔ x ∈ l ∨ ∃ y ∈ ls, y.s = x
 | [], l => by simp
 | y :: ls, l => by
   rw [List.foldl_cons, y2x (ls := ls), q41]
   constructor
   · rintro ((h | h) | ⟨z, h, e⟩)
     · exact .inr ⟨y, List.mem_cons_self, h.symm⟩
     · exact .inl h
     · exact .inr ⟨z, List.mem_cons_of_mem _ h, e⟩
   · rintro (h | ⟨z, h, e⟩)
     · exact .inl (.inr h)
     · rcases List.mem_cons.1 h with rfl | h
       · exact .inl (.inl e.symm)
       · exact .inr ⟨z, h, e⟩
theorem qa1 (c : Con) (s : Int) : (shF c.legs).any (fun y => y == s) = zag c s := by
 unfold zag shF
 rw [Bool.eq_iff_iff, List.any_eq_true, List.any_eq_true]
 simp only [y2x, List.not_mem_nil, false_or, beq_iff_eq]
 constructor
 · rintro ⟨x, ⟨y, h, e⟩, e2⟩; exact ⟨y, h, by rw [e, e2]⟩
 · rintro ⟨y, h, e⟩; exact ⟨s, ⟨y, h, e⟩, rfl⟩
theorem y8r {l : List Int} {v : Int} : (q3c l v).length ≤ l.length + 1 := by
 induction l with
 | nil => simp [q3c]
 | cons x l ih =>
   rw [q3c]
   split
   · simp; omega
   · split <;> simp
theorem q1b : ∀ (ls : List Leg) (i : Nat), (shF (ls.take i)).length ≤ i
 | ls, 0 => by simp [shF]
 | ls, i + 1 => by
   cases h : ls[i]? with
   | some x => rw [z64 h]; have := q1b ls i; have := y8r (l := shF (ls.take i)) (v := x.s); omega
   | none => rw [List.take_add_one, h]; simp; have := q1b ls i; omega
theorem z4u (ls : List Leg) : (shF ls).Pairwise (· < ·) := by
 unfold shF
 have : ∀ (ls : List Leg) (l : List Int), l.Pairwise (· < ·) → (ls.foldl (fun l x => q3c l x.s) l).Pairwise (· < ·) := by
  intro ls
  induction ls with
  | nil => intro l h; exact h
  | cons y ls ih => intro l h; exact ih _ (q7q h)
 exact this ls [] List.Pairwise.nil
def toN (c : Clu) (m : Msg) : Nat := if m.k = 1 ∨ m.k = 6 then c.shs.length else if m.k = 3 ∨ m.k = 5 then c.ldrs.length else c.accs.length
def frN (c : Clu) (m : Msg) : Nat := if m.k = 4 then c.ldrs.length else c.accs.length
def ends (c : Clu) (m : Msg) : Bool := within m.to 0 ((toN c m : Int) - 1) && (decide (m.k < 3) || decide (5 < m.k) || within m.fr 0 ((frN c m : Int) - 1))
def Msg.shd (m : Msg) : Int := if m.k = 1 ∨ m.k = 6 then m.to else m.s
def ranges (c : Clu) (m : Msg) : Bool := y0u c.cons m.c m.shd && (!(decide (2 ≤ m.k) && decide (m.k ≤ 5)) || within m.b 0 1000) && (!(m.k == 2 || m.k == 3 || m.k == 6) || within m.v 1 2) && (!(m.k == 5) || (m.ob == -1 && m.ov == 0) || (Vt.ok ⟨m.ob, m.ov⟩))
def Msg.bare (m : Msg) : Msg :=
 ⟨m.k, m.to, if 3 ≤ m.k ∧ m.k ≤ 5 then m.fr else 0, m.c, if 2 ≤ m.k ∧ m.k ≤ 5 then m.s else 0, if 2 ≤ m.k ∧ m.k ≤ 5 then m.b else 0, if m.k = 2 ∨ m.k = 3 ∨ m.k = 6 then m.v else 0, if m.k = 5 then m.ob else 0, if m.k = 5 then m.ov else 0⟩
def Msg.same (m n : Msg) : Bool := m.k == n.k && m.to == n.to && m.fr == n.fr && m.c == n.c && m.s == n.s && m.b == n.b && m.v == n.v && m.ob == n.ob && m.ov == n.ov
def q0d (c : Clu) (m : Msg) : Int :=
 if !(within m.k 1 6) then 5 else if !(ends c m) then 3 else if (y0e c.cons m.c).isNone then 4 else if !(ranges c m) then 3 else if !(m.same m.bare) then 1 else 0
def ya5 (c : Clu) (x : Con) : Bool := x.legs.any fun l => !(within l.s 0 ((c.shs.length : Int) - 1))
def z09 (c : Clu) (i : Nat) : Int := match c.cons[i]? with
 | some x => if ql x ≠ 0 then ql x else if ya5 c x then 4 else if ahead (fun p x : Con => decide (p.id < x.id)) c.cons i x then 0 else 1
 | none => 0
def Con.same (a b : Con) : Bool := a.id == b.id && decide (a.legs = b.legs)
def y2i (c : Clu) (h : Con) : Bool := match y0e c.cons h.id with | some x => !(x.same h) | none => true
def z8x (c : Clu) (i : Nat) (s : Shd) : Int :=
 if zn s ≠ 0 then zn s
 else if s.idx ≠ i then 1
 else if (s.votes.any fun m => !(y0u c.cons m.c i)) || (s.done.any fun m => !(y0u c.cons m.c i)) then 1
 else if s.held.any (y2i c) then 1 else 0
def y1z (c : Clu) (i : Nat) : Int := match c.shs[i]? with | some s => z8x c i s | none => 0
def y94 (c : Clu) (a : Acc) : Int := if a.fault ≠ 0 then a.fault else if a.slots.any (fun s => !(y0u c.cons s.c s.s)) then 4 else 0
def y21 (c : Clu) (i : Nat) : Int := match c.accs[i]? with | some a => y94 c a | none => 0
def y0n (fr : List Int) (j : Nat) : Int := match fr[j]? with | some x => if (fr.take j).any (fun y => y == x) then 7 else 0 | none => 0
def Tr.lt (p x : Tr) : Bool := if p.c = x.c then decide (p.s < x.s) else decide (p.c < x.c)
def y1n (c : Clu) (p : Int) : Bool := !(within p 0 ((c.accs.length : Int) - 1))
def y0m (v : Vt) : Bool := !(v.b == -1 && v.v == 0) && !v.ok
def q6t (c : Clu) (t : Tr) : Int := if t.fr.any (y1n c) || t.olds.any y0m then 3 else scan (y0n t.fr) t.fr.length
def y52 (c : Clu) (ts : List Tr) (i : Nat) (t : Tr) : Int :=
 if !(y0u c.cons t.c t.s) then 4
 else if !(within t.b 1 1000 && within t.v 0 2) then 3
 else if !(ahead Tr.lt ts i t) || t.fr.length != t.olds.length then 1
 else q6t c t
def q38 (c : Clu) (ts : List Tr) (i : Nat) : Int := match ts[i]? with | some t => y52 c ts i t | none => 0
def Hd.cmp (p x : Hd) : Int := orr [q08 p.c x.c, q08 p.s x.s, q08 p.b x.b, q08 p.v x.v, q08 p.f x.f]
def Hd.lt (p x : Hd) : Bool := decide (Hd.cmp p x < 0)
def hdF (c : Clu) (ks : List Hd) (i : Nat) : Int := match ks[i]? with
 | some h => if !(y0u c.cons h.c h.s) then 4 else if !(within h.b 0 1000 && within h.v 1 2 && within h.f 0 ((c.accs.length : Int) - 1)) then 3 else if ahead Hd.lt ks i h then 0 else 1
 | none => 0
def q7j (c : Clu) (l : Ldr) : Int :=
 if !(within l.n 0 400) then 3 else if 60 < l.tries.length ∨ 300 < l.known.length then 2 else orr [scan (q38 c l.tries) l.tries.length, scan (hdF c l.known) l.known.length]
def y2g (c : Clu) (i : Nat) : Int := match c.ldrs[i]? with | some l => q7j c l | none => 0
def z42 (c : Clu) (i : Nat) : Int := match c.msgs[i]? with | some m => q0d c m | none => 0
def y0k (c : Clu) : Bool := decide (20 < c.cons.length) || !(within c.shs.length 1 3) || !(within c.accs.length 1 5) || c.ldrs.length != 2 || decide (200 < c.msgs.length)
def yq (c : Clu) : Int := if y0k c then 2 else orr [scan (z09 c) c.cons.length, scan (y1z c) c.shs.length, scan (y21 c) c.accs.length, scan (y2g c) c.ldrs.length, scan (z42 c) c.msgs.length]
theorem q2x {ls : List Leg} {x : Int} : x ∈ shF ls ↔ ∃ y ∈ ls, y.s = x := by
 unfold shF
 rw [y2x]
 simp
theorem q44 {ls : List Leg} (h : 0 < ls.length) : ∃ y, (shF ls)[(shF ls).length - 1]? = some y ∧ 0 < (shF ls).length ∧ (∃ l ∈ ls, l.s = y) ∧ ∀ l ∈ ls, l.s ≤ y := by
 obtain ⟨l0, hl0⟩ := gx h
 have hm : l0.s ∈ shF ls := q2x.2 ⟨l0, List.mem_of_getElem? hl0, rfl⟩
 have hp : 0 < (shF ls).length := List.length_pos_of_mem hm
 obtain ⟨y, hy⟩ := gx (xs := shF ls) (i := (shF ls).length - 1) (by omega)
 refine ⟨y, hy, hp, q2x.1 (List.mem_of_getElem? hy), fun l hl => ?_⟩
 obtain ⟨j, hj⟩ := List.mem_iff_getElem?.1 (q2x.2 ⟨l, hl, rfl⟩)
 obtain ⟨hj1, hj2⟩ := List.getElem?_eq_some_iff.1 hj
 obtain ⟨hy1, hy2⟩ := List.getElem?_eq_some_iff.1 hy
 rcases Nat.lt_or_ge j ((shF ls).length - 1) with h1 | h1
 · have := (List.pairwise_iff_getElem.1 (z4u ls)) j ((shF ls).length - 1) hj1 hy1 h1
   rw [hj2, hy2] at this
   omega
 · have e : j = (shF ls).length - 1 := by omega
   subst e
   rw [hj] at hy
   cases hy
   exact Int.le_refl _
theorem q8m {ls : List Leg} {y n : Int} (h0 : ∀ l ∈ ls, 0 ≤ l.s) (e : ∃ l ∈ ls, l.s = y) (hm : ∀ l ∈ ls, l.s ≤ y) : decide (y ≥ n) = ls.any fun l => !(within l.s 0 (n - 1)) := by
 rw [Bool.eq_iff_iff, decide_eq_true_eq, List.any_eq_true]
 constructor
 · intro h
   obtain ⟨l, hl, e⟩ := e
   exact ⟨l, hl, by simp [within]; omega⟩
 · rintro ⟨l, hl, h⟩
   have h1 := h0 l hl
   have h2 := hm l hl
   simp [within] at h
   omega
theorem z98 {x : Con} (h : ql x = 0) : ∀ l ∈ x.legs, 0 ≤ l.s := fun l hl => by
 have := (z04 h).2.2 l hl
 have h1 := (Leg.z0d this).1
 omega
theorem q1m {x : Con} (h : ql x = 0) : 0 < x.legs.length ∧ x.legs.length ≤ 8 := by
 have := (z04 h).2.1
 omega
def y6i (x : Con) : Int := ((shF x.legs)[(shF x.legs).length - 1]?).getD 0
theorem y4n {x : Con} (h : ql x = 0) : (ints (shF x.legs))[(IntKind.i64.wrap (((ints (shF x.legs)).length : Int) - 1)).toNat]? = some [i64 (y6i x)] := by
 obtain ⟨y, hy, hp, _⟩ := q44 (q1m h).1
 have hl := q1b x.legs x.legs.length
 rw [List.take_length] at hl
 have := (q1m h).2
 rw [show (ints (shF x.legs)).length = (shF x.legs).length by simp]
 unfold y6i
 rw [hy]
 exact z12 (fun n => [i64 n]) hp (by omega) hy
theorem y7j {x : Con} (h : ql x = 0) : 0 ≤ IntKind.i64.wrap (((ints (shF x.legs)).length : Int) - 1) := by
 obtain ⟨y, hy, hp, _⟩ := q44 (q1m h).1
 have hl := q1b x.legs x.legs.length
 rw [List.take_length] at hl
 have := (q1m h).2
 rw [show (ints (shF x.legs)).length = (shF x.legs).length by simp]
 exact y0i hp (by omega)
theorem z7j {x : Con} (h : ql x = 0) (c : Clu) : ya5 c x = decide ((c.shs.length : Int) ≤ y6i x) := by
 unfold ya5
 obtain ⟨y, hy, hp, e, hm⟩ := q44 (q1m h).1
 rw [← q8m (z98 h) (y := y6i x) (by unfold y6i; rw [hy]; exact e) (by unfold y6i; rw [hy]; exact hm)]
theorem q2m {s : Shd} (h : zn s = 0) : ∀ x ∈ s.held, ql x = 0 := by
 have : qn q0h s = 0 := by
  unfold zn q0v at h
  repeat' split at h
  all_goals first | omega | (simp_all; done)
 exact q3x this
theorem y46 {c : Clu} {i : Nat} {s : Shd} (h : zn s = 0) (hi : s.idx = i) : z8x c i s = if (s.votes.any fun m => !(y0u c.cons m.c i)) || (s.done.any fun m => !(y0u c.cons m.c i)) then 1 else if s.held.any (y2i c) then 1 else 0 := by
 unfold z8x
 rw [if_neg (by simpa using h), if_neg (by simpa using hi)]
end Go.Sx
end
section
namespace Go.Sx
open Go.Lib
theorem q7k : ∀ {xs ys : List Int}, xs.Pairwise (· < ·) → ys.Pairwise (· < ·) → (∀ x, x ∈ xs ↔ x ∈ ys) → xs = ys
 | [], [], _, _, _ => rfl
 | [], y :: ys, _, _, h => by have := (h y).2 (by simp); simp at this
 | x :: xs, [], _, _, h => by have := (h x).1 (by simp); simp at this
 | x :: xs, y :: ys, hx, hy, h => by
   obtain ⟨hx1, hx2⟩ := List.pairwise_cons.1 hx
   obtain ⟨hy1, hy2⟩ := List.pairwise_cons.1 hy
   have e : x = y := by
    rcases List.mem_cons.1 ((h x).1 (by simp)) with e | m
    · exact e
    · rcases List.mem_cons.1 ((h y).2 (by simp)) with e | m'
      · exact e.symm
      · have h1 := hy1 x m
        have h2 := hx1 y m'
        omega
   subst e
   rw [q7k hx2 hy2 fun z => ⟨fun hz => ?_, fun hz => ?_⟩]
   · rcases List.mem_cons.1 ((h z).1 (List.mem_cons_of_mem _ hz)) with e | m
     · have h1 := hx1 z hz
       omega
     · exact m
   · rcases List.mem_cons.1 ((h z).2 (List.mem_cons_of_mem _ hz)) with e | m
     · have h1 := hy1 z hz
       omega
     · exact m
theorem y4m (d : Array Int) : ∀ j, ∃ i, i ≤ j ∧ keeps d i = true ∧ d[i]! = d[j]!
 | 0 => ⟨0, Nat.le_refl _, by simp [keeps], rfl⟩
 | j + 1 => by
   by_cases h : keeps d (j + 1) = true
   · exact ⟨j + 1, Nat.le_refl _, h, rfl⟩
   · have h : d[j + 1]! = d[j]! := by simpa [keeps] using h
     obtain ⟨i, h1, h2, h3⟩ := y4m d j
     exact ⟨i, by omega, h2, by rw [h3, h]⟩
theorem y5e {zs : List Int} {x : Int} : x ∈ compact zs ↔ x ∈ zs := by
 unfold compact compactUpTo
 simp only [List.mem_map, List.mem_filter, List.mem_range]
 constructor
 · rintro ⟨j, ⟨hj, _⟩, rfl⟩
   simp [hj]
 · intro h
   obtain ⟨j, hj⟩ := List.mem_iff_getElem?.1 h
   obtain ⟨hj1, hj2⟩ := List.getElem?_eq_some_iff.1 hj
   obtain ⟨i, h1, h2, h3⟩ := y4m zs.toArray j
   exact ⟨i, ⟨by omega, h2⟩, by rw [h3]; simp [hj1, hj2]⟩
theorem q6c {zs : List Int} (hs : zs.Pairwise (· ≤ ·)) : (compact zs).Pairwise (· < ·) := by
 unfold compact compactUpTo
 rw [List.pairwise_map, List.pairwise_filter, List.pairwise_iff_getElem]
 intro i j hi hj hij _ h2
 have hi : i < zs.length := by simpa using hi
 have hj : j < zs.length := by simpa using hj
 simp only [List.getElem_range] at *
 have hle : ∀ a b : Nat, a < b → b < zs.length → zs[a]! ≤ zs[b]! := fun a b hab hb => by
  have := (List.pairwise_iff_getElem.1 hs) a b (by omega) hb hab
  simp only [getElem!_pos zs a (by omega), getElem!_pos zs b hb]
  exact this
 have e : ∀ k, k < zs.length → zs.toArray[k]! = zs[k]! := fun k hk => by
  rw [getElem!_pos zs.toArray k (by simpa using hk), getElem!_pos zs k hk]; simp
 have h2 : ¬ zs[j]! = zs[j - 1]! := by
  have : j ≠ 0 := by omega
  rw [← e j hj, ← e (j - 1) (by omega)]
  simpa [keeps, this] using h2
 rw [e i hi, e j hj]
 have h4 : zs[j - 1]! ≤ zs[j]! := hle (j - 1) j (by omega) hj
 rcases Nat.lt_or_ge i (j - 1) with h | h
 · have h3 : zs[i]! ≤ zs[j - 1]! := hle i (j - 1) h (by omega)
   omega
 · have : i = j - 1 := by omega
   subst this
   omega
theorem z6c (zs : List Int) : (compact zs).length ≤ zs.length := by
 unfold compact compactUpTo
 rw [List.length_map]
 exact Nat.le_trans (List.length_filter_le _ _) (by simp)
theorem q8o (xs : List Int) : (z0i xs).Pairwise (· ≤ ·) := by
 have h := List.pairwise_mergeSort (le := fun a b : Int => decide (a ≤ b)) (fun a b c h1 h2 => by simp at *; omega) (fun a b => by simp; omega) xs
 exact h.imp (fun h => by simpa using h)
theorem y7m {xs : List Int} {x : Int} : x ∈ z0i xs ↔ x ∈ xs := (List.mergeSort_perm xs _).mem_iff
theorem qan (ls : List Leg) : compact (z0i (ls.map (·.s))) = shF ls :=
 q7k (q6c (q8o _)) (z4u ls) fun x => by
  rw [y5e, y7m, List.mem_map, q2x]
end Go.Sx
end
section
namespace Go.Sx
theorem y7p : ∀ {l : List Int}, orr l = 0 → ∀ x ∈ l, x = 0
 | [], _, x, hx => by cases hx
 | y :: l, h, x, hx => by
   rw [orr] at h
   split at h
   · rename_i h1; exact absurd h h1
   · rename_i h1
     rcases List.mem_cons.1 hx with rfl | hx
     · simpa using h1
     · exact y7p h x hx
theorem q1r {c : Clu} (h : yq c = 0) : y0k c = false ∧ (∀ i, i < c.cons.length → z09 c i = 0) ∧ (∀ i, i < c.shs.length → y1z c i = 0) ∧ (∀ i, i < c.accs.length → y21 c i = 0) ∧ (∀ i, i < c.ldrs.length → y2g c i = 0) ∧ ∀ i, i < c.msgs.length → z42 c i = 0 := by
 unfold yq at h
 split at h
 · omega
 · rename_i hm
   have ha := y7p h
   exact ⟨by simpa using hm, fun i hi => qu (ha _ (by simp)) i hi, fun i hi => qu (ha _ (by simp)) i hi, fun i hi => qu (ha _ (by simp)) i hi, fun i hi => qu (ha _ (by simp)) i hi, fun i hi => qu (ha _ (by simp)) i hi⟩
theorem y73 {c : Clu} (h : yq c = 0) {i : Nat} {x : Con} (hx : c.cons[i]? = some x) : ql x = 0 ∧ ya5 c x = false ∧ ahead (fun p x : Con => decide (p.id < x.id)) c.cons i x = true := by
 have := (q1r h).2.1 i (List.getElem?_eq_some_iff.1 hx).1
 simp only [z09, hx] at this
 split at this
 · rename_i h1; exact absurd this h1
 · rename_i h1
   split at this
   · omega
   · rename_i h2
     split at this
     · rename_i h3; exact ⟨by simpa using h1, by simpa using h2, h3⟩
     · omega
theorem q2o {c : Clu} (h : yq c = 0) {x : Con} (hx : x ∈ c.cons) : ql x = 0 ∧ ya5 c x = false := by
 obtain ⟨i, hi⟩ := List.mem_iff_getElem?.1 hx
 exact ⟨(y73 h hi).1, (y73 h hi).2.1⟩
theorem q4f {cs : List Con} {id : Int} {x : Con} (h : y0e cs id = some x) : x ∈ cs ∧ x.id = id := by
 unfold y0e at h
 exact ⟨List.mem_of_find?_eq_some h, by have := List.find?_some h; simpa using this⟩
theorem clu_shd {c : Clu} (h : yq c = 0) {i : Nat} {s : Shd} (hs : c.shs[i]? = some s) : zn s = 0 ∧ s.idx = i ∧ (∀ m ∈ s.votes, y0u c.cons m.c i = true) ∧ (∀ m ∈ s.done, y0u c.cons m.c i = true) ∧ ∀ x ∈ s.held, y2i c x = false := by
 have := (q1r h).2.2.1 i (List.getElem?_eq_some_iff.1 hs).1
 simp only [y1z, hs, z8x] at this
 split at this
 · rename_i h1; exact absurd this h1
 · rename_i h1
   split at this
   · omega
   · rename_i h2
     split at this
     · omega
     · rename_i h3
       split at this
       · omega
       · rename_i h4
         simp only [Bool.or_eq_true, not_or, Bool.not_eq_true, List.any_eq_false, Bool.not_eq_eq_eq_not, Bool.not_false, Bool.not_true] at h3
         exact ⟨by simpa using h1, by simpa using h2, fun m hm => by simpa using h3.1 m hm, fun m hm => by simpa using h3.2 m hm, fun x hx => by simpa using (by simpa using h4 : ∀ x ∈ s.held, y2i c x = false) x hx⟩
theorem q73 {c : Clu} (h : yq c = 0) : c.cons.length ≤ 20 ∧ 1 ≤ c.shs.length ∧ c.shs.length ≤ 3 ∧ 1 ≤ c.accs.length ∧ c.accs.length ≤ 5 ∧ c.ldrs.length = 2 ∧ c.msgs.length ≤ 200 := by
 have hm := (q1r h).1
 unfold y0k at hm
 simp only [Bool.or_eq_false_iff, decide_eq_false_iff_not, Bool.not_eq_eq_eq_not, Bool.not_false, bne_eq_false_iff_eq] at hm
 obtain ⟨⟨⟨⟨h1, h2⟩, h3⟩, h4⟩, h5⟩ := hm
 have h2 := within_iff.1 h2
 have h3 := within_iff.1 h3
 omega
def y12 (a : Acc) (c s : Int) : Slt := (a.slots.find? fun x => x.c == c && x.s == s).getD ⟨c, s, -1, -1, 0, []⟩
def qp (aa : List Acc) (c s : Int) : List Slt := aa.map fun a => y12 a c s
def Slt.key (x : Slt) : Int := x.c * 4 + x.s
theorem y2n {a : Acc} (h : a.fault = 0) : a.slots.length ≤ 60 ∧ (∀ x ∈ a.slots, x.fault = 0) ∧ ∀ (i j : Nat) (x y : Slt), i < j → a.slots[i]? = some x → a.slots[j]? = some y → x.key < y.key := by
 unfold Acc.fault at h
 split at h
 · omega
 · rename_i hl
   have h1 : ∀ (i : Nat) (x : Slt), a.slots[i]? = some x → x.fault = 0 ∧ ahead Slt.lt a.slots i x = true := fun i x hx => by
    have h2 := qu h i (List.getElem?_eq_some_iff.1 hx).1
    simp only [y37, hx] at h2
    split at h2
    · rename_i h3; exact absurd h2 h3
    · rename_i h3
      split at h2
      · rename_i h4; exact ⟨by simpa using h3, h4⟩
      · omega
   have hs : ∀ x : Slt, x.fault = 0 → 0 ≤ x.s ∧ x.s ≤ 2 := fun x hx => by
    unfold Slt.fault at hx
    split at hx
    · omega
    · rename_i h3
      simp only [within, Bool.not_eq_true, Bool.not_eq_false', Bool.and_eq_true, decide_eq_true_eq] at h3
      omega
   refine ⟨by omega, fun x hx => ?_, y2j (key := Slt.key) fun j p x hp hx => ?_⟩
   · obtain ⟨i, hi⟩ := List.mem_iff_getElem?.1 hx
     exact (h1 i x hi).1
   · have ha := (h1 (j + 1) x hx).2
     rw [z8 (p := p) (by omega) (by simpa using hp)] at ha
     have hs1 := hs p (h1 j p hp).1
     have hs2 := hs x (h1 (j + 1) x hx).1
     unfold Slt.lt at ha
     unfold Slt.key
     split at ha
     · rename_i e; rw [e]; have : p.s < x.s := by simpa using ha
       omega
     · rename_i e; have : p.c < x.c := by simpa using ha
       omega
def q2f (c s : Int) (x : Slt) : Int := orr [q08 x.c c, q08 x.s s]
theorem q5v (c s : Int) (x : Slt) : q2f c s x = 0 ↔ x.c = c ∧ x.s = s := by
 unfold q2f
 simp only [orr, q08]
 constructor
 · intro h
   repeat' split at h
   all_goals first | omega | (simp_all; done) | skip
   all_goals omega
 · rintro ⟨rfl, rfl⟩
   simp
theorem z5w {c s : Int} {x : Slt} (h1 : 0 ≤ x.s ∧ x.s ≤ 2) (h2 : 0 ≤ s ∧ s ≤ 2) : (q2f c s x < 0 ↔ x.key < c * 4 + s) ∧ (q2f c s x ≤ 0 ↔ x.key ≤ c * 4 + s) := by
 unfold q2f Slt.key
 simp only [orr, q08]
 repeat' split
 all_goals (constructor <;> constructor <;> intro h <;> omega)
theorem y4w {x : Slt} (h : x.fault = 0) : 0 ≤ x.s ∧ x.s ≤ 2 := by
 unfold Slt.fault at h
 split at h
 · omega
 · rename_i h3
   simp only [within, Bool.not_eq_true, Bool.not_eq_false', Bool.and_eq_true, decide_eq_true_eq] at h3
   omega
theorem z4f {a : Acc} (h : a.fault = 0) {c s : Int} (h2 : 0 ≤ s ∧ s ≤ 2) : z5s (q2f c s) a.slots := fun i j x y hij hx hy hle => by
 obtain ⟨_, hf, hk⟩ := y2n h
 have hx2 := y4w (hf x (List.mem_of_getElem? hx))
 have hy2 := y4w (hf y (List.mem_of_getElem? hy))
 have := hk i j x y hij hx hy
 rw [(z5w hx2 h2).1]
 rw [(z5w hy2 h2).2] at hle
 omega
theorem y7x {a : Acc} (h : a.fault = 0) {c s : Int} (h2 : 0 ≤ s ∧ s ≤ 2) {x : Slt} (hx : (a.slots.find? fun x => x.c == c && x.s == s) = some x) : y12 a c s = x ∧ x ∈ a.slots ∧ bsF (q2f c s) a.slots = true ∧ a.slots[bsP (q2f c s) a.slots]? = some x := by
 have hp := List.find?_some hx
 have hm := List.mem_of_find?_eq_some hx
 obtain ⟨i, hi⟩ := List.mem_iff_getElem?.1 hm
 have h0 : q2f c s x = 0 := (q5v c s x).2 (by simpa using hp)
 obtain ⟨e1, e2⟩ := z2j (z4f h h2) hi h0
 exact ⟨by unfold y12; rw [hx]; rfl, hm, e2, by rw [e1]; exact hi⟩
theorem y1g {a : Acc} {c s : Int} (hx : (a.slots.find? fun x => x.c == c && x.s == s) = none) : y12 a c s = ⟨c, s, -1, -1, 0, []⟩ ∧ bsF (q2f c s) a.slots = false := by
 refine ⟨by unfold y12; rw [hx]; rfl, z3s fun i x hi h0 => ?_⟩
 have h1 := List.find?_eq_none.1 hx x (List.mem_of_getElem? hi)
 have h2 := (q5v c s x).1 h0
 simp [h2] at h1
instance instDecidableEqVt : DecidableEq Vt := fun x y =>
 if h : x.b = y.b ∧ x.v = y.v then isTrue (by cases x; cases y; simp_all) else isFalse (fun e => h (by subst e; exact ⟨rfl, rfl⟩))
def z1k (n : Nat) : Nat := n / 2 + 1
def okV (sl : List Slt) (v : Vt) : Bool := decide (z1k sl.length ≤ sl.countP fun s => decide (v ∈ s.cast))
def y2f (xs : List Vt) : Prop := ∀ (i j : Nat) (x y : Vt), i < j → xs[i]? = some x → xs[j]? = some y → x.b ≤ y.b ∧ (x.b = y.b → x = y)
theorem y7d {s : Slt} (h : s.fault = 0) : y2f s.cast := by
 unfold Slt.fault at h
 split at h
 · omega
 split at h
 · omega
 split at h
 · rename_i h3; exact absurd h h3
 rename_i h3
 have h3 : scan (z0k s.cast) s.cast.length = 0 := by simpa using h3
 have nb : ∀ (j : Nat) (p x : Vt), s.cast[j]? = some p → s.cast[j + 1]? = some x → p.b ≤ x.b ∧ (p.b = x.b → p = x) := fun j p x hp hx => by
  have h4 := qu h3 (j + 1) (List.getElem?_eq_some_iff.1 hx).1
  simp only [z0k, hx] at h4
  split at h4
  · omega
  · split at h4
    · rename_i h5
      rw [z8 (p := p) (by omega) (by simpa using hp)] at h5
      simp only [Bool.not_eq_true', Bool.or_eq_false_iff, decide_eq_false_iff_not, Bool.and_eq_false_iff, beq_eq_false_iff_ne, bne_eq_false_iff_eq] at h5
      obtain ⟨h6, h7⟩ := h5
      refine ⟨by omega, fun e => ?_⟩
      rcases h7 with h7 | h7
      · exact absurd e.symm h7
      · cases p; cases x; simp_all
    · omega
 intro i j
 induction j with
 | zero => intro x y hij; omega
 | succ j ih =>
   intro x y hij hx hy
   obtain ⟨z, hz⟩ := gx (xs := s.cast) (i := j) (by have := (List.getElem?_eq_some_iff.1 hy).1; omega)
   have h5 := nb j z y hz hy
   by_cases e : i = j
   · subst e; rw [hx] at hz; cases hz; exact h5
   · have h6 := ih x z (by omega) hx hz
     exact ⟨by omega, fun e => (h6.2 (by omega)).trans (h5.2 (by omega))⟩
theorem y8i {xs : List Vt} (h : y2f xs) {v w : Vt} (hv : v ∈ xs) (hw : w ∈ xs) (e : v.b = w.b) : v = w := by
 obtain ⟨i, hi⟩ := List.mem_iff_getElem?.1 hv
 obtain ⟨j, hj⟩ := List.mem_iff_getElem?.1 hw
 rcases Nat.lt_trichotomy i j with h1 | h1 | h1
 · exact (h i j v w h1 hi hj).2 e
 · subst h1; rw [hi] at hj; cases hj; rfl
 · exact ((h j i w v h1 hj hi).2 e.symm).symm
theorem q4h {α : Type} {p q : α → Bool} : ∀ {l : List α}, (∀ x ∈ l, ¬ (p x = true ∧ q x = true)) → l.countP p + l.countP q ≤ l.length
 | [], _ => by simp
 | x :: l, h => by
   have h1 := q4h (l := l) fun y hy => h y (by simp [hy])
   have h2 := h x (by simp)
   rw [List.countP_cons, List.countP_cons, List.length_cons]
   by_cases hp : p x = true
   · have hq : ¬ q x = true := fun hq => h2 ⟨hp, hq⟩
     simp [hp, hq]; omega
   · by_cases hq : q x = true
     · simp [hp, hq]; omega
     · simp [hp, hq]; omega
theorem y5f {sl : List Slt} (hg : ∀ s ∈ sl, y2f s.cast) {v w : Vt} (hv : okV sl v = true) (hw : okV sl w = true) (e : v.b = w.b) : v = w := by
 unfold okV z1k at hv hw
 have hv := of_decide_eq_true hv
 have hw := of_decide_eq_true hw
 by_cases h : ∃ s ∈ sl, v ∈ s.cast ∧ w ∈ s.cast
 · obtain ⟨s, hs, h1, h2⟩ := h
   exact y8i (hg s hs) h1 h2 e
 · have := q4h (l := sl) (p := fun s => decide (v ∈ s.cast)) (q := fun s => decide (w ∈ s.cast)) fun s hs h3 => h ⟨s, hs, by simpa using h3⟩
   omega
def y5y : List Vt → Vt → List Vt
 | [], v => [v]
 | x :: xs, v => if x.b < v.b then x :: y5y xs v else if x = v then x :: xs else v :: x :: xs
theorem z2l {v x : Vt} : ∀ {xs : List Vt}, x ∈ y5y xs v ↔ x = v ∨ x ∈ xs
 | [] => by simp [y5y]
 | y :: xs => by
   rw [y5y]
   split
   · rw [List.mem_cons, z2l (xs := xs), List.mem_cons]
     constructor
     · rintro (h | h | h) <;> simp [h]
     · rintro (h | h | h) <;> simp [h]
   · split
     · rename_i h; subst h; simp
     · simp
abbrev y87 (xs : List Vt) : Prop := xs.Pairwise fun x y => x.b < y.b
theorem y7g {v : Vt} : ∀ {xs : List Vt}, y87 xs → (∀ x ∈ xs, x.b = v.b → x = v) → y87 (y5y xs v)
 | [], _, _ => by simp [y5y, y87]
 | x :: xs, h, hu => by
   obtain ⟨h1, h2⟩ := List.pairwise_cons.1 h
   rw [y5y]
   split
   · refine List.pairwise_cons.2 ⟨fun y hy => ?_, y7g h2 fun y hy => hu y (by simp [hy])⟩
     rcases z2l.1 hy with rfl | hy
     · assumption
     · exact h1 y hy
   · rename_i hx
     split
     · exact h
     · rename_i hne
       have hlt : v.b < x.b := by
        rcases Int.lt_trichotomy x.b v.b with h3 | h3 | h3
        · exact absurd h3 hx
        · exact absurd (hu x (by simp) h3) hne
        · exact h3
       refine List.pairwise_cons.2 ⟨fun y hy => ?_, h⟩
       rcases List.mem_cons.1 hy with rfl | hy
       · exact hlt
       · exact Int.lt_trans hlt (h1 y hy)
theorem y5b {v : Vt} : ∀ {xs : List Vt} {i : Nat}, i ≤ xs.length → (∀ (j : Nat) (x : Vt), j < i → xs[j]? = some x → x.b < v.b) → (∀ x, xs[i]? = some x → ¬ x.b < v.b) → y5y xs v = if xs[i]? = some v then xs else xs.take i ++ v :: xs.drop i
 | [], i, hi, _, _ => by
   have : i = 0 := by simpa using hi
   subst this; rfl
 | y :: xs, 0, _, _, h1 => by
   have hy := h1 y rfl
   rw [y5y, if_neg hy]
   by_cases e : y = v
   · subst e; simp
   · rw [if_neg e, if_neg (by simpa using e)]; rfl
 | y :: xs, i + 1, hi, h0, h1 => by
   have hy := h0 0 y (by omega) rfl
   rw [y5y, if_pos hy, y5b (xs := xs) (i := i) (by simpa using hi) (fun j x hj hx => h0 (j + 1) x (by omega) (by simpa using hx)) (fun x hx => h1 x (by simpa using hx))]
   simp only [List.getElem?_cons_succ]
   split
   · rfl
   · simp
def chS (sl : List Slt) (out : List Vt) (v : Vt) : List Vt := if okV sl v then y5y out v else out
def y20 (sl : List Slt) : List Vt := sl.flatMap Slt.cast
def yz (sl : List Slt) : List Vt := (y20 sl).foldl (chS sl) []
theorem y72 {sl : List Slt} (hg : ∀ s ∈ sl, y2f s.cast) : ∀ (vs out : List Vt), y87 out → (∀ x ∈ out, okV sl x = true) → y87 (vs.foldl (chS sl) out) ∧ ∀ x, x ∈ vs.foldl (chS sl) out ↔ x ∈ out ∨ (x ∈ vs ∧ okV sl x = true)
 | [], out, h1, _ => ⟨h1, fun x => by simp⟩
 | v :: vs, out, h1, h2 => by
   have h3 : y87 (chS sl out v) ∧ (∀ x ∈ chS sl out v, okV sl x = true) ∧ ∀ x, x ∈ chS sl out v ↔ x ∈ out ∨ (x = v ∧ okV sl x = true) := by
    unfold chS
    by_cases h : okV sl v = true
    · rw [if_pos h]
      refine ⟨y7g h1 fun x hx e => y5f hg (h2 x hx) h e, fun x hx => ?_, fun x => ?_⟩
      · rcases z2l.1 hx with rfl | hx
        · exact h
        · exact h2 x hx
      · rw [z2l]
        constructor
        · rintro (rfl | hx)
          · exact .inr ⟨rfl, h⟩
          · exact .inl hx
        · rintro (hx | ⟨rfl, _⟩)
          · exact .inr hx
          · exact .inl rfl
    · rw [if_neg h]
      refine ⟨h1, h2, fun x => ⟨.inl, ?_⟩⟩
      rintro (hx | ⟨rfl, hx⟩)
      · exact hx
      · exact absurd hx h
   obtain ⟨h4, h5⟩ := y72 hg vs (chS sl out v) h3.1 h3.2.1
   refine ⟨h4, fun x => ?_⟩
   show x ∈ vs.foldl (chS sl) (chS sl out v) ↔ _
   rw [h5 x, h3.2.2 x, List.mem_cons]
   constructor
   · rintro ((hx | ⟨rfl, hx⟩) | ⟨hx, hy⟩)
     · exact .inl hx
     · exact .inr ⟨.inl rfl, hx⟩
     · exact .inr ⟨.inr hx, hy⟩
   · rintro (hx | ⟨rfl | hx, hy⟩)
     · exact .inl (.inl hx)
     · exact .inl (.inr ⟨rfl, hy⟩)
     · exact .inr ⟨hx, hy⟩
theorem y57 {sl : List Slt} (hg : ∀ s ∈ sl, y2f s.cast) : y87 (yz sl) ∧ ∀ x, x ∈ yz sl ↔ okV sl x = true := by
 obtain ⟨h1, h2⟩ := y72 hg (y20 sl) [] List.Pairwise.nil (fun x hx => by cases hx)
 refine ⟨h1, fun x => ?_⟩
 show x ∈ (y20 sl).foldl (chS sl) [] ↔ _
 rw [h2 x]
 constructor
 · rintro (h | h)
   · cases h
   · exact h.2
 · intro h
   refine .inr ⟨?_, h⟩
   have h3 := of_decide_eq_true (show decide (z1k sl.length ≤ sl.countP fun s => decide (x ∈ s.cast)) = true from h)
   have h4 : 0 < sl.countP fun s => decide (x ∈ s.cast) := by unfold z1k at h3; omega
   obtain ⟨s, hs, hx⟩ := List.countP_pos_iff.1 h4
   exact List.mem_flatMap.2 ⟨s, hs, by simpa using hx⟩
theorem q60 : ∀ {xs ys : List Vt}, y87 xs → y87 ys → (∀ x, x ∈ xs ↔ x ∈ ys) → xs = ys
 | [], [], _, _, _ => rfl
 | [], y :: ys, _, _, h => by have := (h y).2 (by simp); simp at this
 | x :: xs, [], _, _, h => by have := (h x).1 (by simp); simp at this
 | x :: xs, y :: ys, hx, hy, h => by
   obtain ⟨hx1, hx2⟩ := List.pairwise_cons.1 hx
   obtain ⟨hy1, hy2⟩ := List.pairwise_cons.1 hy
   have e : x = y := by
    rcases List.mem_cons.1 ((h x).1 (by simp)) with h1 | h1
    · exact h1
    · rcases List.mem_cons.1 ((h y).2 (by simp)) with h2 | h2
      · exact h2.symm
      · have := hy1 x h1
        have := hx1 y h2
        omega
   subst e
   rw [q60 hx2 hy2 fun z => ?_]
   constructor
   · intro hz
     rcases List.mem_cons.1 ((h z).1 (by simp [hz])) with rfl | h1
     · have := hx1 z hz; omega
     · exact h1
   · intro hz
     rcases List.mem_cons.1 ((h z).2 (by simp [hz])) with rfl | h1
     · have := hy1 z hz; omega
     · exact h1
def qq : List Vt → List Vt
 | [] => []
 | [x] => [x]
 | x :: y :: r => if x = y then qq (y :: r) else x :: qq (y :: r)
theorem z13 {v : Vt} : ∀ {xs : List Vt}, v ∈ qq xs ↔ v ∈ xs
 | [] => by simp [qq]
 | [x] => by simp [qq]
 | x :: y :: r => by
   rw [qq]
   have h := z13 (v := v) (xs := y :: r)
   split
   · rename_i e; subst e; rw [h]; simp
   · rw [List.mem_cons, h, List.mem_cons]; simp
theorem q7d {x : Vt} {xs : List Vt} (h : y2f (x :: xs)) : y2f xs := fun i j a b hij ha hb => h (i + 1) (j + 1) a b (by omega) (by simpa using ha) (by simpa using hb)
theorem y2p : ∀ {xs : List Vt}, y2f xs → (qq xs).Nodup
 | [], _ => by simp [qq]
 | [x], _ => by simp [qq]
 | x :: y :: r, h => by
   rw [qq]
   have h1 := y2p (q7d h)
   split
   · exact h1
   · rename_i hne
     refine List.nodup_cons.2 ⟨fun hm => hne ?_, h1⟩
     have hm := z13.1 hm
     have hxy := h 0 1 x y (by omega) rfl rfl
     obtain ⟨j, hj⟩ := List.mem_iff_getElem?.1 hm
     cases j with
     | zero => cases hj; rfl
     | succ j =>
       have h2 := h 1 (j + 2) y x (by omega) rfl (by simpa using hj)
       exact hxy.2 (by omega)
def q20 (q : Nat) (vs : List Vt) : Nat → List Vt
 | 0 => []
 | k + 1 => match vs[k]? with
   | some v => if (vs.take (k + 1)).count v = q then q20 q vs k ++ [v] else q20 q vs k
   | none => q20 q vs k
theorem y4q {q : Nat} {vs : List Vt} {k : Nat} {v : Vt} (h : vs[k]? = some v) : q20 q vs (k + 1) = if (vs.take (k + 1)).count v = q then q20 q vs k ++ [v] else q20 q vs k := by rw [q20, h]
theorem q6d {vs : List Vt} {k : Nat} {v x : Vt} (h : vs[k]? = some v) : (vs.take (k + 1)).count x = (vs.take k).count x + if v = x then 1 else 0 := by
 rw [List.take_add_one, h, List.count_append]
 by_cases e : v = x
 · subst e; simp
 · simp [e]
theorem q2y {q : Nat} (hq : 1 ≤ q) {vs : List Vt} : ∀ k, k ≤ vs.length → (q20 q vs k).Nodup ∧ ∀ x, x ∈ q20 q vs k ↔ q ≤ (vs.take k).count x
 | 0, _ => ⟨by simp [q20], fun x => by simp [q20]; omega⟩
 | k + 1, hk => by
   obtain ⟨h1, h2⟩ := q2y (vs := vs) hq k (by omega)
   obtain ⟨v, hv⟩ := gx (show k < vs.length by omega)
   rw [y4q hv]
   have hc := fun x => q6d (x := x) hv
   by_cases h : (vs.take (k + 1)).count v = q
   · rw [if_pos h]
     have hvn : v ∉ q20 q vs k := fun hm => by
      have h3 := (h2 v).1 hm
      have h4 := hc v
      rw [if_pos rfl] at h4
      omega
     refine ⟨?_, fun x => ?_⟩
     · rw [List.nodup_append]
       exact ⟨h1, by simp, fun a ha b hb => by
        have : b = v := by simpa using hb
        subst this
        exact fun e => hvn (e ▸ ha)⟩
     · rw [List.mem_append, h2 x, hc x]
       by_cases e : v = x
       · subst e
         rw [if_pos rfl]
         have h4 := hc v
         rw [if_pos rfl] at h4
         simp; omega
       · rw [if_neg e]
         simp [Ne.symm e]
   · rw [if_neg h]
     refine ⟨h1, fun x => ?_⟩
     rw [h2 x, hc x]
     by_cases e : v = x
     · subst e
       rw [if_pos rfl]
       have h4 := hc v
       rw [if_pos rfl] at h4
       omega
     · rw [if_neg e]; simp
def yg (sl : List Slt) : List Vt := sl.flatMap fun s => qq s.cast
theorem q1c {v : Vt} : ∀ {sl : List Slt}, (∀ s ∈ sl, y2f s.cast) → (yg sl).count v = sl.countP fun s => decide (v ∈ s.cast)
 | [], _ => by simp [yg]
 | s :: sl, h => by
   have h1 := q1c (v := v) (sl := sl) fun x hx => h x (by simp [hx])
   have h2 := y2p (h s (by simp))
   show ((qq s.cast) ++ yg sl).count v = _
   rw [List.count_append, h1, List.countP_cons]
   by_cases hm : v ∈ s.cast
   · have h3 : (qq s.cast).count v = 1 := by
      have a1 := List.nodup_iff_count.1 h2 v
      have a2 := List.count_pos_iff.2 (z13.2 hm)
      omega
     rw [h3]; simp [hm]; omega
   · have h3 : (qq s.cast).count v = 0 := List.count_eq_zero_of_not_mem (fun h => hm (z13.1 h))
     rw [h3]; simp [hm]
def y0w (xs : List Vt) : List Vt := xs.mergeSort fun a b => decide (a.b ≤ b.b)
theorem z6r {xs : List Vt} (hn : xs.Nodup) (hu : ∀ x ∈ xs, ∀ y ∈ xs, x.b = y.b → x = y) : y87 (y0w xs) ∧ ∀ x, x ∈ y0w xs ↔ x ∈ xs := by
 have hp : (y0w xs).Perm xs := List.mergeSort_perm _ _
 have hs : (y0w xs).Pairwise fun a b => decide (a.b ≤ b.b) = true := List.pairwise_mergeSort (fun a b c h1 h2 => by
  have h1 := of_decide_eq_true h1
  have h2 := of_decide_eq_true h2
  exact decide_eq_true (by omega)) (fun a b => by
  by_cases h : a.b ≤ b.b
  · simp [h]
  · have : b.b ≤ a.b := by omega
    simp [this]) xs
 have hd : (y0w xs).Nodup := hp.nodup_iff.2 hn
 refine ⟨?_, fun x => hp.mem_iff⟩
 refine List.pairwise_iff_getElem.2 fun i j hi hj hij => ?_
 have h1 := of_decide_eq_true (List.pairwise_iff_getElem.1 hs i j hi hj hij)
 have h2 := List.pairwise_iff_getElem.1 hd i j hi hj hij
 rcases Int.lt_or_eq_of_le h1 with h3 | h3
 · exact h3
 · exact absurd (hu _ (hp.mem_iff.1 (List.getElem_mem hi)) _ (hp.mem_iff.1 (List.getElem_mem hj)) h3) h2
theorem q72 {sl : List Slt} (hg : ∀ s ∈ sl, y2f s.cast) : y0w (q20 (z1k sl.length) (yg sl) (yg sl).length) = yz sl := by
 obtain ⟨h1, h2⟩ := q2y (q := z1k sl.length) (vs := yg sl) (by unfold z1k; omega) (yg sl).length (Nat.le_refl _)
 have hm : ∀ x, x ∈ q20 (z1k sl.length) (yg sl) (yg sl).length ↔ okV sl x = true := fun x => by
  rw [h2 x, List.take_length, q1c hg]
  unfold okV
  simp
 obtain ⟨h3, h4⟩ := z6r h1 fun x hx y hy e => y5f hg ((hm x).1 hx) ((hm y).1 hy) e
 obtain ⟨h5, h6⟩ := y57 hg
 exact q60 h3 h5 fun x => by rw [h4 x, hm x, h6 x]
def q9w : List Vt → Int
 | [] => 0
 | v :: _ => v.v
def chV (aa : List Acc) (c s : Int) : Int := q9w (yz (qp aa c s))
def y9b (f : Int → Int) : List Int → Int → Int
 | [], d => d
 | s :: ss, d => if f s = 2 then 2 else y9b f ss (if f s = 0 then 0 else d)
theorem q7p {f : Int → Int} {ss : List Int} {i : Nat} {s d r : Int} (hs : ss[i]? = some s) (h : y9b f (ss.drop i) d = r) : (if f s = 2 then 2 else y9b f (ss.drop (i + 1)) (if f s = 0 then 0 else d)) = r := by
 obtain ⟨hi, e⟩ := List.getElem?_eq_some_iff.1 hs
 rw [List.drop_eq_getElem_cons hi, e] at h
 exact h
def z10 (aa : List Acc) (x : Con) : Int := y9b (chV aa x.id) (shF x.legs) 1
def kV (v : Vt) : Lit := .string (keyBytes [.int .i64 v.b, .int .i64 v.v])
def vW (v : Vt) : Prop := (Lit.int .i64 v.b).wf = true ∧ (Lit.int .i64 v.v).wf = true
abbrev yb0 (v : Vt) : Value := .agg #[.int .i64 v.b, .int .i64 v.v]
structure z9e (P : Program) (k : TypeId) : Prop where
 law : WideMaps.KeyLaw P k
 key : ∀ v, vW v → keyOf P k (yb0 v) = some (kV v)
theorem z9e.inj {P : Program} {k : TypeId} (K : z9e P k) {v w : Vt} (hv : vW v) (hw : vW w) (e : kV v = kV w) : v = w := by
 have h1 := K.law.inj (K.key v hv) (by rw [K.key w hw, e])
 cases v; cases w
 simpa [yb0] using h1
theorem z9e.of {P : Program} {k e : TypeId} (law : WideMaps.KeyLaw P k) (hk : P.keyType k = true) {fs : Array Field} (hu : P.underlying k = some (.struct fs)) (hc : P.cellsOf k = 2) (he : P.underlying e = some (.int .i64)) (hce : P.cellsOf e = 1)
 (hf : fs.all (·.name != "_") = true) (h2 : (fs.toList.map fun f => (f.type, f.offset)) = [(e, 0), (e, 1)]) (hsz : ∃ m, P.types.size = m + 1) : z9e P k := by
 refine ⟨law, fun v hv => ?_⟩
 obtain ⟨m, hm⟩ := hsz
 obtain ⟨f0, f1, hl⟩ : ∃ f0 f1, fs.toList = [f0, f1] := by
  have h3 : fs.toList.length = 2 := by rw [← List.length_map (f := fun f => (f.type, f.offset)), h2]; rfl
  generalize fs.toList = l at h3
  cases l with
  | nil => cases h3
  | cons f0 l => cases l with
    | nil => cases h3
    | cons f1 l => cases l with
      | nil => exact ⟨f0, f1, rfl⟩
      | cons _ _ => simp at h3
 rw [hl] at h2
 simp only [List.map_cons, List.map_nil, List.cons.injEq, Prod.mk.injEq, and_true] at h2
 obtain ⟨⟨e0, o0⟩, e1, o1⟩ := h2
 unfold keyOf
 simp only [hu]
 rw [if_pos (by simp [hk, Value.formed, hu, hc]), hm]
 unfold Program.keyLits
 simp only [hu, Value.cells]
 rw [if_pos ⟨by rw [hc]; rfl, hf⟩, hl, List.mapM_cons, List.mapM_cons, List.mapM_nil]
 simp [e0, o0, e1, o1, hce, Program.keyLits, he, hv.1, hv.2, kV]
def DV (vs : List Vt) : DataW Unit := (vs.foldl (fun (p : List Vt × DataW Unit) v => (p.1 ++ [v], p.2.put (kV v) (.lit (.int .i64 ((p.1.count v : Nat) + 1 : Int))))) ([], .map [])).2
theorem z6w (vs : List Vt) (v : Vt) : DV (vs ++ [v]) = (DV vs).put (kV v) (.lit (.int .i64 ((vs.count v : Nat) + 1 : Int))) := by
 have h : ∀ (ls xs : List Vt) (D : DataW Unit), (ls.foldl (fun (p : List Vt × DataW Unit) v => (p.1 ++ [v], p.2.put (kV v) (.lit (.int .i64 ((p.1.count v : Nat) + 1 : Int))))) (xs, D)).1 = xs ++ ls := by
  intro ls
  induction ls with
  | nil => intro xs D; simp
  | cons l ls ih => intro xs D; rw [List.foldl_cons, ih]; simp
 have h1 := h vs [] (.map [])
 rw [List.nil_append] at h1
 unfold DV
 rw [List.foldl_append, List.foldl_cons, List.foldl_nil, h1]
theorem qa8 {P : Program} {k : TypeId} (K : z9e P k) : ∀ {vs : List Vt}, (∀ x ∈ vs, vW x) → Maps.IsMap (DV vs) ∧ ∀ v, vW v → (DV vs).atKey (kV v) (.lit (.int .i64 0)) = .lit (.int .i64 (vs.count v : Nat)) := by
 intro vs
 have h : ∀ i, i ≤ vs.length → (∀ x ∈ vs, vW x) → Maps.IsMap (DV (vs.take i)) ∧ ∀ v, vW v → (DV (vs.take i)).atKey (kV v) (.lit (.int .i64 0)) = .lit (.int .i64 ((vs.take i).count v : Nat)) := by
  intro i
  induction i with
  | zero => intro _ _; exact ⟨Maps.isMap_empty, fun _ _ => rfl⟩
  | succ i ih =>
    intro hi hw
    obtain ⟨l, hl⟩ := gx (xs := vs) (i := i) (by omega)
    have e : vs.take (i + 1) = vs.take i ++ [l] := by rw [List.take_add_one, hl]; rfl
    obtain ⟨h1, h2⟩ := ih (by omega) hw
    have hlw := hw l (List.mem_of_getElem? hl)
    rw [e, z6w]
    refine ⟨h1.put _ _, fun v hv => ?_⟩
    rw [List.count_append]
    by_cases hx : v = l
    · subst hx
      rw [Maps.atKey_put_same (k := kV v) h1 trivial _ _]
      simp
    · rw [Maps.atKey_put_other (fun e1 => hx (K.inj hv hlw e1)), h2 v hv]
      simp [Ne.symm hx]
 intro hw
 have := h vs.length (Nat.le_refl _) hw
 rwa [List.take_length] at this
def z1i (sl : List Slt) (i : Nat) : Nat := (yg (sl.take i)).length
theorem z5q {sl : List Slt} {i : Nat} {x : Slt} (hx : sl[i]? = some x) : yg (sl.take (i + 1)) = yg (sl.take i) ++ qq x.cast := by
 rw [List.take_add_one, hx]; simp [yg]
theorem y1w {sl : List Slt} {i : Nat} {x : Slt} (hx : sl[i]? = some x) : z1i sl (i + 1) = z1i sl i + (qq x.cast).length := by
 unfold z1i; rw [z5q hx, List.length_append]
theorem y8p (sl : List Slt) : z1i sl sl.length = (yg sl).length := by unfold z1i; rw [List.take_length]
theorem y6u {sl : List Slt} {i j : Nat} {x : Slt} {v : Vt} (hx : sl[i]? = some x) (hv : (qq x.cast)[j]? = some v) : (yg sl)[z1i sl i + j]? = some v := by
 have hi : i < sl.length := (List.getElem?_eq_some_iff.1 hx).1
 have e : sl = sl.take i ++ x :: sl.drop (i + 1) := by
  rw [List.getElem?_eq_getElem hi] at hx
  cases hx
  rw [← List.drop_eq_getElem_cons hi, List.take_append_drop]
 have e2 : yg sl = yg (sl.take i) ++ (qq x.cast ++ yg (sl.drop (i + 1))) := by
  conv => lhs; rw [e]
  simp [yg]
 rw [e2]
 unfold z1i
 rw [List.getElem?_append_right (by omega), Nat.add_sub_cancel_left, List.getElem?_append_left (List.getElem?_eq_some_iff.1 hv).1]
 exact hv
theorem z81 {vs : List Vt} {k : Nat} {v : Vt} (h : vs[k]? = some v) : vs.take (k + 1) = vs.take k ++ [v] := by rw [List.take_add_one, h]; rfl
theorem q5g (q : Nat) (vs : List Vt) : ∀ k, (q20 q vs k).length ≤ k
 | 0 => by simp [q20]
 | k + 1 => by
   have h := q5g q vs k
   rw [q20]
   split
   · split
     · rw [List.length_append, List.length_singleton]; omega
     · omega
   · omega
theorem q2l {q : Nat} {vs : List Vt} {x : Vt} : ∀ {k}, x ∈ q20 q vs k → x ∈ vs
 | 0, h => by simp [q20] at h
 | k + 1, h => by
   rw [q20] at h
   split at h
   · rename_i v hv
     split at h
     · rcases List.mem_append.1 h with h | h
       · exact q2l h
       · have : x = v := by simpa using h
         subst this; exact List.mem_of_getElem? hv
     · exact q2l h
   · exact q2l h
theorem q47 {x : Slt} (h : x.fault = 0) : x.cast.length ≤ 60 ∧ ∀ v ∈ x.cast, v.ok = true := by
 unfold Slt.fault at h
 split at h
 · omega
 split at h
 · omega
 rename_i h2
 split at h
 · rename_i h3; exact absurd h h3
 rename_i h3
 have h3 : scan (z0k x.cast) x.cast.length = 0 := by simpa using h3
 refine ⟨by omega, fun v hv => ?_⟩
 obtain ⟨i, hi⟩ := List.mem_iff_getElem?.1 hv
 have h4 := qu h3 i (List.getElem?_eq_some_iff.1 hi).1
 simp only [z0k, hi] at h4
 split at h4
 · omega
 · rename_i h5; simpa using h5
theorem zap {v : Vt} (h : v.ok = true) : 0 ≤ v.b ∧ v.b ≤ 1000 ∧ 1 ≤ v.v ∧ v.v ≤ 2 := by
 simp [Vt.ok, within] at h
 omega
theorem qb9 {v : Vt} (h : v.ok = true) : vW v := by
 have := zap h
 exact ⟨wfi (by omega) (by omega), wfi (by omega) (by omega)⟩
theorem q8x {a : Acc} (h : a.fault = 0) {c s : Int} (hc : 1 ≤ c ∧ c ≤ 1000000000) (h2 : 0 ≤ s ∧ s ≤ 2) : (y12 a c s).fault = 0 ∧ (y12 a c s).c = c ∧ (y12 a c s).s = s := by
 cases hx : a.slots.find? fun x => x.c == c && x.s == s with
 | none =>
   rw [(y1g hx).1]
   refine ⟨?_, rfl, rfl⟩
   unfold Slt.fault
   have e1 : within c 1 1000000000 = true := by simp [within]; omega
   have e2 : within s 0 2 = true := by simp [within]; omega
   dsimp only
   rw [e1, e2]
   rfl
 | some x =>
   have hm := List.mem_of_find?_eq_some hx
   have hp := List.find?_some hx
   have e : y12 a c s = x := by unfold y12; rw [hx]; rfl
   rw [e]
   exact ⟨(y2n h).2.1 x hm, by simpa using hp⟩
structure z68 (sl : List Slt) (c s : Int) : Prop where
 le : 1 ≤ sl.length ∧ sl.length ≤ 9
 ok : ∀ x ∈ sl, x.fault = 0 ∧ x.c = c ∧ x.s = s
theorem z8i {aa : List Acc} (hl : 1 ≤ aa.length ∧ aa.length ≤ 9) (hf : ∀ a ∈ aa, a.fault = 0) {c s : Int} (hc : 1 ≤ c ∧ c ≤ 1000000000) (h2 : 0 ≤ s ∧ s ≤ 2) : z68 (qp aa c s) c s :=
 ⟨by simpa [qp] using hl, fun x hx => by
   obtain ⟨a, ha, rfl⟩ := List.mem_map.1 hx
   exact q8x (hf a ha) hc h2⟩
theorem z3g (us : List Vt) : (qq us).length ≤ us.length := by
 match us with
 | [] => simp [qq]
 | [x] => simp [qq]
 | x :: y :: r =>
   rw [qq]
   have := z3g (y :: r)
   split
   · simp at this ⊢; omega
   · simp at this ⊢; omega
theorem q6u {sl : List Slt} (h : ∀ x ∈ sl, x.cast.length ≤ 60) : (yg sl).length ≤ 60 * sl.length := by
 induction sl with
 | nil => simp [yg]
 | cons s sl ih =>
   have h1 := ih fun x hx => h x (by simp [hx])
   have h2 := h s (by simp)
   have h3 := z3g s.cast
   show (qq s.cast ++ yg sl).length ≤ _
   rw [List.length_append, List.length_cons]
   omega
theorem z68.qbi {sl : List Slt} {c s : Int} (h : z68 sl c s) : (∀ x ∈ sl, x.cast.length ≤ 60) ∧ (∀ x ∈ sl, y2f x.cast) ∧ (∀ v ∈ yg sl, v.ok = true) ∧ (yg sl).length ≤ 540 ∧ (∀ x ∈ q20 (z1k sl.length) (yg sl) (yg sl).length, ∀ y ∈ q20 (z1k sl.length) (yg sl) (yg sl).length, x.b = y.b → x = y) := by
 have h1 : ∀ x ∈ sl, x.cast.length ≤ 60 := fun x hx => (q47 (h.ok x hx).1).1
 have hg : ∀ x ∈ sl, y2f x.cast := fun x hx => y7d (h.ok x hx).1
 have hm : ∀ x, x ∈ q20 (z1k sl.length) (yg sl) (yg sl).length → okV sl x = true := fun x hx => by
  have h2 := ((q2y (q := z1k sl.length) (vs := yg sl) (by unfold z1k; omega) (yg sl).length (Nat.le_refl _)).2 x).1 hx
  rw [List.take_length, q1c hg] at h2
  unfold okV
  simpa using h2
 refine ⟨h1, hg, fun v hv => ?_, by have := q6u h1; have := h.le; omega, fun x hx y hy e => y5f hg (hm x hx) (hm y hy) e⟩
 obtain ⟨x, hx, hv⟩ := List.mem_flatMap.1 hv
 exact (q47 (h.ok x hx).1).2 v (z13.1 hv)
end Go.Sx
end
