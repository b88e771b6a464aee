/- WHAT IS PROVED: parts of the proof of fnExactHeldTotal_holds: a frame for walks, what each Go function that it reaches answers, and plain lemmas; no condition beyond those that each theorem names. -/
import Derived.Test.YthljegacamgnnaaGreatCHt3
import Derived.WalkKit
import Derived.OrdersHeld
import Derived.DeepKeys
import Derived.Maps.RangeWalk
import Derived.Maps.OwnOps
import Derived.Deep.Slices
import Derived.ChangeArms
import Derived.WideShapes
set_option linter.unusedVariables false
set_option linter.unusedSimpArgs false
section
namespace Go.Sx
open Go.RowKit (Below)
section
variable {g : Bool} {P : Program} {F : TT} {σ : St} {o : Oper} {K : St → Prop}
theorem q2e {x : Operand} {f : AV → R} (h : (evR σ x f).holds P K) : ∃ av, ev σ x = some av ∧ (f av).holds P K := by
 unfold evR at h
 split at h
 · rename_i av hav; exact ⟨av, hav, h⟩
 · exact h.elim
theorem y34 {z : AV} (h : y6g z = true) : q99 z := by cases z <;> first | trivial | cases h
theorem y9j {z : AV} (h : y6g z = true) : (match (generalizing := false) z with | .tup _ => False | _ => True) := by cases z <;> first | trivial | cases h
theorem z3i {x : Option Operand} {r : Option Int} (h : q87 x σ = some r) : y2h x σ = some r := h
theorem z54 {x : Operand} {K' : AV → Prop} (h : (evR σ x fun av => y0m σ o.dst av).holds P K) (hK : ∀ av, K (σ.put o.dst av) → K' av) : evK σ x K' := by
 obtain ⟨av, h1, h2⟩ := q2e h
 unfold evK
 rw [h1]
 exact hK _ (q18.1 h2)
theorem z8a {t : Nat} {av : AV} {f : Value → R} {K' : Value → Prop} (hF : F = F.map P) (hf : ∀ v, (f v).holds P K → K' v) (h : (q9g F σ t av f).holds P K) : z9h P t σ av K' := by
 unfold q9g at h
 split at h
 · obtain ⟨_, h1, h2⟩ := ze h; exact ⟨by rw [z0c hF h1]; rfl, hf _ h2⟩
 · obtain ⟨_, h1, h2⟩ := ze h; exact ⟨by rw [z0c hF h1]; rfl, hf _ h2⟩
 · obtain ⟨_, h1, h2⟩ := ze h; exact ⟨by rw [z0c hF h1]; rfl, hf _ h2⟩
 · obtain ⟨_, h1, h2⟩ := ze h; exact ⟨by rw [z0c hF h1]; rfl, hf _ h2⟩
 · obtain ⟨h1, h2⟩ := y9 h; exact ⟨y3a hF h1, hf _ h2⟩
 · obtain ⟨_, h1, h2⟩ := ze h
   refine ⟨by rw [z0c hF h1]; rfl, ?_⟩
   split at h2
   · rename_i full sz ep rows hg
     obtain ⟨h3, row, h4, h5⟩ := h2
     rw [hg]
     refine ⟨h3, ?_⟩
     rw [h4]
     dsimp only at h5 ⊢
     split at h5
     · rename_i rs hrs; rw [y20] at hrs; rw [hrs]; exact hf _ h5
     · exact h5.elim
   · exact h2.elim
 · exact h.elim
theorem q9h {av : AV} {ag : Bool} {n : Nat} (h : (z53 σ av fun cs => (match ag with
 | true => qn (y2w n cs) (z08 (force (cs.take n)) fun cs => y0m σ o.dst (.agg cs))
 | false => (match cs with | [] => .fail | c :: _ => y0m σ o.dst (.one c)))).holds P K) : z1d σ av fun cs => match q33 ag n cs with | some r => K (σ.put o.dst r) | none => False := by
 refine y61 (fun cs h => ?_) h
 split at h
 · obtain ⟨h1, h2⟩ := y9 h
   obtain ⟨cs', h3, h4⟩ := ze h2
   rw [force_eq h3] at h4
   simp only [q33, if_true, if_pos (z0l h1)]
   exact q18.1 h4
 · split at h
   · exact h.elim
   · exact q18.1 h
theorem yes {av : AV} (h : (y0m σ o.dst av).holds P K) : K (σ.put o.dst av) := q18.1 h
theorem z6u {d : Option Tmp} {cs : List AC} (h : (z9b σ d cs).holds P K) : q10 σ d cs K := by
 unfold z9b at h
 unfold q10
 split at h
 · split at h
   · rename_i hn; dsimp only; rw [hn]; exact qu h
   · exact h.elim
 · exact h.elim
theorem y8a (hF : F = F.map P) {t n : Nat} {ps : List (Nat × Operand)} {d : Option Tmp} (h : (y9h F σ t n ps d).holds P K) : q8x P σ t n ps d K := by
 unfold y9h at h
 unfold q8x
 split at h
 · rename_i d sz by_ rws h1 h2
   rw [yw hF h1, q2k h2]
   dsimp only
   split at h
   · rename_i hn
     rw [hn]
     dsimp only
     obtain ⟨g1, h⟩ := y9 h
     obtain ⟨g2, h⟩ := y9 h
     obtain ⟨g3, h⟩ := y9 h
     obtain ⟨g4, h⟩ := y9 h
     obtain ⟨g5, h⟩ := y9 h
     obtain ⟨g6, h⟩ := h
     obtain ⟨rs, g7, h⟩ := ze h
     rw [z3g] at g4 g5
     have h := qu h
     rw [z3g, z29, q56 g7] at h
     rw [z29] at g6
     exact ⟨y0r g1, Nat.le_of_ble_eq_true g2, y3t g3, z1 g4, y29 (z2k g5), g6, h⟩
   · exact h.elim
 · exact h.elim
theorem z8b (hF : F = F.map P) {t : Nat} {l c : Operand} {d : Option Tmp} (h : (z9i F σ t l c d).holds P K) : y6e P σ t l c d K := by
 unfold z9i at h
 unfold y6e
 split at h
 · rename_i d sz by_ zrow k n k' n' h1 h2 h3 h4
   rw [yw hF h1, q5v hF h2, h3, h4]
   dsimp only
   split at h
   · rename_i hn
     rw [hn]
     dsimp only
     obtain ⟨g1, g2, g3, g4, g5, h⟩ := y9 h
     exact ⟨g2, g3, g4, g5, y0r g1, qu h⟩
   · exact h.elim
 · exact h.elim
theorem z6o (hF : F = F.map P) {t : Nat} {β m i k : Nat} {x : AV} (h : (q4a F σ t (.one (.e β m i k)) x).holds P K) : z4a P σ t (.one (.e β m i k)) x K := by
 unfold q4a at h
 unfold z4a
 split at h
 · rename_i n β m i k x h1 he
   cases he
   rw [z26 hF h1]
   dsimp only
   split at h
   · rename_i full sz ep rows hg
     rw [hg]
     dsimp only
     obtain ⟨g1, h⟩ := y9 h
     obtain ⟨g2, h⟩ := y9 h
     obtain ⟨g3, h⟩ := y9 h
     obtain ⟨g4, h⟩ := y9 h
     obtain ⟨g5, row, g6, g7, g8, h⟩ := h
     obtain ⟨xs, g9, h⟩ := ze h
     have h := qu h
     rw [z3g] at g3 g4 h
     rw [z3k g9] at h
     refine ⟨g5, ?_⟩
     rw [g6]
     refine ⟨y0r g2, ?_, g7, z1 g3, y29 (z2k g4), g8, h⟩
     exact y9j g1
   · exact h.elim
 · rename_i he; cases he
 · rename_i he; cases he
 · exact h.elim
theorem y6o (hF : F = F.map P) {t : Nat} {p x : AV} (hne : ∀ β m i k, p ≠ .one (.e β m i k)) (h : (q4a F σ t p x).holds P K) : y4a P σ t p x K := by
 unfold q4a at h
 unfold y4a
 split at h
 · exact absurd rfl (hne _ _ _ _)
 · rename_i β off c h1
   split at h
   · rename_i cs hg
     simp only [z26 hF h1, hg]
     obtain ⟨g1, h⟩ := y9 h
     obtain ⟨cs', g2, h⟩ := ze h
     rw [force_eq g2] at h
     exact ⟨z0l g1, qu h⟩
   · exact h.elim
 · rename_i n β off xs h1
   split at h
   · rename_i cs hg
     simp only [z26 hF h1, hg]
     obtain ⟨g0, h⟩ := y9 h
     obtain ⟨g1, h⟩ := y9 h
     obtain ⟨cs', g2, h⟩ := ze h
     rw [force_eq g2] at h
     exact ⟨y0r g0, z0l g1, qu h⟩
   · exact h.elim
 · exact h.elim
theorem y6z (hF : F = F.map P) {c : Call} (ho : o.op = .call c) (h : (y7z g F σ o c).holds P K) : opL g P σ o K := by
 unfold y7z at h
 split at h
 · rename_i hc
   simp only [opL, ho, hc, opY]
   split at h
   · rename_i t _ x ht hx
     obtain ⟨av, h1, h2⟩ := q2e h
     rw [ht, hx]
     simp only [evK, h1]
     exact z8a hF (fun v hv => yes hv) h2
   · exact h.elim
 · rename_i hc
   simp only [opL, ho, hc]
   split at h
   · rename_i t tx s x d ht hx hd
     unfold q96
     rw [ht, hx, hd]
     dsimp only
     split at h
     · rename_i sz by_ p β n γ m e1 e2 e3 e4
       rw [yw hF e1, yw hF e2, e3, e4]
       dsimp only
       split at h
       · rename_i full0 sz0 ep rows0 full sz1 ep1 rows e5 e6
         rw [e5, e6]
         dsimp only
         obtain ⟨g1, h⟩ := y9 h
         obtain ⟨g2, h⟩ := y9 h
         obtain ⟨g3, h⟩ := y9 h
         obtain ⟨g4, g5, g6, g7, g8, h⟩ := h
         exact ⟨g4, g5, Nat.eq_of_beq_eq_true g1, Nat.eq_of_beq_eq_true g2, g6, Nat.ne_of_beq_eq_false (z2k g3), g7, g8, qu h⟩
       · exact h.elim
     · rename_i sz by_ p β n rows e1 e2 e3 e4
       rw [yw hF e1, yw hF e2, e3, e4]
       dsimp only
       split at h
       · rename_i full0 sz0 ep rows0 e5
         rw [e5]
         dsimp only
         obtain ⟨g1, h⟩ := y9 h
         obtain ⟨g4, g5, g6, g7, g8, h⟩ := h
         exact ⟨g4, Nat.eq_of_beq_eq_true g1, g5, g6, g7, g8, qu h⟩
       · exact h.elim
     · rename_i sz by_ p γ m e1 e2 e3 e4
       rw [yw hF e1, yw hF e2, e3, e4]
       dsimp only
       split at h
       · rename_i full sz1 ep1 rows e5 e6
         rw [e5, e6]
         dsimp only
         obtain ⟨g1, h⟩ := y9 h
         obtain ⟨g2, h⟩ := y9 h
         obtain ⟨g4, g5, g6, h⟩ := h
         exact ⟨g4, Nat.eq_of_beq_eq_true g1, Nat.ne_of_beq_eq_false (z2k g2), g5, g6, qu h⟩
       · exact h.elim
     · rename_i sz by_ p γ m e1 e2 e3 e4
       rw [yw hF e1, yw hF e2, e3, e4]
       dsimp only
       split at h
       · rename_i full sz1 ep1 rows e5 e6
         rw [e5, e6]
         dsimp only
         obtain ⟨g1, h⟩ := y9 h
         obtain ⟨g2, h⟩ := y9 h
         obtain ⟨g4, g5, g6, h⟩ := h
         exact ⟨g4, Nat.eq_of_beq_eq_true g1, Nat.ne_of_beq_eq_false (z2k g2), g5, g6, qu h⟩
       · exact h.elim
     · rename_i sz by_ p rows e1 e2 e3 e4
       rw [yw hF e1, yw hF e2, e3, e4]
       dsimp only
       split at h
       · rename_i e5
         rw [e5]
         dsimp only
         obtain ⟨g4, g5, g6, g7, h⟩ := h
         exact ⟨g4, g5, g6, g7, qu h⟩
       · exact h.elim
     · rename_i sz by_ p rows e1 e2 e3 e4
       rw [yw hF e1, yw hF e2, e3, e4]
       dsimp only
       split at h
       · rename_i e5
         rw [e5]
         dsimp only
         obtain ⟨g4, g5, g6, g7, h⟩ := h
         exact ⟨g4, g5, g6, g7, qu h⟩
       · exact h.elim
     · exact h.elim
   · exact h.elim
 · rename_i x hc
   simp only [opL, ho, hc]
   split at h
   · rename_i f caps avs e1 e2
     rw [e1, e2]
     obtain ⟨avs', h1, h2⟩ := ze h
     rw [force_eq h1] at h2
     exact h2
   · rename_i f caps avs e1 e2
     rw [e1, e2]
     obtain ⟨avs', h1, h2⟩ := ze h
     rw [force_eq h1] at h2
     exact h2
   · rename_i f β off avs e1 e2
     rw [e1, e2]
     exact h
   · rename_i f ag row avs e1 e2
     rw [e1, e2]
     exact h
   · exact h.elim
 · rename_i hc
   simp only [opL, ho, hc, opY]
   split at h
   · rename_i x y hx
     rw [hx]
     dsimp only
     split at h
     · rename_i e1 e2; rw [e1, e2]; exact yes h
     · exact h.elim
   · rename_i x y z t hx
     rw [hx]
     dsimp only
     split at h
     · rename_i e1 e2 e3 e4; rw [e1, e2, e3, e4]; exact yes h
     · exact h.elim
   · exact h.elim
 · rename_i hc
   simp only [opL, ho, hc, opY]
   split at h
   · rename_i x y hx
     rw [hx]
     dsimp only
     split at h
     · rename_i e1 e2; rw [e1, e2]; exact yes h
     · exact h.elim
   · exact h.elim
 · exact h
theorem z7s (hF : F = F.map P) (h : (opR g F σ o).holds P K) : opL g P σ o K := by
 unfold opR at h
 split at h
 case h_1 x ho => simp only [opL, ho, opY]; exact z54 h (fun _ hk => hk)
 case h_2 x ho => simp only [opL, ho, opY]; exact z54 h (fun _ hk => hk)
 case h_3 c x y ho =>
  simp only [opL, ho, opY]
  split at h
  · rename_i t ht
    rw [ht]
    exact ⟨fun hb => z54 (x := if (true : Bool) then x else y) (h.1 hb) (fun _ hk => hk), fun hb => z54 (x := if (false : Bool) then x else y) (h.2 hb) (fun _ hk => hk)⟩
  · exact h.elim
 case h_4 t x ho =>
  simp only [opL, ho, opY]
  split at h
  · rename_i av ag n h1 h2
    rw [h1, z26 hF h2]
    exact q9h h
  · exact h.elim
 case h_5 op t x y yt ho =>
  split at h
  · rename_i p q h1 h2
    simp only [opL, ho, opY, h1, h2]
    obtain ⟨g1, h⟩ := y9 h
    refine ⟨y6w hF g1, ?_⟩
    unfold y5z
    split at h
    · exact yes h
    · exact yes h
    · exact h.elim
  · rename_i u v hne h1 h2
    simp only [opL, ho, opY]
    split
    · rename_i e1 e2
      rw [h1] at e1; rw [h2] at e2
      cases e1; cases e2
      exact (hne _ _ rfl rfl).elim
    · rename_i u' v' _ e1 e2
      rw [h1] at e1; rw [h2] at e2
      cases e1; cases e2
      exact y7y (fun v hv => yes hv) h
    · rename_i e1 e2
      rw [h1] at e1
      cases e1
    · rename_i e1 e2
      rw [h1] at e1
      cases e1
    · rename_i _ hx _ _
      exact (hx _ _ h1 h2).elim
  · rename_i rows h1 h2
    simp only [opL, ho, opY, h1, h2]
    obtain ⟨sz, g1, h⟩ := ze h
    obtain ⟨e, _, g2, _⟩ := z0k (z0c hF g1)
    refine ⟨⟨e, g2⟩, fun b hb => ?_⟩
    split at h
    · exact yes (h b hb)
    · exact yes (h b hb)
    · exact h.elim
  · rename_i cs cs' h1 h2
    simp only [opL, ho, opY, h1, h2]
    obtain ⟨ks, g1, h⟩ := ze h
    obtain ⟨xs, g2, h⟩ := ze h
    obtain ⟨ys, g3, h⟩ := ze h
    obtain ⟨g4, h⟩ := y9 h
    obtain ⟨g5, h⟩ := y9 h
    simp only [q7v, q6w hF g1, g2, g3]
    refine ⟨z2g g4, z2g g5, ?_⟩
    split at h
    · exact yes h
    · exact yes h
    · exact h.elim
  · exact h
 case h_6 op t x ho =>
  simp only [opL, ho, opY]
  split at h
  · rename_i b hb; rw [hb]; exact yes h
  · rename_i k n hn; rw [hn]; exact yes h
  · exact h.elim
 case h_7 s d x ho =>
  split at h
  · rename_i k0 n k h1 h2
    simp only [opL, ho, opY, h1, q7t hF h2]
    obtain ⟨g1, h⟩ := y9 h
    exact ⟨y6x hF g1, yes h⟩
  · exact h
 case h_8 s x f ho =>
  simp only [opL, ho, opY]
  split at h
  · rename_i row off h1 h2
    rw [h1, y2a hF h2]
    obtain ⟨g1, h⟩ := y9 h
    obtain ⟨r, g2, h⟩ := ze h
    rw [force_eq g2] at h
    exact ⟨z0l g1, yes h⟩
  · rename_i β i off h1 h2
    rw [h1, y2a hF h2]; exact yes h
  · rename_i β m i k off h1 h2
    rw [h1, y2a hF h2]; exact yes h
  · exact h.elim
 case h_9 s x f ho =>
  simp only [opL, ho, opY]
  split at h
  · rename_i cs off n h1 h2
    rw [h1, y25 hF h2]
    obtain ⟨g1, h⟩ := y9 h
    obtain ⟨r, g2, h⟩ := ze h
    rw [force_eq g2] at h
    exact ⟨z0l g1, yes h⟩
  · rename_i cs off n h1 h2
    rw [h1, y25 hF h2]
    obtain ⟨c, g2, h⟩ := ze h
    rw [y20] at g2
    dsimp only
    rw [g2]
    exact yes h
  · exact h.elim
 case h_10 t x i ho =>
  split at h
  · rename_i rows k n sz h1 h2 h3
    simp only [opL, ho, opY, h1, h2, z0c hF h3]
    obtain ⟨g1, row, g2, g3, h⟩ := h
    refine ⟨g1, ?_⟩
    rw [g2]
    exact ⟨g3, yes h⟩
  · rename_i β m k n sz h1 h2 h3
    simp only [opL, ho, opY, h1, h2, z0c hF h3]
    split at h
    · rename_i full sz0 ep rows hg
      rw [hg]
      obtain ⟨g0, g1, row, g2, g3, h⟩ := h
      refine ⟨g0, g1, ?_⟩
      rw [g2]
      exact ⟨g3, yes h⟩
    · exact h.elim
  · exact h
 case h_11 t x i ho =>
  simp only [opL, ho, opY]
  split at h
  · rename_i s k n h1 h2
    rw [h1, h2]
    obtain ⟨g1, h⟩ := y9 h
    obtain ⟨g2, b, g3, h⟩ := h
    refine ⟨y3a hF g1, g2, ?_⟩
    rw [g3]
    exact yes h
  · exact h.elim
 case h_12 t x lo hi ho =>
  split at h
  · rename_i s l hh h1 h2 h3
    simp only [opL, ho, opY, h1, z3i h2, z3i h3]
    obtain ⟨g1, g2, g3, g4, h⟩ := y9 h
    exact ⟨y3a hF g1, g2, g3, g4, yes h⟩
  · rename_i rows l hh h1 h2 h3
    simp only [opL, ho, opY, h1, z3i h2, z3i h3]
    obtain ⟨sz, g0, g1, g2, g3, g4, h⟩ := ze h
    rw [z0c hF g0]
    exact ⟨g1, g2, g3, g4, yes h⟩
  · exact h
 case h_13 x i ho =>
  simp only [opL, ho, opY]
  split at h
  · rename_i vs h1
    obtain ⟨av, g1, h⟩ := ze h
    rw [y20] at g1
    rw [h1]
    dsimp only
    rw [g1]
    exact yes h
  · exact h.elim
 case h_14 f first caps ho =>
  simp only [opL, ho, opY]
  split at h
  · rename_i x hf hc
    rw [hf, hc]
    dsimp only
    split at h
    · rename_i e1; rw [e1]; exact yes h
    · rename_i e1; rw [e1]; exact yes h
    · rename_i cs e1
      rw [e1]
      obtain ⟨l, g1, h⟩ := ze h
      dsimp only
      rw [g1]
      exact yes h
    · exact h.elim
  · rename_i hf
    obtain ⟨cs, g1, h⟩ := ze h
    rw [hf]
    dsimp only
    have e := q52 g1
    split
    · rename_i cs' hcs
      have := hcs.symm.trans e
      cases this
      exact yes h
    · rename_i hcs
      have := hcs.symm.trans e
      cases this
  · exact h.elim
 case h_15 t ps ho =>
  simp only [opL, ho, opY]
  obtain ⟨z, g1, h⟩ := ze h
  obtain ⟨cs, g2, h⟩ := ze h
  rw [z5c hF g1]
  dsimp only
  rw [y3f hF g2]
  exact yes h
 case h_16 e ho =>
  simp only [opL, ho]
  split at h
  · rename_i z hz
    obtain ⟨g1, h⟩ := y9 h
    rw [y5v hF hz]
    exact ⟨y34 g1, z6u h⟩
  · exact h.elim
 case h_17 e x ho =>
  simp only [opL, ho]
  split at h
  · rename_i z hz
    obtain ⟨g1, h⟩ := y9 h
    rw [hz]
    exact ⟨y34 g1, z6u h⟩
  · exact h.elim
 case h_18 t p x ho =>
  simp only [opL, ho]
  split at h
  · rename_i pv xv hd h1 h2
    refine ⟨hd, ?_⟩
    rw [h1, h2]
    split
    · rename_i e1 e2; cases e1; cases e2; exact z6o hF h
    · rename_i pv' xv' hne e1 e2
      cases e1; cases e2
      exact y6o hF (fun β m i k e => hne β m i k e) h
    · rename_i hx; exact (hx _ _ rfl rfl).elim
  · exact h.elim
 case h_19 t n ps ho => simp only [opL, ho]; exact y8a hF h
 case h_20 t l c ho => simp only [opL, ho]; exact z8b hF h
 case h_21 c ho => exact y6z hF ho h
 case h_22 x ho =>
  simp only [opL, ho, opY]
  obtain ⟨av, g1, h⟩ := q2e h
  rw [g1]
  split at h
  · exact yes h
  · exact yes h
  · exact yes h
  · exact h.elim
 case h_23 => exact h
end
end Go.Sx
end
section
namespace Go.Sx
open Go.RowKit (Below)
inductive Fr where
 | ops (ops : Array Oper) (l : List Oper)
 | op1 (g : Bool) (o : Oper)
 | r (r : R)
 | code (c : Code)
 | blk (id : Nat)
 | lp (J : St → Prop)
 | plan (ops : Array Oper) (LC : List Nat) (p : y5c)
def G (P : Program) (Q : Ex → St → Prop) : List Fr → Option Nat → St → Prop
 | [], none, σ => Q .normal σ
 | [], some i, σ => Q (.exit i) σ
 | .blk j :: st, some i, σ => if i = j then G P Q st none σ else G P Q st (some i) σ
 | _ :: st, some i, σ => G P Q st (some i) σ
 | .ops ops l :: st, none, σ => z8g P ops l σ (G P Q st none)
 | .op1 g o :: st, none, σ => opL g P σ o (G P Q st none)
 | .r r :: st, none, _ => r.holds P (G P Q st none)
 | .code c :: st, none, σ => vc P c (fun e σ => match e with | .normal => G P Q st none σ | .exit i => G P Q st (some i) σ | .ret => Q .ret σ) σ
 | .blk _ :: st, none, σ => G P Q st none σ
 | .lp J :: _, none, σ => J σ
 | .plan ops LC p :: st, none, σ => q2l LC P ops p σ (G P Q st none)
inductive T where
 | go (st : List Fr) (σ : St)
 | br (t : Bool) (st : List Fr) (σ : St) (st' : List Fr) (σ' : St)
 | side (p : Prop) (st : List Fr) (σ : St)
 | any (q : Bool → Prop) (f : Bool → R) (st : List Fr)
 | row (rows : List (List Cell)) (i : Nat) (f : List Cell → R) (st : List Fr)
 | byte (s : ByteArray) (i : Nat) (f : UInt8 → R) (st : List Fr)
 | call (g : Bool) (σ : St) (d : Option Tmp) (f : Nat) (avs : List AV) (st : List Fr)
 | raw (g : Bool) (σ : St) (o : Oper) (st : List Fr)
 | loop (b : Code) (st : List Fr) (σ : St)
 | cont (J : St → Prop) (σ : St)
 | draw (id : Nat) (ops : Array Oper) (st : List Fr) (σ : St)
 | both (st st' : List Fr) (σ : St)
 | yes
 | fin (e : Ex) (σ : St)
 | fail
def T.holds (P : Program) (Q : Ex → St → Prop) : T → Prop
 | .go st σ => G P Q st none σ
 | .br t st σ st' σ' => (t = true → G P Q st none σ) ∧ (t = false → G P Q st' none σ')
 | .side p st σ => p ∧ G P Q st none σ
 | .any q f st => ∀ b, q b → (f b).holds P (G P Q st none)
 | .row rows i f st => ∃ row, rows[i]? = some row ∧ (f row).holds P (G P Q st none)
 | .byte s i f st => ∃ b, s[i]? = some b ∧ (f b).holds P (G P Q st none)
 | .call g σ d f avs st => q39 P σ d f avs (G P Q st none) ∨ (g = true ∧ y39 P σ d f avs (G P Q st none))
 | .raw g σ o st => opL g P σ o (G P Q st none)
 | .loop b st σ => vc P (.loop b) (fun e σ => match e with | .normal => G P Q st none σ | .exit i => G P Q st (some i) σ | .ret => Q .ret σ) σ
 | .cont J σ => J σ
 | .draw id ops st σ => vc P (.region id ops true) (fun e σ => match e with | .normal => G P Q st none σ | .exit i => G P Q st (some i) σ | .ret => Q .ret σ) σ
 | .both st st' σ => G P Q st none σ ∧ G P Q st' none σ
 | .yes => True
 | .fin e σ => Q e σ
 | .fail => False
def y6i (i : Nat) : List Fr → Option (List Fr)
 | [] => none
 | .blk j :: st => bif Nat.beq i j then some st else y6i i st
 | _ :: st => y6i i st
def y9d (σ : St) (d : Option Tmp) : St := match σ, d with
 | ⟨t, b⟩, some d => ⟨(d, .tup []) :: t, b⟩
 | σ, none => σ
def skR (σ : St) (d : Option Tmp) : R := match y9d σ d with | ⟨t, b⟩ => (match force t with | some t => .ok ⟨t, b⟩ | none => .fail)
theorem z2o {P : Program} {σ : St} {d : Option Tmp} {K : St → Prop} (h : (skR σ d).holds P K) : K (y9d σ d) := by
 unfold skR at h
 split at h
 rename_i t b e
 split at h
 · rename_i t' ht; rw [force_eq ht] at h; rw [e]; exact h
 · exact h.elim
def z35 (g : Bool) (F : TT) (ops : Array Oper) (o : Oper) (st : List Fr) (σ : St) : T := match o.guard with
    | none => .go (.r (opR g F σ o) :: st) σ
    | some (j, want) => (match nth ops.toList j with
      | some o' => (match o'.dst with
        | some d => (match get σ.t d with
          | some (.one (.b (.s (.bool t)))) => (match want with
            | true => .br t (.op1 g o :: st) (q2v σ (.tmp d) true) (.r (skR (q2v σ (.tmp d) false) o.dst) :: st) ⟨[], []⟩
            | false => .br t (.r (skR (q2v σ (.tmp d) true) o.dst) :: st) ⟨[], []⟩ (.op1 g o :: st) (q2v σ (.tmp d) false))
          | some (.tup []) => .go (.r (skR σ o.dst) :: st) ⟨[], []⟩
          | _ => .fail)
        | none => .fail)
      | none => .fail)
def step (F : TT) : List Fr → St → T
 | [], σ => .fin .normal σ
 | .ops _ [] :: st, σ => .go st σ
 | .ops ops (o :: l) :: st, σ => z35 true F ops o (.ops ops l :: st) σ
 | .op1 g o :: st, σ => .go (.r (opR g F σ o) :: st) σ
 | .r r :: st, σ => (match r with
   | .fail => .fail
   | .ok σ => .go st σ
   | .side p r => .side p (.r r :: st) σ
   | .br t r r' => .br t (.r r :: st) σ (.r r' :: st) σ
   | .any q f => .any q f st
   | .row rows i f => .row rows i f st
   | .byte s i f => .byte s i f st
   | .call g σ d f avs => .call g σ d f avs st
   | .raw g σ o => .raw g σ o st)
 | .code c :: st, σ => (match c with
   | .skip => .go st σ
   | .region id ops draw => (match draw with | true => .draw id ops st σ | false => .go (.ops ops ops.toList :: st) σ)
   | .seq x y => .go (.code x :: .code y :: st) σ
   | .cond c x y => (match ev σ c with
     | some (.one (.b (.s (.bool t)))) => .br t (.code x :: st) (q2v σ c true) (.code y :: st) (q2v σ c false)
     | _ => .fail)
   | .block id b => .go (.code b :: .blk id :: st) σ
   | .loop b => .loop b st σ
   | .exit id => (match y6i id st with | some st => .go st σ | none => .fail)
   | .ret => .fin .ret σ
   | _ => .fail)
 | .blk _ :: st, σ => .go st σ
 | .lp J :: _, σ => .cont J σ
 | .plan ops LC p :: st, σ => (match p with
   | .done => .go st σ
   | .nil => .yes
   | .take i _ p => (match nth ops.toList i with | some o => z35 (LC.contains i) F ops o (.plan ops LC p :: st) σ | none => .fail)
   | .alt i p .nil => (match nth ops.toList i with | some o => z35 (LC.contains i) F ops o (.plan ops LC p :: st) σ | none => .fail)
   | .alt i p q => .both (.plan ops LC (.alt i p .nil) :: st) (.plan ops LC q :: st) σ)
def exec : Nat → TT → List Fr → St → T
 | 0, _, st, σ => .go st σ
 | n + 1, F, st, σ => match step F st σ with
   | .go st σ => exec n F st σ
   | t => t
section
variable {P : Program} {F : TT} {Q : Ex → St → Prop}
theorem q12 {i : Nat} {σ : St} : ∀ {st st' : List Fr}, y6i i st = some st' → G P Q st' none σ → G P Q st (some i) σ
 | [], st', h, _ => by cases h
 | .blk j :: st, st', h, hg => by
   rw [y6i] at h
   rw [G]
   by_cases hij : i = j
   · subst hij; simp only [Nat.beq_refl, cond_true, Option.some.injEq] at h; subst h; rw [if_pos rfl]; exact hg
   · rw [beq_false hij] at h; rw [if_neg hij]; exact q12 h hg
 | .ops _ _ :: st, st', h, hg => q12 (st := st) h hg
 | .op1 _ _ :: st, st', h, hg => q12 (st := st) h hg
 | .r _ :: st, st', h, hg => q12 (st := st) h hg
 | .code _ :: st, st', h, hg => q12 (st := st) h hg
 | .lp _ :: st, st', h, hg => q12 (st := st) h hg
 | .plan _ _ _ :: st, st', h, hg => q12 (st := st) h hg
theorem z45 {g : Bool} (hF : F = F.map P) {ops : Array Oper} {o : Oper} {st : List Fr} {σ : St} (h : (z35 g F ops o st σ).holds P Q) : z32 ops σ o (fun σ => opL g P σ o (G P Q st none)) (fun σ => y4u σ o.dst (G P Q st none)) := by
 simp only [z35] at h
 unfold z32
 split at h
 · rename_i hg; rw [hg]; exact z7s hF h
 · rename_i j want hg
   rw [hg]
   dsimp only
   split at h
   · rename_i o' ho'
     rw [y20, Array.getElem?_toList] at ho'
     split at h
     · rename_i d hd
       rw [ho']
       simp only [Option.bind_some, hd]
       split at h
       · rename_i t ht
         rw [ht]
         dsimp only
         have hsk : ∀ (σ0 : St) (K : St → Prop), K (y9d σ0 o.dst) → y4u σ0 o.dst K := fun σ0 K hk => by
          unfold y4u
          cases σ0 with
          | mk t0 b0 =>
          cases hdd : o.dst with
          | none => rw [hdd] at hk; exact hk
          | some d0 =>
            rw [hdd] at hk
            exact hk
         cases σ with
         | mk t0 b0 =>
         split at h
         · obtain ⟨h1, h2⟩ := h
           exact ⟨fun hb => by simp only [beq_self_eq_true, if_true]; exact h1 hb, fun hb => by
            have : ¬ ((false == true) = true) := by decide
            dsimp only; rw [if_neg this]; exact hsk _ _ (z2o (h2 hb))⟩
         · obtain ⟨h1, h2⟩ := h
           exact ⟨fun hb => by
            have : ¬ ((true == false) = true) := by decide
            dsimp only; rw [if_neg this]; exact hsk _ _ (z2o (h1 hb)), fun hb => by simp only [beq_self_eq_true, if_true]; exact h2 hb⟩
       · rename_i ht
         rw [ht]
         have h' := z2o (P := P) (K := G P Q st none) h
         unfold y4u
         cases σ with
         | mk t0 b0 =>
         cases hdd : o.dst with
         | none => rw [hdd] at h'; exact h'
         | some d0 => rw [hdd] at h'; exact h'
       · exact h.elim
     · exact h.elim
   · exact h.elim
theorem y8i (hF : F = F.map P) {st : List Fr} {σ : St} (h : (step F st σ).holds P Q) : G P Q st none σ := by
 cases st with
 | nil => exact h
 | cons f st =>
   cases f with
   | ops ops l =>
     cases l with
     | nil => exact h
     | cons o l =>
       exact z45 (st := .ops ops l :: st) hF h
   | op1 g o => exact z7s hF h
   | r r => cases r <;> exact h
   | code c =>
     cases c with
     | skip => exact h
     | region id ops draw =>
       cases draw with
       | true => exact h
       | false => exact h
     | seq x y =>
       have e : (fun (e : Ex) (σ : St) => match e with | .normal => G P Q (.code y :: st) none σ | .exit i => G P Q (.code y :: st) (some i) σ | .ret => Q .ret σ) =
        (fun e σ => match e with | .normal => vc P y (fun e σ => match e with | .normal => G P Q st none σ | .exit i => G P Q st (some i) σ | .ret => Q .ret σ) σ | .exit i => G P Q st (some i) σ | .ret => Q .ret σ) := by
        funext e σ; cases e <;> rfl
       have h' : vc P x (fun (e : Ex) (σ : St) => match e with | .normal => G P Q (.code y :: st) none σ | .exit i => G P Q (.code y :: st) (some i) σ | .ret => Q .ret σ) σ := h
       rw [e] at h'
       exact .inl h'
     | cond c x y =>
       simp only [step] at h
       simp only [G, vc]
       split at h
       · rename_i t ht; rw [ht]; exact h
       · exact h.elim
     | block id b =>
       have e : (fun (e : Ex) (σ : St) => match e with | .normal => G P Q (.blk id :: st) none σ | .exit i => G P Q (.blk id :: st) (some i) σ | .ret => Q .ret σ) =
        (fun e σ => match e with | .normal => G P Q st none σ | .exit i => if i = id then G P Q st none σ else G P Q st (some i) σ | .ret => Q .ret σ) := by
        funext e σ; cases e <;> rfl
       have h' : vc P b (fun (e : Ex) (σ : St) => match e with | .normal => G P Q (.blk id :: st) none σ | .exit i => G P Q (.blk id :: st) (some i) σ | .ret => Q .ret σ) σ := h
       rw [e] at h'
       exact h'
     | loop b => exact h
     | exit id =>
       simp only [step] at h
       split at h
       · rename_i st' hp; exact q12 hp h
       · exact h.elim
     | ret => exact h
     | _ => exact h.elim
   | blk id => exact h
   | lp J => exact h
   | plan ops LC p =>
     have one : ∀ {i : Nat} {p' : y5c}, (match nth ops.toList i with | some o => z35 (LC.contains i) F ops o (.plan ops LC p' :: st) σ | none => .fail).holds P Q → z8d LC P ops i σ (fun σ => q2l LC P ops p' σ (G P Q st none)) := fun {i p'} h => by
      unfold z8d
      split at h
      · rename_i o ho
        rw [y20, Array.getElem?_toList] at ho
        rw [ho]
        exact z45 (st := .plan ops LC p' :: st) hF h
      · exact h.elim
     cases p with
     | done => exact h
     | nil => trivial
     | take i W p => exact one h
     | alt i p q =>
       cases q with
       | nil => exact ⟨one h, trivial⟩
       | done => exact ⟨h.1.1, h.2⟩
       | take _ _ _ => exact ⟨h.1.1, h.2⟩
       | alt _ _ _ => exact ⟨h.1.1, h.2⟩
theorem z66 (hF : F = F.map P) : ∀ {n : Nat} {st : List Fr} {σ : St}, (exec n F st σ).holds P Q → G P Q st none σ
 | 0, _, _, h => h
 | n + 1, st, σ, h => by
   refine y8i hF ?_
   rw [exec] at h
   split at h
   · rename_i st' σ' hs; rw [hs]; exact z66 hF h
   · exact h
theorem run (hF : F = F.map P) {n : Nat} {st : List Fr} {σ : St} {t : T} (he : exec n F st σ = t) (h : t.holds P Q) : G P Q st none σ := z66 hF (by rw [he]; exact h)
def q65 : Nat → TT → List Fr → St → T
 | 0, _, st, σ => .go st σ
 | k + 1, F, st, σ => match exec 2000 F st σ with
   | .br t st1 σ1 st2 σ2 => (match t with | true => q65 k F st1 σ1 | false => q65 k F st2 σ2)
   | _ => .fail
theorem z3f (hF : F = F.map P) : ∀ {k : Nat} {st : List Fr} {σ : St}, (q65 k F st σ).holds P Q → G P Q st none σ
 | 0, _, _, h => h
 | k + 1, st, σ, h => by
   rw [q65] at h
   split at h
   · rename_i t st1 σ1 st2 σ2 he
     refine run hF he ?_
     cases t with
     | true => exact ⟨fun _ => z3f hF h, nofun⟩
     | false => exact ⟨nofun, fun _ => z3f hF h⟩
   · exact h.elim
def QR (P : Program) (fn : Func) (res : Res) (e : Ex) (σ : St) : Prop := match e with | .exit _ => False | _ => y90 P fn res σ
theorem PC.begin {f : Nat} {fn : Func} {c : Code} {args : List SV} {res : Res} (hf : P.funcs[f]? = some fn) (hb : fn.body = some c) (hok : (okF P f && y11 fn.ntmps c && Nat.ble args.length fn.ntmps) = true)
 (h : G P (QR P fn res) [.code c] none ⟨z7y 0 args, []⟩) : PC P f args res := by
 refine PC.intro hf hb hok ?_
 have e : (fun (e : Ex) (σ : St) => match e with | .normal => G P (QR P fn res) [] none σ | .exit i => G P (QR P fn res) [] (some i) σ | .ret => QR P fn res .ret σ) =
  (fun e σ => match e with | .exit _ => False | _ => y90 P fn res σ) := by
  funext e σ; cases e <;> rfl
 have h' : vc P c (fun (e : Ex) (σ : St) => match e with | .normal => G P (QR P fn res) [] none σ | .exit i => G P (QR P fn res) [] (some i) σ | .ret => QR P fn res .ret σ) ⟨z7y 0 args, []⟩ := h
 rw [e] at h'
 exact h'
end
end Go.Sx
end
section
namespace Go.Sx
class ql (P : Program) where
 F : TT
 ok : F = F.map P
 mix : P.follows .mixedOrders = true
def y5x (σ : St) (d : Option Tmp) (res : Res) : R := match d with
 | some d => (match σ with | ⟨t, b⟩ => bR ((d, z6k (nameOf d) res) :: t) (q13 (nameOf d) res ++ b))
 | none => .ok σ
def y18 : AC → Bool
 | .b _ => true
 | .nil => true
 | .em => true
 | _ => false
def z1h : List AV → Bool
 | [] => true
 | .one c :: l => bif y18 c then z1h l else false
 | .agg cs :: l => bif cs.all y18 then z1h l else false
 | _ => false
def q31 (B : List (Nat × AB)) : List (Nat × AB) → Bool
 | [] => true
 | (β, _) :: l => match get B β with | none => q31 B l | some _ => false
theorem z2p {c : AC} (h : y18 c = true) : q2o c := by cases c <;> first | trivial | cases h
theorem y1w : ∀ {avs : List AV}, z1h avs = true → z7w y4v avs
 | [], _ => trivial
 | .one c :: l, h => by
   rw [z1h] at h
   cases hc : y18 c with
   | false => rw [hc] at h; cases h
   | true => rw [hc] at h; exact ⟨z2p hc, y1w h⟩
 | .agg cs :: l, h => by
   rw [z1h] at h
   cases hc : cs.all y18 with
   | false => rw [hc] at h; cases h
   | true =>
     rw [hc] at h
     have : ∀ cs : List AC, cs.all y18 = true → q5x q2o cs := by
      intro cs
      induction cs with
      | nil => intro _; trivial
      | cons c cs ih => intro h; simp only [List.all_cons, Bool.and_eq_true] at h; exact ⟨z2p h.1, ih h.2⟩
     exact ⟨this cs hc, y1w h⟩
 | .tup _ :: l, h => by cases h
theorem q1j {B : List (Nat × AB)} : ∀ {l : List (Nat × AB)}, q31 B l = true → z04 B l
 | [], _ => trivial
 | (β, _) :: l, h => by
   rw [q31] at h
   split at h
   · rename_i hn; exact ⟨hn, q1j h⟩
   · cases h
def y7n (σ : St) (d : Option Tmp) (avs : List AV) (res : Res) : Bool := bif y0t res then (bif y32 res then (bif z1h avs then q31 σ.b (q13 (nameOf (d.getD 0)) res) else false) else q31 σ.b (q13 (nameOf (d.getD 0)) res)) else false
section
variable {P : Program} [ql P] {Q : Ex → St → Prop} {st st1 st2 : List Fr} {σ σ1 σ2 : St}
theorem xb {t : Bool} (h : exec 2000 (ql.F P) st σ = .br t st1 σ1 st2 σ2) (h1 : t = true → G P Q st1 none σ1) (h2 : t = false → G P Q st2 none σ2) : G P Q st none σ := run ql.ok h ⟨h1, h2⟩
theorem xf (h : exec 2000 (ql.F P) st σ = .br false st1 σ1 st2 σ2) (h1 : G P Q st2 none σ2) : G P Q st none σ := run ql.ok h ⟨nofun, fun _ => h1⟩
theorem xj {k : Nat} (h : q65 k (ql.F P) st σ = .go st1 σ1) (h1 : G P Q st1 none σ1) : G P Q st none σ := z3f ql.ok (by rw [h]; exact h1)
theorem xr {e : Ex} (h : exec 2000 (ql.F P) st σ = .fin e σ1) (h1 : Q e σ1) : G P Q st none σ := run ql.ok h h1
theorem xs {p : Prop} (h : exec 2000 (ql.F P) st σ = .side p st1 σ1) (h1 : p) (h2 : G P Q st1 none σ1) : G P Q st none σ := run ql.ok h ⟨h1, h2⟩
theorem za {rows : List (List Cell)} {i : Nat} {f : List Cell → R} (h : exec 2000 (ql.F P) st σ = .row rows i f st1) (row : List Cell) (hr : rows[i]? = some row) (h1 : G P Q (.r (f row) :: st1) none ⟨[], []⟩) : G P Q st none σ := run ql.ok h ⟨row, hr, h1⟩
theorem y8m {g : Bool} {o : Oper} (h : exec 2000 (ql.F P) st σ = .raw g σ1 o st1) (h1 : opL g P σ1 o (G P Q st1 none)) : G P Q st none σ := run ql.ok h h1
theorem q9 {J : St → Prop} (h : exec 2000 (ql.F P) st σ = .cont J σ1) (h1 : J σ1) : G P Q st none σ := run ql.ok h h1
theorem q1q (h : exec 2000 (ql.F P) st σ = .both st1 st2 σ1) (h1 : G P Q st1 none σ1) (h2 : G P Q st2 none σ1) : G P Q st none σ := run ql.ok h ⟨h1, h2⟩
def q7p (ops : Array Oper) (LC : List Nat) (p : y5c) : Bool := Region.noSelect ops && (z1z .any ops (Array.replicate ops.size false) p && y12 LC .any ops p ops.size (Array.replicate ops.size false))
theorem zb {id : Nat} {ops : Array Oper} (h : exec 2000 (ql.F P) st σ = .draw id ops st1 σ1) (LC : List Nat) (p : y5c) (hp : q7p ops LC p = true) (h1 : G P Q (.plan ops LC p :: st1) none σ1) : G P Q st none σ := by
 simp only [q7p, Bool.and_eq_true] at hp
 exact run ql.ok h ⟨ql.mix, hp.1, LC, p, hp.2.1, hp.2.2, h1⟩
theorem z2 {g : Bool} {d : Option Tmp} {f : Nat} {avs : List AV} {res : Res} (h : exec 2000 (ql.F P) st σ = .call g σ1 d f avs st1) (hpc : PC P f (avs.map (z8j σ1.b)) res) (hok : y7n σ1 d avs res = true) (hw : z7w (wfV σ1.b) avs) (h1 : G P Q (.r (y5x σ1 d res) :: st1) none ⟨[], []⟩) : G P Q st none σ := by
 refine run ql.ok h (.inl ⟨res, hpc, ?_⟩)
 unfold y7n at hok
 cases h2 : y0t res with
 | false => rw [h2] at hok; cases hok
 | true =>
   rw [h2] at hok
   have hK : G P Q st1 none (z2b σ1 d res) := by
    have h1 : (y5x σ1 d res).holds P (G P Q st1 none) := h1
    unfold y5x at h1
    unfold z2b
    cases d with
    | none => exact h1
    | some d => cases σ1; exact qu h1
   cases h3 : y32 res with
   | true =>
     rw [h3] at hok
     cases h4 : z1h avs with
     | false => rw [h4] at hok; cases hok
     | true => rw [h4] at hok; exact ⟨rfl, hw, fun _ => y1w h4, q1j hok, hK⟩
   | false => rw [h3] at hok; exact ⟨rfl, hw, nofun, q1j hok, hK⟩
def q5w (σ : St) (d : Option Tmp) (res : Res) (T : List (Nat × AB)) : R := match σ, d with
 | ⟨t, b⟩, some d => bR ((d, z6k (nameOf d) res) :: t) ((q13 (nameOf d) res ++ T) ++ b)
 | ⟨t, b⟩, none => bR t (([] ++ T) ++ b)
def y7q (σ : St) (d : Option Tmp) (avs : List AV) (args : List GA) (res : Res) : Bool := bif y0t res then (bif q8c ((q0o 0 (acs avs) (gcs args)).map (·.2.1)) then q31 σ.b (q13 (nameOf (d.getD 0)) res) else false) else false
theorem z9m {d : Option Tmp} {f : Nat} {avs : List AV} {args : List GA} {res : Res} {back : List (Nat × List (List Cell))} (h : exec 2000 (ql.F P) st σ = .call true σ1 d f avs st1) (hpc : PG P f args res back) (hm : mAs σ1.b avs args) (hok : y7q σ1 d avs args res = true)
 (h1 : G P Q (.r (q5w σ1 d res (y15 σ1.b back (q0o 0 (acs avs) (gcs args)))) :: st1) none ⟨[], []⟩) : G P Q st none σ := by
 unfold y7q at hok
 cases h2 : y0t res with
 | false => rw [h2] at hok; cases hok
 | true =>
   rw [h2] at hok
   cases h3 : q8c ((q0o 0 (acs avs) (gcs args)).map (·.2.1)) with
   | false => rw [h3] at hok; cases hok
   | true =>
     rw [h3] at hok
     refine run ql.ok h (.inr ⟨rfl, .inl ⟨args, res, back, hpc, h2, hm, z1 h3, q1j hok, ?_⟩⟩)
     have h1 : (q5w σ1 d res (y15 σ1.b back (q0o 0 (acs avs) (gcs args)))).holds P (G P Q st1 none) := h1
     cases σ1
     cases d with
     | none => exact qu h1
     | some d => exact qu h1
theorem z93 {b : Code} (h : exec 2000 (ql.F P) st σ = .loop b st1 σ1) {ι : Type} (pre : ι → Prop) (inv : ι → St) (m : ι → Nat) (i0 : ι) (h0 : pre i0) (hw : Wk σ1 (inv i0))
 (hs : ∀ i, pre i → ∀ J : St → Prop, (∀ σ' i', pre i' → m i' < m i → Wk σ' (inv i') → J σ') → G P Q (.code b :: .lp J :: st1) none (inv i)) : G P Q st none σ := by
 refine run ql.ok h ⟨ι, pre, inv, m, ⟨i0, h0, hw⟩, fun i hi => ?_⟩
 have h2 := hs i hi (fun σ => ∃ i', pre i' ∧ m i' < m i ∧ Wk σ (inv i')) (fun σ' i' h1 h2 h3 => ⟨i', h1, h2, h3⟩)
 have e : (fun (e : Ex) (σ : St) => match e with | .normal => G P Q (.lp (fun σ => ∃ i', pre i' ∧ m i' < m i ∧ Wk σ (inv i')) :: st1) none σ | .exit i' => G P Q (.lp (fun σ => ∃ i', pre i' ∧ m i' < m i ∧ Wk σ (inv i')) :: st1) (some i') σ | .ret => Q .ret σ) =
  (fun e σ => match e with | .normal => ∃ i', pre i' ∧ m i' < m i ∧ Wk σ (inv i') | .exit j => G P Q st1 (some j) σ | .ret => Q .ret σ) := by
  funext e σ; cases e <;> rfl
 have h3 : vc P b (fun (e : Ex) (σ : St) => match e with | .normal => G P Q (.lp (fun σ => ∃ i', pre i' ∧ m i' < m i ∧ Wk σ (inv i')) :: st1) none σ | .exit i' => G P Q (.lp (fun σ => ∃ i', pre i' ∧ m i' < m i ∧ Wk σ (inv i')) :: st1) (some i') σ | .ret => Q .ret σ) (inv i) := h2
 rw [e] at h3
 exact h3
theorem qb {b : Code} (h : exec 2000 (ql.F P) st σ = .loop b st1 σ1) {ι : Type} (pre : ι → Prop) (inv : ι → St) (m : ι → Nat) (i0 : ι) (h0 : pre i0) (hw : Wk0 σ1 (inv i0))
 (hs : ∀ i, pre i → ∀ J : St → Prop, (∀ σ' i', pre i' → m i' < m i → Wk0 σ' (inv i') → J σ') → G P Q (.code b :: .lp J :: st1) none (inv i)) : G P Q st none σ :=
 z93 h pre inv m i0 h0 (.of hw) (fun i hi J hJ => hs i hi J (fun σ' i' h1 h2 h3 => hJ σ' i' h1 h2 (.of h3)))
theorem y9z {n : Nat} {x y : Code} (h : exec n (ql.F P) st σ = .go (.code (.seq x y) :: st1) σ1) {ι : Type} (pre : ι → Prop) (inv : ι → St)
 (h1 : ∀ K : St → Prop, (∀ σ' i, pre i → Wk0 σ' (inv i) → K σ') → G P Q (.code x :: .lp K :: st1) none σ1) (h2 : ∀ i, pre i → G P Q (.code y :: st1) none (inv i)) : G P Q st none σ := by
 refine run ql.ok h ?_
 show G P Q (.code (.seq x y) :: st1) none σ1
 refine .inr ⟨ι, pre, inv, ?_, h2⟩
 have h3 := h1 (fun σ' => ∃ i, pre i ∧ Wk σ' (inv i)) (fun σ' i hp hw => ⟨i, hp, .of hw⟩)
 have e : (fun (e : Ex) (σ : St) => match e with | .normal => G P Q (.lp (fun σ => ∃ i', pre i' ∧ Wk σ (inv i')) :: st1) none σ | .exit i' => G P Q (.lp (fun σ => ∃ i', pre i' ∧ Wk σ (inv i')) :: st1) (some i') σ | .ret => Q .ret σ) =
  (fun e σ => match e with | .normal => ∃ i', pre i' ∧ Wk σ (inv i') | .exit j => G P Q st1 (some j) σ | .ret => Q .ret σ) := by
  funext e σ; cases e <;> rfl
 have h4 : vc P x (fun (e : Ex) (σ : St) => match e with | .normal => G P Q (.lp (fun σ => ∃ i', pre i' ∧ Wk σ (inv i')) :: st1) none σ | .exit i' => G P Q (.lp (fun σ => ∃ i', pre i' ∧ Wk σ (inv i')) :: st1) (some i') σ | .ret => Q .ret σ) σ1 := h3
 rw [e] at h4
 exact h4
omit [ql P] in
theorem z6 {fn : Func} {res : Res} {e : Ex} (he : (match e with | .exit _ => false | _ => true) = true) (h : y90 P fn res σ) : QR P fn res e σ := by
 cases e with
 | exit i => cases he
 | _ => exact h
end
end Go.Sx
end
section
namespace Go.Sx
theorem wrap_i64 {n : Int} (h : -9223372036854775808 ≤ n) (h2 : n ≤ 9223372036854775807) : IntKind.i64.wrap n = n := by
 have e : IntKind.i64.wrap n = if n % 18446744073709551616 ≥ 9223372036854775808 then n % 18446744073709551616 - 18446744073709551616 else n % 18446744073709551616 := by
  simp [IntKind.wrap, IntKind.signed, IntKind.bits]
 rw [e]
 split <;> omega
theorem yk {α : Type} (xs : List α) (z : α) (i n : Nat) (h : i < xs.length) (hn : n = xs.length) : (xs.take i ++ List.replicate (n - i) z)[i]? = some z := by
 subst hn
 have e1 : (xs.take i).length = i := by simp; omega
 rw [List.getElem?_append_right (by omega), List.getElem?_replicate, e1, if_pos (by omega)]
theorem qy {α : Type} (xs : List α) (z x : α) (i n : Nat) (h : xs[i]? = some x) (hn : n = xs.length) : (xs.take i ++ List.replicate (n - i) z).set i x = xs.take (i + 1) ++ List.replicate (n - (i + 1)) z := by
 subst hn
 obtain ⟨hi, rfl⟩ := List.getElem?_eq_some_iff.1 h
 apply List.ext_getElem?
 intro j
 rw [List.getElem?_set]
 by_cases hj : i = j
 · subst hj
   rw [if_pos rfl]
   have : i < (xs.take i ++ List.replicate (xs.length - i) z).length := by simp; omega
   rw [if_pos this, List.getElem?_append_left (by simp; omega), List.getElem?_take, if_pos (by omega)]
   simp
 · rw [if_neg hj]
   by_cases h1 : j < i
   · rw [List.getElem?_append_left (by simp; omega), List.getElem?_append_left (by simp; omega), List.getElem?_take, List.getElem?_take, if_pos h1, if_pos (by omega)]
   · rw [List.getElem?_append_right (by simp; omega), List.getElem?_append_right (by simp; omega), List.getElem?_replicate, List.getElem?_replicate]
     have e1 : (xs.take i).length = i := by simp; omega
     have e2 : (xs.take (i + 1)).length = i + 1 := by simp; omega
     rw [e1, e2]
     by_cases h3 : j < xs.length
     · rw [if_pos (by omega), if_pos (by omega)]
     · rw [if_neg (by omega), if_neg (by omega)]
theorem ye {α : Type} (xs : List α) (z : α) (i n : Nat) (h : i ≤ xs.length) (hn : n = xs.length) : (xs.take i ++ List.replicate (n - i) z).length = n := by
 subst hn; simp; omega
theorem qx {α : Type} (xs : List α) (z : α) (n : Nat) (hn : n = xs.length) : xs.take n ++ List.replicate (n - n) z = xs := by
 subst hn; simp
end Go.Sx
end
section
namespace Go.Sx
open Go.RowKit Go.ChangeShapes Go.WideShapes Go.Deep
def q5c (w : World) (cells : List Cell) (cs : List Value) : Prop := cs.length = cells.length ∧ ∀ (k : Nat) (c : Cell) (u : Value), cells[k]? = some c → cs[k]? = some u → Rep w (fun _ => True) c u
structure q2t (P : Program) (t : TypeId) {α : Type} (sz : Nat) (f : α → List Cell) (G : α → Prop) : Prop where
 hsz : P.cellsOf t = sz
 len : ∀ a, (f a).length = sz
 get : ∀ {H : Type} (enc : TypeId × Value → H) (w : World) (base : Nat) (spare : Nat → Bool) (held : Bool) (fuel : Nat) (cs : List Value) (x : DataW H × List MemPlace), DataW.trod enc P w base spare held fuel t cs = some x → ∃ a, q5c w (f a) cs ∧ G a
section
variable {P : Program} {α β : Type} {t e : TypeId}
theorem q5c.one {w : World} {c : Cell} {u : Value} (h : Rep w (fun _ => True) c u) : q5c w [c] [u] := ⟨rfl, fun k c' u' h1 h2 => by
 cases k with
 | zero => cases h1; cases h2; exact h
 | succ k => simp at h1⟩
theorem y6h {k : IntKind} (ht : P.underlying t = some (.int k)) (hc : P.cellsOf t = 1) : q2t P t 1 (fun n : Int => [.s (.int k n)]) (fun n => (Lit.int k n).wf = true) :=
 ⟨hc, fun _ => rfl, fun enc w base spare held fuel cs x h => by obtain ⟨n, rfl, _, hw⟩ := DataW.trod_int ht h; exact ⟨n, .one (.s _ rfl), hw⟩⟩
theorem q6h {sz : Nat} {f : α → List Cell} {G : α → Prop} (ht : P.underlying t = some (.slice e)) (he : q2t P e sz f G)
 {H : Type} (enc : TypeId × Value → H) (w : World) (base : Nat) (spare : Nat → Bool) (held : Bool) (fuel : Nat) (cs : List Value) (x : DataW H × List MemPlace) (h : DataW.trod enc P w base spare held fuel t cs = some x) :
 ∃ (l : List α) (v : Value), cs = [v] ∧ Rep w (fun _ => True) (.l (l.map f)) v ∧ (l.length ≤ maxLen ∧ ∀ a ∈ l, G a) := by
 classical
 rcases open_slice ht h with ⟨rfl, _⟩ | ⟨a, len, cap, m, n, D, Pl, rfl, hb, hl, hm, hmm, rfl, hx⟩
 · exact ⟨[], _, rfl, .l 0 [] none 0 (fun _ _ => undef) (by simp) (Nat.le_refl _) (fun _ => rfl) (fun j k hj => by simp at hj) (fun j k row c h1 => by simp at h1), by simp, fun a ha => by cases ha⟩
 · have hlm : len ≤ m := by rw [hmm]; split <;> omega
   have hall : ∀ i, i < len → ∃ b cs', cs'.length = sz ∧ q5c w (f b) cs' ∧ G b ∧ ∀ j, j < sz → w.cell? ((a.add (i * sz)).add j) = cs'[j]? := fun i hi => by
    obtain ⟨cs', h1, h2⟩ := hx i (by omega)
    obtain ⟨b, hK, hg⟩ := he.get enc w base spare held n cs' _ h2
    rw [he.hsz] at h1
    obtain ⟨_, hlen, hcell⟩ := World.cells?_some h1
    exact ⟨b, cs', hlen, hK, hg, hcell⟩
   have key : ∀ k, k ≤ len → ∃ l : List α, l.length = k ∧ (∀ j p, l[j]? = some p → ∃ c, c.length = sz ∧ q5c w (f p) c ∧ ∀ i u, c[i]? = some u → w.cell? (a.add (j * sz + i)) = some u) ∧ ∀ a ∈ l, G a := by
    intro k
    induction k with
    | zero => exact fun _ => ⟨[], rfl, fun j p hj => by simp at hj, fun a ha => by cases ha⟩
    | succ k ih =>
      intro hk
      obtain ⟨l, hl, hc, hG⟩ := ih (by omega)
      obtain ⟨b, c, hs, hK, hg, hcell⟩ := hall k (by omega)
      refine ⟨l ++ [b], by simp [hl], fun j p hj => ?_, fun b' hb' => ?_⟩
      · rcases Nat.lt_or_ge j l.length with hjl | hjl
        · rw [List.getElem?_append_left hjl] at hj
          exact hc j p hj
        · have hj' : j = l.length := by
           have := (List.getElem?_eq_some_iff.1 hj).1
           rw [List.length_append, List.length_singleton] at this
           omega
          subst hj'
          have hp : b = p := by simpa using hj
          subst hp
          refine ⟨c, hs, hK, fun i u hu => ?_⟩
          have hi : i < sz := by rw [← hs]; exact (List.getElem?_eq_some_iff.1 hu).1
          have := hcell i hi
          rw [Go.Deep.add_add, ← hl] at this
          rw [this, hu]
      · rcases List.mem_append.1 hb' with hb' | hb'
        · exact hG b' hb'
        · rw [List.mem_singleton.1 hb']; exact hg
   obtain ⟨l, hl', hc, hG⟩ := key len (Nat.le_refl _)
   subst hl'
   have hch : ∀ j : Nat, ∃ c : List Value, ∀ p, l[j]? = some p → c.length = sz ∧ q5c w (f p) c ∧ ∀ i u, c[i]? = some u → w.cell? (a.add (j * sz + i)) = some u := fun j => by
    cases hj : l[j]? with
    | none => exact ⟨[], fun p h => by cases h⟩
    | some p =>
      obtain ⟨c, h1, h2, h3⟩ := hc j p hj
      exact ⟨c, fun p' h => by cases h; exact ⟨h1, h2, h3⟩⟩
   have hch2 : ∃ c : Nat → List Value, ∀ j p, l[j]? = some p → (c j).length = sz ∧ q5c w (f p) (c j) ∧ ∀ i u, (c j)[i]? = some u → w.cell? (a.add (j * sz + i)) = some u := ⟨fun j => Classical.choose (hch j), fun j => Classical.choose_spec (hch j)⟩
   obtain ⟨c, hc⟩ := hch2
   have hlr : (l.map f).length = l.length := by simp
   refine ⟨l, _, rfl, ?_, by omega, hG⟩
   rw [show (Value.slice (some a) l.length cap) = .slice (some a) (l.map f).length cap by rw [hlr]]
   refine .l sz (l.map f) (some a) cap (fun j k => ((c j)[k]?).getD undef) (fun row hr => ?_) (by rw [hlr]; exact hl) (fun h => by cases h) (fun j k hj hk => ?_) (fun j k row c' h1 h2 => ?_)
   · obtain ⟨p, _, rfl⟩ := List.mem_map.1 hr; exact he.len p
   · rw [hlr] at hj
     obtain ⟨h1, _, h3⟩ := hc j _ (List.getElem?_eq_getElem hj)
     refine ⟨a, rfl, trivial, ?_⟩
     have hlt : k < (c j).length := by omega
     rw [h3 k _ (List.getElem?_eq_getElem hlt), List.getElem?_eq_getElem hlt]; rfl
   · rw [List.getElem?_map] at h1
     cases hj : l[j]? with
     | none => rw [hj] at h1; cases h1
     | some p =>
       rw [hj] at h1
       cases h1
       obtain ⟨h4, h5, _⟩ := hc j p hj
       have hk : k < (c j).length := by rw [h4, ← he.len p]; exact (List.getElem?_eq_some_iff.1 h2).1
       refine h5.2 k c' _ h2 ?_
       rw [List.getElem?_eq_getElem hk]; rfl
inductive Laid (P : Program) : Nat → List Field → Prop
 | nil (o : Nat) : Laid P o []
 | cons {o : Nat} {f : Field} {fs : List Field} : f.offset = o → Laid P (o + P.cellsOf f.type) fs → Laid P o (f :: fs)
def y3s (P : Program) (fs : List Field) {α : Type} (sz : Nat) (f : α → List Cell) (G : α → Prop) : Prop :=
 (∀ a, (f a).length = sz) ∧ ∀ {H : Type} (enc : TypeId × Value → H) (w : World) (base : Nat) (spare : Nat → Bool) (held : Bool) (fuel : Nat) (cs : List Value), cs.length = sz →
   (∀ (i : Nat) (f : Field), fs[i]? = some f → ∃ x, DataW.trod enc P w base spare held fuel f.type ((cs.drop (((fs.take i).map fun g => P.cellsOf g.type).sum)).take (P.cellsOf f.type)) = some x) →
   ∃ a, q5c w (f a) cs ∧ G a
theorem q5c.append {w : World} {xs ys : List Cell} {us vs : List Value} (h : q5c w xs us) (k : q5c w ys vs) : q5c w (xs ++ ys) (us ++ vs) := by
 refine ⟨by simp [h.1, k.1], fun i c u h1 h2 => ?_⟩
 rw [List.getElem?_append] at h1 h2
 rw [h.1] at h2
 by_cases hi : i < xs.length
 · rw [if_pos hi] at h1 h2; exact h.2 i c u h1 h2
 · rw [if_neg hi] at h1 h2; exact k.2 _ c u h1 h2
theorem y5n {fd : Field} {sz : Nat} {f : α → List Cell} {G : α → Prop} (h : q2t P fd.type sz f G) : y3s P [fd] sz f G := by
 refine ⟨h.len, fun enc w base spare held fuel cs hl hx => ?_⟩
 obtain ⟨x, hx⟩ := hx 0 fd rfl
 simp only [List.take_zero, List.map_nil, List.sum_nil, List.drop_zero] at hx
 rw [h.hsz, ← hl, List.take_length] at hx
 exact h.get enc w base spare held fuel cs x hx
theorem y4q {fd : Field} {fs : List Field} {sz sz' : Nat} {f : α → List Cell} {f' : β → List Cell} {G : α → Prop} {G' : β → Prop} (h : q2t P fd.type sz f G) (h' : y3s P fs sz' f' G') : y3s P (fd :: fs) (sz + sz') (fun x : α × β => f x.1 ++ f' x.2) (fun x => G x.1 ∧ G' x.2) := by
 refine ⟨fun a => by simp [h.len, h'.1], fun enc w base spare held fuel cs hl hx => ?_⟩
 obtain ⟨x, hx0⟩ := hx 0 fd rfl
 simp only [List.take_zero, List.map_nil, List.sum_nil, List.drop_zero] at hx0
 rw [h.hsz] at hx0
 obtain ⟨a, hK, hG⟩ := h.get enc w base spare held fuel _ x hx0
 obtain ⟨b, hK', hG'⟩ := h'.2 enc w base spare held fuel (cs.drop sz) (by rw [List.length_drop]; omega) (fun i g hi => by
  obtain ⟨y, hy⟩ := hx (i + 1) g (by simpa using hi)
  refine ⟨y, ?_⟩
  rw [List.drop_drop]
  simpa [h.hsz] using hy)
 refine ⟨(a, b), ?_, hG, hG'⟩
 have := hK.append hK'
 rwa [List.take_append_drop] at this
theorem q2i : ∀ {fs : List Field} {o : Nat}, Laid P o fs → ∀ (i : Nat) (f : Field), fs[i]? = some f → f.offset = o + ((fs.take i).map fun g => P.cellsOf g.type).sum
 | [], _, _, i, f, h => by simp at h
 | g :: fs, o, .cons h1 h2, 0, f, h => by
   have : g = f := by simpa using h
   subst this
   simp [h1]
 | g :: fs, o, .cons h1 h2, i + 1, f, h => by
   rw [q2i h2 i f (by simpa using h)]
   simp [Nat.add_assoc]
theorem q45 {fs : List Field} {sz : Nat} {f : α → List Cell} {G : α → Prop} {f' : β → List Cell} {G' : β → Prop} (g : α → β) (hfg : ∀ a, f' (g a) = f a) (hG : ∀ a, G a → G' (g a)) (hlen : ∀ b, (f' b).length = sz) (ht : P.underlying t = some (.struct fs.toArray)) (hc : P.cellsOf t = sz) (hL : Laid P 0 fs) (hF : y3s P fs sz f G) :
 q2t P t sz f' G' :=
 ⟨hc, hlen, fun enc w base spare held fuel cs x h => by
   obtain ⟨xs, n, rfl, _, hl, hxs, hf⟩ := DataW.trod_struct ht h
   obtain ⟨a, hK, hg⟩ := hF.2 enc w base spare held n cs (by rw [hl, hc]) (fun i f hi => by
    have hoff := q2i hL i f hi
    rw [Nat.zero_add] at hoff
    have h1 := hf i f (by simpa using hi)
    rw [hoff] at h1
    have hi' : i < xs.length := by
     rw [hxs]
     have := (List.getElem?_eq_some_iff.1 hi).1
     simpa using this
    exact ⟨xs[i], by rw [h1, List.getElem?_eq_getElem hi']⟩)
   exact ⟨g a, by rw [hfg]; exact hK, hG a hg⟩⟩
theorem q4q {sz : Nat} {f : α → List Cell} {G : α → Prop} (ht : P.underlying t = some (.slice e)) (hc : P.cellsOf t = 1) (he : q2t P e sz f G) : q2t P t 1 (fun l : List α => [.l (l.map f)]) (fun l => l.length ≤ maxLen ∧ ∀ a ∈ l, G a) :=
 ⟨hc, fun _ => rfl, fun enc w base spare held fuel cs x h => by
   obtain ⟨l, v, rfl, hr, hG⟩ := q6h ht he enc w base spare held fuel cs x h
   exact ⟨l, .one hr, hG⟩⟩
theorem z5e {fs : Array Field} {sz : Nat} {f : α → List Cell} {G : α → Prop} (ht : P.underlying t = some (.struct fs)) (he : q2t P t sz f G) {H : Type} {enc : TypeId × Value → H} {w : World} {r : Reach} {b : Nat} {v : Value} {dd : DataW H} {ps : List MemPlace}
 (hv : Value.okWide P w r b t v) (h : DataW.Trod enc P w 0 (fun _ => true) true t v dd ps) : ∃ a : α, q6x w (fun _ => True) (.agg (f a)) v ∧ G a := by
 obtain ⟨cs, rfl, _⟩ := okWide_struct ht hv
 obtain ⟨fuel, hf⟩ := h
 obtain ⟨a, hK, hG⟩ := he.get enc w 0 _ true fuel _ _ hf
 have hK' : q5c w (f a) cs.toList := by simpa [Value.cells] using hK
 exact ⟨a, ⟨cs, rfl, by simpa using hK'.1, fun k c u hc hu => hK'.2 k c u hc (by simpa using hu)⟩, hG⟩
end
end Go.Sx
end
section
namespace Go.Sx
open Go.RowKit (Below)
theorem PC.law {P : Program} {f : Nat} {args : List SV} {b : Bool} (h : PC P f args (.one (.own false [.s (.bool b)]))) {w : World} {vals : Array Value} (ha : q5b w (fun _ => True) vals args) :
 Calls P f vals w fun e w' => e = .returned (.bool b) ∧ Below w.heap.size w w' := by
 refine (h.2 _ w vals ha).mono ?_
 rintro e w' ⟨v, S, rfl, hk, ⟨arr, F, h1, h2, _, _, h5⟩, _⟩
 have h1' : arr = #[v] := h1
 subst h1'
 obtain ⟨rfl, _⟩ := h5 0 _ v rfl rfl
 exact ⟨rfl, hk.below⟩
theorem q5b.two {w : World} {N : Nat → Prop} {sv sv' : SV} {v v' : Value} (h : q6x w N sv v) (h' : q6x w N sv' v') : q5b w N #[v, v'] [sv, sv'] := ⟨rfl, fun i s u h1 h2 => by
 cases i with
 | zero => cases h1; cases h2; exact h
 | succ i =>
   cases i with
   | zero => cases h1; cases h2; exact h'
   | succ i => simp at h1⟩
end Go.Sx
end
section
namespace Go.Sx
inductive Sh where
 | nil
 | i (k : IntKind) (r : Sh)
 | b (r : Sh)
 | l (e : Sh) (r : Sh)
inductive WT (N : Nat) : Sh → List Cell → Prop
 | nil : WT N .nil []
 | i {k : IntKind} {r : Sh} {cs : List Cell} (n : Int) : WT N r cs → WT N (.i k r) (.s (.int k n) :: cs)
 | b {r : Sh} {cs : List Cell} (x : Bool) : WT N r cs → WT N (.b r) (.s (.bool x) :: cs)
 | l {e r : Sh} {cs : List Cell} (rows : List (List Cell)) : rows.length ≤ N → (∀ row ∈ rows, WT N e row) → WT N r cs → WT N (.l e r) (.l rows :: cs)
def WR (N : Nat) (e : Sh) (rows : List (List Cell)) : Prop := rows.length ≤ N ∧ ∀ row ∈ rows, WT N e row
def nx (k : Int) : Int := IntKind.i64.wrap (k + 1)
def mkv : IntKind → Int → Int
 | .i64, k => k
 | t, k => t.wrap k
def mkR (f : List Cell → Int → List Cell × Int) : List (List Cell) → Int → List (List Cell) × Int
 | [], k => ([], k)
 | row :: rows, k => ((f row k).1 :: (mkR f rows (f row k).2).1, (mkR f rows (f row k).2).2)
def mk : Sh → List Cell → Int → List Cell × Int
 | .nil, cs, k => (cs, k)
 | .i t r, _ :: cs, k => (.s (.int t (mkv t k)) :: (mk r cs (nx k)).1, (mk r cs (nx k)).2)
 | .b r, _ :: cs, k => (.s (.bool (k.tmod 3 == 0)) :: (mk r cs (nx k)).1, (mk r cs (nx k)).2)
 | .l e r, .l rows :: cs, k => (.l (mkR (mk e) rows k).1 :: (mk r cs (mkR (mk e) rows k).2).1, (mk r cs (mkR (mk e) rows k).2).2)
 | _, cs, k => (cs, k)
def hdR (f : List Cell → Int → Option Int) : List (List Cell) → Int → Option Int
 | [], k => some k
 | row :: rows, k => (f row k).bind (hdR f rows)
def ng (o : Option Int) : Int := o.getD (-1)
def ps (k : Int) : Option Int := if k < 0 then none else some k
def hd : Sh → List Cell → Int → Option Int
 | .nil, _, k => some k
 | .i t r, .s (.int _ n) :: cs, k => if n = mkv t k then hd r cs (nx k) else none
 | .b r, .s (.bool x) :: cs, k => if x = (k.tmod 3 == 0) then hd r cs (nx k) else none
 | .l e r, .l rows :: cs, k => (ps (ng (hdR (hd e) rows k))).bind (hd r cs)
 | _, _, k => some k
def mt : Sh → List Cell → Int → List Cell × Int
 | .i _ r, c :: cs, k => (c :: (mt r cs k).1, (mt r cs k).2)
 | .b r, c :: cs, k => (c :: (mt r cs k).1, (mt r cs k).2)
 | .l e r, .l rows :: cs, k => (.l (mkR (mk e) rows k).1 :: (mt r cs (mkR (mk e) rows k).2).1, (mt r cs (mkR (mk e) rows k).2).2)
 | _, cs, k => (cs, k)
def ht : Sh → List Cell → Int → Option Int
 | .i _ r, _ :: cs, k => ht r cs k
 | .b r, _ :: cs, k => ht r cs k
 | .l e r, .l rows :: cs, k => (ps (ng (hdR (hd e) rows k))).bind (ht r cs)
 | _, _, k => some k
def q09 (f : List Cell → Nat) : List (List Cell) → Nat
 | [] => 0
 | row :: rows => f row + q09 f rows
def cnt : Sh → List Cell → Nat
 | .i _ r, _ :: cs => 1 + cnt r cs
 | .b r, _ :: cs => 1 + cnt r cs
 | .l e r, .l rows :: cs => q09 (cnt e) rows + cnt r cs
 | _, _ => 0
def tot : Sh → List Cell → Nat
 | .i _ r, _ :: cs => tot r cs
 | .b r, _ :: cs => tot r cs
 | .l e r, .l rows :: cs => rows.length + q09 (tot e) rows + tot r cs
 | _, _ => 0
def zj (e : Sh) (rows : List (List Cell)) : Nat := rows.length + q09 (tot e) rows
theorem WT.mono {N M : Nat} (h : N ≤ M) {e : Sh} {cs : List Cell} (hw : WT N e cs) : WT M e cs := by
 induction hw with
 | nil => exact .nil
 | i n _ ih => exact .i n ih
 | b x _ ih => exact .b x ih
 | l rows h1 _ _ ih1 ih2 => exact .l rows (by omega) ih1 ih2
theorem WR.mono {N M : Nat} (h : N ≤ M) {e : Sh} {rows : List (List Cell)} (hw : WR N e rows) : WR M e rows := ⟨Nat.le_trans hw.1 h, fun r hr => (hw.2 r hr).mono h⟩
theorem WT.zt {N : Nat} {k : IntKind} {r : Sh} {cs : List Cell} (h : WT N (.i k r) cs) : ∃ n cs', cs = .s (.int k n) :: cs' ∧ WT N r cs' := by
 cases h with | i n h => exact ⟨_, _, rfl, h⟩
theorem WT.y0z {N : Nat} {e r : Sh} {cs : List Cell} (h : WT N (.l e r) cs) : ∃ rows cs', cs = .l rows :: cs' ∧ WR N e rows ∧ WT N r cs' := by
 cases h with | l rows h1 h2 h3 => exact ⟨_, _, rfl, ⟨h1, h2⟩, h3⟩
theorem WT.qv {N : Nat} {cs : List Cell} (h : WT N .nil cs) : cs = [] := by
 cases h; rfl
theorem q3c {f g : List Cell → Nat} {a b : Nat} : ∀ {rows : List (List Cell)}, (∀ row ∈ rows, f row ≤ a + b * g row) → q09 f rows ≤ a * rows.length + b * q09 g rows
 | [], _ => by simp [q09]
 | r :: rows, h => by
   have h1 := h r (by simp)
   have h2 := q3c (rows := rows) (fun row hr => h row (by simp [hr]))
   simp only [q09, List.length_cons, Nat.mul_add, Nat.mul_one]
   omega
def md (f : List Cell → Int → List Cell × Int) (rows : List (List Cell)) (k : Int) (i : Nat) : List (List Cell) := (mkR f (rows.take i) k).1 ++ rows.drop i
section
variable {f : List Cell → Int → List Cell × Int} {rows : List (List Cell)} {k : Int} {i : Nat} {row : List Cell}
theorem y4c (h : rows[i]? = some row) : rows.take (i + 1) = rows.take i ++ [row] := by rw [List.take_add_one, h]; rfl
end
def szn (b : Int) (n : Nat) : Int := if b - n < 0 then -1 else b - n
theorem q0b {b : Int} {n : Nat} (h : b ≤ 1048576) (h0 : 0 ≤ b) : szn b n ≤ 1048576 := by unfold szn; split <;> omega
theorem yg {b : Int} {m n : Nat} (h : 0 ≤ szn b m) : szn (szn b m) n = szn b (m + n) := by
 unfold szn at *; split at h
 · omega
 · rename_i h1; simp only [if_neg h1]; split <;> split <;> omega
theorem cwi {k : IntKind} {n m : Int} (h : -9223372036854775808 ≤ n) (h2 : n ≤ 9223372036854775807) (e : n = m) : Cell.s (.int k (IntKind.i64.wrap n)) = Cell.s (.int k m) := by rw [wrap_i64 h h2, e]
theorem y1d (f : List Cell → Nat) : ∀ (xs ys : List (List Cell)), q09 f (xs ++ ys) = q09 f xs + q09 f ys
 | [], ys => by simp [q09]
 | x :: xs, ys => by simp [q09, y1d f xs, Nat.add_assoc]
theorem y0o {f : List Cell → Nat} {rows : List (List Cell)} {i : Nat} {row : List Cell} (h : rows[i]? = some row) : q09 f (rows.take (i + 1)) = q09 f (rows.take i) + f row := by
 rw [y4c h, y1d]; simp [q09]
theorem q0d (f : List Cell → Nat) (rows : List (List Cell)) (i : Nat) : q09 f rows = q09 f (rows.take i) + q09 f (rows.drop i) := by
 rw [← y1d, List.take_append_drop]
theorem z0i {N : Nat} {e : Sh} {rows : List (List Cell)} (h : ∀ row, WT N e row → tot e row = 0) (hw : WR N e rows) : zj e rows = rows.length := by
 have : ∀ rows : List (List Cell), (∀ row ∈ rows, WT N e row) → q09 (tot e) rows = 0 := by
  intro rows
  induction rows with
  | nil => intro _; rfl
  | cons r rows ih => intro hr; rw [q09, h r (hr r (by simp)), ih (fun x hx => hr x (by simp [hx]))]
 rw [zj, this rows hw.2, Nat.add_zero]
theorem zm {α : Type} {xs ys : List α} {i : Nat} {a : α} (h : xs.take i = ys.take i) (hx : xs[i]? = some a) (hy : ys[i]? = some a) : xs.take (i + 1) = ys.take (i + 1) := by
 rw [List.take_add_one, List.take_add_one, h, hx, hy]
noncomputable def dE {α : Type} (p q : α) : Bool := open Classical in decide (p = q)
theorem qh {α : Type} {p q : α} (h : p ≠ q) : Value.bool false = Value.bool (dE p q) := by simp [dE, h]
theorem qq {α : Type} {p q : α} (h : p = q) : Value.bool true = Value.bool (dE p q) := by simp [dE, h]
theorem y01 {α : Type} {p q : α} (h : (!dE p q) = true) : p ≠ q := by simpa [dE] using h
theorem z01 {α : Type} {p q : α} (h : (!dE p q) = false) : p = q := by simpa [dE] using h
abbrev i64 (n : Int) : Cell := .s (.int .i64 n)
abbrev rI (n : Int) : Res := .one (.own false [.s (.int .i64 n)])
abbrev rB (b : Bool) : Res := .one (.own false [.s (.bool b)])
end Go.Sx
end
section
namespace Go.Sx
open Go.Maps (Keyed)
section
variable {P : Program} [ql P] {Q : Ex → St → Prop} {st st1 : List Fr} {σ σ1 : St} {g : Bool} {o : Oper} {t : TypeId} {m x : Operand} {β k e n : Nat} {D : DataW Unit} {q : IntKind}
theorem y93 {r : Nat} (h : exec 2000 (ql.F P) st σ = .raw g σ1 o st1) (ho : o.op = .makeMap t none) (hd : o.dst = some r) (hu : P.underlying t = some (.map k e)) (hn : get σ1.b r = none)
 (h1 : G P Q st1 none ⟨(r, .one (.mx 0 r)) :: σ1.t, z09 σ1.b r (.mp k e 0 (.map []) none)⟩) : G P Q st none σ :=
 y8m h (by simp only [opL, ho]; exact ⟨r, k, e, rfl, hd, hu, hn, h1⟩)
theorem y9m {av : AV} {key : Value} {kl : Lit} (h : exec 2000 (ql.F P) st σ = .raw g σ1 o st1) (ho : o.op = .lookup t m x false) (hm : ev σ1 m = some (.one (.mx 0 β))) (hb : get σ1.b β = some (.mp k e n D none))
 (hu : P.underlying t = some (.map k e)) (he : P.underlying e = some (.int q)) (hK : Keyed P k) (hz : ∀ w, (zeroValue e).run P w = .ok (.int q 0) w) (hx : ev σ1 x = some av) (hv : valOf av = some key) (hkey : keyOf P k key = some kl)
 (h1 : ∀ c, D.atKey kl (.lit (.int q 0)) = .lit (.int q c) → (Lit.int q c).wf = true → G P Q st1 none (σ1.put o.dst (.one (.b (.s (.int q c)))))) : G P Q st none σ :=
 y8m h (by simp only [opL, ho]; exact ⟨β, k, e, n, D, q, kl, av, key, rfl, hm, hb, hu, he, hK, hz, hx, hv, hkey, h1⟩)
theorem q9z {v : Operand} {av : AV} {key : Value} {kl : Lit} {c : Int} (h : exec 2000 (ql.F P) st σ = .raw g σ1 o st1) (ho : o.op = .mapUpdate t m x v) (hd : o.dst = none) (hm : ev σ1 m = some (.one (.mx 0 β))) (hb : get σ1.b β = some (.mp k e n D none))
 (hu : P.underlying t = some (.map k e)) (he : P.underlying e = some (.int q)) (hK : Keyed P k) (hn : n < maxLen) (hx : ev σ1 x = some av) (hv : valOf av = some key) (hkey : keyOf P k key = some kl) (hc : ev σ1 v = some (.one (.b (.s (.int q c))))) (hw : (Lit.int q c).wf = true)
 (h1 : G P Q st1 none ⟨σ1.t, z09 σ1.b β (.mp k e (n + 1) (D.put kl (.lit (.int q c))) none)⟩) : G P Q st none σ :=
 y8m h (by simp only [opL, ho]; exact ⟨β, k, e, n, D, q, kl, av, key, c, hd, hm, hb, hu, he, hK, hn, hx, hv, hkey, hc, hw, h1⟩)
theorem z94 {r : Nat} (h : exec 2000 (ql.F P) st σ = .raw g σ1 o st1) (ho : o.op = .range t m) (hd : o.dst = some r) (hm : ev σ1 m = some (.one (.mx 0 β))) (hb : get σ1.b β = some (.mp k e n D none)) (hr : get σ1.b r = none)
 (hu : P.underlying t = some (.map k e)) (hK : Keyed P k)
 (h1 : G P Q st1 none ⟨(r, .one (.mx 1 r)) :: σ1.t, z09 (z09 σ1.b β .dead) r (.mp k e n D (some (Maps.has D, Maps.size D, none)))⟩) : G P Q st none σ :=
 y8m h (by simp only [opL, ho]; exact ⟨r, β, k, e, n, D, hd, hm, hb, hr, hu, hK, h1⟩)
theorem q9m {r : Nat} {left : Lit → Bool} {cnt : Nat} {cur : Option (Value × Value)} (h : exec 2000 (ql.F P) st σ = .raw g σ1 o st1) (ho : o.op = .next m false) (hd : o.dst = some r) (hm : ev σ1 m = some (.one (.mx 1 β))) (hb : get σ1.b β = some (.mp k e n D (some (left, cnt, cur))))
 (hK : Keyed P k) (he : P.underlying e = some (.int q))
 (h0 : cnt = 0 → (∀ kl, left kl = false) → G P Q st1 none ⟨(r, .tup [.one (.b (.s (.bool false)))]) :: σ1.t, σ1.b⟩)
 (h1 : ∀ key kl c cnt', keyOf P k key = some kl → left kl = true → (∀ zd, D.atKey kl zd = .lit (.int q c)) → (Lit.int q c).wf = true → cnt' < cnt →
   ∃ av, q19 key = some av ∧ (∀ vs, av ≠ .tup vs) ∧ G P Q st1 none ⟨(r, .tup [.one (.b (.s (.bool true))), av, .one (.b (.s (.int q c)))]) :: σ1.t, z09 σ1.b β (.mp k e n D (some ((fun z => left z && !z.sameKey kl), cnt', some (key, .int q c))))⟩) : G P Q st none σ :=
 y8m h (by simp only [opL, ho]; exact ⟨r, β, k, e, n, D, left, cnt, cur, q, rfl, hd, hm, hb, hK, he, h0, h1⟩)
theorem q93 {r : Nat} {qk : IntKind} {left : Lit → Bool} {cnt : Nat} {cur : Option (Value × Value)} (h : exec 2000 (ql.F P) st σ = .raw g σ1 o st1) (ho : o.op = .next m false) (hd : o.dst = some r) (hm : ev σ1 m = some (.one (.mx 1 β))) (hb : get σ1.b β = some (.mp k e n D (some (left, cnt, cur))))
 (hK : Keyed P k) (hk : P.underlying k = some (.int qk)) (he : P.underlying e = some (.int q))
 (h0 : cnt = 0 → (∀ kl, left kl = false) → G P Q st1 none ⟨(r, .tup [.one (.b (.s (.bool false)))]) :: σ1.t, σ1.b⟩)
 (h1 : ∀ y c cnt', left (.int qk y) = true → (∀ zd, D.atKey (.int qk y) zd = .lit (.int q c)) → (Lit.int q c).wf = true → cnt' < cnt →
   G P Q st1 none ⟨(r, .tup [.one (.b (.s (.bool true))), .one (.b (.s (.int qk y))), .one (.b (.s (.int q c)))]) :: σ1.t, z09 σ1.b β (.mp k e n D (some ((fun z => left z && !z.sameKey (.int qk y)), cnt', some (.int qk y, .int q c))))⟩) : G P Q st none σ :=
 q9m h ho hd hm hb hK he h0 (fun key kl c cnt' hkey hl hat hw hlt => by
  obtain ⟨y, rfl, rfl, _⟩ := Maps.keyOf_int_inv hk hkey
  exact ⟨.one (.b (.s (.int qk y))), rfl, fun vs h => (nomatch h), h1 y c cnt' hl hat hw hlt⟩)
theorem q92 {r : Nat} {left : Lit → Bool} {cnt : Nat} {key u : Value} {av av' : AV} (h : exec 2000 (ql.F P) st σ = .raw g σ1 o st1) (ho : o.op = .entry m) (hd : o.dst = some r) (hm : ev σ1 m = some (.one (.mx 1 β))) (hb : get σ1.b β = some (.mp k e n D (some (left, cnt, some (key, u)))))
 (h2 : q19 key = some av) (h3 : q19 u = some av') (h4 : ∀ vs, av ≠ .tup vs) (h5 : ∀ vs, av' ≠ .tup vs) (h1 : G P Q st1 none ⟨(r, .tup [av, av']) :: σ1.t, σ1.b⟩) : G P Q st none σ :=
 y8m h (by simp only [opL, ho]; exact ⟨r, β, k, e, n, D, left, cnt, key, u, av, av', hd, hm, hb, h2, h4, h3, h5, h1⟩)
end
end Go.Sx
end
section
namespace Go.Sx
open Go.RowKit
def Sh.len : Sh → Nat
 | .nil => 0
 | .i _ r => r.len + 1
 | .b r => r.len + 1
 | .l _ r => r.len + 1
def Sh.app : Sh → Sh → Sh
 | .nil, t => t
 | .i k r, t => .i k (r.app t)
 | .b r, t => .b (r.app t)
 | .l e r, t => .l e (r.app t)
theorem WT.len {N : Nat} {s : Sh} {cs : List Cell} (h : WT N s cs) : cs.length = s.len := by
 induction h with
 | nil => rfl
 | i n _ ih => simp [Sh.len, ih]
 | b x _ ih => simp [Sh.len, ih]
 | l rows _ _ _ _ ih => simp [Sh.len, ih]
theorem WT.app {N : Nat} {s t : Sh} {xs ys : List Cell} (h : WT N s xs) (k : WT N t ys) : WT N (s.app t) (xs ++ ys) := by
 induction h with
 | nil => exact k
 | i n _ ih => exact .i n ih
 | b x _ ih => exact .b x ih
 | l rows h1 h2 _ _ ih => exact .l rows h1 h2 ih
abbrev OS (P : Program) (t : TypeId) (s : Sh) : Prop := q2t P t s.len (fun a : {cs : List Cell // WT 9223372036854775807 s cs} => a.1) (fun _ => True)
abbrev OSF (P : Program) (fs : List Field) (s : Sh) : Prop := y3s P fs s.len (fun a : {cs : List Cell // WT 9223372036854775807 s cs} => a.1) (fun _ => True)
section
variable {P : Program} {t e : TypeId}
theorem OS.mk {sz : Nat} {α : Type} {f : α → List Cell} {G : α → Prop} {s : Sh} (h : q2t P t sz f G) (hz : sz = s.len) (hw : ∀ a, G a → WT 9223372036854775807 s (f a)) : OS P t s :=
 ⟨h.hsz.trans hz, fun a => a.2.len, fun enc w base spare held fuel cs x hx => by
   obtain ⟨a, h1, h2⟩ := h.get enc w base spare held fuel cs x hx
   exact ⟨⟨f a, hw a h2⟩, h1, trivial⟩⟩
theorem y8z {k : IntKind} (ht : P.underlying t = some (.int k)) (hc : P.cellsOf t = 1) : OS P t (.i k .nil) := .mk (y6h ht hc) rfl fun n _ => .i n .nil
theorem zy {s : Sh} (ht : P.underlying t = some (.slice e)) (hc : P.cellsOf t = 1) (he : OS P e s) : OS P t (.l s .nil) := .mk (q4q ht hc he) rfl fun l hl => .l _ (by
 have h : l.length ≤ maxLen := hl.1
 rw [List.length_map]; exact h) (fun row hr => by
 obtain ⟨a, _, rfl⟩ := List.mem_map.1 hr
 exact a.2) .nil
theorem y07 {fd : Field} {s : Sh} (h : OS P fd.type s) : OSF P [fd] s := y5n h
theorem qe {fd : Field} {fs : List Field} {s t u : Sh} (h : OS P fd.type s) (k : OSF P fs t) (hu : s.app t = u) (hl : s.len + t.len = u.len) : OSF P (fd :: fs) u := by
 have hc := y4q h k
 subst hu
 refine ⟨fun a => a.2.len, fun enc w base spare held fuel cs hn hx => ?_⟩
 obtain ⟨a, h1, _⟩ := hc.2 enc w base spare held fuel cs (hn.trans hl.symm) hx
 exact ⟨⟨_, a.1.2.app a.2.2⟩, h1, trivial⟩
theorem zu {fs : List Field} {s : Sh} (ht : P.underlying t = some (.struct fs.toArray)) (hc : P.cellsOf t = s.len) (hL : Laid P 0 fs) (hF : OSF P fs s) : OS P t s :=
 q45 (fun a => a) (fun _ => rfl) (fun _ h => h) (fun b => b.2.len) ht hc hL hF
theorem y8s {fs : Array Field} {s : Sh} (ht : P.underlying t = some (.struct fs)) (he : OS P t s) {H : Type} {enc : TypeId × Value → H} {w : World} {r : Reach} {b : Nat} {v : Value} {dd : DataW H} {ps : List MemPlace}
 (hv : Value.okWide P w r b t v) (h : DataW.Trod enc P w 0 (fun _ => true) true t v dd ps) : ∃ cs : List Cell, q6x w (fun _ => True) (.agg cs) v ∧ WT 9223372036854775807 s cs := by
 obtain ⟨a, h1, _⟩ := z5e ht he hv h
 exact ⟨a.1, h1, a.2⟩
end
end Go.Sx
end
section
namespace Go.Sx
theorem gm {α β : Type} {xs : List α} {i : Nat} {x : α} (f : α → β) (h : xs[i]? = some x) : (xs.map f)[i]? = some (f x) := by rw [List.getElem?_map, h]; rfl
theorem gx {α : Type} {xs : List α} {i : Nat} (h : i < xs.length) : ∃ x, xs[i]? = some x := ⟨_, List.getElem?_eq_getElem h⟩
def scan (f : Nat → Int) : Nat → Int
 | 0 => 0
 | n + 1 => if scan f n ≠ 0 then scan f n else f n
theorem zc {f : Nat → Int} : ∀ {n : Nat}, (∀ j, j < n → f j = 0) → scan f n = 0
 | 0, _ => rfl
 | n + 1, h => by rw [scan, zc (fun j hj => h j (by omega)), h n (by omega)]; simp
theorem q04 {f : Nat → Int} : ∀ {n : Nat}, scan f n = 0 → ∀ j, j < n → f j = 0
 | n + 1, h, j, hj => by
   rw [scan] at h
   split at h
   · rename_i h1; exact absurd h h1
   · rename_i h1
     have h1 : scan f n = 0 := by simpa using h1
     rcases Nat.lt_or_ge j n with h2 | h2
     · exact q04 h1 j h2
     · have : j = n := by omega
       subst this; exact h
theorem z0m {f : Nat → Int} {i : Nat} (h0 : ∀ j, j < i → f j = 0) (h : f i ≠ 0) : ∀ {n : Nat}, i < n → scan f n = f i
 | n + 1, hi => by
   rw [scan]
   rcases Nat.lt_or_ge i n with h2 | h2
   · have := z0m h0 h h2
     rw [this, if_pos h]
   · have : i = n := by omega
     subst this
     rw [zc h0]; simp
theorem z7 {f : Nat → Int} {i n : Nat} {c : Int} (hi : i < n) (h0 : ∀ j, j < i → f j = 0) (hc : f i = c) (h : c ≠ 0) : c = scan f n := by rw [z0m h0 (by rw [hc]; exact h) hi, hc]
theorem q8 {f : Nat → Int} {i : Nat} (h0 : ∀ j, j < i → f j = 0) (h : f i = 0) : ∀ j, j < i + 1 → f j = 0 := fun j hj => by
 rcases Nat.lt_or_ge j i with h2 | h2
 · exact h0 j h2
 · have : j = i := by omega
   subst this; exact h
theorem z0q {f g : Nat → Int} : ∀ {n : Nat}, (∀ j, j < n → (∀ k, k < j → f k = 0) → f j = g j) → scan f n = scan g n
 | 0, _ => rfl
 | n + 1, h => by
   have ih := z0q (f := f) (g := g) (n := n) (fun j hj => h j (by omega))
   rw [scan, scan, ih]
   split
   · rfl
   · rename_i h1
     have h1 : scan g n = 0 := by simpa using h1
     rw [← ih] at h1
     exact h n (by omega) (q04 h1)
def within (n lo hi : Int) : Bool := decide (lo ≤ n) && decide (n ≤ hi)
theorem within_iff {n lo hi : Int} : within n lo hi = true ↔ lo ≤ n ∧ n ≤ hi := by simp [within]
def y09 (a b : Int) : Int := if a < b then -1 else if b < a then 1 else 0
def orr : List Int → Int
 | [] => 0
 | x :: xs => if x ≠ 0 then x else orr xs
abbrev ints (xs : List Int) : List (List Cell) := xs.map fun n => [i64 n]
theorem z4r : ∀ {xs : List Int} {i : Nat} {x : Int}, xs[i]? = some x → (∀ (j : Nat) (y : Int), j < i → xs[j]? = some y → y = 0) → x ≠ 0 → orr xs = x
 | y :: xs, 0, x, h, _, hx => by simp at h; subst h; rw [orr, if_pos hx]
 | y :: xs, i + 1, x, h, h0, hx => by
   rw [orr, if_neg (by simpa using h0 0 y (by omega) rfl)]
   exact z4r (by simpa using h) (fun j z hj hz => h0 (j + 1) z (by omega) (by simpa using hz)) hx
theorem y3l : ∀ {xs : List Int}, (∀ (j : Nat) (y : Int), xs[j]? = some y → y = 0) → orr xs = 0
 | [], _ => rfl
 | y :: xs, h => by
   rw [orr, if_neg (by simpa using h 0 y rfl)]
   exact y3l (fun j z hz => h (j + 1) z (by simpa using hz))
structure Leg where
 (s a b v : Int)
abbrev Leg.cs (l : Leg) : List Cell := [i64 l.s, i64 l.a, i64 l.b, i64 l.v]
def Leg.bad (l : Leg) : Bool := !(within l.s 0 2 && within l.a 0 5 && within l.b 0 2 && within l.v (-1000000000000) 1000000000000)
def Leg.fault (l : Leg) : Int := if l.bad then 3 else if l.v = 0 then 1 else 0
def Leg.same (l m : Leg) : Bool := l.s == m.s && l.a == m.a && l.b == m.b
structure Con where
 id : Int
 legs : List Leg
abbrev Con.cs (c : Con) : List Cell := [i64 c.id, .l (c.legs.map Leg.cs)]
structure Bal where
 (a b v : Int)
abbrev Bal.cs (x : Bal) : List Cell := [i64 x.a, i64 x.b, i64 x.v]
def Bal.bad (x : Bal) : Bool := !(within x.a 0 5 && within x.b 0 2 && within x.v 1 1000000000000)
def Bal.key (x : Bal) : Int := x.a * 3 + x.b
def ahead {α : Type} (lt : α → α → Bool) (xs : List α) (i : Nat) (x : α) : Bool := bif Nat.beq i 0 then true else match xs[i - 1]? with | some p => lt p x | none => true
def z1x (xs : List Bal) (i : Nat) : Int := match xs[i]? with
 | some x => if x.bad then 3 else if ahead (fun p x => decide (p.key < x.key)) xs i x then 0 else 1
 | none => 0
theorem z4h {us : List Bal} {i : Nat} {x : Bal} (hx : us[i]? = some x) (h : z1x us i = 0) : x.bad = false := by
 cases hb : x.bad with
 | false => rfl
 | true => simp [z1x, hx, hb] at h
theorem Bal.q0k {x : Bal} (h : x.bad = false) : IntKind.i64.wrap (IntKind.i64.wrap (x.a * 3) + x.b) = x.key := by
 simp [Bal.bad, within] at h
 rw [wrap_i64 (n := x.a * 3) (by omega) (by omega), wrap_i64 (by omega) (by omega)]; rfl
def qi (xs : List Bal) : Int := if 18 < xs.length then 2 else scan (z1x xs) xs.length
def hasB : List Bal → Int → Int → Int
 | [], _, _ => 0
 | x :: xs, a, b => if x.a = a ∧ x.b = b then x.v else hasB xs a b
theorem y3g : ∀ {xs : List Bal} {i : Nat} {x : Bal} {a b : Int}, xs[i]? = some x → (∀ (j : Nat) (y : Bal), j < i → xs[j]? = some y → ¬ (y.a = a ∧ y.b = b)) → x.a = a ∧ x.b = b → hasB xs a b = x.v
 | y :: xs, 0, x, a, b, h, _, hx => by simp at h; subst h; rw [hasB, if_pos hx]
 | y :: xs, i + 1, x, a, b, h, h0, hx => by
   rw [hasB, if_neg (h0 0 y (by omega) rfl)]
   exact y3g (by simpa using h) (fun j z hj hz => h0 (j + 1) z (by omega) (by simpa using hz)) hx
theorem q2g : ∀ {xs : List Bal} {a b : Int}, (∀ (j : Nat) (y : Bal), xs[j]? = some y → ¬ (y.a = a ∧ y.b = b)) → hasB xs a b = 0
 | [], _, _, _ => rfl
 | y :: xs, a, b, h => by
   rw [hasB, if_neg (h 0 y rfl)]
   exact q2g (fun j z hz => h (j + 1) z (by simpa using hz))
def y98 (xs : List Bal) (l : Leg) : Int := if hasB xs l.a l.b + l.v < 0 then 6 else if 1000000000000 < hasB xs l.a l.b + l.v then 3 else 0
def y5k (xs : List Bal) (ls : List Leg) (i : Nat) : Int := match ls[i]? with | some l => y98 xs l | none => 0
def q2w (xs : List Bal) (ls : List Leg) : Int := scan (y5k xs ls) ls.length
structure Mk where
 (c v : Int)
abbrev Mk.cs (x : Mk) : List Cell := [i64 x.c, i64 x.v]
def y0c : List Mk → Int → Int
 | [], _ => 0
 | x :: xs, c => if x.c = c then x.v else y0c xs c
theorem y0x : ∀ {xs : List Mk} {i : Nat} {x : Mk} {c : Int}, xs[i]? = some x → (∀ (j : Nat) (y : Mk), j < i → xs[j]? = some y → ¬ y.c = c) → x.c = c → y0c xs c = x.v
 | y :: xs, 0, x, c, h, _, hx => by simp at h; subst h; rw [y0c, if_pos hx]
 | y :: xs, i + 1, x, c, h, h0, hx => by
   rw [y0c, if_neg (h0 0 y (by omega) rfl)]
   exact y0x (by simpa using h) (fun j z hj hz => h0 (j + 1) z (by omega) (by simpa using hz)) hx
theorem z16 : ∀ {xs : List Mk} {c : Int}, (∀ (j : Nat) (y : Mk), xs[j]? = some y → ¬ y.c = c) → y0c xs c = 0
 | [], _, _ => rfl
 | y :: xs, c, h => by
   rw [y0c, if_neg (h 0 y rfl)]
   exact z16 (fun j z hz => h (j + 1) z (by simpa using hz))
def z1m (xs : List Mk) (i : Nat) : Int := match xs[i]? with
 | some x => if !(within x.c 1 1000000000 && within x.v 1 2) then 3 else if ahead (fun p x => decide (p.c < x.c)) xs i x then 0 else 1
 | none => 0
def qf (xs : List Mk) : Int := scan (z1m xs) xs.length
theorem yd {α : Type} {xs : List α} {i : Nat} {x : α} {p : α → Prop} (hx : xs[i]? = some x) (h : ∀ (j : Nat) (y : α), j < i → xs[j]? = some y → p y) (hp : p x) : ∀ (j : Nat) (y : α), j < i + 1 → xs[j]? = some y → p y := fun j y hj hy => by
 rcases Nat.lt_or_ge j i with h2 | h2
 · exact h j y h2 hy
 · have : j = i := by omega
   subst this; rw [hx] at hy; cases hy; exact hp
theorem yh {α : Type} {xs : List α} {i : Nat} {p : α → Prop} (hi : i = xs.length) (h : ∀ (j : Nat) (y : α), j < i → xs[j]? = some y → p y) : ∀ (j : Nat) (y : α), xs[j]? = some y → p y := fun j y hy => h j y (by have := (List.getElem?_eq_some_iff.1 hy).1; omega) hy
theorem z0d {i : Nat} (h0 : 0 < i) (h : i ≤ 9000000000000000000) : 0 ≤ IntKind.i64.wrap ((i : Int) - 1) := by rw [wrap_i64 (by omega) (by omega)]; omega
theorem z0v {α β : Type} {xs : List α} {i : Nat} {p : α} (f : α → β) (h0 : 0 < i) (h : i ≤ 9000000000000000000) (hp : xs[i - 1]? = some p) : (xs.map f)[(IntKind.i64.wrap ((i : Int) - 1)).toNat]? = some (f p) := by
 rw [wrap_i64 (by omega) (by omega), show ((i : Int) - 1).toNat = i - 1 by omega]; exact gm f hp
theorem ahead_zero {α : Type} {lt : α → α → Bool} {xs : List α} {x : α} : ahead lt xs 0 x = true := rfl
theorem z8 {α : Type} {lt : α → α → Bool} {xs : List α} {i : Nat} {x p : α} (h0 : 0 < i) (hp : xs[i - 1]? = some p) : ahead lt xs i x = lt p x := by
 unfold ahead; rw [beq_false (by omega), cond_false, hp]
theorem vi {a b : Int} (h : a = b) : Value.int .i64 a = Value.int .i64 b := by rw [h]
theorem vb {a b : Bool} (h : a = b) : Value.bool a = Value.bool b := by rw [h]
theorem ci {a b : Int} (h : a = b) : Cell.s (.int .i64 a) = Cell.s (.int .i64 b) := by rw [h]
structure Vt where
 (b v : Int)
abbrev Vt.cs (x : Vt) : List Cell := [i64 x.b, i64 x.v]
def Vt.none : Vt := ⟨-1, 0⟩
def Vt.ok (x : Vt) : Bool := within x.b 0 1000 && within x.v 1 2
structure Slt where
 (c s p lb lv : Int)
 cast : List Vt
abbrev Slt.cs (x : Slt) : List Cell := [i64 x.c, i64 x.s, i64 x.p, i64 x.lb, i64 x.lv, .l (x.cast.map Vt.cs)]
def z0r (xs : List Vt) (i : Nat) : Int := match xs[i]? with
 | some x => if !x.ok then 3 else if ahead (fun p x => !(decide (x.b < p.b) || (x.b == p.b && x.v != p.v))) xs i x then 0 else 1
 | none => 0
def z2w (xs : List Vt) : Vt := (xs[xs.length - 1]?).getD Vt.none
def Slt.fault (x : Slt) : Int :=
 if !(within x.c 1 1000000000 && within x.s 0 2 && within x.p (-1) 1000) then 3
 else if 60 < x.cast.length then 2
 else if scan (z0r x.cast) x.cast.length ≠ 0 then scan (z0r x.cast) x.cast.length
 else if ¬ (x.lb = (z2w x.cast).b ∧ x.lv = (z2w x.cast).v) ∨ x.p < x.lb then 1 else 0
def Slt.lt (p x : Slt) : Bool := if p.c = x.c then decide (p.s < x.s) else decide (p.c < x.c)
def z2u (xs : List Slt) (i : Nat) : Int := match xs[i]? with
 | some x => if x.fault ≠ 0 then x.fault else if ahead Slt.lt xs i x then 0 else 1
 | none => 0
structure Acc where
 slots : List Slt
abbrev Acc.cs (x : Acc) : List Cell := [.l (x.slots.map Slt.cs)]
def Acc.fault (x : Acc) : Int := if 60 < x.slots.length then 2 else scan (z2u x.slots) x.slots.length
def y2x : List Int → Int → List Int
 | [], v => [v]
 | x :: xs, v => if x < v then x :: y2x xs v else if x = v then x :: xs else v :: x :: xs
def qg (c : Con) (s : Int) : List Leg := c.legs.filter fun l => l.s == s
structure Shd where
 idx : Int
 bals : List Bal
 votes : List Mk
 held : List Con
 done : List Mk
 app : List Int
abbrev Shd.cs (s : Shd) : List Cell := [i64 s.idx, .l (s.bals.map Bal.cs), .l (s.votes.map Mk.cs), .l (s.held.map Con.cs), .l (s.done.map Mk.cs), .l (ints s.app)]
theorem lcr {B B' : List (Nat × AB)} : ∀ {l : List Cell}, y8x B B' (l.map .b) (l.map .b)
 | [] => trivial
 | _ :: l => ⟨rfl, lcr (l := l)⟩
def bsr (c : Nat → Bool) (i j : Nat) : Nat := if h : i < j then (if c ((i + j) / 2) then bsr c ((i + j) / 2 + 1) j else bsr c i ((i + j) / 2)) else i
termination_by j - i
theorem z8t {c : Nat → Bool} {p n : Nat} (hc : ∀ k, k < n → c k = decide (k < p)) : ∀ (i j : Nat), i ≤ p → p ≤ j → j ≤ n → bsr c i j = p := by
 intro i j
 induction h : j - i using Nat.strongRecOn generalizing i j with
 | _ m ih =>
   intro h1 h2 h3
   rw [bsr]
   split
   · have hk := hc ((i + j) / 2) (by omega)
     split
     · rename_i ht
       rw [hk] at ht
       have ht : (i + j) / 2 < p := by simpa using ht
       exact ih (j - ((i + j) / 2 + 1)) (by omega) _ _ rfl (by omega) h2 h3
     · rename_i ht
       rw [hk] at ht
       have ht : ¬ (i + j) / 2 < p := by simpa using ht
       exact ih ((i + j) / 2 - i) (by omega) _ _ rfl h1 (by omega) (by omega)
   · omega
theorem half {i j : Nat} (hi : i ≤ 1048576) (hj : j ≤ 1048576) : IntKind.i64.wrap ((IntKind.u64.wrap (IntKind.i64.wrap ((i : Int) + j))).fdiv (2 ^ (min (1 : Int).toNat IntKind.u64.bits))) = (((i + j) / 2 : Nat) : Int) := by
 have e1 : IntKind.i64.wrap ((i : Int) + j) = (i : Int) + j := wrap_i64 (by omega) (by omega)
 have e2 : IntKind.u64.wrap ((i : Int) + j) = (i : Int) + j := by simp [IntKind.wrap, IntKind.signed, IntKind.bits]; omega
 have e3 : (2 : Int) ^ (min (1 : Int).toNat IntKind.u64.bits) = 2 := by decide
 rw [e1, e2, e3]
 have e4 : ((i : Int) + j).fdiv 2 = (((i + j) / 2 : Nat) : Int) := by rw [Int.fdiv_eq_ediv_of_nonneg _ (by omega)]; omega
 rw [e4]
 exact wrap_i64 (by omega) (by omega)
def z0y {α : Type} (p : α → Bool) : List α → Int
 | [] => -1
 | x :: l => if p x then 0 else if z0y p l < 0 then -1 else z0y p l + 1
theorem qz {α : Type} {p : α → Bool} : ∀ {l : List α} {i : Nat} {x : α}, l[i]? = some x → (∀ (j : Nat) (y : α), j < i → l[j]? = some y → p y = false) → p x = true → z0y p l = i
 | y :: l, 0, x, h, _, hx => by simp at h; subst h; rw [z0y, if_pos hx]; rfl
 | y :: l, i + 1, x, h, h0, hx => by
   have ih := qz (l := l) (by simpa using h) (fun j z hj hz => h0 (j + 1) z (by omega) (by simpa using hz)) hx
   rw [z0y, if_neg (by rw [h0 0 y (by omega) rfl]; decide), ih, if_neg (by omega)]
   omega
theorem yv {α : Type} {p : α → Bool} : ∀ {l : List α}, (∀ (j : Nat) (y : α), l[j]? = some y → p y = false) → z0y p l = -1
 | [], _ => rfl
 | y :: l, h => by
   rw [z0y, if_neg (by rw [h 0 y rfl]; decide), yv (l := l) (fun j z hz => h (j + 1) z (by simpa using hz))]
   rfl
theorem y08 {α : Type} {p : α → Bool} : ∀ {l : List α}, decide (z0y p l ≥ 0) = l.any p
 | [] => rfl
 | y :: l => by
   have ih := y08 (p := p) (l := l)
   rw [z0y, List.any_cons]
   by_cases h : p y = true
   · rw [if_pos h, h]; rfl
   · rw [if_neg h, show p y = false by simpa using h, Bool.false_or, ← ih]
     by_cases h2 : z0y p l < 0
     · rw [if_pos h2, show decide (z0y p l ≥ 0) = false by simp; omega]; rfl
     · rw [if_neg h2, show decide (z0y p l ≥ 0) = true by simp; omega]; simp; omega
def bsC {α : Type} (f : α → Int) (us : List α) (k : Nat) : Bool := match us[k]? with | some x => decide (f x < 0) | none => false
def bsP {α : Type} (f : α → Int) (us : List α) : Nat := bsr (bsC f us) 0 us.length
def bsF {α : Type} (f : α → Int) (us : List α) : Bool := match us[bsP f us]? with | some x => f x == 0 | none => false
def bsV {α : Type} (f : α → Int) (us : List α) : Res := .tup [.own false [.s (.int .i64 (bsP f us))], .own false [.s (.bool (bsF f us))]]
theorem q60 {c : Nat → Bool} {i j : Nat} (h : i < j) (hc : c ((i + j) / 2) = true) : bsr c i j = bsr c ((i + j) / 2 + 1) j := by rw [bsr, dif_pos h, if_pos hc]
theorem y60 {c : Nat → Bool} {i j : Nat} (h : i < j) (hc : c ((i + j) / 2) = false) : bsr c i j = bsr c i ((i + j) / 2) := by rw [bsr, dif_pos h, if_neg (by rw [hc]; decide)]
theorem q4h {c : Nat → Bool} {i j : Nat} (h : ¬ i < j) : bsr c i j = i := by rw [bsr, dif_neg h]
theorem y27 {α : Type} {f : α → Int} {us : List α} {k : Nat} {x : α} (h : us[k]? = some x) : bsC f us k = decide (f x < 0) := by unfold bsC; rw [h]
theorem q27 {α : Type} {f : α → Int} {us : List α} {k : Nat} {x : α} (hk : bsP f us = k) (h : us[k]? = some x) : bsF f us = (f x == 0) := by unfold bsF; rw [hk, h]
theorem y3b {α : Type} {f : α → Int} {us : List α} {k : Nat} (hk : bsP f us = k) (h : us.length ≤ k) : bsF f us = false := by unfold bsF; rw [hk, List.getElem?_eq_none h]
theorem z82 {i j : Nat} (hi : i ≤ 1048576) (hj : j ≤ 1048576) : 0 ≤ IntKind.i64.wrap ((IntKind.u64.wrap (IntKind.i64.wrap ((i : Int) + j))).fdiv (2 ^ (min (1 : Int).toNat IntKind.u64.bits))) := by rw [half hi hj]; exact Int.natCast_nonneg _
theorem y82 {α β : Type} {us : List α} {x : α} {i j : Nat} (f : α → β) (hi : i ≤ 1048576) (hj : j ≤ 1048576) (h : us[(i + j) / 2]? = some x) : (us.map f)[(IntKind.i64.wrap ((IntKind.u64.wrap (IntKind.i64.wrap ((i : Int) + j))).fdiv (2 ^ (min (1 : Int).toNat IntKind.u64.bits)))).toNat]? = some (f x) := by
 rw [half hi hj, Int.toNat_natCast]; exact gm f h
def y04 (p x : Bal) : Int := orr [y09 p.a x.a, y09 p.b x.b]
def z3s (us : List Bal) (a b : Int) : Int := bif bsF (fun x : Bal => y04 x ⟨a, b, 0⟩) us then (match us[bsP (fun x : Bal => y04 x ⟨a, b, 0⟩) us]? with | some x => x.v | none => 0) else 0
def q77 (us : List Bal) (l : Leg) : Int := if z3s us l.a l.b + l.v < 0 then 6 else if 1000000000000 < z3s us l.a l.b + l.v then 3 else 0
def y1m (us : List Mk) (c : Int) : Int := bif bsF (fun x : Mk => y09 x.c c) us then (match us[bsP (fun x : Mk => y09 x.c c) us]? with | some x => x.v | none => 0) else 0
theorem q1o {p x : Bal} (hp : p.bad = false) (hx : x.bad = false) : (0 ≤ y04 p x) ↔ ¬ p.key < x.key := by
 simp [Bal.bad, within] at hp hx
 unfold y04 y09 orr orr orr Bal.key
 split <;> split <;> (try split) <;> (try split) <;> omega
def y3i (hs : List Con) (c : Int) : Bool := hs.any fun x => x.id == c
def y4e (a b : List Leg) : Bool := a.any fun x => b.any fun y => x.a == y.a && x.b == y.b
theorem qo {α : Type} {p : α → Bool} {l : List α} {i : Nat} {x : α} (h : l[i]? = some x) (hx : p x = true) : true = l.any p := (List.any_eq_true.2 ⟨x, List.mem_of_getElem? h, hx⟩).symm
theorem any_none {α : Type} {p : α → Bool} {l : List α} (h : ∀ (j : Nat) (y : α), l[j]? = some y → p y = false) : false = l.any p := by
 rw [eq_comm, List.any_eq_false]
 intro x hx
 obtain ⟨j, hj⟩ := List.mem_iff_getElem?.1 hx
 rw [h j x hj]; decide
theorem q0r {α : Type} {p : α → Bool} {l : List α} {i : Nat} {x : α} (h : l[i]? = some x) : (l.take (i + 1)).filter p = (l.take i).filter p ++ (if p x then [x] else []) := by
 rw [List.take_add_one, h, List.filter_append]
 simp [List.filter_cons]
theorem z7n {α : Type} {f : α → Int} {us : List α} (h : us[bsP f us]? = none) : bsF f us = false := by unfold bsF; rw [h]
theorem y4g {us : List Bal} {a b : Int} (h : bsF (fun x : Bal => y04 x ⟨a, b, 0⟩) us = false) : 0 = z3s us a b := by unfold z3s; rw [h]; rfl
theorem y51 {us : List Bal} {a b : Int} {x : Bal} (h : bsF (fun x : Bal => y04 x ⟨a, b, 0⟩) us = true) (hq : us[bsP (fun x : Bal => y04 x ⟨a, b, 0⟩) us]? = some x) : x.v = z3s us a b := by unfold z3s; rw [h, hq]; rfl
theorem y3k {us : List Mk} {c : Int} (h : bsF (fun x : Mk => y09 x.c c) us = false) : 0 = y1m us c := by unfold y1m; rw [h]; rfl
theorem z43 {us : List Mk} {c : Int} {x : Mk} (h : bsF (fun x : Mk => y09 x.c c) us = true) (hq : us[bsP (fun x : Mk => y09 x.c c) us]? = some x) : x.v = y1m us c := by unfold y1m; rw [h, hq]; rfl
end Go.Sx
end
section
namespace Go.Sx
def q0v (l : List Leg) (a : Int) : Int := (l.map fun x => if x.b = a then x.v else 0).sum
def y1h (l : List Leg) : Bool := decide (q0v l 0 ≠ 0) || (decide (q0v l 1 ≠ 0) || decide (q0v l 2 ≠ 0))
def y2s (l : List Leg) (i : Nat) : Int := match l[i]? with | some x => if x.fault ≠ 0 then x.fault else if (l.take i).any (fun y => y.same x) then 7 else 0 | none => 0
def zk (c : Con) : Int := if within c.id 1 1000000000 then (if 2 ≤ c.legs.length ∧ c.legs.length ≤ 8 then (if scan (y2s c.legs) c.legs.length ≠ 0 then scan (y2s c.legs) c.legs.length else if y1h c.legs then 1 else 0) else 2) else 3
theorem q6o (l : List Leg) (x : Leg) (a : Int) : q0v (l ++ [x]) a = q0v l a + if x.b = a then x.v else 0 := by simp [q0v]
theorem y1q {l : List Leg} {i : Nat} {x : Leg} (h : l[i]? = some x) (a : Int) : q0v (l.take (i + 1)) a = q0v (l.take i) a + if x.b = a then x.v else 0 := by
 rw [List.take_add_one, h]; exact q6o _ _ _
def Leg.small (x : Leg) : Prop := -1000000000000 ≤ x.v ∧ x.v ≤ 1000000000000
theorem Leg.q03 {x : Leg} (h : x.fault = 0) : (0 ≤ x.s ∧ x.s ≤ 2) ∧ (0 ≤ x.a ∧ x.a ≤ 5) ∧ (0 ≤ x.b ∧ x.b ≤ 2) ∧ x.small ∧ x.v ≠ 0 := by
 unfold Leg.fault at h
 split at h
 · omega
 · rename_i hb
   split at h
   · omega
   · rename_i hv
     simp [Leg.bad, within] at hb
     unfold Leg.small
     omega
theorem z3p : ∀ (l : List Leg) (a : Int), (∀ x ∈ l, x.small) → -1000000000000 * (l.length : Int) ≤ q0v l a ∧ q0v l a ≤ 1000000000000 * (l.length : Int)
 | [], a, _ => by simp [q0v]
 | x :: l, a, h => by
   have h1 := z3p l a (fun y hy => h y (List.mem_cons_of_mem _ hy))
   have h2 := h x List.mem_cons_self
   unfold Leg.small at h2
   have e : q0v (x :: l) a = (if x.b = a then x.v else 0) + q0v l a := by simp [q0v]
   rw [e, List.length_cons]
   split <;> omega
theorem z4b : ∀ (l : List Leg) (a : Int), (∀ x ∈ l, x.b ≠ a) → q0v l a = 0
 | [], _, _ => rfl
 | x :: l, a, h => by
   have e : q0v (x :: l) a = (if x.b = a then x.v else 0) + q0v l a := by simp [q0v]
   rw [e, if_neg (h x List.mem_cons_self), z4b l a (fun y hy => h y (List.mem_cons_of_mem _ hy))]
   rfl
theorem q15 {l : List Leg} {i : Nat} (h : ∀ j, j < i → y2s l j = 0) : ∀ x ∈ l.take i, x.fault = 0 := fun x hx => by
 obtain ⟨j, hj⟩ := List.mem_iff_getElem?.1 hx
 rw [List.getElem?_take] at hj
 split at hj
 · rename_i hlt
   have := h j hlt
   simp only [y2s, hj] at this
   split at this
   · exact absurd this ‹_›
   · simp_all
 · cases hj
theorem y5q {l : List Leg} (h : ∀ a, q0v l a = 0) : y1h l = false := by simp [y1h, h]
theorem y2p {l : List Leg} (hf : ∀ x ∈ l, x.fault = 0) {a : Int} (h : q0v l a ≠ 0) : y1h l = true := by
 have : ∃ x ∈ l, x.b = a := by
  by_cases hx : ∃ x ∈ l, x.b = a
  · exact hx
  · exact absurd (z4b l a (fun x hm e => hx ⟨x, hm, e⟩)) h
 obtain ⟨x, hm, rfl⟩ := this
 have h0 := (Leg.q03 (hf x hm)).2.2.1
 have : x.b = 0 ∨ x.b = 1 ∨ x.b = 2 := by omega
 rcases this with e | e | e <;> rw [e] at h <;> simp [y1h, h]
def y47 (l : List Leg) : List (List Cell) := [[i64 (q0v l 0)], [i64 (q0v l 1)], [i64 (q0v l 2)]]
theorem q47 {l : List Leg} {b : Int} (h0 : 0 ≤ b) (h2 : b ≤ 2) : (y47 l)[b.toNat]? = some [i64 (q0v l b)] := by
 have : b = 0 ∨ b = 1 ∨ b = 2 := by omega
 rcases this with rfl | rfl | rfl <;> rfl
theorem q5o {l : List Leg} {i : Nat} {x : Leg} (hi : l[i]? = some x) (h0 : 0 ≤ x.b) (h2 : x.b ≤ 2) (hd : ∀ y ∈ l.take i, y.fault = 0) (hx : x.fault = 0) (hn : i ≤ 8) :
 (y47 (l.take i)).set x.b.toNat [i64 (IntKind.i64.wrap (q0v (l.take i) x.b + x.v))] = y47 (l.take (i + 1)) := by
 have hb := z3p (l.take i) x.b (fun y hy => (Leg.q03 (hd y hy)).2.2.2.1)
 have hs := (Leg.q03 hx).2.2.2.1
 unfold Leg.small at hs
 have hlen : (l.take i).length ≤ 8 := by rw [List.length_take]; omega
 rw [wrap_i64 (by omega) (by omega)]
 unfold y47
 rw [y1q hi, y1q hi, y1q hi]
 have : x.b = 0 ∨ x.b = 1 ∨ x.b = 2 := by omega
 rcases this with e | e | e <;> rw [e] <;> simp
def SM (l : List Leg) (D : DataW Unit) : Prop := Maps.IsMap D ∧ ∀ a : Int, D.atKey (.int .i64 a) (.lit (.int .i64 0)) = .lit (.int .i64 (q0v l a))
theorem z8p : SM [] (.map []) := ⟨Maps.isMap_empty, fun _ => rfl⟩
theorem z4o {k : IntKind} {a b : Int} (h : (DataW.lit (.int k a) : DataW Unit) = .lit (.int k b)) : a = b := by simpa using h
theorem z5w {l : List Leg} {i : Nat} {x : Leg} {D : DataW Unit} (h : SM (l.take i) D) (hx : x.fault = 0) (hd : ∀ y ∈ l.take i, y.fault = 0) (hn : i ≤ 8) {c : Int} (hc : D.atKey (.int .i64 x.b) (.lit (.int .i64 0)) = .lit (.int .i64 c)) :
 c = q0v (l.take i) x.b ∧ IntKind.i64.wrap (c + x.v) = q0v (l.take i) x.b + x.v := by
 have e : c = q0v (l.take i) x.b := z4o (hc.symm.trans (h.2 x.b))
 have b := z3p (l.take i) x.b (fun y hy => (Leg.q03 (hd y hy)).2.2.2.1)
 have hs := (Leg.q03 hx).2.2.2.1
 unfold Leg.small at hs
 have hlen : (l.take i).length ≤ 8 := by rw [List.length_take]; omega
 refine ⟨e, ?_⟩
 rw [e, wrap_i64 (by omega) (by omega)]
theorem z7v {l : List Leg} {i : Nat} {x : Leg} {D : DataW Unit} (h : SM (l.take i) D) (hi : l[i]? = some x) (hx : x.fault = 0) (hd : ∀ y ∈ l.take i, y.fault = 0) (hn : i ≤ 8) {c : Int} (hc : D.atKey (.int .i64 x.b) (.lit (.int .i64 0)) = .lit (.int .i64 c)) :
 SM (l.take (i + 1)) (D.put (.int .i64 x.b) (.lit (.int .i64 (IntKind.i64.wrap (c + x.v))))) := by
 refine ⟨h.1.put _ _, fun a => ?_⟩
 rw [y1q hi, (z5w h hx hd hn hc).2]
 by_cases ha : x.b = a
 · rw [if_pos ha, ← ha]
   exact Maps.atKey_put_same (k := .int .i64 x.b) h.1 trivial _ _
 · rw [if_neg ha, Maps.atKey_put_other (by intro e'; injection e' with _ e'; exact ha e'.symm), h.2 a]
   simp
theorem wfi {n : Int} (h1 : -9223372036854775808 ≤ n) (h2 : n ≤ 9223372036854775807) : (Lit.int .i64 n).wf = true := by
 simp [Lit.wf, IntKind.min, IntKind.max, IntKind.signed, IntKind.bits]; omega
theorem q8y {l : List Leg} {left : Lit → Bool} {y c : Int} (h : ∀ a : Int, left (.int .i64 a) = false → q0v l a = 0) (hc : q0v l y = c) (h0 : c = 0) : ∀ a : Int, (left (.int .i64 a) && !(Lit.int .i64 a).sameKey (.int .i64 y)) = false → q0v l a = 0 := fun a ha => by
 by_cases e : a = y
 · subst e; rw [hc]; exact h0
 · refine h a ?_
   have h1 : (Lit.int IntKind.i64 a).sameKey (Lit.int IntKind.i64 y) = false := Maps.sameKey_ne (fun h => e (by injection h))
   simpa [h1] using ha
theorem q7u {l : List Leg} {D : DataW Unit} (h : SM l D) : ∀ a : Int, Maps.has D (.int .i64 a) = false → q0v l a = 0 := fun a ha => z4o ((h.2 a).symm.trans (Maps.atKey_of_not_has ha _))
theorem y9c {l : List Leg} {D : DataW Unit} (h : SM l D) {y c : Int} (hat : ∀ zd, D.atKey (.int .i64 y) zd = .lit (.int .i64 c)) : q0v l y = c := z4o ((h.2 y).symm.trans (hat _))
end Go.Sx
end
section
namespace Go.Sx
def y5w {α : Type} (f : α → Int) (us : List α) : Prop := ∀ (i j : Nat) (x y : α), i < j → us[i]? = some x → us[j]? = some y → f y ≤ 0 → f x < 0
theorem q3b {α : Type} {f : α → Int} {us : List α} (hs : y5w f us) {i : Nat} {x : α} (hx : us[i]? = some x) (h0 : f x = 0) : bsP f us = i ∧ bsF f us = true := by
 have hi : i < us.length := (List.getElem?_eq_some_iff.1 hx).1
 have hp : bsP f us = i := z8t (n := us.length) (fun k hk => by
  obtain ⟨y, hy⟩ := gx hk
  rw [y27 hy]
  rcases Nat.lt_trichotomy k i with h | h | h
  · have := hs k i y x h hy hx (by omega)
    rw [decide_eq_true this, decide_eq_true h]
  · subst h; rw [hx] at hy; cases hy; rw [decide_eq_false (by omega), decide_eq_false (by omega)]
  · have : ¬ f y < 0 := fun h1 => by have := hs i k x y h hx hy (by omega); omega
    rw [decide_eq_false this, decide_eq_false (by omega)]) 0 us.length (Nat.zero_le _) (Nat.le_of_lt hi) (Nat.le_refl _)
 refine ⟨hp, ?_⟩
 rw [q27 hp hx, h0]; rfl
theorem y4h {α : Type} {f : α → Int} {us : List α} (h : ∀ (i : Nat) (x : α), us[i]? = some x → f x ≠ 0) : bsF f us = false := by
 unfold bsF
 split
 · rename_i x hx; have := h _ x hx; simpa using this
 · rfl
theorem z3c {α : Type} {key : α → Int} {us : List α} (h : ∀ (j : Nat) (p x : α), us[j]? = some p → us[j + 1]? = some x → key p < key x) : ∀ (i j : Nat) (x y : α), i < j → us[i]? = some x → us[j]? = some y → key x < key y := by
 intro i j
 induction j with
 | zero => intro x y hij; omega
 | succ j ih =>
   intro x y hij hx hy
   have hj : j < us.length := by have := (List.getElem?_eq_some_iff.1 hy).1; omega
   obtain ⟨z, hz⟩ := gx hj
   have h1 := h j z y hz hy
   rcases Nat.lt_or_ge i j with h2 | h2
   · have := ih x z h2 hx hz; omega
   · have : i = j := by omega
     subst this; rw [hx] at hz; cases hz; exact h1
theorem z80 {a b : Int} : y09 a b ≤ 0 ↔ a ≤ b := by unfold y09; split <;> (try split) <;> omega
theorem y80 {a b : Int} : y09 a b < 0 ↔ a < b := by unfold y09; split <;> (try split) <;> omega
theorem y3c {a b : Int} : y09 a b = 0 ↔ a = b := by unfold y09; split <;> (try split) <;> omega
theorem z1q {α : Type} {key : α → Int} {us : List α} (h : ∀ (i j : Nat) (x y : α), i < j → us[i]? = some x → us[j]? = some y → key x < key y) (c : Int) : y5w (fun x => y09 (key x) c) us := fun i j x y hij hx hy h0 => by
 have := h i j x y hij hx hy
 rw [z80] at h0
 exact y80.2 (by omega)
theorem q0s {us : List Mk} (h : qf us = 0) : ∀ (i j : Nat) (x y : Mk), i < j → us[i]? = some x → us[j]? = some y → x.c < y.c :=
 z3c (key := Mk.c) (fun j p x hp hx => by
  have hj := (List.getElem?_eq_some_iff.1 hx).1
  have := q04 h (j + 1) hj
  simp only [z1m, hx] at this
  split at this
  · omega
  · split at this
    · rename_i ha
      rw [z8 (p := p) (by omega) (by simpa using hp)] at ha
      simpa using ha
    · omega)
theorem z1v {us : List Mk} (h : qf us = 0) (c : Int) : y1m us c = y0c us c := by
 by_cases hx : ∃ (i : Nat) (x : Mk), us[i]? = some x ∧ x.c = c
 · obtain ⟨i, x, hx, e⟩ := hx
   have hc := q0s h
   obtain ⟨h1, h2⟩ := q3b (z1q (key := Mk.c) hc c) hx (y3c.2 e)
   rw [← z43 h2 (by rw [h1]; exact hx)]
   exact (y0x hx (fun j y hj hy e' => by have := hc j i y x hj hy hx; omega) e).symm
 · have hn : ∀ (i : Nat) (x : Mk), us[i]? = some x → ¬ x.c = c := fun i x h1 h2 => hx ⟨i, x, h1, h2⟩
   rw [← y3k (y4h (f := fun x : Mk => y09 x.c c) (fun i x h1 => fun h2 => hn i x h1 (y3c.1 h2)))]
   exact (z16 hn).symm
theorem z30 {us : List Bal} (h : qi us = 0) : us.length ≤ 18 ∧ (∀ x ∈ us, x.bad = false) ∧ ∀ (i j : Nat) (x y : Bal), i < j → us[i]? = some x → us[j]? = some y → x.key < y.key := by
 unfold qi at h
 split at h
 · omega
 · rename_i hl
   refine ⟨by omega, fun x hx => ?_, z3c (key := Bal.key) (fun j p x hp hx => ?_)⟩
   · obtain ⟨j, hj⟩ := List.mem_iff_getElem?.1 hx
     exact z4h hj (q04 h j (List.getElem?_eq_some_iff.1 hj).1)
   · have hj := (List.getElem?_eq_some_iff.1 hx).1
     have := q04 h (j + 1) hj
     simp only [z1x, hx] at this
     split at this
     · omega
     · split at this
       · rename_i ha
         rw [z8 (p := p) (by omega) (by simpa using hp)] at ha
         simpa using ha
       · omega
theorem z47 {x : Bal} {a b : Int} : y04 x ⟨a, b, 0⟩ = 0 ↔ x.a = a ∧ x.b = b := by
 unfold y04 y09 orr orr orr
 dsimp only
 repeat' split
 all_goals omega
theorem z3m {x y t : Bal} (hx : x.bad = false) (hy : y.bad = false) (h : x.key < y.key) (h0 : y04 y t ≤ 0) : y04 x t < 0 := by
 simp [Bal.bad, within] at hx hy
 unfold Bal.key at h
 revert h0
 unfold y04 y09 orr orr orr
 intro h0
 repeat' split
 all_goals (repeat' split at h0)
 all_goals omega
theorem q50 {us : List Bal} (h : qi us = 0) (a b : Int) : z3s us a b = hasB us a b := by
 obtain ⟨_, hb, hc⟩ := z30 h
 by_cases hx : ∃ (i : Nat) (x : Bal), us[i]? = some x ∧ x.a = a ∧ x.b = b
 · obtain ⟨i, x, hx, e⟩ := hx
   have hs : y5w (fun x : Bal => y04 x ⟨a, b, 0⟩) us := fun i j x y hij h1 h2 h0 => z3m (hb x (List.mem_of_getElem? h1)) (hb y (List.mem_of_getElem? h2)) (hc i j x y hij h1 h2) h0
   obtain ⟨h1, h2⟩ := q3b hs hx (z47.2 e)
   rw [← y51 h2 (by rw [h1]; exact hx)]
   exact (y3g hx (fun j y hj hy e' => by
    have h3 := hc j i y x hj hy hx
    have h4 : y.key = x.key := by unfold Bal.key; rw [e'.1, e'.2, e.1, e.2]
    omega) e).symm
 · have hn : ∀ (i : Nat) (x : Bal), us[i]? = some x → ¬ (x.a = a ∧ x.b = b) := fun i x h1 h2 => hx ⟨i, x, h1, h2⟩
   rw [← y4g (y4h (f := fun x : Bal => y04 x ⟨a, b, 0⟩) (fun i x h1 => fun h2 => hn i x h1 (z47.1 h2)))]
   exact (q2g hn).symm
theorem q82 {us : List Bal} (h : ∀ x ∈ us, x.bad = false) (a b : Int) : 0 ≤ hasB us a b ∧ hasB us a b ≤ 1000000000000 := by
 induction us with
 | nil => simp [hasB]
 | cons y us ih =>
   rw [hasB]
   split
   · have := h y List.mem_cons_self
     simp [Bal.bad, within] at this
     omega
   · exact ih (fun x hx => h x (List.mem_cons_of_mem _ hx))
def y19 (mk : List Mk → Int → Int) (s : Shd) (i : Nat) : Int := match s.held[i]? with
 | some c => if zk c ≠ 0 then zk c else if (!(ahead (fun p x : Con => decide (p.id < x.id)) s.held i c)) || ((qg c s.idx).length == 0 || (mk s.votes c.id != 1 || mk s.done c.id != 0)) then 1 else 0
 | none => 0
def qm (mk : List Mk → Int → Int) (s : Shd) : Int := scan (y19 mk s) s.held.length
def z5n (s : Shd) (m : Mk) : Bool := m.v == 1 && (!(bsF (fun x : Con => y09 x.id m.c) s.held) && y1m s.done m.c == 0)
def z2x (s : Shd) (m : Mk) : Bool := m.v == 1 && (!(y3i s.held m.c) && y0c s.done m.c == 0)
def q5l (s : Shd) (a b : Con) : Bool := (qg a s.idx).any fun l => (qg b s.idx).any fun m => l.same m
def y1b (s : Shd) (i : Nat) : Int := match s.held[i]? with | some c => if (s.held.take i).any fun own => q5l s own c then 7 else 0 | none => 0
def y10 (s : Shd) (i : Nat) : Int := match s.held[i]? with | some c => if (s.held.take i).any fun own => y4e (qg c s.idx) (qg own s.idx) then 7 else 0 | none => 0
def y33 (us : List Bal) (ls : List Leg) (i : Nat) : Int := match ls[i]? with | some l => q77 us l | none => 0
def z1b (us : List Bal) (ls : List Leg) : Int := scan (y33 us ls) ls.length
def q5h (code : List Bal → List Leg → Int) (s : Shd) (i : Nat) : Int := match s.held[i]? with | some c => code s.bals (qg c s.idx) | none => 0
def z00 (meet : Shd → Nat → Int) (code : List Bal → List Leg → Int) (s : Shd) : Int := if scan (meet s) s.held.length ≠ 0 then scan (meet s) s.held.length else scan (q5h code s) s.held.length
end Go.Sx
end
section
namespace Go.Sx
theorem q0e {c : Con} (h : zk c = 0) : (1 ≤ c.id ∧ c.id ≤ 1000000000) ∧ (2 ≤ c.legs.length ∧ c.legs.length ≤ 8) ∧ ∀ l ∈ c.legs, l.fault = 0 := by
 unfold zk at h
 split at h
 · rename_i h1
   split at h
   · rename_i h2
     split at h
     · rename_i h3; exact absurd h h3
     · rename_i h3
       have h3 : scan (y2s c.legs) c.legs.length = 0 := by simpa using h3
       refine ⟨Go.Sx.within_iff.1 h1, h2, fun l hl => ?_⟩
       exact q15 (i := c.legs.length) (q04 h3) l (by rwa [List.take_length])
   · omega
 · omega
theorem y3h {mk : List Mk → Int → Int} {s : Shd} (h : qm mk s = 0) : ∀ c ∈ s.held, zk c = 0 := fun c hc => by
 obtain ⟨j, hj⟩ := List.mem_iff_getElem?.1 hc
 have := q04 h j (List.getElem?_eq_some_iff.1 hj).1
 simp only [y19, hj] at this
 split at this
 · rename_i h1; exact absurd this h1
 · rename_i h1; simpa using h1
theorem q5i {mk : List Mk → Int → Int} {s : Shd} (h : qm mk s = 0) : ∀ (i j : Nat) (x y : Con), i < j → s.held[i]? = some x → s.held[j]? = some y → x.id < y.id :=
 z3c (key := Con.id) (fun j p x hp hx => by
  have hj := (List.getElem?_eq_some_iff.1 hx).1
  have := q04 h (j + 1) hj
  simp only [y19, hx] at this
  split at this
  · rename_i h1; exact absurd this h1
  · split at this
    · omega
    · rename_i ha
      rw [z8 (p := p) (by omega) (by simpa using hp)] at ha
      simp at ha
      exact ha.1)
theorem q68 {s : Shd} (hb : qi s.bals = 0) {c : Con} (hc : zk c = 0) : ∀ l ∈ qg c s.idx, -9000000000000000000 ≤ hasB s.bals l.a l.b + l.v ∧ hasB s.bals l.a l.b + l.v ≤ 9000000000000000000 := fun l hl => by
 have h1 := q82 (z30 hb).2.1 l.a l.b
 have h2 := (Leg.q03 ((q0e hc).2.2 l (List.mem_filter.1 hl).1)).2.2.2.1
 unfold Leg.small at h2
 omega
theorem y73 {s : Shd} (hb : qi s.bals = 0) {c : Con} (hc : zk c = 0) : ∀ l ∈ qg c s.idx, -9000000000000000000 ≤ z3s s.bals l.a l.b + l.v ∧ z3s s.bals l.a l.b + l.v ≤ 9000000000000000000 := fun l hl => by
 rw [q50 hb]; exact q68 hb hc l hl
theorem q6d {us : List Bal} (h : qi us = 0) (ls : List Leg) : z1b us ls = q2w us ls := by
 unfold z1b q2w
 refine z0q (fun j hj _ => ?_)
 unfold y33 y5k
 cases ls[j]? with
 | some l => simp only [q77, y98, q50 h]
 | none => rfl
theorem y3z {s : Shd} (hv : qf s.votes = 0) (hd : qf s.done = 0) : qm y1m s = qm y0c s := by
 unfold qm
 refine z0q (fun j hj _ => ?_)
 unfold y19
 split
 · rw [z1v hv, z1v hd]
 · rfl
theorem q6a {s : Shd} {mk : List Mk → Int → Int} (h : qm mk s = 0) (c : Int) : bsF (fun x : Con => y09 x.id c) s.held = y3i s.held c := by
 by_cases hx : ∃ (i : Nat) (x : Con), s.held[i]? = some x ∧ x.id = c
 · obtain ⟨i, x, hx, e⟩ := hx
   rw [(q3b (z1q (key := Con.id) (q5i h) c) hx (y3c.2 e)).2]
   exact qo hx (by simp [e])
 · have hn : ∀ (i : Nat) (x : Con), s.held[i]? = some x → ¬ x.id = c := fun i x h1 h2 => hx ⟨i, x, h1, h2⟩
   rw [y4h (f := fun x : Con => y09 x.id c) (fun i x h1 h2 => hn i x h1 (y3c.1 h2))]
   exact any_none (fun i x h1 => by simpa using hn i x h1)
theorem z5m (s : Shd) (a b : Con) : q5l s a b = y4e (qg b s.idx) (qg a s.idx) := by
 unfold q5l y4e
 rw [Bool.eq_iff_iff]
 simp only [List.any_eq_true]
 have hs : ∀ {c : Con} {l : Leg}, l ∈ qg c s.idx → l.s = s.idx := fun {c l} hl => by simpa using (List.mem_filter.1 hl).2
 constructor
 · rintro ⟨l, hl, m, hm, h⟩
   refine ⟨m, hm, l, hl, ?_⟩
   simp [Leg.same] at h ⊢
   omega
 · rintro ⟨m, hm, l, hl, h⟩
   refine ⟨l, hl, m, hm, ?_⟩
   have h1 := hs hl
   have h2 := hs hm
   simp [Leg.same] at h ⊢
   omega
theorem q4x {s : Shd} (h : qi s.bals = 0) : z00 y1b z1b s = z00 y10 q2w s := by
 have e1 : scan (y1b s) s.held.length = scan (y10 s) s.held.length := z0q (fun j _ _ => by
  unfold y1b y10
  split
  · simp only [z5m]
  · rfl)
 have e2 : scan (q5h z1b s) s.held.length = scan (q5h q2w s) s.held.length := z0q (fun j _ _ => by
  unfold q5h
  split
  · exact q6d h _
  · rfl)
 unfold z00
 rw [e1, e2]
def y7m (s : Shd) (i : Nat) : Int := match s.app[i]? with | some a => if y0c s.done a != 1 || ((s.app.take i).any fun y => y == a) then 1 else 0 | none => 0
def y2u (us : List Mk) : Nat := (us.filter fun m => m.v == 1).length
theorem z5g {us : List Mk} {i : Nat} {x : Mk} (h : us[i]? = some x) : y2u (us.take (i + 1)) = y2u (us.take i) + (if x.v == 1 then 1 else 0) := by
 unfold y2u
 rw [q0r h, List.length_append]
 split <;> rfl
theorem q53 (us : List Mk) (i : Nat) : y2u (us.take i) ≤ i := by
 unfold y2u
 exact Nat.le_trans (List.length_filter_le _ _) (by rw [List.length_take]; omega)
def q51 (s : Shd) : Bool := scan (y7m s) s.app.length == 0 && y2u s.done == s.app.length
def many (s : Shd) : Bool := decide (100 < s.votes.length) || (decide (100 < s.held.length) || (decide (100 < s.done.length) || decide (100 < s.app.length)))
def y0q (s : Shd) : Int :=
 if qm y0c s ≠ 0 then qm y0c s else if s.votes.any (z2x s) then 1 else if q51 s then z00 y10 q2w s else 1
def yl (s : Shd) : Int :=
 if within s.idx 0 2 then (if qi s.bals ≠ 0 then qi s.bals else if many s then 2 else if qf s.votes ≠ 0 then qf s.votes else if qf s.done ≠ 0 then qf s.done else y0q s) else 3
def q1g (ok : Bool) (s : Shd) : Int :=
 if within s.idx 0 2 then (if qi s.bals ≠ 0 then qi s.bals else if many s then 2 else
  if orr [qf s.votes, qf s.done, qm y1m s] ≠ 0 then orr [qf s.votes, qf s.done, qm y1m s] else
  if s.votes.any (z5n s) || !ok then 1 else z00 y1b z1b s) else 3
theorem q3n (s : Shd) : q1g (q51 s) s = yl s := by
 unfold q1g yl y0q
 split
 · split
   · rfl
   · rename_i hb
     have hb : qi s.bals = 0 := by simpa using hb
     split
     · rfl
     · simp only [orr]
       by_cases hv : qf s.votes = 0
       · by_cases hd : qf s.done = 0
         · rw [y3z hv hd, q4x hb]
           by_cases hh : qm y0c s = 0
           · have : z5n s = z2x s := by
              funext m
              unfold z5n z2x
              rw [q6a hh, z1v hd]
             rw [this]
             simp only [hv, hd, hh]
             cases s.votes.any (z2x s) <;> cases q51 s <;> simp
           · simp [hv, hd, hh]
         · simp [hv, hd]
       · simp [hv]
 · rfl
theorem y8b (s : Shd) : decide (mx (mx (mx ((s.votes.map Mk.cs).length : Nat) ((s.held.map Con.cs).length : Nat)) ((s.done.map Mk.cs).length : Nat)) ((ints s.app).length : Nat) > 100) = many s := by
 unfold many
 simp only [List.length_map, ints]
 rw [Bool.eq_iff_iff]
 simp only [Bool.or_eq_true, decide_eq_true_eq]
 unfold mx
 repeat' split
 all_goals omega
theorem q9p {a b c : Int} (h : (orr [a, b, c] != 0) = false) : a = 0 ∧ b = 0 ∧ c = 0 := by
 simp only [orr] at h
 by_cases ha : a = 0 <;> by_cases hb : b = 0 <;> by_cases hc : c = 0 <;> simp_all
theorem q59 {s : Shd} {c : Int} (e : c = qm y0c s) (h : c ≠ 0) : c = y0q s := by unfold y0q; rw [if_pos (by rw [← e]; exact h)]; exact e
theorem z7f {s : Shd} (h : qm y0c s = 0) (ho : true = s.votes.any (z2x s)) : 1 = y0q s := by unfold y0q; rw [if_neg (by rw [h]; decide), if_pos ho.symm]
theorem y7f {s : Shd} (h : qm y0c s = 0) (ho : false = s.votes.any (z2x s)) (ha : q51 s = false) : 1 = y0q s := by unfold y0q; rw [if_neg (by rw [h]; decide), if_neg (by rw [← ho]; decide), if_neg (by rw [ha]; decide)]
theorem z3o {s : Shd} {c : Int} (h : qm y0c s = 0) (ho : false = s.votes.any (z2x s)) (ha : q51 s = true) (e : c = z00 y10 q2w s) : c = y0q s := by unfold y0q; rw [if_neg (by rw [h]; decide), if_neg (by rw [← ho]; decide), if_pos ha]; exact e
theorem y5s {meet : Shd → Nat → Int} {code : List Bal → List Leg → Int} {s : Shd} {c : Int} (e : c = scan (meet s) s.held.length) (h : c ≠ 0) : c = z00 meet code s := by unfold z00; rw [if_pos (by rw [← e]; exact h)]; exact e
theorem z38 {meet : Shd → Nat → Int} {code : List Bal → List Leg → Int} {s : Shd} {c : Int} (h : scan (meet s) s.held.length = 0) (e : c = scan (q5h code s) s.held.length) : c = z00 meet code s := by unfold z00; rw [if_neg (by rw [h]; decide)]; exact e
theorem q7m {t : Bool} {v : Int} (h : ((if t = true then v else 3) != 0) = false) : t = true ∧ v = 0 := by
 cases t with
 | true => exact ⟨rfl, by simpa using h⟩
 | false => simp at h
theorem z49 {s : Shd} (h : ((if within s.idx 0 2 = true then qi s.bals else 3) != 0) = true) : (if within s.idx 0 2 = true then qi s.bals else 3) = yl s := by
 unfold yl
 split
 · rename_i hw; rw [if_pos hw] at h; rw [if_pos (by simpa using h)]
 · rfl
theorem y49 {s : Shd} {c : Int} (h : within s.idx 0 2 = true ∧ qi s.bals = 0) (e : c = if many s then 2 else if qf s.votes ≠ 0 then qf s.votes else if qf s.done ≠ 0 then qf s.done else y0q s) : c = yl s := by
 unfold yl; rw [if_pos h.1, if_neg (by rw [h.2]; decide)]; exact e
end Go.Sx
end
section
namespace Go.Sx
theorem z6g {xs : List Int} : ∀ {ys : List Int}, xs.Nodup → (∀ x ∈ xs, x ∈ ys) → ∃ zs, ys.Perm (xs ++ zs) := by
 induction xs with
 | nil => intro ys _ _; exact ⟨ys, List.Perm.refl _⟩
 | cons x xs ih =>
   intro ys hn hm
   obtain ⟨hx, hn⟩ := List.nodup_cons.1 hn
   obtain ⟨zs, hz⟩ := ih (ys := ys.erase x) hn (fun y hy => (List.mem_erase_of_ne (fun e => hx (by rw [← e]; exact hy))).2 (hm y (List.mem_cons_of_mem _ hy)))
   exact ⟨zs, (List.perm_cons_erase (hm x List.mem_cons_self)).trans (hz.cons x)⟩
def dnI (us : List Mk) : List Int := (us.filter fun m => m.v == 1).map Mk.c
theorem y71 {us : List Mk} {i : Nat} {x : Mk} (h : us[i]? = some x) : dnI (us.take (i + 1)) = if x.v == 1 then dnI (us.take i) ++ [x.c] else dnI (us.take i) := by
 unfold dnI
 rw [q0r h, List.map_append]
 split
 · rfl
 · simp
theorem z63 (us : List Mk) : (dnI us).length = y2u us := by unfold dnI y2u; rw [List.length_map]
theorem z12 {α : Type} {r : α → α → Prop} : ∀ {us : List α}, (∀ (i j : Nat) (x y : α), i < j → us[i]? = some x → us[j]? = some y → r x y) → us.Pairwise r
 | [], _ => List.Pairwise.nil
 | x :: us, h => List.Pairwise.cons (fun y hy => by
     obtain ⟨j, hj⟩ := List.mem_iff_getElem?.1 hy
     exact h 0 (j + 1) x y (by omega) rfl (by simpa using hj)) (z12 (us := us) (fun i j a b hij ha hb => h (i + 1) (j + 1) a b (by omega) (by simpa using ha) (by simpa using hb)))
theorem y7p {us : List Mk} (h : qf us = 0) : (dnI us).Pairwise (· < ·) := by
 unfold dnI
 rw [List.pairwise_map]
 exact (z12 (r := fun a b : Mk => a.c < b.c) (q0s h)).sublist List.filter_sublist
theorem z4q {us : List Int} (h : us.Pairwise (· < ·)) : us.Nodup := h.imp (fun h => by omega)
theorem z6f {us : List Mk} (h : qf us = 0) (c : Int) : c ∈ dnI us ↔ y0c us c = 1 := by
 unfold dnI
 rw [List.mem_map]
 constructor
 · rintro ⟨m, hm, rfl⟩
   obtain ⟨hm, hv⟩ := List.mem_filter.1 hm
   obtain ⟨i, hi⟩ := List.mem_iff_getElem?.1 hm
   rw [y0x hi (fun j y hj hy e => by have := q0s h j i y m hj hy hi; omega) rfl]
   simpa using hv
 · intro hc
   by_cases hx : ∃ (i : Nat) (x : Mk), us[i]? = some x ∧ x.c = c
   · obtain ⟨i, x, hx, e⟩ := hx
     have := y0x hx (fun j y hj hy e' => by have := q0s h j i y x hj hy hx; omega) e
     exact ⟨x, List.mem_filter.2 ⟨List.mem_of_getElem? hx, by simp; omega⟩, e⟩
   · have hn : ∀ (i : Nat) (x : Mk), us[i]? = some x → ¬ x.c = c := fun i x h1 h2 => hx ⟨i, x, h1, h2⟩
     rw [z16 hn] at hc; omega
theorem q6f : ∀ {us : List Int}, (∀ (i : Nat) (x : Int), us[i]? = some x → ¬ x ∈ us.take i) → us.Nodup := by
 intro us h
 exact z12 (fun i j x y hij hx hy e => h j y hy (by
  rw [← e]
  exact List.mem_iff_getElem?.2 ⟨i, by rw [List.getElem?_take_of_lt hij]; exact hx⟩))
theorem z6y {s : Shd} (h : qf s.done = 0) : q51 s = true ↔ (∀ x ∈ s.app, x ∈ dnI s.done) ∧ s.app.Nodup ∧ (dnI s.done).length = s.app.length := by
 unfold q51
 rw [z63]
 simp only [Bool.and_eq_true, beq_iff_eq]
 rw [← and_assoc]
 refine and_congr_left (fun _ => ?_)
 constructor
 · intro h0
   have hz : ∀ (i : Nat) (x : Int), s.app[i]? = some x → y0c s.done x = 1 ∧ ¬ x ∈ s.app.take i := fun i x hx => by
    have := q04 h0 i (List.getElem?_eq_some_iff.1 hx).1
    simp only [y7m, hx] at this
    split at this
    · omega
    · rename_i h1
      simp at h1
      exact ⟨h1.1, h1.2⟩
   refine ⟨fun x hx => ?_, q6f fun i x hx => (hz i x hx).2⟩
   obtain ⟨i, hi⟩ := List.mem_iff_getElem?.1 hx
   exact (z6f h x).2 (hz i x hi).1
 · rintro ⟨h1, h2⟩
   refine zc (fun i hi => ?_)
   obtain ⟨x, hx⟩ := gx hi
   simp only [y7m, hx]
   rw [if_neg]
   have e := (z6f h x).1 (h1 x (List.mem_of_getElem? hx))
   have e2 : ¬ x ∈ s.app.take i := fun hm => by
    obtain ⟨j, hj⟩ := List.mem_iff_getElem?.1 hm
    have hji : j < i := by have := (List.getElem?_eq_some_iff.1 hj).1; rw [List.length_take] at this; omega
    rw [List.getElem?_take_of_lt hji] at hj
    obtain ⟨q1, q2⟩ := List.getElem?_eq_some_iff.1 hj
    obtain ⟨q3, q4⟩ := List.getElem?_eq_some_iff.1 hx
    have := (List.pairwise_iff_getElem.1 h2) j i q1 q3 hji
    exact this (by rw [q2, q4])
   simp [e]
   exact e2
def y0v (xs : List Int) : List Int := xs.mergeSort (fun a b => decide (a ≤ b))
theorem q5d {s : Shd} (h : qf s.done = 0) : (y0v s.app == dnI s.done) = q51 s := by
 rw [Bool.eq_iff_iff, z6y h, beq_iff_eq]
 unfold y0v
 have hp := List.mergeSort_perm s.app (fun a b : Int => decide (a ≤ b))
 constructor
 · intro e
   rw [e] at hp
   exact ⟨fun x hx => hp.symm.subset hx, hp.nodup_iff.1 (z4q (y7p h)), hp.length_eq⟩
 · rintro ⟨h1, h2, h3⟩
   obtain ⟨zs, hz⟩ := z6g h2 h1
   have hl := hz.length_eq
   rw [List.length_append] at hl
   have hz0 : zs = [] := List.eq_nil_of_length_eq_zero (by omega)
   subst hz0
   rw [List.append_nil] at hz
   refine List.Perm.eq_of_pairwise (le := fun a b : Int => decide (a ≤ b) = true) (fun a b _ _ h1 h2 => by simp at h1 h2; omega) (List.pairwise_mergeSort (fun a b c h1 h2 => by simp at h1 h2 ⊢; omega) (fun a b => by simp; omega) _) ((y7p h).imp (fun h => by simp; omega)) (hp.trans hz.symm)
end Go.Sx
end
section
namespace Go.Sx
structure Msg where
 (k to fr c s b v ob ov : Int)
abbrev Msg.cs (m : Msg) : List Cell := [i64 m.k, i64 m.to, i64 m.fr, i64 m.c, i64 m.s, i64 m.b, i64 m.v, i64 m.ob, i64 m.ov]
structure Tr where
 (c s b v : Int)
 fr : List Int
 olds : List Vt
abbrev Tr.cs (t : Tr) : List Cell := [i64 t.c, i64 t.s, i64 t.b, i64 t.v, .l (ints t.fr), .l (t.olds.map Vt.cs)]
structure Hd where
 (c s b v f : Int)
abbrev Hd.cs (h : Hd) : List Cell := [i64 h.c, i64 h.s, i64 h.b, i64 h.v, i64 h.f]
structure Ldr where
 n : Int
 tries : List Tr
 known : List Hd
abbrev Ldr.cs (l : Ldr) : List Cell := [i64 l.n, .l (l.tries.map Tr.cs), .l (l.known.map Hd.cs)]
structure Clu where
 cons : List Con
 shs : List Shd
 accs : List Acc
 ldrs : List Ldr
 msgs : List Msg
abbrev Clu.cs (c : Clu) : List Cell := [.l (c.cons.map Con.cs), .l (c.shs.map Shd.cs), .l (c.accs.map Acc.cs), .l (c.ldrs.map Ldr.cs), .l (c.msgs.map Msg.cs)]
instance instDecidableEqLeg : DecidableEq Leg := fun x y =>
 if h : x.s = y.s ∧ x.a = y.a ∧ x.b = y.b ∧ x.v = y.v then isTrue (by cases x; cases y; simp_all) else isFalse (fun e => h (by subst e; exact ⟨rfl, rfl, rfl, rfl⟩))
def q9o (s : Shd) : Prop := s.bals.length ≤ 1048576 ∧ s.votes.length ≤ 1048576 ∧ s.held.length ≤ 1048576 ∧ s.done.length ≤ 1048576 ∧ s.app.length ≤ 1048576 ∧ ∀ c ∈ s.held, c.legs.length ≤ 1048576
def z5u (a : Acc) : Prop := a.slots.length ≤ 1048576 ∧ ∀ s ∈ a.slots, s.cast.length ≤ 1048576
def q8p (t : Tr) : Prop := t.fr.length ≤ 1048576 ∧ t.olds.length ≤ 1048576
def y7u (l : Ldr) : Prop := l.tries.length ≤ 1048576 ∧ l.known.length ≤ 1048576 ∧ ∀ t ∈ l.tries, q8p t
def yx (c : Clu) : Prop := (c.cons.length ≤ 1048576 ∧ ∀ x ∈ c.cons, x.legs.length ≤ 1048576) ∧ (c.shs.length ≤ 1048576 ∧ ∀ s ∈ c.shs, q9o s) ∧ (c.accs.length ≤ 1048576 ∧ ∀ a ∈ c.accs, z5u a) ∧ (c.ldrs.length ≤ 1048576 ∧ ∀ l ∈ c.ldrs, y7u l) ∧ c.msgs.length ≤ 1048576
def z8v (c : Con) (s : Int) : Bool := c.legs.any fun l => l.s == s
def z0n (cs : List Con) (id : Int) : Option Con := cs.find? fun c => c.id == id
def z0s (cs : List Con) (id s : Int) : Bool := match z0n cs id with | some c => z8v c s | none => false
theorem y0y {α : Type} {p : α → Bool} : ∀ {l : List α} {x : α}, l.find? p = some x → ∃ i : Nat, z0y p l = i ∧ l[i]? = some x
 | y :: l, x, h => by
   rw [List.find?_cons] at h
   by_cases hy : p y = true
   · rw [hy] at h; cases h; exact ⟨0, by rw [z0y, if_pos hy]; rfl, rfl⟩
   · rw [show p y = false by simpa using hy] at h
     obtain ⟨i, h1, h2⟩ := y0y h
     exact ⟨i + 1, by rw [z0y, if_neg hy, h1, if_neg (by omega)]; omega, by simpa using h2⟩
theorem z1f {α : Type} {p : α → Bool} : ∀ {l : List α}, l.find? p = none → z0y p l = -1
 | [], _ => rfl
 | y :: l, h => by
   rw [List.find?_cons] at h
   by_cases hy : p y = true
   · rw [hy] at h; cases h
   · rw [show p y = false by simpa using hy] at h
     rw [z0y, if_neg hy, z1f h]; rfl
theorem z5l (c : Con) (s : Int) : decide (0 < (qg c s).length) = z8v c s := by
 unfold qg z8v
 rw [Bool.eq_iff_iff, decide_eq_true_eq, List.length_pos_iff_exists_mem, List.any_eq_true]
 simp only [List.mem_filter]
theorem z3l {x v : Int} : ∀ {l : List Int}, x ∈ y2x l v ↔ x = v ∨ x ∈ l
 | [] => by simp [y2x]
 | y :: l => by
   rw [y2x]
   split
   · rw [List.mem_cons, z3l (l := l), List.mem_cons]
     constructor
     · rintro (h | h | h) <;> simp [h]
     · rintro (h | h | h) <;> simp [h]
   · split
     · rename_i h; subst h; simp
     · simp
theorem y4r {v : Int} : ∀ {l : List Int} {i : Nat}, i ≤ l.length → (∀ (j : Nat) (x : Int), j < i → l[j]? = some x → x < v) → (∀ x, l[i]? = some x → ¬ x < v) → y2x l v = if l[i]? = some v then l else l.take i ++ v :: l.drop i
 | [], i, hi, _, _ => by
   have : i = 0 := by simpa using hi
   subst this; rfl
 | y :: l, 0, _, _, h1 => by
   have hy := h1 y rfl
   rw [y2x, if_neg hy]
   by_cases e : y = v
   · subst e; simp
   · rw [if_neg e, if_neg (by simpa using e)]; rfl
 | y :: l, i + 1, hi, h0, h1 => by
   have hy := h0 0 y (by omega) rfl
   rw [y2x, if_pos hy, y4r (l := l) (i := i) (by simpa using hi) (fun j x hj hx => h0 (j + 1) x (by omega) (by simpa using hx)) (fun x hx => h1 x (by simpa using hx))]
   simp only [List.getElem?_cons_succ]
   split
   · rfl
   · simp
theorem q6i {v : Int} : ∀ {l : List Int}, l.Pairwise (· < ·) → (y2x l v).Pairwise (· < ·)
 | [], _ => by simp [y2x]
 | x :: l, h => by
   obtain ⟨h1, h2⟩ := List.pairwise_cons.1 h
   rw [y2x]
   split
   · rename_i hx
     refine List.pairwise_cons.2 ⟨fun y hy => ?_, q6i h2⟩
     rcases z3l.1 hy with rfl | hy
     · exact hx
     · exact h1 y hy
   · split
     · exact h
     · refine List.pairwise_cons.2 ⟨fun y hy => ?_, h⟩
       rcases List.mem_cons.1 hy with rfl | hy
       · omega
       · have := h1 y hy; omega
theorem q1d {l : List Int} {v : Int} {i : Nat} (hs : l.Pairwise (· < ·)) (h0 : ∀ (j : Nat) (x : Int), j < i → l[j]? = some x → x < v) (h1 : ∀ x, l[i]? = some x → ¬ x < v) : l.contains v = (l[i]? == some v) := by
 rw [Bool.eq_iff_iff, List.contains_iff_mem, beq_iff_eq]
 constructor
 · intro hm
   obtain ⟨j, hj⟩ := List.mem_iff_getElem?.1 hm
   rcases Nat.lt_trichotomy j i with h | h | h
   · have := h0 j v h hj; omega
   · subst h; exact hj
   · obtain ⟨hj1, hj2⟩ := List.getElem?_eq_some_iff.1 hj
     have hi : i < l.length := by omega
     have := (List.pairwise_iff_getElem.1 hs) i j hi hj1 h
     have := h1 l[i] (List.getElem?_eq_getElem hi)
     omega
 · exact fun h => List.mem_of_getElem? h
theorem z58 {v : Int} : ∀ {l : List Int}, l.Pairwise (· < ·) → l.contains v = true → y2x l v = l
 | [], _, h => by simp at h
 | x :: l, hs, h => by
   obtain ⟨h1, h2⟩ := List.pairwise_cons.1 hs
   rw [y2x]
   by_cases e : x = v
   · rw [if_neg (by omega), if_pos e]
   · have hm : v ∈ l := by
      rw [List.contains_iff_mem] at h
      rcases List.mem_cons.1 h with rfl | h
      · exact absurd rfl e
      · exact h
     rw [if_pos (h1 v hm), z58 h2 (by rw [List.contains_iff_mem]; exact hm)]
def shF (ls : List Leg) : List Int := ls.foldl (fun l x => y2x l x.s) []
theorem y59 {ls : List Leg} {i : Nat} {x : Leg} (h : ls[i]? = some x) : shF (ls.take (i + 1)) = y2x (shF (ls.take i)) x.s := by
 unfold shF
 rw [List.take_add_one, h, List.foldl_append]; rfl
theorem y2j {x : Int} : ∀ {ls : List Leg} {l : List Int}, x ∈ ls.foldl (fun l x => y2x l x.s) l ↔ x ∈ l ∨ ∃ y ∈ ls, y.s = x
 | [], l => by simp
 | y :: ls, l => by
   rw [List.foldl_cons, y2j (ls := ls), z3l]
   constructor
   · rintro ((h | h) | ⟨z, h, e⟩)
     · exact .inr ⟨y, List.mem_cons_self, h.symm⟩
     · exact .inl h
     · exact .inr ⟨z, List.mem_cons_of_mem _ h, e⟩
   · rintro (h | ⟨z, h, e⟩)
     · exact .inl (.inr h)
     · rcases List.mem_cons.1 h with rfl | h
       · exact .inl (.inl e.symm)
       · exact .inr ⟨z, h, e⟩
theorem z8i (c : Con) (s : Int) : (shF c.legs).any (fun y => y == s) = z8v c s := by
 unfold z8v shF
 rw [Bool.eq_iff_iff, List.any_eq_true, List.any_eq_true]
 simp only [y2j, List.not_mem_nil, false_or, beq_iff_eq]
 constructor
 · rintro ⟨x, ⟨y, h, e⟩, e2⟩; exact ⟨y, h, by rw [e, e2]⟩
 · rintro ⟨y, h, e⟩; exact ⟨s, ⟨y, h, e⟩, rfl⟩
theorem z7b {l : List Int} {v : Int} : (y2x l v).length ≤ l.length + 1 := by
 induction l with
 | nil => simp [y2x]
 | cons x l ih =>
   rw [y2x]
   split
   · simp; omega
   · split <;> simp
theorem q1v : ∀ (ls : List Leg) (i : Nat), (shF (ls.take i)).length ≤ i
 | ls, 0 => by simp [shF]
 | ls, i + 1 => by
   cases h : ls[i]? with
   | some x => rw [y59 h]; have := q1v ls i; have := z7b (l := shF (ls.take i)) (v := x.s); omega
   | none => rw [List.take_add_one, h]; simp; have := q1v ls i; omega
theorem z59 (ls : List Leg) : (shF ls).Pairwise (· < ·) := by
 unfold shF
 have : ∀ (ls : List Leg) (l : List Int), l.Pairwise (· < ·) → (ls.foldl (fun l x => y2x l x.s) l).Pairwise (· < ·) := by
  intro ls
  induction ls with
  | nil => intro l h; exact h
  | cons y ls ih => intro l h; exact ih _ (q6i h)
 exact this ls [] List.Pairwise.nil
def toN (c : Clu) (m : Msg) : Nat := if m.k = 1 ∨ m.k = 6 then c.shs.length else if m.k = 3 ∨ m.k = 5 then c.ldrs.length else c.accs.length
def frN (c : Clu) (m : Msg) : Nat := if m.k = 4 then c.ldrs.length else c.accs.length
def ends (c : Clu) (m : Msg) : Bool := within m.to 0 ((toN c m : Int) - 1) && (decide (m.k < 3) || decide (5 < m.k) || within m.fr 0 ((frN c m : Int) - 1))
def Msg.shd (m : Msg) : Int := if m.k = 1 ∨ m.k = 6 then m.to else m.s
def ranges (c : Clu) (m : Msg) : Bool := z0s c.cons m.c m.shd && (!(decide (2 ≤ m.k) && decide (m.k ≤ 5)) || within m.b 0 1000) && (!(m.k == 2 || m.k == 3 || m.k == 6) || within m.v 1 2) && (!(m.k == 5) || (m.ob == -1 && m.ov == 0) || (Vt.ok ⟨m.ob, m.ov⟩))
def Msg.bare (m : Msg) : Msg :=
 ⟨m.k, m.to, if 3 ≤ m.k ∧ m.k ≤ 5 then m.fr else 0, m.c, if 2 ≤ m.k ∧ m.k ≤ 5 then m.s else 0, if 2 ≤ m.k ∧ m.k ≤ 5 then m.b else 0, if m.k = 2 ∨ m.k = 3 ∨ m.k = 6 then m.v else 0, if m.k = 5 then m.ob else 0, if m.k = 5 then m.ov else 0⟩
def Msg.same (m n : Msg) : Bool := m.k == n.k && m.to == n.to && m.fr == n.fr && m.c == n.c && m.s == n.s && m.b == n.b && m.v == n.v && m.ob == n.ob && m.ov == n.ov
def q08 (c : Clu) (m : Msg) : Int :=
 if !(within m.k 1 6) then 5 else if !(ends c m) then 3 else if (z0n c.cons m.c).isNone then 4 else if !(ranges c m) then 3 else if !(m.same m.bare) then 1 else 0
def y97 (c : Clu) (x : Con) : Bool := x.legs.any fun l => !(within l.s 0 ((c.shs.length : Int) - 1))
def z05 (c : Clu) (i : Nat) : Int := match c.cons[i]? with
 | some x => if zk x ≠ 0 then zk x else if y97 c x then 4 else if ahead (fun p x : Con => decide (p.id < x.id)) c.cons i x then 0 else 1
 | none => 0
def Con.same (a b : Con) : Bool := a.id == b.id && decide (a.legs = b.legs)
def z2s (c : Clu) (h : Con) : Bool := match z0n c.cons h.id with | some x => !(x.same h) | none => true
def q7f (c : Clu) (i : Nat) (s : Shd) : Int :=
 if yl s ≠ 0 then yl s
 else if s.idx ≠ i then 1
 else if (s.votes.any fun m => !(z0s c.cons m.c i)) || (s.done.any fun m => !(z0s c.cons m.c i)) then 1
 else if s.held.any (z2s c) then 1 else 0
def q1p (c : Clu) (i : Nat) : Int := match c.shs[i]? with | some s => q7f c i s | none => 0
def y7v (c : Clu) (a : Acc) : Int := if a.fault ≠ 0 then a.fault else if a.slots.any (fun s => !(z0s c.cons s.c s.s)) then 4 else 0
def q2a (c : Clu) (i : Nat) : Int := match c.accs[i]? with | some a => y7v c a | none => 0
def q0h (fr : List Int) (j : Nat) : Int := match fr[j]? with | some x => if (fr.take j).any (fun y => y == x) then 7 else 0 | none => 0
def Tr.lt (p x : Tr) : Bool := if p.c = x.c then decide (p.s < x.s) else decide (p.c < x.c)
def z1e (c : Clu) (p : Int) : Bool := !(within p 0 ((c.accs.length : Int) - 1))
def q0g (v : Vt) : Bool := !(v.b == -1 && v.v == 0) && !v.ok
def q5s (c : Clu) (t : Tr) : Int := if t.fr.any (z1e c) || t.olds.any q0g then 3 else scan (q0h t.fr) t.fr.length
def q4e (c : Clu) (ts : List Tr) (i : Nat) (t : Tr) : Int :=
 if !(z0s c.cons t.c t.s) then 4
 else if !(within t.b 1 1000 && within t.v 0 2) then 3
 else if !(ahead Tr.lt ts i t) || t.fr.length != t.olds.length then 1
 else q5s c t
def z2t (c : Clu) (ts : List Tr) (i : Nat) : Int := match ts[i]? with | some t => q4e c ts i t | none => 0
def Hd.cmp (p x : Hd) : Int := orr [y09 p.c x.c, y09 p.s x.s, y09 p.b x.b, y09 p.v x.v, y09 p.f x.f]
def Hd.lt (p x : Hd) : Bool := decide (Hd.cmp p x < 0)
def hdF (c : Clu) (ks : List Hd) (i : Nat) : Int := match ks[i]? with
 | some h => if !(z0s c.cons h.c h.s) then 4 else if !(within h.b 0 1000 && within h.v 1 2 && within h.f 0 ((c.accs.length : Int) - 1)) then 3 else if ahead Hd.lt ks i h then 0 else 1
 | none => 0
def z6d (c : Clu) (l : Ldr) : Int :=
 if !(within l.n 0 400) then 3 else if 60 < l.tries.length ∨ 300 < l.known.length then 2 else orr [scan (z2t c l.tries) l.tries.length, scan (hdF c l.known) l.known.length]
def z2j (c : Clu) (i : Nat) : Int := match c.ldrs[i]? with | some l => z6d c l | none => 0
def y43 (c : Clu) (i : Nat) : Int := match c.msgs[i]? with | some m => q08 c m | none => 0
def q0m (c : Clu) : Bool := decide (20 < c.cons.length) || !(within c.shs.length 1 3) || !(within c.accs.length 1 5) || c.ldrs.length != 2 || decide (200 < c.msgs.length)
def qw (c : Clu) : Int := if q0m c then 2 else orr [scan (z05 c) c.cons.length, scan (q1p c) c.shs.length, scan (q2a c) c.accs.length, scan (z2j c) c.ldrs.length, scan (y43 c) c.msgs.length]
end Go.Sx
end
section
namespace Go.Sx
theorem y4p {ls : List Leg} {x : Int} : x ∈ shF ls ↔ ∃ y ∈ ls, y.s = x := by
 unfold shF
 rw [y2j]
 simp
theorem y3n {ls : List Leg} (h : 0 < ls.length) : ∃ y, (shF ls)[(shF ls).length - 1]? = some y ∧ 0 < (shF ls).length ∧ (∃ l ∈ ls, l.s = y) ∧ ∀ l ∈ ls, l.s ≤ y := by
 obtain ⟨l0, hl0⟩ := gx h
 have hm : l0.s ∈ shF ls := y4p.2 ⟨l0, List.mem_of_getElem? hl0, rfl⟩
 have hp : 0 < (shF ls).length := List.length_pos_of_mem hm
 obtain ⟨y, hy⟩ := gx (xs := shF ls) (i := (shF ls).length - 1) (by omega)
 refine ⟨y, hy, hp, y4p.1 (List.mem_of_getElem? hy), fun l hl => ?_⟩
 obtain ⟨j, hj⟩ := List.mem_iff_getElem?.1 (y4p.2 ⟨l, hl, rfl⟩)
 obtain ⟨hj1, hj2⟩ := List.getElem?_eq_some_iff.1 hj
 obtain ⟨hy1, hy2⟩ := List.getElem?_eq_some_iff.1 hy
 rcases Nat.lt_or_ge j ((shF ls).length - 1) with h1 | h1
 · have := (List.pairwise_iff_getElem.1 (z59 ls)) j ((shF ls).length - 1) hj1 hy1 h1
   rw [hj2, hy2] at this
   omega
 · have e : j = (shF ls).length - 1 := by omega
   subst e
   rw [hj] at hy
   cases hy
   exact Int.le_refl _
theorem z77 {ls : List Leg} {y n : Int} (h0 : ∀ l ∈ ls, 0 ≤ l.s) (e : ∃ l ∈ ls, l.s = y) (hm : ∀ l ∈ ls, l.s ≤ y) : decide (y ≥ n) = ls.any fun l => !(within l.s 0 (n - 1)) := by
 rw [Bool.eq_iff_iff, decide_eq_true_eq, List.any_eq_true]
 constructor
 · intro h
   obtain ⟨l, hl, e⟩ := e
   exact ⟨l, hl, by simp [within]; omega⟩
 · rintro ⟨l, hl, h⟩
   have h1 := h0 l hl
   have h2 := hm l hl
   simp [within] at h
   omega
theorem z8u {x : Con} (h : zk x = 0) : ∀ l ∈ x.legs, 0 ≤ l.s := fun l hl => by
 have := (q0e h).2.2 l hl
 have h1 := (Leg.q03 this).1
 omega
theorem z2d {x : Con} (h : zk x = 0) : 0 < x.legs.length ∧ x.legs.length ≤ 8 := by
 have := (q0e h).2.1
 omega
def q5j (x : Con) : Int := ((shF x.legs)[(shF x.legs).length - 1]?).getD 0
theorem z42 {x : Con} (h : zk x = 0) : (ints (shF x.legs))[(IntKind.i64.wrap (((ints (shF x.legs)).length : Int) - 1)).toNat]? = some [i64 (q5j x)] := by
 obtain ⟨y, hy, hp, _⟩ := y3n (z2d h).1
 have hl := q1v x.legs x.legs.length
 rw [List.take_length] at hl
 have := (z2d h).2
 rw [show (ints (shF x.legs)).length = (shF x.legs).length by simp]
 unfold q5j
 rw [hy]
 exact z0v (fun n => [i64 n]) hp (by omega) hy
theorem q6c {x : Con} (h : zk x = 0) : 0 ≤ IntKind.i64.wrap (((ints (shF x.legs)).length : Int) - 1) := by
 obtain ⟨y, hy, hp, _⟩ := y3n (z2d h).1
 have hl := q1v x.legs x.legs.length
 rw [List.take_length] at hl
 have := (z2d h).2
 rw [show (ints (shF x.legs)).length = (shF x.legs).length by simp]
 exact z0d hp (by omega)
theorem y6c {x : Con} (h : zk x = 0) (c : Clu) : y97 c x = decide ((c.shs.length : Int) ≤ q5j x) := by
 unfold y97
 obtain ⟨y, hy, hp, e, hm⟩ := y3n (z2d h).1
 rw [← z77 (z8u h) (y := q5j x) (by unfold q5j; rw [hy]; exact e) (by unfold q5j; rw [hy]; exact hm)]
theorem z18 {s : Shd} (h : yl s = 0) : ∀ x ∈ s.held, zk x = 0 := by
 have : qm y0c s = 0 := by
  unfold yl y0q at h
  repeat' split at h
  all_goals first | omega | (simp_all; done)
 exact y3h this
theorem y3o {c : Clu} {i : Nat} {s : Shd} (h : yl s = 0) (hi : s.idx = i) : q7f c i s = if (s.votes.any fun m => !(z0s c.cons m.c i)) || (s.done.any fun m => !(z0s c.cons m.c i)) then 1 else if s.held.any (z2s c) then 1 else 0 := by
 unfold q7f
 rw [if_neg (by simpa using h), if_neg (by simpa using hi)]
end Go.Sx
end
section
namespace Go.Sx
theorem z0e {α β : Type} {us : List α} {i : Nat} {x : α} (f : β → α → β) (a : β) (h : us[i]? = some x) : (us.take (i + 1)).foldl f a = f ((us.take i).foldl f a) x := by
 rw [List.take_add_one, h, List.foldl_append]; rfl
def q0x (b : Int) (acc : Int) (l : Leg) : Int := if l.b == b then IntKind.i64.wrap (acc + (if l.v < 0 then -l.v else 0)) else acc
def z3h (b s : Int) (acc : Int) (h : Con) : Int := (qg h s).foldl (q0x b) acc
def z4l (b : Int) (acc : Int) (s : Shd) : Int := s.held.foldl (z3h b s.idx) acc
def y4l (c : Clu) (b : Int) : Int := c.shs.foldl (z4l b) 0
def yj (c : Clu) (b : Int) : Int × Int := if qw c ≠ 0 then (qw c, 0) else if !(within b 0 2) then (3, 0) else (0, y4l c b)
theorem z7o {c : Clu} (h : qw c = 0) : q0m c = false ∧ (∀ (i : Nat) (x : Con), c.cons[i]? = some x → zk x = 0) ∧ (∀ (i : Nat) (s : Shd), c.shs[i]? = some s → yl s = 0 ∧ s.idx = i) := by
 unfold qw at h
 split at h
 · omega
 · rename_i hm
   have h1 : scan (z05 c) c.cons.length = 0 := by
    unfold orr at h; split at h
    · rename_i h1; exact absurd h h1
    · rename_i h1; simpa using h1
   have h2 : scan (q1p c) c.shs.length = 0 := by
    unfold orr orr at h; rw [if_neg (by simpa using h1)] at h; split at h
    · rename_i h1; exact absurd h h1
    · rename_i h1; simpa using h1
   refine ⟨by simpa using hm, fun i x hx => ?_, fun i s hs => ?_⟩
   · have := q04 h1 i (List.getElem?_eq_some_iff.1 hx).1
     simp only [z05, hx] at this
     split at this
     · rename_i h3; exact absurd this h3
     · rename_i h3; simpa using h3
   · have := q04 h2 i (List.getElem?_eq_some_iff.1 hs).1
     simp only [q1p, hs, q7f] at this
     split at this
     · rename_i h3; exact absurd this h3
     · rename_i h3
       split at this
       · omega
       · rename_i h4; exact ⟨by simpa using h3, by simpa using h4⟩
theorem y42 {x : Con} (h : zk x = 0) {s : Int} : ∀ l ∈ qg x s, -1000000000000 ≤ l.v ∧ l.v ≤ 1000000000000 := fun l hl => by
 have := (Leg.q03 ((q0e h).2.2 l (List.mem_filter.1 hl).1)).2.2.2.1
 unfold Leg.small at this
 omega
end Go.Sx
end
