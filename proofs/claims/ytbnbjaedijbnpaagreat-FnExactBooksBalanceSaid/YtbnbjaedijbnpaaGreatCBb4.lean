/- WHAT IS PROVED: parts of the proof of fnExactBooksBalance_holds: a frame for walks, what each Go function that it reaches answers, and plain lemmas; no condition beyond those that each theorem names. -/
import Derived.Test.YtbnbjaedijbnpaaGreatCBb3
import Derived.WalkKit
import Derived.OrdersHeld
import Derived.DeepKeys
import Derived.Maps.RangeWalk
import Derived.Maps.OwnOps
import Derived.WideKeyEntry
import Derived.Deep.Slices
import Derived.ChangeArms
import Derived.WideShapes
import Derived.Sort.AssemblyPlain
import Derived.Lib.SlicesCompact
import Derived.WideKeyPair
set_option linter.unusedVariables false
set_option linter.unusedSimpArgs false
section
namespace Go.Sx
open Go.RowKit (Below)
section
variable {g : Bool} {P : Program} {F : TT} {σ : St} {o : Oper} {K : St → Prop}
theorem q2q {x : Operand} {f : AV → R} (h : (evR σ x f).holds P K) : ∃ av, ev σ x = some av ∧ (f av).holds P K := by
 unfold evR at h
 split at h
 · rename_i av hav; exact ⟨av, hav, h⟩
 · exact h.elim
theorem y3j {z : AV} (h : y77 z = true) : qab z := by cases z <;> first | trivial | cases h
theorem qal {z : AV} (h : y77 z = true) : (match (generalizing := false) z with | .tup _ => False | _ => True) := by cases z <;> first | trivial | cases h
theorem y3y {x : Option Operand} {r : Option Int} (h : q95 x σ = some r) : q2t x σ = some r := h
theorem z5n {x : Operand} {K' : AV → Prop} (h : (evR σ x fun av => y0n σ o.dst av).holds P K) (hK : ∀ av, K (σ.put o.dst av) → K' av) : evK σ x K' := by
 obtain ⟨av, h1, h2⟩ := q2q h
 unfold evK
 rw [h1]
 exact hK _ (y1f.1 h2)
theorem y98 {t : Nat} {av : AV} {f : Value → R} {K' : Value → Prop} (hF : F = F.map P) (hf : ∀ v, (f v).holds P K → K' v) (h : (zaj F σ t av f).holds P K) : yaj P t σ av K' := by
 unfold zaj at h
 split at h
 · obtain ⟨_, h1, h2⟩ := qf h; exact ⟨by rw [q0f hF h1]; rfl, hf _ h2⟩
 · obtain ⟨_, h1, h2⟩ := qf h; exact ⟨by rw [q0f hF h1]; rfl, hf _ h2⟩
 · obtain ⟨_, h1, h2⟩ := qf h; exact ⟨by rw [q0f hF h1]; rfl, hf _ h2⟩
 · obtain ⟨_, h1, h2⟩ := qf h; exact ⟨by rw [q0f hF h1]; rfl, hf _ h2⟩
 · obtain ⟨h1, h2⟩ := qa h; exact ⟨q3p hF h1, hf _ h2⟩
 · obtain ⟨_, h1, h2⟩ := qf h
   refine ⟨by rw [q0f hF h1]; rfl, ?_⟩
   split at h2
   · rename_i full sz ep rows hg
     obtain ⟨h3, row, h4, h5⟩ := h2
     rw [hg]
     refine ⟨h3, ?_⟩
     rw [h4]
     dsimp only at h5 ⊢
     split at h5
     · rename_i rs hrs; rw [z2d] at hrs; rw [hrs]; exact hf _ h5
     · exact h5.elim
   · exact h2.elim
 · exact h.elim
theorem zak {av : AV} {ag : Bool} {n : Nat} (h : (z5m σ av fun cs => (match ag with
 | true => yo (q38 n cs) (q0d (force (cs.take n)) fun cs => y0n σ o.dst (.agg cs))
 | false => (match cs with | [] => .fail | c :: _ => y0n σ o.dst (.one c)))).holds P K) : z1j σ av fun cs => match y3i ag n cs with | some r => K (σ.put o.dst r) | none => False := by
 refine y6q (fun cs h => ?_) h
 split at h
 · obtain ⟨h1, h2⟩ := qa h
   obtain ⟨cs', h3, h4⟩ := qf h2
   rw [force_eq h3] at h4
   simp only [y3i, if_true, if_pos (z0q h1)]
   exact y1f.1 h4
 · split at h
   · exact h.elim
   · exact y1f.1 h
theorem yes {av : AV} (h : (y0n σ o.dst av).holds P K) : K (σ.put o.dst av) := y1f.1 h
theorem q7m {d : Option Tmp} {cs : List AC} (h : (yad σ d cs).holds P K) : y16 σ d cs K := by
 unfold yad at h
 unfold y16
 split at h
 · split at h
   · rename_i hn; dsimp only; rw [hn]; exact zw h
   · exact h.elim
 · exact h.elim
theorem q98 (hF : F = F.map P) {t n : Nat} {ps : List (Nat × Operand)} {d : Option Tmp} (h : (qaj F σ t n ps d).holds P K) : za0 P σ t n ps d K := by
 unfold qaj at h
 unfold za0
 split at h
 · rename_i d sz by_ rws h1 h2
   rw [qy hF h1, q2w h2]
   dsimp only
   split at h
   · rename_i hn
     rw [hn]
     dsimp only
     obtain ⟨g1, h⟩ := qa h
     obtain ⟨g2, h⟩ := qa h
     obtain ⟨g3, h⟩ := qa h
     obtain ⟨g4, h⟩ := qa h
     obtain ⟨g5, h⟩ := qa h
     obtain ⟨g6, h⟩ := h
     obtain ⟨rs, g7, h⟩ := qf h
     rw [z3w] at g4 g5
     have h := zw h
     rw [z3w, y2k, z5q g7] at h
     rw [y2k] at g6
     exact ⟨q0w g1, Nat.le_of_ble_eq_true g2, q4c g3, z1 g4, z2l (y2w g5), g6, h⟩
   · exact h.elim
 · exact h.elim
theorem y99 (hF : F = F.map P) {t : Nat} {l c : Operand} {d : Option Tmp} (h : (yak F σ t l c d).holds P K) : y75 P σ t l c d K := by
 unfold yak at h
 unfold y75
 split at h
 · rename_i d sz by_ zrow k n k' n' h1 h2 h3 h4
   rw [qy hF h1, q6j hF h2, h3, h4]
   dsimp only
   split at h
   · rename_i hn
     rw [hn]
     dsimp only
     obtain ⟨g1, g2, g3, g4, g5, h⟩ := qa h
     exact ⟨g2, g3, g4, g5, q0w g1, zw h⟩
   · exact h.elim
 · exact h.elim
theorem q7g (hF : F = F.map P) {t : Nat} {β m i k : Nat} {x : AV} (h : (y4t F σ t (.one (.e β m i k)) x).holds P K) : q4s P σ t (.one (.e β m i k)) x K := by
 unfold y4t at h
 unfold q4s
 split at h
 · rename_i n β m i k x h1 he
   cases he
   rw [y2h hF h1]
   dsimp only
   split at h
   · rename_i full sz ep rows hg
     rw [hg]
     dsimp only
     obtain ⟨g1, h⟩ := qa h
     obtain ⟨g2, h⟩ := qa h
     obtain ⟨g3, h⟩ := qa h
     obtain ⟨g4, h⟩ := qa h
     obtain ⟨g5, row, g6, g7, g8, h⟩ := h
     obtain ⟨xs, g9, h⟩ := qf h
     have h := zw h
     rw [z3w] at g3 g4 h
     rw [z41 g9] at h
     refine ⟨g5, ?_⟩
     rw [g6]
     refine ⟨q0w g2, ?_, g7, z1 g3, z2l (y2w g4), g8, h⟩
     exact qal g1
   · exact h.elim
 · rename_i he; cases he
 · rename_i he; cases he
 · exact h.elim
theorem z7h (hF : F = F.map P) {t : Nat} {p x : AV} (hne : ∀ β m i k, p ≠ .one (.e β m i k)) (h : (y4t F σ t p x).holds P K) : z4t P σ t p x K := by
 unfold y4t at h
 unfold z4t
 split at h
 · exact absurd rfl (hne _ _ _ _)
 · rename_i β off c h1
   split at h
   · rename_i cs hg
     simp only [y2h hF h1, hg]
     obtain ⟨g1, h⟩ := qa h
     obtain ⟨cs', g2, h⟩ := qf h
     rw [force_eq g2] at h
     exact ⟨z0q g1, zw h⟩
   · exact h.elim
 · rename_i n β off xs h1
   split at h
   · rename_i cs hg
     simp only [y2h hF h1, hg]
     obtain ⟨g0, h⟩ := qa h
     obtain ⟨g1, h⟩ := qa h
     obtain ⟨cs', g2, h⟩ := qf h
     rw [force_eq g2] at h
     exact ⟨q0w g0, z0q g1, zw h⟩
   · exact h.elim
 · exact h.elim
theorem z7v (hF : F = F.map P) {c : Call} (ho : o.op = .call c) (h : (q8x g F σ o c).holds P K) : opL g P σ o K := by
 unfold q8x at h
 split at h
 · rename_i hc
   simp only [opL, ho, hc, opY]
   split at h
   · rename_i t _ x ht hx
     obtain ⟨av, h1, h2⟩ := q2q h
     rw [ht, hx]
     simp only [evK, h1]
     exact y98 hF (fun v hv => yes hv) h2
   · exact h.elim
 · rename_i hc
   simp only [opL, ho, hc]
   split at h
   · rename_i t tx s x d ht hx hd
     unfold za9
     rw [ht, hx, hd]
     dsimp only
     split at h
     · rename_i sz by_ p β n γ m e1 e2 e3 e4
       rw [qy hF e1, qy hF e2, e3, e4]
       dsimp only
       split at h
       · rename_i full0 sz0 ep rows0 full sz1 ep1 rows e5 e6
         rw [e5, e6]
         dsimp only
         obtain ⟨g1, h⟩ := qa h
         obtain ⟨g2, h⟩ := qa h
         obtain ⟨g3, h⟩ := qa h
         obtain ⟨g4, g5, g6, g7, g8, h⟩ := h
         exact ⟨g4, g5, Nat.eq_of_beq_eq_true g1, Nat.eq_of_beq_eq_true g2, g6, Nat.ne_of_beq_eq_false (y2w g3), g7, g8, zw h⟩
       · exact h.elim
     · rename_i sz by_ p β n rows e1 e2 e3 e4
       rw [qy hF e1, qy hF e2, e3, e4]
       dsimp only
       split at h
       · rename_i full0 sz0 ep rows0 e5
         rw [e5]
         dsimp only
         obtain ⟨g1, h⟩ := qa h
         obtain ⟨g4, g5, g6, g7, g8, h⟩ := h
         exact ⟨g4, Nat.eq_of_beq_eq_true g1, g5, g6, g7, g8, zw h⟩
       · exact h.elim
     · rename_i sz by_ p γ m e1 e2 e3 e4
       rw [qy hF e1, qy hF e2, e3, e4]
       dsimp only
       split at h
       · rename_i full sz1 ep1 rows e5 e6
         rw [e5, e6]
         dsimp only
         obtain ⟨g1, h⟩ := qa h
         obtain ⟨g2, h⟩ := qa h
         obtain ⟨g4, g5, g6, h⟩ := h
         exact ⟨g4, Nat.eq_of_beq_eq_true g1, Nat.ne_of_beq_eq_false (y2w g2), g5, g6, zw h⟩
       · exact h.elim
     · rename_i sz by_ p γ m e1 e2 e3 e4
       rw [qy hF e1, qy hF e2, e3, e4]
       dsimp only
       split at h
       · rename_i full sz1 ep1 rows e5 e6
         rw [e5, e6]
         dsimp only
         obtain ⟨g1, h⟩ := qa h
         obtain ⟨g2, h⟩ := qa h
         obtain ⟨g4, g5, g6, h⟩ := h
         exact ⟨g4, Nat.eq_of_beq_eq_true g1, Nat.ne_of_beq_eq_false (y2w g2), g5, g6, zw h⟩
       · exact h.elim
     · rename_i sz by_ p rows e1 e2 e3 e4
       rw [qy hF e1, qy hF e2, e3, e4]
       dsimp only
       split at h
       · rename_i e5
         rw [e5]
         dsimp only
         obtain ⟨g4, g5, g6, g7, h⟩ := h
         exact ⟨g4, g5, g6, g7, zw h⟩
       · exact h.elim
     · rename_i sz by_ p rows e1 e2 e3 e4
       rw [qy hF e1, qy hF e2, e3, e4]
       dsimp only
       split at h
       · rename_i e5
         rw [e5]
         dsimp only
         obtain ⟨g4, g5, g6, g7, h⟩ := h
         exact ⟨g4, g5, g6, g7, zw h⟩
       · exact h.elim
     · exact h.elim
   · exact h.elim
 · rename_i x hc
   simp only [opL, ho, hc]
   split at h
   · rename_i f caps avs e1 e2
     rw [e1, e2]
     obtain ⟨avs', h1, h2⟩ := qf h
     rw [force_eq h1] at h2
     exact h2
   · rename_i f caps avs e1 e2
     rw [e1, e2]
     obtain ⟨avs', h1, h2⟩ := qf h
     rw [force_eq h1] at h2
     exact h2
   · rename_i f β off avs e1 e2
     rw [e1, e2]
     exact h
   · rename_i f ag row avs e1 e2
     rw [e1, e2]
     exact h
   · exact h.elim
 · rename_i hc
   simp only [opL, ho, hc, opY]
   split at h
   · rename_i x y hx
     rw [hx]
     dsimp only
     split at h
     · rename_i e1 e2; rw [e1, e2]; exact yes h
     · exact h.elim
   · rename_i x y z t hx
     rw [hx]
     dsimp only
     split at h
     · rename_i e1 e2 e3 e4; rw [e1, e2, e3, e4]; exact yes h
     · exact h.elim
   · exact h.elim
 · rename_i hc
   simp only [opL, ho, hc, opY]
   split at h
   · rename_i x y hx
     rw [hx]
     dsimp only
     split at h
     · rename_i e1 e2; rw [e1, e2]; exact yes h
     · exact h.elim
   · exact h.elim
 · exact h
theorem z8p (hF : F = F.map P) (h : (opR g F σ o).holds P K) : opL g P σ o K := by
 unfold opR at h
 split at h
 case h_1 x ho => simp only [opL, ho, opY]; exact z5n h (fun _ hk => hk)
 case h_2 x ho => simp only [opL, ho, opY]; exact z5n h (fun _ hk => hk)
 case h_3 c x y ho =>
  simp only [opL, ho, opY]
  split at h
  · rename_i t ht
    rw [ht]
    exact ⟨fun hb => z5n (x := if (true : Bool) then x else y) (h.1 hb) (fun _ hk => hk), fun hb => z5n (x := if (false : Bool) then x else y) (h.2 hb) (fun _ hk => hk)⟩
  · exact h.elim
 case h_4 t x ho =>
  simp only [opL, ho, opY]
  split at h
  · rename_i av ag n h1 h2
    rw [h1, y2h hF h2]
    exact zak h
  · exact h.elim
 case h_5 op t x y yt ho =>
  split at h
  · rename_i p q h1 h2
    simp only [opL, ho, opY, h1, h2]
    obtain ⟨g1, h⟩ := qa h
    refine ⟨z7q hF g1, ?_⟩
    unfold z6p
    split at h
    · exact yes h
    · exact yes h
    · exact h.elim
  · rename_i u v hne h1 h2
    simp only [opL, ho, opY]
    split
    · rename_i e1 e2
      rw [h1] at e1; rw [h2] at e2
      cases e1; cases e2
      exact (hne _ _ rfl rfl).elim
    · rename_i u' v' _ e1 e2
      rw [h1] at e1; rw [h2] at e2
      cases e1; cases e2
      exact z8x (fun v hv => yes hv) h
    · rename_i e1 e2
      rw [h1] at e1
      cases e1
    · rename_i e1 e2
      rw [h1] at e1
      cases e1
    · rename_i _ hx _ _
      exact (hx _ _ h1 h2).elim
  · rename_i rows h1 h2
    simp only [opL, ho, opY, h1, h2]
    obtain ⟨sz, g1, h⟩ := qf h
    obtain ⟨e, _, g2, _⟩ := z0p (q0f hF g1)
    refine ⟨⟨e, g2⟩, fun b hb => ?_⟩
    split at h
    · exact yes (h b hb)
    · exact yes (h b hb)
    · exact h.elim
  · rename_i cs cs' h1 h2
    simp only [opL, ho, opY, h1, h2]
    obtain ⟨ks, g1, h⟩ := qf h
    obtain ⟨xs, g2, h⟩ := qf h
    obtain ⟨ys, g3, h⟩ := qf h
    obtain ⟨g4, h⟩ := qa h
    obtain ⟨g5, h⟩ := qa h
    simp only [z8v, y7q hF g1, g2, g3]
    refine ⟨y2s g4, y2s g5, ?_⟩
    split at h
    · exact yes h
    · exact yes h
    · exact h.elim
  · exact h
 case h_6 op t x ho =>
  simp only [opL, ho, opY]
  split at h
  · rename_i b hb; rw [hb]; exact yes h
  · rename_i k n hn; rw [hn]; exact yes h
  · exact h.elim
 case h_7 s d x ho =>
  split at h
  · rename_i k0 n k h1 h2
    simp only [opL, ho, opY, h1, y8s hF h2]
    obtain ⟨g1, h⟩ := qa h
    exact ⟨z7r hF g1, yes h⟩
  · exact h
 case h_8 s x f ho =>
  simp only [opL, ho, opY]
  split at h
  · rename_i row off h1 h2
    rw [h1, z2n hF h2]
    obtain ⟨g1, h⟩ := qa h
    obtain ⟨r, g2, h⟩ := qf h
    rw [force_eq g2] at h
    exact ⟨z0q g1, yes h⟩
  · rename_i β i off h1 h2
    rw [h1, z2n hF h2]; exact yes h
  · rename_i β m i k off h1 h2
    rw [h1, z2n hF h2]; exact yes h
  · exact h.elim
 case h_9 s x f ho =>
  simp only [opL, ho, opY]
  split at h
  · rename_i cs off n h1 h2
    rw [h1, z2h hF h2]
    obtain ⟨g1, h⟩ := qa h
    obtain ⟨r, g2, h⟩ := qf h
    rw [force_eq g2] at h
    exact ⟨z0q g1, yes h⟩
  · rename_i cs off n h1 h2
    rw [h1, z2h hF h2]
    obtain ⟨c, g2, h⟩ := qf h
    rw [z2d] at g2
    dsimp only
    rw [g2]
    exact yes h
  · exact h.elim
 case h_10 t x i ho =>
  split at h
  · rename_i rows k n sz h1 h2 h3
    simp only [opL, ho, opY, h1, h2, q0f hF h3]
    obtain ⟨g1, row, g2, g3, h⟩ := h
    refine ⟨g1, ?_⟩
    rw [g2]
    exact ⟨g3, yes h⟩
  · rename_i β m k n sz h1 h2 h3
    simp only [opL, ho, opY, h1, h2, q0f hF h3]
    split at h
    · rename_i full sz0 ep rows hg
      rw [hg]
      obtain ⟨g0, g1, row, g2, g3, h⟩ := h
      refine ⟨g0, g1, ?_⟩
      rw [g2]
      exact ⟨g3, yes h⟩
    · exact h.elim
  · exact h
 case h_11 t x i ho =>
  simp only [opL, ho, opY]
  split at h
  · rename_i s k n h1 h2
    rw [h1, h2]
    obtain ⟨g1, h⟩ := qa h
    obtain ⟨g2, b, g3, h⟩ := h
    refine ⟨q3p hF g1, g2, ?_⟩
    rw [g3]
    exact yes h
  · exact h.elim
 case h_12 t x lo hi ho =>
  split at h
  · rename_i s l hh h1 h2 h3
    simp only [opL, ho, opY, h1, y3y h2, y3y h3]
    obtain ⟨g1, g2, g3, g4, h⟩ := qa h
    exact ⟨q3p hF g1, g2, g3, g4, yes h⟩
  · rename_i rows l hh h1 h2 h3
    simp only [opL, ho, opY, h1, y3y h2, y3y h3]
    obtain ⟨sz, g0, g1, g2, g3, g4, h⟩ := qf h
    rw [q0f hF g0]
    exact ⟨g1, g2, g3, g4, yes h⟩
  · exact h
 case h_13 x i ho =>
  simp only [opL, ho, opY]
  split at h
  · rename_i vs h1
    obtain ⟨av, g1, h⟩ := qf h
    rw [z2d] at g1
    rw [h1]
    dsimp only
    rw [g1]
    exact yes h
  · exact h.elim
 case h_14 f first caps ho =>
  simp only [opL, ho, opY]
  split at h
  · rename_i x hf hc
    rw [hf, hc]
    dsimp only
    split at h
    · rename_i e1; rw [e1]; exact yes h
    · rename_i e1; rw [e1]; exact yes h
    · rename_i cs e1
      rw [e1]
      obtain ⟨l, g1, h⟩ := qf h
      dsimp only
      rw [g1]
      exact yes h
    · exact h.elim
  · rename_i hf
    rw [hf]
    dsimp only
    cases hcs : z5z σ caps.toList with
    | some cs =>
      rw [hcs] at h
      have e := (q3r (σ := σ) (l := caps.toList)).symm.trans hcs
      split
      · rename_i cs' h'
        have := h'.symm.trans e
        cases this
        exact yes h
      · rename_i h'
        have := h'.symm.trans e
        cases this
    | none =>
      rw [hcs] at h
      obtain ⟨cs, g1, h⟩ := qf h
      have e := (q3r (σ := σ) (l := caps.toList)).symm.trans hcs
      have e2 := q5l g1
      split
      · rename_i cs' h'
        have := h'.symm.trans e
        cases this
      · split
        · rename_i cs' h'
          have := h'.symm.trans e2
          cases this
          exact yes h
        · rename_i h'
          have := h'.symm.trans e2
          cases this
  · exact h.elim
 case h_15 t ps ho =>
  cases g1 : q4y F t with
  | none => rw [g1] at h; exact h
  | some z =>
    rw [g1] at h
    simp only [opL, ho, opY]
    obtain ⟨cs, g2, h⟩ := qf h
    rw [z5w hF g1]
    dsimp only
    rw [y3v hF g2]
    exact yes h
 case h_16 e ho =>
  simp only [opL, ho]
  split at h
  · rename_i z hz
    obtain ⟨g1, h⟩ := qa h
    rw [y6j hF hz]
    exact ⟨y3j g1, q7m h⟩
  · exact h.elim
 case h_17 e x ho =>
  simp only [opL, ho]
  split at h
  · rename_i z hz
    obtain ⟨g1, h⟩ := qa h
    rw [hz]
    exact ⟨y3j g1, q7m h⟩
  · exact h.elim
 case h_18 t p x ho =>
  simp only [opL, ho]
  split at h
  · rename_i pv xv hd h1 h2
    refine ⟨hd, ?_⟩
    rw [h1, h2]
    split
    · rename_i e1 e2; cases e1; cases e2; exact q7g hF h
    · rename_i pv' xv' hne e1 e2
      cases e1; cases e2
      exact z7h hF (fun β m i k e => hne β m i k e) h
    · rename_i hx; exact (hx _ _ rfl rfl).elim
  · exact h.elim
 case h_19 t n ps ho => simp only [opL, ho]; exact q98 hF h
 case h_20 t l c ho => simp only [opL, ho]; exact y99 hF h
 case h_21 c ho => exact z7v hF ho h
 case h_22 x ho =>
  simp only [opL, ho, opY]
  obtain ⟨av, g1, h⟩ := q2q h
  rw [g1]
  split at h
  · exact yes h
  · exact yes h
  · exact yes h
  · exact h.elim
 case h_23 => exact h
end
end Go.Sx
end
section
namespace Go.Sx
open Go.RowKit (Below)
inductive Fr where
 | ops (ops : Array Oper) (l : List Oper)
 | op1 (g : Bool) (o : Oper)
 | r (r : R)
 | code (c : Code)
 | blk (id : Nat)
 | lp (J : St → Prop)
 | plan (ops : Array Oper) (LC : List Nat) (p : y5w)
def G (P : Program) (Q : Ex → St → Prop) : List Fr → Option Nat → St → Prop
 | [], none, σ => Q .normal σ
 | [], some i, σ => Q (.exit i) σ
 | .blk j :: st, some i, σ => if i = j then G P Q st none σ else G P Q st (some i) σ
 | _ :: st, some i, σ => G P Q st (some i) σ
 | .ops ops l :: st, none, σ => z9e P ops l σ (G P Q st none)
 | .op1 g o :: st, none, σ => opL g P σ o (G P Q st none)
 | .r r :: st, none, _ => r.holds P (G P Q st none)
 | .code c :: st, none, σ => vc P c (fun e σ => match e with | .normal => G P Q st none σ | .exit i => G P Q st (some i) σ | .ret => Q .ret σ) σ
 | .blk _ :: st, none, σ => G P Q st none σ
 | .lp J :: _, none, σ => J σ
 | .plan ops LC p :: st, none, σ => q2x LC P ops p σ (G P Q st none)
inductive T where
 | go (st : List Fr) (σ : St)
 | br (t : Bool) (st : List Fr) (σ : St) (st' : List Fr) (σ' : St)
 | side (p : Prop) (st : List Fr) (σ : St)
 | any (q : Bool → Prop) (f : Bool → R) (st : List Fr)
 | row (rows : List (List Cell)) (i : Nat) (f : List Cell → R) (st : List Fr)
 | byte (s : ByteArray) (i : Nat) (f : UInt8 → R) (st : List Fr)
 | call (g : Bool) (σ : St) (d : Option Tmp) (f : Nat) (avs : List AV) (st : List Fr)
 | raw (g : Bool) (σ : St) (o : Oper) (st : List Fr)
 | loop (b : Code) (st : List Fr) (σ : St)
 | cont (J : St → Prop) (σ : St)
 | draw (id : Nat) (ops : Array Oper) (st : List Fr) (σ : St)
 | both (st st' : List Fr) (σ : St)
 | yes
 | fin (e : Ex) (σ : St)
 | fail
def T.holds (P : Program) (Q : Ex → St → Prop) : T → Prop
 | .go st σ => G P Q st none σ
 | .br t st σ st' σ' => (t = true → G P Q st none σ) ∧ (t = false → G P Q st' none σ')
 | .side p st σ => p ∧ G P Q st none σ
 | .any q f st => ∀ b, q b → (f b).holds P (G P Q st none)
 | .row rows i f st => ∃ row, rows[i]? = some row ∧ (f row).holds P (G P Q st none)
 | .byte s i f st => ∃ b, s[i]? = some b ∧ (f b).holds P (G P Q st none)
 | .call g σ d f avs st => y3o P σ d f avs (G P Q st none) ∨ (g = true ∧ z3o P σ d f avs (G P Q st none))
 | .raw g σ o st => opL g P σ o (G P Q st none)
 | .loop b st σ => vc P (.loop b) (fun e σ => match e with | .normal => G P Q st none σ | .exit i => G P Q st (some i) σ | .ret => Q .ret σ) σ
 | .cont J σ => J σ
 | .draw id ops st σ => vc P (.region id ops true) (fun e σ => match e with | .normal => G P Q st none σ | .exit i => G P Q st (some i) σ | .ret => Q .ret σ) σ
 | .both st st' σ => G P Q st none σ ∧ G P Q st' none σ
 | .yes => True
 | .fin e σ => Q e σ
 | .fail => False
def z7a (i : Nat) : List Fr → Option (List Fr)
 | [] => none
 | .blk j :: st => bif Nat.beq i j then some st else z7a i st
 | _ :: st => z7a i st
def qaf (σ : St) (d : Option Tmp) : St := match σ, d with
 | ⟨t, b⟩, some d => ⟨(d, .tup []) :: t, b⟩
 | σ, none => σ
def skR (σ : St) (d : Option Tmp) : R := match qaf σ d with | ⟨t, b⟩ => (match force t with | some t => .ok ⟨t, b⟩ | none => .fail)
theorem z30 {P : Program} {σ : St} {d : Option Tmp} {K : St → Prop} (h : (skR σ d).holds P K) : K (qaf σ d) := by
 unfold skR at h
 split at h
 rename_i t b e
 split at h
 · rename_i t' ht; rw [force_eq ht] at h; rw [e]; exact h
 · exact h.elim
def z3k (g : Bool) (F : TT) (ops : Array Oper) (o : Oper) (st : List Fr) (σ : St) : T := match o.guard with
    | none => .go (.r (opR g F σ o) :: st) σ
    | some (j, want) => (match nth ops.toList j with
      | some o' => (match o'.dst with
        | some d => (match get σ.t d with
          | some (.one (.b (.s (.bool t)))) => (match want with
            | true => .br t (.op1 g o :: st) (z38 σ (.tmp d) true) (.r (skR (z38 σ (.tmp d) false) o.dst) :: st) ⟨[], []⟩
            | false => .br t (.r (skR (z38 σ (.tmp d) true) o.dst) :: st) ⟨[], []⟩ (.op1 g o :: st) (z38 σ (.tmp d) false))
          | some (.tup []) => .go (.r (skR σ o.dst) :: st) ⟨[], []⟩
          | _ => .fail)
        | none => .fail)
      | none => .fail)
def step (F : TT) : List Fr → St → T
 | [], σ => .fin .normal σ
 | .ops _ [] :: st, σ => .go st σ
 | .ops ops (o :: l) :: st, σ => z3k true F ops o (.ops ops l :: st) σ
 | .op1 g o :: st, σ => .go (.r (opR g F σ o) :: st) σ
 | .r r :: st, σ => (match r with
   | .fail => .fail
   | .ok σ => .go st σ
   | .side p r => .side p (.r r :: st) σ
   | .br t r r' => .br t (.r r :: st) σ (.r r' :: st) σ
   | .any q f => .any q f st
   | .row rows i f => .row rows i f st
   | .byte s i f => .byte s i f st
   | .call g σ d f avs => .call g σ d f avs st
   | .raw g σ o => .raw g σ o st)
 | .code c :: st, σ => (match c with
   | .skip => .go st σ
   | .region id ops draw => (match draw with | true => .draw id ops st σ | false => .go (.ops ops ops.toList :: st) σ)
   | .seq x y => .go (.code x :: .code y :: st) σ
   | .cond c x y => (match ev σ c with
     | some (.one (.b (.s (.bool t)))) => .br t (.code x :: st) (z38 σ c true) (.code y :: st) (z38 σ c false)
     | _ => .fail)
   | .block id b => .go (.code b :: .blk id :: st) σ
   | .loop b => .loop b st σ
   | .exit id => (match z7a id st with | some st => .go st σ | none => .fail)
   | .ret => .fin .ret σ
   | _ => .fail)
 | .blk _ :: st, σ => .go st σ
 | .lp J :: _, σ => .cont J σ
 | .plan ops LC p :: st, σ => (match p with
   | .done => .go st σ
   | .nil => .yes
   | .take i _ p => (match nth ops.toList i with | some o => z3k (LC.contains i) F ops o (.plan ops LC p :: st) σ | none => .fail)
   | .alt i p .nil => (match nth ops.toList i with | some o => z3k (LC.contains i) F ops o (.plan ops LC p :: st) σ | none => .fail)
   | .alt i p q => .both (.plan ops LC (.alt i p .nil) :: st) (.plan ops LC q :: st) σ)
def exec : Nat → TT → List Fr → St → T
 | 0, _, st, σ => .go st σ
 | n + 1, F, st, σ => match step F st σ with
   | .go st σ => exec n F st σ
   | t => t
section
variable {P : Program} {F : TT} {Q : Ex → St → Prop}
theorem z18 {i : Nat} {σ : St} : ∀ {st st' : List Fr}, z7a i st = some st' → G P Q st' none σ → G P Q st (some i) σ
 | [], st', h, _ => by cases h
 | .blk j :: st, st', h, hg => by
   rw [z7a] at h
   rw [G]
   by_cases hij : i = j
   · subst hij; simp only [Nat.beq_refl, cond_true, Option.some.injEq] at h; subst h; rw [if_pos rfl]; exact hg
   · rw [beq_false hij] at h; rw [if_neg hij]; exact z18 h hg
 | .ops _ _ :: st, st', h, hg => z18 (st := st) h hg
 | .op1 _ _ :: st, st', h, hg => z18 (st := st) h hg
 | .r _ :: st, st', h, hg => z18 (st := st) h hg
 | .code _ :: st, st', h, hg => z18 (st := st) h hg
 | .lp _ :: st, st', h, hg => z18 (st := st) h hg
 | .plan _ _ _ :: st, st', h, hg => z18 (st := st) h hg
theorem q4n {g : Bool} (hF : F = F.map P) {ops : Array Oper} {o : Oper} {st : List Fr} {σ : St} (h : (z3k g F ops o st σ).holds P Q) : q3f ops σ o (fun σ => opL g P σ o (G P Q st none)) (fun σ => y5d σ o.dst (G P Q st none)) := by
 simp only [z3k] at h
 unfold q3f
 split at h
 · rename_i hg; rw [hg]; exact z8p hF h
 · rename_i j want hg
   rw [hg]
   dsimp only
   split at h
   · rename_i o' ho'
     rw [z2d, Array.getElem?_toList] at ho'
     split at h
     · rename_i d hd
       rw [ho']
       simp only [Option.bind_some, hd]
       split at h
       · rename_i t ht
         rw [ht]
         dsimp only
         have hsk : ∀ (σ0 : St) (K : St → Prop), K (qaf σ0 o.dst) → y5d σ0 o.dst K := fun σ0 K hk => by
          unfold y5d
          cases σ0 with
          | mk t0 b0 =>
          cases hdd : o.dst with
          | none => rw [hdd] at hk; exact hk
          | some d0 =>
            rw [hdd] at hk
            exact hk
         cases σ with
         | mk t0 b0 =>
         split at h
         · obtain ⟨h1, h2⟩ := h
           exact ⟨fun hb => by simp only [beq_self_eq_true, if_true]; exact h1 hb, fun hb => by
            have : ¬ ((false == true) = true) := by decide
            dsimp only; rw [if_neg this]; exact hsk _ _ (z30 (h2 hb))⟩
         · obtain ⟨h1, h2⟩ := h
           exact ⟨fun hb => by
            have : ¬ ((true == false) = true) := by decide
            dsimp only; rw [if_neg this]; exact hsk _ _ (z30 (h1 hb)), fun hb => by simp only [beq_self_eq_true, if_true]; exact h2 hb⟩
       · rename_i ht
         rw [ht]
         have h' := z30 (P := P) (K := G P Q st none) h
         unfold y5d
         cases σ with
         | mk t0 b0 =>
         cases hdd : o.dst with
         | none => rw [hdd] at h'; exact h'
         | some d0 => rw [hdd] at h'; exact h'
       · exact h.elim
     · exact h.elim
   · exact h.elim
theorem q9g (hF : F = F.map P) {st : List Fr} {σ : St} (h : (step F st σ).holds P Q) : G P Q st none σ := by
 cases st with
 | nil => exact h
 | cons f st =>
   cases f with
   | ops ops l =>
     cases l with
     | nil => exact h
     | cons o l =>
       exact q4n (st := .ops ops l :: st) hF h
   | op1 g o => exact z8p hF h
   | r r => cases r <;> exact h
   | code c =>
     cases c with
     | skip => exact h
     | region id ops draw =>
       cases draw with
       | true => exact h
       | false => exact h
     | seq x y =>
       have e : (fun (e : Ex) (σ : St) => match e with | .normal => G P Q (.code y :: st) none σ | .exit i => G P Q (.code y :: st) (some i) σ | .ret => Q .ret σ) =
        (fun e σ => match e with | .normal => vc P y (fun e σ => match e with | .normal => G P Q st none σ | .exit i => G P Q st (some i) σ | .ret => Q .ret σ) σ | .exit i => G P Q st (some i) σ | .ret => Q .ret σ) := by
        funext e σ; cases e <;> rfl
       have h' : vc P x (fun (e : Ex) (σ : St) => match e with | .normal => G P Q (.code y :: st) none σ | .exit i => G P Q (.code y :: st) (some i) σ | .ret => Q .ret σ) σ := h
       rw [e] at h'
       exact .inl h'
     | cond c x y =>
       simp only [step] at h
       simp only [G, vc]
       split at h
       · rename_i t ht; rw [ht]; exact h
       · exact h.elim
     | block id b =>
       have e : (fun (e : Ex) (σ : St) => match e with | .normal => G P Q (.blk id :: st) none σ | .exit i => G P Q (.blk id :: st) (some i) σ | .ret => Q .ret σ) =
        (fun e σ => match e with | .normal => G P Q st none σ | .exit i => if i = id then G P Q st none σ else G P Q st (some i) σ | .ret => Q .ret σ) := by
        funext e σ; cases e <;> rfl
       have h' : vc P b (fun (e : Ex) (σ : St) => match e with | .normal => G P Q (.blk id :: st) none σ | .exit i => G P Q (.blk id :: st) (some i) σ | .ret => Q .ret σ) σ := h
       rw [e] at h'
       exact h'
     | loop b => exact h
     | exit id =>
       simp only [step] at h
       split at h
       · rename_i st' hp; exact z18 hp h
       · exact h.elim
     | ret => exact h
     | _ => exact h.elim
   | blk id => exact h
   | lp J => exact h
   | plan ops LC p =>
     have one : ∀ {i : Nat} {p' : y5w}, (match nth ops.toList i with | some o => z3k (LC.contains i) F ops o (.plan ops LC p' :: st) σ | none => .fail).holds P Q → y9b LC P ops i σ (fun σ => q2x LC P ops p' σ (G P Q st none)) := fun {i p'} h => by
      unfold y9b
      split at h
      · rename_i o ho
        rw [z2d, Array.getElem?_toList] at ho
        rw [ho]
        exact q4n (st := .plan ops LC p' :: st) hF h
      · exact h.elim
     cases p with
     | done => exact h
     | nil => trivial
     | take i W p => exact one h
     | alt i p q =>
       cases q with
       | nil => exact ⟨one h, trivial⟩
       | done => exact ⟨h.1.1, h.2⟩
       | take _ _ _ => exact ⟨h.1.1, h.2⟩
       | alt _ _ _ => exact ⟨h.1.1, h.2⟩
theorem y6v (hF : F = F.map P) : ∀ {n : Nat} {st : List Fr} {σ : St}, (exec n F st σ).holds P Q → G P Q st none σ
 | 0, _, _, h => h
 | n + 1, st, σ, h => by
   refine q9g hF ?_
   rw [exec] at h
   split at h
   · rename_i st' σ' hs; rw [hs]; exact y6v hF h
   · exact h
theorem run (hF : F = F.map P) {n : Nat} {st : List Fr} {σ : St} {t : T} (he : exec n F st σ = t) (h : t.holds P Q) : G P Q st none σ := y6v hF (by rw [he]; exact h)
def z6v : Nat → TT → List Fr → St → T
 | 0, _, st, σ => .go st σ
 | k + 1, F, st, σ => match exec 2000 F st σ with
   | .br t st1 σ1 st2 σ2 => (match t with | true => z6v k F st1 σ1 | false => z6v k F st2 σ2)
   | _ => .fail
theorem z3v (hF : F = F.map P) : ∀ {k : Nat} {st : List Fr} {σ : St}, (z6v k F st σ).holds P Q → G P Q st none σ
 | 0, _, _, h => h
 | k + 1, st, σ, h => by
   rw [z6v] at h
   split at h
   · rename_i t st1 σ1 st2 σ2 he
     refine run hF he ?_
     cases t with
     | true => exact ⟨fun _ => z3v hF h, nofun⟩
     | false => exact ⟨nofun, fun _ => z3v hF h⟩
   · exact h.elim
def QR (P : Program) (fn : Func) (res : Res) (e : Ex) (σ : St) : Prop := match e with | .exit _ => False | _ => qa3 P fn res σ
theorem PC.begin {f : Nat} {fn : Func} {c : Code} {args : List SV} {res : Res} (hf : P.funcs[f]? = some fn) (hb : fn.body = some c) (hok : (okF P f && y0u fn.ntmps c && Nat.ble args.length fn.ntmps) = true)
 (h : G P (QR P fn res) [.code c] none ⟨z6o 0 args, []⟩) : PC P f args res := by
 refine PC.intro hf hb hok ?_
 have e : (fun (e : Ex) (σ : St) => match e with | .normal => G P (QR P fn res) [] none σ | .exit i => G P (QR P fn res) [] (some i) σ | .ret => QR P fn res .ret σ) =
  (fun e σ => match e with | .exit _ => False | _ => qa3 P fn res σ) := by
  funext e σ; cases e <;> rfl
 have h' : vc P c (fun (e : Ex) (σ : St) => match e with | .normal => G P (QR P fn res) [] none σ | .exit i => G P (QR P fn res) [] (some i) σ | .ret => QR P fn res .ret σ) ⟨z6o 0 args, []⟩ := h
 rw [e] at h'
 exact h'
end
end Go.Sx
end
section
namespace Go.Sx
class yl (P : Program) where
 F : TT
 ok : F = F.map P
 mix : P.follows .mixedOrders = true
def q6l (σ : St) (d : Option Tmp) (res : Res) : R := match d with
 | some d => (match σ with | ⟨t, b⟩ => bR ((d, z7c (nameOf d) res) :: t) (z19 (nameOf d) res ++ b))
 | none => .ok σ
def q1e : AC → Bool
 | .b _ => true
 | .nil => true
 | .em => true
 | _ => false
def q1n : List AV → Bool
 | [] => true
 | .one c :: l => bif q1e c then q1n l else false
 | .agg cs :: l => bif cs.all q1e then q1n l else false
 | _ => false
def y3f (B : List (Nat × AB)) : List (Nat × AB) → Bool
 | [] => true
 | (β, _) :: l => match get B β with | none => y3f B l | some _ => false
theorem z31 {c : AC} (h : q1e c = true) : q30 c := by cases c <;> first | trivial | cases h
theorem z27 : ∀ {avs : List AV}, q1n avs = true → y7s y5e avs
 | [], _ => trivial
 | .one c :: l, h => by
   rw [q1n] at h
   cases hc : q1e c with
   | false => rw [hc] at h; cases h
   | true => rw [hc] at h; exact ⟨z31 hc, z27 h⟩
 | .agg cs :: l, h => by
   rw [q1n] at h
   cases hc : cs.all q1e with
   | false => rw [hc] at h; cases h
   | true =>
     rw [hc] at h
     have : ∀ cs : List AC, cs.all q1e = true → z6m q30 cs := by
      intro cs
      induction cs with
      | nil => intro _; trivial
      | cons c cs ih => intro h; simp only [List.all_cons, Bool.and_eq_true] at h; exact ⟨z31 h.1, ih h.2⟩
     exact ⟨this cs hc, z27 h⟩
 | .tup _ :: l, h => by cases h
theorem z1r {B : List (Nat × AB)} : ∀ {l : List (Nat × AB)}, y3f B l = true → z07 B l
 | [], _ => trivial
 | (β, _) :: l, h => by
   rw [y3f] at h
   split at h
   · rename_i hn; exact ⟨hn, z1r h⟩
   · cases h
def z8k (σ : St) (d : Option Tmp) (avs : List AV) (res : Res) : Bool := bif y0z res then (bif z3g res then (bif q1n avs then y3f σ.b (z19 (nameOf (d.getD 0)) res) else false) else y3f σ.b (z19 (nameOf (d.getD 0)) res)) else false
section
variable {P : Program} [yl P] {Q : Ex → St → Prop} {st st1 st2 : List Fr} {σ σ1 σ2 : St}
theorem xb {t : Bool} (h : exec 2000 (yl.F P) st σ = .br t st1 σ1 st2 σ2) (h1 : t = true → G P Q st1 none σ1) (h2 : t = false → G P Q st2 none σ2) : G P Q st none σ := run yl.ok h ⟨h1, h2⟩
theorem xf (h : exec 2000 (yl.F P) st σ = .br false st1 σ1 st2 σ2) (h1 : G P Q st2 none σ2) : G P Q st none σ := run yl.ok h ⟨nofun, fun _ => h1⟩
theorem xj {k : Nat} (h : z6v k (yl.F P) st σ = .go st1 σ1) (h1 : G P Q st1 none σ1) : G P Q st none σ := z3v yl.ok (by rw [h]; exact h1)
theorem xr {e : Ex} (h : exec 2000 (yl.F P) st σ = .fin e σ1) (h1 : Q e σ1) : G P Q st none σ := run yl.ok h h1
theorem xs {p : Prop} (h : exec 2000 (yl.F P) st σ = .side p st1 σ1) (h1 : p) (h2 : G P Q st1 none σ1) : G P Q st none σ := run yl.ok h ⟨h1, h2⟩
theorem ya {rows : List (List Cell)} {i : Nat} {f : List Cell → R} (h : exec 2000 (yl.F P) st σ = .row rows i f st1) (row : List Cell) (hr : rows[i]? = some row) (h1 : G P Q (.r (f row) :: st1) none ⟨[], []⟩) : G P Q st none σ := run yl.ok h ⟨row, hr, h1⟩
theorem q7p {g : Bool} {o : Oper} (h : exec 2000 (yl.F P) st σ = .raw g σ1 o st1) (h1 : opL g P σ1 o (G P Q st1 none)) : G P Q st none σ := run yl.ok h h1
theorem q9 {J : St → Prop} (h : exec 2000 (yl.F P) st σ = .cont J σ1) (h1 : J σ1) : G P Q st none σ := run yl.ok h h1
theorem y1b (h : exec 2000 (yl.F P) st σ = .both st1 st2 σ1) (h1 : G P Q st1 none σ1) (h2 : G P Q st2 none σ1) : G P Q st none σ := run yl.ok h ⟨h1, h2⟩
def z8m (ops : Array Oper) (LC : List Nat) (p : y5w) : Bool := Region.noSelect ops && (y2b .any ops (Array.replicate ops.size false) p && q17 LC .any ops p ops.size (Array.replicate ops.size false))
theorem zb {id : Nat} {ops : Array Oper} (h : exec 2000 (yl.F P) st σ = .draw id ops st1 σ1) (LC : List Nat) (p : y5w) (hp : z8m ops LC p = true) (h1 : G P Q (.plan ops LC p :: st1) none σ1) : G P Q st none σ := by
 simp only [z8m, Bool.and_eq_true] at hp
 exact run yl.ok h ⟨yl.mix, hp.1, LC, p, hp.2.1, hp.2.2, h1⟩
theorem z6 {g : Bool} {d : Option Tmp} {f : Nat} {avs : List AV} {res : Res} (h : exec 2000 (yl.F P) st σ = .call g σ1 d f avs st1) (hpc : PC P f (avs.map (y7p σ1.b)) res) (hok : z8k σ1 d avs res = true) (hw : y7s (wfV σ1.b) avs) (h1 : G P Q (.r (q6l σ1 d res) :: st1) none ⟨[], []⟩) : G P Q st none σ := by
 refine run yl.ok h (.inl ⟨res, hpc, ?_⟩)
 unfold z8k at hok
 cases h2 : y0z res with
 | false => rw [h2] at hok; cases hok
 | true =>
   rw [h2] at hok
   have hK : G P Q st1 none (y2n σ1 d res) := by
    have h1 : (q6l σ1 d res).holds P (G P Q st1 none) := h1
    unfold q6l at h1
    unfold y2n
    cases d with
    | none => exact h1
    | some d => cases σ1; exact zw h1
   cases h3 : z3g res with
   | true =>
     rw [h3] at hok
     cases h4 : q1n avs with
     | false => rw [h4] at hok; cases hok
     | true => rw [h4] at hok; exact ⟨rfl, hw, fun _ => z27 h4, z1r hok, hK⟩
   | false => rw [h3] at hok; exact ⟨rfl, hw, nofun, z1r hok, hK⟩
def z6l (σ : St) (d : Option Tmp) (res : Res) (T : List (Nat × AB)) : R := match σ, d with
 | ⟨t, b⟩, some d => bR ((d, z7c (nameOf d) res) :: t) ((z19 (nameOf d) res ++ T) ++ b)
 | ⟨t, b⟩, none => bR t (([] ++ T) ++ b)
def q8m (σ : St) (d : Option Tmp) (avs : List AV) (args : List GA) (res : Res) : Bool := bif y0z res then (bif z9b ((q0t 0 (acs avs) (gcs args)).map (·.2.1)) then y3f σ.b (z19 (nameOf (d.getD 0)) res) else false) else false
theorem yao {d : Option Tmp} {f : Nat} {avs : List AV} {args : List GA} {res : Res} {back : List (Nat × List (List Cell))} (h : exec 2000 (yl.F P) st σ = .call true σ1 d f avs st1) (hpc : PG P f args res back) (hm : mAs σ1.b avs args) (hok : q8m σ1 d avs args res = true)
 (h1 : G P Q (.r (z6l σ1 d res (z1b σ1.b back (q0t 0 (acs avs) (gcs args)))) :: st1) none ⟨[], []⟩) : G P Q st none σ := by
 unfold q8m at hok
 cases h2 : y0z res with
 | false => rw [h2] at hok; cases hok
 | true =>
   rw [h2] at hok
   cases h3 : z9b ((q0t 0 (acs avs) (gcs args)).map (·.2.1)) with
   | false => rw [h3] at hok; cases hok
   | true =>
     rw [h3] at hok
     refine run yl.ok h (.inr ⟨rfl, .inl ⟨args, res, back, hpc, h2, hm, z1 h3, z1r hok, ?_⟩⟩)
     have h1 : (z6l σ1 d res (z1b σ1.b back (q0t 0 (acs avs) (gcs args)))).holds P (G P Q st1 none) := h1
     cases σ1
     cases d with
     | none => exact zw h1
     | some d => exact zw h1
theorem zb3 {y : Tmp} {f : Nat} {avs : List AV} {k e n : Nat} {D : DataW Unit} (h : exec 2000 (yl.F P) st σ = .call true σ1 (some y) f avs st1) (hpm : PM P f (avs.map (y7p σ1.b)) k e n D) (hw : y7s (wfV σ1.b) avs) (hn : (get σ1.b (nameOf y)).isNone = true)
 (h1 : G P Q (.r (bR ((y, .one (.mx 0 (nameOf y))) :: σ1.t) (z06 σ1.b (nameOf y) (.mp k e n D none))) :: st1) none ⟨[], []⟩) : G P Q st none σ :=
 run yl.ok h (.inr ⟨rfl, .inr (.inr ⟨k, e, n, D, y, rfl, hpm, hw, by simpa using hn, zw (show (bR ((y, .one (.mx 0 (nameOf y))) :: σ1.t) (z06 σ1.b (nameOf y) (.mp k e n D none))).holds P (G P Q st1 none) from h1)⟩)⟩)
theorem qa5 {b : Code} (h : exec 2000 (yl.F P) st σ = .loop b st1 σ1) {ι : Type} (pre : ι → Prop) (inv : ι → St) (m : ι → Nat) (i0 : ι) (h0 : pre i0) (hw : Wk σ1 (inv i0))
 (hs : ∀ i, pre i → ∀ J : St → Prop, (∀ σ' i', pre i' → m i' < m i → Wk σ' (inv i') → J σ') → G P Q (.code b :: .lp J :: st1) none (inv i)) : G P Q st none σ := by
 refine run yl.ok h ⟨ι, pre, inv, m, ⟨i0, h0, hw⟩, fun i hi => ?_⟩
 have h2 := hs i hi (fun σ => ∃ i', pre i' ∧ m i' < m i ∧ Wk σ (inv i')) (fun σ' i' h1 h2 h3 => ⟨i', h1, h2, h3⟩)
 have e : (fun (e : Ex) (σ : St) => match e with | .normal => G P Q (.lp (fun σ => ∃ i', pre i' ∧ m i' < m i ∧ Wk σ (inv i')) :: st1) none σ | .exit i' => G P Q (.lp (fun σ => ∃ i', pre i' ∧ m i' < m i ∧ Wk σ (inv i')) :: st1) (some i') σ | .ret => Q .ret σ) =
  (fun e σ => match e with | .normal => ∃ i', pre i' ∧ m i' < m i ∧ Wk σ (inv i') | .exit j => G P Q st1 (some j) σ | .ret => Q .ret σ) := by
  funext e σ; cases e <;> rfl
 have h3 : vc P b (fun (e : Ex) (σ : St) => match e with | .normal => G P Q (.lp (fun σ => ∃ i', pre i' ∧ m i' < m i ∧ Wk σ (inv i')) :: st1) none σ | .exit i' => G P Q (.lp (fun σ => ∃ i', pre i' ∧ m i' < m i ∧ Wk σ (inv i')) :: st1) (some i') σ | .ret => Q .ret σ) (inv i) := h2
 rw [e] at h3
 exact h3
theorem qc {b : Code} (h : exec 2000 (yl.F P) st σ = .loop b st1 σ1) {ι : Type} (pre : ι → Prop) (inv : ι → St) (m : ι → Nat) (i0 : ι) (h0 : pre i0) (hw : Wk0 σ1 (inv i0))
 (hs : ∀ i, pre i → ∀ J : St → Prop, (∀ σ' i', pre i' → m i' < m i → Wk0 σ' (inv i') → J σ') → G P Q (.code b :: .lp J :: st1) none (inv i)) : G P Q st none σ :=
 qa5 h pre inv m i0 h0 (.of hw) (fun i hi J hJ => hs i hi J (fun σ' i' h1 h2 h3 => hJ σ' i' h1 h2 (.of h3)))
theorem z9l {n : Nat} {x y : Code} (h : exec n (yl.F P) st σ = .go (.code (.seq x y) :: st1) σ1) {ι : Type} (pre : ι → Prop) (inv : ι → St)
 (h1 : ∀ K : St → Prop, (∀ σ' i, pre i → Wk0 σ' (inv i) → K σ') → G P Q (.code x :: .lp K :: st1) none σ1) (h2 : ∀ i, pre i → G P Q (.code y :: st1) none (inv i)) : G P Q st none σ := by
 refine run yl.ok h ?_
 show G P Q (.code (.seq x y) :: st1) none σ1
 refine .inr ⟨ι, pre, inv, ?_, h2⟩
 have h3 := h1 (fun σ' => ∃ i, pre i ∧ Wk σ' (inv i)) (fun σ' i hp hw => ⟨i, hp, .of hw⟩)
 have e : (fun (e : Ex) (σ : St) => match e with | .normal => G P Q (.lp (fun σ => ∃ i', pre i' ∧ Wk σ (inv i')) :: st1) none σ | .exit i' => G P Q (.lp (fun σ => ∃ i', pre i' ∧ Wk σ (inv i')) :: st1) (some i') σ | .ret => Q .ret σ) =
  (fun e σ => match e with | .normal => ∃ i', pre i' ∧ Wk σ (inv i') | .exit j => G P Q st1 (some j) σ | .ret => Q .ret σ) := by
  funext e σ; cases e <;> rfl
 have h4 : vc P x (fun (e : Ex) (σ : St) => match e with | .normal => G P Q (.lp (fun σ => ∃ i', pre i' ∧ Wk σ (inv i')) :: st1) none σ | .exit i' => G P Q (.lp (fun σ => ∃ i', pre i' ∧ Wk σ (inv i')) :: st1) (some i') σ | .ret => Q .ret σ) σ1 := h3
 rw [e] at h4
 exact h4
omit [yl P] in
theorem z7 {fn : Func} {res : Res} {e : Ex} (he : (match e with | .exit _ => false | _ => true) = true) (h : qa3 P fn res σ) : QR P fn res e σ := by
 cases e with
 | exit i => cases he
 | _ => exact h
end
end Go.Sx
end
section
namespace Go.Sx
theorem wrap_i64 {n : Int} (h : -9223372036854775808 ≤ n) (h2 : n ≤ 9223372036854775807) : IntKind.i64.wrap n = n := by
 have e : IntKind.i64.wrap n = if n % 18446744073709551616 ≥ 9223372036854775808 then n % 18446744073709551616 - 18446744073709551616 else n % 18446744073709551616 := by
  simp [IntKind.wrap, IntKind.signed, IntKind.bits]
 rw [e]
 split <;> omega
theorem zl {α : Type} (xs : List α) (z : α) (i n : Nat) (h : i < xs.length) (hn : n = xs.length) : (xs.take i ++ List.replicate (n - i) z)[i]? = some z := by
 subst hn
 have e1 : (xs.take i).length = i := by simp; omega
 rw [List.getElem?_append_right (by omega), List.getElem?_replicate, e1, if_pos (by omega)]
theorem qz {α : Type} (xs : List α) (z x : α) (i n : Nat) (h : xs[i]? = some x) (hn : n = xs.length) : (xs.take i ++ List.replicate (n - i) z).set i x = xs.take (i + 1) ++ List.replicate (n - (i + 1)) z := by
 subst hn
 obtain ⟨hi, rfl⟩ := List.getElem?_eq_some_iff.1 h
 apply List.ext_getElem?
 intro j
 rw [List.getElem?_set]
 by_cases hj : i = j
 · subst hj
   rw [if_pos rfl]
   have : i < (xs.take i ++ List.replicate (xs.length - i) z).length := by simp; omega
   rw [if_pos this, List.getElem?_append_left (by simp; omega), List.getElem?_take, if_pos (by omega)]
   simp
 · rw [if_neg hj]
   by_cases h1 : j < i
   · rw [List.getElem?_append_left (by simp; omega), List.getElem?_append_left (by simp; omega), List.getElem?_take, List.getElem?_take, if_pos h1, if_pos (by omega)]
   · rw [List.getElem?_append_right (by simp; omega), List.getElem?_append_right (by simp; omega), List.getElem?_replicate, List.getElem?_replicate]
     have e1 : (xs.take i).length = i := by simp; omega
     have e2 : (xs.take (i + 1)).length = i + 1 := by simp; omega
     rw [e1, e2]
     by_cases h3 : j < xs.length
     · rw [if_pos (by omega), if_pos (by omega)]
     · rw [if_neg (by omega), if_neg (by omega)]
theorem qe {α : Type} (xs : List α) (z : α) (i n : Nat) (h : i ≤ xs.length) (hn : n = xs.length) : (xs.take i ++ List.replicate (n - i) z).length = n := by
 subst hn; simp; omega
theorem zz {α : Type} (xs : List α) (z : α) (n : Nat) (hn : n = xs.length) : xs.take n ++ List.replicate (n - n) z = xs := by
 subst hn; simp
end Go.Sx
end
section
namespace Go.Sx
def zad (fn : Func) (k e n : Nat) (D : DataW Unit) (σ : St) : Prop := ∃ t β, fn.results.toList = [.tmp t] ∧ get σ.t t = some (.one (.mx 0 β)) ∧ get σ.b β = some (.mp k e n D none)
def QM (P : Program) (fn : Func) (k e n : Nat) (D : DataW Unit) (ex : Ex) (σ : St) : Prop := match ex with | .exit _ => False | _ => zad fn k e n D σ
theorem PM.intro {P : Program} {f : Nat} {fn : Func} {c : Code} {args : List SV} {k e n : Nat} {D : DataW Unit} (hf : P.funcs[f]? = some fn) (hb : fn.body = some c) (hok : (okF P f && y0u fn.ntmps c && Nat.ble args.length fn.ntmps) = true)
 (h : vc P c (fun ex σ => match ex with | .exit _ => False | _ => zad fn k e n D σ) ⟨z6o 0 args, []⟩) : PM P f args k e n D := by
 simp only [Bool.and_eq_true] at hok
 obtain ⟨⟨ho1, ho2⟩, ho3⟩ := hok
 refine ⟨ho1, fun N w vals hargs => ?_⟩
 refine calls_of_wp hf hb ?_
 have hle : args.length ≤ fn.ntmps := Nat.le_of_ble_eq_true ho3
 have hM : ∀ x, ¬ (Ctx.mk P fn.ntmps w N (fun _ => False) []).M x := fun x h => h
 have hinit : zc (Ctx.mk P fn.ntmps w N (fun _ => False) []) ⟨z6o 0 args, []⟩ ⟨fun _ => undef, fun _ _ => False⟩ { tmps := vals ++ Array.replicate (fn.ntmps - vals.size) undef, defers := [] } w := by
  refine ⟨fun t av ht => ?_, fun β ab h => (by cases h), fun β β' ab ab' x h => (by cases h), fun β ab x h => (by cases h), ?_, rfl, qo.refl _ _, fun g hg => by cases hg⟩
  · obtain ⟨k, sv, h1, h2, rfl⟩ := q3q ht
    have hk : k < vals.size := by rw [hargs.1]; exact (List.getElem?_eq_some_iff.1 h2).1
    have ht' : t = k := by omega
    subst ht'
    refine ⟨vals[t], by rw [Array.getElem?_append, if_pos hk]; simp [hk], ?_⟩
    have hrv := hargs.2 t sv vals[t] h2 (by simp [hk])
    have hN : ∀ {c : Cell} {u : Value}, Rep w N c u → Rep w (Bor (Ctx.mk P fn.ntmps w N (fun _ => False) []) ⟨fun _ => undef, fun _ _ => False⟩ []) c u := fun hr => Rep.mono hr (fun x _ hx => ⟨.inl hx, fun β ab h => by cases h⟩)
    cases sv with
    | one c => exact hN hrv
    | agg cs =>
      obtain ⟨arr, he, h3, h4⟩ := hrv
      refine ⟨arr, he, by simp [h3], fun k c u hc hu => ?_⟩
      rw [List.getElem?_map] at hc
      cases hck : cs[k]? with
      | none => rw [hck] at hc; cases hc
      | some c0 => rw [hck] at hc; cases hc; exact hN (h4 k c0 u hck hu)
  · show (vals ++ Array.replicate (fn.ntmps - vals.size) undef).size = fn.ntmps
    rw [Array.size_append, Array.size_replicate]
    have := hargs.1
    omega
 refine wp_mono (q5u (C := Ctx.mk P fn.ntmps w N (fun _ => False) []) (fun g hg => by cases hg) ho2 ⟨_, hinit⟩ h) (fun ex a' w' hq => ?_)
 obtain ⟨e', he, σ', hr, ρ', hrel⟩ := hq
 have fin : zad fn k e n D σ' → a'.defers = [] ∧ ∃ v, (results fn a'.tmps).run P w' = .ok v w' ∧ ∃ b, Ending.returned v = .returned (.map (some b)) ∧ qo w w' (fun _ => False) ∧ w.heap.size ≤ b ∧ b < w'.heap.size ∧ w'.ownsMap P k (plainElem P e) b n D := fun hret => by
  obtain ⟨t, β, hres, ht, hβ⟩ := hret
  obtain ⟨v, hv1, hv2⟩ := hrel.tmps t _ ht
  obtain ⟨_, ab, hg, hv3⟩ := hv2
  rw [hβ] at hg
  cases hg
  obtain rfl := hv3 rfl
  obtain ⟨b, g1, g2, g3⟩ := hrel.blks β _ hβ
  have hm := hrel.mine β _ b hβ g2
  refine ⟨hrel.defers, ρ'.v β, ?_, b, by rw [g1], hrel.keep, hm.2.resolve_right (hM b), hm.1, g3⟩
  have := q1m (P := P) (fn := fn) (a := a') (w := w') (vs := [ρ'.v β]) (by rw [hres]; simp [z2z, Array.getD_eq_getD_getElem?, hv1])
  simpa using this
 cases ex <;> simp only [y8z, Option.some.injEq] at he <;> first | (subst he) | cases he
 · exact fin hr
 · exact hr.elim
 · exact fin hr
theorem PM.begin {P : Program} {f : Nat} {fn : Func} {c : Code} {args : List SV} {k e n : Nat} {D : DataW Unit} (hf : P.funcs[f]? = some fn) (hb : fn.body = some c) (hok : (okF P f && y0u fn.ntmps c && Nat.ble args.length fn.ntmps) = true)
 (h : G P (QM P fn k e n D) [.code c] none ⟨z6o 0 args, []⟩) : PM P f args k e n D := by
 refine PM.intro hf hb hok ?_
 have e1 : (fun (ex : Ex) (σ : St) => match ex with | .normal => G P (QM P fn k e n D) [] none σ | .exit i => G P (QM P fn k e n D) [] (some i) σ | .ret => QM P fn k e n D .ret σ) =
  (fun ex σ => match ex with | .exit _ => False | _ => zad fn k e n D σ) := by
  funext ex σ; cases ex <;> rfl
 have h' : vc P c (fun (ex : Ex) (σ : St) => match ex with | .normal => G P (QM P fn k e n D) [] none σ | .exit i => G P (QM P fn k e n D) [] (some i) σ | .ret => QM P fn k e n D .ret σ) ⟨z6o 0 args, []⟩ := h
 rw [e1] at h'
 exact h'
theorem qao {P : Program} {fn : Func} {k e n : Nat} {D : DataW Unit} {ex : Ex} {σ : St} (he : (match ex with | .exit _ => false | _ => true) = true) (t β : Nat) (h1 : fn.results.toList = [.tmp t]) (h2 : get σ.t t = some (.one (.mx 0 β))) (h3 : get σ.b β = some (.mp k e n D none)) : QM P fn k e n D ex σ := by
 cases ex with
 | exit i => cases he
 | _ => exact ⟨t, β, h1, h2, h3⟩
end Go.Sx
end
section
namespace Go.Sx
open Go.RowKit Go.ChangeShapes Go.WideShapes Go.Deep
def q5w (w : World) (cells : List Cell) (cs : List Value) : Prop := cs.length = cells.length ∧ ∀ (k : Nat) (c : Cell) (u : Value), cells[k]? = some c → cs[k]? = some u → Rep w (fun _ => True) c u
structure z36 (P : Program) (t : TypeId) {α : Type} (sz : Nat) (f : α → List Cell) (G : α → Prop) : Prop where
 hsz : P.cellsOf t = sz
 len : ∀ a, (f a).length = sz
 get : ∀ {H : Type} (enc : TypeId × Value → H) (w : World) (base : Nat) (spare : Nat → Bool) (held : Bool) (fuel : Nat) (cs : List Value) (x : DataW H × List MemPlace), DataW.trod enc P w base spare held fuel t cs = some x → ∃ a, q5w w (f a) cs ∧ G a
section
variable {P : Program} {α β : Type} {t e : TypeId}
theorem q5w.one {w : World} {c : Cell} {u : Value} (h : Rep w (fun _ => True) c u) : q5w w [c] [u] := ⟨rfl, fun k c' u' h1 h2 => by
 cases k with
 | zero => cases h1; cases h2; exact h
 | succ k => simp at h1⟩
theorem y78 {k : IntKind} (ht : P.underlying t = some (.int k)) (hc : P.cellsOf t = 1) : z36 P t 1 (fun n : Int => [.s (.int k n)]) (fun n => (Lit.int k n).wf = true) :=
 ⟨hc, fun _ => rfl, fun enc w base spare held fuel cs x h => by obtain ⟨n, rfl, _, hw⟩ := DataW.trod_int ht h; exact ⟨n, .one (.s _ rfl), hw⟩⟩
theorem q78 {sz : Nat} {f : α → List Cell} {G : α → Prop} (ht : P.underlying t = some (.slice e)) (he : z36 P e sz f G)
 {H : Type} (enc : TypeId × Value → H) (w : World) (base : Nat) (spare : Nat → Bool) (held : Bool) (fuel : Nat) (cs : List Value) (x : DataW H × List MemPlace) (h : DataW.trod enc P w base spare held fuel t cs = some x) :
 ∃ (l : List α) (v : Value), cs = [v] ∧ Rep w (fun _ => True) (.l (l.map f)) v ∧ (l.length ≤ maxLen ∧ ∀ a ∈ l, G a) := by
 classical
 rcases open_slice ht h with ⟨rfl, _⟩ | ⟨a, len, cap, m, n, D, Pl, rfl, hb, hl, hm, hmm, rfl, hx⟩
 · exact ⟨[], _, rfl, .l 0 [] none 0 (fun _ _ => undef) (by simp) (Nat.le_refl _) (fun _ => rfl) (fun j k hj => by simp at hj) (fun j k row c h1 => by simp at h1), by simp, fun a ha => by cases ha⟩
 · have hlm : len ≤ m := by rw [hmm]; split <;> omega
   have hall : ∀ i, i < len → ∃ b cs', cs'.length = sz ∧ q5w w (f b) cs' ∧ G b ∧ ∀ j, j < sz → w.cell? ((a.add (i * sz)).add j) = cs'[j]? := fun i hi => by
    obtain ⟨cs', h1, h2⟩ := hx i (by omega)
    obtain ⟨b, hK, hg⟩ := he.get enc w base spare held n cs' _ h2
    rw [he.hsz] at h1
    obtain ⟨_, hlen, hcell⟩ := World.cells?_some h1
    exact ⟨b, cs', hlen, hK, hg, hcell⟩
   have key : ∀ k, k ≤ len → ∃ l : List α, l.length = k ∧ (∀ j p, l[j]? = some p → ∃ c, c.length = sz ∧ q5w w (f p) c ∧ ∀ i u, c[i]? = some u → w.cell? (a.add (j * sz + i)) = some u) ∧ ∀ a ∈ l, G a := by
    intro k
    induction k with
    | zero => exact fun _ => ⟨[], rfl, fun j p hj => by simp at hj, fun a ha => by cases ha⟩
    | succ k ih =>
      intro hk
      obtain ⟨l, hl, hc, hG⟩ := ih (by omega)
      obtain ⟨b, c, hs, hK, hg, hcell⟩ := hall k (by omega)
      refine ⟨l ++ [b], by simp [hl], fun j p hj => ?_, fun b' hb' => ?_⟩
      · rcases Nat.lt_or_ge j l.length with hjl | hjl
        · rw [List.getElem?_append_left hjl] at hj
          exact hc j p hj
        · have hj' : j = l.length := by
           have := (List.getElem?_eq_some_iff.1 hj).1
           rw [List.length_append, List.length_singleton] at this
           omega
          subst hj'
          have hp : b = p := by simpa using hj
          subst hp
          refine ⟨c, hs, hK, fun i u hu => ?_⟩
          have hi : i < sz := by rw [← hs]; exact (List.getElem?_eq_some_iff.1 hu).1
          have := hcell i hi
          rw [Go.Deep.add_add, ← hl] at this
          rw [this, hu]
      · rcases List.mem_append.1 hb' with hb' | hb'
        · exact hG b' hb'
        · rw [List.mem_singleton.1 hb']; exact hg
   obtain ⟨l, hl', hc, hG⟩ := key len (Nat.le_refl _)
   subst hl'
   have hch : ∀ j : Nat, ∃ c : List Value, ∀ p, l[j]? = some p → c.length = sz ∧ q5w w (f p) c ∧ ∀ i u, c[i]? = some u → w.cell? (a.add (j * sz + i)) = some u := fun j => by
    cases hj : l[j]? with
    | none => exact ⟨[], fun p h => by cases h⟩
    | some p =>
      obtain ⟨c, h1, h2, h3⟩ := hc j p hj
      exact ⟨c, fun p' h => by cases h; exact ⟨h1, h2, h3⟩⟩
   have hch2 : ∃ c : Nat → List Value, ∀ j p, l[j]? = some p → (c j).length = sz ∧ q5w w (f p) (c j) ∧ ∀ i u, (c j)[i]? = some u → w.cell? (a.add (j * sz + i)) = some u := ⟨fun j => Classical.choose (hch j), fun j => Classical.choose_spec (hch j)⟩
   obtain ⟨c, hc⟩ := hch2
   have hlr : (l.map f).length = l.length := by simp
   refine ⟨l, _, rfl, ?_, by omega, hG⟩
   rw [show (Value.slice (some a) l.length cap) = .slice (some a) (l.map f).length cap by rw [hlr]]
   refine .l sz (l.map f) (some a) cap (fun j k => ((c j)[k]?).getD undef) (fun row hr => ?_) (by rw [hlr]; exact hl) (fun h => by cases h) (fun j k hj hk => ?_) (fun j k row c' h1 h2 => ?_)
   · obtain ⟨p, _, rfl⟩ := List.mem_map.1 hr; exact he.len p
   · rw [hlr] at hj
     obtain ⟨h1, _, h3⟩ := hc j _ (List.getElem?_eq_getElem hj)
     refine ⟨a, rfl, trivial, ?_⟩
     have hlt : k < (c j).length := by omega
     rw [h3 k _ (List.getElem?_eq_getElem hlt), List.getElem?_eq_getElem hlt]; rfl
   · rw [List.getElem?_map] at h1
     cases hj : l[j]? with
     | none => rw [hj] at h1; cases h1
     | some p =>
       rw [hj] at h1
       cases h1
       obtain ⟨h4, h5, _⟩ := hc j p hj
       have hk : k < (c j).length := by rw [h4, ← he.len p]; exact (List.getElem?_eq_some_iff.1 h2).1
       refine h5.2 k c' _ h2 ?_
       rw [List.getElem?_eq_getElem hk]; rfl
inductive Laid (P : Program) : Nat → List Field → Prop
 | nil (o : Nat) : Laid P o []
 | cons {o : Nat} {f : Field} {fs : List Field} : f.offset = o → Laid P (o + P.cellsOf f.type) fs → Laid P o (f :: fs)
def q4b (P : Program) (fs : List Field) {α : Type} (sz : Nat) (f : α → List Cell) (G : α → Prop) : Prop :=
 (∀ a, (f a).length = sz) ∧ ∀ {H : Type} (enc : TypeId × Value → H) (w : World) (base : Nat) (spare : Nat → Bool) (held : Bool) (fuel : Nat) (cs : List Value), cs.length = sz →
   (∀ (i : Nat) (f : Field), fs[i]? = some f → ∃ x, DataW.trod enc P w base spare held fuel f.type ((cs.drop (((fs.take i).map fun g => P.cellsOf g.type).sum)).take (P.cellsOf f.type)) = some x) →
   ∃ a, q5w w (f a) cs ∧ G a
theorem q5w.append {w : World} {xs ys : List Cell} {us vs : List Value} (h : q5w w xs us) (k : q5w w ys vs) : q5w w (xs ++ ys) (us ++ vs) := by
 refine ⟨by simp [h.1, k.1], fun i c u h1 h2 => ?_⟩
 rw [List.getElem?_append] at h1 h2
 rw [h.1] at h2
 by_cases hi : i < xs.length
 · rw [if_pos hi] at h1 h2; exact h.2 i c u h1 h2
 · rw [if_neg hi] at h1 h2; exact k.2 _ c u h1 h2
theorem y6a {fd : Field} {sz : Nat} {f : α → List Cell} {G : α → Prop} (h : z36 P fd.type sz f G) : q4b P [fd] sz f G := by
 refine ⟨h.len, fun enc w base spare held fuel cs hl hx => ?_⟩
 obtain ⟨x, hx⟩ := hx 0 fd rfl
 simp only [List.take_zero, List.map_nil, List.sum_nil, List.drop_zero] at hx
 rw [h.hsz, ← hl, List.take_length] at hx
 exact h.get enc w base spare held fuel cs x hx
theorem q59 {fd : Field} {fs : List Field} {sz sz' : Nat} {f : α → List Cell} {f' : β → List Cell} {G : α → Prop} {G' : β → Prop} (h : z36 P fd.type sz f G) (h' : q4b P fs sz' f' G') : q4b P (fd :: fs) (sz + sz') (fun x : α × β => f x.1 ++ f' x.2) (fun x => G x.1 ∧ G' x.2) := by
 refine ⟨fun a => by simp [h.len, h'.1], fun enc w base spare held fuel cs hl hx => ?_⟩
 obtain ⟨x, hx0⟩ := hx 0 fd rfl
 simp only [List.take_zero, List.map_nil, List.sum_nil, List.drop_zero] at hx0
 rw [h.hsz] at hx0
 obtain ⟨a, hK, hG⟩ := h.get enc w base spare held fuel _ x hx0
 obtain ⟨b, hK', hG'⟩ := h'.2 enc w base spare held fuel (cs.drop sz) (by rw [List.length_drop]; omega) (fun i g hi => by
  obtain ⟨y, hy⟩ := hx (i + 1) g (by simpa using hi)
  refine ⟨y, ?_⟩
  rw [List.drop_drop]
  simpa [h.hsz] using hy)
 refine ⟨(a, b), ?_, hG, hG'⟩
 have := hK.append hK'
 rwa [List.take_append_drop] at this
theorem z2v : ∀ {fs : List Field} {o : Nat}, Laid P o fs → ∀ (i : Nat) (f : Field), fs[i]? = some f → f.offset = o + ((fs.take i).map fun g => P.cellsOf g.type).sum
 | [], _, _, i, f, h => by simp at h
 | g :: fs, o, .cons h1 h2, 0, f, h => by
   have : g = f := by simpa using h
   subst this
   simp [h1]
 | g :: fs, o, .cons h1 h2, i + 1, f, h => by
   rw [z2v h2 i f (by simpa using h)]
   simp [Nat.add_assoc]
theorem y4o {fs : List Field} {sz : Nat} {f : α → List Cell} {G : α → Prop} {f' : β → List Cell} {G' : β → Prop} (g : α → β) (hfg : ∀ a, f' (g a) = f a) (hG : ∀ a, G a → G' (g a)) (hlen : ∀ b, (f' b).length = sz) (ht : P.underlying t = some (.struct fs.toArray)) (hc : P.cellsOf t = sz) (hL : Laid P 0 fs) (hF : q4b P fs sz f G) :
 z36 P t sz f' G' :=
 ⟨hc, hlen, fun enc w base spare held fuel cs x h => by
   obtain ⟨xs, n, rfl, _, hl, hxs, hf⟩ := DataW.trod_struct ht h
   obtain ⟨a, hK, hg⟩ := hF.2 enc w base spare held n cs (by rw [hl, hc]) (fun i f hi => by
    have hoff := z2v hL i f hi
    rw [Nat.zero_add] at hoff
    have h1 := hf i f (by simpa using hi)
    rw [hoff] at h1
    have hi' : i < xs.length := by
     rw [hxs]
     have := (List.getElem?_eq_some_iff.1 hi).1
     simpa using this
    exact ⟨xs[i], by rw [h1, List.getElem?_eq_getElem hi']⟩)
   exact ⟨g a, by rw [hfg]; exact hK, hG a hg⟩⟩
theorem z5a {sz : Nat} {f : α → List Cell} {G : α → Prop} (ht : P.underlying t = some (.slice e)) (hc : P.cellsOf t = 1) (he : z36 P e sz f G) : z36 P t 1 (fun l : List α => [.l (l.map f)]) (fun l => l.length ≤ maxLen ∧ ∀ a ∈ l, G a) :=
 ⟨hc, fun _ => rfl, fun enc w base spare held fuel cs x h => by
   obtain ⟨l, v, rfl, hr, hG⟩ := q78 ht he enc w base spare held fuel cs x h
   exact ⟨l, .one hr, hG⟩⟩
theorem z5y {fs : Array Field} {sz : Nat} {f : α → List Cell} {G : α → Prop} (ht : P.underlying t = some (.struct fs)) (he : z36 P t sz f G) {H : Type} {enc : TypeId × Value → H} {w : World} {r : Reach} {b : Nat} {v : Value} {dd : DataW H} {ps : List MemPlace}
 (hv : Value.okWide P w r b t v) (h : DataW.Trod enc P w 0 (fun _ => true) true t v dd ps) : ∃ a : α, y7r w (fun _ => True) (.agg (f a)) v ∧ G a := by
 obtain ⟨cs, rfl, _⟩ := okWide_struct ht hv
 obtain ⟨fuel, hf⟩ := h
 obtain ⟨a, hK, hG⟩ := he.get enc w 0 _ true fuel _ _ hf
 have hK' : q5w w (f a) cs.toList := by simpa [Value.cells] using hK
 exact ⟨a, ⟨cs, rfl, by simpa using hK'.1, fun k c u hc hu => hK'.2 k c u hc (by simpa using hu)⟩, hG⟩
end
end Go.Sx
end
section
namespace Go.Sx
open Go.RowKit (Below)
theorem PC.law {P : Program} {f : Nat} {args : List SV} {b : Bool} (h : PC P f args (.one (.own false [.s (.bool b)]))) {w : World} {vals : Array Value} (ha : y4b w (fun _ => True) vals args) :
 Calls P f vals w fun e w' => e = .returned (.bool b) ∧ Below w.heap.size w w' := by
 refine (h.2 _ w vals ha).mono ?_
 rintro e w' ⟨v, S, rfl, hk, ⟨arr, F, h1, h2, _, _, h5⟩, _⟩
 have h1' : arr = #[v] := h1
 subst h1'
 obtain ⟨rfl, _⟩ := h5 0 _ v rfl rfl
 exact ⟨rfl, hk.below⟩
theorem y4b.two {w : World} {N : Nat → Prop} {sv sv' : SV} {v v' : Value} (h : y7r w N sv v) (h' : y7r w N sv' v') : y4b w N #[v, v'] [sv, sv'] := ⟨rfl, fun i s u h1 h2 => by
 cases i with
 | zero => cases h1; cases h2; exact h
 | succ i =>
   cases i with
   | zero => cases h1; cases h2; exact h'
   | succ i => simp at h1⟩
end Go.Sx
end
section
namespace Go.Sx
inductive Sh where
 | nil
 | i (k : IntKind) (r : Sh)
 | b (r : Sh)
 | l (e : Sh) (r : Sh)
inductive WT (N : Nat) : Sh → List Cell → Prop
 | nil : WT N .nil []
 | i {k : IntKind} {r : Sh} {cs : List Cell} (n : Int) : WT N r cs → WT N (.i k r) (.s (.int k n) :: cs)
 | b {r : Sh} {cs : List Cell} (x : Bool) : WT N r cs → WT N (.b r) (.s (.bool x) :: cs)
 | l {e r : Sh} {cs : List Cell} (rows : List (List Cell)) : rows.length ≤ N → (∀ row ∈ rows, WT N e row) → WT N r cs → WT N (.l e r) (.l rows :: cs)
def WR (N : Nat) (e : Sh) (rows : List (List Cell)) : Prop := rows.length ≤ N ∧ ∀ row ∈ rows, WT N e row
def nx (k : Int) : Int := IntKind.i64.wrap (k + 1)
def mkv : IntKind → Int → Int
 | .i64, k => k
 | t, k => t.wrap k
def mkR (f : List Cell → Int → List Cell × Int) : List (List Cell) → Int → List (List Cell) × Int
 | [], k => ([], k)
 | row :: rows, k => ((f row k).1 :: (mkR f rows (f row k).2).1, (mkR f rows (f row k).2).2)
def mk : Sh → List Cell → Int → List Cell × Int
 | .nil, cs, k => (cs, k)
 | .i t r, _ :: cs, k => (.s (.int t (mkv t k)) :: (mk r cs (nx k)).1, (mk r cs (nx k)).2)
 | .b r, _ :: cs, k => (.s (.bool (k.tmod 3 == 0)) :: (mk r cs (nx k)).1, (mk r cs (nx k)).2)
 | .l e r, .l rows :: cs, k => (.l (mkR (mk e) rows k).1 :: (mk r cs (mkR (mk e) rows k).2).1, (mk r cs (mkR (mk e) rows k).2).2)
 | _, cs, k => (cs, k)
def hdR (f : List Cell → Int → Option Int) : List (List Cell) → Int → Option Int
 | [], k => some k
 | row :: rows, k => (f row k).bind (hdR f rows)
def ng (o : Option Int) : Int := o.getD (-1)
def ps (k : Int) : Option Int := if k < 0 then none else some k
def hd : Sh → List Cell → Int → Option Int
 | .nil, _, k => some k
 | .i t r, .s (.int _ n) :: cs, k => if n = mkv t k then hd r cs (nx k) else none
 | .b r, .s (.bool x) :: cs, k => if x = (k.tmod 3 == 0) then hd r cs (nx k) else none
 | .l e r, .l rows :: cs, k => (ps (ng (hdR (hd e) rows k))).bind (hd r cs)
 | _, _, k => some k
def mt : Sh → List Cell → Int → List Cell × Int
 | .i _ r, c :: cs, k => (c :: (mt r cs k).1, (mt r cs k).2)
 | .b r, c :: cs, k => (c :: (mt r cs k).1, (mt r cs k).2)
 | .l e r, .l rows :: cs, k => (.l (mkR (mk e) rows k).1 :: (mt r cs (mkR (mk e) rows k).2).1, (mt r cs (mkR (mk e) rows k).2).2)
 | _, cs, k => (cs, k)
def ht : Sh → List Cell → Int → Option Int
 | .i _ r, _ :: cs, k => ht r cs k
 | .b r, _ :: cs, k => ht r cs k
 | .l e r, .l rows :: cs, k => (ps (ng (hdR (hd e) rows k))).bind (ht r cs)
 | _, _, k => some k
def z08 (f : List Cell → Nat) : List (List Cell) → Nat
 | [] => 0
 | row :: rows => f row + z08 f rows
def cnt : Sh → List Cell → Nat
 | .i _ r, _ :: cs => 1 + cnt r cs
 | .b r, _ :: cs => 1 + cnt r cs
 | .l e r, .l rows :: cs => z08 (cnt e) rows + cnt r cs
 | _, _ => 0
def tot : Sh → List Cell → Nat
 | .i _ r, _ :: cs => tot r cs
 | .b r, _ :: cs => tot r cs
 | .l e r, .l rows :: cs => rows.length + z08 (tot e) rows + tot r cs
 | _, _ => 0
def zj (e : Sh) (rows : List (List Cell)) : Nat := rows.length + z08 (tot e) rows
theorem WT.mono {N M : Nat} (h : N ≤ M) {e : Sh} {cs : List Cell} (hw : WT N e cs) : WT M e cs := by
 induction hw with
 | nil => exact .nil
 | i n _ ih => exact .i n ih
 | b x _ ih => exact .b x ih
 | l rows h1 _ _ ih1 ih2 => exact .l rows (by omega) ih1 ih2
theorem WR.mono {N M : Nat} (h : N ≤ M) {e : Sh} {rows : List (List Cell)} (hw : WR N e rows) : WR M e rows := ⟨Nat.le_trans hw.1 h, fun r hr => (hw.2 r hr).mono h⟩
theorem WT.qv {N : Nat} {k : IntKind} {r : Sh} {cs : List Cell} (h : WT N (.i k r) cs) : ∃ n cs', cs = .s (.int k n) :: cs' ∧ WT N r cs' := by
 cases h with | i n h => exact ⟨_, _, rfl, h⟩
theorem WT.q0j {N : Nat} {e r : Sh} {cs : List Cell} (h : WT N (.l e r) cs) : ∃ rows cs', cs = .l rows :: cs' ∧ WR N e rows ∧ WT N r cs' := by
 cases h with | l rows h1 h2 h3 => exact ⟨_, _, rfl, ⟨h1, h2⟩, h3⟩
theorem WT.qp {N : Nat} {cs : List Cell} (h : WT N .nil cs) : cs = [] := by
 cases h; rfl
theorem z3t {f g : List Cell → Nat} {a b : Nat} : ∀ {rows : List (List Cell)}, (∀ row ∈ rows, f row ≤ a + b * g row) → z08 f rows ≤ a * rows.length + b * z08 g rows
 | [], _ => by simp [z08]
 | r :: rows, h => by
   have h1 := h r (by simp)
   have h2 := z3t (rows := rows) (fun row hr => h row (by simp [hr]))
   simp only [z08, List.length_cons, Nat.mul_add, Nat.mul_one]
   omega
def md (f : List Cell → Int → List Cell × Int) (rows : List (List Cell)) (k : Int) (i : Nat) : List (List Cell) := (mkR f (rows.take i) k).1 ++ rows.drop i
section
variable {f : List Cell → Int → List Cell × Int} {rows : List (List Cell)} {k : Int} {i : Nat} {row : List Cell}
theorem y4v (h : rows[i]? = some row) : rows.take (i + 1) = rows.take i ++ [row] := by rw [List.take_add_one, h]; rfl
end
def szn (b : Int) (n : Nat) : Int := if b - n < 0 then -1 else b - n
theorem z0e {b : Int} {n : Nat} (h : b ≤ 1048576) (h0 : 0 ≤ b) : szn b n ≤ 1048576 := by unfold szn; split <;> omega
theorem yh {b : Int} {m n : Nat} (h : 0 ≤ szn b m) : szn (szn b m) n = szn b (m + n) := by
 unfold szn at *; split at h
 · omega
 · rename_i h1; simp only [if_neg h1]; split <;> split <;> omega
theorem cwi {k : IntKind} {n m : Int} (h : -9223372036854775808 ≤ n) (h2 : n ≤ 9223372036854775807) (e : n = m) : Cell.s (.int k (IntKind.i64.wrap n)) = Cell.s (.int k m) := by rw [wrap_i64 h h2, e]
theorem y1j (f : List Cell → Nat) : ∀ (xs ys : List (List Cell)), z08 f (xs ++ ys) = z08 f xs + z08 f ys
 | [], ys => by simp [z08]
 | x :: xs, ys => by simp [z08, y1j f xs, Nat.add_assoc]
theorem z0i {f : List Cell → Nat} {rows : List (List Cell)} {i : Nat} {row : List Cell} (h : rows[i]? = some row) : z08 f (rows.take (i + 1)) = z08 f (rows.take i) + f row := by
 rw [y4v h, y1j]; simp [z08]
theorem y09 (f : List Cell → Nat) (rows : List (List Cell)) (i : Nat) : z08 f rows = z08 f (rows.take i) + z08 f (rows.drop i) := by
 rw [← y1j, List.take_append_drop]
theorem z0m {N : Nat} {e : Sh} {rows : List (List Cell)} (h : ∀ row, WT N e row → tot e row = 0) (hw : WR N e rows) : zj e rows = rows.length := by
 have : ∀ rows : List (List Cell), (∀ row ∈ rows, WT N e row) → z08 (tot e) rows = 0 := by
  intro rows
  induction rows with
  | nil => intro _; rfl
  | cons r rows ih => intro hr; rw [z08, h r (hr r (by simp)), ih (fun x hx => hr x (by simp [hx]))]
 rw [zj, this rows hw.2, Nat.add_zero]
theorem ym {α : Type} {xs ys : List α} {i : Nat} {a : α} (h : xs.take i = ys.take i) (hx : xs[i]? = some a) (hy : ys[i]? = some a) : xs.take (i + 1) = ys.take (i + 1) := by
 rw [List.take_add_one, List.take_add_one, h, hx, hy]
noncomputable def dE {α : Type} (p q : α) : Bool := open Classical in decide (p = q)
theorem yi {α : Type} {p q : α} (h : p ≠ q) : Value.bool false = Value.bool (dE p q) := by simp [dE, h]
theorem qs {α : Type} {p q : α} (h : p = q) : Value.bool true = Value.bool (dE p q) := by simp [dE, h]
theorem z02 {α : Type} {p q : α} (h : (!dE p q) = true) : p ≠ q := by simpa [dE] using h
theorem q01 {α : Type} {p q : α} (h : (!dE p q) = false) : p = q := by simpa [dE] using h
abbrev i64 (n : Int) : Cell := .s (.int .i64 n)
abbrev rI (n : Int) : Res := .one (.own false [.s (.int .i64 n)])
abbrev rB (b : Bool) : Res := .one (.own false [.s (.bool b)])
end Go.Sx
end
section
namespace Go.Sx
open Go.Maps (Keyed)
section
variable {P : Program} [yl P] {Q : Ex → St → Prop} {st st1 : List Fr} {σ σ1 : St} {g : Bool} {o : Oper} {t : TypeId} {m x : Operand} {β k e n : Nat} {D : DataW Unit} {q : IntKind}
theorem z8r {r : Nat} (h : exec 2000 (yl.F P) st σ = .raw g σ1 o st1) (ho : o.op = .makeMap t none) (hd : o.dst = some r) (hu : P.underlying t = some (.map k e)) (hn : get σ1.b r = none)
 (h1 : G P Q st1 none ⟨(r, .one (.mx 0 r)) :: σ1.t, z06 σ1.b r (.mp k e 0 (.map []) none)⟩) : G P Q st none σ :=
 q7p h (by simp only [opL, ho]; exact ⟨r, k, e, rfl, hd, hu, hn, h1⟩)
theorem z8g {av : AV} {key : Value} {kl : Lit} (h : exec 2000 (yl.F P) st σ = .raw g σ1 o st1) (ho : o.op = .lookup t m x false) (hm : ev σ1 m = some (.one (.mx 0 β))) (hb : get σ1.b β = some (.mp k e n D none))
 (hu : P.underlying t = some (.map k e)) (he : P.underlying e = some (.int q)) (hK : Keyed P k) (hz : ∀ w, (zeroValue e).run P w = .ok (.int q 0) w) (hx : ev σ1 x = some av) (hv : valOf av = some key) (hkey : keyOf P k key = some kl)
 (h1 : ∀ c, D.atKey kl (.lit (.int q 0)) = .lit (.int q c) → (Lit.int q c).wf = true → G P Q st1 none (σ1.put o.dst (.one (.b (.s (.int q c)))))) : G P Q st none σ :=
 q7p h (by simp only [opL, ho]; exact .inl ⟨β, k, e, n, D, q, kl, av, key, rfl, hm, hb, hu, he, hK, hz, hx, hv, hkey, h1⟩)
theorem y7n {av : AV} {key : Value} {kl : Lit} {born : Int} (h : exec 2000 (yl.F P) st σ = .raw g σ1 o st1) (ho : o.op = .lookup t m x false) (hm : ev σ1 m = some (.one (.mx 0 β))) (hb : get σ1.b β = some (.me k e n D kl born))
 (hu : P.underlying t = some (.map k e)) (he : P.underlying e = some (.int q)) (hz : ∀ w, (zeroValue e).run P w = .ok (.int q 0) w) (hx : ev σ1 x = some av) (hv : valOf av = some key) (hkey : keyOf P k key = some kl)
 (h1 : ∀ c, D.atKey kl (.lit (.int q 0)) = .lit (.int q c) → (Lit.int q c).wf = true → G P Q st1 none (σ1.put o.dst (.one (.b (.s (.int q c)))))) : G P Q st none σ :=
 q7p h (by simp only [opL, ho]; exact .inr ⟨β, k, e, n, D, q, kl, born, av, key, rfl, hm, hb, hu, he, hz, hx, hv, hkey, h1⟩)
theorem q5i {ps : Array (Nat × Operand)} {m2 e2 : Nat} {i2 : TypeInfo} {z cs : List AC} (h : exec 2000 (yl.F P) st σ = .raw g σ1 o st1) (ho : o.op = .build t ps) (hu : P.underlying t = some (.array m2 e2)) (hi : P.info? e2 = some i2) (hs : i2.size = 1) (hz : y11 P t = some (.agg z))
 (hf : q6v σ1 m2 z ps.toList = some cs) (h1 : G P Q st1 none (σ1.put o.dst (.agg cs))) : G P Q st none σ :=
 q7p h (by
  have hb : q4a P t = none := by unfold q4a y7t; rw [hz, hu]; rfl
  simp only [opL, ho, opY, hb]
  exact ⟨m2, e2, i2, z, cs, hu, hi, hs, hz, hf, h1⟩)
theorem yb3 {v : Operand} {av : AV} {key : Value} {kl : Lit} {c : Int} (h : exec 2000 (yl.F P) st σ = .raw g σ1 o st1) (ho : o.op = .mapUpdate t m x v) (hd : o.dst = none) (hm : ev σ1 m = some (.one (.mx 0 β))) (hb : get σ1.b β = some (.mp k e n D none))
 (hu : P.underlying t = some (.map k e)) (he : P.underlying e = some (.int q)) (hK : Keyed P k) (hn : n < maxLen) (hx : ev σ1 x = some av) (hv : valOf av = some key) (hkey : keyOf P k key = some kl) (hc : ev σ1 v = some (.one (.b (.s (.int q c))))) (hw : (Lit.int q c).wf = true)
 (h1 : G P Q st1 none ⟨σ1.t, z06 σ1.b β (.mp k e (n + 1) (D.put kl (.lit (.int q c))) none)⟩) : G P Q st none σ :=
 q7p h (by simp only [opL, ho]; exact ⟨β, k, e, n, D, q, kl, av, key, c, hd, hm, hb, hu, he, hK, hn, hx, hv, hkey, hc, hw, h1⟩)
theorem y8r {r : Nat} (h : exec 2000 (yl.F P) st σ = .raw g σ1 o st1) (ho : o.op = .range t m) (hd : o.dst = some r) (hm : ev σ1 m = some (.one (.mx 0 β))) (hb : get σ1.b β = some (.mp k e n D none)) (hr : get σ1.b r = none)
 (hu : P.underlying t = some (.map k e)) (hK : Keyed P k)
 (h1 : G P Q st1 none ⟨(r, .one (.mx 1 r)) :: σ1.t, z06 (z06 σ1.b β .dead) r (.mp k e n D (some (Maps.has D, Maps.size D, none)))⟩) : G P Q st none σ :=
 q7p h (by simp only [opL, ho]; exact ⟨r, β, k, e, n, D, hd, hm, hb, hr, hu, hK, h1⟩)
theorem za6 {r : Nat} {left : Lit → Bool} {cnt : Nat} {cur : Option (Value × Value)} (h : exec 2000 (yl.F P) st σ = .raw g σ1 o st1) (ho : o.op = .next m false) (hd : o.dst = some r) (hm : ev σ1 m = some (.one (.mx 1 β))) (hb : get σ1.b β = some (.mp k e n D (some (left, cnt, cur))))
 (hK : Keyed P k) (he : P.underlying e = some (.int q))
 (h0 : cnt = 0 → (∀ kl, left kl = false) → G P Q st1 none ⟨(r, .tup [.one (.b (.s (.bool false)))]) :: σ1.t, σ1.b⟩)
 (h1 : ∀ key kl c cnt', keyOf P k key = some kl → left kl = true → (∀ zd, D.atKey kl zd = .lit (.int q c)) → (Lit.int q c).wf = true → cnt' < cnt →
   ∃ av, y12 key = some av ∧ (∀ vs, av ≠ .tup vs) ∧ G P Q st1 none ⟨(r, .tup [.one (.b (.s (.bool true))), av, .one (.b (.s (.int q c)))]) :: σ1.t, z06 σ1.b β (.mp k e n D (some ((fun z => left z && !z.sameKey kl), cnt', some (key, .int q c))))⟩) : G P Q st none σ :=
 q7p h (by simp only [opL, ho]; exact ⟨r, β, k, e, n, D, left, cnt, cur, q, rfl, hd, hm, hb, hK, he, h0, h1⟩)
theorem ya6 {r : Nat} {qk : IntKind} {left : Lit → Bool} {cnt : Nat} {cur : Option (Value × Value)} (h : exec 2000 (yl.F P) st σ = .raw g σ1 o st1) (ho : o.op = .next m false) (hd : o.dst = some r) (hm : ev σ1 m = some (.one (.mx 1 β))) (hb : get σ1.b β = some (.mp k e n D (some (left, cnt, cur))))
 (hK : Keyed P k) (hk : P.underlying k = some (.int qk)) (he : P.underlying e = some (.int q))
 (h0 : cnt = 0 → (∀ kl, left kl = false) → G P Q st1 none ⟨(r, .tup [.one (.b (.s (.bool false)))]) :: σ1.t, σ1.b⟩)
 (h1 : ∀ y c cnt', left (.int qk y) = true → (∀ zd, D.atKey (.int qk y) zd = .lit (.int q c)) → (Lit.int q c).wf = true → cnt' < cnt →
   G P Q st1 none ⟨(r, .tup [.one (.b (.s (.bool true))), .one (.b (.s (.int qk y))), .one (.b (.s (.int q c)))]) :: σ1.t, z06 σ1.b β (.mp k e n D (some ((fun z => left z && !z.sameKey (.int qk y)), cnt', some (.int qk y, .int q c))))⟩) : G P Q st none σ :=
 za6 h ho hd hm hb hK he h0 (fun key kl c cnt' hkey hl hat hw hlt => by
  obtain ⟨y, rfl, rfl, _⟩ := Maps.keyOf_int_inv hk hkey
  exact ⟨.one (.b (.s (.int qk y))), rfl, fun vs h => (nomatch h), h1 y c cnt' hl hat hw hlt⟩)
theorem q8q {r : Nat} {left : Lit → Bool} {cnt : Nat} {key u : Value} {av av' : AV} (h : exec 2000 (yl.F P) st σ = .raw g σ1 o st1) (ho : o.op = .entry m) (hd : o.dst = some r) (hm : ev σ1 m = some (.one (.mx 1 β))) (hb : get σ1.b β = some (.mp k e n D (some (left, cnt, some (key, u)))))
 (h2 : y12 key = some av) (h3 : y12 u = some av') (h4 : ∀ vs, av ≠ .tup vs) (h5 : ∀ vs, av' ≠ .tup vs) (h1 : G P Q st1 none ⟨(r, .tup [av, av']) :: σ1.t, σ1.b⟩) : G P Q st none σ :=
 q7p h (by simp only [opL, ho]; exact ⟨r, β, k, e, n, D, left, cnt, key, u, av, av', hd, hm, hb, h2, h4, h3, h5, h1⟩)
theorem y9l {r : Nat} {av : AV} {key : Value} {kl : Lit} (h : exec 2000 (yl.F P) st σ = .raw g σ1 o st1) (ho : o.op = .mapEntry t m x) (hd : o.dst = some r) (hm : ev σ1 m = some (.one (.mx 0 β))) (hb : get σ1.b β = some (.mp k e n D none))
 (hu : P.underlying t = some (.map k e)) (he : P.underlying e = some (.int q)) (hL : WideMaps.KeyLaw P k) (hn : n < maxLen) (hz : ∀ w, (zeroValue e).run P w = .ok (.int q 0) w) (hx : ev σ1 x = some av) (hv : valOf av = some key) (hkey : keyOf P k key = some kl)
 (h1 : ∀ c born, G P Q st1 none ⟨(r, .tup [.one (.b (.s (.int q c))), .one (.b (.s (.int .i64 born)))]) :: σ1.t, z06 σ1.b β (.me k e n D kl born)⟩) : G P Q st none σ :=
 q7p h (by simp only [opL, ho]; exact ⟨r, β, k, e, n, D, q, kl, av, key, hd, hm, hb, hu, he, hL, Maps.Keyed.of_law hL, hn, hz, hx, hv, hkey, h1⟩)
theorem q9l {s v : Operand} {kl : Lit} {born c : Int} (h : exec 2000 (yl.F P) st σ = .raw g σ1 o st1) (ho : o.op = .entryStore t m s v) (hd : o.dst = none) (hm : ev σ1 m = some (.one (.mx 0 β))) (hb : get σ1.b β = some (.me k e n D kl born))
 (he : P.underlying e = some (.int q)) (hs : ev σ1 s = some (.one (.b (.s (.int .i64 born))))) (hc : ev σ1 v = some (.one (.b (.s (.int q c))))) (hw : (Lit.int q c).wf = true)
 (h1 : G P Q st1 none ⟨σ1.t, z06 σ1.b β (.mp k e (n + 1) (D.put kl (.lit (.int q c))) none)⟩) : G P Q st none σ :=
 q7p h (by simp only [opL, ho]; exact ⟨β, k, e, n, D, q, kl, born, c, hd, hm, hb, he, hs, hc, hw, h1⟩)
end
end Go.Sx
end
section
namespace Go.Sx
open Go.RowKit
def Sh.len : Sh → Nat
 | .nil => 0
 | .i _ r => r.len + 1
 | .b r => r.len + 1
 | .l _ r => r.len + 1
def Sh.app : Sh → Sh → Sh
 | .nil, t => t
 | .i k r, t => .i k (r.app t)
 | .b r, t => .b (r.app t)
 | .l e r, t => .l e (r.app t)
theorem WT.len {N : Nat} {s : Sh} {cs : List Cell} (h : WT N s cs) : cs.length = s.len := by
 induction h with
 | nil => rfl
 | i n _ ih => simp [Sh.len, ih]
 | b x _ ih => simp [Sh.len, ih]
 | l rows _ _ _ _ ih => simp [Sh.len, ih]
theorem WT.app {N : Nat} {s t : Sh} {xs ys : List Cell} (h : WT N s xs) (k : WT N t ys) : WT N (s.app t) (xs ++ ys) := by
 induction h with
 | nil => exact k
 | i n _ ih => exact .i n ih
 | b x _ ih => exact .b x ih
 | l rows h1 h2 _ _ ih => exact .l rows h1 h2 ih
abbrev OS (P : Program) (t : TypeId) (s : Sh) : Prop := z36 P t s.len (fun a : {cs : List Cell // WT 9223372036854775807 s cs} => a.1) (fun _ => True)
abbrev OSF (P : Program) (fs : List Field) (s : Sh) : Prop := q4b P fs s.len (fun a : {cs : List Cell // WT 9223372036854775807 s cs} => a.1) (fun _ => True)
section
variable {P : Program} {t e : TypeId}
theorem OS.mk {sz : Nat} {α : Type} {f : α → List Cell} {G : α → Prop} {s : Sh} (h : z36 P t sz f G) (hz : sz = s.len) (hw : ∀ a, G a → WT 9223372036854775807 s (f a)) : OS P t s :=
 ⟨h.hsz.trans hz, fun a => a.2.len, fun enc w base spare held fuel cs x hx => by
   obtain ⟨a, h1, h2⟩ := h.get enc w base spare held fuel cs x hx
   exact ⟨⟨f a, hw a h2⟩, h1, trivial⟩⟩
theorem qa2 {k : IntKind} (ht : P.underlying t = some (.int k)) (hc : P.cellsOf t = 1) : OS P t (.i k .nil) := .mk (y78 ht hc) rfl fun n _ => .i n .nil
theorem yz {s : Sh} (ht : P.underlying t = some (.slice e)) (hc : P.cellsOf t = 1) (he : OS P e s) : OS P t (.l s .nil) := .mk (z5a ht hc he) rfl fun l hl => .l _ (by
 have h : l.length ≤ maxLen := hl.1
 rw [List.length_map]; exact h) (fun row hr => by
 obtain ⟨a, _, rfl⟩ := List.mem_map.1 hr
 exact a.2) .nil
theorem y07 {fd : Field} {s : Sh} (h : OS P fd.type s) : OSF P [fd] s := y6a h
theorem yf {fd : Field} {fs : List Field} {s t u : Sh} (h : OS P fd.type s) (k : OSF P fs t) (hu : s.app t = u) (hl : s.len + t.len = u.len) : OSF P (fd :: fs) u := by
 have hc := q59 h k
 subst hu
 refine ⟨fun a => a.2.len, fun enc w base spare held fuel cs hn hx => ?_⟩
 obtain ⟨a, h1, _⟩ := hc.2 enc w base spare held fuel cs (hn.trans hl.symm) hx
 exact ⟨⟨_, a.1.2.app a.2.2⟩, h1, trivial⟩
theorem yu {fs : List Field} {s : Sh} (ht : P.underlying t = some (.struct fs.toArray)) (hc : P.cellsOf t = s.len) (hL : Laid P 0 fs) (hF : OSF P fs s) : OS P t s :=
 y4o (fun a => a) (fun _ => rfl) (fun _ h => h) (fun b => b.2.len) ht hc hL hF
theorem z8j {fs : Array Field} {s : Sh} (ht : P.underlying t = some (.struct fs)) (he : OS P t s) {H : Type} {enc : TypeId × Value → H} {w : World} {r : Reach} {b : Nat} {v : Value} {dd : DataW H} {ps : List MemPlace}
 (hv : Value.okWide P w r b t v) (h : DataW.Trod enc P w 0 (fun _ => true) true t v dd ps) : ∃ cs : List Cell, y7r w (fun _ => True) (.agg cs) v ∧ WT 9223372036854775807 s cs := by
 obtain ⟨a, h1, _⟩ := z5y ht he hv h
 exact ⟨a.1, h1, a.2⟩
end
end Go.Sx
end
section
namespace Go.Sx
def ya2 : OC → Cell
 | .s v => .s v
 | .l _ rows => .l rows
theorem PC.yaw {P : Program} {f : Nat} {args : List SV} {ag : Bool} {cs : List OC} (h : PC P f args (.one (.own ag cs))) : PC P f args (.one (.bor ag (cs.map ya2))) := by
 refine ⟨h.1, fun N w vals ha => (h.2 N w vals ha).mono ?_⟩
 rintro e w' ⟨v, S, rfl, hk, ⟨arr, F, h1, h2, h3, _, h5⟩, hS⟩
 refine ⟨v, fun _ => False, rfl, hk, ⟨arr, h1, by simp [h2], fun k c u hc hu => ?_⟩, fun x hx => hx.elim⟩
 rw [List.getElem?_map] at hc
 cases ho : cs[k]? with
 | none => rw [ho] at hc; cases hc
 | some oc =>
   rw [ho] at hc
   cases hc
   have h6 := h5 k oc u ho hu
   cases oc with
   | s x => obtain ⟨rfl, h7⟩ := h6; exact .s _ h7
   | l sz rows =>
     obtain ⟨sz', _, h7⟩ := h6
     exact (q1c.2 ⟨sz', h7⟩).rep fun x hx => ⟨.inr (hS x (h3 k x hx)).1, fun h => h⟩
end Go.Sx
end
section
namespace Go.Sx
theorem gm {α β : Type} {xs : List α} {i : Nat} {x : α} (f : α → β) (h : xs[i]? = some x) : (xs.map f)[i]? = some (f x) := by rw [List.getElem?_map, h]; rfl
theorem gx {α : Type} {xs : List α} {i : Nat} (h : i < xs.length) : ∃ x, xs[i]? = some x := ⟨_, List.getElem?_eq_getElem h⟩
def scan (f : Nat → Int) : Nat → Int
 | 0 => 0
 | n + 1 => if scan f n ≠ 0 then scan f n else f n
theorem yd {f : Nat → Int} : ∀ {n : Nat}, (∀ j, j < n → f j = 0) → scan f n = 0
 | 0, _ => rfl
 | n + 1, h => by rw [scan, yd (fun j hj => h j (by omega)), h n (by omega)]; simp
theorem yw {f : Nat → Int} : ∀ {n : Nat}, scan f n = 0 → ∀ j, j < n → f j = 0
 | n + 1, h, j, hj => by
   rw [scan] at h
   split at h
   · rename_i h1; exact absurd h h1
   · rename_i h1
     have h1 : scan f n = 0 := by simpa using h1
     rcases Nat.lt_or_ge j n with h2 | h2
     · exact yw h1 j h2
     · have : j = n := by omega
       subst this; exact h
theorem q0q {f : Nat → Int} {i : Nat} (h0 : ∀ j, j < i → f j = 0) (h : f i ≠ 0) : ∀ {n : Nat}, i < n → scan f n = f i
 | n + 1, hi => by
   rw [scan]
   rcases Nat.lt_or_ge i n with h2 | h2
   · have := q0q h0 h h2
     rw [this, if_pos h]
   · have : i = n := by omega
     subst this
     rw [yd h0]; simp
theorem q7 {f : Nat → Int} {i n : Nat} {c : Int} (hi : i < n) (h0 : ∀ j, j < i → f j = 0) (hc : f i = c) (h : c ≠ 0) : c = scan f n := by rw [q0q h0 (by rw [hc]; exact h) hi, hc]
theorem za {f : Nat → Int} {i : Nat} (h0 : ∀ j, j < i → f j = 0) (h : f i = 0) : ∀ j, j < i + 1 → f j = 0 := fun j hj => by
 rcases Nat.lt_or_ge j i with h2 | h2
 · exact h0 j h2
 · have : j = i := by omega
   subst this; exact h
theorem z0v {f g : Nat → Int} : ∀ {n : Nat}, (∀ j, j < n → (∀ k, k < j → f k = 0) → f j = g j) → scan f n = scan g n
 | 0, _ => rfl
 | n + 1, h => by
   have ih := z0v (f := f) (g := g) (n := n) (fun j hj => h j (by omega))
   rw [scan, scan, ih]
   split
   · rfl
   · rename_i h1
     have h1 : scan g n = 0 := by simpa using h1
     rw [← ih] at h1
     exact h n (by omega) (yw h1)
def within (n lo hi : Int) : Bool := decide (lo ≤ n) && decide (n ≤ hi)
theorem within_iff {n lo hi : Int} : within n lo hi = true ↔ lo ≤ n ∧ n ≤ hi := by simp [within]
def q0c (a b : Int) : Int := if a < b then -1 else if b < a then 1 else 0
def orr : List Int → Int
 | [] => 0
 | x :: xs => if x ≠ 0 then x else orr xs
abbrev ints (xs : List Int) : List (List Cell) := xs.map fun n => [i64 n]
theorem y5a : ∀ {xs : List Int} {i : Nat} {x : Int}, xs[i]? = some x → (∀ (j : Nat) (y : Int), j < i → xs[j]? = some y → y = 0) → x ≠ 0 → orr xs = x
 | y :: xs, 0, x, h, _, hx => by simp at h; subst h; rw [orr, if_pos hx]
 | y :: xs, i + 1, x, h, h0, hx => by
   rw [orr, if_neg (by simpa using h0 0 y (by omega) rfl)]
   exact y5a (by simpa using h) (fun j z hj hz => h0 (j + 1) z (by omega) (by simpa using hz)) hx
theorem z43 : ∀ {xs : List Int}, (∀ (j : Nat) (y : Int), xs[j]? = some y → y = 0) → orr xs = 0
 | [], _ => rfl
 | y :: xs, h => by
   rw [orr, if_neg (by simpa using h 0 y rfl)]
   exact z43 (fun j z hz => h (j + 1) z (by simpa using hz))
structure Leg where
 (s a b v : Int)
abbrev Leg.cs (l : Leg) : List Cell := [i64 l.s, i64 l.a, i64 l.b, i64 l.v]
def Leg.bad (l : Leg) : Bool := !(within l.s 0 2 && within l.a 0 5 && within l.b 0 2 && within l.v (-1000000000000) 1000000000000)
def Leg.fault (l : Leg) : Int := if l.bad then 3 else if l.v = 0 then 1 else 0
def Leg.same (l m : Leg) : Bool := l.s == m.s && l.a == m.a && l.b == m.b
structure Con where
 id : Int
 legs : List Leg
abbrev Con.cs (c : Con) : List Cell := [i64 c.id, .l (c.legs.map Leg.cs)]
structure Bal where
 (a b v : Int)
abbrev Bal.cs (x : Bal) : List Cell := [i64 x.a, i64 x.b, i64 x.v]
def Bal.bad (x : Bal) : Bool := !(within x.a 0 5 && within x.b 0 2 && within x.v 1 1000000000000)
def Bal.key (x : Bal) : Int := x.a * 3 + x.b
def ahead {α : Type} (lt : α → α → Bool) (xs : List α) (i : Nat) (x : α) : Bool := bif Nat.beq i 0 then true else match xs[i - 1]? with | some p => lt p x | none => true
def y28 (xs : List Bal) (i : Nat) : Int := match xs[i]? with
 | some x => if x.bad then 3 else if ahead (fun p x => decide (p.key < x.key)) xs i x then 0 else 1
 | none => 0
theorem q50 {us : List Bal} {i : Nat} {x : Bal} (hx : us[i]? = some x) (h : y28 us i = 0) : x.bad = false := by
 cases hb : x.bad with
 | false => rfl
 | true => simp [y28, hx, hb] at h
theorem Bal.q0p {x : Bal} (h : x.bad = false) : IntKind.i64.wrap (IntKind.i64.wrap (x.a * 3) + x.b) = x.key := by
 simp [Bal.bad, within] at h
 rw [wrap_i64 (n := x.a * 3) (by omega) (by omega), wrap_i64 (by omega) (by omega)]; rfl
def qd (xs : List Bal) : Int := if 18 < xs.length then 2 else scan (y28 xs) xs.length
def hasB : List Bal → Int → Int → Int
 | [], _, _ => 0
 | x :: xs, a, b => if x.a = a ∧ x.b = b then x.v else hasB xs a b
theorem y3w : ∀ {xs : List Bal} {i : Nat} {x : Bal} {a b : Int}, xs[i]? = some x → (∀ (j : Nat) (y : Bal), j < i → xs[j]? = some y → ¬ (y.a = a ∧ y.b = b)) → x.a = a ∧ x.b = b → hasB xs a b = x.v
 | y :: xs, 0, x, a, b, h, _, hx => by simp at h; subst h; rw [hasB, if_pos hx]
 | y :: xs, i + 1, x, a, b, h, h0, hx => by
   rw [hasB, if_neg (h0 0 y (by omega) rfl)]
   exact y3w (by simpa using h) (fun j z hj hz => h0 (j + 1) z (by omega) (by simpa using hz)) hx
theorem z2t : ∀ {xs : List Bal} {a b : Int}, (∀ (j : Nat) (y : Bal), xs[j]? = some y → ¬ (y.a = a ∧ y.b = b)) → hasB xs a b = 0
 | [], _, _, _ => rfl
 | y :: xs, a, b, h => by
   rw [hasB, if_neg (h 0 y rfl)]
   exact z2t (fun j z hz => h (j + 1) z (by simpa using hz))
def yaa (xs : List Bal) (l : Leg) : Int := if hasB xs l.a l.b + l.v < 0 then 6 else if 1000000000000 < hasB xs l.a l.b + l.v then 3 else 0
def y66 (xs : List Bal) (ls : List Leg) (i : Nat) : Int := match ls[i]? with | some l => yaa xs l | none => 0
def z39 (xs : List Bal) (ls : List Leg) : Int := scan (y66 xs ls) ls.length
structure Mk where
 (c v : Int)
abbrev Mk.cs (x : Mk) : List Cell := [i64 x.c, i64 x.v]
def q0e : List Mk → Int → Int
 | [], _ => 0
 | x :: xs, c => if x.c = c then x.v else q0e xs c
theorem q13 : ∀ {xs : List Mk} {i : Nat} {x : Mk} {c : Int}, xs[i]? = some x → (∀ (j : Nat) (y : Mk), j < i → xs[j]? = some y → ¬ y.c = c) → x.c = c → q0e xs c = x.v
 | y :: xs, 0, x, c, h, _, hx => by simp at h; subst h; rw [q0e, if_pos hx]
 | y :: xs, i + 1, x, c, h, h0, hx => by
   rw [q0e, if_neg (h0 0 y (by omega) rfl)]
   exact q13 (by simpa using h) (fun j z hj hz => h0 (j + 1) z (by omega) (by simpa using hz)) hx
theorem y0t : ∀ {xs : List Mk} {c : Int}, (∀ (j : Nat) (y : Mk), xs[j]? = some y → ¬ y.c = c) → q0e xs c = 0
 | [], _, _ => rfl
 | y :: xs, c, h => by
   rw [q0e, if_neg (h 0 y rfl)]
   exact y0t (fun j z hz => h (j + 1) z (by simpa using hz))
def y1u (xs : List Mk) (i : Nat) : Int := match xs[i]? with
 | some x => if !(within x.c 1 1000000000 && within x.v 1 2) then 3 else if ahead (fun p x => decide (p.c < x.c)) xs i x then 0 else 1
 | none => 0
def qg (xs : List Mk) : Int := scan (y1u xs) xs.length
theorem ye {α : Type} {xs : List α} {i : Nat} {x : α} {p : α → Prop} (hx : xs[i]? = some x) (h : ∀ (j : Nat) (y : α), j < i → xs[j]? = some y → p y) (hp : p x) : ∀ (j : Nat) (y : α), j < i + 1 → xs[j]? = some y → p y := fun j y hj hy => by
 rcases Nat.lt_or_ge j i with h2 | h2
 · exact h j y h2 hy
 · have : j = i := by omega
   subst this; rw [hx] at hy; cases hy; exact hp
theorem zi {α : Type} {xs : List α} {i : Nat} {p : α → Prop} (hi : i = xs.length) (h : ∀ (j : Nat) (y : α), j < i → xs[j]? = some y → p y) : ∀ (j : Nat) (y : α), xs[j]? = some y → p y := fun j y hy => h j y (by have := (List.getElem?_eq_some_iff.1 hy).1; omega) hy
theorem q0g {i : Nat} (h0 : 0 < i) (h : i ≤ 9000000000000000000) : 0 ≤ IntKind.i64.wrap ((i : Int) - 1) := by rw [wrap_i64 (by omega) (by omega)]; omega
theorem q11 {α β : Type} {xs : List α} {i : Nat} {p : α} (f : α → β) (h0 : 0 < i) (h : i ≤ 9000000000000000000) (hp : xs[i - 1]? = some p) : (xs.map f)[(IntKind.i64.wrap ((i : Int) - 1)).toNat]? = some (f p) := by
 rw [wrap_i64 (by omega) (by omega), show ((i : Int) - 1).toNat = i - 1 by omega]; exact gm f hp
theorem ahead_zero {α : Type} {lt : α → α → Bool} {xs : List α} {x : α} : ahead lt xs 0 x = true := rfl
theorem y9 {α : Type} {lt : α → α → Bool} {xs : List α} {i : Nat} {x p : α} (h0 : 0 < i) (hp : xs[i - 1]? = some p) : ahead lt xs i x = lt p x := by
 unfold ahead; rw [beq_false (by omega), cond_false, hp]
theorem vi {a b : Int} (h : a = b) : Value.int .i64 a = Value.int .i64 b := by rw [h]
theorem vb {a b : Bool} (h : a = b) : Value.bool a = Value.bool b := by rw [h]
theorem ci {a b : Int} (h : a = b) : Cell.s (.int .i64 a) = Cell.s (.int .i64 b) := by rw [h]
structure Vt where
 (b v : Int)
abbrev Vt.cs (x : Vt) : List Cell := [i64 x.b, i64 x.v]
def Vt.none : Vt := ⟨-1, 0⟩
def Vt.ok (x : Vt) : Bool := within x.b 0 1000 && within x.v 1 2
structure Slt where
 (c s p lb lv : Int)
 cast : List Vt
abbrev Slt.cs (x : Slt) : List Cell := [i64 x.c, i64 x.s, i64 x.p, i64 x.lb, i64 x.lv, .l (x.cast.map Vt.cs)]
def q0v (xs : List Vt) (i : Nat) : Int := match xs[i]? with
 | some x => if !x.ok then 3 else if ahead (fun p x => !(decide (x.b < p.b) || (x.b == p.b && x.v != p.v))) xs i x then 0 else 1
 | none => 0
def y38 (xs : List Vt) : Vt := (xs[xs.length - 1]?).getD Vt.none
def Slt.fault (x : Slt) : Int :=
 if !(within x.c 1 1000000000 && within x.s 0 2 && within x.p (-1) 1000) then 3
 else if 60 < x.cast.length then 2
 else if scan (q0v x.cast) x.cast.length ≠ 0 then scan (q0v x.cast) x.cast.length
 else if ¬ (x.lb = (y38 x.cast).b ∧ x.lv = (y38 x.cast).v) ∨ x.p < x.lb then 1 else 0
def Slt.lt (p x : Slt) : Bool := if p.c = x.c then decide (p.s < x.s) else decide (p.c < x.c)
def y36 (xs : List Slt) (i : Nat) : Int := match xs[i]? with
 | some x => if x.fault ≠ 0 then x.fault else if ahead Slt.lt xs i x then 0 else 1
 | none => 0
structure Acc where
 slots : List Slt
abbrev Acc.cs (x : Acc) : List Cell := [.l (x.slots.map Slt.cs)]
def Acc.fault (x : Acc) : Int := if 60 < x.slots.length then 2 else scan (y36 x.slots) x.slots.length
def q39 : List Int → Int → List Int
 | [], v => [v]
 | x :: xs, v => if x < v then x :: q39 xs v else if x = v then x :: xs else v :: x :: xs
def zf (c : Con) (s : Int) : List Leg := c.legs.filter fun l => l.s == s
structure Shd where
 idx : Int
 bals : List Bal
 votes : List Mk
 held : List Con
 done : List Mk
 app : List Int
abbrev Shd.cs (s : Shd) : List Cell := [i64 s.idx, .l (s.bals.map Bal.cs), .l (s.votes.map Mk.cs), .l (s.held.map Con.cs), .l (s.done.map Mk.cs), .l (ints s.app)]
theorem lcr {B B' : List (Nat × AB)} : ∀ {l : List Cell}, y9z B B' (l.map .b) (l.map .b)
 | [] => trivial
 | _ :: l => ⟨rfl, lcr (l := l)⟩
def bsr (c : Nat → Bool) (i j : Nat) : Nat := if h : i < j then (if c ((i + j) / 2) then bsr c ((i + j) / 2 + 1) j else bsr c i ((i + j) / 2)) else i
termination_by j - i
theorem q9t {c : Nat → Bool} {p n : Nat} (hc : ∀ k, k < n → c k = decide (k < p)) : ∀ (i j : Nat), i ≤ p → p ≤ j → j ≤ n → bsr c i j = p := by
 intro i j
 induction h : j - i using Nat.strongRecOn generalizing i j with
 | _ m ih =>
   intro h1 h2 h3
   rw [bsr]
   split
   · have hk := hc ((i + j) / 2) (by omega)
     split
     · rename_i ht
       rw [hk] at ht
       have ht : (i + j) / 2 < p := by simpa using ht
       exact ih (j - ((i + j) / 2 + 1)) (by omega) _ _ rfl (by omega) h2 h3
     · rename_i ht
       rw [hk] at ht
       have ht : ¬ (i + j) / 2 < p := by simpa using ht
       exact ih ((i + j) / 2 - i) (by omega) _ _ rfl h1 (by omega) (by omega)
   · omega
theorem half {i j : Nat} (hi : i ≤ 1048576) (hj : j ≤ 1048576) : IntKind.i64.wrap ((IntKind.u64.wrap (IntKind.i64.wrap ((i : Int) + j))).fdiv (2 ^ (min (1 : Int).toNat IntKind.u64.bits))) = (((i + j) / 2 : Nat) : Int) := by
 have e1 : IntKind.i64.wrap ((i : Int) + j) = (i : Int) + j := wrap_i64 (by omega) (by omega)
 have e2 : IntKind.u64.wrap ((i : Int) + j) = (i : Int) + j := by simp [IntKind.wrap, IntKind.signed, IntKind.bits]; omega
 have e3 : (2 : Int) ^ (min (1 : Int).toNat IntKind.u64.bits) = 2 := by decide
 rw [e1, e2, e3]
 have e4 : ((i : Int) + j).fdiv 2 = (((i + j) / 2 : Nat) : Int) := by rw [Int.fdiv_eq_ediv_of_nonneg _ (by omega)]; omega
 rw [e4]
 exact wrap_i64 (by omega) (by omega)
def y14 {α : Type} (p : α → Bool) : List α → Int
 | [] => -1
 | x :: l => if p x then 0 else if y14 p l < 0 then -1 else y14 p l + 1
theorem z03 {α : Type} {p : α → Bool} : ∀ {l : List α} {i : Nat} {x : α}, l[i]? = some x → (∀ (j : Nat) (y : α), j < i → l[j]? = some y → p y = false) → p x = true → y14 p l = i
 | y :: l, 0, x, h, _, hx => by simp at h; subst h; rw [y14, if_pos hx]; rfl
 | y :: l, i + 1, x, h, h0, hx => by
   have ih := z03 (l := l) (by simpa using h) (fun j z hj hz => h0 (j + 1) z (by omega) (by simpa using hz)) hx
   rw [y14, if_neg (by rw [h0 0 y (by omega) rfl]; decide), ih, if_neg (by omega)]
   omega
theorem qx {α : Type} {p : α → Bool} : ∀ {l : List α}, (∀ (j : Nat) (y : α), l[j]? = some y → p y = false) → y14 p l = -1
 | [], _ => rfl
 | y :: l, h => by
   rw [y14, if_neg (by rw [h 0 y rfl]; decide), qx (l := l) (fun j z hz => h (j + 1) z (by simpa using hz))]
   rfl
theorem q0b {α : Type} {p : α → Bool} : ∀ {l : List α}, decide (y14 p l ≥ 0) = l.any p
 | [] => rfl
 | y :: l => by
   have ih := q0b (p := p) (l := l)
   rw [y14, List.any_cons]
   by_cases h : p y = true
   · rw [if_pos h, h]; rfl
   · rw [if_neg h, show p y = false by simpa using h, Bool.false_or, ← ih]
     by_cases h2 : y14 p l < 0
     · rw [if_pos h2, show decide (y14 p l ≥ 0) = false by simp; omega]; rfl
     · rw [if_neg h2, show decide (y14 p l ≥ 0) = true by simp; omega]; simp; omega
def bsC {α : Type} (f : α → Int) (us : List α) (k : Nat) : Bool := match us[k]? with | some x => decide (f x < 0) | none => false
def bsP {α : Type} (f : α → Int) (us : List α) : Nat := bsr (bsC f us) 0 us.length
def bsF {α : Type} (f : α → Int) (us : List α) : Bool := match us[bsP f us]? with | some x => f x == 0 | none => false
def bsV {α : Type} (f : α → Int) (us : List α) : Res := .tup [.own false [.s (.int .i64 (bsP f us))], .own false [.s (.bool (bsF f us))]]
theorem z6q {c : Nat → Bool} {i j : Nat} (h : i < j) (hc : c ((i + j) / 2) = true) : bsr c i j = bsr c ((i + j) / 2 + 1) j := by rw [bsr, dif_pos h, if_pos hc]
theorem q6p {c : Nat → Bool} {i j : Nat} (h : i < j) (hc : c ((i + j) / 2) = false) : bsr c i j = bsr c i ((i + j) / 2) := by rw [bsr, dif_pos h, if_neg (by rw [hc]; decide)]
theorem q51 {c : Nat → Bool} {i j : Nat} (h : ¬ i < j) : bsr c i j = i := by rw [bsr, dif_neg h]
theorem q2i {α : Type} {f : α → Int} {us : List α} {k : Nat} {x : α} (h : us[k]? = some x) : bsC f us k = decide (f x < 0) := by unfold bsC; rw [h]
theorem z2j {α : Type} {f : α → Int} {us : List α} {k : Nat} {x : α} (hk : bsP f us = k) (h : us[k]? = some x) : bsF f us = (f x == 0) := by unfold bsF; rw [hk, h]
theorem z3r {α : Type} {f : α → Int} {us : List α} {k : Nat} (hk : bsP f us = k) (h : us.length ≤ k) : bsF f us = false := by unfold bsF; rw [hk, List.getElem?_eq_none h]
theorem q90 {i j : Nat} (hi : i ≤ 1048576) (hj : j ≤ 1048576) : 0 ≤ IntKind.i64.wrap ((IntKind.u64.wrap (IntKind.i64.wrap ((i : Int) + j))).fdiv (2 ^ (min (1 : Int).toNat IntKind.u64.bits))) := by rw [half hi hj]; exact Int.natCast_nonneg _
theorem z91 {α β : Type} {us : List α} {x : α} {i j : Nat} (f : α → β) (hi : i ≤ 1048576) (hj : j ≤ 1048576) (h : us[(i + j) / 2]? = some x) : (us.map f)[(IntKind.i64.wrap ((IntKind.u64.wrap (IntKind.i64.wrap ((i : Int) + j))).fdiv (2 ^ (min (1 : Int).toNat IntKind.u64.bits)))).toNat]? = some (f x) := by
 rw [half hi hj, Int.toNat_natCast]; exact gm f h
def q07 (p x : Bal) : Int := orr [q0c p.a x.a, q0c p.b x.b]
def z4b (us : List Bal) (a b : Int) : Int := bif bsF (fun x : Bal => q07 x ⟨a, b, 0⟩) us then (match us[bsP (fun x : Bal => q07 x ⟨a, b, 0⟩) us]? with | some x => x.v | none => 0) else 0
def q83 (us : List Bal) (l : Leg) : Int := if z4b us l.a l.b + l.v < 0 then 6 else if 1000000000000 < z4b us l.a l.b + l.v then 3 else 0
def q1u (us : List Mk) (c : Int) : Int := bif bsF (fun x : Mk => q0c x.c c) us then (match us[bsP (fun x : Mk => q0c x.c c) us]? with | some x => x.v | none => 0) else 0
theorem q1w {p x : Bal} (hp : p.bad = false) (hx : x.bad = false) : (0 ≤ q07 p x) ↔ ¬ p.key < x.key := by
 simp [Bal.bad, within] at hp hx
 unfold q07 q0c orr orr orr Bal.key
 split <;> split <;> (try split) <;> (try split) <;> omega
def q3y (hs : List Con) (c : Int) : Bool := hs.any fun x => x.id == c
def y4x (a b : List Leg) : Bool := a.any fun x => b.any fun y => x.a == y.a && x.b == y.b
theorem yp {α : Type} {p : α → Bool} {l : List α} {i : Nat} {x : α} (h : l[i]? = some x) (hx : p x = true) : true = l.any p := (List.any_eq_true.2 ⟨x, List.mem_of_getElem? h, hx⟩).symm
theorem any_none {α : Type} {p : α → Bool} {l : List α} (h : ∀ (j : Nat) (y : α), l[j]? = some y → p y = false) : false = l.any p := by
 rw [eq_comm, List.any_eq_false]
 intro x hx
 obtain ⟨j, hj⟩ := List.mem_iff_getElem?.1 hx
 rw [h j x hj]; decide
theorem z0x {α : Type} {p : α → Bool} {l : List α} {i : Nat} {x : α} (h : l[i]? = some x) : (l.take (i + 1)).filter p = (l.take i).filter p ++ (if p x then [x] else []) := by
 rw [List.take_add_one, h, List.filter_append]
 simp [List.filter_cons]
theorem q8j {α : Type} {f : α → Int} {us : List α} (h : us[bsP f us]? = none) : bsF f us = false := by unfold bsF; rw [h]
theorem z50 {us : List Bal} {a b : Int} (h : bsF (fun x : Bal => q07 x ⟨a, b, 0⟩) us = false) : 0 = z4b us a b := by unfold z4b; rw [h]; rfl
theorem q5k {us : List Bal} {a b : Int} {x : Bal} (h : bsF (fun x : Bal => q07 x ⟨a, b, 0⟩) us = true) (hq : us[bsP (fun x : Bal => q07 x ⟨a, b, 0⟩) us]? = some x) : x.v = z4b us a b := by unfold z4b; rw [h, hq]; rfl
theorem q41 {us : List Mk} {c : Int} (h : bsF (fun x : Mk => q0c x.c c) us = false) : 0 = q1u us c := by unfold q1u; rw [h]; rfl
theorem q4m {us : List Mk} {c : Int} {x : Mk} (h : bsF (fun x : Mk => q0c x.c c) us = true) (hq : us[bsP (fun x : Mk => q0c x.c c) us]? = some x) : x.v = q1u us c := by unfold q1u; rw [h, hq]; rfl
end Go.Sx
end
section
namespace Go.Sx
def q12 (l : List Leg) (a : Int) : Int := (l.map fun x => if x.b = a then x.v else 0).sum
def z1o (l : List Leg) : Bool := decide (q12 l 0 ≠ 0) || (decide (q12 l 1 ≠ 0) || decide (q12 l 2 ≠ 0))
def q34 (l : List Leg) (i : Nat) : Int := match l[i]? with | some x => if x.fault ≠ 0 then x.fault else if (l.take i).any (fun y => y.same x) then 7 else 0 | none => 0
def zm (c : Con) : Int := if within c.id 1 1000000000 then (if 2 ≤ c.legs.length ∧ c.legs.length ≤ 8 then (if scan (q34 c.legs) c.legs.length ≠ 0 then scan (q34 c.legs) c.legs.length else if z1o c.legs then 1 else 0) else 2) else 3
theorem y7h (l : List Leg) (x : Leg) (a : Int) : q12 (l ++ [x]) a = q12 l a + if x.b = a then x.v else 0 := by simp [q12]
theorem y1y {l : List Leg} {i : Nat} {x : Leg} (h : l[i]? = some x) (a : Int) : q12 (l.take (i + 1)) a = q12 (l.take i) a + if x.b = a then x.v else 0 := by
 rw [List.take_add_one, h]; exact y7h _ _ _
def Leg.small (x : Leg) : Prop := -1000000000000 ≤ x.v ∧ x.v ≤ 1000000000000
theorem Leg.q06 {x : Leg} (h : x.fault = 0) : (0 ≤ x.s ∧ x.s ≤ 2) ∧ (0 ≤ x.a ∧ x.a ≤ 5) ∧ (0 ≤ x.b ∧ x.b ≤ 2) ∧ x.small ∧ x.v ≠ 0 := by
 unfold Leg.fault at h
 split at h
 · omega
 · rename_i hb
   split at h
   · omega
   · rename_i hv
     simp [Leg.bad, within] at hb
     unfold Leg.small
     omega
theorem z48 : ∀ (l : List Leg) (a : Int), (∀ x ∈ l, x.small) → -1000000000000 * (l.length : Int) ≤ q12 l a ∧ q12 l a ≤ 1000000000000 * (l.length : Int)
 | [], a, _ => by simp [q12]
 | x :: l, a, h => by
   have h1 := z48 l a (fun y hy => h y (List.mem_cons_of_mem _ hy))
   have h2 := h x List.mem_cons_self
   unfold Leg.small at h2
   have e : q12 (x :: l) a = (if x.b = a then x.v else 0) + q12 l a := by simp [q12]
   rw [e, List.length_cons]
   split <;> omega
theorem q4t : ∀ (l : List Leg) (a : Int), (∀ x ∈ l, x.b ≠ a) → q12 l a = 0
 | [], _, _ => rfl
 | x :: l, a, h => by
   have e : q12 (x :: l) a = (if x.b = a then x.v else 0) + q12 l a := by simp [q12]
   rw [e, if_neg (h x List.mem_cons_self), q4t l a (fun y hy => h y (List.mem_cons_of_mem _ hy))]
   rfl
theorem z1c {l : List Leg} {i : Nat} (h : ∀ j, j < i → q34 l j = 0) : ∀ x ∈ l.take i, x.fault = 0 := fun x hx => by
 obtain ⟨j, hj⟩ := List.mem_iff_getElem?.1 hx
 rw [List.getElem?_take] at hj
 split at hj
 · rename_i hlt
   have := h j hlt
   simp only [q34, hj] at this
   split at this
   · exact absurd this ‹_›
   · simp_all
 · cases hj
theorem q6d {l : List Leg} (h : ∀ a, q12 l a = 0) : z1o l = false := by simp [z1o, h]
theorem y31 {l : List Leg} (hf : ∀ x ∈ l, x.fault = 0) {a : Int} (h : q12 l a ≠ 0) : z1o l = true := by
 have : ∃ x ∈ l, x.b = a := by
  by_cases hx : ∃ x ∈ l, x.b = a
  · exact hx
  · exact absurd (q4t l a (fun x hm e => hx ⟨x, hm, e⟩)) h
 obtain ⟨x, hm, rfl⟩ := this
 have h0 := (Leg.q06 (hf x hm)).2.2.1
 have : x.b = 0 ∨ x.b = 1 ∨ x.b = 2 := by omega
 rcases this with e | e | e <;> rw [e] at h <;> simp [z1o, h]
def z4q (l : List Leg) : List (List Cell) := [[i64 (q12 l 0)], [i64 (q12 l 1)], [i64 (q12 l 2)]]
theorem y4q {l : List Leg} {b : Int} (h0 : 0 ≤ b) (h2 : b ≤ 2) : (z4q l)[b.toNat]? = some [i64 (q12 l b)] := by
 have : b = 0 ∨ b = 1 ∨ b = 2 := by omega
 rcases this with rfl | rfl | rfl <;> rfl
theorem q6b {l : List Leg} {i : Nat} {x : Leg} (hi : l[i]? = some x) (h0 : 0 ≤ x.b) (h2 : x.b ≤ 2) (hd : ∀ y ∈ l.take i, y.fault = 0) (hx : x.fault = 0) (hn : i ≤ 8) :
 (z4q (l.take i)).set x.b.toNat [i64 (IntKind.i64.wrap (q12 (l.take i) x.b + x.v))] = z4q (l.take (i + 1)) := by
 have hb := z48 (l.take i) x.b (fun y hy => (Leg.q06 (hd y hy)).2.2.2.1)
 have hs := (Leg.q06 hx).2.2.2.1
 unfold Leg.small at hs
 have hlen : (l.take i).length ≤ 8 := by rw [List.length_take]; omega
 rw [wrap_i64 (by omega) (by omega)]
 unfold z4q
 rw [y1y hi, y1y hi, y1y hi]
 have : x.b = 0 ∨ x.b = 1 ∨ x.b = 2 := by omega
 rcases this with e | e | e <;> rw [e] <;> simp
def SM (l : List Leg) (D : DataW Unit) : Prop := Maps.IsMap D ∧ ∀ a : Int, D.atKey (.int .i64 a) (.lit (.int .i64 0)) = .lit (.int .i64 (q12 l a))
theorem y9p : SM [] (.map []) := ⟨Maps.isMap_empty, fun _ => rfl⟩
theorem y2v {k : IntKind} {a b : Int} (h : (DataW.lit (.int k a) : DataW Unit) = .lit (.int k b)) : a = b := by simpa using h
theorem z6k {l : List Leg} {i : Nat} {x : Leg} {D : DataW Unit} (h : SM (l.take i) D) (hx : x.fault = 0) (hd : ∀ y ∈ l.take i, y.fault = 0) (hn : i ≤ 8) {c : Int} (hc : D.atKey (.int .i64 x.b) (.lit (.int .i64 0)) = .lit (.int .i64 c)) :
 c = q12 (l.take i) x.b ∧ IntKind.i64.wrap (c + x.v) = q12 (l.take i) x.b + x.v := by
 have e : c = q12 (l.take i) x.b := y2v (hc.symm.trans (h.2 x.b))
 have b := z48 (l.take i) x.b (fun y hy => (Leg.q06 (hd y hy)).2.2.2.1)
 have hs := (Leg.q06 hx).2.2.2.1
 unfold Leg.small at hs
 have hlen : (l.take i).length ≤ 8 := by rw [List.length_take]; omega
 refine ⟨e, ?_⟩
 rw [e, wrap_i64 (by omega) (by omega)]
theorem q8t {l : List Leg} {i : Nat} {x : Leg} {D : DataW Unit} (h : SM (l.take i) D) (hi : l[i]? = some x) (hx : x.fault = 0) (hd : ∀ y ∈ l.take i, y.fault = 0) (hn : i ≤ 8) {c : Int} (hc : D.atKey (.int .i64 x.b) (.lit (.int .i64 0)) = .lit (.int .i64 c)) :
 SM (l.take (i + 1)) (D.put (.int .i64 x.b) (.lit (.int .i64 (IntKind.i64.wrap (c + x.v))))) := by
 refine ⟨h.1.put _ _, fun a => ?_⟩
 rw [y1y hi, (z6k h hx hd hn hc).2]
 by_cases ha : x.b = a
 · rw [if_pos ha, ← ha]
   exact Maps.atKey_put_same (k := .int .i64 x.b) h.1 trivial _ _
 · rw [if_neg ha, Maps.atKey_put_other (by intro e'; injection e' with _ e'; exact ha e'.symm), h.2 a]
   simp
theorem wfi {n : Int} (h1 : -9223372036854775808 ≤ n) (h2 : n ≤ 9223372036854775807) : (Lit.int .i64 n).wf = true := by
 simp [Lit.wf, IntKind.min, IntKind.max, IntKind.signed, IntKind.bits]; omega
theorem qa1 {l : List Leg} {left : Lit → Bool} {y c : Int} (h : ∀ a : Int, left (.int .i64 a) = false → q12 l a = 0) (hc : q12 l y = c) (h0 : c = 0) : ∀ a : Int, (left (.int .i64 a) && !(Lit.int .i64 a).sameKey (.int .i64 y)) = false → q12 l a = 0 := fun a ha => by
 by_cases e : a = y
 · subst e; rw [hc]; exact h0
 · refine h a ?_
   have h1 : (Lit.int IntKind.i64 a).sameKey (Lit.int IntKind.i64 y) = false := Maps.sameKey_ne (fun h => e (by injection h))
   simpa [h1] using ha
theorem y8t {l : List Leg} {D : DataW Unit} (h : SM l D) : ∀ a : Int, Maps.has D (.int .i64 a) = false → q12 l a = 0 := fun a ha => y2v ((h.2 a).symm.trans (Maps.atKey_of_not_has ha _))
theorem qae {l : List Leg} {D : DataW Unit} (h : SM l D) {y c : Int} (hat : ∀ zd, D.atKey (.int .i64 y) zd = .lit (.int .i64 c)) : q12 l y = c := y2v ((h.2 y).symm.trans (hat _))
end Go.Sx
end
section
namespace Go.Sx
def y6k {α : Type} (f : α → Int) (us : List α) : Prop := ∀ (i j : Nat) (x y : α), i < j → us[i]? = some x → us[j]? = some y → f y ≤ 0 → f x < 0
theorem y3r {α : Type} {f : α → Int} {us : List α} (hs : y6k f us) {i : Nat} {x : α} (hx : us[i]? = some x) (h0 : f x = 0) : bsP f us = i ∧ bsF f us = true := by
 have hi : i < us.length := (List.getElem?_eq_some_iff.1 hx).1
 have hp : bsP f us = i := q9t (n := us.length) (fun k hk => by
  obtain ⟨y, hy⟩ := gx hk
  rw [q2i hy]
  rcases Nat.lt_trichotomy k i with h | h | h
  · have := hs k i y x h hy hx (by omega)
    rw [decide_eq_true this, decide_eq_true h]
  · subst h; rw [hx] at hy; cases hy; rw [decide_eq_false (by omega), decide_eq_false (by omega)]
  · have : ¬ f y < 0 := fun h1 => by have := hs i k x y h hx hy (by omega); omega
    rw [decide_eq_false this, decide_eq_false (by omega)]) 0 us.length (Nat.zero_le _) (Nat.le_of_lt hi) (Nat.le_refl _)
 refine ⟨hp, ?_⟩
 rw [z2j hp hx, h0]; rfl
theorem y51 {α : Type} {f : α → Int} {us : List α} (h : ∀ (i : Nat) (x : α), us[i]? = some x → f x ≠ 0) : bsF f us = false := by
 unfold bsF
 split
 · rename_i x hx; have := h _ x hx; simpa using this
 · rfl
theorem z3s {α : Type} {key : α → Int} {us : List α} (h : ∀ (j : Nat) (p x : α), us[j]? = some p → us[j + 1]? = some x → key p < key x) : ∀ (i j : Nat) (x y : α), i < j → us[i]? = some x → us[j]? = some y → key x < key y := by
 intro i j
 induction j with
 | zero => intro x y hij; omega
 | succ j ih =>
   intro x y hij hx hy
   have hj : j < us.length := by have := (List.getElem?_eq_some_iff.1 hy).1; omega
   obtain ⟨z, hz⟩ := gx hj
   have h1 := h j z y hz hy
   rcases Nat.lt_or_ge i j with h2 | h2
   · have := ih x z h2 hx hz; omega
   · have : i = j := by omega
     subst this; rw [hx] at hz; cases hz; exact h1
theorem y8y {a b : Int} : q0c a b ≤ 0 ↔ a ≤ b := by unfold q0c; split <;> (try split) <;> omega
theorem q8y {a b : Int} : q0c a b < 0 ↔ a < b := by unfold q0c; split <;> (try split) <;> omega
theorem q3s {a b : Int} : q0c a b = 0 ↔ a = b := by unfold q0c; split <;> (try split) <;> omega
theorem z1y {α : Type} {key : α → Int} {us : List α} (h : ∀ (i j : Nat) (x y : α), i < j → us[i]? = some x → us[j]? = some y → key x < key y) (c : Int) : y6k (fun x => q0c (key x) c) us := fun i j x y hij hx hy h0 => by
 have := h i j x y hij hx hy
 rw [y8y] at h0
 exact q8y.2 (by omega)
theorem y0y {us : List Mk} (h : qg us = 0) : ∀ (i j : Nat) (x y : Mk), i < j → us[i]? = some x → us[j]? = some y → x.c < y.c :=
 z3s (key := Mk.c) (fun j p x hp hx => by
  have hj := (List.getElem?_eq_some_iff.1 hx).1
  have := yw h (j + 1) hj
  simp only [y1u, hx] at this
  split at this
  · omega
  · split at this
    · rename_i ha
      rw [y9 (p := p) (by omega) (by simpa using hp)] at ha
      simpa using ha
    · omega)
theorem z25 {us : List Mk} (h : qg us = 0) (c : Int) : q1u us c = q0e us c := by
 by_cases hx : ∃ (i : Nat) (x : Mk), us[i]? = some x ∧ x.c = c
 · obtain ⟨i, x, hx, e⟩ := hx
   have hc := y0y h
   obtain ⟨h1, h2⟩ := y3r (z1y (key := Mk.c) hc c) hx (q3s.2 e)
   rw [← q4m h2 (by rw [h1]; exact hx)]
   exact (q13 hx (fun j y hj hy e' => by have := hc j i y x hj hy hx; omega) e).symm
 · have hn : ∀ (i : Nat) (x : Mk), us[i]? = some x → ¬ x.c = c := fun i x h1 h2 => hx ⟨i, x, h1, h2⟩
   rw [← q41 (y51 (f := fun x : Mk => q0c x.c c) (fun i x h1 => fun h2 => hn i x h1 (q3s.1 h2)))]
   exact (y0t hn).symm
theorem zt {us : List Bal} (h : qd us = 0) : us.length ≤ 18 ∧ (∀ x ∈ us, x.bad = false) ∧ ∀ (i j : Nat) (x y : Bal), i < j → us[i]? = some x → us[j]? = some y → x.key < y.key := by
 unfold qd at h
 split at h
 · omega
 · rename_i hl
   refine ⟨by omega, fun x hx => ?_, z3s (key := Bal.key) (fun j p x hp hx => ?_)⟩
   · obtain ⟨j, hj⟩ := List.mem_iff_getElem?.1 hx
     exact q50 hj (yw h j (List.getElem?_eq_some_iff.1 hj).1)
   · have hj := (List.getElem?_eq_some_iff.1 hx).1
     have := yw h (j + 1) hj
     simp only [y28, hx] at this
     split at this
     · omega
     · split at this
       · rename_i ha
         rw [y9 (p := p) (by omega) (by simpa using hp)] at ha
         simpa using ha
       · omega
theorem q4p {x : Bal} {a b : Int} : q07 x ⟨a, b, 0⟩ = 0 ↔ x.a = a ∧ x.b = b := by
 unfold q07 q0c orr orr orr
 dsimp only
 repeat' split
 all_goals omega
theorem q43 {x y t : Bal} (hx : x.bad = false) (hy : y.bad = false) (h : x.key < y.key) (h0 : q07 y t ≤ 0) : q07 x t < 0 := by
 simp [Bal.bad, within] at hx hy
 unfold Bal.key at h
 revert h0
 unfold q07 q0c orr orr orr
 intro h0
 repeat' split
 all_goals (repeat' split at h0)
 all_goals omega
theorem y5k {us : List Bal} (h : qd us = 0) (a b : Int) : z4b us a b = hasB us a b := by
 obtain ⟨_, hb, hc⟩ := zt h
 by_cases hx : ∃ (i : Nat) (x : Bal), us[i]? = some x ∧ x.a = a ∧ x.b = b
 · obtain ⟨i, x, hx, e⟩ := hx
   have hs : y6k (fun x : Bal => q07 x ⟨a, b, 0⟩) us := fun i j x y hij h1 h2 h0 => q43 (hb x (List.mem_of_getElem? h1)) (hb y (List.mem_of_getElem? h2)) (hc i j x y hij h1 h2) h0
   obtain ⟨h1, h2⟩ := y3r hs hx (q4p.2 e)
   rw [← q5k h2 (by rw [h1]; exact hx)]
   exact (y3w hx (fun j y hj hy e' => by
    have h3 := hc j i y x hj hy hx
    have h4 : y.key = x.key := by unfold Bal.key; rw [e'.1, e'.2, e.1, e.2]
    omega) e).symm
 · have hn : ∀ (i : Nat) (x : Bal), us[i]? = some x → ¬ (x.a = a ∧ x.b = b) := fun i x h1 h2 => hx ⟨i, x, h1, h2⟩
   rw [← z50 (y51 (f := fun x : Bal => q07 x ⟨a, b, 0⟩) (fun i x h1 => fun h2 => hn i x h1 (q4p.1 h2)))]
   exact (z2t hn).symm
theorem y6y {us : List Bal} (h : ∀ x ∈ us, x.bad = false) (a b : Int) : 0 ≤ hasB us a b ∧ hasB us a b ≤ 1000000000000 := by
 induction us with
 | nil => simp [hasB]
 | cons y us ih =>
   rw [hasB]
   split
   · have := h y List.mem_cons_self
     simp [Bal.bad, within] at this
     omega
   · exact ih (fun x hx => h x (List.mem_cons_of_mem _ hx))
def q1f (mk : List Mk → Int → Int) (s : Shd) (i : Nat) : Int := match s.held[i]? with
 | some c => if zm c ≠ 0 then zm c else if (!(ahead (fun p x : Con => decide (p.id < x.id)) s.held i c)) || ((zf c s.idx).length == 0 || (mk s.votes c.id != 1 || mk s.done c.id != 0)) then 1 else 0
 | none => 0
def zn (mk : List Mk → Int → Int) (s : Shd) : Int := scan (q1f mk s) s.held.length
def z6a (s : Shd) (m : Mk) : Bool := m.v == 1 && (!(bsF (fun x : Con => q0c x.id m.c) s.held) && q1u s.done m.c == 0)
def y39 (s : Shd) (m : Mk) : Bool := m.v == 1 && (!(q3y s.held m.c) && q0e s.done m.c == 0)
def y68 (s : Shd) (a b : Con) : Bool := (zf a s.idx).any fun l => (zf b s.idx).any fun m => l.same m
def y1h (s : Shd) (i : Nat) : Int := match s.held[i]? with | some c => if (s.held.take i).any fun own => y68 s own c then 7 else 0 | none => 0
def z16 (s : Shd) (i : Nat) : Int := match s.held[i]? with | some c => if (s.held.take i).any fun own => y4x (zf c s.idx) (zf own s.idx) then 7 else 0 | none => 0
def y3h (us : List Bal) (ls : List Leg) (i : Nat) : Int := match ls[i]? with | some l => q83 us l | none => 0
def z1h (us : List Bal) (ls : List Leg) : Int := scan (y3h us ls) ls.length
def z63 (code : List Bal → List Leg → Int) (s : Shd) (i : Nat) : Int := match s.held[i]? with | some c => code s.bals (zf c s.idx) | none => 0
def y03 (meet : Shd → Nat → Int) (code : List Bal → List Leg → Int) (s : Shd) : Int := if scan (meet s) s.held.length ≠ 0 then scan (meet s) s.held.length else scan (z63 code s) s.held.length
end Go.Sx
end
section
namespace Go.Sx
theorem y0i {c : Con} (h : zm c = 0) : (1 ≤ c.id ∧ c.id ≤ 1000000000) ∧ (2 ≤ c.legs.length ∧ c.legs.length ≤ 8) ∧ ∀ l ∈ c.legs, l.fault = 0 := by
 unfold zm at h
 split at h
 · rename_i h1
   split at h
   · rename_i h2
     split at h
     · rename_i h3; exact absurd h h3
     · rename_i h3
       have h3 : scan (q34 c.legs) c.legs.length = 0 := by simpa using h3
       refine ⟨Go.Sx.within_iff.1 h1, h2, fun l hl => ?_⟩
       exact z1c (i := c.legs.length) (yw h3) l (by rwa [List.take_length])
   · omega
 · omega
theorem z3x {mk : List Mk → Int → Int} {s : Shd} (h : zn mk s = 0) : ∀ c ∈ s.held, zm c = 0 := fun c hc => by
 obtain ⟨j, hj⟩ := List.mem_iff_getElem?.1 hc
 have := yw h j (List.getElem?_eq_some_iff.1 hj).1
 simp only [q1f, hj] at this
 split at this
 · rename_i h1; exact absurd this h1
 · rename_i h1; simpa using h1
theorem z64 {mk : List Mk → Int → Int} {s : Shd} (h : zn mk s = 0) : ∀ (i j : Nat) (x y : Con), i < j → s.held[i]? = some x → s.held[j]? = some y → x.id < y.id :=
 z3s (key := Con.id) (fun j p x hp hx => by
  have hj := (List.getElem?_eq_some_iff.1 hx).1
  have := yw h (j + 1) hj
  simp only [q1f, hx] at this
  split at this
  · rename_i h1; exact absurd this h1
  · split at this
    · omega
    · rename_i ha
      rw [y9 (p := p) (by omega) (by simpa using hp)] at ha
      simp at ha
      exact ha.1)
theorem z6z {s : Shd} (hb : qd s.bals = 0) {c : Con} (hc : zm c = 0) : ∀ l ∈ zf c s.idx, -9000000000000000000 ≤ hasB s.bals l.a l.b + l.v ∧ hasB s.bals l.a l.b + l.v ≤ 9000000000000000000 := fun l hl => by
 have h1 := y6y (zt hb).2.1 l.a l.b
 have h2 := (Leg.q06 ((y0i hc).2.2 l (List.mem_filter.1 hl).1)).2.2.2.1
 unfold Leg.small at h2
 omega
theorem y7z {s : Shd} (hb : qd s.bals = 0) {c : Con} (hc : zm c = 0) : ∀ l ∈ zf c s.idx, -9000000000000000000 ≤ z4b s.bals l.a l.b + l.v ∧ z4b s.bals l.a l.b + l.v ≤ 9000000000000000000 := fun l hl => by
 rw [y5k hb]; exact z6z hb hc l hl
theorem y74 {us : List Bal} (h : qd us = 0) (ls : List Leg) : z1h us ls = z39 us ls := by
 unfold z1h z39
 refine z0v (fun j hj _ => ?_)
 unfold y3h y66
 cases ls[j]? with
 | some l => simp only [q83, yaa, y5k h]
 | none => rfl
theorem z4j {s : Shd} (hv : qg s.votes = 0) (hd : qg s.done = 0) : zn q1u s = zn q0e s := by
 unfold zn
 refine z0v (fun j hj _ => ?_)
 unfold q1f
 split
 · rw [z25 hv, z25 hd]
 · rfl
theorem z71 {s : Shd} {mk : List Mk → Int → Int} (h : zn mk s = 0) (c : Int) : bsF (fun x : Con => q0c x.id c) s.held = q3y s.held c := by
 by_cases hx : ∃ (i : Nat) (x : Con), s.held[i]? = some x ∧ x.id = c
 · obtain ⟨i, x, hx, e⟩ := hx
   rw [(y3r (z1y (key := Con.id) (z64 h) c) hx (q3s.2 e)).2]
   exact yp hx (by simp [e])
 · have hn : ∀ (i : Nat) (x : Con), s.held[i]? = some x → ¬ x.id = c := fun i x h1 h2 => hx ⟨i, x, h1, h2⟩
   rw [y51 (f := fun x : Con => q0c x.id c) (fun i x h1 h2 => hn i x h1 (q3s.1 h2))]
   exact any_none (fun i x h1 => by simpa using hn i x h1)
theorem q68 (s : Shd) (a b : Con) : y68 s a b = y4x (zf b s.idx) (zf a s.idx) := by
 unfold y68 y4x
 rw [Bool.eq_iff_iff]
 simp only [List.any_eq_true]
 have hs : ∀ {c : Con} {l : Leg}, l ∈ zf c s.idx → l.s = s.idx := fun {c l} hl => by simpa using (List.mem_filter.1 hl).2
 constructor
 · rintro ⟨l, hl, m, hm, h⟩
   refine ⟨m, hm, l, hl, ?_⟩
   simp [Leg.same] at h ⊢
   omega
 · rintro ⟨m, hm, l, hl, h⟩
   refine ⟨l, hl, m, hm, ?_⟩
   have h1 := hs hl
   have h2 := hs hm
   simp [Leg.same] at h ⊢
   omega
theorem y5h {s : Shd} (h : qd s.bals = 0) : y03 y1h z1h s = y03 z16 z39 s := by
 have e1 : scan (y1h s) s.held.length = scan (z16 s) s.held.length := z0v (fun j _ _ => by
  unfold y1h z16
  split
  · simp only [q68]
  · rfl)
 have e2 : scan (z63 z1h s) s.held.length = scan (z63 z39 s) s.held.length := z0v (fun j _ _ => by
  unfold z63
  split
  · exact y74 h _
  · rfl)
 unfold y03
 rw [e1, e2]
def q7s (s : Shd) (i : Nat) : Int := match s.app[i]? with | some a => if q0e s.done a != 1 || ((s.app.take i).any fun y => y == a) then 1 else 0 | none => 0
def q36 (us : List Mk) : Nat := (us.filter fun m => m.v == 1).length
theorem y61 {us : List Mk} {i : Nat} {x : Mk} (h : us[i]? = some x) : q36 (us.take (i + 1)) = q36 (us.take i) + (if x.v == 1 then 1 else 0) := by
 unfold q36
 rw [z0x h, List.length_append]
 split <;> rfl
theorem q5m (us : List Mk) (i : Nat) : q36 (us.take i) ≤ i := by
 unfold q36
 exact Nat.le_trans (List.length_filter_le _ _) (by rw [List.length_take]; omega)
def z4y (s : Shd) : Bool := scan (q7s s) s.app.length == 0 && q36 s.done == s.app.length
def many (s : Shd) : Bool := decide (100 < s.votes.length) || (decide (100 < s.held.length) || (decide (100 < s.done.length) || decide (100 < s.app.length)))
def z0r (s : Shd) : Int :=
 if zn q0e s ≠ 0 then zn q0e s else if s.votes.any (y39 s) then 1 else if z4y s then y03 z16 z39 s else 1
def zh (s : Shd) : Int :=
 if within s.idx 0 2 then (if qd s.bals ≠ 0 then qd s.bals else if many s then 2 else if qg s.votes ≠ 0 then qg s.votes else if qg s.done ≠ 0 then qg s.done else z0r s) else 3
def y1n (ok : Bool) (s : Shd) : Int :=
 if within s.idx 0 2 then (if qd s.bals ≠ 0 then qd s.bals else if many s then 2 else
  if orr [qg s.votes, qg s.done, zn q1u s] ≠ 0 then orr [qg s.votes, qg s.done, zn q1u s] else
  if s.votes.any (z6a s) || !ok then 1 else y03 y1h z1h s) else 3
theorem q46 (s : Shd) : y1n (z4y s) s = zh s := by
 unfold y1n zh z0r
 split
 · split
   · rfl
   · rename_i hb
     have hb : qd s.bals = 0 := by simpa using hb
     split
     · rfl
     · simp only [orr]
       by_cases hv : qg s.votes = 0
       · by_cases hd : qg s.done = 0
         · rw [z4j hv hd, y5h hb]
           by_cases hh : zn q0e s = 0
           · have : z6a s = y39 s := by
              funext m
              unfold z6a y39
              rw [z71 hh, z25 hd]
             rw [this]
             simp only [hv, hd, hh]
             cases s.votes.any (y39 s) <;> cases z4y s <;> simp
           · simp [hv, hd, hh]
         · simp [hv, hd]
       · simp [hv]
 · rfl
theorem q99 (s : Shd) : decide (mx (mx (mx ((s.votes.map Mk.cs).length : Nat) ((s.held.map Con.cs).length : Nat)) ((s.done.map Mk.cs).length : Nat)) ((ints s.app).length : Nat) > 100) = many s := by
 unfold many
 simp only [List.length_map, ints]
 rw [Bool.eq_iff_iff]
 simp only [Bool.or_eq_true, decide_eq_true_eq]
 unfold mx
 repeat' split
 all_goals omega
theorem qas {a b c : Int} (h : (orr [a, b, c] != 0) = false) : a = 0 ∧ b = 0 ∧ c = 0 := by
 simp only [orr] at h
 by_cases ha : a = 0 <;> by_cases hb : b = 0 <;> by_cases hc : c = 0 <;> simp_all
theorem y5t {s : Shd} {c : Int} (e : c = zn q0e s) (h : c ≠ 0) : c = z0r s := by unfold z0r; rw [if_pos (by rw [← e]; exact h)]; exact e
theorem q8a {s : Shd} (h : zn q0e s = 0) (ho : true = s.votes.any (y39 s)) : 1 = z0r s := by unfold z0r; rw [if_neg (by rw [h]; decide), if_pos ho.symm]
theorem z8b {s : Shd} (h : zn q0e s = 0) (ho : false = s.votes.any (y39 s)) (ha : z4y s = false) : 1 = z0r s := by unfold z0r; rw [if_neg (by rw [h]; decide), if_neg (by rw [← ho]; decide), if_neg (by rw [ha]; decide)]
theorem z47 {s : Shd} {c : Int} (h : zn q0e s = 0) (ho : false = s.votes.any (y39 s)) (ha : z4y s = true) (e : c = y03 z16 z39 s) : c = z0r s := by unfold z0r; rw [if_neg (by rw [h]; decide), if_neg (by rw [← ho]; decide), if_pos ha]; exact e
theorem q6f {meet : Shd → Nat → Int} {code : List Bal → List Leg → Int} {s : Shd} {c : Int} (e : c = scan (meet s) s.held.length) (h : c ≠ 0) : c = y03 meet code s := by unfold y03; rw [if_pos (by rw [← e]; exact h)]; exact e
theorem q3m {meet : Shd → Nat → Int} {code : List Bal → List Leg → Int} {s : Shd} {c : Int} (h : scan (meet s) s.held.length = 0) (e : c = scan (z63 code s) s.held.length) : c = y03 meet code s := by unfold y03; rw [if_neg (by rw [h]; decide)]; exact e
theorem y8j {t : Bool} {v : Int} (h : ((if t = true then v else 3) != 0) = false) : t = true ∧ v = 0 := by
 cases t with
 | true => exact ⟨rfl, by simpa using h⟩
 | false => simp at h
theorem q4r {s : Shd} (h : ((if within s.idx 0 2 = true then qd s.bals else 3) != 0) = true) : (if within s.idx 0 2 = true then qd s.bals else 3) = zh s := by
 unfold zh
 split
 · rename_i hw; rw [if_pos hw] at h; rw [if_pos (by simpa using h)]
 · rfl
theorem z4s {s : Shd} {c : Int} (h : within s.idx 0 2 = true ∧ qd s.bals = 0) (e : c = if many s then 2 else if qg s.votes ≠ 0 then qg s.votes else if qg s.done ≠ 0 then qg s.done else z0r s) : c = zh s := by
 unfold zh; rw [if_pos h.1, if_neg (by rw [h.2]; decide)]; exact e
end Go.Sx
end
section
namespace Go.Sx
theorem z77 {xs : List Int} : ∀ {ys : List Int}, xs.Nodup → (∀ x ∈ xs, x ∈ ys) → ∃ zs, ys.Perm (xs ++ zs) := by
 induction xs with
 | nil => intro ys _ _; exact ⟨ys, List.Perm.refl _⟩
 | cons x xs ih =>
   intro ys hn hm
   obtain ⟨hx, hn⟩ := List.nodup_cons.1 hn
   obtain ⟨zs, hz⟩ := ih (ys := ys.erase x) hn (fun y hy => (List.mem_erase_of_ne (fun e => hx (by rw [← e]; exact hy))).2 (hm y (List.mem_cons_of_mem _ hy)))
   exact ⟨zs, (List.perm_cons_erase (hm x List.mem_cons_self)).trans (hz.cons x)⟩
def dnI (us : List Mk) : List Int := (us.filter fun m => m.v == 1).map Mk.c
theorem y7x {us : List Mk} {i : Nat} {x : Mk} (h : us[i]? = some x) : dnI (us.take (i + 1)) = if x.v == 1 then dnI (us.take i) ++ [x.c] else dnI (us.take i) := by
 unfold dnI
 rw [z0x h, List.map_append]
 split
 · rfl
 · simp
theorem y6s (us : List Mk) : (dnI us).length = q36 us := by unfold dnI q36; rw [List.length_map]
theorem y17 {α : Type} {r : α → α → Prop} : ∀ {us : List α}, (∀ (i j : Nat) (x y : α), i < j → us[i]? = some x → us[j]? = some y → r x y) → us.Pairwise r
 | [], _ => List.Pairwise.nil
 | x :: us, h => List.Pairwise.cons (fun y hy => by
     obtain ⟨j, hj⟩ := List.mem_iff_getElem?.1 hy
     exact h 0 (j + 1) x y (by omega) rfl (by simpa using hj)) (y17 (us := us) (fun i j a b hij ha hb => h (i + 1) (j + 1) a b (by omega) (by simpa using ha) (by simpa using hb)))
theorem q8l {us : List Mk} (h : qg us = 0) : (dnI us).Pairwise (· < ·) := by
 unfold dnI
 rw [List.pairwise_map]
 exact (y17 (r := fun a b : Mk => a.c < b.c) (y0y h)).sublist List.filter_sublist
theorem y59 {us : List Int} (h : us.Pairwise (· < ·)) : us.Nodup := h.imp (fun h => by omega)
theorem z76 {us : List Mk} (h : qg us = 0) (c : Int) : c ∈ dnI us ↔ q0e us c = 1 := by
 unfold dnI
 rw [List.mem_map]
 constructor
 · rintro ⟨m, hm, rfl⟩
   obtain ⟨hm, hv⟩ := List.mem_filter.1 hm
   obtain ⟨i, hi⟩ := List.mem_iff_getElem?.1 hm
   rw [q13 hi (fun j y hj hy e => by have := y0y h j i y m hj hy hi; omega) rfl]
   simpa using hv
 · intro hc
   by_cases hx : ∃ (i : Nat) (x : Mk), us[i]? = some x ∧ x.c = c
   · obtain ⟨i, x, hx, e⟩ := hx
     have := q13 hx (fun j y hj hy e' => by have := y0y h j i y x hj hy hx; omega) e
     exact ⟨x, List.mem_filter.2 ⟨List.mem_of_getElem? hx, by simp; omega⟩, e⟩
   · have hn : ∀ (i : Nat) (x : Mk), us[i]? = some x → ¬ x.c = c := fun i x h1 h2 => hx ⟨i, x, h1, h2⟩
     rw [y0t hn] at hc; omega
theorem q76 : ∀ {us : List Int}, (∀ (i : Nat) (x : Int), us[i]? = some x → ¬ x ∈ us.take i) → us.Nodup := by
 intro us h
 exact y17 (fun i j x y hij hx hy e => h j y hy (by
  rw [← e]
  exact List.mem_iff_getElem?.2 ⟨i, by rw [List.getElem?_take_of_lt hij]; exact hx⟩))
theorem z7t {s : Shd} (h : qg s.done = 0) : z4y s = true ↔ (∀ x ∈ s.app, x ∈ dnI s.done) ∧ s.app.Nodup ∧ (dnI s.done).length = s.app.length := by
 unfold z4y
 rw [y6s]
 simp only [Bool.and_eq_true, beq_iff_eq]
 rw [← and_assoc]
 refine and_congr_left (fun _ => ?_)
 constructor
 · intro h0
   have hz : ∀ (i : Nat) (x : Int), s.app[i]? = some x → q0e s.done x = 1 ∧ ¬ x ∈ s.app.take i := fun i x hx => by
    have := yw h0 i (List.getElem?_eq_some_iff.1 hx).1
    simp only [q7s, hx] at this
    split at this
    · omega
    · rename_i h1
      simp at h1
      exact ⟨h1.1, h1.2⟩
   refine ⟨fun x hx => ?_, q76 fun i x hx => (hz i x hx).2⟩
   obtain ⟨i, hi⟩ := List.mem_iff_getElem?.1 hx
   exact (z76 h x).2 (hz i x hi).1
 · rintro ⟨h1, h2⟩
   refine yd (fun i hi => ?_)
   obtain ⟨x, hx⟩ := gx hi
   simp only [q7s, hx]
   rw [if_neg]
   have e := (z76 h x).1 (h1 x (List.mem_of_getElem? hx))
   have e2 : ¬ x ∈ s.app.take i := fun hm => by
    obtain ⟨j, hj⟩ := List.mem_iff_getElem?.1 hm
    have hji : j < i := by have := (List.getElem?_eq_some_iff.1 hj).1; rw [List.length_take] at this; omega
    rw [List.getElem?_take_of_lt hji] at hj
    obtain ⟨q1, q2⟩ := List.getElem?_eq_some_iff.1 hj
    obtain ⟨q3, q4⟩ := List.getElem?_eq_some_iff.1 hx
    have := (List.pairwise_iff_getElem.1 h2) j i q1 q3 hji
    exact this (by rw [q2, q4])
   simp [e]
   exact e2
def z12 (xs : List Int) : List Int := xs.mergeSort (fun a b => decide (a ≤ b))
theorem q5x {s : Shd} (h : qg s.done = 0) : (z12 s.app == dnI s.done) = z4y s := by
 rw [Bool.eq_iff_iff, z7t h, beq_iff_eq]
 unfold z12
 have hp := List.mergeSort_perm s.app (fun a b : Int => decide (a ≤ b))
 constructor
 · intro e
   rw [e] at hp
   exact ⟨fun x hx => hp.symm.subset hx, hp.nodup_iff.1 (y59 (q8l h)), hp.length_eq⟩
 · rintro ⟨h1, h2, h3⟩
   obtain ⟨zs, hz⟩ := z77 h2 h1
   have hl := hz.length_eq
   rw [List.length_append] at hl
   have hz0 : zs = [] := List.eq_nil_of_length_eq_zero (by omega)
   subst hz0
   rw [List.append_nil] at hz
   refine List.Perm.eq_of_pairwise (le := fun a b : Int => decide (a ≤ b) = true) (fun a b _ _ h1 h2 => by simp at h1 h2; omega) (List.pairwise_mergeSort (fun a b c h1 h2 => by simp at h1 h2 ⊢; omega) (fun a b => by simp; omega) _) ((q8l h).imp (fun h => by simp; omega)) (hp.trans hz.symm)
end Go.Sx
end
section
namespace Go.Sx
structure Msg where
 (k to fr c s b v ob ov : Int)
abbrev Msg.cs (m : Msg) : List Cell := [i64 m.k, i64 m.to, i64 m.fr, i64 m.c, i64 m.s, i64 m.b, i64 m.v, i64 m.ob, i64 m.ov]
structure Tr where
 (c s b v : Int)
 fr : List Int
 olds : List Vt
abbrev Tr.cs (t : Tr) : List Cell := [i64 t.c, i64 t.s, i64 t.b, i64 t.v, .l (ints t.fr), .l (t.olds.map Vt.cs)]
structure Hd where
 (c s b v f : Int)
abbrev Hd.cs (h : Hd) : List Cell := [i64 h.c, i64 h.s, i64 h.b, i64 h.v, i64 h.f]
structure Ldr where
 n : Int
 tries : List Tr
 known : List Hd
abbrev Ldr.cs (l : Ldr) : List Cell := [i64 l.n, .l (l.tries.map Tr.cs), .l (l.known.map Hd.cs)]
structure Clu where
 cons : List Con
 shs : List Shd
 accs : List Acc
 ldrs : List Ldr
 msgs : List Msg
abbrev Clu.cs (c : Clu) : List Cell := [.l (c.cons.map Con.cs), .l (c.shs.map Shd.cs), .l (c.accs.map Acc.cs), .l (c.ldrs.map Ldr.cs), .l (c.msgs.map Msg.cs)]
instance instDecidableEqLeg : DecidableEq Leg := fun x y =>
 if h : x.s = y.s ∧ x.a = y.a ∧ x.b = y.b ∧ x.v = y.v then isTrue (by cases x; cases y; simp_all) else isFalse (fun e => h (by subst e; exact ⟨rfl, rfl, rfl, rfl⟩))
def qaq (s : Shd) : Prop := s.bals.length ≤ 1048576 ∧ s.votes.length ≤ 1048576 ∧ s.held.length ≤ 1048576 ∧ s.done.length ≤ 1048576 ∧ s.app.length ≤ 1048576 ∧ ∀ c ∈ s.held, c.legs.length ≤ 1048576
def z6i (a : Acc) : Prop := a.slots.length ≤ 1048576 ∧ ∀ s ∈ a.slots, s.cast.length ≤ 1048576
def y9q (t : Tr) : Prop := t.fr.length ≤ 1048576 ∧ t.olds.length ≤ 1048576
def z8t (l : Ldr) : Prop := l.tries.length ≤ 1048576 ∧ l.known.length ≤ 1048576 ∧ ∀ t ∈ l.tries, y9q t
def y00 (c : Clu) : Prop := (c.cons.length ≤ 1048576 ∧ ∀ x ∈ c.cons, x.legs.length ≤ 1048576) ∧ (c.shs.length ≤ 1048576 ∧ ∀ s ∈ c.shs, qaq s) ∧ (c.accs.length ≤ 1048576 ∧ ∀ a ∈ c.accs, z6i a) ∧ (c.ldrs.length ≤ 1048576 ∧ ∀ l ∈ c.ldrs, z8t l) ∧ c.msgs.length ≤ 1048576
def z9w (c : Con) (s : Int) : Bool := c.legs.any fun l => l.s == s
def q05 (cs : List Con) (id : Int) : Option Con := cs.find? fun c => c.id == id
def q0s (cs : List Con) (id s : Int) : Bool := match q05 cs id with | some c => z9w c s | none => false
theorem q0x {α : Type} {p : α → Bool} : ∀ {l : List α} {x : α}, l.find? p = some x → ∃ i : Nat, y14 p l = i ∧ l[i]? = some x
 | y :: l, x, h => by
   rw [List.find?_cons] at h
   by_cases hy : p y = true
   · rw [hy] at h; cases h; exact ⟨0, by rw [y14, if_pos hy]; rfl, rfl⟩
   · rw [show p y = false by simpa using hy] at h
     obtain ⟨i, h1, h2⟩ := q0x h
     exact ⟨i + 1, by rw [y14, if_neg hy, h1, if_neg (by omega)]; omega, by simpa using h2⟩
theorem y1l {α : Type} {p : α → Bool} : ∀ {l : List α}, l.find? p = none → y14 p l = -1
 | [], _ => rfl
 | y :: l, h => by
   rw [List.find?_cons] at h
   by_cases hy : p y = true
   · rw [hy] at h; cases h
   · rw [show p y = false by simpa using hy] at h
     rw [y14, if_neg hy, y1l h]; rfl
theorem y67 (c : Con) (s : Int) : decide (0 < (zf c s).length) = z9w c s := by
 unfold zf z9w
 rw [Bool.eq_iff_iff, decide_eq_true_eq, List.length_pos_iff_exists_mem, List.any_eq_true]
 simp only [List.mem_filter]
theorem y42 {x v : Int} : ∀ {l : List Int}, x ∈ q39 l v ↔ x = v ∨ x ∈ l
 | [] => by simp [q39]
 | y :: l => by
   rw [q39]
   split
   · rw [List.mem_cons, y42 (l := l), List.mem_cons]
     constructor
     · rintro (h | h | h) <;> simp [h]
     · rintro (h | h | h) <;> simp [h]
   · split
     · rename_i h; subst h; simp
     · simp
theorem q5a {v : Int} : ∀ {l : List Int} {i : Nat}, i ≤ l.length → (∀ (j : Nat) (x : Int), j < i → l[j]? = some x → x < v) → (∀ x, l[i]? = some x → ¬ x < v) → q39 l v = if l[i]? = some v then l else l.take i ++ v :: l.drop i
 | [], i, hi, _, _ => by
   have : i = 0 := by simpa using hi
   subst this; rfl
 | y :: l, 0, _, _, h1 => by
   have hy := h1 y rfl
   rw [q39, if_neg hy]
   by_cases e : y = v
   · subst e; simp
   · rw [if_neg e, if_neg (by simpa using e)]; rfl
 | y :: l, i + 1, hi, h0, h1 => by
   have hy := h0 0 y (by omega) rfl
   rw [q39, if_pos hy, q5a (l := l) (i := i) (by simpa using hi) (fun j x hj hx => h0 (j + 1) x (by omega) (by simpa using hx)) (fun x hx => h1 x (by simpa using hx))]
   simp only [List.getElem?_cons_succ]
   split
   · rfl
   · simp
theorem y7a {v : Int} : ∀ {l : List Int}, l.Pairwise (· < ·) → (q39 l v).Pairwise (· < ·)
 | [], _ => by simp [q39]
 | x :: l, h => by
   obtain ⟨h1, h2⟩ := List.pairwise_cons.1 h
   rw [q39]
   split
   · rename_i hx
     refine List.pairwise_cons.2 ⟨fun y hy => ?_, y7a h2⟩
     rcases y42.1 hy with rfl | hy
     · exact hx
     · exact h1 y hy
   · split
     · exact h
     · refine List.pairwise_cons.2 ⟨fun y hy => ?_, h⟩
       rcases List.mem_cons.1 hy with rfl | hy
       · omega
       · have := h1 y hy; omega
theorem q1j {l : List Int} {v : Int} {i : Nat} (hs : l.Pairwise (· < ·)) (h0 : ∀ (j : Nat) (x : Int), j < i → l[j]? = some x → x < v) (h1 : ∀ x, l[i]? = some x → ¬ x < v) : l.contains v = (l[i]? == some v) := by
 rw [Bool.eq_iff_iff, List.contains_iff_mem, beq_iff_eq]
 constructor
 · intro hm
   obtain ⟨j, hj⟩ := List.mem_iff_getElem?.1 hm
   rcases Nat.lt_trichotomy j i with h | h | h
   · have := h0 j v h hj; omega
   · subst h; exact hj
   · obtain ⟨hj1, hj2⟩ := List.getElem?_eq_some_iff.1 hj
     have hi : i < l.length := by omega
     have := (List.pairwise_iff_getElem.1 hs) i j hi hj1 h
     have := h1 l[i] (List.getElem?_eq_getElem hi)
     omega
 · exact fun h => List.mem_of_getElem? h
theorem q5r {v : Int} : ∀ {l : List Int}, l.Pairwise (· < ·) → l.contains v = true → q39 l v = l
 | [], _, h => by simp at h
 | x :: l, hs, h => by
   obtain ⟨h1, h2⟩ := List.pairwise_cons.1 hs
   rw [q39]
   by_cases e : x = v
   · rw [if_neg (by omega), if_pos e]
   · have hm : v ∈ l := by
      rw [List.contains_iff_mem] at h
      rcases List.mem_cons.1 h with rfl | h
      · exact absurd rfl e
      · exact h
     rw [if_pos (h1 v hm), q5r h2 (by rw [List.contains_iff_mem]; exact hm)]
def shF (ls : List Leg) : List Int := ls.foldl (fun l x => q39 l x.s) []
theorem z5t {ls : List Leg} {i : Nat} {x : Leg} (h : ls[i]? = some x) : shF (ls.take (i + 1)) = q39 (shF (ls.take i)) x.s := by
 unfold shF
 rw [List.take_add_one, h, List.foldl_append]; rfl
theorem q2v {x : Int} : ∀ {ls : List Leg} {l : List Int}, x ∈ ls.foldl (fun l x => q39 l x.s) l ↔ x ∈ l ∨ ∃ y ∈ ls, y.s = x
 | [], l => by simp
 | y :: ls, l => by
   rw [List.foldl_cons, q2v (ls := ls), y42]
   constructor
   · rintro ((h | h) | ⟨z, h, e⟩)
     · exact .inr ⟨y, List.mem_cons_self, h.symm⟩
     · exact .inl h
     · exact .inr ⟨z, List.mem_cons_of_mem _ h, e⟩
   · rintro (h | ⟨z, h, e⟩)
     · exact .inl (.inr h)
     · rcases List.mem_cons.1 h with rfl | h
       · exact .inl (.inl e.symm)
       · exact .inr ⟨z, h, e⟩
theorem z9g (c : Con) (s : Int) : (shF c.legs).any (fun y => y == s) = z9w c s := by
 unfold z9w shF
 rw [Bool.eq_iff_iff, List.any_eq_true, List.any_eq_true]
 simp only [q2v, List.not_mem_nil, false_or, beq_iff_eq]
 constructor
 · rintro ⟨x, ⟨y, h, e⟩, e2⟩; exact ⟨y, h, by rw [e, e2]⟩
 · rintro ⟨y, h, e⟩; exact ⟨s, ⟨y, h, e⟩, rfl⟩
theorem z87 {l : List Int} {v : Int} : (q39 l v).length ≤ l.length + 1 := by
 induction l with
 | nil => simp [q39]
 | cons x l ih =>
   rw [q39]
   split
   · simp; omega
   · split <;> simp
theorem z26 : ∀ (ls : List Leg) (i : Nat), (shF (ls.take i)).length ≤ i
 | ls, 0 => by simp [shF]
 | ls, i + 1 => by
   cases h : ls[i]? with
   | some x => rw [z5t h]; have := z26 ls i; have := z87 (l := shF (ls.take i)) (v := x.s); omega
   | none => rw [List.take_add_one, h]; simp; have := z26 ls i; omega
theorem q5s (ls : List Leg) : (shF ls).Pairwise (· < ·) := by
 unfold shF
 have : ∀ (ls : List Leg) (l : List Int), l.Pairwise (· < ·) → (ls.foldl (fun l x => q39 l x.s) l).Pairwise (· < ·) := by
  intro ls
  induction ls with
  | nil => intro l h; exact h
  | cons y ls ih => intro l h; exact ih _ (y7a h)
 exact this ls [] List.Pairwise.nil
def toN (c : Clu) (m : Msg) : Nat := if m.k = 1 ∨ m.k = 6 then c.shs.length else if m.k = 3 ∨ m.k = 5 then c.ldrs.length else c.accs.length
def frN (c : Clu) (m : Msg) : Nat := if m.k = 4 then c.ldrs.length else c.accs.length
def ends (c : Clu) (m : Msg) : Bool := within m.to 0 ((toN c m : Int) - 1) && (decide (m.k < 3) || decide (5 < m.k) || within m.fr 0 ((frN c m : Int) - 1))
def Msg.shd (m : Msg) : Int := if m.k = 1 ∨ m.k = 6 then m.to else m.s
def ranges (c : Clu) (m : Msg) : Bool := q0s c.cons m.c m.shd && (!(decide (2 ≤ m.k) && decide (m.k ≤ 5)) || within m.b 0 1000) && (!(m.k == 2 || m.k == 3 || m.k == 6) || within m.v 1 2) && (!(m.k == 5) || (m.ob == -1 && m.ov == 0) || (Vt.ok ⟨m.ob, m.ov⟩))
def Msg.bare (m : Msg) : Msg :=
 ⟨m.k, m.to, if 3 ≤ m.k ∧ m.k ≤ 5 then m.fr else 0, m.c, if 2 ≤ m.k ∧ m.k ≤ 5 then m.s else 0, if 2 ≤ m.k ∧ m.k ≤ 5 then m.b else 0, if m.k = 2 ∨ m.k = 3 ∨ m.k = 6 then m.v else 0, if m.k = 5 then m.ob else 0, if m.k = 5 then m.ov else 0⟩
def Msg.same (m n : Msg) : Bool := m.k == n.k && m.to == n.to && m.fr == n.fr && m.c == n.c && m.s == n.s && m.b == n.b && m.v == n.v && m.ob == n.ob && m.ov == n.ov
def z0c (c : Clu) (m : Msg) : Int :=
 if !(within m.k 1 6) then 5 else if !(ends c m) then 3 else if (q05 c.cons m.c).isNone then 4 else if !(ranges c m) then 3 else if !(m.same m.bare) then 1 else 0
def q9j (c : Clu) (x : Con) : Bool := x.legs.any fun l => !(within l.s 0 ((c.shs.length : Int) - 1))
def y08 (c : Clu) (i : Nat) : Int := match c.cons[i]? with
 | some x => if zm x ≠ 0 then zm x else if q9j c x then 4 else if ahead (fun p x : Con => decide (p.id < x.id)) c.cons i x then 0 else 1
 | none => 0
def Con.same (a b : Con) : Bool := a.id == b.id && decide (a.legs = b.legs)
def y2i (c : Clu) (h : Con) : Bool := match q05 c.cons h.id with | some x => !(x.same h) | none => true
def y8b (c : Clu) (i : Nat) (s : Shd) : Int :=
 if zh s ≠ 0 then zh s
 else if s.idx ≠ i then 1
 else if (s.votes.any fun m => !(q0s c.cons m.c i)) || (s.done.any fun m => !(q0s c.cons m.c i)) then 1
 else if s.held.any (y2i c) then 1 else 0
def q1x (c : Clu) (i : Nat) : Int := match c.shs[i]? with | some s => y8b c i s | none => 0
def q8u (c : Clu) (a : Acc) : Int := if a.fault ≠ 0 then a.fault else if a.slots.any (fun s => !(q0s c.cons s.c s.s)) then 4 else 0
def y2f (c : Clu) (i : Nat) : Int := match c.accs[i]? with | some a => q8u c a | none => 0
def q0l (fr : List Int) (j : Nat) : Int := match fr[j]? with | some x => if (fr.take j).any (fun y => y == x) then 7 else 0 | none => 0
def Tr.lt (p x : Tr) : Bool := if p.c = x.c then decide (p.s < x.s) else decide (p.c < x.c)
def z1k (c : Clu) (p : Int) : Bool := !(within p 0 ((c.accs.length : Int) - 1))
def q0k (v : Vt) : Bool := !(v.b == -1 && v.v == 0) && !v.ok
def z6g (c : Clu) (t : Tr) : Int := if t.fr.any (z1k c) || t.olds.any q0k then 3 else scan (q0l t.fr) t.fr.length
def q4x (c : Clu) (ts : List Tr) (i : Nat) (t : Tr) : Int :=
 if !(q0s c.cons t.c t.s) then 4
 else if !(within t.b 1 1000 && within t.v 0 2) then 3
 else if !(ahead Tr.lt ts i t) || t.fr.length != t.olds.length then 1
 else z6g c t
def y35 (c : Clu) (ts : List Tr) (i : Nat) : Int := match ts[i]? with | some t => q4x c ts i t | none => 0
def Hd.cmp (p x : Hd) : Int := orr [q0c p.c x.c, q0c p.s x.s, q0c p.b x.b, q0c p.v x.v, q0c p.f x.f]
def Hd.lt (p x : Hd) : Bool := decide (Hd.cmp p x < 0)
def hdF (c : Clu) (ks : List Hd) (i : Nat) : Int := match ks[i]? with
 | some h => if !(q0s c.cons h.c h.s) then 4 else if !(within h.b 0 1000 && within h.v 1 2 && within h.f 0 ((c.accs.length : Int) - 1)) then 3 else if ahead Hd.lt ks i h then 0 else 1
 | none => 0
def y73 (c : Clu) (l : Ldr) : Int :=
 if !(within l.n 0 400) then 3 else if 60 < l.tries.length ∨ 300 < l.known.length then 2 else orr [scan (y35 c l.tries) l.tries.length, scan (hdF c l.known) l.known.length]
def z2g (c : Clu) (i : Nat) : Int := match c.ldrs[i]? with | some l => y73 c l | none => 0
def q42 (c : Clu) (i : Nat) : Int := match c.msgs[i]? with | some m => z0c c m | none => 0
def y0r (c : Clu) : Bool := decide (20 < c.cons.length) || !(within c.shs.length 1 3) || !(within c.accs.length 1 5) || c.ldrs.length != 2 || decide (200 < c.msgs.length)
def qn (c : Clu) : Int := if y0r c then 2 else orr [scan (y08 c) c.cons.length, scan (q1x c) c.shs.length, scan (y2f c) c.accs.length, scan (z2g c) c.ldrs.length, scan (q42 c) c.msgs.length]
end Go.Sx
end
section
namespace Go.Sx
theorem q58 {ls : List Leg} {x : Int} : x ∈ shF ls ↔ ∃ y ∈ ls, y.s = x := by
 unfold shF
 rw [q2v]
 simp
theorem y46 {ls : List Leg} (h : 0 < ls.length) : ∃ y, (shF ls)[(shF ls).length - 1]? = some y ∧ 0 < (shF ls).length ∧ (∃ l ∈ ls, l.s = y) ∧ ∀ l ∈ ls, l.s ≤ y := by
 obtain ⟨l0, hl0⟩ := gx h
 have hm : l0.s ∈ shF ls := q58.2 ⟨l0, List.mem_of_getElem? hl0, rfl⟩
 have hp : 0 < (shF ls).length := List.length_pos_of_mem hm
 obtain ⟨y, hy⟩ := gx (xs := shF ls) (i := (shF ls).length - 1) (by omega)
 refine ⟨y, hy, hp, q58.1 (List.mem_of_getElem? hy), fun l hl => ?_⟩
 obtain ⟨j, hj⟩ := List.mem_iff_getElem?.1 (q58.2 ⟨l, hl, rfl⟩)
 obtain ⟨hj1, hj2⟩ := List.getElem?_eq_some_iff.1 hj
 obtain ⟨hy1, hy2⟩ := List.getElem?_eq_some_iff.1 hy
 rcases Nat.lt_or_ge j ((shF ls).length - 1) with h1 | h1
 · have := (List.pairwise_iff_getElem.1 (q5s ls)) j ((shF ls).length - 1) hj1 hy1 h1
   rw [hj2, hy2] at this
   omega
 · have e : j = (shF ls).length - 1 := by omega
   subst e
   rw [hj] at hy
   cases hy
   exact Int.le_refl _
theorem q82 {ls : List Leg} {y n : Int} (h0 : ∀ l ∈ ls, 0 ≤ l.s) (e : ∃ l ∈ ls, l.s = y) (hm : ∀ l ∈ ls, l.s ≤ y) : decide (y ≥ n) = ls.any fun l => !(within l.s 0 (n - 1)) := by
 rw [Bool.eq_iff_iff, decide_eq_true_eq, List.any_eq_true]
 constructor
 · intro h
   obtain ⟨l, hl, e⟩ := e
   exact ⟨l, hl, by simp [within]; omega⟩
 · rintro ⟨l, hl, h⟩
   have h1 := h0 l hl
   have h2 := hm l hl
   simp [within] at h
   omega
theorem q9u {x : Con} (h : zm x = 0) : ∀ l ∈ x.legs, 0 ≤ l.s := fun l hl => by
 have := (y0i h).2.2 l hl
 have h1 := (Leg.q06 this).1
 omega
theorem y0w {x : Con} (h : zm x = 0) : 0 < x.legs.length ∧ x.legs.length ≤ 8 := by
 have := (y0i h).2.1
 omega
def q65 (x : Con) : Int := ((shF x.legs)[(shF x.legs).length - 1]?).getD 0
theorem z4m {x : Con} (h : zm x = 0) : (ints (shF x.legs))[(IntKind.i64.wrap (((ints (shF x.legs)).length : Int) - 1)).toNat]? = some [i64 (q65 x)] := by
 obtain ⟨y, hy, hp, _⟩ := y46 (y0w h).1
 have hl := z26 x.legs x.legs.length
 rw [List.take_length] at hl
 have := (y0w h).2
 rw [show (ints (shF x.legs)).length = (shF x.legs).length by simp]
 unfold q65
 rw [hy]
 exact q11 (fun n => [i64 n]) hp (by omega) hy
theorem z73 {x : Con} (h : zm x = 0) : 0 ≤ IntKind.i64.wrap (((ints (shF x.legs)).length : Int) - 1) := by
 obtain ⟨y, hy, hp, _⟩ := y46 (y0w h).1
 have hl := z26 x.legs x.legs.length
 rw [List.take_length] at hl
 have := (y0w h).2
 rw [show (ints (shF x.legs)).length = (shF x.legs).length by simp]
 exact q0g hp (by omega)
theorem q72 {x : Con} (h : zm x = 0) (c : Clu) : q9j c x = decide ((c.shs.length : Int) ≤ q65 x) := by
 unfold q9j
 obtain ⟨y, hy, hp, e, hm⟩ := y46 (y0w h).1
 rw [← q82 (q9u h) (y := q65 x) (by unfold q65; rw [hy]; exact e) (by unfold q65; rw [hy]; exact hm)]
theorem q2m {s : Shd} (h : zh s = 0) : ∀ x ∈ s.held, zm x = 0 := by
 have : zn q0e s = 0 := by
  unfold zh z0r at h
  repeat' split at h
  all_goals first | omega | (simp_all; done)
 exact z3x this
theorem y47 {c : Clu} {i : Nat} {s : Shd} (h : zh s = 0) (hi : s.idx = i) : y8b c i s = if (s.votes.any fun m => !(q0s c.cons m.c i)) || (s.done.any fun m => !(q0s c.cons m.c i)) then 1 else if s.held.any (y2i c) then 1 else 0 := by
 unfold y8b
 rw [if_neg (by simpa using h), if_neg (by simpa using hi)]
end Go.Sx
end
section
namespace Go.Sx
theorem y79 : ∀ {l : List Int}, orr l = 0 → ∀ x ∈ l, x = 0
 | [], _, x, hx => by cases hx
 | y :: l, h, x, hx => by
   rw [orr] at h
   split at h
   · rename_i h1; exact absurd h h1
   · rename_i h1
     rcases List.mem_cons.1 hx with rfl | hx
     · simpa using h1
     · exact y79 h x hx
theorem z4f {c : Clu} (h : qn c = 0) : y0r c = false ∧ (∀ i, i < c.cons.length → y08 c i = 0) ∧ (∀ i, i < c.shs.length → q1x c i = 0) ∧ (∀ i, i < c.accs.length → y2f c i = 0) ∧ (∀ i, i < c.ldrs.length → z2g c i = 0) ∧ ∀ i, i < c.msgs.length → q42 c i = 0 := by
 unfold qn at h
 split at h
 · omega
 · rename_i hm
   have ha := y79 h
   exact ⟨by simpa using hm, fun i hi => yw (ha _ (by simp)) i hi, fun i hi => yw (ha _ (by simp)) i hi, fun i hi => yw (ha _ (by simp)) i hi, fun i hi => yw (ha _ (by simp)) i hi, fun i hi => yw (ha _ (by simp)) i hi⟩
theorem q6q {c : Clu} (h : qn c = 0) {i : Nat} {x : Con} (hx : c.cons[i]? = some x) : zm x = 0 ∧ q9j c x = false ∧ ahead (fun p x : Con => decide (p.id < x.id)) c.cons i x = true := by
 have := (z4f h).2.1 i (List.getElem?_eq_some_iff.1 hx).1
 simp only [y08, hx] at this
 split at this
 · rename_i h1; exact absurd this h1
 · rename_i h1
   split at this
   · omega
   · rename_i h2
     split at this
     · rename_i h3; exact ⟨by simpa using h1, by simpa using h2, h3⟩
     · omega
theorem z0w {c : Clu} (h : qn c = 0) {x : Con} (hx : x ∈ c.cons) : zm x = 0 ∧ q9j c x = false := by
 obtain ⟨i, hi⟩ := List.mem_iff_getElem?.1 hx
 exact ⟨(q6q h hi).1, (q6q h hi).2.1⟩
theorem z1p {cs : List Con} {id : Int} {x : Con} (h : q05 cs id = some x) : x ∈ cs ∧ x.id = id := by
 unfold q05 at h
 exact ⟨List.mem_of_find?_eq_some h, by have := List.find?_some h; simpa using this⟩
theorem y3s {c : Clu} (h : qn c = 0) {i : Nat} {s : Shd} (hs : c.shs[i]? = some s) : zh s = 0 ∧ s.idx = i ∧ (∀ m ∈ s.votes, q0s c.cons m.c i = true) ∧ (∀ m ∈ s.done, q0s c.cons m.c i = true) ∧ ∀ x ∈ s.held, y2i c x = false := by
 have := (z4f h).2.2.1 i (List.getElem?_eq_some_iff.1 hs).1
 simp only [q1x, hs, y8b] at this
 split at this
 · rename_i h1; exact absurd this h1
 · rename_i h1
   split at this
   · omega
   · rename_i h2
     split at this
     · omega
     · rename_i h3
       split at this
       · omega
       · rename_i h4
         simp only [Bool.or_eq_true, not_or, Bool.not_eq_true, List.any_eq_false, Bool.not_eq_eq_eq_not, Bool.not_false, Bool.not_true] at h3
         exact ⟨by simpa using h1, by simpa using h2, fun m hm => by simpa using h3.1 m hm, fun m hm => by simpa using h3.2 m hm, fun x hx => by simpa using (by simpa using h4 : ∀ x ∈ s.held, y2i c x = false) x hx⟩
end Go.Sx
end
section
namespace Go.Sx
abbrev z2c (us : List Bal) : List Cell := [.l (us.map Bal.cs)]
abbrev qj (l : List (List Bal)) : List (List Cell) := l.map z2c
end Go.Sx
end
section
namespace Go.Sx
theorem y6w {us : List Mk} {c : Int} (h : q0e us c ≠ 0) : ∃ m ∈ us, m.c = c := by
 rcases Classical.em (∃ m ∈ us, m.c = c) with h1 | h1
 · exact h1
 · exact absurd (y0t (xs := us) (c := c) fun j y hy e => h1 ⟨y, List.mem_of_getElem? hy, e⟩) h
theorem y9g {s : Shd} (h : zh s = 0) : z4y s = true := by
 unfold zh z0r at h
 repeat' split at h
 all_goals first | omega | assumption | (simp_all; done)
theorem q6m {c : Clu} (h : qn c = 0) {i : Nat} {s : Shd} (hs : c.shs[i]? = some s) {a : Int} (ha : a ∈ s.app) : ∃ x, q05 c.cons a = some x := by
 obtain ⟨h1, _, _, h2, _⟩ := y3s h hs
 have h3 := y9g h1
 unfold z4y at h3
 simp only [Bool.and_eq_true, beq_iff_eq] at h3
 obtain ⟨k, hk⟩ := List.mem_iff_getElem?.1 ha
 have h4 := yw h3.1 k (List.getElem?_eq_some_iff.1 hk).1
 simp only [q7s, hk] at h4
 split at h4
 · omega
 · rename_i h5
   simp only [Bool.or_eq_true, not_or, bne_iff_ne, ne_eq, Decidable.not_not] at h5
   obtain ⟨m, hm, e⟩ := y6w (us := s.done) (c := a) (by rw [h5.1]; decide)
   have h6 := h2 m hm
   unfold q0s at h6
   rw [e] at h6
   cases hq : q05 c.cons a with
   | some x => exact ⟨x, rfl⟩
   | none => rw [hq] at h6; cases h6
end Go.Sx
end
section
namespace Go.Sx
def y4f (c : Clu) (id : Int) : Con := (q05 c.cons id).getD ⟨0, []⟩
theorem z20 {c : Clu} {id : Int} {x : Con} (h : q05 c.cons id = some x) : y4f c id = x := by unfold y4f; rw [h]; rfl
end Go.Sx
end
section
namespace Go.Sx
instance instDecidableEqBal : DecidableEq Bal := fun x y =>
 if h : x.a = y.a ∧ x.b = y.b ∧ x.v = y.v then isTrue (by cases x; cases y; simp_all) else isFalse (fun e => h (by subst e; exact ⟨rfl, rfl, rfl⟩))
def inK (a b : Int) : Prop := (0 ≤ a ∧ a ≤ 5) ∧ 0 ≤ b ∧ b ≤ 2
def y1z (us : List Bal) : Prop := us.Pairwise (fun x y => x.key < y.key) ∧ ∀ x ∈ us, inK x.a x.b ∧ x.v ≠ 0
theorem q55 {us : List Bal} (h : qd us = 0) : y1z us := by
 obtain ⟨_, h1, h2⟩ := zt h
 refine ⟨List.pairwise_iff_getElem.2 fun i j hi hj hij => h2 i j _ _ hij (List.getElem?_eq_getElem hi) (List.getElem?_eq_getElem hj), fun x hx => ?_⟩
 have := h1 x hx
 simp [Bal.bad, within] at this
 unfold inK
 omega
def z2m (a b v : Int) : List Bal → Bool → List Bal
 | [], d => bif d then [] else [⟨a, b, v⟩]
 | x :: xs, d => if x.a = a ∧ x.b = b then z2m a b v xs d else if d = false ∧ a * 3 + b < x.key then ⟨a, b, v⟩ :: x :: z2m a b v xs true else x :: z2m a b v xs d
theorem y1e {a b v : Int} {y : Bal} : ∀ {us : List Bal} {d : Bool}, y ∈ z2m a b v us d → (d = false ∧ y = ⟨a, b, v⟩) ∨ (y ∈ us ∧ ¬ (y.a = a ∧ y.b = b))
 | [], d, h => by
   cases d with
   | true => cases h
   | false => exact .inl ⟨rfl, by simpa [z2m] using h⟩
 | x :: xs, d, h => by
   rw [z2m] at h
   split at h
   · exact (y1e h).imp id (fun h1 => ⟨List.mem_cons_of_mem _ h1.1, h1.2⟩)
   · rename_i hx
     split at h
     · rename_i hd
       rcases List.mem_cons.1 h with rfl | h
       · exact .inl ⟨hd.1, rfl⟩
       · rcases List.mem_cons.1 h with rfl | h
         · exact .inr ⟨List.mem_cons_self, hx⟩
         · rcases y1e h with h1 | h1
           · exact absurd h1.1 (by decide)
           · exact .inr ⟨List.mem_cons_of_mem _ h1.1, h1.2⟩
     · rcases List.mem_cons.1 h with rfl | h
       · exact .inr ⟨List.mem_cons_self, hx⟩
       · exact (y1e h).imp id (fun h1 => ⟨List.mem_cons_of_mem _ h1.1, h1.2⟩)
theorem y2m {a b v : Int} : ∀ {us : List Bal} {d : Bool}, (z2m a b v us d).length ≤ us.length + (bif d then 0 else 1)
 | [], d => by cases d <;> simp [z2m]
 | x :: xs, d => by
   rw [z2m]
   split
   · have := y2m (a := a) (b := b) (v := v) (us := xs) (d := d)
     simp only [List.length_cons]; omega
   · split
     · rename_i hd
       have := y2m (a := a) (b := b) (v := v) (us := xs) (d := true)
       rw [hd.1]
       simp only [List.length_cons, cond_true, cond_false] at *; omega
     · have := y2m (a := a) (b := b) (v := v) (us := xs) (d := d)
       simp only [List.length_cons]; omega
theorem z46 {a b v : Int} (hk : inK a b) : ∀ {us : List Bal} {d : Bool}, us.Pairwise (fun x y => x.key < y.key) → (∀ x ∈ us, inK x.a x.b) → (z2m a b v us d).Pairwise (fun x y => x.key < y.key)
 | [], d, _, _ => by cases d <;> simp [z2m]
 | x :: xs, d, hp, hi => by
   obtain ⟨hp1, hp2⟩ := List.pairwise_cons.1 hp
   have hi2 : ∀ y ∈ xs, inK y.a y.b := fun y hy => hi y (List.mem_cons_of_mem _ hy)
   rw [z2m]
   split
   · exact z46 hk hp2 hi2
   · rename_i hx
     split
     · rename_i hd
       have hin : ∀ y ∈ z2m a b v xs true, y ∈ xs := fun y hy => by
        rcases y1e hy with h1 | h1
        · exact absurd h1.1 (by decide)
        · exact h1.1
       refine List.pairwise_cons.2 ⟨fun y hy => ?_, List.pairwise_cons.2 ⟨fun y hy => hp1 y (hin y hy), z46 hk hp2 hi2⟩⟩
       rcases List.mem_cons.1 hy with rfl | hy
       · exact hd.2
       · have := hp1 y (hin y hy)
         have := hd.2
         show a * 3 + b < y.key
         omega
     · rename_i hd
       refine List.pairwise_cons.2 ⟨fun y hy => ?_, z46 hk hp2 hi2⟩
       rcases y1e hy with ⟨h1, rfl⟩ | h1
       · have h2 : ¬ a * 3 + b < x.key := fun h => hd ⟨h1, h⟩
         have h3 := hi x List.mem_cons_self
         show x.key < a * 3 + b
         unfold inK at hk h3
         unfold Bal.key at *
         rcases Int.lt_or_gt_of_ne (a := x.a * 3 + x.b) (b := a * 3 + b) (fun e => hx (by omega)) with h4 | h4
         · exact h4
         · exact absurd h4 h2
       · exact hp1 y h1.1
theorem z1s {a b v a' b' : Int} : ∀ {us : List Bal} {d : Bool}, hasB (z2m a b v us d) a' b' = if a' = a ∧ b' = b then (bif d then 0 else v) else hasB us a' b'
 | [], d => by
   cases d with
   | true => simp [z2m, hasB]
   | false =>
     simp only [z2m, hasB, cond_false]
     by_cases h : a' = a ∧ b' = b
     · rw [if_pos h, if_pos ⟨h.1.symm, h.2.symm⟩]
     · rw [if_neg h, if_neg (fun e => h ⟨e.1.symm, e.2.symm⟩)]
 | x :: xs, d => by
   rw [z2m]
   by_cases hx : x.a = a ∧ x.b = b
   · rw [if_pos hx, z1s]
     by_cases h : a' = a ∧ b' = b
     · rw [if_pos h, if_pos h]
     · rw [if_neg h, if_neg h, hasB, if_neg (fun e => h ⟨e.1.symm.trans hx.1, e.2.symm.trans hx.2⟩)]
   · rw [if_neg hx]
     by_cases hd : d = false ∧ a * 3 + b < x.key
     · rw [if_pos hd, hasB, hasB, z1s, hd.1]
       by_cases h : a' = a ∧ b' = b
       · rw [if_pos (show ({ a := a, b := b, v := v } : Bal).a = a' ∧ ({ a := a, b := b, v := v } : Bal).b = b' from ⟨h.1.symm, h.2.symm⟩), if_pos h]; rfl
       · rw [if_neg (show ¬ (({ a := a, b := b, v := v } : Bal).a = a' ∧ ({ a := a, b := b, v := v } : Bal).b = b') from fun e => h ⟨e.1.symm, e.2.symm⟩), if_neg h, if_neg h, hasB]
     · rw [if_neg hd, hasB, z1s]
       by_cases h : a' = a ∧ b' = b
       · rw [if_pos h, if_pos h, if_neg (fun e => hx ⟨e.1.trans h.1, e.2.trans h.2⟩)]
       · rw [if_neg h, if_neg h, hasB]
theorem z1l : ∀ {us : List Bal} {a b : Int}, (∀ y ∈ us, ¬ (y.a = a ∧ y.b = b)) → hasB us a b = 0
 | [], _, _, _ => rfl
 | x :: xs, a, b, h => by rw [hasB, if_neg (h x List.mem_cons_self), z1l fun y hy => h y (List.mem_cons_of_mem _ hy)]
theorem y5n : ∀ {us ws : List Bal}, y1z us → y1z ws → (∀ a b, inK a b → hasB us a b = hasB ws a b) → us = ws
 | [], [], _, _, _ => rfl
 | [], y :: ws, _, hw, h => by
   have h1 := hw.2 y List.mem_cons_self
   have := h y.a y.b h1.1
   rw [hasB, hasB, if_pos ⟨rfl, rfl⟩] at this
   exact absurd this.symm h1.2
 | x :: us, [], hu, _, h => by
   have h1 := hu.2 x List.mem_cons_self
   have := h x.a x.b h1.1
   rw [show hasB (x :: us) x.a x.b = x.v from if_pos ⟨rfl, rfl⟩] at this
   exact absurd this h1.2
 | x :: us, y :: ws, hu, hw, h => by
   have hx := hu.2 x List.mem_cons_self
   have hy := hw.2 y List.mem_cons_self
   obtain ⟨hu1, hu2⟩ := List.pairwise_cons.1 hu.1
   obtain ⟨hw1, hw2⟩ := List.pairwise_cons.1 hw.1
   have off : ∀ {z : Bal} {l : List Bal}, (∀ w ∈ l, z.key < w.key) → ∀ w ∈ l, ¬ (w.a = z.a ∧ w.b = z.b) := fun hl w hw e => by
    have := hl w hw
    unfold Bal.key at this
    rw [e.1, e.2] at this
    omega
   have hkey : x.key = y.key := by
    rcases Int.lt_trichotomy x.key y.key with h1 | h1 | h1
    · have h2 := h x.a x.b hx.1
      rw [hasB, if_pos ⟨rfl, rfl⟩, z1l (off (z := x) (l := y :: ws) (fun w hw' => by
       rcases List.mem_cons.1 hw' with rfl | hw'
       · exact h1
       · exact Int.lt_trans h1 (hw1 w hw'))) ] at h2
      exact absurd h2 hx.2
    · exact h1
    · have h2 := h y.a y.b hy.1
      rw [z1l (off (z := y) (l := x :: us) (fun w hw' => by
       rcases List.mem_cons.1 hw' with rfl | hw'
       · exact h1
       · exact Int.lt_trans h1 (hu1 w hw'))), hasB, if_pos ⟨rfl, rfl⟩] at h2
      exact absurd h2.symm hy.2
   have hab : x.a = y.a ∧ x.b = y.b := by
    have h1 := hx.1
    have h2 := hy.1
    unfold inK at h1 h2
    unfold Bal.key at hkey
    omega
   have hv : x.v = y.v := by
    have h1 := h x.a x.b hx.1
    rwa [hasB, if_pos ⟨rfl, rfl⟩, hasB, if_pos ⟨hab.1.symm, hab.2.symm⟩] at h1
   have e : x = y := by cases x; cases y; simp_all
   subst e
   rw [y5n (us := us) (ws := ws) ⟨hu2, fun z hz => hu.2 z (List.mem_cons_of_mem _ hz)⟩ ⟨hw2, fun z hz => hw.2 z (List.mem_cons_of_mem _ hz)⟩ (fun a b hk => ?_)]
   by_cases e : x.a = a ∧ x.b = b
   · rw [← e.1, ← e.2, z1l (off hu1), z1l (off hw1)]
   · have h1 := h a b hk
     rwa [hasB, if_neg e, hasB, if_neg e] at h1
def y6h (us : List Bal) (l : Leg) : List Bal := z2m l.a l.b (hasB us l.a l.b + l.v) us (decide (hasB us l.a l.b + l.v = 0))
def q1b (us : List Bal) (ls : List Leg) : List Bal := ls.foldl y6h us
theorem q6k {us : List Bal} {ls : List Leg} {i : Nat} {l : Leg} (h : ls[i]? = some l) : q1b us (ls.take (i + 1)) = y6h (q1b us (ls.take i)) l := by
 unfold q1b
 rw [List.take_add_one, h, List.foldl_append]
 rfl
theorem z4z (us : List Bal) (xs ys : List Leg) : q1b us (xs ++ ys) = q1b (q1b us xs) ys := List.foldl_append
def z11 (ls : List Leg) (a b : Int) : Int := (ls.map fun x => if x.a = a ∧ x.b = b then x.v else 0).sum
theorem z01 (xs ys : List Leg) (a b : Int) : z11 (xs ++ ys) a b = z11 xs a b + z11 ys a b := by simp [z11]
theorem z1f (l : Leg) (a b : Int) : z11 [l] a b = if l.a = a ∧ l.b = b then l.v else 0 := by simp [z11]
theorem z6y (us : List Bal) (l : Leg) (a b : Int) : hasB (y6h us l) a b = hasB us a b + if l.a = a ∧ l.b = b then l.v else 0 := by
 unfold y6h
 rw [z1s]
 by_cases h : a = l.a ∧ b = l.b
 · rw [if_pos h, if_pos ⟨h.1.symm, h.2.symm⟩, h.1, h.2]
   by_cases h0 : hasB us l.a l.b + l.v = 0
   · rw [decide_eq_true h0, h0]; rfl
   · rw [decide_eq_false h0]; rfl
 · rw [if_neg h, if_neg (fun e => h ⟨e.1.symm, e.2.symm⟩), Int.add_zero]
theorem z14 : ∀ (ls : List Leg) (us : List Bal) (a b : Int), hasB (q1b us ls) a b = hasB us a b + z11 ls a b
 | [], us, a, b => by simp [q1b, z11]
 | l :: ls, us, a, b => by
   show hasB (q1b (y6h us l) ls) a b = _
   rw [z14 ls, z6y, show l :: ls = [l] ++ ls from rfl, z01, z1f]
   omega
theorem y6x {us : List Bal} {l : Leg} (h : y1z us) (hk : inK l.a l.b) : y1z (y6h us l) := by
 refine ⟨z46 hk h.1 fun x hx => (h.2 x hx).1, fun x hx => ?_⟩
 rcases y1e hx with ⟨h1, rfl⟩ | h1
 · exact ⟨hk, by simpa using h1⟩
 · exact h.2 x h1.1
theorem q1r : ∀ {ls : List Leg} {us : List Bal}, y1z us → (∀ l ∈ ls, inK l.a l.b) → y1z (q1b us ls)
 | [], us, h, _ => h
 | l :: ls, us, h, hk => q1r (us := y6h us l) (y6x h (hk l List.mem_cons_self)) fun x hx => hk x (List.mem_cons_of_mem _ hx)
theorem q2h : ∀ (ls : List Leg) (us : List Bal), (q1b us ls).length ≤ us.length + ls.length
 | [], us => by simp [q1b]
 | l :: ls, us => by
   have h1 := q2h ls (y6h us l)
   have h2 : (y6h us l).length ≤ us.length + 1 := by
    unfold y6h
    refine Nat.le_trans y2m ?_
    cases decide (hasB us l.a l.b + l.v = 0) <;> simp
   show (q1b (y6h us l) ls).length ≤ _
   rw [List.length_cons]
   omega
theorem q7r {us ws : List Bal} {ls : List Leg} (hu : y1z us) (hw : y1z ws) (hl : ∀ l ∈ ls, inK l.a l.b) : q1b us ls = ws ↔ ∀ a b, inK a b → hasB us a b + z11 ls a b - hasB ws a b = 0 :=
 ⟨fun e a b _ => by rw [← e, z14]; omega, fun h => y5n (q1r hu hl) hw fun a b hk => by rw [z14]; have := h a b hk; omega⟩
theorem z8d {ls : List Leg} {a b : Int} (hl : ∀ l ∈ ls, inK l.a l.b) (h : ¬ inK a b) : z11 ls a b = 0 := by
 unfold z11
 induction ls with
 | nil => rfl
 | cons l ls ih =>
   rw [List.map_cons, List.sum_cons, ih fun x hx => hl x (List.mem_cons_of_mem _ hx), if_neg (fun e => h (by rw [← e.1, ← e.2]; exact hl l List.mem_cons_self))]
   rfl
theorem q5n {us : List Bal} {a b : Int} (hu : ∀ x ∈ us, inK x.a x.b) (h : ¬ inK a b) : hasB us a b = 0 := z1l fun y hy e => h (by rw [← e.1, ← e.2]; exact hu y hy)
end Go.Sx
end
section
namespace Go.Sx
open Go.WideMaps (ArrKey)
def kP (a b : Int) : Lit := .string (keyBytes [.int .i64 a, .int .i64 b])
def wf2 (a b : Int) : Prop := (Lit.int .i64 a).wf = true ∧ (Lit.int .i64 b).wf = true
def z7s (a b : Int) : Value := .agg #[.int .i64 a, .int .i64 b]
section
variable {P : Program} {k e : TypeId} (A : ArrKey P k e 2) (he : P.underlying e = some (.int .i64)) (hsz : ∃ m, P.types.size = m + 1)
include A he hsz
theorem y3g {a b : Int} (h : wf2 a b) : keyOf P k (z7s a b) = some (kP a b) := WideMaps.keyOf_pair A he hsz h.1 h.2
theorem z8n {a b a' b' : Int} (h : wf2 a b) (h' : wf2 a' b') (e1 : kP a b = kP a' b') : a = a' ∧ b = b' := by
 have h1 := A.law.inj (y3g A he hsz h) (by rw [y3g A he hsz h', e1])
 unfold z7s at h1
 simp at h1
 exact h1
theorem y9y {v : Value} {kl : Lit} (h : keyOf P k v = some kl) : ∃ a b, v = z7s a b ∧ wf2 a b ∧ kl = kP a b := by
 have h0 := h
 obtain ⟨m, hm⟩ := hsz
 unfold keyOf at h
 simp only [A.hu] at h
 split at h
 · rename_i hf
   simp only [Bool.and_eq_true] at hf
   have hf := hf.2
   have hv : ∃ c0 c1, v = .agg #[c0, c1] := by
    cases v with
    | agg cs =>
      simp only [Value.formed, A.hu, A.size, beq_iff_eq] at hf
      obtain ⟨l⟩ := cs
      match l, hf with
      | [c0, c1], _ => exact ⟨c0, c1, rfl⟩
    | _ => simp [Value.formed, A.hu] at hf
   obtain ⟨c0, c1, rfl⟩ := hv
   rw [hm] at h
   unfold Program.keyLits at h
   simp only [A.hu, Value.cells] at h
   rw [if_pos (by rw [A.size]; rfl), show List.range 2 = [0, 1] from rfl, List.mapM_cons, List.mapM_cons, List.mapM_nil] at h
   simp only [bind, Option.bind_eq_some_iff, pure, Option.some.injEq, A.one, Option.map_eq_some_iff] at h
   obtain ⟨ls, ⟨xs, ⟨y0, h0', _, ⟨y1, h1, _, rfl, rfl⟩, rfl⟩, rfl⟩, rfl⟩ := h
   have one : ∀ {c : Value} {y : List Lit} {cs : List Value}, cs = [c] → P.keyLits (m + 1) e cs = some y → ∃ a, c = .int .i64 a ∧ (Lit.int .i64 a).wf = true := fun {c y cs} hc hy => by
    subst hc
    cases c with
    | int q' n =>
      simp only [Program.keyLits, he] at hy
      split at hy
      · rename_i hq
        obtain ⟨rfl, hq⟩ := hq
        exact ⟨n, rfl, hq⟩
      · cases hy
    | _ => simp [Program.keyLits, he] at hy
   obtain ⟨a, rfl, wa⟩ := one (c := c0) rfl h0'
   obtain ⟨b, rfl, wb⟩ := one (c := c1) rfl h1
   refine ⟨a, b, rfl, ⟨wa, wb⟩, ?_⟩
   have := y3g A he ⟨m, hm⟩ (a := a) (b := b) ⟨wa, wb⟩
   unfold z7s at this
   rw [h0] at this
   exact Option.some.inj this
 · cases h
end
def SP (f : Int → Int → Int) (D : DataW Unit) : Prop := Maps.IsMap D ∧ ∀ a b, wf2 a b → D.atKey (kP a b) (.lit (.int .i64 0)) = .lit (.int .i64 (f a b))
theorem q9p : SP (fun _ _ => 0) (.map []) := ⟨Maps.isMap_empty, fun _ _ _ => rfl⟩
theorem z8u {f : Int → Int → Int} {D : DataW Unit} (h : SP f D) {a b c : Int} (hw : wf2 a b) (hat : D.atKey (kP a b) (.lit (.int .i64 0)) = .lit (.int .i64 c)) : c = f a b := y2v (hat.symm.trans (h.2 a b hw))
theorem y8i {P : Program} {k e : TypeId} (A : ArrKey P k e 2) (he : P.underlying e = some (.int .i64)) (hsz : ∃ m, P.types.size = m + 1) {f g : Int → Int → Int} {D : DataW Unit} (h : SP f D) {a b c : Int} (hw : wf2 a b)
 (h1 : g a b = c) (h2 : ∀ a' b', ¬ (a' = a ∧ b' = b) → g a' b' = f a' b') : SP g (D.put (kP a b) (.lit (.int .i64 c))) := by
 refine ⟨h.1.put _ _, fun a' b' hw' => ?_⟩
 by_cases hab : a' = a ∧ b' = b
 · obtain ⟨rfl, rfl⟩ := hab
   rw [h1]
   exact Maps.atKey_put_same (k := kP a' b') h.1 trivial _ _
 · rw [h2 a' b' hab, Maps.atKey_put_other (fun e1 => hab (z8n A he hsz hw' hw e1)), h.2 a' b' hw']
theorem y8u {f : Int → Int → Int} {D : DataW Unit} (h : SP f D) : ∀ a b, wf2 a b → Maps.has D (kP a b) = false → f a b = 0 := fun a b hw ha => y2v ((h.2 a b hw).symm.trans (Maps.atKey_of_not_has ha _))
theorem zal {P : Program} {k e : TypeId} (A : ArrKey P k e 2) (he : P.underlying e = some (.int .i64)) (hsz : ∃ m, P.types.size = m + 1) {f : Int → Int → Int} {left : Lit → Bool} {x y : Int} (h : ∀ a b, wf2 a b → left (kP a b) = false → f a b = 0) (hw : wf2 x y) (h0 : f x y = 0) :
 ∀ a b, wf2 a b → (left (kP a b) && !(kP a b).sameKey (kP x y)) = false → f a b = 0 := fun a b hw' ha => by
 by_cases hab : a = x ∧ b = y
 · rw [hab.1, hab.2]; exact h0
 · refine h a b hw' ?_
   have h1 : (kP a b).sameKey (kP x y) = false := Maps.sameKey_ne (fun e1 => hab (z8n A he hsz hw' hw e1))
   simpa [h1] using ha
def Bal.leg (x : Bal) : Leg := ⟨0, x.a, x.b, x.v⟩
theorem q1a : ∀ {us : List Bal}, y1z us → ∀ a b, z11 (us.map Bal.leg) a b = hasB us a b
 | [], _, _, _ => rfl
 | x :: us, h, a, b => by
   obtain ⟨h1, h2⟩ := List.pairwise_cons.1 h.1
   rw [show (x :: us).map Bal.leg = [x.leg] ++ us.map Bal.leg from rfl, z01, z1f, q1a ⟨h2, fun y hy => h.2 y (List.mem_cons_of_mem _ hy)⟩, hasB]
   by_cases e : x.a = a ∧ x.b = b
   · rw [if_pos e, if_pos (show x.leg.a = a ∧ x.leg.b = b from e), z1l (fun y hy e2 => by
      have := h1 y hy
      unfold Bal.key at this
      rw [e.1, e.2, e2.1, e2.2] at this
      omega)]
     exact Int.add_zero _
   · rw [if_neg e, if_neg (show ¬ (x.leg.a = a ∧ x.leg.b = b) from e), Int.zero_add]
theorem y27 : ∀ (l : List Leg) (a b : Int), (∀ x ∈ l, x.small) → -1000000000000 * (l.length : Int) ≤ z11 l a b ∧ z11 l a b ≤ 1000000000000 * (l.length : Int)
 | [], a, b, _ => by simp [z11]
 | x :: l, a, b, h => by
   have h1 := y27 l a b (fun y hy => h y (List.mem_cons_of_mem _ hy))
   have h2 := h x List.mem_cons_self
   unfold Leg.small at h2
   rw [show x :: l = [x] ++ l from rfl, z01, z1f, List.length_append]
   simp only [List.length_cons, List.length_nil]
   split <;> omega
theorem z4u {l : List Leg} {i : Nat} {x : Leg} (h : l[i]? = some x) (a b : Int) : z11 (l.take (i + 1)) a b = z11 (l.take i) a b + if x.a = a ∧ x.b = b then x.v else 0 := by
 rw [List.take_add_one, h]
 show z11 (l.take i ++ [x]) a b = _
 rw [z01, z1f]
theorem q6o {us ws : List Bal} {ls : List Leg} (hu : y1z us) (hw : y1z ws) (hl : ∀ l ∈ ls, inK l.a l.b) : q1b us ls = ws ↔ ∀ a b, wf2 a b → z11 (us.map Bal.leg) a b + z11 ls a b - z11 (ws.map Bal.leg) a b = 0 := by
 rw [q7r hu hw hl]
 constructor
 · intro h a b _
   rw [q1a hu, q1a hw]
   by_cases hk : inK a b
   · exact h a b hk
   · rw [q5n (fun x hx => (hu.2 x hx).1) hk, q5n (fun x hx => (hw.2 x hx).1) hk, z8d hl hk]; rfl
 · intro h a b hk
   have := h a b (by unfold inK at hk; exact ⟨wfi (by omega) (by omega), wfi (by omega) (by omega)⟩)
   rwa [q1a hu, q1a hw] at this
end Go.Sx
end
section
namespace Go.Sx
theorem y2j {c : Clu} (hc : qn c = 0) (id : Int) : (y4f c id).legs.length ≤ 8 ∧ ∀ l ∈ (y4f c id).legs, inK l.a l.b ∧ l.small := by
 unfold y4f
 cases h : q05 c.cons id with
 | none => exact ⟨by simp, fun l hl => by simp at hl⟩
 | some x =>
   have h1 := (z0w hc (z1p h).1).1
   refine ⟨(y0w h1).2, fun l hl => ?_⟩
   have h2 := Leg.q06 ((y0i h1).2.2 l hl)
   exact ⟨⟨h2.2.1, h2.2.2.1⟩, h2.2.2.2.1⟩
def z00 (c : Clu) (sh : Int) (us : List Int) : List Leg := us.flatMap fun id => zf (y4f c id) sh
theorem z3i {c : Clu} {sh : Int} {us : List Int} {i : Nat} {a : Int} {x : Con} (h : us[i]? = some a) (hx : q05 c.cons a = some x) : z00 c sh (us.take (i + 1)) = z00 c sh (us.take i) ++ zf x sh := by
 unfold z00
 rw [List.take_add_one, h]
 simp [z20 hx]
theorem q2k {c : Clu} (hc : qn c = 0) (sh : Int) (us : List Int) : ∀ l ∈ z00 c sh us, inK l.a l.b ∧ l.small := fun l hl => by
 obtain ⟨id, _, h⟩ := List.mem_flatMap.1 hl
 exact (y2j hc id).2 l ((List.mem_filter.1 h).1)
theorem z1u {c : Clu} (hc : qn c = 0) (sh : Int) : ∀ us : List Int, (z00 c sh us).length ≤ 8 * us.length
 | [] => by simp [z00]
 | a :: us => by
   have h1 := z1u hc sh us
   have h2 := (y2j hc a).1
   have h3 : (zf (y4f c a) sh).length ≤ (y4f c a).legs.length := List.length_filter_le _ _
   unfold z00 at *
   rw [List.flatMap_cons, List.length_append, List.length_cons]
   omega
def y40 (l : List (List Bal)) (i : Nat) : Int := match l[i]? with | some us => qd us | none => 0
def zu (l : List (List Bal)) : Int := if l.length < 1 ∨ 3 < l.length then 2 else scan (y40 l) l.length
theorem q40 {l : List (List Bal)} {i : Nat} {us : List Bal} (h : l[i]? = some us) : y40 l i = qd us := by unfold y40; rw [h]
theorem y8n {l : List (List Bal)} (h : zu l = 0) {i : Nat} {us : List Bal} (hi : l[i]? = some us) : qd us = 0 := by
 unfold zu at h
 split at h
 · omega
 · rw [← q40 hi]
   exact yw h i (List.getElem?_eq_some_iff.1 hi).1
def y3d (c : Clu) (us : List Bal) (s : Shd) : Prop := q1b us (z00 c s.idx s.app) = s.bals
def y6o (st : List (List Bal)) (c : Clu) : Prop := qn c = 0 ∧ zu st = 0 ∧ st.length = c.shs.length ∧ ∀ (i : Nat) (us : List Bal) (s : Shd), st[i]? = some us → c.shs[i]? = some s → y3d c us s
noncomputable def y5l (st : List (List Bal)) (c : Clu) : Bool := @decide (y6o st c) (Classical.propDecidable _)
theorem y0c {st : List (List Bal)} {c : Clu} (h : ¬ y6o st c) : y5l st c = false := @decide_eq_false _ (Classical.propDecidable _) h
theorem q3d {st : List (List Bal)} {c : Clu} (h : y6o st c) : y5l st c = true := @decide_eq_true _ (Classical.propDecidable _) h
theorem q8b {s : Shd} (h : zh s = 0) : qd s.bals = 0 := by
 unfold zh at h
 repeat' split at h
 all_goals first | omega | assumption | (simp_all; done)
end Go.Sx
end
section
namespace Go.Sx
open Go.WideMaps (ArrKey)
def DLs (ls : List Leg) : List Leg × DataW Unit := ls.foldl (fun p l => (p.1 ++ [l], p.2.put (kP l.a l.b) (.lit (.int .i64 (z11 p.1 l.a l.b + l.v))))) ([], .map [])
theorem q8r (ls : List Leg) : (DLs ls).1 = ls := by
 have h : ∀ (ls xs : List Leg) (D : DataW Unit), (ls.foldl (fun (p : List Leg × DataW Unit) l => (p.1 ++ [l], p.2.put (kP l.a l.b) (.lit (.int .i64 (z11 p.1 l.a l.b + l.v))))) (xs, D)).1 = xs ++ ls := by
  intro ls
  induction ls with
  | nil => intro xs D; simp
  | cons l ls ih => intro xs D; rw [List.foldl_cons, ih]; simp
 simpa [DLs] using h ls [] (.map [])
def DL (ls : List Leg) : DataW Unit := (DLs ls).2
theorem z3p (ls : List Leg) (l : Leg) : DL (ls ++ [l]) = (DL ls).put (kP l.a l.b) (.lit (.int .i64 (z11 ls l.a l.b + l.v))) := by
 have h := q8r ls
 unfold DL
 show (DLs (ls ++ [l])).2 = _
 unfold DLs at *
 rw [List.foldl_append, List.foldl_cons, List.foldl_nil, h]
theorem q33 {a b : Int} (h : inK a b) : wf2 a b := by
 unfold inK at h
 exact ⟨wfi (by omega) (by omega), wfi (by omega) (by omega)⟩
theorem y9n {P : Program} {k e : TypeId} (A : ArrKey P k e 2) (he : P.underlying e = some (.int .i64)) (hsz : ∃ m, P.types.size = m + 1) {ls : List Leg} (hk : ∀ l ∈ ls, inK l.a l.b) : SP (z11 ls) (DL ls) := by
 have h : ∀ i, i ≤ ls.length → SP (z11 (ls.take i)) (DL (ls.take i)) := by
  intro i
  induction i with
  | zero => intro _; exact q9p
  | succ i ih =>
    intro hi
    obtain ⟨l, hl⟩ := gx (xs := ls) (i := i) (by omega)
    have e : ls.take (i + 1) = ls.take i ++ [l] := by rw [List.take_add_one, hl]; rfl
    rw [e, z3p]
    refine y8i A he hsz (ih (by omega)) (q33 (hk l (List.mem_of_getElem? hl))) ?_ (fun a' b' hn => ?_)
    · rw [z01, z1f, if_pos ⟨rfl, rfl⟩]
    · rw [z01, z1f, if_neg (fun e => hn ⟨e.1.symm, e.2.symm⟩), Int.add_zero]
 have := h ls.length (Nat.le_refl _)
 rwa [List.take_length] at this
theorem y6i {ls : List Leg} {i : Nat} {l : Leg} (hl : ls[i]? = some l) : DL (ls.take (i + 1)) = (DL (ls.take i)).put (kP l.a l.b) (.lit (.int .i64 (z11 (ls.take i) l.a l.b + l.v))) := by
 have e : ls.take (i + 1) = ls.take i ++ [l] := by rw [List.take_add_one, hl]; rfl
 rw [e, z3p]
theorem q3o {P : Program} {k e : TypeId} (A : ArrKey P k e 2) (he : P.underlying e = some (.int .i64)) (hsz : ∃ m, P.types.size = m + 1) {ls : List Leg} {l : Leg} (hk : ∀ x ∈ ls, inK x.a x.b ∧ x.small) (hl : inK l.a l.b ∧ l.small) (hn : ls.length ≤ 100000) {c : Int} (hat : (DL ls).atKey (kP l.a l.b) (.lit (.int .i64 0)) = .lit (.int .i64 c)) :
 c = z11 ls l.a l.b ∧ IntKind.i64.wrap (c + l.v) = z11 ls l.a l.b + l.v ∧ (Lit.int .i64 (z11 ls l.a l.b + l.v)).wf = true := by
 have h1 := z8u (y9n A he hsz fun x hx => (hk x hx).1) (q33 hl.1) hat
 have h2 := y27 ls l.a l.b fun x hx => (hk x hx).2
 have h3 := hl.2
 unfold Leg.small at h3
 refine ⟨h1, ?_, wfi (by omega) (by omega)⟩
 rw [h1, wrap_i64 (by omega) (by omega)]
end Go.Sx
end
section
namespace Go.Sx
open Go.Lib (compact)
theorem z5d {s : Shd} (h : zh s = 0) : s.bals.length ≤ 18 ∧ s.votes.length ≤ 100 ∧ s.held.length ≤ 100 ∧ s.done.length ≤ 100 ∧ s.app.length ≤ 100 := by
 have hb : qd s.bals = 0 := by
  unfold zh at h
  repeat' split at h
  all_goals first | omega | (simp_all; done)
 have hm : many s = false := by
  unfold zh at h
  repeat' split at h
  all_goals first | omega | (simp_all; done)
 have h1 := (zt hb).1
 unfold many at hm
 simp only [Bool.or_eq_false_iff, decide_eq_false_iff_not] at hm
 omega
end Go.Sx
end
