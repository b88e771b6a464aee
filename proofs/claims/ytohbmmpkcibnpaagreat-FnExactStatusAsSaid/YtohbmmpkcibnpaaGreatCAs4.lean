/- WHAT IS PROVED: parts of the proof of fnExactStatusAs_holds: a frame for walks, what each Go function that it reaches answers, and plain lemmas; no condition beyond those that each theorem names. -/
import Derived.Test.YtohbmmpkcibnpaaGreatCAs3
import Derived.WalkKit
import Derived.OrdersHeld
import Derived.DeepKeys
import Derived.Maps.RangeWalk
import Derived.Maps.OwnOps
import Derived.WideKeyEntry
import Derived.Deep.Slices
import Derived.ChangeArms
import Derived.WideShapes
import Derived.Sort.AssemblyPlain
import Derived.Lib.SlicesCompact
set_option linter.unusedVariables false
set_option linter.unusedSimpArgs false
section
namespace Go.Sx
open Go.RowKit (Below)
section
variable {g : Bool} {P : Program} {F : TT} {σ : St} {o : Oper} {K : St → Prop}
theorem q2w {x : Operand} {f : AV → R} (h : (evR σ x f).holds P K) : ∃ av, ev σ x = some av ∧ (f av).holds P K := by
 unfold evR at h
 split at h
 · rename_i av hav; exact ⟨av, hav, h⟩
 · exact h.elim
theorem y3o {z : AV} (h : z7m z = true) : yaq z := by cases z <;> first | trivial | cases h
theorem qaz {z : AV} (h : z7m z = true) : (match (generalizing := false) z with | .tup _ => False | _ => True) := by cases z <;> first | trivial | cases h
theorem q42 {x : Option Operand} {r : Option Int} (h : z9k x σ = some r) : q2z x σ = some r := h
theorem q60 {x : Operand} {K' : AV → Prop} (h : (evR σ x fun av => z0u σ o.dst av).holds P K) (hK : ∀ av, K (σ.put o.dst av) → K' av) : evK σ x K' := by
 obtain ⟨av, h1, h2⟩ := q2w h
 unfold evK
 rw [h1]
 exact hK _ (z1n.1 h2)
theorem z9n {t : Nat} {av : AV} {f : Value → R} {K' : Value → Prop} (hF : F = F.map P) (hf : ∀ v, (f v).holds P K → K' v) (h : (zax F σ t av f).holds P K) : yax P t σ av K' := by
 unfold zax at h
 split at h
 · obtain ⟨_, h1, h2⟩ := qh h; exact ⟨by rw [z0m hF h1]; rfl, hf _ h2⟩
 · obtain ⟨_, h1, h2⟩ := qh h; exact ⟨by rw [z0m hF h1]; rfl, hf _ h2⟩
 · obtain ⟨_, h1, h2⟩ := qh h; exact ⟨by rw [z0m hF h1]; rfl, hf _ h2⟩
 · obtain ⟨_, h1, h2⟩ := qh h; exact ⟨by rw [z0m hF h1]; rfl, hf _ h2⟩
 · obtain ⟨h1, h2⟩ := yb h; exact ⟨q3u hF h1, hf _ h2⟩
 · obtain ⟨_, h1, h2⟩ := qh h
   refine ⟨by rw [z0m hF h1]; rfl, ?_⟩
   split at h2
   · rename_i full sz ep rows hg
     obtain ⟨h3, row, h4, h5⟩ := h2
     rw [hg]
     refine ⟨h3, ?_⟩
     rw [h4]
     dsimp only at h5 ⊢
     split at h5
     · rename_i rs hrs; rw [y23] at hrs; rw [hrs]; exact hf _ h5
     · exact h5.elim
   · exact h2.elim
 · exact h.elim
theorem zay {av : AV} {ag : Bool} {n : Nat} (h : (q5z σ av fun cs => (match ag with
 | true => zr (y3f n cs) (z0j (force (cs.take n)) fun cs => z0u σ o.dst (.agg cs))
 | false => (match cs with | [] => .fail | c :: _ => z0u σ o.dst (.one c)))).holds P K) : q1r σ av fun cs => match z3n ag n cs with | some r => K (σ.put o.dst r) | none => False := by
 refine q73 (fun cs h => ?_) h
 split at h
 · obtain ⟨h1, h2⟩ := yb h
   obtain ⟨cs', h3, h4⟩ := qh h2
   rw [force_eq h3] at h4
   simp only [z3n, if_true, if_pos (q0w h1)]
   exact z1n.1 h4
 · split at h
   · exact h.elim
   · exact z1n.1 h
theorem yes {av : AV} (h : (z0u σ o.dst av).holds P K) : K (σ.put o.dst av) := z1n.1 h
theorem y80 {d : Option Tmp} {cs : List AC} (h : (yar σ d cs).holds P K) : y1d σ d cs K := by
 unfold yar at h
 unfold y1d
 split at h
 · split at h
   · rename_i hn; dsimp only; rw [hn]; exact yz h
   · exact h.elim
 · exact h.elim
theorem y9n (hF : F = F.map P) {t n : Nat} {ps : List (Nat × Operand)} {d : Option Tmp} (h : (qax F σ t n ps d).holds P K) : zac P σ t n ps d K := by
 unfold qax at h
 unfold zac
 split at h
 · rename_i d sz by_ rws h1 h2
   rw [y01 hF h1, q33 h2]
   dsimp only
   split at h
   · rename_i hn
     rw [hn]
     dsimp only
     obtain ⟨g1, h⟩ := yb h
     obtain ⟨g2, h⟩ := yb h
     obtain ⟨g3, h⟩ := yb h
     obtain ⟨g4, h⟩ := yb h
     obtain ⟨g5, h⟩ := yb h
     obtain ⟨g6, h⟩ := h
     obtain ⟨rs, g7, h⟩ := qh h
     rw [q40] at g4 g5
     have h := yz h
     rw [q40, q2q, y64 g7] at h
     rw [q2q] at g6
     exact ⟨y15 g1, Nat.le_of_ble_eq_true g2, y4i g3, z7 g4, y2r (z33 g5), g6, h⟩
   · exact h.elim
 · exact h.elim
theorem z9o (hF : F = F.map P) {t : Nat} {l c : Operand} {d : Option Tmp} (h : (yay F σ t l c d).holds P K) : y7j P σ t l c d K := by
 unfold yay at h
 unfold y7j
 split at h
 · rename_i d sz by_ zrow k n k' n' h1 h2 h3 h4
   rw [y01 hF h1, q6y hF h2, h3, h4]
   dsimp only
   split at h
   · rename_i hn
     rw [hn]
     dsimp only
     obtain ⟨g1, g2, g3, g4, g5, h⟩ := yb h
     exact ⟨g2, g3, g4, g5, y15 g1, yz h⟩
   · exact h.elim
 · exact h.elim
theorem y7u (hF : F = F.map P) {t : Nat} {β m i k : Nat} {x : AV} (h : (q54 F σ t (.one (.e β m i k)) x).holds P K) : z54 P σ t (.one (.e β m i k)) x K := by
 unfold q54 at h
 unfold z54
 split at h
 · rename_i n β m i k x h1 he
   cases he
   rw [y2o hF h1]
   dsimp only
   split at h
   · rename_i full sz ep rows hg
     rw [hg]
     dsimp only
     obtain ⟨g1, h⟩ := yb h
     obtain ⟨g2, h⟩ := yb h
     obtain ⟨g3, h⟩ := yb h
     obtain ⟨g4, h⟩ := yb h
     obtain ⟨g5, row, g6, g7, g8, h⟩ := h
     obtain ⟨xs, g9, h⟩ := qh h
     have h := yz h
     rw [q40] at g3 g4 h
     rw [z45 g9] at h
     refine ⟨g5, ?_⟩
     rw [g6]
     refine ⟨y15 g2, ?_, g7, z7 g3, y2r (z33 g4), g8, h⟩
     exact qaz g1
   · exact h.elim
 · rename_i he; cases he
 · rename_i he; cases he
 · exact h.elim
theorem q7u (hF : F = F.map P) {t : Nat} {p x : AV} (hne : ∀ β m i k, p ≠ .one (.e β m i k)) (h : (q54 F σ t p x).holds P K) : y54 P σ t p x K := by
 unfold q54 at h
 unfold y54
 split at h
 · exact absurd rfl (hne _ _ _ _)
 · rename_i β off c h1
   split at h
   · rename_i cs hg
     simp only [y2o hF h1, hg]
     obtain ⟨g1, h⟩ := yb h
     obtain ⟨cs', g2, h⟩ := qh h
     rw [force_eq g2] at h
     exact ⟨q0w g1, yz h⟩
   · exact h.elim
 · rename_i n β off xs h1
   split at h
   · rename_i cs hg
     simp only [y2o hF h1, hg]
     obtain ⟨g0, h⟩ := yb h
     obtain ⟨g1, h⟩ := yb h
     obtain ⟨cs', g2, h⟩ := qh h
     rw [force_eq g2] at h
     exact ⟨y15 g0, q0w g1, yz h⟩
   · exact h.elim
 · exact h.elim
theorem y87 (hF : F = F.map P) {c : Call} (ho : o.op = .call c) (h : (q9b g F σ o c).holds P K) : opL g P σ o K := by
 unfold q9b at h
 split at h
 · rename_i hc
   simp only [opL, ho, hc, opY]
   split at h
   · rename_i t _ x ht hx
     obtain ⟨av, h1, h2⟩ := q2w h
     rw [ht, hx]
     simp only [evK, h1]
     exact z9n hF (fun v hv => yes hv) h2
   · exact h.elim
 · rename_i hc
   simp only [opL, ho, hc]
   split at h
   · rename_i t tx s x d ht hx hd
     unfold qan
     rw [ht, hx, hd]
     dsimp only
     split at h
     · rename_i sz by_ p β n γ m e1 e2 e3 e4
       rw [y01 hF e1, y01 hF e2, e3, e4]
       dsimp only
       split at h
       · rename_i full0 sz0 ep rows0 full sz1 ep1 rows e5 e6
         rw [e5, e6]
         dsimp only
         obtain ⟨g1, h⟩ := yb h
         obtain ⟨g2, h⟩ := yb h
         obtain ⟨g3, h⟩ := yb h
         obtain ⟨g4, g5, g6, g7, g8, h⟩ := h
         exact ⟨g4, g5, Nat.eq_of_beq_eq_true g1, Nat.eq_of_beq_eq_true g2, g6, Nat.ne_of_beq_eq_false (z33 g3), g7, g8, yz h⟩
       · exact h.elim
     · rename_i sz by_ p β n rows e1 e2 e3 e4
       rw [y01 hF e1, y01 hF e2, e3, e4]
       dsimp only
       split at h
       · rename_i full0 sz0 ep rows0 e5
         rw [e5]
         dsimp only
         obtain ⟨g1, h⟩ := yb h
         obtain ⟨g4, g5, g6, g7, g8, h⟩ := h
         exact ⟨g4, Nat.eq_of_beq_eq_true g1, g5, g6, g7, g8, yz h⟩
       · exact h.elim
     · rename_i sz by_ p γ m e1 e2 e3 e4
       rw [y01 hF e1, y01 hF e2, e3, e4]
       dsimp only
       split at h
       · rename_i full sz1 ep1 rows e5 e6
         rw [e5, e6]
         dsimp only
         obtain ⟨g1, h⟩ := yb h
         obtain ⟨g2, h⟩ := yb h
         obtain ⟨g4, g5, g6, h⟩ := h
         exact ⟨g4, Nat.eq_of_beq_eq_true g1, Nat.ne_of_beq_eq_false (z33 g2), g5, g6, yz h⟩
       · exact h.elim
     · rename_i sz by_ p γ m e1 e2 e3 e4
       rw [y01 hF e1, y01 hF e2, e3, e4]
       dsimp only
       split at h
       · rename_i full sz1 ep1 rows e5 e6
         rw [e5, e6]
         dsimp only
         obtain ⟨g1, h⟩ := yb h
         obtain ⟨g2, h⟩ := yb h
         obtain ⟨g4, g5, g6, h⟩ := h
         exact ⟨g4, Nat.eq_of_beq_eq_true g1, Nat.ne_of_beq_eq_false (z33 g2), g5, g6, yz h⟩
       · exact h.elim
     · rename_i sz by_ p rows e1 e2 e3 e4
       rw [y01 hF e1, y01 hF e2, e3, e4]
       dsimp only
       split at h
       · rename_i e5
         rw [e5]
         dsimp only
         obtain ⟨g4, g5, g6, g7, h⟩ := h
         exact ⟨g4, g5, g6, g7, yz h⟩
       · exact h.elim
     · rename_i sz by_ p rows e1 e2 e3 e4
       rw [y01 hF e1, y01 hF e2, e3, e4]
       dsimp only
       split at h
       · rename_i e5
         rw [e5]
         dsimp only
         obtain ⟨g4, g5, g6, g7, h⟩ := h
         exact ⟨g4, g5, g6, g7, yz h⟩
       · exact h.elim
     · exact h.elim
   · exact h.elim
 · rename_i x hc
   simp only [opL, ho, hc]
   split at h
   · rename_i f caps avs e1 e2
     rw [e1, e2]
     obtain ⟨avs', h1, h2⟩ := qh h
     rw [force_eq h1] at h2
     exact h2
   · rename_i f caps avs e1 e2
     rw [e1, e2]
     obtain ⟨avs', h1, h2⟩ := qh h
     rw [force_eq h1] at h2
     exact h2
   · rename_i f β off avs e1 e2
     rw [e1, e2]
     exact h
   · rename_i f ag row avs e1 e2
     rw [e1, e2]
     exact h
   · exact h.elim
 · rename_i hc
   simp only [opL, ho, hc, opY]
   split at h
   · rename_i x y hx
     rw [hx]
     dsimp only
     split at h
     · rename_i e1 e2; rw [e1, e2]; exact yes h
     · exact h.elim
   · rename_i x y z t hx
     rw [hx]
     dsimp only
     split at h
     · rename_i e1 e2 e3 e4; rw [e1, e2, e3, e4]; exact yes h
     · exact h.elim
   · exact h.elim
 · rename_i hc
   simp only [opL, ho, hc, opY]
   split at h
   · rename_i x y hx
     rw [hx]
     dsimp only
     split at h
     · rename_i e1 e2; rw [e1, e2]; exact yes h
     · exact h.elim
   · exact h.elim
 · exact h
theorem z93 (hF : F = F.map P) (h : (opR g F σ o).holds P K) : opL g P σ o K := by
 unfold opR at h
 split at h
 case h_1 x ho => simp only [opL, ho, opY]; exact q60 h (fun _ hk => hk)
 case h_2 x ho => simp only [opL, ho, opY]; exact q60 h (fun _ hk => hk)
 case h_3 c x y ho =>
  simp only [opL, ho, opY]
  split at h
  · rename_i t ht
    rw [ht]
    exact ⟨fun hb => q60 (x := if (true : Bool) then x else y) (h.1 hb) (fun _ hk => hk), fun hb => q60 (x := if (false : Bool) then x else y) (h.2 hb) (fun _ hk => hk)⟩
  · exact h.elim
 case h_4 t x ho =>
  simp only [opL, ho, opY]
  split at h
  · rename_i av ag n h1 h2
    rw [h1, y2o hF h2]
    exact zay h
  · exact h.elim
 case h_5 op t x y yt ho =>
  split at h
  · rename_i p q h1 h2
    simp only [opL, ho, opY, h1, h2]
    obtain ⟨g1, h⟩ := yb h
    refine ⟨y83 hF g1, ?_⟩
    unfold z73
    split at h
    · exact yes h
    · exact yes h
    · exact h.elim
  · rename_i u v hne h1 h2
    simp only [opL, ho, opY]
    split
    · rename_i e1 e2
      rw [h1] at e1; rw [h2] at e2
      cases e1; cases e2
      exact (hne _ _ rfl rfl).elim
    · rename_i u' v' _ e1 e2
      rw [h1] at e1; rw [h2] at e2
      cases e1; cases e2
      exact q9a (fun v hv => yes hv) h
    · rename_i e1 e2
      rw [h1] at e1
      cases e1
    · rename_i e1 e2
      rw [h1] at e1
      cases e1
    · rename_i _ hx _ _
      exact (hx _ _ h1 h2).elim
  · rename_i rows h1 h2
    simp only [opL, ho, opY, h1, h2]
    obtain ⟨sz, g1, h⟩ := qh h
    obtain ⟨e, _, g2, _⟩ := z0w (z0m hF g1)
    refine ⟨⟨e, g2⟩, fun b hb => ?_⟩
    split at h
    · exact yes (h b hb)
    · exact yes (h b hb)
    · exact h.elim
  · rename_i cs cs' h1 h2
    simp only [opL, ho, opY, h1, h2]
    obtain ⟨ks, g1, h⟩ := qh h
    obtain ⟨xs, g2, h⟩ := qh h
    obtain ⟨ys, g3, h⟩ := qh h
    obtain ⟨g4, h⟩ := yb h
    obtain ⟨g5, h⟩ := yb h
    simp only [z98, q83 hF g1, g2, g3]
    refine ⟨y2y g4, y2y g5, ?_⟩
    split at h
    · exact yes h
    · exact yes h
    · exact h.elim
  · exact h
 case h_6 op t x ho =>
  simp only [opL, ho, opY]
  split at h
  · rename_i b hb; rw [hb]; exact yes h
  · rename_i k n hn; rw [hn]; exact yes h
  · exact h.elim
 case h_7 s d x ho =>
  split at h
  · rename_i k0 n k h1 h2
    simp only [opL, ho, opY, h1, z96 hF h2]
    obtain ⟨g1, h⟩ := yb h
    exact ⟨q84 hF g1, yes h⟩
  · exact h
 case h_8 s x f ho =>
  simp only [opL, ho, opY]
  split at h
  · rename_i row off h1 h2
    rw [h1, z2t hF h2]
    obtain ⟨g1, h⟩ := yb h
    obtain ⟨r, g2, h⟩ := qh h
    rw [force_eq g2] at h
    exact ⟨q0w g1, yes h⟩
  · rename_i β i off h1 h2
    rw [h1, z2t hF h2]; exact yes h
  · rename_i β m i k off h1 h2
    rw [h1, z2t hF h2]; exact yes h
  · exact h.elim
 case h_9 s x f ho =>
  simp only [opL, ho, opY]
  split at h
  · rename_i cs off n h1 h2
    rw [h1, z2o hF h2]
    obtain ⟨g1, h⟩ := yb h
    obtain ⟨r, g2, h⟩ := qh h
    rw [force_eq g2] at h
    exact ⟨q0w g1, yes h⟩
  · rename_i cs off n h1 h2
    rw [h1, z2o hF h2]
    obtain ⟨c, g2, h⟩ := qh h
    rw [y23] at g2
    dsimp only
    rw [g2]
    exact yes h
  · exact h.elim
 case h_10 t x i ho =>
  split at h
  · rename_i rows k n sz h1 h2 h3
    simp only [opL, ho, opY, h1, h2, z0m hF h3]
    obtain ⟨g1, row, g2, g3, h⟩ := h
    refine ⟨g1, ?_⟩
    rw [g2]
    exact ⟨g3, yes h⟩
  · rename_i β m k n sz h1 h2 h3
    simp only [opL, ho, opY, h1, h2, z0m hF h3]
    split at h
    · rename_i full sz0 ep rows hg
      rw [hg]
      obtain ⟨g0, g1, row, g2, g3, h⟩ := h
      refine ⟨g0, g1, ?_⟩
      rw [g2]
      exact ⟨g3, yes h⟩
    · exact h.elim
  · exact h
 case h_11 t x i ho =>
  simp only [opL, ho, opY]
  split at h
  · rename_i s k n h1 h2
    rw [h1, h2]
    obtain ⟨g1, h⟩ := yb h
    obtain ⟨g2, b, g3, h⟩ := h
    refine ⟨q3u hF g1, g2, ?_⟩
    rw [g3]
    exact yes h
  · exact h.elim
 case h_12 t x lo hi ho =>
  split at h
  · rename_i s l hh h1 h2 h3
    simp only [opL, ho, opY, h1, q42 h2, q42 h3]
    obtain ⟨g1, g2, g3, g4, h⟩ := yb h
    exact ⟨q3u hF g1, g2, g3, g4, yes h⟩
  · rename_i rows l hh h1 h2 h3
    simp only [opL, ho, opY, h1, q42 h2, q42 h3]
    obtain ⟨sz, g0, g1, g2, g3, g4, h⟩ := qh h
    rw [z0m hF g0]
    exact ⟨g1, g2, g3, g4, yes h⟩
  · exact h
 case h_13 x i ho =>
  simp only [opL, ho, opY]
  split at h
  · rename_i vs h1
    obtain ⟨av, g1, h⟩ := qh h
    rw [y23] at g1
    rw [h1]
    dsimp only
    rw [g1]
    exact yes h
  · exact h.elim
 case h_14 f first caps ho =>
  simp only [opL, ho, opY]
  split at h
  · rename_i x hf hc
    rw [hf, hc]
    dsimp only
    split at h
    · rename_i e1; rw [e1]; exact yes h
    · rename_i e1; rw [e1]; exact yes h
    · rename_i cs e1
      rw [e1]
      obtain ⟨l, g1, h⟩ := qh h
      dsimp only
      rw [g1]
      exact yes h
    · exact h.elim
  · rename_i hf
    rw [hf]
    dsimp only
    cases hcs : q6e σ caps.toList with
    | some cs =>
      rw [hcs] at h
      have e := (y3w (σ := σ) (l := caps.toList)).symm.trans hcs
      split
      · rename_i cs' h'
        have := h'.symm.trans e
        cases this
        exact yes h
      · rename_i h'
        have := h'.symm.trans e
        cases this
    | none =>
      rw [hcs] at h
      obtain ⟨cs, g1, h⟩ := qh h
      have e := (y3w (σ := σ) (l := caps.toList)).symm.trans hcs
      have e2 := y5z g1
      split
      · rename_i cs' h'
        have := h'.symm.trans e
        cases this
      · split
        · rename_i cs' h'
          have := h'.symm.trans e2
          cases this
          exact yes h
        · rename_i h'
          have := h'.symm.trans e2
          cases this
  · exact h.elim
 case h_15 t ps ho =>
  cases g1 : q59 F t with
  | none => rw [g1] at h; exact h
  | some z =>
    rw [g1] at h
    simp only [opL, ho, opY]
    obtain ⟨cs, g2, h⟩ := qh h
    rw [q6b hF g1]
    dsimp only
    rw [z40 hF g2]
    exact yes h
 case h_16 e ho =>
  simp only [opL, ho]
  split at h
  · rename_i z hz
    obtain ⟨g1, h⟩ := yb h
    rw [y6y hF hz]
    exact ⟨y3o g1, y80 h⟩
  · exact h.elim
 case h_17 e x ho =>
  simp only [opL, ho]
  split at h
  · rename_i z hz
    obtain ⟨g1, h⟩ := yb h
    rw [hz]
    exact ⟨y3o g1, y80 h⟩
  · exact h.elim
 case h_18 t p x ho =>
  simp only [opL, ho]
  split at h
  · rename_i pv xv hd h1 h2
    refine ⟨hd, ?_⟩
    rw [h1, h2]
    split
    · rename_i e1 e2; cases e1; cases e2; exact y7u hF h
    · rename_i pv' xv' hne e1 e2
      cases e1; cases e2
      exact q7u hF (fun β m i k e => hne β m i k e) h
    · rename_i hx; exact (hx _ _ rfl rfl).elim
  · exact h.elim
 case h_19 t n ps ho => simp only [opL, ho]; exact y9n hF h
 case h_20 t l c ho => simp only [opL, ho]; exact z9o hF h
 case h_21 c ho => exact y87 hF ho h
 case h_22 x ho =>
  simp only [opL, ho, opY]
  obtain ⟨av, g1, h⟩ := q2w h
  rw [g1]
  split at h
  · exact yes h
  · exact yes h
  · exact yes h
  · exact h.elim
 case h_23 => exact h
end
inductive Fr where
 | ops (ops : Array Oper) (l : List Oper)
 | op1 (g : Bool) (o : Oper)
 | r (r : R)
 | code (c : Code)
 | blk (id : Nat)
 | lp (J : St → Prop)
 | plan (ops : Array Oper) (LC : List Nat) (p : z6c)
def G (P : Program) (Q : Ex → St → Prop) : List Fr → Option Nat → St → Prop
 | [], none, σ => Q .normal σ
 | [], some i, σ => Q (.exit i) σ
 | .blk j :: st, some i, σ => if i = j then G P Q st none σ else G P Q st (some i) σ
 | _ :: st, some i, σ => G P Q st (some i) σ
 | .ops ops l :: st, none, σ => q9s P ops l σ (G P Q st none)
 | .op1 g o :: st, none, σ => opL g P σ o (G P Q st none)
 | .r r :: st, none, _ => r.holds P (G P Q st none)
 | .code c :: st, none, σ => vc P c (fun e σ => match e with | .normal => G P Q st none σ | .exit i => G P Q st (some i) σ | .ret => Q .ret σ) σ
 | .blk _ :: st, none, σ => G P Q st none σ
 | .lp J :: _, none, σ => J σ
 | .plan ops LC p :: st, none, σ => q34 LC P ops p σ (G P Q st none)
inductive T where
 | go (st : List Fr) (σ : St)
 | br (t : Bool) (st : List Fr) (σ : St) (st' : List Fr) (σ' : St)
 | side (p : Prop) (st : List Fr) (σ : St)
 | any (q : Bool → Prop) (f : Bool → R) (st : List Fr)
 | row (rows : List (List Cell)) (i : Nat) (f : List Cell → R) (st : List Fr)
 | byte (s : ByteArray) (i : Nat) (f : UInt8 → R) (st : List Fr)
 | call (g : Bool) (σ : St) (d : Option Tmp) (f : Nat) (avs : List AV) (st : List Fr)
 | raw (g : Bool) (σ : St) (o : Oper) (st : List Fr)
 | loop (b : Code) (st : List Fr) (σ : St)
 | cont (J : St → Prop) (σ : St)
 | draw (id : Nat) (ops : Array Oper) (st : List Fr) (σ : St)
 | both (st st' : List Fr) (σ : St)
 | yes
 | fin (e : Ex) (σ : St)
 | fail
def T.holds (P : Program) (Q : Ex → St → Prop) : T → Prop
 | .go st σ => G P Q st none σ
 | .br t st σ st' σ' => (t = true → G P Q st none σ) ∧ (t = false → G P Q st' none σ')
 | .side p st σ => p ∧ G P Q st none σ
 | .any q f st => ∀ b, q b → (f b).holds P (G P Q st none)
 | .row rows i f st => ∃ row, rows[i]? = some row ∧ (f row).holds P (G P Q st none)
 | .byte s i f st => ∃ b, s[i]? = some b ∧ (f b).holds P (G P Q st none)
 | .call g σ d f avs st => z3u P σ d f avs (G P Q st none) ∨ (g = true ∧ q3t P σ d f avs (G P Q st none))
 | .raw g σ o st => opL g P σ o (G P Q st none)
 | .loop b st σ => vc P (.loop b) (fun e σ => match e with | .normal => G P Q st none σ | .exit i => G P Q st (some i) σ | .ret => Q .ret σ) σ
 | .cont J σ => J σ
 | .draw id ops st σ => vc P (.region id ops true) (fun e σ => match e with | .normal => G P Q st none σ | .exit i => G P Q st (some i) σ | .ret => Q .ret σ) σ
 | .both st st' σ => G P Q st none σ ∧ G P Q st' none σ
 | .yes => True
 | .fin e σ => Q e σ
 | .fail => False
def z7o (i : Nat) : List Fr → Option (List Fr)
 | [] => none
 | .blk j :: st => bif Nat.beq i j then some st else z7o i st
 | _ :: st => z7o i st
def yat (σ : St) (d : Option Tmp) : St := match σ, d with
 | ⟨t, b⟩, some d => ⟨(d, .tup []) :: t, b⟩
 | σ, none => σ
def skR (σ : St) (d : Option Tmp) : R := match yat σ d with | ⟨t, b⟩ => (match force t with | some t => .ok ⟨t, b⟩ | none => .fail)
theorem q38 {P : Program} {σ : St} {d : Option Tmp} {K : St → Prop} (h : (skR σ d).holds P K) : K (yat σ d) := by
 unfold skR at h
 split at h
 rename_i t b e
 split at h
 · rename_i t' ht; rw [force_eq ht] at h; rw [e]; exact h
 · exact h.elim
def z3p (g : Bool) (F : TT) (ops : Array Oper) (o : Oper) (st : List Fr) (σ : St) : T := match o.guard with
    | none => .go (.r (opR g F σ o) :: st) σ
    | some (j, want) => (match nth ops.toList j with
      | some o' => (match o'.dst with
        | some d => (match get σ.t d with
          | some (.one (.b (.s (.bool t)))) => (match want with
            | true => .br t (.op1 g o :: st) (y3e σ (.tmp d) true) (.r (skR (y3e σ (.tmp d) false) o.dst) :: st) ⟨[], []⟩
            | false => .br t (.r (skR (y3e σ (.tmp d) true) o.dst) :: st) ⟨[], []⟩ (.op1 g o :: st) (y3e σ (.tmp d) false))
          | some (.tup []) => .go (.r (skR σ o.dst) :: st) ⟨[], []⟩
          | _ => .fail)
        | none => .fail)
      | none => .fail)
def step (F : TT) : List Fr → St → T
 | [], σ => .fin .normal σ
 | .ops _ [] :: st, σ => .go st σ
 | .ops ops (o :: l) :: st, σ => z3p true F ops o (.ops ops l :: st) σ
 | .op1 g o :: st, σ => .go (.r (opR g F σ o) :: st) σ
 | .r r :: st, σ => (match r with
   | .fail => .fail
   | .ok σ => .go st σ
   | .side p r => .side p (.r r :: st) σ
   | .br t r r' => .br t (.r r :: st) σ (.r r' :: st) σ
   | .any q f => .any q f st
   | .row rows i f => .row rows i f st
   | .byte s i f => .byte s i f st
   | .call g σ d f avs => .call g σ d f avs st
   | .raw g σ o => .raw g σ o st)
 | .code c :: st, σ => (match c with
   | .skip => .go st σ
   | .region id ops draw => (match draw with | true => .draw id ops st σ | false => .go (.ops ops ops.toList :: st) σ)
   | .seq x y => .go (.code x :: .code y :: st) σ
   | .cond c x y => (match ev σ c with
     | some (.one (.b (.s (.bool t)))) => .br t (.code x :: st) (y3e σ c true) (.code y :: st) (y3e σ c false)
     | _ => .fail)
   | .block id b => .go (.code b :: .blk id :: st) σ
   | .loop b => .loop b st σ
   | .exit id => (match z7o id st with | some st => .go st σ | none => .fail)
   | .ret => .fin .ret σ
   | _ => .fail)
 | .blk _ :: st, σ => .go st σ
 | .lp J :: _, σ => .cont J σ
 | .plan ops LC p :: st, σ => (match p with
   | .done => .go st σ
   | .nil => .yes
   | .take i _ p => (match nth ops.toList i with | some o => z3p (LC.contains i) F ops o (.plan ops LC p :: st) σ | none => .fail)
   | .alt i p .nil => (match nth ops.toList i with | some o => z3p (LC.contains i) F ops o (.plan ops LC p :: st) σ | none => .fail)
   | .alt i p q => .both (.plan ops LC (.alt i p .nil) :: st) (.plan ops LC q :: st) σ)
def exec : Nat → TT → List Fr → St → T
 | 0, _, st, σ => .go st σ
 | n + 1, F, st, σ => match step F st σ with
   | .go st σ => exec n F st σ
   | t => t
section
variable {P : Program} {F : TT} {Q : Ex → St → Prop}
theorem z1f {i : Nat} {σ : St} : ∀ {st st' : List Fr}, z7o i st = some st' → G P Q st' none σ → G P Q st (some i) σ
 | [], st', h, _ => by cases h
 | .blk j :: st, st', h, hg => by
   rw [z7o] at h
   rw [G]
   by_cases hij : i = j
   · subst hij; simp only [Nat.beq_refl, cond_true, Option.some.injEq] at h; subst h; rw [if_pos rfl]; exact hg
   · rw [beq_false hij] at h; rw [if_neg hij]; exact z1f h hg
 | .ops _ _ :: st, st', h, hg => z1f (st := st) h hg
 | .op1 _ _ :: st, st', h, hg => z1f (st := st) h hg
 | .r _ :: st, st', h, hg => z1f (st := st) h hg
 | .code _ :: st, st', h, hg => z1f (st := st) h hg
 | .lp _ :: st, st', h, hg => z1f (st := st) h hg
 | .plan _ _ _ :: st, st', h, hg => z1f (st := st) h hg
theorem z4w {g : Bool} (hF : F = F.map P) {ops : Array Oper} {o : Oper} {st : List Fr} {σ : St} (h : (z3p g F ops o st σ).holds P Q) : y3l ops σ o (fun σ => opL g P σ o (G P Q st none)) (fun σ => y5q σ o.dst (G P Q st none)) := by
 simp only [z3p] at h
 unfold y3l
 split at h
 · rename_i hg; rw [hg]; exact z93 hF h
 · rename_i j want hg
   rw [hg]
   dsimp only
   split at h
   · rename_i o' ho'
     rw [y23, Array.getElem?_toList] at ho'
     split at h
     · rename_i d hd
       rw [ho']
       simp only [Option.bind_some, hd]
       split at h
       · rename_i t ht
         rw [ht]
         dsimp only
         have hsk : ∀ (σ0 : St) (K : St → Prop), K (yat σ0 o.dst) → y5q σ0 o.dst K := fun σ0 K hk => by
          unfold y5q
          cases σ0 with
          | mk t0 b0 =>
          cases hdd : o.dst with
          | none => rw [hdd] at hk; exact hk
          | some d0 =>
            rw [hdd] at hk
            exact hk
         cases σ with
         | mk t0 b0 =>
         split at h
         · obtain ⟨h1, h2⟩ := h
           exact ⟨fun hb => by simp only [beq_self_eq_true, if_true]; exact h1 hb, fun hb => by
            have : ¬ ((false == true) = true) := by decide
            dsimp only; rw [if_neg this]; exact hsk _ _ (q38 (h2 hb))⟩
         · obtain ⟨h1, h2⟩ := h
           exact ⟨fun hb => by
            have : ¬ ((true == false) = true) := by decide
            dsimp only; rw [if_neg this]; exact hsk _ _ (q38 (h1 hb)), fun hb => by simp only [beq_self_eq_true, if_true]; exact h2 hb⟩
       · rename_i ht
         rw [ht]
         have h' := q38 (P := P) (K := G P Q st none) h
         unfold y5q
         cases σ with
         | mk t0 b0 =>
         cases hdd : o.dst with
         | none => rw [hdd] at h'; exact h'
         | some d0 => rw [hdd] at h'; exact h'
       · exact h.elim
     · exact h.elim
   · exact h.elim
theorem z9w (hF : F = F.map P) {st : List Fr} {σ : St} (h : (step F st σ).holds P Q) : G P Q st none σ := by
 cases st with
 | nil => exact h
 | cons f st =>
   cases f with
   | ops ops l =>
     cases l with
     | nil => exact h
     | cons o l =>
       exact z4w (st := .ops ops l :: st) hF h
   | op1 g o => exact z93 hF h
   | r r => cases r <;> exact h
   | code c =>
     cases c with
     | skip => exact h
     | region id ops draw =>
       cases draw with
       | true => exact h
       | false => exact h
     | seq x y =>
       have e : (fun (e : Ex) (σ : St) => match e with | .normal => G P Q (.code y :: st) none σ | .exit i => G P Q (.code y :: st) (some i) σ | .ret => Q .ret σ) =
        (fun e σ => match e with | .normal => vc P y (fun e σ => match e with | .normal => G P Q st none σ | .exit i => G P Q st (some i) σ | .ret => Q .ret σ) σ | .exit i => G P Q st (some i) σ | .ret => Q .ret σ) := by
        funext e σ; cases e <;> rfl
       have h' : vc P x (fun (e : Ex) (σ : St) => match e with | .normal => G P Q (.code y :: st) none σ | .exit i => G P Q (.code y :: st) (some i) σ | .ret => Q .ret σ) σ := h
       rw [e] at h'
       exact .inl h'
     | cond c x y =>
       simp only [step] at h
       simp only [G, vc]
       split at h
       · rename_i t ht; rw [ht]; exact h
       · exact h.elim
     | block id b =>
       have e : (fun (e : Ex) (σ : St) => match e with | .normal => G P Q (.blk id :: st) none σ | .exit i => G P Q (.blk id :: st) (some i) σ | .ret => Q .ret σ) =
        (fun e σ => match e with | .normal => G P Q st none σ | .exit i => if i = id then G P Q st none σ else G P Q st (some i) σ | .ret => Q .ret σ) := by
        funext e σ; cases e <;> rfl
       have h' : vc P b (fun (e : Ex) (σ : St) => match e with | .normal => G P Q (.blk id :: st) none σ | .exit i => G P Q (.blk id :: st) (some i) σ | .ret => Q .ret σ) σ := h
       rw [e] at h'
       exact h'
     | loop b => exact h
     | exit id =>
       simp only [step] at h
       split at h
       · rename_i st' hp; exact z1f hp h
       · exact h.elim
     | ret => exact h
     | _ => exact h.elim
   | blk id => exact h
   | lp J => exact h
   | plan ops LC p =>
     have one : ∀ {i : Nat} {p' : z6c}, (match nth ops.toList i with | some o => z3p (LC.contains i) F ops o (.plan ops LC p' :: st) σ | none => .fail).holds P Q → z9q LC P ops i σ (fun σ => q34 LC P ops p' σ (G P Q st none)) := fun {i p'} h => by
      unfold z9q
      split at h
      · rename_i o ho
        rw [y23, Array.getElem?_toList] at ho
        rw [ho]
        exact z4w (st := .plan ops LC p' :: st) hF h
      · exact h.elim
     cases p with
     | done => exact h
     | nil => trivial
     | take i W p => exact one h
     | alt i p q =>
       cases q with
       | nil => exact ⟨one h, trivial⟩
       | done => exact ⟨h.1.1, h.2⟩
       | take _ _ _ => exact ⟨h.1.1, h.2⟩
       | alt _ _ _ => exact ⟨h.1.1, h.2⟩
theorem z7a (hF : F = F.map P) : ∀ {n : Nat} {st : List Fr} {σ : St}, (exec n F st σ).holds P Q → G P Q st none σ
 | 0, _, _, h => h
 | n + 1, st, σ, h => by
   refine z9w hF ?_
   rw [exec] at h
   split at h
   · rename_i st' σ' hs; rw [hs]; exact z7a hF h
   · exact h
theorem run (hF : F = F.map P) {n : Nat} {st : List Fr} {σ : St} {t : T} (he : exec n F st σ = t) (h : t.holds P Q) : G P Q st none σ := z7a hF (by rw [he]; exact h)
def y79 : Nat → TT → List Fr → St → T
 | 0, _, st, σ => .go st σ
 | k + 1, F, st, σ => match exec 2000 F st σ with
   | .br t st1 σ1 st2 σ2 => (match t with | true => y79 k F st1 σ1 | false => y79 k F st2 σ2)
   | _ => .fail
theorem q3z (hF : F = F.map P) : ∀ {k : Nat} {st : List Fr} {σ : St}, (y79 k F st σ).holds P Q → G P Q st none σ
 | 0, _, _, h => h
 | k + 1, st, σ, h => by
   rw [y79] at h
   split at h
   · rename_i t st1 σ1 st2 σ2 he
     refine run hF he ?_
     cases t with
     | true => exact ⟨fun _ => q3z hF h, nofun⟩
     | false => exact ⟨nofun, fun _ => q3z hF h⟩
   · exact h.elim
def QR (P : Program) (fn : Func) (res : Res) (e : Ex) (σ : St) : Prop := match e with | .exit _ => False | _ => q9z P fn res σ
theorem PC.begin {f : Nat} {fn : Func} {c : Code} {args : List SV} {res : Res} (hf : P.funcs[f]? = some fn) (hb : fn.body = some c) (hok : (okF P f && y19 fn.ntmps c && Nat.ble args.length fn.ntmps) = true)
 (h : G P (QR P fn res) [.code c] none ⟨z9a 0 args, []⟩) : PC P f args res := by
 refine PC.intro hf hb hok ?_
 have e : (fun (e : Ex) (σ : St) => match e with | .normal => G P (QR P fn res) [] none σ | .exit i => G P (QR P fn res) [] (some i) σ | .ret => QR P fn res .ret σ) =
  (fun e σ => match e with | .exit _ => False | _ => q9z P fn res σ) := by
  funext e σ; cases e <;> rfl
 have h' : vc P c (fun (e : Ex) (σ : St) => match e with | .normal => G P (QR P fn res) [] none σ | .exit i => G P (QR P fn res) [] (some i) σ | .ret => QR P fn res .ret σ) ⟨z9a 0 args, []⟩ := h
 rw [e] at h'
 exact h'
end
end Go.Sx
end
section
namespace Go.Sx
class yn (P : Program) where
 F : TT
 ok : F = F.map P
 mix : P.follows .mixedOrders = true
def y70 (σ : St) (d : Option Tmp) (res : Res) : R := match d with
 | some d => (match σ with | ⟨t, b⟩ => bR ((d, z7q (nameOf d) res) :: t) (z1g (nameOf d) res ++ b))
 | none => .ok σ
def q1m : AC → Bool
 | .b _ => true
 | .nil => true
 | .em => true
 | _ => false
def q1v : List AV → Bool
 | [] => true
 | .one c :: l => bif q1m c then q1v l else false
 | .agg cs :: l => bif cs.all q1m then q1v l else false
 | _ => false
def z3l (B : List (Nat × AB)) : List (Nat × AB) → Bool
 | [] => true
 | (β, _) :: l => match get B β with | none => z3l B l | some _ => false
theorem q39 {c : AC} (h : q1m c = true) : y39 c := by cases c <;> first | trivial | cases h
theorem q2f : ∀ {avs : List AV}, q1v avs = true → z8w y5r avs
 | [], _ => trivial
 | .one c :: l, h => by
   rw [q1v] at h
   cases hc : q1m c with
   | false => rw [hc] at h; cases h
   | true => rw [hc] at h; exact ⟨q39 hc, q2f h⟩
 | .agg cs :: l, h => by
   rw [q1v] at h
   cases hc : cs.all q1m with
   | false => rw [hc] at h; cases h
   | true =>
     rw [hc] at h
     have : ∀ cs : List AC, cs.all q1m = true → q70 y39 cs := by
      intro cs
      induction cs with
      | nil => intro _; trivial
      | cons c cs ih => intro h; simp only [List.all_cons, Bool.and_eq_true] at h; exact ⟨q39 h.1, ih h.2⟩
     exact ⟨this cs hc, q2f h⟩
 | .tup _ :: l, h => by cases h
theorem y20 {B : List (Nat × AB)} : ∀ {l : List (Nat × AB)}, z3l B l = true → q0a B l
 | [], _ => trivial
 | (β, _) :: l, h => by
   rw [z3l] at h
   split at h
   · rename_i hn; exact ⟨hn, y20 h⟩
   · cases h
def q8x (σ : St) (d : Option Tmp) (avs : List AV) (res : Res) : Bool := bif q17 res then (bif q3l res then (bif q1v avs then z3l σ.b (z1g (nameOf (d.getD 0)) res) else false) else z3l σ.b (z1g (nameOf (d.getD 0)) res)) else false
section
variable {P : Program} [yn P] {Q : Ex → St → Prop} {st st1 st2 : List Fr} {σ σ1 σ2 : St}
theorem xb {t : Bool} (h : exec 2000 (yn.F P) st σ = .br t st1 σ1 st2 σ2) (h1 : t = true → G P Q st1 none σ1) (h2 : t = false → G P Q st2 none σ2) : G P Q st none σ := run yn.ok h ⟨h1, h2⟩
theorem xf (h : exec 2000 (yn.F P) st σ = .br false st1 σ1 st2 σ2) (h1 : G P Q st2 none σ2) : G P Q st none σ := run yn.ok h ⟨nofun, fun _ => h1⟩
theorem xj {k : Nat} (h : y79 k (yn.F P) st σ = .go st1 σ1) (h1 : G P Q st1 none σ1) : G P Q st none σ := q3z yn.ok (by rw [h]; exact h1)
theorem xr {e : Ex} (h : exec 2000 (yn.F P) st σ = .fin e σ1) (h1 : Q e σ1) : G P Q st none σ := run yn.ok h h1
theorem xs {p : Prop} (h : exec 2000 (yn.F P) st σ = .side p st1 σ1) (h1 : p) (h2 : G P Q st1 none σ1) : G P Q st none σ := run yn.ok h ⟨h1, h2⟩
theorem qbh {q : Bool → Prop} {f : Bool → R} (h : exec 2000 (yn.F P) st σ = .any q f st1) (h1 : ∀ b, q b → G P Q (.r (f b) :: st1) none ⟨[], []⟩) : G P Q st none σ := run yn.ok h h1
theorem q8 {rows : List (List Cell)} {i : Nat} {f : List Cell → R} (h : exec 2000 (yn.F P) st σ = .row rows i f st1) (row : List Cell) (hr : rows[i]? = some row) (h1 : G P Q (.r (f row) :: st1) none ⟨[], []⟩) : G P Q st none σ := run yn.ok h ⟨row, hr, h1⟩
theorem ya0 {g : Bool} {o : Oper} (h : exec 2000 (yn.F P) st σ = .raw g σ1 o st1) (h1 : opL g P σ1 o (G P Q st1 none)) : G P Q st none σ := run yn.ok h h1
theorem za {J : St → Prop} (h : exec 2000 (yn.F P) st σ = .cont J σ1) (h1 : J σ1) : G P Q st none σ := run yn.ok h h1
theorem y0u (h : exec 2000 (yn.F P) st σ = .both st1 st2 σ1) (h1 : G P Q st1 none σ1) (h2 : G P Q st2 none σ1) : G P Q st none σ := run yn.ok h ⟨h1, h2⟩
def y90 (ops : Array Oper) (LC : List Nat) (p : z6c) : Bool := Region.noSelect ops && (y2i .any ops (Array.replicate ops.size false) p && q1e LC .any ops p ops.size (Array.replicate ops.size false))
theorem zb {id : Nat} {ops : Array Oper} (h : exec 2000 (yn.F P) st σ = .draw id ops st1 σ1) (LC : List Nat) (p : z6c) (hp : y90 ops LC p = true) (h1 : G P Q (.plan ops LC p :: st1) none σ1) : G P Q st none σ := by
 simp only [y90, Bool.and_eq_true] at hp
 exact run yn.ok h ⟨yn.mix, hp.1, LC, p, hp.2.1, hp.2.2, h1⟩
theorem z6 {g : Bool} {d : Option Tmp} {f : Nat} {avs : List AV} {res : Res} (h : exec 2000 (yn.F P) st σ = .call g σ1 d f avs st1) (hpc : PC P f (avs.map (q8r σ1.b)) res) (hok : q8x σ1 d avs res = true) (hw : z8w (wfV σ1.b) avs) (h1 : G P Q (.r (y70 σ1 d res) :: st1) none ⟨[], []⟩) : G P Q st none σ := by
 refine run yn.ok h (.inl ⟨res, hpc, ?_⟩)
 unfold q8x at hok
 cases h2 : q17 res with
 | false => rw [h2] at hok; cases hok
 | true =>
   rw [h2] at hok
   have hK : G P Q st1 none (q2t σ1 d res) := by
    have h1 : (y70 σ1 d res).holds P (G P Q st1 none) := h1
    unfold y70 at h1
    unfold q2t
    cases d with
    | none => exact h1
    | some d => cases σ1; exact yz h1
   cases h3 : q3l res with
   | true =>
     rw [h3] at hok
     cases h4 : q1v avs with
     | false => rw [h4] at hok; cases hok
     | true => rw [h4] at hok; exact ⟨rfl, hw, fun _ => q2f h4, y20 hok, hK⟩
   | false => rw [h3] at hok; exact ⟨rfl, hw, nofun, y20 hok, hK⟩
def q6z (σ : St) (d : Option Tmp) (res : Res) (T : List (Nat × AB)) : R := match σ, d with
 | ⟨t, b⟩, some d => bR ((d, z7q (nameOf d) res) :: t) ((z1g (nameOf d) res ++ T) ++ b)
 | ⟨t, b⟩, none => bR t (([] ++ T) ++ b)
def y91 (σ : St) (d : Option Tmp) (avs : List AV) (args : List GA) (res : Res) : Bool := bif q17 res then (bif q9p ((y11 0 (acs avs) (gcs args)).map (·.2.1)) then z3l σ.b (z1g (nameOf (d.getD 0)) res) else false) else false
theorem y0l {d : Option Tmp} {f : Nat} {avs : List AV} {args : List GA} {res : Res} {back : List (Nat × List (List Cell))} (h : exec 2000 (yn.F P) st σ = .call true σ1 d f avs st1) (hpc : PG P f args res back) (hm : mAs σ1.b avs args) (hok : y91 σ1 d avs args res = true)
 (h1 : G P Q (.r (q6z σ1 d res (z1i σ1.b back (y11 0 (acs avs) (gcs args)))) :: st1) none ⟨[], []⟩) : G P Q st none σ := by
 unfold y91 at hok
 cases h2 : q17 res with
 | false => rw [h2] at hok; cases hok
 | true =>
   rw [h2] at hok
   cases h3 : q9p ((y11 0 (acs avs) (gcs args)).map (·.2.1)) with
   | false => rw [h3] at hok; cases hok
   | true =>
     rw [h3] at hok
     refine run yn.ok h (.inr ⟨rfl, .inl ⟨args, res, back, hpc, h2, hm, z7 h3, y20 hok, ?_⟩⟩)
     have h1 : (q6z σ1 d res (z1i σ1.b back (y11 0 (acs avs) (gcs args)))).holds P (G P Q st1 none) := h1
     cases σ1
     cases d with
     | none => exact yz h1
     | some d => exact yz h1
theorem zak {b : Code} (h : exec 2000 (yn.F P) st σ = .loop b st1 σ1) {ι : Type} (pre : ι → Prop) (inv : ι → St) (m : ι → Nat) (i0 : ι) (h0 : pre i0) (hw : Wk σ1 (inv i0))
 (hs : ∀ i, pre i → ∀ J : St → Prop, (∀ σ' i', pre i' → m i' < m i → Wk σ' (inv i') → J σ') → G P Q (.code b :: .lp J :: st1) none (inv i)) : G P Q st none σ := by
 refine run yn.ok h ⟨ι, pre, inv, m, ⟨i0, h0, hw⟩, fun i hi => ?_⟩
 have h2 := hs i hi (fun σ => ∃ i', pre i' ∧ m i' < m i ∧ Wk σ (inv i')) (fun σ' i' h1 h2 h3 => ⟨i', h1, h2, h3⟩)
 have e : (fun (e : Ex) (σ : St) => match e with | .normal => G P Q (.lp (fun σ => ∃ i', pre i' ∧ m i' < m i ∧ Wk σ (inv i')) :: st1) none σ | .exit i' => G P Q (.lp (fun σ => ∃ i', pre i' ∧ m i' < m i ∧ Wk σ (inv i')) :: st1) (some i') σ | .ret => Q .ret σ) =
  (fun e σ => match e with | .normal => ∃ i', pre i' ∧ m i' < m i ∧ Wk σ (inv i') | .exit j => G P Q st1 (some j) σ | .ret => Q .ret σ) := by
  funext e σ; cases e <;> rfl
 have h3 : vc P b (fun (e : Ex) (σ : St) => match e with | .normal => G P Q (.lp (fun σ => ∃ i', pre i' ∧ m i' < m i ∧ Wk σ (inv i')) :: st1) none σ | .exit i' => G P Q (.lp (fun σ => ∃ i', pre i' ∧ m i' < m i ∧ Wk σ (inv i')) :: st1) (some i') σ | .ret => Q .ret σ) (inv i) := h2
 rw [e] at h3
 exact h3
theorem zc {b : Code} (h : exec 2000 (yn.F P) st σ = .loop b st1 σ1) {ι : Type} (pre : ι → Prop) (inv : ι → St) (m : ι → Nat) (i0 : ι) (h0 : pre i0) (hw : Wk0 σ1 (inv i0))
 (hs : ∀ i, pre i → ∀ J : St → Prop, (∀ σ' i', pre i' → m i' < m i → Wk0 σ' (inv i') → J σ') → G P Q (.code b :: .lp J :: st1) none (inv i)) : G P Q st none σ :=
 zak h pre inv m i0 h0 (.of hw) (fun i hi J hJ => hs i hi J (fun σ' i' h1 h2 h3 => hJ σ' i' h1 h2 (.of h3)))
theorem yaj {n : Nat} {x y : Code} (h : exec n (yn.F P) st σ = .go (.code (.seq x y) :: st1) σ1) {ι : Type} (pre : ι → Prop) (inv : ι → St)
 (h1 : ∀ K : St → Prop, (∀ σ' i, pre i → Wk0 σ' (inv i) → K σ') → G P Q (.code x :: .lp K :: st1) none σ1) (h2 : ∀ i, pre i → G P Q (.code y :: st1) none (inv i)) : G P Q st none σ := by
 refine run yn.ok h ?_
 show G P Q (.code (.seq x y) :: st1) none σ1
 refine .inr ⟨ι, pre, inv, ?_, h2⟩
 have h3 := h1 (fun σ' => ∃ i, pre i ∧ Wk σ' (inv i)) (fun σ' i hp hw => ⟨i, hp, .of hw⟩)
 have e : (fun (e : Ex) (σ : St) => match e with | .normal => G P Q (.lp (fun σ => ∃ i', pre i' ∧ Wk σ (inv i')) :: st1) none σ | .exit i' => G P Q (.lp (fun σ => ∃ i', pre i' ∧ Wk σ (inv i')) :: st1) (some i') σ | .ret => Q .ret σ) =
  (fun e σ => match e with | .normal => ∃ i', pre i' ∧ Wk σ (inv i') | .exit j => G P Q st1 (some j) σ | .ret => Q .ret σ) := by
  funext e σ; cases e <;> rfl
 have h4 : vc P x (fun (e : Ex) (σ : St) => match e with | .normal => G P Q (.lp (fun σ => ∃ i', pre i' ∧ Wk σ (inv i')) :: st1) none σ | .exit i' => G P Q (.lp (fun σ => ∃ i', pre i' ∧ Wk σ (inv i')) :: st1) (some i') σ | .ret => Q .ret σ) σ1 := h3
 rw [e] at h4
 exact h4
omit [yn P] in
theorem zm {fn : Func} {res : Res} {e : Ex} (he : (match e with | .exit _ => false | _ => true) = true) (h : q9z P fn res σ) : QR P fn res e σ := by
 cases e with
 | exit i => cases he
 | _ => exact h
end
def qb6 (fn : Func) (σ : St) : Option Value := match fn.results.toList with
 | [.tmp t] => (match get σ.t t with | some (.one (.b (.s v))) => some v | _ => none)
 | _ => none
def zav : Ex → Bool
 | .exit _ => false
 | _ => true
theorem xv {P : Program} [yn P] {fn : Func} {st : List Fr} {σ σ1 : St} {e : Ex} {v v' : Value} (h : exec 2000 (yn.F P) st σ = .fin e σ1) (he : zav e = true) (ho : qb6 fn σ1 = some v) (hv : v = v') : G P (QR P fn (.one (.own false [.s v']))) st none σ := by
 subst hv
 refine xr h (zm (by cases e <;> first | rfl | cases he) ?_)
 unfold qb6 at ho
 split at ho
 case h_2 => cases ho
 rename_i t ht
 split at ho
 case h_2 => cases ho
 rename_i u hu
 cases ho
 unfold q9z y6r
 rw [ht]
 show y9z P σ1 (.tmp t) _
 unfold y9z
 dsimp only
 rw [hu]
 exact ⟨⟨rfl, rfl, trivial⟩, z7 rfl⟩
theorem wrap_i64 {n : Int} (h : -9223372036854775808 ≤ n) (h2 : n ≤ 9223372036854775807) : IntKind.i64.wrap n = n := by
 have e : IntKind.i64.wrap n = if n % 18446744073709551616 ≥ 9223372036854775808 then n % 18446744073709551616 - 18446744073709551616 else n % 18446744073709551616 := by
  simp [IntKind.wrap, IntKind.signed, IntKind.bits]
 rw [e]
 split <;> omega
theorem qm {α : Type} (xs : List α) (z : α) (i n : Nat) (h : i < xs.length) (hn : n = xs.length) : (xs.take i ++ List.replicate (n - i) z)[i]? = some z := by
 subst hn
 have e1 : (xs.take i).length = i := by simp; omega
 rw [List.getElem?_append_right (by omega), List.getElem?_replicate, e1, if_pos (by omega)]
theorem q02 {α : Type} (xs : List α) (z x : α) (i n : Nat) (h : xs[i]? = some x) (hn : n = xs.length) : (xs.take i ++ List.replicate (n - i) z).set i x = xs.take (i + 1) ++ List.replicate (n - (i + 1)) z := by
 subst hn
 obtain ⟨hi, rfl⟩ := List.getElem?_eq_some_iff.1 h
 apply List.ext_getElem?
 intro j
 rw [List.getElem?_set]
 by_cases hj : i = j
 · subst hj
   rw [if_pos rfl]
   have : i < (xs.take i ++ List.replicate (xs.length - i) z).length := by simp; omega
   rw [if_pos this, List.getElem?_append_left (by simp; omega), List.getElem?_take, if_pos (by omega)]
   simp
 · rw [if_neg hj]
   by_cases h1 : j < i
   · rw [List.getElem?_append_left (by simp; omega), List.getElem?_append_left (by simp; omega), List.getElem?_take, List.getElem?_take, if_pos h1, if_pos (by omega)]
   · rw [List.getElem?_append_right (by simp; omega), List.getElem?_append_right (by simp; omega), List.getElem?_replicate, List.getElem?_replicate]
     have e1 : (xs.take i).length = i := by simp; omega
     have e2 : (xs.take (i + 1)).length = i + 1 := by simp; omega
     rw [e1, e2]
     by_cases h3 : j < xs.length
     · rw [if_pos (by omega), if_pos (by omega)]
     · rw [if_neg (by omega), if_neg (by omega)]
theorem zg {α : Type} (xs : List α) (z : α) (i n : Nat) (h : i ≤ xs.length) (hn : n = xs.length) : (xs.take i ++ List.replicate (n - i) z).length = n := by
 subst hn; simp; omega
theorem q01 {α : Type} (xs : List α) (z : α) (n : Nat) (hn : n = xs.length) : xs.take n ++ List.replicate (n - n) z = xs := by
 subst hn; simp
end Go.Sx
end
section
namespace Go.Sx
open Go.RowKit (Below)
def gAC (t : Nat) : GC → AC
 | .bor c => .b c
 | .giv _ _ rows => .h (1000000000 + t) rows.length
def q9e : Nat → List GC → List AC
 | _, [] => []
 | t, c :: l => gAC t c :: q9e (t + 1) l
def gAV (t : Nat) : GA → AV
 | .one c => .one (gAC t c)
 | .agg cs => .agg (q9e t cs)
def gT : Nat → Nat → List GA → List (Nat × AV)
 | _, _, [] => []
 | i, t, .one c :: l => (i, gAV t (.one c)) :: gT (i + 1) (t + 1) l
 | i, t, .agg cs :: l => (i, gAV t (.agg cs)) :: gT (i + 1) (t + cs.length) l
def gB : Nat → List GC → List (Nat × AB)
 | _, [] => []
 | t, .bor _ :: l => gB (t + 1) l
 | t, .giv full sz rows :: l => (1000000000 + t, .arr full sz 0 rows) :: gB (t + 1) l
def q2h : Nat → List GC → List Value → List (AC × Value)
 | t, .giv _ _ rows :: l, u :: us => (.h (1000000000 + t) rows.length, u) :: q2h (t + 1) l us
 | t, .bor _ :: l, _ :: us => q2h (t + 1) l us
 | _, _, _ => []
def y5y (args : List GA) (σ : St) : List (Nat × List (List Cell)) → Prop
 | [] => True
 | (t, rows') :: l => (match nth (gcs args) t, get σ.b (1000000000 + t) with
   | some (.giv full sz rows), some (.arr full' sz' _ rows'') => full' = full ∧ sz' = sz ∧ rows'' = rows' ∧ rows'.length = rows.length ∧ y4a rows rows'
   | _, _ => False) ∧ y5y args σ l
def keys {α : Type} : List (Nat × α) → List Nat
 | [] => []
 | (t, _) :: l => (1000000000 + t) :: keys l
def qb8 (P : Program) (fn : Func) (args : List GA) (res : Res) (back : List (Nat × List (List Cell))) (σ : St) : Prop := y6r P fn res (keys back) σ ∧ y5y args σ back
def QG (P : Program) (fn : Func) (args : List GA) (res : Res) (back : List (Nat × List (List Cell))) (e : Ex) (σ : St) : Prop := match e with | .exit _ => False | _ => qb8 P fn args res back σ
theorem y1o {P : Program} {fn : Func} {args : List GA} {res : Res} {back : List (Nat × List (List Cell))} {e : Ex} {σ : St} (he : (match e with | .exit _ => false | _ => true) = true) (h : y6r P fn res (keys back) σ) (hb : y5y args σ back) : QG P fn args res back e σ := by
 cases e with
 | exit i => cases he
 | _ => exact ⟨h, hb⟩
section
variable {C : Ctx} {σ : St} {ρ : Env} {a : Act} {w : World}
theorem z62 : ∀ (t : Nat) (cs : List GC), (q9e t cs).length = cs.length
 | _, [] => rfl
 | t, c :: l => by simp [q9e, z62 (t + 1) l]
theorem q61 : ∀ {t : Nat} {cs : List GC} {k : Nat} {c : AC}, (q9e t cs)[k]? = some c → ∃ g, cs[k]? = some g ∧ c = gAC (t + k) g
 | t, [], k, c, h => by simp [q9e] at h
 | t, g :: l, k, c, h => by
   cases k with
   | zero => cases h; exact ⟨g, rfl, rfl⟩
   | succ k =>
     obtain ⟨g', h1, h2⟩ := q61 (t := t + 1) (cs := l) (k := k) (by simpa [q9e] using h)
     exact ⟨g', by simpa using h1, by rw [h2]; congr 1; omega⟩
theorem y7b {B : List (Nat × AB)} : ∀ {args : List GA} {vals : List Value} {i t0 : Nat}, q37 args vals → (∀ (t : Nat) (g : GC) (u : Value), (gcs args)[t]? = some g → (q0j args vals)[t]? = some u → zw C w ρ B (gAC (t0 + t) g) u) →
 ∀ {k : Nat} {av : AV}, get (gT i t0 args) k = some av → ∃ j v, k = i + j ∧ vals[j]? = some v ∧ zx C w ρ B av v
 | [], vals, i, t0, _, _, k, av, h => by cases h
 | .one c :: l, [], i, t0, hs, _, k, av, h => hs.elim
 | .agg c :: l, [], i, t0, hs, _, k, av, h => hs.elim
 | .one c :: l, v :: vs, i, t0, hs, hX, k, av, h => by
   rw [gT, ye] at h
   by_cases hk : i = k
   · rw [if_pos hk] at h
     cases h
     exact ⟨0, v, by omega, rfl, hX 0 c v rfl rfl⟩
   · rw [if_neg hk] at h
     obtain ⟨j, v', h1, h2, h3⟩ := y7b (args := l) (vals := vs) (t0 := t0 + 1) hs (fun t g u hg hu => by
      have := hX (t + 1) g u (by simpa [gcs] using hg) (by simpa [q0j] using hu)
      rwa [show t0 + (t + 1) = t0 + 1 + t by omega] at this) h
     exact ⟨j + 1, v', by omega, by simpa using h2, h3⟩
 | .agg cs :: l, v :: vs, i, t0, hs, hX, k, av, h => by
   obtain ⟨⟨arr, rfl, h0⟩, hs⟩ := hs
   rw [gT, ye] at h
   by_cases hk : i = k
   · rw [if_pos hk] at h
     cases h
     refine ⟨0, _, by omega, rfl, arr, rfl, by rw [z62, h0], fun k c u hc hu => ?_⟩
     obtain ⟨g, hg, rfl⟩ := q61 hc
     have hlt := (List.getElem?_eq_some_iff.1 hg).1
     refine hX k g u ?_ ?_
     · simp only [gcs]; rw [List.getElem?_append_left hlt]; exact hg
     · simp only [q0j]; rw [List.getElem?_append_left (by rw [Array.length_toList]; omega), Array.getElem?_toList]; exact hu
   · rw [if_neg hk] at h
     obtain ⟨j, v', h1, h2, h3⟩ := y7b (args := l) (vals := vs) (t0 := t0 + cs.length) hs (fun t g u hg hu => by
      have := hX (cs.length + t) g u (by simp only [gcs]; rw [List.getElem?_append_right (by omega)]; simpa using hg) (by
       have e : arr.toList.length = cs.length := (Array.length_toList).trans h0
       simp only [q0j]; rw [List.getElem?_append_right (by omega), e]; simpa using hu)
      rwa [← Nat.add_assoc] at this) h
     exact ⟨j + 1, v', by omega, by simpa using h2, h3⟩
theorem y4p : ∀ {t0 : Nat} {cs : List GC} {β : Nat} {ab : AB}, get (gB t0 cs) β = some ab → ∃ k full sz rows, β = 1000000000 + (t0 + k) ∧ cs[k]? = some (.giv full sz rows) ∧ ab = .arr full sz 0 rows
 | t0, [], β, ab, h => by cases h
 | t0, .bor c :: l, β, ab, h => by
   obtain ⟨k, full, sz, rows, h1, h2, h3⟩ := y4p (t0 := t0 + 1) (cs := l) h
   exact ⟨k + 1, full, sz, rows, by omega, by simpa using h2, h3⟩
 | t0, .giv full sz rows :: l, β, ab, h => by
   rw [gB, ye] at h
   by_cases hb : 1000000000 + t0 = β
   · rw [if_pos hb] at h; cases h; exact ⟨0, full, sz, rows, by omega, rfl, rfl⟩
   · rw [if_neg hb] at h
     obtain ⟨k, full, sz, rows, h1, h2, h3⟩ := y4p (t0 := t0 + 1) (cs := l) h
     exact ⟨k + 1, full, sz, rows, by omega, by simpa using h2, h3⟩
theorem z7b : ∀ {t0 : Nat} {cs : List GC} {k : Nat} {full : Bool} {sz : Nat} {rows : List (List Cell)}, cs[k]? = some (.giv full sz rows) → get (gB t0 cs) (1000000000 + (t0 + k)) = some (.arr full sz 0 rows)
 | t0, [], k, full, sz, rows, h => by simp at h
 | t0, .bor c :: l, k, full, sz, rows, h => by
   cases k with
   | zero => cases h
   | succ k =>
     have := z7b (t0 := t0 + 1) (cs := l) (k := k) (by simpa using h)
     rw [show t0 + (k + 1) = t0 + 1 + k by omega]; exact this
 | t0, .giv full' sz' rows' :: l, k, full, sz, rows, h => by
   cases k with
   | zero => cases h; rw [gB, ye, if_pos (by omega)]
   | succ k =>
     have := z7b (t0 := t0 + 1) (cs := l) (k := k) (by simpa using h)
     rw [gB, ye, if_neg (by omega), show t0 + (k + 1) = t0 + 1 + k by omega]; exact this
theorem y1j : ∀ {t0 : Nat} {cs : List GC} {us : List Value} {g : AC × Value}, g ∈ q2h t0 cs us → ∃ k full sz rows u, g = (.h (1000000000 + (t0 + k)) rows.length, u) ∧ cs[k]? = some (.giv full sz rows) ∧ us[k]? = some u
 | t0, [], us, g, h => by cases us <;> simp [q2h] at h
 | t0, .bor c :: l, [], g, h => by simp [q2h] at h
 | t0, .giv _ _ _ :: l, [], g, h => by simp [q2h] at h
 | t0, .bor c :: l, u :: us, g, h => by
   obtain ⟨k, full, sz, rows, u', h1, h2, h3⟩ := y1j (t0 := t0 + 1) (cs := l) (us := us) h
   exact ⟨k + 1, full, sz, rows, u', by rw [h1, show t0 + 1 + k = t0 + (k + 1) by omega], by simpa using h2, by simpa using h3⟩
 | t0, .giv full sz rows :: l, u :: us, g, h => by
   rcases List.mem_cons.1 h with rfl | h
   · exact ⟨0, full, sz, rows, u, rfl, rfl, rfl⟩
   · obtain ⟨k, full, sz, rows, u', h1, h2, h3⟩ := y1j (t0 := t0 + 1) (cs := l) (us := us) h
     exact ⟨k + 1, full, sz, rows, u', by rw [h1, show t0 + 1 + k = t0 + (k + 1) by omega], by simpa using h2, by simpa using h3⟩
theorem q2a : ∀ {t0 : Nat} {cs : List GC} {us : List Value} {k : Nat} {full : Bool} {sz : Nat} {rows : List (List Cell)} {u : Value}, cs[k]? = some (.giv full sz rows) → us[k]? = some u → (AC.h (1000000000 + (t0 + k)) rows.length, u) ∈ q2h t0 cs us
 | t0, [], us, k, full, sz, rows, u, h, _ => by simp at h
 | t0, c :: l, [], k, full, sz, rows, u, _, h => by simp at h
 | t0, .bor c :: l, u' :: us, k, full, sz, rows, u, h, h' => by
   cases k with
   | zero => cases h
   | succ k =>
     have := q2a (t0 := t0 + 1) (cs := l) (us := us) (k := k) (by simpa using h) (by simpa using h')
     rw [show t0 + (k + 1) = t0 + 1 + k by omega]; exact this
 | t0, .giv full' sz' rows' :: l, u' :: us, k, full, sz, rows, u, h, h' => by
   cases k with
   | zero => cases h; cases h'; exact List.mem_cons_self ..
   | succ k =>
     have := q2a (t0 := t0 + 1) (cs := l) (us := us) (k := k) (by simpa using h) (by simpa using h')
     rw [show t0 + (k + 1) = t0 + 1 + k by omega]; exact List.mem_cons_of_mem _ this
theorem y29 {args : List GA} : ∀ {back : List (Nat × List (List Cell))} {t : Nat} {rows' : List (List Cell)}, y5y args σ back → get back t = some rows' → (1000000000 + t) ∈ keys back ∧ ∃ full sz rows ep, (gcs args)[t]? = some (.giv full sz rows) ∧ get σ.b (1000000000 + t) = some (.arr full sz ep rows') ∧ rows'.length = rows.length ∧ y4a rows rows'
 | [], t, rows', _, h => by cases h
 | (k, r) :: l, t, rows', hb, h => by
   rw [ye] at h
   by_cases hk : k = t
   · subst hk
     rw [if_pos rfl] at h
     cases h
     refine ⟨List.mem_cons_self .., ?_⟩
     have h1 := hb.1
     split at h1
     · rename_i full sz rows full' sz' ep rows'' e1 e2
       obtain ⟨rfl, rfl, rfl, h2, h3⟩ := h1
       rw [y23] at e1
       exact ⟨_, _, rows, ep, e1, e2, h2, h3⟩
     · exact h1.elim
   · rw [if_neg hk] at h
     obtain ⟨h1, h2⟩ := y29 hb.2 h
     exact ⟨List.mem_cons_of_mem _ h1, h2⟩
end
theorem CN.mono {w : World} {N N' : Nat → Prop} {full : Bool} {F : Nat → Prop} {c : Cell} {u : Value} (h : CN w N full F c u) (hN : ∀ x, x < w.heap.size → N x → N' x) : CN w N' full F c u := by
 cases full with
 | true => exact h
 | false => exact Rep.mono h hN
theorem PG.begin {P : Program} {f : Nat} {fn : Func} {c : Code} {args : List GA} {res : Res} {back : List (Nat × List (List Cell))} (hf : P.funcs[f]? = some fn) (hb : fn.body = some c) (hok : (okF P f && y19 fn.ntmps c && Nat.ble args.length fn.ntmps) = true)
 (h : G P (QG P fn args res back) [.code c] none ⟨gT 0 0 args, gB 0 (gcs args)⟩) : PG P f args res back := by
 simp only [Bool.and_eq_true] at hok
 obtain ⟨⟨ho1, ho2⟩, ho3⟩ := hok
 refine ⟨ho1, fun N S w vals hS1 hS2 hsh hcell => ?_⟩
 refine calls_of_wp hf hb ?_
 have hle : args.length ≤ fn.ntmps := Nat.le_of_ble_eq_true ho3
 have hshl : ∀ {args : List GA} {vals : List Value}, q37 args vals → vals.length = args.length := by
  intro args
  induction args with
  | nil => intro vals h; cases vals with | nil => rfl | cons _ _ => exact h.elim
  | cons ga l ih =>
    intro vals h
    cases vals with
    | nil => cases ga <;> exact h.elim
    | cons v vs =>
      cases ga with
      | one c => simp [ih (vals := vs) h]
      | agg cs => simp [ih (vals := vs) h.2]
 have hvl : vals.size = args.length := by simpa using hshl hsh
 have hlen := y28 hsh
 generalize hC : Ctx.mk P fn.ntmps w N (fun x => ∃ t, S t x) (q2h 0 (gcs args) (q0j args vals.toList)) = C
 generalize hρ : (⟨fun β => ((q0j args vals.toList)[β - 1000000000]?).getD undef, fun β x => S (β - 1000000000) x⟩ : Env) = ρ
 have hname : ∀ t, 1000000000 + t - 1000000000 = t := fun t => by omega
 have hNB : ∀ x, N x → Bor C ρ (gB 0 (gcs args)) x := fun x hx => by
  refine ⟨?_, fun β ab hg hs => ?_⟩
  · rw [← hC]; exact .inl hx
  · rw [← hρ] at hs; exact (hS1 _ x hs).2 hx
 have hAC : ∀ (t : Nat) (g : GC) (u : Value), (gcs args)[t]? = some g → (q0j args vals.toList)[t]? = some u → zw C w ρ (gB 0 (gcs args)) (gAC (0 + t) g) u := fun t g u hg hu => by
  have hc := hcell t g u hg hu
  cases g with
  | bor c => exact Rep.mono hc (fun x _ hx => hNB x hx)
  | giv full sz rows =>
    obtain ⟨sz', _, hslab⟩ := hc
    obtain ⟨A, cap, rfl⟩ := hslab.slice
    refine ⟨⟨A, cap, rfl⟩, _, z7b hg, fun full' sz1 ep rows' he => ?_⟩
    cases he
    refine ⟨Nat.le_refl _, fun _ => ?_⟩
    rw [← hρ]
    simp only [Nat.zero_add, hname, hu, Option.getD_some]
 have hinit : yc C ⟨gT 0 0 args, gB 0 (gcs args)⟩ ρ { tmps := vals ++ Array.replicate (fn.ntmps - vals.size) undef, defers := [] } w := by
  refine ⟨fun t av ht => ?_, fun β ab hg => ?_, fun β β' ab ab' x hg hg' hx hx' => ?_, fun β ab x hg hx => ?_, ?_, rfl, ?_, fun g hg => ?_⟩
  · obtain ⟨j, v, h1, h2, h3⟩ := y7b hsh hAC ht
    have hj : j < vals.size := by have := (List.getElem?_eq_some_iff.1 h2).1; simpa using this
    refine ⟨v, ?_, h3⟩
    have htj : t = j := by omega
    subst htj
    rw [Array.getElem?_append, if_pos hj]
    simpa using h2
  · obtain ⟨k, full, sz, rows, rfl, h2, rfl⟩ := y4p hg
    have hlt : k < (q0j args vals.toList).length := by rw [hlen]; exact (List.getElem?_eq_some_iff.1 h2).1
    obtain ⟨sz', hsz, hslab⟩ := hcell k _ _ h2 (List.getElem?_eq_getElem hlt)
    refine ⟨sz', hsz, ?_⟩
    have e1 : ρ.v (1000000000 + (0 + k)) = (q0j args vals.toList)[k] := by
     rw [← hρ]; simp only [Nat.zero_add, hname, List.getElem?_eq_getElem hlt, Option.getD_some]
    have e2 : ρ.S (1000000000 + (0 + k)) = S k := by
     rw [← hρ]; simp only [Nat.zero_add, hname]
    rw [e1, e2, y95 (σ := ⟨[], gB 0 (gcs args)⟩)]
    exact q0l.imp hslab (fun _ h => h) (fun _ _ _ => rfl) (fun _ _ _ _ hc => CN.mono hc (fun x _ hx => hNB x hx))
  · obtain ⟨k, _, _, _, rfl, _, _⟩ := y4p hg
    obtain ⟨k', _, _, _, rfl, _, _⟩ := y4p hg'
    rw [← hρ] at hx hx'
    have := hS2 _ _ x hx hx'
    omega
  · rw [← hρ] at hx
    refine ⟨(hS1 _ x hx).1, .inr ?_⟩
    rw [← hC]; exact ⟨_, hx⟩
  · rw [← hC]
    show (vals ++ Array.replicate (fn.ntmps - vals.size) undef).size = fn.ntmps
    rw [Array.size_append, Array.size_replicate]
    omega
  · rw [← hC]; exact yr.refl _ _
  · rw [← hC] at hg
    obtain ⟨k, full, sz, rows, u, rfl, h2, h3⟩ := y1j hg
    exact hAC k (.giv full sz rows) u h2 h3
 have hCP : C.P = P := by rw [← hC]
 have hCT : C.T = fn.ntmps := by rw [← hC]
 have hQ : vc C.P c (fun (e : Ex) (σ : St) => match e with | .normal => G P (QG P fn args res back) [] none σ | .exit i => G P (QG P fn args res back) [] (some i) σ | .ret => QG P fn args res back .ret σ) ⟨gT 0 0 args, gB 0 (gcs args)⟩ := by rw [hCP]; exact h
 have hwp := y6a (C := C) (fun g hg => by
  rw [← hC] at hg
  obtain ⟨k, _, _, _, _, rfl, _, _⟩ := y1j hg
  exact Nat.le_add_right _ _) (by rw [hCT]; exact ho2) ⟨ρ, hinit⟩ hQ
 rw [hCP] at hwp
 refine wp_mono hwp (fun e a' w' hq => ?_)
 obtain ⟨e', he, σ', hr, ρ', hrel⟩ := hq
 have fin : qb8 P fn args res back σ' → a'.defers = [] ∧ ∃ v, (results fn a'.tmps).run P w' = .ok v w' ∧ ∃ (v' : Value) (SR : Nat → Prop) (SB : Nat → Nat → Prop), Ending.returned v = .returned v' ∧ yr w w' (fun x => ∃ t, S t x) ∧ z1x w' (Rest N w S SR SB) SR res v' ∧
  (∀ x, SR x → (w.heap.size ≤ x ∨ ∃ t, S t x) ∧ x < w'.heap.size ∧ ∀ t, ¬ SB t x) ∧ (∀ t x, SB t x → (w.heap.size ≤ x ∨ ∃ t, S t x) ∧ x < w'.heap.size) ∧ (∀ t t' x, SB t x → SB t' x → t = t') ∧
  ∀ (t : Nat) (rows' : List (List Cell)), get back t = some rows' → ∀ (full : Bool) (sz : Nat) (rows : List (List Cell)) (u : Value), (gcs args)[t]? = some (.giv full sz rows) → (q0j args vals.toList)[t]? = some u →
    rows'.length = rows.length ∧ (∀ (i : Nat) (row row' : List Cell), rows[i]? = some row → rows'[i]? = some row' → row'.length = row.length) ∧ ∃ sz', (sz ≠ 0 → sz' = sz) ∧ q0l w' (CN w' (Rest N w S SR SB) full) (SB t) sz' rows' u := fun hret => by
  obtain ⟨hret, hbk⟩ := hret
  rw [← hCP] at hret
  obtain ⟨v, ms, h1, h2, h3⟩ := z4z hrel hret
  rw [hCP] at h1
  have hmine : ∀ β ab x, get σ'.b β = some ab → ρ'.S β x → x < w'.heap.size ∧ (w.heap.size ≤ x ∨ ∃ t, S t x) := by
   have := hrel.mine
   rw [← hC] at this
   exact this
  have hkeep : yr w w' (fun x => ∃ t, S t x) := by
   have := hrel.keep
   rw [← hC] at this
   exact this
  have hfree : ∀ x, Bor C ρ' σ'.b x → N x ∨ w.heap.size ≤ x ∨ ∃ t, S t x := by
   intro x hx
   have := hx.1
   rw [← hC] at this
   exact this
  have hrest : ∀ x, Bor C ρ' σ'.b x → Rest N w S (gS σ' ρ' ms) (fun t x => (get back t).isSome = true ∧ (∃ ab, get σ'.b (1000000000 + t) = some ab) ∧ ρ'.S (1000000000 + t) x) x := fun x hx =>
   ⟨hfree x hx, fun ⟨γ, _, ⟨ab, hab⟩, hs⟩ => hx.2 γ ab hab hs, fun t ⟨_, ⟨ab, hab⟩, hs⟩ => hx.2 _ ab hab hs⟩
  have hkey : ∀ t, (get back t).isSome = true → (1000000000 + t) ∈ keys back := fun t ht => by
   obtain ⟨rows', hr'⟩ := Option.isSome_iff_exists.1 ht
   exact (y29 hbk hr').1
  refine ⟨hrel.defers, v, h1, v, gS σ' ρ' ms, fun t x => (get back t).isSome = true ∧ (∃ ab, get σ'.b (1000000000 + t) = some ab) ∧ ρ'.S (1000000000 + t) x, rfl, hkeep, h2.mono hrest, fun x hx => ?_, fun t x hx => ?_, fun t t' x hx hx' => ?_, fun t rows' ht full sz rows u hg hu => ?_⟩
  · obtain ⟨γ, hγ, ⟨ab, hab⟩, hs⟩ := hx
    refine ⟨(hmine γ ab x hab hs).2, (hmine γ ab x hab hs).1, fun t ⟨h4, ⟨ab', hab'⟩, h6⟩ => ?_⟩
    have := hrel.disj γ _ ab ab' x hab hab' hs h6
    exact h3 γ hγ (this ▸ hkey t h4)
  · obtain ⟨_, ⟨ab, hab⟩, hs⟩ := hx
    exact ⟨(hmine _ ab x hab hs).2, (hmine _ ab x hab hs).1⟩
  · obtain ⟨_, ⟨ab, hab⟩, hs⟩ := hx
    obtain ⟨_, ⟨ab', hab'⟩, hs'⟩ := hx'
    have := hrel.disj _ _ ab ab' x hab hab' hs hs'
    omega
  · obtain ⟨_, full1, sz1, rows1, ep, e1, e2, e3, e4⟩ := y29 hbk ht
    rw [hg] at e1
    cases e1
    refine ⟨e3, e4, ?_⟩
    obtain ⟨sz', hsz, hslab⟩ := hrel.blks _ _ e2
    refine ⟨sz', hsz, ?_⟩
    have hgh := hrel.ghost (.h (1000000000 + (0 + t)) rows.length, u) (by rw [← hC]; exact q2a hg hu)
    obtain ⟨_, ab, h5, h6⟩ := hgh
    simp only [Nat.zero_add] at h5 h6
    rw [e2] at h5
    cases h5
    rw [(h6 _ _ _ _ rfl).2 e3.symm]
    rw [y95] at hslab
    exact q0l.imp hslab (fun x hx => ⟨by rw [ht]; rfl, ⟨_, e2⟩, hx⟩) (fun _ _ _ => rfl) (fun _ _ _ _ hc => CN.mono hc (fun x _ hx => hrest x hx))
 cases e <;> simp only [y9d, Option.some.injEq] at he <;> first | (subst he) | cases he
 · exact fin hr
 · exact hr.elim
 · exact fin hr
end Go.Sx
end
section
namespace Go.Sx
theorem y5g {α : Type} {xs : List α} {i : Nat} {x : α} (h : i < xs.length) : (xs.set i x)[i]? = some x := by simp [h]
theorem qt {rws : List (List Cell)} {i k : Nat} {c : Cell} {row : List Cell} (h : rws[i]? = some row) : setRow rws i k c = rws.set i (row.set k c) := by simp only [setRow, h]
theorem q6s {rws : List (List Cell)} {i k : Nat} {c : Cell} : (setRow rws i k c).length = rws.length := by
 unfold setRow
 split
 · exact List.length_set
 · rfl
theorem ze {rws : List (List Cell)} {i k : Nat} {c : Cell} {row : List Cell} (h : rws[i]? = some row) : (setRow rws i k c)[i]? = some (row.set k c) := by
 rw [qt h, y5g (List.getElem?_eq_some_iff.1 h).1]
end Go.Sx
end
section
namespace Go.Sx
open Go.RowKit Go.ChangeShapes Go.WideShapes Go.Deep
def q6c (w : World) (cells : List Cell) (cs : List Value) : Prop := cs.length = cells.length ∧ ∀ (k : Nat) (c : Cell) (u : Value), cells[k]? = some c → cs[k]? = some u → Rep w (fun _ => True) c u
structure y2t (P : Program) (t : TypeId) {α : Type} (sz : Nat) (f : α → List Cell) (G : α → Prop) : Prop where
 hsz : P.cellsOf t = sz
 len : ∀ a, (f a).length = sz
 get : ∀ {H : Type} (enc : TypeId × Value → H) (w : World) (base : Nat) (spare : Nat → Bool) (held : Bool) (fuel : Nat) (cs : List Value) (x : DataW H × List MemPlace), DataW.trod enc P w base spare held fuel t cs = some x → ∃ a, q6c w (f a) cs ∧ G a
section
variable {P : Program} {α β : Type} {t e : TypeId}
theorem q6c.one {w : World} {c : Cell} {u : Value} (h : Rep w (fun _ => True) c u) : q6c w [c] [u] := ⟨rfl, fun k c' u' h1 h2 => by
 cases k with
 | zero => cases h1; cases h2; exact h
 | succ k => simp at h1⟩
theorem z7n {k : IntKind} (ht : P.underlying t = some (.int k)) (hc : P.cellsOf t = 1) : y2t P t 1 (fun n : Int => [.s (.int k n)]) (fun n => (Lit.int k n).wf = true) :=
 ⟨hc, fun _ => rfl, fun enc w base spare held fuel cs x h => by obtain ⟨n, rfl, _, hw⟩ := DataW.trod_int ht h; exact ⟨n, .one (.s _ rfl), hw⟩⟩
theorem q4w {sz : Nat} {f : α → List Cell} {G : α → Prop} (ht : P.underlying t = some (.slice e)) (he : y2t P e sz f G)
 {H : Type} (enc : TypeId × Value → H) (w : World) (base : Nat) (spare : Nat → Bool) (held : Bool) (fuel : Nat) (cs : List Value) (x : DataW H × List MemPlace) (h : DataW.trod enc P w base spare held fuel t cs = some x) :
 ∃ (l : List α) (v : Value), cs = [v] ∧ Rep w (fun _ => True) (.l (l.map f)) v ∧ (l.length ≤ maxLen ∧ ∀ a ∈ l, G a) := by
 classical
 rcases open_slice ht h with ⟨rfl, _⟩ | ⟨a, len, cap, m, n, D, Pl, rfl, hb, hl, hm, hmm, rfl, hx⟩
 · exact ⟨[], _, rfl, .l 0 [] none 0 (fun _ _ => undef) (by simp) (Nat.le_refl _) (fun _ => rfl) (fun j k hj => by simp at hj) (fun j k row c h1 => by simp at h1), by simp, fun a ha => by cases ha⟩
 · have hlm : len ≤ m := by rw [hmm]; split <;> omega
   have hall : ∀ i, i < len → ∃ b cs', cs'.length = sz ∧ q6c w (f b) cs' ∧ G b ∧ ∀ j, j < sz → w.cell? ((a.add (i * sz)).add j) = cs'[j]? := fun i hi => by
    obtain ⟨cs', h1, h2⟩ := hx i (by omega)
    obtain ⟨b, hK, hg⟩ := he.get enc w base spare held n cs' _ h2
    rw [he.hsz] at h1
    obtain ⟨_, hlen, hcell⟩ := World.cells?_some h1
    exact ⟨b, cs', hlen, hK, hg, hcell⟩
   have key : ∀ k, k ≤ len → ∃ l : List α, l.length = k ∧ (∀ j p, l[j]? = some p → ∃ c, c.length = sz ∧ q6c w (f p) c ∧ ∀ i u, c[i]? = some u → w.cell? (a.add (j * sz + i)) = some u) ∧ ∀ a ∈ l, G a := by
    intro k
    induction k with
    | zero => exact fun _ => ⟨[], rfl, fun j p hj => by simp at hj, fun a ha => by cases ha⟩
    | succ k ih =>
      intro hk
      obtain ⟨l, hl, hc, hG⟩ := ih (by omega)
      obtain ⟨b, c, hs, hK, hg, hcell⟩ := hall k (by omega)
      refine ⟨l ++ [b], by simp [hl], fun j p hj => ?_, fun b' hb' => ?_⟩
      · rcases Nat.lt_or_ge j l.length with hjl | hjl
        · rw [List.getElem?_append_left hjl] at hj
          exact hc j p hj
        · have hj' : j = l.length := by
           have := (List.getElem?_eq_some_iff.1 hj).1
           rw [List.length_append, List.length_singleton] at this
           omega
          subst hj'
          have hp : b = p := by simpa using hj
          subst hp
          refine ⟨c, hs, hK, fun i u hu => ?_⟩
          have hi : i < sz := by rw [← hs]; exact (List.getElem?_eq_some_iff.1 hu).1
          have := hcell i hi
          rw [Go.Deep.add_add, ← hl] at this
          rw [this, hu]
      · rcases List.mem_append.1 hb' with hb' | hb'
        · exact hG b' hb'
        · rw [List.mem_singleton.1 hb']; exact hg
   obtain ⟨l, hl', hc, hG⟩ := key len (Nat.le_refl _)
   subst hl'
   have hch : ∀ j : Nat, ∃ c : List Value, ∀ p, l[j]? = some p → c.length = sz ∧ q6c w (f p) c ∧ ∀ i u, c[i]? = some u → w.cell? (a.add (j * sz + i)) = some u := fun j => by
    cases hj : l[j]? with
    | none => exact ⟨[], fun p h => by cases h⟩
    | some p =>
      obtain ⟨c, h1, h2, h3⟩ := hc j p hj
      exact ⟨c, fun p' h => by cases h; exact ⟨h1, h2, h3⟩⟩
   have hch2 : ∃ c : Nat → List Value, ∀ j p, l[j]? = some p → (c j).length = sz ∧ q6c w (f p) (c j) ∧ ∀ i u, (c j)[i]? = some u → w.cell? (a.add (j * sz + i)) = some u := ⟨fun j => Classical.choose (hch j), fun j => Classical.choose_spec (hch j)⟩
   obtain ⟨c, hc⟩ := hch2
   have hlr : (l.map f).length = l.length := by simp
   refine ⟨l, _, rfl, ?_, by omega, hG⟩
   rw [show (Value.slice (some a) l.length cap) = .slice (some a) (l.map f).length cap by rw [hlr]]
   refine .l sz (l.map f) (some a) cap (fun j k => ((c j)[k]?).getD undef) (fun row hr => ?_) (by rw [hlr]; exact hl) (fun h => by cases h) (fun j k hj hk => ?_) (fun j k row c' h1 h2 => ?_)
   · obtain ⟨p, _, rfl⟩ := List.mem_map.1 hr; exact he.len p
   · rw [hlr] at hj
     obtain ⟨h1, _, h3⟩ := hc j _ (List.getElem?_eq_getElem hj)
     refine ⟨a, rfl, trivial, ?_⟩
     have hlt : k < (c j).length := by omega
     rw [h3 k _ (List.getElem?_eq_getElem hlt), List.getElem?_eq_getElem hlt]; rfl
   · rw [List.getElem?_map] at h1
     cases hj : l[j]? with
     | none => rw [hj] at h1; cases h1
     | some p =>
       rw [hj] at h1
       cases h1
       obtain ⟨h4, h5, _⟩ := hc j p hj
       have hk : k < (c j).length := by rw [h4, ← he.len p]; exact (List.getElem?_eq_some_iff.1 h2).1
       refine h5.2 k c' _ h2 ?_
       rw [List.getElem?_eq_getElem hk]; rfl
inductive Laid (P : Program) : Nat → List Field → Prop
 | nil (o : Nat) : Laid P o []
 | cons {o : Nat} {f : Field} {fs : List Field} : f.offset = o → Laid P (o + P.cellsOf f.type) fs → Laid P o (f :: fs)
def y4h (P : Program) (fs : List Field) {α : Type} (sz : Nat) (f : α → List Cell) (G : α → Prop) : Prop :=
 (∀ a, (f a).length = sz) ∧ ∀ {H : Type} (enc : TypeId × Value → H) (w : World) (base : Nat) (spare : Nat → Bool) (held : Bool) (fuel : Nat) (cs : List Value), cs.length = sz →
   (∀ (i : Nat) (f : Field), fs[i]? = some f → ∃ x, DataW.trod enc P w base spare held fuel f.type ((cs.drop (((fs.take i).map fun g => P.cellsOf g.type).sum)).take (P.cellsOf f.type)) = some x) →
   ∃ a, q6c w (f a) cs ∧ G a
theorem q6c.append {w : World} {xs ys : List Cell} {us vs : List Value} (h : q6c w xs us) (k : q6c w ys vs) : q6c w (xs ++ ys) (us ++ vs) := by
 refine ⟨by simp [h.1, k.1], fun i c u h1 h2 => ?_⟩
 rw [List.getElem?_append] at h1 h2
 rw [h.1] at h2
 by_cases hi : i < xs.length
 · rw [if_pos hi] at h1 h2; exact h.2 i c u h1 h2
 · rw [if_neg hi] at h1 h2; exact k.2 _ c u h1 h2
theorem z6q {fd : Field} {sz : Nat} {f : α → List Cell} {G : α → Prop} (h : y2t P fd.type sz f G) : y4h P [fd] sz f G := by
 refine ⟨h.len, fun enc w base spare held fuel cs hl hx => ?_⟩
 obtain ⟨x, hx⟩ := hx 0 fd rfl
 simp only [List.take_zero, List.map_nil, List.sum_nil, List.drop_zero] at hx
 rw [h.hsz, ← hl, List.take_length] at hx
 exact h.get enc w base spare held fuel cs x hx
theorem q5l {fd : Field} {fs : List Field} {sz sz' : Nat} {f : α → List Cell} {f' : β → List Cell} {G : α → Prop} {G' : β → Prop} (h : y2t P fd.type sz f G) (h' : y4h P fs sz' f' G') : y4h P (fd :: fs) (sz + sz') (fun x : α × β => f x.1 ++ f' x.2) (fun x => G x.1 ∧ G' x.2) := by
 refine ⟨fun a => by simp [h.len, h'.1], fun enc w base spare held fuel cs hl hx => ?_⟩
 obtain ⟨x, hx0⟩ := hx 0 fd rfl
 simp only [List.take_zero, List.map_nil, List.sum_nil, List.drop_zero] at hx0
 rw [h.hsz] at hx0
 obtain ⟨a, hK, hG⟩ := h.get enc w base spare held fuel _ x hx0
 obtain ⟨b, hK', hG'⟩ := h'.2 enc w base spare held fuel (cs.drop sz) (by rw [List.length_drop]; omega) (fun i g hi => by
  obtain ⟨y, hy⟩ := hx (i + 1) g (by simpa using hi)
  refine ⟨y, ?_⟩
  rw [List.drop_drop]
  simpa [h.hsz] using hy)
 refine ⟨(a, b), ?_, hG, hG'⟩
 have := hK.append hK'
 rwa [List.take_append_drop] at this
theorem y30 : ∀ {fs : List Field} {o : Nat}, Laid P o fs → ∀ (i : Nat) (f : Field), fs[i]? = some f → f.offset = o + ((fs.take i).map fun g => P.cellsOf g.type).sum
 | [], _, _, i, f, h => by simp at h
 | g :: fs, o, .cons h1 h2, 0, f, h => by
   have : g = f := by simpa using h
   subst this
   simp [h1]
 | g :: fs, o, .cons h1 h2, i + 1, f, h => by
   rw [y30 h2 i f (by simpa using h)]
   simp [Nat.add_assoc]
theorem z4x {fs : List Field} {sz : Nat} {f : α → List Cell} {G : α → Prop} {f' : β → List Cell} {G' : β → Prop} (g : α → β) (hfg : ∀ a, f' (g a) = f a) (hG : ∀ a, G a → G' (g a)) (hlen : ∀ b, (f' b).length = sz) (ht : P.underlying t = some (.struct fs.toArray)) (hc : P.cellsOf t = sz) (hL : Laid P 0 fs) (hF : y4h P fs sz f G) :
 y2t P t sz f' G' :=
 ⟨hc, hlen, fun enc w base spare held fuel cs x h => by
   obtain ⟨xs, n, rfl, _, hl, hxs, hf⟩ := DataW.trod_struct ht h
   obtain ⟨a, hK, hg⟩ := hF.2 enc w base spare held n cs (by rw [hl, hc]) (fun i f hi => by
    have hoff := y30 hL i f hi
    rw [Nat.zero_add] at hoff
    have h1 := hf i f (by simpa using hi)
    rw [hoff] at h1
    have hi' : i < xs.length := by
     rw [hxs]
     have := (List.getElem?_eq_some_iff.1 hi).1
     simpa using this
    exact ⟨xs[i], by rw [h1, List.getElem?_eq_getElem hi']⟩)
   exact ⟨g a, by rw [hfg]; exact hK, hG a hg⟩⟩
theorem z5m {sz : Nat} {f : α → List Cell} {G : α → Prop} (ht : P.underlying t = some (.slice e)) (hc : P.cellsOf t = 1) (he : y2t P e sz f G) : y2t P t 1 (fun l : List α => [.l (l.map f)]) (fun l => l.length ≤ maxLen ∧ ∀ a ∈ l, G a) :=
 ⟨hc, fun _ => rfl, fun enc w base spare held fuel cs x h => by
   obtain ⟨l, v, rfl, hr, hG⟩ := q4w ht he enc w base spare held fuel cs x h
   exact ⟨l, .one hr, hG⟩⟩
theorem q72 {sz : Nat} {f : α → List Cell} {G : α → Prop} (ht : P.underlying t = some (.slice e)) (he : y2t P e sz f G) {H : Type} {enc : TypeId × Value → H} {w : World} {r : Reach} {b : Nat} {v : Value} {dd : DataW H} {ps : List MemPlace}
 (hv : Value.okWide P w r b t v) (h : DataW.Trod enc P w 0 (fun _ => true) true t v dd ps) : ∃ l : List α, y6c w (fun _ => True) (.one (.l (l.map f))) v ∧ (l.length ≤ maxLen ∧ ∀ a ∈ l, G a) := by
 obtain ⟨A, len, cap, rfl⟩ := okWide_slice ht hv
 obtain ⟨fuel, hf⟩ := h
 obtain ⟨l, v, hcs, h1, h2⟩ := q4w ht he enc w 0 _ true fuel _ _ hf
 simp [Value.cells] at hcs
 subst hcs
 exact ⟨l, h1, h2⟩
theorem z6e {fs : Array Field} {sz : Nat} {f : α → List Cell} {G : α → Prop} (ht : P.underlying t = some (.struct fs)) (he : y2t P t sz f G) {H : Type} {enc : TypeId × Value → H} {w : World} {r : Reach} {b : Nat} {v : Value} {dd : DataW H} {ps : List MemPlace}
 (hv : Value.okWide P w r b t v) (h : DataW.Trod enc P w 0 (fun _ => true) true t v dd ps) : ∃ a : α, y6c w (fun _ => True) (.agg (f a)) v ∧ G a := by
 obtain ⟨cs, rfl, _⟩ := okWide_struct ht hv
 obtain ⟨fuel, hf⟩ := h
 obtain ⟨a, hK, hG⟩ := he.get enc w 0 _ true fuel _ _ hf
 have hK' : q6c w (f a) cs.toList := by simpa [Value.cells] using hK
 exact ⟨a, ⟨cs, rfl, by simpa using hK'.1, fun k c u hc hu => hK'.2 k c u hc (by simpa using hu)⟩, hG⟩
end
end Go.Sx
end
section
namespace Go.Sx
open Go.RowKit (Below)
theorem PC.law {P : Program} {f : Nat} {args : List SV} {b : Bool} (h : PC P f args (.one (.own false [.s (.bool b)]))) {w : World} {vals : Array Value} (ha : z4h w (fun _ => True) vals args) :
 Calls P f vals w fun e w' => e = .returned (.bool b) ∧ Below w.heap.size w w' := by
 refine (h.2 _ w vals ha).mono ?_
 rintro e w' ⟨v, S, rfl, hk, ⟨arr, F, h1, h2, _, _, h5⟩, _⟩
 have h1' : arr = #[v] := h1
 subst h1'
 obtain ⟨rfl, _⟩ := h5 0 _ v rfl rfl
 exact ⟨rfl, hk.below⟩
end Go.Sx
end
section
namespace Go.Sx
inductive Sh where
 | nil
 | i (k : IntKind) (r : Sh)
 | b (r : Sh)
 | l (e : Sh) (r : Sh)
inductive WT (N : Nat) : Sh → List Cell → Prop
 | nil : WT N .nil []
 | i {k : IntKind} {r : Sh} {cs : List Cell} (n : Int) : WT N r cs → WT N (.i k r) (.s (.int k n) :: cs)
 | b {r : Sh} {cs : List Cell} (x : Bool) : WT N r cs → WT N (.b r) (.s (.bool x) :: cs)
 | l {e r : Sh} {cs : List Cell} (rows : List (List Cell)) : rows.length ≤ N → (∀ row ∈ rows, WT N e row) → WT N r cs → WT N (.l e r) (.l rows :: cs)
def WR (N : Nat) (e : Sh) (rows : List (List Cell)) : Prop := rows.length ≤ N ∧ ∀ row ∈ rows, WT N e row
def nx (k : Int) : Int := IntKind.i64.wrap (k + 1)
def mkv : IntKind → Int → Int
 | .i64, k => k
 | t, k => t.wrap k
def mkR (f : List Cell → Int → List Cell × Int) : List (List Cell) → Int → List (List Cell) × Int
 | [], k => ([], k)
 | row :: rows, k => ((f row k).1 :: (mkR f rows (f row k).2).1, (mkR f rows (f row k).2).2)
def mk : Sh → List Cell → Int → List Cell × Int
 | .nil, cs, k => (cs, k)
 | .i t r, _ :: cs, k => (.s (.int t (mkv t k)) :: (mk r cs (nx k)).1, (mk r cs (nx k)).2)
 | .b r, _ :: cs, k => (.s (.bool (k.tmod 3 == 0)) :: (mk r cs (nx k)).1, (mk r cs (nx k)).2)
 | .l e r, .l rows :: cs, k => (.l (mkR (mk e) rows k).1 :: (mk r cs (mkR (mk e) rows k).2).1, (mk r cs (mkR (mk e) rows k).2).2)
 | _, cs, k => (cs, k)
def hdR (f : List Cell → Int → Option Int) : List (List Cell) → Int → Option Int
 | [], k => some k
 | row :: rows, k => (f row k).bind (hdR f rows)
def ng (o : Option Int) : Int := o.getD (-1)
def ps (k : Int) : Option Int := if k < 0 then none else some k
def hd : Sh → List Cell → Int → Option Int
 | .nil, _, k => some k
 | .i t r, .s (.int _ n) :: cs, k => if n = mkv t k then hd r cs (nx k) else none
 | .b r, .s (.bool x) :: cs, k => if x = (k.tmod 3 == 0) then hd r cs (nx k) else none
 | .l e r, .l rows :: cs, k => (ps (ng (hdR (hd e) rows k))).bind (hd r cs)
 | _, _, k => some k
def mt : Sh → List Cell → Int → List Cell × Int
 | .i _ r, c :: cs, k => (c :: (mt r cs k).1, (mt r cs k).2)
 | .b r, c :: cs, k => (c :: (mt r cs k).1, (mt r cs k).2)
 | .l e r, .l rows :: cs, k => (.l (mkR (mk e) rows k).1 :: (mt r cs (mkR (mk e) rows k).2).1, (mt r cs (mkR (mk e) rows k).2).2)
 | _, cs, k => (cs, k)
def ht : Sh → List Cell → Int → Option Int
 | .i _ r, _ :: cs, k => ht r cs k
 | .b r, _ :: cs, k => ht r cs k
 | .l e r, .l rows :: cs, k => (ps (ng (hdR (hd e) rows k))).bind (ht r cs)
 | _, _, k => some k
theorem q9q {k : Int} (h : ¬ k < 0) : ps k = some k := by unfold ps; rw [if_neg h]
theorem qb0 {k : Int} (h : k < 0) : ps k = none := by unfold ps; rw [if_pos h]
theorem y32 {o : Option Int} (h : o = none) : ng o = -1 := by rw [h]; rfl
def y00 (f : List Cell → Nat) : List (List Cell) → Nat
 | [] => 0
 | row :: rows => f row + y00 f rows
def cnt : Sh → List Cell → Nat
 | .i _ r, _ :: cs => 1 + cnt r cs
 | .b r, _ :: cs => 1 + cnt r cs
 | .l e r, .l rows :: cs => y00 (cnt e) rows + cnt r cs
 | _, _ => 0
def tot : Sh → List Cell → Nat
 | .i _ r, _ :: cs => tot r cs
 | .b r, _ :: cs => tot r cs
 | .l e r, .l rows :: cs => rows.length + y00 (tot e) rows + tot r cs
 | _, _ => 0
def zl (e : Sh) (rows : List (List Cell)) : Nat := rows.length + y00 (tot e) rows
def wid : Sh → Nat
 | .i _ r => 1 + wid r
 | .b r => 1 + wid r
 | .l _ r => wid r
 | .nil => 0
def q3n : Sh → Nat
 | .i _ r => q3n r
 | .b r => q3n r
 | .l e r => wid e + q3n e + q3n r
 | .nil => 0
theorem z6p {k : Int} (h : 0 ≤ k) (h1 : k < 9000000000000000000) : nx k = k + 1 := wrap_i64 (by omega) (by omega)
theorem qq (f : List Cell → Int → List Cell × Int) : ∀ (rows : List (List Cell)) (k : Int), (mkR f rows k).1.length = rows.length
 | [], _ => rfl
 | row :: rows, k => by simp [mkR, qq f rows]
theorem WT.mono {N M : Nat} (h : N ≤ M) {e : Sh} {cs : List Cell} (hw : WT N e cs) : WT M e cs := by
 induction hw with
 | nil => exact .nil
 | i n _ ih => exact .i n ih
 | b x _ ih => exact .b x ih
 | l rows h1 _ _ ih1 ih2 => exact .l rows (by omega) ih1 ih2
theorem WR.mono {N M : Nat} (h : N ≤ M) {e : Sh} {rows : List (List Cell)} (hw : WR N e rows) : WR M e rows := ⟨Nat.le_trans hw.1 h, fun r hr => (hw.2 r hr).mono h⟩
theorem WT.yv {N : Nat} {k : IntKind} {r : Sh} {cs : List Cell} (h : WT N (.i k r) cs) : ∃ n cs', cs = .s (.int k n) :: cs' ∧ WT N r cs' := by
 cases h with | i n h => exact ⟨_, _, rfl, h⟩
theorem WT.z13 {N : Nat} {e r : Sh} {cs : List Cell} (h : WT N (.l e r) cs) : ∃ rows cs', cs = .l rows :: cs' ∧ WR N e rows ∧ WT N r cs' := by
 cases h with | l rows h1 h2 h3 => exact ⟨_, _, rfl, ⟨h1, h2⟩, h3⟩
theorem WT.yy {N : Nat} {cs : List Cell} (h : WT N .nil cs) : cs = [] := by
 cases h; rfl
theorem q7k {N : Nat} {e : Sh} {f : List Cell → Int → List Cell × Int} : ∀ {rows : List (List Cell)}, (∀ row ∈ rows, ∀ k, WT N e (f row k).1) → ∀ k, ∀ row ∈ (mkR f rows k).1, WT N e row
 | [], _, k, row, hr => by cases hr
 | r :: rows, h, k, row, hr => by
   rcases List.mem_cons.1 hr with rfl | hr
   · exact h r (by simp) k
   · exact q7k (fun row hr => h row (by simp [hr])) _ row hr
theorem qay {N : Nat} {e : Sh} {cs : List Cell} (h : WT N e cs) : ∀ k, WT N e (mk e cs k).1 := by
 induction h with
 | nil => exact fun k => .nil
 | i n _ ih => exact fun k => .i _ (ih _)
 | b x _ ih => exact fun k => .b _ (ih _)
 | l rows h1 _ _ ih1 ih2 => exact fun k => .l _ (by rw [qq]; exact h1) (q7k ih1 k) (ih2 _)
theorem yad {N : Nat} {e : Sh} {rows : List (List Cell)} (h : WR N e rows) (k : Int) : WR N e (mkR (mk e) rows k).1 := ⟨by rw [qq]; exact h.1, q7k (fun row hr => qay (h.2 row hr)) k⟩
theorem q47 {f : List Cell → Int → List Cell × Int} {g : List Cell → Int → Option Int} {c : List Cell → Nat} : ∀ {rows : List (List Cell)},
 (∀ row ∈ rows, ∀ k : Int, 0 ≤ k → k + c row ≤ 4000000000000000000 → g (f row k).1 k = some (k + c row) ∧ (f row k).2 = k + c row) →
 ∀ k : Int, 0 ≤ k → k + y00 c rows ≤ 4000000000000000000 → hdR g (mkR f rows k).1 k = some (k + y00 c rows) ∧ (mkR f rows k).2 = k + y00 c rows
 | [], _, k, _, _ => by simp [mkR, hdR, y00]
 | r :: rows, h, k, h0, h1 => by
   simp only [y00] at h1 ⊢
   obtain ⟨e1, e2⟩ := h r (by simp) k h0 (by omega)
   obtain ⟨e3, e4⟩ := q47 (rows := rows) (fun row hr => h row (by simp [hr])) (k + c r) (by omega) (by omega)
   simp only [mkR, hdR, e1, e2, Option.bind_some, e3, e4]
   constructor
   · congr 1; omega
   · omega
theorem z5l {N : Nat} {e : Sh} {cs : List Cell} (h : WT N e cs) : ∀ k : Int, 0 ≤ k → k + cnt e cs ≤ 4000000000000000000 → hd e (mk e cs k).1 k = some (k + cnt e cs) ∧ (mk e cs k).2 = k + cnt e cs := by
 induction h with
 | nil => intro k _ _; simp [mk, hd, cnt]
 | @i t r cs n _ ih =>
   intro k h0 h1
   simp only [cnt] at h1
   obtain ⟨e1, e2⟩ := ih (nx k) (by rw [z6p h0 (by omega)]; omega) (by rw [z6p h0 (by omega)]; omega)
   have hn : nx k + (cnt r cs : Nat) = k + (cnt (.i t r) (.s (.int t n) :: cs) : Nat) := by rw [z6p h0 (by omega)]; simp only [cnt]; omega
   simp only [mk, hd, if_true]
   exact ⟨e1.trans (congrArg some hn), e2.trans hn⟩
 | @b r cs x _ ih =>
   intro k h0 h1
   simp only [cnt] at h1
   obtain ⟨e1, e2⟩ := ih (nx k) (by rw [z6p h0 (by omega)]; omega) (by rw [z6p h0 (by omega)]; omega)
   have hn : nx k + (cnt r cs : Nat) = k + (cnt (.b r) (.s (.bool x) :: cs) : Nat) := by rw [z6p h0 (by omega)]; simp only [cnt]; omega
   simp only [mk, hd, if_true]
   exact ⟨e1.trans (congrArg some hn), e2.trans hn⟩
 | @l e r cs rows _ _ _ ih1 ih2 =>
   intro k h0 h1
   simp only [cnt] at h1
   obtain ⟨e1, e2⟩ := q47 ih1 k h0 (by omega)
   obtain ⟨e3, e4⟩ := ih2 (k + y00 (cnt e) rows) (by omega) (by omega)
   have hn : k + (y00 (cnt e) rows : Nat) + (cnt r cs : Nat) = k + (cnt (.l e r) (.l rows :: cs) : Nat) := by simp only [cnt]; omega
   have hp : ps (ng (some (k + (y00 (cnt e) rows : Nat)))) = some (k + y00 (cnt e) rows) := q9q (by show ¬ (k + _ < (0 : Int)); omega)
   simp only [mk, hd, e1, e2, hp, Option.bind_some]
   exact ⟨e3.trans (congrArg some hn), e4.trans hn⟩
theorem y2a {f g : List Cell → Nat} {a b : Nat} : ∀ {rows : List (List Cell)}, (∀ row ∈ rows, f row ≤ a + b * g row) → y00 f rows ≤ a * rows.length + b * y00 g rows
 | [], _ => by simp [y00]
 | r :: rows, h => by
   have h1 := h r (by simp)
   have h2 := y2a (rows := rows) (fun row hr => h row (by simp [hr]))
   simp only [y00, List.length_cons, Nat.mul_add, Nat.mul_one]
   omega
theorem y74 {N : Nat} {e : Sh} {cs : List Cell} (h : WT N e cs) : cnt e cs ≤ wid e + q3n e * tot e cs := by
 induction h with
 | nil => simp [cnt]
 | i n _ ih => simp only [cnt, wid, q3n, tot]; omega
 | b x _ ih => simp only [cnt, wid, q3n, tot]; omega
 | @l e r cs rows _ _ _ ih1 ih2 =>
   simp only [cnt, wid, q3n, tot]
   have h1 := y2a ih1
   have h3 : (wid e + q3n e + q3n r) * (rows.length + y00 (tot e) rows + tot r cs) ≥ wid e * rows.length + q3n e * y00 (tot e) rows + q3n r * tot r cs := by
    have a1 : wid e * rows.length ≤ wid e * (rows.length + y00 (tot e) rows + tot r cs) := Nat.mul_le_mul_left _ (by omega)
    have a2 : q3n e * y00 (tot e) rows ≤ q3n e * (rows.length + y00 (tot e) rows + tot r cs) := Nat.mul_le_mul_left _ (by omega)
    have a3 : q3n r * tot r cs ≤ q3n r * (rows.length + y00 (tot e) rows + tot r cs) := Nat.mul_le_mul_left _ (by omega)
    simp only [Nat.add_mul]
    omega
   omega
def md (f : List Cell → Int → List Cell × Int) (rows : List (List Cell)) (k : Int) (i : Nat) : List (List Cell) := (mkR f (rows.take i) k).1 ++ rows.drop i
def mdk (f : List Cell → Int → List Cell × Int) (rows : List (List Cell)) (k : Int) (i : Nat) : Int := (mkR f (rows.take i) k).2
theorem q2e (f : List Cell → Int → List Cell × Int) : ∀ (xs ys : List (List Cell)) (k : Int), mkR f (xs ++ ys) k = ((mkR f xs k).1 ++ (mkR f ys (mkR f xs k).2).1, (mkR f ys (mkR f xs k).2).2)
 | [], ys, k => rfl
 | x :: xs, ys, k => by simp [mkR, q2e f xs]
section
variable {f : List Cell → Int → List Cell × Int} {rows : List (List Cell)} {k : Int} {i : Nat} {row : List Cell}
theorem z0z (h : rows[i]? = some row) : rows.take (i + 1) = rows.take i ++ [row] := by rw [List.take_add_one, h]; rfl
theorem z0b : md f rows k 0 = rows := by simp [md, mkR]
theorem y02 : mdk f rows k 0 = k := by simp [mdk, mkR]
theorem z0x : md f rows k rows.length = (mkR f rows k).1 := by simp [md]
theorem y0b : mdk f rows k rows.length = (mkR f rows k).2 := by simp [mdk]
theorem q0x (h : i ≤ rows.length) : (md f rows k i).length = rows.length := by simp [md, qq]; omega
theorem y0x (h : rows[i]? = some row) : (md f rows k i)[i]? = some row := by
 have hi := (List.getElem?_eq_some_iff.1 h).1
 unfold md
 rw [List.getElem?_append_right (by simp [qq]; omega)]
 simp only [qq, List.length_take, Nat.min_eq_left (Nat.le_of_lt hi), Nat.sub_self, List.getElem?_drop, Nat.add_zero]
 exact h
theorem z02 (h : rows[i]? = some row) : mdk f rows k (i + 1) = (f row (mdk f rows k i)).2 := by
 unfold mdk; rw [z0z h, q2e]; rfl
theorem z0y (h : rows[i]? = some row) : (md f rows k i).set i (f row (mdk f rows k i)).1 = md f rows k (i + 1) := by
 have hi := (List.getElem?_eq_some_iff.1 h).1
 have hl : (mkR f (rows.take i) k).1.length = i := by simp [qq]; omega
 unfold md
 rw [z0z h, q2e, List.set_append_right _ _ (by omega), hl, Nat.sub_self]
 have : rows.drop i = row :: rows.drop (i + 1) := by rw [List.drop_eq_getElem_cons hi]; rw [List.getElem?_eq_getElem hi] at h; cases h; rfl
 rw [this]
 simp [mkR, mdk]
end
theorem z2b (f : List Cell → Int → Option Int) : ∀ (xs ys : List (List Cell)) (k : Int), hdR f (xs ++ ys) k = (hdR f xs k).bind (hdR f ys)
 | [], ys, k => rfl
 | x :: xs, ys, k => by
   simp only [List.cons_append, hdR]
   cases f x k with
   | none => rfl
   | some v => exact z2b f xs ys v
theorem z8d {f : List Cell → Int → Option Int} {rows : List (List Cell)} {i : Nat} {row : List Cell} {k v : Int} (h : rows[i]? = some row) (hv : hdR f (rows.take i) k = some v) : hdR f (rows.take (i + 1)) k = f row v := by
 rw [z0z h, z2b, hv]
 simp only [Option.bind_some, hdR]
 cases f row v <;> rfl
theorem z2r {f : List Cell → Int → Option Int} {rows : List (List Cell)} {i : Nat} {k : Int} (h : hdR f (rows.take i) k = none) : hdR f rows k = none := by
 rw [← List.take_append_drop i rows, z2b, h]; rfl
theorem qad {N : Nat} {e : Sh} {cs : List Cell} (h : WT N e cs) : ∀ k, (mk e cs k).1.length = cs.length := by
 induction h with
 | nil => exact fun k => rfl
 | i n _ ih => exact fun k => by simp [mk, ih]
 | b x _ ih => exact fun k => by simp [mk, ih]
 | l rows _ _ _ _ ih => exact fun k => by simp [mk, ih]
theorem z4v {N : Nat} {e : Sh} : ∀ {rows : List (List Cell)}, (∀ row ∈ rows, WT N e row) → ∀ (k : Int) (j : Nat) (row row' : List Cell), rows[j]? = some row → (mkR (mk e) rows k).1[j]? = some row' → row'.length = row.length
 | [], _, k, j, row, row', h, _ => by simp at h
 | r :: rows, hw, k, 0, row, row', h, h' => by
   simp [mkR] at h h'
   subst h; subst h'
   exact qad (hw r (by simp)) k
 | r :: rows, hw, k, j + 1, row, row', h, h' => by
   simp [mkR] at h h'
   exact z4v (fun x hx => hw x (by simp [hx])) _ j row row' h h'
theorem qs {N : Nat} {e : Sh} {rows : List (List Cell)} (hw : WR N e rows) {k : Int} : ∀ (j : Nat) (row row' : List Cell), rows[j]? = some row → (mkR (mk e) rows k).1[j]? = some row' → row'.length = row.length := z4v hw.2 k
def szn (b : Int) (n : Nat) : Int := if b - n < 0 then -1 else b - n
theorem y0j {b : Int} {n : Nat} (h : b ≤ 1048576) (h0 : 0 ≤ b) : szn b n ≤ 1048576 := by unfold szn; split <;> omega
theorem yi {b : Int} {m n : Nat} (h : 0 ≤ szn b m) : szn (szn b m) n = szn b (m + n) := by
 unfold szn at *; split at h
 · omega
 · rename_i h1; simp only [if_neg h1]; split <;> split <;> omega
theorem qa {α : Type} {xs : List α} {i n : Nat} {x : α} (h : xs.length = n) : (xs.set i x).length = n := List.length_set.trans h
theorem lsr {xs : List (List Cell)} {i k n : Nat} {c : Cell} (h : xs.length = n) : (setRow xs i k c).length = n := q6s.trans h
theorem qv {α : Type} {xs : List α} {i n : Nat} {x : α} (h : xs.length = n) (hi : i < n) : (xs.set i x)[i]? = some x := y5g (h ▸ hi)
theorem ssr {xs : List (List Cell)} {i k : Nat} {c : Cell} {r : List Cell} (h : i < xs.length) : setRow (xs.set i r) i k c = xs.set i (r.set k c) := by rw [qt (y5g h), List.set_set]
theorem cwi {k : IntKind} {n m : Int} (h : -9223372036854775808 ≤ n) (h2 : n ≤ 9223372036854775807) (e : n = m) : Cell.s (.int k (IntKind.i64.wrap n)) = Cell.s (.int k m) := by rw [wrap_i64 h h2, e]
theorem z1s (f : List Cell → Nat) : ∀ (xs ys : List (List Cell)), y00 f (xs ++ ys) = y00 f xs + y00 f ys
 | [], ys => by simp [y00]
 | x :: xs, ys => by simp [y00, z1s f xs, Nat.add_assoc]
theorem y0o {f : List Cell → Nat} {rows : List (List Cell)} {i : Nat} {row : List Cell} (h : rows[i]? = some row) : y00 f (rows.take (i + 1)) = y00 f (rows.take i) + f row := by
 rw [z0z h, z1s]; simp [y00]
theorem q0d (f : List Cell → Nat) (rows : List (List Cell)) (i : Nat) : y00 f rows = y00 f (rows.take i) + y00 f (rows.drop i) := by
 rw [← z1s, List.take_append_drop]
theorem q0s {N : Nat} {e : Sh} {rows : List (List Cell)} (h : ∀ row, WT N e row → tot e row = 0) (hw : WR N e rows) : zl e rows = rows.length := by
 have : ∀ rows : List (List Cell), (∀ row ∈ rows, WT N e row) → y00 (tot e) rows = 0 := by
  intro rows
  induction rows with
  | nil => intro _; rfl
  | cons r rows ih => intro hr; rw [y00, h r (hr r (by simp)), ih (fun x hx => hr x (by simp [hx]))]
 rw [zl, this rows hw.2, Nat.add_zero]
theorem zp {α : Type} {xs ys : List α} {i : Nat} {a : α} (h : xs.take i = ys.take i) (hx : xs[i]? = some a) (hy : ys[i]? = some a) : xs.take (i + 1) = ys.take (i + 1) := by
 rw [List.take_add_one, List.take_add_one, h, hx, hy]
noncomputable def dE {α : Type} (p q : α) : Bool := open Classical in decide (p = q)
theorem qi {α : Type} {p q : α} (h : p ≠ q) : Value.bool false = Value.bool (dE p q) := by simp [dE, h]
theorem yu {α : Type} {p q : α} (h : p = q) : Value.bool true = Value.bool (dE p q) := by simp [dE, h]
theorem q04 {α : Type} {p q : α} (h : (!dE p q) = true) : p ≠ q := by simpa [dE] using h
theorem y04 {α : Type} {p q : α} (h : (!dE p q) = false) : p = q := by simpa [dE] using h
abbrev i64 (n : Int) : Cell := .s (.int .i64 n)
abbrev rI (n : Int) : Res := .one (.own false [.s (.int .i64 n)])
abbrev rB (b : Bool) : Res := .one (.own false [.s (.bool b)])
end Go.Sx
end
section
namespace Go.Sx
open Go.Maps (Keyed)
section
variable {P : Program} [yn P] {Q : Ex → St → Prop} {st st1 : List Fr} {σ σ1 : St} {g : Bool} {o : Oper} {t : TypeId} {m x : Operand} {β k e n : Nat} {D : DataW Unit} {q : IntKind}
theorem yak {r : Nat} (h : exec 2000 (yn.F P) st σ = .raw g σ1 o st1) (ho : o.op = .makeMap t none) (hd : o.dst = some r) (hu : P.underlying t = some (.map k e)) (hn : get σ1.b r = none)
 (h1 : G P Q st1 none ⟨(r, .one (.mx 0 r)) :: σ1.t, z0d σ1.b r (.mp k e 0 (.map []) none)⟩) : G P Q st none σ :=
 ya0 h (by simp only [opL, ho]; exact ⟨r, k, e, rfl, hd, hu, hn, h1⟩)
theorem qb2 {av : AV} {key : Value} {kl : Lit} (h : exec 2000 (yn.F P) st σ = .raw g σ1 o st1) (ho : o.op = .lookup t m x false) (hm : ev σ1 m = some (.one (.mx 0 β))) (hb : get σ1.b β = some (.mp k e n D none))
 (hu : P.underlying t = some (.map k e)) (he : P.underlying e = some (.int q)) (hK : Keyed P k) (hz : ∀ w, (zeroValue e).run P w = .ok (.int q 0) w) (hx : ev σ1 x = some av) (hv : valOf av = some key) (hkey : keyOf P k key = some kl)
 (h1 : ∀ c, D.atKey kl (.lit (.int q 0)) = .lit (.int q c) → (Lit.int q c).wf = true → G P Q st1 none (σ1.put o.dst (.one (.b (.s (.int q c)))))) : G P Q st none σ :=
 ya0 h (by simp only [opL, ho]; exact .inl ⟨β, k, e, n, D, q, kl, av, key, rfl, hm, hb, hu, he, hK, hz, hx, hv, hkey, h1⟩)
theorem zbi {v : Operand} {av : AV} {key : Value} {kl : Lit} {c : Int} (h : exec 2000 (yn.F P) st σ = .raw g σ1 o st1) (ho : o.op = .mapUpdate t m x v) (hd : o.dst = none) (hm : ev σ1 m = some (.one (.mx 0 β))) (hb : get σ1.b β = some (.mp k e n D none))
 (hu : P.underlying t = some (.map k e)) (he : P.underlying e = some (.int q)) (hK : Keyed P k) (hn : n < maxLen) (hx : ev σ1 x = some av) (hv : valOf av = some key) (hkey : keyOf P k key = some kl) (hc : ev σ1 v = some (.one (.b (.s (.int q c))))) (hw : (Lit.int q c).wf = true)
 (h1 : G P Q st1 none ⟨σ1.t, z0d σ1.b β (.mp k e (n + 1) (D.put kl (.lit (.int q c))) none)⟩) : G P Q st none σ :=
 ya0 h (by simp only [opL, ho]; exact ⟨β, k, e, n, D, q, kl, av, key, c, hd, hm, hb, hu, he, hK, hn, hx, hv, hkey, hc, hw, h1⟩)
theorem zal {r : Nat} (h : exec 2000 (yn.F P) st σ = .raw g σ1 o st1) (ho : o.op = .range t m) (hd : o.dst = some r) (hm : ev σ1 m = some (.one (.mx 0 β))) (hb : get σ1.b β = some (.mp k e n D none)) (hr : get σ1.b r = none)
 (hu : P.underlying t = some (.map k e)) (hK : Keyed P k)
 (h1 : G P Q st1 none ⟨(r, .one (.mx 1 r)) :: σ1.t, z0d (z0d σ1.b β .dead) r (.mp k e n D (some (Maps.has D, Maps.size D, none)))⟩) : G P Q st none σ :=
 ya0 h (by simp only [opL, ho]; exact ⟨r, β, k, e, n, D, hd, hm, hb, hr, hu, hK, h1⟩)
theorem zb3 {r : Nat} {left : Lit → Bool} {cnt : Nat} {cur : Option (Value × Value)} (h : exec 2000 (yn.F P) st σ = .raw g σ1 o st1) (ho : o.op = .next m false) (hd : o.dst = some r) (hm : ev σ1 m = some (.one (.mx 1 β))) (hb : get σ1.b β = some (.mp k e n D (some (left, cnt, cur))))
 (hK : Keyed P k) (he : P.underlying e = some (.int q))
 (h0 : cnt = 0 → (∀ kl, left kl = false) → G P Q st1 none ⟨(r, .tup [.one (.b (.s (.bool false)))]) :: σ1.t, σ1.b⟩)
 (h1 : ∀ key kl c cnt', keyOf P k key = some kl → left kl = true → (∀ zd, D.atKey kl zd = .lit (.int q c)) → (Lit.int q c).wf = true → cnt' < cnt →
   ∃ av, q1n key = some av ∧ (∀ vs, av ≠ .tup vs) ∧ G P Q st1 none ⟨(r, .tup [.one (.b (.s (.bool true))), av, .one (.b (.s (.int q c)))]) :: σ1.t, z0d σ1.b β (.mp k e n D (some ((fun z => left z && !z.sameKey kl), cnt', some (key, .int q c))))⟩) : G P Q st none σ :=
 ya0 h (by simp only [opL, ho]; exact ⟨r, β, k, e, n, D, left, cnt, cur, q, rfl, hd, hm, hb, hK, he, h0, h1⟩)
theorem qak {r : Nat} {qk : IntKind} {left : Lit → Bool} {cnt : Nat} {cur : Option (Value × Value)} (h : exec 2000 (yn.F P) st σ = .raw g σ1 o st1) (ho : o.op = .next m false) (hd : o.dst = some r) (hm : ev σ1 m = some (.one (.mx 1 β))) (hb : get σ1.b β = some (.mp k e n D (some (left, cnt, cur))))
 (hK : Keyed P k) (hk : P.underlying k = some (.int qk)) (he : P.underlying e = some (.int q))
 (h0 : cnt = 0 → (∀ kl, left kl = false) → G P Q st1 none ⟨(r, .tup [.one (.b (.s (.bool false)))]) :: σ1.t, σ1.b⟩)
 (h1 : ∀ y c cnt', left (.int qk y) = true → (∀ zd, D.atKey (.int qk y) zd = .lit (.int q c)) → (Lit.int q c).wf = true → cnt' < cnt →
   G P Q st1 none ⟨(r, .tup [.one (.b (.s (.bool true))), .one (.b (.s (.int qk y))), .one (.b (.s (.int q c)))]) :: σ1.t, z0d σ1.b β (.mp k e n D (some ((fun z => left z && !z.sameKey (.int qk y)), cnt', some (.int qk y, .int q c))))⟩) : G P Q st none σ :=
 zb3 h ho hd hm hb hK he h0 (fun key kl c cnt' hkey hl hat hw hlt => by
  obtain ⟨y, rfl, rfl, _⟩ := Maps.keyOf_int_inv hk hkey
  exact ⟨.one (.b (.s (.int qk y))), rfl, fun vs h => (nomatch h), h1 y c cnt' hl hat hw hlt⟩)
theorem qaj {r : Nat} {left : Lit → Bool} {cnt : Nat} {key u : Value} {av av' : AV} (h : exec 2000 (yn.F P) st σ = .raw g σ1 o st1) (ho : o.op = .entry m) (hd : o.dst = some r) (hm : ev σ1 m = some (.one (.mx 1 β))) (hb : get σ1.b β = some (.mp k e n D (some (left, cnt, some (key, u)))))
 (h2 : q1n key = some av) (h3 : q1n u = some av') (h4 : ∀ vs, av ≠ .tup vs) (h5 : ∀ vs, av' ≠ .tup vs) (h1 : G P Q st1 none ⟨(r, .tup [av, av']) :: σ1.t, σ1.b⟩) : G P Q st none σ :=
 ya0 h (by simp only [opL, ho]; exact ⟨r, β, k, e, n, D, left, cnt, key, u, av, av', hd, hm, hb, h2, h4, h3, h5, h1⟩)
end
end Go.Sx
end
section
namespace Go.Sx
open Go.RowKit
def Sh.len : Sh → Nat
 | .nil => 0
 | .i _ r => r.len + 1
 | .b r => r.len + 1
 | .l _ r => r.len + 1
def Sh.app : Sh → Sh → Sh
 | .nil, t => t
 | .i k r, t => .i k (r.app t)
 | .b r, t => .b (r.app t)
 | .l e r, t => .l e (r.app t)
theorem WT.len {N : Nat} {s : Sh} {cs : List Cell} (h : WT N s cs) : cs.length = s.len := by
 induction h with
 | nil => rfl
 | i n _ ih => simp [Sh.len, ih]
 | b x _ ih => simp [Sh.len, ih]
 | l rows _ _ _ _ ih => simp [Sh.len, ih]
theorem WT.app {N : Nat} {s t : Sh} {xs ys : List Cell} (h : WT N s xs) (k : WT N t ys) : WT N (s.app t) (xs ++ ys) := by
 induction h with
 | nil => exact k
 | i n _ ih => exact .i n ih
 | b x _ ih => exact .b x ih
 | l rows h1 h2 _ _ ih => exact .l rows h1 h2 ih
abbrev OS (P : Program) (t : TypeId) (s : Sh) : Prop := y2t P t s.len (fun a : {cs : List Cell // WT 9223372036854775807 s cs} => a.1) (fun _ => True)
abbrev OSF (P : Program) (fs : List Field) (s : Sh) : Prop := y4h P fs s.len (fun a : {cs : List Cell // WT 9223372036854775807 s cs} => a.1) (fun _ => True)
section
variable {P : Program} {t e : TypeId}
theorem OS.mk {sz : Nat} {α : Type} {f : α → List Cell} {G : α → Prop} {s : Sh} (h : y2t P t sz f G) (hz : sz = s.len) (hw : ∀ a, G a → WT 9223372036854775807 s (f a)) : OS P t s :=
 ⟨h.hsz.trans hz, fun a => a.2.len, fun enc w base spare held fuel cs x hx => by
   obtain ⟨a, h1, h2⟩ := h.get enc w base spare held fuel cs x hx
   exact ⟨⟨f a, hw a h2⟩, h1, trivial⟩⟩
theorem yaf {k : IntKind} (ht : P.underlying t = some (.int k)) (hc : P.cellsOf t = 1) : OS P t (.i k .nil) := .mk (z7n ht hc) rfl fun n _ => .i n .nil
theorem z05 {s : Sh} (ht : P.underlying t = some (.slice e)) (hc : P.cellsOf t = 1) (he : OS P e s) : OS P t (.l s .nil) := .mk (z5m ht hc he) rfl fun l hl => .l _ (by
 have h : l.length ≤ maxLen := hl.1
 rw [List.length_map]; exact h) (fun row hr => by
 obtain ⟨a, _, rfl⟩ := List.mem_map.1 hr
 exact a.2) .nil
theorem q0b {fd : Field} {s : Sh} (h : OS P fd.type s) : OSF P [fd] s := z6q h
theorem yg {fd : Field} {fs : List Field} {s t u : Sh} (h : OS P fd.type s) (k : OSF P fs t) (hu : s.app t = u) (hl : s.len + t.len = u.len) : OSF P (fd :: fs) u := by
 have hc := q5l h k
 subst hu
 refine ⟨fun a => a.2.len, fun enc w base spare held fuel cs hn hx => ?_⟩
 obtain ⟨a, h1, _⟩ := hc.2 enc w base spare held fuel cs (hn.trans hl.symm) hx
 exact ⟨⟨_, a.1.2.app a.2.2⟩, h1, trivial⟩
theorem qw {fs : List Field} {s : Sh} (ht : P.underlying t = some (.struct fs.toArray)) (hc : P.cellsOf t = s.len) (hL : Laid P 0 fs) (hF : OSF P fs s) : OS P t s :=
 z4x (fun a => a) (fun _ => rfl) (fun _ h => h) (fun b => b.2.len) ht hc hL hF
theorem za7 {fs : Array Field} {s : Sh} (ht : P.underlying t = some (.struct fs)) (he : OS P t s) {H : Type} {enc : TypeId × Value → H} {w : World} {r : Reach} {b : Nat} {v : Value} {dd : DataW H} {ps : List MemPlace}
 (hv : Value.okWide P w r b t v) (h : DataW.Trod enc P w 0 (fun _ => true) true t v dd ps) : ∃ cs : List Cell, y6c w (fun _ => True) (.agg cs) v ∧ WT 9223372036854775807 s cs := by
 obtain ⟨a, h1, _⟩ := z6e ht he hv h
 exact ⟨a.1, h1, a.2⟩
theorem y9a {s : Sh} (ht : P.underlying t = some (.slice e)) (he : OS P e s) {H : Type} {enc : TypeId × Value → H} {w : World} {r : Reach} {b : Nat} {v : Value} {dd : DataW H} {ps : List MemPlace}
 (hv : Value.okWide P w r b t v) (h : DataW.Trod enc P w 0 (fun _ => true) true t v dd ps) : ∃ rr : List (List Cell), y6c w (fun _ => True) (.one (.l rr)) v ∧ WR 9223372036854775807 s rr := by
 obtain ⟨l, h1, h2, _⟩ := q72 ht he hv h
 refine ⟨_, h1, ⟨by rw [List.length_map]; exact h2, fun row hr => ?_⟩⟩
 obtain ⟨a, _, rfl⟩ := List.mem_map.1 hr
 exact a.2
end
end Go.Sx
end
section
namespace Go.Sx
theorem z4h.four {w : World} {N : Nat → Prop} {sv sv' sv2 sv3 : SV} {v v' v2 v3 : Value} (h : y6c w N sv v) (h' : y6c w N sv' v') (h2 : y6c w N sv2 v2) (h3 : y6c w N sv3 v3) : z4h w N #[v, v', v2, v3] [sv, sv', sv2, sv3] := ⟨rfl, fun i s u e1 e2 => by
 cases i with
 | zero => cases e1; cases e2; exact h
 | succ i =>
   cases i with
   | zero => cases e1; cases e2; exact h'
   | succ i =>
     cases i with
     | zero => cases e1; cases e2; exact h2
     | succ i =>
       cases i with
       | zero => cases e1; cases e2; exact h3
       | succ i => simp at e1⟩
def zaf : OC → Cell
 | .s v => .s v
 | .l _ rows => .l rows
theorem PC.q9y {P : Program} {f : Nat} {args : List SV} {ag : Bool} {cs : List OC} (h : PC P f args (.one (.own ag cs))) : PC P f args (.one (.bor ag (cs.map zaf))) := by
 refine ⟨h.1, fun N w vals ha => (h.2 N w vals ha).mono ?_⟩
 rintro e w' ⟨v, S, rfl, hk, ⟨arr, F, h1, h2, h3, _, h5⟩, hS⟩
 refine ⟨v, fun _ => False, rfl, hk, ⟨arr, h1, by simp [h2], fun k c u hc hu => ?_⟩, fun x hx => hx.elim⟩
 rw [List.getElem?_map] at hc
 cases ho : cs[k]? with
 | none => rw [ho] at hc; cases hc
 | some oc =>
   rw [ho] at hc
   cases hc
   have h6 := h5 k oc u ho hu
   cases oc with
   | s x => obtain ⟨rfl, h7⟩ := h6; exact .s _ h7
   | l sz rows =>
     obtain ⟨sz', _, h7⟩ := h6
     exact (q1k.2 ⟨sz', h7⟩).rep fun x hx => ⟨.inr (hS x (h3 k x hx)).1, fun h => h⟩
theorem gm {α β : Type} {xs : List α} {i : Nat} {x : α} (f : α → β) (h : xs[i]? = some x) : (xs.map f)[i]? = some (f x) := by rw [List.getElem?_map, h]; rfl
theorem gx {α : Type} {xs : List α} {i : Nat} (h : i < xs.length) : ∃ x, xs[i]? = some x := ⟨_, List.getElem?_eq_getElem h⟩
def scan (f : Nat → Int) : Nat → Int
 | 0 => 0
 | n + 1 => if scan f n ≠ 0 then scan f n else f n
theorem qe {f : Nat → Int} : ∀ {n : Nat}, (∀ j, j < n → f j = 0) → scan f n = 0
 | 0, _ => rfl
 | n + 1, h => by rw [scan, qe (fun j hj => h j (by omega)), h n (by omega)]; simp
theorem z00 {f : Nat → Int} : ∀ {n : Nat}, scan f n = 0 → ∀ j, j < n → f j = 0
 | n + 1, h, j, hj => by
   rw [scan] at h
   split at h
   · rename_i h1; exact absurd h h1
   · rename_i h1
     have h1 : scan f n = 0 := by simpa using h1
     rcases Nat.lt_or_ge j n with h2 | h2
     · exact z00 h1 j h2
     · have : j = n := by omega
       subst this; exact h
theorem y0y {f : Nat → Int} {i : Nat} (h0 : ∀ j, j < i → f j = 0) (h : f i ≠ 0) : ∀ {n : Nat}, i < n → scan f n = f i
 | n + 1, hi => by
   rw [scan]
   rcases Nat.lt_or_ge i n with h2 | h2
   · have := y0y h0 h h2
     rw [this, if_pos h]
   · have : i = n := by omega
     subst this
     rw [qe h0]; simp
theorem q7 {f : Nat → Int} {i n : Nat} {c : Int} (hi : i < n) (h0 : ∀ j, j < i → f j = 0) (hc : f i = c) (h : c ≠ 0) : c = scan f n := by rw [y0y h0 (by rw [hc]; exact h) hi, hc]
theorem ya {f : Nat → Int} {i : Nat} (h0 : ∀ j, j < i → f j = 0) (h : f i = 0) : ∀ j, j < i + 1 → f j = 0 := fun j hj => by
 rcases Nat.lt_or_ge j i with h2 | h2
 · exact h0 j h2
 · have : j = i := by omega
   subst this; exact h
theorem z14 {f g : Nat → Int} : ∀ {n : Nat}, (∀ j, j < n → (∀ k, k < j → f k = 0) → f j = g j) → scan f n = scan g n
 | 0, _ => rfl
 | n + 1, h => by
   have ih := z14 (f := f) (g := g) (n := n) (fun j hj => h j (by omega))
   rw [scan, scan, ih]
   split
   · rfl
   · rename_i h1
     have h1 : scan g n = 0 := by simpa using h1
     rw [← ih] at h1
     exact h n (by omega) (z00 h1)
def within (n lo hi : Int) : Bool := decide (lo ≤ n) && decide (n ≤ hi)
theorem within_iff {n lo hi : Int} : within n lo hi = true ↔ lo ≤ n ∧ n ≤ hi := by simp [within]
def y0c (a b : Int) : Int := if a < b then -1 else if b < a then 1 else 0
def orr : List Int → Int
 | [] => 0
 | x :: xs => if x ≠ 0 then x else orr xs
abbrev ints (xs : List Int) : List (List Cell) := xs.map fun n => [i64 n]
theorem y5m : ∀ {xs : List Int} {i : Nat} {x : Int}, xs[i]? = some x → (∀ (j : Nat) (y : Int), j < i → xs[j]? = some y → y = 0) → x ≠ 0 → orr xs = x
 | y :: xs, 0, x, h, _, hx => by simp at h; subst h; rw [orr, if_pos hx]
 | y :: xs, i + 1, x, h, h0, hx => by
   rw [orr, if_neg (by simpa using h0 0 y (by omega) rfl)]
   exact y5m (by simpa using h) (fun j z hj hz => h0 (j + 1) z (by omega) (by simpa using hz)) hx
theorem y48 : ∀ {xs : List Int}, (∀ (j : Nat) (y : Int), xs[j]? = some y → y = 0) → orr xs = 0
 | [], _ => rfl
 | y :: xs, h => by
   rw [orr, if_neg (by simpa using h 0 y rfl)]
   exact y48 (fun j z hz => h (j + 1) z (by simpa using hz))
structure Leg where
 (s a b v : Int)
abbrev Leg.cs (l : Leg) : List Cell := [i64 l.s, i64 l.a, i64 l.b, i64 l.v]
def Leg.bad (l : Leg) : Bool := !(within l.s 0 2 && within l.a 0 5 && within l.b 0 2 && within l.v (-1000000000000) 1000000000000)
def Leg.fault (l : Leg) : Int := if l.bad then 3 else if l.v = 0 then 1 else 0
def Leg.same (l m : Leg) : Bool := l.s == m.s && l.a == m.a && l.b == m.b
structure Con where
 id : Int
 legs : List Leg
abbrev Con.cs (c : Con) : List Cell := [i64 c.id, .l (c.legs.map Leg.cs)]
structure Bal where
 (a b v : Int)
abbrev Bal.cs (x : Bal) : List Cell := [i64 x.a, i64 x.b, i64 x.v]
def Bal.bad (x : Bal) : Bool := !(within x.a 0 5 && within x.b 0 2 && within x.v 1 1000000000000)
def Bal.key (x : Bal) : Int := x.a * 3 + x.b
def ahead {α : Type} (lt : α → α → Bool) (xs : List α) (i : Nat) (x : α) : Bool := bif Nat.beq i 0 then true else match xs[i - 1]? with | some p => lt p x | none => true
def z2g (xs : List Bal) (i : Nat) : Int := match xs[i]? with
 | some x => if x.bad then 3 else if ahead (fun p x => decide (p.key < x.key)) xs i x then 0 else 1
 | none => 0
theorem y5b {us : List Bal} {i : Nat} {x : Bal} (hx : us[i]? = some x) (h : z2g us i = 0) : x.bad = false := by
 cases hb : x.bad with
 | false => rfl
 | true => simp [z2g, hx, hb] at h
theorem Bal.y0w {x : Bal} (h : x.bad = false) : IntKind.i64.wrap (IntKind.i64.wrap (x.a * 3) + x.b) = x.key := by
 simp [Bal.bad, within] at h
 rw [wrap_i64 (n := x.a * 3) (by omega) (by omega), wrap_i64 (by omega) (by omega)]; rfl
def yk (xs : List Bal) : Int := if 18 < xs.length then 2 else scan (z2g xs) xs.length
def hasB : List Bal → Int → Int → Int
 | [], _, _ => 0
 | x :: xs, a, b => if x.a = a ∧ x.b = b then x.v else hasB xs a b
theorem z41 : ∀ {xs : List Bal} {i : Nat} {x : Bal} {a b : Int}, xs[i]? = some x → (∀ (j : Nat) (y : Bal), j < i → xs[j]? = some y → ¬ (y.a = a ∧ y.b = b)) → x.a = a ∧ x.b = b → hasB xs a b = x.v
 | y :: xs, 0, x, a, b, h, _, hx => by simp at h; subst h; rw [hasB, if_pos hx]
 | y :: xs, i + 1, x, a, b, h, h0, hx => by
   rw [hasB, if_neg (h0 0 y (by omega) rfl)]
   exact z41 (by simpa using h) (fun j z hj hz => h0 (j + 1) z (by omega) (by simpa using hz)) hx
theorem z2z : ∀ {xs : List Bal} {a b : Int}, (∀ (j : Nat) (y : Bal), xs[j]? = some y → ¬ (y.a = a ∧ y.b = b)) → hasB xs a b = 0
 | [], _, _, _ => rfl
 | y :: xs, a, b, h => by
   rw [hasB, if_neg (h 0 y rfl)]
   exact z2z (fun j z hz => h (j + 1) z (by simpa using hz))
def zap (xs : List Bal) (l : Leg) : Int := if hasB xs l.a l.b + l.v < 0 then 6 else if 1000000000000 < hasB xs l.a l.b + l.v then 3 else 0
def y6m (xs : List Bal) (ls : List Leg) (i : Nat) : Int := match ls[i]? with | some l => zap xs l | none => 0
def q3f (xs : List Bal) (ls : List Leg) : Int := scan (y6m xs ls) ls.length
structure Mk where
 (c v : Int)
abbrev Mk.cs (x : Mk) : List Cell := [i64 x.c, i64 x.v]
def z0a : List Mk → Int → Int
 | [], _ => 0
 | x :: xs, c => if x.c = c then x.v else z0a xs c
theorem z1c : ∀ {xs : List Mk} {i : Nat} {x : Mk} {c : Int}, xs[i]? = some x → (∀ (j : Nat) (y : Mk), j < i → xs[j]? = some y → ¬ y.c = c) → x.c = c → z0a xs c = x.v
 | y :: xs, 0, x, c, h, _, hx => by simp at h; subst h; rw [z0a, if_pos hx]
 | y :: xs, i + 1, x, c, h, h0, hx => by
   rw [z0a, if_neg (h0 0 y (by omega) rfl)]
   exact z1c (by simpa using h) (fun j z hj hz => h0 (j + 1) z (by omega) (by simpa using hz)) hx
theorem q1i : ∀ {xs : List Mk} {c : Int}, (∀ (j : Nat) (y : Mk), xs[j]? = some y → ¬ y.c = c) → z0a xs c = 0
 | [], _, _ => rfl
 | y :: xs, c, h => by
   rw [z0a, if_neg (h 0 y rfl)]
   exact q1i (fun j z hz => h (j + 1) z (by simpa using hz))
def q21 (xs : List Mk) (i : Nat) : Int := match xs[i]? with
 | some x => if !(within x.c 1 1000000000 && within x.v 1 2) then 3 else if ahead (fun p x => decide (p.c < x.c)) xs i x then 0 else 1
 | none => 0
def yh (xs : List Mk) : Int := scan (q21 xs) xs.length
theorem yf {α : Type} {xs : List α} {i : Nat} {x : α} {p : α → Prop} (hx : xs[i]? = some x) (h : ∀ (j : Nat) (y : α), j < i → xs[j]? = some y → p y) (hp : p x) : ∀ (j : Nat) (y : α), j < i + 1 → xs[j]? = some y → p y := fun j y hj hy => by
 rcases Nat.lt_or_ge j i with h2 | h2
 · exact h j y h2 hy
 · have : j = i := by omega
   subst this; rw [hx] at hy; cases hy; exact hp
theorem zj {α : Type} {xs : List α} {i : Nat} {p : α → Prop} (hi : i = xs.length) (h : ∀ (j : Nat) (y : α), j < i → xs[j]? = some y → p y) : ∀ (j : Nat) (y : α), xs[j]? = some y → p y := fun j y hy => h j y (by have := (List.getElem?_eq_some_iff.1 hy).1; omega) hy
theorem z0k {i : Nat} (h0 : 0 < i) (h : i ≤ 9000000000000000000) : 0 ≤ IntKind.i64.wrap ((i : Int) - 1) := by rw [wrap_i64 (by omega) (by omega)]; omega
theorem q11 {α β : Type} {xs : List α} {i : Nat} {p : α} (f : α → β) (h0 : 0 < i) (h : i ≤ 9000000000000000000) (hp : xs[i - 1]? = some p) : (xs.map f)[(IntKind.i64.wrap ((i : Int) - 1)).toNat]? = some (f p) := by
 rw [wrap_i64 (by omega) (by omega), show ((i : Int) - 1).toNat = i - 1 by omega]; exact gm f hp
theorem ahead_zero {α : Type} {lt : α → α → Bool} {xs : List α} {x : α} : ahead lt xs 0 x = true := rfl
theorem y9 {α : Type} {lt : α → α → Bool} {xs : List α} {i : Nat} {x p : α} (h0 : 0 < i) (hp : xs[i - 1]? = some p) : ahead lt xs i x = lt p x := by
 unfold ahead; rw [beq_false (by omega), cond_false, hp]
theorem vi {a b : Int} (h : a = b) : Value.int .i64 a = Value.int .i64 b := by rw [h]
theorem vb {a b : Bool} (h : a = b) : Value.bool a = Value.bool b := by rw [h]
theorem ci {a b : Int} (h : a = b) : Cell.s (.int .i64 a) = Cell.s (.int .i64 b) := by rw [h]
structure Vt where
 (b v : Int)
abbrev Vt.cs (x : Vt) : List Cell := [i64 x.b, i64 x.v]
def Vt.none : Vt := ⟨-1, 0⟩
def Vt.ok (x : Vt) : Bool := within x.b 0 1000 && within x.v 1 2
structure Slt where
 (c s p lb lv : Int)
 cast : List Vt
abbrev Slt.cs (x : Slt) : List Cell := [i64 x.c, i64 x.s, i64 x.p, i64 x.lb, i64 x.lv, .l (x.cast.map Vt.cs)]
def q14 (xs : List Vt) (i : Nat) : Int := match xs[i]? with
 | some x => if !x.ok then 3 else if ahead (fun p x => !(decide (x.b < p.b) || (x.b == p.b && x.v != p.v))) xs i x then 0 else 1
 | none => 0
def z3f (xs : List Vt) : Vt := (xs[xs.length - 1]?).getD Vt.none
def Slt.fault (x : Slt) : Int :=
 if !(within x.c 1 1000000000 && within x.s 0 2 && within x.p (-1) 1000) then 3
 else if 60 < x.cast.length then 2
 else if scan (q14 x.cast) x.cast.length ≠ 0 then scan (q14 x.cast) x.cast.length
 else if ¬ (x.lb = (z3f x.cast).b ∧ x.lv = (z3f x.cast).v) ∨ x.p < x.lb then 1 else 0
def Slt.lt (p x : Slt) : Bool := if p.c = x.c then decide (p.s < x.s) else decide (p.c < x.c)
def z3d (xs : List Slt) (i : Nat) : Int := match xs[i]? with
 | some x => if x.fault ≠ 0 then x.fault else if ahead Slt.lt xs i x then 0 else 1
 | none => 0
structure Acc where
 slots : List Slt
abbrev Acc.cs (x : Acc) : List Cell := [.l (x.slots.map Slt.cs)]
def Acc.fault (x : Acc) : Int := if 60 < x.slots.length then 2 else scan (z3d x.slots) x.slots.length
def z3h : List Int → Int → List Int
 | [], v => [v]
 | x :: xs, v => if x < v then x :: z3h xs v else if x = v then x :: xs else v :: x :: xs
def ym (c : Con) (s : Int) : List Leg := c.legs.filter fun l => l.s == s
structure Shd where
 idx : Int
 bals : List Bal
 votes : List Mk
 held : List Con
 done : List Mk
 app : List Int
abbrev Shd.cs (s : Shd) : List Cell := [i64 s.idx, .l (s.bals.map Bal.cs), .l (s.votes.map Mk.cs), .l (s.held.map Con.cs), .l (s.done.map Mk.cs), .l (ints s.app)]
theorem lcr {B B' : List (Nat × AB)} : ∀ {l : List Cell}, qab B B' (l.map .b) (l.map .b)
 | [] => trivial
 | _ :: l => ⟨rfl, lcr (l := l)⟩
def bsr (c : Nat → Bool) (i j : Nat) : Nat := if h : i < j then (if c ((i + j) / 2) then bsr c ((i + j) / 2 + 1) j else bsr c i ((i + j) / 2)) else i
termination_by j - i
theorem qa7 {c : Nat → Bool} {p n : Nat} (hc : ∀ k, k < n → c k = decide (k < p)) : ∀ (i j : Nat), i ≤ p → p ≤ j → j ≤ n → bsr c i j = p := by
 intro i j
 induction h : j - i using Nat.strongRecOn generalizing i j with
 | _ m ih =>
   intro h1 h2 h3
   rw [bsr]
   split
   · have hk := hc ((i + j) / 2) (by omega)
     split
     · rename_i ht
       rw [hk] at ht
       have ht : (i + j) / 2 < p := by simpa using ht
       exact ih (j - ((i + j) / 2 + 1)) (by omega) _ _ rfl (by omega) h2 h3
     · rename_i ht
       rw [hk] at ht
       have ht : ¬ (i + j) / 2 < p := by simpa using ht
       exact ih ((i + j) / 2 - i) (by omega) _ _ rfl h1 (by omega) (by omega)
   · omega
theorem half {i j : Nat} (hi : i ≤ 1048576) (hj : j ≤ 1048576) : IntKind.i64.wrap ((IntKind.u64.wrap (IntKind.i64.wrap ((i : Int) + j))).fdiv (2 ^ (min (1 : Int).toNat IntKind.u64.bits))) = (((i + j) / 2 : Nat) : Int) := by
 have e1 : IntKind.i64.wrap ((i : Int) + j) = (i : Int) + j := wrap_i64 (by omega) (by omega)
 have e2 : IntKind.u64.wrap ((i : Int) + j) = (i : Int) + j := by simp [IntKind.wrap, IntKind.signed, IntKind.bits]; omega
 have e3 : (2 : Int) ^ (min (1 : Int).toNat IntKind.u64.bits) = 2 := by decide
 rw [e1, e2, e3]
 have e4 : ((i : Int) + j).fdiv 2 = (((i + j) / 2 : Nat) : Int) := by rw [Int.fdiv_eq_ediv_of_nonneg _ (by omega)]; omega
 rw [e4]
 exact wrap_i64 (by omega) (by omega)
def q1a {α : Type} (p : α → Bool) : List α → Int
 | [] => -1
 | x :: l => if p x then 0 else if q1a p l < 0 then -1 else q1a p l + 1
theorem z04 {α : Type} {p : α → Bool} : ∀ {l : List α} {i : Nat} {x : α}, l[i]? = some x → (∀ (j : Nat) (y : α), j < i → l[j]? = some y → p y = false) → p x = true → q1a p l = i
 | y :: l, 0, x, h, _, hx => by simp at h; subst h; rw [q1a, if_pos hx]; rfl
 | y :: l, i + 1, x, h, h0, hx => by
   have ih := z04 (l := l) (by simpa using h) (fun j z hj hz => h0 (j + 1) z (by omega) (by simpa using hz)) hx
   rw [q1a, if_neg (by rw [h0 0 y (by omega) rfl]; decide), ih, if_neg (by omega)]
   omega
theorem zy {α : Type} {p : α → Bool} : ∀ {l : List α}, (∀ (j : Nat) (y : α), l[j]? = some y → p y = false) → q1a p l = -1
 | [], _ => rfl
 | y :: l, h => by
   rw [q1a, if_neg (by rw [h 0 y rfl]; decide), zy (l := l) (fun j z hz => h (j + 1) z (by simpa using hz))]
   rfl
theorem z0i {α : Type} {p : α → Bool} : ∀ {l : List α}, decide (q1a p l ≥ 0) = l.any p
 | [] => rfl
 | y :: l => by
   have ih := z0i (p := p) (l := l)
   rw [q1a, List.any_cons]
   by_cases h : p y = true
   · rw [if_pos h, h]; rfl
   · rw [if_neg h, show p y = false by simpa using h, Bool.false_or, ← ih]
     by_cases h2 : q1a p l < 0
     · rw [if_pos h2, show decide (q1a p l ≥ 0) = false by simp; omega]; rfl
     · rw [if_neg h2, show decide (q1a p l ≥ 0) = true by simp; omega]; simp; omega
def bsC {α : Type} (f : α → Int) (us : List α) (k : Nat) : Bool := match us[k]? with | some x => decide (f x < 0) | none => false
def bsP {α : Type} (f : α → Int) (us : List α) : Nat := bsr (bsC f us) 0 us.length
def bsF {α : Type} (f : α → Int) (us : List α) : Bool := match us[bsP f us]? with | some x => f x == 0 | none => false
def bsV {α : Type} (f : α → Int) (us : List α) : Res := .tup [.own false [.s (.int .i64 (bsP f us))], .own false [.s (.bool (bsF f us))]]
theorem z5z {c : Nat → Bool} {i j : Nat} (h : i < j) (hc : c ((i + j) / 2) = true) : bsr c i j = bsr c ((i + j) / 2 + 1) j := by rw [bsr, dif_pos h, if_pos hc]
theorem q5y {c : Nat → Bool} {i j : Nat} (h : i < j) (hc : c ((i + j) / 2) = false) : bsr c i j = bsr c i ((i + j) / 2) := by rw [bsr, dif_pos h, if_neg (by rw [hc]; decide)]
theorem z3w {c : Nat → Bool} {i j : Nat} (h : ¬ i < j) : bsr c i j = i := by rw [bsr, dif_neg h]
theorem q1x {α : Type} {f : α → Int} {us : List α} {k : Nat} {x : α} (h : us[k]? = some x) : bsC f us k = decide (f x < 0) := by unfold bsC; rw [h]
theorem z1y {α : Type} {f : α → Int} {us : List α} {k : Nat} {x : α} (hk : bsP f us = k) (h : us[k]? = some x) : bsF f us = (f x == 0) := by unfold bsF; rw [hk, h]
theorem y2p {α : Type} {f : α → Int} {us : List α} {k : Nat} (hk : bsP f us = k) (h : us.length ≤ k) : bsF f us = false := by unfold bsF; rw [hk, List.getElem?_eq_none h]
theorem y8c {i j : Nat} (hi : i ≤ 1048576) (hj : j ≤ 1048576) : 0 ≤ IntKind.i64.wrap ((IntKind.u64.wrap (IntKind.i64.wrap ((i : Int) + j))).fdiv (2 ^ (min (1 : Int).toNat IntKind.u64.bits))) := by rw [half hi hj]; exact Int.natCast_nonneg _
theorem q8c {α β : Type} {us : List α} {x : α} {i j : Nat} (f : α → β) (hi : i ≤ 1048576) (hj : j ≤ 1048576) (h : us[(i + j) / 2]? = some x) : (us.map f)[(IntKind.i64.wrap ((IntKind.u64.wrap (IntKind.i64.wrap ((i : Int) + j))).fdiv (2 ^ (min (1 : Int).toNat IntKind.u64.bits)))).toNat]? = some (f x) := by
 rw [half hi hj, Int.toNat_natCast]; exact gm f h
def z0c (p x : Bal) : Int := orr [y0c p.a x.a, y0c p.b x.b]
def q4g (us : List Bal) (a b : Int) : Int := bif bsF (fun x : Bal => z0c x ⟨a, b, 0⟩) us then (match us[bsP (fun x : Bal => z0c x ⟨a, b, 0⟩) us]? with | some x => x.v | none => 0) else 0
def z8h (us : List Bal) (l : Leg) : Int := if q4g us l.a l.b + l.v < 0 then 6 else if 1000000000000 < q4g us l.a l.b + l.v then 3 else 0
def y22 (us : List Mk) (c : Int) : Int := bif bsF (fun x : Mk => y0c x.c c) us then (match us[bsP (fun x : Mk => y0c x.c c) us]? with | some x => x.v | none => 0) else 0
theorem y26 {p x : Bal} (hp : p.bad = false) (hx : x.bad = false) : (0 ≤ z0c p x) ↔ ¬ p.key < x.key := by
 simp [Bal.bad, within] at hp hx
 unfold z0c y0c orr orr orr Bal.key
 split <;> split <;> (try split) <;> (try split) <;> omega
def z43 (hs : List Con) (c : Int) : Bool := hs.any fun x => x.id == c
def q58 (a b : List Leg) : Bool := a.any fun x => b.any fun y => x.a == y.a && x.b == y.b
theorem zu {α : Type} {p : α → Bool} {l : List α} {i : Nat} {x : α} (h : l[i]? = some x) (hx : p x = true) : true = l.any p := (List.any_eq_true.2 ⟨x, List.mem_of_getElem? h, hx⟩).symm
theorem any_none {α : Type} {p : α → Bool} {l : List α} (h : ∀ (j : Nat) (y : α), l[j]? = some y → p y = false) : false = l.any p := by
 rw [eq_comm, List.any_eq_false]
 intro x hx
 obtain ⟨j, hj⟩ := List.mem_iff_getElem?.1 hx
 rw [h j x hj]; decide
theorem q15 {α : Type} {p : α → Bool} {l : List α} {i : Nat} {x : α} (h : l[i]? = some x) : (l.take (i + 1)).filter p = (l.take i).filter p ++ (if p x then [x] else []) := by
 rw [List.take_add_one, h, List.filter_append]
 simp [List.filter_cons]
theorem y8x {α : Type} {f : α → Int} {us : List α} (h : us[bsP f us]? = none) : bsF f us = false := by unfold bsF; rw [h]
theorem q5a {us : List Bal} {a b : Int} (h : bsF (fun x : Bal => z0c x ⟨a, b, 0⟩) us = false) : 0 = q4g us a b := by unfold q4g; rw [h]; rfl
theorem z5x {us : List Bal} {a b : Int} {x : Bal} (h : bsF (fun x : Bal => z0c x ⟨a, b, 0⟩) us = true) (hq : us[bsP (fun x : Bal => z0c x ⟨a, b, 0⟩) us]? = some x) : x.v = q4g us a b := by unfold q4g; rw [h, hq]; rfl
theorem y46 {us : List Mk} {c : Int} (h : bsF (fun x : Mk => y0c x.c c) us = false) : 0 = y22 us c := by unfold y22; rw [h]; rfl
theorem y4u {us : List Mk} {c : Int} {x : Mk} (h : bsF (fun x : Mk => y0c x.c c) us = true) (hq : us[bsP (fun x : Mk => y0c x.c c) us]? = some x) : x.v = y22 us c := by unfold y22; rw [h, hq]; rfl
def y1a (l : List Leg) (a : Int) : Int := (l.map fun x => if x.b = a then x.v else 0).sum
def z1w (l : List Leg) : Bool := decide (y1a l 0 ≠ 0) || (decide (y1a l 1 ≠ 0) || decide (y1a l 2 ≠ 0))
def q3b (l : List Leg) (i : Nat) : Int := match l[i]? with | some x => if x.fault ≠ 0 then x.fault else if (l.take i).any (fun y => y.same x) then 7 else 0 | none => 0
def yo (c : Con) : Int := if within c.id 1 1000000000 then (if 2 ≤ c.legs.length ∧ c.legs.length ≤ 8 then (if scan (q3b c.legs) c.legs.length ≠ 0 then scan (q3b c.legs) c.legs.length else if z1w c.legs then 1 else 0) else 2) else 3
theorem z7v (l : List Leg) (x : Leg) (a : Int) : y1a (l ++ [x]) a = y1a l a + if x.b = a then x.v else 0 := by simp [y1a]
theorem z28 {l : List Leg} {i : Nat} {x : Leg} (h : l[i]? = some x) (a : Int) : y1a (l.take (i + 1)) a = y1a (l.take i) a + if x.b = a then x.v else 0 := by
 rw [List.take_add_one, h]; exact z7v _ _ _
def Leg.small (x : Leg) : Prop := -1000000000000 ≤ x.v ∧ x.v ≤ 1000000000000
theorem Leg.q0h {x : Leg} (h : x.fault = 0) : (0 ≤ x.s ∧ x.s ≤ 2) ∧ (0 ≤ x.a ∧ x.a ≤ 5) ∧ (0 ≤ x.b ∧ x.b ≤ 2) ∧ x.small ∧ x.v ≠ 0 := by
 unfold Leg.fault at h
 split at h
 · omega
 · rename_i hb
   split at h
   · omega
   · rename_i hv
     simp [Leg.bad, within] at hb
     unfold Leg.small
     omega
theorem z4d : ∀ (l : List Leg) (a : Int), (∀ x ∈ l, x.small) → -1000000000000 * (l.length : Int) ≤ y1a l a ∧ y1a l a ≤ 1000000000000 * (l.length : Int)
 | [], a, _ => by simp [y1a]
 | x :: l, a, h => by
   have h1 := z4d l a (fun y hy => h y (List.mem_cons_of_mem _ hy))
   have h2 := h x List.mem_cons_self
   unfold Leg.small at h2
   have e : y1a (x :: l) a = (if x.b = a then x.v else 0) + y1a l a := by simp [y1a]
   rw [e, List.length_cons]
   split <;> omega
theorem z55 : ∀ (l : List Leg) (a : Int), (∀ x ∈ l, x.b ≠ a) → y1a l a = 0
 | [], _, _ => rfl
 | x :: l, a, h => by
   have e : y1a (x :: l) a = (if x.b = a then x.v else 0) + y1a l a := by simp [y1a]
   rw [e, if_neg (h x List.mem_cons_self), z55 l a (fun y hy => h y (List.mem_cons_of_mem _ hy))]
   rfl
theorem y1i {l : List Leg} {i : Nat} (h : ∀ j, j < i → q3b l j = 0) : ∀ x ∈ l.take i, x.fault = 0 := fun x hx => by
 obtain ⟨j, hj⟩ := List.mem_iff_getElem?.1 hx
 rw [List.getElem?_take] at hj
 split at hj
 · rename_i hlt
   have := h j hlt
   simp only [q3b, hj] at this
   split at this
   · exact absurd this ‹_›
   · simp_all
 · cases hj
theorem q6t {l : List Leg} (h : ∀ a, y1a l a = 0) : z1w l = false := by simp [z1w, h]
theorem z3a {l : List Leg} (hf : ∀ x ∈ l, x.fault = 0) {a : Int} (h : y1a l a ≠ 0) : z1w l = true := by
 have : ∃ x ∈ l, x.b = a := by
  by_cases hx : ∃ x ∈ l, x.b = a
  · exact hx
  · exact absurd (z55 l a (fun x hm e => hx ⟨x, hm, e⟩)) h
 obtain ⟨x, hm, rfl⟩ := this
 have h0 := (Leg.q0h (hf x hm)).2.2.1
 have : x.b = 0 ∨ x.b = 1 ∨ x.b = 2 := by omega
 rcases this with e | e | e <;> rw [e] at h <;> simp [z1w, h]
def y4z (l : List Leg) : List (List Cell) := [[i64 (y1a l 0)], [i64 (y1a l 1)], [i64 (y1a l 2)]]
theorem q4z {l : List Leg} {b : Int} (h0 : 0 ≤ b) (h2 : b ≤ 2) : (y4z l)[b.toNat]? = some [i64 (y1a l b)] := by
 have : b = 0 ∨ b = 1 ∨ b = 2 := by omega
 rcases this with rfl | rfl | rfl <;> rfl
theorem q6r {l : List Leg} {i : Nat} {x : Leg} (hi : l[i]? = some x) (h0 : 0 ≤ x.b) (h2 : x.b ≤ 2) (hd : ∀ y ∈ l.take i, y.fault = 0) (hx : x.fault = 0) (hn : i ≤ 8) :
 (y4z (l.take i)).set x.b.toNat [i64 (IntKind.i64.wrap (y1a (l.take i) x.b + x.v))] = y4z (l.take (i + 1)) := by
 have hb := z4d (l.take i) x.b (fun y hy => (Leg.q0h (hd y hy)).2.2.2.1)
 have hs := (Leg.q0h hx).2.2.2.1
 unfold Leg.small at hs
 have hlen : (l.take i).length ≤ 8 := by rw [List.length_take]; omega
 rw [wrap_i64 (by omega) (by omega)]
 unfold y4z
 rw [z28 hi, z28 hi, z28 hi]
 have : x.b = 0 ∨ x.b = 1 ∨ x.b = 2 := by omega
 rcases this with e | e | e <;> rw [e] <;> simp
def SM (l : List Leg) (D : DataW Unit) : Prop := Maps.IsMap D ∧ ∀ a : Int, D.atKey (.int .i64 a) (.lit (.int .i64 0)) = .lit (.int .i64 (y1a l a))
theorem qa3 : SM [] (.map []) := ⟨Maps.isMap_empty, fun _ => rfl⟩
theorem q5i {k : IntKind} {a b : Int} (h : (DataW.lit (.int k a) : DataW Unit) = .lit (.int k b)) : a = b := by simpa using h
theorem z6z {l : List Leg} {i : Nat} {x : Leg} {D : DataW Unit} (h : SM (l.take i) D) (hx : x.fault = 0) (hd : ∀ y ∈ l.take i, y.fault = 0) (hn : i ≤ 8) {c : Int} (hc : D.atKey (.int .i64 x.b) (.lit (.int .i64 0)) = .lit (.int .i64 c)) :
 c = y1a (l.take i) x.b ∧ IntKind.i64.wrap (c + x.v) = y1a (l.take i) x.b + x.v := by
 have e : c = y1a (l.take i) x.b := q5i (hc.symm.trans (h.2 x.b))
 have b := z4d (l.take i) x.b (fun y hy => (Leg.q0h (hd y hy)).2.2.2.1)
 have hs := (Leg.q0h hx).2.2.2.1
 unfold Leg.small at hs
 have hlen : (l.take i).length ≤ 8 := by rw [List.length_take]; omega
 refine ⟨e, ?_⟩
 rw [e, wrap_i64 (by omega) (by omega)]
theorem y97 {l : List Leg} {i : Nat} {x : Leg} {D : DataW Unit} (h : SM (l.take i) D) (hi : l[i]? = some x) (hx : x.fault = 0) (hd : ∀ y ∈ l.take i, y.fault = 0) (hn : i ≤ 8) {c : Int} (hc : D.atKey (.int .i64 x.b) (.lit (.int .i64 0)) = .lit (.int .i64 c)) :
 SM (l.take (i + 1)) (D.put (.int .i64 x.b) (.lit (.int .i64 (IntKind.i64.wrap (c + x.v))))) := by
 refine ⟨h.1.put _ _, fun a => ?_⟩
 rw [z28 hi, (z6z h hx hd hn hc).2]
 by_cases ha : x.b = a
 · rw [if_pos ha, ← ha]
   exact Maps.atKey_put_same (k := .int .i64 x.b) h.1 trivial _ _
 · rw [if_neg ha, Maps.atKey_put_other (by intro e'; injection e' with _ e'; exact ha e'.symm), h.2 a]
   simp
theorem wfi {n : Int} (h1 : -9223372036854775808 ≤ n) (h2 : n ≤ 9223372036854775807) : (Lit.int .i64 n).wf = true := by
 simp [Lit.wf, IntKind.min, IntKind.max, IntKind.signed, IntKind.bits]; omega
theorem yae {l : List Leg} {left : Lit → Bool} {y c : Int} (h : ∀ a : Int, left (.int .i64 a) = false → y1a l a = 0) (hc : y1a l y = c) (h0 : c = 0) : ∀ a : Int, (left (.int .i64 a) && !(Lit.int .i64 a).sameKey (.int .i64 y)) = false → y1a l a = 0 := fun a ha => by
 by_cases e : a = y
 · subst e; rw [hc]; exact h0
 · refine h a ?_
   have h1 : (Lit.int IntKind.i64 a).sameKey (Lit.int IntKind.i64 y) = false := Maps.sameKey_ne (fun h => e (by injection h))
   simpa [h1] using ha
theorem z97 {l : List Leg} {D : DataW Unit} (h : SM l D) : ∀ a : Int, Maps.has D (.int .i64 a) = false → y1a l a = 0 := fun a ha => q5i ((h.2 a).symm.trans (Maps.atKey_of_not_has ha _))
theorem yas {l : List Leg} {D : DataW Unit} (h : SM l D) {y c : Int} (hat : ∀ zd, D.atKey (.int .i64 y) zd = .lit (.int .i64 c)) : y1a l y = c := q5i ((h.2 y).symm.trans (hat _))
def y6z {α : Type} (f : α → Int) (us : List α) : Prop := ∀ (i j : Nat) (x y : α), i < j → us[i]? = some x → us[j]? = some y → f y ≤ 0 → f x < 0
theorem q2p {α : Type} {f : α → Int} {us : List α} (hs : y6z f us) {i : Nat} {x : α} (hx : us[i]? = some x) (h0 : f x = 0) : bsP f us = i ∧ bsF f us = true := by
 have hi : i < us.length := (List.getElem?_eq_some_iff.1 hx).1
 have hp : bsP f us = i := qa7 (n := us.length) (fun k hk => by
  obtain ⟨y, hy⟩ := gx hk
  rw [q1x hy]
  rcases Nat.lt_trichotomy k i with h | h | h
  · have := hs k i y x h hy hx (by omega)
    rw [decide_eq_true this, decide_eq_true h]
  · subst h; rw [hx] at hy; cases hy; rw [decide_eq_false (by omega), decide_eq_false (by omega)]
  · have : ¬ f y < 0 := fun h1 => by have := hs i k x y h hx hy (by omega); omega
    rw [decide_eq_false this, decide_eq_false (by omega)]) 0 us.length (Nat.zero_le _) (Nat.le_of_lt hi) (Nat.le_refl _)
 refine ⟨hp, ?_⟩
 rw [z1y hp hx, h0]; rfl
theorem q3v {α : Type} {f : α → Int} {us : List α} (h : ∀ (i : Nat) (x : α), us[i]? = some x → f x ≠ 0) : bsF f us = false := by
 unfold bsF
 split
 · rename_i x hx; have := h _ x hx; simpa using this
 · rfl
theorem q1y {α : Type} {key : α → Int} {us : List α} (h : ∀ (j : Nat) (p x : α), us[j]? = some p → us[j + 1]? = some x → key p < key x) : ∀ (i j : Nat) (x y : α), i < j → us[i]? = some x → us[j]? = some y → key x < key y := by
 intro i j
 induction j with
 | zero => intro x y hij; omega
 | succ j ih =>
   intro x y hij hx hy
   have hj : j < us.length := by have := (List.getElem?_eq_some_iff.1 hy).1; omega
   obtain ⟨z, hz⟩ := gx hj
   have h1 := h j z y hz hy
   rcases Nat.lt_or_ge i j with h2 | h2
   · have := ih x z h2 hx hz; omega
   · have : i = j := by omega
     subst this; rw [hx] at hz; cases hz; exact h1
theorem y9c {a b : Int} : y0c a b ≤ 0 ↔ a ≤ b := by unfold y0c; split <;> (try split) <;> omega
theorem q9c {a b : Int} : y0c a b < 0 ↔ a < b := by unfold y0c; split <;> (try split) <;> omega
theorem z2a {a b : Int} : y0c a b = 0 ↔ a = b := by unfold y0c; split <;> (try split) <;> omega
theorem z18 {α : Type} {key : α → Int} {us : List α} (h : ∀ (i j : Nat) (x y : α), i < j → us[i]? = some x → us[j]? = some y → key x < key y) (c : Int) : y6z (fun x => y0c (key x) c) us := fun i j x y hij hx hy h0 => by
 have := h i j x y hij hx hy
 rw [y9c] at h0
 exact q9c.2 (by omega)
theorem z17 {us : List Mk} (h : yh us = 0) : ∀ (i j : Nat) (x y : Mk), i < j → us[i]? = some x → us[j]? = some y → x.c < y.c :=
 q1y (key := Mk.c) (fun j p x hp hx => by
  have hj := (List.getElem?_eq_some_iff.1 hx).1
  have := z00 h (j + 1) hj
  simp only [q21, hx] at this
  split at this
  · omega
  · split at this
    · rename_i ha
      rw [y9 (p := p) (by omega) (by simpa using hp)] at ha
      simpa using ha
    · omega)
theorem y13 {us : List Mk} (h : yh us = 0) (c : Int) : y22 us c = z0a us c := by
 by_cases hx : ∃ (i : Nat) (x : Mk), us[i]? = some x ∧ x.c = c
 · obtain ⟨i, x, hx, e⟩ := hx
   have hc := z17 h
   obtain ⟨h1, h2⟩ := q2p (z18 (key := Mk.c) hc c) hx (z2a.2 e)
   rw [← y4u h2 (by rw [h1]; exact hx)]
   exact (z1c hx (fun j y hj hy e' => by have := hc j i y x hj hy hx; omega) e).symm
 · have hn : ∀ (i : Nat) (x : Mk), us[i]? = some x → ¬ x.c = c := fun i x h1 h2 => hx ⟨i, x, h1, h2⟩
   rw [← y46 (q3v (f := fun x : Mk => y0c x.c c) (fun i x h1 => fun h2 => hn i x h1 (z2a.1 h2)))]
   exact (q1i hn).symm
theorem q29 {us : List Bal} (h : yk us = 0) : us.length ≤ 18 ∧ (∀ x ∈ us, x.bad = false) ∧ ∀ (i j : Nat) (x y : Bal), i < j → us[i]? = some x → us[j]? = some y → x.key < y.key := by
 unfold yk at h
 split at h
 · omega
 · rename_i hl
   refine ⟨by omega, fun x hx => ?_, q1y (key := Bal.key) (fun j p x hp hx => ?_)⟩
   · obtain ⟨j, hj⟩ := List.mem_iff_getElem?.1 hx
     exact y5b hj (z00 h j (List.getElem?_eq_some_iff.1 hj).1)
   · have hj := (List.getElem?_eq_some_iff.1 hx).1
     have := z00 h (j + 1) hj
     simp only [z2g, hx] at this
     split at this
     · omega
     · split at this
       · rename_i ha
         rw [y9 (p := p) (by omega) (by simpa using hp)] at ha
         simpa using ha
       · omega
theorem q4y {x : Bal} {a b : Int} : z0c x ⟨a, b, 0⟩ = 0 ↔ x.a = a ∧ x.b = b := by
 unfold z0c y0c orr orr orr
 dsimp only
 repeat' split
 all_goals omega
theorem z49 {x y t : Bal} (hx : x.bad = false) (hy : y.bad = false) (h : x.key < y.key) (h0 : z0c y t ≤ 0) : z0c x t < 0 := by
 simp [Bal.bad, within] at hx hy
 unfold Bal.key at h
 revert h0
 unfold z0c y0c orr orr orr
 intro h0
 repeat' split
 all_goals (repeat' split at h0)
 all_goals omega
theorem q5w {us : List Bal} (h : yk us = 0) (a b : Int) : q4g us a b = hasB us a b := by
 obtain ⟨_, hb, hc⟩ := q29 h
 by_cases hx : ∃ (i : Nat) (x : Bal), us[i]? = some x ∧ x.a = a ∧ x.b = b
 · obtain ⟨i, x, hx, e⟩ := hx
   have hs : y6z (fun x : Bal => z0c x ⟨a, b, 0⟩) us := fun i j x y hij h1 h2 h0 => z49 (hb x (List.mem_of_getElem? h1)) (hb y (List.mem_of_getElem? h2)) (hc i j x y hij h1 h2) h0
   obtain ⟨h1, h2⟩ := q2p hs hx (q4y.2 e)
   rw [← z5x h2 (by rw [h1]; exact hx)]
   exact (z41 hx (fun j y hj hy e' => by
    have h3 := hc j i y x hj hy hx
    have h4 : y.key = x.key := by unfold Bal.key; rw [e'.1, e'.2, e.1, e.2]
    omega) e).symm
 · have hn : ∀ (i : Nat) (x : Bal), us[i]? = some x → ¬ (x.a = a ∧ x.b = b) := fun i x h1 h2 => hx ⟨i, x, h1, h2⟩
   rw [← q5a (q3v (f := fun x : Bal => z0c x ⟨a, b, 0⟩) (fun i x h1 => fun h2 => hn i x h1 (q4y.1 h2)))]
   exact (z2z hn).symm
theorem z9f {us : List Bal} (h : ∀ x ∈ us, x.bad = false) (a b : Int) : 0 ≤ hasB us a b ∧ hasB us a b ≤ 1000000000000 := by
 induction us with
 | nil => simp [hasB]
 | cons y us ih =>
   rw [hasB]
   split
   · have := h y List.mem_cons_self
     simp [Bal.bad, within] at this
     omega
   · exact ih (fun x hx => h x (List.mem_cons_of_mem _ hx))
def y1n (mk : List Mk → Int → Int) (s : Shd) (i : Nat) : Int := match s.held[i]? with
 | some c => if yo c ≠ 0 then yo c else if (!(ahead (fun p x : Con => decide (p.id < x.id)) s.held i c)) || ((ym c s.idx).length == 0 || (mk s.votes c.id != 1 || mk s.done c.id != 0)) then 1 else 0
 | none => 0
def yq (mk : List Mk → Int → Int) (s : Shd) : Int := scan (y1n mk s) s.held.length
def q6p (s : Shd) (m : Mk) : Bool := m.v == 1 && (!(bsF (fun x : Con => y0c x.id m.c) s.held) && y22 s.done m.c == 0)
def q3g (s : Shd) (m : Mk) : Bool := m.v == 1 && (!(z43 s.held m.c) && z0a s.done m.c == 0)
def z6o (s : Shd) (a b : Con) : Bool := (ym a s.idx).any fun l => (ym b s.idx).any fun m => l.same m
def q1p (s : Shd) (i : Nat) : Int := match s.held[i]? with | some c => if (s.held.take i).any fun own => z6o s own c then 7 else 0 | none => 0
def z1d (s : Shd) (i : Nat) : Int := match s.held[i]? with | some c => if (s.held.take i).any fun own => q58 (ym c s.idx) (ym own s.idx) then 7 else 0 | none => 0
def q3m (us : List Bal) (ls : List Leg) (i : Nat) : Int := match ls[i]? with | some l => z8h us l | none => 0
def y1p (us : List Bal) (ls : List Leg) : Int := scan (q3m us ls) ls.length
def z6j (code : List Bal → List Leg → Int) (s : Shd) (i : Nat) : Int := match s.held[i]? with | some c => code s.bals (ym c s.idx) | none => 0
def q06 (meet : Shd → Nat → Int) (code : List Bal → List Leg → Int) (s : Shd) : Int := if scan (meet s) s.held.length ≠ 0 then scan (meet s) s.held.length else scan (z6j code s) s.held.length
theorem z15 {c : Con} (h : yo c = 0) : (1 ≤ c.id ∧ c.id ≤ 1000000000) ∧ (2 ≤ c.legs.length ∧ c.legs.length ≤ 8) ∧ ∀ l ∈ c.legs, l.fault = 0 := by
 unfold yo at h
 split at h
 · rename_i h1
   split at h
   · rename_i h2
     split at h
     · rename_i h3; exact absurd h h3
     · rename_i h3
       have h3 : scan (q3b c.legs) c.legs.length = 0 := by simpa using h3
       refine ⟨Go.Sx.within_iff.1 h1, h2, fun l hl => ?_⟩
       exact y1i (i := c.legs.length) (z00 h3) l (by rwa [List.take_length])
   · omega
 · omega
theorem z42 {mk : List Mk → Int → Int} {s : Shd} (h : yq mk s = 0) : ∀ c ∈ s.held, yo c = 0 := fun c hc => by
 obtain ⟨j, hj⟩ := List.mem_iff_getElem?.1 hc
 have := z00 h j (List.getElem?_eq_some_iff.1 hj).1
 simp only [y1n, hj] at this
 split at this
 · rename_i h1; exact absurd this h1
 · rename_i h1; simpa using h1
theorem z6k {mk : List Mk → Int → Int} {s : Shd} (h : yq mk s = 0) : ∀ (i j : Nat) (x y : Con), i < j → s.held[i]? = some x → s.held[j]? = some y → x.id < y.id :=
 q1y (key := Con.id) (fun j p x hp hx => by
  have hj := (List.getElem?_eq_some_iff.1 hx).1
  have := z00 h (j + 1) hj
  simp only [y1n, hx] at this
  split at this
  · rename_i h1; exact absurd this h1
  · split at this
    · omega
    · rename_i ha
      rw [y9 (p := p) (by omega) (by simpa using hp)] at ha
      simp at ha
      exact ha.1)
theorem z7d {s : Shd} (hb : yk s.bals = 0) {c : Con} (hc : yo c = 0) : ∀ l ∈ ym c s.idx, -9000000000000000000 ≤ hasB s.bals l.a l.b + l.v ∧ hasB s.bals l.a l.b + l.v ≤ 9000000000000000000 := fun l hl => by
 have h1 := z9f (q29 hb).2.1 l.a l.b
 have h2 := (Leg.q0h ((z15 hc).2.2 l (List.mem_filter.1 hl).1)).2.2.2.1
 unfold Leg.small at h2
 omega
theorem y8d {s : Shd} (hb : yk s.bals = 0) {c : Con} (hc : yo c = 0) : ∀ l ∈ ym c s.idx, -9000000000000000000 ≤ q4g s.bals l.a l.b + l.v ∧ q4g s.bals l.a l.b + l.v ≤ 9000000000000000000 := fun l hl => by
 rw [q5w hb]; exact z7d hb hc l hl
theorem z7i {us : List Bal} (h : yk us = 0) (ls : List Leg) : y1p us ls = q3f us ls := by
 unfold y1p q3f
 refine z14 (fun j hj _ => ?_)
 unfold q3m y6m
 cases ls[j]? with
 | some l => simp only [z8h, zap, q5w h]
 | none => rfl
theorem y4q {s : Shd} (hv : yh s.votes = 0) (hd : yh s.done = 0) : yq y22 s = yq z0a s := by
 unfold yq
 refine z14 (fun j hj _ => ?_)
 unfold y1n
 split
 · rw [y13 hv, y13 hd]
 · rfl
theorem z7f {s : Shd} {mk : List Mk → Int → Int} (h : yq mk s = 0) (c : Int) : bsF (fun x : Con => y0c x.id c) s.held = z43 s.held c := by
 by_cases hx : ∃ (i : Nat) (x : Con), s.held[i]? = some x ∧ x.id = c
 · obtain ⟨i, x, hx, e⟩ := hx
   rw [(q2p (z18 (key := Con.id) (z6k h) c) hx (z2a.2 e)).2]
   exact zu hx (by simp [e])
 · have hn : ∀ (i : Nat) (x : Con), s.held[i]? = some x → ¬ x.id = c := fun i x h1 h2 => hx ⟨i, x, h1, h2⟩
   rw [q3v (f := fun x : Con => y0c x.id c) (fun i x h1 h2 => hn i x h1 (z2a.1 h2))]
   exact any_none (fun i x h1 => by simpa using hn i x h1)
theorem y6o (s : Shd) (a b : Con) : z6o s a b = q58 (ym b s.idx) (ym a s.idx) := by
 unfold z6o q58
 rw [Bool.eq_iff_iff]
 simp only [List.any_eq_true]
 have hs : ∀ {c : Con} {l : Leg}, l ∈ ym c s.idx → l.s = s.idx := fun {c l} hl => by simpa using (List.mem_filter.1 hl).2
 constructor
 · rintro ⟨l, hl, m, hm, h⟩
   refine ⟨m, hm, l, hl, ?_⟩
   simp [Leg.same] at h ⊢
   omega
 · rintro ⟨m, hm, l, hl, h⟩
   refine ⟨l, hl, m, hm, ?_⟩
   have h1 := hs hl
   have h2 := hs hm
   simp [Leg.same] at h ⊢
   omega
theorem q5t {s : Shd} (h : yk s.bals = 0) : q06 q1p y1p s = q06 z1d q3f s := by
 have e1 : scan (q1p s) s.held.length = scan (z1d s) s.held.length := z14 (fun j _ _ => by
  unfold q1p z1d
  split
  · simp only [y6o]
  · rfl)
 have e2 : scan (z6j y1p s) s.held.length = scan (z6j q3f s) s.held.length := z14 (fun j _ _ => by
  unfold z6j
  split
  · exact z7i h _
  · rfl)
 unfold q06
 rw [e1, e2]
def q8w (s : Shd) (i : Nat) : Int := match s.app[i]? with | some a => if z0a s.done a != 1 || ((s.app.take i).any fun y => y == a) then 1 else 0 | none => 0
def y3d (us : List Mk) : Nat := (us.filter fun m => m.v == 1).length
theorem y6h {us : List Mk} {i : Nat} {x : Mk} (h : us[i]? = some x) : y3d (us.take (i + 1)) = y3d (us.take i) + (if x.v == 1 then 1 else 0) := by
 unfold y3d
 rw [q15 h, List.length_append]
 split <;> rfl
theorem y60 (us : List Mk) (i : Nat) : y3d (us.take i) ≤ i := by
 unfold y3d
 exact Nat.le_trans (List.length_filter_le _ _) (by rw [List.length_take]; omega)
def y5x (s : Shd) : Bool := scan (q8w s) s.app.length == 0 && y3d s.done == s.app.length
def many (s : Shd) : Bool := decide (100 < s.votes.length) || (decide (100 < s.held.length) || (decide (100 < s.done.length) || decide (100 < s.app.length)))
def q0y (s : Shd) : Int :=
 if yq z0a s ≠ 0 then yq z0a s else if s.votes.any (q3g s) then 1 else if y5x s then q06 z1d q3f s else 1
def qj (s : Shd) : Int :=
 if within s.idx 0 2 then (if yk s.bals ≠ 0 then yk s.bals else if many s then 2 else if yh s.votes ≠ 0 then yh s.votes else if yh s.done ≠ 0 then yh s.done else q0y s) else 3
def y1v (ok : Bool) (s : Shd) : Int :=
 if within s.idx 0 2 then (if yk s.bals ≠ 0 then yk s.bals else if many s then 2 else
  if orr [yh s.votes, yh s.done, yq y22 s] ≠ 0 then orr [yh s.votes, yh s.done, yq y22 s] else
  if s.votes.any (q6p s) || !ok then 1 else q06 q1p y1p s) else 3
theorem q4b (s : Shd) : y1v (y5x s) s = qj s := by
 unfold y1v qj q0y
 split
 · split
   · rfl
   · rename_i hb
     have hb : yk s.bals = 0 := by simpa using hb
     split
     · rfl
     · simp only [orr]
       by_cases hv : yh s.votes = 0
       · by_cases hd : yh s.done = 0
         · rw [y4q hv hd, q5t hb]
           by_cases hh : yq z0a s = 0
           · have : q6p s = q3g s := by
              funext m
              unfold q6p q3g
              rw [z7f hh, y13 hd]
             rw [this]
             simp only [hv, hd, hh]
             cases s.votes.any (q3g s) <;> cases y5x s <;> simp
           · simp [hv, hd, hh]
         · simp [hv, hd]
       · simp [hv]
 · rfl
theorem y9o (s : Shd) : decide (mx (mx (mx ((s.votes.map Mk.cs).length : Nat) ((s.held.map Con.cs).length : Nat)) ((s.done.map Mk.cs).length : Nat)) ((ints s.app).length : Nat) > 100) = many s := by
 unfold many
 simp only [List.length_map, ints]
 rw [Bool.eq_iff_iff]
 simp only [Bool.or_eq_true, decide_eq_true_eq]
 unfold mx
 repeat' split
 all_goals omega
theorem zb7 {a b c : Int} (h : (orr [a, b, c] != 0) = false) : a = 0 ∧ b = 0 ∧ c = 0 := by
 simp only [orr] at h
 by_cases ha : a = 0 <;> by_cases hb : b = 0 <;> by_cases hc : c = 0 <;> simp_all
theorem q68 {s : Shd} {c : Int} (e : c = yq z0a s) (h : c ≠ 0) : c = q0y s := by unfold q0y; rw [if_pos (by rw [← e]; exact h)]; exact e
theorem y8p {s : Shd} (h : yq z0a s = 0) (ho : true = s.votes.any (q3g s)) : 1 = q0y s := by unfold q0y; rw [if_neg (by rw [h]; decide), if_pos ho.symm]
theorem q8p {s : Shd} (h : yq z0a s = 0) (ho : false = s.votes.any (q3g s)) (ha : y5x s = false) : 1 = q0y s := by unfold q0y; rw [if_neg (by rw [h]; decide), if_neg (by rw [← ho]; decide), if_neg (by rw [ha]; decide)]
theorem z4c {s : Shd} {c : Int} (h : yq z0a s = 0) (ho : false = s.votes.any (q3g s)) (ha : y5x s = true) (e : c = q06 z1d q3f s) : c = q0y s := by unfold q0y; rw [if_neg (by rw [h]; decide), if_neg (by rw [← ho]; decide), if_pos ha]; exact e
theorem q6v {meet : Shd → Nat → Int} {code : List Bal → List Leg → Int} {s : Shd} {c : Int} (e : c = scan (meet s) s.held.length) (h : c ≠ 0) : c = q06 meet code s := by unfold q06; rw [if_pos (by rw [← e]; exact h)]; exact e
theorem y3s {meet : Shd → Nat → Int} {code : List Bal → List Leg → Int} {s : Shd} {c : Int} (h : scan (meet s) s.held.length = 0) (e : c = scan (z6j code s) s.held.length) : c = q06 meet code s := by unfold q06; rw [if_neg (by rw [h]; decide)]; exact e
theorem z8x {t : Bool} {v : Int} (h : ((if t = true then v else 3) != 0) = false) : t = true ∧ v = 0 := by
 cases t with
 | true => exact ⟨rfl, by simpa using h⟩
 | false => simp at h
theorem y52 {s : Shd} (h : ((if within s.idx 0 2 = true then yk s.bals else 3) != 0) = true) : (if within s.idx 0 2 = true then yk s.bals else 3) = qj s := by
 unfold qj
 split
 · rename_i hw; rw [if_pos hw] at h; rw [if_pos (by simpa using h)]
 · rfl
theorem q52 {s : Shd} {c : Int} (h : within s.idx 0 2 = true ∧ yk s.bals = 0) (e : c = if many s then 2 else if yh s.votes ≠ 0 then yh s.votes else if yh s.done ≠ 0 then yh s.done else q0y s) : c = qj s := by
 unfold qj; rw [if_pos h.1, if_neg (by rw [h.2]; decide)]; exact e
theorem q7l {xs : List Int} : ∀ {ys : List Int}, xs.Nodup → (∀ x ∈ xs, x ∈ ys) → ∃ zs, ys.Perm (xs ++ zs) := by
 induction xs with
 | nil => intro ys _ _; exact ⟨ys, List.Perm.refl _⟩
 | cons x xs ih =>
   intro ys hn hm
   obtain ⟨hx, hn⟩ := List.nodup_cons.1 hn
   obtain ⟨zs, hz⟩ := ih (ys := ys.erase x) hn (fun y hy => (List.mem_erase_of_ne (fun e => hx (by rw [← e]; exact hy))).2 (hm y (List.mem_cons_of_mem _ hy)))
   exact ⟨zs, (List.perm_cons_erase (hm x List.mem_cons_self)).trans (hz.cons x)⟩
def dnI (us : List Mk) : List Int := (us.filter fun m => m.v == 1).map Mk.c
theorem q89 {us : List Mk} {i : Nat} {x : Mk} (h : us[i]? = some x) : dnI (us.take (i + 1)) = if x.v == 1 then dnI (us.take i) ++ [x.c] else dnI (us.take i) := by
 unfold dnI
 rw [q15 h, List.map_append]
 split
 · rfl
 · simp
theorem y76 (us : List Mk) : (dnI us).length = y3d us := by unfold dnI y3d; rw [List.length_map]
theorem y1e {α : Type} {r : α → α → Prop} : ∀ {us : List α}, (∀ (i j : Nat) (x y : α), i < j → us[i]? = some x → us[j]? = some y → r x y) → us.Pairwise r
 | [], _ => List.Pairwise.nil
 | x :: us, h => List.Pairwise.cons (fun y hy => by
     obtain ⟨j, hj⟩ := List.mem_iff_getElem?.1 hy
     exact h 0 (j + 1) x y (by omega) rfl (by simpa using hj)) (y1e (us := us) (fun i j a b hij ha hb => h (i + 1) (j + 1) a b (by omega) (by simpa using ha) (by simpa using hb)))
theorem q8z {us : List Mk} (h : yh us = 0) : (dnI us).Pairwise (· < ·) := by
 unfold dnI
 rw [List.pairwise_map]
 exact (y1e (r := fun a b : Mk => a.c < b.c) (z17 h)).sublist List.filter_sublist
theorem y5l {us : List Int} (h : us.Pairwise (· < ·)) : us.Nodup := h.imp (fun h => by omega)
theorem z7k {us : List Mk} (h : yh us = 0) (c : Int) : c ∈ dnI us ↔ z0a us c = 1 := by
 unfold dnI
 rw [List.mem_map]
 constructor
 · rintro ⟨m, hm, rfl⟩
   obtain ⟨hm, hv⟩ := List.mem_filter.1 hm
   obtain ⟨i, hi⟩ := List.mem_iff_getElem?.1 hm
   rw [z1c hi (fun j y hj hy e => by have := z17 h j i y m hj hy hi; omega) rfl]
   simpa using hv
 · intro hc
   by_cases hx : ∃ (i : Nat) (x : Mk), us[i]? = some x ∧ x.c = c
   · obtain ⟨i, x, hx, e⟩ := hx
     have := z1c hx (fun j y hj hy e' => by have := z17 h j i y x hj hy hx; omega) e
     exact ⟨x, List.mem_filter.2 ⟨List.mem_of_getElem? hx, by simp; omega⟩, e⟩
   · have hn : ∀ (i : Nat) (x : Mk), us[i]? = some x → ¬ x.c = c := fun i x h1 h2 => hx ⟨i, x, h1, h2⟩
     rw [q1i hn] at hc; omega
theorem y7l : ∀ {us : List Int}, (∀ (i : Nat) (x : Int), us[i]? = some x → ¬ x ∈ us.take i) → us.Nodup := by
 intro us h
 exact y1e (fun i j x y hij hx hy e => h j y hy (by
  rw [← e]
  exact List.mem_iff_getElem?.2 ⟨i, by rw [List.getElem?_take_of_lt hij]; exact hx⟩))
theorem q85 {s : Shd} (h : yh s.done = 0) : y5x s = true ↔ (∀ x ∈ s.app, x ∈ dnI s.done) ∧ s.app.Nodup ∧ (dnI s.done).length = s.app.length := by
 unfold y5x
 rw [y76]
 simp only [Bool.and_eq_true, beq_iff_eq]
 rw [← and_assoc]
 refine and_congr_left (fun _ => ?_)
 constructor
 · intro h0
   have hz : ∀ (i : Nat) (x : Int), s.app[i]? = some x → z0a s.done x = 1 ∧ ¬ x ∈ s.app.take i := fun i x hx => by
    have := z00 h0 i (List.getElem?_eq_some_iff.1 hx).1
    simp only [q8w, hx] at this
    split at this
    · omega
    · rename_i h1
      simp at h1
      exact ⟨h1.1, h1.2⟩
   refine ⟨fun x hx => ?_, y7l fun i x hx => (hz i x hx).2⟩
   obtain ⟨i, hi⟩ := List.mem_iff_getElem?.1 hx
   exact (z7k h x).2 (hz i x hi).1
 · rintro ⟨h1, h2⟩
   refine qe (fun i hi => ?_)
   obtain ⟨x, hx⟩ := gx hi
   simp only [q8w, hx]
   rw [if_neg]
   have e := (z7k h x).1 (h1 x (List.mem_of_getElem? hx))
   have e2 : ¬ x ∈ s.app.take i := fun hm => by
    obtain ⟨j, hj⟩ := List.mem_iff_getElem?.1 hm
    have hji : j < i := by have := (List.getElem?_eq_some_iff.1 hj).1; rw [List.length_take] at this; omega
    rw [List.getElem?_take_of_lt hji] at hj
    obtain ⟨q1, q2⟩ := List.getElem?_eq_some_iff.1 hj
    obtain ⟨q3, q4⟩ := List.getElem?_eq_some_iff.1 hx
    have := (List.pairwise_iff_getElem.1 h2) j i q1 q3 hji
    exact this (by rw [q2, q4])
   simp [e]
   exact e2
def q0m (xs : List Int) : List Int := xs.mergeSort (fun a b => decide (a ≤ b))
theorem q6d {s : Shd} (h : yh s.done = 0) : (q0m s.app == dnI s.done) = y5x s := by
 rw [Bool.eq_iff_iff, q85 h, beq_iff_eq]
 unfold q0m
 have hp := List.mergeSort_perm s.app (fun a b : Int => decide (a ≤ b))
 constructor
 · intro e
   rw [e] at hp
   exact ⟨fun x hx => hp.symm.subset hx, hp.nodup_iff.1 (y5l (q8z h)), hp.length_eq⟩
 · rintro ⟨h1, h2, h3⟩
   obtain ⟨zs, hz⟩ := q7l h2 h1
   have hl := hz.length_eq
   rw [List.length_append] at hl
   have hz0 : zs = [] := List.eq_nil_of_length_eq_zero (by omega)
   subst hz0
   rw [List.append_nil] at hz
   refine List.Perm.eq_of_pairwise (le := fun a b : Int => decide (a ≤ b) = true) (fun a b _ _ h1 h2 => by simp at h1 h2; omega) (List.pairwise_mergeSort (fun a b c h1 h2 => by simp at h1 h2 ⊢; omega) (fun a b => by simp; omega) _) ((q8z h).imp (fun h => by simp; omega)) (hp.trans hz.symm)
structure Msg where
 (k to fr c s b v ob ov : Int)
abbrev Msg.cs (m : Msg) : List Cell := [i64 m.k, i64 m.to, i64 m.fr, i64 m.c, i64 m.s, i64 m.b, i64 m.v, i64 m.ob, i64 m.ov]
structure Tr where
 (c s b v : Int)
 fr : List Int
 olds : List Vt
abbrev Tr.cs (t : Tr) : List Cell := [i64 t.c, i64 t.s, i64 t.b, i64 t.v, .l (ints t.fr), .l (t.olds.map Vt.cs)]
structure Hd where
 (c s b v f : Int)
abbrev Hd.cs (h : Hd) : List Cell := [i64 h.c, i64 h.s, i64 h.b, i64 h.v, i64 h.f]
structure Ldr where
 n : Int
 tries : List Tr
 known : List Hd
abbrev Ldr.cs (l : Ldr) : List Cell := [i64 l.n, .l (l.tries.map Tr.cs), .l (l.known.map Hd.cs)]
structure Clu where
 cons : List Con
 shs : List Shd
 accs : List Acc
 ldrs : List Ldr
 msgs : List Msg
abbrev Clu.cs (c : Clu) : List Cell := [.l (c.cons.map Con.cs), .l (c.shs.map Shd.cs), .l (c.accs.map Acc.cs), .l (c.ldrs.map Ldr.cs), .l (c.msgs.map Msg.cs)]
instance instDecidableEqLeg : DecidableEq Leg := fun x y =>
 if h : x.s = y.s ∧ x.a = y.a ∧ x.b = y.b ∧ x.v = y.v then isTrue (by cases x; cases y; simp_all) else isFalse (fun e => h (by subst e; exact ⟨rfl, rfl, rfl, rfl⟩))
def zb5 (s : Shd) : Prop := s.bals.length ≤ 1048576 ∧ s.votes.length ≤ 1048576 ∧ s.held.length ≤ 1048576 ∧ s.done.length ≤ 1048576 ∧ s.app.length ≤ 1048576 ∧ ∀ c ∈ s.held, c.legs.length ≤ 1048576
def y6x (a : Acc) : Prop := a.slots.length ≤ 1048576 ∧ ∀ s ∈ a.slots, s.cast.length ≤ 1048576
def ya4 (t : Tr) : Prop := t.fr.length ≤ 1048576 ∧ t.olds.length ≤ 1048576
def q96 (l : Ldr) : Prop := l.tries.length ≤ 1048576 ∧ l.known.length ≤ 1048576 ∧ ∀ t ∈ l.tries, ya4 t
def q00 (c : Clu) : Prop := (c.cons.length ≤ 1048576 ∧ ∀ x ∈ c.cons, x.legs.length ≤ 1048576) ∧ (c.shs.length ≤ 1048576 ∧ ∀ s ∈ c.shs, zb5 s) ∧ (c.accs.length ≤ 1048576 ∧ ∀ a ∈ c.accs, y6x a) ∧ (c.ldrs.length ≤ 1048576 ∧ ∀ l ∈ c.ldrs, q96 l) ∧ c.msgs.length ≤ 1048576
def ya9 (c : Con) (s : Int) : Bool := c.legs.any fun l => l.s == s
def z03 (cs : List Con) (id : Int) : Option Con := cs.find? fun c => c.id == id
def z12 (cs : List Con) (id s : Int) : Bool := match z03 cs id with | some c => ya9 c s | none => false
theorem y0p {α : Type} {p : α → Bool} : ∀ {l : List α} {x : α}, l.find? p = some x → ∃ i : Nat, q1a p l = i ∧ l[i]? = some x
 | y :: l, x, h => by
   rw [List.find?_cons] at h
   by_cases hy : p y = true
   · rw [hy] at h; cases h; exact ⟨0, by rw [q1a, if_pos hy]; rfl, rfl⟩
   · rw [show p y = false by simpa using hy] at h
     obtain ⟨i, h1, h2⟩ := y0p h
     exact ⟨i + 1, by rw [q1a, if_neg hy, h1, if_neg (by omega)]; omega, by simpa using h2⟩
theorem q0z {α : Type} {p : α → Bool} : ∀ {l : List α}, l.find? p = none → q1a p l = -1
 | [], _ => rfl
 | y :: l, h => by
   rw [List.find?_cons] at h
   by_cases hy : p y = true
   · rw [hy] at h; cases h
   · rw [show p y = false by simpa using hy] at h
     rw [q1a, if_neg hy, q0z h]; rfl
theorem z6n (c : Con) (s : Int) : decide (0 < (ym c s).length) = ya9 c s := by
 unfold ym ya9
 rw [Bool.eq_iff_iff, decide_eq_true_eq, List.length_pos_iff_exists_mem, List.any_eq_true]
 simp only [List.mem_filter]
theorem y47 {x v : Int} : ∀ {l : List Int}, x ∈ z3h l v ↔ x = v ∨ x ∈ l
 | [] => by simp [z3h]
 | y :: l => by
   rw [z3h]
   split
   · rw [List.mem_cons, y47 (l := l), List.mem_cons]
     constructor
     · rintro (h | h | h) <;> simp [h]
     · rintro (h | h | h) <;> simp [h]
   · split
     · rename_i h; subst h; simp
     · simp
theorem q5m {v : Int} : ∀ {l : List Int} {i : Nat}, i ≤ l.length → (∀ (j : Nat) (x : Int), j < i → l[j]? = some x → x < v) → (∀ x, l[i]? = some x → ¬ x < v) → z3h l v = if l[i]? = some v then l else l.take i ++ v :: l.drop i
 | [], i, hi, _, _ => by
   have : i = 0 := by simpa using hi
   subst this; rfl
 | y :: l, 0, _, _, h1 => by
   have hy := h1 y rfl
   rw [z3h, if_neg hy]
   by_cases e : y = v
   · subst e; simp
   · rw [if_neg e, if_neg (by simpa using e)]; rfl
 | y :: l, i + 1, hi, h0, h1 => by
   have hy := h0 0 y (by omega) rfl
   rw [z3h, if_pos hy, q5m (l := l) (i := i) (by simpa using hi) (fun j x hj hx => h0 (j + 1) x (by omega) (by simpa using hx)) (fun x hx => h1 x (by simpa using hx))]
   simp only [List.getElem?_cons_succ]
   split
   · rfl
   · simp
theorem y7o {v : Int} : ∀ {l : List Int}, l.Pairwise (· < ·) → (z3h l v).Pairwise (· < ·)
 | [], _ => by simp [z3h]
 | x :: l, h => by
   obtain ⟨h1, h2⟩ := List.pairwise_cons.1 h
   rw [z3h]
   split
   · rename_i hx
     refine List.pairwise_cons.2 ⟨fun y hy => ?_, y7o h2⟩
     rcases y47.1 hy with rfl | hy
     · exact hx
     · exact h1 y hy
   · split
     · exact h
     · refine List.pairwise_cons.2 ⟨fun y hy => ?_, h⟩
       rcases List.mem_cons.1 hy with rfl | hy
       · omega
       · have := h1 y hy; omega
theorem y1s {l : List Int} {v : Int} {i : Nat} (hs : l.Pairwise (· < ·)) (h0 : ∀ (j : Nat) (x : Int), j < i → l[j]? = some x → x < v) (h1 : ∀ x, l[i]? = some x → ¬ x < v) : l.contains v = (l[i]? == some v) := by
 rw [Bool.eq_iff_iff, List.contains_iff_mem, beq_iff_eq]
 constructor
 · intro hm
   obtain ⟨j, hj⟩ := List.mem_iff_getElem?.1 hm
   rcases Nat.lt_trichotomy j i with h | h | h
   · have := h0 j v h hj; omega
   · subst h; exact hj
   · obtain ⟨hj1, hj2⟩ := List.getElem?_eq_some_iff.1 hj
     have hi : i < l.length := by omega
     have := (List.pairwise_iff_getElem.1 hs) i j hi hj1 h
     have := h1 l[i] (List.getElem?_eq_getElem hi)
     omega
 · exact fun h => List.mem_of_getElem? h
theorem z66 {v : Int} : ∀ {l : List Int}, l.Pairwise (· < ·) → l.contains v = true → z3h l v = l
 | [], _, h => by simp at h
 | x :: l, hs, h => by
   obtain ⟨h1, h2⟩ := List.pairwise_cons.1 hs
   rw [z3h]
   by_cases e : x = v
   · rw [if_neg (by omega), if_pos e]
   · have hm : v ∈ l := by
      rw [List.contains_iff_mem] at h
      rcases List.mem_cons.1 h with rfl | h
      · exact absurd rfl e
      · exact h
     rw [if_pos (h1 v hm), z66 h2 (by rw [List.contains_iff_mem]; exact hm)]
def shF (ls : List Leg) : List Int := ls.foldl (fun l x => z3h l x.s) []
theorem y68 {ls : List Leg} {i : Nat} {x : Leg} (h : ls[i]? = some x) : shF (ls.take (i + 1)) = z3h (shF (ls.take i)) x.s := by
 unfold shF
 rw [List.take_add_one, h, List.foldl_append]; rfl
theorem z32 {x : Int} : ∀ {ls : List Leg} {l : List Int}, x ∈ ls.foldl (fun l x => z3h l x.s) l ↔ x ∈ l ∨ ∃ y ∈ ls, y.s = x
 | [], l => by simp
 | y :: ls, l => by
   rw [List.foldl_cons, z32 (ls := ls), y47]
   constructor
   · rintro ((h | h) | ⟨z, h, e⟩)
     · exact .inr ⟨y, List.mem_cons_self, h.symm⟩
     · exact .inl h
     · exact .inr ⟨z, List.mem_cons_of_mem _ h, e⟩
   · rintro (h | ⟨z, h, e⟩)
     · exact .inl (.inr h)
     · rcases List.mem_cons.1 h with rfl | h
       · exact .inl (.inl e.symm)
       · exact .inr ⟨z, h, e⟩
theorem q9v (c : Con) (s : Int) : (shF c.legs).any (fun y => y == s) = ya9 c s := by
 unfold ya9 shF
 rw [Bool.eq_iff_iff, List.any_eq_true, List.any_eq_true]
 simp only [z32, List.not_mem_nil, false_or, beq_iff_eq]
 constructor
 · rintro ⟨x, ⟨y, h, e⟩, e2⟩; exact ⟨y, h, by rw [e, e2]⟩
 · rintro ⟨y, h, e⟩; exact ⟨s, ⟨y, h, e⟩, rfl⟩
theorem z8l {l : List Int} {v : Int} : (z3h l v).length ≤ l.length + 1 := by
 induction l with
 | nil => simp [z3h]
 | cons x l ih =>
   rw [z3h]
   split
   · simp; omega
   · split <;> simp
theorem y1h : ∀ (ls : List Leg) (i : Nat), (shF (ls.take i)).length ≤ i
 | ls, 0 => by simp [shF]
 | ls, i + 1 => by
   cases h : ls[i]? with
   | some x => rw [y68 h]; have := y1h ls i; have := z8l (l := shF (ls.take i)) (v := x.s); omega
   | none => rw [List.take_add_one, h]; simp; have := y1h ls i; omega
theorem z52 (ls : List Leg) : (shF ls).Pairwise (· < ·) := by
 unfold shF
 have : ∀ (ls : List Leg) (l : List Int), l.Pairwise (· < ·) → (ls.foldl (fun l x => z3h l x.s) l).Pairwise (· < ·) := by
  intro ls
  induction ls with
  | nil => intro l h; exact h
  | cons y ls ih => intro l h; exact ih _ (y7o h)
 exact this ls [] List.Pairwise.nil
def toN (c : Clu) (m : Msg) : Nat := if m.k = 1 ∨ m.k = 6 then c.shs.length else if m.k = 3 ∨ m.k = 5 then c.ldrs.length else c.accs.length
def frN (c : Clu) (m : Msg) : Nat := if m.k = 4 then c.ldrs.length else c.accs.length
def ends (c : Clu) (m : Msg) : Bool := within m.to 0 ((toN c m : Int) - 1) && (decide (m.k < 3) || decide (5 < m.k) || within m.fr 0 ((frN c m : Int) - 1))
def Msg.shd (m : Msg) : Int := if m.k = 1 ∨ m.k = 6 then m.to else m.s
def ranges (c : Clu) (m : Msg) : Bool := z12 c.cons m.c m.shd && (!(decide (2 ≤ m.k) && decide (m.k ≤ 5)) || within m.b 0 1000) && (!(m.k == 2 || m.k == 3 || m.k == 6) || within m.v 1 2) && (!(m.k == 5) || (m.ob == -1 && m.ov == 0) || (Vt.ok ⟨m.ob, m.ov⟩))
def Msg.bare (m : Msg) : Msg :=
 ⟨m.k, m.to, if 3 ≤ m.k ∧ m.k ≤ 5 then m.fr else 0, m.c, if 2 ≤ m.k ∧ m.k ≤ 5 then m.s else 0, if 2 ≤ m.k ∧ m.k ≤ 5 then m.b else 0, if m.k = 2 ∨ m.k = 3 ∨ m.k = 6 then m.v else 0, if m.k = 5 then m.ob else 0, if m.k = 5 then m.ov else 0⟩
def Msg.same (m n : Msg) : Bool := m.k == n.k && m.to == n.to && m.fr == n.fr && m.c == n.c && m.s == n.s && m.b == n.b && m.v == n.v && m.ob == n.ob && m.ov == n.ov
def y0i (c : Clu) (m : Msg) : Int :=
 if !(within m.k 1 6) then 5 else if !(ends c m) then 3 else if (z03 c.cons m.c).isNone then 4 else if !(ranges c m) then 3 else if !(m.same m.bare) then 1 else 0
def z8b (c : Clu) (x : Con) : Bool := x.legs.any fun l => !(within l.s 0 ((c.shs.length : Int) - 1))
def q0c (c : Clu) (i : Nat) : Int := match c.cons[i]? with
 | some x => if yo x ≠ 0 then yo x else if z8b c x then 4 else if ahead (fun p x : Con => decide (p.id < x.id)) c.cons i x then 0 else 1
 | none => 0
def Con.same (a b : Con) : Bool := a.id == b.id && decide (a.legs = b.legs)
def z2p (c : Clu) (h : Con) : Bool := match z03 c.cons h.id with | some x => !(x.same h) | none => true
def z8q (c : Clu) (i : Nat) (s : Shd) : Int :=
 if qj s ≠ 0 then qj s
 else if s.idx ≠ i then 1
 else if (s.votes.any fun m => !(z12 c.cons m.c i)) || (s.done.any fun m => !(z12 c.cons m.c i)) then 1
 else if s.held.any (z2p c) then 1 else 0
def q27 (c : Clu) (i : Nat) : Int := match c.shs[i]? with | some s => z8q c i s | none => 0
def q97 (c : Clu) (a : Acc) : Int := if a.fault ≠ 0 then a.fault else if a.slots.any (fun s => !(z12 c.cons s.c s.s)) then 4 else 0
def z2m (c : Clu) (i : Nat) : Int := match c.accs[i]? with | some a => q97 c a | none => 0
def y0s (fr : List Int) (j : Nat) : Int := match fr[j]? with | some x => if (fr.take j).any (fun y => y == x) then 7 else 0 | none => 0
def Tr.lt (p x : Tr) : Bool := if p.c = x.c then decide (p.s < x.s) else decide (p.c < x.c)
def z1t (c : Clu) (p : Int) : Bool := !(within p 0 ((c.accs.length : Int) - 1))
def z0r (v : Vt) : Bool := !(v.b == -1 && v.v == 0) && !v.ok
def z6w (c : Clu) (t : Tr) : Int := if t.fr.any (z1t c) || t.olds.any z0r then 3 else scan (y0s t.fr) t.fr.length
def z59 (c : Clu) (ts : List Tr) (i : Nat) (t : Tr) : Int :=
 if !(z12 c.cons t.c t.s) then 4
 else if !(within t.b 1 1000 && within t.v 0 2) then 3
 else if !(ahead Tr.lt ts i t) || t.fr.length != t.olds.length then 1
 else z6w c t
def y3c (c : Clu) (ts : List Tr) (i : Nat) : Int := match ts[i]? with | some t => z59 c ts i t | none => 0
def Hd.cmp (p x : Hd) : Int := orr [y0c p.c x.c, y0c p.s x.s, y0c p.b x.b, y0c p.v x.v, y0c p.f x.f]
def Hd.lt (p x : Hd) : Bool := decide (Hd.cmp p x < 0)
def hdF (c : Clu) (ks : List Hd) (i : Nat) : Int := match ks[i]? with
 | some h => if !(z12 c.cons h.c h.s) then 4 else if !(within h.b 0 1000 && within h.v 1 2 && within h.f 0 ((c.accs.length : Int) - 1)) then 3 else if ahead Hd.lt ks i h then 0 else 1
 | none => 0
def y7h (c : Clu) (l : Ldr) : Int :=
 if !(within l.n 0 400) then 3 else if 60 < l.tries.length ∨ 300 < l.known.length then 2 else orr [scan (y3c c l.tries) l.tries.length, scan (hdF c l.known) l.known.length]
def q2m (c : Clu) (i : Nat) : Int := match c.ldrs[i]? with | some l => y7h c l | none => 0
def z48 (c : Clu) (i : Nat) : Int := match c.msgs[i]? with | some m => y0i c m | none => 0
def y0z (c : Clu) : Bool := decide (20 < c.cons.length) || !(within c.shs.length 1 3) || !(within c.accs.length 1 5) || c.ldrs.length != 2 || decide (200 < c.msgs.length)
def qp (c : Clu) : Int := if y0z c then 2 else orr [scan (q0c c) c.cons.length, scan (q27 c) c.shs.length, scan (z2m c) c.accs.length, scan (q2m c) c.ldrs.length, scan (z48 c) c.msgs.length]
theorem y2e {ls : List Leg} {x : Int} : x ∈ shF ls ↔ ∃ y ∈ ls, y.s = x := by
 unfold shF
 rw [z32]
 simp
theorem y2s {ls : List Leg} (h : 0 < ls.length) : ∃ y, (shF ls)[(shF ls).length - 1]? = some y ∧ 0 < (shF ls).length ∧ (∃ l ∈ ls, l.s = y) ∧ ∀ l ∈ ls, l.s ≤ y := by
 obtain ⟨l0, hl0⟩ := gx h
 have hm : l0.s ∈ shF ls := y2e.2 ⟨l0, List.mem_of_getElem? hl0, rfl⟩
 have hp : 0 < (shF ls).length := List.length_pos_of_mem hm
 obtain ⟨y, hy⟩ := gx (xs := shF ls) (i := (shF ls).length - 1) (by omega)
 refine ⟨y, hy, hp, y2e.1 (List.mem_of_getElem? hy), fun l hl => ?_⟩
 obtain ⟨j, hj⟩ := List.mem_iff_getElem?.1 (y2e.2 ⟨l, hl, rfl⟩)
 obtain ⟨hj1, hj2⟩ := List.getElem?_eq_some_iff.1 hj
 obtain ⟨hy1, hy2⟩ := List.getElem?_eq_some_iff.1 hy
 rcases Nat.lt_or_ge j ((shF ls).length - 1) with h1 | h1
 · have := (List.pairwise_iff_getElem.1 (z52 ls)) j ((shF ls).length - 1) hj1 hy1 h1
   rw [hj2, hy2] at this
   omega
 · have e : j = (shF ls).length - 1 := by omega
   subst e
   rw [hj] at hy
   cases hy
   exact Int.le_refl _
theorem y8g {ls : List Leg} {y n : Int} (h0 : ∀ l ∈ ls, 0 ≤ l.s) (e : ∃ l ∈ ls, l.s = y) (hm : ∀ l ∈ ls, l.s ≤ y) : decide (y ≥ n) = ls.any fun l => !(within l.s 0 (n - 1)) := by
 rw [Bool.eq_iff_iff, decide_eq_true_eq, List.any_eq_true]
 constructor
 · intro h
   obtain ⟨l, hl, e⟩ := e
   exact ⟨l, hl, by simp [within]; omega⟩
 · rintro ⟨l, hl, h⟩
   have h1 := h0 l hl
   have h2 := hm l hl
   simp [within] at h
   omega
theorem y8z {x : Con} (h : yo x = 0) : ∀ l ∈ x.legs, 0 ≤ l.s := fun l hl => by
 have := (z15 h).2.2 l hl
 have h1 := (Leg.q0h this).1
 omega
theorem q0o {x : Con} (h : yo x = 0) : 0 < x.legs.length ∧ x.legs.length ≤ 8 := by
 have := (z15 h).2.1
 omega
def q6l (x : Con) : Int := ((shF x.legs)[(shF x.legs).length - 1]?).getD 0
theorem q4t {x : Con} (h : yo x = 0) : (ints (shF x.legs))[(IntKind.i64.wrap (((ints (shF x.legs)).length : Int) - 1)).toNat]? = some [i64 (q6l x)] := by
 obtain ⟨y, hy, hp, _⟩ := y2s (q0o h).1
 have hl := y1h x.legs x.legs.length
 rw [List.take_length] at hl
 have := (q0o h).2
 rw [show (ints (shF x.legs)).length = (shF x.legs).length by simp]
 unfold q6l
 rw [hy]
 exact q11 (fun n => [i64 n]) hp (by omega) hy
theorem z7h {x : Con} (h : yo x = 0) : 0 ≤ IntKind.i64.wrap (((ints (shF x.legs)).length : Int) - 1) := by
 obtain ⟨y, hy, hp, _⟩ := y2s (q0o h).1
 have hl := y1h x.legs x.legs.length
 rw [List.take_length] at hl
 have := (q0o h).2
 rw [show (ints (shF x.legs)).length = (shF x.legs).length by simp]
 exact z0k hp (by omega)
theorem q7g {x : Con} (h : yo x = 0) (c : Clu) : z8b c x = decide ((c.shs.length : Int) ≤ q6l x) := by
 unfold z8b
 obtain ⟨y, hy, hp, e, hm⟩ := y2s (q0o h).1
 rw [← y8g (y8z h) (y := q6l x) (by unfold q6l; rw [hy]; exact e) (by unfold q6l; rw [hy]; exact hm)]
theorem q2s {s : Shd} (h : qj s = 0) : ∀ x ∈ s.held, yo x = 0 := by
 have : yq z0a s = 0 := by
  unfold qj q0y at h
  repeat' split at h
  all_goals first | omega | (simp_all; done)
 exact z42 this
theorem y4c {c : Clu} {i : Nat} {s : Shd} (h : qj s = 0) (hi : s.idx = i) : z8q c i s = if (s.votes.any fun m => !(z12 c.cons m.c i)) || (s.done.any fun m => !(z12 c.cons m.c i)) then 1 else if s.held.any (z2p c) then 1 else 0 := by
 unfold z8q
 rw [if_neg (by simpa using h), if_neg (by simpa using hi)]
end Go.Sx
end
section
namespace Go.Sx
open Go.Lib
theorem q7i : ∀ {xs ys : List Int}, xs.Pairwise (· < ·) → ys.Pairwise (· < ·) → (∀ x, x ∈ xs ↔ x ∈ ys) → xs = ys
 | [], [], _, _, _ => rfl
 | [], y :: ys, _, _, h => by have := (h y).2 (by simp); simp at this
 | x :: xs, [], _, _, h => by have := (h x).1 (by simp); simp at this
 | x :: xs, y :: ys, hx, hy, h => by
   obtain ⟨hx1, hx2⟩ := List.pairwise_cons.1 hx
   obtain ⟨hy1, hy2⟩ := List.pairwise_cons.1 hy
   have e : x = y := by
    rcases List.mem_cons.1 ((h x).1 (by simp)) with e | m
    · exact e
    · rcases List.mem_cons.1 ((h y).2 (by simp)) with e | m'
      · exact e.symm
      · have h1 := hy1 x m
        have h2 := hx1 y m'
        omega
   subst e
   rw [q7i hx2 hy2 fun z => ⟨fun hz => ?_, fun hz => ?_⟩]
   · rcases List.mem_cons.1 ((h z).1 (List.mem_cons_of_mem _ hz)) with e | m
     · have h1 := hx1 z hz
       omega
     · exact m
   · rcases List.mem_cons.1 ((h z).2 (List.mem_cons_of_mem _ hz)) with e | m
     · have h1 := hy1 z hz
       omega
     · exact m
theorem q4s (d : Array Int) : ∀ j, ∃ i, i ≤ j ∧ keeps d i = true ∧ d[i]! = d[j]!
 | 0 => ⟨0, Nat.le_refl _, by simp [keeps], rfl⟩
 | j + 1 => by
   by_cases h : keeps d (j + 1) = true
   · exact ⟨j + 1, Nat.le_refl _, h, rfl⟩
   · have h : d[j + 1]! = d[j]! := by simpa [keeps] using h
     obtain ⟨i, h1, h2, h3⟩ := q4s d j
     exact ⟨i, by omega, h2, by rw [h3, h]⟩
theorem y5k {zs : List Int} {x : Int} : x ∈ compact zs ↔ x ∈ zs := by
 unfold compact compactUpTo
 simp only [List.mem_map, List.mem_filter, List.mem_range]
 constructor
 · rintro ⟨j, ⟨hj, _⟩, rfl⟩
   simp [hj]
 · intro h
   obtain ⟨j, hj⟩ := List.mem_iff_getElem?.1 h
   obtain ⟨hj1, hj2⟩ := List.getElem?_eq_some_iff.1 hj
   obtain ⟨i, h1, h2, h3⟩ := q4s zs.toArray j
   exact ⟨i, ⟨by omega, h2⟩, by rw [h3]; simp [hj1, hj2]⟩
theorem y6g {zs : List Int} (hs : zs.Pairwise (· ≤ ·)) : (compact zs).Pairwise (· < ·) := by
 unfold compact compactUpTo
 rw [List.pairwise_map, List.pairwise_filter, List.pairwise_iff_getElem]
 intro i j hi hj hij _ h2
 have hi : i < zs.length := by simpa using hi
 have hj : j < zs.length := by simpa using hj
 simp only [List.getElem_range] at *
 have hle : ∀ a b : Nat, a < b → b < zs.length → zs[a]! ≤ zs[b]! := fun a b hab hb => by
  have := (List.pairwise_iff_getElem.1 hs) a b (by omega) hb hab
  simp only [getElem!_pos zs a (by omega), getElem!_pos zs b hb]
  exact this
 have e : ∀ k, k < zs.length → zs.toArray[k]! = zs[k]! := fun k hk => by
  rw [getElem!_pos zs.toArray k (by simpa using hk), getElem!_pos zs k hk]; simp
 have h2 : ¬ zs[j]! = zs[j - 1]! := by
  have : j ≠ 0 := by omega
  rw [← e j hj, ← e (j - 1) (by omega)]
  simpa [keeps, this] using h2
 rw [e i hi, e j hj]
 have h4 : zs[j - 1]! ≤ zs[j]! := hle (j - 1) j (by omega) hj
 rcases Nat.lt_or_ge i (j - 1) with h | h
 · have h3 : zs[i]! ≤ zs[j - 1]! := hle i (j - 1) h (by omega)
   omega
 · have : i = j - 1 := by omega
   subst this
   omega
theorem q6f (zs : List Int) : (compact zs).length ≤ zs.length := by
 unfold compact compactUpTo
 rw [List.length_map]
 exact Nat.le_trans (List.length_filter_le _ _) (by simp)
theorem q8i (xs : List Int) : (q0m xs).Pairwise (· ≤ ·) := by
 have h := List.pairwise_mergeSort (le := fun a b : Int => decide (a ≤ b)) (fun a b c h1 h2 => by simp at *; omega) (fun a b => by simp; omega) xs
 exact h.imp (fun h => by simpa using h)
theorem y7k {xs : List Int} {x : Int} : x ∈ q0m xs ↔ x ∈ xs := (List.mergeSort_perm xs _).mem_iff
theorem zah (ls : List Leg) : compact (q0m (ls.map (·.s))) = shF ls :=
 q7i (y6g (q8i _)) (z52 ls) fun x => by
  rw [y5k, y7k, List.mem_map, y2e]
end Go.Sx
end
section
namespace Go.Sx
theorem y7n : ∀ {l : List Int}, orr l = 0 → ∀ x ∈ l, x = 0
 | [], _, x, hx => by cases hx
 | y :: l, h, x, hx => by
   rw [orr] at h
   split at h
   · rename_i h1; exact absurd h h1
   · rename_i h1
     rcases List.mem_cons.1 hx with rfl | hx
     · simpa using h1
     · exact y7n h x hx
theorem z4l {c : Clu} (h : qp c = 0) : y0z c = false ∧ (∀ i, i < c.cons.length → q0c c i = 0) ∧ (∀ i, i < c.shs.length → q27 c i = 0) ∧ (∀ i, i < c.accs.length → z2m c i = 0) ∧ (∀ i, i < c.ldrs.length → q2m c i = 0) ∧ ∀ i, i < c.msgs.length → z48 c i = 0 := by
 unfold qp at h
 split at h
 · omega
 · rename_i hm
   have ha := y7n h
   exact ⟨by simpa using hm, fun i hi => z00 (ha _ (by simp)) i hi, fun i hi => z00 (ha _ (by simp)) i hi, fun i hi => z00 (ha _ (by simp)) i hi, fun i hi => z00 (ha _ (by simp)) i hi, fun i hi => z00 (ha _ (by simp)) i hi⟩
theorem q5c {c : Clu} (h : qp c = 0) {i : Nat} {x : Con} (hx : c.cons[i]? = some x) : yo x = 0 ∧ z8b c x = false ∧ ahead (fun p x : Con => decide (p.id < x.id)) c.cons i x = true := by
 have := (z4l h).2.1 i (List.getElem?_eq_some_iff.1 hx).1
 simp only [q0c, hx] at this
 split at this
 · rename_i h1; exact absurd this h1
 · rename_i h1
   split at this
   · omega
   · rename_i h2
     split at this
     · rename_i h3; exact ⟨by simpa using h1, by simpa using h2, h3⟩
     · omega
theorem z07 {c : Clu} (h : qp c = 0) {x : Con} (hx : x ∈ c.cons) : yo x = 0 ∧ z8b c x = false := by
 obtain ⟨i, hi⟩ := List.mem_iff_getElem?.1 hx
 exact ⟨(q5c h hi).1, (q5c h hi).2.1⟩
theorem q4k {c : Clu} (h : qp c = 0) : ∀ (i j : Nat) (x y : Con), i < j → c.cons[i]? = some x → c.cons[j]? = some y → x.id < y.id :=
 q1y (key := Con.id) fun j p x hp hx => by
  have ha := (q5c h hx).2.2
  rw [y9 (p := p) (by omega) (by simpa using hp)] at ha
  simpa using ha
theorem z1b {cs : List Con} {id : Int} {x : Con} (h : z03 cs id = some x) : x ∈ cs ∧ x.id = id := by
 unfold z03 at h
 exact ⟨List.mem_of_find?_eq_some h, by have := List.find?_some h; simpa using this⟩
theorem q3w {c : Clu} (h : qp c = 0) {i : Nat} {s : Shd} (hs : c.shs[i]? = some s) : qj s = 0 ∧ s.idx = i ∧ (∀ m ∈ s.votes, z12 c.cons m.c i = true) ∧ (∀ m ∈ s.done, z12 c.cons m.c i = true) ∧ ∀ x ∈ s.held, z2p c x = false := by
 have := (z4l h).2.2.1 i (List.getElem?_eq_some_iff.1 hs).1
 simp only [q27, hs, z8q] at this
 split at this
 · rename_i h1; exact absurd this h1
 · rename_i h1
   split at this
   · omega
   · rename_i h2
     split at this
     · omega
     · rename_i h3
       split at this
       · omega
       · rename_i h4
         simp only [Bool.or_eq_true, not_or, Bool.not_eq_true, List.any_eq_false, Bool.not_eq_eq_eq_not, Bool.not_false, Bool.not_true] at h3
         exact ⟨by simpa using h1, by simpa using h2, fun m hm => by simpa using h3.1 m hm, fun m hm => by simpa using h3.2 m hm, fun x hx => by simpa using (by simpa using h4 : ∀ x ∈ s.held, z2p c x = false) x hx⟩
theorem z53 {s : Shd} (h : qj s = 0) : yh s.votes = 0 ∧ yh s.done = 0 := by
 unfold qj q0y at h
 repeat' split at h
 all_goals first | omega | (simp_all; done)
theorem z91 {c : Clu} {x : Con} (h : z8b c x = false) {s : Int} (hs : s ∈ shF x.legs) : 0 ≤ s ∧ s < c.shs.length := by
 obtain ⟨l, hl, rfl⟩ := y2e.1 hs
 unfold z8b at h
 rw [List.any_eq_false] at h
 have := h l hl
 simp only [Bool.not_eq_true', Bool.not_eq_false] at this
 have := within_iff.1 this
 omega
def q8o (c : Clu) (x : Con) (s : Int) : Bool := match c.shs[s.toNat]? with | some sh => !(z0a sh.done x.id == 0) | none => false
def settled (c : Clu) (x : Con) : Bool := (shF x.legs).all (q8o c x)
def q0r (c : Clu) (id : Int) : Bool := match z03 c.cons id with | some x => settled c x | none => false
theorem q3q {c : Clu} {x : Con} {s : Int} {i : Nat} (hs : (shF x.legs)[i]? = some s) (h : q8o c x s = false) : settled c x = false := by
 unfold settled
 rw [List.all_eq_false]
 exact ⟨s, List.mem_of_getElem? hs, by simp [h]⟩
theorem z37 {c : Clu} {x : Con} (h : ∀ (j : Nat) (y : Int), j < (shF x.legs).length → (shF x.legs)[j]? = some y → (!(q8o c x y)) = false) : settled c x = true := by
 unfold settled
 rw [List.all_eq_true]
 intro y hy
 obtain ⟨j, hj⟩ := List.mem_iff_getElem?.1 hy
 simpa using h j y (List.getElem?_eq_some_iff.1 hj).1 hj
theorem q8h {N : Nat} {e : Sh} {rows : List (List Cell)} (hw : WR N e rows) : y00 (cnt e) rows ≤ wid e * rows.length + q3n e * y00 (tot e) rows :=
 y2a fun row hr => y74 (hw.2 row hr)
theorem z8i {N : Nat} {e : Sh} {rows : List (List Cell)} (hw : WR N e rows) (hs : y00 (cnt e) rows ≤ 1000000000000000000) :
 0 ≤ (mkR (mk e) rows 1).2 ∧ ∀ (k0 : IntKind) (c : Cell), ng (ht (.i k0 (.l e .nil)) [c, .l (mkR (mk e) rows 1).1] 1) = (mkR (mk e) rows 1).2 := by
 obtain ⟨h1, h2⟩ := q47 (f := mk e) (g := hd e) (c := cnt e) (rows := rows) (fun row hr k h1 h2 => z5l (hw.2 row hr) k h1 h2) 1 (by omega) (by omega)
 refine ⟨by omega, fun k0 c => ?_⟩
 simp only [ht, h1, h2]
 have : ng (some (1 + (y00 (cnt e) rows : Int))) = 1 + y00 (cnt e) rows := rfl
 rw [this, q9q (by omega)]
 rfl
instance instDecidableEqVt : DecidableEq Vt := fun x y =>
 if h : x.b = y.b ∧ x.v = y.v then isTrue (by cases x; cases y; simp_all) else isFalse (fun e => h (by subst e; exact ⟨rfl, rfl⟩))
def voteAt (c : Clu) (x : Con) (s : Int) : Int := match c.shs[s.toNat]? with | some sh => z0a sh.votes x.id | none => 0
def z90 (c : Clu) (x : Con) (s : Int) : Int := match c.shs[s.toNat]? with | some sh => z0a sh.done x.id | none => 0
theorem y88 {c : Clu} (hc : qp c = 0) {x : Con} (hx : x ∈ c.cons) : z03 c.cons x.id = some x := by
 cases h : z03 c.cons x.id with
 | none =>
   unfold z03 at h
   rw [List.find?_eq_none] at h
   exact absurd (by simp) (h x hx)
 | some y =>
   have hy := z1b h
   obtain ⟨i, hi⟩ := List.mem_iff_getElem?.1 hx
   obtain ⟨j, hj⟩ := List.mem_iff_getElem?.1 hy.1
   rcases Nat.lt_trichotomy i j with h1 | h1 | h1
   · have := q4k hc i j x y h1 hi hj; omega
   · subst h1; rw [hi] at hj; cases hj; rfl
   · have := q4k hc j i y x h1 hj hi; omega
structure Ses where
 (cl nx : Int)
 sent : List Int
abbrev Ses.cs (s : Ses) : List Cell := [i64 s.cl, i64 s.nx, .l (ints s.sent)]
def q50 (us : List Int) : Bool := us == (List.range us.length).map fun i : Nat => ((i : Nat) : Int) + 1
def z1o (s : Ses) : Bool := q50 s.sent && ((s.sent.length : Int) == s.nx - 1)
def q67 (xs : List Ses) (i : Nat) : Int := match xs[i]? with
 | some s => if !(within s.cl 1 999 && within s.nx 1 1000) then 3 else if ahead (fun p x : Ses => decide (p.cl < x.cl)) xs i s && z1o s then 0 else 1
 | none => 0
def y06 (xs : List Ses) : Int := if 10 < xs.length then 2 else scan (q67 xs) xs.length
theorem q4a {us : List Int} (h : q50 us = true) {i : Nat} {n : Int} (hn : us[i]? = some n) : n = i + 1 := by
 unfold q50 at h
 have h := eq_of_beq h
 rw [h, List.getElem?_map] at hn
 rcases hr : (List.range us.length)[i]? with _ | j
 · rw [hr] at hn; cases hn
 · rw [hr] at hn
   have := List.getElem?_eq_some_iff.1 hr
   obtain ⟨h1, h2⟩ := this
   simp at h2 hn
   omega
theorem z4b {us : List Int} {i : Nat} {n : Int} (hn : us[i]? = some n) (h : n ≠ (i : Int) + 1) : q50 us = false := by
 cases hs : q50 us with
 | false => rfl
 | true => exact absurd (q4a hs hn) h
theorem q36 {us : List Int} (h : ∀ (i : Nat) (n : Int), i < us.length → us[i]? = some n → n = (i : Int) + 1) : q50 us = true := by
 unfold q50
 rw [beq_iff_eq]
 apply List.ext_getElem?
 intro i
 by_cases hi : i < us.length
 · obtain ⟨n, hn⟩ := gx hi
   rw [hn, h i n hi hn, List.getElem?_map, List.getElem?_range hi]
   rfl
 · rw [List.getElem?_eq_none (by omega), List.getElem?_eq_none (by simp; omega)]
theorem z7s {us : List Int} (h : q50 us = true) (n : Int) : n ∈ us ↔ 1 ≤ n ∧ n ≤ us.length := by
 constructor
 · intro hm
   obtain ⟨i, hi⟩ := List.mem_iff_getElem?.1 hm
   have h1 := q4a h hi
   have h2 := (List.getElem?_eq_some_iff.1 hi).1
   omega
 · rintro ⟨h1, h2⟩
   obtain ⟨m, hm⟩ := gx (xs := us) (i := (n - 1).toNat) (by omega)
   have h3 := q4a h hm
   have e : m = n := by omega
   subst e
   exact List.mem_of_getElem? hm
theorem z94 {xs : List Ses} (h : y06 xs = 0) : xs.length ≤ 10 ∧ (∀ s ∈ xs, (1 ≤ s.cl ∧ s.cl ≤ 999) ∧ (1 ≤ s.nx ∧ s.nx ≤ 1000) ∧ z1o s = true) ∧ ∀ (i j : Nat) (x y : Ses), i < j → xs[i]? = some x → xs[j]? = some y → x.cl < y.cl := by
 unfold y06 at h
 split at h
 · omega
 · rename_i hl
   have h1 : ∀ (i : Nat) (x : Ses), xs[i]? = some x → ((1 ≤ x.cl ∧ x.cl ≤ 999) ∧ (1 ≤ x.nx ∧ x.nx ≤ 1000) ∧ z1o x = true) ∧ ahead (fun p x : Ses => decide (p.cl < x.cl)) xs i x = true := fun i x hx => by
    have h2 := z00 h i (List.getElem?_eq_some_iff.1 hx).1
    simp only [q67, hx] at h2
    split at h2
    · omega
    · rename_i h3
      split at h2
      · rename_i h4
        simp only [Bool.and_eq_true] at h4
        simp [within] at h3
        exact ⟨⟨by omega, by omega, h4.2⟩, h4.1⟩
      · omega
   refine ⟨by omega, fun x hx => ?_, q1y (key := Ses.cl) fun j p x hp hx => ?_⟩
   · obtain ⟨i, hi⟩ := List.mem_iff_getElem?.1 hx
     exact (h1 i x hi).1
   · have ha := (h1 (j + 1) x hx).2
     rw [y9 (p := p) (by omega) (by simpa using hp)] at ha
     simpa using ha
def z1a (c : Clu) (x : Con) : Int := if settled c x then (match (shF x.legs)[0]? with | some s => z90 c x s | none => 0) else 0
def answer (list : List Ses) (c : Clu) (cl n : Int) : Int × Int × List Leg :=
 if y06 list ≠ 0 then (y06 list, 0, [])
 else if qp c ≠ 0 then (qp c, 0, [])
 else match list.find? fun s => s.cl == cl with
  | none => (4, 0, [])
  | some s => if 1 ≤ n ∧ n ≤ s.nx - 1 then (match z03 c.cons (1000 * cl + n) with | none => (4, 0, []) | some x => (0, z1a c x, x.legs)) else (4, 0, [])
theorem z68 {list : List Ses} {cl : Int} {s : Ses} (h : (list.find? fun s => s.cl == cl) = some s) : s ∈ list ∧ s.cl = cl := ⟨List.mem_of_find?_eq_some h, by simpa using List.find?_some h⟩
end Go.Sx
end
section
namespace Go.Sx
open Go.Lib (compact)
theorem z7t {s : Shd} (h : qj s = 0) : s.bals.length ≤ 18 ∧ s.votes.length ≤ 100 ∧ s.held.length ≤ 100 ∧ s.done.length ≤ 100 ∧ s.app.length ≤ 100 := by
 have hb : yk s.bals = 0 := by
  unfold qj at h
  repeat' split at h
  all_goals first | omega | (simp_all; done)
 have hm : many s = false := by
  unfold qj at h
  repeat' split at h
  all_goals first | omega | (simp_all; done)
 have h1 := (q29 hb).1
 unfold many at hm
 simp only [Bool.or_eq_false_iff, decide_eq_false_iff_not] at hm
 omega
end Go.Sx
end
