/- WHAT IS PROVED: parts of the proof of fnExactDropMessage_holds: a frame for walks, what each Go function that it reaches answers, and plain lemmas; no condition beyond those that each theorem names. -/
import Derived.Test.YtbnbjaedijbnpaaGreatCDm3
import Derived.WalkKit
import Derived.OrdersHeld
import Derived.DeepKeys
import Derived.Maps.RangeWalk
import Derived.Maps.OwnOps
import Derived.WideKeyEntry
import Derived.Orders
import Derived.Deep.Slices
import Derived.ChangeArms
import Derived.WideShapes
import Derived.Sort.AssemblyPlain
set_option linter.unusedVariables false
set_option linter.unusedSimpArgs false
section
namespace Go.Sx
open Go.RowKit (Below)
section
variable {g : Bool} {P : Program} {F : TT} {σ : St} {o : Oper} {K : St → Prop}
theorem y32 {x : Operand} {f : AV → R} (h : (evR σ x f).holds P K) : ∃ av, ev σ x = some av ∧ (f av).holds P K := by
 unfold evR at h
 split at h
 · rename_i av hav; exact ⟨av, hav, h⟩
 · exact h.elim
theorem y3w {z : AV} (h : y7y z = true) : qb8 z := by cases z <;> first | trivial | cases h
theorem zbk {z : AV} (h : y7y z = true) : (match (generalizing := false) z with | .tup _ => False | _ => True) := by cases z <;> first | trivial | cases h
theorem q4b {x : Option Operand} {r : Option Int} (h : y9z x σ = some r) : q36 x σ = some r := h
theorem q68 {x : Operand} {K' : AV → Prop} (h : (evR σ x fun av => z0t σ o.dst av).holds P K) (hK : ∀ av, K (σ.put o.dst av) → K' av) : evK σ x K' := by
 obtain ⟨av, h1, h2⟩ := y32 h
 unfold evK
 rw [h1]
 exact hK _ (y1n.1 h2)
theorem za2 {t : Nat} {av : AV} {f : Value → R} {K' : Value → Prop} (hF : F = F.map P) (hf : ∀ v, (f v).holds P K → K' v) (h : (qbg F σ t av f).holds P K) : zbh P t σ av K' := by
 unfold qbg at h
 split at h
 · obtain ⟨_, h1, h2⟩ := zi h; exact ⟨by rw [q0k hF h1]; rfl, hf _ h2⟩
 · obtain ⟨_, h1, h2⟩ := zi h; exact ⟨by rw [q0k hF h1]; rfl, hf _ h2⟩
 · obtain ⟨_, h1, h2⟩ := zi h; exact ⟨by rw [q0k hF h1]; rfl, hf _ h2⟩
 · obtain ⟨_, h1, h2⟩ := zi h; exact ⟨by rw [q0k hF h1]; rfl, hf _ h2⟩
 · obtain ⟨h1, h2⟩ := zc h; exact ⟨y42 hF h1, hf _ h2⟩
 · obtain ⟨_, h1, h2⟩ := zi h
   refine ⟨by rw [q0k hF h1]; rfl, ?_⟩
   split at h2
   · rename_i full sz ep rows hg
     obtain ⟨h3, row, h4, h5⟩ := h2
     rw [hg]
     refine ⟨h3, ?_⟩
     rw [h4]
     dsimp only at h5 ⊢
     split at h5
     · rename_i rs hrs; rw [z25] at hrs; rw [hrs]; exact hf _ h5
     · exact h5.elim
   · exact h2.elim
 · exact h.elim
theorem qbh {av : AV} {ag : Bool} {n : Nat} (h : (q66 σ av fun cs => (match ag with
 | true => qs (q3n n cs) (z0i (force (cs.take n)) fun cs => z0t σ o.dst (.agg cs))
 | false => (match cs with | [] => .fail | c :: _ => z0t σ o.dst (.one c)))).holds P K) : z1t σ av fun cs => match y3v ag n cs with | some r => K (σ.put o.dst r) | none => False := by
 refine z7f (fun cs h => ?_) h
 split at h
 · obtain ⟨h1, h2⟩ := zc h
   obtain ⟨cs', h3, h4⟩ := zi h2
   rw [force_eq h3] at h4
   simp only [y3v, if_true, if_pos (z0v h1)]
   exact y1n.1 h4
 · split at h
   · exact h.elim
   · exact y1n.1 h
theorem yes {av : AV} (h : (z0t σ o.dst av).holds P K) : K (σ.put o.dst av) := y1n.1 h
theorem y8f {d : Option Tmp} {cs : List AC} (h : (qb9 σ d cs).holds P K) : z1f σ d cs K := by
 unfold qb9 at h
 unfold z1f
 split at h
 · split at h
   · rename_i hn; dsimp only; rw [hn]; exact qw h
   · exact h.elim
 · exact h.elim
theorem ya2 (hF : F = F.map P) {t n : Nat} {ps : List (Nat × Operand)} {d : Option Tmp} (h : (ybh F σ t n ps d).holds P K) : zas P σ t n ps d K := by
 unfold ybh at h
 unfold zas
 split at h
 · rename_i d sz by_ rws h1 h2
   rw [q02 hF h1, z3a h2]
   dsimp only
   split at h
   · rename_i hn
     rw [hn]
     dsimp only
     obtain ⟨g1, h⟩ := zc h
     obtain ⟨g2, h⟩ := zc h
     obtain ⟨g3, h⟩ := zc h
     obtain ⟨g4, h⟩ := zc h
     obtain ⟨g5, h⟩ := zc h
     obtain ⟨g6, h⟩ := h
     obtain ⟨rs, g7, h⟩ := zi h
     rw [y49] at g4 g5
     have h := qw h
     rw [y49, y2u, q6c g7] at h
     rw [y2u] at g6
     exact ⟨z13 g1, Nat.le_of_ble_eq_true g2, y4p g3, z6 g4, q2u (z39 g5), g6, h⟩
   · exact h.elim
 · exact h.elim
theorem qa2 (hF : F = F.map P) {t : Nat} {l c : Operand} {d : Option Tmp} (h : (ybi F σ t l c d).holds P K) : q7v P σ t l c d K := by
 unfold ybi at h
 unfold q7v
 split at h
 · rename_i d sz by_ zrow k n k' n' h1 h2 h3 h4
   rw [q02 hF h1, y79 hF h2, h3, h4]
   dsimp only
   split at h
   · rename_i hn
     rw [hn]
     dsimp only
     obtain ⟨g1, g2, g3, g4, g5, h⟩ := zc h
     exact ⟨g2, g3, g4, g5, z13 g1, qw h⟩
   · exact h.elim
 · exact h.elim
theorem y89 (hF : F = F.map P) {t : Nat} {β m i k : Nat} {x : AV} (h : (q59 F σ t (.one (.e β m i k)) x).holds P K) : z59 P σ t (.one (.e β m i k)) x K := by
 unfold q59 at h
 unfold z59
 split at h
 · rename_i n β m i k x h1 he
   cases he
   rw [y2s hF h1]
   dsimp only
   split at h
   · rename_i full sz ep rows hg
     rw [hg]
     dsimp only
     obtain ⟨g1, h⟩ := zc h
     obtain ⟨g2, h⟩ := zc h
     obtain ⟨g3, h⟩ := zc h
     obtain ⟨g4, h⟩ := zc h
     obtain ⟨g5, row, g6, g7, g8, h⟩ := h
     obtain ⟨xs, g9, h⟩ := zi h
     have h := qw h
     rw [y49] at g3 g4 h
     rw [q4d g9] at h
     refine ⟨g5, ?_⟩
     rw [g6]
     refine ⟨z13 g2, ?_, g7, z6 g3, q2u (z39 g4), g8, h⟩
     exact zbk g1
   · exact h.elim
 · rename_i he; cases he
 · rename_i he; cases he
 · exact h.elim
theorem q89 (hF : F = F.map P) {t : Nat} {p x : AV} (hne : ∀ β m i k, p ≠ .one (.e β m i k)) (h : (q59 F σ t p x).holds P K) : y59 P σ t p x K := by
 unfold q59 at h
 unfold y59
 split at h
 · exact absurd rfl (hne _ _ _ _)
 · rename_i β off c h1
   split at h
   · rename_i cs hg
     simp only [y2s hF h1, hg]
     obtain ⟨g1, h⟩ := zc h
     obtain ⟨cs', g2, h⟩ := zi h
     rw [force_eq g2] at h
     exact ⟨z0v g1, qw h⟩
   · exact h.elim
 · rename_i n β off xs h1
   split at h
   · rename_i cs hg
     simp only [y2s hF h1, hg]
     obtain ⟨g0, h⟩ := zc h
     obtain ⟨g1, h⟩ := zc h
     obtain ⟨cs', g2, h⟩ := zi h
     rw [force_eq g2] at h
     exact ⟨z13 g0, z0v g1, qw h⟩
   · exact h.elim
 · exact h.elim
theorem y8l (hF : F = F.map P) {c : Call} (ho : o.op = .call c) (h : (y9p g F σ o c).holds P K) : opL g P σ o K := by
 unfold y9p at h
 split at h
 · rename_i hc
   simp only [opL, ho, hc, opY]
   split at h
   · rename_i t _ x ht hx
     obtain ⟨av, h1, h2⟩ := y32 h
     rw [ht, hx]
     simp only [evK, h1]
     exact za2 hF (fun v hv => yes hv) h2
   · exact h.elim
 · rename_i hc
   simp only [opL, ho, hc]
   split at h
   · rename_i t tx s x d ht hx hd
     unfold qb5
     rw [ht, hx, hd]
     dsimp only
     split at h
     · rename_i sz by_ p β n γ m e1 e2 e3 e4
       rw [q02 hF e1, q02 hF e2, e3, e4]
       dsimp only
       split at h
       · rename_i full0 sz0 ep rows0 full sz1 ep1 rows e5 e6
         rw [e5, e6]
         dsimp only
         obtain ⟨g1, h⟩ := zc h
         obtain ⟨g2, h⟩ := zc h
         obtain ⟨g3, h⟩ := zc h
         obtain ⟨g4, g5, g6, g7, g8, h⟩ := h
         exact ⟨g4, g5, Nat.eq_of_beq_eq_true g1, Nat.eq_of_beq_eq_true g2, g6, Nat.ne_of_beq_eq_false (z39 g3), g7, g8, qw h⟩
       · exact h.elim
     · rename_i sz by_ p β n rows e1 e2 e3 e4
       rw [q02 hF e1, q02 hF e2, e3, e4]
       dsimp only
       split at h
       · rename_i full0 sz0 ep rows0 e5
         rw [e5]
         dsimp only
         obtain ⟨g1, h⟩ := zc h
         obtain ⟨g4, g5, g6, g7, g8, h⟩ := h
         exact ⟨g4, Nat.eq_of_beq_eq_true g1, g5, g6, g7, g8, qw h⟩
       · exact h.elim
     · rename_i sz by_ p γ m e1 e2 e3 e4
       rw [q02 hF e1, q02 hF e2, e3, e4]
       dsimp only
       split at h
       · rename_i full sz1 ep1 rows e5 e6
         rw [e5, e6]
         dsimp only
         obtain ⟨g1, h⟩ := zc h
         obtain ⟨g2, h⟩ := zc h
         obtain ⟨g4, g5, g6, h⟩ := h
         exact ⟨g4, Nat.eq_of_beq_eq_true g1, Nat.ne_of_beq_eq_false (z39 g2), g5, g6, qw h⟩
       · exact h.elim
     · rename_i sz by_ p γ m e1 e2 e3 e4
       rw [q02 hF e1, q02 hF e2, e3, e4]
       dsimp only
       split at h
       · rename_i full sz1 ep1 rows e5 e6
         rw [e5, e6]
         dsimp only
         obtain ⟨g1, h⟩ := zc h
         obtain ⟨g2, h⟩ := zc h
         obtain ⟨g4, g5, g6, h⟩ := h
         exact ⟨g4, Nat.eq_of_beq_eq_true g1, Nat.ne_of_beq_eq_false (z39 g2), g5, g6, qw h⟩
       · exact h.elim
     · rename_i sz by_ p rows e1 e2 e3 e4
       rw [q02 hF e1, q02 hF e2, e3, e4]
       dsimp only
       split at h
       · rename_i e5
         rw [e5]
         dsimp only
         obtain ⟨g4, g5, g6, g7, h⟩ := h
         exact ⟨g4, g5, g6, g7, qw h⟩
       · exact h.elim
     · rename_i sz by_ p rows e1 e2 e3 e4
       rw [q02 hF e1, q02 hF e2, e3, e4]
       dsimp only
       split at h
       · rename_i e5
         rw [e5]
         dsimp only
         obtain ⟨g4, g5, g6, g7, h⟩ := h
         exact ⟨g4, g5, g6, g7, qw h⟩
       · exact h.elim
     · exact h.elim
   · exact h.elim
 · rename_i x hc
   simp only [opL, ho, hc]
   split at h
   · rename_i f caps avs e1 e2
     rw [e1, e2]
     obtain ⟨avs', h1, h2⟩ := zi h
     rw [force_eq h1] at h2
     exact h2
   · rename_i f caps avs e1 e2
     rw [e1, e2]
     obtain ⟨avs', h1, h2⟩ := zi h
     rw [force_eq h1] at h2
     exact h2
   · rename_i f β off avs e1 e2
     rw [e1, e2]
     exact h
   · rename_i f ag row avs e1 e2
     rw [e1, e2]
     exact h
   · exact h.elim
 · rename_i hc
   simp only [opL, ho, hc, opY]
   split at h
   · rename_i x y hx
     rw [hx]
     dsimp only
     split at h
     · rename_i e1 e2; rw [e1, e2]; exact yes h
     · exact h.elim
   · rename_i x y z t hx
     rw [hx]
     dsimp only
     split at h
     · rename_i e1 e2 e3 e4; rw [e1, e2, e3, e4]; exact yes h
     · exact h.elim
   · exact h.elim
 · rename_i hc
   simp only [opL, ho, hc, opY]
   split at h
   · rename_i x y hx
     rw [hx]
     dsimp only
     split at h
     · rename_i e1 e2; rw [e1, e2]; exact yes h
     · exact h.elim
   · exact h.elim
 · exact h
theorem y9h (hF : F = F.map P) (h : (opR g F σ o).holds P K) : opL g P σ o K := by
 unfold opR at h
 split at h
 case h_1 x ho => simp only [opL, ho, opY]; exact q68 h (fun _ hk => hk)
 case h_2 x ho => simp only [opL, ho, opY]; exact q68 h (fun _ hk => hk)
 case h_3 c x y ho =>
  simp only [opL, ho, opY]
  split at h
  · rename_i t ht
    rw [ht]
    exact ⟨fun hb => q68 (x := if (true : Bool) then x else y) (h.1 hb) (fun _ hk => hk), fun hb => q68 (x := if (false : Bool) then x else y) (h.2 hb) (fun _ hk => hk)⟩
  · exact h.elim
 case h_4 t x ho =>
  simp only [opL, ho, opY]
  split at h
  · rename_i av ag n h1 h2
    rw [h1, y2s hF h2]
    exact qbh h
  · exact h.elim
 case h_5 op t x y yt ho =>
  split at h
  · rename_i p q h1 h2
    simp only [opL, ho, opY, h1, h2]
    obtain ⟨g1, h⟩ := zc h
    refine ⟨y8i hF g1, ?_⟩
    unfold q7d
    split at h
    · exact yes h
    · exact yes h
    · exact h.elim
  · rename_i u v hne h1 h2
    simp only [opL, ho, opY]
    split
    · rename_i e1 e2
      rw [h1] at e1; rw [h2] at e2
      cases e1; cases e2
      exact (hne _ _ rfl rfl).elim
    · rename_i u' v' _ e1 e2
      rw [h1] at e1; rw [h2] at e2
      cases e1; cases e2
      exact y9o (fun v hv => yes hv) h
    · rename_i e1 e2
      rw [h1] at e1
      cases e1
    · rename_i e1 e2
      rw [h1] at e1
      cases e1
    · rename_i _ hx _ _
      exact (hx _ _ h1 h2).elim
  · rename_i rows h1 h2
    simp only [opL, ho, opY, h1, h2]
    obtain ⟨sz, g1, h⟩ := zi h
    obtain ⟨e, _, g2, _⟩ := y0u (q0k hF g1)
    refine ⟨⟨e, g2⟩, fun b hb => ?_⟩
    split at h
    · exact yes (h b hb)
    · exact yes (h b hb)
    · exact h.elim
  · rename_i cs cs' h1 h2
    simp only [opL, ho, opY, h1, h2]
    obtain ⟨ks, g1, h⟩ := zi h
    obtain ⟨xs, g2, h⟩ := zi h
    obtain ⟨ys, g3, h⟩ := zi h
    obtain ⟨g4, h⟩ := zc h
    obtain ⟨g5, h⟩ := zc h
    simp only [y9m, q8i hF g1, g2, g3]
    refine ⟨z34 g4, z34 g5, ?_⟩
    split at h
    · exact yes h
    · exact yes h
    · exact h.elim
  · exact h
 case h_6 op t x ho =>
  simp only [opL, ho, opY]
  split at h
  · rename_i b hb; rw [hb]; exact yes h
  · rename_i k n hn; rw [hn]; exact yes h
  · exact h.elim
 case h_7 s d x ho =>
  split at h
  · rename_i k0 n k h1 h2
    simp only [opL, ho, opY, h1, q9k hF h2]
    obtain ⟨g1, h⟩ := zc h
    exact ⟨y8j hF g1, yes h⟩
  · exact h
 case h_8 s x f ho =>
  simp only [opL, ho, opY]
  split at h
  · rename_i row off h1 h2
    rw [h1, z2w hF h2]
    obtain ⟨g1, h⟩ := zc h
    obtain ⟨r, g2, h⟩ := zi h
    rw [force_eq g2] at h
    exact ⟨z0v g1, yes h⟩
  · rename_i β i off h1 h2
    rw [h1, z2w hF h2]; exact yes h
  · rename_i β m i k off h1 h2
    rw [h1, z2w hF h2]; exact yes h
  · exact h.elim
 case h_9 s x f ho =>
  simp only [opL, ho, opY]
  split at h
  · rename_i cs off n h1 h2
    rw [h1, z2s hF h2]
    obtain ⟨g1, h⟩ := zc h
    obtain ⟨r, g2, h⟩ := zi h
    rw [force_eq g2] at h
    exact ⟨z0v g1, yes h⟩
  · rename_i cs off n h1 h2
    rw [h1, z2s hF h2]
    obtain ⟨c, g2, h⟩ := zi h
    rw [z25] at g2
    dsimp only
    rw [g2]
    exact yes h
  · exact h.elim
 case h_10 t x i ho =>
  split at h
  · rename_i rows k n sz h1 h2 h3
    simp only [opL, ho, opY, h1, h2, q0k hF h3]
    obtain ⟨g1, row, g2, g3, h⟩ := h
    refine ⟨g1, ?_⟩
    rw [g2]
    exact ⟨g3, yes h⟩
  · rename_i β m k n sz h1 h2 h3
    simp only [opL, ho, opY, h1, h2, q0k hF h3]
    split at h
    · rename_i full sz0 ep rows hg
      rw [hg]
      obtain ⟨g0, g1, row, g2, g3, h⟩ := h
      refine ⟨g0, g1, ?_⟩
      rw [g2]
      exact ⟨g3, yes h⟩
    · exact h.elim
  · exact h
 case h_11 t x i ho =>
  simp only [opL, ho, opY]
  split at h
  · rename_i s k n h1 h2
    rw [h1, h2]
    obtain ⟨g1, h⟩ := zc h
    obtain ⟨g2, b, g3, h⟩ := h
    refine ⟨y42 hF g1, g2, ?_⟩
    rw [g3]
    exact yes h
  · exact h.elim
 case h_12 t x lo hi ho =>
  split at h
  · rename_i s l hh h1 h2 h3
    simp only [opL, ho, opY, h1, q4b h2, q4b h3]
    obtain ⟨g1, g2, g3, g4, h⟩ := zc h
    exact ⟨y42 hF g1, g2, g3, g4, yes h⟩
  · rename_i rows l hh h1 h2 h3
    simp only [opL, ho, opY, h1, q4b h2, q4b h3]
    obtain ⟨sz, g0, g1, g2, g3, g4, h⟩ := zi h
    rw [q0k hF g0]
    exact ⟨g1, g2, g3, g4, yes h⟩
  · exact h
 case h_13 x i ho =>
  simp only [opL, ho, opY]
  split at h
  · rename_i vs h1
    obtain ⟨av, g1, h⟩ := zi h
    rw [z25] at g1
    rw [h1]
    dsimp only
    rw [g1]
    exact yes h
  · exact h.elim
 case h_14 f first caps ho =>
  simp only [opL, ho, opY]
  split at h
  · rename_i x hf hc
    rw [hf, hc]
    dsimp only
    split at h
    · rename_i e1; rw [e1]; exact yes h
    · rename_i e1; rw [e1]; exact yes h
    · rename_i cs e1
      rw [e1]
      obtain ⟨l, g1, h⟩ := zi h
      dsimp only
      rw [g1]
      exact yes h
    · exact h.elim
  · rename_i hf
    rw [hf]
    dsimp only
    cases hcs : z6n σ caps.toList with
    | some cs =>
      rw [hcs] at h
      have e := (z45 (σ := σ) (l := caps.toList)).symm.trans hcs
      split
      · rename_i cs' h'
        have := h'.symm.trans e
        cases this
        exact yes h
      · rename_i h'
        have := h'.symm.trans e
        cases this
    | none =>
      rw [hcs] at h
      obtain ⟨cs, g1, h⟩ := zi h
      have e := (z45 (σ := σ) (l := caps.toList)).symm.trans hcs
      have e2 := y66 g1
      split
      · rename_i cs' h'
        have := h'.symm.trans e
        cases this
      · split
        · rename_i cs' h'
          have := h'.symm.trans e2
          cases this
          exact yes h
        · rename_i h'
          have := h'.symm.trans e2
          cases this
  · exact h.elim
 case h_15 t ps ho =>
  cases g1 : z5e F t with
  | none => rw [g1] at h; exact h
  | some z =>
    rw [g1] at h
    simp only [opL, ho, opY]
    obtain ⟨cs, g2, h⟩ := zi h
    rw [q6j hF g1]
    dsimp only
    rw [q48 hF g2]
    exact yes h
 case h_16 e ho =>
  simp only [opL, ho]
  split at h
  · rename_i z hz
    obtain ⟨g1, h⟩ := zc h
    rw [q78 hF hz]
    exact ⟨y3w g1, y8f h⟩
  · exact h.elim
 case h_17 e x ho =>
  simp only [opL, ho]
  split at h
  · rename_i z hz
    obtain ⟨g1, h⟩ := zc h
    rw [hz]
    exact ⟨y3w g1, y8f h⟩
  · exact h.elim
 case h_18 t p x ho =>
  simp only [opL, ho]
  split at h
  · rename_i pv xv hd h1 h2
    refine ⟨hd, ?_⟩
    rw [h1, h2]
    split
    · rename_i e1 e2; cases e1; cases e2; exact y89 hF h
    · rename_i pv' xv' hne e1 e2
      cases e1; cases e2
      exact q89 hF (fun β m i k e => hne β m i k e) h
    · rename_i hx; exact (hx _ _ rfl rfl).elim
  · exact h.elim
 case h_19 t n ps ho => simp only [opL, ho]; exact ya2 hF h
 case h_20 t l c ho => simp only [opL, ho]; exact qa2 hF h
 case h_21 c ho => exact y8l hF ho h
 case h_22 x ho =>
  simp only [opL, ho, opY]
  obtain ⟨av, g1, h⟩ := y32 h
  rw [g1]
  split at h
  · exact yes h
  · exact yes h
  · exact yes h
  · exact h.elim
 case h_23 => exact h
end
inductive Fr where
 | ops (ops : Array Oper) (l : List Oper)
 | op1 (g : Bool) (o : Oper)
 | r (r : R)
 | code (c : Code)
 | blk (id : Nat)
 | lp (J : St → Prop)
 | plan (ops : Array Oper) (LC : List Nat) (p : z6k)
def G (P : Program) (Q : Ex → St → Prop) : List Fr → Option Nat → St → Prop
 | [], none, σ => Q .normal σ
 | [], some i, σ => Q (.exit i) σ
 | .blk j :: st, some i, σ => if i = j then G P Q st none σ else G P Q st (some i) σ
 | _ :: st, some i, σ => G P Q st (some i) σ
 | .ops ops l :: st, none, σ => ya6 P ops l σ (G P Q st none)
 | .op1 g o :: st, none, σ => opL g P σ o (G P Q st none)
 | .r r :: st, none, _ => r.holds P (G P Q st none)
 | .code c :: st, none, σ => vc P c (fun e σ => match e with | .normal => G P Q st none σ | .exit i => G P Q st (some i) σ | .ret => Q .ret σ) σ
 | .blk _ :: st, none, σ => G P Q st none σ
 | .lp J :: _, none, σ => J σ
 | .plan ops LC p :: st, none, σ => y3b LC P ops p σ (G P Q st none)
inductive T where
 | go (st : List Fr) (σ : St)
 | br (t : Bool) (st : List Fr) (σ : St) (st' : List Fr) (σ' : St)
 | side (p : Prop) (st : List Fr) (σ : St)
 | any (q : Bool → Prop) (f : Bool → R) (st : List Fr)
 | row (rows : List (List Cell)) (i : Nat) (f : List Cell → R) (st : List Fr)
 | byte (s : ByteArray) (i : Nat) (f : UInt8 → R) (st : List Fr)
 | call (g : Bool) (σ : St) (d : Option Tmp) (f : Nat) (avs : List AV) (st : List Fr)
 | raw (g : Bool) (σ : St) (o : Oper) (st : List Fr)
 | loop (b : Code) (st : List Fr) (σ : St)
 | cont (J : St → Prop) (σ : St)
 | draw (id : Nat) (ops : Array Oper) (st : List Fr) (σ : St)
 | both (st st' : List Fr) (σ : St)
 | yes
 | fin (e : Ex) (σ : St)
 | fail
def T.holds (P : Program) (Q : Ex → St → Prop) : T → Prop
 | .go st σ => G P Q st none σ
 | .br t st σ st' σ' => (t = true → G P Q st none σ) ∧ (t = false → G P Q st' none σ')
 | .side p st σ => p ∧ G P Q st none σ
 | .any q f st => ∀ b, q b → (f b).holds P (G P Q st none)
 | .row rows i f st => ∃ row, rows[i]? = some row ∧ (f row).holds P (G P Q st none)
 | .byte s i f st => ∃ b, s[i]? = some b ∧ (f b).holds P (G P Q st none)
 | .call g σ d f avs st => q41 P σ d f avs (G P Q st none) ∨ (g = true ∧ y41 P σ d f avs (G P Q st none))
 | .raw g σ o st => opL g P σ o (G P Q st none)
 | .loop b st σ => vc P (.loop b) (fun e σ => match e with | .normal => G P Q st none σ | .exit i => G P Q st (some i) σ | .ret => Q .ret σ) σ
 | .cont J σ => J σ
 | .draw id ops st σ => vc P (.region id ops true) (fun e σ => match e with | .normal => G P Q st none σ | .exit i => G P Q st (some i) σ | .ret => Q .ret σ) σ
 | .both st st' σ => G P Q st none σ ∧ G P Q st' none σ
 | .yes => True
 | .fin e σ => Q e σ
 | .fail => False
def q81 (i : Nat) : List Fr → Option (List Fr)
 | [] => none
 | .blk j :: st => bif Nat.beq i j then some st else q81 i st
 | _ :: st => q81 i st
def ybc (σ : St) (d : Option Tmp) : St := match σ, d with
 | ⟨t, b⟩, some d => ⟨(d, .tup []) :: t, b⟩
 | σ, none => σ
def skR (σ : St) (d : Option Tmp) : R := match ybc σ d with | ⟨t, b⟩ => (match force t with | some t => .ok ⟨t, b⟩ | none => .fail)
theorem z3f {P : Program} {σ : St} {d : Option Tmp} {K : St → Prop} (h : (skR σ d).holds P K) : K (ybc σ d) := by
 unfold skR at h
 split at h
 rename_i t b e
 split at h
 · rename_i t' ht; rw [force_eq ht] at h; rw [e]; exact h
 · exact h.elim
def z3x (g : Bool) (F : TT) (ops : Array Oper) (o : Oper) (st : List Fr) (σ : St) : T := match o.guard with
    | none => .go (.r (opR g F σ o) :: st) σ
    | some (j, want) => (match nth ops.toList j with
      | some o' => (match o'.dst with
        | some d => (match get σ.t d with
          | some (.one (.b (.s (.bool t)))) => (match want with
            | true => .br t (.op1 g o :: st) (z3n σ (.tmp d) true) (.r (skR (z3n σ (.tmp d) false) o.dst) :: st) ⟨[], []⟩
            | false => .br t (.r (skR (z3n σ (.tmp d) true) o.dst) :: st) ⟨[], []⟩ (.op1 g o :: st) (z3n σ (.tmp d) false))
          | some (.tup []) => .go (.r (skR σ o.dst) :: st) ⟨[], []⟩
          | _ => .fail)
        | none => .fail)
      | none => .fail)
def step (F : TT) : List Fr → St → T
 | [], σ => .fin .normal σ
 | .ops _ [] :: st, σ => .go st σ
 | .ops ops (o :: l) :: st, σ => z3x true F ops o (.ops ops l :: st) σ
 | .op1 g o :: st, σ => .go (.r (opR g F σ o) :: st) σ
 | .r r :: st, σ => (match r with
   | .fail => .fail
   | .ok σ => .go st σ
   | .side p r => .side p (.r r :: st) σ
   | .br t r r' => .br t (.r r :: st) σ (.r r' :: st) σ
   | .any q f => .any q f st
   | .row rows i f => .row rows i f st
   | .byte s i f => .byte s i f st
   | .call g σ d f avs => .call g σ d f avs st
   | .raw g σ o => .raw g σ o st)
 | .code c :: st, σ => (match c with
   | .skip => .go st σ
   | .region id ops draw => (match draw with | true => .draw id ops st σ | false => .go (.ops ops ops.toList :: st) σ)
   | .seq x y => .go (.code x :: .code y :: st) σ
   | .cond c x y => (match ev σ c with
     | some (.one (.b (.s (.bool t)))) => .br t (.code x :: st) (z3n σ c true) (.code y :: st) (z3n σ c false)
     | _ => .fail)
   | .block id b => .go (.code b :: .blk id :: st) σ
   | .loop b => .loop b st σ
   | .exit id => (match q81 id st with | some st => .go st σ | none => .fail)
   | .ret => .fin .ret σ
   | _ => .fail)
 | .blk _ :: st, σ => .go st σ
 | .lp J :: _, σ => .cont J σ
 | .plan ops LC p :: st, σ => (match p with
   | .done => .go st σ
   | .nil => .yes
   | .take i _ p => (match nth ops.toList i with | some o => z3x (LC.contains i) F ops o (.plan ops LC p :: st) σ | none => .fail)
   | .alt i p .nil => (match nth ops.toList i with | some o => z3x (LC.contains i) F ops o (.plan ops LC p :: st) σ | none => .fail)
   | .alt i p q => .both (.plan ops LC (.alt i p .nil) :: st) (.plan ops LC q :: st) σ)
def exec : Nat → TT → List Fr → St → T
 | 0, _, st, σ => .go st σ
 | n + 1, F, st, σ => match step F st σ with
   | .go st σ => exec n F st σ
   | t => t
section
variable {P : Program} {F : TT} {Q : Ex → St → Prop}
theorem q1g {i : Nat} {σ : St} : ∀ {st st' : List Fr}, q81 i st = some st' → G P Q st' none σ → G P Q st (some i) σ
 | [], st', h, _ => by cases h
 | .blk j :: st, st', h, hg => by
   rw [q81] at h
   rw [G]
   by_cases hij : i = j
   · subst hij; simp only [Nat.beq_refl, cond_true, Option.some.injEq] at h; subst h; rw [if_pos rfl]; exact hg
   · rw [beq_false hij] at h; rw [if_neg hij]; exact q1g h hg
 | .ops _ _ :: st, st', h, hg => q1g (st := st) h hg
 | .op1 _ _ :: st, st', h, hg => q1g (st := st) h hg
 | .r _ :: st, st', h, hg => q1g (st := st) h hg
 | .code _ :: st, st', h, hg => q1g (st := st) h hg
 | .lp _ :: st, st', h, hg => q1g (st := st) h hg
 | .plan _ _ _ :: st, st', h, hg => q1g (st := st) h hg
theorem z54 {g : Bool} (hF : F = F.map P) {ops : Array Oper} {o : Oper} {st : List Fr} {σ : St} (h : (z3x g F ops o st σ).holds P Q) : q3t ops σ o (fun σ => opL g P σ o (G P Q st none)) (fun σ => q5w σ o.dst (G P Q st none)) := by
 simp only [z3x] at h
 unfold q3t
 split at h
 · rename_i hg; rw [hg]; exact y9h hF h
 · rename_i j want hg
   rw [hg]
   dsimp only
   split at h
   · rename_i o' ho'
     rw [z25, Array.getElem?_toList] at ho'
     split at h
     · rename_i d hd
       rw [ho']
       simp only [Option.bind_some, hd]
       split at h
       · rename_i t ht
         rw [ht]
         dsimp only
         have hsk : ∀ (σ0 : St) (K : St → Prop), K (ybc σ0 o.dst) → q5w σ0 o.dst K := fun σ0 K hk => by
          unfold q5w
          cases σ0 with
          | mk t0 b0 =>
          cases hdd : o.dst with
          | none => rw [hdd] at hk; exact hk
          | some d0 =>
            rw [hdd] at hk
            exact hk
         cases σ with
         | mk t0 b0 =>
         split at h
         · obtain ⟨h1, h2⟩ := h
           exact ⟨fun hb => by simp only [beq_self_eq_true, if_true]; exact h1 hb, fun hb => by
            have : ¬ ((false == true) = true) := by decide
            dsimp only; rw [if_neg this]; exact hsk _ _ (z3f (h2 hb))⟩
         · obtain ⟨h1, h2⟩ := h
           exact ⟨fun hb => by
            have : ¬ ((true == false) = true) := by decide
            dsimp only; rw [if_neg this]; exact hsk _ _ (z3f (h1 hb)), fun hb => by simp only [beq_self_eq_true, if_true]; exact h2 hb⟩
       · rename_i ht
         rw [ht]
         have h' := z3f (P := P) (K := G P Q st none) h
         unfold q5w
         cases σ with
         | mk t0 b0 =>
         cases hdd : o.dst with
         | none => rw [hdd] at h'; exact h'
         | some d0 => rw [hdd] at h'; exact h'
       · exact h.elim
     · exact h.elim
   · exact h.elim
theorem qa9 (hF : F = F.map P) {st : List Fr} {σ : St} (h : (step F st σ).holds P Q) : G P Q st none σ := by
 cases st with
 | nil => exact h
 | cons f st =>
   cases f with
   | ops ops l =>
     cases l with
     | nil => exact h
     | cons o l =>
       exact z54 (st := .ops ops l :: st) hF h
   | op1 g o => exact y9h hF h
   | r r => cases r <;> exact h
   | code c =>
     cases c with
     | skip => exact h
     | region id ops draw =>
       cases draw with
       | true => exact h
       | false => exact h
     | seq x y =>
       have e : (fun (e : Ex) (σ : St) => match e with | .normal => G P Q (.code y :: st) none σ | .exit i => G P Q (.code y :: st) (some i) σ | .ret => Q .ret σ) =
        (fun e σ => match e with | .normal => vc P y (fun e σ => match e with | .normal => G P Q st none σ | .exit i => G P Q st (some i) σ | .ret => Q .ret σ) σ | .exit i => G P Q st (some i) σ | .ret => Q .ret σ) := by
        funext e σ; cases e <;> rfl
       have h' : vc P x (fun (e : Ex) (σ : St) => match e with | .normal => G P Q (.code y :: st) none σ | .exit i => G P Q (.code y :: st) (some i) σ | .ret => Q .ret σ) σ := h
       rw [e] at h'
       exact .inl h'
     | cond c x y =>
       simp only [step] at h
       simp only [G, vc]
       split at h
       · rename_i t ht; rw [ht]; exact h
       · exact h.elim
     | block id b =>
       have e : (fun (e : Ex) (σ : St) => match e with | .normal => G P Q (.blk id :: st) none σ | .exit i => G P Q (.blk id :: st) (some i) σ | .ret => Q .ret σ) =
        (fun e σ => match e with | .normal => G P Q st none σ | .exit i => if i = id then G P Q st none σ else G P Q st (some i) σ | .ret => Q .ret σ) := by
        funext e σ; cases e <;> rfl
       have h' : vc P b (fun (e : Ex) (σ : St) => match e with | .normal => G P Q (.blk id :: st) none σ | .exit i => G P Q (.blk id :: st) (some i) σ | .ret => Q .ret σ) σ := h
       rw [e] at h'
       exact h'
     | loop b => exact h
     | exit id =>
       simp only [step] at h
       split at h
       · rename_i st' hp; exact q1g hp h
       · exact h.elim
     | ret => exact h
     | _ => exact h.elim
   | blk id => exact h
   | lp J => exact h
   | plan ops LC p =>
     have one : ∀ {i : Nat} {p' : z6k}, (match nth ops.toList i with | some o => z3x (LC.contains i) F ops o (.plan ops LC p' :: st) σ | none => .fail).holds P Q → z8x LC P ops i σ (fun σ => y3b LC P ops p' σ (G P Q st none)) := fun {i p'} h => by
      unfold z8x
      split at h
      · rename_i o ho
        rw [z25, Array.getElem?_toList] at ho
        rw [ho]
        exact z54 (st := .plan ops LC p' :: st) hF h
      · exact h.elim
     cases p with
     | done => exact h
     | nil => trivial
     | take i W p => exact one h
     | alt i p q =>
       cases q with
       | nil => exact ⟨one h, trivial⟩
       | done => exact ⟨h.1.1, h.2⟩
       | take _ _ _ => exact ⟨h.1.1, h.2⟩
       | alt _ _ _ => exact ⟨h.1.1, h.2⟩
theorem z7l (hF : F = F.map P) : ∀ {n : Nat} {st : List Fr} {σ : St}, (exec n F st σ).holds P Q → G P Q st none σ
 | 0, _, _, h => h
 | n + 1, st, σ, h => by
   refine qa9 hF ?_
   rw [exec] at h
   split at h
   · rename_i st' σ' hs; rw [hs]; exact z7l hF h
   · exact h
theorem run (hF : F = F.map P) {n : Nat} {st : List Fr} {σ : St} {t : T} (he : exec n F st σ = t) (h : t.holds P Q) : G P Q st none σ := z7l hF (by rw [he]; exact h)
def q7k : Nat → TT → List Fr → St → T
 | 0, _, st, σ => .go st σ
 | k + 1, F, st, σ => match exec 2000 F st σ with
   | .br t st1 σ1 st2 σ2 => (match t with | true => q7k k F st1 σ1 | false => q7k k F st2 σ2)
   | _ => .fail
theorem y48 (hF : F = F.map P) : ∀ {k : Nat} {st : List Fr} {σ : St}, (q7k k F st σ).holds P Q → G P Q st none σ
 | 0, _, _, h => h
 | k + 1, st, σ, h => by
   rw [q7k] at h
   split at h
   · rename_i t st1 σ1 st2 σ2 he
     refine run hF he ?_
     cases t with
     | true => exact ⟨fun _ => y48 hF h, nofun⟩
     | false => exact ⟨nofun, fun _ => y48 hF h⟩
   · exact h.elim
def QR (P : Program) (fn : Func) (res : Res) (e : Ex) (σ : St) : Prop := match e with | .exit _ => False | _ => z9i P fn res σ
theorem PC.begin {f : Nat} {fn : Func} {c : Code} {args : List SV} {res : Res} (hf : P.funcs[f]? = some fn) (hb : fn.body = some c) (hok : (okF P f && q0p fn.ntmps c && Nat.ble args.length fn.ntmps) = true)
 (h : G P (QR P fn res) [.code c] none ⟨y7d 0 args, []⟩) : PC P f args res := by
 refine PC.intro hf hb hok ?_
 have e : (fun (e : Ex) (σ : St) => match e with | .normal => G P (QR P fn res) [] none σ | .exit i => G P (QR P fn res) [] (some i) σ | .ret => QR P fn res .ret σ) =
  (fun e σ => match e with | .exit _ => False | _ => z9i P fn res σ) := by
  funext e σ; cases e <;> rfl
 have h' : vc P c (fun (e : Ex) (σ : St) => match e with | .normal => G P (QR P fn res) [] none σ | .exit i => G P (QR P fn res) [] (some i) σ | .ret => QR P fn res .ret σ) ⟨y7d 0 args, []⟩ := h
 rw [e] at h'
 exact h'
end
end Go.Sx
end
section
namespace Go.Sx
class qn (P : Program) where
 F : TT
 ok : F = F.map P
 mix : P.follows .mixedOrders = true
def y7b (σ : St) (d : Option Tmp) (res : Res) : R := match d with
 | some d => (match σ with | ⟨t, b⟩ => bR ((d, q6z (nameOf d) res) :: t) (q18 (nameOf d) res ++ b))
 | none => .ok σ
def z1n : AC → Bool
 | .b _ => true
 | .nil => true
 | .em => true
 | _ => false
def y1y : List AV → Bool
 | [] => true
 | .one c :: l => bif z1n c then y1y l else false
 | .agg cs :: l => bif cs.all z1n then y1y l else false
 | _ => false
def y34 (B : List (Nat × AB)) : List (Nat × AB) → Bool
 | [] => true
 | (β, _) :: l => match get B β with | none => y34 B l | some _ => false
theorem z3g {c : AC} (h : z1n c = true) : q3f c := by cases c <;> first | trivial | cases h
theorem z2h : ∀ {avs : List AV}, y1y avs = true → z9a q5x avs
 | [], _ => trivial
 | .one c :: l, h => by
   rw [y1y] at h
   cases hc : z1n c with
   | false => rw [hc] at h; cases h
   | true => rw [hc] at h; exact ⟨z3g hc, z2h h⟩
 | .agg cs :: l, h => by
   rw [y1y] at h
   cases hc : cs.all z1n with
   | false => rw [hc] at h; cases h
   | true =>
     rw [hc] at h
     have : ∀ cs : List AC, cs.all z1n = true → q7b q3f cs := by
      intro cs
      induction cs with
      | nil => intro _; trivial
      | cons c cs ih => intro h; simp only [List.all_cons, Bool.and_eq_true] at h; exact ⟨z3g h.1, ih h.2⟩
     exact ⟨this cs hc, z2h h⟩
 | .tup _ :: l, h => by cases h
theorem q1c {B : List (Nat × AB)} : ∀ {l : List (Nat × AB)}, y34 B l = true → y0b B l
 | [], _ => trivial
 | (β, _) :: l, h => by
   rw [y34] at h
   split at h
   · rename_i hn; exact ⟨hn, q1c h⟩
   · cases h
def z9c (σ : St) (d : Option Tmp) (avs : List AV) (res : Res) : Bool := bif y0m res then (bif y2k res then (bif y1y avs then y34 σ.b (q18 (nameOf (d.getD 0)) res) else false) else y34 σ.b (q18 (nameOf (d.getD 0)) res)) else false
section
variable {P : Program} [qn P] {Q : Ex → St → Prop} {st st1 st2 : List Fr} {σ σ1 σ2 : St}
theorem xb {t : Bool} (h : exec 2000 (qn.F P) st σ = .br t st1 σ1 st2 σ2) (h1 : t = true → G P Q st1 none σ1) (h2 : t = false → G P Q st2 none σ2) : G P Q st none σ := run qn.ok h ⟨h1, h2⟩
theorem xf (h : exec 2000 (qn.F P) st σ = .br false st1 σ1 st2 σ2) (h1 : G P Q st2 none σ2) : G P Q st none σ := run qn.ok h ⟨nofun, fun _ => h1⟩
theorem xj {k : Nat} (h : q7k k (qn.F P) st σ = .go st1 σ1) (h1 : G P Q st1 none σ1) : G P Q st none σ := y48 qn.ok (by rw [h]; exact h1)
theorem xr {e : Ex} (h : exec 2000 (qn.F P) st σ = .fin e σ1) (h1 : Q e σ1) : G P Q st none σ := run qn.ok h h1
theorem xs {p : Prop} (h : exec 2000 (qn.F P) st σ = .side p st1 σ1) (h1 : p) (h2 : G P Q st1 none σ1) : G P Q st none σ := run qn.ok h ⟨h1, h2⟩
theorem yaa {q : Bool → Prop} {f : Bool → R} (h : exec 2000 (qn.F P) st σ = .any q f st1) (h1 : ∀ b, q b → G P Q (.r (f b) :: st1) none ⟨[], []⟩) : G P Q st none σ := run qn.ok h h1
theorem y9 {rows : List (List Cell)} {i : Nat} {f : List Cell → R} (h : exec 2000 (qn.F P) st σ = .row rows i f st1) (row : List Cell) (hr : rows[i]? = some row) (h1 : G P Q (.r (f row) :: st1) none ⟨[], []⟩) : G P Q st none σ := run qn.ok h ⟨row, hr, h1⟩
theorem zae {g : Bool} {o : Oper} (h : exec 2000 (qn.F P) st σ = .raw g σ1 o st1) (h1 : opL g P σ1 o (G P Q st1 none)) : G P Q st none σ := run qn.ok h h1
theorem q9 {J : St → Prop} (h : exec 2000 (qn.F P) st σ = .cont J σ1) (h1 : J σ1) : G P Q st none σ := run qn.ok h h1
theorem y03 (h : exec 2000 (qn.F P) st σ = .both st1 st2 σ1) (h1 : G P Q st1 none σ1) (h2 : G P Q st2 none σ1) : G P Q st none σ := run qn.ok h ⟨h1, h2⟩
def q9e (ops : Array Oper) (LC : List Nat) (p : z6k) : Bool := Region.noSelect ops && (z2l .any ops (Array.replicate ops.size false) p && y1g LC .any ops p ops.size (Array.replicate ops.size false))
theorem qd {id : Nat} {ops : Array Oper} (h : exec 2000 (qn.F P) st σ = .draw id ops st1 σ1) (LC : List Nat) (p : z6k) (hp : q9e ops LC p = true) (h1 : G P Q (.plan ops LC p :: st1) none σ1) : G P Q st none σ := by
 simp only [q9e, Bool.and_eq_true] at hp
 exact run qn.ok h ⟨qn.mix, hp.1, LC, p, hp.2.1, hp.2.2, h1⟩
theorem z7 {g : Bool} {d : Option Tmp} {f : Nat} {avs : List AV} {res : Res} (h : exec 2000 (qn.F P) st σ = .call g σ1 d f avs st1) (hpc : PC P f (avs.map (z8i σ1.b)) res) (hok : z9c σ1 d avs res = true) (hw : z9a (wfV σ1.b) avs) (h1 : G P Q (.r (y7b σ1 d res) :: st1) none ⟨[], []⟩) : G P Q st none σ := by
 refine run qn.ok h (.inl ⟨res, hpc, ?_⟩)
 unfold z9c at hok
 cases h2 : y0m res with
 | false => rw [h2] at hok; cases hok
 | true =>
   rw [h2] at hok
   have hK : G P Q st1 none (y2w σ1 d res) := by
    have h1 : (y7b σ1 d res).holds P (G P Q st1 none) := h1
    unfold y7b at h1
    unfold y2w
    cases d with
    | none => exact h1
    | some d => cases σ1; exact qw h1
   cases h3 : y2k res with
   | true =>
     rw [h3] at hok
     cases h4 : y1y avs with
     | false => rw [h4] at hok; cases hok
     | true => rw [h4] at hok; exact ⟨rfl, hw, fun _ => z2h h4, q1c hok, hK⟩
   | false => rw [h3] at hok; exact ⟨rfl, hw, nofun, q1c hok, hK⟩
def y7a (σ : St) (d : Option Tmp) (res : Res) (T : List (Nat × AB)) : R := match σ, d with
 | ⟨t, b⟩, some d => bR ((d, q6z (nameOf d) res) :: t) ((q18 (nameOf d) res ++ T) ++ b)
 | ⟨t, b⟩, none => bR t (([] ++ T) ++ b)
def y9f (σ : St) (d : Option Tmp) (avs : List AV) (args : List GA) (res : Res) : Bool := bif y0m res then (bif z8w ((y0y 0 (acs avs) (gcs args)).map (·.2.1)) then y34 σ.b (q18 (nameOf (d.getD 0)) res) else false) else false
theorem y0t {d : Option Tmp} {f : Nat} {avs : List AV} {args : List GA} {res : Res} {back : List (Nat × List (List Cell))} (h : exec 2000 (qn.F P) st σ = .call true σ1 d f avs st1) (hpc : PG P f args res back) (hm : mAs σ1.b avs args) (hok : y9f σ1 d avs args res = true)
 (h1 : G P Q (.r (y7a σ1 d res (y1j σ1.b back (y0y 0 (acs avs) (gcs args)))) :: st1) none ⟨[], []⟩) : G P Q st none σ := by
 unfold y9f at hok
 cases h2 : y0m res with
 | false => rw [h2] at hok; cases hok
 | true =>
   rw [h2] at hok
   cases h3 : z8w ((y0y 0 (acs avs) (gcs args)).map (·.2.1)) with
   | false => rw [h3] at hok; cases hok
   | true =>
     rw [h3] at hok
     refine run qn.ok h (.inr ⟨rfl, .inl ⟨args, res, back, hpc, h2, hm, z6 h3, q1c hok, ?_⟩⟩)
     have h1 : (y7a σ1 d res (y1j σ1.b back (y0y 0 (acs avs) (gcs args)))).holds P (G P Q st1 none) := h1
     cases σ1
     cases d with
     | none => exact qw h1
     | some d => exact qw h1
def z7b (σ : St) (d : Option Tmp) (res : Res) (e β : Nat) (acs : List AC) (cs : List PK) : R := match σ, d with
 | ⟨t, b⟩, some d => bR ((d, q6z (nameOf d) res) :: t) (((q18 (nameOf d) res ++ z0k (nameOf d + 100 * yad res) (cs.map z27)) ++ ((β, .var (y1p (nameOf d + 100 * yad res) acs cs)) :: q04 b acs cs)) ++ b)
 | ⟨t, b⟩, none => bR t ((z0k e (cs.map z27) ++ ((β, .var (y1p e acs cs)) :: q04 b acs cs)) ++ b)
def zaw (σ : St) (d : Option Tmp) (res : Res) (e : Nat) (acs : List AC) (cs : List PK) : Bool := bif y0m res then (bif y2k res then false else (bif Nat.ble cs.length 100 then (bif z8w (q0s acs cs) then y34 σ.b (ybj d res e cs) else false) else false)) else false
theorem yb2 {d : Option Tmp} {f : Nat} {avs : List AV} {res : Res} {args : List SV} {cs : List PK} (p e : Nat) {β : Nat} {acs : List AC} (h : exec 2000 (qn.F P) st σ = .call true σ1 d f avs st1) (hpc : PP P f p cs args res) (ha : (avs.map (z8i σ1.b)).set p (.agg []) = args) (hp : avs[p]? = some (.one (.a β 0))) (hβ : get σ1.b β = some (.var acs))
 (hm : yb9 σ1.b (q0s acs cs) acs cs) (hw : q6d σ1.b (q0s acs cs) p avs) (hok : zaw σ1 d res e acs cs = true) (h1 : G P Q (.r (z7b σ1 d res e β acs cs) :: st1) none ⟨[], []⟩) : G P Q st none σ := by
 subst ha
 unfold zaw at hok
 cases h2 : y0m res with
 | false => rw [h2] at hok; cases hok
 | true =>
   rw [h2] at hok
   cases h3 : y2k res with
   | true => rw [h3] at hok; cases hok
   | false =>
     rw [h3] at hok
     cases h4 : Nat.ble cs.length 100 with
     | false => rw [h4] at hok; cases hok
     | true =>
       rw [h4] at hok
       cases h5 : z8w (q0s acs cs) with
       | false => rw [h5] at hok; cases hok
       | true =>
         rw [h5] at hok
         refine run qn.ok h (.inr ⟨rfl, .inr (.inl ⟨p, e, β, acs, cs, res, hpc, h2, h3, Nat.le_of_ble_eq_true h4, hp, hβ, hm, z6 h5, hw, q1c hok, ?_⟩)⟩)
         have h1 : (z7b σ1 d res e β acs cs).holds P (G P Q st1 none) := h1
         cases σ1
         cases d with
         | none => exact qw h1
         | some d => exact qw h1
theorem yb1 {b : Code} (h : exec 2000 (qn.F P) st σ = .loop b st1 σ1) {ι : Type} (pre : ι → Prop) (inv : ι → St) (m : ι → Nat) (i0 : ι) (h0 : pre i0) (hw : Wk σ1 (inv i0))
 (hs : ∀ i, pre i → ∀ J : St → Prop, (∀ σ' i', pre i' → m i' < m i → Wk σ' (inv i') → J σ') → G P Q (.code b :: .lp J :: st1) none (inv i)) : G P Q st none σ := by
 refine run qn.ok h ⟨ι, pre, inv, m, ⟨i0, h0, hw⟩, fun i hi => ?_⟩
 have h2 := hs i hi (fun σ => ∃ i', pre i' ∧ m i' < m i ∧ Wk σ (inv i')) (fun σ' i' h1 h2 h3 => ⟨i', h1, h2, h3⟩)
 have e : (fun (e : Ex) (σ : St) => match e with | .normal => G P Q (.lp (fun σ => ∃ i', pre i' ∧ m i' < m i ∧ Wk σ (inv i')) :: st1) none σ | .exit i' => G P Q (.lp (fun σ => ∃ i', pre i' ∧ m i' < m i ∧ Wk σ (inv i')) :: st1) (some i') σ | .ret => Q .ret σ) =
  (fun e σ => match e with | .normal => ∃ i', pre i' ∧ m i' < m i ∧ Wk σ (inv i') | .exit j => G P Q st1 (some j) σ | .ret => Q .ret σ) := by
  funext e σ; cases e <;> rfl
 have h3 : vc P b (fun (e : Ex) (σ : St) => match e with | .normal => G P Q (.lp (fun σ => ∃ i', pre i' ∧ m i' < m i ∧ Wk σ (inv i')) :: st1) none σ | .exit i' => G P Q (.lp (fun σ => ∃ i', pre i' ∧ m i' < m i ∧ Wk σ (inv i')) :: st1) (some i') σ | .ret => Q .ret σ) (inv i) := h2
 rw [e] at h3
 exact h3
theorem qc {b : Code} (h : exec 2000 (qn.F P) st σ = .loop b st1 σ1) {ι : Type} (pre : ι → Prop) (inv : ι → St) (m : ι → Nat) (i0 : ι) (h0 : pre i0) (hw : Wk0 σ1 (inv i0))
 (hs : ∀ i, pre i → ∀ J : St → Prop, (∀ σ' i', pre i' → m i' < m i → Wk0 σ' (inv i') → J σ') → G P Q (.code b :: .lp J :: st1) none (inv i)) : G P Q st none σ :=
 yb1 h pre inv m i0 h0 (.of hw) (fun i hi J hJ => hs i hi J (fun σ' i' h1 h2 h3 => hJ σ' i' h1 h2 (.of h3)))
theorem z8g {n : Nat} {x y : Code} (h : exec n (qn.F P) st σ = .go (.code (.seq x y) :: st1) σ1) {ι : Type} (pre : ι → Prop) (inv : ι → St)
 (h1 : ∀ K : St → Prop, (∀ σ' i, pre i → Wk0 σ' (inv i) → K σ') → G P Q (.code x :: .lp K :: st1) none σ1) (h2 : ∀ i, pre i → G P Q (.code y :: st1) none (inv i)) : G P Q st none σ := by
 refine run qn.ok h ?_
 show G P Q (.code (.seq x y) :: st1) none σ1
 refine .inr ⟨ι, pre, inv, ?_, h2⟩
 have h3 := h1 (fun σ' => ∃ i, pre i ∧ Wk σ' (inv i)) (fun σ' i hp hw => ⟨i, hp, .of hw⟩)
 have e : (fun (e : Ex) (σ : St) => match e with | .normal => G P Q (.lp (fun σ => ∃ i', pre i' ∧ Wk σ (inv i')) :: st1) none σ | .exit i' => G P Q (.lp (fun σ => ∃ i', pre i' ∧ Wk σ (inv i')) :: st1) (some i') σ | .ret => Q .ret σ) =
  (fun e σ => match e with | .normal => ∃ i', pre i' ∧ Wk σ (inv i') | .exit j => G P Q st1 (some j) σ | .ret => Q .ret σ) := by
  funext e σ; cases e <;> rfl
 have h4 : vc P x (fun (e : Ex) (σ : St) => match e with | .normal => G P Q (.lp (fun σ => ∃ i', pre i' ∧ Wk σ (inv i')) :: st1) none σ | .exit i' => G P Q (.lp (fun σ => ∃ i', pre i' ∧ Wk σ (inv i')) :: st1) (some i') σ | .ret => Q .ret σ) σ1 := h3
 rw [e] at h4
 exact h4
omit [qn P] in
theorem qm {fn : Func} {res : Res} {e : Ex} (he : (match e with | .exit _ => false | _ => true) = true) (h : z9i P fn res σ) : QR P fn res e σ := by
 cases e with
 | exit i => cases he
 | _ => exact h
end
def qbp (fn : Func) (σ : St) : Option Value := match fn.results.toList with
 | [.tmp t] => (match get σ.t t with | some (.one (.b (.s v))) => some v | _ => none)
 | _ => none
def qbe : Ex → Bool
 | .exit _ => false
 | _ => true
theorem xv {P : Program} [qn P] {fn : Func} {st : List Fr} {σ σ1 : St} {e : Ex} {v v' : Value} (h : exec 2000 (qn.F P) st σ = .fin e σ1) (he : qbe e = true) (ho : qbp fn σ1 = some v) (hv : v = v') : G P (QR P fn (.one (.own false [.s v']))) st none σ := by
 subst hv
 refine xr h (qm (by cases e <;> first | rfl | cases he) ?_)
 unfold qbp at ho
 split at ho
 case h_2 => cases ho
 rename_i t ht
 split at ho
 case h_2 => cases ho
 rename_i u hu
 cases ho
 unfold z9i q4h
 rw [ht]
 show zad P σ1 (.tmp t) _
 unfold zad
 dsimp only
 rw [hu]
 exact ⟨⟨rfl, rfl, trivial⟩, z6 rfl⟩
theorem wrap_i64 {n : Int} (h : -9223372036854775808 ≤ n) (h2 : n ≤ 9223372036854775807) : IntKind.i64.wrap n = n := by
 have e : IntKind.i64.wrap n = if n % 18446744073709551616 ≥ 9223372036854775808 then n % 18446744073709551616 - 18446744073709551616 else n % 18446744073709551616 := by
  simp [IntKind.wrap, IntKind.signed, IntKind.bits]
 rw [e]
 split <;> omega
theorem qo {α : Type} (xs : List α) (z : α) (i n : Nat) (h : i < xs.length) (hn : n = xs.length) : (xs.take i ++ List.replicate (n - i) z)[i]? = some z := by
 subst hn
 have e1 : (xs.take i).length = i := by simp; omega
 rw [List.getElem?_append_right (by omega), List.getElem?_replicate, e1, if_pos (by omega)]
theorem q06 {α : Type} (xs : List α) (z x : α) (i n : Nat) (h : xs[i]? = some x) (hn : n = xs.length) : (xs.take i ++ List.replicate (n - i) z).set i x = xs.take (i + 1) ++ List.replicate (n - (i + 1)) z := by
 subst hn
 obtain ⟨hi, rfl⟩ := List.getElem?_eq_some_iff.1 h
 apply List.ext_getElem?
 intro j
 rw [List.getElem?_set]
 by_cases hj : i = j
 · subst hj
   rw [if_pos rfl]
   have : i < (xs.take i ++ List.replicate (xs.length - i) z).length := by simp; omega
   rw [if_pos this, List.getElem?_append_left (by simp; omega), List.getElem?_take, if_pos (by omega)]
   simp
 · rw [if_neg hj]
   by_cases h1 : j < i
   · rw [List.getElem?_append_left (by simp; omega), List.getElem?_append_left (by simp; omega), List.getElem?_take, List.getElem?_take, if_pos h1, if_pos (by omega)]
   · rw [List.getElem?_append_right (by simp; omega), List.getElem?_append_right (by simp; omega), List.getElem?_replicate, List.getElem?_replicate]
     have e1 : (xs.take i).length = i := by simp; omega
     have e2 : (xs.take (i + 1)).length = i + 1 := by simp; omega
     rw [e1, e2]
     by_cases h3 : j < xs.length
     · rw [if_pos (by omega), if_pos (by omega)]
     · rw [if_neg (by omega), if_neg (by omega)]
theorem yh {α : Type} (xs : List α) (z : α) (i n : Nat) (h : i ≤ xs.length) (hn : n = xs.length) : (xs.take i ++ List.replicate (n - i) z).length = n := by
 subst hn; simp; omega
theorem z05 {α : Type} (xs : List α) (z : α) (n : Nat) (hn : n = xs.length) : xs.take n ++ List.replicate (n - n) z = xs := by
 subst hn; simp
end Go.Sx
end
section
namespace Go.Sx
open Go.RowKit (Below)
def hOk (C : Ctx) : Prop := ∀ g ∈ C.H, qao g.1
def To (σ σ' : St) : Prop := ∀ (C : Ctx) (a : Act) (w : World), hOk C → Rel C σ a w → Rel C σ' a w
theorem To.refl (σ : St) : To σ σ := fun _ _ _ _ h => h
theorem To.trans {σ σ' σ'' : St} (h : To σ σ') (h' : To σ' σ'') : To σ σ'' := fun C a w hH h1 => h' C a w hH (h C a w hH h1)
theorem To.wk {σ σ' : St} (h : Wk0 σ σ') : To σ σ' := fun _ _ _ hH hr => z6g hH hr (.of h)
theorem To.tmps {l l' : List (Nat × AV)} {b : List (Nat × AB)} (h : ∀ t av, get l' t = some av → get l t = some av) : To ⟨l, b⟩ ⟨l', b⟩ := by
 rintro C a w _ ⟨ρ, hr⟩
 exact ⟨ρ, ⟨fun t av ht => hr.tmps t av (h t av ht), hr.q0i, hr.disj, hr.mine, hr.size, hr.defers, hr.keep, hr.ghost⟩⟩
def zv (P : Program) (ops : Array Oper) (i : Nat) (σ : St) (K : St → Prop) : Prop :=
 ∀ (C : Ctx) (Q : Exit → Act → World → Prop) (a : Act) (w : World), C.P = P → y5s C.T ops = true → hOk C → Rel C σ a w → wpOp P ops Q i (fun a' w' => ∃ σ', K σ' ∧ Rel C σ' a' w') a w
section
variable {P : Program} {ops : Array Oper} {i : Nat} {σ σ' : St} {K K' : St → Prop}
theorem zv.ybk (h : z8x [] P ops i σ K) : zv P ops i σ K := by
 rintro C Q a w hP hok hH ⟨ρ, hat⟩
 subst hP
 unfold wpOp
 unfold z8x at h
 cases hoi : ops[i]? with
 | none => rw [hoi] at h; exact h.elim
 | some o =>
   rw [hoi] at h
   dsimp only at h ⊢
   have hmem : o ∈ ops.toList := by simpa using Array.mem_of_getElem? hoi
   have hd := y10 hok hmem
   rcases y14 hat h with ⟨hwt, σ1, hK, hat1⟩ | ⟨hwt, σ1, hK, hat1⟩
   · rw [hwt, if_pos rfl]
     exact .inl (Oper.wp_mono (fun a' w' haf => haf.2) (q39 hat1 hd hK))
   · rw [hwt, if_neg (by simp)]
     exact q1m hat1 hd hK
theorem zv.run {Q0 : Ex → St → Prop} (h : G P Q0 [.plan ops [] (.take i [] .done), .lp K] none σ) : zv P ops i σ K := zv.ybk h
theorem zv.to (h : To σ σ') (h' : zv P ops i σ' K) : zv P ops i σ K := fun C Q a w h1 h2 h3 h4 => h' C Q a w h1 h2 h3 (h C a w h3 h4)
theorem zv.post (h : ∀ σ', K σ' → ∃ σ'', K' σ'' ∧ To σ' σ'') (h' : zv P ops i σ K) : zv P ops i σ K' := fun C Q a w h1 h2 h3 h4 =>
 wpOp_mono (fun a' w' hx => by
  obtain ⟨σ1, k1, r1⟩ := hx
  obtain ⟨σ2, k2, t2⟩ := h σ1 k1
  exact ⟨σ2, k2, t2 C a' w' h3 r1⟩) (h' C Q a w h1 h2 h3 h4)
theorem zv.em {o : Oper} {t d : Nat} (ho : ops[i]? = some o) (hop : o.op = .buildSlice t 0 #[]) (hg : o.guard = none) (hd : o.dst = some d) (hes : (z0y P t).isSome = true) (hk : K ⟨(d, .one .em) :: σ.t, σ.b⟩) : zv P ops i σ K := by
 rintro C Q a w hP hok hH ⟨ρ, hat⟩
 subst hP
 unfold wpOp
 rw [ho]
 dsimp only
 have hmem : o ∈ ops.toList := by simpa using Array.mem_of_getElem? ho
 have hdT := y10 hok hmem
 have hwt : Region.wanted o (yielded ops a.tmps) = true := by simp [Region.wanted, hg]
 rw [hwt, if_pos rfl]
 cases hes' : z0y C.P t with
 | none => rw [hes'] at hes; cases hes
 | some p =>
 obtain ⟨sz, by_⟩ := p
 obtain ⟨e, inf, z, hu, hi, hz, hzs, his, hib, hne⟩ := q00 hes'
 have hE : ∀ f : Nat → Value, Array.map f (Array.range 0) = #[] := fun f => by simp [Array.range]
 have hr : (execOp a.eval o).run C.P w = .ok (.value (.slice (some ⟨w.heap.size, 0, none⟩) 0 0)) (w.alloc (.cells #[] e)) := by
  simp only [execOp, hop, Instr.buildSlice, Sem.run_bind, run_underlying hu, Result.andThen_ok, sizeOf, typeInfo, run_program, hi, Sem.run_pure, his]
  simp [hE, newRow, Instr.fill]
 refine .inl ?_
 unfold Oper.wp
 rw [hr]
 refine ⟨_, hk, ρ, ?_⟩
 have h1 := (hat.world (qr.alloc w (.cells #[] e) _)).put (d := some d) (av := .one .em) (v := .slice (some ⟨w.heap.size, 0, none⟩) 0 0) (fun t ht => hdT t (by rw [hd]; exact ht)) ⟨_, rfl⟩
 rw [hd]
 exact h1
theorem y4u {p p' : Nat → Bool} : ∀ {l : List Nat} {i : Nat}, (∀ j, p' j = true → p j = true) → i ∈ l → p i = true → p' i = false → l.countP p' < l.countP p
 | x :: l, i, h, hm, h1, h2 => by
   rw [List.countP_cons, List.countP_cons]
   have hle : l.countP p' ≤ l.countP p := List.countP_mono_left (fun j _ => h j)
   rcases List.mem_cons.1 hm with rfl | hm
   · rw [h1, h2]; simp; omega
   · have h3 := y4u h hm h1 h2
     have h4 : (if p' x = true then 1 else 0) ≤ (if p x = true then 1 else 0) := by
      by_cases hx : p' x = true
      · simp [hx, h x hx]
      · simp [hx]
     omega
def yb6 (ops : Array Oper) (listed : Array Bool) : Nat := (List.range ops.size).countP fun j => !(listed.getD j true)
theorem q7f {listed : Array Bool} (h : i ∈ Region.ready .any ops listed) : yb6 ops (listed.setIfInBounds i true) < yb6 ops listed := by
 obtain ⟨h0, o, ho, _⟩ := mem_ready.1 h
 have hlt : i < ops.size := (Array.getElem?_eq_some_iff.1 ho).1
 refine y4u (i := i) (fun j hj => ?_) (List.mem_range.2 hlt) (by simp [h0]) ?_
 · by_cases hij : i = j
   · subst hij; simp [h0]
   · rw [getD_set_ne true hij] at hj; exact hj
 · have hs : i < listed.size := by
    rcases Nat.lt_or_ge i listed.size with h' | h'
    · exact h'
    · simp [Array.getElem?_eq_none h'] at h0
   simp [hs]
theorem qaz {C : Ctx} {Q : Exit → Act → World → Prop} {J : Array Bool → St → Prop} (hP : C.P = P) (hok : y5s C.T ops = true) (hH : hOk C) (hstep : ∀ listed σ i, J listed σ → i ∈ Region.ready .any ops listed → zv P ops i σ (J (listed.setIfInBounds i true)))
 (hdone : ∀ listed σ a w, J listed σ → Region.ready .any ops listed = [] → Rel C σ a w → Q .normal a w) : ∀ (n : Nat) (listed : Array Bool) (σ : St) (a : Act) (w : World), yb6 ops listed ≤ n → J listed σ → Rel C σ a w → wpAny P .any ops Q n listed a w := by
 intro n
 induction n with
 | zero =>
   intro listed σ a w hn hj hr
   have hnil : Region.ready .any ops listed = [] := List.eq_nil_iff_forall_not_mem.2 fun i hi => by have := q7f hi; omega
   exact ⟨hnil, hdone listed σ a w hj hnil hr⟩
 | succ n ih =>
   intro listed σ a w hn hj hr
   refine ⟨fun hnil => hdone listed σ a w hj hnil hr, fun i hi => ?_⟩
   refine wpOp_mono (fun a' w' hx => ?_) (hstep listed σ i hj hi C Q a w hP hok hH hr)
   obtain ⟨σ', hj', hr'⟩ := hx
   exact ih _ σ' a' w' (by have := q7f hi; omega) hj' hr'
def qag (P : Program) (ops : Array Oper) (σ : St) (K : St → Prop) : Prop :=
 ∃ J : Array Bool → St → Prop, J (Array.replicate ops.size false) σ ∧ (∀ listed σ i, J listed σ → i ∈ Region.ready .any ops listed → zv P ops i σ (J (listed.setIfInBounds i true))) ∧
   ∀ listed σ, J listed σ → Region.ready .any ops listed = [] → ∃ σ', To σ σ' ∧ K σ'
theorem y7q {C : Ctx} {id : Nat} (hm : C.P.follows .mixedOrders = true) (hok : y5s C.T ops = true) (hH : hOk C) {Q : Ex → St → Prop} {a : Act} {w : World} (h : qag C.P ops σ (Q .normal)) (hr : Rel C σ a w) : (Code.region id ops true).wp C.P (QOf C Q) a w := by
 obtain ⟨J, h0, h1, h2⟩ := h
 refine wp_region_any hm (qaz (C := C) rfl hok hH h1 (fun listed σ a w hj hn hr => ?_) _ _ σ _ _ ?_ h0 ?_)
 · obtain ⟨σ', ht, hk⟩ := h2 listed σ hj hn
   exact ⟨.normal, rfl, σ', hk, ht C a w hH hr⟩
 · unfold yb6
   have := List.countP_le_length (p := fun j => !((Array.replicate ops.size false).getD j true)) (l := List.range ops.size)
   simpa using this
 · obtain ⟨ρ, hat⟩ := hr
   exact ⟨ρ, hat.world (qr.drew w _)⟩
theorem y82 {listed : Array Bool} (hs : (ops.toList.zipIdx.all fun p => p.1.after.all fun e => Nat.blt e.on p.2) = true) (h : Region.ready .any ops listed = []) : ∀ i, i < ops.size → listed.getD i true = true := by
 intro i
 induction i using Nat.strongRecOn with
 | _ i ih =>
   intro hi
   cases hl : listed.getD i true with
   | true => rfl
   | false =>
     have hm : i ∈ Region.ready .any ops listed := by
      refine mem_ready.2 ⟨hl, ops[i], Array.getElem?_eq_getElem hi, fun e he _ => ?_⟩
      have h1 := List.all_eq_true.1 hs (ops[i], i) (by
       rw [List.mem_zipIdx_iff_getElem?]
       simp [hi])
      have h2 : e.on < i := by
       have := (Array.all_eq_true_iff_forall_mem.1 h1) e he
       simpa using this
      have h3 := ih e.on h2 (by omega)
      rcases Nat.lt_or_ge e.on listed.size with h' | h'
      · simpa [h'] using h3
      · have h4 : i ≥ listed.size := by omega
        simp [Array.getElem?_eq_none h4] at hl
     rw [h] at hm
     cases hm
end
theorem PC.zam {P : Program} {f : Nat} {fn : Func} {x y : Code} {id : Nat} {ops : Array Oper} {args : List SV} {res : Res} (hm : P.follows .mixedOrders = true) (hf : P.funcs[f]? = some fn) (hb : fn.body = some (.seq x (.seq (.region id ops true) y)))
 (hok : (okF P f && q0p fn.ntmps (.seq x (.seq (.region id ops true) y)) && Nat.ble args.length fn.ntmps) = true) (K1 K2 : St → Prop)
 (h1 : G P (fun _ _ => False) [.code x, .lp K1] none ⟨y7d 0 args, []⟩) (h2 : ∀ σ, K1 σ → qag P ops σ K2) (h3 : ∀ σ, K2 σ → G P (QR P fn res) [.code y] none σ) : PC P f args res := by
 simp only [Bool.and_eq_true] at hok
 obtain ⟨⟨ho1, ho2⟩, ho3⟩ := hok
 refine ⟨ho1, fun N w vals hargs => ?_⟩
 refine calls_of_wp hf hb ?_
 have hle : args.length ≤ fn.ntmps := Nat.le_of_ble_eq_true ho3
 have hM : ∀ x, ¬ (Ctx.mk P fn.ntmps w N (fun _ => False) []).M x := fun x h => h
 have hH : hOk (Ctx.mk P fn.ntmps w N (fun _ => False) []) := fun g hg => by cases hg
 have hinit : ye (Ctx.mk P fn.ntmps w N (fun _ => False) []) ⟨y7d 0 args, []⟩ ⟨fun _ => undef, fun _ _ => False⟩ { tmps := vals ++ Array.replicate (fn.ntmps - vals.size) undef, defers := [] } w := by
  refine ⟨fun t av ht => ?_, fun β ab h => (by cases h), fun β β' ab ab' x h => (by cases h), fun β ab x h => (by cases h), ?_, rfl, qr.refl _ _, fun g hg => by cases hg⟩
  · obtain ⟨k, sv, h1, h2, rfl⟩ := q43 ht
    have hk : k < vals.size := by rw [hargs.1]; exact (List.getElem?_eq_some_iff.1 h2).1
    have ht' : t = k := by omega
    subst ht'
    refine ⟨vals[t], by rw [Array.getElem?_append, if_pos hk]; simp [hk], ?_⟩
    have hrv := hargs.2 t sv vals[t] h2 (by simp [hk])
    have hN : ∀ {c : Cell} {u : Value}, Rep w N c u → Rep w (Bor (Ctx.mk P fn.ntmps w N (fun _ => False) []) ⟨fun _ => undef, fun _ _ => False⟩ []) c u := fun hr => Rep.mono hr (fun x _ hx => ⟨.inl hx, fun β ab h => by cases h⟩)
    cases sv with
    | one c => exact hN hrv
    | agg cs =>
      obtain ⟨arr, he, h3, h4⟩ := hrv
      refine ⟨arr, he, by simp [h3], fun k c u hc hu => ?_⟩
      rw [List.getElem?_map] at hc
      cases hck : cs[k]? with
      | none => rw [hck] at hc; cases hc
      | some c0 => rw [hck] at hc; cases hc; exact hN (h4 k c0 u hck hu)
  · show (vals ++ Array.replicate (fn.ntmps - vals.size) undef).size = fn.ntmps
    rw [Array.size_append, Array.size_replicate]
    have := hargs.1
    omega
 simp only [q0p, Bool.and_eq_true] at ho2
 obtain ⟨okx, okr, oky⟩ := ho2
 have hret : ∀ (e : Ex) (σ : St), (match e with | .normal => G P (QR P fn res) [] none σ | .exit i => G P (QR P fn res) [] (some i) σ | .ret => QR P fn res .ret σ) → (match e with | .exit _ => False | _ => z9i P fn res σ) := fun e σ h => by
  cases e <;> exact h
 have h1' : vc P x (fun e σ => match e with | .normal => K1 σ | _ => False) ⟨y7d 0 args, []⟩ := by
  have e1 : (fun (e : Ex) (σ : St) => match e with | .normal => G P (fun _ _ => False) [.lp K1] none σ | .exit i => G P (fun _ _ => False) [.lp K1] (some i) σ | .ret => (fun (_ : Ex) (_ : St) => False) .ret σ) = (fun e σ => match e with | .normal => K1 σ | _ => False) := by
   funext e σ; cases e <;> rfl
  have h1'' : vc P x (fun (e : Ex) (σ : St) => match e with | .normal => G P (fun _ _ => False) [.lp K1] none σ | .exit i => G P (fun _ _ => False) [.lp K1] (some i) σ | .ret => (fun (_ : Ex) (_ : St) => False) .ret σ) ⟨y7d 0 args, []⟩ := h1
  rw [e1] at h1''
  exact h1''
 refine wp_seq (wp_mono (q2a (C := Ctx.mk P fn.ntmps w N (fun _ => False) []) hH okx ⟨_, hinit⟩ h1') (fun e a' w' hq => ?_))
 obtain ⟨e', he, σ1, hk1, hr1⟩ := hq
 cases e' with
 | exit _ => exact hk1.elim
 | ret => exact hk1.elim
 | normal =>
 cases e <;> simp only [y7k, Option.some.injEq] at he <;> first | (cases he; done) | skip
 refine wp_seq (wp_mono (y7q (C := Ctx.mk P fn.ntmps w N (fun _ => False) []) (Q := fun e σ => match e with | .normal => K2 σ | _ => False) hm okr hH (h2 σ1 hk1) hr1) (fun e a' w' hq => ?_))
 obtain ⟨e', he, σ2, hk2, hr2⟩ := hq
 cases e' with
 | exit _ => exact hk2.elim
 | ret => exact hk2.elim
 | normal =>
 cases e <;> simp only [y7k, Option.some.injEq] at he <;> first | (cases he; done) | skip
 have h3' : vc P y (fun (e : Ex) (σ : St) => match e with | .normal => G P (QR P fn res) [] none σ | .exit i => G P (QR P fn res) [] (some i) σ | .ret => QR P fn res .ret σ) σ2 := h3 σ2 hk2
 refine wp_mono (q2a (C := Ctx.mk P fn.ntmps w N (fun _ => False) []) hH oky hr2 h3') (fun e a' w' hq => ?_)
 obtain ⟨e', he, σ', hr, ρ', hrel⟩ := hq
 have hr := hret e' σ' hr
 have fin : z9i P fn res σ' → a'.defers = [] ∧ ∃ v, (results fn a'.tmps).run P w' = .ok v w' ∧ ∃ (v' : Value) (S : Nat → Prop), Ending.returned v = .returned v' ∧ qr w w' (fun _ => False) ∧ q1a w' (fun x => (N x ∨ w.heap.size ≤ x) ∧ ¬ S x) S res v' ∧ ∀ x, S x → w.heap.size ≤ x ∧ x < w'.heap.size := fun hret => by
  obtain ⟨v, ms, h1, h2, _⟩ := z29 hrel hret
  refine ⟨hrel.defers, v, h1, v, gS σ' ρ' ms, rfl, hrel.keep, h2.mono (fun x hx => ⟨?_, ?_⟩), fun x hx => ?_⟩
  · rcases hx.1 with h | h | h
    · exact .inl h
    · exact .inr h
    · exact h.elim
  · rintro ⟨γ, _, ⟨ab, hab⟩, hs⟩; exact hx.2 γ ab hab hs
  · obtain ⟨γ, _, ⟨ab, hab⟩, hs⟩ := hx
    exact ⟨(hrel.mine γ ab x hab hs).2.resolve_right (hM x), (hrel.mine γ ab x hab hs).1⟩
 cases e <;> simp only [y7k, Option.some.injEq] at he <;> first | (subst he) | cases he
 · exact fin hr
 · exact hr.elim
 · exact fin hr
end Go.Sx
end
section
namespace Go.Sx
section
variable {C : Ctx} {w : World} {ρ : Env} {b b' : List (Nat × AB)}
theorem y5g (h : get b = get b') : Bor C ρ b = Bor C ρ b' := by
 funext x
 simp only [Bor, h]
theorem z3c (h : get b = get b') : zu C w ρ b = zu C w ρ b' := by
 funext c v
 cases c <;> simp only [zu, q1n, y5g h, h]
theorem q83 (h : get b = get b') : qu C w ρ b = qu C w ρ b' := by
 have h1 : y01 C w ρ b = y01 C w ρ b' := by
  funext c v
  cases c <;> simp only [y01, z3c h]
 funext c v
 cases c <;> simp only [qu, h1]
theorem y83 (h : get b = get b') : z0l C w ρ b = z0l C w ρ b' := by
 have h1 : CC C w ρ b = CC C w ρ b' := by
  funext c
  cases c <;> simp only [CC, y5g h]
 funext β ab
 cases ab <;> simp only [z0l, z3c h, y5g h, h1]
theorem To.q0i {l : List (Nat × AV)} (h : ∀ β, get b' β = get b β) : To ⟨l, b⟩ ⟨l, b'⟩ := by
 have h : get b' = get b := funext h
 rintro C a w _ ⟨ρ, hr⟩
 refine ⟨ρ, ⟨fun t av ht => ?_, fun β ab hb => ?_, fun β β' ab ab' x h1 h2 h3 h4 => ?_, fun β ab x h1 h2 => ?_, hr.size, hr.defers, hr.keep, fun g hg => ?_⟩⟩
 · obtain ⟨v, h1, h2⟩ := hr.tmps t av ht
   exact ⟨v, h1, by rw [q83 h]; exact h2⟩
 · rw [y83 h]; exact hr.q0i β ab (by rw [← h]; exact hb)
 · exact hr.disj β β' ab ab' x (by rw [← h]; exact h1) (by rw [← h]; exact h2) h3 h4
 · exact hr.mine β ab x (by rw [← h]; exact h1) h2
 · rw [z3c h]; exact hr.ghost g hg
end
theorem q1u {l : List (Nat × AV)} : ∀ {n : List (Nat × AV)}, (∀ p ∈ n, get l p.1 = some p.2) → ∀ t av, get (n ++ l) t = some av → get l t = some av
 | [], _, t, av, h => h
 | p :: n, hn, t, av, h => by
   obtain ⟨k, v⟩ := p
   rw [List.cons_append, za] at h
   split at h
   · rename_i e
     have h1 := hn (k, v) (by simp)
     rw [← h, ← e]; exact h1
   · exact q1u (fun p hp => hn p (by simp [hp])) t av h
theorem z14 {l : List (Nat × AV)} : ∀ {n : List (Nat × AV)}, (∀ p ∈ n, get l p.1 = some p.2) → ∀ t av, get l t = some av → get (n ++ l) t = some av
 | [], _, t, av, h => h
 | p :: n, hn, t, av, h => by
   obtain ⟨k, v⟩ := p
   rw [List.cons_append, za]
   split
   · rename_i e
     have := hn (k, v) (by simp)
     rw [e] at this
     rw [h] at this
     exact this.symm
   · exact z14 (fun p hp => hn p (by simp [hp])) t av h
def za9 (f : Nat → Bool) (i : Nat) : Nat → Bool := fun j => bif Nat.beq j i then true else f j
theorem z3e (f : Nat → Bool) (i : Nat) : za9 f i i = true := by simp [za9]
theorem q3d {f : Nat → Bool} {i j : Nat} (h : j ≠ i) : za9 f i j = f j := by simp [za9, beq_false h]
def q77 (ops : Array Oper) (i j : Nat) : Bool := match ops[i]? with | some o => o.after.any fun e => Nat.beq e.on j && Region.binds .any e | none => false
theorem zao {ops : Array Oper} {listed : Array Bool} {i j : Nat} (h : i ∈ Region.ready .any ops listed) (hd : q77 ops i j = true) : listed.getD j false = true := by
 obtain ⟨_, o, ho, hall⟩ := mem_ready.1 h
 unfold q77 at hd
 rw [ho] at hd
 obtain ⟨e, he, hb⟩ := Array.any_eq_true'.1 hd
 simp only [Bool.and_eq_true] at hb
 have h1 : e.on = j := by simpa using hb.1
 rw [← h1]
 exact hall e he hb.2
def yaw (L : List (Option (Nat × AV))) (i : Nat) (T : List (Nat × AV)) : List (Nat × AV) := match L[i]? with | some (some p) => p :: T | _ => T
def y2r (L : List (Option (Nat × AV))) : List Nat → List (Nat × AV)
 | [] => []
 | j :: js => (match L[j]? with | some (some p) => p :: y2r L js | _ => y2r L js)
theorem z3d {L : List (Option (Nat × AV))} : ∀ {js : List Nat} {p : Nat × AV}, p ∈ y2r L js → ∃ j, j ∈ js ∧ L[j]? = some (some p)
 | [], p, h => by cases h
 | j :: js, p, h => by
   rw [y2r] at h
   split at h
   · rename_i q hq
     rcases List.mem_cons.1 h with rfl | h
     · exact ⟨j, by simp, hq⟩
     · obtain ⟨k, h1, h2⟩ := z3d h; exact ⟨k, by simp [h1], h2⟩
   · obtain ⟨k, h1, h2⟩ := z3d h; exact ⟨k, by simp [h1], h2⟩
def q9a (L : List (Option (Nat × AV))) (T0 : List (Nat × AV)) : Bool :=
 (List.range L.length).all fun i => match L[i]? with
   | some (some p) => ((List.range L.length).all fun j => Nat.beq i j || match L[j]? with | some (some q) => !(Nat.beq p.1 q.1) | _ => true) && T0.all fun q => !(Nat.beq p.1 q.1)
   | _ => true
def q64 : List (Nat × AV) → Bool
 | [] => true
 | p :: T => T.all (fun q => !(Nat.beq p.1 q.1)) && q64 T
theorem q3r : ∀ {T : List (Nat × AV)}, q64 T = true → ∀ {p : Nat × AV}, p ∈ T → get T p.1 = some p.2
 | [], _, p, hp => by cases hp
 | (k, v) :: T, h, p, hp => by
   simp only [q64, Bool.and_eq_true] at h
   rw [za]
   rcases List.mem_cons.1 hp with rfl | hp
   · rw [if_pos rfl]
   · rw [if_neg]
     · exact q3r h.2 hp
     · intro e
       have h1 := List.all_eq_true.1 h.1 p hp
       rw [show k = p.1 from e] at h1
       simp at h1
def JR (ops : Array Oper) (L : List (Option (Nat × AV))) (T0 : List (Nat × AV)) (Bs : (Nat → Bool) → List (Nat × AB)) (listed : Array Bool) (σ : St) : Prop :=
 ∃ (σ0 : St) (R : List (Nat × AV)) (f : Nat → Bool), To σ σ0 ∧ listed.size = ops.size ∧ (∀ j, listed.getD j false = f j) ∧ σ0 = ⟨R, Bs f⟩ ∧ (∀ j p, L[j]? = some (some p) → f j = true → get R p.1 = some p.2) ∧ (∀ p ∈ T0, get R p.1 = some p.2) ∧ ∀ j k, q77 ops j k = true → f j = true → f k = true
theorem JR.step {P : Program} {ops : Array Oper} {L : List (Option (Nat × AV))} {T0 : List (Nat × AV)} {Bs : (Nat → Bool) → List (Nat × AB)} {listed : Array Bool} {σ : St} {i : Nat} (js : List Nat) (hi : i ∈ Region.ready .any ops listed) (hJ : JR ops L T0 Bs listed σ) (hA : q9a L T0 = true) (hjs : (js.all fun j => q77 ops i j) = true)
 (hG : ∀ (R : List (Nat × AV)) (f : Nat → Bool), f i = false → (∀ j, q77 ops i j = true → f j = true) → (∀ j k, q77 ops j k = true → f j = true → f k = true) →
   zv P ops i ⟨y2r L js ++ (T0 ++ R), Bs f⟩ (fun σ' => To σ' ⟨yaw L i (y2r L js ++ (T0 ++ R)), Bs (za9 f i)⟩)) : zv P ops i σ (JR ops L T0 Bs (listed.setIfInBounds i true)) := by
 obtain ⟨σ0, R, f, hto, hsz, hf, rfl, hL, h0, hcl⟩ := hJ
 obtain ⟨hu, o, ho, hall⟩ := mem_ready.1 hi
 have hlt : i < ops.size := (Array.getElem?_eq_some_iff.1 ho).1
 have hfi : f i = false := by
  have := hf i
  rw [← this]
  have hs : i < listed.size := by omega
  simp [hs] at hu ⊢
  exact hu
 have hdp : ∀ j, q77 ops i j = true → f j = true := fun j hj => by rw [← hf j]; exact zao hi hj
 have hn1 : ∀ p ∈ T0, get R p.1 = some p.2 := h0
 have hT : ∀ p ∈ y2r L js, get (T0 ++ R) p.1 = some p.2 := fun p hp => by
  obtain ⟨j, hj, hp⟩ := z3d hp
  have := List.all_eq_true.1 hjs j hj
  exact z14 hn1 _ _ (hL j p hp (hdp j this))
 have hto2 : To ⟨R, Bs f⟩ ⟨y2r L js ++ (T0 ++ R), Bs f⟩ := To.tmps fun t av h => q1u hn1 t av (q1u hT t av h)
 have hup : ∀ t av, get R t = some av → get (y2r L js ++ (T0 ++ R)) t = some av := fun t av h => z14 hT t av (z14 hn1 t av h)
 refine zv.to (hto.trans hto2) (zv.post (fun σ' hk => ⟨σ', ?_, To.refl _⟩) (hG R f hfi hdp hcl))
 refine ⟨_, yaw L i (y2r L js ++ (T0 ++ R)), za9 f i, hk, by simpa using hsz, fun j => ?_, rfl, fun j p hp hfj => ?_, fun p hp => ?_, fun j k hd hfj => ?_⟩
 · by_cases hji : j = i
   · subst hji
     rw [z3e]
     have hs : j < listed.size := by omega
     simp [hs]
   · rw [q3d hji, getD_set_ne false (Ne.symm hji)]; exact hf j
 · unfold yaw
   by_cases hji : j = i
   · subst hji; rw [hp]; show get (p :: _) p.1 = _; obtain ⟨k, v⟩ := p; rw [za, if_pos rfl]
   · rw [q3d hji] at hfj
     have h1 := hup _ _ (hL j p hp hfj)
     split
     · rename_i q hq
       have h2 := List.all_eq_true.1 hA i (List.mem_range.2 (List.getElem?_eq_some_iff.1 hq).1)
       rw [hq] at h2
       simp only [Bool.and_eq_true] at h2
       have h3 := List.all_eq_true.1 h2.1 j (List.mem_range.2 (List.getElem?_eq_some_iff.1 hp).1)
       rw [hp] at h3
       simp only [Bool.or_eq_true, Bool.not_eq_true'] at h3
       obtain ⟨kq, vq⟩ := q
       rw [za, if_neg]
       · exact h1
       · rcases h3 with h3 | h3
         · exact absurd (Nat.eq_of_beq_eq_true h3).symm hji
         · intro e; rw [show kq = p.1 from e] at h3; simp at h3
     · exact h1
 · unfold yaw
   have h1 := hup _ _ (h0 p hp)
   split
   · rename_i q hq
     have h2 := List.all_eq_true.1 hA i (List.mem_range.2 (List.getElem?_eq_some_iff.1 hq).1)
     rw [hq] at h2
     simp only [Bool.and_eq_true] at h2
     have h3 := List.all_eq_true.1 h2.2 p hp
     obtain ⟨kq, vq⟩ := q
     rw [za, if_neg]
     · exact h1
     · intro e; rw [show kq = p.1 from e] at h3; simp at h3
   · exact h1
 · by_cases hji : j = i
   · subst hji
     by_cases hki : k = j
     · subst hki; exact z3e _ _
     · rw [q3d hki]; exact hdp k hd
   · rw [q3d hji] at hfj
     by_cases hki : k = i
     · subst hki; exact z3e _ _
     · rw [q3d hki]; exact hcl j k hd hfj
def qbb (p : Nat → Prop) : Nat → Nat → Prop
 | 0, _ => True
 | n + 1, k => p k ∧ qbb p n (k + 1)
theorem y63 {p : Nat → Prop} : ∀ {n k i : Nat}, qbb p n k → k ≤ i → i < k + n → p i
 | 0, k, i, _, h1, h2 => by omega
 | n + 1, k, i, h, h1, h2 => by
   by_cases e : k = i
   · subst e; exact h.1
   · exact y63 (n := n) h.2 (by omega) (by omega)
theorem qag.table {P : Program} {ops : Array Oper} {σ : St} {K : St → Prop} (L : List (Option (Nat × AV))) (T0 : List (Nat × AV)) (Bs : (Nat → Bool) → List (Nat × AB)) (hA : q9a L T0 = true) (hup : (ops.toList.zipIdx.all fun p => p.1.after.all fun e => Nat.blt e.on p.2) = true) (js : Nat → List Nat) (hjs : ((List.range ops.size).all fun i => (js i).all fun j => q77 ops i j) = true)
 (h0 : To σ ⟨T0, Bs fun _ => false⟩)
 (hG : qbb (fun i => ∀ (R : List (Nat × AV)) (f : Nat → Bool), f i = false → (∀ j, q77 ops i j = true → f j = true) → (∀ j k, q77 ops j k = true → f j = true → f k = true) → zv P ops i ⟨y2r L (js i) ++ (T0 ++ R), Bs f⟩ (fun σ' => To σ' ⟨yaw L i (y2r L (js i) ++ (T0 ++ R)), Bs (za9 f i)⟩)) ops.size 0)
 (hK : ∀ R : List (Nat × AV), (∀ (j : Nat) p, j < ops.size → L[j]? = some (some p) → get R p.1 = some p.2) → (∀ p ∈ T0, get R p.1 = some p.2) → ∃ σ', To ⟨R, Bs fun _ => true⟩ σ' ∧ K σ')
 (hBs : ∀ f : Nat → Bool, (∀ i, i < ops.size → f i = true) → Bs f = Bs fun _ => true) (hT0 : q64 T0 = true) : qag P ops σ K := by
 refine ⟨JR ops L T0 Bs, ⟨_, T0, fun _ => false, h0, by simp, fun j => ?_, rfl, fun j p _ h => Bool.noConfusion h, fun p hp => ?_, fun j k _ h => Bool.noConfusion h⟩, fun listed σ i hJ hi => ?_, fun listed σ hJ hn => ?_⟩
 · rcases Nat.lt_or_ge j ops.size with h | h
   · simp [h]
   · simp [Nat.not_lt.2 h]
 · exact q3r hT0 hp
 · have hlt : i < ops.size := by obtain ⟨_, o, ho, _⟩ := mem_ready.1 hi; exact (Array.getElem?_eq_some_iff.1 ho).1
   exact JR.step (js i) hi hJ hA (List.all_eq_true.1 hjs i (List.mem_range.2 hlt)) (y63 hG (Nat.zero_le _) (by omega))
 · obtain ⟨σ0, R, f, hto, hsz, hf, rfl, hL, h0, hcl⟩ := hJ
   have hall : ∀ i, i < ops.size → f i = true := fun i hi => by
    have h1 := y82 hup hn i hi
    rw [← hf i]
    have hs : i < listed.size := by omega
    simpa [hs] using h1
   obtain ⟨σ', h1, h2⟩ := hK R (fun j p hj hp => hL j p hp (hall j hj)) h0
   rw [← hBs f hall] at h1
   exact ⟨σ', hto.trans h1, h2⟩
end Go.Sx
end
section
namespace Go.Sx
open Go.RowKit (Below)
def gAC (t : Nat) : GC → AC
 | .bor c => .b c
 | .giv _ _ rows => .h (1000000000 + t) rows.length
def q9t : Nat → List GC → List AC
 | _, [] => []
 | t, c :: l => gAC t c :: q9t (t + 1) l
def gAV (t : Nat) : GA → AV
 | .one c => .one (gAC t c)
 | .agg cs => .agg (q9t t cs)
def gT : Nat → Nat → List GA → List (Nat × AV)
 | _, _, [] => []
 | i, t, .one c :: l => (i, gAV t (.one c)) :: gT (i + 1) (t + 1) l
 | i, t, .agg cs :: l => (i, gAV t (.agg cs)) :: gT (i + 1) (t + cs.length) l
def gB : Nat → List GC → List (Nat × AB)
 | _, [] => []
 | t, .bor _ :: l => gB (t + 1) l
 | t, .giv full sz rows :: l => (1000000000 + t, .arr full sz 0 rows) :: gB (t + 1) l
def z2k : Nat → List GC → List Value → List (AC × Value)
 | t, .giv _ _ rows :: l, u :: us => (.h (1000000000 + t) rows.length, u) :: z2k (t + 1) l us
 | t, .bor _ :: l, _ :: us => z2k (t + 1) l us
 | _, _, _ => []
def z66 (args : List GA) (σ : St) : List (Nat × List (List Cell)) → Prop
 | [] => True
 | (t, rows') :: l => (match nth (gcs args) t, get σ.b (1000000000 + t) with
   | some (.giv full sz rows), some (.arr full' sz' _ rows'') => full' = full ∧ sz' = sz ∧ rows'' = rows' ∧ rows'.length = rows.length ∧ y29 rows rows'
   | _, _ => False) ∧ z66 args σ l
def keys {α : Type} : List (Nat × α) → List Nat
 | [] => []
 | (t, _) :: l => (1000000000 + t) :: keys l
def ybr (P : Program) (fn : Func) (args : List GA) (res : Res) (back : List (Nat × List (List Cell))) (σ : St) : Prop := q4h P fn res (keys back) σ ∧ z66 args σ back
def QG (P : Program) (fn : Func) (args : List GA) (res : Res) (back : List (Nat × List (List Cell))) (e : Ex) (σ : St) : Prop := match e with | .exit _ => False | _ => ybr P fn args res back σ
theorem z1z {P : Program} {fn : Func} {args : List GA} {res : Res} {back : List (Nat × List (List Cell))} {e : Ex} {σ : St} (he : (match e with | .exit _ => false | _ => true) = true) (h : q4h P fn res (keys back) σ) (hb : z66 args σ back) : QG P fn args res back e σ := by
 cases e with
 | exit i => cases he
 | _ => exact ⟨h, hb⟩
section
variable {C : Ctx} {σ : St} {ρ : Env} {a : Act} {w : World}
theorem y6a : ∀ (t : Nat) (cs : List GC), (q9t t cs).length = cs.length
 | _, [] => rfl
 | t, c :: l => by simp [q9t, y6a (t + 1) l]
theorem z6a : ∀ {t : Nat} {cs : List GC} {k : Nat} {c : AC}, (q9t t cs)[k]? = some c → ∃ g, cs[k]? = some g ∧ c = gAC (t + k) g
 | t, [], k, c, h => by simp [q9t] at h
 | t, g :: l, k, c, h => by
   cases k with
   | zero => cases h; exact ⟨g, rfl, rfl⟩
   | succ k =>
     obtain ⟨g', h1, h2⟩ := z6a (t := t + 1) (cs := l) (k := k) (by simpa [q9t] using h)
     exact ⟨g', by simpa using h1, by rw [h2]; congr 1; omega⟩
theorem z7n {B : List (Nat × AB)} : ∀ {args : List GA} {vals : List Value} {i t0 : Nat}, y3e args vals → (∀ (t : Nat) (g : GC) (u : Value), (gcs args)[t]? = some g → (y0i args vals)[t]? = some u → zu C w ρ B (gAC (t0 + t) g) u) →
 ∀ {k : Nat} {av : AV}, get (gT i t0 args) k = some av → ∃ j v, k = i + j ∧ vals[j]? = some v ∧ qu C w ρ B av v
 | [], vals, i, t0, _, _, k, av, h => by cases h
 | .one c :: l, [], i, t0, hs, _, k, av, h => hs.elim
 | .agg c :: l, [], i, t0, hs, _, k, av, h => hs.elim
 | .one c :: l, v :: vs, i, t0, hs, hX, k, av, h => by
   rw [gT, za] at h
   by_cases hk : i = k
   · rw [if_pos hk] at h
     cases h
     exact ⟨0, v, by omega, rfl, hX 0 c v rfl rfl⟩
   · rw [if_neg hk] at h
     obtain ⟨j, v', h1, h2, h3⟩ := z7n (args := l) (vals := vs) (t0 := t0 + 1) hs (fun t g u hg hu => by
      have := hX (t + 1) g u (by simpa [gcs] using hg) (by simpa [y0i] using hu)
      rwa [show t0 + (t + 1) = t0 + 1 + t by omega] at this) h
     exact ⟨j + 1, v', by omega, by simpa using h2, h3⟩
 | .agg cs :: l, v :: vs, i, t0, hs, hX, k, av, h => by
   obtain ⟨⟨arr, rfl, h0⟩, hs⟩ := hs
   rw [gT, za] at h
   by_cases hk : i = k
   · rw [if_pos hk] at h
     cases h
     refine ⟨0, _, by omega, rfl, arr, rfl, by rw [y6a, h0], fun k c u hc hu => ?_⟩
     obtain ⟨g, hg, rfl⟩ := z6a hc
     have hlt := (List.getElem?_eq_some_iff.1 hg).1
     refine hX k g u ?_ ?_
     · simp only [gcs]; rw [List.getElem?_append_left hlt]; exact hg
     · simp only [y0i]; rw [List.getElem?_append_left (by rw [Array.length_toList]; omega), Array.getElem?_toList]; exact hu
   · rw [if_neg hk] at h
     obtain ⟨j, v', h1, h2, h3⟩ := z7n (args := l) (vals := vs) (t0 := t0 + cs.length) hs (fun t g u hg hu => by
      have := hX (cs.length + t) g u (by simp only [gcs]; rw [List.getElem?_append_right (by omega)]; simpa using hg) (by
       have e : arr.toList.length = cs.length := (Array.length_toList).trans h0
       simp only [y0i]; rw [List.getElem?_append_right (by omega), e]; simpa using hu)
      rwa [← Nat.add_assoc] at this) h
     exact ⟨j + 1, v', by omega, by simpa using h2, h3⟩
theorem y4w : ∀ {t0 : Nat} {cs : List GC} {β : Nat} {ab : AB}, get (gB t0 cs) β = some ab → ∃ k full sz rows, β = 1000000000 + (t0 + k) ∧ cs[k]? = some (.giv full sz rows) ∧ ab = .arr full sz 0 rows
 | t0, [], β, ab, h => by cases h
 | t0, .bor c :: l, β, ab, h => by
   obtain ⟨k, full, sz, rows, h1, h2, h3⟩ := y4w (t0 := t0 + 1) (cs := l) h
   exact ⟨k + 1, full, sz, rows, by omega, by simpa using h2, h3⟩
 | t0, .giv full sz rows :: l, β, ab, h => by
   rw [gB, za] at h
   by_cases hb : 1000000000 + t0 = β
   · rw [if_pos hb] at h; cases h; exact ⟨0, full, sz, rows, by omega, rfl, rfl⟩
   · rw [if_neg hb] at h
     obtain ⟨k, full, sz, rows, h1, h2, h3⟩ := y4w (t0 := t0 + 1) (cs := l) h
     exact ⟨k + 1, full, sz, rows, by omega, by simpa using h2, h3⟩
theorem q7m : ∀ {t0 : Nat} {cs : List GC} {k : Nat} {full : Bool} {sz : Nat} {rows : List (List Cell)}, cs[k]? = some (.giv full sz rows) → get (gB t0 cs) (1000000000 + (t0 + k)) = some (.arr full sz 0 rows)
 | t0, [], k, full, sz, rows, h => by simp at h
 | t0, .bor c :: l, k, full, sz, rows, h => by
   cases k with
   | zero => cases h
   | succ k =>
     have := q7m (t0 := t0 + 1) (cs := l) (k := k) (by simpa using h)
     rw [show t0 + (k + 1) = t0 + 1 + k by omega]; exact this
 | t0, .giv full' sz' rows' :: l, k, full, sz, rows, h => by
   cases k with
   | zero => cases h; rw [gB, za, if_pos (by omega)]
   | succ k =>
     have := q7m (t0 := t0 + 1) (cs := l) (k := k) (by simpa using h)
     rw [gB, za, if_neg (by omega), show t0 + (k + 1) = t0 + 1 + k by omega]; exact this
theorem q1k : ∀ {t0 : Nat} {cs : List GC} {us : List Value} {g : AC × Value}, g ∈ z2k t0 cs us → ∃ k full sz rows u, g = (.h (1000000000 + (t0 + k)) rows.length, u) ∧ cs[k]? = some (.giv full sz rows) ∧ us[k]? = some u
 | t0, [], us, g, h => by cases us <;> simp [z2k] at h
 | t0, .bor c :: l, [], g, h => by simp [z2k] at h
 | t0, .giv _ _ _ :: l, [], g, h => by simp [z2k] at h
 | t0, .bor c :: l, u :: us, g, h => by
   obtain ⟨k, full, sz, rows, u', h1, h2, h3⟩ := q1k (t0 := t0 + 1) (cs := l) (us := us) h
   exact ⟨k + 1, full, sz, rows, u', by rw [h1, show t0 + 1 + k = t0 + (k + 1) by omega], by simpa using h2, by simpa using h3⟩
 | t0, .giv full sz rows :: l, u :: us, g, h => by
   rcases List.mem_cons.1 h with rfl | h
   · exact ⟨0, full, sz, rows, u, rfl, rfl, rfl⟩
   · obtain ⟨k, full, sz, rows, u', h1, h2, h3⟩ := q1k (t0 := t0 + 1) (cs := l) (us := us) h
     exact ⟨k + 1, full, sz, rows, u', by rw [h1, show t0 + 1 + k = t0 + (k + 1) by omega], by simpa using h2, by simpa using h3⟩
theorem z2c : ∀ {t0 : Nat} {cs : List GC} {us : List Value} {k : Nat} {full : Bool} {sz : Nat} {rows : List (List Cell)} {u : Value}, cs[k]? = some (.giv full sz rows) → us[k]? = some u → (AC.h (1000000000 + (t0 + k)) rows.length, u) ∈ z2k t0 cs us
 | t0, [], us, k, full, sz, rows, u, h, _ => by simp at h
 | t0, c :: l, [], k, full, sz, rows, u, _, h => by simp at h
 | t0, .bor c :: l, u' :: us, k, full, sz, rows, u, h, h' => by
   cases k with
   | zero => cases h
   | succ k =>
     have := z2c (t0 := t0 + 1) (cs := l) (us := us) (k := k) (by simpa using h) (by simpa using h')
     rw [show t0 + (k + 1) = t0 + 1 + k by omega]; exact this
 | t0, .giv full' sz' rows' :: l, u' :: us, k, full, sz, rows, u, h, h' => by
   cases k with
   | zero => cases h; cases h'; exact List.mem_cons_self ..
   | succ k =>
     have := z2c (t0 := t0 + 1) (cs := l) (us := us) (k := k) (by simpa using h) (by simpa using h')
     rw [show t0 + (k + 1) = t0 + 1 + k by omega]; exact List.mem_cons_of_mem _ this
theorem y2b {args : List GA} : ∀ {back : List (Nat × List (List Cell))} {t : Nat} {rows' : List (List Cell)}, z66 args σ back → get back t = some rows' → (1000000000 + t) ∈ keys back ∧ ∃ full sz rows ep, (gcs args)[t]? = some (.giv full sz rows) ∧ get σ.b (1000000000 + t) = some (.arr full sz ep rows') ∧ rows'.length = rows.length ∧ y29 rows rows'
 | [], t, rows', _, h => by cases h
 | (k, r) :: l, t, rows', hb, h => by
   rw [za] at h
   by_cases hk : k = t
   · subst hk
     rw [if_pos rfl] at h
     cases h
     refine ⟨List.mem_cons_self .., ?_⟩
     have h1 := hb.1
     split at h1
     · rename_i full sz rows full' sz' ep rows'' e1 e2
       obtain ⟨rfl, rfl, rfl, h2, h3⟩ := h1
       rw [z25] at e1
       exact ⟨_, _, rows, ep, e1, e2, h2, h3⟩
     · exact h1.elim
   · rw [if_neg hk] at h
     obtain ⟨h1, h2⟩ := y2b hb.2 h
     exact ⟨List.mem_cons_of_mem _ h1, h2⟩
end
theorem CN.mono {w : World} {N N' : Nat → Prop} {full : Bool} {F : Nat → Prop} {c : Cell} {u : Value} (h : CN w N full F c u) (hN : ∀ x, x < w.heap.size → N x → N' x) : CN w N' full F c u := by
 cases full with
 | true => exact h
 | false => exact Rep.mono h hN
theorem PG.begin {P : Program} {f : Nat} {fn : Func} {c : Code} {args : List GA} {res : Res} {back : List (Nat × List (List Cell))} (hf : P.funcs[f]? = some fn) (hb : fn.body = some c) (hok : (okF P f && q0p fn.ntmps c && Nat.ble args.length fn.ntmps) = true)
 (h : G P (QG P fn args res back) [.code c] none ⟨gT 0 0 args, gB 0 (gcs args)⟩) : PG P f args res back := by
 simp only [Bool.and_eq_true] at hok
 obtain ⟨⟨ho1, ho2⟩, ho3⟩ := hok
 refine ⟨ho1, fun N S w vals hS1 hS2 hsh hcell => ?_⟩
 refine calls_of_wp hf hb ?_
 have hle : args.length ≤ fn.ntmps := Nat.le_of_ble_eq_true ho3
 have hshl : ∀ {args : List GA} {vals : List Value}, y3e args vals → vals.length = args.length := by
  intro args
  induction args with
  | nil => intro vals h; cases vals with | nil => rfl | cons _ _ => exact h.elim
  | cons ga l ih =>
    intro vals h
    cases vals with
    | nil => cases ga <;> exact h.elim
    | cons v vs =>
      cases ga with
      | one c => simp [ih (vals := vs) h]
      | agg cs => simp [ih (vals := vs) h.2]
 have hvl : vals.size = args.length := by simpa using hshl hsh
 have hlen := z2b hsh
 generalize hC : Ctx.mk P fn.ntmps w N (fun x => ∃ t, S t x) (z2k 0 (gcs args) (y0i args vals.toList)) = C
 generalize hρ : (⟨fun β => ((y0i args vals.toList)[β - 1000000000]?).getD undef, fun β x => S (β - 1000000000) x⟩ : Env) = ρ
 have hname : ∀ t, 1000000000 + t - 1000000000 = t := fun t => by omega
 have hNB : ∀ x, N x → Bor C ρ (gB 0 (gcs args)) x := fun x hx => by
  refine ⟨?_, fun β ab hg hs => ?_⟩
  · rw [← hC]; exact .inl hx
  · rw [← hρ] at hs; exact (hS1 _ x hs).2 hx
 have hAC : ∀ (t : Nat) (g : GC) (u : Value), (gcs args)[t]? = some g → (y0i args vals.toList)[t]? = some u → zu C w ρ (gB 0 (gcs args)) (gAC (0 + t) g) u := fun t g u hg hu => by
  have hc := hcell t g u hg hu
  cases g with
  | bor c => exact Rep.mono hc (fun x _ hx => hNB x hx)
  | giv full sz rows =>
    obtain ⟨sz', _, hslab⟩ := hc
    obtain ⟨A, cap, rfl⟩ := hslab.slice
    refine ⟨⟨A, cap, rfl⟩, _, q7m hg, fun full' sz1 ep rows' he => ?_⟩
    cases he
    refine ⟨Nat.le_refl _, fun _ => ?_⟩
    rw [← hρ]
    simp only [Nat.zero_add, hname, hu, Option.getD_some]
 have hinit : ye C ⟨gT 0 0 args, gB 0 (gcs args)⟩ ρ { tmps := vals ++ Array.replicate (fn.ntmps - vals.size) undef, defers := [] } w := by
  refine ⟨fun t av ht => ?_, fun β ab hg => ?_, fun β β' ab ab' x hg hg' hx hx' => ?_, fun β ab x hg hx => ?_, ?_, rfl, ?_, fun g hg => ?_⟩
  · obtain ⟨j, v, h1, h2, h3⟩ := z7n hsh hAC ht
    have hj : j < vals.size := by have := (List.getElem?_eq_some_iff.1 h2).1; simpa using this
    refine ⟨v, ?_, h3⟩
    have htj : t = j := by omega
    subst htj
    rw [Array.getElem?_append, if_pos hj]
    simpa using h2
  · obtain ⟨k, full, sz, rows, rfl, h2, rfl⟩ := y4w hg
    have hlt : k < (y0i args vals.toList).length := by rw [hlen]; exact (List.getElem?_eq_some_iff.1 h2).1
    obtain ⟨sz', hsz, hslab⟩ := hcell k _ _ h2 (List.getElem?_eq_getElem hlt)
    refine ⟨sz', hsz, ?_⟩
    have e1 : ρ.v (1000000000 + (0 + k)) = (y0i args vals.toList)[k] := by
     rw [← hρ]; simp only [Nat.zero_add, hname, List.getElem?_eq_getElem hlt, Option.getD_some]
    have e2 : ρ.S (1000000000 + (0 + k)) = S k := by
     rw [← hρ]; simp only [Nat.zero_add, hname]
    rw [e1, e2, z9k (σ := ⟨[], gB 0 (gcs args)⟩)]
    exact y0h.imp hslab (fun _ h => h) (fun _ _ _ => rfl) (fun _ _ _ _ hc => CN.mono hc (fun x _ hx => hNB x hx))
  · obtain ⟨k, _, _, _, rfl, _, _⟩ := y4w hg
    obtain ⟨k', _, _, _, rfl, _, _⟩ := y4w hg'
    rw [← hρ] at hx hx'
    have := hS2 _ _ x hx hx'
    omega
  · rw [← hρ] at hx
    refine ⟨(hS1 _ x hx).1, .inr ?_⟩
    rw [← hC]; exact ⟨_, hx⟩
  · rw [← hC]
    show (vals ++ Array.replicate (fn.ntmps - vals.size) undef).size = fn.ntmps
    rw [Array.size_append, Array.size_replicate]
    omega
  · rw [← hC]; exact qr.refl _ _
  · rw [← hC] at hg
    obtain ⟨k, full, sz, rows, u, rfl, h2, h3⟩ := q1k hg
    exact hAC k (.giv full sz rows) u h2 h3
 have hCP : C.P = P := by rw [← hC]
 have hCT : C.T = fn.ntmps := by rw [← hC]
 have hQ : vc C.P c (fun (e : Ex) (σ : St) => match e with | .normal => G P (QG P fn args res back) [] none σ | .exit i => G P (QG P fn args res back) [] (some i) σ | .ret => QG P fn args res back .ret σ) ⟨gT 0 0 args, gB 0 (gcs args)⟩ := by rw [hCP]; exact h
 have hwp := q2a (C := C) (fun g hg => by
  rw [← hC] at hg
  obtain ⟨k, _, _, _, _, rfl, _, _⟩ := q1k hg
  exact Nat.le_add_right _ _) (by rw [hCT]; exact ho2) ⟨ρ, hinit⟩ hQ
 rw [hCP] at hwp
 refine wp_mono hwp (fun e a' w' hq => ?_)
 obtain ⟨e', he, σ', hr, ρ', hrel⟩ := hq
 have fin : ybr P fn args res back σ' → a'.defers = [] ∧ ∃ v, (results fn a'.tmps).run P w' = .ok v w' ∧ ∃ (v' : Value) (SR : Nat → Prop) (SB : Nat → Nat → Prop), Ending.returned v = .returned v' ∧ qr w w' (fun x => ∃ t, S t x) ∧ q1a w' (Rest N w S SR SB) SR res v' ∧
  (∀ x, SR x → (w.heap.size ≤ x ∨ ∃ t, S t x) ∧ x < w'.heap.size ∧ ∀ t, ¬ SB t x) ∧ (∀ t x, SB t x → (w.heap.size ≤ x ∨ ∃ t, S t x) ∧ x < w'.heap.size) ∧ (∀ t t' x, SB t x → SB t' x → t = t') ∧
  ∀ (t : Nat) (rows' : List (List Cell)), get back t = some rows' → ∀ (full : Bool) (sz : Nat) (rows : List (List Cell)) (u : Value), (gcs args)[t]? = some (.giv full sz rows) → (y0i args vals.toList)[t]? = some u →
    rows'.length = rows.length ∧ (∀ (i : Nat) (row row' : List Cell), rows[i]? = some row → rows'[i]? = some row' → row'.length = row.length) ∧ ∃ sz', (sz ≠ 0 → sz' = sz) ∧ y0h w' (CN w' (Rest N w S SR SB) full) (SB t) sz' rows' u := fun hret => by
  obtain ⟨hret, hbk⟩ := hret
  rw [← hCP] at hret
  obtain ⟨v, ms, h1, h2, h3⟩ := z29 hrel hret
  rw [hCP] at h1
  have hmine : ∀ β ab x, get σ'.b β = some ab → ρ'.S β x → x < w'.heap.size ∧ (w.heap.size ≤ x ∨ ∃ t, S t x) := by
   have := hrel.mine
   rw [← hC] at this
   exact this
  have hkeep : qr w w' (fun x => ∃ t, S t x) := by
   have := hrel.keep
   rw [← hC] at this
   exact this
  have hfree : ∀ x, Bor C ρ' σ'.b x → N x ∨ w.heap.size ≤ x ∨ ∃ t, S t x := by
   intro x hx
   have := hx.1
   rw [← hC] at this
   exact this
  have hrest : ∀ x, Bor C ρ' σ'.b x → Rest N w S (gS σ' ρ' ms) (fun t x => (get back t).isSome = true ∧ (∃ ab, get σ'.b (1000000000 + t) = some ab) ∧ ρ'.S (1000000000 + t) x) x := fun x hx =>
   ⟨hfree x hx, fun ⟨γ, _, ⟨ab, hab⟩, hs⟩ => hx.2 γ ab hab hs, fun t ⟨_, ⟨ab, hab⟩, hs⟩ => hx.2 _ ab hab hs⟩
  have hkey : ∀ t, (get back t).isSome = true → (1000000000 + t) ∈ keys back := fun t ht => by
   obtain ⟨rows', hr'⟩ := Option.isSome_iff_exists.1 ht
   exact (y2b hbk hr').1
  refine ⟨hrel.defers, v, h1, v, gS σ' ρ' ms, fun t x => (get back t).isSome = true ∧ (∃ ab, get σ'.b (1000000000 + t) = some ab) ∧ ρ'.S (1000000000 + t) x, rfl, hkeep, h2.mono hrest, fun x hx => ?_, fun t x hx => ?_, fun t t' x hx hx' => ?_, fun t rows' ht full sz rows u hg hu => ?_⟩
  · obtain ⟨γ, hγ, ⟨ab, hab⟩, hs⟩ := hx
    refine ⟨(hmine γ ab x hab hs).2, (hmine γ ab x hab hs).1, fun t ⟨h4, ⟨ab', hab'⟩, h6⟩ => ?_⟩
    have := hrel.disj γ _ ab ab' x hab hab' hs h6
    exact h3 γ hγ (this ▸ hkey t h4)
  · obtain ⟨_, ⟨ab, hab⟩, hs⟩ := hx
    exact ⟨(hmine _ ab x hab hs).2, (hmine _ ab x hab hs).1⟩
  · obtain ⟨_, ⟨ab, hab⟩, hs⟩ := hx
    obtain ⟨_, ⟨ab', hab'⟩, hs'⟩ := hx'
    have := hrel.disj _ _ ab ab' x hab hab' hs hs'
    omega
  · obtain ⟨_, full1, sz1, rows1, ep, e1, e2, e3, e4⟩ := y2b hbk ht
    rw [hg] at e1
    cases e1
    refine ⟨e3, e4, ?_⟩
    obtain ⟨sz', hsz, hslab⟩ := hrel.q0i _ _ e2
    refine ⟨sz', hsz, ?_⟩
    have hgh := hrel.ghost (.h (1000000000 + (0 + t)) rows.length, u) (by rw [← hC]; exact z2c hg hu)
    obtain ⟨_, ab, h5, h6⟩ := hgh
    simp only [Nat.zero_add] at h5 h6
    rw [e2] at h5
    cases h5
    rw [(h6 _ _ _ _ rfl).2 e3.symm]
    rw [z9k] at hslab
    exact y0h.imp hslab (fun x hx => ⟨by rw [ht]; rfl, ⟨_, e2⟩, hx⟩) (fun _ _ _ => rfl) (fun _ _ _ _ hc => CN.mono hc (fun x _ hx => hrest x hx))
 cases e <;> simp only [y7k, Option.some.injEq] at he <;> first | (subst he) | cases he
 · exact fin hr
 · exact hr.elim
 · exact fin hr
def y55 (t : Nat) : PK → AC
 | .k _ => .mx 2 (1100000000 + t)
 | .n (.s v) _ => .b (.s v)
 | .n (.l _ rows) _ => .h (1100000000 + t) rows.length
 | .b _ rows _ => .h (1100000000 + t) rows.length
def y81 : Nat → List PK → List AC
 | _, [] => []
 | t, c :: l => y55 t c :: y81 (t + 1) l
def pkB : Nat → List PK → List (Nat × AB)
 | _, [] => []
 | t, .k c :: l => (1100000000 + t, .kp c) :: pkB (t + 1) l
 | t, .n (.s _) _ :: l => pkB (t + 1) l
 | t, .n (.l sz rows) _ :: l => (1100000000 + t, .arr true sz 0 rows) :: pkB (t + 1) l
 | t, .b sz rows _ :: l => (1100000000 + t, .arr true sz 0 rows) :: pkB (t + 1) l
def z6m (p : Nat) : Nat → List SV → List (Nat × AV)
 | _, [] => []
 | i, sv :: l => (i, bif Nat.beq i p then .one (.a 1100000000 0) else zay sv) :: z6m p (i + 1) l
def q5f (σ : St) : Nat → List AC → List PK → Prop
 | _, [], [] => True
 | t, c :: l, .k _ :: l' => (c = .mx 2 (1100000000 + t) ∧ (match get σ.b (1100000000 + t) with | some (.kp _) => True | _ => False)) ∧ q5f σ (t + 1) l l'
 | t, c :: l, .n _ c' :: l' => mOC σ.b c c' ∧ q5f σ (t + 1) l l'
 | t, c :: l, .b sz rows rows' :: l' => (c = .h (1100000000 + t) rows.length ∧ (match get σ.b (1100000000 + t) with | some (.arr true sz' _ rows'') => sz' = sz ∧ rows'' = rows' ∧ rows'.length = rows.length ∧ y29 rows rows' | _ => False)) ∧ q5f σ (t + 1) l l'
 | _, _, _ => False
def yax (P : Program) (fn : Func) (cs : List PK) (res : Res) (σ : St) : Prop := match get σ.b 1100000000 with
 | some (.var acs) => q5f σ 1 acs cs ∧ q4h P fn res (1100000000 :: q0s acs cs) σ
 | _ => False
def QP (P : Program) (fn : Func) (cs : List PK) (res : Res) (e : Ex) (σ : St) : Prop := match e with | .exit _ => False | _ => yax P fn cs res σ
theorem q97 {P : Program} {fn : Func} {cs : List PK} {res : Res} {e : Ex} {σ : St} {acs : List AC} (he : (match e with | .exit _ => false | _ => true) = true) (hg : get σ.b 1100000000 = some (.var acs)) (hb : q5f σ 1 acs cs) (h : q4h P fn res (1100000000 :: q0s acs cs) σ) : QP P fn cs res e σ := by
 have h1 : yax P fn cs res σ := by unfold yax; rw [hg]; exact ⟨hb, h⟩
 cases e with
 | exit i => cases he
 | _ => exact h1
def ghP : Nat → List PK → List Value → List (AC × Value)
 | t, .k _ :: l, u :: us => (.mx 2 (1100000000 + t), u) :: ghP (t + 1) l us
 | t, .b _ rows _ :: l, u :: us => (.h (1100000000 + t) rows.length, u) :: ghP (t + 1) l us
 | t, .n _ _ :: l, _ :: us => ghP (t + 1) l us
 | _, _, _ => []
theorem q6e : ∀ (t : Nat) (cs : List PK), (y81 t cs).length = cs.length
 | _, [] => rfl
 | t, c :: l => by simp [y81, q6e (t + 1) l]
theorem y6e : ∀ {t : Nat} {cs : List PK} {k : Nat} {c : AC}, (y81 t cs)[k]? = some c → ∃ q, cs[k]? = some q ∧ c = y55 (t + k) q
 | t, [], k, c, h => by simp [y81] at h
 | t, q :: l, k, c, h => by
   cases k with
   | zero => cases h; exact ⟨q, rfl, rfl⟩
   | succ k =>
     obtain ⟨q', h1, h2⟩ := y6e (t := t + 1) (cs := l) (k := k) (by simpa [y81] using h)
     exact ⟨q', by simpa using h1, by rw [h2]; congr 1; omega⟩
def yav : PK → Option AB
 | .k c => some (.kp c)
 | .n (.s _) _ => none
 | .n (.l sz rows) _ => some (.arr true sz 0 rows)
 | .b sz rows _ => some (.arr true sz 0 rows)
theorem q80 : ∀ {t : Nat} {cs : List PK} {β : Nat} {ab : AB}, get (pkB t cs) β = some ab → ∃ k q, β = 1100000000 + (t + k) ∧ cs[k]? = some q ∧ yav q = some ab
 | t, [], β, ab, h => by cases h
 | t, q :: l, β, ab, h => by
   have step : get (pkB (t + 1) l) β = some ab → ∃ k q', β = 1100000000 + (t + k) ∧ (q :: l)[k]? = some q' ∧ yav q' = some ab := fun h => by
    obtain ⟨k, q', h1, h2, h3⟩ := q80 (t := t + 1) (cs := l) h
    exact ⟨k + 1, q', by omega, by simpa using h2, h3⟩
   cases q with
   | k c =>
     rw [pkB, za] at h
     by_cases hb : 1100000000 + t = β
     · rw [if_pos hb] at h; cases h; exact ⟨0, _, by omega, rfl, rfl⟩
     · rw [if_neg hb] at h; exact step h
   | n o c' =>
     cases o with
     | s v => exact step h
     | l sz rows =>
       rw [pkB, za] at h
       by_cases hb : 1100000000 + t = β
       · rw [if_pos hb] at h; cases h; exact ⟨0, _, by omega, rfl, rfl⟩
       · rw [if_neg hb] at h; exact step h
   | b sz rows rows' =>
     rw [pkB, za] at h
     by_cases hb : 1100000000 + t = β
     · rw [if_pos hb] at h; cases h; exact ⟨0, _, by omega, rfl, rfl⟩
     · rw [if_neg hb] at h; exact step h
theorem z81 : ∀ {t : Nat} {cs : List PK} {k : Nat} {q : PK} {ab : AB}, cs[k]? = some q → yav q = some ab → get (pkB t cs) (1100000000 + (t + k)) = some ab
 | t, [], k, q, ab, h, _ => by simp at h
 | t, q0 :: l, k, q, ab, h, ha => by
   cases k with
   | zero =>
     cases h
     cases q0 with
     | k c => cases ha; rw [pkB, za, if_pos (by omega)]
     | n o c' =>
       cases o with
       | s v => cases ha
       | l sz rows => cases ha; rw [pkB, za, if_pos (by omega)]
     | b sz rows rows' => cases ha; rw [pkB, za, if_pos (by omega)]
   | succ k =>
     have h1 := z81 (t := t + 1) (cs := l) (k := k) (by simpa using h) ha
     have e : t + (k + 1) = t + 1 + k := by omega
     rw [e]
     cases q0 with
     | k c => rw [pkB, za, if_neg (by omega)]; exact h1
     | n o c' =>
       cases o with
       | s v => exact h1
       | l sz rows => rw [pkB, za, if_neg (by omega)]; exact h1
     | b sz rows rows' => rw [pkB, za, if_neg (by omega)]; exact h1
theorem z5m : ∀ {t : Nat} {cs : List PK} {us : List Value} {g : AC × Value}, g ∈ ghP t cs us → ∃ k q u, cs[k]? = some q ∧ us[k]? = some u ∧ g = (y55 (t + k) q, u) ∧ ((∃ c, q = .k c) ∨ ∃ sz rows rows', q = .b sz rows rows')
 | t, [], us, g, h => by cases us <;> simp [ghP] at h
 | t, q :: l, [], g, h => by cases q <;> simp [ghP] at h
 | t, q :: l, u :: us, g, h => by
   have step : g ∈ ghP (t + 1) l us → ∃ k q' u', (q :: l)[k]? = some q' ∧ (u :: us)[k]? = some u' ∧ g = (y55 (t + k) q', u') ∧ ((∃ c, q' = .k c) ∨ ∃ sz rows rows', q' = .b sz rows rows') := fun h => by
    obtain ⟨k, q', u', h1, h2, h3, h4⟩ := z5m h
    exact ⟨k + 1, q', u', by simpa using h1, by simpa using h2, by rw [h3]; congr 2; omega, h4⟩
   cases q with
   | k c =>
     rcases List.mem_cons.1 h with rfl | h
     · exact ⟨0, _, u, rfl, rfl, rfl, .inl ⟨c, rfl⟩⟩
     · exact step h
   | n o c' => exact step h
   | b sz rows rows' =>
     rcases List.mem_cons.1 h with rfl | h
     · exact ⟨0, _, u, rfl, rfl, rfl, .inr ⟨sz, rows, rows', rfl⟩⟩
     · exact step h
theorem y5m : ∀ {t : Nat} {cs : List PK} {us : List Value} {k : Nat} {q : PK} {u : Value}, cs[k]? = some q → us[k]? = some u → ((∃ c, q = .k c) ∨ ∃ sz rows rows', q = .b sz rows rows') → (y55 (t + k) q, u) ∈ ghP t cs us
 | t, [], us, k, q, u, h, _, _ => by simp at h
 | t, _ :: _, [], k, q, u, _, h, _ => by simp at h
 | t, q0 :: l, u0 :: us, k, q, u, h, h', hq => by
   cases k with
   | zero =>
     cases h; cases h'
     rcases hq with ⟨c, rfl⟩ | ⟨sz, rows, rows', rfl⟩ <;> exact List.mem_cons_self ..
   | succ k =>
     have h1 := y5m (t := t + 1) (cs := l) (us := us) (k := k) (by simpa using h) (by simpa using h') hq
     have e : t + (k + 1) = t + 1 + k := by omega
     rw [e]
     cases q0 with
     | n o c' => exact h1
     | _ => exact List.mem_cons_of_mem _ h1
theorem q4q {σ : St} : ∀ {t : Nat} {acs : List AC} {cs : List PK}, q5f σ t acs cs → acs.length = cs.length ∧ ∀ (k : Nat) (q : PK), cs[k]? = some q → ∃ c, acs[k]? = some c ∧
 (match q with
   | .k _ => c = .mx 2 (1100000000 + (t + k)) ∧ ∃ c0, get σ.b (1100000000 + (t + k)) = some (.kp c0)
   | .n _ c' => mOC σ.b c c'
   | .b sz rows rows' => c = .h (1100000000 + (t + k)) rows.length ∧ ∃ ep, get σ.b (1100000000 + (t + k)) = some (.arr true sz ep rows') ∧ rows'.length = rows.length ∧ y29 rows rows')
 | t, [], [], _ => ⟨rfl, fun k q h => by simp at h⟩
 | t, [], q :: l', h => by cases q <;> exact h.elim
 | t, c :: l, [], h => h.elim
 | t, c :: l, q :: l', h => by
   have hb : q5f σ (t + 1) l l' := by cases q <;> exact h.2
   obtain ⟨h1, h2⟩ := q4q hb
   refine ⟨by simp [h1], fun k q' hq => ?_⟩
   cases k with
   | zero =>
     cases hq
     refine ⟨c, rfl, ?_⟩
     cases q with
     | k c0 =>
       obtain ⟨⟨h3, h4⟩, _⟩ := h
       split at h4
       · rename_i c1 hc1; exact ⟨h3, c1, hc1⟩
       · exact h4.elim
     | n o c' => exact h.1
     | b sz rows rows' =>
       obtain ⟨⟨h3, h4⟩, _⟩ := h
       split at h4
       · rename_i sz' ep rows'' hc1
         obtain ⟨rfl, rfl, h5, h6⟩ := h4
         exact ⟨h3, ep, hc1, h5, h6⟩
       · exact h4.elim
   | succ k =>
     obtain ⟨c1, h3, h4⟩ := h2 k q' (by simpa using hq)
     have e : t + (k + 1) = t + 1 + k := by omega
     rw [e]
     exact ⟨c1, by simpa using h3, h4⟩
theorem y4q {p : Nat} : ∀ {args : List SV} {i k : Nat} {av : AV}, get (z6m p i args) k = some av → ∃ j sv, k = i + j ∧ args[j]? = some sv ∧ av = (bif Nat.beq k p then .one (.a 1100000000 0) else zay sv)
 | [], i, k, av, h => by cases h
 | sv :: l, i, k, av, h => by
   rw [z6m, za] at h
   by_cases hk : i = k
   · rw [if_pos hk] at h; cases h; subst hk; exact ⟨0, sv, rfl, rfl, rfl⟩
   · rw [if_neg hk] at h
     obtain ⟨j, sv', h1, h2, h3⟩ := y4q h
     exact ⟨j + 1, sv', by omega, by simpa using h2, h3⟩
theorem z94 {C : Ctx} {w : World} {ρ : Env} {B : List (Nat × AB)} {sv : SV} {v : Value} (h : y6k w (Bor C ρ B) sv v) : qu C w ρ B (zay sv) v := by
 cases sv with
 | one c => exact h
 | agg cs =>
   obtain ⟨arr, rfl, h1, h2⟩ := h
   refine ⟨arr, rfl, by simp [h1], fun k c u hc hu => ?_⟩
   rw [List.getElem?_map] at hc
   cases hk : cs[k]? with
   | none => rw [hk] at hc; cases hc
   | some c0 => rw [hk] at hc; cases hc; exact h2 k c0 u hk hu
theorem y6k.mono {w : World} {N N' : Nat → Prop} {sv : SV} {v : Value} (h : y6k w N sv v) (hN : ∀ x, N x → N' x) : y6k w N' sv v := by
 cases sv with
 | one c => exact Rep.mono h (fun x _ hx => hN x hx)
 | agg cs =>
   obtain ⟨arr, rfl, h1, h2⟩ := h
   exact ⟨arr, rfl, h1, fun k c u hc hu => Rep.mono (h2 k c u hc hu) (fun x _ hx => hN x hx)⟩
theorem PP.begin {P : Program} {f p : Nat} {fn : Func} {c : Code} {cs : List PK} {args : List SV} {res : Res} (hf : P.funcs[f]? = some fn) (hb : fn.body = some c) (hok : (okF P f && q0p fn.ntmps c && Nat.ble args.length fn.ntmps) = true)
 (h : G P (QP P fn cs res) [.code c] none ⟨z6m p 0 args, (1100000000, .var (y81 1 cs)) :: pkB 1 cs⟩) : PP P f p cs args res := by
 simp only [Bool.and_eq_true] at hok
 obtain ⟨⟨ho1, ho2⟩, ho3⟩ := hok
 refine ⟨ho1, fun N F w vals cells g ty hF hNg hFd hg hsz hcell hvs hp hargs => ?_⟩
 refine calls_of_wp hf hb ?_
 have hle : args.length ≤ fn.ntmps := Nat.le_of_ble_eq_true ho3
 generalize hC : Ctx.mk P fn.ntmps w N (fun x => x = g ∨ ∃ k, F k x) ((.a 1100000000 0, .pointer (some ⟨g, 0, none⟩)) :: ghP 1 cs cells.toList) = C
 generalize hρ : (⟨fun β => if β = 1100000000 then .pointer (some ⟨g, 0, none⟩) else (cells[β - 1100000001]?).getD undef, fun β x => if β = 1100000000 then x = g else (∃ q, cs[β - 1100000001]? = some q ∧ ∀ c, q ≠ .k c) ∧ F (β - 1100000001) x⟩ : Env) = ρ
 generalize hB : ((1100000000, .var (y81 1 cs)) :: pkB 1 cs : List (Nat × AB)) = B
 have hname : ∀ k, 1100000000 + (1 + k) - 1100000001 = k := fun k => by omega
 have hne : ∀ k, ¬ (1100000000 + (1 + k) = 1100000000) := fun k => by omega
 have hρv : ∀ k, ρ.v (1100000000 + (1 + k)) = (cells[k]?).getD undef := fun k => by rw [← hρ]; simp only [hne, if_false, hname]
 have hρS : ∀ k x, ρ.S (1100000000 + (1 + k)) x ↔ (∃ q, cs[k]? = some q ∧ ∀ c, q ≠ .k c) ∧ F k x := fun k x => by rw [← hρ]; simp only [hne, if_false, hname]
 have hρv0 : ρ.v 1100000000 = .pointer (some ⟨g, 0, none⟩) := by rw [← hρ]; simp
 have hρS0 : ∀ x, ρ.S 1100000000 x ↔ x = g := fun x => by rw [← hρ]; simp
 have getB : ∀ {β : Nat} {ab : AB}, get B β = some ab → (β = 1100000000 ∧ ab = .var (y81 1 cs)) ∨ ∃ k q, β = 1100000000 + (1 + k) ∧ cs[k]? = some q ∧ yav q = some ab := fun {β ab} hb => by
  rw [← hB, za] at hb
  by_cases h0 : 1100000000 = β
  · rw [if_pos h0] at hb; cases hb; exact .inl ⟨h0.symm, rfl⟩
  · rw [if_neg h0] at hb; exact .inr (q80 hb)
 have putB : ∀ {k : Nat} {q : PK} {ab : AB}, cs[k]? = some q → yav q = some ab → get B (1100000000 + (1 + k)) = some ab := fun {k q ab} h1 h2 => by
  rw [← hB, za, if_neg (by omega)]; exact z81 h1 h2
 have hNB : ∀ x, N x → Bor C ρ B x := fun x hx => by
  refine ⟨by rw [← hC]; exact .inl hx, fun β ab hg' hs => ?_⟩
  rcases getB hg' with ⟨rfl, _⟩ | ⟨k, q, rfl, _, _⟩
  · rw [hρS0] at hs; subst hs; exact hNg hx
  · rw [hρS] at hs; exact (hF k x hs.2).2.1 hx
 have hlt : ∀ {k : Nat} {q : PK}, cs[k]? = some q → k < cells.size := fun {k q} hq => by rw [hsz]; exact (List.getElem?_eq_some_iff.1 hq).1
 have hcu : ∀ {k : Nat} {q : PK}, cs[k]? = some q → cells[k]? = some ((cells[k]?).getD undef) := fun {k q} hq => by
  have := hlt hq; simp [this]
 have hAC : ∀ (k : Nat) (q : PK) (u : Value), cs[k]? = some q → cells[k]? = some u → zu C w ρ B (y55 (1 + k) q) u := fun k q u hq hu => by
  have hc := hcell k q u hq hu
  have hvu : ρ.v (1100000000 + (1 + k)) = u := by rw [hρv, hu]; rfl
  cases q with
  | k c0 => exact ⟨Rep.one hc, _, putB hq rfl, fun _ => hvu.symm⟩
  | n o c' =>
    cases o with
    | s v => obtain ⟨rfl, h1⟩ := hc; exact .s _ h1
    | l sz rows =>
      obtain ⟨sz', _, hslab⟩ := hc
      obtain ⟨A, cap, hv⟩ := hslab.slice
      refine ⟨⟨A, cap, hv⟩, _, putB hq rfl, fun full sz1 ep rows' he => ?_⟩
      cases he
      exact ⟨Nat.le_refl _, fun _ => hvu.symm⟩
  | b sz rows rows' =>
    obtain ⟨sz', _, hslab⟩ := hc
    obtain ⟨A, cap, hv⟩ := hslab.slice
    refine ⟨⟨A, cap, hv⟩, _, putB hq rfl, fun full sz1 ep rows' he => ?_⟩
    cases he
    exact ⟨Nat.le_refl _, fun _ => hvu.symm⟩
 have hslabs : ∀ {k sz : Nat} {rows : List (List Cell)} {q : PK}, cs[k]? = some q → (∀ c, q ≠ .k c) → y1z w (F k) (.l sz rows) ((cells[k]?).getD undef) → z0l C w ρ B (1100000000 + (1 + k)) (.arr true sz 0 rows) := fun {k sz rows q} hq hn ho => by
  obtain ⟨sz', hsz', hslab⟩ := ho
  refine ⟨sz', hsz', ?_⟩
  rw [hρv]
  exact y0h.imp hslab (fun x hx => by rw [hρS]; exact ⟨⟨q, hq, hn⟩, hx⟩) (fun _ _ _ => rfl) (fun _ _ _ _ hc => hc)
 have hinit : ye C ⟨z6m p 0 args, B⟩ ρ { tmps := vals ++ Array.replicate (fn.ntmps - vals.size) undef, defers := [] } w := by
  refine ⟨fun t av ht => ?_, fun β ab hg' => ?_, fun β β' ab ab' x hg1 hg2 hx hx' => ?_, fun β ab x hg' hx => ?_, ?_, rfl, ?_, fun g' hg' => ?_⟩
  · obtain ⟨j, sv, h1, h2, h3⟩ := y4q ht
    have hj : j < vals.size := by rw [hvs]; exact (List.getElem?_eq_some_iff.1 h2).1
    have htj : t = j := by omega
    subst htj
    refine ⟨vals[t], ?_, ?_⟩
    · rw [Array.getElem?_append, if_pos hj]; simp [hj]
    · rw [h3]
      by_cases htp : t = p
      · subst htp
        rw [Nat.beq_refl, cond_true]
        have : vals[t] = .pointer (some ⟨g, 0, none⟩) := by rw [Array.getElem?_eq_getElem hj] at hp; exact Option.some.inj hp
        refine ⟨.var (y81 1 cs), g, by rw [← hB, za, if_pos rfl], this, fun _ _ => hρv0⟩
      · have : Nat.beq t p = false := beq_false htp
        rw [this, cond_false]
        exact z94 ((hargs t sv vals[t] htp h2 (by simp [hj])).mono hNB)
  · rcases getB hg' with ⟨rfl, rfl⟩ | ⟨k, q, rfl, h1, h2⟩
    · refine ⟨g, cells, ty, hρv0, by rw [hρS0], hg, by rw [q6e, hsz], fun k c u hc hu => ?_⟩
      obtain ⟨q, h1, rfl⟩ := y6e hc
      exact hAC k q u h1 hu
    · have hu := hcu h1
      have hc := hcell k q _ h1 hu
      cases q with
      | k c0 =>
        cases h2
        show Rep w (Bor C ρ B) c0 (ρ.v (1100000000 + (1 + k)))
        rw [hρv]; exact Rep.mono hc (fun x _ hx => hNB x hx)
      | n o c' =>
        cases o with
        | s v => cases h2
        | l sz rows => cases h2; exact hslabs h1 (fun _ h => by cases h) hc
      | b sz rows rows' => cases h2; exact hslabs h1 (fun _ h => by cases h) hc
  · rcases getB hg1 with ⟨rfl, _⟩ | ⟨k, q, rfl, _, _⟩ <;> rcases getB hg2 with ⟨rfl, _⟩ | ⟨k', q', rfl, _, _⟩
    · rfl
    · rw [hρS0] at hx; rw [hρS] at hx'; exact absurd hx (hF k' x hx'.2).2.2
    · rw [hρS0] at hx'; rw [hρS] at hx; exact absurd hx' (hF k x hx.2).2.2
    · rw [hρS] at hx hx'; rw [hFd k k' x hx.2 hx'.2]
  · rcases getB hg' with ⟨rfl, _⟩ | ⟨k, q, rfl, _, _⟩
    · rw [hρS0] at hx
      subst hx
      exact ⟨(Array.getElem?_eq_some_iff.1 hg).1, .inr (by rw [← hC]; exact .inl rfl)⟩
    · rw [hρS] at hx
      exact ⟨(hF k x hx.2).1, .inr (by rw [← hC]; exact .inr ⟨k, hx.2⟩)⟩
  · rw [← hC]
    show (vals ++ Array.replicate (fn.ntmps - vals.size) undef).size = fn.ntmps
    rw [Array.size_append, Array.size_replicate]
    omega
  · rw [← hC]; exact qr.refl _ _
  · rw [← hC] at hg'
    rcases List.mem_cons.1 hg' with rfl | hg'
    · exact ⟨.var (y81 1 cs), g, by rw [← hB, za, if_pos rfl], rfl, fun _ _ => hρv0⟩
    · obtain ⟨k, q, u, h1, h2, rfl, _⟩ := z5m hg'
      exact hAC k q u h1 (by simpa using h2)
 have hCP : C.P = P := by rw [← hC]
 have hCT : C.T = fn.ntmps := by rw [← hC]
 rw [hB] at h
 have hQ : vc C.P c (fun (e : Ex) (σ : St) => match e with | .normal => G P (QP P fn cs res) [] none σ | .exit i => G P (QP P fn cs res) [] (some i) σ | .ret => QP P fn cs res .ret σ) ⟨z6m p 0 args, B⟩ := by rw [hCP]; exact h
 have hwp := q2a (C := C) (fun g' hg' => by
  rw [← hC] at hg'
  rcases List.mem_cons.1 hg' with rfl | hg'
  · show 1000000000 ≤ 1100000000; omega
  obtain ⟨k, q, u, _, _, rfl, hq⟩ := z5m hg'
  rcases hq with ⟨c0, rfl⟩ | ⟨sz, rows, rows', rfl⟩
  · show 1000000000 ≤ 1100000000 + (1 + k); omega
  · show 1000000000 ≤ 1100000000 + (1 + k); omega) (by rw [hCT]; exact ho2) ⟨ρ, hinit⟩ hQ
 rw [hCP] at hwp
 refine wp_mono hwp (fun e a' w' hq => ?_)
 obtain ⟨e', he, σ', hr, ρ', hrel⟩ := hq
 have fin : yax P fn cs res σ' → a'.defers = [] ∧ ∃ v, (results fn a'.tmps).run P w' = .ok v w' ∧ ∃ (v' : Value) (SR : Nat → Prop) (F' : Nat → Nat → Prop) (cells' : Array Value) (ty' : TypeId), Ending.returned v = .returned v' ∧ qr w w' (fun x => x = g ∨ ∃ k, F k x) ∧
  w'.heap[g]? = some (.cells cells' ty' (0, 0)) ∧ cells'.size = cs.length ∧ (∀ (k : Nat) (c : PK) (u u' : Value), cs[k]? = some c → cells[k]? = some u → cells'[k]? = some u' → qba w' (F' k) c u u') ∧
  q1a w' (fun _ => True) SR res v' ∧ (∀ x, SR x → (w.heap.size ≤ x ∨ ∃ k, F k x) ∧ x < w'.heap.size ∧ x ≠ g ∧ ∀ k, ¬ F' k x) ∧
  (∀ k x, F' k x → (w.heap.size ≤ x ∨ ∃ k, F k x) ∧ x < w'.heap.size ∧ x ≠ g) ∧ ∀ k k' x, F' k x → F' k' x → k = k' := fun hret => by
  unfold yax at hret
  split at hret
  case h_2 => exact hret.elim
  rename_i acs hβ
  obtain ⟨hbk, hret⟩ := hret
  rw [← hCP] at hret
  obtain ⟨v, ms, h1, h2, h3⟩ := z29 hrel hret
  rw [hCP] at h1
  obtain ⟨hlen, hbk'⟩ := q4q hbk
  have hnd : (1100000000 :: q0s acs cs).Nodup := by
   cases res with
   | one rc =>
     simp only [q4h] at hret
     split at hret
     · obtain ⟨av, u, ⟨_, h4⟩, _⟩ := z2g hrel hret
       exact (List.nodup_append.1 h4).2.1
     · exact hret.elim
   | tup rcs =>
     obtain ⟨_, hret⟩ := hret
     obtain ⟨avs, vs, ⟨_, h4⟩, _⟩ := y1x hrel hret
     exact (List.nodup_append.1 h4).2.1
  obtain ⟨g1, cells', ty', h4, h5, h6, h7, h8⟩ := hrel.q0i _ _ hβ
  have hmine : ∀ β ab x, get σ'.b β = some ab → ρ'.S β x → x < w'.heap.size ∧ (w.heap.size ≤ x ∨ x = g ∨ ∃ k, F k x) := by
   have := hrel.mine
   rw [← hC] at this
   exact this
  have hkeep : qr w w' (fun x => x = g ∨ ∃ k, F k x) := by
   have := hrel.keep
   rw [← hC] at this
   exact this
  have hgh0 := hrel.ghost (.a 1100000000 0, .pointer (some ⟨g, 0, none⟩)) (by rw [← hC]; exact List.mem_cons_self ..)
  obtain ⟨ab2, g2, hg2, he2, hv2⟩ := hgh0
  rw [hβ] at hg2
  cases hg2
  cases he2
  have hv3 := hv2 acs rfl
  rw [h4] at hv3
  cases hv3
  have hnot : 1100000000 ∉ q0s acs cs := (List.nodup_cons.1 hnd).1
  have hgam : ∀ {k γ : Nat} {c : AC} {q : PK}, acs[k]? = some c → cs[k]? = some q → y6y c q = some γ → ∃ ab, get σ'.b γ = some ab := fun {k γ c q} e1 e2 e3 => by
   obtain ⟨c', e4, e5⟩ := hbk' k q e2
   rw [e1] at e4
   cases e4
   cases c with
   | h γ' n =>
     cases q with
     | k c' => cases e3
     | n o c' => cases e3; obtain ⟨_, _, _, e6⟩ := y7v e5; exact ⟨_, e6⟩
     | b sz rows rows' => cases e3; obtain ⟨e6, ep, e7, _⟩ := e5; cases e6; exact ⟨_, e7⟩
   | _ => cases q <;> cases e3
  have hSg : ρ'.S 1100000000 g := h5
  refine ⟨hrel.defers, v, h1, v, gS σ' ρ' ms, fun k x => ∃ c q γ, acs[k]? = some c ∧ cs[k]? = some q ∧ y6y c q = some γ ∧ ρ'.S γ x, cells', ty', rfl, hkeep, h6, by rw [h7, hlen], fun k q u u' hq hu hu' => ?_, h2.mono (fun _ _ => trivial), fun x hx => ?_, fun k x hx => ?_, fun k k' x hx hx' => ?_⟩
  · obtain ⟨c, hc, hm⟩ := hbk' k q hq
    have hrelu := h8 k c u' hc hu'
    cases q with
    | k c0 =>
      obtain ⟨rfl, c1, hkp⟩ := hm
      have hgh := hrel.ghost (y55 (1 + k) (.k c0), u) (by rw [← hC]; exact List.mem_cons_of_mem _ (y5m hq (by simpa using hu) (.inl ⟨c0, rfl⟩)))
      obtain ⟨_, ab, f1, f2⟩ := hrelu
      obtain ⟨_, ab', f3, f4⟩ := hgh
      rw [hkp] at f1 f3
      cases f1; cases f3
      exact (f2 rfl).trans (f4 rfl).symm
    | n o c' =>
      have f1 := z80 hrel hrelu hm
      have hsub : ∀ x, (∃ γ n, c = .h γ n ∧ ρ'.S γ x) → ∃ c q γ, acs[k]? = some c ∧ cs[k]? = some q ∧ y6y c q = some γ ∧ ρ'.S γ x := fun x ⟨γ, n, hc', hx⟩ => by
       subst hc'
       exact ⟨_, _, γ, hc, hq, rfl, hx⟩
      cases c' with
      | s v => exact f1
      | l sz rows =>
        obtain ⟨sz', f2, f3⟩ := f1
        exact ⟨sz', f2, y0h.imp f3 hsub (fun _ _ _ => rfl) (fun _ _ _ _ h => h)⟩
    | b sz rows rows' =>
      obtain ⟨rfl, ep, f1, f2, f3⟩ := hm
      have hgh := hrel.ghost (y55 (1 + k) (.b sz rows rows'), u) (by rw [← hC]; exact List.mem_cons_of_mem _ (y5m hq (by simpa using hu) (.inr ⟨sz, rows, rows', rfl⟩)))
      obtain ⟨_, ab, f4, f5⟩ := hrelu
      obtain ⟨_, ab', f6, f7⟩ := hgh
      rw [f1] at f4 f6
      cases f4; cases f6
      have e1 := (f5 _ _ _ _ rfl).2 f2.symm
      have e2 := (f7 _ _ _ _ rfl).2 f2.symm
      refine ⟨e1.trans e2.symm, f2, f3, ?_⟩
      obtain ⟨sz', f8, hslab⟩ := hrel.q0i _ _ f1
      refine ⟨sz', f8, ?_⟩
      rw [e1]
      exact y0h.imp hslab (fun x hx => ⟨_, _, _, hc, hq, rfl, hx⟩) (fun _ _ _ => rfl) (fun _ _ _ _ h => h)
  · obtain ⟨γ, hγ, ⟨ab, hab⟩, hs⟩ := hx
    have hb := h3 γ hγ
    have hne0 : γ ≠ 1100000000 := fun e => hb (by rw [e]; exact List.mem_cons_self ..)
    have hxg : x ≠ g := fun e => by subst e; exact hne0 (hrel.disj γ _ ab _ x hab hβ hs hSg)
    obtain ⟨m1, m2⟩ := hmine γ ab x hab hs
    refine ⟨m2.elim .inl (fun m2 => m2.elim (fun e => absurd e hxg) .inr), m1, hxg, fun k hk => ?_⟩
    obtain ⟨c, q, γ', e1, e2, e3, e4⟩ := hk
    obtain ⟨ab', hab'⟩ := hgam e1 e2 e3
    have := hrel.disj γ γ' _ _ x hab hab' hs e4
    subst this
    exact hb (List.mem_cons_of_mem _ (q10 e1 e2 e3))
  · obtain ⟨c, q, γ, e1, e2, e3, e4⟩ := hx
    obtain ⟨ab, hab⟩ := hgam e1 e2 e3
    have hne0 : γ ≠ 1100000000 := fun e => hnot (e ▸ q10 e1 e2 e3)
    have hxg : x ≠ g := fun e => by subst e; exact hne0 (hrel.disj γ _ ab _ x hab hβ e4 hSg)
    obtain ⟨m1, m2⟩ := hmine γ ab x hab e4
    exact ⟨m2.elim .inl (fun m2 => m2.elim (fun e => absurd e hxg) .inr), m1, hxg⟩
  · obtain ⟨c, q, γ, e1, e2, e3, e4⟩ := hx
    obtain ⟨c', q', γ', e1', e2', e3', e4'⟩ := hx'
    obtain ⟨ab, hab⟩ := hgam e1 e2 e3
    obtain ⟨ab', hab'⟩ := hgam e1' e2' e3'
    have := hrel.disj γ γ' _ _ x hab hab' e4 e4'
    subst this
    exact q3a (List.nodup_cons.1 hnd).2 e1 e2 e3 e1' e2' e3'
 cases e <;> simp only [y7k, Option.some.injEq] at he <;> first | (subst he) | cases he
 · exact fin hr
 · exact hr.elim
 · exact fin hr
end Go.Sx
end
section
namespace Go.Sx
theorem q5l {α : Type} {xs : List α} {i : Nat} {x : α} (h : i < xs.length) : (xs.set i x)[i]? = some x := by simp [h]
theorem yv {rws : List (List Cell)} {i k : Nat} {c : Cell} {row : List Cell} (h : rws[i]? = some row) : setRow rws i k c = rws.set i (row.set k c) := by simp only [setRow, h]
theorem y71 {rws : List (List Cell)} {i k : Nat} {c : Cell} : (setRow rws i k c).length = rws.length := by
 unfold setRow
 split
 · exact List.length_set
 · rfl
theorem yf {rws : List (List Cell)} {i k : Nat} {c : Cell} {row : List Cell} (h : rws[i]? = some row) : (setRow rws i k c)[i]? = some (row.set k c) := by
 rw [yv h, q5l (List.getElem?_eq_some_iff.1 h).1]
end Go.Sx
end
section
namespace Go.Sx
open Go.RowKit Go.ChangeShapes Go.WideShapes Go.Deep
def q6k (w : World) (cells : List Cell) (cs : List Value) : Prop := cs.length = cells.length ∧ ∀ (k : Nat) (c : Cell) (u : Value), cells[k]? = some c → cs[k]? = some u → Rep w (fun _ => True) c u
structure y3k (P : Program) (t : TypeId) {α : Type} (sz : Nat) (f : α → List Cell) (G : α → Prop) : Prop where
 hsz : P.cellsOf t = sz
 len : ∀ a, (f a).length = sz
 get : ∀ {H : Type} (enc : TypeId × Value → H) (w : World) (base : Nat) (spare : Nat → Bool) (held : Bool) (fuel : Nat) (cs : List Value) (x : DataW H × List MemPlace), DataW.trod enc P w base spare held fuel t cs = some x → ∃ a, q6k w (f a) cs ∧ G a
section
variable {P : Program} {α β : Type} {t e : TypeId}
theorem q6k.one {w : World} {c : Cell} {u : Value} (h : Rep w (fun _ => True) c u) : q6k w [c] [u] := ⟨rfl, fun k c' u' h1 h2 => by
 cases k with
 | zero => cases h1; cases h2; exact h
 | succ k => simp at h1⟩
theorem z7z {k : IntKind} (ht : P.underlying t = some (.int k)) (hc : P.cellsOf t = 1) : y3k P t 1 (fun n : Int => [.s (.int k n)]) (fun n => (Lit.int k n).wf = true) :=
 ⟨hc, fun _ => rfl, fun enc w base spare held fuel cs x h => by obtain ⟨n, rfl, _, hw⟩ := DataW.trod_int ht h; exact ⟨n, .one (.s _ rfl), hw⟩⟩
theorem y7z {sz : Nat} {f : α → List Cell} {G : α → Prop} (ht : P.underlying t = some (.slice e)) (he : y3k P e sz f G)
 {H : Type} (enc : TypeId × Value → H) (w : World) (base : Nat) (spare : Nat → Bool) (held : Bool) (fuel : Nat) (cs : List Value) (x : DataW H × List MemPlace) (h : DataW.trod enc P w base spare held fuel t cs = some x) :
 ∃ (l : List α) (v : Value), cs = [v] ∧ Rep w (fun _ => True) (.l (l.map f)) v ∧ (l.length ≤ maxLen ∧ ∀ a ∈ l, G a) := by
 classical
 rcases open_slice ht h with ⟨rfl, _⟩ | ⟨a, len, cap, m, n, D, Pl, rfl, hb, hl, hm, hmm, rfl, hx⟩
 · exact ⟨[], _, rfl, .l 0 [] none 0 (fun _ _ => undef) (by simp) (Nat.le_refl _) (fun _ => rfl) (fun j k hj => by simp at hj) (fun j k row c h1 => by simp at h1), by simp, fun a ha => by cases ha⟩
 · have hlm : len ≤ m := by rw [hmm]; split <;> omega
   have hall : ∀ i, i < len → ∃ b cs', cs'.length = sz ∧ q6k w (f b) cs' ∧ G b ∧ ∀ j, j < sz → w.cell? ((a.add (i * sz)).add j) = cs'[j]? := fun i hi => by
    obtain ⟨cs', h1, h2⟩ := hx i (by omega)
    obtain ⟨b, hK, hg⟩ := he.get enc w base spare held n cs' _ h2
    rw [he.hsz] at h1
    obtain ⟨_, hlen, hcell⟩ := World.cells?_some h1
    exact ⟨b, cs', hlen, hK, hg, hcell⟩
   have key : ∀ k, k ≤ len → ∃ l : List α, l.length = k ∧ (∀ j p, l[j]? = some p → ∃ c, c.length = sz ∧ q6k w (f p) c ∧ ∀ i u, c[i]? = some u → w.cell? (a.add (j * sz + i)) = some u) ∧ ∀ a ∈ l, G a := by
    intro k
    induction k with
    | zero => exact fun _ => ⟨[], rfl, fun j p hj => by simp at hj, fun a ha => by cases ha⟩
    | succ k ih =>
      intro hk
      obtain ⟨l, hl, hc, hG⟩ := ih (by omega)
      obtain ⟨b, c, hs, hK, hg, hcell⟩ := hall k (by omega)
      refine ⟨l ++ [b], by simp [hl], fun j p hj => ?_, fun b' hb' => ?_⟩
      · rcases Nat.lt_or_ge j l.length with hjl | hjl
        · rw [List.getElem?_append_left hjl] at hj
          exact hc j p hj
        · have hj' : j = l.length := by
           have := (List.getElem?_eq_some_iff.1 hj).1
           rw [List.length_append, List.length_singleton] at this
           omega
          subst hj'
          have hp : b = p := by simpa using hj
          subst hp
          refine ⟨c, hs, hK, fun i u hu => ?_⟩
          have hi : i < sz := by rw [← hs]; exact (List.getElem?_eq_some_iff.1 hu).1
          have := hcell i hi
          rw [Go.Deep.add_add, ← hl] at this
          rw [this, hu]
      · rcases List.mem_append.1 hb' with hb' | hb'
        · exact hG b' hb'
        · rw [List.mem_singleton.1 hb']; exact hg
   obtain ⟨l, hl', hc, hG⟩ := key len (Nat.le_refl _)
   subst hl'
   have hch : ∀ j : Nat, ∃ c : List Value, ∀ p, l[j]? = some p → c.length = sz ∧ q6k w (f p) c ∧ ∀ i u, c[i]? = some u → w.cell? (a.add (j * sz + i)) = some u := fun j => by
    cases hj : l[j]? with
    | none => exact ⟨[], fun p h => by cases h⟩
    | some p =>
      obtain ⟨c, h1, h2, h3⟩ := hc j p hj
      exact ⟨c, fun p' h => by cases h; exact ⟨h1, h2, h3⟩⟩
   have hch2 : ∃ c : Nat → List Value, ∀ j p, l[j]? = some p → (c j).length = sz ∧ q6k w (f p) (c j) ∧ ∀ i u, (c j)[i]? = some u → w.cell? (a.add (j * sz + i)) = some u := ⟨fun j => Classical.choose (hch j), fun j => Classical.choose_spec (hch j)⟩
   obtain ⟨c, hc⟩ := hch2
   have hlr : (l.map f).length = l.length := by simp
   refine ⟨l, _, rfl, ?_, by omega, hG⟩
   rw [show (Value.slice (some a) l.length cap) = .slice (some a) (l.map f).length cap by rw [hlr]]
   refine .l sz (l.map f) (some a) cap (fun j k => ((c j)[k]?).getD undef) (fun row hr => ?_) (by rw [hlr]; exact hl) (fun h => by cases h) (fun j k hj hk => ?_) (fun j k row c' h1 h2 => ?_)
   · obtain ⟨p, _, rfl⟩ := List.mem_map.1 hr; exact he.len p
   · rw [hlr] at hj
     obtain ⟨h1, _, h3⟩ := hc j _ (List.getElem?_eq_getElem hj)
     refine ⟨a, rfl, trivial, ?_⟩
     have hlt : k < (c j).length := by omega
     rw [h3 k _ (List.getElem?_eq_getElem hlt), List.getElem?_eq_getElem hlt]; rfl
   · rw [List.getElem?_map] at h1
     cases hj : l[j]? with
     | none => rw [hj] at h1; cases h1
     | some p =>
       rw [hj] at h1
       cases h1
       obtain ⟨h4, h5, _⟩ := hc j p hj
       have hk : k < (c j).length := by rw [h4, ← he.len p]; exact (List.getElem?_eq_some_iff.1 h2).1
       refine h5.2 k c' _ h2 ?_
       rw [List.getElem?_eq_getElem hk]; rfl
inductive Laid (P : Program) : Nat → List Field → Prop
 | nil (o : Nat) : Laid P o []
 | cons {o : Nat} {f : Field} {fs : List Field} : f.offset = o → Laid P (o + P.cellsOf f.type) fs → Laid P o (f :: fs)
def y4o (P : Program) (fs : List Field) {α : Type} (sz : Nat) (f : α → List Cell) (G : α → Prop) : Prop :=
 (∀ a, (f a).length = sz) ∧ ∀ {H : Type} (enc : TypeId × Value → H) (w : World) (base : Nat) (spare : Nat → Bool) (held : Bool) (fuel : Nat) (cs : List Value), cs.length = sz →
   (∀ (i : Nat) (f : Field), fs[i]? = some f → ∃ x, DataW.trod enc P w base spare held fuel f.type ((cs.drop (((fs.take i).map fun g => P.cellsOf g.type).sum)).take (P.cellsOf f.type)) = some x) →
   ∃ a, q6k w (f a) cs ∧ G a
theorem q6k.append {w : World} {xs ys : List Cell} {us vs : List Value} (h : q6k w xs us) (k : q6k w ys vs) : q6k w (xs ++ ys) (us ++ vs) := by
 refine ⟨by simp [h.1, k.1], fun i c u h1 h2 => ?_⟩
 rw [List.getElem?_append] at h1 h2
 rw [h.1] at h2
 by_cases hi : i < xs.length
 · rw [if_pos hi] at h1 h2; exact h.2 i c u h1 h2
 · rw [if_neg hi] at h1 h2; exact k.2 _ c u h1 h2
theorem z6y {fd : Field} {sz : Nat} {f : α → List Cell} {G : α → Prop} (h : y3k P fd.type sz f G) : y4o P [fd] sz f G := by
 refine ⟨h.len, fun enc w base spare held fuel cs hl hx => ?_⟩
 obtain ⟨x, hx⟩ := hx 0 fd rfl
 simp only [List.take_zero, List.map_nil, List.sum_nil, List.drop_zero] at hx
 rw [h.hsz, ← hl, List.take_length] at hx
 exact h.get enc w base spare held fuel cs x hx
theorem q5s {fd : Field} {fs : List Field} {sz sz' : Nat} {f : α → List Cell} {f' : β → List Cell} {G : α → Prop} {G' : β → Prop} (h : y3k P fd.type sz f G) (h' : y4o P fs sz' f' G') : y4o P (fd :: fs) (sz + sz') (fun x : α × β => f x.1 ++ f' x.2) (fun x => G x.1 ∧ G' x.2) := by
 refine ⟨fun a => by simp [h.len, h'.1], fun enc w base spare held fuel cs hl hx => ?_⟩
 obtain ⟨x, hx0⟩ := hx 0 fd rfl
 simp only [List.take_zero, List.map_nil, List.sum_nil, List.drop_zero] at hx0
 rw [h.hsz] at hx0
 obtain ⟨a, hK, hG⟩ := h.get enc w base spare held fuel _ x hx0
 obtain ⟨b, hK', hG'⟩ := h'.2 enc w base spare held fuel (cs.drop sz) (by rw [List.length_drop]; omega) (fun i g hi => by
  obtain ⟨y, hy⟩ := hx (i + 1) g (by simpa using hi)
  refine ⟨y, ?_⟩
  rw [List.drop_drop]
  simpa [h.hsz] using hy)
 refine ⟨(a, b), ?_, hG, hG'⟩
 have := hK.append hK'
 rwa [List.take_append_drop] at this
theorem y37 : ∀ {fs : List Field} {o : Nat}, Laid P o fs → ∀ (i : Nat) (f : Field), fs[i]? = some f → f.offset = o + ((fs.take i).map fun g => P.cellsOf g.type).sum
 | [], _, _, i, f, h => by simp at h
 | g :: fs, o, .cons h1 h2, 0, f, h => by
   have : g = f := by simpa using h
   subst this
   simp [h1]
 | g :: fs, o, .cons h1 h2, i + 1, f, h => by
   rw [y37 h2 i f (by simpa using h)]
   simp [Nat.add_assoc]
theorem q54 {fs : List Field} {sz : Nat} {f : α → List Cell} {G : α → Prop} {f' : β → List Cell} {G' : β → Prop} (g : α → β) (hfg : ∀ a, f' (g a) = f a) (hG : ∀ a, G a → G' (g a)) (hlen : ∀ b, (f' b).length = sz) (ht : P.underlying t = some (.struct fs.toArray)) (hc : P.cellsOf t = sz) (hL : Laid P 0 fs) (hF : y4o P fs sz f G) :
 y3k P t sz f' G' :=
 ⟨hc, hlen, fun enc w base spare held fuel cs x h => by
   obtain ⟨xs, n, rfl, _, hl, hxs, hf⟩ := DataW.trod_struct ht h
   obtain ⟨a, hK, hg⟩ := hF.2 enc w base spare held n cs (by rw [hl, hc]) (fun i f hi => by
    have hoff := y37 hL i f hi
    rw [Nat.zero_add] at hoff
    have h1 := hf i f (by simpa using hi)
    rw [hoff] at h1
    have hi' : i < xs.length := by
     rw [hxs]
     have := (List.getElem?_eq_some_iff.1 hi).1
     simpa using this
    exact ⟨xs[i], by rw [h1, List.getElem?_eq_getElem hi']⟩)
   exact ⟨g a, by rw [hfg]; exact hK, hG a hg⟩⟩
theorem z5t {sz : Nat} {f : α → List Cell} {G : α → Prop} (ht : P.underlying t = some (.slice e)) (hc : P.cellsOf t = 1) (he : y3k P e sz f G) : y3k P t 1 (fun l : List α => [.l (l.map f)]) (fun l => l.length ≤ maxLen ∧ ∀ a ∈ l, G a) :=
 ⟨hc, fun _ => rfl, fun enc w base spare held fuel cs x h => by
   obtain ⟨l, v, rfl, hr, hG⟩ := y7z ht he enc w base spare held fuel cs x h
   exact ⟨l, .one hr, hG⟩⟩
theorem y6m {fs : Array Field} {sz : Nat} {f : α → List Cell} {G : α → Prop} (ht : P.underlying t = some (.struct fs)) (he : y3k P t sz f G) {H : Type} {enc : TypeId × Value → H} {w : World} {r : Reach} {b : Nat} {v : Value} {dd : DataW H} {ps : List MemPlace}
 (hv : Value.okWide P w r b t v) (h : DataW.Trod enc P w 0 (fun _ => true) true t v dd ps) : ∃ a : α, y6k w (fun _ => True) (.agg (f a)) v ∧ G a := by
 obtain ⟨cs, rfl, _⟩ := okWide_struct ht hv
 obtain ⟨fuel, hf⟩ := h
 obtain ⟨a, hK, hG⟩ := he.get enc w 0 _ true fuel _ _ hf
 have hK' : q6k w (f a) cs.toList := by simpa [Value.cells] using hK
 exact ⟨a, ⟨cs, rfl, by simpa using hK'.1, fun k c u hc hu => hK'.2 k c u hc (by simpa using hu)⟩, hG⟩
end
end Go.Sx
end
section
namespace Go.Sx
open Go.RowKit (Below)
theorem PC.law {P : Program} {f : Nat} {args : List SV} {b : Bool} (h : PC P f args (.one (.own false [.s (.bool b)]))) {w : World} {vals : Array Value} (ha : z4o w (fun _ => True) vals args) :
 Calls P f vals w fun e w' => e = .returned (.bool b) ∧ Below w.heap.size w w' := by
 refine (h.2 _ w vals ha).mono ?_
 rintro e w' ⟨v, S, rfl, hk, ⟨arr, F, h1, h2, _, _, h5⟩, _⟩
 have h1' : arr = #[v] := h1
 subst h1'
 obtain ⟨rfl, _⟩ := h5 0 _ v rfl rfl
 exact ⟨rfl, hk.below⟩
theorem z4o.two {w : World} {N : Nat → Prop} {sv sv' : SV} {v v' : Value} (h : y6k w N sv v) (h' : y6k w N sv' v') : z4o w N #[v, v'] [sv, sv'] := ⟨rfl, fun i s u h1 h2 => by
 cases i with
 | zero => cases h1; cases h2; exact h
 | succ i =>
   cases i with
   | zero => cases h1; cases h2; exact h'
   | succ i => simp at h1⟩
end Go.Sx
end
section
namespace Go.Sx
inductive Sh where
 | nil
 | i (k : IntKind) (r : Sh)
 | b (r : Sh)
 | l (e : Sh) (r : Sh)
inductive WT (N : Nat) : Sh → List Cell → Prop
 | nil : WT N .nil []
 | i {k : IntKind} {r : Sh} {cs : List Cell} (n : Int) : WT N r cs → WT N (.i k r) (.s (.int k n) :: cs)
 | b {r : Sh} {cs : List Cell} (x : Bool) : WT N r cs → WT N (.b r) (.s (.bool x) :: cs)
 | l {e r : Sh} {cs : List Cell} (rows : List (List Cell)) : rows.length ≤ N → (∀ row ∈ rows, WT N e row) → WT N r cs → WT N (.l e r) (.l rows :: cs)
def WR (N : Nat) (e : Sh) (rows : List (List Cell)) : Prop := rows.length ≤ N ∧ ∀ row ∈ rows, WT N e row
def nx (k : Int) : Int := IntKind.i64.wrap (k + 1)
def mkv : IntKind → Int → Int
 | .i64, k => k
 | t, k => t.wrap k
def mkR (f : List Cell → Int → List Cell × Int) : List (List Cell) → Int → List (List Cell) × Int
 | [], k => ([], k)
 | row :: rows, k => ((f row k).1 :: (mkR f rows (f row k).2).1, (mkR f rows (f row k).2).2)
def mk : Sh → List Cell → Int → List Cell × Int
 | .nil, cs, k => (cs, k)
 | .i t r, _ :: cs, k => (.s (.int t (mkv t k)) :: (mk r cs (nx k)).1, (mk r cs (nx k)).2)
 | .b r, _ :: cs, k => (.s (.bool (k.tmod 3 == 0)) :: (mk r cs (nx k)).1, (mk r cs (nx k)).2)
 | .l e r, .l rows :: cs, k => (.l (mkR (mk e) rows k).1 :: (mk r cs (mkR (mk e) rows k).2).1, (mk r cs (mkR (mk e) rows k).2).2)
 | _, cs, k => (cs, k)
def hdR (f : List Cell → Int → Option Int) : List (List Cell) → Int → Option Int
 | [], k => some k
 | row :: rows, k => (f row k).bind (hdR f rows)
def ng (o : Option Int) : Int := o.getD (-1)
def ps (k : Int) : Option Int := if k < 0 then none else some k
def hd : Sh → List Cell → Int → Option Int
 | .nil, _, k => some k
 | .i t r, .s (.int _ n) :: cs, k => if n = mkv t k then hd r cs (nx k) else none
 | .b r, .s (.bool x) :: cs, k => if x = (k.tmod 3 == 0) then hd r cs (nx k) else none
 | .l e r, .l rows :: cs, k => (ps (ng (hdR (hd e) rows k))).bind (hd r cs)
 | _, _, k => some k
def mt : Sh → List Cell → Int → List Cell × Int
 | .i _ r, c :: cs, k => (c :: (mt r cs k).1, (mt r cs k).2)
 | .b r, c :: cs, k => (c :: (mt r cs k).1, (mt r cs k).2)
 | .l e r, .l rows :: cs, k => (.l (mkR (mk e) rows k).1 :: (mt r cs (mkR (mk e) rows k).2).1, (mt r cs (mkR (mk e) rows k).2).2)
 | _, cs, k => (cs, k)
def ht : Sh → List Cell → Int → Option Int
 | .i _ r, _ :: cs, k => ht r cs k
 | .b r, _ :: cs, k => ht r cs k
 | .l e r, .l rows :: cs, k => (ps (ng (hdR (hd e) rows k))).bind (ht r cs)
 | _, _, k => some k
theorem qz {k : Int} (h : ¬ k < 0) : ps k = some k := by unfold ps; rw [if_neg h]
theorem z1h {k : Int} (h : k < 0) : ps k = none := by unfold ps; rw [if_pos h]
theorem yg {o : Option Int} (h : o = none) : ng o = -1 := by rw [h]; rfl
theorem ya4 {o : Option Int} {k : Int} (h : ng o = k) (hk : ¬ k < 0) : o = some k := by
 cases o with
 | none => exact absurd (h ▸ (by decide : (-1 : Int) < 0)) hk
 | some v => exact congrArg some h
theorem zbe {e : Sh} : ∀ {cs : List Cell} {k v : Int}, 0 ≤ k → ht e cs k = some v → 0 ≤ v := by
 induction e with
 | nil => intro cs k v h0 h; simp only [ht, Option.some.injEq] at h; omega
 | i t r ih =>
   intro cs k v h0 h
   cases cs with
   | nil => simp only [ht, Option.some.injEq] at h; omega
   | cons c cs => exact ih h0 h
 | b r ih =>
   intro cs k v h0 h
   cases cs with
   | nil => simp only [ht, Option.some.injEq] at h; omega
   | cons c cs => exact ih h0 h
 | l e r _ ih =>
   intro cs k v h0 h
   cases cs with
   | nil => simp only [ht, Option.some.injEq] at h; omega
   | cons c cs =>
     cases c with
     | l rows =>
       simp only [ht] at h
       obtain ⟨a, h1, h2⟩ := Option.bind_eq_some_iff.1 h
       unfold ps at h1
       split at h1
       · cases h1
       · cases h1; exact ih (by omega) h2
     | s v' => simp only [ht, Option.some.injEq] at h; omega
     | p row => simp only [ht, Option.some.injEq] at h; omega
     | f fn caps => simp only [ht, Option.some.injEq] at h; omega
     | m fn ag row => simp only [ht, Option.some.injEq] at h; omega
theorem ybe {e : Sh} {cs : List Cell} {k v : Int} (h0 : 0 ≤ k) (h : ng (ht e cs k) = v) (hv : v < 0) : ht e cs k = none := by
 cases h1 : ht e cs k with
 | none => rfl
 | some a => have := zbe h0 h1; rw [h1] at h; have h : a = v := h; omega
def z00 (f : List Cell → Nat) : List (List Cell) → Nat
 | [] => 0
 | row :: rows => f row + z00 f rows
def cnt : Sh → List Cell → Nat
 | .i _ r, _ :: cs => 1 + cnt r cs
 | .b r, _ :: cs => 1 + cnt r cs
 | .l e r, .l rows :: cs => z00 (cnt e) rows + cnt r cs
 | _, _ => 0
def tot : Sh → List Cell → Nat
 | .i _ r, _ :: cs => tot r cs
 | .b r, _ :: cs => tot r cs
 | .l e r, .l rows :: cs => rows.length + z00 (tot e) rows + tot r cs
 | _, _ => 0
def ym (e : Sh) (rows : List (List Cell)) : Nat := rows.length + z00 (tot e) rows
def wid : Sh → Nat
 | .i _ r => 1 + wid r
 | .b r => 1 + wid r
 | .l _ r => wid r
 | .nil => 0
def q4n : Sh → Nat
 | .i _ r => q4n r
 | .b r => q4n r
 | .l e r => wid e + q4n e + q4n r
 | .nil => 0
theorem z6x {k : Int} (h : 0 ≤ k) (h1 : k < 9000000000000000000) : nx k = k + 1 := wrap_i64 (by omega) (by omega)
theorem zo (f : List Cell → Int → List Cell × Int) : ∀ (rows : List (List Cell)) (k : Int), (mkR f rows k).1.length = rows.length
 | [], _ => rfl
 | row :: rows, k => by simp [mkR, zo f rows]
theorem WT.mono {N M : Nat} (h : N ≤ M) {e : Sh} {cs : List Cell} (hw : WT N e cs) : WT M e cs := by
 induction hw with
 | nil => exact .nil
 | i n _ ih => exact .i n ih
 | b x _ ih => exact .b x ih
 | l rows h1 _ _ ih1 ih2 => exact .l rows (by omega) ih1 ih2
theorem WR.mono {N M : Nat} (h : N ≤ M) {e : Sh} {rows : List (List Cell)} (hw : WR N e rows) : WR M e rows := ⟨Nat.le_trans hw.1 h, fun r hr => (hw.2 r hr).mono h⟩
theorem WT.yx {N : Nat} {k : IntKind} {r : Sh} {cs : List Cell} (h : WT N (.i k r) cs) : ∃ n cs', cs = .s (.int k n) :: cs' ∧ WT N r cs' := by
 cases h with | i n h => exact ⟨_, _, rfl, h⟩
theorem WT.q1d {N : Nat} {e r : Sh} {cs : List Cell} (h : WT N (.l e r) cs) : ∃ rows cs', cs = .l rows :: cs' ∧ WR N e rows ∧ WT N r cs' := by
 cases h with | l rows h1 h2 h3 => exact ⟨_, _, rfl, ⟨h1, h2⟩, h3⟩
theorem WT.zz {N : Nat} {cs : List Cell} (h : WT N .nil cs) : cs = [] := by
 cases h; rfl
theorem q7w {N : Nat} {e : Sh} {f : List Cell → Int → List Cell × Int} : ∀ {rows : List (List Cell)}, (∀ row ∈ rows, ∀ k, WT N e (f row k).1) → ∀ k, ∀ row ∈ (mkR f rows k).1, WT N e row
 | [], _, k, row, hr => by cases hr
 | r :: rows, h, k, row, hr => by
   rcases List.mem_cons.1 hr with rfl | hr
   · exact h r (by simp) k
   · exact q7w (fun row hr => h row (by simp [hr])) _ row hr
theorem qbi {N : Nat} {e : Sh} {cs : List Cell} (h : WT N e cs) : ∀ k, WT N e (mk e cs k).1 := by
 induction h with
 | nil => exact fun k => .nil
 | i n _ ih => exact fun k => .i _ (ih _)
 | b x _ ih => exact fun k => .b _ (ih _)
 | l rows h1 _ _ ih1 ih2 => exact fun k => .l _ (by rw [zo]; exact h1) (q7w ih1 k) (ih2 _)
theorem z53 {N : Nat} {e : Sh} {rows : List (List Cell)} (h : WR N e rows) (k : Int) : WR N e (mkR (mk e) rows k).1 := ⟨by rw [zo]; exact h.1, q7w (fun row hr => qbi (h.2 row hr)) k⟩
theorem z6d {f : List Cell → Int → List Cell × Int} {g : List Cell → Int → Option Int} {c : List Cell → Nat} : ∀ {rows : List (List Cell)},
 (∀ row ∈ rows, ∀ k : Int, 0 ≤ k → k + c row ≤ 4000000000000000000 → g (f row k).1 k = some (k + c row) ∧ (f row k).2 = k + c row) →
 ∀ k : Int, 0 ≤ k → k + z00 c rows ≤ 4000000000000000000 → hdR g (mkR f rows k).1 k = some (k + z00 c rows) ∧ (mkR f rows k).2 = k + z00 c rows
 | [], _, k, _, _ => by simp [mkR, hdR, z00]
 | r :: rows, h, k, h0, h1 => by
   simp only [z00] at h1 ⊢
   obtain ⟨e1, e2⟩ := h r (by simp) k h0 (by omega)
   obtain ⟨e3, e4⟩ := z6d (rows := rows) (fun row hr => h row (by simp [hr])) (k + c r) (by omega) (by omega)
   simp only [mkR, hdR, e1, e2, Option.bind_some, e3, e4]
   constructor
   · congr 1; omega
   · omega
theorem z7x {N : Nat} {e : Sh} {cs : List Cell} (h : WT N e cs) : ∀ k : Int, 0 ≤ k → k + cnt e cs ≤ 4000000000000000000 → hd e (mk e cs k).1 k = some (k + cnt e cs) ∧ (mk e cs k).2 = k + cnt e cs := by
 induction h with
 | nil => intro k _ _; simp [mk, hd, cnt]
 | @i t r cs n _ ih =>
   intro k h0 h1
   simp only [cnt] at h1
   obtain ⟨e1, e2⟩ := ih (nx k) (by rw [z6x h0 (by omega)]; omega) (by rw [z6x h0 (by omega)]; omega)
   have hn : nx k + (cnt r cs : Nat) = k + (cnt (.i t r) (.s (.int t n) :: cs) : Nat) := by rw [z6x h0 (by omega)]; simp only [cnt]; omega
   simp only [mk, hd, if_true]
   exact ⟨e1.trans (congrArg some hn), e2.trans hn⟩
 | @b r cs x _ ih =>
   intro k h0 h1
   simp only [cnt] at h1
   obtain ⟨e1, e2⟩ := ih (nx k) (by rw [z6x h0 (by omega)]; omega) (by rw [z6x h0 (by omega)]; omega)
   have hn : nx k + (cnt r cs : Nat) = k + (cnt (.b r) (.s (.bool x) :: cs) : Nat) := by rw [z6x h0 (by omega)]; simp only [cnt]; omega
   simp only [mk, hd, if_true]
   exact ⟨e1.trans (congrArg some hn), e2.trans hn⟩
 | @l e r cs rows _ _ _ ih1 ih2 =>
   intro k h0 h1
   simp only [cnt] at h1
   obtain ⟨e1, e2⟩ := z6d ih1 k h0 (by omega)
   obtain ⟨e3, e4⟩ := ih2 (k + z00 (cnt e) rows) (by omega) (by omega)
   have hn : k + (z00 (cnt e) rows : Nat) + (cnt r cs : Nat) = k + (cnt (.l e r) (.l rows :: cs) : Nat) := by simp only [cnt]; omega
   have hp : ps (ng (some (k + (z00 (cnt e) rows : Nat)))) = some (k + z00 (cnt e) rows) := qz (by show ¬ (k + _ < (0 : Int)); omega)
   simp only [mk, hd, e1, e2, hp, Option.bind_some]
   exact ⟨e3.trans (congrArg some hn), e4.trans hn⟩
theorem y2y {f g : List Cell → Nat} {a b : Nat} : ∀ {rows : List (List Cell)}, (∀ row ∈ rows, f row ≤ a + b * g row) → z00 f rows ≤ a * rows.length + b * z00 g rows
 | [], _ => by simp [z00]
 | r :: rows, h => by
   have h1 := h r (by simp)
   have h2 := y2y (rows := rows) (fun row hr => h row (by simp [hr]))
   simp only [z00, List.length_cons, Nat.mul_add, Nat.mul_one]
   omega
theorem q9d {N : Nat} {e : Sh} {cs : List Cell} (h : WT N e cs) : cnt e cs ≤ wid e + q4n e * tot e cs := by
 induction h with
 | nil => simp [cnt]
 | i n _ ih => simp only [cnt, wid, q4n, tot]; omega
 | b x _ ih => simp only [cnt, wid, q4n, tot]; omega
 | @l e r cs rows _ _ _ ih1 ih2 =>
   simp only [cnt, wid, q4n, tot]
   have h1 := y2y ih1
   have h3 : (wid e + q4n e + q4n r) * (rows.length + z00 (tot e) rows + tot r cs) ≥ wid e * rows.length + q4n e * z00 (tot e) rows + q4n r * tot r cs := by
    have a1 : wid e * rows.length ≤ wid e * (rows.length + z00 (tot e) rows + tot r cs) := Nat.mul_le_mul_left _ (by omega)
    have a2 : q4n e * z00 (tot e) rows ≤ q4n e * (rows.length + z00 (tot e) rows + tot r cs) := Nat.mul_le_mul_left _ (by omega)
    have a3 : q4n r * tot r cs ≤ q4n r * (rows.length + z00 (tot e) rows + tot r cs) := Nat.mul_le_mul_left _ (by omega)
    simp only [Nat.add_mul]
    omega
   omega
def md (f : List Cell → Int → List Cell × Int) (rows : List (List Cell)) (k : Int) (i : Nat) : List (List Cell) := (mkR f (rows.take i) k).1 ++ rows.drop i
def mdk (f : List Cell → Int → List Cell × Int) (rows : List (List Cell)) (k : Int) (i : Nat) : Int := (mkR f (rows.take i) k).2
theorem q2f (f : List Cell → Int → List Cell × Int) : ∀ (xs ys : List (List Cell)) (k : Int), mkR f (xs ++ ys) k = ((mkR f xs k).1 ++ (mkR f ys (mkR f xs k).2).1, (mkR f ys (mkR f xs k).2).2)
 | [], ys, k => rfl
 | x :: xs, ys, k => by simp [mkR, q2f f xs]
section
variable {f : List Cell → Int → List Cell × Int} {rows : List (List Cell)} {k : Int} {i : Nat} {row : List Cell}
theorem z0w (h : rows[i]? = some row) : rows.take (i + 1) = rows.take i ++ [row] := by rw [List.take_add_one, h]; rfl
theorem q0e : md f rows k 0 = rows := by simp [md, mkR]
theorem z06 : mdk f rows k 0 = k := by simp [mdk, mkR]
theorem z0z : md f rows k rows.length = (mkR f rows k).1 := by simp [md]
theorem z0f : mdk f rows k rows.length = (mkR f rows k).2 := by simp [mdk]
theorem q0z (h : i ≤ rows.length) : (md f rows k i).length = rows.length := by simp [md, zo]; omega
theorem y0z (h : rows[i]? = some row) : (md f rows k i)[i]? = some row := by
 have hi := (List.getElem?_eq_some_iff.1 h).1
 unfold md
 rw [List.getElem?_append_right (by simp [zo]; omega)]
 simp only [zo, List.length_take, Nat.min_eq_left (Nat.le_of_lt hi), Nat.sub_self, List.getElem?_drop, Nat.add_zero]
 exact h
theorem q05 (h : rows[i]? = some row) : mdk f rows k (i + 1) = (f row (mdk f rows k i)).2 := by
 unfold mdk; rw [z0w h, q2f]; rfl
theorem z10 (h : rows[i]? = some row) : (md f rows k i).set i (f row (mdk f rows k i)).1 = md f rows k (i + 1) := by
 have hi := (List.getElem?_eq_some_iff.1 h).1
 have hl : (mkR f (rows.take i) k).1.length = i := by simp [zo]; omega
 unfold md
 rw [z0w h, q2f, List.set_append_right _ _ (by omega), hl, Nat.sub_self]
 have : rows.drop i = row :: rows.drop (i + 1) := by rw [List.drop_eq_getElem_cons hi]; rw [List.getElem?_eq_getElem hi] at h; cases h; rfl
 rw [this]
 simp [mkR, mdk]
end
theorem y2c (f : List Cell → Int → Option Int) : ∀ (xs ys : List (List Cell)) (k : Int), hdR f (xs ++ ys) k = (hdR f xs k).bind (hdR f ys)
 | [], ys, k => rfl
 | x :: xs, ys, k => by
   simp only [List.cons_append, hdR]
   cases f x k with
   | none => rfl
   | some v => exact y2c f xs ys v
theorem y05 {f : List Cell → Int → Option Int} {rows : List (List Cell)} {i : Nat} {row : List Cell} {k v : Int} (h : rows[i]? = some row) (hv : hdR f (rows.take i) k = some v) : hdR f (rows.take (i + 1)) k = f row v := by
 rw [z0w h, y2c, hv]
 simp only [Option.bind_some, hdR]
 cases f row v <;> rfl
theorem qf {f : List Cell → Int → Option Int} {rows : List (List Cell)} {i : Nat} {k : Int} (h : hdR f (rows.take i) k = none) : hdR f rows k = none := by
 rw [← List.take_append_drop i rows, y2c, h]; rfl
theorem yat {N : Nat} {e : Sh} {cs : List Cell} (h : WT N e cs) : ∀ k, (mk e cs k).1.length = cs.length := by
 induction h with
 | nil => exact fun k => rfl
 | i n _ ih => exact fun k => by simp [mk, ih]
 | b x _ ih => exact fun k => by simp [mk, ih]
 | l rows _ _ _ _ ih => exact fun k => by simp [mk, ih]
theorem y53 {N : Nat} {e : Sh} : ∀ {rows : List (List Cell)}, (∀ row ∈ rows, WT N e row) → ∀ (k : Int) (j : Nat) (row row' : List Cell), rows[j]? = some row → (mkR (mk e) rows k).1[j]? = some row' → row'.length = row.length
 | [], _, k, j, row, row', h, _ => by simp at h
 | r :: rows, hw, k, 0, row, row', h, h' => by
   simp [mkR] at h h'
   subst h; subst h'
   exact yat (hw r (by simp)) k
 | r :: rows, hw, k, j + 1, row, row', h, h' => by
   simp [mkR] at h h'
   exact y53 (fun x hx => hw x (by simp [hx])) _ j row row' h h'
theorem yr {N : Nat} {e : Sh} {rows : List (List Cell)} (hw : WR N e rows) {k : Int} : ∀ (j : Nat) (row row' : List Cell), rows[j]? = some row → (mkR (mk e) rows k).1[j]? = some row' → row'.length = row.length := y53 hw.2 k
def szn (b : Int) (n : Nat) : Int := if b - n < 0 then -1 else b - n
theorem y0k {b : Int} {n : Nat} (h : b ≤ 1048576) (h0 : 0 ≤ b) : szn b n ≤ 1048576 := by unfold szn; split <;> omega
theorem zj {b : Int} {m n : Nat} (h : 0 ≤ szn b m) : szn (szn b m) n = szn b (m + n) := by
 unfold szn at *; split at h
 · omega
 · rename_i h1; simp only [if_neg h1]; split <;> split <;> omega
theorem yc {α : Type} {xs : List α} {i n : Nat} {x : α} (h : xs.length = n) : (xs.set i x).length = n := List.length_set.trans h
theorem lsr {xs : List (List Cell)} {i k n : Nat} {c : Cell} (h : xs.length = n) : (setRow xs i k c).length = n := y71.trans h
theorem yy {α : Type} {xs : List α} {i n : Nat} {x : α} (h : xs.length = n) (hi : i < n) : (xs.set i x)[i]? = some x := q5l (h ▸ hi)
theorem ssr {xs : List (List Cell)} {i k : Nat} {c : Cell} {r : List Cell} (h : i < xs.length) : setRow (xs.set i r) i k c = xs.set i (r.set k c) := by rw [yv (q5l h), List.set_set]
theorem cwi {k : IntKind} {n m : Int} (h : -9223372036854775808 ≤ n) (h2 : n ≤ 9223372036854775807) (e : n = m) : Cell.s (.int k (IntKind.i64.wrap n)) = Cell.s (.int k m) := by rw [wrap_i64 h h2, e]
theorem y1t (f : List Cell → Nat) : ∀ (xs ys : List (List Cell)), z00 f (xs ++ ys) = z00 f xs + z00 f ys
 | [], ys => by simp [z00]
 | x :: xs, ys => by simp [z00, y1t f xs, Nat.add_assoc]
theorem q0x {f : List Cell → Nat} {rows : List (List Cell)} {i : Nat} {row : List Cell} (h : rows[i]? = some row) : z00 f (rows.take (i + 1)) = z00 f (rows.take i) + f row := by
 rw [z0w h, y1t]; simp [z00]
theorem y0n (f : List Cell → Nat) (rows : List (List Cell)) (i : Nat) : z00 f rows = z00 f (rows.take i) + z00 f (rows.drop i) := by
 rw [← y1t, List.take_append_drop]
theorem y0r {N : Nat} {e : Sh} {rows : List (List Cell)} (h : ∀ row, WT N e row → tot e row = 0) (hw : WR N e rows) : ym e rows = rows.length := by
 have : ∀ rows : List (List Cell), (∀ row ∈ rows, WT N e row) → z00 (tot e) rows = 0 := by
  intro rows
  induction rows with
  | nil => intro _; rfl
  | cons r rows ih => intro hr; rw [z00, h r (hr r (by simp)), ih (fun x hx => hr x (by simp [hx]))]
 rw [ym, this rows hw.2, Nat.add_zero]
theorem zq {α : Type} {xs ys : List α} {i : Nat} {a : α} (h : xs.take i = ys.take i) (hx : xs[i]? = some a) (hy : ys[i]? = some a) : xs.take (i + 1) = ys.take (i + 1) := by
 rw [List.take_add_one, List.take_add_one, h, hx, hy]
noncomputable def dE {α : Type} (p q : α) : Bool := open Classical in decide (p = q)
theorem zl {α : Type} {p q : α} (h : p ≠ q) : Value.bool false = Value.bool (dE p q) := by simp [dE, h]
theorem zx {α : Type} {p q : α} (h : p = q) : Value.bool true = Value.bool (dE p q) := by simp [dE, h]
theorem y07 {α : Type} {p q : α} (h : (!dE p q) = true) : p ≠ q := by simpa [dE] using h
theorem z07 {α : Type} {p q : α} (h : (!dE p q) = false) : p = q := by simpa [dE] using h
abbrev i64 (n : Int) : Cell := .s (.int .i64 n)
abbrev rI (n : Int) : Res := .one (.own false [.s (.int .i64 n)])
abbrev rB (b : Bool) : Res := .one (.own false [.s (.bool b)])
end Go.Sx
end
section
namespace Go.Sx
open Go.Maps (Keyed)
section
variable {P : Program} [qn P] {Q : Ex → St → Prop} {st st1 : List Fr} {σ σ1 : St} {g : Bool} {o : Oper} {t : TypeId} {m x : Operand} {β k e n : Nat} {D : DataW Unit} {q : IntKind}
theorem qb1 {r : Nat} (h : exec 2000 (qn.F P) st σ = .raw g σ1 o st1) (ho : o.op = .makeMap t none) (hd : o.dst = some r) (hu : P.underlying t = some (.map k e)) (hn : get σ1.b r = none)
 (h1 : G P Q st1 none ⟨(r, .one (.mx 0 r)) :: σ1.t, z0c σ1.b r (.mp k e 0 (.map []) none)⟩) : G P Q st none σ :=
 zae h (by simp only [opL, ho]; exact ⟨r, k, e, rfl, hd, hu, hn, h1⟩)
theorem qbm {av : AV} {key : Value} {kl : Lit} (h : exec 2000 (qn.F P) st σ = .raw g σ1 o st1) (ho : o.op = .lookup t m x false) (hm : ev σ1 m = some (.one (.mx 0 β))) (hb : get σ1.b β = some (.mp k e n D none))
 (hu : P.underlying t = some (.map k e)) (he : P.underlying e = some (.int q)) (hK : Keyed P k) (hz : ∀ w, (zeroValue e).run P w = .ok (.int q 0) w) (hx : ev σ1 x = some av) (hv : valOf av = some key) (hkey : keyOf P k key = some kl)
 (h1 : ∀ c, D.atKey kl (.lit (.int q 0)) = .lit (.int q c) → (Lit.int q c).wf = true → G P Q st1 none (σ1.put o.dst (.one (.b (.s (.int q c)))))) : G P Q st none σ :=
 zae h (by simp only [opL, ho]; exact .inl ⟨β, k, e, n, D, q, kl, av, key, rfl, hm, hb, hu, he, hK, hz, hx, hv, hkey, h1⟩)
theorem zc1 {v : Operand} {av : AV} {key : Value} {kl : Lit} {c : Int} (h : exec 2000 (qn.F P) st σ = .raw g σ1 o st1) (ho : o.op = .mapUpdate t m x v) (hd : o.dst = none) (hm : ev σ1 m = some (.one (.mx 0 β))) (hb : get σ1.b β = some (.mp k e n D none))
 (hu : P.underlying t = some (.map k e)) (he : P.underlying e = some (.int q)) (hK : Keyed P k) (hn : n < maxLen) (hx : ev σ1 x = some av) (hv : valOf av = some key) (hkey : keyOf P k key = some kl) (hc : ev σ1 v = some (.one (.b (.s (.int q c))))) (hw : (Lit.int q c).wf = true)
 (h1 : G P Q st1 none ⟨σ1.t, z0c σ1.b β (.mp k e (n + 1) (D.put kl (.lit (.int q c))) none)⟩) : G P Q st none σ :=
 zae h (by simp only [opL, ho]; exact ⟨β, k, e, n, D, q, kl, av, key, c, hd, hm, hb, hu, he, hK, hn, hx, hv, hkey, hc, hw, h1⟩)
theorem qb2 {r : Nat} (h : exec 2000 (qn.F P) st σ = .raw g σ1 o st1) (ho : o.op = .range t m) (hd : o.dst = some r) (hm : ev σ1 m = some (.one (.mx 0 β))) (hb : get σ1.b β = some (.mp k e n D none)) (hr : get σ1.b r = none)
 (hu : P.underlying t = some (.map k e)) (hK : Keyed P k)
 (h1 : G P Q st1 none ⟨(r, .one (.mx 1 r)) :: σ1.t, z0c (z0c σ1.b β .dead) r (.mp k e n D (some (Maps.has D, Maps.size D, none)))⟩) : G P Q st none σ :=
 zae h (by simp only [opL, ho]; exact ⟨r, β, k, e, n, D, hd, hm, hb, hr, hu, hK, h1⟩)
theorem zbn {r : Nat} {left : Lit → Bool} {cnt : Nat} {cur : Option (Value × Value)} (h : exec 2000 (qn.F P) st σ = .raw g σ1 o st1) (ho : o.op = .next m false) (hd : o.dst = some r) (hm : ev σ1 m = some (.one (.mx 1 β))) (hb : get σ1.b β = some (.mp k e n D (some (left, cnt, cur))))
 (hK : Keyed P k) (he : P.underlying e = some (.int q))
 (h0 : cnt = 0 → (∀ kl, left kl = false) → G P Q st1 none ⟨(r, .tup [.one (.b (.s (.bool false)))]) :: σ1.t, σ1.b⟩)
 (h1 : ∀ key kl c cnt', keyOf P k key = some kl → left kl = true → (∀ zd, D.atKey kl zd = .lit (.int q c)) → (Lit.int q c).wf = true → cnt' < cnt →
   ∃ av, z1p key = some av ∧ (∀ vs, av ≠ .tup vs) ∧ G P Q st1 none ⟨(r, .tup [.one (.b (.s (.bool true))), av, .one (.b (.s (.int q c)))]) :: σ1.t, z0c σ1.b β (.mp k e n D (some ((fun z => left z && !z.sameKey kl), cnt', some (key, .int q c))))⟩) : G P Q st none σ :=
 zae h (by simp only [opL, ho]; exact ⟨r, β, k, e, n, D, left, cnt, cur, q, rfl, hd, hm, hb, hK, he, h0, h1⟩)
theorem zb2 {r : Nat} {qk : IntKind} {left : Lit → Bool} {cnt : Nat} {cur : Option (Value × Value)} (h : exec 2000 (qn.F P) st σ = .raw g σ1 o st1) (ho : o.op = .next m false) (hd : o.dst = some r) (hm : ev σ1 m = some (.one (.mx 1 β))) (hb : get σ1.b β = some (.mp k e n D (some (left, cnt, cur))))
 (hK : Keyed P k) (hk : P.underlying k = some (.int qk)) (he : P.underlying e = some (.int q))
 (h0 : cnt = 0 → (∀ kl, left kl = false) → G P Q st1 none ⟨(r, .tup [.one (.b (.s (.bool false)))]) :: σ1.t, σ1.b⟩)
 (h1 : ∀ y c cnt', left (.int qk y) = true → (∀ zd, D.atKey (.int qk y) zd = .lit (.int q c)) → (Lit.int q c).wf = true → cnt' < cnt →
   G P Q st1 none ⟨(r, .tup [.one (.b (.s (.bool true))), .one (.b (.s (.int qk y))), .one (.b (.s (.int q c)))]) :: σ1.t, z0c σ1.b β (.mp k e n D (some ((fun z => left z && !z.sameKey (.int qk y)), cnt', some (.int qk y, .int q c))))⟩) : G P Q st none σ :=
 zbn h ho hd hm hb hK he h0 (fun key kl c cnt' hkey hl hat hw hlt => by
  obtain ⟨y, rfl, rfl, _⟩ := Maps.keyOf_int_inv hk hkey
  exact ⟨.one (.b (.s (.int qk y))), rfl, fun vs h => (nomatch h), h1 y c cnt' hl hat hw hlt⟩)
theorem zb1 {r : Nat} {left : Lit → Bool} {cnt : Nat} {key u : Value} {av av' : AV} (h : exec 2000 (qn.F P) st σ = .raw g σ1 o st1) (ho : o.op = .entry m) (hd : o.dst = some r) (hm : ev σ1 m = some (.one (.mx 1 β))) (hb : get σ1.b β = some (.mp k e n D (some (left, cnt, some (key, u)))))
 (h2 : z1p key = some av) (h3 : z1p u = some av') (h4 : ∀ vs, av ≠ .tup vs) (h5 : ∀ vs, av' ≠ .tup vs) (h1 : G P Q st1 none ⟨(r, .tup [av, av']) :: σ1.t, σ1.b⟩) : G P Q st none σ :=
 zae h (by simp only [opL, ho]; exact ⟨r, β, k, e, n, D, left, cnt, key, u, av, av', hd, hm, hb, h2, h4, h3, h5, h1⟩)
end
end Go.Sx
end
section
namespace Go.Sx
open Go.RowKit
def Sh.len : Sh → Nat
 | .nil => 0
 | .i _ r => r.len + 1
 | .b r => r.len + 1
 | .l _ r => r.len + 1
def Sh.app : Sh → Sh → Sh
 | .nil, t => t
 | .i k r, t => .i k (r.app t)
 | .b r, t => .b (r.app t)
 | .l e r, t => .l e (r.app t)
theorem WT.len {N : Nat} {s : Sh} {cs : List Cell} (h : WT N s cs) : cs.length = s.len := by
 induction h with
 | nil => rfl
 | i n _ ih => simp [Sh.len, ih]
 | b x _ ih => simp [Sh.len, ih]
 | l rows _ _ _ _ ih => simp [Sh.len, ih]
theorem WT.app {N : Nat} {s t : Sh} {xs ys : List Cell} (h : WT N s xs) (k : WT N t ys) : WT N (s.app t) (xs ++ ys) := by
 induction h with
 | nil => exact k
 | i n _ ih => exact .i n ih
 | b x _ ih => exact .b x ih
 | l rows h1 h2 _ _ ih => exact .l rows h1 h2 ih
abbrev OS (P : Program) (t : TypeId) (s : Sh) : Prop := y3k P t s.len (fun a : {cs : List Cell // WT 9223372036854775807 s cs} => a.1) (fun _ => True)
abbrev OSF (P : Program) (fs : List Field) (s : Sh) : Prop := y4o P fs s.len (fun a : {cs : List Cell // WT 9223372036854775807 s cs} => a.1) (fun _ => True)
section
variable {P : Program} {t e : TypeId}
theorem OS.mk {sz : Nat} {α : Type} {f : α → List Cell} {G : α → Prop} {s : Sh} (h : y3k P t sz f G) (hz : sz = s.len) (hw : ∀ a, G a → WT 9223372036854775807 s (f a)) : OS P t s :=
 ⟨h.hsz.trans hz, fun a => a.2.len, fun enc w base spare held fuel cs x hx => by
   obtain ⟨a, h1, h2⟩ := h.get enc w base spare held fuel cs x hx
   exact ⟨⟨f a, hw a h2⟩, h1, trivial⟩⟩
theorem qau {k : IntKind} (ht : P.underlying t = some (.int k)) (hc : P.cellsOf t = 1) : OS P t (.i k .nil) := .mk (z7z ht hc) rfl fun n _ => .i n .nil
theorem y06 {s : Sh} (ht : P.underlying t = some (.slice e)) (hc : P.cellsOf t = 1) (he : OS P e s) : OS P t (.l s .nil) := .mk (z5t ht hc he) rfl fun l hl => .l _ (by
 have h : l.length ≤ maxLen := hl.1
 rw [List.length_map]; exact h) (fun row hr => by
 obtain ⟨a, _, rfl⟩ := List.mem_map.1 hr
 exact a.2) .nil
theorem y0f {fd : Field} {s : Sh} (h : OS P fd.type s) : OSF P [fd] s := z6y h
theorem qh {fd : Field} {fs : List Field} {s t u : Sh} (h : OS P fd.type s) (k : OSF P fs t) (hu : s.app t = u) (hl : s.len + t.len = u.len) : OSF P (fd :: fs) u := by
 have hc := q5s h k
 subst hu
 refine ⟨fun a => a.2.len, fun enc w base spare held fuel cs hn hx => ?_⟩
 obtain ⟨a, h1, _⟩ := hc.2 enc w base spare held fuel cs (hn.trans hl.symm) hx
 exact ⟨⟨_, a.1.2.app a.2.2⟩, h1, trivial⟩
theorem yz {fs : List Field} {s : Sh} (ht : P.underlying t = some (.struct fs.toArray)) (hc : P.cellsOf t = s.len) (hL : Laid P 0 fs) (hF : OSF P fs s) : OS P t s :=
 q54 (fun a => a) (fun _ => rfl) (fun _ h => h) (fun b => b.2.len) ht hc hL hF
theorem yal {fs : Array Field} {s : Sh} (ht : P.underlying t = some (.struct fs)) (he : OS P t s) {H : Type} {enc : TypeId × Value → H} {w : World} {r : Reach} {b : Nat} {v : Value} {dd : DataW H} {ps : List MemPlace}
 (hv : Value.okWide P w r b t v) (h : DataW.Trod enc P w 0 (fun _ => true) true t v dd ps) : ∃ cs : List Cell, y6k w (fun _ => True) (.agg cs) v ∧ WT 9223372036854775807 s cs := by
 obtain ⟨a, h1, _⟩ := y6m ht he hv h
 exact ⟨a.1, h1, a.2⟩
end
end Go.Sx
end
section
namespace Go.Sx
theorem gm {α β : Type} {xs : List α} {i : Nat} {x : α} (f : α → β) (h : xs[i]? = some x) : (xs.map f)[i]? = some (f x) := by rw [List.getElem?_map, h]; rfl
theorem gx {α : Type} {xs : List α} {i : Nat} (h : i < xs.length) : ∃ x, xs[i]? = some x := ⟨_, List.getElem?_eq_getElem h⟩
def scan (f : Nat → Int) : Nat → Int
 | 0 => 0
 | n + 1 => if scan f n ≠ 0 then scan f n else f n
theorem zg {f : Nat → Int} : ∀ {n : Nat}, (∀ j, j < n → f j = 0) → scan f n = 0
 | 0, _ => rfl
 | n + 1, h => by rw [scan, zg (fun j hj => h j (by omega)), h n (by omega)]; simp
theorem z03 {f : Nat → Int} : ∀ {n : Nat}, scan f n = 0 → ∀ j, j < n → f j = 0
 | n + 1, h, j, hj => by
   rw [scan] at h
   split at h
   · rename_i h1; exact absurd h h1
   · rename_i h1
     have h1 : scan f n = 0 := by simpa using h1
     rcases Nat.lt_or_ge j n with h2 | h2
     · exact z03 h1 j h2
     · have : j = n := by omega
       subst this; exact h
theorem q0v {f : Nat → Int} {i : Nat} (h0 : ∀ j, j < i → f j = 0) (h : f i ≠ 0) : ∀ {n : Nat}, i < n → scan f n = f i
 | n + 1, hi => by
   rw [scan]
   rcases Nat.lt_or_ge i n with h2 | h2
   · have := q0v h0 h h2
     rw [this, if_pos h]
   · have : i = n := by omega
     subst this
     rw [zg h0]; simp
theorem q8 {f : Nat → Int} {i n : Nat} {c : Int} (hi : i < n) (h0 : ∀ j, j < i → f j = 0) (hc : f i = c) (h : c ≠ 0) : c = scan f n := by rw [q0v h0 (by rw [hc]; exact h) hi, hc]
theorem qb {f : Nat → Int} {i : Nat} (h0 : ∀ j, j < i → f j = 0) (h : f i = 0) : ∀ j, j < i + 1 → f j = 0 := fun j hj => by
 rcases Nat.lt_or_ge j i with h2 | h2
 · exact h0 j h2
 · have : j = i := by omega
   subst this; exact h
theorem y11 {f g : Nat → Int} : ∀ {n : Nat}, (∀ j, j < n → (∀ k, k < j → f k = 0) → f j = g j) → scan f n = scan g n
 | 0, _ => rfl
 | n + 1, h => by
   have ih := y11 (f := f) (g := g) (n := n) (fun j hj => h j (by omega))
   rw [scan, scan, ih]
   split
   · rfl
   · rename_i h1
     have h1 : scan g n = 0 := by simpa using h1
     rw [← ih] at h1
     exact h n (by omega) (z03 h1)
def within (n lo hi : Int) : Bool := decide (lo ≤ n) && decide (n ≤ hi)
theorem within_iff {n lo hi : Int} : within n lo hi = true ↔ lo ≤ n ∧ n ≤ hi := by simp [within]
def q0h (a b : Int) : Int := if a < b then -1 else if b < a then 1 else 0
def orr : List Int → Int
 | [] => 0
 | x :: xs => if x ≠ 0 then x else orr xs
abbrev ints (xs : List Int) : List (List Cell) := xs.map fun n => [i64 n]
theorem y5t : ∀ {xs : List Int} {i : Nat} {x : Int}, xs[i]? = some x → (∀ (j : Nat) (y : Int), j < i → xs[j]? = some y → y = 0) → x ≠ 0 → orr xs = x
 | y :: xs, 0, x, h, _, hx => by simp at h; subst h; rw [orr, if_pos hx]
 | y :: xs, i + 1, x, h, h0, hx => by
   rw [orr, if_neg (by simpa using h0 0 y (by omega) rfl)]
   exact y5t (by simpa using h) (fun j z hj hz => h0 (j + 1) z (by omega) (by simpa using hz)) hx
theorem y4g : ∀ {xs : List Int}, (∀ (j : Nat) (y : Int), xs[j]? = some y → y = 0) → orr xs = 0
 | [], _ => rfl
 | y :: xs, h => by
   rw [orr, if_neg (by simpa using h 0 y rfl)]
   exact y4g (fun j z hz => h (j + 1) z (by simpa using hz))
structure Leg where
 (s a b v : Int)
abbrev Leg.cs (l : Leg) : List Cell := [i64 l.s, i64 l.a, i64 l.b, i64 l.v]
def Leg.bad (l : Leg) : Bool := !(within l.s 0 2 && within l.a 0 5 && within l.b 0 2 && within l.v (-1000000000000) 1000000000000)
def Leg.fault (l : Leg) : Int := if l.bad then 3 else if l.v = 0 then 1 else 0
def Leg.same (l m : Leg) : Bool := l.s == m.s && l.a == m.a && l.b == m.b
structure Con where
 id : Int
 legs : List Leg
abbrev Con.cs (c : Con) : List Cell := [i64 c.id, .l (c.legs.map Leg.cs)]
structure Bal where
 (a b v : Int)
abbrev Bal.cs (x : Bal) : List Cell := [i64 x.a, i64 x.b, i64 x.v]
def Bal.bad (x : Bal) : Bool := !(within x.a 0 5 && within x.b 0 2 && within x.v 1 1000000000000)
def Bal.key (x : Bal) : Int := x.a * 3 + x.b
def ahead {α : Type} (lt : α → α → Bool) (xs : List α) (i : Nat) (x : α) : Bool := bif Nat.beq i 0 then true else match xs[i - 1]? with | some p => lt p x | none => true
def y2h (xs : List Bal) (i : Nat) : Int := match xs[i]? with
 | some x => if x.bad then 3 else if ahead (fun p x => decide (p.key < x.key)) xs i x then 0 else 1
 | none => 0
theorem z5g {us : List Bal} {i : Nat} {x : Bal} (hx : us[i]? = some x) (h : y2h us i = 0) : x.bad = false := by
 cases hb : x.bad with
 | false => rfl
 | true => simp [y2h, hx, hb] at h
theorem Bal.q0u {x : Bal} (h : x.bad = false) : IntKind.i64.wrap (IntKind.i64.wrap (x.a * 3) + x.b) = x.key := by
 simp [Bal.bad, within] at h
 rw [wrap_i64 (n := x.a * 3) (by omega) (by omega), wrap_i64 (by omega) (by omega)]; rfl
def ql (xs : List Bal) : Int := if 18 < xs.length then 2 else scan (y2h xs) xs.length
def hasB : List Bal → Int → Int → Int
 | [], _, _ => 0
 | x :: xs, a, b => if x.a = a ∧ x.b = b then x.v else hasB xs a b
theorem q49 : ∀ {xs : List Bal} {i : Nat} {x : Bal} {a b : Int}, xs[i]? = some x → (∀ (j : Nat) (y : Bal), j < i → xs[j]? = some y → ¬ (y.a = a ∧ y.b = b)) → x.a = a ∧ x.b = b → hasB xs a b = x.v
 | y :: xs, 0, x, a, b, h, _, hx => by simp at h; subst h; rw [hasB, if_pos hx]
 | y :: xs, i + 1, x, a, b, h, h0, hx => by
   rw [hasB, if_neg (h0 0 y (by omega) rfl)]
   exact q49 (by simpa using h) (fun j z hj hz => h0 (j + 1) z (by omega) (by simpa using hz)) hx
theorem y35 : ∀ {xs : List Bal} {a b : Int}, (∀ (j : Nat) (y : Bal), xs[j]? = some y → ¬ (y.a = a ∧ y.b = b)) → hasB xs a b = 0
 | [], _, _, _ => rfl
 | y :: xs, a, b, h => by
   rw [hasB, if_neg (h 0 y rfl)]
   exact y35 (fun j z hz => h (j + 1) z (by simpa using hz))
def yb7 (xs : List Bal) (l : Leg) : Int := if hasB xs l.a l.b + l.v < 0 then 6 else if 1000000000000 < hasB xs l.a l.b + l.v then 3 else 0
def y6u (xs : List Bal) (ls : List Leg) (i : Nat) : Int := match ls[i]? with | some l => yb7 xs l | none => 0
def z3o (xs : List Bal) (ls : List Leg) : Int := scan (y6u xs ls) ls.length
structure Mk where
 (c v : Int)
abbrev Mk.cs (x : Mk) : List Cell := [i64 x.c, i64 x.v]
def q0l : List Mk → Int → Int
 | [], _ => 0
 | x :: xs, c => if x.c = c then x.v else q0l xs c
theorem y1c : ∀ {xs : List Mk} {i : Nat} {x : Mk} {c : Int}, xs[i]? = some x → (∀ (j : Nat) (y : Mk), j < i → xs[j]? = some y → ¬ y.c = c) → x.c = c → q0l xs c = x.v
 | y :: xs, 0, x, c, h, _, hx => by simp at h; subst h; rw [q0l, if_pos hx]
 | y :: xs, i + 1, x, c, h, h0, hx => by
   rw [q0l, if_neg (h0 0 y (by omega) rfl)]
   exact y1c (by simpa using h) (fun j z hj hz => h0 (j + 1) z (by omega) (by simpa using hz)) hx
theorem z1k : ∀ {xs : List Mk} {c : Int}, (∀ (j : Nat) (y : Mk), xs[j]? = some y → ¬ y.c = c) → q0l xs c = 0
 | [], _, _ => rfl
 | y :: xs, c, h => by
   rw [q0l, if_neg (h 0 y rfl)]
   exact z1k (fun j z hz => h (j + 1) z (by simpa using hz))
def z24 (xs : List Mk) (i : Nat) : Int := match xs[i]? with
 | some x => if !(within x.c 1 1000000000 && within x.v 1 2) then 3 else if ahead (fun p x => decide (p.c < x.c)) xs i x then 0 else 1
 | none => 0
def yi (xs : List Mk) : Int := scan (z24 xs) xs.length
theorem qg {α : Type} {xs : List α} {i : Nat} {x : α} {p : α → Prop} (hx : xs[i]? = some x) (h : ∀ (j : Nat) (y : α), j < i → xs[j]? = some y → p y) (hp : p x) : ∀ (j : Nat) (y : α), j < i + 1 → xs[j]? = some y → p y := fun j y hj hy => by
 rcases Nat.lt_or_ge j i with h2 | h2
 · exact h j y h2 hy
 · have : j = i := by omega
   subst this; rw [hx] at hy; cases hy; exact hp
theorem zk {α : Type} {xs : List α} {i : Nat} {p : α → Prop} (hi : i = xs.length) (h : ∀ (j : Nat) (y : α), j < i → xs[j]? = some y → p y) : ∀ (j : Nat) (y : α), xs[j]? = some y → p y := fun j y hy => h j y (by have := (List.getElem?_eq_some_iff.1 hy).1; omega) hy
theorem q0m {i : Nat} (h0 : 0 < i) (h : i ≤ 9000000000000000000) : 0 ≤ IntKind.i64.wrap ((i : Int) - 1) := by rw [wrap_i64 (by omega) (by omega)]; omega
theorem q19 {α β : Type} {xs : List α} {i : Nat} {p : α} (f : α → β) (h0 : 0 < i) (h : i ≤ 9000000000000000000) (hp : xs[i - 1]? = some p) : (xs.map f)[(IntKind.i64.wrap ((i : Int) - 1)).toNat]? = some (f p) := by
 rw [wrap_i64 (by omega) (by omega), show ((i : Int) - 1).toNat = i - 1 by omega]; exact gm f hp
theorem ahead_zero {α : Type} {lt : α → α → Bool} {xs : List α} {x : α} : ahead lt xs 0 x = true := rfl
theorem ya {α : Type} {lt : α → α → Bool} {xs : List α} {i : Nat} {x p : α} (h0 : 0 < i) (hp : xs[i - 1]? = some p) : ahead lt xs i x = lt p x := by
 unfold ahead; rw [beq_false (by omega), cond_false, hp]
theorem vi {a b : Int} (h : a = b) : Value.int .i64 a = Value.int .i64 b := by rw [h]
theorem vb {a b : Bool} (h : a = b) : Value.bool a = Value.bool b := by rw [h]
theorem ci {a b : Int} (h : a = b) : Cell.s (.int .i64 a) = Cell.s (.int .i64 b) := by rw [h]
structure Vt where
 (b v : Int)
abbrev Vt.cs (x : Vt) : List Cell := [i64 x.b, i64 x.v]
def Vt.none : Vt := ⟨-1, 0⟩
def Vt.ok (x : Vt) : Bool := within x.b 0 1000 && within x.v 1 2
structure Slt where
 (c s p lb lv : Int)
 cast : List Vt
abbrev Slt.cs (x : Slt) : List Cell := [i64 x.c, i64 x.s, i64 x.p, i64 x.lb, i64 x.lv, .l (x.cast.map Vt.cs)]
def y12 (xs : List Vt) (i : Nat) : Int := match xs[i]? with
 | some x => if !x.ok then 3 else if ahead (fun p x => !(decide (x.b < p.b) || (x.b == p.b && x.v != p.v))) xs i x then 0 else 1
 | none => 0
def y3n (xs : List Vt) : Vt := (xs[xs.length - 1]?).getD Vt.none
def Slt.fault (x : Slt) : Int :=
 if !(within x.c 1 1000000000 && within x.s 0 2 && within x.p (-1) 1000) then 3
 else if 60 < x.cast.length then 2
 else if scan (y12 x.cast) x.cast.length ≠ 0 then scan (y12 x.cast) x.cast.length
 else if ¬ (x.lb = (y3n x.cast).b ∧ x.lv = (y3n x.cast).v) ∨ x.p < x.lb then 1 else 0
def Slt.lt (p x : Slt) : Bool := if p.c = x.c then decide (p.s < x.s) else decide (p.c < x.c)
def q3k (xs : List Slt) (i : Nat) : Int := match xs[i]? with
 | some x => if x.fault ≠ 0 then x.fault else if ahead Slt.lt xs i x then 0 else 1
 | none => 0
structure Acc where
 slots : List Slt
abbrev Acc.cs (x : Acc) : List Cell := [.l (x.slots.map Slt.cs)]
def Acc.fault (x : Acc) : Int := if 60 < x.slots.length then 2 else scan (q3k x.slots) x.slots.length
def z3p : List Int → Int → List Int
 | [], v => [v]
 | x :: xs, v => if x < v then x :: z3p xs v else if x = v then x :: xs else v :: x :: xs
def yn (c : Con) (s : Int) : List Leg := c.legs.filter fun l => l.s == s
structure Shd where
 idx : Int
 bals : List Bal
 votes : List Mk
 held : List Con
 done : List Mk
 app : List Int
abbrev Shd.cs (s : Shd) : List Cell := [i64 s.idx, .l (s.bals.map Bal.cs), .l (s.votes.map Mk.cs), .l (s.held.map Con.cs), .l (s.done.map Mk.cs), .l (ints s.app)]
theorem lcr {B B' : List (Nat × AB)} : ∀ {l : List Cell}, qar B B' (l.map .b) (l.map .b)
 | [] => trivial
 | _ :: l => ⟨rfl, lcr (l := l)⟩
def bsr (c : Nat → Bool) (i j : Nat) : Nat := if h : i < j then (if c ((i + j) / 2) then bsr c ((i + j) / 2 + 1) j else bsr c i ((i + j) / 2)) else i
termination_by j - i
theorem qam {c : Nat → Bool} {p n : Nat} (hc : ∀ k, k < n → c k = decide (k < p)) : ∀ (i j : Nat), i ≤ p → p ≤ j → j ≤ n → bsr c i j = p := by
 intro i j
 induction h : j - i using Nat.strongRecOn generalizing i j with
 | _ m ih =>
   intro h1 h2 h3
   rw [bsr]
   split
   · have hk := hc ((i + j) / 2) (by omega)
     split
     · rename_i ht
       rw [hk] at ht
       have ht : (i + j) / 2 < p := by simpa using ht
       exact ih (j - ((i + j) / 2 + 1)) (by omega) _ _ rfl (by omega) h2 h3
     · rename_i ht
       rw [hk] at ht
       have ht : ¬ (i + j) / 2 < p := by simpa using ht
       exact ih ((i + j) / 2 - i) (by omega) _ _ rfl h1 (by omega) (by omega)
   · omega
theorem half {i j : Nat} (hi : i ≤ 1048576) (hj : j ≤ 1048576) : IntKind.i64.wrap ((IntKind.u64.wrap (IntKind.i64.wrap ((i : Int) + j))).fdiv (2 ^ (min (1 : Int).toNat IntKind.u64.bits))) = (((i + j) / 2 : Nat) : Int) := by
 have e1 : IntKind.i64.wrap ((i : Int) + j) = (i : Int) + j := wrap_i64 (by omega) (by omega)
 have e2 : IntKind.u64.wrap ((i : Int) + j) = (i : Int) + j := by simp [IntKind.wrap, IntKind.signed, IntKind.bits]; omega
 have e3 : (2 : Int) ^ (min (1 : Int).toNat IntKind.u64.bits) = 2 := by decide
 rw [e1, e2, e3]
 have e4 : ((i : Int) + j).fdiv 2 = (((i + j) / 2 : Nat) : Int) := by rw [Int.fdiv_eq_ediv_of_nonneg _ (by omega)]; omega
 rw [e4]
 exact wrap_i64 (by omega) (by omega)
def z1d {α : Type} (p : α → Bool) : List α → Int
 | [] => -1
 | x :: l => if p x then 0 else if z1d p l < 0 then -1 else z1d p l + 1
theorem q07 {α : Type} {p : α → Bool} : ∀ {l : List α} {i : Nat} {x : α}, l[i]? = some x → (∀ (j : Nat) (y : α), j < i → l[j]? = some y → p y = false) → p x = true → z1d p l = i
 | y :: l, 0, x, h, _, hx => by simp at h; subst h; rw [z1d, if_pos hx]; rfl
 | y :: l, i + 1, x, h, h0, hx => by
   have ih := q07 (l := l) (by simpa using h) (fun j z hj hz => h0 (j + 1) z (by omega) (by simpa using hz)) hx
   rw [z1d, if_neg (by rw [h0 0 y (by omega) rfl]; decide), ih, if_neg (by omega)]
   omega
theorem q01 {α : Type} {p : α → Bool} : ∀ {l : List α}, (∀ (j : Nat) (y : α), l[j]? = some y → p y = false) → z1d p l = -1
 | [], _ => rfl
 | y :: l, h => by
   rw [z1d, if_neg (by rw [h 0 y rfl]; decide), q01 (l := l) (fun j z hz => h (j + 1) z (by simpa using hz))]
   rfl
theorem q0g {α : Type} {p : α → Bool} : ∀ {l : List α}, decide (z1d p l ≥ 0) = l.any p
 | [] => rfl
 | y :: l => by
   have ih := q0g (p := p) (l := l)
   rw [z1d, List.any_cons]
   by_cases h : p y = true
   · rw [if_pos h, h]; rfl
   · rw [if_neg h, show p y = false by simpa using h, Bool.false_or, ← ih]
     by_cases h2 : z1d p l < 0
     · rw [if_pos h2, show decide (z1d p l ≥ 0) = false by simp; omega]; rfl
     · rw [if_neg h2, show decide (z1d p l ≥ 0) = true by simp; omega]; simp; omega
def bsC {α : Type} (f : α → Int) (us : List α) (k : Nat) : Bool := match us[k]? with | some x => decide (f x < 0) | none => false
def bsP {α : Type} (f : α → Int) (us : List α) : Nat := bsr (bsC f us) 0 us.length
def bsF {α : Type} (f : α → Int) (us : List α) : Bool := match us[bsP f us]? with | some x => f x == 0 | none => false
def bsV {α : Type} (f : α → Int) (us : List α) : Res := .tup [.own false [.s (.int .i64 (bsP f us))], .own false [.s (.bool (bsF f us))]]
theorem q7e {c : Nat → Bool} {i j : Nat} (h : i < j) (hc : c ((i + j) / 2) = true) : bsr c i j = bsr c ((i + j) / 2 + 1) j := by rw [bsr, dif_pos h, if_pos hc]
theorem y7e {c : Nat → Bool} {i j : Nat} (h : i < j) (hc : c ((i + j) / 2) = false) : bsr c i j = bsr c i ((i + j) / 2) := by rw [bsr, dif_pos h, if_neg (by rw [hc]; decide)]
theorem z5h {c : Nat → Bool} {i j : Nat} (h : ¬ i < j) : bsr c i j = i := by rw [bsr, dif_neg h]
theorem z2t {α : Type} {f : α → Int} {us : List α} {k : Nat} {x : α} (h : us[k]? = some x) : bsC f us k = decide (f x < 0) := by unfold bsC; rw [h]
theorem y2t {α : Type} {f : α → Int} {us : List α} {k : Nat} {x : α} (hk : bsP f us = k) (h : us[k]? = some x) : bsF f us = (f x == 0) := by unfold bsF; rw [hk, h]
theorem y44 {α : Type} {f : α → Int} {us : List α} {k : Nat} (hk : bsP f us = k) (h : us.length ≤ k) : bsF f us = false := by unfold bsF; rw [hk, List.getElem?_eq_none h]
theorem y9u {i j : Nat} (hi : i ≤ 1048576) (hj : j ≤ 1048576) : 0 ≤ IntKind.i64.wrap ((IntKind.u64.wrap (IntKind.i64.wrap ((i : Int) + j))).fdiv (2 ^ (min (1 : Int).toNat IntKind.u64.bits))) := by rw [half hi hj]; exact Int.natCast_nonneg _
theorem q9u {α β : Type} {us : List α} {x : α} {i j : Nat} (f : α → β) (hi : i ≤ 1048576) (hj : j ≤ 1048576) (h : us[(i + j) / 2]? = some x) : (us.map f)[(IntKind.i64.wrap ((IntKind.u64.wrap (IntKind.i64.wrap ((i : Int) + j))).fdiv (2 ^ (min (1 : Int).toNat IntKind.u64.bits)))).toNat]? = some (f x) := by
 rw [half hi hj, Int.toNat_natCast]; exact gm f h
def q0b (p x : Bal) : Int := orr [q0h p.a x.a, q0h p.b x.b]
def y4n (us : List Bal) (a b : Int) : Int := bif bsF (fun x : Bal => q0b x ⟨a, b, 0⟩) us then (match us[bsP (fun x : Bal => q0b x ⟨a, b, 0⟩) us]? with | some x => x.v | none => 0) else 0
def z8v (us : List Bal) (l : Leg) : Int := if y4n us l.a l.b + l.v < 0 then 6 else if 1000000000000 < y4n us l.a l.b + l.v then 3 else 0
def y24 (us : List Mk) (c : Int) : Int := bif bsF (fun x : Mk => q0h x.c c) us then (match us[bsP (fun x : Mk => q0h x.c c) us]? with | some x => x.v | none => 0) else 0
theorem y27 {p x : Bal} (hp : p.bad = false) (hx : x.bad = false) : (0 ≤ q0b p x) ↔ ¬ p.key < x.key := by
 simp [Bal.bad, within] at hp hx
 unfold q0b q0h orr orr orr Bal.key
 split <;> split <;> (try split) <;> (try split) <;> omega
def z4c (hs : List Con) (c : Int) : Bool := hs.any fun x => x.id == c
def z5d (a b : List Leg) : Bool := a.any fun x => b.any fun y => x.a == y.a && x.b == y.b
theorem qt {α : Type} {p : α → Bool} {l : List α} {i : Nat} {x : α} (h : l[i]? = some x) (hx : p x = true) : true = l.any p := (List.any_eq_true.2 ⟨x, List.mem_of_getElem? h, hx⟩).symm
theorem any_none {α : Type} {p : α → Bool} {l : List α} (h : ∀ (j : Nat) (y : α), l[j]? = some y → p y = false) : false = l.any p := by
 rw [eq_comm, List.any_eq_false]
 intro x hx
 obtain ⟨j, hj⟩ := List.mem_iff_getElem?.1 hx
 rw [h j x hj]; decide
theorem y13 {α : Type} {p : α → Bool} {l : List α} {i : Nat} {x : α} (h : l[i]? = some x) : (l.take (i + 1)).filter p = (l.take i).filter p ++ (if p x then [x] else []) := by
 rw [List.take_add_one, h, List.filter_append]
 simp [List.filter_cons]
theorem q9b {α : Type} {f : α → Int} {us : List α} (h : us[bsP f us]? = none) : bsF f us = false := by unfold bsF; rw [h]
theorem z5f {us : List Bal} {a b : Int} (h : bsF (fun x : Bal => q0b x ⟨a, b, 0⟩) us = false) : 0 = y4n us a b := by unfold y4n; rw [h]; rfl
theorem y64 {us : List Bal} {a b : Int} {x : Bal} (h : bsF (fun x : Bal => q0b x ⟨a, b, 0⟩) us = true) (hq : us[bsP (fun x : Bal => q0b x ⟨a, b, 0⟩) us]? = some x) : x.v = y4n us a b := by unfold y4n; rw [h, hq]; rfl
theorem q4e {us : List Mk} {c : Int} (h : bsF (fun x : Mk => q0h x.c c) us = false) : 0 = y24 us c := by unfold y24; rw [h]; rfl
theorem y52 {us : List Mk} {c : Int} {x : Mk} (h : bsF (fun x : Mk => q0h x.c c) us = true) (hq : us[bsP (fun x : Mk => q0h x.c c) us]? = some x) : x.v = y24 us c := by unfold y24; rw [h, hq]; rfl
def y1a (l : List Leg) (a : Int) : Int := (l.map fun x => if x.b = a then x.v else 0).sum
def q1y (l : List Leg) : Bool := decide (y1a l 0 ≠ 0) || (decide (y1a l 1 ≠ 0) || decide (y1a l 2 ≠ 0))
def z3j (l : List Leg) (i : Nat) : Int := match l[i]? with | some x => if x.fault ≠ 0 then x.fault else if (l.take i).any (fun y => y.same x) then 7 else 0 | none => 0
def yq (c : Con) : Int := if within c.id 1 1000000000 then (if 2 ≤ c.legs.length ∧ c.legs.length ≤ 8 then (if scan (z3j c.legs) c.legs.length ≠ 0 then scan (z3j c.legs) c.legs.length else if q1y c.legs then 1 else 0) else 2) else 3
theorem z8a (l : List Leg) (x : Leg) (a : Int) : y1a (l ++ [x]) a = y1a l a + if x.b = a then x.v else 0 := by simp [y1a]
theorem y2a {l : List Leg} {i : Nat} {x : Leg} (h : l[i]? = some x) (a : Int) : y1a (l.take (i + 1)) a = y1a (l.take i) a + if x.b = a then x.v else 0 := by
 rw [List.take_add_one, h]; exact z8a _ _ _
def Leg.small (x : Leg) : Prop := -1000000000000 ≤ x.v ∧ x.v ≤ 1000000000000
theorem Leg.y0g {x : Leg} (h : x.fault = 0) : (0 ≤ x.s ∧ x.s ≤ 2) ∧ (0 ≤ x.a ∧ x.a ≤ 5) ∧ (0 ≤ x.b ∧ x.b ≤ 2) ∧ x.small ∧ x.v ≠ 0 := by
 unfold Leg.fault at h
 split at h
 · omega
 · rename_i hb
   split at h
   · omega
   · rename_i hv
     simp [Leg.bad, within] at hb
     unfold Leg.small
     omega
theorem y4k : ∀ (l : List Leg) (a : Int), (∀ x ∈ l, x.small) → -1000000000000 * (l.length : Int) ≤ y1a l a ∧ y1a l a ≤ 1000000000000 * (l.length : Int)
 | [], a, _ => by simp [y1a]
 | x :: l, a, h => by
   have h1 := y4k l a (fun y hy => h y (List.mem_cons_of_mem _ hy))
   have h2 := h x List.mem_cons_self
   unfold Leg.small at h2
   have e : y1a (x :: l) a = (if x.b = a then x.v else 0) + y1a l a := by simp [y1a]
   rw [e, List.length_cons]
   split <;> omega
theorem z5a : ∀ (l : List Leg) (a : Int), (∀ x ∈ l, x.b ≠ a) → y1a l a = 0
 | [], _, _ => rfl
 | x :: l, a, h => by
   have e : y1a (x :: l) a = (if x.b = a then x.v else 0) + y1a l a := by simp [y1a]
   rw [e, if_neg (h x List.mem_cons_self), z5a l a (fun y hy => h y (List.mem_cons_of_mem _ hy))]
   rfl
theorem q1j {l : List Leg} {i : Nat} (h : ∀ j, j < i → z3j l j = 0) : ∀ x ∈ l.take i, x.fault = 0 := fun x hx => by
 obtain ⟨j, hj⟩ := List.mem_iff_getElem?.1 hx
 rw [List.getElem?_take] at hj
 split at hj
 · rename_i hlt
   have := h j hlt
   simp only [z3j, hj] at this
   split at this
   · exact absurd this ‹_›
   · simp_all
 · cases hj
theorem q72 {l : List Leg} (h : ∀ a, y1a l a = 0) : q1y l = false := by simp [q1y, h]
theorem y3g {l : List Leg} (hf : ∀ x ∈ l, x.fault = 0) {a : Int} (h : y1a l a ≠ 0) : q1y l = true := by
 have : ∃ x ∈ l, x.b = a := by
  by_cases hx : ∃ x ∈ l, x.b = a
  · exact hx
  · exact absurd (z5a l a (fun x hm e => hx ⟨x, hm, e⟩)) h
 obtain ⟨x, hm, rfl⟩ := this
 have h0 := (Leg.y0g (hf x hm)).2.2.1
 have : x.b = 0 ∨ x.b = 1 ∨ x.b = 2 := by omega
 rcases this with e | e | e <;> rw [e] at h <;> simp [q1y, h]
def q56 (l : List Leg) : List (List Cell) := [[i64 (y1a l 0)], [i64 (y1a l 1)], [i64 (y1a l 2)]]
theorem z57 {l : List Leg} {b : Int} (h0 : 0 ≤ b) (h2 : b ≤ 2) : (q56 l)[b.toNat]? = some [i64 (y1a l b)] := by
 have : b = 0 ∨ b = 1 ∨ b = 2 := by omega
 rcases this with rfl | rfl | rfl <;> rfl
theorem z70 {l : List Leg} {i : Nat} {x : Leg} (hi : l[i]? = some x) (h0 : 0 ≤ x.b) (h2 : x.b ≤ 2) (hd : ∀ y ∈ l.take i, y.fault = 0) (hx : x.fault = 0) (hn : i ≤ 8) :
 (q56 (l.take i)).set x.b.toNat [i64 (IntKind.i64.wrap (y1a (l.take i) x.b + x.v))] = q56 (l.take (i + 1)) := by
 have hb := y4k (l.take i) x.b (fun y hy => (Leg.y0g (hd y hy)).2.2.2.1)
 have hs := (Leg.y0g hx).2.2.2.1
 unfold Leg.small at hs
 have hlen : (l.take i).length ≤ 8 := by rw [List.length_take]; omega
 rw [wrap_i64 (by omega) (by omega)]
 unfold q56
 rw [y2a hi, y2a hi, y2a hi]
 have : x.b = 0 ∨ x.b = 1 ∨ x.b = 2 := by omega
 rcases this with e | e | e <;> rw [e] <;> simp
def SM (l : List Leg) (D : DataW Unit) : Prop := Maps.IsMap D ∧ ∀ a : Int, D.atKey (.int .i64 a) (.lit (.int .i64 0)) = .lit (.int .i64 (y1a l a))
theorem qah : SM [] (.map []) := ⟨Maps.isMap_empty, fun _ => rfl⟩
theorem z5p {k : IntKind} {a b : Int} (h : (DataW.lit (.int k a) : DataW Unit) = .lit (.int k b)) : a = b := by simpa using h
theorem q79 {l : List Leg} {i : Nat} {x : Leg} {D : DataW Unit} (h : SM (l.take i) D) (hx : x.fault = 0) (hd : ∀ y ∈ l.take i, y.fault = 0) (hn : i ≤ 8) {c : Int} (hc : D.atKey (.int .i64 x.b) (.lit (.int .i64 0)) = .lit (.int .i64 c)) :
 c = y1a (l.take i) x.b ∧ IntKind.i64.wrap (c + x.v) = y1a (l.take i) x.b + x.v := by
 have e : c = y1a (l.take i) x.b := z5p (hc.symm.trans (h.2 x.b))
 have b := y4k (l.take i) x.b (fun y hy => (Leg.y0g (hd y hy)).2.2.2.1)
 have hs := (Leg.y0g hx).2.2.2.1
 unfold Leg.small at hs
 have hlen : (l.take i).length ≤ 8 := by rw [List.length_take]; omega
 refine ⟨e, ?_⟩
 rw [e, wrap_i64 (by omega) (by omega)]
theorem q9l {l : List Leg} {i : Nat} {x : Leg} {D : DataW Unit} (h : SM (l.take i) D) (hi : l[i]? = some x) (hx : x.fault = 0) (hd : ∀ y ∈ l.take i, y.fault = 0) (hn : i ≤ 8) {c : Int} (hc : D.atKey (.int .i64 x.b) (.lit (.int .i64 0)) = .lit (.int .i64 c)) :
 SM (l.take (i + 1)) (D.put (.int .i64 x.b) (.lit (.int .i64 (IntKind.i64.wrap (c + x.v))))) := by
 refine ⟨h.1.put _ _, fun a => ?_⟩
 rw [y2a hi, (q79 h hx hd hn hc).2]
 by_cases ha : x.b = a
 · rw [if_pos ha, ← ha]
   exact Maps.atKey_put_same (k := .int .i64 x.b) h.1 trivial _ _
 · rw [if_neg ha, Maps.atKey_put_other (by intro e'; injection e' with _ e'; exact ha e'.symm), h.2 a]
   simp
theorem wfi {n : Int} (h1 : -9223372036854775808 ≤ n) (h2 : n ≤ 9223372036854775807) : (Lit.int .i64 n).wf = true := by
 simp [Lit.wf, IntKind.min, IntKind.max, IntKind.signed, IntKind.bits]; omega
theorem zau {l : List Leg} {left : Lit → Bool} {y c : Int} (h : ∀ a : Int, left (.int .i64 a) = false → y1a l a = 0) (hc : y1a l y = c) (h0 : c = 0) : ∀ a : Int, (left (.int .i64 a) && !(Lit.int .i64 a).sameKey (.int .i64 y)) = false → y1a l a = 0 := fun a ha => by
 by_cases e : a = y
 · subst e; rw [hc]; exact h0
 · refine h a ?_
   have h1 : (Lit.int IntKind.i64 a).sameKey (Lit.int IntKind.i64 y) = false := Maps.sameKey_ne (fun h => e (by injection h))
   simpa [h1] using ha
theorem y9l {l : List Leg} {D : DataW Unit} (h : SM l D) : ∀ a : Int, Maps.has D (.int .i64 a) = false → y1a l a = 0 := fun a ha => z5p ((h.2 a).symm.trans (Maps.atKey_of_not_has ha _))
theorem zbb {l : List Leg} {D : DataW Unit} (h : SM l D) {y c : Int} (hat : ∀ zd, D.atKey (.int .i64 y) zd = .lit (.int .i64 c)) : y1a l y = c := z5p ((h.2 y).symm.trans (hat _))
def z7a {α : Type} (f : α → Int) (us : List α) : Prop := ∀ (i j : Nat) (x y : α), i < j → us[i]? = some x → us[j]? = some y → f y ≤ 0 → f x < 0
theorem q44 {α : Type} {f : α → Int} {us : List α} (hs : z7a f us) {i : Nat} {x : α} (hx : us[i]? = some x) (h0 : f x = 0) : bsP f us = i ∧ bsF f us = true := by
 have hi : i < us.length := (List.getElem?_eq_some_iff.1 hx).1
 have hp : bsP f us = i := qam (n := us.length) (fun k hk => by
  obtain ⟨y, hy⟩ := gx hk
  rw [z2t hy]
  rcases Nat.lt_trichotomy k i with h | h | h
  · have := hs k i y x h hy hx (by omega)
    rw [decide_eq_true this, decide_eq_true h]
  · subst h; rw [hx] at hy; cases hy; rw [decide_eq_false (by omega), decide_eq_false (by omega)]
  · have : ¬ f y < 0 := fun h1 => by have := hs i k x y h hx hy (by omega); omega
    rw [decide_eq_false this, decide_eq_false (by omega)]) 0 us.length (Nat.zero_le _) (Nat.le_of_lt hi) (Nat.le_refl _)
 refine ⟨hp, ?_⟩
 rw [y2t hp hx, h0]; rfl
theorem q5g {α : Type} {f : α → Int} {us : List α} (h : ∀ (i : Nat) (x : α), us[i]? = some x → f x ≠ 0) : bsF f us = false := by
 unfold bsF
 split
 · rename_i x hx; have := h _ x hx; simpa using this
 · rfl
theorem y45 {α : Type} {key : α → Int} {us : List α} (h : ∀ (j : Nat) (p x : α), us[j]? = some p → us[j + 1]? = some x → key p < key x) : ∀ (i j : Nat) (x y : α), i < j → us[i]? = some x → us[j]? = some y → key x < key y := by
 intro i j
 induction j with
 | zero => intro x y hij; omega
 | succ j ih =>
   intro x y hij hx hy
   have hj : j < us.length := by have := (List.getElem?_eq_some_iff.1 hy).1; omega
   obtain ⟨z, hz⟩ := gx hj
   have h1 := h j z y hz hy
   rcases Nat.lt_or_ge i j with h2 | h2
   · have := ih x z h2 hx hz; omega
   · have : i = j := by omega
     subst this; rw [hx] at hz; cases hz; exact h1
theorem z9q {a b : Int} : q0h a b ≤ 0 ↔ a ≤ b := by unfold q0h; split <;> (try split) <;> omega
theorem y9q {a b : Int} : q0h a b < 0 ↔ a < b := by unfold q0h; split <;> (try split) <;> omega
theorem z46 {a b : Int} : q0h a b = 0 ↔ a = b := by unfold q0h; split <;> (try split) <;> omega
theorem z2a {α : Type} {key : α → Int} {us : List α} (h : ∀ (i j : Nat) (x y : α), i < j → us[i]? = some x → us[j]? = some y → key x < key y) (c : Int) : z7a (fun x => q0h (key x) c) us := fun i j x y hij hx hy h0 => by
 have := h i j x y hij hx hy
 rw [z9q] at h0
 exact y9q.2 (by omega)
theorem y16 {us : List Mk} (h : yi us = 0) : ∀ (i j : Nat) (x y : Mk), i < j → us[i]? = some x → us[j]? = some y → x.c < y.c :=
 y45 (key := Mk.c) (fun j p x hp hx => by
  have hj := (List.getElem?_eq_some_iff.1 hx).1
  have := z03 h (j + 1) hj
  simp only [z24, hx] at this
  split at this
  · omega
  · split at this
    · rename_i ha
      rw [ya (p := p) (by omega) (by simpa using hp)] at ha
      simpa using ha
    · omega)
theorem y2f {us : List Mk} (h : yi us = 0) (c : Int) : y24 us c = q0l us c := by
 by_cases hx : ∃ (i : Nat) (x : Mk), us[i]? = some x ∧ x.c = c
 · obtain ⟨i, x, hx, e⟩ := hx
   have hc := y16 h
   obtain ⟨h1, h2⟩ := q44 (z2a (key := Mk.c) hc c) hx (z46.2 e)
   rw [← y52 h2 (by rw [h1]; exact hx)]
   exact (y1c hx (fun j y hj hy e' => by have := hc j i y x hj hy hx; omega) e).symm
 · have hn : ∀ (i : Nat) (x : Mk), us[i]? = some x → ¬ x.c = c := fun i x h1 h2 => hx ⟨i, x, h1, h2⟩
   rw [← q4e (q5g (f := fun x : Mk => q0h x.c c) (fun i x h1 => fun h2 => hn i x h1 (z46.1 h2)))]
   exact (z1k hn).symm
theorem z3s {us : List Bal} (h : ql us = 0) : us.length ≤ 18 ∧ (∀ x ∈ us, x.bad = false) ∧ ∀ (i j : Nat) (x y : Bal), i < j → us[i]? = some x → us[j]? = some y → x.key < y.key := by
 unfold ql at h
 split at h
 · omega
 · rename_i hl
   refine ⟨by omega, fun x hx => ?_, y45 (key := Bal.key) (fun j p x hp hx => ?_)⟩
   · obtain ⟨j, hj⟩ := List.mem_iff_getElem?.1 hx
     exact z5g hj (z03 h j (List.getElem?_eq_some_iff.1 hj).1)
   · have hj := (List.getElem?_eq_some_iff.1 hx).1
     have := z03 h (j + 1) hj
     simp only [y2h, hx] at this
     split at this
     · omega
     · split at this
       · rename_i ha
         rw [ya (p := p) (by omega) (by simpa using hp)] at ha
         simpa using ha
       · omega
theorem y56 {x : Bal} {a b : Int} : q0b x ⟨a, b, 0⟩ = 0 ↔ x.a = a ∧ x.b = b := by
 unfold q0b q0h orr orr orr
 dsimp only
 repeat' split
 all_goals omega
theorem z4h {x y t : Bal} (hx : x.bad = false) (hy : y.bad = false) (h : x.key < y.key) (h0 : q0b y t ≤ 0) : q0b x t < 0 := by
 simp [Bal.bad, within] at hx hy
 unfold Bal.key at h
 revert h0
 unfold q0b q0h orr orr orr
 intro h0
 repeat' split
 all_goals (repeat' split at h0)
 all_goals omega
theorem z64 {us : List Bal} (h : ql us = 0) (a b : Int) : y4n us a b = hasB us a b := by
 obtain ⟨_, hb, hc⟩ := z3s h
 by_cases hx : ∃ (i : Nat) (x : Bal), us[i]? = some x ∧ x.a = a ∧ x.b = b
 · obtain ⟨i, x, hx, e⟩ := hx
   have hs : z7a (fun x : Bal => q0b x ⟨a, b, 0⟩) us := fun i j x y hij h1 h2 h0 => z4h (hb x (List.mem_of_getElem? h1)) (hb y (List.mem_of_getElem? h2)) (hc i j x y hij h1 h2) h0
   obtain ⟨h1, h2⟩ := q44 hs hx (y56.2 e)
   rw [← y64 h2 (by rw [h1]; exact hx)]
   exact (q49 hx (fun j y hj hy e' => by
    have h3 := hc j i y x hj hy hx
    have h4 : y.key = x.key := by unfold Bal.key; rw [e'.1, e'.2, e.1, e.2]
    omega) e).symm
 · have hn : ∀ (i : Nat) (x : Bal), us[i]? = some x → ¬ (x.a = a ∧ x.b = b) := fun i x h1 h2 => hx ⟨i, x, h1, h2⟩
   rw [← z5f (q5g (f := fun x : Bal => q0b x ⟨a, b, 0⟩) (fun i x h1 => fun h2 => hn i x h1 (y56.1 h2)))]
   exact (y35 hn).symm
theorem z9v {us : List Bal} (h : ∀ x ∈ us, x.bad = false) (a b : Int) : 0 ≤ hasB us a b ∧ hasB us a b ≤ 1000000000000 := by
 induction us with
 | nil => simp [hasB]
 | cons y us ih =>
   rw [hasB]
   split
   · have := h y List.mem_cons_self
     simp [Bal.bad, within] at this
     omega
   · exact ih (fun x hx => h x (List.mem_cons_of_mem _ hx))
def y1o (mk : List Mk → Int → Int) (s : Shd) (i : Nat) : Int := match s.held[i]? with
 | some c => if yq c ≠ 0 then yq c else if (!(ahead (fun p x : Con => decide (p.id < x.id)) s.held i c)) || ((yn c s.idx).length == 0 || (mk s.votes c.id != 1 || mk s.done c.id != 0)) then 1 else 0
 | none => 0
def zr (mk : List Mk → Int → Int) (s : Shd) : Int := scan (y1o mk s) s.held.length
def q6x (s : Shd) (m : Mk) : Bool := m.v == 1 && (!(bsF (fun x : Con => q0h x.id m.c) s.held) && y24 s.done m.c == 0)
def q3o (s : Shd) (m : Mk) : Bool := m.v == 1 && (!(z4c s.held m.c) && q0l s.done m.c == 0)
def z6w (s : Shd) (a b : Con) : Bool := (yn a s.idx).any fun l => (yn b s.idx).any fun m => l.same m
def y1r (s : Shd) (i : Nat) : Int := match s.held[i]? with | some c => if (s.held.take i).any fun own => z6w s own c then 7 else 0 | none => 0
def q1e (s : Shd) (i : Nat) : Int := match s.held[i]? with | some c => if (s.held.take i).any fun own => z5d (yn c s.idx) (yn own s.idx) then 7 else 0 | none => 0
def z3v (us : List Bal) (ls : List Leg) (i : Nat) : Int := match ls[i]? with | some l => z8v us l | none => 0
def q1q (us : List Bal) (ls : List Leg) : Int := scan (z3v us ls) ls.length
def y6q (code : List Bal → List Leg → Int) (s : Shd) (i : Nat) : Int := match s.held[i]? with | some c => code s.bals (yn c s.idx) | none => 0
def z08 (meet : Shd → Nat → Int) (code : List Bal → List Leg → Int) (s : Shd) : Int := if scan (meet s) s.held.length ≠ 0 then scan (meet s) s.held.length else scan (y6q code s) s.held.length
theorem q12 {c : Con} (h : yq c = 0) : (1 ≤ c.id ∧ c.id ≤ 1000000000) ∧ (2 ≤ c.legs.length ∧ c.legs.length ≤ 8) ∧ ∀ l ∈ c.legs, l.fault = 0 := by
 unfold yq at h
 split at h
 · rename_i h1
   split at h
   · rename_i h2
     split at h
     · rename_i h3; exact absurd h h3
     · rename_i h3
       have h3 : scan (z3j c.legs) c.legs.length = 0 := by simpa using h3
       refine ⟨Go.Sx.within_iff.1 h1, h2, fun l hl => ?_⟩
       exact q1j (i := c.legs.length) (z03 h3) l (by rwa [List.take_length])
   · omega
 · omega
theorem z4b {mk : List Mk → Int → Int} {s : Shd} (h : zr mk s = 0) : ∀ c ∈ s.held, yq c = 0 := fun c hc => by
 obtain ⟨j, hj⟩ := List.mem_iff_getElem?.1 hc
 have := z03 h j (List.getElem?_eq_some_iff.1 hj).1
 simp only [y1o, hj] at this
 split at this
 · rename_i h1; exact absurd this h1
 · rename_i h1; simpa using h1
theorem y6r {mk : List Mk → Int → Int} {s : Shd} (h : zr mk s = 0) : ∀ (i j : Nat) (x y : Con), i < j → s.held[i]? = some x → s.held[j]? = some y → x.id < y.id :=
 y45 (key := Con.id) (fun j p x hp hx => by
  have hj := (List.getElem?_eq_some_iff.1 hx).1
  have := z03 h (j + 1) hj
  simp only [y1o, hx] at this
  split at this
  · rename_i h1; exact absurd this h1
  · split at this
    · omega
    · rename_i ha
      rw [ya (p := p) (by omega) (by simpa using hp)] at ha
      simp at ha
      exact ha.1)
theorem q7o {s : Shd} (hb : ql s.bals = 0) {c : Con} (hc : yq c = 0) : ∀ l ∈ yn c s.idx, -9000000000000000000 ≤ hasB s.bals l.a l.b + l.v ∧ hasB s.bals l.a l.b + l.v ≤ 9000000000000000000 := fun l hl => by
 have h1 := z9v (z3s hb).2.1 l.a l.b
 have h2 := (Leg.y0g ((q12 hc).2.2 l (List.mem_filter.1 hl).1)).2.2.2.1
 unfold Leg.small at h2
 omega
theorem y8q {s : Shd} (hb : ql s.bals = 0) {c : Con} (hc : yq c = 0) : ∀ l ∈ yn c s.idx, -9000000000000000000 ≤ y4n s.bals l.a l.b + l.v ∧ y4n s.bals l.a l.b + l.v ≤ 9000000000000000000 := fun l hl => by
 rw [z64 hb]; exact q7o hb hc l hl
theorem q7u {us : List Bal} (h : ql us = 0) (ls : List Leg) : q1q us ls = z3o us ls := by
 unfold q1q z3o
 refine y11 (fun j hj _ => ?_)
 unfold z3v y6u
 cases ls[j]? with
 | some l => simp only [z8v, yb7, z64 h]
 | none => rfl
theorem q4x {s : Shd} (hv : yi s.votes = 0) (hd : yi s.done = 0) : zr y24 s = zr q0l s := by
 unfold zr
 refine y11 (fun j hj _ => ?_)
 unfold y1o
 split
 · rw [y2f hv, y2f hd]
 · rfl
theorem z7r {s : Shd} {mk : List Mk → Int → Int} (h : zr mk s = 0) (c : Int) : bsF (fun x : Con => q0h x.id c) s.held = z4c s.held c := by
 by_cases hx : ∃ (i : Nat) (x : Con), s.held[i]? = some x ∧ x.id = c
 · obtain ⟨i, x, hx, e⟩ := hx
   rw [(q44 (z2a (key := Con.id) (y6r h) c) hx (z46.2 e)).2]
   exact qt hx (by simp [e])
 · have hn : ∀ (i : Nat) (x : Con), s.held[i]? = some x → ¬ x.id = c := fun i x h1 h2 => hx ⟨i, x, h1, h2⟩
   rw [q5g (f := fun x : Con => q0h x.id c) (fun i x h1 h2 => hn i x h1 (z46.1 h2))]
   exact any_none (fun i x h1 => by simpa using hn i x h1)
theorem y6w (s : Shd) (a b : Con) : z6w s a b = z5d (yn b s.idx) (yn a s.idx) := by
 unfold z6w z5d
 rw [Bool.eq_iff_iff]
 simp only [List.any_eq_true]
 have hs : ∀ {c : Con} {l : Leg}, l ∈ yn c s.idx → l.s = s.idx := fun {c l} hl => by simpa using (List.mem_filter.1 hl).2
 constructor
 · rintro ⟨l, hl, m, hm, h⟩
   refine ⟨m, hm, l, hl, ?_⟩
   simp [Leg.same] at h ⊢
   omega
 · rintro ⟨m, hm, l, hl, h⟩
   refine ⟨l, hl, m, hm, ?_⟩
   have h1 := hs hl
   have h2 := hs hm
   simp [Leg.same] at h ⊢
   omega
theorem y60 {s : Shd} (h : ql s.bals = 0) : z08 y1r q1q s = z08 q1e z3o s := by
 have e1 : scan (y1r s) s.held.length = scan (q1e s) s.held.length := y11 (fun j _ _ => by
  unfold y1r q1e
  split
  · simp only [y6w]
  · rfl)
 have e2 : scan (y6q q1q s) s.held.length = scan (y6q z3o s) s.held.length := y11 (fun j _ _ => by
  unfold y6q
  split
  · exact q7u h _
  · rfl)
 unfold z08
 rw [e1, e2]
def z9b (s : Shd) (i : Nat) : Int := match s.app[i]? with | some a => if q0l s.done a != 1 || ((s.app.take i).any fun y => y == a) then 1 else 0 | none => 0
def y3l (us : List Mk) : Nat := (us.filter fun m => m.v == 1).length
theorem q6o {us : List Mk} {i : Nat} {x : Mk} (h : us[i]? = some x) : y3l (us.take (i + 1)) = y3l (us.take i) + (if x.v == 1 then 1 else 0) := by
 unfold y3l
 rw [y13 h, List.length_append]
 split <;> rfl
theorem y68 (us : List Mk) (i : Nat) : y3l (us.take i) ≤ i := by
 unfold y3l
 exact Nat.le_trans (List.length_filter_le _ _) (by rw [List.length_take]; omega)
def z65 (s : Shd) : Bool := scan (z9b s) s.app.length == 0 && y3l s.done == s.app.length
def many (s : Shd) : Bool := decide (100 < s.votes.length) || (decide (100 < s.held.length) || (decide (100 < s.done.length) || decide (100 < s.app.length)))
def q11 (s : Shd) : Int :=
 if zr q0l s ≠ 0 then zr q0l s else if s.votes.any (q3o s) then 1 else if z65 s then z08 q1e z3o s else 1
def qp (s : Shd) : Int :=
 if within s.idx 0 2 then (if ql s.bals ≠ 0 then ql s.bals else if many s then 2 else if yi s.votes ≠ 0 then yi s.votes else if yi s.done ≠ 0 then yi s.done else q11 s) else 3
def z1y (ok : Bool) (s : Shd) : Int :=
 if within s.idx 0 2 then (if ql s.bals ≠ 0 then ql s.bals else if many s then 2 else
  if orr [yi s.votes, yi s.done, zr y24 s] ≠ 0 then orr [yi s.votes, yi s.done, zr y24 s] else
  if s.votes.any (q6x s) || !ok then 1 else z08 y1r q1q s) else 3
theorem z4j (s : Shd) : z1y (z65 s) s = qp s := by
 unfold z1y qp q11
 split
 · split
   · rfl
   · rename_i hb
     have hb : ql s.bals = 0 := by simpa using hb
     split
     · rfl
     · simp only [orr]
       by_cases hv : yi s.votes = 0
       · by_cases hd : yi s.done = 0
         · rw [q4x hv hd, y60 hb]
           by_cases hh : zr q0l s = 0
           · have : q6x s = q3o s := by
              funext m
              unfold q6x q3o
              rw [z7r hh, y2f hd]
             rw [this]
             simp only [hv, hd, hh]
             cases s.votes.any (q3o s) <;> cases z65 s <;> simp
           · simp [hv, hd, hh]
         · simp [hv, hd]
       · simp [hv]
 · rfl
theorem za3 (s : Shd) : decide (mx (mx (mx ((s.votes.map Mk.cs).length : Nat) ((s.held.map Con.cs).length : Nat)) ((s.done.map Mk.cs).length : Nat)) ((ints s.app).length : Nat) > 100) = many s := by
 unfold many
 simp only [List.length_map, ints]
 rw [Bool.eq_iff_iff]
 simp only [Bool.or_eq_true, decide_eq_true_eq]
 unfold mx
 repeat' split
 all_goals omega
theorem zbq {a b c : Int} (h : (orr [a, b, c] != 0) = false) : a = 0 ∧ b = 0 ∧ c = 0 := by
 simp only [orr] at h
 by_cases ha : a = 0 <;> by_cases hb : b = 0 <;> by_cases hc : c = 0 <;> simp_all
theorem y6h {s : Shd} {c : Int} (e : c = zr q0l s) (h : c ≠ 0) : c = q11 s := by unfold q11; rw [if_pos (by rw [← e]; exact h)]; exact e
theorem y92 {s : Shd} (h : zr q0l s = 0) (ho : true = s.votes.any (q3o s)) : 1 = q11 s := by unfold q11; rw [if_neg (by rw [h]; decide), if_pos ho.symm]
theorem q92 {s : Shd} (h : zr q0l s = 0) (ho : false = s.votes.any (q3o s)) (ha : z65 s = false) : 1 = q11 s := by unfold q11; rw [if_neg (by rw [h]; decide), if_neg (by rw [← ho]; decide), if_neg (by rw [ha]; decide)]
theorem y4j {s : Shd} {c : Int} (h : zr q0l s = 0) (ho : false = s.votes.any (q3o s)) (ha : z65 s = true) (e : c = z08 q1e z3o s) : c = q11 s := by unfold q11; rw [if_neg (by rw [h]; decide), if_neg (by rw [← ho]; decide), if_pos ha]; exact e
theorem y75 {meet : Shd → Nat → Int} {code : List Bal → List Leg → Int} {s : Shd} {c : Int} (e : c = scan (meet s) s.held.length) (h : c ≠ 0) : c = z08 meet code s := by unfold z08; rw [if_pos (by rw [← e]; exact h)]; exact e
theorem q3z {meet : Shd → Nat → Int} {code : List Bal → List Leg → Int} {s : Shd} {c : Int} (h : scan (meet s) s.held.length = 0) (e : c = scan (y6q code s) s.held.length) : c = z08 meet code s := by unfold z08; rw [if_neg (by rw [h]; decide)]; exact e
theorem y9b {t : Bool} {v : Int} (h : ((if t = true then v else 3) != 0) = false) : t = true ∧ v = 0 := by
 cases t with
 | true => exact ⟨rfl, by simpa using h⟩
 | false => simp at h
theorem z58 {s : Shd} (h : ((if within s.idx 0 2 = true then ql s.bals else 3) != 0) = true) : (if within s.idx 0 2 = true then ql s.bals else 3) = qp s := by
 unfold qp
 split
 · rename_i hw; rw [if_pos hw] at h; rw [if_pos (by simpa using h)]
 · rfl
theorem y58 {s : Shd} {c : Int} (h : within s.idx 0 2 = true ∧ ql s.bals = 0) (e : c = if many s then 2 else if yi s.votes ≠ 0 then yi s.votes else if yi s.done ≠ 0 then yi s.done else q11 s) : c = qp s := by
 unfold qp; rw [if_pos h.1, if_neg (by rw [h.2]; decide)]; exact e
theorem z7y {xs : List Int} : ∀ {ys : List Int}, xs.Nodup → (∀ x ∈ xs, x ∈ ys) → ∃ zs, ys.Perm (xs ++ zs) := by
 induction xs with
 | nil => intro ys _ _; exact ⟨ys, List.Perm.refl _⟩
 | cons x xs ih =>
   intro ys hn hm
   obtain ⟨hx, hn⟩ := List.nodup_cons.1 hn
   obtain ⟨zs, hz⟩ := ih (ys := ys.erase x) hn (fun y hy => (List.mem_erase_of_ne (fun e => hx (by rw [← e]; exact hy))).2 (hm y (List.mem_cons_of_mem _ hy)))
   exact ⟨zs, (List.perm_cons_erase (hm x List.mem_cons_self)).trans (hz.cons x)⟩
def dnI (us : List Mk) : List Int := (us.filter fun m => m.v == 1).map Mk.c
theorem q8n {us : List Mk} {i : Nat} {x : Mk} (h : us[i]? = some x) : dnI (us.take (i + 1)) = if x.v == 1 then dnI (us.take i) ++ [x.c] else dnI (us.take i) := by
 unfold dnI
 rw [y13 h, List.map_append]
 split
 · rfl
 · simp
theorem q7h (us : List Mk) : (dnI us).length = y3l us := by unfold dnI y3l; rw [List.length_map]
theorem z1g {α : Type} {r : α → α → Prop} : ∀ {us : List α}, (∀ (i j : Nat) (x y : α), i < j → us[i]? = some x → us[j]? = some y → r x y) → us.Pairwise r
 | [], _ => List.Pairwise.nil
 | x :: us, h => List.Pairwise.cons (fun y hy => by
     obtain ⟨j, hj⟩ := List.mem_iff_getElem?.1 hy
     exact h 0 (j + 1) x y (by omega) rfl (by simpa using hj)) (z1g (us := us) (fun i j a b hij ha hb => h (i + 1) (j + 1) a b (by omega) (by simpa using ha) (by simpa using hb)))
theorem y9e {us : List Mk} (h : yi us = 0) : (dnI us).Pairwise (· < ·) := by
 unfold dnI
 rw [List.pairwise_map]
 exact (z1g (r := fun a b : Mk => a.c < b.c) (y16 h)).sublist List.filter_sublist
theorem q5r {us : List Int} (h : us.Pairwise (· < ·)) : us.Nodup := h.imp (fun h => by omega)
theorem y7w {us : List Mk} (h : yi us = 0) (c : Int) : c ∈ dnI us ↔ q0l us c = 1 := by
 unfold dnI
 rw [List.mem_map]
 constructor
 · rintro ⟨m, hm, rfl⟩
   obtain ⟨hm, hv⟩ := List.mem_filter.1 hm
   obtain ⟨i, hi⟩ := List.mem_iff_getElem?.1 hm
   rw [y1c hi (fun j y hj hy e => by have := y16 h j i y m hj hy hi; omega) rfl]
   simpa using hv
 · intro hc
   by_cases hx : ∃ (i : Nat) (x : Mk), us[i]? = some x ∧ x.c = c
   · obtain ⟨i, x, hx, e⟩ := hx
     have := y1c hx (fun j y hj hy e' => by have := y16 h j i y x hj hy hx; omega) e
     exact ⟨x, List.mem_filter.2 ⟨List.mem_of_getElem? hx, by simp; omega⟩, e⟩
   · have hn : ∀ (i : Nat) (x : Mk), us[i]? = some x → ¬ x.c = c := fun i x h1 h2 => hx ⟨i, x, h1, h2⟩
     rw [z1k hn] at hc; omega
theorem q7x : ∀ {us : List Int}, (∀ (i : Nat) (x : Int), us[i]? = some x → ¬ x ∈ us.take i) → us.Nodup := by
 intro us h
 exact z1g (fun i j x y hij hx hy e => h j y hy (by
  rw [← e]
  exact List.mem_iff_getElem?.2 ⟨i, by rw [List.getElem?_take_of_lt hij]; exact hx⟩))
theorem z8k {s : Shd} (h : yi s.done = 0) : z65 s = true ↔ (∀ x ∈ s.app, x ∈ dnI s.done) ∧ s.app.Nodup ∧ (dnI s.done).length = s.app.length := by
 unfold z65
 rw [q7h]
 simp only [Bool.and_eq_true, beq_iff_eq]
 rw [← and_assoc]
 refine and_congr_left (fun _ => ?_)
 constructor
 · intro h0
   have hz : ∀ (i : Nat) (x : Int), s.app[i]? = some x → q0l s.done x = 1 ∧ ¬ x ∈ s.app.take i := fun i x hx => by
    have := z03 h0 i (List.getElem?_eq_some_iff.1 hx).1
    simp only [z9b, hx] at this
    split at this
    · omega
    · rename_i h1
      simp at h1
      exact ⟨h1.1, h1.2⟩
   refine ⟨fun x hx => ?_, q7x fun i x hx => (hz i x hx).2⟩
   obtain ⟨i, hi⟩ := List.mem_iff_getElem?.1 hx
   exact (y7w h x).2 (hz i x hi).1
 · rintro ⟨h1, h2⟩
   refine zg (fun i hi => ?_)
   obtain ⟨x, hx⟩ := gx hi
   simp only [z9b, hx]
   rw [if_neg]
   have e := (y7w h x).1 (h1 x (List.mem_of_getElem? hx))
   have e2 : ¬ x ∈ s.app.take i := fun hm => by
    obtain ⟨j, hj⟩ := List.mem_iff_getElem?.1 hm
    have hji : j < i := by have := (List.getElem?_eq_some_iff.1 hj).1; rw [List.length_take] at this; omega
    rw [List.getElem?_take_of_lt hji] at hj
    obtain ⟨q1, q2⟩ := List.getElem?_eq_some_iff.1 hj
    obtain ⟨q3, q4⟩ := List.getElem?_eq_some_iff.1 hx
    have := (List.pairwise_iff_getElem.1 h2) j i q1 q3 hji
    exact this (by rw [q2, q4])
   simp [e]
   exact e2
def z1a (xs : List Int) : List Int := xs.mergeSort (fun a b => decide (a ≤ b))
theorem q6l {s : Shd} (h : yi s.done = 0) : (z1a s.app == dnI s.done) = z65 s := by
 rw [Bool.eq_iff_iff, z8k h, beq_iff_eq]
 unfold z1a
 have hp := List.mergeSort_perm s.app (fun a b : Int => decide (a ≤ b))
 constructor
 · intro e
   rw [e] at hp
   exact ⟨fun x hx => hp.symm.subset hx, hp.nodup_iff.1 (q5r (y9e h)), hp.length_eq⟩
 · rintro ⟨h1, h2, h3⟩
   obtain ⟨zs, hz⟩ := z7y h2 h1
   have hl := hz.length_eq
   rw [List.length_append] at hl
   have hz0 : zs = [] := List.eq_nil_of_length_eq_zero (by omega)
   subst hz0
   rw [List.append_nil] at hz
   refine List.Perm.eq_of_pairwise (le := fun a b : Int => decide (a ≤ b) = true) (fun a b _ _ h1 h2 => by simp at h1 h2; omega) (List.pairwise_mergeSort (fun a b c h1 h2 => by simp at h1 h2 ⊢; omega) (fun a b => by simp; omega) _) ((y9e h).imp (fun h => by simp; omega)) (hp.trans hz.symm)
structure Msg where
 (k to fr c s b v ob ov : Int)
abbrev Msg.cs (m : Msg) : List Cell := [i64 m.k, i64 m.to, i64 m.fr, i64 m.c, i64 m.s, i64 m.b, i64 m.v, i64 m.ob, i64 m.ov]
structure Tr where
 (c s b v : Int)
 fr : List Int
 olds : List Vt
abbrev Tr.cs (t : Tr) : List Cell := [i64 t.c, i64 t.s, i64 t.b, i64 t.v, .l (ints t.fr), .l (t.olds.map Vt.cs)]
structure Hd where
 (c s b v f : Int)
abbrev Hd.cs (h : Hd) : List Cell := [i64 h.c, i64 h.s, i64 h.b, i64 h.v, i64 h.f]
structure Ldr where
 n : Int
 tries : List Tr
 known : List Hd
abbrev Ldr.cs (l : Ldr) : List Cell := [i64 l.n, .l (l.tries.map Tr.cs), .l (l.known.map Hd.cs)]
structure Clu where
 cons : List Con
 shs : List Shd
 accs : List Acc
 ldrs : List Ldr
 msgs : List Msg
abbrev Clu.cs (c : Clu) : List Cell := [.l (c.cons.map Con.cs), .l (c.shs.map Shd.cs), .l (c.accs.map Acc.cs), .l (c.ldrs.map Ldr.cs), .l (c.msgs.map Msg.cs)]
instance instDecidableEqLeg : DecidableEq Leg := fun x y =>
 if h : x.s = y.s ∧ x.a = y.a ∧ x.b = y.b ∧ x.v = y.v then isTrue (by cases x; cases y; simp_all) else isFalse (fun e => h (by subst e; exact ⟨rfl, rfl, rfl, rfl⟩))
def yb5 (s : Shd) : Prop := s.bals.length ≤ 1048576 ∧ s.votes.length ≤ 1048576 ∧ s.held.length ≤ 1048576 ∧ s.done.length ≤ 1048576 ∧ s.app.length ≤ 1048576 ∧ ∀ c ∈ s.held, c.legs.length ≤ 1048576
def z41 (a : Acc) : Prop := a.slots.length ≤ 1048576 ∧ ∀ s ∈ a.slots, s.cast.length ≤ 1048576
def yai (t : Tr) : Prop := t.fr.length ≤ 1048576 ∧ t.olds.length ≤ 1048576
def q8j (l : Ldr) : Prop := l.tries.length ≤ 1048576 ∧ l.known.length ≤ 1048576 ∧ ∀ t ∈ l.tries, yai t
def y00 (c : Clu) : Prop := (c.cons.length ≤ 1048576 ∧ ∀ x ∈ c.cons, x.legs.length ≤ 1048576) ∧ (c.shs.length ≤ 1048576 ∧ ∀ s ∈ c.shs, yb5 s) ∧ (c.accs.length ≤ 1048576 ∧ ∀ a ∈ c.accs, z41 a) ∧ (c.ldrs.length ≤ 1048576 ∧ ∀ l ∈ c.ldrs, q8j l) ∧ c.msgs.length ≤ 1048576
def yap (c : Con) (s : Int) : Bool := c.legs.any fun l => l.s == s
def y0w (cs : List Con) (id : Int) : Option Con := cs.find? fun c => c.id == id
def q14 (cs : List Con) (id s : Int) : Bool := match y0w cs id with | some c => yap c s | none => false
theorem y1d {α : Type} {p : α → Bool} : ∀ {l : List α} {x : α}, l.find? p = some x → ∃ i : Nat, z1d p l = i ∧ l[i]? = some x
 | y :: l, x, h => by
   rw [List.find?_cons] at h
   by_cases hy : p y = true
   · rw [hy] at h; cases h; exact ⟨0, by rw [z1d, if_pos hy]; rfl, rfl⟩
   · rw [show p y = false by simpa using hy] at h
     obtain ⟨i, h1, h2⟩ := y1d h
     exact ⟨i + 1, by rw [z1d, if_neg hy, h1, if_neg (by omega)]; omega, by simpa using h2⟩
theorem y1v {α : Type} {p : α → Bool} : ∀ {l : List α}, l.find? p = none → z1d p l = -1
 | [], _ => rfl
 | y :: l, h => by
   rw [List.find?_cons] at h
   by_cases hy : p y = true
   · rw [hy] at h; cases h
   · rw [show p y = false by simpa using hy] at h
     rw [z1d, if_neg hy, y1v h]; rfl
theorem z6v (c : Con) (s : Int) : decide (0 < (yn c s).length) = yap c s := by
 unfold yn yap
 rw [Bool.eq_iff_iff, decide_eq_true_eq, List.length_pos_iff_exists_mem, List.any_eq_true]
 simp only [List.mem_filter]
theorem q4f {x v : Int} : ∀ {l : List Int}, x ∈ z3p l v ↔ x = v ∨ x ∈ l
 | [] => by simp [z3p]
 | y :: l => by
   rw [z3p]
   split
   · rw [List.mem_cons, q4f (l := l), List.mem_cons]
     constructor
     · rintro (h | h | h) <;> simp [h]
     · rintro (h | h | h) <;> simp [h]
   · split
     · rename_i h; subst h; simp
     · simp
theorem q5t {v : Int} : ∀ {l : List Int} {i : Nat}, i ≤ l.length → (∀ (j : Nat) (x : Int), j < i → l[j]? = some x → x < v) → (∀ x, l[i]? = some x → ¬ x < v) → z3p l v = if l[i]? = some v then l else l.take i ++ v :: l.drop i
 | [], i, hi, _, _ => by
   have : i = 0 := by simpa using hi
   subst this; rfl
 | y :: l, 0, _, _, h1 => by
   have hy := h1 y rfl
   rw [z3p, if_neg hy]
   by_cases e : y = v
   · subst e; simp
   · rw [if_neg e, if_neg (by simpa using e)]; rfl
 | y :: l, i + 1, hi, h0, h1 => by
   have hy := h0 0 y (by omega) rfl
   rw [z3p, if_pos hy, q5t (l := l) (i := i) (by simpa using hi) (fun j x hj hx => h0 (j + 1) x (by omega) (by simpa using hx)) (fun x hx => h1 x (by simpa using hx))]
   simp only [List.getElem?_cons_succ]
   split
   · rfl
   · simp
theorem z82 {v : Int} : ∀ {l : List Int}, l.Pairwise (· < ·) → (z3p l v).Pairwise (· < ·)
 | [], _ => by simp [z3p]
 | x :: l, h => by
   obtain ⟨h1, h2⟩ := List.pairwise_cons.1 h
   rw [z3p]
   split
   · rename_i hx
     refine List.pairwise_cons.2 ⟨fun y hy => ?_, z82 h2⟩
     rcases q4f.1 hy with rfl | hy
     · exact hx
     · exact h1 y hy
   · split
     · exact h
     · refine List.pairwise_cons.2 ⟨fun y hy => ?_, h⟩
       rcases List.mem_cons.1 hy with rfl | hy
       · omega
       · have := h1 y hy; omega
theorem q1t {l : List Int} {v : Int} {i : Nat} (hs : l.Pairwise (· < ·)) (h0 : ∀ (j : Nat) (x : Int), j < i → l[j]? = some x → x < v) (h1 : ∀ x, l[i]? = some x → ¬ x < v) : l.contains v = (l[i]? == some v) := by
 rw [Bool.eq_iff_iff, List.contains_iff_mem, beq_iff_eq]
 constructor
 · intro hm
   obtain ⟨j, hj⟩ := List.mem_iff_getElem?.1 hm
   rcases Nat.lt_trichotomy j i with h | h | h
   · have := h0 j v h hj; omega
   · subst h; exact hj
   · obtain ⟨hj1, hj2⟩ := List.getElem?_eq_some_iff.1 hj
     have hi : i < l.length := by omega
     have := (List.pairwise_iff_getElem.1 hs) i j hi hj1 h
     have := h1 l[i] (List.getElem?_eq_getElem hi)
     omega
 · exact fun h => List.mem_of_getElem? h
theorem y6f {v : Int} : ∀ {l : List Int}, l.Pairwise (· < ·) → l.contains v = true → z3p l v = l
 | [], _, h => by simp at h
 | x :: l, hs, h => by
   obtain ⟨h1, h2⟩ := List.pairwise_cons.1 hs
   rw [z3p]
   by_cases e : x = v
   · rw [if_neg (by omega), if_pos e]
   · have hm : v ∈ l := by
      rw [List.contains_iff_mem] at h
      rcases List.mem_cons.1 h with rfl | h
      · exact absurd rfl e
      · exact h
     rw [if_pos (h1 v hm), y6f h2 (by rw [List.contains_iff_mem]; exact hm)]
def shF (ls : List Leg) : List Int := ls.foldl (fun l x => z3p l x.s) []
theorem z6h {ls : List Leg} {i : Nat} {x : Leg} (h : ls[i]? = some x) : shF (ls.take (i + 1)) = z3p (shF (ls.take i)) x.s := by
 unfold shF
 rw [List.take_add_one, h, List.foldl_append]; rfl
theorem y38 {x : Int} : ∀ {ls : List Leg} {l : List Int}, x ∈ ls.foldl (fun l x => z3p l x.s) l ↔ x ∈ l ∨ ∃ y ∈ ls, y.s = x
 | [], l => by simp
 | y :: ls, l => by
   rw [List.foldl_cons, y38 (ls := ls), q4f]
   constructor
   · rintro ((h | h) | ⟨z, h, e⟩)
     · exact .inr ⟨y, List.mem_cons_self, h.symm⟩
     · exact .inl h
     · exact .inr ⟨z, List.mem_cons_of_mem _ h, e⟩
   · rintro (h | ⟨z, h, e⟩)
     · exact .inl (.inr h)
     · rcases List.mem_cons.1 h with rfl | h
       · exact .inl (.inl e.symm)
       · exact .inr ⟨z, h, e⟩
theorem ya9 (c : Con) (s : Int) : (shF c.legs).any (fun y => y == s) = yap c s := by
 unfold yap shF
 rw [Bool.eq_iff_iff, List.any_eq_true, List.any_eq_true]
 simp only [y38, List.not_mem_nil, false_or, beq_iff_eq]
 constructor
 · rintro ⟨x, ⟨y, h, e⟩, e2⟩; exact ⟨y, h, by rw [e, e2]⟩
 · rintro ⟨y, h, e⟩; exact ⟨s, ⟨y, h, e⟩, rfl⟩
theorem y8y {l : List Int} {v : Int} : (z3p l v).length ≤ l.length + 1 := by
 induction l with
 | nil => simp [z3p]
 | cons x l ih =>
   rw [z3p]
   split
   · simp; omega
   · split <;> simp
theorem y2g : ∀ (ls : List Leg) (i : Nat), (shF (ls.take i)).length ≤ i
 | ls, 0 => by simp [shF]
 | ls, i + 1 => by
   cases h : ls[i]? with
   | some x => rw [z6h h]; have := y2g ls i; have := y8y (l := shF (ls.take i)) (v := x.s); omega
   | none => rw [List.take_add_one, h]; simp; have := y2g ls i; omega
theorem q6g (ls : List Leg) : (shF ls).Pairwise (· < ·) := by
 unfold shF
 have : ∀ (ls : List Leg) (l : List Int), l.Pairwise (· < ·) → (ls.foldl (fun l x => z3p l x.s) l).Pairwise (· < ·) := by
  intro ls
  induction ls with
  | nil => intro l h; exact h
  | cons y ls ih => intro l h; exact ih _ (z82 h)
 exact this ls [] List.Pairwise.nil
def toN (c : Clu) (m : Msg) : Nat := if m.k = 1 ∨ m.k = 6 then c.shs.length else if m.k = 3 ∨ m.k = 5 then c.ldrs.length else c.accs.length
def frN (c : Clu) (m : Msg) : Nat := if m.k = 4 then c.ldrs.length else c.accs.length
def ends (c : Clu) (m : Msg) : Bool := within m.to 0 ((toN c m : Int) - 1) && (decide (m.k < 3) || decide (5 < m.k) || within m.fr 0 ((frN c m : Int) - 1))
def Msg.shd (m : Msg) : Int := if m.k = 1 ∨ m.k = 6 then m.to else m.s
def ranges (c : Clu) (m : Msg) : Bool := q14 c.cons m.c m.shd && (!(decide (2 ≤ m.k) && decide (m.k ≤ 5)) || within m.b 0 1000) && (!(m.k == 2 || m.k == 3 || m.k == 6) || within m.v 1 2) && (!(m.k == 5) || (m.ob == -1 && m.ov == 0) || (Vt.ok ⟨m.ob, m.ov⟩))
def Msg.bare (m : Msg) : Msg :=
 ⟨m.k, m.to, if 3 ≤ m.k ∧ m.k ≤ 5 then m.fr else 0, m.c, if 2 ≤ m.k ∧ m.k ≤ 5 then m.s else 0, if 2 ≤ m.k ∧ m.k ≤ 5 then m.b else 0, if m.k = 2 ∨ m.k = 3 ∨ m.k = 6 then m.v else 0, if m.k = 5 then m.ob else 0, if m.k = 5 then m.ov else 0⟩
def Msg.same (m n : Msg) : Bool := m.k == n.k && m.to == n.to && m.fr == n.fr && m.c == n.c && m.s == n.s && m.b == n.b && m.v == n.v && m.ob == n.ob && m.ov == n.ov
def z0h (c : Clu) (m : Msg) : Int :=
 if !(within m.k 1 6) then 5 else if !(ends c m) then 3 else if (y0w c.cons m.c).isNone then 4 else if !(ranges c m) then 3 else if !(m.same m.bare) then 1 else 0
def qb6 (c : Clu) (x : Con) : Bool := x.legs.any fun l => !(within l.s 0 ((c.shs.length : Int) - 1))
def q0c (c : Clu) (i : Nat) : Int := match c.cons[i]? with
 | some x => if yq x ≠ 0 then yq x else if qb6 c x then 4 else if ahead (fun p x : Con => decide (p.id < x.id)) c.cons i x then 0 else 1
 | none => 0
def Con.same (a b : Con) : Bool := a.id == b.id && decide (a.legs = b.legs)
def q3i (c : Clu) (h : Con) : Bool := match y0w c.cons h.id with | some x => !(x.same h) | none => true
def z9j (c : Clu) (i : Nat) (s : Shd) : Int :=
 if qp s ≠ 0 then qp s
 else if s.idx ≠ i then 1
 else if (s.votes.any fun m => !(q14 c.cons m.c i)) || (s.done.any fun m => !(q14 c.cons m.c i)) then 1
 else if s.held.any (q3i c) then 1 else 0
def q2g (c : Clu) (i : Nat) : Int := match c.shs[i]? with | some s => z9j c i s | none => 0
def z9m (c : Clu) (a : Acc) : Int := if a.fault ≠ 0 then a.fault else if a.slots.any (fun s => !(q14 c.cons s.c s.s)) then 4 else 0
def y2p (c : Clu) (i : Nat) : Int := match c.accs[i]? with | some a => z9m c a | none => 0
def z0r (fr : List Int) (j : Nat) : Int := match fr[j]? with | some x => if (fr.take j).any (fun y => y == x) then 7 else 0 | none => 0
def Tr.lt (p x : Tr) : Bool := if p.c = x.c then decide (p.s < x.s) else decide (p.c < x.c)
def z1u (c : Clu) (p : Int) : Bool := !(within p 0 ((c.accs.length : Int) - 1))
def z0q (v : Vt) : Bool := !(v.b == -1 && v.v == 0) && !v.ok
def q75 (c : Clu) (t : Tr) : Int := if t.fr.any (z1u c) || t.olds.any z0q then 3 else scan (z0r t.fr) t.fr.length
def y5d (c : Clu) (ts : List Tr) (i : Nat) (t : Tr) : Int :=
 if !(q14 c.cons t.c t.s) then 4
 else if !(within t.b 1 1000 && within t.v 0 2) then 3
 else if !(ahead Tr.lt ts i t) || t.fr.length != t.olds.length then 1
 else q75 c t
def q3j (c : Clu) (ts : List Tr) (i : Nat) : Int := match ts[i]? with | some t => y5d c ts i t | none => 0
def Hd.cmp (p x : Hd) : Int := orr [q0h p.c x.c, q0h p.s x.s, q0h p.b x.b, q0h p.v x.v, q0h p.f x.f]
def Hd.lt (p x : Hd) : Bool := decide (Hd.cmp p x < 0)
def hdF (c : Clu) (ks : List Hd) (i : Nat) : Int := match ks[i]? with
 | some h => if !(q14 c.cons h.c h.s) then 4 else if !(within h.b 0 1000 && within h.v 1 2 && within h.f 0 ((c.accs.length : Int) - 1)) then 3 else if ahead Hd.lt ks i h then 0 else 1
 | none => 0
def z7u (c : Clu) (l : Ldr) : Int :=
 if !(within l.n 0 400) then 3 else if 60 < l.tries.length ∨ 300 < l.known.length then 2 else orr [scan (q3j c l.tries) l.tries.length, scan (hdF c l.known) l.known.length]
def q2q (c : Clu) (i : Nat) : Int := match c.ldrs[i]? with | some l => z7u c l | none => 0
def z4g (c : Clu) (i : Nat) : Int := match c.msgs[i]? with | some m => z0h c m | none => 0
def z0o (c : Clu) : Bool := decide (20 < c.cons.length) || !(within c.shs.length 1 3) || !(within c.accs.length 1 5) || c.ldrs.length != 2 || decide (200 < c.msgs.length)
def qq (c : Clu) : Int := if z0o c then 2 else orr [scan (q0c c) c.cons.length, scan (q2g c) c.shs.length, scan (y2p c) c.accs.length, scan (q2q c) c.ldrs.length, scan (z4g c) c.msgs.length]
theorem z5r {ls : List Leg} {x : Int} : x ∈ shF ls ↔ ∃ y ∈ ls, y.s = x := by
 unfold shF
 rw [y38]
 simp
theorem q4i {ls : List Leg} (h : 0 < ls.length) : ∃ y, (shF ls)[(shF ls).length - 1]? = some y ∧ 0 < (shF ls).length ∧ (∃ l ∈ ls, l.s = y) ∧ ∀ l ∈ ls, l.s ≤ y := by
 obtain ⟨l0, hl0⟩ := gx h
 have hm : l0.s ∈ shF ls := z5r.2 ⟨l0, List.mem_of_getElem? hl0, rfl⟩
 have hp : 0 < (shF ls).length := List.length_pos_of_mem hm
 obtain ⟨y, hy⟩ := gx (xs := shF ls) (i := (shF ls).length - 1) (by omega)
 refine ⟨y, hy, hp, z5r.1 (List.mem_of_getElem? hy), fun l hl => ?_⟩
 obtain ⟨j, hj⟩ := List.mem_iff_getElem?.1 (z5r.2 ⟨l, hl, rfl⟩)
 obtain ⟨hj1, hj2⟩ := List.getElem?_eq_some_iff.1 hj
 obtain ⟨hy1, hy2⟩ := List.getElem?_eq_some_iff.1 hy
 rcases Nat.lt_or_ge j ((shF ls).length - 1) with h1 | h1
 · have := (List.pairwise_iff_getElem.1 (q6g ls)) j ((shF ls).length - 1) hj1 hy1 h1
   rw [hj2, hy2] at this
   omega
 · have e : j = (shF ls).length - 1 := by omega
   subst e
   rw [hj] at hy
   cases hy
   exact Int.le_refl _
theorem y8u {ls : List Leg} {y n : Int} (h0 : ∀ l ∈ ls, 0 ≤ l.s) (e : ∃ l ∈ ls, l.s = y) (hm : ∀ l ∈ ls, l.s ≤ y) : decide (y ≥ n) = ls.any fun l => !(within l.s 0 (n - 1)) := by
 rw [Bool.eq_iff_iff, decide_eq_true_eq, List.any_eq_true]
 constructor
 · intro h
   obtain ⟨l, hl, e⟩ := e
   exact ⟨l, hl, by simp [within]; omega⟩
 · rintro ⟨l, hl, h⟩
   have h1 := h0 l hl
   have h2 := hm l hl
   simp [within] at h
   omega
theorem qan {x : Con} (h : yq x = 0) : ∀ l ∈ x.legs, 0 ≤ l.s := fun l hl => by
 have := (q12 h).2.2 l hl
 have h1 := (Leg.y0g this).1
 omega
theorem q2z {x : Con} (h : yq x = 0) : 0 < x.legs.length ∧ x.legs.length ≤ 8 := by
 have := (q12 h).2.1
 omega
def q6t (x : Con) : Int := ((shF x.legs)[(shF x.legs).length - 1]?).getD 0
theorem q51 {x : Con} (h : yq x = 0) : (ints (shF x.legs))[(IntKind.i64.wrap (((ints (shF x.legs)).length : Int) - 1)).toNat]? = some [i64 (q6t x)] := by
 obtain ⟨y, hy, hp, _⟩ := q4i (q2z h).1
 have hl := y2g x.legs x.legs.length
 rw [List.take_length] at hl
 have := (q2z h).2
 rw [show (ints (shF x.legs)).length = (shF x.legs).length by simp]
 unfold q6t
 rw [hy]
 exact q19 (fun n => [i64 n]) hp (by omega) hy
theorem q7t {x : Con} (h : yq x = 0) : 0 ≤ IntKind.i64.wrap (((ints (shF x.legs)).length : Int) - 1) := by
 obtain ⟨y, hy, hp, _⟩ := q4i (q2z h).1
 have hl := y2g x.legs x.legs.length
 rw [List.take_length] at hl
 have := (q2z h).2
 rw [show (ints (shF x.legs)).length = (shF x.legs).length by simp]
 exact q0m hp (by omega)
theorem y7t {x : Con} (h : yq x = 0) (c : Clu) : qb6 c x = decide ((c.shs.length : Int) ≤ q6t x) := by
 unfold qb6
 obtain ⟨y, hy, hp, e, hm⟩ := q4i (q2z h).1
 rw [← y8u (qan h) (y := q6t x) (by unfold q6t; rw [hy]; exact e) (by unfold q6t; rw [hy]; exact hm)]
theorem q2v {s : Shd} (h : qp s = 0) : ∀ x ∈ s.held, yq x = 0 := by
 have : zr q0l s = 0 := by
  unfold qp q11 at h
  repeat' split at h
  all_goals first | omega | (simp_all; done)
 exact z4b this
theorem q4j {c : Clu} {i : Nat} {s : Shd} (h : qp s = 0) (hi : s.idx = i) : z9j c i s = if (s.votes.any fun m => !(q14 c.cons m.c i)) || (s.done.any fun m => !(q14 c.cons m.c i)) then 1 else if s.held.any (q3i c) then 1 else 0 := by
 unfold z9j
 rw [if_neg (by simpa using h), if_neg (by simpa using hi)]
theorem q7z : ∀ {l : List Int}, orr l = 0 → ∀ x ∈ l, x = 0
 | [], _, x, hx => by cases hx
 | y :: l, h, x, hx => by
   rw [orr] at h
   split at h
   · rename_i h1; exact absurd h h1
   · rename_i h1
     rcases List.mem_cons.1 hx with rfl | hx
     · simpa using h1
     · exact q7z h x hx
theorem y7f {c : Clu} (h : qq c = 0) : z0o c = false ∧ (∀ i, i < c.cons.length → q0c c i = 0) ∧ (∀ i, i < c.shs.length → q2g c i = 0) ∧ (∀ i, i < c.accs.length → y2p c i = 0) ∧ (∀ i, i < c.ldrs.length → q2q c i = 0) ∧ ∀ i, i < c.msgs.length → z4g c i = 0 := by
 unfold qq at h
 split at h
 · omega
 · rename_i hm
   have ha := q7z h
   exact ⟨by simpa using hm, fun i hi => z03 (ha _ (by simp)) i hi, fun i hi => z03 (ha _ (by simp)) i hi, fun i hi => z03 (ha _ (by simp)) i hi, fun i hi => z03 (ha _ (by simp)) i hi, fun i hi => z03 (ha _ (by simp)) i hi⟩
def y67 : Clu := ⟨[], [], [], [], []⟩
def Clu.wm (c : Clu) (ms : List Msg) : Clu := ⟨c.cons, c.shs, c.accs, c.ldrs, ms⟩
def told (c : Clu) : Int × Clu := if 200 < c.msgs.length then (2, y67) else (0, c)
def q4w {α : Type} (l : List α) (k : Int) : Option α := if 0 ≤ k then l[k.toNat]? else none
theorem z35 {α : Type} {l : List α} {k : Int} {x : α} (h : q4w l k = some x) : 0 ≤ k ∧ k < l.length ∧ l[k.toNat]? = some x := by
 unfold q4w at h
 split at h
 · obtain ⟨h1, _⟩ := List.getElem?_eq_some_iff.1 h
   exact ⟨by assumption, by omega, h⟩
 · cases h
theorem y7n {α : Type} {l : List α} {k : Int} (h : q4w l k = none) : ¬ (0 ≤ k ∧ k < l.length) := by
 unfold q4w at h
 split at h
 · have := List.getElem?_eq_none_iff.1 h; omega
 · omega
theorem y1u {α : Type} {l : List α} {k : Int} : within k 0 ((l.length : Int) - 1) = (q4w l k).isSome := by
 cases h : q4w l k with
 | none =>
   have := y7n h
   simp only [within, Option.isSome_none, Bool.and_eq_false_iff, decide_eq_false_iff_not]; omega
 | some x =>
   have := z35 h
   simp only [within, Option.isSome_some, Bool.and_eq_true, decide_eq_true_eq]; omega
def copyR (c : Clu) (k : Int) : Int × Clu := if qq c ≠ 0 then (qq c, y67) else match q4w c.msgs k with | none => (3, y67) | some m => told (c.wm (c.msgs ++ [m]))
def q1b (c : Clu) (k : Int) : Int × Clu := if qq c ≠ 0 then (qq c, y67) else match q4w c.msgs k with | none => (3, y67) | some _ => (0, c.wm (c.msgs.take k.toNat ++ c.msgs.drop (k.toNat + 1)))
theorem q67 {c : Clu} (h : qq c = 0) : c.msgs.length ≤ 200 ∧ c.accs.length ≤ 5 ∧ c.cons.length ≤ 20 := by
 have := (y7f h).1
 simp only [z0o, Bool.or_eq_false_iff, decide_eq_false_iff_not, within, Bool.not_eq_false', Bool.and_eq_true, decide_eq_true_eq] at this
 omega
end Go.Sx
end
